/- Printed by a program of ours: each Go function computes its Lean function. -/
import Derived.Test.YtedmfnmbjglmbaaGreatProg
import Derived.Test.YtedmfnmbjglmbaaGreatWSetsWalk1
namespace Go.Proofs.YtedmfnmbjglmbaaGreat
open Eng Tryz
open Go.RowKit (Below)
set_option linter.unusedVariables false
set_option linter.unusedSimpArgs false

set_option maxRecDepth 100000
set_option maxHeartbeats 1000000
variable {a e:Hp} {f o j ar l ck b0 pv2_1 b5 n t a6 p g:Value} {ad b6 b7 c0 c3 c9 cf ca b9 cb c8 c7 aE b8 pG1:List Nat} (N:Nat)
theorem xG (w0:av a e []) (b:ag) (k:RSl bj 3 a ad f b.Items) {r:Bool} (h:nH N b=some r) :
  CB w0 prog 41 [.agg [f,iV b.Next].toArray] (.bool r):=by
 refine eN func41 J ntmps41 J w0 fun y=>?_
 unfold nH at h
 refine sr<|lbx J fun c=>arr 7 [0,0] J<|lnr k J<|arr 2 [] J ?_
 obtain⟨O,w,h⟩:=bs h
 refine WL.cutN 5 [(16,.bool O),(1,pQ c)] ?_ (fun K=>?_)
 rotate_left
 ·refine sp 11 w J (fun w=>?_) fun w=>?_
  ·refine arr 5 [] J ?_
   cases w
   exact ku K
  ·refine arr 2 [1,0] J<|ly J J<|qc w (d5 N · b.Next 1 1000000 ·) J J J fun x1 w=>arr 2 [] J ?_
   cases w
   exact ku K
 refine en ?_
 refine ch h J ?_ ?_ <;> intro h
 ·refine att 4 [] J ?_
  exact rt y h
 refine atr 6 [0,0] J<|lnr k J<|art 3 [] J ?_
 refine lin (σ:=Int) (fun s=>[(1,pQ c),(18,f),(19,iV (b.Items.length:Int)),(20,iV s)]) (fun s=>St w0 e [(c,.cells #[f,iV b.Next] 29 (0,0))] []) (fun m s=>d4 N b m s=some r) (0) N h (sx [] [0]) (fun A P s hm=>?_)
 revert hm;revert s;intro s1 hm
 have h:d4 N b (A+1) s1=some r:=hm
 show WT _ _ [(1,pQ c),(18,f),(19,iV (b.Items.length:Int)),(20,iV s1)] (St w0 e [(c,.cells #[f,iV b.Next] 29 (0,0))] [])
 unfold d4 at h
 refine att 5 [] J ?_
 refine ch h J ?_ ?_ <;> intro h
 ·refine atr 6 [] J ?_
  obtain⟨i,F,h⟩:=bs h
  obtain⟨a8,F1,-,g1,ab,af,Q⟩:=k.el (aa F).2.2
  obtain⟨v1,G1,rfl,R,h1⟩:=Q
  obtain rfl:=R.symm
  refine lia k F J<|lhx 0 3 g1 J<|lnz tN J fun x=>la J<|soN 0 zL J ⟨J,J,h1.one,trivial⟩ J ?_
  refine art 3 [] J<|WT.draw mixed MA (fun _ h=>h.drew)<|aqq 2 [1,2] J ?_
  obtain⟨x3,S,h⟩:=bs h
  refine qp (cK Ji J (fun G hw=>ze N (ba hw.in0) i.F h1 S)) J<|aqq 2 [] J ?_
  obtain⟨T,q,h⟩:=bs h
  refine WQ.cutN 8 [(37,.bool T),(1,pQ c),(3,iV s1),(4,pQ x),(18,f),(19,iV (b.Items.length:Int)),(20,iV s1)] ?_ (fun K=>?_)
  rotate_left
  ·refine WQ.split (d:=29) J (fun B=>?_) (fun B=>?_)
   ·replace q:=fR q B
    refine aqq 8 [] J ?_
    cases q
    exact kq K
   ·replace q:=fO q B
    refine aqq 5 [0,0,1,32] J<|WQ.yes J J ?_
    obtain⟨x4,U,q⟩:=bs q
    refine qp (cK JT J (fun G hw=>d5 N (ba hw.fro) i.Id 1 (wz (b.Next - 1)) U)) J<|aqq 2 [] J ?_
    cases q
    exact kq K
  refine qq (de J) J ?_
  obtain⟨V,u,h⟩:=bs h
  refine WQ.cutN 15 [(53,.bool V),(1,pQ c),(3,iV s1),(4,pQ x),(18,f),(19,iV (b.Items.length:Int)),(20,iV s1)] ?_ (fun K=>?_)
  rotate_left
  ·refine WQ.split (d:=38) J (fun C=>?_) (fun C=>?_)
   ·replace u:=fR u C
    refine aqq 15 [] J ?_
    cases u
    exact kq K
   ·replace u:=fO u C
    refine aqq 3 [] J ?_
    obtain⟨W,v,u⟩:=bs u
    refine WQ.cutN 11 [(52,.bool W),(1,pQ c),(3,iV s1),(4,pQ x),(18,f),(19,iV (b.Items.length:Int)),(20,iV s1),(38,.bool false)] ?_ (fun K=>?_)
    rotate_left
    ·refine WQ.split (d:=41) J (fun D=>?_) (fun D=>?_)
     ·replace v:=fR v D
      refine aqq 6 [0,0,0,32] J<|WQ.yes J J ?_
      obtain⟨X,H,v⟩:=bs v
      obtain⟨ah,F2,-,g2,ai,aj,Y⟩:=k.el (aa H).2.2
      obtain⟨v2,G2,rfl,Z,h2⟩:=Y
      obtain rfl:=Z.symm
      refine qq (ae lL J J k H) J<|WQ.yes J J<|qq (ak sZ J) J<|WQ.yes J J<|qq (az rd J (fun G hw=>(g2.of_eq 0 1 J J:rg _ _ _ [iV X.Id]).rangeAt hw.in0)) J<|aqq 2 [] J ?_
      cases v
      exact kq K
     ·replace v:=fO v D
      refine aqq 11 [] J ?_
      cases v
      exact kq K
    refine WQ.q (qh J J) J J J ?_
    cases u
    exact kq K
  refine WQ.nil ?_
  refine ch h J ?_ ?_ <;> intro h
  ·refine att 4 [] J ?_
   exact rt y h
  refine atr 6 [0,32] J ?_
  obtain⟨z,I,h⟩:=bs h
  refine lq (zt lL J J k I) J ?_
  obtain⟨F3,E,al⟩:=k.sub I
  refine lnr E J<|art 3 [] J ?_
  refine lin (σ:=Int) (fun s=>[(1,pQ c),(4,pQ x),(18,f),(19,iV (b.Items.length:Int)),(20,iV s1),(57,(slc f (0:Int).toNat s1.toNat 3)),(58,iV (z.length:Int)),(59,iV s)]) (fun s=>St w0 e [(x,.cells #[iV i.Id,.string i.F.Kind,v1] 66 (0,0)),(c,.cells #[f,iV b.Next] 29 (0,0))] []) (fun m s=>eu N s1 (d4 N b A) i z m s=some r) (0) N h (sx [] [0,0]) (fun n2 a1 s hm=>?_)
  revert hm;revert s;intro s2 hm
  have h:eu N s1 (d4 N b A) i z (n2+1) s2=some r:=hm
  show WT _ _ [(1,pQ c),(4,pQ x),(18,f),(19,iV (b.Items.length:Int)),(20,iV s1),(57,(slc f (0:Int).toNat s1.toNat 3)),(58,iV (z.length:Int)),(59,iV s2)] (St w0 e [(x,.cells #[iV i.Id,.string i.F.Kind,v1] 66 (0,0)),(c,.cells #[f,iV b.Next] 29 (0,0))] [])
  unfold eu at h
  refine att 5 [] J ?_
  refine ch h J ?_ ?_ <;> intro h
  ·refine atr 5 [] J ?_
   obtain⟨x7,L,h⟩:=bs h
   obtain⟨an,F4,-,g3,ao,aq,r3⟩:=E.el (aa L).2.2
   obtain⟨v3,G3,rfl,a7,M⟩:=r3
   obtain rfl:=a7.symm
   refine lia E L J<|lhx 0 3 g3 J<|lnz tN J fun au=>soN 0 zL J ⟨J,J,M.one,trivial⟩ J ?_
   refine arr 7 [1,34,1,2] J<|qd h (wH N · i.F x7.F h1 M ·) J J J fun x8 h=>en ?_
   refine ch h J ?_ ?_ <;> intro h
   ·refine att 4 [] J ?_
    exact rt y h
   refine att 6 [] J ?_
   exact lb [] [1,1] (a1 _ h)
  refine att 6 [] J ?_
  exact lb [] [1] (P _ h)
 refine att 5 [] J ?_
 exact rt y h
theorem pg (w0:av a e []) (i:(List bi)) (k:RSl aX 3 a b6 o i) {r:(List bi)} (h:fF N i=some r) :
  Calls prog 196 [o].toArray w0.w (be e w0.w [] (fun q Fs v=>∃ (b:Value),v=b∧Fs=[ob b]∧OSl aX 95 3 q [] b r)):=by
 refine eN func196 J ntmps196 J w0 fun m=>?_
 unfold fF at h
 refine att 6 [] J ?_
 rcases RSl.nilOr k with ⟨s,u,d⟩ | ⟨A,u,d⟩
 ·replace h:some []=some r:=by simpa[s,app] using h
  refine atr 2 [] J<|lq (mY iB (congrArg some d) J) J<|en ?_
  refine cd J (fun c=>?_) (fun c=>by simp at c)
  refine att 4 [] J ?_
  refine WT.ret m (aA.one J) (fun w hw=>?_)
  cases h
  replace hw:=hw.addNil
  refine aW (js:=[0]) hw J ⟨.slice none 0 0,J,J,OSl.nil _ _ _ _⟩
 refine atr 2 [] J<|lq (mY iB (congrArg some d) J) J<|en ?_
 refine cd J (fun c=>by simp at c) (fun c=>?_)
 refine atr 3 [] J<|le' (cO aX.lasts iB jF J J) J ?_
 rintro v1 B C ⟨D,h1⟩
 refine la J<|lu0 k fun x=>?_
 obtain⟨E,y,h⟩:=bs h
 refine le' (bg aX.lasts aX.one aX.flat iB C8 J J J J J (js:=[0]) (Rr:=[]) J h1 x y) J ?_
 rintro v2 F G ⟨⟨H,I⟩,z⟩
 refine la J<|en ?_
 exact rtg [0] m (aA.one J) J (by cases h;exact fun w hw=>⟨v2,rfl,rfl,z⟩)
theorem wA (w0:av a e []) (b:aH) (k:RSl aX 3 a ad f b.Fields) {r:aH} (h:mb N b=some r) :
  Calls prog 127 [.agg [.string b.Kind,f].toArray].toArray w0.w (be e w0.w [] (fun m Fs v=>∃ (c:Value),v = .agg [.string r.Kind,c].toArray∧Fs=[ob c]∧OSl aX 95 3 m [] c r.Fields)):=by
 refine eN func127 J ntmps127 J w0 fun q=>?_
 unfold mb at h
 refine sr<|lbx J fun u=>lnz mr J fun w=>en<|sq<|wm [0,1] [6] J<|amm 4 [0,0,1,32,2,1,3,32] [0,1] J J ?_
 obtain⟨x,s,h⟩:=bs h
 refine WM.one 4 MA (mc J (fun _ v y D d z hw=>Kn.of Kf.nil (ai2 0 1 J J) hw) (bt (js:=[]) (R:=[]) HT J J (fun d hw ap A=>pg N (ba hw.fro) b.Fields (k.y hw.up)  s)) J ?_)
 rintro v1 B E ⟨F,G,v2,rfl,rfl,h1⟩
 refine mq 5 J MA (kN [0,1]) (aU (vs:=[(0,.string b.Kind),(1,v1)]) (C:=#[.string b.Kind,v1]) E9 mr J (a7 (C':=[.string b.Kind,.slice none 0 0]) J J J J J (a7 (C':=[.string b.Kind,v1]) J (bh h1.one) J J J (ab)))) J ?_
 refine on1 6 (msN 0 J nk o9 J ⟨J,h1.one,trivial⟩ J J ?_)
 refine WM.nil MA ?_
 exact rtg [0] q (aA.one (aZ nT J (fun d hw=>hw.rgO (i:=0) J 0 2 [.string b.Kind,v1] J) J)) J (by cases h;exact fun d hw=>⟨v1,rfl,rfl,h1⟩)
theorem qC (w0:av a e []) (c:ag) (d:Int) (u:RSl bj 3 a ad f c.Items) {r:aH × Bool} (h:l9 N c d=some r) :
  Calls prog 131 [.agg [f,iV c.Next].toArray,iV d].toArray w0.w (be e w0.w [] (fun D Fs v=>∃ (w:Value),v = .tuple #[.agg [.string r.1.Kind,w].toArray,.bool r.2]∧Fs=[ob w]∧OSl aX 95 3 D [] w r.1.Fields)):=by
 refine eN func131 J ntmps131 J w0 fun y=>?_
 unfold l9 at h
 refine sr<|lbx J fun L=>lnz mr J fun k=>arr 7 [0,32] J<|lnr u J<|art 3 [] J ?_
 refine lin (σ:=Int) (fun s=>[(1,iV d),(4,pQ k),(9,f),(10,iV (c.Items.length:Int)),(11,iV s)]) (fun s=>St w0 e [(k,.cells #[.string (⟨#[]⟩:ByteArray),.slice none 0 0] 52 (0,0))] []) (fun m s=>fW N c d m s=some r) (0) N h (sx [] [0]) (fun E F s hm=>?_)
 revert hm;revert s;intro s1 hm
 have h:fW N c d (E+1) s1=some r:=hm
 show WT _ _ [(1,iV d),(4,pQ k),(9,f),(10,iV (c.Items.length:Int)),(11,iV s1)] (St w0 e [(k,.cells #[.string (⟨#[]⟩:ByteArray),.slice none 0 0] 52 (0,0))] [])
 unfold fW at h
 refine att 5 [] J ?_
 refine ch h J ?_ ?_ <;> intro h
 ·refine atr 5 [] J ?_
  obtain⟨G,A,h⟩:=bs h
  obtain⟨M,O,-,g1,P,Q,H⟩:=u.el (aa A).2.2
  obtain⟨v1,R,rfl,I,h1⟩:=H
  obtain rfl:=I.symm
  refine lia u A J<|lhx 0 3 g1 J<|lnz tN J fun S=>soN 0 zL J ⟨J,J,h1.one,trivial⟩ J ?_
  refine art 8 [0,0] J ?_
  refine ch h J ?_ ?_ <;> intro h
  ·refine atr 4 [1,2] J<|kab h J J J (fun b z q=>wA N b G.F (h1.y z) q) ?_
   rintro K h v2 T U ⟨V,W,v3,rfl,rfl,B⟩
   refine soN 1 o9 J ⟨J,B.one,trivial⟩ J ?_
   refine la J<|en ?_
   exact rtg [0] y (aA.two (aZ nT J (fun x hw=>hw.rgO (i:=1) J 0 2 [.string K.Kind,v3] J) J) J) J (by cases h;exact fun x hw=>⟨v3,rfl,rfl,B⟩)
  refine att 6 [] J ?_
  exact lb [] [1] (F _ h)
 refine xt J<|sr<|lq (aU (vs:=[]) (C:=#[.string (⟨#[]⟩:ByteArray),.slice none 0 0]) E9 mr J (ab)) J<|soN 0 o9 J ⟨J,J,trivial⟩ J ?_
 refine la J<|en ?_
 refine WT.ret y (aA.two (aZ nT J (fun x hw=>hw.rgO (i:=0) J 0 2 [.string (⟨#[]⟩:ByteArray),.slice none 0 0] J) J) J) (fun x hw=>?_)
 cases h
 replace hw:=hw.addNil
 refine aW (js:=[0]) hw J ⟨.slice none 0 0,J,J,OSl.nil _ _ _ _⟩
theorem yY (w0:av a e []) (b:ax) (q:aH) (A:RSl aX 3 a ad f b.Consts) (B:RSl (RI .i64) 1 a b7 j b.At) (x:RSl aX 3 a c0 ar q.Fields) {r:Bool} (h:pq N b q=some r) :
  CB w0 prog 132 [.agg [.string b.Kind,iV b.N,f,j].toArray,.agg [.string q.Kind,ar].toArray] (.bool r):=by
 refine eN func132 J ntmps132 J w0 fun C=>?_
 unfold pq at h
 refine sr<|lbx J fun i=>lbx J fun k=>arr 11 [0,0,0,32] J ?_
 obtain⟨M,w,h⟩:=bs h
 refine WL.cutN 7 [(19,.bool M),(2,pQ i),(3,pQ k)] ?_ (fun K=>?_)
 rotate_left
 ·refine sp 12 w J (fun w=>?_) fun w=>?_
  ·refine arr 7 [] J ?_
   cases w
   exact ku K
  ·refine arr 2 [1,0] J<|ly J J<|lnr x J<|arr 4 [1,32] J ?_
   cases w
   exact ku K
 refine en ?_
 refine ch h J ?_ ?_ <;> intro h
 ·refine att 4 [] J ?_
  exact rt C h
 refine atr 6 [3,32] J<|lnr B J<|art 3 [] J ?_
 refine lin (σ:=Int) (fun s=>[(2,pQ i),(3,pQ k),(21,j),(22,iV (b.At.length:Int)),(23,iV s)]) (fun s=>St w0 e [(k,.cells #[.string q.Kind,ar] 52 (0,0)),(i,.cells #[.string b.Kind,iV b.N,f,j] 137 (0,0))] []) (fun m s=>ip N b q m s=some r) (0) N h (sx [] [0,0]) (fun O P s hm=>?_)
 revert hm;revert s;intro s1 hm
 have h:ip N b q (O+1) s1=some r:=hm
 show WT _ _ [(2,pQ i),(3,pQ k),(21,j),(22,iV (b.At.length:Int)),(23,iV s1)] (St w0 e [(k,.cells #[.string q.Kind,ar] 52 (0,0)),(i,.cells #[.string b.Kind,iV b.N,f,j] 137 (0,0))] [])
 unfold ip at h
 refine att 5 [] J ?_
 refine ch h J ?_ ?_ <;> intro h
 ·refine atr 6 [] J ?_
  obtain⟨G,H,h⟩:=bs h
  obtain⟨X,Y,-,g1,Z,a1,Q⟩:=B.el (aa H).2.2
  obtain⟨rfl,-⟩:=Q
  refine lia B H J<|lhx 0 0 g1 J<|art 4 [] J<|WT.draw mixed MA (fun _ h=>h.drew)<|aqq 3 [] J ?_
  obtain⟨R,u,h⟩:=bs h
  refine WQ.cutN 6 [(36,.bool R),(2,pQ i),(3,pQ k),(5,iV s1),(6,iV G),(21,j),(22,iV (b.At.length:Int)),(23,iV s1)] ?_ (fun K=>?_)
  rotate_left
  ·refine WQ.split (d:=30) J (fun D=>?_) (fun D=>?_)
   ·replace u:=fR u D
    refine aqq 6 [] J ?_
    cases u
    exact kq K
   ·replace u:=fO u D
    refine aqq 3 [1,0] J<|WQ.yes J J<|qq (mF iB J J x) J<|aqq 2 [] J ?_
    cases u
    exact kq K
  refine qq (de J) J ?_
  obtain⟨S,v,h⟩:=bs h
  refine WQ.cutN 6 [(43,.bool S),(2,pQ i),(3,pQ k),(5,iV s1),(6,iV G),(21,j),(22,iV (b.At.length:Int)),(23,iV s1)] ?_ (fun K=>?_)
  rotate_left
  ·refine WQ.split (d:=37) J (fun E=>?_) (fun E=>?_)
   ·replace v:=fR v E
    refine aqq 6 [] J ?_
    cases v
    exact kq K
   ·replace v:=fO v E
    refine aqq 3 [2,32] J<|WQ.yes J J<|qq (mF iB J J A) J<|aqq 2 [] J ?_
    cases v
    exact kq K
  refine qq (de J) J ?_
  obtain⟨T,c,h⟩:=bs h
  refine WQ.cutN 12 [(56,.bool T),(2,pQ i),(3,pQ k),(21,j),(22,iV (b.At.length:Int)),(23,iV s1)] ?_ (fun K=>?_)
  rotate_left
  ·refine WQ.split (d:=44) J (fun F=>?_) (fun F=>?_)
   ·replace c:=fR c F
    refine aqq 12 [] J ?_
    cases c
    exact kq K
   ·replace c:=fO c F
    refine aqq 3 [1,0] J<|WQ.yes J J ?_
    obtain⟨y,I,c⟩:=bs c
    obtain⟨a7,F2,-,g2,a8,ab,U⟩:=x.el (aa I).2.2
    obtain⟨rfl,-⟩:=U
    refine qq (ae iB J J x I) J<|WQ.yes J J<|qq (aC kM J (fun V hw=>(g2.of_eq 0 3 J J:rg _ _ _ [iV y.K,iV y.N,.string y.S]).rangeAt hw.in0) J) J<|aqq 3 [2,32] J<|WQ.yes J J ?_
    obtain⟨z,L,c⟩:=bs c
    obtain⟨af,F3,-,g3,ag,ah,W⟩:=A.el (aa L).2.2
    obtain⟨rfl,-⟩:=W
    refine qq (ae iB J J A L) J<|WQ.yes J J<|qq (aC kM J (fun V hw=>(g3.of_eq 0 3 J J:rg _ _ _ [iV z.K,iV z.N,.string z.S]).rangeAt hw.in0) J) J<|WQ.yes J J<|qq (sW mT J J J (r:=bq y z) J) J<|WQ.q (qh J J) J J J ?_
    cases c
    exact kq K
  refine WQ.nil ?_
  refine ch h J ?_ ?_ <;> intro h
  ·refine att 4 [] J ?_
   exact rt C h
  refine att 6 [] J ?_
  exact lb [] [0,0] (P _ h)
 refine att 5 [] J ?_
 exact rt C h
theorem w9 (w0:av a e []) (d:ai) (x:Bool) (q:RSl bN 3 a ad f d.Pats) (V:RSl bl 11 a b7 j d.Conds) (W:RSl dK 5 a c3 l d.Acts) {r:(List au)} (h:rj N d x=some r) :
  Calls prog 115 [.agg [.string d.Name,iV d.Sal,f,j,l].toArray,.bool x].toArray w0.w (be e w0.w [] (fun G Fs v=>∃ (y:Value) (A:List Nat),v=y∧Fs=[ob y]∧OSl bN 201 3 G A y r∧(∀ k∈A,k∈ad))):=by
 refine eN func115 J ntmps115 J w0 fun H=>?_
 unfold rj at h
 refine sr<|lbx J fun X=>arr 11 [2,0] J<|lnr q J<|art 3 [] J<|wtS ?_
 have I:=OSl.nil bN 201 3 e
 refine lin (σ:=Hp × (List au) × Value × List Nat × Int) (fun s=>[(1,.bool x),(5,s.2.2.1),(9,f),(10,iV (d.Pats.length:Int)),(11,iV s.2.2.2.2)]) (fun s=>St w0 s.1 [] [ob s.2.2.1]) (fun m s=>iQ N d x m s.2.1 s.2.2.2.2=some r∧(OSl bN 201 3 s.1 s.2.2.2.1 s.2.2.1 s.2.1)∧(∀ k∈s.2.2.2.1,k∈ad)) (e,([]:List au),(.slice none 0 0),[],0) N ⟨h,I,MC⟩ (sx [0] []) (fun Y B s hm=>?_)
 obtain⟨K,s1,L,M,s2⟩:=s
 obtain⟨h,i,u⟩:=hm
 dsimp only at h i u ⊢
 unfold iQ at h
 refine att 5 [] J ?_
 refine ch h J ?_ ?_ <;> intro h
 ·refine atr 5 [] J ?_
  obtain⟨b,D,h⟩:=bs h
  obtain⟨Z,F1,-,g1,a1,E,O⟩:=q.el (aa D).2.2
  obtain⟨v1,w,rfl,P,h1⟩:=O
  obtain rfl:=P.symm
  refine lia q D J<|lhx 0 3 g1 J<|lnz jB J fun a8=>soN 0 o1 J ⟨J,h1.one,J,trivial⟩ J ?_
  refine arr 6 [2,0] J<|lq (Fv Iz J J) J<|en ?_
  refine ch h J ?_ ?_ <;> intro h
  ·refine atr 3 [3] J<|lu0 h1 fun Q=>?_
   have F:RC bN 3 K ([w]:List (List Nat)) [.string b.Kind,v1,.bool b.Not] ([b]:List au):=RC.cons (c:=[.string b.Kind,v1,.bool b.Not]) (cells:=[]) ⟨v1,w,J,J,Q⟩ J (RC.nil _ _ _)
   refine le' (aQ (vs:=[(0,.agg [.string b.Kind,v1,.bool b.Not].toArray)]) (C:=#[.string b.Kind,v1,.bool b.Not]) bN.lasts og jB J J J J (ac vi (a7 (C':=[.string b.Kind,v1,.bool b.Not]) J J J J J (ab))) J F J (RC.kn bN.knows F)) J ?_
   rintro v2 R D2 ⟨S,z⟩
   replace z:OSl bN 201 3 R (w) v2 ([b]:List au):=by simpa[gk] using z
   replace i:=i.f0 S
   obtain⟨x2,T,h⟩:=bs h
   refine le' (cq bN.lasts bN.one og yk J J J J J (js:=[1]) (Rr:=[ob v2]) J i z (fun ap=>(Dj.sub (ap.o q.old) u)) (fun ap=>(Dj.sub (Dj.sub (ap.o q.old) (fun k h=>E k h)) (fun k hk=>(by simpa[gk] using hk:k∈w)))) T) J ?_
   rintro v3 ae D3 ⟨⟨af,ag⟩,U⟩
   refine art 7 [] J ?_
   exact lb [0] [] (B (_,_,_,_,_) ⟨h,U,(fun k hk=>((gb.1 hk).elim (fun h=>(u k h)) (fun h=>((fun k h=>E k h) k ((fun k hk=>(by simpa[gk] using hk:k∈w)) k h)))))⟩)
  refine att 6 [] J ?_
  exact lb [0] [] (B (_,_,_,_,_) ⟨h,i,(fun k hk=>(u k hk))⟩)
 refine att 6 [] J ?_
 exact rtg [0] H (aA.one J) J (by cases h;exact fun w1 hw=>⟨L,M,rfl,rfl,i,(fun k hk=>(u k hk))⟩)
theorem wD (w0:av a e []) (u:bo) (E:bO) (F:aI) (c:ag) (d:Int) (G:Int) (H:RSl cr 5 a ad f u.Rules) (I:RSl fC 2 a c9 ck E.Chains) (w:RSl iv 1 a cf b0 F.Alphas) (K:RSl bj 3 a ca b5 c.Items) {r:cQ} (h:oq N u E F c d G=some r) :
  Calls prog 133 [.agg [.string u.Name,f].toArray,.agg [ar,ck].toArray,.agg [b0,pv2_1].toArray,.agg [b5,iV c.Next].toArray,iV d,iV G].toArray w0.w (be e w0.w [] (fun m Fs v=>∃ (x:Value) (L:List Nat) (y:Value) (M:List Nat) (O:Value) (P:List Nat) (Q:Value) (S:List Nat) (T:Value) (U:List Nat) (V:Value) (W:List Nat),v = .agg [x,y,O,Q,T,V,iV r.s.Next,iV r.id].toArray∧Fs=[ob x,ob y]∧OSl bN 201 3 m L x r.pos∧(∀ k∈L,k∈ad)∧OSl bN 201 3 m M y r.neg∧(∀ k∈M,k∈ad)∧RSl (RI .i64) 1 m P O r.chain.Pos∧(∀ k∈P,k∈c9)∧RSl (RI .i64) 1 m S Q r.chain.Neg∧(∀ k∈S,k∈c9)∧RSl iv 1 m U T r.alphas∧(∀ k∈U,k∈cf)∧RSl bj 3 m W V r.s.Items∧(∀ k∈W,k∈ca))):=by
 refine eN func133 J ntmps133 J w0 fun hF=>?_
 unfold oq at h
 refine sr<|lbx J fun al=>lbx J fun an=>lbx J fun ao=>lbx J fun aq=>lnz Dc J fun au=>arr 6 [1,128] J ?_
 obtain⟨X,Y,h⟩:=bs h
 obtain⟨aw,F1,-,g1,ax,Z,r1⟩:=H.el (aa Y).2.2
 obtain⟨v1,G1,v2,G2,v3,G3,rfl,rfl,h1,z,A⟩:=r1
 refine lia H Y J<|lhx 0 5 g1 J<|lnz sU J fun ay=>soN 0 tZ J ⟨J,J,h1.one,z.one,A.one,trivial⟩ J ?_
 refine en<|sq<|wm [0,1,2,3,4,5] [14] J<|amm 5 [0,5,2,5,4,1,5,128,6] [0,1,2,3,4,5] J J ?_
 obtain⟨x2,a1,h⟩:=bs h
 obtain⟨az,F2,-,g2,aB,a8,r2⟩:=I.el (aa a1).2.2
 obtain⟨v4,G4,v5,G5,rfl,rfl,h4,h5⟩:=r2
 refine mq 7 J MA (kN [0,1,2,3,4,5]) (ae A4 J J I a1) J<|mq 8 J MA (kN [0,1,2,3,4,5]) (aC Fp J (fun q hw=>(g2.of_eq 0 2 J J:rg _ _ _ [v4,v5]).rangeAt hw.1) J) J<|amm 4 [9,0,10,96,11,66,12] [0,1,2,3,4,5] J J ?_
 obtain⟨x3,ah,h⟩:=bs h
 refine WM.one 1 MA (mc J (fun _ v ai D q hq hw=>Kn.of Kf.nil (am [0,1,2,3,4,5] J) hw) (bt (js:=[]) (R:=[]) DH J J (fun q hw ap hl=>w9 N (ba hw.fro) X false (h1.y hw.up) (z.y hw.up) (A.y hw.up)  ah)) J ?_)
 rintro v6 aD F3 ⟨aF,aG,v7,D1,rfl,rfl,s,i1⟩
 obtain⟨x4,aj,h⟩:=bs h
 refine WM.one 3 MA (mc J (fun _ v ai D q hq hw=>Kn.of Kf.nil (am [0,1,2,3,4,5] J) hw) (bt (js:=[]) (R:=[ob v6]) DH J J (fun q hw ap hl=>w9 N (ba hw.fro) X true (h1.y hw.up) (z.y hw.up) (A.y hw.up)  aj)) J ?_)
 rintro b aH F4 ⟨af,ak,v9,D2,rfl,rfl,B,i2⟩
 replace s:=s.fr ak (af.q 0 J) (Dj.sub (af.o h1.old) i1)
 refine mq 13 J MA (kN [0,1,2,3,4,5]) (aU (vs:=[(0,v6),(1,b),(2,.agg [v4,v5].toArray),(3,b0),(4,.agg [b5,iV c.Next].toArray),(5,iV d)]) (C:=#[v6,b,v4,v5,b0,b5,iV c.Next,iV d]) Ku Dc J (a7 (C':=[v6,.slice none 0 0,.slice none 0 0,.slice none 0 0,.slice none 0 0,.slice none 0 0,iV 0,iV 0]) J (bh s.one) J J J (a7 (C':=[v6,b,.slice none 0 0,.slice none 0 0,.slice none 0 0,.slice none 0 0,iV 0,iV 0]) J (bh B.one) J J J (a7 (C':=[v6,b,v4,v5,.slice none 0 0,.slice none 0 0,iV 0,iV 0]) J J J J J (a7 (C':=[v6,b,v4,v5,b0,.slice none 0 0,iV 0,iV 0]) J (bh w.one) J J J (a7 (C':=[v6,b,v4,v5,b0,b5,iV c.Next,iV 0]) J J J J J (a7 (C':=[v6,b,v4,v5,b0,b5,iV c.Next,iV d]) J J J J J (ab)))))))) J ?_
 refine on1 14 (msN 1 J nk Hc J ⟨s.one,B.one,h4.one,h5.one,w.one,K.one,J,J,trivial⟩ J J ?_)
 refine WM.nil MA ?_
 exact rtg [1,0] hF (aA.one (aZ Gm J (fun q hw=>hw.rgO (i:=1) J 0 8 [v6,b,v4,v5,b0,b5,iV c.Next,iV d] J) J)) J (by cases h;exact fun q hw=>⟨v6,D1,b,D2,v4,G4,v5,G5,b0,cf,b5,ca,rfl,rfl,s,(fun k hk=>((fun k h=>Z k (gb.2 (.inl h))) k (i1 k hk))),B,(fun k hk=>((fun k h=>Z k (gb.2 (.inl h))) k (i2 k hk))),(h4.y hw.up),(fun k hk=>((fun k h=>a8 k (gb.2 (.inl h))) k hk)),(h5.y hw.up),(fun k hk=>((fun k h=>a8 k (gb.2 (.inr h))) k hk)),(w.y hw.up),(fun k hk=>hk),(K.y hw.up),(fun k hk=>hk)⟩)
theorem dE (w0:av a e []) (i:(List aq)) (k:RSl aB 4 a b6 o i) {r:(List aq)} (h:bL N i=some r) :
  Calls prog 222 [o].toArray w0.w (be e w0.w [] (fun q Fs v=>∃ (b:Value),v=b∧Fs=[ob b]∧OSl aB 97 4 q [] b r)):=by
 refine eN func222 J ntmps222 J w0 fun m=>?_
 unfold bL at h
 refine att 6 [] J ?_
 rcases RSl.nilOr k with ⟨s,u,d⟩ | ⟨A,u,d⟩
 ·replace h:some []=some r:=by simpa[s,app] using h
  refine atr 2 [] J<|lq (mY gJ (congrArg some d) J) J<|en ?_
  refine cd J (fun c=>?_) (fun c=>by simp at c)
  refine att 4 [] J ?_
  refine WT.ret m (aA.one J) (fun w hw=>?_)
  cases h
  replace hw:=hw.addNil
  refine aW (js:=[0]) hw J ⟨.slice none 0 0,J,J,OSl.nil _ _ _ _⟩
 refine atr 2 [] J<|lq (mY gJ (congrArg some d) J) J<|en ?_
 refine cd J (fun c=>by simp at c) (fun c=>?_)
 refine atr 3 [] J<|le' (cO aB.lasts gJ oe J J) J ?_
 rintro v1 B C ⟨D,h1⟩
 refine la J<|lu0 k fun x=>?_
 obtain⟨E,y,h⟩:=bs h
 refine le' (bg aB.lasts aB.one aB.flat gJ sV J J J J J (js:=[0]) (Rr:=[]) J h1 x y) J ?_
 rintro v2 F G ⟨⟨H,I⟩,z⟩
 refine la J<|en ?_
 exact rtg [0] m (aA.one J) J (by cases h;exact fun w hw=>⟨v2,rfl,rfl,z⟩)
theorem yW (w0:av a e []) (b:(List aq)) (c:ByteArray) (k:RSl aB 4 a b6 o b) {r:bi × Bool} (h:pL N b c=some r) :
  CB w0 prog 223 [o,.string c] (.tuple #[.agg [iV r.1.K,iV r.1.N,.string r.1.S].toArray,.bool r.2]):=by
 refine eN func223 J ntmps223 J w0 fun v=>?_
 unfold pL at h
 refine sr<|lnz jF J fun d=>arr 6 [] J<|lnr k J<|art 3 [] J ?_
 refine lin (σ:=Int) (fun s=>[(1,.string c),(4,pQ d),(8,o),(9,iV (b.length:Int)),(10,iV s)]) (fun s=>St w0 e [(d,.cells #[iV 0,iV 0,.string (⟨#[]⟩:ByteArray)] 95 (0,0))] []) (fun m s=>ik N b c m s=some r) (0) N h (sx [] [0]) (fun x y s hm=>?_)
 revert hm;revert s;intro s1 hm
 have h:ik N b c (x+1) s1=some r:=hm
 show WT _ _ [(1,.string c),(4,pQ d),(8,o),(9,iV (b.length:Int)),(10,iV s1)] (St w0 e [(d,.cells #[iV 0,iV 0,.string (⟨#[]⟩:ByteArray)] 95 (0,0))] [])
 unfold ik at h
 refine att 5 [] J ?_
 refine ch h J ?_ ?_ <;> intro h
 ·refine atr 5 [] J ?_
  obtain⟨q,w,h⟩:=bs h
  obtain⟨A,B,-,g1,D,E,z⟩:=k.el (aa w).2.2
  obtain⟨rfl,-⟩:=z
  refine lia k w J<|lhx 0 4 g1 J<|lnz oe J fun F=>soN 0 KQ J ⟨J,J,J,J,trivial⟩ J ?_
  refine art 8 [0,0] J ?_
  refine ch h J ?_ ?_ <;> intro h
  ·refine atr 4 [1,3] J<|soN 1 oN J ⟨J,J,J,trivial⟩ J ?_
   refine la J<|en ?_
   refine WT.ret v (aA.two (aZ kM J (fun u hw=>hw.rgO (i:=1) J 0 3 [iV q.V.K,iV q.V.N,.string q.V.S] J) J) J) (fun u hw=>?_)
   cases h
   exact eG hw
  refine att 6 [] J ?_
  exact lb [] [1] (y _ h)
 refine xt J<|sr<|lq (aU (vs:=[]) (C:=#[iV 0,iV 0,.string (⟨#[]⟩:ByteArray)]) vc jF J (ab)) J<|soN 0 oN J ⟨J,J,J,trivial⟩ J ?_
 refine la J<|en ?_
 refine WT.ret v (aA.two (aZ kM J (fun u hw=>hw.rgO (i:=0) J 0 3 [iV 0,iV 0,.string (⟨#[]⟩:ByteArray)] J) J) J) (fun u hw=>?_)
 cases h
 exact eG hw
theorem nZ (w0:av a e []) (u:au) (x:aH) (w:(List aq)) (B:RSl bV 5 a ad f u.Args) (H:RSl aX 3 a c0 ar x.Fields) (D:RSl aB 4 a b9 n w) {r:(List aq) × Bool} (h:jb N u x w=some r) :
  Calls prog 184 [.agg [.string u.Kind,f,.bool u.Not].toArray,.agg [.string x.Kind,ar].toArray,n].toArray w0.w (be e w0.w [] (fun S Fs v=>∃ (I:Value),v = .tuple #[I,.bool r.2]∧Fs=[ob I]∧OSl aB 97 4 S [] I r.1)):=by
 refine eN func184 J ntmps184 J w0 fun E=>?_
 unfold jb at h
 refine sr<|lbx J fun T=>lbx J fun F=>arr 12 [0,0,0,32] J ?_
 obtain⟨U,y,h⟩:=bs h
 refine WL.cutN 8 [(27,.bool U),(2,n),(3,pQ T),(4,pQ F)] ?_ (fun K=>?_)
 rotate_left
 ·refine sp 19 y J (fun y=>?_) fun y=>?_
  ·refine arr 8 [] J ?_
   cases y
   exact ku K
  ·refine arr 2 [1,0] J<|ly J J<|lnr H J<|arr 2 [1,32] J<|ly J J<|lnr B J<|arr 2 [] J ?_
   cases y
   exact ku K
 refine en ?_
 refine ch h J ?_ ?_ <;> intro h
 ·refine sr<|la J<|kab h J J J (fun b z q=>dE N b w (D.y z) q) ?_
  rintro x1 h v1 ai F1 ⟨aj,ak,v2,rfl,rfl,h1⟩
  refine art 3 [] J ?_
  exact rtg [0] E (aA.two J J) J (by cases h;exact fun L hw=>⟨v1,rfl,rfl,h1⟩)
 refine atr 4 [] J<|kab h J J J (fun b z q=>dE N b w (D.y z) q) ?_
 rintro V h v3 W F2 ⟨al,an,v4,rfl,rfl,X⟩
 refine arr 7 [1,32] J<|lnr B J<|art 3 [] J ?_
 refine lin (σ:=Hp × (List aq) × Value × Int) (fun s=>[(2,n),(4,pQ F),(8,s.2.2.1),(33,f),(34,iV (u.Args.length:Int)),(35,iV s.2.2.2)]) (fun s=>St w0 s.1 [(F,.cells #[.string x.Kind,ar] 52 (0,0))] [ob s.2.2.1]) (fun m s=>dF N u x w m s.2.1 s.2.2.2=some r∧(OSl aB 97 4 s.1 [] s.2.2.1 s.2.1)) (W,V,v3,0) N ⟨h,X⟩ (sx [0] [0]) (fun n1 G s hm=>?_)
 obtain⟨Y,s1,O,s2⟩:=s
 obtain⟨h,k⟩:=hm
 dsimp only at h k ⊢
 unfold dF at h
 refine att 5 [] J ?_
 refine ch h J ?_ ?_ <;> intro h
 ·refine atr 6 [] J ?_
  obtain⟨i,P,h⟩:=bs h
  obtain⟨ao,F3,-,g1,aw,ax,Z⟩:=B.el (aa P).2.2
  obtain⟨rfl,-⟩:=Z
  refine lia B P J<|lhx 0 5 g1 J<|lnz fS J fun a1=>la J<|soN 0 gL J ⟨J,J,J,J,J,trivial⟩ J ?_
  refine arr 6 [1,32] J ?_
  obtain⟨d,Q,h⟩:=bs h
  obtain⟨ay,F4,-,g2,az,aC,r2⟩:=H.el (aa Q).2.2
  obtain⟨rfl,-⟩:=r2
  refine lia H Q J<|lhx 0 3 g2 J<|lnz jF J fun a8=>soN 0 oN J ⟨J,J,J,trivial⟩ J ?_
  refine art 12 [0,32] J ?_
  refine ch h J ?_ ?_ <;> intro h
  ·refine atr 5 [2,35,3] J<|lq (sW mT J J J (r:=bq i.V d) J) J<|en ?_
   refine ch h J ?_ ?_ <;> intro h
   ·refine sr<|la J<|kab h J J J (fun b z q=>dE N b w (D.y z) q) ?_
    rintro x5 h v5 aD F5 ⟨aF,aG,v6,rfl,rfl,h3⟩
    refine art 3 [] J ?_
    exact rtg [0] E (aA.two J J) J (by cases h;exact fun L hw=>⟨v5,rfl,rfl,h3⟩)
   refine att 7 [] J ?_
   exact lb [0] [2] (G (_,_,_,_) ⟨h,k⟩)
  refine att 5 [] J ?_
  refine ch h J ?_ ?_ <;> intro h
  ·refine atr 5 [1,32] J<|qc h (yW N · s1 i.S k.rsl ·) J J J fun R h=>arr 3 [] J<|lnz jF J fun aI=>soN 0 oN J ⟨J,J,J,trivial⟩ J ?_
   refine arr 7 [] J ?_
   obtain⟨b2,A,h⟩:=bs h
   refine WL.cutN 4 [(69,.bool b2),(2,n),(4,pQ F),(8,O),(10,pQ a1),(11,pQ a8),(13,.bool R.2),(33,f),(34,iV (u.Args.length:Int)),(35,iV s2)] ?_ (fun K=>?_)
   rotate_left
   ·refine sp 65 A J (fun A=>?_) fun A=>?_
    ·refine arr 2 [3,35] J<|ly J J<|lq (sW mT J J J (r:=bq R.1 d) J) J<|la J ?_
     cases A
     exact ku K
    ·refine arr 4 [] J ?_
     cases A
     exact ku K
   refine en ?_
   refine ch h J ?_ ?_ <;> intro h
   ·refine sr<|la J<|kab h J J J (fun b z q=>dE N b w (D.y z) q) ?_
    rintro x7 h v7 aJ F6 ⟨aK,aL,v8,rfl,rfl,h4⟩
    refine art 3 [] J ?_
    exact rtg [0] E (aA.two J J) J (by cases h;exact fun L hw=>⟨v7,rfl,rfl,h4⟩)
   refine att 6 [] J ?_
   refine ch h J ?_ ?_ <;> intro h
   ·refine atr 5 [1,64,35] J<|lq (aU (vs:=[(0,.string i.S),(1,.agg [iV d.K,iV d.N,.string d.S].toArray)]) (C:=#[.string i.S,iV d.K,iV d.N,.string d.S]) Jb oe J (a7 (C':=[.string i.S,iV 0,iV 0,.string ⟨#[]⟩]) J J J J J (a7 (C':=[.string i.S,iV d.K,iV d.N,.string d.S]) J J J J J (ab)))) J ?_
    have ae:RC aB 4 Y ([[]]:List (List Nat)) [.string i.S,iV d.K,iV d.N,.string d.S] ([(⟨i.S,d⟩:aq)]:List aq):=RC.cons (c:=[.string i.S,iV d.K,iV d.N,.string d.S]) (cells:=[]) ⟨J,J⟩ J (RC.nil _ _ _)
    refine le' (aQ (vs:=[(0,.agg [.string i.S,iV d.K,iV d.N,.string d.S].toArray)]) (C:=#[.string i.S,iV d.K,iV d.N,.string d.S]) aB.lasts gJ oe J J J J (ac E3 (a7 (C':=[.string i.S,iV d.K,iV d.N,.string d.S]) J J J J J (ab))) J ae J (by simpa using Kw.nil)) J ?_
    rintro v9 af D1 ⟨ag,M⟩
    replace M:OSl aB 97 4 af [] v9 ([(⟨i.S,d⟩:aq)]:List aq):=by simpa using M
    replace k:=k.f0 ag
    obtain⟨x8,ah,h⟩:=bs h
    refine le' (bg aB.lasts aB.one aB.flat gJ sV J J J J J (js:=[1]) (Rr:=[ob v9]) J k M.rsl ah) J ?_
    rintro v10 aM D2 ⟨⟨aN,aO⟩,h6⟩
    refine art 8 [] J ?_
    exact lb [0] [3] (G (_,_,_,_) ⟨h,h6⟩)
   refine att 7 [] J ?_
   exact lb [0] [3] (G (_,_,_,_) ⟨h,k⟩)
  refine att 7 [] J ?_
  exact lb [0] [2] (G (_,_,_,_) ⟨h,k⟩)
 refine att 7 [] J ?_
 exact rtg [0] E (aA.two J J) J (by cases h;exact fun L hw=>⟨O,rfl,rfl,k⟩)
theorem sy (w0:av a e []) (u:(List au)) (d:ag) (k:(List Int)) (B:RSl bN 3 a b6 o u) (H:RSl bj 3 a c0 ar d.Items) (w:RSl (RI .i64) 1 a b9 n k) {r:(List aq) × Bool} (h:lv N u d k=some r) :
  Calls prog 116 [o,.agg [ar,iV d.Next].toArray,n].toArray w0.w (be e w0.w [] (fun I Fs v=>∃ (x:Value),v = .tuple #[x,.bool r.2]∧Fs=[ob x]∧OSl aB 97 4 I [] x r.1)):=by
 refine eN func116 J ntmps116 J w0 fun y=>?_
 unfold lv at h
 refine sr<|lbx J fun C=>arr 11 [] J<|lnr w J<|art 3 [] J<|wtS ?_
 have K:=OSl.nil aB 97 4 e
 refine lin (σ:=Hp × (List aq) × Value × Int) (fun s=>[(0,o),(4,pQ C),(8,s.2.2.1),(13,n),(14,iV (k.length:Int)),(15,iV s.2.2.2)]) (fun s=>St w0 s.1 [(C,.cells #[ar,iV d.Next] 29 (0,0))] [ob s.2.2.1]) (fun m s=>gB N u d k m s.2.1 s.2.2.2=some r∧(OSl aB 97 4 s.1 [] s.2.2.1 s.2.1)) (e,([]:List aq),(.slice none 0 0),0) N ⟨h,K⟩ (sx [0] [0]) (fun n1 L s hm=>?_)
 obtain⟨a1,s1,E,s2⟩:=s
 obtain⟨h,c⟩:=hm
 dsimp only at h c ⊢
 unfold gB at h
 refine att 5 [] J ?_
 refine ch h J ?_ ?_ <;> intro h
 ·refine atr 6 [] J ?_
  obtain⟨M,F,h⟩:=bs h
  obtain⟨a7,F1,-,g1,a8,ab,O⟩:=w.el (aa F).2.2
  obtain⟨rfl,-⟩:=O
  refine lia w F J<|lhx 0 0 g1 J<|arr 7 [2] J<|kab h J J J (fun b z q=>qC N b d M (H.y z) q) ?_
  rintro P h v1 af F2 ⟨Q,S,v2,rfl,rfl,h1⟩
  replace c:=c.fr S (Q.q 0 J) dN
  refine arr 3 [] J<|lnz mr J fun ah=>soN 0 o9 J ⟨J,h1.one,trivial⟩ J ?_
  refine art 8 [] J ?_
  refine ch h J ?_ ?_ <;> intro h
  ·refine att 5 [] J ?_
   refine WT.ret y (aA.two J J) (fun i hw=>?_)
   cases h
   replace hw:=hw.addNil
   refine aW (js:=[0]) hw J ⟨.slice none 0 0,J,J,OSl.nil _ _ _ _⟩
  refine att 2 [] J<|wm [0,1] [] J<|amm 2 [0,1] [0,1] J J ?_
  obtain⟨A,G,h⟩:=bs h
  obtain⟨ai,F3,-,g2,aj,ak,T⟩:=B.el (aa G).2.2
  obtain⟨v3,G1,rfl,U,V⟩:=T
  obtain rfl:=U.symm
  refine mq 2 J MA (kN [0,1]) (ae og J J B G) J<|mq 3 J MA (kN [0,1]) (aC sm J (fun i hw=>(g2.of_eq 0 3 J J:rg _ _ _ [.string A.Kind,v3,.bool A.Not]).rangeAt hw.1) J) J<|amm 2 [4,2,5] [0,1] J J ?_
  obtain⟨x4,W,h⟩:=bs h
  refine WM.one 6 MA (mc J (fun _ v al D i hq hw=>Kn.of Kf.nil (ai2 0 1 J J) hw) (bt (js:=[]) (R:=[ob v2,ob E]) Hv J J (fun i hw ap hl=>nZ N (ba hw.fro) A P.1 s1 (V.y hw.up) h1.rsl c.rsl  W)) J ?_)
  rintro v4 an F4 ⟨X,Y,v5,rfl,rfl,Z⟩
  replace c:=c.fr Y (X.q 1 J) dN
  refine amm 5 [7,8,9,10,11] [0,1] J J<|WM.nil MA<|att 5 [] J ?_
  refine ch h J ?_ ?_ <;> intro h
  ·refine att 5 [] J ?_
   refine WT.ret y (aA.two J J) (fun i hw=>?_)
   cases h
   replace hw:=hw.addNil
   refine aW (js:=[0]) hw J ⟨.slice none 0 0,J,J,OSl.nil _ _ _ _⟩
  refine att 6 [] J ?_
  exact lb [0] [1] (L (_,_,_,_) ⟨h,Z⟩)
 refine att 7 [] J ?_
 exact rtg [0] y (aA.two J J) J (by cases h;exact fun i hw=>⟨E,rfl,rfl,c⟩)
theorem tx (w0:av a e [ob g,aE].flatten) (c:cQ) (y:(List ah)) (u:Int) (ae:RSl bN 3 a ad f c.pos) (Q:RSl bN 3 a b7 j c.neg) (au:RSl (RI .i64) 1 a c3 l c.chain.Pos) (aw:RSl (RI .i64) 1 a cb t c.chain.Neg) (ax:RSl iv 1 a c8 a6 c.alphas) (V:RSl bj 3 a c7 p c.s.Items) (I:OSl aF 105 2 e aE g y) {r:(List ah)} (h:gv N c y u=some r) :
  Calls prog 134 [.agg [f,j,l,t,a6,p,iV c.s.Next,iV c.id].toArray,g,iV u].toArray w0.w (be e w0.w [ob g,aE].flatten (fun af Fs v=>∃ (W:List Nat),v = .tuple #[]∧Fs=[ob g,W]∧OSl aF 105 2 af W g r)):=by
 refine eL func134 J ntmps134 J (L:=[ob g,aE]) w0 (fun hF=>?_)
 unfold gv at h
 refine sr<|lbx J fun K=>arr 7 [5,2,7,0] J<|kab h J J J (fun b z q=>qC N b c.s c.id (V.y z) q) ?_
 rintro w h v1 ag F1 ⟨X,ai,v2,rfl,rfl,h1⟩
 replace I:=I.fr ai (X.q 0 J) (X.q 1 J)
 refine arr 3 [] J<|lnz mr J fun M=>soN 0 o9 J ⟨J,h1.one,trivial⟩ J ?_
 refine arr 5 [] J<|lno I J<|art 3 [] J ?_
 refine lin (σ:=Hp × (List ah) × List Nat × Int) (fun s=>[(2,iV u),(3,pQ K),(6,pQ M),(24,g),(25,iV (y.length:Int)),(26,iV s.2.2.2)]) (fun s=>St w0 s.1 [(M,.cells #[.string w.1.Kind,v2] 52 (0,0)),(K,.cells #[f,j,l,t,a6,p,iV c.s.Next,iV c.id] 191 (0,0))] [ob v2,ob g,s.2.2.1]) (fun m s=>bM N c y u w m s.2.1 s.2.2.2=some r∧(OSl aF 105 2 s.1 s.2.2.1 g s.2.1)∧(OSl aX 95 3 s.1 [] v2 w.1.Fields)) (ag,y,aE,0) N ⟨h,I,h1⟩ (sx [0,0,0] [0,0]) (fun n1 Y s hm=>?_)
 obtain⟨ay,s1,D1,s2⟩:=s
 obtain⟨h,R,h1⟩:=hm
 dsimp only at h R h1 ⊢
 unfold bM at h
 refine att 5 [] J ?_
 refine ch h J ?_ ?_ <;> intro h
 ·refine atr 5 [] J ?_
  obtain⟨A,S,h⟩:=bs h
  obtain⟨az,F2,D,B,r1,aC,aj⟩:=R.focus S
  obtain⟨v3,v4,rfl,rfl,d,E⟩:=r1
  refine wlL [ob v3,ob v4,D,ob v2,ob g] (sre [2] [ob v3,ob v4,D] J (by simpa[gk] using aj))<|lih B S J<|lgx 0 2 B.rg J<|lnz fa J fun Z=>soN 0 sC J ⟨d.one,E.one,trivial⟩ J ?_
  refine arr 9 [0,64,5,66,0,0] J<|kab h J J J (fun b z q=>sy N b c.pos c.s A.Ids (ae.y z) (V.y z) d.rsl q) ?_
  rintro T h v5 a1 F3 ⟨F,O,v6,rfl,rfl,i⟩
  replace B:=B.fr O (F.q 4 J) (F.q 2 J)
  replace h1:=h1.fr O (F.q 3 J) dN
  replace d:=d.fr O (F.q 0 J) dN
  replace E:=E.fr O (F.q 1 J) dN
  refine art 12 [] J ?_
  refine ch h J ?_ ?_ <;> intro h
  ·refine att 5 [] J ?_
   have r2:aF a1 _ [v3,v4] A:=⟨v3,v4,J,J,d,E⟩
   obtain⟨D3,h6,ak⟩:=B.unfocus r2 (aF.knows _ _ _ _ r2)
   rw[GT S] at h6
   refine wtL [D3,ob v6,ob v2,ob g] (smg [1,1,1] J (by simpa[gk,bH] using ak)) ?_
   exact lb [2,2,0] [1,1] (Y (_,_,_,_) ⟨h,h6,h1⟩)
  refine atr 5 [1,64] J<|lnr Q J<|art 3 [] J ?_
  refine lin (σ:=Hp × (List Int) × Int) (fun s=>[(2,iV u),(3,pQ K),(6,pQ M),(9,pQ Z),(10,v6),(24,g),(25,iV (y.length:Int)),(26,iV s2),(43,j),(44,iV (c.neg.length:Int)),(45,iV s.2.2)]) (fun s=>St w0 s.1 [(Z,.cells #[v3,v4] 105 (0,0)),(M,.cells #[.string w.1.Kind,v2] 52 (0,0)),(K,.cells #[f,j,l,t,a6,p,iV c.s.Next,iV c.id] 191 (0,0))] [ob v6,ob v3,ob v4,D,ob v2,ob g]) (fun m s=>co N c u w s1 s2 (bM N c y u w n1) A T m s.2.1 s.2.2=some r∧(OSl aX 95 3 s.1 [] v2 w.1.Fields)∧(OSl (RI .i64) 3 1 s.1 [] v3 A.Ids)∧(OSl (RI .i64) 3 1 s.1 [] v4 s.2.1)∧(OSl aB 97 4 s.1 [] v6 T.1)∧(HSl aF 105 2 s.1 D g s1 s2.toNat [v3,v4])) (a1,A.Hits,0) N ⟨h,h1,d,E,i,B⟩ (sx [0,0,0,0,0,0] [0,0,0]) (fun n2 a7 s hm=>?_)
  obtain⟨al,s3,s4⟩:=s
  obtain⟨h,h1,d,k,i,x⟩:=hm
  dsimp only at h h1 d k i x ⊢
  unfold co at h
  refine att 5 [] J ?_
  refine ch h J ?_ ?_ <;> intro h
  ·refine atr 6 [] J ?_
   obtain⟨x4,a8,h⟩:=bs h
   obtain⟨aD,F4,-,g1,aG,aH,r3⟩:=Q.el (aa a8).2.2
   obtain⟨v7,G1,rfl,an,h7⟩:=r3
   obtain rfl:=an.symm
   refine lia Q a8 J<|lhx 0 3 g1 J<|lnz jB J fun aI=>la J<|soN 0 o1 J ⟨J,h7.one,J,trivial⟩ J ?_
   refine arr 6 [3,66] J<|kab h J J J (fun b z q=>nZ N b x4 w.1 T.1 (h7.y z) h1.rsl i.rsl q) ?_
   rintro x5 h v8 aJ F5 ⟨C,G,v9,rfl,rfl,h8⟩
   replace x:=x.fr G (C.q 5 J) (C.q 3 J)
   replace h1:=h1.fr G (C.q 4 J) dN
   replace d:=d.fr G (C.q 1 J) dN
   replace k:=k.fr G (C.q 2 J) dN
   replace i:=i.fr G (C.q 0 J) dN
   refine art 10 [] J ?_
   refine ch h J ?_ ?_ <;> intro h
   ·refine atr 4 [1,32] J ?_
    obtain⟨x6,ab,h⟩:=bs h
    obtain⟨aK,F6,-,g2,aL,aM,r4⟩:=k.elS (aa ab).2.2
    obtain⟨rfl,-⟩:=r4
    refine lio k ab J<|lgx 0 0 g2 J<|arr 2 [] J ?_
    obtain⟨x7,U,h⟩:=bs h
    obtain⟨aN,F7,-,g3,aO,aP,r5⟩:=k.elS (aa U).2.2
    obtain⟨rfl,-⟩:=r5
    refine lio k U J<|lu (Ch (js:=[3]) (Rr:=[ob v9,ob v6,ob v3,D,ob v2,ob g]) (vs:=[iV (wz (x6+u))]) (x':=wz (x6+u)) RI.lasts RI.flat vv J J J J ⟨J,trivial⟩ J k (sv U) ⟨J,J⟩) J ?_
    rintro aQ D4 ⟨⟨H,P⟩,h9⟩
    replace x:=x.fr P (H.q 5 J) (H.q 3 J)
    replace h1:=h1.fr P (H.q 4 J) dN
    replace d:=d.fr P (H.q 2 J) dN
    replace i:=i.fr P (H.q 1 J) dN
    refine art 6 [] J ?_
    exact lb [2,2,0,1,1,1] [1,1,1] (a7 (_,_,_) ⟨h,h1,d,h9,i,x⟩)
   refine att 6 [] J ?_
   exact lb [1,1,1,1,1,1] [1,1,1] (a7 (_,_,_) ⟨h,h1,d,k,i,x⟩)
  refine att 6 [] J ?_
  have r6:aF al _ [v3,v4] (⟨A.Ids,s3⟩:ah):=⟨v3,v4,J,J,d,k⟩
  obtain⟨D5,ao,aq⟩:=x.unfocus r6 (aF.knows _ _ _ _ r6)
  refine wtL [D5,ob v6,ob v2,ob g] (smg [1,1,1] J (by simpa[gk,bH] using aq)) ?_
  exact lb [2,2,0] [1,1] (Y (_,_,_,_) ⟨h,ao,h1⟩)
 refine xt J ?_
 refine WT.fin hF aA.none (fun w1 hw=>?_)
 cases h
 refine aW (js:=[1,1]) hw J ⟨D1,J,J,R⟩
theorem ke (w0:av a e []) (m:(List ah)) (b:RSl cL 2 a b6 o m) {r:(List ah)} (h:dS N m=some r) :
  Calls prog 179 [o].toArray w0.w (be e w0.w [] (fun x Fs v=>∃ (d:Value) (q:List Nat),v=d∧Fs=[ob d]∧OSl cL 105 2 x q d r∧(∀ k∈q,k∈b6))):=by
 refine eN func179 J ntmps179 J w0 fun s=>?_
 unfold dS at h
 refine att 6 [] J ?_
 rcases RSl.nilOr b with ⟨y,z,i⟩ | ⟨H,z,i⟩
 ·replace h:some []=some r:=by simpa[y,app] using h
  refine atr 2 [] J<|lq (mY ci (congrArg some i) J) J<|en ?_
  refine cd J (fun c=>?_) (fun c=>by simp at c)
  refine att 4 [] J ?_
  refine WT.ret s (aA.one J) (fun u hw=>?_)
  cases h
  replace hw:=hw.addNil
  refine aW (js:=[0]) hw J ⟨.slice none 0 0,[],J,J,OSl.nil _ _ _ _,MC⟩
 refine atr 2 [] J<|lq (mY ci (congrArg some i) J) J<|en ?_
 refine cd J (fun c=>by simp at c) (fun c=>?_)
 refine atr 3 [] J ?_
 have A:RC aF 2 e ([]:List (List Nat)) [] ([]:List ah):=RC.nil _ _ _
 refine le' (aQ (vs:=[]) (C:=#[]) aF.lasts ci fa J J J J (ac qX (ab)) J A J (by simpa using Kw.nil)) J ?_
 rintro v1 w I ⟨K,h1⟩
 replace h1:OSl aF 105 2 w [] v1 ([]:List ah):=by simpa[gk] using h1
 refine WL.conv (S':=St w0 w [] [[],ob v1]) (fun u hw=>hw.addNil)<|la J<|lu0 b fun B=>?_
 obtain⟨L,D,h⟩:=bs h
 replace h1:=h1.gives aF.gives
 refine le' (Cs cL.lasts cL.knows cL.one ci mQ J J J J J (js:=[1]) (Rr:=[[]]) J h1 B (fun ap=>dN) (fun ap=>(ap.o b.old)) D) J ?_
 rintro v2 M E ⟨⟨O,P⟩,F,G⟩
 refine la J<|en ?_
 exact rtg [0] s (aA.one J) J (by cases h;exact fun u hw=>⟨v2,E,rfl,rfl,G,(fun k hk=>((fun k hk=>(by simpa using F k hk:k∈b6)) k hk))⟩)
theorem nS (w0:av a e []) (q:(List ah)) (b:OSl cL 105 2 a b8 o q) {r:(List ah)} (h:dZ N q=some r) :
  Calls prog 179 [o].toArray w0.w (be e w0.w [] (fun y Fs v=>∃ (d:Value) (s:List Nat),v=d∧Fs=[ob d]∧OSl cL 105 2 y s d r∧(∀ k∈s,k∈b8))):=by
 refine eN func179 J ntmps179 J w0 fun u=>?_
 unfold dZ at h
 refine att 6 [] J ?_
 rcases RSl.nilOr (b.rsl) with ⟨z,A,i⟩ | ⟨H,A,i⟩
 ·replace h:some []=some r:=by simpa[z,app] using h
  refine atr 2 [] J<|lq (mY ci (congrArg some i) J) J<|en ?_
  refine cd J (fun c=>?_) (fun c=>by simp at c)
  refine att 4 [] J ?_
  refine WT.ret u (aA.one J) (fun w hw=>?_)
  cases h
  replace hw:=hw.addNil
  refine aW (js:=[0]) hw J ⟨.slice none 0 0,[],J,J,OSl.nil _ _ _ _,MC⟩
 refine atr 2 [] J<|lq (mY ci (congrArg some i) J) J<|en ?_
 refine cd J (fun c=>by simp at c) (fun c=>?_)
 refine atr 3 [] J ?_
 have B:RC aF 2 e ([]:List (List Nat)) [] ([]:List ah):=RC.nil _ _ _
 refine le' (aQ (vs:=[]) (C:=#[]) aF.lasts ci fa J J J J (ac qX (ab)) J B J (by simpa using Kw.nil)) J ?_
 rintro v1 x I ⟨K,h1⟩
 replace h1:OSl aF 105 2 x [] v1 ([]:List ah):=by simpa[gk] using h1
 refine WL.conv (S':=St w0 x [] [[],ob v1]) (fun w hw=>hw.addNil)<|la J<|luO b fun D=>?_
 obtain⟨E,F,h⟩:=bs h
 replace h1:=h1.gives aF.gives
 refine le' (cq cL.lasts cL.one ci mQ J J J J J (js:=[1]) (Rr:=[[]]) J h1 D (fun ap=>dN) (fun ap=>(ap.o b.old)) F) J ?_
 rintro v2 G L ⟨⟨M,O⟩,m⟩
 replace m:OSl cL 105 2 G b8 v2 E:=by simpa using m
 refine la J<|en ?_
 exact rtg [0] u (aA.one J) J (by cases h;exact fun w hw=>⟨v2,b8,rfl,rfl,m,(fun k hk=>hk)⟩)
theorem rE (w0:av a e []) (i:(List Int)) (k:RSl (RI .i64) 1 a b6 o i) {r:(List Int)} (h:iy N i=some r) :
  Calls prog 56 [o].toArray w0.w (be e w0.w [] (fun q Fs v=>∃ (b:Value),v=b∧Fs=[ob b]∧OSl (RI .i64) 3 1 q [] b r)):=by
 refine eN func56 J ntmps56 J w0 fun m=>?_
 unfold iy at h
 refine att 6 [] J ?_
 rcases RSl.nilOr k with ⟨s,u,d⟩ | ⟨A,u,d⟩
 ·replace h:some []=some r:=by simpa[s,app] using h
  refine atr 2 [] J<|lq (mY aY (congrArg some d) J) J<|en ?_
  refine cd J (fun c=>?_) (fun c=>by simp at c)
  refine att 4 [] J ?_
  refine WT.ret m (aA.one J) (fun w hw=>?_)
  cases h
  replace hw:=hw.addNil
  refine aW (js:=[0]) hw J ⟨.slice none 0 0,J,J,OSl.nil _ _ _ _⟩
 refine atr 2 [] J<|lq (mY aY (congrArg some d) J) J<|en ?_
 refine cd J (fun c=>by simp at c) (fun c=>?_)
 refine atr 3 [] J<|le' (cO (R:=RI .i64) RI.lasts aY gF J J) J ?_
 rintro v1 B C ⟨D,h1⟩
 refine la J<|lu0 k fun x=>?_
 obtain⟨E,y,h⟩:=bs h
 refine le' (bg RI.lasts RI.one RI.flat aY jH J J J J J (js:=[0]) (Rr:=[]) J h1 x y) J ?_
 rintro v2 F G ⟨⟨H,I⟩,z⟩
 refine la J<|en ?_
 exact rtg [0] m (aA.one J) J (by cases h;exact fun w hw=>⟨v2,rfl,rfl,z⟩)
theorem yH (w0:av a e []) (c:au) (d:ag) (i:(List aq)) (x:RSl bV 5 a ad f c.Args) (u:RSl bj 3 a c0 ar d.Items) (y:RSl aB 4 a b9 n i) {r:Int} (h:p8 N c d i=some r) :
  CB w0 prog 232 [.agg [.string c.Kind,f,.bool c.Not].toArray,.agg [ar,iV d.Next].toArray,n] (iV r):=by
 refine eN func232 J ntmps232 J w0 fun A=>?_
 unfold p8 at h
 refine sr<|lbx J fun k=>lbx J fun G=>arr 11 [0,0] J<|lnr u J<|art 3 [] J ?_
 refine lin (σ:=Hp × Int × Int) (fun s=>[(2,n),(3,pQ k),(7,iV s.2.1),(13,ar),(14,iV (d.Items.length:Int)),(15,iV s.2.2)]) (fun s=>St w0 s.1 [(k,.cells #[.string c.Kind,f,.bool c.Not] 201 (0,0))] []) (fun m s=>eV N c d i m s.2.1 s.2.2=some r) (e,0,0) N h (sx [] [1]) (fun B v s hm=>?_)
 obtain⟨C,s1,s2⟩:=s
 have h:eV N c d i (B+1) s1 s2=some r:=hm
 show WT _ _ [(2,n),(3,pQ k),(7,iV s1),(13,ar),(14,iV (d.Items.length:Int)),(15,iV s2)] (St w0 C [(k,.cells #[.string c.Kind,f,.bool c.Not] 201 (0,0))] [])
 unfold eV at h
 refine att 5 [] J ?_
 refine ch h J ?_ ?_ <;> intro h
 ·refine atr 5 [] J ?_
  obtain⟨D,w,h⟩:=bs h
  obtain⟨H,I,-,g1,K,L,E⟩:=u.el (aa w).2.2
  obtain⟨v1,M,rfl,F,h1⟩:=E
  obtain rfl:=F.symm
  refine lia u w J<|lhx 0 3 g1 J<|lnz tN J fun O=>soN 0 zL J ⟨J,J,h1.one,trivial⟩ J ?_
  refine arr 7 [35,1,2] J<|kab h J J J (fun b z q=>nZ N b c D.F i (x.y z) (h1.y z) (y.y z) q) ?_
  rintro P h v2 Q R ⟨S,T,v3,rfl,rfl,U⟩
  refine art 10 [] J ?_
  refine ch h J ?_ ?_ <;> intro h
  ·refine att 10 [] J ?_
   exact lb [] [1] (v (_,_,_) h)
  refine att 6 [] J ?_
  exact lb [] [1] (v (_,_,_) h)
 refine att 6 [] J ?_
 exact rt A h
theorem jR (w0:av a e []) (i:cQ) (G:(List Int)) (A:(List Int)) (Z:RSl bN 3 a ad f i.pos) (Q:RSl bN 3 a b7 j i.neg) (aT:RSl (RI .i64) 1 a c3 l i.chain.Pos) (aV:RSl (RI .i64) 1 a cb t i.chain.Neg) (aW:RSl iv 1 a c8 a6 i.alphas) (a1:RSl bj 3 a c7 p i.s.Items) (aq:RSl (RI .i64) 1 a pG1 g G) (R:RSl (RI .i64) 1 a b9 n A) {r:(List ah)} (h:dX N i G A=some r) :
  Calls prog 197 [.agg [f,j,l,t,a6,p,iV i.s.Next,iV i.id].toArray,g,n].toArray w0.w (be e w0.w [] (fun au Fs v=>∃ (S:Value) (a8:List Nat),v=S∧Fs=[ob S,a8]∧OSl aF 105 2 au a8 S r)):=by
 refine eN func197 J ntmps197 J w0 fun hF=>?_
 unfold dX at h
 refine sr<|lbx J fun H=>arr 10 [] J<|lnr R J<|art 3 [] J<|wtS<|wt0 ?_
 have k1:=OSl.nil aF 105 2 e
 refine lin (σ:=Hp × (List ah) × Value × List Nat × Int) (fun s=>[(1,g),(3,pQ H),(7,s.2.2.1),(16,n),(17,iV (A.length:Int)),(18,iV s.2.2.2.2)]) (fun s=>St w0 s.1 [(H,.cells #[f,j,l,t,a6,p,iV i.s.Next,iV i.id] 191 (0,0))] [s.2.2.2.1,ob s.2.2.1]) (fun m s=>bE N i G A m s.2.1 s.2.2.2.2=some r∧(OSl aF 105 2 s.1 s.2.2.2.1 s.2.2.1 s.2.1)) (e,([]:List ah),(.slice none 0 0),[],0) N ⟨h,k1⟩ (sx [0,0] [0]) (fun n1 ae s hm=>?_)
 obtain⟨aX,s1,w,x,s2⟩:=s
 obtain⟨h,d⟩:=hm
 dsimp only at h d ⊢
 unfold bE at h
 refine att 5 [] J ?_
 refine ch h J ?_ ?_ <;> intro h
 ·refine atr 5 [] J ?_
  obtain⟨B,af,h⟩:=bs h
  obtain⟨aZ,F1,-,g1,b1,b2,r1⟩:=R.el (aa af).2.2
  obtain⟨rfl,-⟩:=r1
  refine lia R af J<|lhx 0 0 g1 J<|arr 5 [] J<|kab h J J J (fun b z q=>rE N b G (aq.y z) q) ?_
  rintro x2 h v1 aw F2 ⟨ag,ax,v2,rfl,rfl,h1⟩
  replace d:=d.fr ax (ag.q 1 J) (ag.q 0 J)
  refine la J ?_
  have ay:RC (RI .i64) 1 aw ([[]]:List (List Nat)) [iV B] ([B]:List Int):=RC.cons (c:=[iV B]) (cells:=[]) ⟨J,J⟩ J (RC.nil _ _ _)
  refine le' (aQ (vs:=[(0,iV B)]) (C:=#[iV B]) RI.lasts aY gF J J J J (ac ij (a7 (C':=[iV B]) J J J J J (ab))) J ay J (by simpa using Kw.nil)) J ?_
  rintro v3 az D2 ⟨ai,T⟩
  replace T:OSl (RI .i64) 3 1 az [] v3 ([B]:List Int):=by simpa using T
  replace d:=d.f0 ai
  replace h1:=h1.f0 ai
  obtain⟨E,aC,h⟩:=bs h
  refine le' (bg RI.lasts RI.one RI.flat aY jH J J J J J (js:=[1]) (Rr:=[ob v3,x,ob w]) J h1 T.rsl aC) J ?_
  rintro v4 b3 D3 ⟨⟨aj,aD⟩,k⟩
  replace d:=d.fr aD (aj.q 2 J) (aj.q 1 J)
  refine arr 9 [0,0,5,2] J<|kab h J J J (fun b z q=>sy N b i.pos i.s E (Z.y z) (a1.y z) k.rsl q) ?_
  rintro U h v5 ak F3 ⟨V,al,v6,rfl,rfl,y⟩
  replace d:=d.fr al (V.q 3 J) (V.q 2 J)
  replace k:=k.fr al (V.q 0 J) dN
  refine art 12 [] J ?_
  refine ch h J ?_ ?_ <;> intro h
  ·refine att 5 [] J ?_
   exact lb [3,3] [0] (ae (_,_,_,_,_) ⟨h,d⟩)
  refine atr 4 [] J<|lq (aU (vs:=[(0,v4)]) (C:=#[v4,.slice none 0 0]) vB fa J (a7 (C':=[v4,.slice none 0 0]) J (bh k.one) J J J (ab))) J<|lnz fa J fun L=>soN 0 sC J ⟨k.one,J,trivial⟩ J ?_
  refine arr 5 [] J<|lno k J<|arr 2 [0,32] J<|lnr Z J<|la J<|en<|wtS ?_
  have k3:=OSl.nil (RI .i64) 3 1 ak
  refine cut (σ:=Hp × (List Int) × Value) (fun s=>[(1,g),(3,pQ H),(7,w),(13,pQ L),(16,n),(17,iV (A.length:Int)),(18,iV s2)]) (fun s=>St w0 s.1 [(L,.cells #[v4,s.2.2] 105 (0,0)),(H,.cells #[f,j,l,t,a6,p,iV i.s.Next,iV i.id] 191 (0,0))] [ob s.2.2,ob v4,x,ob w]) (fun s=>cu N s1 s2 (bE N i G A n1) E s.2.1=some r∧(OSl aF 105 2 s.1 x w s1)∧(OSl (RI .i64) 3 1 s.1 [] v4 E)∧(OSl (RI .i64) 3 1 s.1 [] s.2.2 s.2.1)) (fun s hm=>?_) (fun K=>?_)
  ·clear h
   obtain⟨aG,s3,u⟩:=s
   obtain⟨h,d,k,k4⟩:=hm
   dsimp only at h d k k4 ⊢
   unfold cu at h
   refine atr 3 [2] J ?_
   have an:RC aF 2 aG ([(ob v4++[])++((ob u++[]))]:List (List Nat)) [v4,u] ([(⟨E,s3⟩:ah)]:List ah):=RC.cons (c:=[v4,u]) (cells:=[]) ⟨v4,u,J,J,k,k4⟩ J (RC.nil _ _ _)
   refine le' (aQ (vs:=[(0,.agg [v4,u].toArray)]) (C:=#[v4,u]) aF.lasts ci fa J J J J (ac pA (a7 (C':=[v4,u]) J J J J J (ab))) J an J (RC.kn aF.knows an)) J ?_
   rintro M aH D4 ⟨aI,W⟩
   replace W:OSl aF 105 2 aH ((ob v4++[])++((ob u++[]))) M ([(⟨E,s3⟩:ah)]:List ah):=by simpa[gk] using W
   replace d:=d.f0 aI
   refine wlL [((ob v4++[])++((ob u++[]))),ob M,x,ob w] (smg [2,1] J (SP.eq (by simp[gk,bH]))) ?_
   obtain⟨x5,aJ,h⟩:=bs h
   refine le' (cq aF.lasts aF.one ci mQ J J J J J (js:=[3]) (Rr:=[((ob v4++[])++((ob u++[]))),ob M,x]) J d W (fun ap=>ap.q 2 J) (fun ap=>ap.q 0 J) aJ) J ?_
   rintro v8 b4 D5 ⟨⟨ba,bb⟩,h6⟩
   refine wlL [(x++((ob v4++[])++((ob u++[])))),ob v8,ob M] (smg [3,1] J (SP.eq MC))<|art 7 [] J ?_
   exact lb [0,0] [1] (ae (_,_,_,_,_) ⟨h,h6⟩)
  refine ch h J ?_ ?_ <;> intro h
  ·refine atr 4 [1,32] J<|lnr Q J<|art 3 [] J ?_
   refine lin (σ:=Hp × (List Int) × Value × Int) (fun s=>[(1,g),(3,pQ H),(7,w),(11,v6),(13,pQ L),(16,n),(17,iV (A.length:Int)),(18,iV s2),(47,j),(48,iV (i.neg.length:Int)),(49,iV s.2.2.2)]) (fun s=>St w0 s.1 [(L,.cells #[v4,s.2.2.1] 105 (0,0)),(H,.cells #[f,j,l,t,a6,p,iV i.s.Next,iV i.id] 191 (0,0))] [ob s.2.2.1,ob v6,ob v4,x,ob w]) (fun m s=>ct N i s1 s2 (bE N i G A n1) E U m s.2.1 s.2.2.2=some r∧(OSl aF 105 2 s.1 x w s1)∧(OSl (RI .i64) 3 1 s.1 [] v4 E)∧(OSl aB 97 4 s.1 [] v6 U.1)∧(OSl (RI .i64) 3 1 s.1 [] s.2.2.1 s.2.1)) (ak,([]:List Int),(.slice none 0 0),0) N ⟨h,d,k,y,k3⟩ (sx [0,0,0,1,1] [0,0]) (fun n3 aK s hm=>?_)
   obtain⟨aL,s4,u3,s5⟩:=s
   obtain⟨h,d,k,y,I⟩:=hm
   dsimp only at h d k y I ⊢
   unfold ct at h
   refine att 5 [] J ?_
   refine ch h J ?_ ?_ <;> intro h
   ·refine atr 5 [] J ?_
    obtain⟨x6,ao,h⟩:=bs h
    obtain⟨bc,F4,-,g2,bd,bf,r2⟩:=Q.el (aa ao).2.2
    obtain⟨v9,G1,rfl,aM,h7⟩:=r2
    obtain rfl:=aM.symm
    refine lia Q ao J<|lhx 0 3 g2 J<|lnz jB J fun bk=>soN 0 o1 J ⟨J,h7.one,J,trivial⟩ J ?_
    refine en<|wm [0,1,2] [10] J<|amm 6 [0,1,1,32,2,3,3,5,4,66,5] [0,1,2] J J ?_
    obtain⟨F,aN,h⟩:=bs h
    refine on1 6 (mp J (kS [0,1,2]) (pzP J (fun b z=>yH N b x6 i.s U.1 (h7.y z) (a1.y z) y.rsl aN)) J ?_)
    have aO:RC (RI .i64) 1 aL ([[]]:List (List Nat)) [iV F] ([F]:List Int):=RC.cons (c:=[iV F]) (cells:=[]) ⟨J,J⟩ J (RC.nil _ _ _)
    refine WM.one 7 MA (me J (fun _ v aP D w1 hq hw=>Kn.of Kf.nil (ai3 0 1 2 J J J) hw) (aQ (vs:=[(0,iV F)]) (C:=#[iV F]) RI.lasts aY gF J J J J (ac ij (a7 (C':=[iV F]) J J J J J (ab))) J aO J (by simpa using Kw.nil)) J ?_)
    rintro v10 aR D6 ⟨O,X⟩
    replace X:OSl (RI .i64) 3 1 aR [] v10 ([F]:List Int):=by simpa using X
    replace d:=d.f0 O
    replace k:=k.f0 O
    replace y:=y.f0 O
    replace I:=I.f0 O
    obtain⟨x8,aS,h⟩:=bs h
    refine WM.one 8 MA (me J (fun _ v aP D w1 hq hw=>Kn.of Kf.nil (ai3 0 1 2 J J J) hw) (bg RI.lasts RI.one RI.flat aY jH J J J J J (js:=[1]) (Rr:=[ob v10,ob v6,ob v4,x,ob w]) J I X.rsl aS) J ?_)
    rintro v11 bl D7 ⟨⟨P,Y⟩,h9⟩
    replace d:=d.fr Y (P.q 4 J) (P.q 3 J)
    replace k:=k.fr Y (P.q 2 J) dN
    replace y:=y.fr Y (P.q 1 J) dN
    refine amm 1 [9,1] [0,1,2] J J ?_
    refine on1 10 (ms1 1 J nk qU J h9.one ?_)
    refine WM.nil MA<|att 5 [] J ?_
    exact lb [0,1,1,1,1] [1,1] (aK (_,_,_,_) ⟨h,d,k,y,h9⟩)
   refine xt J ?_
   exact wo [0,1,1,1] [0,0] (K (_,_,_) ⟨h,d,k,I⟩)
  refine WT.skip ?_
  exact wo [0,1,2,2] [0,0] (K (_,_,_) ⟨h,d,k,k3⟩)
 refine att 6 [] J ?_
 exact rtg [1,0] hF (aA.one J) J (by cases h;exact fun w1 hw=>⟨w,x,rfl,rfl,d⟩)
theorem un (w0:av a e [ob g,aE].flatten) (d:cQ) (y:(List ao)) (aj:RSl bN 3 a ad f d.pos) (ak:RSl bN 3 a b7 j d.neg) (T:RSl (RI .i64) 1 a c3 l d.chain.Pos) (al:RSl (RI .i64) 1 a cb t d.chain.Neg) (U:RSl iv 1 a c8 a6 d.alphas) (an:RSl bj 3 a c7 p d.s.Items) (aH:OSl aT 103 1 e aE g y) {r:(List ao)} (h:gN N d y=some r) :
  Calls prog 135 [.agg [f,j,l,t,a6,p,iV d.s.Next,iV d.id].toArray,g].toArray w0.w (be e w0.w [ob g,aE].flatten (fun aX Fs v=>∃ (aI:List Nat),v = .tuple #[]∧Fs=[ob g,aI]∧OSl aT 103 1 aX aI g r)):=by
 refine eL func135 J ntmps135 J (L:=[ob g,aE]) w0 (fun hF=>?_)
 unfold gN at h
 refine sr<|lbx J fun B=>arr 9 [] J<|lno aH J<|art 3 [] J<|wtS ?_
 have k1:=OSl.nil cL 105 2 e
 refine wtS ?_
 have k2:=OSl.nil cL 105 2 e
 refine lin (σ:=Hp × (List ao) × List Nat × (List ah) × Value × List Nat × (List ah) × Value × List Nat × Int) (fun s=>[(1,g),(2,pQ B),(4,s.2.2.2.2.1),(5,s.2.2.2.2.2.2.2.1),(13,iV (y.length:Int)),(14,iV s.2.2.2.2.2.2.2.2.2)]) (fun s=>St w0 s.1 [(B,.cells #[f,j,l,t,a6,p,iV d.s.Next,iV d.id] 191 (0,0))] [ob s.2.2.2.2.2.2.2.1,ob s.2.2.2.2.1,ob g,s.2.2.1]) (fun m s=>bK N d y m s.2.1 s.2.2.2.1 s.2.2.2.2.2.2.1 s.2.2.2.2.2.2.2.2.2=some r∧(OSl aT 103 1 s.1 s.2.2.1 g s.2.1)∧(OSl cL 105 2 s.1 s.2.2.2.2.2.1 s.2.2.2.2.1 s.2.2.2.1)∧(∀ k∈s.2.2.2.2.2.1,k∈s.2.2.1)∧(OSl cL 105 2 s.1 s.2.2.2.2.2.2.2.2.1 s.2.2.2.2.2.2.2.1 s.2.2.2.2.2.2.1)∧(∀ k∈s.2.2.2.2.2.2.2.2.1,k∈s.2.2.1)) (e,y,aE,([]:List ah),(.slice none 0 0),[],([]:List ah),(.slice none 0 0),[],0) N ⟨h,aH,k1,MC,k2,MC⟩ (sx [0,0,0,0] [0]) (fun n1 aZ s hm=>?_)
 obtain⟨aq,s1,x,s2,V,D2,W,A,D3,E⟩:=s
 obtain⟨h,i,w,i1,u,i2⟩:=hm
 dsimp only at h i w i1 u i2 ⊢
 unfold bK at h
 refine att 5 [] J ?_
 refine ch h J ?_ ?_ <;> intro h
 ·refine att 18 [] J<|wtS<|wt0 ?_
  have k6:=OSl.nil aF 105 2 aq
  refine cut (σ:=Hp × (List ah) × Value × List Nat) (fun s=>[(1,g),(2,pQ B),(6,iV E),(7,s.2.2.1),(13,iV (y.length:Int)),(14,iV E)]) (fun s=>St w0 s.1 [(B,.cells #[f,j,l,t,a6,p,iV d.s.Next,iV d.id] 191 (0,0))] [s.2.2.2,ob s.2.2.1,ob g,x]) (fun s=>cm N s1 E (bK N d y n1) s.2.1=some r∧(OSl aT 103 1 s.1 x g s1)∧(OSl aF 105 2 s.1 s.2.2.2 s.2.2.1 s.2.1)) (fun s hm=>?_) (fun K=>?_)
  ·clear h
   obtain⟨bO,s5,X,Y⟩:=s
   obtain⟨h,i,Z⟩:=hm
   dsimp only at h i Z ⊢
   unfold cm at h
   refine atr 4 [] J ?_
   obtain⟨x1,a8,h⟩:=bs h
   obtain⟨bP,F1,D5,h1,r1,bQ,b1⟩:=i.focus a8
   obtain⟨v1,H,rfl,rfl,h2⟩:=r1
   refine wlL [ob v1,H,D5,Y,ob X,ob g] (sre [3] [ob v1,H,D5] J (by simpa[gk] using b1))<|lih h1 a8 J<|lf dR J J J<|lgx 0 0 h1.rg J<|kab h J J J (fun b z q=>nS N b x1.Toks (h2.gives aF.gives) q) ?_
   rintro x2 h v2 bR F2 ⟨I,au,v3,D7,rfl,rfl,h3,i3⟩
   replace h1:=h1.fr au (I.q 5 J) (I.q 2 J)
   replace Z:=Z.fr au (I.q 4 J) (I.q 3 J)
   replace h2:=h2.fr au (I.q 0 J) (I.q 1 J)
   refine arr 12 [] J<|lih h1 a8 J<|lf dR J J J<|lgx 0 0 h1.rg J<|la J ?_
   obtain⟨x3,b2,h⟩:=bs h
   have h5:=Z.gives aF.gives
   refine le' (cq aF.lasts aF.one ci mQ J J J J J (js:=[1]) (Rr:=[ob v2,H,D5,Y,ob X,ob g]) J h2 Z (fun ap=>ap.q 1 J) (fun ap=>ap.q 3 J) b2) J ?_
   rintro v4 bS D8 ⟨⟨M,aw⟩,h4⟩
   replace h1:=h1.fr aw (M.q 5 J) (M.q 2 J)
   replace h5:=h5.fr aw (M.q 4 J) (M.q 3 J)
   replace h3:=h3.fr aw (M.q 0 J) (Dj.sub (M.q 1 J) i3)
   refine wlL [(H++Y),ob v4,ob v2,D5,ob X,ob g] (smg [2,3] J (SP.eq MC))<|lih h1 a8 J<|lf dR J J J<|lu (us [5] [(H++Y),ob v4,ob v2,D5,ob X] 0 aT.lasts AG J J h4.one J h1 J (fun ap=>ap.q 3 J)) J ?_
   rintro b3 D9 ⟨⟨O,ax⟩,h6⟩
   replace h5:=h5.fr ax (O.q 4 J) (Dj.sub (O.q 0 J) (fun k hk=>gb.2 (.inr hk)))
   replace h4:=h4.fr ax (O.q 1 J) (O.q 0 J)
   replace h3:=h3.fr ax (O.q 2 J) (Dj.sub (Dj.sub (O.q 0 J) (fun k hk=>gb.2 (.inl hk))) i3)
   refine art 6 [] J ?_
   have r2:aT b3 _ [v4] (⟨x3⟩:ao):=⟨v4,(H++Y),J,J,h4⟩
   obtain⟨b4,h7,bb,aJ,bT⟩:=h6.unfocusM r2 (aT.knows _ _ _ _ r2)
   refine wtL [b4,ob g,ob v2,ob X] (smg [2,1,2] J (by simpa[gk,bH] using bb)) ?_
   exact lb [3,2,1,0] [0] (aZ (_,_,_,_,_,_,_,_,_,_) ⟨h,h7,h3,(fun k hk=>((fun k hk=>(fun k hk=>aJ k (gb.2 (.inr hk))) k ((fun k hk=>gb.2 (.inl hk)) k hk)) k (i3 k hk))),h5,(fun k hk=>((fun k hk=>(fun k hk=>aJ k (gb.2 (.inr hk))) k ((fun k hk=>gb.2 (.inr hk)) k hk)) k hk))⟩)
  refine ch h J ?_ ?_ <;> intro h
  ·refine atr 4 [8,7,0] J ?_
   have bc:RC (RI .i64) 1 aq ([[]]:List (List Nat)) [iV d.id] ([d.id]:List Int):=RC.cons (c:=[iV d.id]) (cells:=[]) ⟨J,J⟩ J (RC.nil _ _ _)
   refine le' (aQ (vs:=[(0,iV d.id)]) (C:=#[iV d.id]) RI.lasts aY gF J J J J (ac ij (a7 (C':=[iV d.id]) J J J J J (ab))) J bc J (by simpa using Kw.nil)) J ?_
   rintro v5 bd bU ⟨bf,h8⟩
   replace h8:OSl (RI .i64) 3 1 bd [] v5 ([d.id]:List Int):=by simpa using h8
   replace i:=i.f0 bf
   refine kab h J J J (fun b z q=>jR N b d [] ([d.id]:List Int) (aj.y z) (ak.y z) (T.y z) (al.y z) (U.y z) (an.y z) (RSl.nil _ _ _) h8.rsl q) ?_
   rintro x4 h v6 bV F3 ⟨aK,bg,v7,bW,rfl,rfl,h9⟩
   replace i:=i.fr bg (aK.q 5 J) (aK.q 6 J)
   refine la J<|en ?_
   exact wo [1,0,5,5] [0] (K (_,_,_,_) ⟨h,i,h9⟩)
  refine atr 4 [] J<|lno w J<|art 3 [] J ?_
  refine lin (σ:=Hp × (List ah) × Value × List Nat × Int) (fun s=>[(1,g),(2,pQ B),(5,A),(6,iV E),(7,s.2.2.1),(13,iV (y.length:Int)),(14,iV E),(24,V),(25,iV (s2.length:Int)),(26,iV s.2.2.2.2)]) (fun s=>St w0 s.1 [(B,.cells #[f,j,l,t,a6,p,iV d.s.Next,iV d.id] 191 (0,0))] [s.2.2.2.1,ob s.2.2.1,ob A,ob V,ob g,x]) (fun m s=>cS N d s1 s2 W E (bK N d y n1) m s.2.1 s.2.2.2.2=some r∧(OSl aT 103 1 s.1 x g s1)∧(OSl cL 105 2 s.1 D2 V s2)∧(OSl cL 105 2 s.1 D3 A W)∧(OSl aF 105 2 s.1 s.2.2.2.1 s.2.2.1 s.2.1)) (aq,([]:List ah),(.slice none 0 0),[],0) N ⟨h,i,w,u,k6⟩ (sx [0,0,0,0,0,0] [0]) (fun n3 bh s hm=>?_)
  obtain⟨aL,s6,u4,ay,s7⟩:=s
  obtain⟨h,i,w,u,G⟩:=hm
  dsimp only at h i w u G ⊢
  unfold cS at h
  refine att 5 [] J ?_
  refine ch h J ?_ ?_ <;> intro h
  ·refine atr 5 [] J ?_
   obtain⟨x5,aM,h⟩:=bs h
   obtain⟨bX,F4,-,g1,bY,bZ,r3⟩:=w.elS (aa aM).2.2
   obtain⟨v8,G1,v9,G2,rfl,rfl,af,bk⟩:=r3
   refine lio w aM J<|lgx 0 2 g1 J<|lnz fa J fun c4=>soN 0 sC J ⟨af.one,bk.one,trivial⟩ J ?_
   refine arr 8 [40,0,0,7,32] J ?_
   have bl:RC (RI .i64) 1 aL ([[]]:List (List Nat)) [iV d.id] ([d.id]:List Int):=RC.cons (c:=[iV d.id]) (cells:=[]) ⟨J,J⟩ J (RC.nil _ _ _)
   refine le' (aQ (vs:=[(0,iV d.id)]) (C:=#[iV d.id]) RI.lasts aY gF J J J J (ac ij (a7 (C':=[iV d.id]) J J J J J (ab))) J bl J (by simpa using Kw.nil)) J ?_
   rintro v10 bm c5 ⟨a1,aB⟩
   replace aB:OSl (RI .i64) 3 1 bm [] v10 ([d.id]:List Int):=by simpa using aB
   replace af:=af.f0 a1
   replace i:=i.f0 a1
   replace w:=w.f0 a1
   replace u:=u.f0 a1
   replace G:=G.f0 a1
   refine kab h J J J (fun b z q=>jR N b d x5.Ids ([d.id]:List Int) (aj.y z) (ak.y z) (T.y z) (al.y z) (U.y z) (an.y z) af aB.rsl q) ?_
   rintro x6 h v11 c6 F5 ⟨F,ag,v12,aN,rfl,rfl,bn⟩
   replace i:=i.fr ag (F.q 5 J) (F.q 6 J)
   replace w:=w.fr ag (F.q 4 J) (Dj.sub (F.q 6 J) i1)
   replace u:=u.fr ag (F.q 3 J) (Dj.sub (F.q 6 J) i2)
   replace G:=G.fr ag (F.q 2 J) (F.q 1 J)
   obtain⟨x7,bo,h⟩:=bs h
   refine le' (cq aF.lasts aF.one ci mQ J J J J J (js:=[4]) (Rr:=[ob v11,aN,ob v10,ay,ob A,ob V,ob g,x]) J G bn (fun ap=>ap.q 3 J) (fun ap=>ap.q 1 J) bo) J ?_
   rintro bp cc cd ⟨⟨P,aC⟩,bq⟩
   replace i:=i.fr aC (P.q 6 J) (P.q 7 J)
   replace w:=w.fr aC (P.q 5 J) (Dj.sub (P.q 7 J) i1)
   replace u:=u.fr aC (P.q 4 J) (Dj.sub (P.q 7 J) i2)
   refine wlL [(ay++aN),ob bp,ob v11,ob v10,ob A,ob V,ob g,x] (smg [4,2] J (SP.eq MC))<|art 7 [] J ?_
   exact lb [0,0,2,2,2,2] [1] (bh (_,_,_,_,_) ⟨h,i,w,u,bq⟩)
  refine atr 4 [] J<|lno u J<|art 3 [] J ?_
  refine lin (σ:=Hp × (List ah) × Value × List Nat × Int) (fun s=>[(1,g),(2,pQ B),(6,iV E),(7,s.2.2.1),(13,iV (y.length:Int)),(14,iV E),(40,A),(41,iV (W.length:Int)),(42,iV s.2.2.2.2)]) (fun s=>St w0 s.1 [(B,.cells #[f,j,l,t,a6,p,iV d.s.Next,iV d.id] 191 (0,0))] [s.2.2.2.1,ob s.2.2.1,ob A,ob g,x]) (fun m s=>cT N d s1 W E (bK N d y n1) m s.2.1 s.2.2.2.2=some r∧(OSl aT 103 1 s.1 x g s1)∧(OSl cL 105 2 s.1 D3 A W)∧(OSl aF 105 2 s.1 s.2.2.2.1 s.2.2.1 s.2.1)) (aL,s6,u4,ay,0) N ⟨h,i,u,G⟩ (sx [0,0,0,1,1] [0]) (fun n4 br s hm=>?_)
  obtain⟨cg,s8,u5,aD,s9⟩:=s
  obtain⟨h,i,u,k9⟩:=hm
  dsimp only at h i u k9 ⊢
  unfold cT at h
  refine att 5 [] J ?_
  refine ch h J ?_ ?_ <;> intro h
  ·refine atr 5 [] J ?_
   obtain⟨x8,aO,h⟩:=bs h
   obtain⟨cj,F6,-,g2,cn,cp,r4⟩:=u.elS (aa aO).2.2
   obtain⟨bu,G3,bw,G4,rfl,rfl,aP,bx⟩:=r4
   refine lio u aO J<|lgx 0 2 g2 J<|lnz fa J fun bz=>soN 0 sC J ⟨aP.one,bx.one,trivial⟩ J ?_
   refine en<|wm [0,1] [] J<|amm 10 [0,1,40,2,0,3,0,4,4,5,32,6,2,7,0,8,32,9] [0,1] J J ?_
   obtain⟨x9,aR,h⟩:=bs h
   obtain⟨cr,F7,-,g3,ct,cu,r5⟩:=T.el (aa aR).2.2
   obtain⟨rfl,-⟩:=r5
   refine mq 10 J MA (kN [0,1]) (ae aY J J T aR) J<|mq 11 J MA (kN [0,1]) (az rd J (fun Q hw=>(g3.of_eq 0 1 J J:rg _ _ _ [iV x9]).rangeAt hw.1)) J ?_
   obtain⟨bA,aS,h⟩:=bs h
   obtain⟨cv,F8,-,g4,cw,cx,r6⟩:=U.el (aa aS).2.2
   obtain⟨bB,G5,rfl,bC,bD⟩:=r6
   obtain rfl:=bC.symm
   refine mq 12 J MA (kN [0,1]) (ae oc J J U aS) J<|amm 1 [13,0] [0,1] J J<|mq 14 J MA (kN [0,1]) (az lz J (fun Q hw=>(g4.of_eq 0 1 J J:rg _ _ _ [bB]).rangeAt hw.1)) J ?_
   obtain⟨cy,bE,h⟩:=bs h
   refine WM.one 15 MA (mc J (fun _ v bF D Q hq hw=>Kn.of Kf.nil (ai2 0 1 J J) hw) (bt (js:=[]) (R:=[aD,ob u5,ob A,ob g,x]) I1 J J (fun Q hw ap hl=>jR N (ba hw.fro) d x8.Ids bA.L (aj.y hw.up) (ak.y hw.up) (T.y hw.up) (al.y hw.up) (U.y hw.up) (an.y hw.up) aP (bD.y hw.up)  bE)) J ?_)
   rintro v17 cz F9 ⟨S,aG,cA,aU,rfl,rfl,bG⟩
   replace i:=i.fr aG (S.q 3 J) (S.q 4 J)
   replace u:=u.fr aG (S.q 2 J) (Dj.sub (S.q 4 J) i2)
   replace k9:=k9.fr aG (S.q 1 J) (S.q 0 J)
   obtain⟨cB,bI,h⟩:=bs h
   refine WM.one 16 MA (me J (fun _ v bF D Q hq hw=>Kn.of Kf.nil (ai2 0 1 J J) hw) (cq aF.lasts aF.one ci mQ J J J J J (js:=[3]) (Rr:=[ob v17,aU,aD,ob A,ob g,x]) J k9 bG (fun ap=>ap.q 2 J) (fun ap=>ap.q 1 J) bI) J ?_)
   rintro bJ bL cC ⟨⟨ai,aV⟩,bM⟩
   replace i:=i.fr aV (ai.q 4 J) (ai.q 5 J)
   replace u:=u.fr aV (ai.q 3 J) (Dj.sub (ai.q 5 J) i2)
   refine WM.conv (S':=St w0 bL [(bz,.cells #[bu,bw] 105 (0,0)),(B,.cells #[f,j,l,t,a6,p,iV d.s.Next,iV d.id] 191 (0,0))] [(aD++aU),ob bJ,ob v17,ob A,ob g,x]) (fun Q hw=>hw.merge (js:=[3,2]) J (SP.eq MC))<|amm 1 [17] [0,1] J J<|WM.nil MA<|att 5 [] J ?_
   exact lb [0,0,1,1,1] [1] (br (_,_,_,_,_) ⟨h,i,u,bM⟩)
  refine xt J ?_
  exact wo [0,0,1,1] [0] (K (_,_,_,_) ⟨h,i,k9⟩)
 refine xt J ?_
 refine WT.fin hF aA.none (fun Q hw=>?_)
 cases h
 refine aW (js:=[2,2]) hw J ⟨x,J,J,i⟩
end Go.Proofs.YtedmfnmbjglmbaaGreat
