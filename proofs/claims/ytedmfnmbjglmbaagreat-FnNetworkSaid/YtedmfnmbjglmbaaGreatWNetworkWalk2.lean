/- Printed by a program of ours: each Go function computes its Lean function. -/
import Derived.Test.YtedmfnmbjglmbaaGreatProg
import Derived.Test.YtedmfnmbjglmbaaGreatWNetworkWalk1
namespace Go.Proofs.YtedmfnmbjglmbaaGreat
open Eng Tryz
open Go.RowKit (Below)
set_option linter.unusedVariables false
set_option linter.unusedSimpArgs false

set_option maxRecDepth 100000
set_option maxHeartbeats 1000000
variable {a e:Hp} {f o j ad l c8 ar pv2_1 b0 n a6 p t g:Value} {ai aE b5 b6 b8 c7 bX bY b9 c3 bj c0 aj b7 pG1:List Nat} (N:Nat)
theorem tF (w0:aA a e []) (b:af) (k:RSl bm 3 a ai f b.Items) {r:Bool} (h:mm N b=some r) :
  CB w0 prog 41 [.agg [f,iV b.Next].toArray] (.bool r):=by
 refine eN func41 J ntmps41 J w0 fun y=>?_
 unfold mm at h
 refine sr<|lbx J fun c=>arr 7 [0,0] J<|lnr k J<|arr 2 [] J ?_
 obtain⟨O,w,h⟩:=bs h
 refine WL.cutN 5 [(16,.bool O),(1,pQ c)] ?_ (fun K=>?_)
 rotate_left
 ·refine sp 11 w J (fun w=>?_) fun w=>?_
  ·refine arr 5 [] J ?_
   cases w
   exact ku K
  ·refine arr 2 [1,0] J<|ly J J<|qc w (dE N · b.Next 1 1000000 ·) J J J fun x1 w=>arr 2 [] J ?_
   cases w
   exact ku K
 refine en ?_
 refine ch h J ?_ ?_ <;> intro h
 ·refine att 4 [] J ?_
  exact rt y h
 refine atr 6 [0,0] J<|lnr k J<|art 3 [] J ?_
 refine lin (σ:=Int) (fun s=>[(1,pQ c),(18,f),(19,iV (b.Items.length:Int)),(20,iV s)]) (fun s=>St w0 e [(c,.cells #[f,iV b.Next] 29 (0,0))] []) (fun m s=>dG N b m s=some r) (0) N h (sx [] [0]) (fun A P s hm=>?_)
 revert hm;revert s;intro s1 hm
 have h:dG N b (A+1) s1=some r:=hm
 show WT _ _ [(1,pQ c),(18,f),(19,iV (b.Items.length:Int)),(20,iV s1)] (St w0 e [(c,.cells #[f,iV b.Next] 29 (0,0))] [])
 unfold dG at h
 refine att 5 [] J ?_
 refine ch h J ?_ ?_ <;> intro h
 ·refine atr 6 [] J ?_
  obtain⟨i,F,h⟩:=bs h
  obtain⟨aa,F1,-,g1,ab,ae,Q⟩:=k.el (a8 F).2.2
  obtain⟨v1,G1,rfl,R,h1⟩:=Q
  obtain rfl:=R.symm
  refine lia k F J<|lhx 0 3 g1 J<|lnz tI J fun x=>la J<|soN 0 yY J ⟨J,J,h1.one,trivial⟩ J ?_
  refine art 3 [] J<|WT.draw mixed OX (fun _ h=>h.drew)<|aqq 2 [1,2] J ?_
  obtain⟨x3,S,h⟩:=bs h
  refine qp (fj LO J (fun G hw=>A2 N (ba hw.in0) i.F h1 S)) J<|aqq 2 [] J ?_
  obtain⟨T,q,h⟩:=bs h
  refine WQ.cutN 8 [(37,.bool T),(1,pQ c),(3,iV s1),(4,pQ x),(18,f),(19,iV (b.Items.length:Int)),(20,iV s1)] ?_ (fun K=>?_)
  rotate_left
  ·refine WQ.split (d:=29) J (fun B=>?_) (fun B=>?_)
   ·replace q:=iE q B
    refine aqq 8 [] J ?_
    cases q
    exact kq K
   ·replace q:=iF q B
    refine aqq 5 [0,0,1,32] J<|WQ.yes J J ?_
    obtain⟨x4,U,q⟩:=bs q
    refine qp (fj M2 J (fun G hw=>dE N (ba hw.fro) i.Id 1 (wz (b.Next - 1)) U)) J<|aqq 2 [] J ?_
    cases q
    exact kq K
  refine qq (ga J) J ?_
  obtain⟨V,u,h⟩:=bs h
  refine WQ.cutN 15 [(53,.bool V),(1,pQ c),(3,iV s1),(4,pQ x),(18,f),(19,iV (b.Items.length:Int)),(20,iV s1)] ?_ (fun K=>?_)
  rotate_left
  ·refine WQ.split (d:=38) J (fun C=>?_) (fun C=>?_)
   ·replace u:=iE u C
    refine aqq 15 [] J ?_
    cases u
    exact kq K
   ·replace u:=iF u C
    refine aqq 3 [] J ?_
    obtain⟨W,v,u⟩:=bs u
    refine WQ.cutN 11 [(52,.bool W),(1,pQ c),(3,iV s1),(4,pQ x),(18,f),(19,iV (b.Items.length:Int)),(20,iV s1),(38,.bool false)] ?_ (fun K=>?_)
    rotate_left
    ·refine WQ.split (d:=41) J (fun D=>?_) (fun D=>?_)
     ·replace v:=iE v D
      refine aqq 6 [0,0,0,32] J<|WQ.yes J J ?_
      obtain⟨X,H,v⟩:=bs v
      obtain⟨ag,F2,-,g2,ah,al,Y⟩:=k.el (a8 H).2.2
      obtain⟨v2,G2,rfl,Z,h2⟩:=Y
      obtain rfl:=Z.symm
      refine qq (ak p9 J J k H) J<|WQ.yes J J<|qq (aB tL J) J<|WQ.yes J J<|qq (aW u6 J (fun G hw=>(g2.of_eq 0 1 J J:rg _ _ _ [iV X.Id]).rangeAt hw.in0)) J<|aqq 2 [] J ?_
      cases v
      exact kq K
     ·replace v:=iF v D
      refine aqq 11 [] J ?_
      cases v
      exact kq K
    refine WQ.q (rc J J) J J J ?_
    cases u
    exact kq K
  refine WQ.nil ?_
  refine ch h J ?_ ?_ <;> intro h
  ·refine att 4 [] J ?_
   exact rt y h
  refine atr 6 [0,32] J ?_
  obtain⟨z,I,h⟩:=bs h
  refine lq (L5 p9 J J k I) J ?_
  obtain⟨F3,E,an⟩:=k.sub I
  refine lnr E J<|art 3 [] J ?_
  refine lin (σ:=Int) (fun s=>[(1,pQ c),(4,pQ x),(18,f),(19,iV (b.Items.length:Int)),(20,iV s1),(57,(slc f (0:Int).toNat s1.toNat 3)),(58,iV (z.length:Int)),(59,iV s)]) (fun s=>St w0 e [(x,.cells #[iV i.Id,.string i.F.Kind,v1] 66 (0,0)),(c,.cells #[f,iV b.Next] 29 (0,0))] []) (fun m s=>eP N s1 (dG N b A) i z m s=some r) (0) N h (sx [] [0,0]) (fun n2 a1 s hm=>?_)
  revert hm;revert s;intro s2 hm
  have h:eP N s1 (dG N b A) i z (n2+1) s2=some r:=hm
  show WT _ _ [(1,pQ c),(4,pQ x),(18,f),(19,iV (b.Items.length:Int)),(20,iV s1),(57,(slc f (0:Int).toNat s1.toNat 3)),(58,iV (z.length:Int)),(59,iV s2)] (St w0 e [(x,.cells #[iV i.Id,.string i.F.Kind,v1] 66 (0,0)),(c,.cells #[f,iV b.Next] 29 (0,0))] [])
  unfold eP at h
  refine att 5 [] J ?_
  refine ch h J ?_ ?_ <;> intro h
  ·refine atr 5 [] J ?_
   obtain⟨x7,L,h⟩:=bs h
   obtain⟨ao,F4,-,g3,aq,au,r3⟩:=E.el (a8 L).2.2
   obtain⟨v3,G3,rfl,a7,M⟩:=r3
   obtain rfl:=a7.symm
   refine lia E L J<|lhx 0 3 g3 J<|lnz tI J fun av=>soN 0 yY J ⟨J,J,M.one,trivial⟩ J ?_
   refine arr 7 [1,34,1,2] J<|qd h (xF N · i.F x7.F h1 M ·) J J J fun x8 h=>en ?_
   refine ch h J ?_ ?_ <;> intro h
   ·refine att 4 [] J ?_
    exact rt y h
   refine att 6 [] J ?_
   exact lb [] [1,1] (a1 _ h)
  refine att 6 [] J ?_
  exact lb [] [1] (P _ h)
 refine att 5 [] J ?_
 exact rt y h
theorem q8 (w0:aA a e []) (i:(List bn)) (k:RSl aS 3 a aE o i) {r:(List bn)} (h:gy N i=some r) :
  Calls prog 196 [o].toArray w0.w (bc e w0.w [] (fun q Fs v=>∃ (b:Value),v=b∧Fs=[ob b]∧OSl aS 95 3 q [] b r)):=by
 refine eN func196 J ntmps196 J w0 fun m=>?_
 unfold gy at h
 refine att 6 [] J ?_
 rcases RSl.nilOr k with ⟨s,u,d⟩ | ⟨A,u,d⟩
 ·replace h:some []=some r:=by simpa[s,app] using h
  refine atr 2 [] J<|lq (o1 jq (congrArg some d) J) J<|en ?_
  refine cd J (fun c=>?_) (fun c=>by simp at c)
  refine att 4 [] J ?_
  refine WT.ret m (aC.one J) (fun w hw=>?_)
  cases h
  replace hw:=hw.addNil
  refine aK (js:=[0]) hw J ⟨.slice none 0 0,J,J,OSl.nil _ _ _ _⟩
 refine atr 2 [] J<|lq (o1 jq (congrArg some d) J) J<|en ?_
 refine cd J (fun c=>by simp at c) (fun c=>?_)
 refine atr 3 [] J<|le' (gT aS.lasts jq jg J J) J ?_
 rintro v1 B C ⟨D,h1⟩
 refine la J<|lu0 k fun x=>?_
 obtain⟨E,y,h⟩:=bs h
 refine le' (cG aS.lasts aS.one aS.flat jq CI J J J J J (js:=[0]) (Rr:=[]) J h1 x y) J ?_
 rintro v2 F G ⟨⟨H,I⟩,z⟩
 refine la J<|en ?_
 exact rtg [0] m (aC.one J) J (by cases h;exact fun w hw=>⟨v2,rfl,rfl,z⟩)
theorem xL (w0:aA a e []) (b:aL) (k:RSl aS 3 a ai f b.Fields) {r:aL} (h:nc N b=some r) :
  Calls prog 127 [.agg [.string b.Kind,f].toArray].toArray w0.w (bc e w0.w [] (fun m Fs v=>∃ (c:Value),v = .agg [.string r.Kind,c].toArray∧Fs=[ob c]∧OSl aS 95 3 m [] c r.Fields)):=by
 refine eN func127 J ntmps127 J w0 fun q=>?_
 unfold nc at h
 refine sr<|lbx J fun u=>lnz nv J fun w=>en<|sq<|wm [0,1] [6] J<|amm 4 [0,0,1,32,2,1,3,32] [0,1] J J ?_
 obtain⟨x,s,h⟩:=bs h
 refine WM.one 4 OX (mc J (fun _ v y D d z hw=>Kn.of Kf.nil (ai2 0 1 J J) hw) (bL (js:=[]) (R:=[]) K8 J J (fun d hw ap A=>q8 N (ba hw.fro) b.Fields (k.y hw.up)  s)) J ?_)
 rintro v1 B E ⟨F,G,v2,rfl,rfl,h1⟩
 refine mq 5 J OX (kN [0,1]) (bA (vs:=[(0,.string b.Kind),(1,v1)]) (C:=#[.string b.Kind,v1]) FP nv J (aa (C':=[.string b.Kind,.slice none 0 0]) J J J J J (aa (C':=[.string b.Kind,v1]) J (cN h1.one) J J J (ae)))) J ?_
 refine on1 6 (msN 0 J nk oZ J ⟨J,h1.one,trivial⟩ J J ?_)
 refine WM.nil OX ?_
 exact rtg [0] q (aC.one (bf nw J (fun d hw=>hw.rgO (i:=0) J 0 2 [.string b.Kind,v1] J) J)) J (by cases h;exact fun d hw=>⟨v1,rfl,rfl,h1⟩)
theorem rz (w0:aA a e []) (c:af) (d:Int) (u:RSl bm 3 a ai f c.Items) {r:aL × Bool} (h:mf N c d=some r) :
  Calls prog 131 [.agg [f,iV c.Next].toArray,iV d].toArray w0.w (bc e w0.w [] (fun D Fs v=>∃ (w:Value),v = .tuple #[.agg [.string r.1.Kind,w].toArray,.bool r.2]∧Fs=[ob w]∧OSl aS 95 3 D [] w r.1.Fields)):=by
 refine eN func131 J ntmps131 J w0 fun y=>?_
 unfold mf at h
 refine sr<|lbx J fun L=>lnz nv J fun k=>arr 7 [0,32] J<|lnr u J<|art 3 [] J ?_
 refine lin (σ:=Int) (fun s=>[(1,iV d),(4,pQ k),(9,f),(10,iV (c.Items.length:Int)),(11,iV s)]) (fun s=>St w0 e [(k,.cells #[.string (⟨#[]⟩:ByteArray),.slice none 0 0] 52 (0,0))] []) (fun m s=>hU N c d m s=some r) (0) N h (sx [] [0]) (fun E F s hm=>?_)
 revert hm;revert s;intro s1 hm
 have h:hU N c d (E+1) s1=some r:=hm
 show WT _ _ [(1,iV d),(4,pQ k),(9,f),(10,iV (c.Items.length:Int)),(11,iV s1)] (St w0 e [(k,.cells #[.string (⟨#[]⟩:ByteArray),.slice none 0 0] 52 (0,0))] [])
 unfold hU at h
 refine att 5 [] J ?_
 refine ch h J ?_ ?_ <;> intro h
 ·refine atr 5 [] J ?_
  obtain⟨G,A,h⟩:=bs h
  obtain⟨M,O,-,g1,P,Q,H⟩:=u.el (a8 A).2.2
  obtain⟨v1,R,rfl,I,h1⟩:=H
  obtain rfl:=I.symm
  refine lia u A J<|lhx 0 3 g1 J<|lnz tI J fun S=>soN 0 yY J ⟨J,J,h1.one,trivial⟩ J ?_
  refine art 8 [0,0] J ?_
  refine ch h J ?_ ?_ <;> intro h
  ·refine atr 4 [1,2] J<|kab h J J J (fun b z q=>xL N b G.F (h1.y z) q) ?_
   rintro K h v2 T U ⟨V,W,v3,rfl,rfl,B⟩
   refine soN 1 oZ J ⟨J,B.one,trivial⟩ J ?_
   refine la J<|en ?_
   exact rtg [0] y (aC.two (bf nw J (fun x hw=>hw.rgO (i:=1) J 0 2 [.string K.Kind,v3] J) J) J) J (by cases h;exact fun x hw=>⟨v3,rfl,rfl,B⟩)
  refine att 6 [] J ?_
  exact lb [] [1] (F _ h)
 refine xt J<|sr<|lq (bA (vs:=[]) (C:=#[.string (⟨#[]⟩:ByteArray),.slice none 0 0]) FP nv J (ae)) J<|soN 0 oZ J ⟨J,J,trivial⟩ J ?_
 refine la J<|en ?_
 refine WT.ret y (aC.two (bf nw J (fun x hw=>hw.rgO (i:=0) J 0 2 [.string (⟨#[]⟩:ByteArray),.slice none 0 0] J) J) J) (fun x hw=>?_)
 cases h
 replace hw:=hw.addNil
 refine aK (js:=[0]) hw J ⟨.slice none 0 0,J,J,OSl.nil _ _ _ _⟩
theorem zL (w0:aA a e []) (b:ax) (q:aL) (A:RSl aS 3 a ai f b.Consts) (B:RSl (RI .i64) 1 a b5 j b.At) (x:RSl aS 3 a b6 ad q.Fields) {r:Bool} (h:pL N b q=some r) :
  CB w0 prog 132 [.agg [.string b.Kind,iV b.N,f,j].toArray,.agg [.string q.Kind,ad].toArray] (.bool r):=by
 refine eN func132 J ntmps132 J w0 fun C=>?_
 unfold pL at h
 refine sr<|lbx J fun i=>lbx J fun k=>arr 11 [0,0,0,32] J ?_
 obtain⟨M,w,h⟩:=bs h
 refine WL.cutN 7 [(19,.bool M),(2,pQ i),(3,pQ k)] ?_ (fun K=>?_)
 rotate_left
 ·refine sp 12 w J (fun w=>?_) fun w=>?_
  ·refine arr 7 [] J ?_
   cases w
   exact ku K
  ·refine arr 2 [1,0] J<|ly J J<|lnr x J<|arr 4 [1,32] J ?_
   cases w
   exact ku K
 refine en ?_
 refine ch h J ?_ ?_ <;> intro h
 ·refine att 4 [] J ?_
  exact rt C h
 refine atr 6 [3,32] J<|lnr B J<|art 3 [] J ?_
 refine lin (σ:=Int) (fun s=>[(2,pQ i),(3,pQ k),(21,j),(22,iV (b.At.length:Int)),(23,iV s)]) (fun s=>St w0 e [(k,.cells #[.string q.Kind,ad] 52 (0,0)),(i,.cells #[.string b.Kind,iV b.N,f,j] 137 (0,0))] []) (fun m s=>j0 N b q m s=some r) (0) N h (sx [] [0,0]) (fun O P s hm=>?_)
 revert hm;revert s;intro s1 hm
 have h:j0 N b q (O+1) s1=some r:=hm
 show WT _ _ [(2,pQ i),(3,pQ k),(21,j),(22,iV (b.At.length:Int)),(23,iV s1)] (St w0 e [(k,.cells #[.string q.Kind,ad] 52 (0,0)),(i,.cells #[.string b.Kind,iV b.N,f,j] 137 (0,0))] [])
 unfold j0 at h
 refine att 5 [] J ?_
 refine ch h J ?_ ?_ <;> intro h
 ·refine atr 6 [] J ?_
  obtain⟨G,H,h⟩:=bs h
  obtain⟨X,Y,-,g1,Z,a1,Q⟩:=B.el (a8 H).2.2
  obtain⟨rfl,-⟩:=Q
  refine lia B H J<|lhx 0 0 g1 J<|art 4 [] J<|WT.draw mixed OX (fun _ h=>h.drew)<|aqq 3 [] J ?_
  obtain⟨R,u,h⟩:=bs h
  refine WQ.cutN 6 [(36,.bool R),(2,pQ i),(3,pQ k),(5,iV s1),(6,iV G),(21,j),(22,iV (b.At.length:Int)),(23,iV s1)] ?_ (fun K=>?_)
  rotate_left
  ·refine WQ.split (d:=30) J (fun D=>?_) (fun D=>?_)
   ·replace u:=iE u D
    refine aqq 6 [] J ?_
    cases u
    exact kq K
   ·replace u:=iF u D
    refine aqq 3 [1,0] J<|WQ.yes J J<|qq (mP jq J J x) J<|aqq 2 [] J ?_
    cases u
    exact kq K
  refine qq (ga J) J ?_
  obtain⟨S,v,h⟩:=bs h
  refine WQ.cutN 6 [(43,.bool S),(2,pQ i),(3,pQ k),(5,iV s1),(6,iV G),(21,j),(22,iV (b.At.length:Int)),(23,iV s1)] ?_ (fun K=>?_)
  rotate_left
  ·refine WQ.split (d:=37) J (fun E=>?_) (fun E=>?_)
   ·replace v:=iE v E
    refine aqq 6 [] J ?_
    cases v
    exact kq K
   ·replace v:=iF v E
    refine aqq 3 [2,32] J<|WQ.yes J J<|qq (mP jq J J A) J<|aqq 2 [] J ?_
    cases v
    exact kq K
  refine qq (ga J) J ?_
  obtain⟨T,c,h⟩:=bs h
  refine WQ.cutN 12 [(56,.bool T),(2,pQ i),(3,pQ k),(21,j),(22,iV (b.At.length:Int)),(23,iV s1)] ?_ (fun K=>?_)
  rotate_left
  ·refine WQ.split (d:=44) J (fun F=>?_) (fun F=>?_)
   ·replace c:=iE c F
    refine aqq 12 [] J ?_
    cases c
    exact kq K
   ·replace c:=iF c F
    refine aqq 3 [1,0] J<|WQ.yes J J ?_
    obtain⟨y,I,c⟩:=bs c
    obtain⟨a7,F2,-,g2,aa,ab,U⟩:=x.el (a8 I).2.2
    obtain⟨rfl,-⟩:=U
    refine qq (ak jq J J x I) J<|WQ.yes J J<|qq (ay kz J (fun V hw=>(g2.of_eq 0 3 J J:rg _ _ _ [iV y.K,iV y.N,.string y.S]).rangeAt hw.in0) J) J<|aqq 3 [2,32] J<|WQ.yes J J ?_
    obtain⟨z,L,c⟩:=bs c
    obtain⟨ae,F3,-,g3,af,ag,W⟩:=A.el (a8 L).2.2
    obtain⟨rfl,-⟩:=W
    refine qq (ak jq J J A L) J<|WQ.yes J J<|qq (ay kz J (fun V hw=>(g3.of_eq 0 3 J J:rg _ _ _ [iV z.K,iV z.N,.string z.S]).rangeAt hw.in0) J) J<|WQ.yes J J<|qq (u9 mi J J J (r:=bp y z) J) J<|WQ.q (rc J J) J J J ?_
    cases c
    exact kq K
  refine WQ.nil ?_
  refine ch h J ?_ ?_ <;> intro h
  ·refine att 4 [] J ?_
   exact rt C h
  refine att 6 [] J ?_
  exact lb [] [0,0] (P _ h)
 refine att 5 [] J ?_
 exact rt C h
theorem rb (w0:aA a e []) (d:ah) (x:Bool) (q:RSl cI 3 a ai f d.Pats) (V:RSl bT 11 a b5 j d.Conds) (W:RSl fm 5 a b8 l d.Acts) {r:(List az)} (h:oL N d x=some r) :
  Calls prog 115 [.agg [.string d.Name,iV d.Sal,f,j,l].toArray,.bool x].toArray w0.w (bc e w0.w [] (fun G Fs v=>∃ (y:Value) (A:List Nat),v=y∧Fs=[ob y]∧OSl cI 201 3 G A y r∧(∀ k∈A,k∈ai))):=by
 refine eN func115 J ntmps115 J w0 fun H=>?_
 unfold oL at h
 refine sr<|lbx J fun X=>arr 11 [2,0] J<|lnr q J<|art 3 [] J<|wtS ?_
 have I:=OSl.nil cI 201 3 e
 refine lin (σ:=Hp × (List az) × Value × List Nat × Int) (fun s=>[(1,.bool x),(5,s.2.2.1),(9,f),(10,iV (d.Pats.length:Int)),(11,iV s.2.2.2.2)]) (fun s=>St w0 s.1 [] [ob s.2.2.1]) (fun m s=>jz N d x m s.2.1 s.2.2.2.2=some r∧(OSl cI 201 3 s.1 s.2.2.2.1 s.2.2.1 s.2.1)∧(∀ k∈s.2.2.2.1,k∈ai)) (e,([]:List az),(.slice none 0 0),[],0) N ⟨h,I,OZ⟩ (sx [0] []) (fun Y B s hm=>?_)
 obtain⟨K,s1,L,M,s2⟩:=s
 obtain⟨h,i,u⟩:=hm
 dsimp only at h i u ⊢
 unfold jz at h
 refine att 5 [] J ?_
 refine ch h J ?_ ?_ <;> intro h
 ·refine atr 5 [] J ?_
  obtain⟨b,D,h⟩:=bs h
  obtain⟨Z,F1,-,g1,a1,E,O⟩:=q.el (a8 D).2.2
  obtain⟨v1,w,rfl,P,h1⟩:=O
  obtain rfl:=P.symm
  refine lia q D J<|lhx 0 3 g1 J<|lnz mg J fun a7=>soN 0 pO J ⟨J,h1.one,J,trivial⟩ J ?_
  refine arr 6 [2,0] J<|lq (Ng N8 J J) J<|en ?_
  refine ch h J ?_ ?_ <;> intro h
  ·refine atr 3 [3] J<|lu0 h1 fun Q=>?_
   have F:RC cI 3 K ([w]:List (List Nat)) [.string b.Kind,v1,.bool b.Not] ([b]:List az):=RC.cons (c:=[.string b.Kind,v1,.bool b.Not]) (cells:=[]) ⟨v1,w,J,J,Q⟩ J (RC.nil _ _ _)
   refine le' (bv (vs:=[(0,.agg [.string b.Kind,v1,.bool b.Not].toArray)]) (C:=#[.string b.Kind,v1,.bool b.Not]) cI.lasts rO mg J J J J (ao yA (aa (C':=[.string b.Kind,v1,.bool b.Not]) J J J J J (ae))) J F J (RC.kn cI.knows F)) J ?_
   rintro v2 R D2 ⟨S,z⟩
   replace z:OSl cI 201 3 R (w) v2 ([b]:List az):=by simpa[gi] using z
   replace i:=i.f0 S
   obtain⟨x2,T,h⟩:=bs h
   refine le' (et cI.lasts cI.one rO E3 J J J J J (js:=[1]) (Rr:=[ob v2]) J i z (fun ap=>(Dj.sub (ap.o q.old) u)) (fun ap=>(Dj.sub (Dj.sub (ap.o q.old) (fun k h=>E k h)) (fun k hk=>(by simpa[gi] using hk:k∈w)))) T) J ?_
   rintro v3 ab D3 ⟨⟨af,ag⟩,U⟩
   refine art 7 [] J ?_
   exact lb [0] [] (B (_,_,_,_,_) ⟨h,U,(fun k hk=>((gh.1 hk).elim (fun h=>(u k h)) (fun h=>((fun k h=>E k h) k ((fun k hk=>(by simpa[gi] using hk:k∈w)) k h)))))⟩)
  refine att 6 [] J ?_
  exact lb [0] [] (B (_,_,_,_,_) ⟨h,i,(fun k hk=>(u k hk))⟩)
 refine att 6 [] J ?_
 exact rtg [0] H (aC.one J) J (by cases h;exact fun w1 hw=>⟨L,M,rfl,rfl,i,(fun k hk=>(u k hk))⟩)
theorem xN (w0:aA a e []) (u:bq) (E:cA) (F:aY) (c:af) (d:Int) (G:Int) (H:RSl eC 5 a ai f u.Rules) (I:RSl fw 2 a c7 c8 E.Chains) (w:RSl jO 1 a bX ar F.Alphas) (K:RSl bm 3 a bY b0 c.Items) {r:du} (h:pn N u E F c d G=some r) :
  Calls prog 133 [.agg [.string u.Name,f].toArray,.agg [ad,c8].toArray,.agg [ar,pv2_1].toArray,.agg [b0,iV c.Next].toArray,iV d,iV G].toArray w0.w (bc e w0.w [] (fun m Fs v=>∃ (x:Value) (L:List Nat) (y:Value) (M:List Nat) (O:Value) (P:List Nat) (Q:Value) (S:List Nat) (T:Value) (U:List Nat) (V:Value) (W:List Nat),v = .agg [x,y,O,Q,T,V,iV r.s.Next,iV r.id].toArray∧Fs=[ob x,ob y]∧OSl cI 201 3 m L x r.pos∧(∀ k∈L,k∈ai)∧OSl cI 201 3 m M y r.neg∧(∀ k∈M,k∈ai)∧RSl (RI .i64) 1 m P O r.chain.Pos∧(∀ k∈P,k∈c7)∧RSl (RI .i64) 1 m S Q r.chain.Neg∧(∀ k∈S,k∈c7)∧RSl jO 1 m U T r.alphas∧(∀ k∈U,k∈bX)∧RSl bm 3 m W V r.s.Items∧(∀ k∈W,k∈bY))):=by
 refine eN func133 J ntmps133 J w0 fun hF=>?_
 unfold pn at h
 refine sr<|lbx J fun ao=>lbx J fun aq=>lbx J fun au=>lbx J fun av=>lnz Eq J fun aw=>arr 6 [1,128] J ?_
 obtain⟨X,Y,h⟩:=bs h
 obtain⟨ax,F1,-,g1,az,Z,r1⟩:=H.el (a8 Y).2.2
 obtain⟨v1,G1,v2,G2,v3,G3,rfl,rfl,h1,z,A⟩:=r1
 refine lia H Y J<|lhx 0 5 g1 J<|lnz wx J fun aB=>soN 0 yK J ⟨J,J,h1.one,z.one,A.one,trivial⟩ J ?_
 refine en<|sq<|wm [0,1,2,3,4,5] [14] J<|amm 5 [0,5,2,5,4,1,5,128,6] [0,1,2,3,4,5] J J ?_
 obtain⟨x2,a1,h⟩:=bs h
 obtain⟨aD,F2,-,g2,aF,a7,r2⟩:=I.el (a8 a1).2.2
 obtain⟨v4,G4,v5,G5,rfl,rfl,h4,h5⟩:=r2
 refine mq 7 J OX (kN [0,1,2,3,4,5]) (ak B6 J J I a1) J<|mq 8 J OX (kN [0,1,2,3,4,5]) (ay Hu J (fun q hw=>(g2.of_eq 0 2 J J:rg _ _ _ [v4,v5]).rangeAt hw.1) J) J<|amm 4 [9,0,10,96,11,66,12] [0,1,2,3,4,5] J J ?_
 obtain⟨x3,ag,h⟩:=bs h
 refine WM.one 1 OX (mc J (fun _ v ah D q hq hw=>Kn.of Kf.nil (am [0,1,2,3,4,5] J) hw) (bL (js:=[]) (R:=[]) FL J J (fun q hw ap hl=>rb N (ba hw.fro) X false (h1.y hw.up) (z.y hw.up) (A.y hw.up)  ag)) J ?_)
 rintro v6 aG F3 ⟨aH,aI,v7,D1,rfl,rfl,s,i1⟩
 obtain⟨x4,al,h⟩:=bs h
 refine WM.one 3 OX (mc J (fun _ v ah D q hq hw=>Kn.of Kf.nil (am [0,1,2,3,4,5] J) hw) (bL (js:=[]) (R:=[ob v6]) FL J J (fun q hw ap hl=>rb N (ba hw.fro) X true (h1.y hw.up) (z.y hw.up) (A.y hw.up)  al)) J ?_)
 rintro b aJ F4 ⟨ab,an,v9,D2,rfl,rfl,B,i2⟩
 replace s:=s.fr an (ab.q 0 J) (Dj.sub (ab.o h1.old) i1)
 refine mq 13 J OX (kN [0,1,2,3,4,5]) (bA (vs:=[(0,v6),(1,b),(2,.agg [v4,v5].toArray),(3,ar),(4,.agg [b0,iV c.Next].toArray),(5,iV d)]) (C:=#[v6,b,v4,v5,ar,b0,iV c.Next,iV d]) LE Eq J (aa (C':=[v6,.slice none 0 0,.slice none 0 0,.slice none 0 0,.slice none 0 0,.slice none 0 0,iV 0,iV 0]) J (cN s.one) J J J (aa (C':=[v6,b,.slice none 0 0,.slice none 0 0,.slice none 0 0,.slice none 0 0,iV 0,iV 0]) J (cN B.one) J J J (aa (C':=[v6,b,v4,v5,.slice none 0 0,.slice none 0 0,iV 0,iV 0]) J J J J J (aa (C':=[v6,b,v4,v5,ar,.slice none 0 0,iV 0,iV 0]) J (cN w.one) J J J (aa (C':=[v6,b,v4,v5,ar,b0,iV c.Next,iV 0]) J J J J J (aa (C':=[v6,b,v4,v5,ar,b0,iV c.Next,iV d]) J J J J J (ae)))))))) J ?_
 refine on1 14 (msN 1 J nk HP J ⟨s.one,B.one,h4.one,h5.one,w.one,K.one,J,J,trivial⟩ J J ?_)
 refine WM.nil OX ?_
 exact rtg [1,0] hF (aC.one (bf HS J (fun q hw=>hw.rgO (i:=1) J 0 8 [v6,b,v4,v5,ar,b0,iV c.Next,iV d] J) J)) J (by cases h;exact fun q hw=>⟨v6,D1,b,D2,v4,G4,v5,G5,ar,bX,b0,bY,rfl,rfl,s,(fun k hk=>((fun k h=>Z k (gh.2 (.inl h))) k (i1 k hk))),B,(fun k hk=>((fun k h=>Z k (gh.2 (.inl h))) k (i2 k hk))),(h4.y hw.up),(fun k hk=>((fun k h=>a7 k (gh.2 (.inl h))) k hk)),(h5.y hw.up),(fun k hk=>((fun k h=>a7 k (gh.2 (.inr h))) k hk)),(w.y hw.up),(fun k hk=>hk),(K.y hw.up),(fun k hk=>hk)⟩)
theorem cZ (w0:aA a e []) (i:(List aq)) (k:RSl aG 4 a aE o i) {r:(List aq)} (h:bz N i=some r) :
  Calls prog 222 [o].toArray w0.w (bc e w0.w [] (fun q Fs v=>∃ (b:Value),v=b∧Fs=[ob b]∧OSl aG 97 4 q [] b r)):=by
 refine eN func222 J ntmps222 J w0 fun m=>?_
 unfold bz at h
 refine att 6 [] J ?_
 rcases RSl.nilOr k with ⟨s,u,d⟩ | ⟨A,u,d⟩
 ·replace h:some []=some r:=by simpa[s,app] using h
  refine atr 2 [] J<|lq (o1 lA (congrArg some d) J) J<|en ?_
  refine cd J (fun c=>?_) (fun c=>by simp at c)
  refine att 4 [] J ?_
  refine WT.ret m (aC.one J) (fun w hw=>?_)
  cases h
  replace hw:=hw.addNil
  refine aK (js:=[0]) hw J ⟨.slice none 0 0,J,J,OSl.nil _ _ _ _⟩
 refine atr 2 [] J<|lq (o1 lA (congrArg some d) J) J<|en ?_
 refine cd J (fun c=>by simp at c) (fun c=>?_)
 refine atr 3 [] J<|le' (gT aG.lasts lA rE J J) J ?_
 rintro v1 B C ⟨D,h1⟩
 refine la J<|lu0 k fun x=>?_
 obtain⟨E,y,h⟩:=bs h
 refine le' (cG aG.lasts aG.one aG.flat lA xu J J J J J (js:=[0]) (Rr:=[]) J h1 x y) J ?_
 rintro v2 F G ⟨⟨H,I⟩,z⟩
 refine la J<|en ?_
 exact rtg [0] m (aC.one J) J (by cases h;exact fun w hw=>⟨v2,rfl,rfl,z⟩)
theorem uC (w0:aA a e []) (b:(List aq)) (c:ByteArray) (k:RSl aG 4 a aE o b) {r:bn × Bool} (h:nB N b c=some r) :
  CB w0 prog 223 [o,.string c] (.tuple #[.agg [iV r.1.K,iV r.1.N,.string r.1.S].toArray,.bool r.2]):=by
 refine eN func223 J ntmps223 J w0 fun v=>?_
 unfold nB at h
 refine sr<|lnz jg J fun d=>arr 6 [] J<|lnr k J<|art 3 [] J ?_
 refine lin (σ:=Int) (fun s=>[(1,.string c),(4,pQ d),(8,o),(9,iV (b.length:Int)),(10,iV s)]) (fun s=>St w0 e [(d,.cells #[iV 0,iV 0,.string (⟨#[]⟩:ByteArray)] 95 (0,0))] []) (fun m s=>iY N b c m s=some r) (0) N h (sx [] [0]) (fun x y s hm=>?_)
 revert hm;revert s;intro s1 hm
 have h:iY N b c (x+1) s1=some r:=hm
 show WT _ _ [(1,.string c),(4,pQ d),(8,o),(9,iV (b.length:Int)),(10,iV s1)] (St w0 e [(d,.cells #[iV 0,iV 0,.string (⟨#[]⟩:ByteArray)] 95 (0,0))] [])
 unfold iY at h
 refine att 5 [] J ?_
 refine ch h J ?_ ?_ <;> intro h
 ·refine atr 5 [] J ?_
  obtain⟨q,w,h⟩:=bs h
  obtain⟨A,B,-,g1,D,E,z⟩:=k.el (a8 w).2.2
  obtain⟨rfl,-⟩:=z
  refine lia k w J<|lhx 0 4 g1 J<|lnz rE J fun F=>soN 0 N3 J ⟨J,J,J,J,trivial⟩ J ?_
  refine art 8 [0,0] J ?_
  refine ch h J ?_ ?_ <;> intro h
  ·refine atr 4 [1,3] J<|soN 1 mj J ⟨J,J,J,trivial⟩ J ?_
   refine la J<|en ?_
   refine WT.ret v (aC.two (bf kz J (fun u hw=>hw.rgO (i:=1) J 0 3 [iV q.V.K,iV q.V.N,.string q.V.S] J) J) J) (fun u hw=>?_)
   cases h
   exact dQ hw
  refine att 6 [] J ?_
  exact lb [] [1] (y _ h)
 refine xt J<|sr<|lq (bA (vs:=[]) (C:=#[iV 0,iV 0,.string (⟨#[]⟩:ByteArray)]) uI jg J (ae)) J<|soN 0 mj J ⟨J,J,J,trivial⟩ J ?_
 refine la J<|en ?_
 refine WT.ret v (aC.two (bf kz J (fun u hw=>hw.rgO (i:=0) J 0 3 [iV 0,iV 0,.string (⟨#[]⟩:ByteArray)] J) J) J) (fun u hw=>?_)
 cases h
 exact dQ hw
theorem lV (w0:aA a e []) (u:az) (x:aL) (w:(List aq)) (B:RSl f8 5 a ai f u.Args) (H:RSl aS 3 a b6 ad x.Fields) (D:RSl aG 4 a b9 n w) {r:(List aq) × Bool} (h:iW N u x w=some r) :
  Calls prog 184 [.agg [.string u.Kind,f,.bool u.Not].toArray,.agg [.string x.Kind,ad].toArray,n].toArray w0.w (bc e w0.w [] (fun S Fs v=>∃ (I:Value),v = .tuple #[I,.bool r.2]∧Fs=[ob I]∧OSl aG 97 4 S [] I r.1)):=by
 refine eN func184 J ntmps184 J w0 fun E=>?_
 unfold iW at h
 refine sr<|lbx J fun T=>lbx J fun F=>arr 12 [0,0,0,32] J ?_
 obtain⟨U,y,h⟩:=bs h
 refine WL.cutN 8 [(27,.bool U),(2,n),(3,pQ T),(4,pQ F)] ?_ (fun K=>?_)
 rotate_left
 ·refine sp 19 y J (fun y=>?_) fun y=>?_
  ·refine arr 8 [] J ?_
   cases y
   exact ku K
  ·refine arr 2 [1,0] J<|ly J J<|lnr H J<|arr 2 [1,32] J<|ly J J<|lnr B J<|arr 2 [] J ?_
   cases y
   exact ku K
 refine en ?_
 refine ch h J ?_ ?_ <;> intro h
 ·refine sr<|la J<|kab h J J J (fun b z q=>cZ N b w (D.y z) q) ?_
  rintro x1 h v1 ak F1 ⟨al,an,v2,rfl,rfl,h1⟩
  refine art 3 [] J ?_
  exact rtg [0] E (aC.two J J) J (by cases h;exact fun L hw=>⟨v1,rfl,rfl,h1⟩)
 refine atr 4 [] J<|kab h J J J (fun b z q=>cZ N b w (D.y z) q) ?_
 rintro V h v3 W F2 ⟨au,av,v4,rfl,rfl,X⟩
 refine arr 7 [1,32] J<|lnr B J<|art 3 [] J ?_
 refine lin (σ:=Hp × (List aq) × Value × Int) (fun s=>[(2,n),(4,pQ F),(8,s.2.2.1),(33,f),(34,iV (u.Args.length:Int)),(35,iV s.2.2.2)]) (fun s=>St w0 s.1 [(F,.cells #[.string x.Kind,ad] 52 (0,0))] [ob s.2.2.1]) (fun m s=>eh N u x w m s.2.1 s.2.2.2=some r∧(OSl aG 97 4 s.1 [] s.2.2.1 s.2.1)) (W,V,v3,0) N ⟨h,X⟩ (sx [0] [0]) (fun n1 G s hm=>?_)
 obtain⟨Y,s1,O,s2⟩:=s
 obtain⟨h,k⟩:=hm
 dsimp only at h k ⊢
 unfold eh at h
 refine att 5 [] J ?_
 refine ch h J ?_ ?_ <;> intro h
 ·refine atr 6 [] J ?_
  obtain⟨i,P,h⟩:=bs h
  obtain⟨aw,F3,-,g1,ax,ay,Z⟩:=B.el (a8 P).2.2
  obtain⟨rfl,-⟩:=Z
  refine lia B P J<|lhx 0 5 g1 J<|lnz kt J fun a1=>la J<|soN 0 jo J ⟨J,J,J,J,J,trivial⟩ J ?_
  refine arr 6 [1,32] J ?_
  obtain⟨d,Q,h⟩:=bs h
  obtain⟨aB,F4,-,g2,aD,aF,r2⟩:=H.el (a8 Q).2.2
  obtain⟨rfl,-⟩:=r2
  refine lia H Q J<|lhx 0 3 g2 J<|lnz jg J fun a7=>soN 0 mj J ⟨J,J,J,trivial⟩ J ?_
  refine art 12 [0,32] J ?_
  refine ch h J ?_ ?_ <;> intro h
  ·refine atr 5 [2,35,3] J<|lq (u9 mi J J J (r:=bp i.V d) J) J<|en ?_
   refine ch h J ?_ ?_ <;> intro h
   ·refine sr<|la J<|kab h J J J (fun b z q=>cZ N b w (D.y z) q) ?_
    rintro x5 h v5 aH F5 ⟨aI,aJ,v6,rfl,rfl,h3⟩
    refine art 3 [] J ?_
    exact rtg [0] E (aC.two J J) J (by cases h;exact fun L hw=>⟨v5,rfl,rfl,h3⟩)
   refine att 7 [] J ?_
   exact lb [0] [2] (G (_,_,_,_) ⟨h,k⟩)
  refine att 5 [] J ?_
  refine ch h J ?_ ?_ <;> intro h
  ·refine atr 5 [1,32] J<|qc h (uC N · s1 i.S k.rsl ·) J J J fun R h=>arr 3 [] J<|lnz jg J fun aK=>soN 0 mj J ⟨J,J,J,trivial⟩ J ?_
   refine arr 7 [] J ?_
   obtain⟨b2,A,h⟩:=bs h
   refine WL.cutN 4 [(69,.bool b2),(2,n),(4,pQ F),(8,O),(10,pQ a1),(11,pQ a7),(13,.bool R.2),(33,f),(34,iV (u.Args.length:Int)),(35,iV s2)] ?_ (fun K=>?_)
   rotate_left
   ·refine sp 65 A J (fun A=>?_) fun A=>?_
    ·refine arr 2 [3,35] J<|ly J J<|lq (u9 mi J J J (r:=bp R.1 d) J) J<|la J ?_
     cases A
     exact ku K
    ·refine arr 4 [] J ?_
     cases A
     exact ku K
   refine en ?_
   refine ch h J ?_ ?_ <;> intro h
   ·refine sr<|la J<|kab h J J J (fun b z q=>cZ N b w (D.y z) q) ?_
    rintro x7 h v7 aM F6 ⟨aN,aO,v8,rfl,rfl,h4⟩
    refine art 3 [] J ?_
    exact rtg [0] E (aC.two J J) J (by cases h;exact fun L hw=>⟨v7,rfl,rfl,h4⟩)
   refine att 6 [] J ?_
   refine ch h J ?_ ?_ <;> intro h
   ·refine atr 5 [1,64,35] J<|lq (bA (vs:=[(0,.string i.S),(1,.agg [iV d.K,iV d.N,.string d.S].toArray)]) (C:=#[.string i.S,iV d.K,iV d.N,.string d.S]) Lg rE J (aa (C':=[.string i.S,iV 0,iV 0,.string ⟨#[]⟩]) J J J J J (aa (C':=[.string i.S,iV d.K,iV d.N,.string d.S]) J J J J J (ae)))) J ?_
    have ab:RC aG 4 Y ([[]]:List (List Nat)) [.string i.S,iV d.K,iV d.N,.string d.S] ([(⟨i.S,d⟩:aq)]:List aq):=RC.cons (c:=[.string i.S,iV d.K,iV d.N,.string d.S]) (cells:=[]) ⟨J,J⟩ J (RC.nil _ _ _)
    refine le' (bv (vs:=[(0,.agg [.string i.S,iV d.K,iV d.N,.string d.S].toArray)]) (C:=#[.string i.S,iV d.K,iV d.N,.string d.S]) aG.lasts lA rE J J J J (ao FC (aa (C':=[.string i.S,iV d.K,iV d.N,.string d.S]) J J J J J (ae))) J ab J (by simpa using Kw.nil)) J ?_
    rintro v9 af D1 ⟨ag,M⟩
    replace M:OSl aG 97 4 af [] v9 ([(⟨i.S,d⟩:aq)]:List aq):=by simpa using M
    replace k:=k.f0 ag
    obtain⟨x8,ah,h⟩:=bs h
    refine le' (cG aG.lasts aG.one aG.flat lA xu J J J J J (js:=[1]) (Rr:=[ob v9]) J k M.rsl ah) J ?_
    rintro v10 aP D2 ⟨⟨aQ,aR⟩,h6⟩
    refine art 8 [] J ?_
    exact lb [0] [3] (G (_,_,_,_) ⟨h,h6⟩)
   refine att 7 [] J ?_
   exact lb [0] [3] (G (_,_,_,_) ⟨h,k⟩)
  refine att 7 [] J ?_
  exact lb [0] [2] (G (_,_,_,_) ⟨h,k⟩)
 refine att 7 [] J ?_
 exact rtg [0] E (aC.two J J) J (by cases h;exact fun L hw=>⟨O,rfl,rfl,k⟩)
theorem qw (w0:aA a e []) (u:(List az)) (d:af) (k:(List Int)) (B:RSl cI 3 a aE o u) (H:RSl bm 3 a b6 ad d.Items) (w:RSl (RI .i64) 1 a b9 n k) {r:(List aq) × Bool} (h:iS N u d k=some r) :
  Calls prog 116 [o,.agg [ad,iV d.Next].toArray,n].toArray w0.w (bc e w0.w [] (fun I Fs v=>∃ (x:Value),v = .tuple #[x,.bool r.2]∧Fs=[ob x]∧OSl aG 97 4 I [] x r.1)):=by
 refine eN func116 J ntmps116 J w0 fun y=>?_
 unfold iS at h
 refine sr<|lbx J fun C=>arr 11 [] J<|lnr w J<|art 3 [] J<|wtS ?_
 have K:=OSl.nil aG 97 4 e
 refine lin (σ:=Hp × (List aq) × Value × Int) (fun s=>[(0,o),(4,pQ C),(8,s.2.2.1),(13,n),(14,iV (k.length:Int)),(15,iV s.2.2.2)]) (fun s=>St w0 s.1 [(C,.cells #[ad,iV d.Next] 29 (0,0))] [ob s.2.2.1]) (fun m s=>ee N u d k m s.2.1 s.2.2.2=some r∧(OSl aG 97 4 s.1 [] s.2.2.1 s.2.1)) (e,([]:List aq),(.slice none 0 0),0) N ⟨h,K⟩ (sx [0] [0]) (fun n1 L s hm=>?_)
 obtain⟨a1,s1,E,s2⟩:=s
 obtain⟨h,c⟩:=hm
 dsimp only at h c ⊢
 unfold ee at h
 refine att 5 [] J ?_
 refine ch h J ?_ ?_ <;> intro h
 ·refine atr 6 [] J ?_
  obtain⟨M,F,h⟩:=bs h
  obtain⟨a7,F1,-,g1,aa,ab,O⟩:=w.el (a8 F).2.2
  obtain⟨rfl,-⟩:=O
  refine lia w F J<|lhx 0 0 g1 J<|arr 7 [2] J<|kab h J J J (fun b z q=>rz N b d M (H.y z) q) ?_
  rintro P h v1 ae F2 ⟨Q,S,v2,rfl,rfl,h1⟩
  replace c:=c.fr S (Q.q 0 J) dN
  refine arr 3 [] J<|lnz nv J fun ag=>soN 0 oZ J ⟨J,h1.one,trivial⟩ J ?_
  refine art 8 [] J ?_
  refine ch h J ?_ ?_ <;> intro h
  ·refine att 5 [] J ?_
   refine WT.ret y (aC.two J J) (fun i hw=>?_)
   cases h
   replace hw:=hw.addNil
   refine aK (js:=[0]) hw J ⟨.slice none 0 0,J,J,OSl.nil _ _ _ _⟩
  refine att 2 [] J<|wm [0,1] [] J<|amm 2 [0,1] [0,1] J J ?_
  obtain⟨A,G,h⟩:=bs h
  obtain⟨ah,F3,-,g2,al,an,T⟩:=B.el (a8 G).2.2
  obtain⟨v3,G1,rfl,U,V⟩:=T
  obtain rfl:=U.symm
  refine mq 2 J OX (kN [0,1]) (ak rO J J B G) J<|mq 3 J OX (kN [0,1]) (ay tV J (fun i hw=>(g2.of_eq 0 3 J J:rg _ _ _ [.string A.Kind,v3,.bool A.Not]).rangeAt hw.1) J) J<|amm 2 [4,2,5] [0,1] J J ?_
  obtain⟨x4,W,h⟩:=bs h
  refine WM.one 6 OX (mc J (fun _ v ao D i hq hw=>Kn.of Kf.nil (ai2 0 1 J J) hw) (bL (js:=[]) (R:=[ob v2,ob E]) Fw J J (fun i hw ap hl=>lV N (ba hw.fro) A P.1 s1 (V.y hw.up) h1.rsl c.rsl  W)) J ?_)
  rintro v4 au F4 ⟨X,Y,v5,rfl,rfl,Z⟩
  replace c:=c.fr Y (X.q 1 J) dN
  refine amm 5 [7,8,9,10,11] [0,1] J J<|WM.nil OX<|att 5 [] J ?_
  refine ch h J ?_ ?_ <;> intro h
  ·refine att 5 [] J ?_
   refine WT.ret y (aC.two J J) (fun i hw=>?_)
   cases h
   replace hw:=hw.addNil
   refine aK (js:=[0]) hw J ⟨.slice none 0 0,J,J,OSl.nil _ _ _ _⟩
  refine att 6 [] J ?_
  exact lb [0] [1] (L (_,_,_,_) ⟨h,Z⟩)
 refine att 7 [] J ?_
 exact rtg [0] y (aC.two J J) J (by cases h;exact fun i hw=>⟨E,rfl,rfl,c⟩)
theorem ux (w0:aA a e [ob g,aj].flatten) (c:du) (y:(List an)) (u:Int) (ae:RSl cI 3 a ai f c.pos) (Q:RSl cI 3 a b5 j c.neg) (aw:RSl (RI .i64) 1 a b8 l c.chain.Pos) (ax:RSl (RI .i64) 1 a c3 a6 c.chain.Neg) (ay:RSl jO 1 a bj p c.alphas) (V:RSl bm 3 a c0 t c.s.Items) (I:OSl aU 105 2 e aj g y) {r:(List an)} (h:iu N c y u=some r) :
  Calls prog 134 [.agg [f,j,l,a6,p,t,iV c.s.Next,iV c.id].toArray,g,iV u].toArray w0.w (bc e w0.w [ob g,aj].flatten (fun af Fs v=>∃ (W:List Nat),v = .tuple #[]∧Fs=[ob g,W]∧OSl aU 105 2 af W g r)):=by
 refine eL func134 J ntmps134 J (L:=[ob g,aj]) w0 (fun hF=>?_)
 unfold iu at h
 refine sr<|lbx J fun K=>arr 7 [5,2,7,0] J<|kab h J J J (fun b z q=>rz N b c.s c.id (V.y z) q) ?_
 rintro w h v1 ag F1 ⟨X,ah,v2,rfl,rfl,h1⟩
 replace I:=I.fr ah (X.q 0 J) (X.q 1 J)
 refine arr 3 [] J<|lnz nv J fun M=>soN 0 oZ J ⟨J,h1.one,trivial⟩ J ?_
 refine arr 5 [] J<|lno I J<|art 3 [] J ?_
 refine lin (σ:=Hp × (List an) × List Nat × Int) (fun s=>[(2,iV u),(3,pQ K),(6,pQ M),(24,g),(25,iV (y.length:Int)),(26,iV s.2.2.2)]) (fun s=>St w0 s.1 [(M,.cells #[.string w.1.Kind,v2] 52 (0,0)),(K,.cells #[f,j,l,a6,p,t,iV c.s.Next,iV c.id] 191 (0,0))] [ob v2,ob g,s.2.2.1]) (fun m s=>cp N c y u w m s.2.1 s.2.2.2=some r∧(OSl aU 105 2 s.1 s.2.2.1 g s.2.1)∧(OSl aS 95 3 s.1 [] v2 w.1.Fields)) (ag,y,aj,0) N ⟨h,I,h1⟩ (sx [0,0,0] [0,0]) (fun n1 Y s hm=>?_)
 obtain⟨az,s1,D1,s2⟩:=s
 obtain⟨h,R,h1⟩:=hm
 dsimp only at h R h1 ⊢
 unfold cp at h
 refine att 5 [] J ?_
 refine ch h J ?_ ?_ <;> intro h
 ·refine atr 5 [] J ?_
  obtain⟨A,S,h⟩:=bs h
  obtain⟨aB,F2,D,B,r1,aD,ak⟩:=R.focus S
  obtain⟨v3,v4,rfl,rfl,d,E⟩:=r1
  refine wlL [ob v3,ob v4,D,ob v2,ob g] (sre [2] [ob v3,ob v4,D] J (by simpa[gi] using ak))<|lih B S J<|lgx 0 2 B.rg J<|lnz kv J fun Z=>soN 0 t8 J ⟨d.one,E.one,trivial⟩ J ?_
  refine arr 9 [0,64,5,66,0,0] J<|kab h J J J (fun b z q=>qw N b c.pos c.s A.Ids (ae.y z) (V.y z) d.rsl q) ?_
  rintro T h v5 a1 F3 ⟨F,O,v6,rfl,rfl,i⟩
  replace B:=B.fr O (F.q 4 J) (F.q 2 J)
  replace h1:=h1.fr O (F.q 3 J) dN
  replace d:=d.fr O (F.q 0 J) dN
  replace E:=E.fr O (F.q 1 J) dN
  refine art 12 [] J ?_
  refine ch h J ?_ ?_ <;> intro h
  ·refine att 5 [] J ?_
   have r2:aU a1 _ [v3,v4] A:=⟨v3,v4,J,J,d,E⟩
   obtain⟨D3,h6,al⟩:=B.unfocus r2 (aU.knows _ _ _ _ r2)
   rw[Hq S] at h6
   refine wtL [D3,ob v6,ob v2,ob g] (smg [1,1,1] J (by simpa[gi,cT] using al)) ?_
   exact lb [2,2,0] [1,1] (Y (_,_,_,_) ⟨h,h6,h1⟩)
  refine atr 5 [1,64] J<|lnr Q J<|art 3 [] J ?_
  refine lin (σ:=Hp × (List Int) × Int) (fun s=>[(2,iV u),(3,pQ K),(6,pQ M),(9,pQ Z),(10,v6),(24,g),(25,iV (y.length:Int)),(26,iV s2),(43,j),(44,iV (c.neg.length:Int)),(45,iV s.2.2)]) (fun s=>St w0 s.1 [(Z,.cells #[v3,v4] 105 (0,0)),(M,.cells #[.string w.1.Kind,v2] 52 (0,0)),(K,.cells #[f,j,l,a6,p,t,iV c.s.Next,iV c.id] 191 (0,0))] [ob v6,ob v3,ob v4,D,ob v2,ob g]) (fun m s=>cQ N c u w s1 s2 (cp N c y u w n1) A T m s.2.1 s.2.2=some r∧(OSl aS 95 3 s.1 [] v2 w.1.Fields)∧(OSl (RI .i64) 3 1 s.1 [] v3 A.Ids)∧(OSl (RI .i64) 3 1 s.1 [] v4 s.2.1)∧(OSl aG 97 4 s.1 [] v6 T.1)∧(HSl aU 105 2 s.1 D g s1 s2.toNat [v3,v4])) (a1,A.Hits,0) N ⟨h,h1,d,E,i,B⟩ (sx [0,0,0,0,0,0] [0,0,0]) (fun n2 a7 s hm=>?_)
  obtain⟨ao,s3,s4⟩:=s
  obtain⟨h,h1,d,k,i,x⟩:=hm
  dsimp only at h h1 d k i x ⊢
  unfold cQ at h
  refine att 5 [] J ?_
  refine ch h J ?_ ?_ <;> intro h
  ·refine atr 6 [] J ?_
   obtain⟨x4,aa,h⟩:=bs h
   obtain⟨aF,F4,-,g1,aH,aI,r3⟩:=Q.el (a8 aa).2.2
   obtain⟨v7,G1,rfl,aq,h7⟩:=r3
   obtain rfl:=aq.symm
   refine lia Q aa J<|lhx 0 3 g1 J<|lnz mg J fun aJ=>la J<|soN 0 pO J ⟨J,h7.one,J,trivial⟩ J ?_
   refine arr 6 [3,66] J<|kab h J J J (fun b z q=>lV N b x4 w.1 T.1 (h7.y z) h1.rsl i.rsl q) ?_
   rintro x5 h v8 aL F5 ⟨C,G,v9,rfl,rfl,h8⟩
   replace x:=x.fr G (C.q 5 J) (C.q 3 J)
   replace h1:=h1.fr G (C.q 4 J) dN
   replace d:=d.fr G (C.q 1 J) dN
   replace k:=k.fr G (C.q 2 J) dN
   replace i:=i.fr G (C.q 0 J) dN
   refine art 10 [] J ?_
   refine ch h J ?_ ?_ <;> intro h
   ·refine atr 4 [1,32] J ?_
    obtain⟨x6,ab,h⟩:=bs h
    obtain⟨aM,F6,-,g2,aN,aO,r4⟩:=k.elS (a8 ab).2.2
    obtain⟨rfl,-⟩:=r4
    refine lio k ab J<|lgx 0 0 g2 J<|arr 2 [] J ?_
    obtain⟨x7,U,h⟩:=bs h
    obtain⟨aP,F7,-,g3,aQ,aR,r5⟩:=k.elS (a8 U).2.2
    obtain⟨rfl,-⟩:=r5
    refine lio k U J<|lu (Ej (js:=[3]) (Rr:=[ob v9,ob v6,ob v3,D,ob v2,ob g]) (vs:=[iV (wz (x6+u))]) (x':=wz (x6+u)) RI.lasts RI.flat A6 J J J J ⟨J,trivial⟩ J k (va U) ⟨J,J⟩) J ?_
    rintro aT D4 ⟨⟨H,P⟩,h9⟩
    replace x:=x.fr P (H.q 5 J) (H.q 3 J)
    replace h1:=h1.fr P (H.q 4 J) dN
    replace d:=d.fr P (H.q 2 J) dN
    replace i:=i.fr P (H.q 1 J) dN
    refine art 6 [] J ?_
    exact lb [2,2,0,1,1,1] [1,1,1] (a7 (_,_,_) ⟨h,h1,d,h9,i,x⟩)
   refine att 6 [] J ?_
   exact lb [1,1,1,1,1,1] [1,1,1] (a7 (_,_,_) ⟨h,h1,d,k,i,x⟩)
  refine att 6 [] J ?_
  have r6:aU ao _ [v3,v4] (⟨A.Ids,s3⟩:an):=⟨v3,v4,J,J,d,k⟩
  obtain⟨D5,au,av⟩:=x.unfocus r6 (aU.knows _ _ _ _ r6)
  refine wtL [D5,ob v6,ob v2,ob g] (smg [1,1,1] J (by simpa[gi,cT] using av)) ?_
  exact lb [2,2,0] [1,1] (Y (_,_,_,_) ⟨h,au,h1⟩)
 refine xt J ?_
 refine WT.fin hF aC.none (fun w1 hw=>?_)
 cases h
 refine aK (js:=[1,1]) hw J ⟨D1,J,J,R⟩
theorem kL (w0:aA a e []) (m:(List an)) (b:RSl dU 2 a aE o m) {r:(List an)} (h:eA N m=some r) :
  Calls prog 179 [o].toArray w0.w (bc e w0.w [] (fun x Fs v=>∃ (d:Value) (q:List Nat),v=d∧Fs=[ob d]∧OSl dU 105 2 x q d r∧(∀ k∈q,k∈aE))):=by
 refine eN func179 J ntmps179 J w0 fun s=>?_
 unfold eA at h
 refine att 6 [] J ?_
 rcases RSl.nilOr b with ⟨y,z,i⟩ | ⟨H,z,i⟩
 ·replace h:some []=some r:=by simpa[y,app] using h
  refine atr 2 [] J<|lq (o1 eB (congrArg some i) J) J<|en ?_
  refine cd J (fun c=>?_) (fun c=>by simp at c)
  refine att 4 [] J ?_
  refine WT.ret s (aC.one J) (fun u hw=>?_)
  cases h
  replace hw:=hw.addNil
  refine aK (js:=[0]) hw J ⟨.slice none 0 0,[],J,J,OSl.nil _ _ _ _,OZ⟩
 refine atr 2 [] J<|lq (o1 eB (congrArg some i) J) J<|en ?_
 refine cd J (fun c=>by simp at c) (fun c=>?_)
 refine atr 3 [] J ?_
 have A:RC aU 2 e ([]:List (List Nat)) [] ([]:List an):=RC.nil _ _ _
 refine le' (bv (vs:=[]) (C:=#[]) aU.lasts eB kv J J J J (ao tJ (ae)) J A J (by simpa using Kw.nil)) J ?_
 rintro v1 w I ⟨K,h1⟩
 replace h1:OSl aU 105 2 w [] v1 ([]:List an):=by simpa[gi] using h1
 refine WL.conv (S':=St w0 w [] [[],ob v1]) (fun u hw=>hw.addNil)<|la J<|lu0 b fun B=>?_
 obtain⟨L,D,h⟩:=bs h
 replace h1:=h1.gives aU.gives
 refine le' (LU dU.lasts dU.knows dU.one eB sJ J J J J J (js:=[1]) (Rr:=[[]]) J h1 B (fun ap=>dN) (fun ap=>(ap.o b.old)) D) J ?_
 rintro v2 M E ⟨⟨O,P⟩,F,G⟩
 refine la J<|en ?_
 exact rtg [0] s (aC.one J) J (by cases h;exact fun u hw=>⟨v2,E,rfl,rfl,G,(fun k hk=>((fun k hk=>(by simpa using F k hk:k∈aE)) k hk))⟩)
theorem oz (w0:aA a e []) (q:(List an)) (b:OSl dU 105 2 a b7 o q) {r:(List an)} (h:eV N q=some r) :
  Calls prog 179 [o].toArray w0.w (bc e w0.w [] (fun y Fs v=>∃ (d:Value) (s:List Nat),v=d∧Fs=[ob d]∧OSl dU 105 2 y s d r∧(∀ k∈s,k∈b7))):=by
 refine eN func179 J ntmps179 J w0 fun u=>?_
 unfold eV at h
 refine att 6 [] J ?_
 rcases RSl.nilOr (b.rsl) with ⟨z,A,i⟩ | ⟨H,A,i⟩
 ·replace h:some []=some r:=by simpa[z,app] using h
  refine atr 2 [] J<|lq (o1 eB (congrArg some i) J) J<|en ?_
  refine cd J (fun c=>?_) (fun c=>by simp at c)
  refine att 4 [] J ?_
  refine WT.ret u (aC.one J) (fun w hw=>?_)
  cases h
  replace hw:=hw.addNil
  refine aK (js:=[0]) hw J ⟨.slice none 0 0,[],J,J,OSl.nil _ _ _ _,OZ⟩
 refine atr 2 [] J<|lq (o1 eB (congrArg some i) J) J<|en ?_
 refine cd J (fun c=>by simp at c) (fun c=>?_)
 refine atr 3 [] J ?_
 have B:RC aU 2 e ([]:List (List Nat)) [] ([]:List an):=RC.nil _ _ _
 refine le' (bv (vs:=[]) (C:=#[]) aU.lasts eB kv J J J J (ao tJ (ae)) J B J (by simpa using Kw.nil)) J ?_
 rintro v1 x I ⟨K,h1⟩
 replace h1:OSl aU 105 2 x [] v1 ([]:List an):=by simpa[gi] using h1
 refine WL.conv (S':=St w0 x [] [[],ob v1]) (fun w hw=>hw.addNil)<|la J<|luO b fun D=>?_
 obtain⟨E,F,h⟩:=bs h
 replace h1:=h1.gives aU.gives
 refine le' (et dU.lasts dU.one eB sJ J J J J J (js:=[1]) (Rr:=[[]]) J h1 D (fun ap=>dN) (fun ap=>(ap.o b.old)) F) J ?_
 rintro v2 G L ⟨⟨M,O⟩,m⟩
 replace m:OSl dU 105 2 G b7 v2 E:=by simpa using m
 refine la J<|en ?_
 exact rtg [0] u (aC.one J) J (by cases h;exact fun w hw=>⟨v2,b7,rfl,rfl,m,(fun k hk=>hk)⟩)
theorem fb (w0:aA a e []) (i:(List Int)) (k:RSl (RI .i64) 1 a aE o i) {r:(List Int)} (h:cH N i=some r) :
  Calls prog 56 [o].toArray w0.w (bc e w0.w [] (fun q Fs v=>∃ (b:Value),v=b∧Fs=[ob b]∧OSl (RI .i64) 3 1 q [] b r)):=by
 refine eN func56 J ntmps56 J w0 fun m=>?_
 unfold cH at h
 refine att 6 [] J ?_
 rcases RSl.nilOr k with ⟨s,u,d⟩ | ⟨A,u,d⟩
 ·replace h:some []=some r:=by simpa[s,app] using h
  refine atr 2 [] J<|lq (o1 bw (congrArg some d) J) J<|en ?_
  refine cd J (fun c=>?_) (fun c=>by simp at c)
  refine att 4 [] J ?_
  refine WT.ret m (aC.one J) (fun w hw=>?_)
  cases h
  replace hw:=hw.addNil
  refine aK (js:=[0]) hw J ⟨.slice none 0 0,J,J,OSl.nil _ _ _ _⟩
 refine atr 2 [] J<|lq (o1 bw (congrArg some d) J) J<|en ?_
 refine cd J (fun c=>by simp at c) (fun c=>?_)
 refine atr 3 [] J<|le' (gT (R:=RI .i64) RI.lasts bw jR J J) J ?_
 rintro v1 B C ⟨D,h1⟩
 refine la J<|lu0 k fun x=>?_
 obtain⟨E,y,h⟩:=bs h
 refine le' (cG RI.lasts RI.one RI.flat bw oK J J J J J (js:=[0]) (Rr:=[]) J h1 x y) J ?_
 rintro v2 F G ⟨⟨H,I⟩,z⟩
 refine la J<|en ?_
 exact rtg [0] m (aC.one J) J (by cases h;exact fun w hw=>⟨v2,rfl,rfl,z⟩)
theorem uU (w0:aA a e []) (c:az) (d:af) (i:(List aq)) (x:RSl f8 5 a ai f c.Args) (u:RSl bm 3 a b6 ad d.Items) (y:RSl aG 4 a b9 n i) {r:Int} (h:nU N c d i=some r) :
  CB w0 prog 232 [.agg [.string c.Kind,f,.bool c.Not].toArray,.agg [ad,iV d.Next].toArray,n] (iV r):=by
 refine eN func232 J ntmps232 J w0 fun A=>?_
 unfold nU at h
 refine sr<|lbx J fun k=>lbx J fun G=>arr 11 [0,0] J<|lnr u J<|art 3 [] J ?_
 refine lin (σ:=Hp × Int × Int) (fun s=>[(2,n),(3,pQ k),(7,iV s.2.1),(13,ad),(14,iV (d.Items.length:Int)),(15,iV s.2.2)]) (fun s=>St w0 s.1 [(k,.cells #[.string c.Kind,f,.bool c.Not] 201 (0,0))] []) (fun m s=>fo N c d i m s.2.1 s.2.2=some r) (e,0,0) N h (sx [] [1]) (fun B v s hm=>?_)
 obtain⟨C,s1,s2⟩:=s
 have h:fo N c d i (B+1) s1 s2=some r:=hm
 show WT _ _ [(2,n),(3,pQ k),(7,iV s1),(13,ad),(14,iV (d.Items.length:Int)),(15,iV s2)] (St w0 C [(k,.cells #[.string c.Kind,f,.bool c.Not] 201 (0,0))] [])
 unfold fo at h
 refine att 5 [] J ?_
 refine ch h J ?_ ?_ <;> intro h
 ·refine atr 5 [] J ?_
  obtain⟨D,w,h⟩:=bs h
  obtain⟨H,I,-,g1,K,L,E⟩:=u.el (a8 w).2.2
  obtain⟨v1,M,rfl,F,h1⟩:=E
  obtain rfl:=F.symm
  refine lia u w J<|lhx 0 3 g1 J<|lnz tI J fun O=>soN 0 yY J ⟨J,J,h1.one,trivial⟩ J ?_
  refine arr 7 [35,1,2] J<|kab h J J J (fun b z q=>lV N b c D.F i (x.y z) (h1.y z) (y.y z) q) ?_
  rintro P h v2 Q R ⟨S,T,v3,rfl,rfl,U⟩
  refine art 10 [] J ?_
  refine ch h J ?_ ?_ <;> intro h
  ·refine att 10 [] J ?_
   exact lb [] [1] (v (_,_,_) h)
  refine att 6 [] J ?_
  exact lb [] [1] (v (_,_,_) h)
 refine att 6 [] J ?_
 exact rt A h
theorem kV (w0:aA a e []) (i:du) (G:(List Int)) (A:(List Int)) (Z:RSl cI 3 a ai f i.pos) (Q:RSl cI 3 a b5 j i.neg) (aV:RSl (RI .i64) 1 a b8 l i.chain.Pos) (aW:RSl (RI .i64) 1 a c3 a6 i.chain.Neg) (aX:RSl jO 1 a bj p i.alphas) (a1:RSl bm 3 a c0 t i.s.Items) (aw:RSl (RI .i64) 1 a pG1 g G) (R:RSl (RI .i64) 1 a b9 n A) {r:(List an)} (h:fc N i G A=some r) :
  Calls prog 197 [.agg [f,j,l,a6,p,t,iV i.s.Next,iV i.id].toArray,g,n].toArray w0.w (bc e w0.w [] (fun ax Fs v=>∃ (S:Value) (a7:List Nat),v=S∧Fs=[ob S,a7]∧OSl aU 105 2 ax a7 S r)):=by
 refine eN func197 J ntmps197 J w0 fun hF=>?_
 unfold fc at h
 refine sr<|lbx J fun H=>arr 10 [] J<|lnr R J<|art 3 [] J<|wtS<|wt0 ?_
 have k1:=OSl.nil aU 105 2 e
 refine lin (σ:=Hp × (List an) × Value × List Nat × Int) (fun s=>[(1,g),(3,pQ H),(7,s.2.2.1),(16,n),(17,iV (A.length:Int)),(18,iV s.2.2.2.2)]) (fun s=>St w0 s.1 [(H,.cells #[f,j,l,a6,p,t,iV i.s.Next,iV i.id] 191 (0,0))] [s.2.2.2.1,ob s.2.2.1]) (fun m s=>bO N i G A m s.2.1 s.2.2.2.2=some r∧(OSl aU 105 2 s.1 s.2.2.2.1 s.2.2.1 s.2.1)) (e,([]:List an),(.slice none 0 0),[],0) N ⟨h,k1⟩ (sx [0,0] [0]) (fun n1 ab s hm=>?_)
 obtain⟨aY,s1,w,x,s2⟩:=s
 obtain⟨h,d⟩:=hm
 dsimp only at h d ⊢
 unfold bO at h
 refine att 5 [] J ?_
 refine ch h J ?_ ?_ <;> intro h
 ·refine atr 5 [] J ?_
  obtain⟨B,af,h⟩:=bs h
  obtain⟨aZ,F1,-,g1,b1,b2,r1⟩:=R.el (a8 af).2.2
  obtain⟨rfl,-⟩:=r1
  refine lia R af J<|lhx 0 0 g1 J<|arr 5 [] J<|kab h J J J (fun b z q=>fb N b G (aw.y z) q) ?_
  rintro x2 h v1 ay F2 ⟨ag,az,v2,rfl,rfl,h1⟩
  replace d:=d.fr az (ag.q 1 J) (ag.q 0 J)
  refine la J ?_
  have aB:RC (RI .i64) 1 ay ([[]]:List (List Nat)) [iV B] ([B]:List Int):=RC.cons (c:=[iV B]) (cells:=[]) ⟨J,J⟩ J (RC.nil _ _ _)
  refine le' (bv (vs:=[(0,iV B)]) (C:=#[iV B]) RI.lasts bw jR J J J J (ao jm (aa (C':=[iV B]) J J J J J (ae))) J aB J (by simpa using Kw.nil)) J ?_
  rintro v3 aD D2 ⟨ah,T⟩
  replace T:OSl (RI .i64) 3 1 aD [] v3 ([B]:List Int):=by simpa using T
  replace d:=d.f0 ah
  replace h1:=h1.f0 ah
  obtain⟨E,aF,h⟩:=bs h
  refine le' (cG RI.lasts RI.one RI.flat bw oK J J J J J (js:=[1]) (Rr:=[ob v3,x,ob w]) J h1 T.rsl aF) J ?_
  rintro v4 b3 D3 ⟨⟨ak,aH⟩,k⟩
  replace d:=d.fr aH (ak.q 2 J) (ak.q 1 J)
  refine arr 9 [0,0,5,2] J<|kab h J J J (fun b z q=>qw N b i.pos i.s E (Z.y z) (a1.y z) k.rsl q) ?_
  rintro U h v5 al F3 ⟨V,aq,v6,rfl,rfl,y⟩
  replace d:=d.fr aq (V.q 3 J) (V.q 2 J)
  replace k:=k.fr aq (V.q 0 J) dN
  refine art 12 [] J ?_
  refine ch h J ?_ ?_ <;> intro h
  ·refine att 5 [] J ?_
   exact lb [3,3] [0] (ab (_,_,_,_,_) ⟨h,d⟩)
  refine atr 4 [] J<|lq (bA (vs:=[(0,v4)]) (C:=#[v4,.slice none 0 0]) IV kv J (aa (C':=[v4,.slice none 0 0]) J (cN k.one) J J J (ae))) J<|lnz kv J fun L=>soN 0 t8 J ⟨k.one,J,trivial⟩ J ?_
  refine arr 5 [] J<|lno k J<|arr 2 [0,32] J<|lnr Z J<|la J<|en<|wtS ?_
  have k3:=OSl.nil (RI .i64) 3 1 al
  refine cut (σ:=Hp × (List Int) × Value) (fun s=>[(1,g),(3,pQ H),(7,w),(13,pQ L),(16,n),(17,iV (A.length:Int)),(18,iV s2)]) (fun s=>St w0 s.1 [(L,.cells #[v4,s.2.2] 105 (0,0)),(H,.cells #[f,j,l,a6,p,t,iV i.s.Next,iV i.id] 191 (0,0))] [ob s.2.2,ob v4,x,ob w]) (fun s=>cV N s1 s2 (bO N i G A n1) E s.2.1=some r∧(OSl aU 105 2 s.1 x w s1)∧(OSl (RI .i64) 3 1 s.1 [] v4 E)∧(OSl (RI .i64) 3 1 s.1 [] s.2.2 s.2.1)) (fun s hm=>?_) (fun K=>?_)
  ·clear h
   obtain⟨aI,s3,u⟩:=s
   obtain⟨h,d,k,k4⟩:=hm
   dsimp only at h d k k4 ⊢
   unfold cV at h
   refine atr 3 [2] J ?_
   have au:RC aU 2 aI ([(ob v4++[])++((ob u++[]))]:List (List Nat)) [v4,u] ([(⟨E,s3⟩:an)]:List an):=RC.cons (c:=[v4,u]) (cells:=[]) ⟨v4,u,J,J,k,k4⟩ J (RC.nil _ _ _)
   refine le' (bv (vs:=[(0,.agg [v4,u].toArray)]) (C:=#[v4,u]) aU.lasts eB kv J J J J (ao yE (aa (C':=[v4,u]) J J J J J (ae))) J au J (RC.kn aU.knows au)) J ?_
   rintro M aJ D4 ⟨aK,W⟩
   replace W:OSl aU 105 2 aJ ((ob v4++[])++((ob u++[]))) M ([(⟨E,s3⟩:an)]:List an):=by simpa[gi] using W
   replace d:=d.f0 aK
   refine wlL [((ob v4++[])++((ob u++[]))),ob M,x,ob w] (smg [2,1] J (SP.eq (by simp[gi,cT]))) ?_
   obtain⟨x5,aL,h⟩:=bs h
   refine le' (et aU.lasts aU.one eB sJ J J J J J (js:=[3]) (Rr:=[((ob v4++[])++((ob u++[]))),ob M,x]) J d W (fun ap=>ap.q 2 J) (fun ap=>ap.q 0 J) aL) J ?_
   rintro v8 b4 D5 ⟨⟨ba,bb⟩,h6⟩
   refine wlL [(x++((ob v4++[])++((ob u++[])))),ob v8,ob M] (smg [3,1] J (SP.eq OZ))<|art 7 [] J ?_
   exact lb [0,0] [1] (ab (_,_,_,_,_) ⟨h,h6⟩)
  refine ch h J ?_ ?_ <;> intro h
  ·refine atr 4 [1,32] J<|lnr Q J<|art 3 [] J ?_
   refine lin (σ:=Hp × (List Int) × Value × Int) (fun s=>[(1,g),(3,pQ H),(7,w),(11,v6),(13,pQ L),(16,n),(17,iV (A.length:Int)),(18,iV s2),(47,j),(48,iV (i.neg.length:Int)),(49,iV s.2.2.2)]) (fun s=>St w0 s.1 [(L,.cells #[v4,s.2.2.1] 105 (0,0)),(H,.cells #[f,j,l,a6,p,t,iV i.s.Next,iV i.id] 191 (0,0))] [ob s.2.2.1,ob v6,ob v4,x,ob w]) (fun m s=>cU N i s1 s2 (bO N i G A n1) E U m s.2.1 s.2.2.2=some r∧(OSl aU 105 2 s.1 x w s1)∧(OSl (RI .i64) 3 1 s.1 [] v4 E)∧(OSl aG 97 4 s.1 [] v6 U.1)∧(OSl (RI .i64) 3 1 s.1 [] s.2.2.1 s.2.1)) (al,([]:List Int),(.slice none 0 0),0) N ⟨h,d,k,y,k3⟩ (sx [0,0,0,1,1] [0,0]) (fun n3 aM s hm=>?_)
   obtain⟨aN,s4,u3,s5⟩:=s
   obtain⟨h,d,k,y,I⟩:=hm
   dsimp only at h d k y I ⊢
   unfold cU at h
   refine att 5 [] J ?_
   refine ch h J ?_ ?_ <;> intro h
   ·refine atr 5 [] J ?_
    obtain⟨x6,av,h⟩:=bs h
    obtain⟨bd,F4,-,g2,be,bf,r2⟩:=Q.el (a8 av).2.2
    obtain⟨v9,G1,rfl,aO,h7⟩:=r2
    obtain rfl:=aO.symm
    refine lia Q av J<|lhx 0 3 g2 J<|lnz mg J fun bg=>soN 0 pO J ⟨J,h7.one,J,trivial⟩ J ?_
    refine en<|wm [0,1,2] [10] J<|amm 6 [0,1,1,32,2,3,3,5,4,66,5] [0,1,2] J J ?_
    obtain⟨F,aP,h⟩:=bs h
    refine on1 6 (mp J (kS [0,1,2]) (pzP J (fun b z=>uU N b x6 i.s U.1 (h7.y z) (a1.y z) y.rsl aP)) J ?_)
    have aQ:RC (RI .i64) 1 aN ([[]]:List (List Nat)) [iV F] ([F]:List Int):=RC.cons (c:=[iV F]) (cells:=[]) ⟨J,J⟩ J (RC.nil _ _ _)
    refine WM.one 7 OX (me J (fun _ v aR D w1 hq hw=>Kn.of Kf.nil (ai3 0 1 2 J J J) hw) (bv (vs:=[(0,iV F)]) (C:=#[iV F]) RI.lasts bw jR J J J J (ao jm (aa (C':=[iV F]) J J J J J (ae))) J aQ J (by simpa using Kw.nil)) J ?_)
    rintro v10 aS D6 ⟨O,X⟩
    replace X:OSl (RI .i64) 3 1 aS [] v10 ([F]:List Int):=by simpa using X
    replace d:=d.f0 O
    replace k:=k.f0 O
    replace y:=y.f0 O
    replace I:=I.f0 O
    obtain⟨x8,aT,h⟩:=bs h
    refine WM.one 8 OX (me J (fun _ v aR D w1 hq hw=>Kn.of Kf.nil (ai3 0 1 2 J J J) hw) (cG RI.lasts RI.one RI.flat bw oK J J J J J (js:=[1]) (Rr:=[ob v10,ob v6,ob v4,x,ob w]) J I X.rsl aT) J ?_)
    rintro v11 bh D7 ⟨⟨P,Y⟩,h9⟩
    replace d:=d.fr Y (P.q 4 J) (P.q 3 J)
    replace k:=k.fr Y (P.q 2 J) dN
    replace y:=y.fr Y (P.q 1 J) dN
    refine amm 1 [9,1] [0,1,2] J J ?_
    refine on1 10 (ms1 1 J nk tB J h9.one ?_)
    refine WM.nil OX<|att 5 [] J ?_
    exact lb [0,1,1,1,1] [1,1] (aM (_,_,_,_) ⟨h,d,k,y,h9⟩)
   refine xt J ?_
   exact wo [0,1,1,1] [0,0] (K (_,_,_) ⟨h,d,k,I⟩)
  refine WT.skip ?_
  exact wo [0,1,2,2] [0,0] (K (_,_,_) ⟨h,d,k,k3⟩)
 refine att 6 [] J ?_
 exact rtg [1,0] hF (aC.one J) J (by cases h;exact fun w1 hw=>⟨w,x,rfl,rfl,d⟩)
theorem vc (w0:aA a e [ob g,aj].flatten) (d:du) (y:(List aw)) (ah:RSl cI 3 a ai f d.pos) (al:RSl cI 3 a b5 j d.neg) (T:RSl (RI .i64) 1 a b8 l d.chain.Pos) (aq:RSl (RI .i64) 1 a c3 a6 d.chain.Neg) (U:RSl jO 1 a bj p d.alphas) (au:RSl bm 3 a c0 t d.s.Items) (aI:OSl bo 103 1 e aj g y) {r:(List aw)} (h:iI N d y=some r) :
  Calls prog 135 [.agg [f,j,l,a6,p,t,iV d.s.Next,iV d.id].toArray,g].toArray w0.w (bc e w0.w [ob g,aj].flatten (fun aY Fs v=>∃ (aJ:List Nat),v = .tuple #[]∧Fs=[ob g,aJ]∧OSl bo 103 1 aY aJ g r)):=by
 refine eL func135 J ntmps135 J (L:=[ob g,aj]) w0 (fun hF=>?_)
 unfold iI at h
 refine sr<|lbx J fun B=>arr 9 [] J<|lno aI J<|art 3 [] J<|wtS ?_
 have k1:=OSl.nil dU 105 2 e
 refine wtS ?_
 have k2:=OSl.nil dU 105 2 e
 refine lin (σ:=Hp × (List aw) × List Nat × (List an) × Value × List Nat × (List an) × Value × List Nat × Int) (fun s=>[(1,g),(2,pQ B),(4,s.2.2.2.2.1),(5,s.2.2.2.2.2.2.2.1),(13,iV (y.length:Int)),(14,iV s.2.2.2.2.2.2.2.2.2)]) (fun s=>St w0 s.1 [(B,.cells #[f,j,l,a6,p,t,iV d.s.Next,iV d.id] 191 (0,0))] [ob s.2.2.2.2.2.2.2.1,ob s.2.2.2.2.1,ob g,s.2.2.1]) (fun m s=>bW N d y m s.2.1 s.2.2.2.1 s.2.2.2.2.2.2.1 s.2.2.2.2.2.2.2.2.2=some r∧(OSl bo 103 1 s.1 s.2.2.1 g s.2.1)∧(OSl dU 105 2 s.1 s.2.2.2.2.2.1 s.2.2.2.2.1 s.2.2.2.1)∧(∀ k∈s.2.2.2.2.2.1,k∈s.2.2.1)∧(OSl dU 105 2 s.1 s.2.2.2.2.2.2.2.2.1 s.2.2.2.2.2.2.2.1 s.2.2.2.2.2.2.1)∧(∀ k∈s.2.2.2.2.2.2.2.2.1,k∈s.2.2.1)) (e,y,aj,([]:List an),(.slice none 0 0),[],([]:List an),(.slice none 0 0),[],0) N ⟨h,aI,k1,OZ,k2,OZ⟩ (sx [0,0,0,0] [0]) (fun n1 aZ s hm=>?_)
 obtain⟨av,s1,x,s2,V,D2,W,A,D3,E⟩:=s
 obtain⟨h,i,w,i1,u,i2⟩:=hm
 dsimp only at h i w i1 u i2 ⊢
 unfold bW at h
 refine att 5 [] J ?_
 refine ch h J ?_ ?_ <;> intro h
 ·refine att 18 [] J<|wtS<|wt0 ?_
  have k6:=OSl.nil aU 105 2 av
  refine cut (σ:=Hp × (List an) × Value × List Nat) (fun s=>[(1,g),(2,pQ B),(6,iV E),(7,s.2.2.1),(13,iV (y.length:Int)),(14,iV E)]) (fun s=>St w0 s.1 [(B,.cells #[f,j,l,a6,p,t,iV d.s.Next,iV d.id] 191 (0,0))] [s.2.2.2,ob s.2.2.1,ob g,x]) (fun s=>cL N s1 E (bW N d y n1) s.2.1=some r∧(OSl bo 103 1 s.1 x g s1)∧(OSl aU 105 2 s.1 s.2.2.2 s.2.2.1 s.2.1)) (fun s hm=>?_) (fun K=>?_)
  ·clear h
   obtain⟨bO,s5,X,Y⟩:=s
   obtain⟨h,i,Z⟩:=hm
   dsimp only at h i Z ⊢
   unfold cL at h
   refine atr 4 [] J ?_
   obtain⟨x1,a7,h⟩:=bs h
   obtain⟨bP,F1,D5,h1,r1,bQ,b1⟩:=i.focus a7
   obtain⟨v1,H,rfl,rfl,h2⟩:=r1
   refine wlL [ob v1,H,D5,Y,ob X,ob g] (sre [3] [ob v1,H,D5] J (by simpa[gi] using b1))<|lih h1 a7 J<|lf ig J J J<|lgx 0 0 h1.rg J<|kab h J J J (fun b z q=>oz N b x1.Toks (h2.gives aU.gives) q) ?_
   rintro x2 h v2 bR F2 ⟨I,ax,v3,D7,rfl,rfl,h3,i3⟩
   replace h1:=h1.fr ax (I.q 5 J) (I.q 2 J)
   replace Z:=Z.fr ax (I.q 4 J) (I.q 3 J)
   replace h2:=h2.fr ax (I.q 0 J) (I.q 1 J)
   refine arr 12 [] J<|lih h1 a7 J<|lf ig J J J<|lgx 0 0 h1.rg J<|la J ?_
   obtain⟨x3,b2,h⟩:=bs h
   have h5:=Z.gives aU.gives
   refine le' (et aU.lasts aU.one eB sJ J J J J J (js:=[1]) (Rr:=[ob v2,H,D5,Y,ob X,ob g]) J h2 Z (fun ap=>ap.q 1 J) (fun ap=>ap.q 3 J) b2) J ?_
   rintro v4 bS D8 ⟨⟨M,ay⟩,h4⟩
   replace h1:=h1.fr ay (M.q 5 J) (M.q 2 J)
   replace h5:=h5.fr ay (M.q 4 J) (M.q 3 J)
   replace h3:=h3.fr ay (M.q 0 J) (Dj.sub (M.q 1 J) i3)
   refine wlL [(H++Y),ob v4,ob v2,D5,ob X,ob g] (smg [2,3] J (SP.eq OZ))<|lih h1 a7 J<|lf ig J J J<|lu (us [5] [(H++Y),ob v4,ob v2,D5,ob X] 0 bo.lasts Eo J J h4.one J h1 J (fun ap=>ap.q 3 J)) J ?_
   rintro b3 D9 ⟨⟨O,az⟩,h6⟩
   replace h5:=h5.fr az (O.q 4 J) (Dj.sub (O.q 0 J) (fun k hk=>gh.2 (.inr hk)))
   replace h4:=h4.fr az (O.q 1 J) (O.q 0 J)
   replace h3:=h3.fr az (O.q 2 J) (Dj.sub (Dj.sub (O.q 0 J) (fun k hk=>gh.2 (.inl hk))) i3)
   refine art 6 [] J ?_
   have r2:bo b3 _ [v4] (⟨x3⟩:aw):=⟨v4,(H++Y),J,J,h4⟩
   obtain⟨b4,h7,bb,aL,bT⟩:=h6.unfocusM r2 (bo.knows _ _ _ _ r2)
   refine wtL [b4,ob g,ob v2,ob X] (smg [2,1,2] J (by simpa[gi,cT] using bb)) ?_
   exact lb [3,2,1,0] [0] (aZ (_,_,_,_,_,_,_,_,_,_) ⟨h,h7,h3,(fun k hk=>((fun k hk=>(fun k hk=>aL k (gh.2 (.inr hk))) k ((fun k hk=>gh.2 (.inl hk)) k hk)) k (i3 k hk))),h5,(fun k hk=>((fun k hk=>(fun k hk=>aL k (gh.2 (.inr hk))) k ((fun k hk=>gh.2 (.inr hk)) k hk)) k hk))⟩)
  refine ch h J ?_ ?_ <;> intro h
  ·refine atr 4 [8,7,0] J ?_
   have bd:RC (RI .i64) 1 av ([[]]:List (List Nat)) [iV d.id] ([d.id]:List Int):=RC.cons (c:=[iV d.id]) (cells:=[]) ⟨J,J⟩ J (RC.nil _ _ _)
   refine le' (bv (vs:=[(0,iV d.id)]) (C:=#[iV d.id]) RI.lasts bw jR J J J J (ao jm (aa (C':=[iV d.id]) J J J J J (ae))) J bd J (by simpa using Kw.nil)) J ?_
   rintro v5 be bU ⟨bf,h8⟩
   replace h8:OSl (RI .i64) 3 1 be [] v5 ([d.id]:List Int):=by simpa using h8
   replace i:=i.f0 bf
   refine kab h J J J (fun b z q=>kV N b d [] ([d.id]:List Int) (ah.y z) (al.y z) (T.y z) (aq.y z) (U.y z) (au.y z) (RSl.nil _ _ _) h8.rsl q) ?_
   rintro x4 h v6 bV F3 ⟨aM,bg,v7,bZ,rfl,rfl,h9⟩
   replace i:=i.fr bg (aM.q 5 J) (aM.q 6 J)
   refine la J<|en ?_
   exact wo [1,0,5,5] [0] (K (_,_,_,_) ⟨h,i,h9⟩)
  refine atr 4 [] J<|lno w J<|art 3 [] J ?_
  refine lin (σ:=Hp × (List an) × Value × List Nat × Int) (fun s=>[(1,g),(2,pQ B),(5,A),(6,iV E),(7,s.2.2.1),(13,iV (y.length:Int)),(14,iV E),(24,V),(25,iV (s2.length:Int)),(26,iV s.2.2.2.2)]) (fun s=>St w0 s.1 [(B,.cells #[f,j,l,a6,p,t,iV d.s.Next,iV d.id] 191 (0,0))] [s.2.2.2.1,ob s.2.2.1,ob A,ob V,ob g,x]) (fun m s=>dA N d s1 s2 W E (bW N d y n1) m s.2.1 s.2.2.2.2=some r∧(OSl bo 103 1 s.1 x g s1)∧(OSl dU 105 2 s.1 D2 V s2)∧(OSl dU 105 2 s.1 D3 A W)∧(OSl aU 105 2 s.1 s.2.2.2.1 s.2.2.1 s.2.1)) (av,([]:List an),(.slice none 0 0),[],0) N ⟨h,i,w,u,k6⟩ (sx [0,0,0,0,0,0] [0]) (fun n3 bh s hm=>?_)
  obtain⟨aN,s6,u4,aB,s7⟩:=s
  obtain⟨h,i,w,u,G⟩:=hm
  dsimp only at h i w u G ⊢
  unfold dA at h
  refine att 5 [] J ?_
  refine ch h J ?_ ?_ <;> intro h
  ·refine atr 5 [] J ?_
   obtain⟨x5,aO,h⟩:=bs h
   obtain⟨c4,F4,-,g1,c5,c6,r3⟩:=w.elS (a8 aO).2.2
   obtain⟨v8,G1,v9,G2,rfl,rfl,ab,bk⟩:=r3
   refine lio w aO J<|lgx 0 2 g1 J<|lnz kv J fun c9=>soN 0 t8 J ⟨ab.one,bk.one,trivial⟩ J ?_
   refine arr 8 [40,0,0,7,32] J ?_
   have bl:RC (RI .i64) 1 aN ([[]]:List (List Nat)) [iV d.id] ([d.id]:List Int):=RC.cons (c:=[iV d.id]) (cells:=[]) ⟨J,J⟩ J (RC.nil _ _ _)
   refine le' (bv (vs:=[(0,iV d.id)]) (C:=#[iV d.id]) RI.lasts bw jR J J J J (ao jm (aa (C':=[iV d.id]) J J J J J (ae))) J bl J (by simpa using Kw.nil)) J ?_
   rintro v10 bn ca ⟨a1,aD⟩
   replace aD:OSl (RI .i64) 3 1 bn [] v10 ([d.id]:List Int):=by simpa using aD
   replace ab:=ab.f0 a1
   replace i:=i.f0 a1
   replace w:=w.f0 a1
   replace u:=u.f0 a1
   replace G:=G.f0 a1
   refine kab h J J J (fun b z q=>kV N b d x5.Ids ([d.id]:List Int) (ah.y z) (al.y z) (T.y z) (aq.y z) (U.y z) (au.y z) ab aD.rsl q) ?_
   rintro x6 h v11 cb F5 ⟨F,af,v12,aP,rfl,rfl,bp⟩
   replace i:=i.fr af (F.q 5 J) (F.q 6 J)
   replace w:=w.fr af (F.q 4 J) (Dj.sub (F.q 6 J) i1)
   replace u:=u.fr af (F.q 3 J) (Dj.sub (F.q 6 J) i2)
   replace G:=G.fr af (F.q 2 J) (F.q 1 J)
   obtain⟨x7,bq,h⟩:=bs h
   refine le' (et aU.lasts aU.one eB sJ J J J J J (js:=[4]) (Rr:=[ob v11,aP,ob v10,aB,ob A,ob V,ob g,x]) J G bp (fun ap=>ap.q 3 J) (fun ap=>ap.q 1 J) bq) J ?_
   rintro br cc cd ⟨⟨P,aF⟩,bt⟩
   replace i:=i.fr aF (P.q 6 J) (P.q 7 J)
   replace w:=w.fr aF (P.q 5 J) (Dj.sub (P.q 7 J) i1)
   replace u:=u.fr aF (P.q 4 J) (Dj.sub (P.q 7 J) i2)
   refine wlL [(aB++aP),ob br,ob v11,ob v10,ob A,ob V,ob g,x] (smg [4,2] J (SP.eq OZ))<|art 7 [] J ?_
   exact lb [0,0,2,2,2,2] [1] (bh (_,_,_,_,_) ⟨h,i,w,u,bt⟩)
  refine atr 4 [] J<|lno u J<|art 3 [] J ?_
  refine lin (σ:=Hp × (List an) × Value × List Nat × Int) (fun s=>[(1,g),(2,pQ B),(6,iV E),(7,s.2.2.1),(13,iV (y.length:Int)),(14,iV E),(40,A),(41,iV (W.length:Int)),(42,iV s.2.2.2.2)]) (fun s=>St w0 s.1 [(B,.cells #[f,j,l,a6,p,t,iV d.s.Next,iV d.id] 191 (0,0))] [s.2.2.2.1,ob s.2.2.1,ob A,ob g,x]) (fun m s=>dH N d s1 W E (bW N d y n1) m s.2.1 s.2.2.2.2=some r∧(OSl bo 103 1 s.1 x g s1)∧(OSl dU 105 2 s.1 D3 A W)∧(OSl aU 105 2 s.1 s.2.2.2.1 s.2.2.1 s.2.1)) (aN,s6,u4,aB,0) N ⟨h,i,u,G⟩ (sx [0,0,0,1,1] [0]) (fun n4 bu s hm=>?_)
  obtain⟨cf,s8,u5,aG,s9⟩:=s
  obtain⟨h,i,u,k9⟩:=hm
  dsimp only at h i u k9 ⊢
  unfold dH at h
  refine att 5 [] J ?_
  refine ch h J ?_ ?_ <;> intro h
  ·refine atr 5 [] J ?_
   obtain⟨x8,aQ,h⟩:=bs h
   obtain⟨cg,F6,-,g2,cj,ck,r4⟩:=u.elS (a8 aQ).2.2
   obtain⟨bx,G3,bz,G4,rfl,rfl,aR,bA⟩:=r4
   refine lio u aQ J<|lgx 0 2 g2 J<|lnz kv J fun bB=>soN 0 t8 J ⟨aR.one,bA.one,trivial⟩ J ?_
   refine en<|wm [0,1] [] J<|amm 10 [0,1,40,2,0,3,0,4,4,5,32,6,2,7,0,8,32,9] [0,1] J J ?_
   obtain⟨x9,aS,h⟩:=bs h
   obtain⟨cm,F7,-,g3,cn,cp,r5⟩:=T.el (a8 aS).2.2
   obtain⟨rfl,-⟩:=r5
   refine mq 10 J OX (kN [0,1]) (ak bw J J T aS) J<|mq 11 J OX (kN [0,1]) (aW u6 J (fun Q hw=>(g3.of_eq 0 1 J J:rg _ _ _ [iV x9]).rangeAt hw.1)) J ?_
   obtain⟨bC,aT,h⟩:=bs h
   obtain⟨cq,F8,-,g4,cr,ct,r6⟩:=U.el (a8 aT).2.2
   obtain⟨bD,G5,rfl,bE,bF⟩:=r6
   obtain rfl:=bE.symm
   refine mq 12 J OX (kN [0,1]) (ak vF J J U aT) J<|amm 1 [13,0] [0,1] J J<|mq 14 J OX (kN [0,1]) (aW tQ J (fun Q hw=>(g4.of_eq 0 1 J J:rg _ _ _ [bD]).rangeAt hw.1)) J ?_
   obtain⟨cu,bG,h⟩:=bs h
   refine WM.one 15 OX (mc J (fun _ v bH D Q hq hw=>Kn.of Kf.nil (ai2 0 1 J J) hw) (bL (js:=[]) (R:=[aG,ob u5,ob A,ob g,x]) Jy J J (fun Q hw ap hl=>kV N (ba hw.fro) d x8.Ids bC.L (ah.y hw.up) (al.y hw.up) (T.y hw.up) (aq.y hw.up) (U.y hw.up) (au.y hw.up) aR (bF.y hw.up)  bG)) J ?_)
   rintro v17 cv F9 ⟨S,aH,cw,aV,rfl,rfl,bI⟩
   replace i:=i.fr aH (S.q 3 J) (S.q 4 J)
   replace u:=u.fr aH (S.q 2 J) (Dj.sub (S.q 4 J) i2)
   replace k9:=k9.fr aH (S.q 1 J) (S.q 0 J)
   obtain⟨cx,bJ,h⟩:=bs h
   refine WM.one 16 OX (me J (fun _ v bH D Q hq hw=>Kn.of Kf.nil (ai2 0 1 J J) hw) (et aU.lasts aU.one eB sJ J J J J J (js:=[3]) (Rr:=[ob v17,aV,aG,ob A,ob g,x]) J k9 bI (fun ap=>ap.q 2 J) (fun ap=>ap.q 1 J) bJ) J ?_)
   rintro bK bM cy ⟨⟨ag,aX⟩,bN⟩
   replace i:=i.fr aX (ag.q 4 J) (ag.q 5 J)
   replace u:=u.fr aX (ag.q 3 J) (Dj.sub (ag.q 5 J) i2)
   refine WM.conv (S':=St w0 bM [(bB,.cells #[bx,bz] 105 (0,0)),(B,.cells #[f,j,l,a6,p,t,iV d.s.Next,iV d.id] 191 (0,0))] [(aG++aV),ob bK,ob v17,ob A,ob g,x]) (fun Q hw=>hw.merge (js:=[3,2]) J (SP.eq OZ))<|amm 1 [17] [0,1] J J<|WM.nil OX<|att 5 [] J ?_
   exact lb [0,0,1,1,1] [1] (bu (_,_,_,_,_) ⟨h,i,u,bN⟩)
  refine xt J ?_
  exact wo [0,0,1,1] [0] (K (_,_,_,_) ⟨h,i,k9⟩)
 refine xt J ?_
 refine WT.fin hF aC.none (fun Q hw=>?_)
 cases h
 refine aK (js:=[2,2]) hw J ⟨x,J,J,i⟩
end Go.Proofs.YtedmfnmbjglmbaaGreat
