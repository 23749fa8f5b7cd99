/- Printed by a program of ours: each Go function computes its Lean function. -/
import Derived.Test.YtedmfnmbjglmbaaGreatProg
import Derived.Test.YtedmfnmbjglmbaaGreatWCameWalk1
namespace Go.Proofs.YtedmfnmbjglmbaaGreat
open Eng Tryz
open Go.RowKit (Below)
set_option linter.unusedVariables false
set_option linter.unusedSimpArgs false

set_option maxRecDepth 100000
set_option maxHeartbeats 1000000
variable {a e:Hp} {f o j ai l ca aE pv2_1 b5 n p a6 t g:Value} {ad b0 b6 b9 b8 c3 c9 bY b7 bX c7 c0 aj bj pG1:List Nat} (N:Nat)
theorem mr (w0:aD a e []) (b:ac) (k:RSl aY 3 a ad f b.Items) {r:Bool} (h:jg N b=some r) :
  CB w0 prog 41 [.agg [f,iV b.Next].toArray] (.bool r):=by
 refine eN func41 J ntmps41 J w0 fun y=>?_
 unfold jg at h
 refine sr<|lbx J fun c=>arr 7 [0,0] J<|lnr k J<|arr 2 [] J ?_
 obtain⟨O,w,h⟩:=bs h
 refine WL.cutN 5 [(16,.bool O),(1,pQ c)] ?_ (fun K=>?_)
 rotate_left
 ·refine sp 11 w J (fun w=>?_) fun w=>?_
  ·refine arr 5 [] J ?_
   cases w
   exact ku K
  ·refine arr 2 [1,0] J<|ly J J<|qc w (dA N · b.Next 1 1000000 ·) J J J fun x1 w=>arr 2 [] J ?_
   cases w
   exact ku K
 refine en ?_
 refine ch h J ?_ ?_ <;> intro h
 ·refine att 4 [] J ?_
  exact rt y h
 refine atr 6 [0,0] J<|lnr k J<|art 3 [] J ?_
 refine lin (σ:=Int) (fun s=>[(1,pQ c),(18,f),(19,iV (b.Items.length:Int)),(20,iV s)]) (fun s=>St w0 e [(c,.cells #[f,iV b.Next] 29 (0,0))] []) (fun m s=>dD N b m s=some r) (0) N h (sx [] [0]) (fun A P s hm=>?_)
 revert hm;revert s;intro s1 hm
 have h:dD N b (A+1) s1=some r:=hm
 show WT _ _ [(1,pQ c),(18,f),(19,iV (b.Items.length:Int)),(20,iV s1)] (St w0 e [(c,.cells #[f,iV b.Next] 29 (0,0))] [])
 unfold dD at h
 refine att 5 [] J ?_
 refine ch h J ?_ ?_ <;> intro h
 ·refine atr 6 [] J ?_
  obtain⟨i,F,h⟩:=bs h
  obtain⟨aa,F1,-,g1,ab,ae,Q⟩:=k.el (a8 F).2.2
  obtain⟨v1,G1,rfl,R,h1⟩:=Q
  obtain rfl:=R.symm
  refine lia k F J<|lhx 0 3 g1 J<|lnz ox J fun x=>la J<|soN 0 wT J ⟨J,J,h1.one,trivial⟩ J ?_
  refine art 3 [] J<|WT.draw mixed NQ (fun _ h=>h.drew)<|aqq 2 [1,2] J ?_
  obtain⟨x3,S,h⟩:=bs h
  refine qp (jk LP J (fun G hw=>tS N (ba hw.in0) i.F h1 S)) J<|aqq 2 [] J ?_
  obtain⟨T,q,h⟩:=bs h
  refine WQ.cutN 8 [(37,.bool T),(1,pQ c),(3,iV s1),(4,pQ x),(18,f),(19,iV (b.Items.length:Int)),(20,iV s1)] ?_ (fun K=>?_)
  rotate_left
  ·refine WQ.split (d:=29) J (fun B=>?_) (fun B=>?_)
   ·replace q:=lP q B
    refine aqq 8 [] J ?_
    cases q
    exact kq K
   ·replace q:=mb q B
    refine aqq 5 [0,0,1,32] J<|WQ.yes J J ?_
    obtain⟨x4,U,q⟩:=bs q
    refine qp (jk L9 J (fun G hw=>dA N (ba hw.fro) i.Id 1 (wz (b.Next - 1)) U)) J<|aqq 2 [] J ?_
    cases q
    exact kq K
  refine qq (iZ J) J ?_
  obtain⟨V,u,h⟩:=bs h
  refine WQ.cutN 15 [(53,.bool V),(1,pQ c),(3,iV s1),(4,pQ x),(18,f),(19,iV (b.Items.length:Int)),(20,iV s1)] ?_ (fun K=>?_)
  rotate_left
  ·refine WQ.split (d:=38) J (fun C=>?_) (fun C=>?_)
   ·replace u:=lP u C
    refine aqq 15 [] J ?_
    cases u
    exact kq K
   ·replace u:=mb u C
    refine aqq 3 [] J ?_
    obtain⟨W,v,u⟩:=bs u
    refine WQ.cutN 11 [(52,.bool W),(1,pQ c),(3,iV s1),(4,pQ x),(18,f),(19,iV (b.Items.length:Int)),(20,iV s1),(38,.bool false)] ?_ (fun K=>?_)
    rotate_left
    ·refine WQ.split (d:=41) J (fun D=>?_) (fun D=>?_)
     ·replace v:=lP v D
      refine aqq 6 [0,0,0,32] J<|WQ.yes J J ?_
      obtain⟨X,H,v⟩:=bs v
      obtain⟨af,F2,-,g2,ag,ah,Y⟩:=k.el (a8 H).2.2
      obtain⟨v2,G2,rfl,Z,h2⟩:=Y
      obtain rfl:=Z.symm
      refine qq (an mN J J k H) J<|WQ.yes J J<|qq (ax uW J) J<|WQ.yes J J<|qq (aZ sD J (fun G hw=>(g2.of_eq 0 1 J J:rg _ _ _ [iV X.Id]).rangeAt hw.in0)) J<|aqq 2 [] J ?_
      cases v
      exact kq K
     ·replace v:=mb v D
      refine aqq 11 [] J ?_
      cases v
      exact kq K
    refine WQ.q (rQ J J) J J J ?_
    cases u
    exact kq K
  refine WQ.nil ?_
  refine ch h J ?_ ?_ <;> intro h
  ·refine att 4 [] J ?_
   exact rt y h
  refine atr 6 [0,32] J ?_
  obtain⟨z,I,h⟩:=bs h
  refine lq (Kp mN J J k I) J ?_
  obtain⟨F3,E,ak⟩:=k.sub I
  refine lnr E J<|art 3 [] J ?_
  refine lin (σ:=Int) (fun s=>[(1,pQ c),(4,pQ x),(18,f),(19,iV (b.Items.length:Int)),(20,iV s1),(57,(slc f (0:Int).toNat s1.toNat 3)),(58,iV (z.length:Int)),(59,iV s)]) (fun s=>St w0 e [(x,.cells #[iV i.Id,.string i.F.Kind,v1] 66 (0,0)),(c,.cells #[f,iV b.Next] 29 (0,0))] []) (fun m s=>eG N s1 (dD N b A) i z m s=some r) (0) N h (sx [] [0,0]) (fun n2 a1 s hm=>?_)
  revert hm;revert s;intro s2 hm
  have h:eG N s1 (dD N b A) i z (n2+1) s2=some r:=hm
  show WT _ _ [(1,pQ c),(4,pQ x),(18,f),(19,iV (b.Items.length:Int)),(20,iV s1),(57,(slc f (0:Int).toNat s1.toNat 3)),(58,iV (z.length:Int)),(59,iV s2)] (St w0 e [(x,.cells #[iV i.Id,.string i.F.Kind,v1] 66 (0,0)),(c,.cells #[f,iV b.Next] 29 (0,0))] [])
  unfold eG at h
  refine att 5 [] J ?_
  refine ch h J ?_ ?_ <;> intro h
  ·refine atr 5 [] J ?_
   obtain⟨x7,L,h⟩:=bs h
   obtain⟨al,F4,-,g3,ao,aq,r3⟩:=E.el (a8 L).2.2
   obtain⟨v3,G3,rfl,a7,M⟩:=r3
   obtain rfl:=a7.symm
   refine lia E L J<|lhx 0 3 g3 J<|lnz ox J fun ar=>soN 0 wT J ⟨J,J,M.one,trivial⟩ J ?_
   refine arr 7 [1,34,1,2] J<|qd h (rV N · i.F x7.F h1 M ·) J J J fun x8 h=>en ?_
   refine ch h J ?_ ?_ <;> intro h
   ·refine att 4 [] J ?_
    exact rt y h
   refine att 6 [] J ?_
   exact lb [] [1,1] (a1 _ h)
  refine att 6 [] J ?_
  exact lb [] [1] (P _ h)
 refine att 5 [] J ?_
 exact rt y h
theorem oV (w0:aD a e []) (i:(List bN)) (k:RSl aU 3 a b0 o i) {r:(List bN)} (h:ez N i=some r) :
  Calls prog 196 [o].toArray w0.w (bc e w0.w [] (fun q Fs v=>∃ (b:Value),v=b∧Fs=[ob b]∧OSl aU 95 3 q [] b r)):=by
 refine eN func196 J ntmps196 J w0 fun m=>?_
 unfold ez at h
 refine att 6 [] J ?_
 rcases RSl.nilOr k with ⟨s,u,d⟩ | ⟨A,u,d⟩
 ·replace h:some []=some r:=by simpa[s,app] using h
  refine atr 2 [] J<|lq (nF iX (congrArg some d) J) J<|en ?_
  refine cd J (fun c=>?_) (fun c=>by simp at c)
  refine att 4 [] J ?_
  refine WT.ret m (az.one J) (fun w hw=>?_)
  cases h
  replace hw:=hw.addNil
  refine aH (js:=[0]) hw J ⟨.slice none 0 0,J,J,OSl.nil _ _ _ _⟩
 refine atr 2 [] J<|lq (nF iX (congrArg some d) J) J<|en ?_
 refine cd J (fun c=>by simp at c) (fun c=>?_)
 refine atr 3 [] J<|le' (lJ aU.lasts iX jY J J) J ?_
 rintro v1 B C ⟨D,h1⟩
 refine la J<|lu0 k fun x=>?_
 obtain⟨E,y,h⟩:=bs h
 refine le' (dM aU.lasts aU.one aU.flat iX BR J J J J J (js:=[0]) (Rr:=[]) J h1 x y) J ?_
 rintro v2 F G ⟨⟨H,I⟩,z⟩
 refine la J<|en ?_
 exact rtg [0] m (az.one J) J (by cases h;exact fun w hw=>⟨v2,rfl,rfl,z⟩)
theorem ot (w0:aD a e []) (b:aI) (k:RSl aU 3 a ad f b.Fields) {r:aI} (h:gA N b=some r) :
  Calls prog 127 [.agg [.string b.Kind,f].toArray].toArray w0.w (bc e w0.w [] (fun m Fs v=>∃ (c:Value),v = .agg [.string r.Kind,c].toArray∧Fs=[ob c]∧OSl aU 95 3 m [] c r.Fields)):=by
 refine eN func127 J ntmps127 J w0 fun q=>?_
 unfold gA at h
 refine sr<|lbx J fun u=>lnz lz J fun w=>en<|sq<|wm [0,1] [6] J<|amm 4 [0,0,1,32,2,1,3,32] [0,1] J J ?_
 obtain⟨x,s,h⟩:=bs h
 refine WM.one 4 NQ (mc J (fun _ v y D d z hw=>Kn.of Kf.nil (ai2 0 1 J J) hw) (bH (js:=[]) (R:=[]) Ir J J (fun d hw ap A=>oV N (ba hw.fro) b.Fields (k.y hw.up)  s)) J ?_)
 rintro v1 B E ⟨F,G,v2,rfl,rfl,h1⟩
 refine mq 5 J NQ (kN [0,1]) (bu (vs:=[(0,.string b.Kind),(1,v1)]) (C:=#[.string b.Kind,v1]) EW lz J (aa (C':=[.string b.Kind,.slice none 0 0]) J J J J J (aa (C':=[.string b.Kind,v1]) J (d6 h1.one) J J J (ae)))) J ?_
 refine on1 6 (msN 0 J nk mC J ⟨J,h1.one,trivial⟩ J J ?_)
 refine WM.nil NQ ?_
 exact rtg [0] q (az.one (aX mf J (fun d hw=>hw.rgO (i:=0) J 0 2 [.string b.Kind,v1] J) J)) J (by cases h;exact fun d hw=>⟨v1,rfl,rfl,h1⟩)
theorem nv (w0:aD a e []) (c:ac) (d:Int) (u:RSl aY 3 a ad f c.Items) {r:aI × Bool} (h:kx N c d=some r) :
  Calls prog 131 [.agg [f,iV c.Next].toArray,iV d].toArray w0.w (bc e w0.w [] (fun D Fs v=>∃ (w:Value),v = .tuple #[.agg [.string r.1.Kind,w].toArray,.bool r.2]∧Fs=[ob w]∧OSl aU 95 3 D [] w r.1.Fields)):=by
 refine eN func131 J ntmps131 J w0 fun y=>?_
 unfold kx at h
 refine sr<|lbx J fun L=>lnz lz J fun k=>arr 7 [0,32] J<|lnr u J<|art 3 [] J ?_
 refine lin (σ:=Int) (fun s=>[(1,iV d),(4,pQ k),(9,f),(10,iV (c.Items.length:Int)),(11,iV s)]) (fun s=>St w0 e [(k,.cells #[.string (⟨#[]⟩:ByteArray),.slice none 0 0] 52 (0,0))] []) (fun m s=>gN N c d m s=some r) (0) N h (sx [] [0]) (fun E F s hm=>?_)
 revert hm;revert s;intro s1 hm
 have h:gN N c d (E+1) s1=some r:=hm
 show WT _ _ [(1,iV d),(4,pQ k),(9,f),(10,iV (c.Items.length:Int)),(11,iV s1)] (St w0 e [(k,.cells #[.string (⟨#[]⟩:ByteArray),.slice none 0 0] 52 (0,0))] [])
 unfold gN at h
 refine att 5 [] J ?_
 refine ch h J ?_ ?_ <;> intro h
 ·refine atr 5 [] J ?_
  obtain⟨G,A,h⟩:=bs h
  obtain⟨M,O,-,g1,P,Q,H⟩:=u.el (a8 A).2.2
  obtain⟨v1,R,rfl,I,h1⟩:=H
  obtain rfl:=I.symm
  refine lia u A J<|lhx 0 3 g1 J<|lnz ox J fun S=>soN 0 wT J ⟨J,J,h1.one,trivial⟩ J ?_
  refine art 8 [0,0] J ?_
  refine ch h J ?_ ?_ <;> intro h
  ·refine atr 4 [1,2] J<|kab h J J J (fun b z q=>ot N b G.F (h1.y z) q) ?_
   rintro K h v2 T U ⟨V,W,v3,rfl,rfl,B⟩
   refine soN 1 mC J ⟨J,B.one,trivial⟩ J ?_
   refine la J<|en ?_
   exact rtg [0] y (az.two (aX mf J (fun x hw=>hw.rgO (i:=1) J 0 2 [.string K.Kind,v3] J) J) J) J (by cases h;exact fun x hw=>⟨v3,rfl,rfl,B⟩)
  refine att 6 [] J ?_
  exact lb [] [1] (F _ h)
 refine xt J<|sr<|lq (bu (vs:=[]) (C:=#[.string (⟨#[]⟩:ByteArray),.slice none 0 0]) EW lz J (ae)) J<|soN 0 mC J ⟨J,J,trivial⟩ J ?_
 refine la J<|en ?_
 refine WT.ret y (az.two (aX mf J (fun x hw=>hw.rgO (i:=0) J 0 2 [.string (⟨#[]⟩:ByteArray),.slice none 0 0] J) J) J) (fun x hw=>?_)
 cases h
 replace hw:=hw.addNil
 refine aH (js:=[0]) hw J ⟨.slice none 0 0,J,J,OSl.nil _ _ _ _⟩
theorem zz (w0:aD a e []) (b:av) (q:aI) (A:RSl aU 3 a ad f b.Consts) (B:RSl (RI .i64) 1 a b6 j b.At) (x:RSl aU 3 a b9 ai q.Fields) {r:Bool} (h:pB N b q=some r) :
  CB w0 prog 132 [.agg [.string b.Kind,iV b.N,f,j].toArray,.agg [.string q.Kind,ai].toArray] (.bool r):=by
 refine eN func132 J ntmps132 J w0 fun C=>?_
 unfold pB at h
 refine sr<|lbx J fun i=>lbx J fun k=>arr 11 [0,0,0,32] J ?_
 obtain⟨M,w,h⟩:=bs h
 refine WL.cutN 7 [(19,.bool M),(2,pQ i),(3,pQ k)] ?_ (fun K=>?_)
 rotate_left
 ·refine sp 12 w J (fun w=>?_) fun w=>?_
  ·refine arr 7 [] J ?_
   cases w
   exact ku K
  ·refine arr 2 [1,0] J<|ly J J<|lnr x J<|arr 4 [1,32] J ?_
   cases w
   exact ku K
 refine en ?_
 refine ch h J ?_ ?_ <;> intro h
 ·refine att 4 [] J ?_
  exact rt C h
 refine atr 6 [3,32] J<|lnr B J<|art 3 [] J ?_
 refine lin (σ:=Int) (fun s=>[(2,pQ i),(3,pQ k),(21,j),(22,iV (b.At.length:Int)),(23,iV s)]) (fun s=>St w0 e [(k,.cells #[.string q.Kind,ai] 52 (0,0)),(i,.cells #[.string b.Kind,iV b.N,f,j] 137 (0,0))] []) (fun m s=>iD N b q m s=some r) (0) N h (sx [] [0,0]) (fun O P s hm=>?_)
 revert hm;revert s;intro s1 hm
 have h:iD N b q (O+1) s1=some r:=hm
 show WT _ _ [(2,pQ i),(3,pQ k),(21,j),(22,iV (b.At.length:Int)),(23,iV s1)] (St w0 e [(k,.cells #[.string q.Kind,ai] 52 (0,0)),(i,.cells #[.string b.Kind,iV b.N,f,j] 137 (0,0))] [])
 unfold iD at h
 refine att 5 [] J ?_
 refine ch h J ?_ ?_ <;> intro h
 ·refine atr 6 [] J ?_
  obtain⟨G,H,h⟩:=bs h
  obtain⟨X,Y,-,g1,Z,a1,Q⟩:=B.el (a8 H).2.2
  obtain⟨rfl,-⟩:=Q
  refine lia B H J<|lhx 0 0 g1 J<|art 4 [] J<|WT.draw mixed NQ (fun _ h=>h.drew)<|aqq 3 [] J ?_
  obtain⟨R,u,h⟩:=bs h
  refine WQ.cutN 6 [(36,.bool R),(2,pQ i),(3,pQ k),(5,iV s1),(6,iV G),(21,j),(22,iV (b.At.length:Int)),(23,iV s1)] ?_ (fun K=>?_)
  rotate_left
  ·refine WQ.split (d:=30) J (fun D=>?_) (fun D=>?_)
   ·replace u:=lP u D
    refine aqq 6 [] J ?_
    cases u
    exact kq K
   ·replace u:=mb u D
    refine aqq 3 [1,0] J<|WQ.yes J J<|qq (mK iX J J x) J<|aqq 2 [] J ?_
    cases u
    exact kq K
  refine qq (iZ J) J ?_
  obtain⟨S,v,h⟩:=bs h
  refine WQ.cutN 6 [(43,.bool S),(2,pQ i),(3,pQ k),(5,iV s1),(6,iV G),(21,j),(22,iV (b.At.length:Int)),(23,iV s1)] ?_ (fun K=>?_)
  rotate_left
  ·refine WQ.split (d:=37) J (fun E=>?_) (fun E=>?_)
   ·replace v:=lP v E
    refine aqq 6 [] J ?_
    cases v
    exact kq K
   ·replace v:=mb v E
    refine aqq 3 [2,32] J<|WQ.yes J J<|qq (mK iX J J A) J<|aqq 2 [] J ?_
    cases v
    exact kq K
  refine qq (iZ J) J ?_
  obtain⟨T,c,h⟩:=bs h
  refine WQ.cutN 12 [(56,.bool T),(2,pQ i),(3,pQ k),(21,j),(22,iV (b.At.length:Int)),(23,iV s1)] ?_ (fun K=>?_)
  rotate_left
  ·refine WQ.split (d:=44) J (fun F=>?_) (fun F=>?_)
   ·replace c:=lP c F
    refine aqq 12 [] J ?_
    cases c
    exact kq K
   ·replace c:=mb c F
    refine aqq 3 [1,0] J<|WQ.yes J J ?_
    obtain⟨y,I,c⟩:=bs c
    obtain⟨a7,F2,-,g2,aa,ab,U⟩:=x.el (a8 I).2.2
    obtain⟨rfl,-⟩:=U
    refine qq (an iX J J x I) J<|WQ.yes J J<|qq (aw l6 J (fun V hw=>(g2.of_eq 0 3 J J:rg _ _ _ [iV y.K,iV y.N,.string y.S]).rangeAt hw.in0) J) J<|aqq 3 [2,32] J<|WQ.yes J J ?_
    obtain⟨z,L,c⟩:=bs c
    obtain⟨ae,F3,-,g3,af,ag,W⟩:=A.el (a8 L).2.2
    obtain⟨rfl,-⟩:=W
    refine qq (an iX J J A L) J<|WQ.yes J J<|qq (aw l6 J (fun V hw=>(g3.of_eq 0 3 J J:rg _ _ _ [iV z.K,iV z.N,.string z.S]).rangeAt hw.in0) J) J<|WQ.yes J J<|qq (tH oe J J J (r:=bQ y z) J) J<|WQ.q (rQ J J) J J J ?_
    cases c
    exact kq K
  refine WQ.nil ?_
  refine ch h J ?_ ?_ <;> intro h
  ·refine att 4 [] J ?_
   exact rt C h
  refine att 6 [] J ?_
  exact lb [] [0,0] (P _ h)
 refine att 5 [] J ?_
 exact rt C h
theorem qh (w0:aD a e []) (d:af) (x:Bool) (q:RSl cS 3 a ad f d.Pats) (V:RSl cH 11 a b6 j d.Conds) (W:RSl hU 5 a b8 l d.Acts) {r:(List ay)} (h:nW N d x=some r) :
  Calls prog 115 [.agg [.string d.Name,iV d.Sal,f,j,l].toArray,.bool x].toArray w0.w (bc e w0.w [] (fun G Fs v=>∃ (y:Value) (A:List Nat),v=y∧Fs=[ob y]∧OSl cS 201 3 G A y r∧(∀ k∈A,k∈ad))):=by
 refine eN func115 J ntmps115 J w0 fun H=>?_
 unfold nW at h
 refine sr<|lbx J fun X=>arr 11 [2,0] J<|lnr q J<|art 3 [] J<|wtS ?_
 have I:=OSl.nil cS 201 3 e
 refine lin (σ:=Hp × (List ay) × Value × List Nat × Int) (fun s=>[(1,.bool x),(5,s.2.2.1),(9,f),(10,iV (d.Pats.length:Int)),(11,iV s.2.2.2.2)]) (fun s=>St w0 s.1 [] [ob s.2.2.1]) (fun m s=>je N d x m s.2.1 s.2.2.2.2=some r∧(OSl cS 201 3 s.1 s.2.2.2.1 s.2.2.1 s.2.1)∧(∀ k∈s.2.2.2.1,k∈ad)) (e,([]:List ay),(.slice none 0 0),[],0) N ⟨h,I,NS⟩ (sx [0] []) (fun Y B s hm=>?_)
 obtain⟨K,s1,L,M,s2⟩:=s
 obtain⟨h,i,u⟩:=hm
 dsimp only at h i u ⊢
 unfold je at h
 refine att 5 [] J ?_
 refine ch h J ?_ ?_ <;> intro h
 ·refine atr 5 [] J ?_
  obtain⟨b,D,h⟩:=bs h
  obtain⟨Z,F1,-,g1,a1,E,O⟩:=q.el (a8 D).2.2
  obtain⟨v1,w,rfl,P,h1⟩:=O
  obtain rfl:=P.symm
  refine lia q D J<|lhx 0 3 g1 J<|lnz lI J fun a7=>soN 0 pD J ⟨J,h1.one,J,trivial⟩ J ?_
  refine arr 6 [2,0] J<|lq (MI MA J J) J<|en ?_
  refine ch h J ?_ ?_ <;> intro h
  ·refine atr 3 [3] J<|lu0 h1 fun Q=>?_
   have F:RC cS 3 K ([w]:List (List Nat)) [.string b.Kind,v1,.bool b.Not] ([b]:List ay):=RC.cons (c:=[.string b.Kind,v1,.bool b.Not]) (cells:=[]) ⟨v1,w,J,J,Q⟩ J (RC.nil _ _ _)
   refine le' (bz (vs:=[(0,.agg [.string b.Kind,v1,.bool b.Not].toArray)]) (C:=#[.string b.Kind,v1,.bool b.Not]) cS.lasts tb lI J J J J (ar yS (aa (C':=[.string b.Kind,v1,.bool b.Not]) J J J J J (ae))) J F J (RC.kn cS.knows F)) J ?_
   rintro v2 R D2 ⟨S,z⟩
   replace z:OSl cS 201 3 R (w) v2 ([b]:List ay):=by simpa[gf] using z
   replace i:=i.f0 S
   obtain⟨x2,T,h⟩:=bs h
   refine le' (dS cS.lasts cS.one tb CW J J J J J (js:=[1]) (Rr:=[ob v2]) J i z (fun ap=>(Dj.sub (ap.o q.old) u)) (fun ap=>(Dj.sub (Dj.sub (ap.o q.old) (fun k h=>E k h)) (fun k hk=>(by simpa[gf] using hk:k∈w)))) T) J ?_
   rintro v3 ab D3 ⟨⟨ag,ah⟩,U⟩
   refine art 7 [] J ?_
   exact lb [0] [] (B (_,_,_,_,_) ⟨h,U,(fun k hk=>((gb.1 hk).elim (fun h=>(u k h)) (fun h=>((fun k h=>E k h) k ((fun k hk=>(by simpa[gf] using hk:k∈w)) k h)))))⟩)
  refine att 6 [] J ?_
  exact lb [0] [] (B (_,_,_,_,_) ⟨h,i,(fun k hk=>(u k hk))⟩)
 refine att 6 [] J ?_
 exact rtg [0] H (az.one J) J (by cases h;exact fun w1 hw=>⟨L,M,rfl,rfl,i,(fun k hk=>(u k hk))⟩)
theorem xi (w0:aD a e []) (u:bv) (E:ce) (F:aN) (c:ac) (d:Int) (G:Int) (H:RSl fb 5 a ad f u.Rules) (I:RSl eA 2 a c3 ca E.Chains) (w:RSl im 1 a c9 aE F.Alphas) (K:RSl aY 3 a bY b5 c.Items) {r:dl} (h:oD N u E F c d G=some r) :
  Calls prog 133 [.agg [.string u.Name,f].toArray,.agg [ai,ca].toArray,.agg [aE,pv2_1].toArray,.agg [b5,iV c.Next].toArray,iV d,iV G].toArray w0.w (bc e w0.w [] (fun m Fs v=>∃ (x:Value) (L:List Nat) (y:Value) (M:List Nat) (O:Value) (P:List Nat) (Q:Value) (S:List Nat) (T:Value) (U:List Nat) (V:Value) (W:List Nat),v = .agg [x,y,O,Q,T,V,iV r.s.Next,iV r.id].toArray∧Fs=[ob x,ob y]∧OSl cS 201 3 m L x r.pos∧(∀ k∈L,k∈ad)∧OSl cS 201 3 m M y r.neg∧(∀ k∈M,k∈ad)∧RSl (RI .i64) 1 m P O r.chain.Pos∧(∀ k∈P,k∈c3)∧RSl (RI .i64) 1 m S Q r.chain.Neg∧(∀ k∈S,k∈c3)∧RSl im 1 m U T r.alphas∧(∀ k∈U,k∈c9)∧RSl aY 3 m W V r.s.Items∧(∀ k∈W,k∈bY))):=by
 refine eN func133 J ntmps133 J w0 fun hF=>?_
 unfold oD at h
 refine sr<|lbx J fun al=>lbx J fun ao=>lbx J fun aq=>lbx J fun ar=>lnz Dz J fun au=>arr 6 [1,128] J ?_
 obtain⟨X,Y,h⟩:=bs h
 obtain⟨av,F1,-,g1,ax,Z,r1⟩:=H.el (a8 Y).2.2
 obtain⟨v1,G1,v2,G2,v3,G3,rfl,rfl,h1,z,A⟩:=r1
 refine lia H Y J<|lhx 0 5 g1 J<|lnz uY J fun ay=>soN 0 yh J ⟨J,J,h1.one,z.one,A.one,trivial⟩ J ?_
 refine en<|sq<|wm [0,1,2,3,4,5] [14] J<|amm 5 [0,5,2,5,4,1,5,128,6] [0,1,2,3,4,5] J J ?_
 obtain⟨x2,a1,h⟩:=bs h
 obtain⟨aA,F2,-,g2,aB,a7,r2⟩:=I.el (a8 a1).2.2
 obtain⟨v4,G4,v5,G5,rfl,rfl,h4,h5⟩:=r2
 refine mq 7 J NQ (kN [0,1,2,3,4,5]) (an A7 J J I a1) J<|mq 8 J NQ (kN [0,1,2,3,4,5]) (aw H7 J (fun q hw=>(g2.of_eq 0 2 J J:rg _ _ _ [v4,v5]).rangeAt hw.1) J) J<|amm 4 [9,0,10,96,11,66,12] [0,1,2,3,4,5] J J ?_
 obtain⟨x3,af,h⟩:=bs h
 refine WM.one 1 NQ (mc J (fun _ v ag D q hq hw=>Kn.of Kf.nil (am [0,1,2,3,4,5] J) hw) (bH (js:=[]) (R:=[]) EJ J J (fun q hw ap hl=>qh N (ba hw.fro) X false (h1.y hw.up) (z.y hw.up) (A.y hw.up)  af)) J ?_)
 rintro v6 aC F3 ⟨aF,aG,v7,D1,rfl,rfl,s,i1⟩
 obtain⟨x4,ah,h⟩:=bs h
 refine WM.one 3 NQ (mc J (fun _ v ag D q hq hw=>Kn.of Kf.nil (am [0,1,2,3,4,5] J) hw) (bH (js:=[]) (R:=[ob v6]) EJ J J (fun q hw ap hl=>qh N (ba hw.fro) X true (h1.y hw.up) (z.y hw.up) (A.y hw.up)  ah)) J ?_)
 rintro b aH F4 ⟨ab,ak,v9,D2,rfl,rfl,B,i2⟩
 replace s:=s.fr ak (ab.q 0 J) (Dj.sub (ab.o h1.old) i1)
 refine mq 13 J NQ (kN [0,1,2,3,4,5]) (bu (vs:=[(0,v6),(1,b),(2,.agg [v4,v5].toArray),(3,aE),(4,.agg [b5,iV c.Next].toArray),(5,iV d)]) (C:=#[v6,b,v4,v5,aE,b5,iV c.Next,iV d]) KE Dz J (aa (C':=[v6,.slice none 0 0,.slice none 0 0,.slice none 0 0,.slice none 0 0,.slice none 0 0,iV 0,iV 0]) J (d6 s.one) J J J (aa (C':=[v6,b,.slice none 0 0,.slice none 0 0,.slice none 0 0,.slice none 0 0,iV 0,iV 0]) J (d6 B.one) J J J (aa (C':=[v6,b,v4,v5,.slice none 0 0,.slice none 0 0,iV 0,iV 0]) J J J J J (aa (C':=[v6,b,v4,v5,aE,.slice none 0 0,iV 0,iV 0]) J (d6 w.one) J J J (aa (C':=[v6,b,v4,v5,aE,b5,iV c.Next,iV 0]) J J J J J (aa (C':=[v6,b,v4,v5,aE,b5,iV c.Next,iV d]) J J J J J (ae)))))))) J ?_
 refine on1 14 (msN 1 J nk GP J ⟨s.one,B.one,h4.one,h5.one,w.one,K.one,J,J,trivial⟩ J J ?_)
 refine WM.nil NQ ?_
 exact rtg [1,0] hF (az.one (aX Hi J (fun q hw=>hw.rgO (i:=1) J 0 8 [v6,b,v4,v5,aE,b5,iV c.Next,iV d] J) J)) J (by cases h;exact fun q hw=>⟨v6,D1,b,D2,v4,G4,v5,G5,aE,c9,b5,bY,rfl,rfl,s,(fun k hk=>((fun k h=>Z k (gb.2 (.inl h))) k (i1 k hk))),B,(fun k hk=>((fun k h=>Z k (gb.2 (.inl h))) k (i2 k hk))),(h4.y hw.up),(fun k hk=>((fun k h=>a7 k (gb.2 (.inl h))) k hk)),(h5.y hw.up),(fun k hk=>((fun k h=>a7 k (gb.2 (.inr h))) k hk)),(w.y hw.up),(fun k hk=>hk),(K.y hw.up),(fun k hk=>hk)⟩)
theorem d4 (w0:aD a e []) (i:(List au)) (k:RSl aJ 4 a b0 o i) {r:(List au)} (h:bt N i=some r) :
  Calls prog 222 [o].toArray w0.w (bc e w0.w [] (fun q Fs v=>∃ (b:Value),v=b∧Fs=[ob b]∧OSl aJ 97 4 q [] b r)):=by
 refine eN func222 J ntmps222 J w0 fun m=>?_
 unfold bt at h
 refine att 6 [] J ?_
 rcases RSl.nilOr k with ⟨s,u,d⟩ | ⟨A,u,d⟩
 ·replace h:some []=some r:=by simpa[s,app] using h
  refine atr 2 [] J<|lq (nF pI (congrArg some d) J) J<|en ?_
  refine cd J (fun c=>?_) (fun c=>by simp at c)
  refine att 4 [] J ?_
  refine WT.ret m (az.one J) (fun w hw=>?_)
  cases h
  replace hw:=hw.addNil
  refine aH (js:=[0]) hw J ⟨.slice none 0 0,J,J,OSl.nil _ _ _ _⟩
 refine atr 2 [] J<|lq (nF pI (congrArg some d) J) J<|en ?_
 refine cd J (fun c=>by simp at c) (fun c=>?_)
 refine atr 3 [] J<|le' (lJ aJ.lasts pI vn J J) J ?_
 rintro v1 B C ⟨D,h1⟩
 refine la J<|lu0 k fun x=>?_
 obtain⟨E,y,h⟩:=bs h
 refine le' (dM aJ.lasts aJ.one aJ.flat pI Cz J J J J J (js:=[0]) (Rr:=[]) J h1 x y) J ?_
 rintro v2 F G ⟨⟨H,I⟩,z⟩
 refine la J<|en ?_
 exact rtg [0] m (az.one J) J (by cases h;exact fun w hw=>⟨v2,rfl,rfl,z⟩)
theorem tM (w0:aD a e []) (b:(List au)) (c:ByteArray) (k:RSl aJ 4 a b0 o b) {r:bN × Bool} (h:nf N b c=some r) :
  CB w0 prog 223 [o,.string c] (.tuple #[.agg [iV r.1.K,iV r.1.N,.string r.1.S].toArray,.bool r.2]):=by
 refine eN func223 J ntmps223 J w0 fun v=>?_
 unfold nf at h
 refine sr<|lnz jY J fun d=>arr 6 [] J<|lnr k J<|art 3 [] J ?_
 refine lin (σ:=Int) (fun s=>[(1,.string c),(4,pQ d),(8,o),(9,iV (b.length:Int)),(10,iV s)]) (fun s=>St w0 e [(d,.cells #[iV 0,iV 0,.string (⟨#[]⟩:ByteArray)] 95 (0,0))] []) (fun m s=>iM N b c m s=some r) (0) N h (sx [] [0]) (fun x y s hm=>?_)
 revert hm;revert s;intro s1 hm
 have h:iM N b c (x+1) s1=some r:=hm
 show WT _ _ [(1,.string c),(4,pQ d),(8,o),(9,iV (b.length:Int)),(10,iV s1)] (St w0 e [(d,.cells #[iV 0,iV 0,.string (⟨#[]⟩:ByteArray)] 95 (0,0))] [])
 unfold iM at h
 refine att 5 [] J ?_
 refine ch h J ?_ ?_ <;> intro h
 ·refine atr 5 [] J ?_
  obtain⟨q,w,h⟩:=bs h
  obtain⟨A,B,-,g1,D,E,z⟩:=k.el (a8 w).2.2
  obtain⟨rfl,-⟩:=z
  refine lia k w J<|lhx 0 4 g1 J<|lnz vn J fun F=>soN 0 Mm J ⟨J,J,J,J,trivial⟩ J ?_
  refine art 8 [0,0] J ?_
  refine ch h J ?_ ?_ <;> intro h
  ·refine atr 4 [1,3] J<|soN 1 pL J ⟨J,J,J,trivial⟩ J ?_
   refine la J<|en ?_
   refine WT.ret v (az.two (aX l6 J (fun u hw=>hw.rgO (i:=1) J 0 3 [iV q.V.K,iV q.V.N,.string q.V.S] J) J) J) (fun u hw=>?_)
   cases h
   exact fe hw
  refine att 6 [] J ?_
  exact lb [] [1] (y _ h)
 refine xt J<|sr<|lq (bu (vs:=[]) (C:=#[iV 0,iV 0,.string (⟨#[]⟩:ByteArray)]) wW jY J (ae)) J<|soN 0 pL J ⟨J,J,J,trivial⟩ J ?_
 refine la J<|en ?_
 refine WT.ret v (az.two (aX l6 J (fun u hw=>hw.rgO (i:=0) J 0 3 [iV 0,iV 0,.string (⟨#[]⟩:ByteArray)] J) J) J) (fun u hw=>?_)
 cases h
 exact fe hw
theorem lE (w0:aD a e []) (u:ay) (x:aI) (w:(List au)) (B:RSl f8 5 a ad f u.Args) (H:RSl aU 3 a b9 ai x.Fields) (D:RSl aJ 4 a b7 n w) {r:(List au) × Bool} (h:iy N u x w=some r) :
  Calls prog 184 [.agg [.string u.Kind,f,.bool u.Not].toArray,.agg [.string x.Kind,ai].toArray,n].toArray w0.w (bc e w0.w [] (fun S Fs v=>∃ (I:Value),v = .tuple #[I,.bool r.2]∧Fs=[ob I]∧OSl aJ 97 4 S [] I r.1)):=by
 refine eN func184 J ntmps184 J w0 fun E=>?_
 unfold iy at h
 refine sr<|lbx J fun T=>lbx J fun F=>arr 12 [0,0,0,32] J ?_
 obtain⟨U,y,h⟩:=bs h
 refine WL.cutN 8 [(27,.bool U),(2,n),(3,pQ T),(4,pQ F)] ?_ (fun K=>?_)
 rotate_left
 ·refine sp 19 y J (fun y=>?_) fun y=>?_
  ·refine arr 8 [] J ?_
   cases y
   exact ku K
  ·refine arr 2 [1,0] J<|ly J J<|lnr H J<|arr 2 [1,32] J<|ly J J<|lnr B J<|arr 2 [] J ?_
   cases y
   exact ku K
 refine en ?_
 refine ch h J ?_ ?_ <;> intro h
 ·refine sr<|la J<|kab h J J J (fun b z q=>d4 N b w (D.y z) q) ?_
  rintro x1 h v1 ak F1 ⟨al,an,v2,rfl,rfl,h1⟩
  refine art 3 [] J ?_
  exact rtg [0] E (az.two J J) J (by cases h;exact fun L hw=>⟨v1,rfl,rfl,h1⟩)
 refine atr 4 [] J<|kab h J J J (fun b z q=>d4 N b w (D.y z) q) ?_
 rintro V h v3 W F2 ⟨ao,aq,v4,rfl,rfl,X⟩
 refine arr 7 [1,32] J<|lnr B J<|art 3 [] J ?_
 refine lin (σ:=Hp × (List au) × Value × Int) (fun s=>[(2,n),(4,pQ F),(8,s.2.2.1),(33,f),(34,iV (u.Args.length:Int)),(35,iV s.2.2.2)]) (fun s=>St w0 s.1 [(F,.cells #[.string x.Kind,ai] 52 (0,0))] [ob s.2.2.1]) (fun m s=>em N u x w m s.2.1 s.2.2.2=some r∧(OSl aJ 97 4 s.1 [] s.2.2.1 s.2.1)) (W,V,v3,0) N ⟨h,X⟩ (sx [0] [0]) (fun n1 G s hm=>?_)
 obtain⟨Y,s1,O,s2⟩:=s
 obtain⟨h,k⟩:=hm
 dsimp only at h k ⊢
 unfold em at h
 refine att 5 [] J ?_
 refine ch h J ?_ ?_ <;> intro h
 ·refine atr 6 [] J ?_
  obtain⟨i,P,h⟩:=bs h
  obtain⟨av,F3,-,g1,aw,ax,Z⟩:=B.el (a8 P).2.2
  obtain⟨rfl,-⟩:=Z
  refine lia B P J<|lhx 0 5 g1 J<|lnz kh J fun a1=>la J<|soN 0 j6 J ⟨J,J,J,J,J,trivial⟩ J ?_
  refine arr 6 [1,32] J ?_
  obtain⟨d,Q,h⟩:=bs h
  obtain⟨aA,F4,-,g2,aB,aC,r2⟩:=H.el (a8 Q).2.2
  obtain⟨rfl,-⟩:=r2
  refine lia H Q J<|lhx 0 3 g2 J<|lnz jY J fun a7=>soN 0 pL J ⟨J,J,J,trivial⟩ J ?_
  refine art 12 [0,32] J ?_
  refine ch h J ?_ ?_ <;> intro h
  ·refine atr 5 [2,35,3] J<|lq (tH oe J J J (r:=bQ i.V d) J) J<|en ?_
   refine ch h J ?_ ?_ <;> intro h
   ·refine sr<|la J<|kab h J J J (fun b z q=>d4 N b w (D.y z) q) ?_
    rintro x5 h v5 aF F5 ⟨aG,aH,v6,rfl,rfl,h3⟩
    refine art 3 [] J ?_
    exact rtg [0] E (az.two J J) J (by cases h;exact fun L hw=>⟨v5,rfl,rfl,h3⟩)
   refine att 7 [] J ?_
   exact lb [0] [2] (G (_,_,_,_) ⟨h,k⟩)
  refine att 5 [] J ?_
  refine ch h J ?_ ?_ <;> intro h
  ·refine atr 5 [1,32] J<|qc h (tM N · s1 i.S k.rsl ·) J J J fun R h=>arr 3 [] J<|lnz jY J fun aK=>soN 0 pL J ⟨J,J,J,trivial⟩ J ?_
   refine arr 7 [] J ?_
   obtain⟨b2,A,h⟩:=bs h
   refine WL.cutN 4 [(69,.bool b2),(2,n),(4,pQ F),(8,O),(10,pQ a1),(11,pQ a7),(13,.bool R.2),(33,f),(34,iV (u.Args.length:Int)),(35,iV s2)] ?_ (fun K=>?_)
   rotate_left
   ·refine sp 65 A J (fun A=>?_) fun A=>?_
    ·refine arr 2 [3,35] J<|ly J J<|lq (tH oe J J J (r:=bQ R.1 d) J) J<|la J ?_
     cases A
     exact ku K
    ·refine arr 4 [] J ?_
     cases A
     exact ku K
   refine en ?_
   refine ch h J ?_ ?_ <;> intro h
   ·refine sr<|la J<|kab h J J J (fun b z q=>d4 N b w (D.y z) q) ?_
    rintro x7 h v7 aL F6 ⟨aM,aN,v8,rfl,rfl,h4⟩
    refine art 3 [] J ?_
    exact rtg [0] E (az.two J J) J (by cases h;exact fun L hw=>⟨v7,rfl,rfl,h4⟩)
   refine att 6 [] J ?_
   refine ch h J ?_ ?_ <;> intro h
   ·refine atr 5 [1,64,35] J<|lq (bu (vs:=[(0,.string i.S),(1,.agg [iV d.K,iV d.N,.string d.S].toArray)]) (C:=#[.string i.S,iV d.K,iV d.N,.string d.S]) JU vn J (aa (C':=[.string i.S,iV 0,iV 0,.string ⟨#[]⟩]) J J J J J (aa (C':=[.string i.S,iV d.K,iV d.N,.string d.S]) J J J J J (ae)))) J ?_
    have ab:RC aJ 4 Y ([[]]:List (List Nat)) [.string i.S,iV d.K,iV d.N,.string d.S] ([(⟨i.S,d⟩:au)]:List au):=RC.cons (c:=[.string i.S,iV d.K,iV d.N,.string d.S]) (cells:=[]) ⟨J,J⟩ J (RC.nil _ _ _)
    refine le' (bz (vs:=[(0,.agg [.string i.S,iV d.K,iV d.N,.string d.S].toArray)]) (C:=#[.string i.S,iV d.K,iV d.N,.string d.S]) aJ.lasts pI vn J J J J (ar Ep (aa (C':=[.string i.S,iV d.K,iV d.N,.string d.S]) J J J J J (ae))) J ab J (by simpa using Kw.nil)) J ?_
    rintro v9 af D1 ⟨ag,M⟩
    replace M:OSl aJ 97 4 af [] v9 ([(⟨i.S,d⟩:au)]:List au):=by simpa using M
    replace k:=k.f0 ag
    obtain⟨x8,ah,h⟩:=bs h
    refine le' (dM aJ.lasts aJ.one aJ.flat pI Cz J J J J J (js:=[1]) (Rr:=[ob v9]) J k M.rsl ah) J ?_
    rintro v10 aO D2 ⟨⟨aP,aQ⟩,h6⟩
    refine art 8 [] J ?_
    exact lb [0] [3] (G (_,_,_,_) ⟨h,h6⟩)
   refine att 7 [] J ?_
   exact lb [0] [3] (G (_,_,_,_) ⟨h,k⟩)
  refine att 7 [] J ?_
  exact lb [0] [2] (G (_,_,_,_) ⟨h,k⟩)
 refine att 7 [] J ?_
 exact rtg [0] E (az.two J J) J (by cases h;exact fun L hw=>⟨O,rfl,rfl,k⟩)
theorem pO (w0:aD a e []) (u:(List ay)) (d:ac) (k:(List Int)) (B:RSl cS 3 a b0 o u) (H:RSl aY 3 a b9 ai d.Items) (w:RSl (RI .i64) 1 a b7 n k) {r:(List au) × Bool} (h:ik N u d k=some r) :
  Calls prog 116 [o,.agg [ai,iV d.Next].toArray,n].toArray w0.w (bc e w0.w [] (fun I Fs v=>∃ (x:Value),v = .tuple #[x,.bool r.2]∧Fs=[ob x]∧OSl aJ 97 4 I [] x r.1)):=by
 refine eN func116 J ntmps116 J w0 fun y=>?_
 unfold ik at h
 refine sr<|lbx J fun C=>arr 11 [] J<|lnr w J<|art 3 [] J<|wtS ?_
 have K:=OSl.nil aJ 97 4 e
 refine lin (σ:=Hp × (List au) × Value × Int) (fun s=>[(0,o),(4,pQ C),(8,s.2.2.1),(13,n),(14,iV (k.length:Int)),(15,iV s.2.2.2)]) (fun s=>St w0 s.1 [(C,.cells #[ai,iV d.Next] 29 (0,0))] [ob s.2.2.1]) (fun m s=>dX N u d k m s.2.1 s.2.2.2=some r∧(OSl aJ 97 4 s.1 [] s.2.2.1 s.2.1)) (e,([]:List au),(.slice none 0 0),0) N ⟨h,K⟩ (sx [0] [0]) (fun n1 L s hm=>?_)
 obtain⟨a1,s1,E,s2⟩:=s
 obtain⟨h,c⟩:=hm
 dsimp only at h c ⊢
 unfold dX at h
 refine att 5 [] J ?_
 refine ch h J ?_ ?_ <;> intro h
 ·refine atr 6 [] J ?_
  obtain⟨M,F,h⟩:=bs h
  obtain⟨a7,F1,-,g1,aa,ab,O⟩:=w.el (a8 F).2.2
  obtain⟨rfl,-⟩:=O
  refine lia w F J<|lhx 0 0 g1 J<|arr 7 [2] J<|kab h J J J (fun b z q=>nv N b d M (H.y z) q) ?_
  rintro P h v1 ae F2 ⟨Q,S,v2,rfl,rfl,h1⟩
  replace c:=c.fr S (Q.q 0 J) dN
  refine arr 3 [] J<|lnz lz J fun af=>soN 0 mC J ⟨J,h1.one,trivial⟩ J ?_
  refine art 8 [] J ?_
  refine ch h J ?_ ?_ <;> intro h
  ·refine att 5 [] J ?_
   refine WT.ret y (az.two J J) (fun i hw=>?_)
   cases h
   replace hw:=hw.addNil
   refine aH (js:=[0]) hw J ⟨.slice none 0 0,J,J,OSl.nil _ _ _ _⟩
  refine att 2 [] J<|wm [0,1] [] J<|amm 2 [0,1] [0,1] J J ?_
  obtain⟨A,G,h⟩:=bs h
  obtain⟨ag,F3,-,g2,ah,ak,T⟩:=B.el (a8 G).2.2
  obtain⟨v3,G1,rfl,U,V⟩:=T
  obtain rfl:=U.symm
  refine mq 2 J NQ (kN [0,1]) (an tb J J B G) J<|mq 3 J NQ (kN [0,1]) (aw wn J (fun i hw=>(g2.of_eq 0 3 J J:rg _ _ _ [.string A.Kind,v3,.bool A.Not]).rangeAt hw.1) J) J<|amm 2 [4,2,5] [0,1] J J ?_
  obtain⟨x4,W,h⟩:=bs h
  refine WM.one 6 NQ (mc J (fun _ v al D i hq hw=>Kn.of Kf.nil (ai2 0 1 J J) hw) (bH (js:=[]) (R:=[ob v2,ob E]) E5 J J (fun i hw ap hl=>lE N (ba hw.fro) A P.1 s1 (V.y hw.up) h1.rsl c.rsl  W)) J ?_)
  rintro v4 ao F4 ⟨X,Y,v5,rfl,rfl,Z⟩
  replace c:=c.fr Y (X.q 1 J) dN
  refine amm 5 [7,8,9,10,11] [0,1] J J<|WM.nil NQ<|att 5 [] J ?_
  refine ch h J ?_ ?_ <;> intro h
  ·refine att 5 [] J ?_
   refine WT.ret y (az.two J J) (fun i hw=>?_)
   cases h
   replace hw:=hw.addNil
   refine aH (js:=[0]) hw J ⟨.slice none 0 0,J,J,OSl.nil _ _ _ _⟩
  refine att 6 [] J ?_
  exact lb [0] [1] (L (_,_,_,_) ⟨h,Z⟩)
 refine att 7 [] J ?_
 exact rtg [0] y (az.two J J) J (by cases h;exact fun i hw=>⟨E,rfl,rfl,c⟩)
theorem tG (w0:aD a e [ob g,aj].flatten) (c:dl) (y:(List ao)) (u:Int) (ae:RSl cS 3 a ad f c.pos) (Q:RSl cS 3 a b6 j c.neg) (av:RSl (RI .i64) 1 a b8 l c.chain.Pos) (aw:RSl (RI .i64) 1 a bX p c.chain.Neg) (ax:RSl im 1 a c7 a6 c.alphas) (V:RSl aY 3 a c0 t c.s.Items) (I:OSl aT 105 2 e aj g y) {r:(List ao)} (h:gV N c y u=some r) :
  Calls prog 134 [.agg [f,j,l,p,a6,t,iV c.s.Next,iV c.id].toArray,g,iV u].toArray w0.w (bc e w0.w [ob g,aj].flatten (fun af Fs v=>∃ (W:List Nat),v = .tuple #[]∧Fs=[ob g,W]∧OSl aT 105 2 af W g r)):=by
 refine eL func134 J ntmps134 J (L:=[ob g,aj]) w0 (fun hF=>?_)
 unfold gV at h
 refine sr<|lbx J fun K=>arr 7 [5,2,7,0] J<|kab h J J J (fun b z q=>nv N b c.s c.id (V.y z) q) ?_
 rintro w h v1 ag F1 ⟨X,ah,v2,rfl,rfl,h1⟩
 replace I:=I.fr ah (X.q 0 J) (X.q 1 J)
 refine arr 3 [] J<|lnz lz J fun M=>soN 0 mC J ⟨J,h1.one,trivial⟩ J ?_
 refine arr 5 [] J<|lno I J<|art 3 [] J ?_
 refine lin (σ:=Hp × (List ao) × List Nat × Int) (fun s=>[(2,iV u),(3,pQ K),(6,pQ M),(24,g),(25,iV (y.length:Int)),(26,iV s.2.2.2)]) (fun s=>St w0 s.1 [(M,.cells #[.string w.1.Kind,v2] 52 (0,0)),(K,.cells #[f,j,l,p,a6,t,iV c.s.Next,iV c.id] 191 (0,0))] [ob v2,ob g,s.2.2.1]) (fun m s=>cp N c y u w m s.2.1 s.2.2.2=some r∧(OSl aT 105 2 s.1 s.2.2.1 g s.2.1)∧(OSl aU 95 3 s.1 [] v2 w.1.Fields)) (ag,y,aj,0) N ⟨h,I,h1⟩ (sx [0,0,0] [0,0]) (fun n1 Y s hm=>?_)
 obtain⟨ay,s1,D1,s2⟩:=s
 obtain⟨h,R,h1⟩:=hm
 dsimp only at h R h1 ⊢
 unfold cp at h
 refine att 5 [] J ?_
 refine ch h J ?_ ?_ <;> intro h
 ·refine atr 5 [] J ?_
  obtain⟨A,S,h⟩:=bs h
  obtain⟨aA,F2,D,B,r1,aB,ak⟩:=R.focus S
  obtain⟨v3,v4,rfl,rfl,d,E⟩:=r1
  refine wlL [ob v3,ob v4,D,ob v2,ob g] (sre [2] [ob v3,ob v4,D] J (by simpa[gf] using ak))<|lih B S J<|lgx 0 2 B.rg J<|lnz ib J fun Z=>soN 0 oX J ⟨d.one,E.one,trivial⟩ J ?_
  refine arr 9 [0,64,5,66,0,0] J<|kab h J J J (fun b z q=>pO N b c.pos c.s A.Ids (ae.y z) (V.y z) d.rsl q) ?_
  rintro T h v5 a1 F3 ⟨F,O,v6,rfl,rfl,i⟩
  replace B:=B.fr O (F.q 4 J) (F.q 2 J)
  replace h1:=h1.fr O (F.q 3 J) dN
  replace d:=d.fr O (F.q 0 J) dN
  replace E:=E.fr O (F.q 1 J) dN
  refine art 12 [] J ?_
  refine ch h J ?_ ?_ <;> intro h
  ·refine att 5 [] J ?_
   have r2:aT a1 _ [v3,v4] A:=⟨v3,v4,J,J,d,E⟩
   obtain⟨D3,h6,al⟩:=B.unfocus r2 (aT.knows _ _ _ _ r2)
   rw[HE S] at h6
   refine wtL [D3,ob v6,ob v2,ob g] (smg [1,1,1] J (by simpa[gf,cO] using al)) ?_
   exact lb [2,2,0] [1,1] (Y (_,_,_,_) ⟨h,h6,h1⟩)
  refine atr 5 [1,64] J<|lnr Q J<|art 3 [] J ?_
  refine lin (σ:=Hp × (List Int) × Int) (fun s=>[(2,iV u),(3,pQ K),(6,pQ M),(9,pQ Z),(10,v6),(24,g),(25,iV (y.length:Int)),(26,iV s2),(43,j),(44,iV (c.neg.length:Int)),(45,iV s.2.2)]) (fun s=>St w0 s.1 [(Z,.cells #[v3,v4] 105 (0,0)),(M,.cells #[.string w.1.Kind,v2] 52 (0,0)),(K,.cells #[f,j,l,p,a6,t,iV c.s.Next,iV c.id] 191 (0,0))] [ob v6,ob v3,ob v4,D,ob v2,ob g]) (fun m s=>cP N c u w s1 s2 (cp N c y u w n1) A T m s.2.1 s.2.2=some r∧(OSl aU 95 3 s.1 [] v2 w.1.Fields)∧(OSl (RI .i64) 3 1 s.1 [] v3 A.Ids)∧(OSl (RI .i64) 3 1 s.1 [] v4 s.2.1)∧(OSl aJ 97 4 s.1 [] v6 T.1)∧(HSl aT 105 2 s.1 D g s1 s2.toNat [v3,v4])) (a1,A.Hits,0) N ⟨h,h1,d,E,i,B⟩ (sx [0,0,0,0,0,0] [0,0,0]) (fun n2 a7 s hm=>?_)
  obtain⟨an,s3,s4⟩:=s
  obtain⟨h,h1,d,k,i,x⟩:=hm
  dsimp only at h h1 d k i x ⊢
  unfold cP at h
  refine att 5 [] J ?_
  refine ch h J ?_ ?_ <;> intro h
  ·refine atr 6 [] J ?_
   obtain⟨x4,aa,h⟩:=bs h
   obtain⟨aC,F4,-,g1,aF,aG,r3⟩:=Q.el (a8 aa).2.2
   obtain⟨v7,G1,rfl,aq,h7⟩:=r3
   obtain rfl:=aq.symm
   refine lia Q aa J<|lhx 0 3 g1 J<|lnz lI J fun aI=>la J<|soN 0 pD J ⟨J,h7.one,J,trivial⟩ J ?_
   refine arr 6 [3,66] J<|kab h J J J (fun b z q=>lE N b x4 w.1 T.1 (h7.y z) h1.rsl i.rsl q) ?_
   rintro x5 h v8 aK F5 ⟨C,G,v9,rfl,rfl,h8⟩
   replace x:=x.fr G (C.q 5 J) (C.q 3 J)
   replace h1:=h1.fr G (C.q 4 J) dN
   replace d:=d.fr G (C.q 1 J) dN
   replace k:=k.fr G (C.q 2 J) dN
   replace i:=i.fr G (C.q 0 J) dN
   refine art 10 [] J ?_
   refine ch h J ?_ ?_ <;> intro h
   ·refine atr 4 [1,32] J ?_
    obtain⟨x6,ab,h⟩:=bs h
    obtain⟨aL,F6,-,g2,aM,aN,r4⟩:=k.elS (a8 ab).2.2
    obtain⟨rfl,-⟩:=r4
    refine lio k ab J<|lgx 0 0 g2 J<|arr 2 [] J ?_
    obtain⟨x7,U,h⟩:=bs h
    obtain⟨aO,F7,-,g3,aP,aQ,r5⟩:=k.elS (a8 U).2.2
    obtain⟨rfl,-⟩:=r5
    refine lio k U J<|lu (Dp (js:=[3]) (Rr:=[ob v9,ob v6,ob v3,D,ob v2,ob g]) (vs:=[iV (wz (x6+u))]) (x':=wz (x6+u)) RI.lasts RI.flat zq J J J J ⟨J,trivial⟩ J k (ux U) ⟨J,J⟩) J ?_
    rintro aR D4 ⟨⟨H,P⟩,h9⟩
    replace x:=x.fr P (H.q 5 J) (H.q 3 J)
    replace h1:=h1.fr P (H.q 4 J) dN
    replace d:=d.fr P (H.q 2 J) dN
    replace i:=i.fr P (H.q 1 J) dN
    refine art 6 [] J ?_
    exact lb [2,2,0,1,1,1] [1,1,1] (a7 (_,_,_) ⟨h,h1,d,h9,i,x⟩)
   refine att 6 [] J ?_
   exact lb [1,1,1,1,1,1] [1,1,1] (a7 (_,_,_) ⟨h,h1,d,k,i,x⟩)
  refine att 6 [] J ?_
  have r6:aT an _ [v3,v4] (⟨A.Ids,s3⟩:ao):=⟨v3,v4,J,J,d,k⟩
  obtain⟨D5,ar,au⟩:=x.unfocus r6 (aT.knows _ _ _ _ r6)
  refine wtL [D5,ob v6,ob v2,ob g] (smg [1,1,1] J (by simpa[gf,cO] using au)) ?_
  exact lb [2,2,0] [1,1] (Y (_,_,_,_) ⟨h,ar,h1⟩)
 refine xt J ?_
 refine WT.fin hF az.none (fun w1 hw=>?_)
 cases h
 refine aH (js:=[1,1]) hw J ⟨D1,J,J,R⟩
theorem kA (w0:aD a e []) (m:(List ao)) (b:RSl dW 2 a b0 o m) {r:(List ao)} (h:ev N m=some r) :
  Calls prog 179 [o].toArray w0.w (bc e w0.w [] (fun x Fs v=>∃ (d:Value) (q:List Nat),v=d∧Fs=[ob d]∧OSl dW 105 2 x q d r∧(∀ k∈q,k∈b0))):=by
 refine eN func179 J ntmps179 J w0 fun s=>?_
 unfold ev at h
 refine att 6 [] J ?_
 rcases RSl.nilOr b with ⟨y,z,i⟩ | ⟨H,z,i⟩
 ·replace h:some []=some r:=by simpa[y,app] using h
  refine atr 2 [] J<|lq (nF eh (congrArg some i) J) J<|en ?_
  refine cd J (fun c=>?_) (fun c=>by simp at c)
  refine att 4 [] J ?_
  refine WT.ret s (az.one J) (fun u hw=>?_)
  cases h
  replace hw:=hw.addNil
  refine aH (js:=[0]) hw J ⟨.slice none 0 0,[],J,J,OSl.nil _ _ _ _,NS⟩
 refine atr 2 [] J<|lq (nF eh (congrArg some i) J) J<|en ?_
 refine cd J (fun c=>by simp at c) (fun c=>?_)
 refine atr 3 [] J ?_
 have A:RC aT 2 e ([]:List (List Nat)) [] ([]:List ao):=RC.nil _ _ _
 refine le' (bz (vs:=[]) (C:=#[]) aT.lasts eh ib J J J J (ar sN (ae)) J A J (by simpa using Kw.nil)) J ?_
 rintro v1 w I ⟨K,h1⟩
 replace h1:OSl aT 105 2 w [] v1 ([]:List ao):=by simpa[gf] using h1
 refine WL.conv (S':=St w0 w [] [[],ob v1]) (fun u hw=>hw.addNil)<|la J<|lu0 b fun B=>?_
 obtain⟨L,D,h⟩:=bs h
 replace h1:=h1.gives aT.gives
 refine le' (LU dW.lasts dW.knows dW.one eh qw J J J J J (js:=[1]) (Rr:=[[]]) J h1 B (fun ap=>dN) (fun ap=>(ap.o b.old)) D) J ?_
 rintro v2 M E ⟨⟨O,P⟩,F,G⟩
 refine la J<|en ?_
 exact rtg [0] s (az.one J) J (by cases h;exact fun u hw=>⟨v2,E,rfl,rfl,G,(fun k hk=>((fun k hk=>(by simpa using F k hk:k∈b0)) k hk))⟩)
theorem nO (w0:aD a e []) (q:(List ao)) (b:OSl dW 105 2 a bj o q) {r:(List ao)} (h:eI N q=some r) :
  Calls prog 179 [o].toArray w0.w (bc e w0.w [] (fun y Fs v=>∃ (d:Value) (s:List Nat),v=d∧Fs=[ob d]∧OSl dW 105 2 y s d r∧(∀ k∈s,k∈bj))):=by
 refine eN func179 J ntmps179 J w0 fun u=>?_
 unfold eI at h
 refine att 6 [] J ?_
 rcases RSl.nilOr (b.rsl) with ⟨z,A,i⟩ | ⟨H,A,i⟩
 ·replace h:some []=some r:=by simpa[z,app] using h
  refine atr 2 [] J<|lq (nF eh (congrArg some i) J) J<|en ?_
  refine cd J (fun c=>?_) (fun c=>by simp at c)
  refine att 4 [] J ?_
  refine WT.ret u (az.one J) (fun w hw=>?_)
  cases h
  replace hw:=hw.addNil
  refine aH (js:=[0]) hw J ⟨.slice none 0 0,[],J,J,OSl.nil _ _ _ _,NS⟩
 refine atr 2 [] J<|lq (nF eh (congrArg some i) J) J<|en ?_
 refine cd J (fun c=>by simp at c) (fun c=>?_)
 refine atr 3 [] J ?_
 have B:RC aT 2 e ([]:List (List Nat)) [] ([]:List ao):=RC.nil _ _ _
 refine le' (bz (vs:=[]) (C:=#[]) aT.lasts eh ib J J J J (ar sN (ae)) J B J (by simpa using Kw.nil)) J ?_
 rintro v1 x I ⟨K,h1⟩
 replace h1:OSl aT 105 2 x [] v1 ([]:List ao):=by simpa[gf] using h1
 refine WL.conv (S':=St w0 x [] [[],ob v1]) (fun w hw=>hw.addNil)<|la J<|luO b fun D=>?_
 obtain⟨E,F,h⟩:=bs h
 replace h1:=h1.gives aT.gives
 refine le' (dS dW.lasts dW.one eh qw J J J J J (js:=[1]) (Rr:=[[]]) J h1 D (fun ap=>dN) (fun ap=>(ap.o b.old)) F) J ?_
 rintro v2 G L ⟨⟨M,O⟩,m⟩
 replace m:OSl dW 105 2 G bj v2 E:=by simpa using m
 refine la J<|en ?_
 exact rtg [0] u (az.one J) J (by cases h;exact fun w hw=>⟨v2,bj,rfl,rfl,m,(fun k hk=>hk)⟩)
theorem cM (w0:aD a e []) (i:(List Int)) (k:RSl (RI .i64) 1 a b0 o i) {r:(List Int)} (h:bh N i=some r) :
  Calls prog 56 [o].toArray w0.w (bc e w0.w [] (fun q Fs v=>∃ (b:Value),v=b∧Fs=[ob b]∧OSl (RI .i64) 3 1 q [] b r)):=by
 refine eN func56 J ntmps56 J w0 fun m=>?_
 unfold bh at h
 refine att 6 [] J ?_
 rcases RSl.nilOr k with ⟨s,u,d⟩ | ⟨A,u,d⟩
 ·replace h:some []=some r:=by simpa[s,app] using h
  refine atr 2 [] J<|lq (nF cq (congrArg some d) J) J<|en ?_
  refine cd J (fun c=>?_) (fun c=>by simp at c)
  refine att 4 [] J ?_
  refine WT.ret m (az.one J) (fun w hw=>?_)
  cases h
  replace hw:=hw.addNil
  refine aH (js:=[0]) hw J ⟨.slice none 0 0,J,J,OSl.nil _ _ _ _⟩
 refine atr 2 [] J<|lq (nF cq (congrArg some d) J) J<|en ?_
 refine cd J (fun c=>by simp at c) (fun c=>?_)
 refine atr 3 [] J<|le' (lJ (R:=RI .i64) RI.lasts cq mg J J) J ?_
 rintro v1 B C ⟨D,h1⟩
 refine la J<|lu0 k fun x=>?_
 obtain⟨E,y,h⟩:=bs h
 refine le' (dM RI.lasts RI.one RI.flat cq sh J J J J J (js:=[0]) (Rr:=[]) J h1 x y) J ?_
 rintro v2 F G ⟨⟨H,I⟩,z⟩
 refine la J<|en ?_
 exact rtg [0] m (az.one J) J (by cases h;exact fun w hw=>⟨v2,rfl,rfl,z⟩)
theorem tL (w0:aD a e []) (c:ay) (d:ac) (i:(List au)) (x:RSl f8 5 a ad f c.Args) (u:RSl aY 3 a b9 ai d.Items) (y:RSl aJ 4 a b7 n i) {r:Int} (h:nu N c d i=some r) :
  CB w0 prog 232 [.agg [.string c.Kind,f,.bool c.Not].toArray,.agg [ai,iV d.Next].toArray,n] (iV r):=by
 refine eN func232 J ntmps232 J w0 fun A=>?_
 unfold nu at h
 refine sr<|lbx J fun k=>lbx J fun G=>arr 11 [0,0] J<|lnr u J<|art 3 [] J ?_
 refine lin (σ:=Hp × Int × Int) (fun s=>[(2,n),(3,pQ k),(7,iV s.2.1),(13,ai),(14,iV (d.Items.length:Int)),(15,iV s.2.2)]) (fun s=>St w0 s.1 [(k,.cells #[.string c.Kind,f,.bool c.Not] 201 (0,0))] []) (fun m s=>fE N c d i m s.2.1 s.2.2=some r) (e,0,0) N h (sx [] [1]) (fun B v s hm=>?_)
 obtain⟨C,s1,s2⟩:=s
 have h:fE N c d i (B+1) s1 s2=some r:=hm
 show WT _ _ [(2,n),(3,pQ k),(7,iV s1),(13,ai),(14,iV (d.Items.length:Int)),(15,iV s2)] (St w0 C [(k,.cells #[.string c.Kind,f,.bool c.Not] 201 (0,0))] [])
 unfold fE at h
 refine att 5 [] J ?_
 refine ch h J ?_ ?_ <;> intro h
 ·refine atr 5 [] J ?_
  obtain⟨D,w,h⟩:=bs h
  obtain⟨H,I,-,g1,K,L,E⟩:=u.el (a8 w).2.2
  obtain⟨v1,M,rfl,F,h1⟩:=E
  obtain rfl:=F.symm
  refine lia u w J<|lhx 0 3 g1 J<|lnz ox J fun O=>soN 0 wT J ⟨J,J,h1.one,trivial⟩ J ?_
  refine arr 7 [35,1,2] J<|kab h J J J (fun b z q=>lE N b c D.F i (x.y z) (h1.y z) (y.y z) q) ?_
  rintro P h v2 Q R ⟨S,T,v3,rfl,rfl,U⟩
  refine art 10 [] J ?_
  refine ch h J ?_ ?_ <;> intro h
  ·refine att 10 [] J ?_
   exact lb [] [1] (v (_,_,_) h)
  refine att 6 [] J ?_
  exact lb [] [1] (v (_,_,_) h)
 refine att 6 [] J ?_
 exact rt A h
theorem km (w0:aD a e []) (i:dl) (G:(List Int)) (A:(List Int)) (Z:RSl cS 3 a ad f i.pos) (Q:RSl cS 3 a b6 j i.neg) (aU:RSl (RI .i64) 1 a b8 l i.chain.Pos) (aV:RSl (RI .i64) 1 a bX p i.chain.Neg) (aW:RSl im 1 a c7 a6 i.alphas) (a1:RSl aY 3 a c0 t i.s.Items) (av:RSl (RI .i64) 1 a pG1 g G) (R:RSl (RI .i64) 1 a b7 n A) {r:(List ao)} (h:eM N i G A=some r) :
  Calls prog 197 [.agg [f,j,l,p,a6,t,iV i.s.Next,iV i.id].toArray,g,n].toArray w0.w (bc e w0.w [] (fun aw Fs v=>∃ (S:Value) (a7:List Nat),v=S∧Fs=[ob S,a7]∧OSl aT 105 2 aw a7 S r)):=by
 refine eN func197 J ntmps197 J w0 fun hF=>?_
 unfold eM at h
 refine sr<|lbx J fun H=>arr 10 [] J<|lnr R J<|art 3 [] J<|wtS<|wt0 ?_
 have k1:=OSl.nil aT 105 2 e
 refine lin (σ:=Hp × (List ao) × Value × List Nat × Int) (fun s=>[(1,g),(3,pQ H),(7,s.2.2.1),(16,n),(17,iV (A.length:Int)),(18,iV s.2.2.2.2)]) (fun s=>St w0 s.1 [(H,.cells #[f,j,l,p,a6,t,iV i.s.Next,iV i.id] 191 (0,0))] [s.2.2.2.1,ob s.2.2.1]) (fun m s=>bU N i G A m s.2.1 s.2.2.2.2=some r∧(OSl aT 105 2 s.1 s.2.2.2.1 s.2.2.1 s.2.1)) (e,([]:List ao),(.slice none 0 0),[],0) N ⟨h,k1⟩ (sx [0,0] [0]) (fun n1 ab s hm=>?_)
 obtain⟨aX,s1,w,x,s2⟩:=s
 obtain⟨h,d⟩:=hm
 dsimp only at h d ⊢
 unfold bU at h
 refine att 5 [] J ?_
 refine ch h J ?_ ?_ <;> intro h
 ·refine atr 5 [] J ?_
  obtain⟨B,af,h⟩:=bs h
  obtain⟨aZ,F1,-,g1,b1,b2,r1⟩:=R.el (a8 af).2.2
  obtain⟨rfl,-⟩:=r1
  refine lia R af J<|lhx 0 0 g1 J<|arr 5 [] J<|kab h J J J (fun b z q=>cM N b G (av.y z) q) ?_
  rintro x2 h v1 ax F2 ⟨ag,ay,v2,rfl,rfl,h1⟩
  replace d:=d.fr ay (ag.q 1 J) (ag.q 0 J)
  refine la J ?_
  have aA:RC (RI .i64) 1 ax ([[]]:List (List Nat)) [iV B] ([B]:List Int):=RC.cons (c:=[iV B]) (cells:=[]) ⟨J,J⟩ J (RC.nil _ _ _)
  refine le' (bz (vs:=[(0,iV B)]) (C:=#[iV B]) RI.lasts cq mg J J J J (ar ki (aa (C':=[iV B]) J J J J J (ae))) J aA J (by simpa using Kw.nil)) J ?_
  rintro v3 aB D2 ⟨ah,T⟩
  replace T:OSl (RI .i64) 3 1 aB [] v3 ([B]:List Int):=by simpa using T
  replace d:=d.f0 ah
  replace h1:=h1.f0 ah
  obtain⟨E,aC,h⟩:=bs h
  refine le' (dM RI.lasts RI.one RI.flat cq sh J J J J J (js:=[1]) (Rr:=[ob v3,x,ob w]) J h1 T.rsl aC) J ?_
  rintro v4 b3 D3 ⟨⟨ak,aF⟩,k⟩
  replace d:=d.fr aF (ak.q 2 J) (ak.q 1 J)
  refine arr 9 [0,0,5,2] J<|kab h J J J (fun b z q=>pO N b i.pos i.s E (Z.y z) (a1.y z) k.rsl q) ?_
  rintro U h v5 al F3 ⟨V,an,v6,rfl,rfl,y⟩
  replace d:=d.fr an (V.q 3 J) (V.q 2 J)
  replace k:=k.fr an (V.q 0 J) dN
  refine art 12 [] J ?_
  refine ch h J ?_ ?_ <;> intro h
  ·refine att 5 [] J ?_
   exact lb [3,3] [0] (ab (_,_,_,_,_) ⟨h,d⟩)
  refine atr 4 [] J<|lq (bu (vs:=[(0,v4)]) (C:=#[v4,.slice none 0 0]) Di ib J (aa (C':=[v4,.slice none 0 0]) J (d6 k.one) J J J (ae))) J<|lnz ib J fun L=>soN 0 oX J ⟨k.one,J,trivial⟩ J ?_
  refine arr 5 [] J<|lno k J<|arr 2 [0,32] J<|lnr Z J<|la J<|en<|wtS ?_
  have k3:=OSl.nil (RI .i64) 3 1 al
  refine cut (σ:=Hp × (List Int) × Value) (fun s=>[(1,g),(3,pQ H),(7,w),(13,pQ L),(16,n),(17,iV (A.length:Int)),(18,iV s2)]) (fun s=>St w0 s.1 [(L,.cells #[v4,s.2.2] 105 (0,0)),(H,.cells #[f,j,l,p,a6,t,iV i.s.Next,iV i.id] 191 (0,0))] [ob s.2.2,ob v4,x,ob w]) (fun s=>cV N s1 s2 (bU N i G A n1) E s.2.1=some r∧(OSl aT 105 2 s.1 x w s1)∧(OSl (RI .i64) 3 1 s.1 [] v4 E)∧(OSl (RI .i64) 3 1 s.1 [] s.2.2 s.2.1)) (fun s hm=>?_) (fun K=>?_)
  ·clear h
   obtain⟨aG,s3,u⟩:=s
   obtain⟨h,d,k,k4⟩:=hm
   dsimp only at h d k k4 ⊢
   unfold cV at h
   refine atr 3 [2] J ?_
   have aq:RC aT 2 aG ([(ob v4++[])++((ob u++[]))]:List (List Nat)) [v4,u] ([(⟨E,s3⟩:ao)]:List ao):=RC.cons (c:=[v4,u]) (cells:=[]) ⟨v4,u,J,J,k,k4⟩ J (RC.nil _ _ _)
   refine le' (bz (vs:=[(0,.agg [v4,u].toArray)]) (C:=#[v4,u]) aT.lasts eh ib J J J J (ar ve (aa (C':=[v4,u]) J J J J J (ae))) J aq J (RC.kn aT.knows aq)) J ?_
   rintro M aH D4 ⟨aI,W⟩
   replace W:OSl aT 105 2 aH ((ob v4++[])++((ob u++[]))) M ([(⟨E,s3⟩:ao)]:List ao):=by simpa[gf] using W
   replace d:=d.f0 aI
   refine wlL [((ob v4++[])++((ob u++[]))),ob M,x,ob w] (smg [2,1] J (SP.eq (by simp[gf,cO]))) ?_
   obtain⟨x5,aK,h⟩:=bs h
   refine le' (dS aT.lasts aT.one eh qw J J J J J (js:=[3]) (Rr:=[((ob v4++[])++((ob u++[]))),ob M,x]) J d W (fun ap=>ap.q 2 J) (fun ap=>ap.q 0 J) aK) J ?_
   rintro v8 b4 D5 ⟨⟨ba,bb⟩,h6⟩
   refine wlL [(x++((ob v4++[])++((ob u++[])))),ob v8,ob M] (smg [3,1] J (SP.eq NS))<|art 7 [] J ?_
   exact lb [0,0] [1] (ab (_,_,_,_,_) ⟨h,h6⟩)
  refine ch h J ?_ ?_ <;> intro h
  ·refine atr 4 [1,32] J<|lnr Q J<|art 3 [] J ?_
   refine lin (σ:=Hp × (List Int) × Value × Int) (fun s=>[(1,g),(3,pQ H),(7,w),(11,v6),(13,pQ L),(16,n),(17,iV (A.length:Int)),(18,iV s2),(47,j),(48,iV (i.neg.length:Int)),(49,iV s.2.2.2)]) (fun s=>St w0 s.1 [(L,.cells #[v4,s.2.2.1] 105 (0,0)),(H,.cells #[f,j,l,p,a6,t,iV i.s.Next,iV i.id] 191 (0,0))] [ob s.2.2.1,ob v6,ob v4,x,ob w]) (fun m s=>cU N i s1 s2 (bU N i G A n1) E U m s.2.1 s.2.2.2=some r∧(OSl aT 105 2 s.1 x w s1)∧(OSl (RI .i64) 3 1 s.1 [] v4 E)∧(OSl aJ 97 4 s.1 [] v6 U.1)∧(OSl (RI .i64) 3 1 s.1 [] s.2.2.1 s.2.1)) (al,([]:List Int),(.slice none 0 0),0) N ⟨h,d,k,y,k3⟩ (sx [0,0,0,1,1] [0,0]) (fun n3 aL s hm=>?_)
   obtain⟨aM,s4,u3,s5⟩:=s
   obtain⟨h,d,k,y,I⟩:=hm
   dsimp only at h d k y I ⊢
   unfold cU at h
   refine att 5 [] J ?_
   refine ch h J ?_ ?_ <;> intro h
   ·refine atr 5 [] J ?_
    obtain⟨x6,au,h⟩:=bs h
    obtain⟨bd,F4,-,g2,be,bf,r2⟩:=Q.el (a8 au).2.2
    obtain⟨v9,G1,rfl,aN,h7⟩:=r2
    obtain rfl:=aN.symm
    refine lia Q au J<|lhx 0 3 g2 J<|lnz lI J fun bg=>soN 0 pD J ⟨J,h7.one,J,trivial⟩ J ?_
    refine en<|wm [0,1,2] [10] J<|amm 6 [0,1,1,32,2,3,3,5,4,66,5] [0,1,2] J J ?_
    obtain⟨F,aO,h⟩:=bs h
    refine on1 6 (mp J (kS [0,1,2]) (pzP J (fun b z=>tL N b x6 i.s U.1 (h7.y z) (a1.y z) y.rsl aO)) J ?_)
    have aP:RC (RI .i64) 1 aM ([[]]:List (List Nat)) [iV F] ([F]:List Int):=RC.cons (c:=[iV F]) (cells:=[]) ⟨J,J⟩ J (RC.nil _ _ _)
    refine WM.one 7 NQ (me J (fun _ v aQ D w1 hq hw=>Kn.of Kf.nil (ai3 0 1 2 J J J) hw) (bz (vs:=[(0,iV F)]) (C:=#[iV F]) RI.lasts cq mg J J J J (ar ki (aa (C':=[iV F]) J J J J J (ae))) J aP J (by simpa using Kw.nil)) J ?_)
    rintro v10 aR D6 ⟨O,X⟩
    replace X:OSl (RI .i64) 3 1 aR [] v10 ([F]:List Int):=by simpa using X
    replace d:=d.f0 O
    replace k:=k.f0 O
    replace y:=y.f0 O
    replace I:=I.f0 O
    obtain⟨x8,aS,h⟩:=bs h
    refine WM.one 8 NQ (me J (fun _ v aQ D w1 hq hw=>Kn.of Kf.nil (ai3 0 1 2 J J J) hw) (dM RI.lasts RI.one RI.flat cq sh J J J J J (js:=[1]) (Rr:=[ob v10,ob v6,ob v4,x,ob w]) J I X.rsl aS) J ?_)
    rintro v11 bh D7 ⟨⟨P,Y⟩,h9⟩
    replace d:=d.fr Y (P.q 4 J) (P.q 3 J)
    replace k:=k.fr Y (P.q 2 J) dN
    replace y:=y.fr Y (P.q 1 J) dN
    refine amm 1 [9,1] [0,1,2] J J ?_
    refine on1 10 (ms1 1 J nk td J h9.one ?_)
    refine WM.nil NQ<|att 5 [] J ?_
    exact lb [0,1,1,1,1] [1,1] (aL (_,_,_,_) ⟨h,d,k,y,h9⟩)
   refine xt J ?_
   exact wo [0,1,1,1] [0,0] (K (_,_,_) ⟨h,d,k,I⟩)
  refine WT.skip ?_
  exact wo [0,1,2,2] [0,0] (K (_,_,_) ⟨h,d,k,k3⟩)
 refine att 6 [] J ?_
 exact rtg [1,0] hF (az.one J) J (by cases h;exact fun w1 hw=>⟨w,x,rfl,rfl,d⟩)
theorem ur (w0:aD a e [ob g,aj].flatten) (d:dl) (y:(List aq)) (ah:RSl cS 3 a ad f d.pos) (ak:RSl cS 3 a b6 j d.neg) (T:RSl (RI .i64) 1 a b8 l d.chain.Pos) (al:RSl (RI .i64) 1 a bX p d.chain.Neg) (U:RSl im 1 a c7 a6 d.alphas) (au:RSl aY 3 a c0 t d.s.Items) (aI:OSl aV 103 1 e aj g y) {r:(List aq)} (h:ig N d y=some r) :
  Calls prog 135 [.agg [f,j,l,p,a6,t,iV d.s.Next,iV d.id].toArray,g].toArray w0.w (bc e w0.w [ob g,aj].flatten (fun aX Fs v=>∃ (aJ:List Nat),v = .tuple #[]∧Fs=[ob g,aJ]∧OSl aV 103 1 aX aJ g r)):=by
 refine eL func135 J ntmps135 J (L:=[ob g,aj]) w0 (fun hF=>?_)
 unfold ig at h
 refine sr<|lbx J fun B=>arr 9 [] J<|lno aI J<|art 3 [] J<|wtS ?_
 have k1:=OSl.nil dW 105 2 e
 refine wtS ?_
 have k2:=OSl.nil dW 105 2 e
 refine lin (σ:=Hp × (List aq) × List Nat × (List ao) × Value × List Nat × (List ao) × Value × List Nat × Int) (fun s=>[(1,g),(2,pQ B),(4,s.2.2.2.2.1),(5,s.2.2.2.2.2.2.2.1),(13,iV (y.length:Int)),(14,iV s.2.2.2.2.2.2.2.2.2)]) (fun s=>St w0 s.1 [(B,.cells #[f,j,l,p,a6,t,iV d.s.Next,iV d.id] 191 (0,0))] [ob s.2.2.2.2.2.2.2.1,ob s.2.2.2.2.1,ob g,s.2.2.1]) (fun m s=>cn N d y m s.2.1 s.2.2.2.1 s.2.2.2.2.2.2.1 s.2.2.2.2.2.2.2.2.2=some r∧(OSl aV 103 1 s.1 s.2.2.1 g s.2.1)∧(OSl dW 105 2 s.1 s.2.2.2.2.2.1 s.2.2.2.2.1 s.2.2.2.1)∧(∀ k∈s.2.2.2.2.2.1,k∈s.2.2.1)∧(OSl dW 105 2 s.1 s.2.2.2.2.2.2.2.2.1 s.2.2.2.2.2.2.2.1 s.2.2.2.2.2.2.1)∧(∀ k∈s.2.2.2.2.2.2.2.2.1,k∈s.2.2.1)) (e,y,aj,([]:List ao),(.slice none 0 0),[],([]:List ao),(.slice none 0 0),[],0) N ⟨h,aI,k1,NS,k2,NS⟩ (sx [0,0,0,0] [0]) (fun n1 b1 s hm=>?_)
 obtain⟨av,s1,x,s2,V,D2,W,A,D3,E⟩:=s
 obtain⟨h,i,w,i1,u,i2⟩:=hm
 dsimp only at h i w i1 u i2 ⊢
 unfold cn at h
 refine att 5 [] J ?_
 refine ch h J ?_ ?_ <;> intro h
 ·refine att 18 [] J<|wtS<|wt0 ?_
  have k6:=OSl.nil aT 105 2 av
  refine cut (σ:=Hp × (List ao) × Value × List Nat) (fun s=>[(1,g),(2,pQ B),(6,iV E),(7,s.2.2.1),(13,iV (y.length:Int)),(14,iV E)]) (fun s=>St w0 s.1 [(B,.cells #[f,j,l,p,a6,t,iV d.s.Next,iV d.id] 191 (0,0))] [s.2.2.2,ob s.2.2.1,ob g,x]) (fun s=>cN N s1 E (cn N d y n1) s.2.1=some r∧(OSl aV 103 1 s.1 x g s1)∧(OSl aT 105 2 s.1 s.2.2.2 s.2.2.1 s.2.1)) (fun s hm=>?_) (fun K=>?_)
  ·clear h
   obtain⟨bN,s5,X,Y⟩:=s
   obtain⟨h,i,Z⟩:=hm
   dsimp only at h i Z ⊢
   unfold cN at h
   refine atr 4 [] J ?_
   obtain⟨x1,a7,h⟩:=bs h
   obtain⟨bO,F1,D5,h1,r1,bP,b2⟩:=i.focus a7
   obtain⟨v1,H,rfl,rfl,h2⟩:=r1
   refine wlL [ob v1,H,D5,Y,ob X,ob g] (sre [3] [ob v1,H,D5] J (by simpa[gf] using b2))<|lih h1 a7 J<|lf gZ J J J<|lgx 0 0 h1.rg J<|kab h J J J (fun b z q=>nO N b x1.Toks (h2.gives aT.gives) q) ?_
   rintro x2 h v2 bQ F2 ⟨I,aw,v3,D7,rfl,rfl,h3,i3⟩
   replace h1:=h1.fr aw (I.q 5 J) (I.q 2 J)
   replace Z:=Z.fr aw (I.q 4 J) (I.q 3 J)
   replace h2:=h2.fr aw (I.q 0 J) (I.q 1 J)
   refine arr 12 [] J<|lih h1 a7 J<|lf gZ J J J<|lgx 0 0 h1.rg J<|la J ?_
   obtain⟨x3,b3,h⟩:=bs h
   have h5:=Z.gives aT.gives
   refine le' (dS aT.lasts aT.one eh qw J J J J J (js:=[1]) (Rr:=[ob v2,H,D5,Y,ob X,ob g]) J h2 Z (fun ap=>ap.q 1 J) (fun ap=>ap.q 3 J) b3) J ?_
   rintro v4 bR D8 ⟨⟨M,ax⟩,h4⟩
   replace h1:=h1.fr ax (M.q 5 J) (M.q 2 J)
   replace h5:=h5.fr ax (M.q 4 J) (M.q 3 J)
   replace h3:=h3.fr ax (M.q 0 J) (Dj.sub (M.q 1 J) i3)
   refine wlL [(H++Y),ob v4,ob v2,D5,ob X,ob g] (smg [2,3] J (SP.eq NS))<|lih h1 a7 J<|lf gZ J J J<|lu (us [5] [(H++Y),ob v4,ob v2,D5,ob X] 0 aV.lasts Aw J J h4.one J h1 J (fun ap=>ap.q 3 J)) J ?_
   rintro b4 D9 ⟨⟨O,ay⟩,h6⟩
   replace h5:=h5.fr ay (O.q 4 J) (Dj.sub (O.q 0 J) (fun k hk=>gb.2 (.inr hk)))
   replace h4:=h4.fr ay (O.q 1 J) (O.q 0 J)
   replace h3:=h3.fr ay (O.q 2 J) (Dj.sub (Dj.sub (O.q 0 J) (fun k hk=>gb.2 (.inl hk))) i3)
   refine art 6 [] J ?_
   have r2:aV b4 _ [v4] (⟨x3⟩:aq):=⟨v4,(H++Y),J,J,h4⟩
   obtain⟨bb,h7,bd,aK,bS⟩:=h6.unfocusM r2 (aV.knows _ _ _ _ r2)
   refine wtL [bb,ob g,ob v2,ob X] (smg [2,1,2] J (by simpa[gf,cO] using bd)) ?_
   exact lb [3,2,1,0] [0] (b1 (_,_,_,_,_,_,_,_,_,_) ⟨h,h7,h3,(fun k hk=>((fun k hk=>(fun k hk=>aK k (gb.2 (.inr hk))) k ((fun k hk=>gb.2 (.inl hk)) k hk)) k (i3 k hk))),h5,(fun k hk=>((fun k hk=>(fun k hk=>aK k (gb.2 (.inr hk))) k ((fun k hk=>gb.2 (.inr hk)) k hk)) k hk))⟩)
  refine ch h J ?_ ?_ <;> intro h
  ·refine atr 4 [8,7,0] J ?_
   have be:RC (RI .i64) 1 av ([[]]:List (List Nat)) [iV d.id] ([d.id]:List Int):=RC.cons (c:=[iV d.id]) (cells:=[]) ⟨J,J⟩ J (RC.nil _ _ _)
   refine le' (bz (vs:=[(0,iV d.id)]) (C:=#[iV d.id]) RI.lasts cq mg J J J J (ar ki (aa (C':=[iV d.id]) J J J J J (ae))) J be J (by simpa using Kw.nil)) J ?_
   rintro v5 bf bT ⟨bg,h8⟩
   replace h8:OSl (RI .i64) 3 1 bf [] v5 ([d.id]:List Int):=by simpa using h8
   replace i:=i.f0 bg
   refine kab h J J J (fun b z q=>km N b d [] ([d.id]:List Int) (ah.y z) (ak.y z) (T.y z) (al.y z) (U.y z) (au.y z) (RSl.nil _ _ _) h8.rsl q) ?_
   rintro x4 h v6 bU F3 ⟨aL,bh,v7,bV,rfl,rfl,h9⟩
   replace i:=i.fr bh (aL.q 5 J) (aL.q 6 J)
   refine la J<|en ?_
   exact wo [1,0,5,5] [0] (K (_,_,_,_) ⟨h,i,h9⟩)
  refine atr 4 [] J<|lno w J<|art 3 [] J ?_
  refine lin (σ:=Hp × (List ao) × Value × List Nat × Int) (fun s=>[(1,g),(2,pQ B),(5,A),(6,iV E),(7,s.2.2.1),(13,iV (y.length:Int)),(14,iV E),(24,V),(25,iV (s2.length:Int)),(26,iV s.2.2.2.2)]) (fun s=>St w0 s.1 [(B,.cells #[f,j,l,p,a6,t,iV d.s.Next,iV d.id] 191 (0,0))] [s.2.2.2.1,ob s.2.2.1,ob A,ob V,ob g,x]) (fun m s=>dI N d s1 s2 W E (cn N d y n1) m s.2.1 s.2.2.2.2=some r∧(OSl aV 103 1 s.1 x g s1)∧(OSl dW 105 2 s.1 D2 V s2)∧(OSl dW 105 2 s.1 D3 A W)∧(OSl aT 105 2 s.1 s.2.2.2.1 s.2.2.1 s.2.1)) (av,([]:List ao),(.slice none 0 0),[],0) N ⟨h,i,w,u,k6⟩ (sx [0,0,0,0,0,0] [0]) (fun n3 bk s hm=>?_)
  obtain⟨aM,s6,u4,aA,s7⟩:=s
  obtain⟨h,i,w,u,G⟩:=hm
  dsimp only at h i w u G ⊢
  unfold dI at h
  refine att 5 [] J ?_
  refine ch h J ?_ ?_ <;> intro h
  ·refine atr 5 [] J ?_
   obtain⟨x5,aN,h⟩:=bs h
   obtain⟨bW,F4,-,g1,bZ,c4,r3⟩:=w.elS (a8 aN).2.2
   obtain⟨v8,G1,v9,G2,rfl,rfl,ab,bl⟩:=r3
   refine lio w aN J<|lgx 0 2 g1 J<|lnz ib J fun c5=>soN 0 oX J ⟨ab.one,bl.one,trivial⟩ J ?_
   refine arr 8 [40,0,0,7,32] J ?_
   have bm:RC (RI .i64) 1 aM ([[]]:List (List Nat)) [iV d.id] ([d.id]:List Int):=RC.cons (c:=[iV d.id]) (cells:=[]) ⟨J,J⟩ J (RC.nil _ _ _)
   refine le' (bz (vs:=[(0,iV d.id)]) (C:=#[iV d.id]) RI.lasts cq mg J J J J (ar ki (aa (C':=[iV d.id]) J J J J J (ae))) J bm J (by simpa using Kw.nil)) J ?_
   rintro v10 bn c6 ⟨a1,aB⟩
   replace aB:OSl (RI .i64) 3 1 bn [] v10 ([d.id]:List Int):=by simpa using aB
   replace ab:=ab.f0 a1
   replace i:=i.f0 a1
   replace w:=w.f0 a1
   replace u:=u.f0 a1
   replace G:=G.f0 a1
   refine kab h J J J (fun b z q=>km N b d x5.Ids ([d.id]:List Int) (ah.y z) (ak.y z) (T.y z) (al.y z) (U.y z) (au.y z) ab aB.rsl q) ?_
   rintro x6 h v11 c8 F5 ⟨F,af,v12,aO,rfl,rfl,bo⟩
   replace i:=i.fr af (F.q 5 J) (F.q 6 J)
   replace w:=w.fr af (F.q 4 J) (Dj.sub (F.q 6 J) i1)
   replace u:=u.fr af (F.q 3 J) (Dj.sub (F.q 6 J) i2)
   replace G:=G.fr af (F.q 2 J) (F.q 1 J)
   obtain⟨x7,bp,h⟩:=bs h
   refine le' (dS aT.lasts aT.one eh qw J J J J J (js:=[4]) (Rr:=[ob v11,aO,ob v10,aA,ob A,ob V,ob g,x]) J G bo (fun ap=>ap.q 3 J) (fun ap=>ap.q 1 J) bp) J ?_
   rintro bq cb cc ⟨⟨P,aC⟩,br⟩
   replace i:=i.fr aC (P.q 6 J) (P.q 7 J)
   replace w:=w.fr aC (P.q 5 J) (Dj.sub (P.q 7 J) i1)
   replace u:=u.fr aC (P.q 4 J) (Dj.sub (P.q 7 J) i2)
   refine wlL [(aA++aO),ob bq,ob v11,ob v10,ob A,ob V,ob g,x] (smg [4,2] J (SP.eq NS))<|art 7 [] J ?_
   exact lb [0,0,2,2,2,2] [1] (bk (_,_,_,_,_) ⟨h,i,w,u,br⟩)
  refine atr 4 [] J<|lno u J<|art 3 [] J ?_
  refine lin (σ:=Hp × (List ao) × Value × List Nat × Int) (fun s=>[(1,g),(2,pQ B),(6,iV E),(7,s.2.2.1),(13,iV (y.length:Int)),(14,iV E),(40,A),(41,iV (W.length:Int)),(42,iV s.2.2.2.2)]) (fun s=>St w0 s.1 [(B,.cells #[f,j,l,p,a6,t,iV d.s.Next,iV d.id] 191 (0,0))] [s.2.2.2.1,ob s.2.2.1,ob A,ob g,x]) (fun m s=>dC N d s1 W E (cn N d y n1) m s.2.1 s.2.2.2.2=some r∧(OSl aV 103 1 s.1 x g s1)∧(OSl dW 105 2 s.1 D3 A W)∧(OSl aT 105 2 s.1 s.2.2.2.1 s.2.2.1 s.2.1)) (aM,s6,u4,aA,0) N ⟨h,i,u,G⟩ (sx [0,0,0,1,1] [0]) (fun n4 bt s hm=>?_)
  obtain⟨cd,s8,u5,aF,s9⟩:=s
  obtain⟨h,i,u,k9⟩:=hm
  dsimp only at h i u k9 ⊢
  unfold dC at h
  refine att 5 [] J ?_
  refine ch h J ?_ ?_ <;> intro h
  ·refine atr 5 [] J ?_
   obtain⟨x8,aP,h⟩:=bs h
   obtain⟨cf,F6,-,g2,cg,cj,r4⟩:=u.elS (a8 aP).2.2
   obtain⟨bu,G3,bw,G4,rfl,rfl,aQ,bx⟩:=r4
   refine lio u aP J<|lgx 0 2 g2 J<|lnz ib J fun bA=>soN 0 oX J ⟨aQ.one,bx.one,trivial⟩ J ?_
   refine en<|wm [0,1] [] J<|amm 10 [0,1,40,2,0,3,0,4,4,5,32,6,2,7,0,8,32,9] [0,1] J J ?_
   obtain⟨x9,aR,h⟩:=bs h
   obtain⟨ck,F7,-,g3,cm,cp,r5⟩:=T.el (a8 aR).2.2
   obtain⟨rfl,-⟩:=r5
   refine mq 10 J NQ (kN [0,1]) (an cq J J T aR) J<|mq 11 J NQ (kN [0,1]) (aZ sD J (fun Q hw=>(g3.of_eq 0 1 J J:rg _ _ _ [iV x9]).rangeAt hw.1)) J ?_
   obtain⟨bB,aS,h⟩:=bs h
   obtain⟨cr,F8,-,g4,ct,cu,r6⟩:=U.el (a8 aS).2.2
   obtain⟨bC,G5,rfl,bD,bE⟩:=r6
   obtain rfl:=bD.symm
   refine mq 12 J NQ (kN [0,1]) (an sQ J J U aS) J<|amm 1 [13,0] [0,1] J J<|mq 14 J NQ (kN [0,1]) (aZ sU J (fun Q hw=>(g4.of_eq 0 1 J J:rg _ _ _ [bC]).rangeAt hw.1)) J ?_
   obtain⟨cv,bF,h⟩:=bs h
   refine WM.one 15 NQ (mc J (fun _ v bG D Q hq hw=>Kn.of Kf.nil (ai2 0 1 J J) hw) (bH (js:=[]) (R:=[aF,ob u5,ob A,ob g,x]) J2 J J (fun Q hw ap hl=>km N (ba hw.fro) d x8.Ids bB.L (ah.y hw.up) (ak.y hw.up) (T.y hw.up) (al.y hw.up) (U.y hw.up) (au.y hw.up) aQ (bE.y hw.up)  bF)) J ?_)
   rintro v17 cw F9 ⟨S,aG,cx,aU,rfl,rfl,bI⟩
   replace i:=i.fr aG (S.q 3 J) (S.q 4 J)
   replace u:=u.fr aG (S.q 2 J) (Dj.sub (S.q 4 J) i2)
   replace k9:=k9.fr aG (S.q 1 J) (S.q 0 J)
   obtain⟨cy,bJ,h⟩:=bs h
   refine WM.one 16 NQ (me J (fun _ v bG D Q hq hw=>Kn.of Kf.nil (ai2 0 1 J J) hw) (dS aT.lasts aT.one eh qw J J J J J (js:=[3]) (Rr:=[ob v17,aU,aF,ob A,ob g,x]) J k9 bI (fun ap=>ap.q 2 J) (fun ap=>ap.q 1 J) bJ) J ?_)
   rintro bK bL cz ⟨⟨ag,aW⟩,bM⟩
   replace i:=i.fr aW (ag.q 4 J) (ag.q 5 J)
   replace u:=u.fr aW (ag.q 3 J) (Dj.sub (ag.q 5 J) i2)
   refine WM.conv (S':=St w0 bL [(bA,.cells #[bu,bw] 105 (0,0)),(B,.cells #[f,j,l,p,a6,t,iV d.s.Next,iV d.id] 191 (0,0))] [(aF++aU),ob bK,ob v17,ob A,ob g,x]) (fun Q hw=>hw.merge (js:=[3,2]) J (SP.eq NS))<|amm 1 [17] [0,1] J J<|WM.nil NQ<|att 5 [] J ?_
   exact lb [0,0,1,1,1] [1] (bt (_,_,_,_,_) ⟨h,i,u,bM⟩)
  refine xt J ?_
  exact wo [0,0,1,1] [0] (K (_,_,_,_) ⟨h,i,k9⟩)
 refine xt J ?_
 refine WT.fin hF az.none (fun Q hw=>?_)
 cases h
 refine aH (js:=[2,2]) hw J ⟨x,J,J,i⟩
end Go.Proofs.YtedmfnmbjglmbaaGreat
