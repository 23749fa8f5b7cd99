/- Printed by a program of ours: each Go function computes its Lean function. -/
import Derived.Test.YtiljnppocjgkkaaGreatProg
import Derived.Test.YtiljnppocjgkkaaGreatWExactMemSoundWalk1
namespace Go.Proofs.YtiljnppocjgkkaaGreat
open Eng Tryz
open Go.RowKit (Below)
set_option linter.unusedVariables false
set_option linter.unusedSimpArgs false

set_option maxRecDepth 100000
set_option maxHeartbeats 1000000
variable {Ψ Φ:Hp} {pv0 pv0_0 pv1 pv0_1 pv0_2 pv1_0 pv1_1:Value} {pG0 pG0_0 pG1 pG0_1 pG0_2 pG1_0 pG1_1 pD0_0:List Nat} {pb0:Nat} (N:Nat)
theorem zl  (w0:af Ψ Φ []) (p0:br)  {r:Bool} (h:nY N p0=some r) :
  CB w0 prog 220 [.agg [.string p0.Op,iV p0.L.K,.string p0.L.S,iV p0.L.V.K,iV p0.L.V.N,.string p0.L.V.S,iV p0.R.K,.string p0.R.S,iV p0.R.V.K,iV p0.R.V.N,.string p0.R.V.S].toArray] (.bool r):=by
 refine eN func220 rfl ntmps220 rfl w0 fun hF=>?_
 unfold nY at h
 refine sr<|lbx rfl fun b_1=>art 14 [0,0] rfl ?_
 refine ch h rfl ?_ ?_ <;> intro h
 ·refine atr 4 [1,5] rfl<|qc h (o1 N · p0.L ·) rfl rfl rfl fun x1 h=>la rfl ?_
  obtain ⟨b1,hb_1,h⟩:=bs h
  refine WL.cutN 5 [(15,.bool b1),(2,.bool false)] ?_ (fun K=>?_)
  rotate_left
  ·refine sp 10 hb_1 rfl (fun hb_1=>?_) fun hb_1=>?_
   ·refine arr 2 [6,5] rfl<|ly rfl rfl<|lq (cA (vs:=[]) (C:=#[iV 0,.string (⟨#[]⟩:ByteArray),iV 0,iV 0,.string (⟨#[]⟩:ByteArray)]) Gn mH rfl (au)) rfl<|ly rfl rfl<|lq (Cy Ea rfl rfl rfl (r:=oc p0.R (⟨0,(⟨#[]⟩:ByteArray),(⟨0,0,(⟨#[]⟩:ByteArray)⟩:aP)⟩:bk)) rfl) rfl<|la rfl ?_
    cases hb_1
    exact ku K
   ·refine arr 5 [] rfl ?_
    cases hb_1
    exact ku K
  refine la rfl<|en ?_
  exact rt hF h
 refine att 6 [] rfl ?_
 refine cut (σ:=Bool) (fun s=>[(1,pQ b_1),(16,.bool s)]) (fun s=>St w0 Φ [(b_1,.cells #[.string p0.Op,iV p0.L.K,.string p0.L.S,iV p0.L.V.K,iV p0.L.V.N,.string p0.L.V.S,iV p0.R.K,.string p0.R.S,iV p0.R.V.K,iV p0.R.V.N,.string p0.R.V.S] 231 (0,0))] []) (fun s=>gS N p0 s=some r) (fun s hm=>?_) (fun K=>?_)
 ·clear h
  revert hm; revert s; intro s1 hm
  have h:gS N p0 s1=some r:=hm
  show WT _ _ [(1,pQ b_1),(16,.bool s1)] (St w0 Φ [(b_1,.cells #[.string p0.Op,iV p0.L.K,.string p0.L.S,iV p0.L.V.K,iV p0.L.V.N,.string p0.L.V.S,iV p0.R.K,.string p0.R.S,iV p0.R.V.K,iV p0.R.V.N,.string p0.R.V.S] 231 (0,0))] [])
  unfold gS at h
  refine ch h rfl ?_ ?_ <;> intro h
  ·refine atr 4 [1,5] rfl<|qc h (o1 N · p0.L ·) rfl rfl rfl fun x2 h=>la rfl ?_
   obtain ⟨b2,hb_2,h⟩:=bs h
   refine WL.cutN 4 [(26,.bool b2)] ?_ (fun K=>?_)
   rotate_left
   ·refine sp 22 hb_2 rfl (fun hb_2=>?_) fun hb_2=>?_
    ·refine arr 2 [6,5] rfl<|ly rfl rfl<|qc hb_2 (o1 N · p0.R ·) rfl rfl rfl fun x3 hb_2=>la rfl ?_
     cases hb_2
     exact ku K
    ·refine arr 4 [] rfl ?_
     cases hb_2
     exact ku K
   refine la rfl<|en ?_
   exact rt hF h
  refine att 6 [] rfl ?_
  exact rt hF h
 refine ch h rfl ?_ ?_ <;> intro h
 ·refine WT.skip ?_
  exact wo [] [0] (K _ h)
 refine att 4 [] rfl ?_
 exact wo [] [0] (K _ h)
theorem pW (w0:af Ψ Φ []) (p0:(List br)) (ph0:RSl cn 11 Ψ pG0 pv0 p0) {r:Bool} (h:ju N p0=some r) :
  CB w0 prog 183 [pv0] (.bool r):=by
 refine eN func183 rfl ntmps183 rfl w0 fun hF=>?_
 unfold ju at h
 refine att 10 [] rfl ?_
 refine lin (σ:=Int) (fun s=>[(0,pv0),(3,iV s)]) (fun s=>St w0 Φ [] []) (fun m s=>eQ N p0 m s=some r) (0) N h (sx [] []) (fun n1 ih1 s hm=>?_)
 revert hm; revert s; intro s1 hm
 have h:eQ N p0 (n1+1) s1=some r:=hm
 show WT _ _ [(0,pv0),(3,iV s1)] (St w0 Φ [] [])
 unfold eQ at h
 refine atr 5 [] rfl<|lnr ph0 rfl<|la rfl<|en ?_
 refine ch h rfl ?_ ?_ <;> intro h
 ·refine atr 7 [] rfl ?_
  obtain ⟨x1,hx1,h⟩:=bs h
  obtain ⟨cs1,F1,-,g1,hb1,hs1,r1⟩:=ph0.el (a7 hx1).2.2
  obtain ⟨rfl,-⟩:=r1
  refine lia ph0 hx1 rfl<|lhx 0 11 g1 rfl<|qc h (zl N · x1 ·) rfl rfl rfl fun x2 h=>la rfl<|en ?_
  refine ch h rfl ?_ ?_ <;> intro h
  ·refine att 4 [] rfl ?_
   exact rt hF h
  refine att 7 [] rfl ?_
  exact lb [] [] (ih1 _ h)
 refine atr 4 [] rfl<|lnr ph0 rfl<|art 3 [] rfl ?_
 exact rt hF h
theorem AE (w0:af Ψ Φ []) (p0:bX) (ph0_0:RSl cn 11 Ψ pG0_0 pv0_0 p0.Args) {r:Bool} (h:qo N p0=some r) :
  CB w0 prog 142 [.agg [iV p0.Kind,.string p0.Name,pv0_0,iV p0.N,.string p0.Undo].toArray] (.bool r):=by
 refine eN func142 rfl ntmps142 rfl w0 fun hF=>?_
 unfold qo at h
 refine sr<|lbx rfl fun b_1=>arr 8 [1,0] rfl ?_
 obtain ⟨b1,hb_1,h⟩:=bs h
 refine WL.cutN 5 [(12,.bool b1),(1,pQ b_1)] ?_ (fun K=>?_)
 rotate_left
 ·refine sp 7 hb_1 rfl (fun hb_1=>?_) fun hb_1=>?_
  ·refine arr 2 [2,0] rfl<|ly rfl rfl<|lnr ph0_0 rfl<|arr 2 [] rfl ?_
   cases hb_1
   exact ku K
  ·refine arr 5 [] rfl ?_
   cases hb_1
   exact ku K
 refine la rfl ?_
 obtain ⟨b2,hb_2,h⟩:=bs h
 refine WL.cutN 4 [(17,.bool b2),(1,pQ b_1)] ?_ (fun K=>?_)
 rotate_left
 ·refine sp 13 hb_2 rfl (fun hb_2=>?_) fun hb_2=>?_
  ·refine arr 4 [4,0] rfl ?_
   cases hb_2
   exact ku K
  ·refine arr 4 [] rfl ?_
   cases hb_2
   exact ku K
 refine art 14 [0,0] rfl ?_
 refine ch h rfl ?_ ?_ <;> intro h
 ·refine atr 4 [1,0] rfl<|qc h (eO N · p0.Name ·) rfl rfl rfl fun x1 h=>la rfl ?_
  obtain ⟨b3,hb_3,h⟩:=bs h
  refine WL.cutN 4 [(29,.bool b3),(1,pQ b_1)] ?_ (fun K=>?_)
  rotate_left
  ·refine sp 25 hb_3 rfl (fun hb_3=>?_) fun hb_3=>?_
   ·refine arr 2 [2,0] rfl<|ly rfl rfl<|qd hb_3 (pW N · p0.Args ph0_0 ·) rfl rfl rfl fun x2 hb_3=>la rfl ?_
    cases hb_3
    exact ku K
   ·refine arr 4 [] rfl ?_
    cases hb_3
    exact ku K
  refine la rfl ?_
  obtain ⟨b4,hb_4,h⟩:=bs h
  refine WL.cutN 4 [(34,.bool b4),(1,pQ b_1)] ?_ (fun K=>?_)
  rotate_left
  ·refine sp 30 hb_4 rfl (fun hb_4=>?_) fun hb_4=>?_
   ·refine arr 4 [3,0] rfl ?_
    cases hb_4
    exact ku K
   ·refine arr 4 [] rfl ?_
    cases hb_4
    exact ku K
  refine la rfl ?_
  obtain ⟨b5,hb_5,h⟩:=bs h
  refine WL.cutN 4 [(39,.bool b5)] ?_ (fun K=>?_)
  rotate_left
  ·refine sp 35 hb_5 rfl (fun hb_5=>?_) fun hb_5=>?_
   ·refine arr 4 [4,0] rfl ?_
    cases hb_5
    exact ku K
   ·refine arr 4 [] rfl ?_
    cases hb_5
    exact ku K
  refine la rfl<|en ?_
  exact rt hF h
 refine att 5 [] rfl ?_
 refine ch h rfl ?_ ?_ <;> intro h
 ·refine atr 4 [1,0] rfl<|qc h (eO N · p0.Name ·) rfl rfl rfl fun x3 h=>la rfl ?_
  obtain ⟨b6,hb_6,h⟩:=bs h
  refine WL.cutN 4 [(49,.bool b6),(1,pQ b_1)] ?_ (fun K=>?_)
  rotate_left
  ·refine sp 45 hb_6 rfl (fun hb_6=>?_) fun hb_6=>?_
   ·refine arr 2 [2,0] rfl<|ly rfl rfl<|qd hb_6 (pW N · p0.Args ph0_0 ·) rfl rfl rfl fun x4 hb_6=>la rfl ?_
    cases hb_6
    exact ku K
   ·refine arr 4 [] rfl ?_
    cases hb_6
    exact ku K
  refine la rfl ?_
  obtain ⟨b7,hb_7,h⟩:=bs h
  refine WL.cutN 4 [(54,.bool b7),(1,pQ b_1)] ?_ (fun K=>?_)
  rotate_left
  ·refine sp 50 hb_7 rfl (fun hb_7=>?_) fun hb_7=>?_
   ·refine arr 4 [3,0] rfl ?_
    cases hb_7
    exact ku K
   ·refine arr 4 [] rfl ?_
    cases hb_7
    exact ku K
  refine la rfl ?_
  obtain ⟨b8,hb_8,h⟩:=bs h
  refine WL.cutN 9 [(64,.bool b8)] ?_ (fun K=>?_)
  rotate_left
  ·refine sp 55 hb_8 rfl (fun hb_8=>?_) fun hb_8=>?_
   ·refine arr 4 [4,0] rfl ?_
    obtain ⟨b9,hb_9,hb_8⟩:=bs hb_8
    refine WL.cutN 4 [(63,.bool b9),(55,.bool true)] ?_ (fun K=>?_)
    rotate_left
    ·refine sp 59 hb_9 rfl (fun hb_9=>?_) fun hb_9=>?_
     ·refine arr 4 [] rfl ?_
      cases hb_9
      exact ku K
     ·refine arr 2 [4,0] rfl<|ly rfl rfl<|qc hb_9 (eO N · p0.Undo ·) rfl rfl rfl fun x5 hb_9=>ly rfl rfl<|la rfl ?_
      cases hb_9
      exact ku K
    refine la rfl ?_
    cases hb_8
    exact ku K
   ·refine arr 9 [] rfl ?_
    cases hb_8
    exact ku K
  refine la rfl<|en ?_
  exact rt hF h
 refine att 5 [] rfl ?_
 refine ch h rfl ?_ ?_ <;> intro h
 ·refine atr 4 [1,0] rfl<|qc h (eO N · p0.Name ·) rfl rfl rfl fun x6 h=>la rfl ?_
  obtain ⟨b10,hb_10,h⟩:=bs h
  refine WL.cutN 4 [(74,.bool b10),(1,pQ b_1)] ?_ (fun K=>?_)
  rotate_left
  ·refine sp 70 hb_10 rfl (fun hb_10=>?_) fun hb_10=>?_
   ·refine arr 2 [2,0] rfl<|ly rfl rfl<|qd hb_10 (pW N · p0.Args ph0_0 ·) rfl rfl rfl fun x7 hb_10=>la rfl ?_
    cases hb_10
    exact ku K
   ·refine arr 4 [] rfl ?_
    cases hb_10
    exact ku K
  refine la rfl ?_
  obtain ⟨b11,hb_11,h⟩:=bs h
  refine WL.cutN 4 [(79,.bool b11),(1,pQ b_1)] ?_ (fun K=>?_)
  rotate_left
  ·refine sp 75 hb_11 rfl (fun hb_11=>?_) fun hb_11=>?_
   ·refine arr 2 [3,0] rfl<|ly rfl rfl<|qc hb_11 (bU N · p0.N 0 100000 ·) rfl rfl rfl fun x8 hb_11=>la rfl ?_
    cases hb_11
    exact ku K
   ·refine arr 4 [] rfl ?_
    cases hb_11
    exact ku K
  refine la rfl ?_
  obtain ⟨b12,hb_12,h⟩:=bs h
  refine WL.cutN 4 [(84,.bool b12)] ?_ (fun K=>?_)
  rotate_left
  ·refine sp 80 hb_12 rfl (fun hb_12=>?_) fun hb_12=>?_
   ·refine arr 4 [4,0] rfl ?_
    cases hb_12
    exact ku K
   ·refine arr 4 [] rfl ?_
    cases hb_12
    exact ku K
  refine la rfl<|en ?_
  exact rt hF h
 refine att 5 [] rfl ?_
 refine ch h rfl ?_ ?_ <;> intro h
 ·refine atr 4 [] rfl ?_
  obtain ⟨b13,hb_13,h⟩:=bs h
  refine WL.cutN 4 [(92,.bool b13)] ?_ (fun K=>?_)
  rotate_left
  ·refine sp 88 hb_13 rfl (fun hb_13=>?_) fun hb_13=>?_
   ·refine arr 2 [3,0] rfl<|ly rfl rfl<|qc hb_13 (bU N · p0.N 0 7 ·) rfl rfl rfl fun x9 hb_13=>la rfl ?_
    cases hb_13
    exact ku K
   ·refine arr 4 [] rfl ?_
    cases hb_13
    exact ku K
  refine la rfl<|en ?_
  exact rt hF h
 refine att 6 [] rfl ?_
 refine cut (σ:=Bool) (fun s=>[(1,pQ b_1),(3,.bool b2),(93,.bool s)]) (fun s=>St w0 Φ [(b_1,.cells #[iV p0.Kind,.string p0.Name,pv0_0,iV p0.N,.string p0.Undo] 187 (0,0))] []) (fun s=>iW N p0 b2 s=some r) (fun s hm=>?_) (fun K=>?_)
 ·clear h
  revert hm; revert s; intro s1 hm
  have h:iW N p0 b2 s1=some r:=hm
  show WT _ _ [(1,pQ b_1),(3,.bool b2),(93,.bool s1)] (St w0 Φ [(b_1,.cells #[iV p0.Kind,.string p0.Name,pv0_0,iV p0.N,.string p0.Undo] 187 (0,0))] [])
  unfold iW at h
  refine ch h rfl ?_ ?_ <;> intro h
  ·refine atr 4 [] rfl ?_
   obtain ⟨b14,hb_14,h⟩:=bs h
   refine WL.cutN 4 [(101,.bool b14)] ?_ (fun K=>?_)
   rotate_left
   ·refine sp 97 hb_14 rfl (fun hb_14=>?_) fun hb_14=>?_
    ·refine arr 4 [3,0] rfl ?_
     cases hb_14
     exact ku K
    ·refine arr 4 [] rfl ?_
     cases hb_14
     exact ku K
   refine la rfl<|en ?_
   exact rt hF h
  refine att 6 [] rfl ?_
  exact rt hF h
 refine ch h rfl ?_ ?_ <;> intro h
 ·refine WT.skip ?_
  exact wo [] [0] (K _ h)
 refine att 4 [] rfl ?_
 exact wo [] [0] (K _ h)
theorem yL (w0:af Ψ Φ []) (p0:(List bX)) (p1:(List ByteArray)) (p2:Int) (ph0:RSl cX 5 Ψ pG0 pv0 p0) (ph1:RSl RS 1 Ψ pG1 pv1 p1) {r:Bool} (h:oT N p0 p1 p2=some r) :
  CB w0 prog 87 [pv0,pv1,iV p2] (.bool r):=by
 refine eN func87 rfl ntmps87 rfl w0 fun hF=>?_
 unfold oT at h
 refine att 10 [] rfl ?_
 refine lin (σ:=Int) (fun s=>[(0,pv0),(1,pv1),(2,iV p2),(7,iV s)]) (fun s=>St w0 Φ [] []) (fun m s=>cF N p0 p1 p2 m s=some r) (0) N h (sx [] []) (fun n1 ih1 s hm=>?_)
 revert hm; revert s; intro s1 hm
 have h:cF N p0 p1 p2 (n1+1) s1=some r:=hm
 show WT _ _ [(0,pv0),(1,pv1),(2,iV p2),(7,iV s1)] (St w0 Φ [] [])
 unfold cF at h
 refine atr 5 [] rfl<|lnr ph0 rfl<|la rfl<|en ?_
 refine ch h rfl ?_ ?_ <;> intro h
 ·refine atr 8 [] rfl ?_
  obtain ⟨x1,hx1,h⟩:=bs h
  obtain ⟨cs1,F1,-,g1,hb1,hs1,r1⟩:=ph0.el (a7 hx1).2.2
  obtain ⟨v1,G1,rfl,hq1,h1⟩:=r1
  obtain rfl:=hq1.symm
  refine lia ph0 hx1 rfl<|lhx 0 5 g1 rfl<|qd h (AE N · x1 h1 ·) rfl rfl rfl fun x2 h=>arr 2 [] rfl ?_
  obtain ⟨b1,hb_1,h⟩:=bs h
  refine WL.cutN 16 [(37,.bool b1),(0,pv0),(1,pv1),(2,iV p2),(7,iV s1)] ?_ (fun K=>?_)
  rotate_left
  ·refine sp 21 hb_1 rfl (fun hb_1=>?_) fun hb_1=>?_
   ·refine arr 16 [] rfl ?_
    cases hb_1
    exact ku K
   ·refine arr 2 [] rfl<|ly rfl rfl ?_
    obtain ⟨x3,hx3,hb_1⟩:=bs hb_1
    obtain ⟨cs2,F2,-,g2,hb2,hs2,r2⟩:=ph0.el (a7 hx3).2.2
    obtain ⟨v2,G2,rfl,hq2,h2⟩:=r2
    obtain rfl:=hq2.symm
    refine lia ph0 hx3 rfl<|ly rfl rfl<|lf Ej rfl rfl rfl<|ly rfl rfl<|lhx 0 0 g2 rfl<|arr 2 [] rfl ?_
    obtain ⟨b2,hb_2,hb_1⟩:=bs hb_1
    refine WL.cutN 8 [(36,.bool b2),(0,pv0),(1,pv1),(2,iV p2),(7,iV s1),(21,.bool false)] ?_ (fun K=>?_)
    rotate_left
    ·refine sp 28 hb_2 rfl (fun hb_2=>?_) fun hb_2=>?_
     ·refine arr 2 [] rfl<|ly rfl rfl ?_
      obtain ⟨x4,hx4,hb_2⟩:=bs hb_2
      obtain ⟨cs3,F3,-,g3,hb3,hs3,r3⟩:=ph0.el (a7 hx4).2.2
      obtain ⟨v3,G3,rfl,hq3,h3⟩:=r3
      obtain rfl:=hq3.symm
      refine lia ph0 hx4 rfl<|ly rfl rfl<|lf EN rfl rfl rfl<|ly rfl rfl<|lhx 3 0 g3 rfl<|arr 3 [] rfl ?_
      cases hb_2
      exact ku K
     ·refine arr 8 [] rfl ?_
      cases hb_2
      exact ku K
    refine la rfl ?_
    cases hb_1
    exact ku K
  refine en ?_
  refine ch h rfl ?_ ?_ <;> intro h
  ·refine att 4 [] rfl ?_
   exact rt hF h
  refine att 6 [] rfl ?_
  refine lin (σ:=Int) (fun s=>[(0,pv0),(1,pv1),(2,iV p2),(7,iV s1),(8,iV s)]) (fun s=>St w0 Φ [] []) (fun m s=>eP N p0 p1 s1 (cF N p0 p1 p2 n1) m s=some r) (0) N h (sx [] []) (fun n2 ih2 s hm=>?_)
  revert hm; revert s; intro s2 hm
  have h:eP N p0 p1 s1 (cF N p0 p1 p2 n1) (n2+1) s2=some r:=hm
  show WT _ _ [(0,pv0),(1,pv1),(2,iV p2),(7,iV s1),(8,iV s2)] (St w0 Φ [] [])
  unfold eP at h
  refine atr 6 [] rfl ?_
  obtain ⟨x5,hx5,h⟩:=bs h
  obtain ⟨cs4,F4,-,g4,hb4,hs4,r4⟩:=ph0.el (a7 hx5).2.2
  obtain ⟨v4,G4,rfl,hq4,h4⟩:=r4
  obtain rfl:=hq4.symm
  refine lia ph0 hx5 rfl<|lf ss rfl rfl rfl<|lhx 2 0 g4 rfl<|lnr h4 rfl<|la rfl<|en ?_
  refine ch h rfl ?_ ?_ <;> intro h
  ·refine atr 7 [] rfl ?_
   obtain ⟨x6,hx6,h⟩:=bs h
   obtain ⟨cs5,F5,-,g5,hb5,hs5,r5⟩:=ph0.el (a7 hx6).2.2
   obtain ⟨v5,G5,rfl,hq5,h5⟩:=r5
   obtain rfl:=hq5.symm
   refine lia ph0 hx6 rfl<|lf ss rfl rfl rfl<|lhx 2 0 g5 rfl<|la rfl ?_
   obtain ⟨x7,hx7,h⟩:=bs h
   obtain ⟨cs6,F6,-,g6,hb6,hs6,r6⟩:=h5.el (a7 hx7).2.2
   obtain ⟨rfl,-⟩:=r6
   refine lia h5 hx7 rfl<|lf zG rfl rfl rfl<|lhx 1 5 g6 rfl<|la rfl<|qd h (kx N · x7.L p1 ph1 ·) rfl rfl rfl fun x8 h=>arr 2 [] rfl ?_
   obtain ⟨b3,hb_3,h⟩:=bs h
   refine WL.cutN 13 [(73,.bool b3),(0,pv0),(1,pv1),(2,iV p2),(7,iV s1),(8,iV s2)] ?_ (fun K=>?_)
   rotate_left
   ·refine sp 60 hb_3 rfl (fun hb_3=>?_) fun hb_3=>?_
    ·refine arr 13 [] rfl ?_
     cases hb_3
     exact ku K
    ·refine arr 2 [] rfl<|ly rfl rfl ?_
     obtain ⟨x9,hx9,hb_3⟩:=bs hb_3
     obtain ⟨cs7,F7,-,g7,hb7,hs7,r7⟩:=ph0.el (a7 hx9).2.2
     obtain ⟨v6,G6,rfl,hq6,h6⟩:=r7
     obtain rfl:=hq6.symm
     refine lia ph0 hx9 rfl<|ly rfl rfl<|lf ss rfl rfl rfl<|ly rfl rfl<|lhx 2 0 g7 rfl<|ly rfl rfl<|la rfl<|ly rfl rfl ?_
     obtain ⟨x10,hx10,hb_3⟩:=bs hb_3
     obtain ⟨cs8,F8,-,g8,hb8,hs8,r8⟩:=h6.el (a7 hx10).2.2
     obtain ⟨rfl,-⟩:=r8
     refine lia h6 hx10 rfl<|ly rfl rfl<|lf Ab rfl rfl rfl<|ly rfl rfl<|lhx 6 5 g8 rfl<|ly rfl rfl<|la rfl<|ly rfl rfl<|qd hb_3 (kx N · x10.R p1 ph1 ·) rfl rfl rfl fun x11 hb_3=>arr 2 [] rfl ?_
     cases hb_3
     exact ku K
   refine en ?_
   refine ch h rfl ?_ ?_ <;> intro h
   ·refine att 4 [] rfl ?_
    exact rt hF h
   refine att 7 [] rfl ?_
   exact lb [] [] (ih2 _ h)
  refine att 7 [] rfl ?_
  exact lb [] [] (ih1 _ h)
 refine atr 4 [] rfl<|lnr ph0 rfl<|qc h (bU N · (p0.length:Int) 1 6 ·) rfl rfl rfl fun x12 h=>la rfl<|en ?_
 exact rt hF h
theorem rc (w0:af Ψ Φ []) (p0:ac) (ph0_0:RSl bt 3 Ψ pG0_0 pv0_0 p0.Pats) (ph0_1:RSl bl 11 Ψ pG0_1 pv0_1 p0.Conds) (ph0_2:RSl cX 5 Ψ pG0_2 pv0_2 p0.Acts) {r:Int} (h:iU N p0=some r) :
  CB w0 prog 88 [.agg [.string p0.Name,iV p0.Sal,pv0_0,pv0_1,pv0_2].toArray] (iV r):=by
 refine eN func88 rfl ntmps88 rfl w0 fun hF=>?_
 unfold iU at h
 refine sr<|lbx rfl fun b_1=>art 12 [] rfl ?_
 refine lin (σ:=Int × Int) (fun s=>[(1,pQ b_1),(3,iV s.1),(4,iV s.2)]) (fun s=>St w0 Φ [(b_1,.cells #[.string p0.Name,iV p0.Sal,pv0_0,pv0_1,pv0_2] 109 (0,0))] []) (fun m s=>cN N p0 m s.1 s.2=some r) (0,0) N h (sx [] [0]) (fun n1 ih1 s hm=>?_)
 obtain ⟨s1,s2⟩:=s
 have h:cN N p0 (n1+1) s1 s2=some r:=hm
 show WT _ _ [(1,pQ b_1),(3,iV s1),(4,iV s2)] (St w0 Φ [(b_1,.cells #[.string p0.Name,iV p0.Sal,pv0_0,pv0_1,pv0_2] 109 (0,0))] [])
 unfold cN at h
 refine atr 6 [2,0] rfl<|lnr ph0_0 rfl<|la rfl<|en ?_
 refine ch h rfl ?_ ?_ <;> intro h
 ·refine atr 8 [2,0] rfl ?_
  obtain ⟨x1,hx1,h⟩:=bs h
  obtain ⟨cs1,F1,-,g1,hb1,hs1,r1⟩:=ph0_0.el (a7 hx1).2.2
  obtain ⟨v1,G1,rfl,hq1,h1⟩:=r1
  obtain rfl:=hq1.symm
  refine lia ph0_0 hx1 rfl<|lf kY rfl rfl rfl<|lhx 2 0 g1 rfl<|la rfl<|en ?_
  refine ch h rfl ?_ ?_ <;> intro h
  ·refine att 11 [] rfl ?_
   exact lb [] [0] (ih1 (_,_) h)
  refine att 7 [] rfl ?_
  exact lb [] [0] (ih1 (_,_) h)
 refine att 6 [] rfl ?_
 exact rt hF h
theorem yr (w0:af Ψ Φ []) (p0:ac) (ph0_0:RSl bt 3 Ψ pG0_0 pv0_0 p0.Pats) (ph0_1:RSl bl 11 Ψ pG0_1 pv0_1 p0.Conds) (ph0_2:RSl cX 5 Ψ pG0_2 pv0_2 p0.Acts) {r:Bool} (h:o2 N p0=some r) :
  CB w0 prog 42 [.agg [.string p0.Name,iV p0.Sal,pv0_0,pv0_1,pv0_2].toArray] (.bool r):=by
 refine eN func42 rfl ntmps42 rfl w0 fun hF=>?_
 unfold o2 at h
 refine sr<|lbx rfl fun b_1=>arr 5 [5] rfl<|kab h rfl rfl rfl (fun b z q=>wi N b p0 (ph0_0.y z) (ph0_1.y z) (ph0_2.y z) q) ?_
 rintro x1 h v1 Φ_1 F1 ⟨ap1,fr1,v2,rfl,rfl,h1⟩
 refine art 3 [] rfl<|WT.draw mixed (by kernel_rfl) (fun _ h=>h.drew)<|aqq 2 [0,0] rfl ?_
 obtain ⟨x2,hx2,h⟩:=bs h
 refine qp (bH JO rfl (fun w1 hw=>eO N (ba hw.fro) p0.Name hx2)) rfl<|qq (fo rfl) rfl ?_
 obtain ⟨b1,hb_1,h⟩:=bs h
 refine WQ.cutN 4 [(13,.bool b1),(1,pQ b_1),(3,v1)] ?_ (fun K=>?_)
 rotate_left
 ·refine WQ.split (d:=9) rfl (fun c1=>?_) (fun c1=>?_)
  ·replace hb_1:=fk hb_1 c1
   refine aqq 2 [1,0] rfl<|WQ.yes rfl rfl ?_
   obtain ⟨x3,hx3,hb_1⟩:=bs hb_1
   refine qp (bH Fz rfl (fun w1 hw=>bU N (ba hw.fro) p0.Sal (-100) 100 hx3)) rfl<|WQ.q (ph rfl rfl) rfl rfl rfl ?_
   cases hb_1
   exact kq K
  ·replace hb_1:=fg hb_1 c1
   refine aqq 4 [] rfl ?_
   cases hb_1
   exact kq K
 refine qq (fo rfl) rfl ?_
 obtain ⟨b2,hb_2,h⟩:=bs h
 refine WQ.cutN 4 [(18,.bool b2),(1,pQ b_1),(3,v1)] ?_ (fun K=>?_)
 rotate_left
 ·refine WQ.split (d:=14) rfl (fun c2=>?_) (fun c2=>?_)
  ·replace hb_2:=fk hb_2 c2
   refine aqq 2 [2,0] rfl<|WQ.yes rfl rfl ?_
   obtain ⟨x4,hx4,hb_2⟩:=bs hb_2
   refine qp (bH Ie rfl (fun w1 hw=>y6 N (ba hw.in0) p0.Pats ph0_0 hx4)) rfl<|WQ.q (ph rfl rfl) rfl rfl rfl ?_
   cases hb_2
   exact kq K
  ·replace hb_2:=fg hb_2 c2
   refine aqq 4 [] rfl ?_
   cases hb_2
   exact kq K
 refine qq (fo rfl) rfl ?_
 obtain ⟨b3,hb_3,h⟩:=bs h
 refine WQ.cutN 5 [(24,.bool b3),(1,pQ b_1),(3,v1)] ?_ (fun K=>?_)
 rotate_left
 ·refine WQ.split (d:=19) rfl (fun c3=>?_) (fun c3=>?_)
  ·replace hb_3:=fk hb_3 c3
   refine aqq 3 [3,0] rfl<|WQ.yes rfl rfl ?_
   obtain ⟨x5,hx5,hb_3⟩:=bs hb_3
   refine qp (bH K6 rfl (fun w1 hw=>wv N (ba hw.fro) p0.Conds x1 (ph0_1.y hw.up) h1.rsl hx5)) rfl<|WQ.q (ph rfl rfl) rfl rfl rfl ?_
   cases hb_3
   exact kq K
  ·replace hb_3:=fg hb_3 c3
   refine aqq 5 [] rfl ?_
   cases hb_3
   exact kq K
 refine qq (fo rfl) rfl ?_
 obtain ⟨b4,hb_4,h⟩:=bs h
 refine WQ.cutN 7 [(32,.bool b4)] ?_ (fun K=>?_)
 rotate_left
 ·refine WQ.split (d:=25) rfl (fun c4=>?_) (fun c4=>?_)
  ·replace hb_4:=fk hb_4 c4
   refine aqq 4 [4,0,5] rfl<|WQ.yes rfl rfl ?_
   obtain ⟨x6,hx6,hb_4⟩:=bs hb_4
   refine qp (bH Jn rfl (fun w1 hw=>rc N (ba hw.in0) p0 ph0_0 ph0_1 ph0_2 hx6)) rfl<|WQ.yes rfl rfl ?_
   obtain ⟨x7,hx7,hb_4⟩:=bs hb_4
   refine qp (bH Jb rfl (fun w1 hw=>yL N (ba hw.fro) p0.Acts x1 x6 (ph0_2.y hw.up) h1.rsl hx7)) rfl<|WQ.q (ph rfl rfl) rfl rfl rfl ?_
   cases hb_4
   exact kq K
  ·replace hb_4:=fg hb_4 c4
   refine aqq 7 [] rfl ?_
   cases hb_4
   exact kq K
 refine aqt 2 [] rfl ?_
 exact rt hF h
theorem xK (w0:af Ψ Φ []) (p0:bh) (p1:ByteArray) (ph0_0:RSl bV 5 Ψ pG0_0 pv0_0 p0.Rules) {r:Int} (h:oM N p0 p1=some r) :
  CB w0 prog 43 [.agg [.string p0.Name,pv0_0].toArray,.string p1] (iV r):=by
 refine eN func43 rfl ntmps43 rfl w0 fun hF=>?_
 unfold oM at h
 refine sr<|lbx rfl fun b_1=>art 8 [] rfl ?_
 refine lin (σ:=Int) (fun s=>[(1,.string p1),(2,pQ b_1),(5,iV s)]) (fun s=>St w0 Φ [(b_1,.cells #[.string p0.Name,pv0_0] 38 (0,0))] []) (fun m s=>eJ N p0 p1 m s=some r) (0) N h (sx [] [0]) (fun n1 ih1 s hm=>?_)
 revert hm; revert s; intro s1 hm
 have h:eJ N p0 p1 (n1+1) s1=some r:=hm
 show WT _ _ [(1,.string p1),(2,pQ b_1),(5,iV s1)] (St w0 Φ [(b_1,.cells #[.string p0.Name,pv0_0] 38 (0,0))] [])
 unfold eJ at h
 refine atr 6 [1,0] rfl<|lnr ph0_0 rfl<|la rfl<|en ?_
 refine ch h rfl ?_ ?_ <;> intro h
 ·refine atr 8 [1,0] rfl ?_
  obtain ⟨x1,hx1,h⟩:=bs h
  obtain ⟨cs1,F1,-,g1,hb1,hs1,r1⟩:=ph0_0.el (a7 hx1).2.2
  obtain ⟨v1,G1,v2,G2,v3,G3,rfl,rfl,h1,h2,h3⟩:=r1
  refine lia ph0_0 hx1 rfl<|lf zF rfl rfl rfl<|lhx 0 0 g1 rfl<|art 3 [] rfl ?_
  refine ch h rfl ?_ ?_ <;> intro h
  ·refine att 5 [] rfl ?_
   exact rt hF h
  refine att 7 [] rfl ?_
  exact lb [] [0] (ih1 _ h)
 refine att 5 [] rfl ?_
 exact rt hF h
theorem Bi (w0:af Ψ Φ []) (p0:bh) (ph0_0:RSl bV 5 Ψ pG0_0 pv0_0 p0.Rules) {r:Bool} (h:qe N p0=some r) :
  CB w0 prog 19 [.agg [.string p0.Name,pv0_0].toArray] (.bool r):=by
 refine eN func19 rfl ntmps19 rfl w0 fun hF=>?_
 unfold qe at h
 refine sr<|lbx rfl fun b_1=>art 8 [] rfl ?_
 refine lin (σ:=Int) (fun s=>[(1,pQ b_1),(3,iV s)]) (fun s=>St w0 Φ [(b_1,.cells #[.string p0.Name,pv0_0] 38 (0,0))] []) (fun m s=>eB N p0 m s=some r) (0) N h (sx [] [0]) (fun n1 ih1 s hm=>?_)
 revert hm; revert s; intro s1 hm
 have h:eB N p0 (n1+1) s1=some r:=hm
 show WT _ _ [(1,pQ b_1),(3,iV s1)] (St w0 Φ [(b_1,.cells #[.string p0.Name,pv0_0] 38 (0,0))] [])
 unfold eB at h
 refine atr 6 [1,0] rfl<|lnr ph0_0 rfl<|la rfl<|en ?_
 refine ch h rfl ?_ ?_ <;> intro h
 ·refine att 4 [] rfl<|WT.draw mixed (by kernel_rfl) (fun _ h=>h.drew)<|aqq 3 [1,0] rfl ?_
  obtain ⟨x1,hx1,h⟩:=bs h
  obtain ⟨cs1,F1,-,g1,hb1,hs1,r1⟩:=ph0_0.el (a7 hx1).2.2
  obtain ⟨v1,G1,v2,G2,v3,G3,rfl,rfl,h1,h2,h3⟩:=r1
  refine qq (a8 zT rfl rfl ph0_0 hx1) rfl<|qq (aq mQ rfl (fun w1 hw=>(g1.of_eq 0 5 rfl rfl:rg _ _ _ [.string x1.Name,iV x1.Sal,v1,v2,v3]).rangeAt hw.in0) rfl) rfl ?_
  obtain ⟨x2,hx2,h⟩:=bs h
  refine qp (bH Iy rfl (fun w1 hw=>yr N (ba hw.in0) x1 h1 h2 h3 hx2)) rfl<|aqq 2 [] rfl ?_
  obtain ⟨b1,hb_1,h⟩:=bs h
  refine WQ.cutN 11 [(29,.bool b1),(1,pQ b_1),(3,iV s1)] ?_ (fun K=>?_)
  rotate_left
  ·refine WQ.split (d:=18) rfl (fun c2=>?_) (fun c2=>?_)
   ·replace hb_1:=fk hb_1 c2
    refine aqq 11 [] rfl ?_
    cases hb_1
    exact kq K
   ·replace hb_1:=fg hb_1 c2
    refine aqq 4 [2,1,0] rfl<|WQ.yes rfl rfl ?_
    obtain ⟨x3,hx3,hb_1⟩:=bs hb_1
    obtain ⟨cs2,F2,-,g2,hb2,hs2,r2⟩:=ph0_0.el (a7 hx3).2.2
    obtain ⟨v4,G4,v5,G5,v6,G6,rfl,rfl,h4,h5,h6⟩:=r2
    refine qq (a8 zT rfl rfl ph0_0 hx3) rfl<|WQ.yes rfl rfl<|qq (ax zF rfl) rfl<|WQ.yes rfl rfl<|qq (aM LX rfl (fun w1 hw=>(g2.of_eq 0 1 rfl rfl:rg _ _ _ [.string x3.Name]).rangeAt hw.in0)) rfl<|WQ.yes rfl rfl ?_
    obtain ⟨x4,hx4,hb_1⟩:=bs hb_1
    refine qp (bH Jd rfl (fun w1 hw=>xK N (ba hw.in0) p0 x3.Name ph0_0 hx4)) rfl<|aqq 3 [] rfl ?_
    cases hb_1
    exact kq K
  refine WQ.nil ?_
  refine ch h rfl ?_ ?_ <;> intro h
  ·refine att 4 [] rfl ?_
   exact rt hF h
  refine att 7 [] rfl ?_
  exact lb [] [0] (ih1 _ h)
 refine atr 5 [0,0] rfl<|qc h (eO N · p0.Name ·) rfl rfl rfl fun x5 h=>la rfl ?_
 obtain ⟨b2,hb_2,h⟩:=bs h
 refine WL.cutN 5 [(38,.bool b2)] ?_ (fun K=>?_)
 rotate_left
 ·refine sp 33 hb_2 rfl (fun hb_2=>?_) fun hb_2=>?_
  ·refine arr 2 [1,0] rfl<|ly rfl rfl<|lnr ph0_0 rfl<|ly rfl rfl<|qc hb_2 (bU N · (p0.Rules.length:Int) 1 12 ·) rfl rfl rfl fun x6 hb_2=>la rfl ?_
   cases hb_2
   exact ku K
  ·refine arr 5 [] rfl ?_
   cases hb_2
   exact ku K
 refine la rfl<|en ?_
 exact rt hF h
theorem yo (w0:af Ψ Φ []) (p0:(List aP)) (ph0:RSl aD 3 Ψ pG0 pv0 p0) {r:Bool} (h:qF N p0=some r) :
  CB w0 prog 90 [pv0] (.bool r):=by
 refine eN func90 rfl ntmps90 rfl w0 fun hF=>?_
 unfold qF at h
 refine att 10 [] rfl ?_
 refine lin (σ:=Int) (fun s=>[(0,pv0),(3,iV s)]) (fun s=>St w0 Φ [] []) (fun m s=>dO N p0 m s=some r) (0) N h (sx [] []) (fun n1 ih1 s hm=>?_)
 revert hm; revert s; intro s1 hm
 have h:dO N p0 (n1+1) s1=some r:=hm
 show WT _ _ [(0,pv0),(3,iV s1)] (St w0 Φ [] [])
 unfold dO at h
 refine atr 5 [] rfl<|lnr ph0 rfl<|la rfl<|en ?_
 refine ch h rfl ?_ ?_ <;> intro h
 ·refine atr 7 [] rfl ?_
  obtain ⟨x1,hx1,h⟩:=bs h
  obtain ⟨cs1,F1,-,g1,hb1,hs1,r1⟩:=ph0.el (a7 hx1).2.2
  obtain ⟨rfl,-⟩:=r1
  refine lia ph0 hx1 rfl<|lhx 0 3 g1 rfl<|qc h (tP N · x1 ·) rfl rfl rfl fun x2 h=>la rfl<|en ?_
  refine ch h rfl ?_ ?_ <;> intro h
  ·refine att 4 [] rfl ?_
   exact rt hF h
  refine att 7 [] rfl ?_
  exact lb [] [] (ih1 _ h)
 refine atr 4 [] rfl<|lnr ph0 rfl<|art 3 [] rfl ?_
 exact rt hF h
theorem yq (w0:af Ψ Φ []) (p0:av) (ph0_0:RSl aD 3 Ψ pG0_0 pv0_0 p0.Fields) {r:Bool} (h:oy N p0=some r) :
  CB w0 prog 46 [.agg [.string p0.Kind,pv0_0].toArray] (.bool r):=by
 refine eN func46 rfl ntmps46 rfl w0 fun hF=>?_
 unfold oy at h
 refine sr<|lbx rfl fun b_1=>arr 6 [0,0] rfl<|qc h (eO N · p0.Kind ·) rfl rfl rfl fun x1 h=>la rfl ?_
 obtain ⟨b1,hb_1,h⟩:=bs h
 refine WL.cutN 4 [(10,.bool b1),(2,.bool false)] ?_ (fun K=>?_)
 rotate_left
 ·refine sp 6 hb_1 rfl (fun hb_1=>?_) fun hb_1=>?_
  ·refine arr 2 [1,0] rfl<|ly rfl rfl<|qd hb_1 (yo N · p0.Fields ph0_0 ·) rfl rfl rfl fun x2 hb_1=>la rfl ?_
   cases hb_1
   exact ku K
  ·refine arr 4 [] rfl ?_
   cases hb_1
   exact ku K
 refine la rfl<|en ?_
 exact rt hF h
theorem pu (w0:af Ψ Φ []) (p0:(List aP)) (p1:(List aP)) (ph0:RSl aD 3 Ψ pG0 pv0 p0) (ph1:RSl aD 3 Ψ pG1 pv1 p1) {r:Bool} (h:fW N p0 p1=some r) :
  CB w0 prog 144 [pv0,pv1] (.bool r):=by
 refine eN func144 rfl ntmps144 rfl w0 fun hF=>?_
 unfold fW at h
 refine atr 8 [] rfl<|lnr ph0 rfl<|la rfl<|lnr ph1 rfl<|la rfl<|en ?_
 refine ch h rfl ?_ ?_ <;> intro h
 ·refine att 4 [] rfl ?_
  exact rt hF h
 refine att 7 [] rfl ?_
 refine lin (σ:=Int) (fun s=>[(0,pv0),(1,pv1),(5,iV s)]) (fun s=>St w0 Φ [] []) (fun m s=>d9 N p0 p1 m s=some r) (0) N h (sx [] []) (fun n1 ih1 s hm=>?_)
 revert hm; revert s; intro s1 hm
 have h:d9 N p0 p1 (n1+1) s1=some r:=hm
 show WT _ _ [(0,pv0),(1,pv1),(5,iV s1)] (St w0 Φ [] [])
 unfold d9 at h
 refine atr 5 [] rfl<|lnr ph0 rfl<|la rfl<|en ?_
 refine ch h rfl ?_ ?_ <;> intro h
 ·refine att 4 [] rfl<|WT.draw mixed (by kernel_rfl) (fun _ h=>h.drew)<|aqq 2 [] rfl ?_
  obtain ⟨x1,hx1,h⟩:=bs h
  obtain ⟨cs1,F1,-,g1,hb1,hs1,r1⟩:=ph0.el (a7 hx1).2.2
  obtain ⟨rfl,-⟩:=r1
  refine qq (a8 dA rfl rfl ph0 hx1) rfl<|qq (aq gF rfl (fun w1 hw=>(g1.of_eq 0 3 rfl rfl:rg _ _ _ [iV x1.K,iV x1.N,.string x1.S]).rangeAt hw.in0) rfl) rfl<|aqq 2 [] rfl ?_
  obtain ⟨x2,hx2,h⟩:=bs h
  obtain ⟨cs2,F2,-,g2,hb2,hs2,r2⟩:=ph1.el (a7 hx2).2.2
  obtain ⟨rfl,-⟩:=r2
  refine qq (a8 dA rfl rfl ph1 hx2) rfl<|qq (aq gF rfl (fun w1 hw=>(g2.of_eq 0 3 rfl rfl:rg _ _ _ [iV x2.K,iV x2.N,.string x2.S]).rangeAt hw.in0) rfl) rfl<|qq (uG kr rfl rfl rfl (r:=bb x1 x2) rfl) rfl<|WQ.nil ?_
  refine ch h rfl ?_ ?_ <;> intro h
  ·refine att 4 [] rfl ?_
   exact rt hF h
  refine att 7 [] rfl ?_
  exact lb [] [] (ih1 _ h)
 refine att 5 [] rfl ?_
 exact rt hF h
theorem ve (w0:af Ψ Φ []) (p0:av) (p1:av) (ph0_0:RSl aD 3 Ψ pG0_0 pv0_0 p0.Fields) (ph1_0:RSl aD 3 Ψ pG1_0 pv1_0 p1.Fields) {r:Bool} (h:kI N p0 p1=some r) :
  CB w0 prog 91 [.agg [.string p0.Kind,pv0_0].toArray,.agg [.string p1.Kind,pv1_0].toArray] (.bool r):=by
 refine eN func91 rfl ntmps91 rfl w0 fun hF=>?_
 unfold kI at h
 refine sr<|lbx rfl fun b_1=>lbx rfl fun b_2=>arr 10 [0,32,0,0] rfl ?_
 obtain ⟨b1,hb_1,h⟩:=bs h
 refine WL.cutN 6 [(16,.bool b1),(4,.bool false)] ?_ (fun K=>?_)
 rotate_left
 ·refine sp 10 hb_1 rfl (fun hb_1=>?_) fun hb_1=>?_
  ·refine arr 4 [1,32,1,0] rfl<|ly rfl rfl<|qd hb_1 (pu N · p0.Fields p1.Fields ph0_0 ph1_0 ·) rfl rfl rfl fun x1 hb_1=>la rfl ?_
   cases hb_1
   exact ku K
  ·refine arr 6 [] rfl ?_
   cases hb_1
   exact ku K
 refine la rfl<|en ?_
 exact rt hF h
theorem Cs (w0:af Ψ Φ []) (p0:ae) (p1:av) (ph0_0:RSl bn 3 Ψ pG0_0 pv0_0 p0.Items) (ph1_0:RSl aD 3 Ψ pG1_0 pv1_0 p1.Fields) {r:Int} (h:rC N p0 p1=some r) :
  CB w0 prog 47 [.agg [pv0_0,iV p0.Next].toArray,.agg [.string p1.Kind,pv1_0].toArray] (iV r):=by
 refine eN func47 rfl ntmps47 rfl w0 fun hF=>?_
 unfold rC at h
 refine sr<|lbx rfl fun b_1=>lbx rfl fun b_2=>art 8 [] rfl ?_
 refine lin (σ:=Int) (fun s=>[(2,pQ b_1),(3,pQ b_2),(5,iV s)]) (fun s=>St w0 Φ [(b_2,.cells #[.string p1.Kind,pv1_0] 115 (0,0)),(b_1,.cells #[pv0_0,iV p0.Next] 47 (0,0))] []) (fun m s=>gy N p0 p1 m s=some r) (0) N h (sx [] [0,0]) (fun n1 ih1 s hm=>?_)
 revert hm; revert s; intro s1 hm
 have h:gy N p0 p1 (n1+1) s1=some r:=hm
 show WT _ _ [(2,pQ b_1),(3,pQ b_2),(5,iV s1)] (St w0 Φ [(b_2,.cells #[.string p1.Kind,pv1_0] 115 (0,0)),(b_1,.cells #[pv0_0,iV p0.Next] 47 (0,0))] [])
 unfold gy at h
 refine atr 6 [0,32] rfl<|lnr ph0_0 rfl<|la rfl<|en ?_
 refine ch h rfl ?_ ?_ <;> intro h
 ·refine att 4 [] rfl<|WT.draw mixed (by kernel_rfl) (fun _ h=>h.drew)<|aqq 3 [0,32] rfl ?_
  obtain ⟨x1,hx1,h⟩:=bs h
  obtain ⟨cs1,F1,-,g1,hb1,hs1,r1⟩:=ph0_0.el (a7 hx1).2.2
  obtain ⟨v1,G1,rfl,hq1,h1⟩:=r1
  obtain rfl:=hq1.symm
  refine qq (a8 rP rfl rfl ph0_0 hx1) rfl<|qq (ax tU rfl) rfl<|qq (aq mV rfl (fun w1 hw=>(g1.of_eq 1 2 rfl rfl:rg _ _ _ [.string x1.F.Kind,v1]).rangeAt hw.in0) rfl) rfl<|qq (aq mV rfl (fun w1 hw=>hw.rgO (i:=0) rfl 0 2 [.string p1.Kind,pv1_0] rfl) rfl) rfl ?_
  obtain ⟨x2,hx2,h⟩:=bs h
  refine qp (bH If rfl (fun w1 hw=>ve N (ba hw.in0) x1.F p1 h1 ph1_0 hx2)) rfl<|WQ.nil ?_
  refine ch h rfl ?_ ?_ <;> intro h
  ·refine atr 5 [0,32] rfl ?_
   obtain ⟨x3,hx3,h⟩:=bs h
   obtain ⟨cs2,F2,-,g2,hb2,hs2,r2⟩:=ph0_0.el (a7 hx3).2.2
   obtain ⟨v2,G2,rfl,hq2,h2⟩:=r2
   obtain rfl:=hq2.symm
   refine lia ph0_0 hx3 rfl<|lf sh rfl rfl rfl<|lhx 0 0 g2 rfl<|la rfl<|en ?_
   exact rt hF h
  refine att 7 [] rfl ?_
  exact lb [] [0,0] (ih1 _ h)
 refine att 5 [] rfl ?_
 exact rt hF h
theorem wu (w0:af Ψ Φ []) (p0:ae) (ph0_0:RSl bn 3 Ψ pG0_0 pv0_0 p0.Items) {r:Bool} (h:m9 N p0=some r) :
  CB w0 prog 20 [.agg [pv0_0,iV p0.Next].toArray] (.bool r):=by
 refine eN func20 rfl ntmps20 rfl w0 fun hF=>?_
 unfold m9 at h
 refine sr<|lbx rfl fun b_1=>arr 7 [1,0] rfl<|qc h (bU N · p0.Next 1 1000000 ·) rfl rfl rfl fun x1 h=>arr 2 [] rfl ?_
 obtain ⟨b1,hb_1,h⟩:=bs h
 refine WL.cutN 5 [(14,.bool b1),(1,pQ b_1)] ?_ (fun K=>?_)
 rotate_left
 ·refine sp 9 hb_1 rfl (fun hb_1=>?_) fun hb_1=>?_
  ·refine arr 5 [] rfl ?_
   cases hb_1
   exact ku K
  ·refine arr 2 [0,0] rfl<|ly rfl rfl<|lnr ph0_0 rfl<|arr 2 [] rfl ?_
   cases hb_1
   exact ku K
 refine en ?_
 refine ch h rfl ?_ ?_ <;> intro h
 ·refine att 4 [] rfl ?_
  exact rt hF h
 refine att 7 [] rfl ?_
 refine lin (σ:=Int) (fun s=>[(1,pQ b_1),(3,iV s)]) (fun s=>St w0 Φ [(b_1,.cells #[pv0_0,iV p0.Next] 47 (0,0))] []) (fun m s=>fa N p0 m s=some r) (0) N h (sx [] [0]) (fun n1 ih1 s hm=>?_)
 revert hm; revert s; intro s1 hm
 have h:fa N p0 (n1+1) s1=some r:=hm
 show WT _ _ [(1,pQ b_1),(3,iV s1)] (St w0 Φ [(b_1,.cells #[pv0_0,iV p0.Next] 47 (0,0))] [])
 unfold fa at h
 refine atr 6 [0,0] rfl<|lnr ph0_0 rfl<|la rfl<|en ?_
 refine ch h rfl ?_ ?_ <;> intro h
 ·refine atr 8 [0,0] rfl ?_
  obtain ⟨x2,hx2,h⟩:=bs h
  obtain ⟨cs1,F1,-,g1,hb1,hs1,r1⟩:=ph0_0.el (a7 hx2).2.2
  obtain ⟨v1,G1,rfl,hq1,h1⟩:=r1
  obtain rfl:=hq1.symm
  refine lia ph0_0 hx2 rfl<|lhx 0 3 g1 rfl<|lnz qU rfl fun b_2=>soN 0 rF rfl ⟨rfl,rfl,h1.one,trivial⟩ rfl ?_
  refine en<|sq<|WT.draw mixed (by kernel_rfl) (fun _ h=>h.drew)<|aqq 2 [1,2] rfl ?_
  obtain ⟨x3,hx3,h⟩:=bs h
  refine qp (bH Is rfl (fun w1 hw=>yq N (ba hw.in0) x2.F h1 hx3)) rfl<|aqq 2 [] rfl ?_
  obtain ⟨b2,hb_2,h⟩:=bs h
  refine WQ.cutN 4 [(35,.bool b2),(1,pQ b_1),(3,iV s1),(4,pQ b_2)] ?_ (fun K=>?_)
  rotate_left
  ·refine WQ.split (d:=31) rfl (fun c4=>?_) (fun c4=>?_)
   ·replace hb_2:=fk hb_2 c4
    refine aqq 4 [] rfl ?_
    cases hb_2
    exact kq K
   ·replace hb_2:=fg hb_2 c4
    refine aqq 4 [0,0] rfl ?_
    cases hb_2
    exact kq K
  refine qq (fo rfl) rfl ?_
  obtain ⟨b3,hb_3,h⟩:=bs h
  refine WQ.cutN 6 [(42,.bool b3),(1,pQ b_1),(3,iV s1),(4,pQ b_2)] ?_ (fun K=>?_)
  rotate_left
  ·refine WQ.split (d:=36) rfl (fun c5=>?_) (fun c5=>?_)
   ·replace hb_3:=fk hb_3 c5
    refine aqq 6 [] rfl ?_
    cases hb_3
    exact kq K
   ·replace hb_3:=fg hb_3 c5
    refine aqq 6 [0,0,1,32] rfl ?_
    cases hb_3
    exact kq K
  refine qq (fo rfl) rfl ?_
  obtain ⟨b4,hb_4,h⟩:=bs h
  refine WQ.cutN 15 [(58,.bool b4),(1,pQ b_1),(3,iV s1),(4,pQ b_2)] ?_ (fun K=>?_)
  rotate_left
  ·refine WQ.split (d:=43) rfl (fun c6=>?_) (fun c6=>?_)
   ·replace hb_4:=fk hb_4 c6
    refine aqq 15 [] rfl ?_
    cases hb_4
    exact kq K
   ·replace hb_4:=fg hb_4 c6
    refine aqq 3 [] rfl ?_
    obtain ⟨b5,hb_5,hb_4⟩:=bs hb_4
    refine WQ.cutN 11 [(57,.bool b5),(1,pQ b_1),(3,iV s1),(4,pQ b_2),(43,.bool false)] ?_ (fun K=>?_)
    rotate_left
    ·refine WQ.split (d:=46) rfl (fun c7=>?_) (fun c7=>?_)
     ·replace hb_5:=fk hb_5 c7
      refine aqq 4 [0,32] rfl<|WQ.yes rfl rfl ?_
      obtain ⟨x4,hx4,hb_5⟩:=bs hb_5
      obtain ⟨cs2,F2,-,g2,hb2,hs2,r2⟩:=ph0_0.el (a7 hx4).2.2
      obtain ⟨v2,G2,rfl,hq2,h2⟩:=r2
      obtain rfl:=hq2.symm
      refine qq (a8 rP rfl rfl ph0_0 hx4) rfl<|WQ.yes rfl rfl<|qq (ax sh rfl) rfl<|WQ.yes rfl rfl<|qq (aM rU rfl (fun w1 hw=>(g2.of_eq 0 1 rfl rfl:rg _ _ _ [iV x4.Id]).rangeAt hw.in0)) rfl<|aqq 4 [0,0] rfl ?_
      cases hb_5
      exact kq K
     ·replace hb_5:=fg hb_5 c7
      refine aqq 11 [] rfl ?_
      cases hb_5
      exact kq K
    refine WQ.q (pw rfl rfl) rfl rfl rfl ?_
    cases hb_4
    exact kq K
  refine qq (fo rfl) rfl ?_
  obtain ⟨b6,hb_6,h⟩:=bs h
  refine WQ.cutN 8 [(67,.bool b6),(1,pQ b_1),(3,iV s1)] ?_ (fun K=>?_)
  rotate_left
  ·refine WQ.split (d:=59) rfl (fun c8=>?_) (fun c8=>?_)
   ·replace hb_6:=fk hb_6 c8
    refine aqq 8 [] rfl ?_
    cases hb_6
    exact kq K
   ·replace hb_6:=fg hb_6 c8
    refine aqq 3 [34,1,2] rfl<|WQ.yes rfl rfl ?_
    obtain ⟨x5,hx5,hb_6⟩:=bs hb_6
    refine qp (bH JD rfl (fun w1 hw=>Cs N (ba hw.in0) p0 x2.F ph0_0 h1 hx5)) rfl<|aqq 4 [0,0] rfl ?_
    cases hb_6
    exact kq K
  refine WQ.nil ?_
  refine ch h rfl ?_ ?_ <;> intro h
  ·refine att 4 [] rfl ?_
   exact rt hF h
  refine att 7 [] rfl ?_
  exact lb [] [1] (ih1 _ h)
 refine att 5 [] rfl ?_
 exact rt hF h
theorem jX (w0:af Ψ Φ []) (p0:(List Int)) (p1:(List Int)) (ph0:RSl (RI .i64) 1 Ψ pG0 pv0 p0) (ph1:RSl (RI .i64) 1 Ψ pG1 pv1 p1) {r:Bool} (h:gw N p0 p1=some r) :
  CB w0 prog 24 [pv0,pv1] (.bool r):=by
 refine eN func24 rfl ntmps24 rfl w0 fun hF=>?_
 unfold gw at h
 refine atr 8 [] rfl<|lnr ph0 rfl<|la rfl<|lnr ph1 rfl<|la rfl<|en ?_
 refine ch h rfl ?_ ?_ <;> intro h
 ·refine att 4 [] rfl ?_
  exact rt hF h
 refine att 7 [] rfl ?_
 refine lin (σ:=Int) (fun s=>[(0,pv0),(1,pv1),(5,iV s)]) (fun s=>St w0 Φ [] []) (fun m s=>gg N p0 p1 m s=some r) (0) N h (sx [] []) (fun n1 ih1 s hm=>?_)
 revert hm; revert s; intro s1 hm
 have h:gg N p0 p1 (n1+1) s1=some r:=hm
 show WT _ _ [(0,pv0),(1,pv1),(5,iV s1)] (St w0 Φ [] [])
 unfold gg at h
 refine atr 5 [] rfl<|lnr ph0 rfl<|la rfl<|en ?_
 refine ch h rfl ?_ ?_ <;> intro h
 ·refine att 4 [] rfl<|WT.draw mixed (by kernel_rfl) (fun _ h=>h.drew)<|aqq 2 [] rfl ?_
  obtain ⟨x1,hx1,h⟩:=bs h
  obtain ⟨cs1,F1,-,g1,hb1,hs1,r1⟩:=ph0.el (a7 hx1).2.2
  obtain ⟨rfl,-⟩:=r1
  refine qq (a8 bD rfl rfl ph0 hx1) rfl<|qq (aM rU rfl (fun w1 hw=>(g1.of_eq 0 1 rfl rfl:rg _ _ _ [iV x1]).rangeAt hw.in0)) rfl<|aqq 2 [] rfl ?_
  obtain ⟨x2,hx2,h⟩:=bs h
  obtain ⟨cs2,F2,-,g2,hb2,hs2,r2⟩:=ph1.el (a7 hx2).2.2
  obtain ⟨rfl,-⟩:=r2
  refine qq (a8 bD rfl rfl ph1 hx2) rfl<|qq (aM rU rfl (fun w1 hw=>(g2.of_eq 0 1 rfl rfl:rg _ _ _ [iV x2]).rangeAt hw.in0)) rfl<|aqt 2 [] rfl ?_
  refine ch h rfl ?_ ?_ <;> intro h
  ·refine att 4 [] rfl ?_
   exact rt hF h
  refine att 7 [] rfl ?_
  exact lb [] [] (ih1 _ h)
 refine att 5 [] rfl ?_
 exact rt hF h
theorem u7 (w0:af Ψ Φ []) (p0:aj) (p1:aj) (ph0_0:RSl aD 3 Ψ pG0_0 pv0_0 p0.Consts) (ph0_1:RSl (RI .i64) 1 Ψ pG0_1 pv0_1 p0.At) (ph1_0:RSl aD 3 Ψ pG1_0 pv1_0 p1.Consts) (ph1_1:RSl (RI .i64) 1 Ψ pG1_1 pv1_1 p1.At) {r:Bool} (h:je N p0 p1=some r) :
  CB w0 prog 92 [.agg [.string p0.Kind,iV p0.N,pv0_0,pv0_1].toArray,.agg [.string p1.Kind,iV p1.N,pv1_0,pv1_1].toArray] (.bool r):=by
 refine eN func92 rfl ntmps92 rfl w0 fun hF=>?_
 unfold je at h
 refine sr<|lbx rfl fun b_1=>lbx rfl fun b_2=>arr 10 [0,32,0,0] rfl ?_
 obtain ⟨b1,hb_1,h⟩:=bs h
 refine WL.cutN 6 [(16,.bool b1),(2,pQ b_1),(3,pQ b_2),(4,.bool false)] ?_ (fun K=>?_)
 rotate_left
 ·refine sp 10 hb_1 rfl (fun hb_1=>?_) fun hb_1=>?_
  ·refine arr 6 [1,32,1,0] rfl ?_
   cases hb_1
   exact ku K
  ·refine arr 6 [] rfl ?_
   cases hb_1
   exact ku K
 refine la rfl ?_
 obtain ⟨b2,hb_2,h⟩:=bs h
 refine WL.cutN 6 [(23,.bool b2),(2,pQ b_1),(3,pQ b_2),(4,.bool false)] ?_ (fun K=>?_)
 rotate_left
 ·refine sp 17 hb_2 rfl (fun hb_2=>?_) fun hb_2=>?_
  ·refine arr 4 [3,32,3,0] rfl<|ly rfl rfl<|qd hb_2 (jX N · p0.At p1.At ph0_1 ph1_1 ·) rfl rfl rfl fun x1 hb_2=>la rfl ?_
   cases hb_2
   exact ku K
  ·refine arr 6 [] rfl ?_
   cases hb_2
   exact ku K
 refine la rfl ?_
 obtain ⟨b3,hb_3,h⟩:=bs h
 refine WL.cutN 6 [(30,.bool b3),(4,.bool false)] ?_ (fun K=>?_)
 rotate_left
 ·refine sp 24 hb_3 rfl (fun hb_3=>?_) fun hb_3=>?_
  ·refine arr 4 [2,32,2,0] rfl<|ly rfl rfl<|qd hb_3 (pu N · p0.Consts p1.Consts ph0_0 ph1_0 ·) rfl rfl rfl fun x2 hb_3=>la rfl ?_
   cases hb_3
   exact ku K
  ·refine arr 6 [] rfl ?_
   cases hb_3
   exact ku K
 refine la rfl<|en ?_
 exact rt hF h
theorem wX (w0:af Ψ Φ [[pb0],ob pv0_0].flatten) (p0:bB) (p1:aj) (ph0_0:OSl bY 128 4 Φ pD0_0 pv0_0 p0.Alphas) (ph0_1:RSl er 2 Ψ pG0_1 pv0_1 p0.Chains) (pp0:Φ pb0=some (.cells #[pv0_0,pv0_1] 62 (0,0))) (ph1_0:RSl aD 3 Ψ pG1_0 pv1_0 p1.Consts) (ph1_1:RSl (RI .i64) 1 Ψ pG1_1 pv1_1 p1.At) (pd0_0:Dj pD0_0 [[pb0],ob pv0_0].flatten) {r:Int × bB} (h:lS N p0 p1=some r) :
  Calls prog 48 [pQ pb0,.agg [.string p1.Kind,iV p1.N,pv1_0,pv1_1].toArray].toArray w0.w (aR Φ w0.w [[pb0],ob pv0_0].flatten (fun Φ' Fs v=>∃ (so_0_0:Value) (Do_0_0:List Nat),v=iV r.1∧Fs=[[pb0],ob so_0_0]∧OSl bY 128 4 Φ' Do_0_0 so_0_0 r.2.Alphas∧(∀ k∈Do_0_0,k∈(pD0_0++(pG1_0++pG1_1)))∧r.2.Chains=p0.Chains∧Φ' pb0=some (.cells #[so_0_0,pv0_1] 62 (0,0)))):=by
 refine eL func48 rfl ntmps48 rfl (L:=[[pb0],ob pv0_0]) w0 (fun hF=>?_)
 have pa0_0:=Old.mk w0 ph0_0.kn pd0_0
 unfold lS at h
 refine sr<|lbx rfl fun b_1=>art 8 [] rfl ?_
 refine lin (σ:=Int) (fun s=>[(0,pQ pb0),(3,pQ b_1),(5,iV s)]) (fun s=>St w0 Φ [(b_1,.cells #[.string p1.Kind,iV p1.N,pv1_0,pv1_1] 128 (0,0))] [[pb0],ob pv0_0]) (fun m s=>ej N p0 p1 m s=some r) (0) N h (sx [0,0] [0]) (fun n1 ih1 s hm=>?_)
 revert hm; revert s; intro s1 hm
 have h:ej N p0 p1 (n1+1) s1=some r:=hm
 show WT _ _ [(0,pQ pb0),(3,pQ b_1),(5,iV s1)] (St w0 Φ [(b_1,.cells #[.string p1.Kind,iV p1.N,pv1_0,pv1_1] 128 (0,0))] [[pb0],ob pv0_0])
 unfold ej at h
 refine atr 5 [] rfl<|lq (dG rfl) rfl<|lf oa rfl rfl rfl<|lgx 0 0 (jl pp0) rfl<|lno ph0_0 rfl<|la rfl<|en ?_
 refine ch h rfl ?_ ?_ <;> intro h
 ·refine att 4 [] rfl<|WT.draw mixed (by kernel_rfl) (fun _ h=>h.drew)<|qq (fo rfl) rfl<|qq (dG rfl) rfl<|qq (ax oa rfl) rfl<|qq (aM Gv rfl (fun w1 hw=>((jl pp0).of_eq 0 1 rfl rfl:rg _ _ _ [pv0_0]).rangeAt hw.fro)) rfl<|qq (fo rfl) rfl ?_
  obtain ⟨x1,hx1,h⟩:=bs h
  obtain ⟨cs1,F1,-,g1,hb1,hs1,r1⟩:=ph0_0.elS (a7 hx1).2.2
  obtain ⟨v1,G1,v2,G2,rfl,rfl,h1,h2⟩:=r1
  refine qq (a8 zM rfl rfl ph0_0.rsl hx1) rfl<|qq (aq sX rfl (fun w1 hw=>(g1.of_eq 0 4 rfl rfl:rg _ _ _ [.string x1.Kind,iV x1.N,v1,v2]).rangeAt hw.fro) rfl) rfl<|qq (aq sX rfl (fun w1 hw=>hw.rgO (i:=0) rfl 0 4 [.string p1.Kind,iV p1.N,pv1_0,pv1_1] rfl) rfl) rfl ?_
  obtain ⟨x2,hx2,h⟩:=bs h
  refine qp (bH JY rfl (fun w1 hw=>u7 N (ba hw.fro) x1 p1 h1 h2 (ph1_0.y hw.up) (ph1_1.y hw.up) hx2)) rfl<|WQ.nil ?_
  refine ch h rfl ?_ ?_ <;> intro h
  ·refine att 5 [] rfl ?_
   exact rtg [0,0] hF (aG.one rfl) rfl (by cases h; exact fun w1 hw=>⟨pv0_0,pD0_0,rfl,rfl,ph0_0,(fun k hk=>(List.mem_append.2 (.inl hk))),rfl,pp0⟩)
  refine att 7 [] rfl ?_
  exact lb [0,0] [0] (ih1 _ h)
 refine xt rfl<|sq<|WT.mix (Kn w0 Φ [pb0] [(b_1,.cells #[.string p1.Kind,iV p1.N,pv1_0,pv1_1] 128 (0,0))]) (fun i=>match i with | 10=>false | _=>true) mixed (fun _ h=>h.drew)<|ma 0 rfl (by kernel_rfl) (kn Kf.id (am [0] rfl)) rfl<|ma 1 rfl (by kernel_rfl) (kn Kf.id (am [0] rfl)) rfl<|mq 2 rfl (by kernel_rfl) (kn Kf.id (am [0] rfl)) (dG rfl) rfl<|mq 3 rfl (by kernel_rfl) (kn Kf.id (am [0] rfl)) (ax oa rfl) rfl ?_
 refine mq 4 rfl (by kernel_rfl) (kn Kf.id (am [0] rfl)) (aM Gv rfl (fun w1 hw=>hw.rg (by simp) ((jl pp0).of_eq 0 1 rfl rfl:rg _ _ _ [pv0_0]))) rfl<|mq 5 rfl (by kernel_rfl) (kn Kf.id (am [0] rfl)) (aq sX rfl (fun w1 hw=>hw.rgO (i:=0) rfl 0 4 [.string p1.Kind,iV p1.N,pv1_0,pv1_1] rfl) rfl) rfl<|mu0 ph1_0 fun h3=>mu0 ph1_1 fun h4=>?_
 have rc1:RC bY 4 Φ ([pG1_0++(pG1_1)]:List (List Nat)) [.string p1.Kind,iV p1.N,pv1_0,pv1_1] ([p1]:List aj):=RC.cons (c:=[.string p1.Kind,iV p1.N,pv1_0,pv1_1]) (cells:=[]) ⟨pv1_0,pG1_0,pv1_1,pG1_1,rfl,rfl,h3,h4⟩ rfl (RC.nil _ _ _)
 refine WM.one 6 (by kernel_rfl) (me rfl (fun _ v Φx D w1 hq hw=>Kn.of (Kf.id.se hq.1) (am [0] rfl) hw) (cU (vs:=[(0,.agg [.string p1.Kind,iV p1.N,pv1_0,pv1_1].toArray)]) (C:=#[.string p1.Kind,iV p1.N,pv1_0,pv1_1]) bY.lasts zM nO rfl rfl rfl rfl (aK Cn (ai (C':=[.string p1.Kind,iV p1.N,pv1_0,pv1_1]) rfl rfl rfl rfl rfl (au))) rfl rc1 rfl (RC.kn bY.knows rc1)) rfl ?_)
 rintro v3 Φ_1 D1 ⟨fr1,h5⟩
 replace h5:OSl bY 128 4 Φ_1 (pG1_0++(pG1_1)) v3 ([p1]:List aj):=by simpa [List.append_assoc] using h5
 replace ph0_0:=ph0_0.f0 fr1
 replace pp0:=fr1 _ _ (by simp) pp0
 obtain ⟨x3,hx3,h⟩:=bs h
 have kf1:=(Kf.id (F:=[pb0]):Kf Φ _ _).se fr1
 refine WM.one 7 (by kernel_rfl) (me rfl (fun _ v Φx D w1 hq hw=>Kn.of (kf1.st hq.1.2 (hq.1.1.r (i:=1) rfl)) (am [0] rfl) hw) (j6 bY.lasts bY.one zM Ff rfl rfl rfl rfl rfl (js:=[2]) (Rr:=[ob v3,[pb0]]) rfl ph0_0 h5 (fun ap=>(ap.o pa0_0)) (fun ap=>(Dj.sub (Dj.app (ap.o ph1_0.old) (ap.o ph1_1.old)) (fun k hk=>(by simpa [List.append_assoc] using hk:k∈(pG1_0++pG1_1))))) hx3) rfl ?_)
 rintro v4 Φ_2 D2 ⟨⟨ap1,fr2⟩,h6⟩
 replace pp0:=fr2 _ _ ((ap1.q 1 rfl) _ (by simp)) pp0
 have kf2:=kf1.st fr2 (ap1.q 1 rfl)
 refine mqT 8 [9,10] rfl (by kernel_rfl) (kn kf2 (am [0] rfl)) (dG rfl) rfl<|mq 9 rfl (by kernel_rfl) (kn kf2 (am [0] rfl)) (ax oa rfl) rfl ?_
 refine WM.thw (js:=[2]) (R:=[ob v4,ob v3]) rfl pp0 (fun Φ_3 ap2 fr3=>?_)
 replace h6:=h6.fr fr3 (ap2.q 0 rfl) (Dj.app (ap2.o pa0_0) (Dj.sub (Dj.app (ap2.o ph1_0.old) (ap2.o ph1_1.old)) (fun k hk=>(by simpa [List.append_assoc] using hk:k∈(pG1_0++pG1_1)))))
 refine on1 10 (ms1 0 rfl nk HQ rfl h6.one ?_)
 refine WM.nil (by kernel_rfl)<|sr<|la rfl<|lq (dG rfl) rfl<|arr 2 [0,0] rfl<|lno h6 rfl<|art 3 [] rfl ?_
 refine WT.frz (js:=[0]) (R:=[(b_1,.cells #[.string p1.Kind,iV p1.N,pv1_0,pv1_1] 128 (0,0))]) rfl (fun Φ_4 fr4 k1=>?_)
 replace h6:=h6.f0 fr4
 exact rtg [0,0] hF (aG.one rfl) rfl (by cases h; exact fun w1 hw=>⟨v4,(pD0_0++(pG1_0++(pG1_1))),rfl,rfl,h6,(fun k hk=>((List.mem_append.1 hk).elim (fun h=>(List.mem_append.2 (.inl h))) (fun h=>((List.mem_append.1 ((fun k hk=>(by simpa [List.append_assoc] using hk:k∈(pG1_0++pG1_1))) k h)).elim (fun h=>(List.mem_append.2 (.inr (List.mem_append.2 (.inl h))))) (fun h=>(List.mem_append.2 (.inr (List.mem_append.2 (.inr h))))))))),rfl,k1⟩)
theorem wk (w0:af Ψ Φ []) (p0:ao) (ph0_0:RSl cu 5 Ψ pG0_0 pv0_0 p0.Args) {r:aj} (h:lR N p0=some r) :
  Calls prog 49 [.agg [.string p0.Kind,pv0_0,.bool p0.Not].toArray].toArray w0.w (aR Φ w0.w [] (fun Φ' Fs v=>∃ (sr_0_0:Value) (sr_0_1:Value),v = .agg [.string r.Kind,iV r.N,sr_0_0,sr_0_1].toArray∧Fs=[ob sr_0_0,ob sr_0_1]∧OSl aD 167 3 Φ' [] sr_0_0 r.Consts∧OSl (RI .i64) 3 1 Φ' [] sr_0_1 r.At)):=by
 refine eN func49 rfl ntmps49 rfl w0 fun hF=>?_
 unfold lR at h
 refine sr<|lbx rfl fun b_1=>lnz nO rfl fun b_2=>arr 7 [0,32,1,32] rfl<|lnr ph0_0 rfl<|lq (cA (vs:=[(0,.string p0.Kind),(1,iV (p0.Args.length:Int))]) (C:=#[.string p0.Kind,iV (p0.Args.length:Int),.slice none 0 0,.slice none 0 0]) Fq nO rfl (ai (C':=[.string p0.Kind,iV 0,.slice none 0 0,.slice none 0 0]) rfl rfl rfl rfl rfl (ai (C':=[.string p0.Kind,iV (p0.Args.length:Int),.slice none 0 0,.slice none 0 0]) rfl rfl rfl rfl rfl (au)))) rfl<|lnz nO rfl fun b_3=>?_
 refine soN 0 sV rfl ⟨rfl,rfl,rfl,rfl,trivial⟩ rfl ?_
 refine art 7 [] rfl<|wtS ?_
 have k1:=OSl.nil aD 167 3 Φ
 refine wtS ?_
 have k2:=OSl.nil (RI .i64) 3 1 Φ
 refine lin (σ:=Hp × (List aP) × Value × (List Int) × Value × Int) (fun s=>[(1,pQ b_1),(2,pQ b_2),(3,pQ b_3),(4,iV s.2.2.2.2.2)]) (fun s=>St w0 s.1 [(b_3,.cells #[.string p0.Kind,iV (p0.Args.length:Int),s.2.2.1,s.2.2.2.2.1] 128 (0,0)),(b_2,.cells #[.string (⟨#[]⟩:ByteArray),iV 0,.slice none 0 0,.slice none 0 0] 128 (0,0)),(b_1,.cells #[.string p0.Kind,pv0_0,.bool p0.Not] 124 (0,0))] [ob s.2.2.2.2.1,ob s.2.2.1]) (fun m s=>em N p0 m s.2.1 s.2.2.2.1 s.2.2.2.2.2=some r∧(OSl aD 167 3 s.1 [] s.2.2.1 s.2.1)∧(OSl (RI .i64) 3 1 s.1 [] s.2.2.2.2.1 s.2.2.2.1)) (Φ,([]:List aP),(.slice none 0 0),([]:List Int),(.slice none 0 0),0) N ⟨h,k1,k2⟩ (sx [0,0] [0,0,0]) (fun n1 ih1 s hm=>?_)
 obtain ⟨Φ_1,s1,u1,s2,u2,s3⟩:=s
 obtain ⟨h,k3,k4⟩:=hm
 dsimp only at h k3 k4 ⊢
 unfold em at h
 refine atr 6 [1,64] rfl<|lnr ph0_0 rfl<|la rfl<|en ?_
 refine ch h rfl ?_ ?_ <;> intro h
 ·refine atr 8 [1,64] rfl ?_
  obtain ⟨x1,hx1,h⟩:=bs h
  obtain ⟨cs1,F1,-,g1,hb1,hs1,r1⟩:=ph0_0.el (a7 hx1).2.2
  obtain ⟨rfl,-⟩:=r1
  refine lia ph0_0 hx1 rfl<|lf A6 rfl rfl rfl<|lhx 0 0 g1 rfl<|la rfl<|en ?_
  refine ch h rfl ?_ ?_ <;> intro h
  ·refine sq<|wm [0,1,2] [11] rfl<|amm 5 [0,2,1,0,2,1,3,64,4] [0,1,2] rfl rfl ?_
   obtain ⟨x2,hx2,h⟩:=bs h
   obtain ⟨cs2,F2,-,g2,hb2,hs2,r2⟩:=ph0_0.el (a7 hx2).2.2
   obtain ⟨rfl,-⟩:=r2
   refine mq 5 rfl (by kernel_rfl) (kN [0,1,2]) (a8 tV rfl rfl ph0_0 hx2) rfl<|amm 1 [6,2] [0,1,2] rfl rfl<|mq 7 rfl (by kernel_rfl) (kN [0,1,2]) (aq gF rfl (fun w1 hw=>(g2.of_eq 2 3 rfl rfl:rg _ _ _ [iV x2.V.K,iV x2.V.N,.string x2.V.S]).rangeAt hw.1) rfl) rfl ?_
   have rc1:RC aD 3 Φ_1 ([[]]:List (List Nat)) [iV x2.V.K,iV x2.V.N,.string x2.V.S] ([x2.V]:List aP):=RC.cons (c:=[iV x2.V.K,iV x2.V.N,.string x2.V.S]) (cells:=[]) ⟨rfl,rfl⟩ rfl (RC.nil _ _ _)
   refine WM.one 8 (by kernel_rfl) (me rfl (fun _ v Φx D w1 hq hw=>Kn.of Kf.nil (ai3 0 1 2 rfl rfl rfl) hw) (cU (vs:=[(0,.agg [iV x2.V.K,iV x2.V.N,.string x2.V.S].toArray)]) (C:=#[iV x2.V.K,iV x2.V.N,.string x2.V.S]) aD.lasts dA iw rfl rfl rfl rfl (aK C4 (ai (C':=[iV x2.V.K,iV x2.V.N,.string x2.V.S]) rfl rfl rfl rfl rfl (au))) rfl rc1 rfl (by simpa using Kw.nil)) rfl ?_)
   rintro v1 Φ_2 D1 ⟨fr1,h1⟩
   replace h1:OSl aD 167 3 Φ_2 [] v1 ([x2.V]:List aP):=by simpa using h1
   replace k3:=k3.f0 fr1
   replace k4:=k4.f0 fr1
   obtain ⟨x3,hx3,h⟩:=bs h
   refine WM.one 9 (by kernel_rfl) (me rfl (fun _ v Φx D w1 hq hw=>Kn.of Kf.nil (ai3 0 1 2 rfl rfl rfl) hw) (dE aD.lasts aD.one aD.flat dA Av rfl rfl rfl rfl rfl (js:=[2]) (Rr:=[ob v1,ob u2]) rfl k3 h1.rsl hx3) rfl ?_)
   rintro v2 Φ_3 D2 ⟨⟨ap1,fr2⟩,h2⟩
   replace k4:=k4.fr fr2 (ap1.q 1 rfl) dN
   refine amm 1 [10,2] [0,1,2] rfl rfl ?_
   refine on1 11 (ms1 0 rfl nk AU rfl h2.one ?_)
   refine WM.nil (by kernel_rfl)<|atr 4 [3,0] rfl ?_
   have rc2:RC (RI .i64) 1 Φ_3 ([[]]:List (List Nat)) [iV s3] ([s3]:List Int):=RC.cons (c:=[iV s3]) (cells:=[]) ⟨rfl,rfl⟩ rfl (RC.nil _ _ _)
   refine le' (cU (vs:=[(0,iV s3)]) (C:=#[iV s3]) RI.lasts bD pb rfl rfl rfl rfl (aK kv (ai (C':=[iV s3]) rfl rfl rfl rfl rfl (au))) rfl rc2 rfl (by simpa using Kw.nil)) rfl ?_
   rintro v3 Φ_4 D3 ⟨fr3,h3⟩
   replace h3:OSl (RI .i64) 3 1 Φ_4 [] v3 ([s3]:List Int):=by simpa using h3
   replace h2:=h2.f0 fr3
   replace k4:=k4.f0 fr3
   obtain ⟨x4,hx4,h⟩:=bs h
   refine le' (dE RI.lasts RI.one RI.flat bD tA rfl rfl rfl rfl rfl (js:=[3]) (Rr:=[ob v3,ob v2,ob v1]) rfl k4 h3.rsl hx4) rfl ?_
   rintro v4 Φ_5 D4 ⟨⟨ap2,fr4⟩,h4⟩
   replace h2:=h2.fr fr4 (ap2.q 1 rfl) dN
   refine lf A5 rfl rfl rfl<|so1 0 qm rfl h4.one ?_
   refine art 7 [] rfl ?_
   exact lb [0,1] [0,0,0] (ih1 (_,_,_,_,_,_) ⟨h,h2,h4⟩)
  refine att 7 [] rfl ?_
  exact lb [0,0] [0,0,0] (ih1 (_,_,_,_,_,_) ⟨h,k3,k4⟩)
 refine atr 4 [4] rfl<|soN 1 sV rfl ⟨rfl,rfl,k3.one,k4.one,trivial⟩ rfl ?_
 refine en ?_
 exact rtg [1,0] hF (aG.one (bw sX rfl (fun w1 hw=>hw.rgO (i:=1) rfl 0 4 [.string p0.Kind,iV (p0.Args.length:Int),u1,u2] rfl) rfl)) rfl (by cases h; exact fun w1 hw=>⟨u1,u2,rfl,rfl,k3,k4⟩)
theorem zp (w0:af Ψ Φ []) (p0:bh) (ph0_0:RSl bV 5 Ψ pG0_0 pv0_0 p0.Rules) {r:bB} (h:om N p0=some r) :
  Calls prog 21 [.agg [.string p0.Name,pv0_0].toArray].toArray w0.w (aR Φ w0.w [] (fun Φ' Fs v=>∃ (sr_0_0:Value) (Dr_0_0:List Nat) (sr_0_1:Value) (Dr_0_1:List Nat) (X:List Nat),v = .agg [sr_0_0,sr_0_1].toArray∧Fs=[ob sr_0_0,ob sr_0_1,Dr_0_1,X]∧OSl bY 128 4 Φ' Dr_0_0 sr_0_0 r.Alphas∧(∀ k∈Dr_0_0,k∈X)∧OSl bi 121 2 Φ' Dr_0_1 sr_0_1 r.Chains)):=by
 refine eN func21 rfl ntmps21 rfl w0 fun hF=>?_
 unfold om at h
 refine sr<|lbx rfl fun b_1=>lnz vZ rfl fun b_2=>en<|sr<|lq (cA (vs:=[]) (C:=#[.slice none 0 0,.slice none 0 0]) Lb vZ rfl (au)) rfl<|lnz vZ rfl fun b_3=>soN 0 Cf rfl ⟨rfl,rfl,trivial⟩ rfl ?_
 refine art 7 [] rfl<|wt0<|wtS ?_
 have k1:=OSl.nil bY 128 4 Φ
 refine wtS<|wt0 ?_
 have k2:=OSl.nil bi 121 2 Φ
 refine lin (σ:=Hp × List Nat × (List aj) × Value × List Nat × (List aC) × Value × List Nat × Int) (fun s=>[(1,pQ b_1),(2,pQ b_2),(3,pQ b_3),(4,iV s.2.2.2.2.2.2.2.2)]) (fun s=>St w0 s.1 [(b_3,.cells #[s.2.2.2.1,s.2.2.2.2.2.2.1] 62 (0,0)),(b_2,.cells #[.slice none 0 0,.slice none 0 0] 62 (0,0)),(b_1,.cells #[.string p0.Name,pv0_0] 38 (0,0))] [s.2.2.2.2.2.2.2.1,ob s.2.2.2.2.2.2.1,ob s.2.2.2.1,s.2.1]) (fun m s=>cY N p0 m s.2.2.1 s.2.2.2.2.2.1 s.2.2.2.2.2.2.2.2=some r∧(OSl bY 128 4 s.1 s.2.2.2.2.1 s.2.2.2.1 s.2.2.1)∧(∀ k∈s.2.2.2.2.1,k∈s.2.1)∧(OSl bi 121 2 s.1 s.2.2.2.2.2.2.2.1 s.2.2.2.2.2.2.1 s.2.2.2.2.2.1)) (Φ,[],([]:List aj),(.slice none 0 0),[],([]:List aC),(.slice none 0 0),[],0) N ⟨h,k1,(by simp),k2⟩ (sx [0,0,0,0] [0,0,0]) (fun n1 ih1 s hm=>?_)
 obtain ⟨Φ_1,X1,s1,u1,D1,s2,u2,D2,s3⟩:=s
 obtain ⟨h,k3,i1,k4⟩:=hm
 dsimp only at h k3 i1 k4 ⊢
 unfold cY at h
 refine atr 6 [1,64] rfl<|lnr ph0_0 rfl<|la rfl<|en ?_
 refine ch h rfl ?_ ?_ <;> intro h
 ·refine atr 5 [] rfl<|lq (cA (vs:=[]) (C:=#[.slice none 0 0,.slice none 0 0]) K4 ub rfl (au)) rfl<|lnz ub rfl fun b_4=>soN 0 Fl rfl ⟨rfl,rfl,trivial⟩ rfl ?_
  refine art 7 [] rfl<|wt0<|wtS ?_
  have k5:=OSl.nil (RI .i64) 3 1 Φ_1
  refine wtS ?_
  have k6:=OSl.nil (RI .i64) 3 1 Φ_1
  refine lin (σ:=Hp × List Nat × (List aj) × Value × List Nat × (List Int) × Value × (List Int) × Value × Int) (fun s=>[(1,pQ b_1),(2,pQ b_2),(3,pQ b_3),(4,iV s3),(5,pQ b_4),(6,iV s.2.2.2.2.2.2.2.2.2)]) (fun s=>St w0 s.1 [(b_4,.cells #[s.2.2.2.2.2.2.2.2.1,s.2.2.2.2.2.2.1] 121 (0,0)),(b_3,.cells #[s.2.2.2.1,u2] 62 (0,0)),(b_2,.cells #[.slice none 0 0,.slice none 0 0] 62 (0,0)),(b_1,.cells #[.string p0.Name,pv0_0] 38 (0,0))] [ob s.2.2.2.2.2.2.2.2.1,ob s.2.2.2.2.2.2.1,s.2.1,D2,ob u2,ob s.2.2.2.1,X1]) (fun m s=>dL N p0 s2 s3 (cY N p0 n1) m s.2.2.1 s.2.2.2.2.2.1 s.2.2.2.2.2.2.2.1 s.2.2.2.2.2.2.2.2.2=some r∧(OSl bY 128 4 s.1 s.2.2.2.2.1 s.2.2.2.1 s.2.2.1)∧(∀ k∈s.2.2.2.2.1,k∈(X1++s.2.1))∧(OSl bi 121 2 s.1 D2 u2 s2)∧(OSl (RI .i64) 3 1 s.1 [] s.2.2.2.2.2.2.1 s.2.2.2.2.2.1)∧(OSl (RI .i64) 3 1 s.1 [] s.2.2.2.2.2.2.2.2.1 s.2.2.2.2.2.2.2.1)) (Φ_1,[],s1,u1,D1,([]:List Int),(.slice none 0 0),([]:List Int),(.slice none 0 0),0) N ⟨h,k3,(fun k hk=>(List.mem_append.2 (.inl (i1 k hk)))),k4,k5,k6⟩ (sx [0,0,0,0,0,0,0] [0,0,0,0]) (fun n2 ih2 s hm=>?_)
  obtain ⟨Φ_2,X2,s4,u3,D3,s5,u4,s6,u5,s7⟩:=s
  obtain ⟨h,k7,i2,k4,k8,k9⟩:=hm
  dsimp only at h k7 i2 k4 k8 k9 ⊢
  unfold dL at h
  refine atr 7 [1,96] rfl ?_
  obtain ⟨x1,hx1,h⟩:=bs h
  obtain ⟨cs1,F1,-,g1,hb1,hs1,r1⟩:=ph0_0.el (a7 hx1).2.2
  obtain ⟨v1,G1,v2,G2,v3,G3,rfl,rfl,h1,h2,h3⟩:=r1
  refine lia ph0_0 hx1 rfl<|lf tY rfl rfl rfl<|lhx 2 0 g1 rfl<|lnr h1 rfl<|la rfl<|en ?_
  refine ch h rfl ?_ ?_ <;> intro h
  ·refine atr 8 [1,96] rfl ?_
   obtain ⟨x2,hx2,h⟩:=bs h
   obtain ⟨cs2,F2,-,g2,hb2,hs2,r2⟩:=ph0_0.el (a7 hx2).2.2
   obtain ⟨v4,G4,v5,G5,v6,G6,rfl,rfl,h4,h5,h6⟩:=r2
   refine lia ph0_0 hx2 rfl<|lf tY rfl rfl rfl<|lhx 2 0 g2 rfl<|la rfl ?_
   obtain ⟨x3,hx3,h⟩:=bs h
   obtain ⟨cs3,F3,-,g3,hb3,hs3,r3⟩:=h4.el (a7 hx3).2.2
   obtain ⟨v7,G7,rfl,hq1,h7⟩:=r3
   obtain rfl:=hq1.symm
   refine lia h4 hx3 rfl<|lhx 0 3 g3 rfl<|lnz mN rfl fun b_5=>soN 0 pX rfl ⟨rfl,h7.one,rfl,trivial⟩ rfl ?_
   refine arr 4 [3] rfl<|kab h rfl rfl rfl (fun b z q=>wk N b x3 (h7.y z) q) ?_
   rintro x4 h v8 Φ_3 F4 ⟨ap1,fr1,v9,v10,rfl,rfl,h8,h9⟩
   replace k7:=k7.fr fr1 (ap1.q 5 rfl) (Dj.sub (Dj.app (ap1.q 6 rfl) (ap1.q 2 rfl)) i2)
   replace k4:=k4.fr fr1 (ap1.q 4 rfl) (ap1.q 3 rfl)
   replace k8:=k8.fr fr1 (ap1.q 1 rfl) dN
   replace k9:=k9.fr fr1 (ap1.q 0 rfl) dN
   refine WL.frz (js:=[2]) (R:=[(b_5,.cells #[.string x3.Kind,v7,.bool x3.Not] 124 (0,0)),(b_4,.cells #[u5,u4] 121 (0,0)),(b_2,.cells #[.slice none 0 0,.slice none 0 0] 62 (0,0)),(b_1,.cells #[.string p0.Name,pv0_0] 38 (0,0))]) rfl (fun Φ_4 fr2 k10=>?_)
   replace k7:=k7.f0 fr2
   replace k4:=k4.f0 fr2
   replace k8:=k8.f0 fr2
   replace k9:=k9.f0 fr2
   replace h8:=h8.f0 fr2
   replace h9:=h9.f0 fr2
   refine kcb [0,7] h rfl rfl rfl rfl (fun b ap z q=>wX N b (⟨s4,s2⟩:bB) x4 k7 ((k4.rslG bi.gives).x (Dj.app (ap.q 6 rfl) (ap.q 5 rfl))) k10 (h8.rsl.x (Dj.app (ap.q 0 rfl) dN)) (h9.rsl.x (Dj.app (ap.q 1 rfl) dN)) (Dj.sub (Dj.app (ap.q 7 rfl) (ap.q 4 rfl)) i2) q) ?_
   rintro x5 h v11 Φ_5 F5 ⟨ap2,fr3,v12,D4,rfl,rfl,h10,i3,e1,h11⟩
   replace k4:=k4.fr fr3 (ap2.q 6 rfl) (ap2.q 5 rfl)
   replace k8:=k8.fr fr3 (ap2.q 3 rfl) dN
   replace k9:=k9.fr fr3 (ap2.q 2 rfl) dN
   refine art 7 [2,0] rfl ?_
   refine ch h rfl ?_ ?_ <;> intro h
   ·refine atr 4 [1,32] rfl ?_
    have rc1:RC (RI .i64) 1 Φ_5 ([[]]:List (List Nat)) [iV x5.1] ([x5.1]:List Int):=RC.cons (c:=[iV x5.1]) (cells:=[]) ⟨rfl,rfl⟩ rfl (RC.nil _ _ _)
    refine le' (cU (vs:=[(0,iV x5.1)]) (C:=#[iV x5.1]) RI.lasts bD pb rfl rfl rfl rfl (aK kv (ai (C':=[iV x5.1]) rfl rfl rfl rfl rfl (au))) rfl rc1 rfl (by simpa using Kw.nil)) rfl ?_
    rintro v13 Φ_6 D5 ⟨fr4,h12⟩
    replace h12:OSl (RI .i64) 3 1 Φ_6 [] v13 ([x5.1]:List Int):=by simpa using h12
    replace k4:=k4.f0 fr4
    replace k8:=k8.f0 fr4
    replace k9:=k9.f0 fr4
    replace h10:=h10.f0 fr4
    replace h11:=fr4 _ _ (by simp) h11
    obtain ⟨x6,hx6,h⟩:=bs h
    refine le' (dE RI.lasts RI.one RI.flat bD tA rfl rfl rfl rfl rfl (js:=[6]) (Rr:=[ob v13,[b_3],ob v12,ob v9,ob v10,ob u5,X2,D2,ob u2,X1]) rfl k8 h12.rsl hx6) rfl ?_
    rintro v14 Φ_7 D6 ⟨⟨ap3,fr5⟩,h13⟩
    replace k4:=k4.fr fr5 (ap3.q 8 rfl) (ap3.q 7 rfl)
    replace k9:=k9.fr fr5 (ap3.q 5 rfl) dN
    replace h10:=h10.fr fr5 (ap3.q 2 rfl) (Dj.sub (Dj.app (Dj.sub (Dj.app (ap3.q 9 rfl) (ap3.q 6 rfl)) i2) (Dj.app (Dj.sub (ap3.q 3 rfl) rd) (Dj.sub (ap3.q 4 rfl) rd))) i3)
    replace h11:=fr5 _ _ ((ap3.q 1 rfl) _ (by simp)) h11
    refine lf ua rfl rfl rfl<|so1 1 qm rfl h13.one ?_
    refine art 7 [] rfl ?_
    refine WT.thw (js:=[2]) (R:=[ob v14,ob v13,ob v12,ob v9,ob v10,ob u5,X2,D2,ob u2,X1]) rfl h11 (fun Φ_8 ap4 fr6=>?_)
    replace k4:=k4.fr fr6 (ap4.q 8 rfl) (ap4.q 7 rfl)
    replace h13:=h13.fr fr6 (ap4.q 0 rfl) dN
    replace k9:=k9.fr fr6 (ap4.q 5 rfl) dN
    replace h10:=h10.fr fr6 (ap4.q 2 rfl) (Dj.sub (Dj.app (Dj.sub (Dj.app (ap4.q 9 rfl) (ap4.q 6 rfl)) i2) (Dj.app (Dj.sub (ap4.q 3 rfl) rd) (Dj.sub (ap4.q 4 rfl) rd))) i3)
    refine wtL [(X2++(ob v9++(ob v10))),ob v14,ob v13,ob v12,ob u5,D2,ob u2,X1] (smg [6,3,3] rfl (SP.eq (by simp [List.append_assoc]))) ?_
    exact lb [4,1,0,2,2,1,1] [2,0,1,1] (ih2 (_,_,_,_,_,_,_,_,_,_) ⟨h,h10,(fun k hk=>((List.mem_append.1 (i3 k hk)).elim (fun h=>((List.mem_append.1 (i2 k h)).elim (fun h=>(List.mem_append.2 (.inl h))) (fun h=>(List.mem_append.2 (.inr ((fun k hk=>(List.mem_append.2 (.inl hk))) k h)))))) (fun h=>((List.mem_append.1 h).elim (fun h=>(List.mem_append.2 (.inr ((fun k hk=>(List.mem_append.2 (.inr (List.mem_append.2 (.inl hk))))) k (rd k h))))) (fun h=>(List.mem_append.2 (.inr ((fun k hk=>(List.mem_append.2 (.inr (List.mem_append.2 (.inr hk))))) k (rd k h))))))))),k4,h13,k9⟩)
   refine atr 4 [0,32] rfl ?_
   have rc2:RC (RI .i64) 1 Φ_5 ([[]]:List (List Nat)) [iV x5.1] ([x5.1]:List Int):=RC.cons (c:=[iV x5.1]) (cells:=[]) ⟨rfl,rfl⟩ rfl (RC.nil _ _ _)
   refine le' (cU (vs:=[(0,iV x5.1)]) (C:=#[iV x5.1]) RI.lasts bD pb rfl rfl rfl rfl (aK kv (ai (C':=[iV x5.1]) rfl rfl rfl rfl rfl (au))) rfl rc2 rfl (by simpa using Kw.nil)) rfl ?_
   rintro v15 Φ_9 D7 ⟨fr7,h14⟩
   replace h14:OSl (RI .i64) 3 1 Φ_9 [] v15 ([x5.1]:List Int):=by simpa using h14
   replace k4:=k4.f0 fr7
   replace k8:=k8.f0 fr7
   replace k9:=k9.f0 fr7
   replace h10:=h10.f0 fr7
   replace h11:=fr7 _ _ (by simp) h11
   obtain ⟨x7,hx7,h⟩:=bs h
   refine le' (dE RI.lasts RI.one RI.flat bD tA rfl rfl rfl rfl rfl (js:=[5]) (Rr:=[ob v15,[b_3],ob v12,ob v9,ob v10,ob u4,X2,D2,ob u2,X1]) rfl k9 h14.rsl hx7) rfl ?_
   rintro v16 Φ_10 D8 ⟨⟨ap5,fr8⟩,h15⟩
   replace k4:=k4.fr fr8 (ap5.q 8 rfl) (ap5.q 7 rfl)
   replace k8:=k8.fr fr8 (ap5.q 5 rfl) dN
   replace h10:=h10.fr fr8 (ap5.q 2 rfl) (Dj.sub (Dj.app (Dj.sub (Dj.app (ap5.q 9 rfl) (ap5.q 6 rfl)) i2) (Dj.app (Dj.sub (ap5.q 3 rfl) rd) (Dj.sub (ap5.q 4 rfl) rd))) i3)
   replace h11:=fr8 _ _ ((ap5.q 1 rfl) _ (by simp)) h11
   refine lf sd rfl rfl rfl<|so1 1 qm rfl h15.one ?_
   refine art 7 [] rfl ?_
   refine WT.thw (js:=[2]) (R:=[ob v16,ob v15,ob v12,ob v9,ob v10,ob u4,X2,D2,ob u2,X1]) rfl h11 (fun Φ_11 ap6 fr9=>?_)
   replace k4:=k4.fr fr9 (ap6.q 8 rfl) (ap6.q 7 rfl)
   replace k8:=k8.fr fr9 (ap6.q 5 rfl) dN
   replace h15:=h15.fr fr9 (ap6.q 0 rfl) dN
   replace h10:=h10.fr fr9 (ap6.q 2 rfl) (Dj.sub (Dj.app (Dj.sub (Dj.app (ap6.q 9 rfl) (ap6.q 6 rfl)) i2) (Dj.app (Dj.sub (ap6.q 3 rfl) rd) (Dj.sub (ap6.q 4 rfl) rd))) i3)
   refine wtL [(X2++(ob v9++(ob v10))),ob v16,ob v15,ob v12,ob u4,D2,ob u2,X1] (smg [6,3,3] rfl (SP.eq (by simp [List.append_assoc]))) ?_
   exact lb [1,3,0,2,2,1,1] [2,0,1,1] (ih2 (_,_,_,_,_,_,_,_,_,_) ⟨h,h10,(fun k hk=>((List.mem_append.1 (i3 k hk)).elim (fun h=>((List.mem_append.1 (i2 k h)).elim (fun h=>(List.mem_append.2 (.inl h))) (fun h=>(List.mem_append.2 (.inr ((fun k hk=>(List.mem_append.2 (.inl hk))) k h)))))) (fun h=>((List.mem_append.1 h).elim (fun h=>(List.mem_append.2 (.inr ((fun k hk=>(List.mem_append.2 (.inr (List.mem_append.2 (.inl hk))))) k (rd k h))))) (fun h=>(List.mem_append.2 (.inr ((fun k hk=>(List.mem_append.2 (.inr (List.mem_append.2 (.inr hk))))) k (rd k h))))))))),k4,k8,h15⟩)
  refine atr 5 [1,32,2] rfl ?_
  have rc3:RC bi 2 Φ_2 ([(ob u5++[])++((ob u4++[]))]:List (List Nat)) [u5,u4] ([(⟨s6,s5⟩:aC)]:List aC):=RC.cons (c:=[u5,u4]) (cells:=[]) ⟨u5,u4,rfl,rfl,k9,k8⟩ rfl (RC.nil _ _ _)
  refine le' (cU (vs:=[(0,.agg [u5,u4].toArray)]) (C:=#[u5,u4]) bi.lasts Ac ub rfl rfl rfl rfl (aK Cz (ai (C':=[u5,u4]) rfl rfl rfl rfl rfl (au))) rfl rc3 rfl (RC.kn bi.knows rc3)) rfl ?_
  rintro v17 Φ_12 D9 ⟨fr10,h16⟩
  replace h16:OSl bi 121 2 Φ_12 ((ob u5++[])++((ob u4++[]))) v17 ([(⟨s6,s5⟩:aC)]:List aC):=by simpa [List.append_assoc] using h16
  replace k7:=k7.f0 fr10
  replace k4:=k4.f0 fr10
  refine wlL [((ob u5++[])++((ob u4++[]))),ob v17,X2,D2,ob u2,ob u3,X1] (smg [1,1] rfl (SP.eq (by simp [List.append_assoc,bW]))) ?_
  obtain ⟨x8,hx8,h⟩:=bs h
  refine le' (j6 bi.lasts bi.one Ac Fq0 rfl rfl rfl rfl rfl (js:=[4]) (Rr:=[((ob u5++[])++((ob u4++[]))),ob v17,X2,D2,ob u3,X1]) rfl k4 h16 (fun ap=>ap.q 3 rfl) (fun ap=>ap.q 0 rfl) hx8) rfl ?_
  rintro v18 Φ_13 D10 ⟨⟨ap7,fr11⟩,h17⟩
  replace k7:=k7.fr fr11 (ap7.q 4 rfl) (Dj.sub (Dj.app (ap7.q 5 rfl) (ap7.q 2 rfl)) i2)
  refine wlL [(D2++((ob u5++[])++((ob u4++[])))),ob v18,ob v17,X2,ob u3,X1] (smg [4,1] rfl (SP.eq (by simp)))<|lf C3 rfl rfl rfl<|so1 1 HM rfl h17.one ?_
  refine art 7 [] rfl<|wtL [(X1++(X2)),(D2++((ob u5++[])++((ob u4++[])))),ob v18,ob v17,ob u3] (smg [5,3] rfl (SP.eq (by simp [List.append_assoc]))) ?_
  exact lb [1,1,2,0] [1,1,1] (ih1 (_,_,_,_,_,_,_,_,_) ⟨h,k7,(fun k hk=>((List.mem_append.1 (i2 k hk)).elim (fun h=>((fun k hk=>(List.mem_append.2 (.inl hk))) k h)) (fun h=>((fun k hk=>(List.mem_append.2 (.inr hk))) k h)))),h17⟩)
 refine atr 4 [2] rfl<|soN 1 Cf rfl ⟨k3.one,k4.one,trivial⟩ rfl ?_
 refine en ?_
 refine WT.ret hF (aG.one (bw I6 rfl (fun w1 hw=>hw.rgO (i:=1) rfl 0 2 [u1,u2] rfl) rfl)) (fun w1 hw=>?_)
 cases h
 replace hw:=hw.merge (js:=[3]) (F:=[X1].flatten) rfl (SP.eq (by simp))
 refine bK (js:=[3,2,1,0]) hw rfl ⟨u1,D1,u2,D2,[X1].flatten,rfl,rfl,k3,(fun k hk=>(List.mem_flatten.2 ⟨X1,by simp,(i1 k hk)⟩)),k4⟩
theorem xL (w0:af Ψ Φ []) (p0:bB) (ph0_0:RSl bY 4 Ψ pG0_0 pv0_0 p0.Alphas) (ph0_1:RSl er 2 Ψ pG0_1 pv0_1 p0.Chains) {r:aJ} (h:oY N p0=some r) :
  Calls prog 50 [.agg [pv0_0,pv0_1].toArray].toArray w0.w (aR Φ w0.w [] (fun Φ' Fs v=>∃ (sr_0_0:Value) (Dr_0_0:List Nat) (sr_0_1:Value) (Dr_0_1:List Nat),v = .agg [sr_0_0,sr_0_1].toArray∧Fs=[ob sr_0_0,Dr_0_0,ob sr_0_1,Dr_0_1]∧OSl bv 69 1 Φ' Dr_0_0 sr_0_0 r.Alphas∧OSl bd 72 1 Φ' Dr_0_1 sr_0_1 r.Rules)):=by
 refine eN func50 rfl ntmps50 rfl w0 fun hF=>?_
 unfold oY at h
 refine sr<|lbx rfl fun b_1=>lnz pj rfl fun b_2=>en<|sr<|lq (cA (vs:=[]) (C:=#[.slice none 0 0,.slice none 0 0]) HY pj rfl (au)) rfl<|lnz pj rfl fun b_3=>soN 0 rG rfl ⟨rfl,rfl,trivial⟩ rfl ?_
 refine art 7 [] rfl<|wtS<|wt0 ?_
 have k1:=OSl.nil bv 69 1 Φ
 refine lin (σ:=Hp × (List aQ) × Value × List Nat × Int) (fun s=>[(1,pQ b_1),(2,pQ b_2),(3,pQ b_3),(4,iV s.2.2.2.2)]) (fun s=>St w0 s.1 [(b_3,.cells #[s.2.2.1,.slice none 0 0] 43 (0,0)),(b_2,.cells #[.slice none 0 0,.slice none 0 0] 43 (0,0)),(b_1,.cells #[pv0_0,pv0_1] 62 (0,0))] [s.2.2.2.1,ob s.2.2.1]) (fun m s=>ic N p0 m s.2.1 s.2.2.2.2=some r∧(OSl bv 69 1 s.1 s.2.2.2.1 s.2.2.1 s.2.1)) (Φ,([]:List aQ),(.slice none 0 0),[],0) N ⟨h,k1⟩ (sx [0,0] [0,0,0]) (fun n1 ih1 s hm=>?_)
 obtain ⟨Φ_1,s1,u1,D1,s2⟩:=s
 obtain ⟨h,k2⟩:=hm
 dsimp only at h k2 ⊢
 unfold ic at h
 refine atr 6 [0,64] rfl<|lnr ph0_0 rfl<|la rfl<|en ?_
 refine ch h rfl ?_ ?_ <;> intro h
 ·refine atr 6 [0,0] rfl<|lq (cA (vs:=[]) (C:=#[.slice none 0 0]) KH uI rfl (au)) rfl ?_
  have rc1:RC bv 1 Φ_1 ([(ob (.slice none 0 0)++[])]:List (List Nat)) [.slice none 0 0] ([(⟨[]⟩:aQ)]:List aQ):=RC.cons (c:=[.slice none 0 0]) (cells:=[]) ⟨.slice none 0 0,rfl,rfl,OSl.nil _ _ _ _⟩ rfl (RC.nil _ _ _)
  refine le' (cU (vs:=[(0,.agg [.slice none 0 0].toArray)]) (C:=#[.slice none 0 0]) bv.lasts pA uI rfl rfl rfl rfl (aK HB (ai (C':=[.slice none 0 0]) rfl rfl rfl rfl rfl (au))) rfl rc1 rfl (RC.kn bv.knows rc1)) rfl ?_
  rintro v1 Φ_2 D2 ⟨fr1,h1⟩
  replace h1:OSl bv 69 1 Φ_2 ((ob (.slice none 0 0)++[])) v1 ([(⟨[]⟩:aQ)]:List aQ):=by simpa [List.append_assoc] using h1
  replace k2:=k2.f0 fr1
  refine wlL [((ob (.slice none 0 0)++[])),ob v1,D1,ob u1] (smg [] rfl (SP.eq (by simp [List.append_assoc,bW]))) ?_
  obtain ⟨x1,hx1,h⟩:=bs h
  refine le' (j6 bv.lasts bv.one pA KC rfl rfl rfl rfl rfl (js:=[3]) (Rr:=[((ob (.slice none 0 0)++[])),ob v1,D1]) rfl k2 h1 (fun ap=>ap.q 2 rfl) (fun ap=>ap.q 0 rfl) hx1) rfl ?_
  rintro v2 Φ_3 D3 ⟨⟨ap1,fr2⟩,h2⟩
  refine wlL [(D1++((ob (.slice none 0 0)++[]))),ob v2,ob v1] (smg [3,1] rfl (SP.eq (by simp)))<|lf o8 rfl rfl rfl<|so1 0 HN rfl h2.one ?_
  refine art 7 [] rfl ?_
  exact lb [0,0] [0,0,0] (ih1 (_,_,_,_,_) ⟨h,h2⟩)
 refine att 7 [] rfl<|wtS<|wt0 ?_
 have k3:=OSl.nil bd 72 1 Φ_1
 refine lin (σ:=Hp × (List aF) × Value × List Nat × Int) (fun s=>[(1,pQ b_1),(2,pQ b_2),(3,pQ b_3),(5,iV s.2.2.2.2)]) (fun s=>St w0 s.1 [(b_3,.cells #[u1,s.2.2.1] 43 (0,0)),(b_2,.cells #[.slice none 0 0,.slice none 0 0] 43 (0,0)),(b_1,.cells #[pv0_0,pv0_1] 62 (0,0))] [s.2.2.2.1,ob s.2.2.1,D1,ob u1]) (fun m s=>dX N p0 s1 m s.2.1 s.2.2.2.2=some r∧(OSl bv 69 1 s.1 D1 u1 s1)∧(OSl bd 72 1 s.1 s.2.2.2.1 s.2.2.1 s.2.1)) (Φ_1,([]:List aF),(.slice none 0 0),[],0) N ⟨h,k2,k3⟩ (sx [0,0,0,0] [0,0,0]) (fun n2 ih2 s hm=>?_)
 obtain ⟨Φ_4,s3,u2,D4,s4⟩:=s
 obtain ⟨h,k2,k4⟩:=hm
 dsimp only at h k2 k4 ⊢
 unfold dX at h
 refine atr 6 [1,64] rfl<|lnr ph0_1 rfl<|la rfl<|en ?_
 refine ch h rfl ?_ ?_ <;> intro h
 ·refine atr 5 [] rfl<|lq (cA (vs:=[]) (C:=#[.slice none 0 0]) I0 ru rfl (au)) rfl ?_
  refine ln (gD (C:=#[.slice none 0 0]) ru rfl) rfl (fun b_4=>?_)
  refine soN 0 Aa rfl ⟨rfl,trivial⟩ rfl ?_
  refine art 7 [] rfl<|wtS<|wt0 ?_
  have k5:=OSl.nil aN 76 1 Φ_4
  refine lin (σ:=Hp × (List ab) × Value × List Nat × Int) (fun s=>[(1,pQ b_1),(2,pQ b_2),(3,pQ b_3),(5,iV s4),(6,pQ b_4),(7,iV s.2.2.2.2)]) (fun s=>St w0 s.1 [(b_4,.cells #[s.2.2.1] 72 (0,0)),(b_3,.cells #[u1,u2] 43 (0,0)),(b_2,.cells #[.slice none 0 0,.slice none 0 0] 43 (0,0)),(b_1,.cells #[pv0_0,pv0_1] 62 (0,0))] [s.2.2.2.1,ob s.2.2.1,D4,ob u2,D1,ob u1]) (fun m s=>ik N p0 s3 s4 (dX N p0 s1 n2) m s.2.1 s.2.2.2.2=some r∧(OSl bv 69 1 s.1 D1 u1 s1)∧(OSl bd 72 1 s.1 D4 u2 s3)∧(OSl aN 76 1 s.1 s.2.2.2.1 s.2.2.1 s.2.1)) (Φ_4,([]:List ab),(.slice none 0 0),[],0) N ⟨h,k2,k4,k5⟩ (sx [0,0,0,0,0,0] [0,0,0,0]) (fun n3 ih3 s hm=>?_)
  obtain ⟨Φ_5,s5,u3,D5,s6⟩:=s
  obtain ⟨h,k2,k4,k6⟩:=hm
  dsimp only at h k2 k4 k6 ⊢
  unfold ik at h
  refine atr 7 [1,96] rfl ?_
  obtain ⟨x2,hx2,h⟩:=bs h
  obtain ⟨cs1,F1,-,g1,hb1,hs1,r1⟩:=ph0_1.el (a7 hx2).2.2
  obtain ⟨v3,G1,v4,G2,rfl,rfl,h3,h4⟩:=r1
  refine lia ph0_1 hx2 rfl<|lf sd rfl rfl rfl<|lhx 0 0 g1 rfl<|lnr h3 rfl<|la rfl<|en ?_
  refine ch h rfl ?_ ?_ <;> intro h
  ·refine atr 6 [0,0] rfl<|lq (cA (vs:=[]) (C:=#[.slice none 0 0]) Kg uC rfl (au)) rfl ?_
   have rc2:RC aN 1 Φ_5 ([(ob (.slice none 0 0)++[])]:List (List Nat)) [.slice none 0 0] ([(⟨[]⟩:ab)]:List ab):=RC.cons (c:=[.slice none 0 0]) (cells:=[]) ⟨.slice none 0 0,[],rfl,rfl,OSl.nil _ _ _ _⟩ rfl (RC.nil _ _ _)
   refine le' (cU (vs:=[(0,.agg [.slice none 0 0].toArray)]) (C:=#[.slice none 0 0]) aN.lasts rn uC rfl rfl rfl rfl (aK H8 (ai (C':=[.slice none 0 0]) rfl rfl rfl rfl rfl (au))) rfl rc2 rfl (RC.kn aN.knows rc2)) rfl ?_
   rintro v5 Φ_6 D6 ⟨fr3,h5⟩
   replace h5:OSl aN 76 1 Φ_6 ((ob (.slice none 0 0)++[])) v5 ([(⟨[]⟩:ab)]:List ab):=by simpa [List.append_assoc] using h5
   replace k2:=k2.f0 fr3
   replace k4:=k4.f0 fr3
   replace k6:=k6.f0 fr3
   refine wlL [((ob (.slice none 0 0)++[])),ob v5,D5,ob u3,D4,ob u2,D1,ob u1] (smg [] rfl (SP.eq (by simp [List.append_assoc,bW]))) ?_
   obtain ⟨x3,hx3,h⟩:=bs h
   refine le' (j6 aN.lasts aN.one rn Kh rfl rfl rfl rfl rfl (js:=[3]) (Rr:=[((ob (.slice none 0 0)++[])),ob v5,D5,D4,ob u2,D1,ob u1]) rfl k6 h5 (fun ap=>ap.q 2 rfl) (fun ap=>ap.q 0 rfl) hx3) rfl ?_
   rintro v6 Φ_7 D7 ⟨⟨ap2,fr4⟩,h6⟩
   replace k2:=k2.fr fr4 (ap2.q 6 rfl) (ap2.q 5 rfl)
   replace k4:=k4.fr fr4 (ap2.q 4 rfl) (ap2.q 3 rfl)
   refine wlL [(D5++((ob (.slice none 0 0)++[]))),ob v6,ob v5,D4,ob u2,D1,ob u1] (smg [3,1] rfl (SP.eq (by simp)))<|lf ja rfl rfl rfl<|so1 0 HS rfl h6.one ?_
   refine art 7 [] rfl ?_
   exact lb [0,0,1,1,1,1] [0,0,0,0] (ih3 (_,_,_,_,_) ⟨h,k2,k4,h6⟩)
  refine atr 4 [1,32] rfl<|lq (aq vw rfl (fun w1 hw=>hw.rgO (i:=0) rfl 0 1 [u3] rfl) rfl) rfl ?_
  have rc3:RC bd 1 Φ_5 ([(ob u3++D5)]:List (List Nat)) [u3] ([(⟨s5⟩:aF)]:List aF):=RC.cons (c:=[u3]) (cells:=[]) ⟨u3,D5,rfl,rfl,k6⟩ rfl (RC.nil _ _ _)
  refine le' (cU (vs:=[(0,.agg [u3].toArray)]) (C:=#[u3]) bd.lasts tf ru rfl rfl rfl rfl (aK E5 (ai (C':=[u3]) rfl rfl rfl rfl rfl (au))) rfl rc3 rfl (RC.kn bd.knows rc3)) rfl ?_
  rintro v7 Φ_8 D8 ⟨fr5,h7⟩
  replace h7:OSl bd 72 1 Φ_8 ((ob u3++D5)) v7 ([(⟨s5⟩:aF)]:List aF):=by simpa [List.append_assoc] using h7
  replace k2:=k2.f0 fr5
  replace k4:=k4.f0 fr5
  refine wlL [((ob u3++D5)),ob v7,D4,ob u2,D1,ob u1] (smg [2,1] rfl (SP.eq (by simp [List.append_assoc,bW]))) ?_
  obtain ⟨x4,hx4,h⟩:=bs h
  refine le' (j6 bd.lasts bd.one tf HO rfl rfl rfl rfl rfl (js:=[3]) (Rr:=[((ob u3++D5)),ob v7,D4,D1,ob u1]) rfl k4 h7 (fun ap=>ap.q 2 rfl) (fun ap=>ap.q 0 rfl) hx4) rfl ?_
  rintro v8 Φ_9 D9 ⟨⟨ap3,fr6⟩,h8⟩
  replace k2:=k2.fr fr6 (ap3.q 4 rfl) (ap3.q 3 rfl)
  refine wlL [(D4++((ob u3++D5))),ob v8,ob v7,D1,ob u1] (smg [3,1] rfl (SP.eq (by simp)))<|lf wx rfl rfl rfl<|so1 1 Fw rfl h8.one ?_
  refine art 7 [] rfl ?_
  exact lb [0,0,1,1] [1,1,1] (ih2 (_,_,_,_,_) ⟨h,k2,h8⟩)
 refine atr 4 [2] rfl<|soN 1 rG rfl ⟨k2.one,k4.one,trivial⟩ rfl ?_
 refine en ?_
 exact rtg [3,2,1,0] hF (aG.one (bw zI rfl (fun w1 hw=>hw.rgO (i:=1) rfl 0 2 [u1,u2] rfl) rfl)) rfl (by cases h; exact fun w1 hw=>⟨u1,D1,u2,D4,rfl,rfl,k2,k4⟩)
theorem yE (w0:af Ψ Φ []) (p0:av) (ph0_0:RSl aD 3 Ψ pG0_0 pv0_0 p0.Fields) {r:av} (h:oq N p0=some r) :
  Calls prog 145 [.agg [.string p0.Kind,pv0_0].toArray].toArray w0.w (aR Φ w0.w [] (fun Φ' Fs v=>∃ (sr_0_0:Value),v = .agg [.string r.Kind,sr_0_0].toArray∧Fs=[ob sr_0_0]∧OSl aD 167 3 Φ' [] sr_0_0 r.Fields)):=by
 refine eN func145 rfl ntmps145 rfl w0 fun hF=>?_
 unfold oq at h
 refine sr<|lbx rfl fun b_1=>lnz jD rfl fun b_2=>en<|sr<|le' (kD aD.lasts dA iw rfl rfl) rfl ?_
 rintro v1 Φ_1 D1 ⟨fr1,h1⟩
 refine arr 2 [1,32] rfl<|lu0 ph0_0 fun h2=>?_
 obtain ⟨x1,hx1,h⟩:=bs h
 refine le' (dE aD.lasts aD.one aD.flat dA Av rfl rfl rfl rfl rfl (js:=[0]) (Rr:=[]) rfl h1 h2 hx1) rfl ?_
 rintro v2 Φ_2 D2 ⟨⟨ap1,fr2⟩,h3⟩
 refine lf A7 rfl rfl rfl<|so1 1 AU rfl h3.one ?_
 refine arr 4 [34] rfl<|soN 0 ky rfl ⟨rfl,h3.one,trivial⟩ rfl ?_
 refine en ?_
 exact rtg [0] hF (aG.one (bw mV rfl (fun w1 hw=>hw.rgO (i:=0) rfl 0 2 [.string p0.Kind,v2] rfl) rfl)) rfl (by cases h; exact fun w1 hw=>⟨v2,rfl,rfl,h3⟩)
theorem pR (w0:af Ψ Φ []) (p0:ae) (p1:Int) (ph0_0:RSl bn 3 Ψ pG0_0 pv0_0 p0.Items) {r:av × Bool} (h:lF N p0 p1=some r) :
  Calls prog 93 [.agg [pv0_0,iV p0.Next].toArray,iV p1].toArray w0.w (aR Φ w0.w [] (fun Φ' Fs v=>∃ (sr_0_0:Value),v = .tuple #[.agg [.string r.1.Kind,sr_0_0].toArray,.bool r.2]∧Fs=[ob sr_0_0]∧OSl aD 167 3 Φ' [] sr_0_0 r.1.Fields)):=by
 refine eN func93 rfl ntmps93 rfl w0 fun hF=>?_
 unfold lF at h
 refine sr<|lbx rfl fun b_1=>lnz jD rfl fun b_2=>art 8 [] rfl ?_
 refine lin (σ:=Int) (fun s=>[(1,iV p1),(2,pQ b_1),(4,pQ b_2),(6,iV s)]) (fun s=>St w0 Φ [(b_2,.cells #[.string (⟨#[]⟩:ByteArray),.slice none 0 0] 115 (0,0)),(b_1,.cells #[pv0_0,iV p0.Next] 47 (0,0))] []) (fun m s=>eK N p0 p1 m s=some r) (0) N h (sx [] [0,0]) (fun n1 ih1 s hm=>?_)
 revert hm; revert s; intro s1 hm
 have h:eK N p0 p1 (n1+1) s1=some r:=hm
 show WT _ _ [(1,iV p1),(2,pQ b_1),(4,pQ b_2),(6,iV s1)] (St w0 Φ [(b_2,.cells #[.string (⟨#[]⟩:ByteArray),.slice none 0 0] 115 (0,0)),(b_1,.cells #[pv0_0,iV p0.Next] 47 (0,0))] [])
 unfold eK at h
 refine atr 6 [0,32] rfl<|lnr ph0_0 rfl<|la rfl<|en ?_
 refine ch h rfl ?_ ?_ <;> intro h
 ·refine atr 8 [0,32] rfl ?_
  obtain ⟨x1,hx1,h⟩:=bs h
  obtain ⟨cs1,F1,-,g1,hb1,hs1,r1⟩:=ph0_0.el (a7 hx1).2.2
  obtain ⟨v1,G1,rfl,hq1,h1⟩:=r1
  obtain rfl:=hq1.symm
  refine lia ph0_0 hx1 rfl<|lf sh rfl rfl rfl<|lhx 0 0 g1 rfl<|art 3 [] rfl ?_
  refine ch h rfl ?_ ?_ <;> intro h
  ·refine atr 5 [0,32] rfl ?_
   obtain ⟨x2,hx2,h⟩:=bs h
   obtain ⟨cs2,F2,-,g2,hb2,hs2,r2⟩:=ph0_0.el (a7 hx2).2.2
   obtain ⟨v2,G2,rfl,hq2,h2⟩:=r2
   obtain rfl:=hq2.symm
   refine lia ph0_0 hx2 rfl<|lf tU rfl rfl rfl<|lhx 1 2 g2 rfl<|kab h rfl rfl rfl (fun b z q=>yE N b x2.F (h2.y z) q) ?_
   rintro x3 h v3 Φ_1 F3 ⟨ap1,fr1,v4,rfl,rfl,h3⟩
   refine soN 0 ky rfl ⟨rfl,h3.one,trivial⟩ rfl ?_
   refine la rfl<|en ?_
   exact rtg [0] hF (aG.two (bw mV rfl (fun w1 hw=>hw.rgO (i:=0) rfl 0 2 [.string x3.Kind,v4] rfl) rfl) rfl) rfl (by cases h; exact fun w1 hw=>⟨v4,rfl,rfl,h3⟩)
  refine att 7 [] rfl ?_
  exact lb [] [0,0] (ih1 _ h)
 refine xt rfl<|sr<|lq (cA (vs:=[]) (C:=#[.string (⟨#[]⟩:ByteArray),.slice none 0 0]) Di jD rfl (au)) rfl<|soN 0 ky rfl ⟨rfl,rfl,trivial⟩ rfl ?_
 refine la rfl<|en ?_
 refine WT.ret hF (aG.two (bw mV rfl (fun w1 hw=>hw.rgO (i:=0) rfl 0 2 [.string (⟨#[]⟩:ByteArray),.slice none 0 0] rfl) rfl) rfl) (fun w1 hw=>?_)
 cases h
 replace hw:=hw.addNil
 refine bK (js:=[0]) hw rfl ⟨.slice none 0 0,rfl,rfl,OSl.nil _ _ _ _⟩
theorem zk (w0:af Ψ Φ []) (p0:aj) (p1:av) (ph0_0:RSl aD 3 Ψ pG0_0 pv0_0 p0.Consts) (ph0_1:RSl (RI .i64) 1 Ψ pG0_1 pv0_1 p0.At) (ph1_0:RSl aD 3 Ψ pG1_0 pv1_0 p1.Fields) {r:Bool} (h:oL N p0 p1=some r) :
  CB w0 prog 94 [.agg [.string p0.Kind,iV p0.N,pv0_0,pv0_1].toArray,.agg [.string p1.Kind,pv1_0].toArray] (.bool r):=by
 refine eN func94 rfl ntmps94 rfl w0 fun hF=>?_
 unfold oL at h
 refine sr<|lbx rfl fun b_1=>lbx rfl fun b_2=>arr 11 [0,32,0,0] rfl ?_
 obtain ⟨b1,hb_1,h⟩:=bs h
 refine WL.cutN 7 [(19,.bool b1),(2,pQ b_1),(3,pQ b_2)] ?_ (fun K=>?_)
 rotate_left
 ·refine sp 12 hb_1 rfl (fun hb_1=>?_) fun hb_1=>?_
  ·refine arr 7 [] rfl ?_
   cases hb_1
   exact ku K
  ·refine arr 4 [1,32,1,0] rfl<|ly rfl rfl<|lnr ph1_0 rfl<|arr 2 [] rfl ?_
   cases hb_1
   exact ku K
 refine en ?_
 refine ch h rfl ?_ ?_ <;> intro h
 ·refine att 4 [] rfl ?_
  exact rt hF h
 refine att 7 [] rfl ?_
 refine lin (σ:=Int) (fun s=>[(2,pQ b_1),(3,pQ b_2),(5,iV s)]) (fun s=>St w0 Φ [(b_2,.cells #[.string p1.Kind,pv1_0] 115 (0,0)),(b_1,.cells #[.string p0.Kind,iV p0.N,pv0_0,pv0_1] 128 (0,0))] []) (fun m s=>fQ N p0 p1 m s=some r) (0) N h (sx [] [0,0]) (fun n1 ih1 s hm=>?_)
 revert hm; revert s; intro s1 hm
 have h:fQ N p0 p1 (n1+1) s1=some r:=hm
 show WT _ _ [(2,pQ b_1),(3,pQ b_2),(5,iV s1)] (St w0 Φ [(b_2,.cells #[.string p1.Kind,pv1_0] 115 (0,0)),(b_1,.cells #[.string p0.Kind,iV p0.N,pv0_0,pv0_1] 128 (0,0))] [])
 unfold fQ at h
 refine atr 6 [3,32] rfl<|lnr ph0_1 rfl<|la rfl<|en ?_
 refine ch h rfl ?_ ?_ <;> intro h
 ·refine atr 8 [3,32] rfl ?_
  obtain ⟨x1,hx1,h⟩:=bs h
  obtain ⟨cs1,F1,-,g1,hb1,hs1,r1⟩:=ph0_1.el (a7 hx1).2.2
  obtain ⟨rfl,-⟩:=r1
  refine lia ph0_1 hx1 rfl<|lhx 0 0 g1 rfl<|art 3 [] rfl<|WT.draw mixed (by kernel_rfl) (fun _ h=>h.drew)<|aqq 3 [2,32] rfl<|qq (sU dA rfl rfl ph0_0) rfl<|aqq 2 [] rfl ?_
  obtain ⟨b2,hb_2,h⟩:=bs h
  refine WQ.cutN 8 [(45,.bool b2),(2,pQ b_1),(3,pQ b_2),(5,iV s1),(6,iV x1)] ?_ (fun K=>?_)
  rotate_left
  ·refine WQ.split (d:=37) rfl (fun c4=>?_) (fun c4=>?_)
   ·replace hb_2:=fk hb_2 c4
    refine aqq 8 [] rfl ?_
    cases hb_2
    exact kq K
   ·replace hb_2:=fg hb_2 c4
    refine aqq 3 [1,0] rfl<|WQ.yes rfl rfl<|qq (sU dA rfl rfl ph1_0) rfl<|WQ.yes rfl rfl<|qq (FJ rfl rfl) rfl<|WQ.yes rfl rfl ?_
    obtain ⟨x2,hx2,hb_2⟩:=bs hb_2
    refine qp (bH Fz rfl (fun w1 hw=>bU N (ba hw.fro) x1 0 (wz ((p1.Fields.length:Int) - 1)) hx2)) rfl<|aqq 2 [] rfl ?_
    cases hb_2
    exact kq K
  refine qq (fo rfl) rfl ?_
  obtain ⟨b3,hb_3,h⟩:=bs h
  refine WQ.cutN 12 [(58,.bool b3),(2,pQ b_1),(3,pQ b_2),(5,iV s1)] ?_ (fun K=>?_)
  rotate_left
  ·refine WQ.split (d:=46) rfl (fun c5=>?_) (fun c5=>?_)
   ·replace hb_3:=fk hb_3 c5
    refine aqq 12 [] rfl ?_
    cases hb_3
    exact kq K
   ·replace hb_3:=fg hb_3 c5
    refine aqq 3 [1,0] rfl<|WQ.yes rfl rfl ?_
    obtain ⟨x3,hx3,hb_3⟩:=bs hb_3
    obtain ⟨cs2,F2,-,g2,hb2,hs2,r2⟩:=ph1_0.el (a7 hx3).2.2
    obtain ⟨rfl,-⟩:=r2
    refine qq (a8 dA rfl rfl ph1_0 hx3) rfl<|WQ.yes rfl rfl<|qq (aq gF rfl (fun w1 hw=>(g2.of_eq 0 3 rfl rfl:rg _ _ _ [iV x3.K,iV x3.N,.string x3.S]).rangeAt hw.in0) rfl) rfl<|aqq 3 [2,32] rfl<|WQ.yes rfl rfl ?_
    obtain ⟨x4,hx4,hb_3⟩:=bs hb_3
    obtain ⟨cs3,F3,-,g3,hb3,hs3,r3⟩:=ph0_0.el (a7 hx4).2.2
    obtain ⟨rfl,-⟩:=r3
    refine qq (a8 dA rfl rfl ph0_0 hx4) rfl<|WQ.yes rfl rfl<|qq (aq gF rfl (fun w1 hw=>(g3.of_eq 0 3 rfl rfl:rg _ _ _ [iV x4.K,iV x4.N,.string x4.S]).rangeAt hw.in0) rfl) rfl<|WQ.yes rfl rfl<|qq (uG kr rfl rfl rfl (r:=bb x3 x4) rfl) rfl<|WQ.q (pw rfl rfl) rfl rfl rfl ?_
    cases hb_3
    exact kq K
  refine WQ.nil ?_
  refine ch h rfl ?_ ?_ <;> intro h
  ·refine att 4 [] rfl ?_
   exact rt hF h
  refine att 7 [] rfl ?_
  exact lb [] [0,0] (ih1 _ h)
 refine att 5 [] rfl ?_
 exact rt hF h
theorem zn (w0:af Ψ Φ []) (p0:(List aB)) (p1:ByteArray) (ph0:RSl aV 4 Ψ pG0 pv0 p0) {r:aP × Bool} (h:oC N p0 p1=some r) :
  CB w0 prog 235 [pv0,.string p1] (.tuple #[.agg [iV r.1.K,iV r.1.N,.string r.1.S].toArray,.bool r.2]):=by
 refine eN func235 rfl ntmps235 rfl w0 fun hF=>?_
 unfold oC at h
 refine sr<|lnz iw rfl fun b_1=>art 8 [] rfl ?_
 refine lin (σ:=Int) (fun s=>[(0,pv0),(1,.string p1),(4,pQ b_1),(6,iV s)]) (fun s=>St w0 Φ [(b_1,.cells #[iV 0,iV 0,.string (⟨#[]⟩:ByteArray)] 167 (0,0))] []) (fun m s=>fJ N p0 p1 m s=some r) (0) N h (sx [] [0]) (fun n1 ih1 s hm=>?_)
 revert hm; revert s; intro s1 hm
 have h:fJ N p0 p1 (n1+1) s1=some r:=hm
 show WT _ _ [(0,pv0),(1,.string p1),(4,pQ b_1),(6,iV s1)] (St w0 Φ [(b_1,.cells #[iV 0,iV 0,.string (⟨#[]⟩:ByteArray)] 167 (0,0))] [])
 unfold fJ at h
 refine atr 5 [] rfl<|lnr ph0 rfl<|la rfl<|en ?_
 refine ch h rfl ?_ ?_ <;> intro h
 ·refine atr 7 [] rfl ?_
  obtain ⟨x1,hx1,h⟩:=bs h
  obtain ⟨cs1,F1,-,g1,hb1,hs1,r1⟩:=ph0.el (a7 hx1).2.2
  obtain ⟨rfl,-⟩:=r1
  refine lia ph0 hx1 rfl<|lf ER rfl rfl rfl<|lhx 0 0 g1 rfl<|art 3 [] rfl ?_
  refine ch h rfl ?_ ?_ <;> intro h
  ·refine atr 4 [] rfl ?_
   obtain ⟨x2,hx2,h⟩:=bs h
   obtain ⟨cs2,F2,-,g2,hb2,hs2,r2⟩:=ph0.el (a7 hx2).2.2
   obtain ⟨rfl,-⟩:=r2
   refine lia ph0 hx2 rfl<|lf EK rfl rfl rfl<|lhx 1 3 g2 rfl<|soN 0 oZ rfl ⟨rfl,rfl,rfl,trivial⟩ rfl ?_
   refine la rfl<|en ?_
   refine WT.ret hF (aG.two (bw gF rfl (fun w1 hw=>hw.rgO (i:=0) rfl 0 3 [iV x2.V.K,iV x2.V.N,.string x2.V.S] rfl) rfl) rfl) (fun w1 hw=>?_)
   cases h
   exact gE hw
  refine att 7 [] rfl ?_
  exact lb [] [0] (ih1 _ h)
 refine xt rfl<|sr<|lq (cA (vs:=[]) (C:=#[iV 0,iV 0,.string (⟨#[]⟩:ByteArray)]) wD iw rfl (au)) rfl<|soN 0 oZ rfl ⟨rfl,rfl,rfl,trivial⟩ rfl ?_
 refine la rfl<|en ?_
 refine WT.ret hF (aG.two (bw gF rfl (fun w1 hw=>hw.rgO (i:=0) rfl 0 3 [iV 0,iV 0,.string (⟨#[]⟩:ByteArray)] rfl) rfl) rfl) (fun w1 hw=>?_)
 cases h
 exact gE hw
end Go.Proofs.YtiljnppocjgkkaaGreat
