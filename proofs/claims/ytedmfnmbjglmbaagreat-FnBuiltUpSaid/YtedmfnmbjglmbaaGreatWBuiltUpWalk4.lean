/- Printed by a program of ours: each Go function computes its Lean function. -/
import Derived.Test.YtedmfnmbjglmbaaGreatProg
import Derived.Test.YtedmfnmbjglmbaaGreatWBuiltUpWalk3
namespace Go.Proofs.YtedmfnmbjglmbaaGreat
open Eng Tryz
open Go.RowKit (Below)
set_option linter.unusedVariables false
set_option linter.unusedSimpArgs false

set_option maxRecDepth 100000
set_option maxHeartbeats 1000000
variable {Ψ Φ:Hp} {pv0_0 pv0_1 pv0_2 pv0 pv1 pv1_0 pv1_1 pv2_0 pv2_1 pv3_0:Value} {pG0_0 pG0_1 pG0_2 pG0 pG1 pG1_0 pG1_1 pG2_0 pG3_0:List Nat} {pbc0:Nat} (N:Nat)
theorem tp  (w0:av Ψ Φ []) (p0:aN)  {r:Bool} (h:kC N p0=some r) :
  CB w0 prog 128 [.agg [iV p0.K,iV p0.N,.string p0.S].toArray] (.bool r):=by
 refine eN func128 rfl ntmps128 rfl w0 fun hF=>?_
 unfold kC at h
 refine sr<|lbx rfl fun b_1=>art 14 [0,0] rfl ?_
 refine ch h rfl ?_ ?_ <;> intro h
 ·refine atr 4 [1,0] rfl<|qc h (d7 N · p0.N (-1000000000) 1000000000 ·) rfl rfl rfl fun x1 h=>la rfl ?_
  obtain ⟨b1,hb_1,h⟩:=bs h
  refine WL.cutN 4 [(14,.bool b1),(2,.bool false)] ?_ (fun K=>?_)
  rotate_left
  ·refine sp 10 hb_1 rfl (fun hb_1=>?_) fun hb_1=>?_
   ·refine arr 4 [2,0] rfl ?_
    cases hb_1
    exact ku K
   ·refine arr 4 [] rfl ?_
    cases hb_1
    exact ku K
  refine la rfl<|en ?_
  exact rt hF h
 refine att 5 [] rfl ?_
 refine ch h rfl ?_ ?_ <;> intro h
 ·refine atr 6 [1,0] rfl ?_
  obtain ⟨b2,hb_2,h⟩:=bs h
  refine WL.cutN 4 [(24,.bool b2),(2,.bool false)] ?_ (fun K=>?_)
  rotate_left
  ·refine sp 20 hb_2 rfl (fun hb_2=>?_) fun hb_2=>?_
   ·refine arr 2 [2,0] rfl<|ly rfl rfl<|qc hb_2 (sB N · p0.S 20 ·) rfl rfl rfl fun x2 hb_2=>la rfl ?_
    cases hb_2
    exact ku K
   ·refine arr 4 [] rfl ?_
    cases hb_2
    exact ku K
  refine la rfl<|en ?_
  exact rt hF h
 refine att 6 [] rfl ?_
 exact rt hF h
theorem qS  (w0:av Ψ Φ []) (p0:Int)  {r:Bool} (h:kv N p0=some r) :
  CB w0 prog 267 [.int .u8 p0] (.bool r):=by
 refine eN func267 rfl ntmps267 rfl w0 fun hF=>?_
 unfold kv at h
 refine atr 9 [] rfl ?_
 obtain ⟨b1,hb_1,h⟩:=bs h
 refine WL.cutN 3 [(8,.bool b1),(2,.bool false)] ?_ (fun K=>?_)
 rotate_left
 ·refine sp 5 hb_1 rfl (fun hb_1=>?_) fun hb_1=>?_
  ·refine arr 3 [] rfl ?_
   cases hb_1
   exact ku K
  ·refine arr 3 [] rfl ?_
   cases hb_1
   exact ku K
 refine la rfl<|en ?_
 exact rt hF h
theorem yU  (w0:av Ψ Φ []) (p0:ByteArray)  {r:Bool} (h:pf N p0=some r) :
  CB w0 prog 256 [.string p0] (.bool r):=by
 refine eN func256 rfl ntmps256 rfl w0 fun hF=>?_
 unfold pf at h
 refine atr 8 [] rfl<|lq (mL jG rfl rfl) rfl<|arr 2 [] rfl ?_
 obtain ⟨b1,hb_1,h⟩:=bs h
 refine WL.cutN 4 [(11,.bool b1),(0,.string p0)] ?_ (fun K=>?_)
 rotate_left
 ·refine sp 7 hb_1 rfl (fun hb_1=>?_) fun hb_1=>?_
  ·refine arr 4 [] rfl ?_
   cases hb_1
   exact ku K
  ·refine ly rfl rfl<|la rfl<|ly rfl rfl<|lq (mL jG rfl rfl) rfl<|arr 2 [] rfl ?_
   cases hb_1
   exact ku K
 refine la rfl ?_
 obtain ⟨b2,hb_2,h⟩:=bs h
 refine WL.cutN 5 [(17,.bool b2),(0,.string p0)] ?_ (fun K=>?_)
 rotate_left
 ·refine sp 12 hb_2 rfl (fun hb_2=>?_) fun hb_2=>?_
  ·refine arr 5 [] rfl ?_
   cases hb_2
   exact ku K
  ·refine ly rfl rfl<|la rfl<|ly rfl rfl ?_
   obtain ⟨y1,hy1,hb_2⟩:=bs hb_2
   refine lq (jK jG rfl rfl hy1) rfl<|ly rfl rfl<|qc hb_2 (qS N · (y1.toNat:Int) ·) rfl rfl rfl fun x1 hb_2=>arr 2 [] rfl ?_
   cases hb_2
   exact ku K
 refine en ?_
 refine ch h rfl ?_ ?_ <;> intro h
 ·refine att 4 [] rfl ?_
  exact rt hF h
 refine att 7 [] rfl ?_
 refine lin (σ:=Int) (fun s=>[(0,.string p0),(3,iV s)]) (fun s=>St w0 Φ [] []) (fun m s=>gy N p0 m s=some r) (0) N h (sx [] []) (fun n1 ih1 s hm=>?_)
 revert hm; revert s; intro s1 hm
 have h:gy N p0 (n1+1) s1=some r:=hm
 show WT _ _ [(0,.string p0),(3,iV s1)] (St w0 Φ [] [])
 unfold gy at h
 refine atr 5 [] rfl<|lq (mL jG rfl rfl) rfl<|la rfl<|en ?_
 refine ch h rfl ?_ ?_ <;> intro h
 ·refine atr 7 [] rfl ?_
  obtain ⟨y2,hy2,h⟩:=bs h
  refine lq (jK jG rfl rfl hy2) rfl<|qc h (oI N · (y2.toNat:Int) ·) rfl rfl rfl fun x2 h=>arr 2 [] rfl ?_
  obtain ⟨b3,hb_3,h⟩:=bs h
  refine WL.cutN 6 [(35,.bool b3),(0,.string p0),(3,iV s1)] ?_ (fun K=>?_)
  rotate_left
  ·refine sp 29 hb_3 rfl (fun hb_3=>?_) fun hb_3=>?_
   ·refine arr 2 [] rfl<|ly rfl rfl ?_
    obtain ⟨y3,hy3,hb_3⟩:=bs hb_3
    refine lq (jK jG rfl rfl hy3) rfl<|ly rfl rfl<|qc hb_3 (qS N · (y3.toNat:Int) ·) rfl rfl rfl fun x3 hb_3=>arr 2 [] rfl ?_
    cases hb_3
    exact ku K
   ·refine arr 6 [] rfl ?_
    cases hb_3
    exact ku K
  refine en ?_
  refine ch h rfl ?_ ?_ <;> intro h
  ·refine att 4 [] rfl ?_
   exact rt hF h
  refine att 7 [] rfl ?_
  exact lb [] [] (ih1 _ h)
 refine att 5 [] rfl ?_
 exact rt hF h
theorem tS  (w0:av Ψ Φ []) (p0:bh)  {r:Bool} (h:nA N p0=some r) :
  CB w0 prog 237 [.agg [iV p0.K,.string p0.S,iV p0.V.K,iV p0.V.N,.string p0.V.S].toArray] (.bool r):=by
 refine eN func237 rfl ntmps237 rfl w0 fun hF=>?_
 unfold nA at h
 refine sr<|lbx rfl fun b_1=>art 14 [0,0] rfl ?_
 refine ch h rfl ?_ ?_ <;> intro h
 ·refine atr 4 [1,0] rfl<|qc h (yU N · p0.S ·) rfl rfl rfl fun x1 h=>la rfl ?_
  obtain ⟨b1,hb_1,h⟩:=bs h
  refine WL.cutN 5 [(15,.bool b1),(2,.bool false)] ?_ (fun K=>?_)
  rotate_left
  ·refine sp 10 hb_1 rfl (fun hb_1=>?_) fun hb_1=>?_
   ·refine arr 2 [2,3] rfl<|ly rfl rfl<|lq (bz (vs:=[]) (C:=#[iV 0,iV 0,.string (⟨#[]⟩:ByteArray)]) qY gF rfl (ac)) rfl<|ly rfl rfl<|lq (yq oU rfl rfl rfl (r:=bT p0.V (⟨0,0,(⟨#[]⟩:ByteArray)⟩:aN)) rfl) rfl<|la rfl ?_
    cases hb_1
    exact ku K
   ·refine arr 5 [] rfl ?_
    cases hb_1
    exact ku K
  refine la rfl<|en ?_
  exact rt hF h
 refine att 5 [] rfl ?_
 refine ch h rfl ?_ ?_ <;> intro h
 ·refine atr 6 [1,0] rfl ?_
  obtain ⟨b2,hb_2,h⟩:=bs h
  refine WL.cutN 4 [(25,.bool b2),(2,.bool false)] ?_ (fun K=>?_)
  rotate_left
  ·refine sp 21 hb_2 rfl (fun hb_2=>?_) fun hb_2=>?_
   ·refine arr 2 [2,3] rfl<|ly rfl rfl<|qc hb_2 (tp N · p0.V ·) rfl rfl rfl fun x2 hb_2=>la rfl ?_
    cases hb_2
    exact ku K
   ·refine arr 4 [] rfl ?_
    cases hb_2
    exact ku K
  refine la rfl<|en ?_
  exact rt hF h
 refine att 5 [] rfl ?_
 refine ch h rfl ?_ ?_ <;> intro h
 ·refine atr 6 [1,0] rfl ?_
  obtain ⟨b3,hb_3,h⟩:=bs h
  refine WL.cutN 5 [(36,.bool b3),(2,.bool false)] ?_ (fun K=>?_)
  rotate_left
  ·refine sp 31 hb_3 rfl (fun hb_3=>?_) fun hb_3=>?_
   ·refine arr 2 [2,3] rfl<|ly rfl rfl<|lq (bz (vs:=[]) (C:=#[iV 0,iV 0,.string (⟨#[]⟩:ByteArray)]) qY gF rfl (ac)) rfl<|ly rfl rfl<|lq (yq oU rfl rfl rfl (r:=bT p0.V (⟨0,0,(⟨#[]⟩:ByteArray)⟩:aN)) rfl) rfl<|la rfl ?_
    cases hb_3
    exact ku K
   ·refine arr 5 [] rfl ?_
    cases hb_3
    exact ku K
  refine la rfl<|en ?_
  exact rt hF h
 refine att 6 [] rfl ?_
 exact rt hF h
theorem yS (w0:av Ψ Φ []) (p0:au) (ph0_0:RSl ck 5 Ψ pG0_0 pv0_0 p0.Args) {r:Bool} (h:pM N p0=some r) :
  CB w0 prog 211 [.agg [.string p0.Kind,pv0_0,.bool p0.Not].toArray] (.bool r):=by
 refine eN func211 rfl ntmps211 rfl w0 fun hF=>?_
 unfold pM at h
 refine sr<|lbx rfl fun b_1=>arr 7 [0,0] rfl<|qc h (iI N · p0.Kind ·) rfl rfl rfl fun x1 h=>arr 2 [] rfl ?_
 obtain ⟨b1,hb_1,h⟩:=bs h
 refine WL.cutN 5 [(14,.bool b1),(1,pQ b_1)] ?_ (fun K=>?_)
 rotate_left
 ·refine sp 9 hb_1 rfl (fun hb_1=>?_) fun hb_1=>?_
  ·refine arr 5 [] rfl ?_
   cases hb_1
   exact ku K
  ·refine arr 2 [1,0] rfl<|ly rfl rfl<|lnr ph0_0 rfl<|arr 2 [] rfl ?_
   cases hb_1
   exact ku K
 refine en ?_
 refine ch h rfl ?_ ?_ <;> intro h
 ·refine att 4 [] rfl ?_
  exact rt hF h
 refine atr 6 [1,0] rfl<|lnr ph0_0 rfl<|art 3 [] rfl ?_
 refine lin (σ:=Int) (fun s=>[(16,pv0_0),(17,iV (p0.Args.length:Int)),(18,iV s)]) (fun s=>St w0 Φ [] []) (fun m s=>gJ N p0 m s=some r) (0) N h (sx [] []) (fun n1 ih1 s hm=>?_)
 revert hm; revert s; intro s1 hm
 have h:gJ N p0 (n1+1) s1=some r:=hm
 show WT _ _ [(16,pv0_0),(17,iV (p0.Args.length:Int)),(18,iV s1)] (St w0 Φ [] [])
 unfold gJ at h
 refine att 5 [] rfl ?_
 refine ch h rfl ?_ ?_ <;> intro h
 ·refine atr 5 [] rfl ?_
  obtain ⟨x2,hx2,h⟩:=bs h
  obtain ⟨cs1,F1,-,g1,hb1,hs1,r1⟩:=ph0_0.el (ab hx2).2.2
  obtain ⟨rfl,-⟩:=r1
  refine lia ph0_0 hx2 rfl<|lhx 0 5 g1 rfl<|lnz gl rfl fun b_2=>soN 0 gV rfl ⟨rfl,rfl,rfl,rfl,rfl,trivial⟩ rfl ?_
  refine arr 4 [5] rfl<|qc h (tS N · x2 ·) rfl rfl rfl fun x3 h=>la rfl<|en ?_
  refine ch h rfl ?_ ?_ <;> intro h
  ·refine att 4 [] rfl ?_
   exact rt hF h
  refine att 6 [] rfl ?_
  exact lb [] [] (ih1 _ h)
 refine att 5 [] rfl ?_
 exact rt hF h
theorem xP (w0:av Ψ Φ []) (p0:af) (ph0_0:RSl bS 3 Ψ pG0_0 pv0_0 p0.Pats) (ph0_1:RSl bq 11 Ψ pG0_1 pv0_1 p0.Conds) (ph0_2:RSl ep 5 Ψ pG0_2 pv0_2 p0.Acts) {r:Bool} (h:nP N p0=some r) :
  CB w0 prog 162 [.agg [.string p0.Name,iV p0.Sal,pv0_0,pv0_1,pv0_2].toArray] (.bool r):=by
 refine eN func162 rfl ntmps162 rfl w0 fun hF=>?_
 unfold nP at h
 refine sr<|lbx rfl fun b_1=>arr 7 [2,0] rfl<|lnr ph0_0 rfl<|qc h (d7 N · (p0.Pats.length:Int) 1 6 ·) rfl rfl rfl fun x1 h=>arr 2 [] rfl ?_
 obtain ⟨b1,hb_1,h⟩:=bs h
 refine WL.cutN 5 [(15,.bool b1),(1,pQ b_1)] ?_ (fun K=>?_)
 rotate_left
 ·refine sp 10 hb_1 rfl (fun hb_1=>?_) fun hb_1=>?_
  ·refine arr 5 [] rfl ?_
   cases hb_1
   exact ku K
  ·refine ly rfl rfl<|ld5 wW 0 rfl<|ly rfl rfl<|qd hb_1 (mO N · p0 ph0_0 ph0_1 ph0_2 ·) rfl rfl rfl fun x2 hb_1=>ly rfl rfl<|qc hb_1 (d7 N · x2 1 3 ·) rfl rfl rfl fun x3 hb_1=>arr 2 [] rfl ?_
   cases hb_1
   exact ku K
 refine en ?_
 refine ch h rfl ?_ ?_ <;> intro h
 ·refine att 4 [] rfl ?_
  exact rt hF h
 refine atr 6 [2,0] rfl<|lnr ph0_0 rfl<|art 3 [] rfl ?_
 refine lin (σ:=Int) (fun s=>[(1,pQ b_1),(17,pv0_0),(18,iV (p0.Pats.length:Int)),(19,iV s)]) (fun s=>St w0 Φ [(b_1,.cells #[.string p0.Name,iV p0.Sal,pv0_0,pv0_1,pv0_2] 87 (0,0))] []) (fun m s=>eC N p0 m s=some r) (0) N h (sx [] [0]) (fun n1 ih1 s hm=>?_)
 revert hm; revert s; intro s1 hm
 have h:eC N p0 (n1+1) s1=some r:=hm
 show WT _ _ [(1,pQ b_1),(17,pv0_0),(18,iV (p0.Pats.length:Int)),(19,iV s1)] (St w0 Φ [(b_1,.cells #[.string p0.Name,iV p0.Sal,pv0_0,pv0_1,pv0_2] 87 (0,0))] [])
 unfold eC at h
 refine att 5 [] rfl ?_
 refine ch h rfl ?_ ?_ <;> intro h
 ·refine atr 6 [] rfl ?_
  obtain ⟨x4,hx4,h⟩:=bs h
  obtain ⟨cs1,F1,-,g1,hb1,hs1,r1⟩:=ph0_0.el (ab hx4).2.2
  obtain ⟨v1,G1,rfl,hq1,h1⟩:=r1
  obtain rfl:=hq1.symm
  refine lia ph0_0 hx4 rfl<|lhx 0 3 g1 rfl<|lnz iU rfl fun b_2=>la rfl<|soN 0 mP rfl ⟨rfl,h1.one,rfl,trivial⟩ rfl ?_
  refine en<|sq<|WT.draw mixed (by kernel_rfl) (fun _ h=>h.drew)<|qq (aG w7 rfl (fun w1 hw=>hw.rgO (i:=0) rfl 0 3 [.string x4.Kind,v1,.bool x4.Not] rfl) rfl) rfl ?_
  obtain ⟨x5,hx5,h⟩:=bs h
  refine qp (fx Hx rfl (fun w1 hw=>yS N (ba hw.in0) x4 h1 hx5)) rfl<|aqq 2 [] rfl ?_
  obtain ⟨b2,hb_2,h⟩:=bs h
  refine WQ.cutN 8 [(35,.bool b2),(1,pQ b_1),(17,pv0_0),(18,iV (p0.Pats.length:Int)),(19,iV s1)] ?_ (fun K=>?_)
  rotate_left
  ·refine WQ.split (d:=27) rfl (fun c4=>?_) (fun c4=>?_)
   ·replace hb_2:=ir hb_2 c4
    refine aqq 8 [] rfl ?_
    cases hb_2
    exact kq K
   ·replace hb_2:=ik hb_2 c4
    refine aqq 4 [2,0,37] rfl<|WQ.yes rfl rfl ?_
    obtain ⟨x6,hx6,hb_2⟩:=bs hb_2
    refine qp (fx CR rfl (fun w1 hw=>mO N (ba hw.in0) p0 ph0_0 ph0_1 ph0_2 hx6)) rfl<|WQ.yes rfl rfl<|qq (I1 rfl rfl) rfl<|WQ.yes rfl rfl<|qq (K5 Ks rfl rfl) rfl<|WQ.q (rK rfl rfl) rfl rfl rfl ?_
    cases hb_2
    exact kq K
  refine WQ.nil ?_
  refine ch h rfl ?_ ?_ <;> intro h
  ·refine att 4 [] rfl ?_
   exact rt hF h
  refine att 6 [] rfl ?_
  exact lb [] [1] (ih1 _ h)
 refine att 5 [] rfl ?_
 exact rt hF h
theorem jN  (w0:av Ψ Φ []) (p0:bh)  {r:Bool} (h:iC N p0=some r) :
  CB w0 prog 212 [.agg [iV p0.K,.string p0.S,iV p0.V.K,iV p0.V.N,.string p0.V.S].toArray] (.bool r):=by
 refine eN func212 rfl ntmps212 rfl w0 fun hF=>?_
 unfold iC at h
 refine sr<|lbx rfl fun b_1=>arr 8 [0,0] rfl ?_
 obtain ⟨b1,hb_1,h⟩:=bs h
 refine WL.cutN 3 [(9,.bool b1),(2,.bool false)] ?_ (fun K=>?_)
 rotate_left
 ·refine sp 6 hb_1 rfl (fun hb_1=>?_) fun hb_1=>?_
  ·refine ly rfl rfl<|ld5 lT 0 rfl<|ly rfl rfl<|qc hb_1 (tS N · p0 ·) rfl rfl rfl fun x1 hb_1=>la rfl ?_
   cases hb_1
   exact ku K
  ·refine arr 3 [] rfl ?_
   cases hb_1
   exact ku K
 refine la rfl<|en ?_
 exact rt hF h
theorem xr  (w0:av Ψ Φ []) (p0:cm)  {r:Bool} (h:nJ N p0=some r) :
  CB w0 prog 163 [.agg [iV p0.Op,iV p0.L.K,.string p0.L.S,iV p0.L.V.K,iV p0.L.V.N,.string p0.L.V.S,iV p0.R.K,.string p0.R.S,iV p0.R.V.K,iV p0.R.V.N,.string p0.R.V.S].toArray] (.bool r):=by
 refine eN func163 rfl ntmps163 rfl w0 fun hF=>?_
 unfold nJ at h
 refine sr<|lbx rfl fun b_1=>arr 6 [0,0] rfl<|qc h (d7 N · p0.Op 1 3 ·) rfl rfl rfl fun x1 h=>la rfl ?_
 obtain ⟨b1,hb_1,h⟩:=bs h
 refine WL.cutN 4 [(10,.bool b1),(1,pQ b_1),(2,.bool false)] ?_ (fun K=>?_)
 rotate_left
 ·refine sp 6 hb_1 rfl (fun hb_1=>?_) fun hb_1=>?_
  ·refine arr 2 [1,5] rfl<|ly rfl rfl<|qc hb_1 (jN N · p0.L ·) rfl rfl rfl fun x2 hb_1=>la rfl ?_
   cases hb_1
   exact ku K
  ·refine arr 4 [] rfl ?_
   cases hb_1
   exact ku K
 refine la rfl ?_
 obtain ⟨b2,hb_2,h⟩:=bs h
 refine WL.cutN 4 [(15,.bool b2),(2,.bool false)] ?_ (fun K=>?_)
 rotate_left
 ·refine sp 11 hb_2 rfl (fun hb_2=>?_) fun hb_2=>?_
  ·refine arr 2 [6,5] rfl<|ly rfl rfl<|qc hb_2 (jN N · p0.R ·) rfl rfl rfl fun x3 hb_2=>la rfl ?_
   cases hb_2
   exact ku K
  ·refine arr 4 [] rfl ?_
   cases hb_2
   exact ku K
 refine la rfl<|en ?_
 exact rt hF h
theorem xM  (w0:av Ψ Φ []) (p0:cn)  {r:Bool} (h:nV N p0=some r) :
  CB w0 prog 238 [.agg [.string p0.Op,iV p0.L.K,.string p0.L.S,iV p0.L.V.K,iV p0.L.V.N,.string p0.L.V.S,iV p0.R.K,.string p0.R.S,iV p0.R.V.K,iV p0.R.V.N,.string p0.R.V.S].toArray] (.bool r):=by
 refine eN func238 rfl ntmps238 rfl w0 fun hF=>?_
 unfold nV at h
 refine sr<|lbx rfl fun b_1=>art 14 [0,0] rfl ?_
 refine ch h rfl ?_ ?_ <;> intro h
 ·refine atr 4 [1,5] rfl<|qc h (jN N · p0.L ·) rfl rfl rfl fun x1 h=>la rfl ?_
  obtain ⟨b1,hb_1,h⟩:=bs h
  refine WL.cutN 5 [(15,.bool b1),(2,.bool false)] ?_ (fun K=>?_)
  rotate_left
  ·refine sp 10 hb_1 rfl (fun hb_1=>?_) fun hb_1=>?_
   ·refine arr 2 [6,5] rfl<|ly rfl rfl<|lq (bz (vs:=[]) (C:=#[iV 0,.string (⟨#[]⟩:ByteArray),iV 0,iV 0,.string (⟨#[]⟩:ByteArray)]) qM gl rfl (ac)) rfl<|ly rfl rfl<|lq (yq CU rfl rfl rfl (r:=o5 p0.R (⟨0,(⟨#[]⟩:ByteArray),(⟨0,0,(⟨#[]⟩:ByteArray)⟩:aN)⟩:bh)) rfl) rfl<|la rfl ?_
    cases hb_1
    exact ku K
   ·refine arr 5 [] rfl ?_
    cases hb_1
    exact ku K
  refine la rfl<|en ?_
  exact rt hF h
 refine att 6 [] rfl ?_
 refine cut (σ:=Bool) (fun s=>[(1,pQ b_1),(16,.bool s)]) (fun s=>St w0 Φ [(b_1,.cells #[.string p0.Op,iV p0.L.K,.string p0.L.S,iV p0.L.V.K,iV p0.L.V.N,.string p0.L.V.S,iV p0.R.K,.string p0.R.S,iV p0.R.V.K,iV p0.R.V.N,.string p0.R.V.S] 216 (0,0))] []) (fun s=>iO N p0 s=some r) (fun s hm=>?_) (fun K=>?_)
 ·clear h
  revert hm; revert s; intro s1 hm
  have h:iO N p0 s1=some r:=hm
  show WT _ _ [(1,pQ b_1),(16,.bool s1)] (St w0 Φ [(b_1,.cells #[.string p0.Op,iV p0.L.K,.string p0.L.S,iV p0.L.V.K,iV p0.L.V.N,.string p0.L.V.S,iV p0.R.K,.string p0.R.S,iV p0.R.V.K,iV p0.R.V.N,.string p0.R.V.S] 216 (0,0))] [])
  unfold iO at h
  refine ch h rfl ?_ ?_ <;> intro h
  ·refine atr 4 [1,5] rfl<|qc h (jN N · p0.L ·) rfl rfl rfl fun x2 h=>la rfl ?_
   obtain ⟨b2,hb_2,h⟩:=bs h
   refine WL.cutN 4 [(26,.bool b2)] ?_ (fun K=>?_)
   rotate_left
   ·refine sp 22 hb_2 rfl (fun hb_2=>?_) fun hb_2=>?_
    ·refine arr 2 [6,5] rfl<|ly rfl rfl<|qc hb_2 (jN N · p0.R ·) rfl rfl rfl fun x3 hb_2=>la rfl ?_
     cases hb_2
     exact ku K
    ·refine arr 4 [] rfl ?_
     cases hb_2
     exact ku K
   refine la rfl<|en ?_
   exact rt hF h
  refine att 6 [] rfl ?_
  exact rt hF h
 refine ch h rfl ?_ ?_ <;> intro h
 ·refine WT.skip ?_
  exact wo [] [0] (K _ h)
 refine att 4 [] rfl ?_
 exact wo [] [0] (K _ h)
theorem oK (w0:av Ψ Φ []) (p0:cI) (ph0_0:RSl ce 11 Ψ pG0_0 pv0_0 p0.Args) {r:Bool} (h:kj N p0=some r) :
  CB w0 prog 213 [.agg [iV p0.Kind,.string p0.Name,pv0_0,iV p0.N,.string p0.Undo].toArray] (.bool r):=by
 refine eN func213 rfl ntmps213 rfl w0 fun hF=>?_
 unfold kj at h
 refine sr<|lbx rfl fun b_1=>arr 7 [1,0] rfl<|qc h (iI N · p0.Name ·) rfl rfl rfl fun x1 h=>arr 2 [] rfl ?_
 obtain ⟨b1,hb_1,h⟩:=bs h
 refine WL.cutN 5 [(14,.bool b1),(1,pQ b_1)] ?_ (fun K=>?_)
 rotate_left
 ·refine sp 9 hb_1 rfl (fun hb_1=>?_) fun hb_1=>?_
  ·refine arr 5 [] rfl ?_
   cases hb_1
   exact ku K
  ·refine arr 2 [2,0] rfl<|ly rfl rfl<|lnr ph0_0 rfl<|arr 2 [] rfl ?_
   cases hb_1
   exact ku K
 refine en ?_
 refine ch h rfl ?_ ?_ <;> intro h
 ·refine att 4 [] rfl ?_
  exact rt hF h
 refine atr 6 [2,0] rfl<|lnr ph0_0 rfl<|art 3 [] rfl ?_
 refine lin (σ:=Int) (fun s=>[(16,pv0_0),(17,iV (p0.Args.length:Int)),(18,iV s)]) (fun s=>St w0 Φ [] []) (fun m s=>eB N p0 m s=some r) (0) N h (sx [] []) (fun n1 ih1 s hm=>?_)
 revert hm; revert s; intro s1 hm
 have h:eB N p0 (n1+1) s1=some r:=hm
 show WT _ _ [(16,pv0_0),(17,iV (p0.Args.length:Int)),(18,iV s1)] (St w0 Φ [] [])
 unfold eB at h
 refine att 5 [] rfl ?_
 refine ch h rfl ?_ ?_ <;> intro h
 ·refine atr 5 [] rfl ?_
  obtain ⟨x2,hx2,h⟩:=bs h
  obtain ⟨cs1,F1,-,g1,hb1,hs1,r1⟩:=ph0_0.el (ab hx2).2.2
  obtain ⟨rfl,-⟩:=r1
  refine lia ph0_0 hx2 rfl<|lhx 0 11 g1 rfl<|lnz qU rfl fun b_2=>soN 0 zz rfl ⟨rfl,rfl,rfl,rfl,rfl,rfl,rfl,rfl,rfl,rfl,rfl,trivial⟩ rfl ?_
  refine arr 4 [11] rfl<|qc h (xM N · x2 ·) rfl rfl rfl fun x3 h=>la rfl<|en ?_
  refine ch h rfl ?_ ?_ <;> intro h
  ·refine att 4 [] rfl ?_
   exact rt hF h
  refine att 6 [] rfl ?_
  exact lb [] [] (ih1 _ h)
 refine att 5 [] rfl ?_
 exact rt hF h
theorem xE  (w0:av Ψ Φ []) (p0:ByteArray)  {r:Bool} (h:qn N p0=some r) :
  CB w0 prog 214 [.string p0] (.bool r):=by
 refine eN func214 rfl ntmps214 rfl w0 fun hF=>?_
 unfold qn at h
 refine atr 9 [] rfl ?_
 obtain ⟨b1,hb_1,h⟩:=bs h
 refine WL.cutN 3 [(8,.bool b1),(2,.bool false)] ?_ (fun K=>?_)
 rotate_left
 ·refine sp 5 hb_1 rfl (fun hb_1=>?_) fun hb_1=>?_
  ·refine arr 3 [] rfl ?_
   cases hb_1
   exact ku K
  ·refine ly rfl rfl<|la rfl<|ly rfl rfl<|qc hb_1 (iI N · p0 ·) rfl rfl rfl fun x1 hb_1=>la rfl ?_
   cases hb_1
   exact ku K
 refine la rfl<|en ?_
 exact rt hF h
theorem yR (w0:av Ψ Φ []) (p0:cI) (ph0_0:RSl ce 11 Ψ pG0_0 pv0_0 p0.Args) {r:Bool} (h:pb N p0=some r) :
  CB w0 prog 164 [.agg [iV p0.Kind,.string p0.Name,pv0_0,iV p0.N,.string p0.Undo].toArray] (.bool r):=by
 refine eN func164 rfl ntmps164 rfl w0 fun hF=>?_
 unfold pb at h
 refine sr<|lbx rfl fun b_1=>arr 8 [1,0] rfl ?_
 obtain ⟨b1,hb_1,h⟩:=bs h
 refine WL.cutN 5 [(12,.bool b1),(1,pQ b_1)] ?_ (fun K=>?_)
 rotate_left
 ·refine sp 7 hb_1 rfl (fun hb_1=>?_) fun hb_1=>?_
  ·refine arr 2 [2,0] rfl<|ly rfl rfl<|lnr ph0_0 rfl<|arr 2 [] rfl ?_
   cases hb_1
   exact ku K
  ·refine arr 5 [] rfl ?_
   cases hb_1
   exact ku K
 refine art 14 [0,0] rfl ?_
 refine ch h rfl ?_ ?_ <;> intro h
 ·refine atr 3 [5] rfl<|qd h (oK N · p0 ph0_0 ·) rfl rfl rfl fun x1 h=>la rfl ?_
  obtain ⟨b2,hb_2,h⟩:=bs h
  refine WL.cutN 4 [(23,.bool b2),(1,pQ b_1)] ?_ (fun K=>?_)
  rotate_left
  ·refine sp 19 hb_2 rfl (fun hb_2=>?_) fun hb_2=>?_
   ·refine arr 4 [3,0] rfl ?_
    cases hb_2
    exact ku K
   ·refine arr 4 [] rfl ?_
    cases hb_2
    exact ku K
  refine la rfl ?_
  obtain ⟨b3,hb_3,h⟩:=bs h
  refine WL.cutN 4 [(28,.bool b3)] ?_ (fun K=>?_)
  rotate_left
  ·refine sp 24 hb_3 rfl (fun hb_3=>?_) fun hb_3=>?_
   ·refine arr 4 [4,0] rfl ?_
    cases hb_3
    exact ku K
   ·refine arr 4 [] rfl ?_
    cases hb_3
    exact ku K
  refine la rfl<|en ?_
  exact rt hF h
 refine att 5 [] rfl ?_
 refine ch h rfl ?_ ?_ <;> intro h
 ·refine atr 4 [] rfl ?_
  obtain ⟨b4,hb_4,h⟩:=bs h
  refine WL.cutN 4 [(36,.bool b4),(1,pQ b_1)] ?_ (fun K=>?_)
  rotate_left
  ·refine sp 32 hb_4 rfl (fun hb_4=>?_) fun hb_4=>?_
   ·refine arr 2 [3,0] rfl<|ly rfl rfl<|qc hb_4 (d7 N · p0.N 0 7 ·) rfl rfl rfl fun x2 hb_4=>la rfl ?_
    cases hb_4
    exact ku K
   ·refine arr 4 [] rfl ?_
    cases hb_4
    exact ku K
  refine la rfl ?_
  obtain ⟨b5,hb_5,h⟩:=bs h
  refine WL.cutN 4 [(41,.bool b5)] ?_ (fun K=>?_)
  rotate_left
  ·refine sp 37 hb_5 rfl (fun hb_5=>?_) fun hb_5=>?_
   ·refine arr 4 [4,0] rfl ?_
    cases hb_5
    exact ku K
   ·refine arr 4 [] rfl ?_
    cases hb_5
    exact ku K
  refine la rfl<|en ?_
  exact rt hF h
 refine att 5 [] rfl ?_
 refine ch h rfl ?_ ?_ <;> intro h
 ·refine atr 3 [5] rfl<|qd h (oK N · p0 ph0_0 ·) rfl rfl rfl fun x3 h=>la rfl ?_
  obtain ⟨b6,hb_6,h⟩:=bs h
  refine WL.cutN 4 [(50,.bool b6),(1,pQ b_1)] ?_ (fun K=>?_)
  rotate_left
  ·refine sp 46 hb_6 rfl (fun hb_6=>?_) fun hb_6=>?_
   ·refine arr 4 [3,0] rfl ?_
    cases hb_6
    exact ku K
   ·refine arr 4 [] rfl ?_
    cases hb_6
    exact ku K
  refine la rfl ?_
  obtain ⟨b7,hb_7,h⟩:=bs h
  refine WL.cutN 4 [(55,.bool b7)] ?_ (fun K=>?_)
  rotate_left
  ·refine sp 51 hb_7 rfl (fun hb_7=>?_) fun hb_7=>?_
   ·refine arr 2 [4,0] rfl<|ly rfl rfl<|qc hb_7 (xE N · p0.Undo ·) rfl rfl rfl fun x4 hb_7=>la rfl ?_
    cases hb_7
    exact ku K
   ·refine arr 4 [] rfl ?_
    cases hb_7
    exact ku K
  refine la rfl<|en ?_
  exact rt hF h
 refine att 5 [] rfl ?_
 refine ch h rfl ?_ ?_ <;> intro h
 ·refine atr 3 [5] rfl<|qd h (oK N · p0 ph0_0 ·) rfl rfl rfl fun x5 h=>la rfl ?_
  obtain ⟨b8,hb_8,h⟩:=bs h
  refine WL.cutN 4 [(64,.bool b8),(1,pQ b_1)] ?_ (fun K=>?_)
  rotate_left
  ·refine sp 60 hb_8 rfl (fun hb_8=>?_) fun hb_8=>?_
   ·refine arr 2 [3,0] rfl<|ly rfl rfl<|qc hb_8 (d7 N · p0.N 0 100000 ·) rfl rfl rfl fun x6 hb_8=>la rfl ?_
    cases hb_8
    exact ku K
   ·refine arr 4 [] rfl ?_
    cases hb_8
    exact ku K
  refine la rfl ?_
  obtain ⟨b9,hb_9,h⟩:=bs h
  refine WL.cutN 4 [(69,.bool b9)] ?_ (fun K=>?_)
  rotate_left
  ·refine sp 65 hb_9 rfl (fun hb_9=>?_) fun hb_9=>?_
   ·refine arr 4 [4,0] rfl ?_
    cases hb_9
    exact ku K
   ·refine arr 4 [] rfl ?_
    cases hb_9
    exact ku K
  refine la rfl<|en ?_
  exact rt hF h
 refine att 6 [] rfl ?_
 refine cut (σ:=Bool) (fun s=>[(1,pQ b_1),(3,.bool b1),(70,.bool s)]) (fun s=>St w0 Φ [(b_1,.cells #[iV p0.Kind,.string p0.Name,pv0_0,iV p0.N,.string p0.Undo] 213 (0,0))] []) (fun s=>jy N p0 b1 s=some r) (fun s hm=>?_) (fun K=>?_)
 ·clear h
  revert hm; revert s; intro s1 hm
  have h:jy N p0 b1 s1=some r:=hm
  show WT _ _ [(1,pQ b_1),(3,.bool b1),(70,.bool s1)] (St w0 Φ [(b_1,.cells #[iV p0.Kind,.string p0.Name,pv0_0,iV p0.N,.string p0.Undo] 213 (0,0))] [])
  unfold jy at h
  refine ch h rfl ?_ ?_ <;> intro h
  ·refine atr 4 [] rfl ?_
   obtain ⟨b10,hb_10,h⟩:=bs h
   refine WL.cutN 4 [(78,.bool b10),(1,pQ b_1)] ?_ (fun K=>?_)
   rotate_left
   ·refine sp 74 hb_10 rfl (fun hb_10=>?_) fun hb_10=>?_
    ·refine arr 4 [3,0] rfl ?_
     cases hb_10
     exact ku K
    ·refine arr 4 [] rfl ?_
     cases hb_10
     exact ku K
   refine la rfl ?_
   obtain ⟨b11,hb_11,h⟩:=bs h
   refine WL.cutN 4 [(83,.bool b11)] ?_ (fun K=>?_)
   rotate_left
   ·refine sp 79 hb_11 rfl (fun hb_11=>?_) fun hb_11=>?_
    ·refine arr 4 [4,0] rfl ?_
     cases hb_11
     exact ku K
    ·refine arr 4 [] rfl ?_
     cases hb_11
     exact ku K
   refine la rfl<|en ?_
   exact rt hF h
  refine att 6 [] rfl ?_
  exact rt hF h
 refine ch h rfl ?_ ?_ <;> intro h
 ·refine WT.skip ?_
  exact wo [] [0] (K _ h)
 refine att 4 [] rfl ?_
 exact wo [] [0] (K _ h)
theorem mM (w0:av Ψ Φ []) (p0:(List ByteArray)) (p1:ByteArray) (ph0:RSl RS 1 Ψ pG0 pv0 p0) {r:Int} (h:dl N p0 p1=some r) :
  CB w0 prog 216 [pv0,.string p1] (iV r):=by
 refine eN func216 rfl ntmps216 rfl w0 fun hF=>?_
 unfold dl at h
 refine atr 8 [] rfl<|lnr ph0 rfl<|art 3 [] rfl ?_
 refine lin (σ:=Int) (fun s=>[(0,pv0),(1,.string p1),(7,iV (p0.length:Int)),(8,iV s)]) (fun s=>St w0 Φ [] []) (fun m s=>bp N p0 p1 m s=some r) (0) N h (sx [] []) (fun n1 ih1 s hm=>?_)
 revert hm; revert s; intro s1 hm
 have h:bp N p0 p1 (n1+1) s1=some r:=hm
 show WT _ _ [(0,pv0),(1,.string p1),(7,iV (p0.length:Int)),(8,iV s1)] (St w0 Φ [] [])
 unfold bp at h
 refine att 5 [] rfl ?_
 refine ch h rfl ?_ ?_ <;> intro h
 ·refine atr 13 [] rfl ?_
  obtain ⟨x1,hx1,h⟩:=bs h
  obtain ⟨cs1,F1,-,g1,hb1,hs1,r1⟩:=ph0.el (ab hx1).2.2
  obtain ⟨rfl,-⟩:=r1
  refine lia ph0 hx1 rfl<|lhx 0 0 g1 rfl<|la rfl<|en ?_
  refine ch h rfl ?_ ?_ <;> intro h
  ·refine att 5 [] rfl ?_
   exact rt hF h
  refine att 6 [] rfl ?_
  exact lb [] [] (ih1 _ h)
 refine att 5 [] rfl ?_
 exact rt hF h
theorem gY (w0:av Ψ Φ []) (p0:(List ByteArray)) (p1:ByteArray) (ph0:RSl RS 1 Ψ pG0 pv0 p0) {r:Bool} (h:cg N p0 p1=some r) :
  CB w0 prog 168 [pv0,.string p1] (.bool r):=by
 refine eN func168 rfl ntmps168 rfl w0 fun hF=>?_
 unfold cg at h
 refine atr 8 [] rfl<|qd h (mM N · p0 p1 ph0 ·) rfl rfl rfl fun x1 h=>art 3 [] rfl ?_
 exact rt hF h
theorem vR (w0:av Ψ Φ [ob pv0].flatten) (p0:(List ByteArray)) (p1:ByteArray) (ph0:OSl RS 9 1 Φ [] pv0 p0) {r:(List ByteArray)} (h:mE N p0 p1=some r) :
  Calls prog 239 [pv0,.string p1].toArray w0.w (be Φ w0.w [ob pv0].flatten (fun Φ' Fs v=>∃ (sr_0_0:Value),v=sr_0_0∧Fs=[ob sr_0_0]∧OSl RS 9 1 Φ' [] sr_0_0 r)):=by
 refine eL func239 rfl ntmps239 rfl (L:=[ob pv0]) w0 (fun hF=>?_)
 unfold mE at h
 refine atr 9 [] rfl<|qc h (gY N · p0 p1 ph0.rsl ·) rfl rfl rfl fun x1 h=>en ?_
 refine ch h rfl ?_ ?_ <;> intro h
 ·refine att 5 [] rfl ?_
  exact rtg [0] hF (ay.one rfl) rfl (by cases h; exact fun w1 hw=>⟨pv0,rfl,rfl,ph0⟩)
 refine atr 5 [] rfl ?_
 have rc1:RC RS 1 Φ ([[]]:List (List Nat)) [.string p1] ([p1]:List ByteArray):=RC.cons (c:=[.string p1]) (cells:=[]) ⟨rfl,rfl⟩ rfl (RC.nil _ _ _)
 refine le' (aV (vs:=[(0,.string p1)]) (C:=#[.string p1]) RS.lasts dF lQ rfl rfl rfl rfl (ag Bw (a8 (C':=[.string p1]) rfl rfl rfl rfl rfl (ac))) rfl rc1 rfl (by simpa using Kw.nil)) rfl ?_
 rintro v1 Φ_1 D1 ⟨fr1,h1⟩
 replace h1:OSl RS 9 1 Φ_1 [] v1 ([p1]:List ByteArray):=by simpa using h1
 replace ph0:=ph0.f0 fr1
 obtain ⟨x2,hx2,h⟩:=bs h
 refine le' (ee RS.lasts RS.one RS.flat dF Je rfl rfl rfl rfl rfl (js:=[1]) (Rr:=[ob v1]) rfl ph0 h1.rsl hx2) rfl ?_
 rintro v2 Φ_2 D2 ⟨⟨ap1,fr2⟩,h2⟩
 refine la rfl<|en ?_
 exact rtg [0] hF (ay.one rfl) rfl (by cases h; exact fun w1 hw=>⟨v2,rfl,rfl,h2⟩)
theorem o3 (w0:av Ψ Φ [ob pv0].flatten) (p0:(List ByteArray)) (p1:(List bh)) (ph0:OSl RS 9 1 Φ [] pv0 p0) (ph1:RSl ck 5 Ψ pG1 pv1 p1) {r:(List ByteArray)} (h:jm N p0 p1=some r) :
  Calls prog 215 [pv0,pv1].toArray w0.w (be Φ w0.w [ob pv0].flatten (fun Φ' Fs v=>∃ (sr_0_0:Value),v=sr_0_0∧Fs=[ob sr_0_0]∧OSl RS 9 1 Φ' [] sr_0_0 r)):=by
 refine eL func215 rfl ntmps215 rfl (L:=[ob pv0]) w0 (fun hF=>?_)
 unfold jm at h
 refine atr 8 [] rfl<|lnr ph1 rfl<|art 3 [] rfl ?_
 refine lin (σ:=Hp × (List ByteArray) × Value × Int) (fun s=>[(0,s.2.2.1),(7,pv1),(8,iV (p1.length:Int)),(9,iV s.2.2.2)]) (fun s=>St w0 s.1 [] [ob s.2.2.1]) (fun m s=>fb N p1 m s.2.1 s.2.2.2=some r∧(OSl RS 9 1 s.1 [] s.2.2.1 s.2.1)) (Φ,p0,pv0,0) N ⟨h,ph0⟩ (sx [0] []) (fun n1 ih1 s hm=>?_)
 obtain ⟨Φ_1,s1,u1,s2⟩:=s
 obtain ⟨h,k1⟩:=hm
 dsimp only at h k1 ⊢
 unfold fb at h
 refine att 5 [] rfl ?_
 refine ch h rfl ?_ ?_ <;> intro h
 ·refine atr 5 [] rfl ?_
  obtain ⟨x1,hx1,h⟩:=bs h
  obtain ⟨cs1,F1,-,g1,hb1,hs1,r1⟩:=ph1.el (ab hx1).2.2
  obtain ⟨rfl,-⟩:=r1
  refine lia ph1 hx1 rfl<|lhx 0 5 g1 rfl<|lnz gl rfl fun b_1=>soN 0 gV rfl ⟨rfl,rfl,rfl,rfl,rfl,trivial⟩ rfl ?_
  refine art 7 [0,0] rfl ?_
  refine ch h rfl ?_ ?_ <;> intro h
  ·refine atr 4 [1,0] rfl<|kcb [0] h rfl rfl rfl rfl (fun b ap z q=>vR N b s1 x1.S k1 q) ?_
   rintro x2 h v1 Φ_2 F2 ⟨ap1,fr1,v2,rfl,rfl,h1⟩
   refine art 7 [] rfl ?_
   exact lb [0] [] (ih1 (_,_,_,_) ⟨h,h1⟩)
  refine att 6 [] rfl ?_
  exact lb [0] [] (ih1 (_,_,_,_) ⟨h,k1⟩)
 refine att 6 [] rfl ?_
 exact rtg [0] hF (ay.one rfl) rfl (by cases h; exact fun w1 hw=>⟨u1,rfl,rfl,k1⟩)
theorem wt (w0:av Ψ Φ []) (p0:af) (ph0_0:RSl bS 3 Ψ pG0_0 pv0_0 p0.Pats) (ph0_1:RSl bq 11 Ψ pG0_1 pv0_1 p0.Conds) (ph0_2:RSl ep 5 Ψ pG0_2 pv0_2 p0.Acts) {r:(List ByteArray)} (h:kr N p0=some r) :
  Calls prog 166 [.agg [.string p0.Name,iV p0.Sal,pv0_0,pv0_1,pv0_2].toArray].toArray w0.w (be Φ w0.w [] (fun Φ' Fs v=>∃ (sr_0_0:Value),v=sr_0_0∧Fs=[ob sr_0_0]∧OSl RS 9 1 Φ' [] sr_0_0 r)):=by
 refine eN func166 rfl ntmps166 rfl w0 fun hF=>?_
 unfold kr at h
 refine sr<|lbx rfl fun b_1=>arr 11 [2,0] rfl<|lnr ph0_0 rfl<|art 3 [] rfl<|wtS ?_
 have k1:=OSl.nil RS 9 1 Φ
 refine lin (σ:=Hp × (List ByteArray) × Value × Int) (fun s=>[(3,s.2.2.1),(7,pv0_0),(8,iV (p0.Pats.length:Int)),(9,iV s.2.2.2)]) (fun s=>St w0 s.1 [] [ob s.2.2.1]) (fun m s=>f8 N p0 m s.2.1 s.2.2.2=some r∧(OSl RS 9 1 s.1 [] s.2.2.1 s.2.1)) (Φ,([]:List ByteArray),(.slice none 0 0),0) N ⟨h,k1⟩ (sx [0] []) (fun n1 ih1 s hm=>?_)
 obtain ⟨Φ_1,s1,u1,s2⟩:=s
 obtain ⟨h,k2⟩:=hm
 dsimp only at h k2 ⊢
 unfold f8 at h
 refine att 5 [] rfl ?_
 refine ch h rfl ?_ ?_ <;> intro h
 ·refine atr 5 [] rfl ?_
  obtain ⟨x1,hx1,h⟩:=bs h
  obtain ⟨cs1,F1,-,g1,hb1,hs1,r1⟩:=ph0_0.el (ab hx1).2.2
  obtain ⟨v1,G1,rfl,hq1,h1⟩:=r1
  obtain rfl:=hq1.symm
  refine lia ph0_0 hx1 rfl<|lhx 0 3 g1 rfl<|lnz iU rfl fun b_2=>soN 0 mP rfl ⟨rfl,h1.one,rfl,trivial⟩ rfl ?_
  refine art 7 [2,0] rfl ?_
  refine ch h rfl ?_ ?_ <;> intro h
  ·refine atr 4 [1,0] rfl<|kcb [0] h rfl rfl rfl rfl (fun b ap z q=>o3 N b s1 x1.Args k2 (h1.y z) q) ?_
   rintro x2 h v2 Φ_2 F2 ⟨ap1,fr1,v3,rfl,rfl,h2⟩
   refine art 7 [] rfl ?_
   exact lb [0] [] (ih1 (_,_,_,_) ⟨h,h2⟩)
  refine att 6 [] rfl ?_
  exact lb [0] [] (ih1 (_,_,_,_) ⟨h,k2⟩)
 refine att 6 [] rfl ?_
 exact rtg [0] hF (ay.one rfl) rfl (by cases h; exact fun w1 hw=>⟨u1,rfl,rfl,k2⟩)
theorem vo (w0:av Ψ Φ []) (p0:af) (ph0_0:RSl bS 3 Ψ pG0_0 pv0_0 p0.Pats) (ph0_1:RSl bq 11 Ψ pG0_1 pv0_1 p0.Conds) (ph0_2:RSl ep 5 Ψ pG0_2 pv0_2 p0.Acts) {r:(List ByteArray)} (h:kH N p0=some r) :
  Calls prog 167 [.agg [.string p0.Name,iV p0.Sal,pv0_0,pv0_1,pv0_2].toArray].toArray w0.w (be Φ w0.w [] (fun Φ' Fs v=>∃ (sr_0_0:Value),v=sr_0_0∧Fs=[ob sr_0_0]∧OSl RS 9 1 Φ' [] sr_0_0 r)):=by
 refine eN func167 rfl ntmps167 rfl w0 fun hF=>?_
 unfold kH at h
 refine sr<|lbx rfl fun b_1=>arr 11 [3,0] rfl<|lnr ph0_1 rfl<|art 3 [] rfl<|wtS ?_
 have k1:=OSl.nil RS 9 1 Φ
 refine lin (σ:=Hp × (List ByteArray) × Value × Int) (fun s=>[(1,pQ b_1),(3,s.2.2.1),(11,pv0_1),(12,iV (p0.Conds.length:Int)),(13,iV s.2.2.2)]) (fun s=>St w0 s.1 [(b_1,.cells #[.string p0.Name,iV p0.Sal,pv0_0,pv0_1,pv0_2] 87 (0,0))] [ob s.2.2.1]) (fun m s=>ff N p0 m s.2.1 s.2.2.2=some r∧(OSl RS 9 1 s.1 [] s.2.2.1 s.2.1)) (Φ,([]:List ByteArray),(.slice none 0 0),0) N ⟨h,k1⟩ (sx [0] [0]) (fun n1 ih1 s hm=>?_)
 obtain ⟨Φ_1,s1,u1,s2⟩:=s
 obtain ⟨h,k2⟩:=hm
 dsimp only at h k2 ⊢
 unfold ff at h
 refine att 5 [] rfl ?_
 refine ch h rfl ?_ ?_ <;> intro h
 ·refine atr 5 [] rfl ?_
  obtain ⟨x1,hx1,h⟩:=bs h
  obtain ⟨cs1,F1,-,g1,hb1,hs1,r1⟩:=ph0_1.el (ab hx1).2.2
  obtain ⟨rfl,-⟩:=r1
  refine lia ph0_1 hx1 rfl<|lhx 0 11 g1 rfl<|lnz nI rfl fun b_2=>soN 0 sQ rfl ⟨rfl,rfl,rfl,rfl,rfl,rfl,rfl,rfl,rfl,rfl,rfl,trivial⟩ rfl ?_
  refine arr 7 [1,5,6,5] rfl ?_
  have rc1:RC ck 5 Φ_1 ([[],[]]:List (List Nat)) [iV x1.L.K,.string x1.L.S,iV x1.L.V.K,iV x1.L.V.N,.string x1.L.V.S,iV x1.R.K,.string x1.R.S,iV x1.R.V.K,iV x1.R.V.N,.string x1.R.V.S] ([x1.L,x1.R]:List bh):=RC.cons (c:=[iV x1.L.K,.string x1.L.S,iV x1.L.V.K,iV x1.L.V.N,.string x1.L.V.S]) (cells:=[iV x1.R.K,.string x1.R.S,iV x1.R.V.K,iV x1.R.V.N,.string x1.R.V.S]) ⟨rfl,rfl⟩ rfl (RC.cons (c:=[iV x1.R.K,.string x1.R.S,iV x1.R.V.K,iV x1.R.V.N,.string x1.R.V.S]) (cells:=[]) ⟨rfl,rfl⟩ rfl (RC.nil _ _ _))
  refine le' (aV (vs:=[(0,.agg [iV x1.L.K,.string x1.L.S,iV x1.L.V.K,iV x1.L.V.N,.string x1.L.V.S].toArray),(1,.agg [iV x1.R.K,.string x1.R.S,iV x1.R.V.K,iV x1.R.V.N,.string x1.R.V.S].toArray)]) (C:=#[iV x1.L.K,.string x1.L.S,iV x1.L.V.K,iV x1.L.V.N,.string x1.L.V.S,iV x1.R.K,.string x1.R.S,iV x1.R.V.K,iV x1.R.V.N,.string x1.R.V.S]) ck.lasts nK gl rfl rfl rfl rfl (ag Ai (a8 (C':=[iV x1.L.K,.string x1.L.S,iV x1.L.V.K,iV x1.L.V.N,.string x1.L.V.S,iV 0,.string ⟨#[]⟩,iV 0,iV 0,.string ⟨#[]⟩]) rfl rfl rfl rfl rfl (a8 (C':=[iV x1.L.K,.string x1.L.S,iV x1.L.V.K,iV x1.L.V.N,.string x1.L.V.S,iV x1.R.K,.string x1.R.S,iV x1.R.V.K,iV x1.R.V.N,.string x1.R.V.S]) rfl rfl rfl rfl rfl (ac)))) rfl rc1 rfl (by simpa using Kw.nil)) rfl ?_
  rintro v1 Φ_2 D1 ⟨fr1,h1⟩
  replace h1:OSl ck 171 5 Φ_2 [] v1 ([x1.L,x1.R]:List bh):=by simpa using h1
  replace k2:=k2.f0 fr1
  refine kcb [1] h rfl rfl rfl rfl (fun b ap z q=>o3 N b s1 ([x1.L,x1.R]:List bh) k2 (h1.rsl.x (Dj.app (ap.q 0 rfl) dN)) q) ?_
  rintro x2 h v2 Φ_3 F2 ⟨ap1,fr2,v3,rfl,rfl,h2⟩
  refine art 7 [] rfl ?_
  exact lb [0] [1] (ih1 (_,_,_,_) ⟨h,h2⟩)
 refine atr 6 [4,0] rfl<|lnr ph0_2 rfl<|art 3 [] rfl ?_
 refine lin (σ:=Hp × (List ByteArray) × Value × Int) (fun s=>[(3,s.2.2.1),(26,pv0_2),(27,iV (p0.Acts.length:Int)),(28,iV s.2.2.2)]) (fun s=>St w0 s.1 [] [ob s.2.2.1]) (fun m s=>d8 N p0 m s.2.1 s.2.2.2=some r∧(OSl RS 9 1 s.1 [] s.2.2.1 s.2.1)) (Φ_1,s1,u1,0) N ⟨h,k2⟩ (sx [0] []) (fun n2 ih2 s hm=>?_)
 obtain ⟨Φ_4,s3,u2,s4⟩:=s
 obtain ⟨h,k3⟩:=hm
 dsimp only at h k3 ⊢
 unfold d8 at h
 refine att 5 [] rfl ?_
 refine ch h rfl ?_ ?_ <;> intro h
 ·refine atr 5 [] rfl ?_
  obtain ⟨x3,hx3,h⟩:=bs h
  obtain ⟨cs2,F3,-,g2,hb2,hs2,r2⟩:=ph0_2.el (ab hx3).2.2
  obtain ⟨v4,G1,rfl,hq1,h3⟩:=r2
  obtain rfl:=hq1.symm
  refine lia ph0_2 hx3 rfl<|lhx 0 5 g2 rfl<|lnz ot rfl fun b_3=>soN 0 qy rfl ⟨rfl,rfl,h3.one,rfl,rfl,trivial⟩ rfl ?_
  refine arr 5 [2,0] rfl<|lnr h3 rfl<|art 3 [] rfl ?_
  refine lin (σ:=Hp × (List ByteArray) × Value × Int) (fun s=>[(3,s.2.2.1),(26,pv0_2),(27,iV (p0.Acts.length:Int)),(28,iV s4),(33,v4),(34,iV (x3.Args.length:Int)),(35,iV s.2.2.2)]) (fun s=>St w0 s.1 [] [ob s.2.2.1]) (fun m s=>ek N s4 (d8 N p0 n2) x3 m s.2.1 s.2.2.2=some r∧(OSl RS 9 1 s.1 [] s.2.2.1 s.2.1)) (Φ_4,s3,u2,0) N ⟨h,k3⟩ (sx [0] []) (fun n3 ih3 s hm=>?_)
  obtain ⟨Φ_5,s5,u3,s6⟩:=s
  obtain ⟨h,k4⟩:=hm
  dsimp only at h k4 ⊢
  unfold ek at h
  refine att 5 [] rfl ?_
  refine ch h rfl ?_ ?_ <;> intro h
  ·refine atr 5 [] rfl ?_
   obtain ⟨x4,hx4,h⟩:=bs h
   obtain ⟨cs3,F4,-,g3,hb3,hs3,r3⟩:=h3.el (ab hx4).2.2
   obtain ⟨rfl,-⟩:=r3
   refine lia h3 hx4 rfl<|lhx 0 11 g3 rfl<|lnz qU rfl fun b_4=>soN 0 zz rfl ⟨rfl,rfl,rfl,rfl,rfl,rfl,rfl,rfl,rfl,rfl,rfl,trivial⟩ rfl ?_
   refine arr 7 [1,5,6,5] rfl ?_
   have rc2:RC ck 5 Φ_5 ([[],[]]:List (List Nat)) [iV x4.L.K,.string x4.L.S,iV x4.L.V.K,iV x4.L.V.N,.string x4.L.V.S,iV x4.R.K,.string x4.R.S,iV x4.R.V.K,iV x4.R.V.N,.string x4.R.V.S] ([x4.L,x4.R]:List bh):=RC.cons (c:=[iV x4.L.K,.string x4.L.S,iV x4.L.V.K,iV x4.L.V.N,.string x4.L.V.S]) (cells:=[iV x4.R.K,.string x4.R.S,iV x4.R.V.K,iV x4.R.V.N,.string x4.R.V.S]) ⟨rfl,rfl⟩ rfl (RC.cons (c:=[iV x4.R.K,.string x4.R.S,iV x4.R.V.K,iV x4.R.V.N,.string x4.R.V.S]) (cells:=[]) ⟨rfl,rfl⟩ rfl (RC.nil _ _ _))
   refine le' (aV (vs:=[(0,.agg [iV x4.L.K,.string x4.L.S,iV x4.L.V.K,iV x4.L.V.N,.string x4.L.V.S].toArray),(1,.agg [iV x4.R.K,.string x4.R.S,iV x4.R.V.K,iV x4.R.V.N,.string x4.R.V.S].toArray)]) (C:=#[iV x4.L.K,.string x4.L.S,iV x4.L.V.K,iV x4.L.V.N,.string x4.L.V.S,iV x4.R.K,.string x4.R.S,iV x4.R.V.K,iV x4.R.V.N,.string x4.R.V.S]) ck.lasts nK gl rfl rfl rfl rfl (ag Ai (a8 (C':=[iV x4.L.K,.string x4.L.S,iV x4.L.V.K,iV x4.L.V.N,.string x4.L.V.S,iV 0,.string ⟨#[]⟩,iV 0,iV 0,.string ⟨#[]⟩]) rfl rfl rfl rfl rfl (a8 (C':=[iV x4.L.K,.string x4.L.S,iV x4.L.V.K,iV x4.L.V.N,.string x4.L.V.S,iV x4.R.K,.string x4.R.S,iV x4.R.V.K,iV x4.R.V.N,.string x4.R.V.S]) rfl rfl rfl rfl rfl (ac)))) rfl rc2 rfl (by simpa using Kw.nil)) rfl ?_
   rintro v5 Φ_6 D2 ⟨fr3,h4⟩
   replace h4:OSl ck 171 5 Φ_6 [] v5 ([x4.L,x4.R]:List bh):=by simpa using h4
   replace k4:=k4.f0 fr3
   refine kcb [1] h rfl rfl rfl rfl (fun b ap z q=>o3 N b s5 ([x4.L,x4.R]:List bh) k4 (h4.rsl.x (Dj.app (ap.q 0 rfl) dN)) q) ?_
   rintro x5 h v6 Φ_7 F5 ⟨ap2,fr4,v7,rfl,rfl,h5⟩
   refine art 7 [] rfl ?_
   exact lb [0] [] (ih3 (_,_,_,_) ⟨h,h5⟩)
  refine att 6 [] rfl ?_
  exact lb [0] [] (ih2 (_,_,_,_) ⟨h,k4⟩)
 refine att 6 [] rfl ?_
 exact rtg [0] hF (ay.one rfl) rfl (by cases h; exact fun w1 hw=>⟨u2,rfl,rfl,k3⟩)
theorem xJ (w0:av Ψ Φ []) (p0:af) (ph0_0:RSl bS 3 Ψ pG0_0 pv0_0 p0.Pats) (ph0_1:RSl bq 11 Ψ pG0_1 pv0_1 p0.Conds) (ph0_2:RSl ep 5 Ψ pG0_2 pv0_2 p0.Acts) {r:Bool} (h:nZ N p0=some r) :
  CB w0 prog 98 [.agg [.string p0.Name,iV p0.Sal,pv0_0,pv0_1,pv0_2].toArray] (.bool r):=by
 refine eN func98 rfl ntmps98 rfl w0 fun hF=>?_
 unfold nZ at h
 refine sr<|lbx rfl fun b_1=>arr 7 [0,0] rfl<|qc h (iI N · p0.Name ·) rfl rfl rfl fun x1 h=>arr 2 [] rfl ?_
 obtain ⟨b1,hb_1,h⟩:=bs h
 refine WL.cutN 5 [(19,.bool b1),(1,pQ b_1)] ?_ (fun K=>?_)
 rotate_left
 ·refine sp 14 hb_1 rfl (fun hb_1=>?_) fun hb_1=>?_
  ·refine arr 5 [] rfl ?_
   cases hb_1
   exact ku K
  ·refine arr 2 [1,0] rfl<|ly rfl rfl<|qc hb_1 (d7 N · p0.Sal (-100) 100 ·) rfl rfl rfl fun x2 hb_1=>arr 2 [] rfl ?_
   cases hb_1
   exact ku K
 refine la rfl ?_
 obtain ⟨b2,hb_2,h⟩:=bs h
 refine WL.cutN 4 [(24,.bool b2),(1,pQ b_1)] ?_ (fun K=>?_)
 rotate_left
 ·refine sp 20 hb_2 rfl (fun hb_2=>?_) fun hb_2=>?_
  ·refine arr 4 [] rfl ?_
   cases hb_2
   exact ku K
  ·refine ly rfl rfl<|ld5 wW 0 rfl<|ly rfl rfl<|qd hb_2 (xP N · p0 ph0_0 ph0_1 ph0_2 ·) rfl rfl rfl fun x3 hb_2=>arr 2 [] rfl ?_
   cases hb_2
   exact ku K
 refine en ?_
 refine ch h rfl ?_ ?_ <;> intro h
 ·refine att 4 [] rfl ?_
  exact rt hF h
 refine atr 6 [3,0] rfl<|lnr ph0_1 rfl<|arr 2 [] rfl ?_
 obtain ⟨b3,hb_3,h⟩:=bs h
 refine WL.cutN 6 [(35,.bool b3),(1,pQ b_1)] ?_ (fun K=>?_)
 rotate_left
 ·refine sp 29 hb_3 rfl (fun hb_3=>?_) fun hb_3=>?_
  ·refine arr 6 [] rfl ?_
   cases hb_3
   exact ku K
  ·refine arr 2 [4,0] rfl<|ly rfl rfl<|lnr ph0_2 rfl<|ly rfl rfl<|qc hb_3 (d7 N · (p0.Acts.length:Int) 1 6 ·) rfl rfl rfl fun x4 hb_3=>arr 2 [] rfl ?_
   cases hb_3
   exact ku K
 refine en ?_
 refine ch h rfl ?_ ?_ <;> intro h
 ·refine att 4 [] rfl ?_
  exact rt hF h
 refine atr 6 [3,0] rfl<|lnr ph0_1 rfl<|art 3 [] rfl ?_
 refine lin (σ:=Int) (fun s=>[(1,pQ b_1),(37,pv0_1),(38,iV (p0.Conds.length:Int)),(39,iV s)]) (fun s=>St w0 Φ [(b_1,.cells #[.string p0.Name,iV p0.Sal,pv0_0,pv0_1,pv0_2] 87 (0,0))] []) (fun m s=>ez N p0 m s=some r) (0) N h (sx [] [0]) (fun n1 ih1 s hm=>?_)
 revert hm; revert s; intro s1 hm
 have h:ez N p0 (n1+1) s1=some r:=hm
 show WT _ _ [(1,pQ b_1),(37,pv0_1),(38,iV (p0.Conds.length:Int)),(39,iV s1)] (St w0 Φ [(b_1,.cells #[.string p0.Name,iV p0.Sal,pv0_0,pv0_1,pv0_2] 87 (0,0))] [])
 unfold ez at h
 refine att 5 [] rfl ?_
 refine ch h rfl ?_ ?_ <;> intro h
 ·refine atr 5 [] rfl ?_
  obtain ⟨x5,hx5,h⟩:=bs h
  obtain ⟨cs1,F1,-,g1,hb1,hs1,r1⟩:=ph0_1.el (ab hx5).2.2
  obtain ⟨rfl,-⟩:=r1
  refine lia ph0_1 hx5 rfl<|lhx 0 11 g1 rfl<|lnz nI rfl fun b_2=>soN 0 sQ rfl ⟨rfl,rfl,rfl,rfl,rfl,rfl,rfl,rfl,rfl,rfl,rfl,trivial⟩ rfl ?_
  refine arr 4 [11] rfl<|qc h (xr N · x5 ·) rfl rfl rfl fun x6 h=>la rfl<|en ?_
  refine ch h rfl ?_ ?_ <;> intro h
  ·refine att 4 [] rfl ?_
   exact rt hF h
  refine att 6 [] rfl ?_
  exact lb [] [1] (ih1 _ h)
 refine atr 6 [4,0] rfl<|lnr ph0_2 rfl<|art 3 [] rfl ?_
 refine lin (σ:=Int) (fun s=>[(1,pQ b_1),(48,pv0_2),(49,iV (p0.Acts.length:Int)),(50,iV s)]) (fun s=>St w0 Φ [(b_1,.cells #[.string p0.Name,iV p0.Sal,pv0_0,pv0_1,pv0_2] 87 (0,0))] []) (fun m s=>eK N p0 m s=some r) (0) N h (sx [] [0]) (fun n2 ih2 s hm=>?_)
 revert hm; revert s; intro s2 hm
 have h:eK N p0 (n2+1) s2=some r:=hm
 show WT _ _ [(1,pQ b_1),(48,pv0_2),(49,iV (p0.Acts.length:Int)),(50,iV s2)] (St w0 Φ [(b_1,.cells #[.string p0.Name,iV p0.Sal,pv0_0,pv0_1,pv0_2] 87 (0,0))] [])
 unfold eK at h
 refine att 5 [] rfl ?_
 refine ch h rfl ?_ ?_ <;> intro h
 ·refine atr 5 [] rfl ?_
  obtain ⟨x7,hx7,h⟩:=bs h
  obtain ⟨cs2,F2,-,g2,hb2,hs2,r2⟩:=ph0_2.el (ab hx7).2.2
  obtain ⟨v1,G1,rfl,hq1,h1⟩:=r2
  obtain rfl:=hq1.symm
  refine lia ph0_2 hx7 rfl<|lhx 0 5 g2 rfl<|lnz ot rfl fun b_3=>soN 0 qy rfl ⟨rfl,rfl,h1.one,rfl,rfl,trivial⟩ rfl ?_
  refine en<|sq<|WT.draw mixed (by kernel_rfl) (fun _ h=>h.drew)<|qq (aG xh rfl (fun w1 hw=>hw.rgO (i:=0) rfl 0 5 [iV x7.Kind,.string x7.Name,v1,iV x7.N,.string x7.Undo] rfl) rfl) rfl ?_
  obtain ⟨x8,hx8,h⟩:=bs h
  refine qp (fx Ha rfl (fun w1 hw=>yR N (ba hw.in0) x7 h1 hx8)) rfl<|aqq 2 [] rfl ?_
  obtain ⟨b4,hb_4,h⟩:=bs h
  refine WQ.cutN 11 [(68,.bool b4),(1,pQ b_1),(48,pv0_2),(49,iV (p0.Acts.length:Int)),(50,iV s2)] ?_ (fun K=>?_)
  rotate_left
  ·refine WQ.split (d:=57) rfl (fun c9=>?_) (fun c9=>?_)
   ·replace hb_4:=ir hb_4 c9
    refine aqq 11 [] rfl ?_
    cases hb_4
    exact kq K
   ·replace hb_4:=ik hb_4 c9
    refine aqq 4 [0,0] rfl ?_
    obtain ⟨b5,hb_5,hb_4⟩:=bs hb_4
    refine WQ.cutN 6 [(67,.bool b5),(1,pQ b_1),(48,pv0_2),(49,iV (p0.Acts.length:Int)),(50,iV s2),(57,.bool false)] ?_ (fun K=>?_)
    rotate_left
    ·refine WQ.split (d:=61) rfl (fun c10=>?_) (fun c10=>?_)
     ·replace hb_5:=ir hb_5 c10
      refine aqq 3 [3,0,37] rfl<|WQ.yes rfl rfl ?_
      obtain ⟨x9,hx9,hb_5⟩:=bs hb_5
      refine qp (fx CR rfl (fun w1 hw=>mO N (ba hw.in0) p0 ph0_0 ph0_1 ph0_2 hx9)) rfl<|aqq 2 [] rfl ?_
      cases hb_5
      exact kq K
     ·replace hb_5:=ik hb_5 c10
      refine aqq 6 [] rfl ?_
      cases hb_5
      exact kq K
    refine WQ.q (rK rfl rfl) rfl rfl rfl ?_
    cases hb_4
    exact kq K
  refine WQ.nil ?_
  refine ch h rfl ?_ ?_ <;> intro h
  ·refine att 4 [] rfl ?_
   exact rt hF h
  refine att 6 [] rfl ?_
  exact lb [] [1] (ih2 _ h)
 refine atr 4 [5] rfl<|kab h rfl rfl rfl (fun b z q=>wt N b p0 (ph0_0.y z) (ph0_1.y z) (ph0_2.y z) q) ?_
 rintro x10 h v2 Φ_1 F3 ⟨ap1,fr1,v3,rfl,rfl,h2⟩
 refine arr 6 [5] rfl<|kab h rfl rfl rfl (fun b z q=>vo N b p0 (ph0_0.y z) (ph0_1.y z) (ph0_2.y z) q) ?_
 rintro x11 h v4 Φ_2 F4 ⟨ap2,fr2,v5,rfl,rfl,h3⟩
 replace h2:=h2.fr fr2 (ap2.q 0 rfl) dN
 refine lno h3 rfl<|art 3 [] rfl ?_
 refine lin (σ:=Int) (fun s=>[(7,v2),(73,v4),(74,iV (x11.length:Int)),(75,iV s)]) (fun s=>St w0 Φ_2 [] [ob v4,ob v2]) (fun m s=>eE N x10 x11 m s=some r) (0) N h (sx [0,0] []) (fun n3 ih3 s hm=>?_)
 revert hm; revert s; intro s3 hm
 have h:eE N x10 x11 (n3+1) s3=some r:=hm
 show WT _ _ [(7,v2),(73,v4),(74,iV (x11.length:Int)),(75,iV s3)] (St w0 Φ_2 [] [ob v4,ob v2])
 unfold eE at h
 refine att 5 [] rfl ?_
 refine ch h rfl ?_ ?_ <;> intro h
 ·refine atr 5 [] rfl ?_
  obtain ⟨x12,hx12,h⟩:=bs h
  obtain ⟨cs3,F5,-,g3,hb3,hs3,r3⟩:=h3.elS (ab hx12).2.2
  obtain ⟨rfl,-⟩:=r3
  refine lio h3 hx12 rfl<|lgx 0 0 g3 rfl<|arr 6 [] rfl<|qc h (gY N · x10 x12 h2.rsl ·) rfl rfl rfl fun x13 h=>la rfl<|en ?_
  refine ch h rfl ?_ ?_ <;> intro h
  ·refine att 4 [] rfl ?_
   exact rt hF h
  refine att 6 [] rfl ?_
  exact lb [0,0] [] (ih3 _ h)
 refine att 5 [] rfl ?_
 exact rt hF h
theorem kY {p1f:Nat} {p1fr:List Value} (w0:av Ψ Φ []) (p0:(List af)) (p1:af→Option (Bool)) (ph0:RSl cD 5 Ψ pG0 pv0 p0) (p1hF:Fun prog p1f=true) (p1h:∀ {Φ':Hp} {w':World},FrH [] Φ Φ'→In Φ' w'→∀ (p1a0:af) {p1v0_0:Value} {p1G0_0:List Nat} {p1v0_1:Value} {p1G0_1:List Nat} {p1v0_2:Value} {p1G0_2:List Nat} (_:RSl bS 3 Φ' p1G0_0 p1v0_0 p1a0.Pats) (_:RSl bq 11 Φ' p1G0_1 p1v0_1 p1a0.Conds) (_:RSl ep 5 Φ' p1G0_2 p1v0_2 p1a0.Acts) {r:Bool},p1 p1a0=some r→Calls prog p1f (([.agg [.string p1a0.Name,iV p1a0.Sal,p1v0_0,p1v0_1,p1v0_2].toArray]:List Value)++p1fr).toArray w' (lh (.bool r) w')) {r:Int} (h:dt N p0 p1=some r) :
  CB w0 prog 169 [pv0,.func (.func p1f) #[] p1fr.toArray] (iV r):=by
 refine eN func169 rfl ntmps169 rfl w0 fun hF=>?_
 unfold dt at h
 refine atr 8 [] rfl<|lnr ph0 rfl<|art 3 [] rfl ?_
 refine lin (σ:=Int) (fun s=>[(0,pv0),(1,.func (.func p1f) #[] p1fr.toArray),(7,iV (p0.length:Int)),(8,iV s)]) (fun s=>St w0 Φ [] []) (fun m s=>aU N p0 p1 m s=some r) (0) N h (sx [] []) (fun n1 ih1 s hm=>?_)
 revert hm; revert s; intro s1 hm
 have h:aU N p0 p1 (n1+1) s1=some r:=hm
 show WT _ _ [(0,pv0),(1,.func (.func p1f) #[] p1fr.toArray),(7,iV (p0.length:Int)),(8,iV s1)] (St w0 Φ [] [])
 unfold aU at h
 refine att 5 [] rfl ?_
 refine ch h rfl ?_ ?_ <;> intro h
 ·refine atr 13 [] rfl ?_
  obtain ⟨x1,hx1,h⟩:=bs h
  obtain ⟨cs1,F1,-,g1,hb1,hs1,r1⟩:=ph0.el (ab hx1).2.2
  obtain ⟨v1,G1,v2,G2,v3,G3,rfl,rfl,h1,h2,h3⟩:=r1
  refine lia ph0 hx1 rfl<|lhx 0 5 g1 rfl ?_
  obtain ⟨x2,hx2,h⟩:=bs h
  refine lp (m6 p1hF rfl rfl (fun w1 hw=>p1h hw.frB hw.fro x1 (h1.y hw.up) (h2.y hw.up) (h3.y hw.up) hx2)) rfl<|en ?_
  refine ch h rfl ?_ ?_ <;> intro h
  ·refine att 5 [] rfl ?_
   exact rt hF h
  refine att 6 [] rfl ?_
  exact lb [] [] (ih1 _ h)
 refine att 5 [] rfl ?_
 exact rt hF h
theorem uk (w0:av Ψ Φ []) (p0:af) (c0:ByteArray) (ph0_0:RSl bS 3 Ψ pG0_0 pv0_0 p0.Pats) (ph0_1:RSl bq 11 Ψ pG0_1 pv0_1 p0.Conds) (ph0_2:RSl ep 5 Ψ pG0_2 pv0_2 p0.Acts) (ppc0:Ψ pbc0=some (.cells #[.string c0] 9 (0,0))) {r:Bool} (h:iS N p0 c0=some r) :
  CB w0 prog 170 [.agg [.string p0.Name,iV p0.Sal,pv0_0,pv0_1,pv0_2].toArray,pQ pbc0] (.bool r):=by
 refine eN func170 rfl ntmps170 rfl w0 fun hF=>?_
 unfold iS at h
 refine sr<|lbx rfl fun b_1=>arr 6 [0,0] rfl<|lhx 0 0 (fX ppc0) rfl<|art 3 [] rfl ?_
 exact rt hF h
theorem xI (w0:av Ψ Φ []) (p0:bP) (p1:ByteArray) (ph0_0:RSl cD 5 Ψ pG0_0 pv0_0 p0.Rules) {r:Int} (h:oh N p0 p1=some r) :
  CB w0 prog 99 [.agg [.string p0.Name,pv0_0].toArray,.string p1] (iV r):=by
 refine eN func99 rfl ntmps99 rfl w0 fun hF=>?_
 unfold oh at h
 refine sr<|lbx rfl fun b_1=>?_
 refine ln (uY (C:=#[.string p1]) rfl (rfl)) rfl (fun b_2=>?_)
 refine arr 6 [1,32] rfl ?_
 refine WL.frz (js:=[0]) (R:=[(b_1,.cells #[.string p0.Name,pv0_0] 26 (0,0))]) rfl (fun Φ_1 fr1 k1=>?_)
 refine lq (BF rfl) rfl<|qz h (fun b z q=>kY N b p0.Rules (fun a0=>iS N a0 p1) (ph0_0.y z) HG (fun hle' hin a0=>fun f0 f1 f2=>fun hr=>uk N (ba hin) a0 p1 f0 f1 f2 (hle' _ _ (by simp) k1) hr) q) rfl rfl rfl fun x1 h=>la rfl<|en ?_
 exact rt hF h
theorem pV (w0:av Ψ Φ []) (p0:bP) (ph0_0:RSl cD 5 Ψ pG0_0 pv0_0 p0.Rules) {r:Bool} (h:lR N p0=some r) :
  CB w0 prog 40 [.agg [.string p0.Name,pv0_0].toArray] (.bool r):=by
 refine eN func40 rfl ntmps40 rfl w0 fun hF=>?_
 unfold lR at h
 refine sr<|lbx rfl fun b_1=>arr 7 [0,0] rfl<|qc h (iI N · p0.Name ·) rfl rfl rfl fun x1 h=>arr 2 [] rfl ?_
 obtain ⟨b1,hb_1,h⟩:=bs h
 refine WL.cutN 6 [(15,.bool b1),(1,pQ b_1)] ?_ (fun K=>?_)
 rotate_left
 ·refine sp 9 hb_1 rfl (fun hb_1=>?_) fun hb_1=>?_
  ·refine arr 6 [] rfl ?_
   cases hb_1
   exact ku K
  ·refine arr 2 [1,0] rfl<|ly rfl rfl<|lnr ph0_0 rfl<|ly rfl rfl<|qc hb_1 (d7 N · (p0.Rules.length:Int) 1 12 ·) rfl rfl rfl fun x2 hb_1=>arr 2 [] rfl ?_
   cases hb_1
   exact ku K
 refine en ?_
 refine ch h rfl ?_ ?_ <;> intro h
 ·refine att 4 [] rfl ?_
  exact rt hF h
 refine atr 6 [1,0] rfl<|lnr ph0_0 rfl<|art 3 [] rfl ?_
 refine lin (σ:=Int) (fun s=>[(1,pQ b_1),(17,pv0_0),(18,iV (p0.Rules.length:Int)),(19,iV s)]) (fun s=>St w0 Φ [(b_1,.cells #[.string p0.Name,pv0_0] 26 (0,0))] []) (fun m s=>fC N p0 m s=some r) (0) N h (sx [] [0]) (fun n1 ih1 s hm=>?_)
 revert hm; revert s; intro s1 hm
 have h:fC N p0 (n1+1) s1=some r:=hm
 show WT _ _ [(1,pQ b_1),(17,pv0_0),(18,iV (p0.Rules.length:Int)),(19,iV s1)] (St w0 Φ [(b_1,.cells #[.string p0.Name,pv0_0] 26 (0,0))] [])
 unfold fC at h
 refine att 5 [] rfl ?_
 refine ch h rfl ?_ ?_ <;> intro h
 ·refine atr 6 [] rfl ?_
  obtain ⟨x3,hx3,h⟩:=bs h
  obtain ⟨cs1,F1,-,g1,hb1,hs1,r1⟩:=ph0_0.el (ab hx3).2.2
  obtain ⟨v1,G1,v2,G2,v3,G3,rfl,rfl,h1,h2,h3⟩:=r1
  refine lia ph0_0 hx3 rfl<|lhx 0 5 g1 rfl<|lnz p8 rfl fun b_2=>la rfl<|soN 0 qG rfl ⟨rfl,rfl,h1.one,h2.one,h3.one,trivial⟩ rfl ?_
  refine arr 4 [5] rfl<|qd h (xJ N · x3 h1 h2 h3 ·) rfl rfl rfl fun x4 h=>arr 2 [] rfl ?_
  obtain ⟨b2,hb_2,h⟩:=bs h
  refine WL.cutN 7 [(34,.bool b2),(1,pQ b_1),(17,pv0_0),(18,iV (p0.Rules.length:Int)),(19,iV s1)] ?_ (fun K=>?_)
  rotate_left
  ·refine sp 27 hb_2 rfl (fun hb_2=>?_) fun hb_2=>?_
   ·refine arr 7 [] rfl ?_
    cases hb_2
    exact ku K
   ·refine arr 3 [34,0,0] rfl<|ly rfl rfl<|qd hb_2 (xI N · p0 x3.Name ph0_0 ·) rfl rfl rfl fun x5 hb_2=>arr 3 [] rfl ?_
    cases hb_2
    exact ku K
  refine en ?_
  refine ch h rfl ?_ ?_ <;> intro h
  ·refine att 4 [] rfl ?_
   exact rt hF h
  refine att 6 [] rfl ?_
  exact lb [] [1] (ih1 _ h)
 refine att 5 [] rfl ?_
 exact rt hF h
theorem xB (w0:av Ψ Φ []) (p0:aL) (ph0_0:RSl aP 3 Ψ pG0_0 pv0_0 p0.Fields) {r:Bool} (h:o0 N p0=some r) :
  CB w0 prog 63 [.agg [.string p0.Kind,pv0_0].toArray] (.bool r):=by
 refine eN func63 rfl ntmps63 rfl w0 fun hF=>?_
 unfold o0 at h
 refine sr<|lbx rfl fun b_1=>arr 7 [0,0] rfl<|qc h (iI N · p0.Kind ·) rfl rfl rfl fun x1 h=>arr 2 [] rfl ?_
 obtain ⟨b1,hb_1,h⟩:=bs h
 refine WL.cutN 5 [(14,.bool b1),(1,pQ b_1)] ?_ (fun K=>?_)
 rotate_left
 ·refine sp 9 hb_1 rfl (fun hb_1=>?_) fun hb_1=>?_
  ·refine arr 5 [] rfl ?_
   cases hb_1
   exact ku K
  ·refine arr 2 [1,0] rfl<|ly rfl rfl<|lnr ph0_0 rfl<|arr 2 [] rfl ?_
   cases hb_1
   exact ku K
 refine en ?_
 refine ch h rfl ?_ ?_ <;> intro h
 ·refine att 4 [] rfl ?_
  exact rt hF h
 refine atr 6 [1,0] rfl<|lnr ph0_0 rfl<|art 3 [] rfl ?_
 refine lin (σ:=Int) (fun s=>[(16,pv0_0),(17,iV (p0.Fields.length:Int)),(18,iV s)]) (fun s=>St w0 Φ [] []) (fun m s=>eG N p0 m s=some r) (0) N h (sx [] []) (fun n1 ih1 s hm=>?_)
 revert hm; revert s; intro s1 hm
 have h:eG N p0 (n1+1) s1=some r:=hm
 show WT _ _ [(16,pv0_0),(17,iV (p0.Fields.length:Int)),(18,iV s1)] (St w0 Φ [] [])
 unfold eG at h
 refine att 5 [] rfl ?_
 refine ch h rfl ?_ ?_ <;> intro h
 ·refine atr 5 [] rfl ?_
  obtain ⟨x2,hx2,h⟩:=bs h
  obtain ⟨cs1,F1,-,g1,hb1,hs1,r1⟩:=ph0_0.el (ab hx2).2.2
  obtain ⟨rfl,-⟩:=r1
  refine lia ph0_0 hx2 rfl<|lhx 0 3 g1 rfl<|lnz gF rfl fun b_2=>soN 0 mW rfl ⟨rfl,rfl,rfl,trivial⟩ rfl ?_
  refine arr 4 [3] rfl<|qc h (tp N · x2 ·) rfl rfl rfl fun x3 h=>la rfl<|en ?_
  refine ch h rfl ?_ ?_ <;> intro h
  ·refine att 4 [] rfl ?_
   exact rt hF h
  refine att 6 [] rfl ?_
  exact lb [] [] (ih1 _ h)
 refine att 5 [] rfl ?_
 exact rt hF h
theorem jo (w0:av Ψ Φ []) (p0:(List aN)) (p1:(List aN)) (ph0:RSl aP 3 Ψ pG0 pv0 p0) (ph1:RSl aP 3 Ψ pG1 pv1 p1) {r:Bool} (h:bV N p0 p1=some r) :
  CB w0 prog 129 [pv0,pv1] (.bool r):=by
 refine eN func129 rfl ntmps129 rfl w0 fun hF=>?_
 unfold bV at h
 refine atr 8 [] rfl<|lnr ph0 rfl<|la rfl<|lnr ph1 rfl<|la rfl<|en ?_
 refine ch h rfl ?_ ?_ <;> intro h
 ·refine att 4 [] rfl ?_
  exact rt hF h
 refine atr 5 [] rfl<|lnr ph0 rfl<|art 3 [] rfl ?_
 refine lin (σ:=Int) (fun s=>[(0,pv0),(1,pv1),(12,iV (p0.length:Int)),(13,iV s)]) (fun s=>St w0 Φ [] []) (fun m s=>bl N p0 p1 m s=some r) (0) N h (sx [] []) (fun n1 ih1 s hm=>?_)
 revert hm; revert s; intro s1 hm
 have h:bl N p0 p1 (n1+1) s1=some r:=hm
 show WT _ _ [(0,pv0),(1,pv1),(12,iV (p0.length:Int)),(13,iV s1)] (St w0 Φ [] [])
 unfold bl at h
 refine att 5 [] rfl ?_
 refine ch h rfl ?_ ?_ <;> intro h
 ·refine att 9 [] rfl<|WT.draw mixed (by kernel_rfl) (fun _ h=>h.drew)<|aqq 2 [] rfl ?_
  obtain ⟨x1,hx1,h⟩:=bs h
  obtain ⟨cs1,F1,-,g1,hb1,hs1,r1⟩:=ph0.el (ab hx1).2.2
  obtain ⟨rfl,-⟩:=r1
  refine qq (aw iZ rfl rfl ph0 hx1) rfl<|qq (aG mV rfl (fun w1 hw=>(g1.of_eq 0 3 rfl rfl:rg _ _ _ [iV x1.K,iV x1.N,.string x1.S]).rangeAt hw.in0) rfl) rfl<|aqq 2 [] rfl ?_
  obtain ⟨x2,hx2,h⟩:=bs h
  obtain ⟨cs2,F2,-,g2,hb2,hs2,r2⟩:=ph1.el (ab hx2).2.2
  obtain ⟨rfl,-⟩:=r2
  refine qq (aw iZ rfl rfl ph1 hx2) rfl<|qq (aG mV rfl (fun w1 hw=>(g2.of_eq 0 3 rfl rfl:rg _ _ _ [iV x2.K,iV x2.N,.string x2.S]).rangeAt hw.in0) rfl) rfl<|qq (wc oU rfl rfl rfl (r:=bT x1 x2) rfl) rfl<|WQ.nil ?_
  refine ch h rfl ?_ ?_ <;> intro h
  ·refine att 4 [] rfl ?_
   exact rt hF h
  refine att 6 [] rfl ?_
  exact lb [] [] (ih1 _ h)
 refine att 5 [] rfl ?_
 exact rt hF h
theorem vt (w0:av Ψ Φ []) (p0:aL) (p1:aL) (ph0_0:RSl aP 3 Ψ pG0_0 pv0_0 p0.Fields) (ph1_0:RSl aP 3 Ψ pG1_0 pv1_0 p1.Fields) {r:Bool} (h:lg N p0 p1=some r) :
  CB w0 prog 65 [.agg [.string p0.Kind,pv0_0].toArray,.agg [.string p1.Kind,pv1_0].toArray] (.bool r):=by
 refine eN func65 rfl ntmps65 rfl w0 fun hF=>?_
 unfold lg at h
 refine sr<|lbx rfl fun b_1=>lbx rfl fun b_2=>arr 10 [0,32,0,0] rfl ?_
 obtain ⟨b1,hb_1,h⟩:=bs h
 refine WL.cutN 6 [(16,.bool b1),(4,.bool false)] ?_ (fun K=>?_)
 rotate_left
 ·refine sp 10 hb_1 rfl (fun hb_1=>?_) fun hb_1=>?_
  ·refine arr 4 [1,32,1,0] rfl<|ly rfl rfl<|qd hb_1 (jo N · p0.Fields p1.Fields ph0_0 ph1_0 ·) rfl rfl rfl fun x1 hb_1=>la rfl ?_
   cases hb_1
   exact ku K
  ·refine arr 6 [] rfl ?_
   cases hb_1
   exact ku K
 refine la rfl<|en ?_
 exact rt hF h
theorem oe (w0:av Ψ Φ []) (p0:ah) (ph0_0:RSl bm 3 Ψ pG0_0 pv0_0 p0.Items) {r:Bool} (h:jb N p0=some r) :
  CB w0 prog 41 [.agg [pv0_0,iV p0.Next].toArray] (.bool r):=by
 refine eN func41 rfl ntmps41 rfl w0 fun hF=>?_
 unfold jb at h
 refine sr<|lbx rfl fun b_1=>arr 7 [0,0] rfl<|lnr ph0_0 rfl<|arr 2 [] rfl ?_
 obtain ⟨b1,hb_1,h⟩:=bs h
 refine WL.cutN 5 [(16,.bool b1),(1,pQ b_1)] ?_ (fun K=>?_)
 rotate_left
 ·refine sp 11 hb_1 rfl (fun hb_1=>?_) fun hb_1=>?_
  ·refine arr 5 [] rfl ?_
   cases hb_1
   exact ku K
  ·refine arr 2 [1,0] rfl<|ly rfl rfl<|qc hb_1 (d7 N · p0.Next 1 1000000 ·) rfl rfl rfl fun x1 hb_1=>arr 2 [] rfl ?_
   cases hb_1
   exact ku K
 refine en ?_
 refine ch h rfl ?_ ?_ <;> intro h
 ·refine att 4 [] rfl ?_
  exact rt hF h
 refine atr 6 [0,0] rfl<|lnr ph0_0 rfl<|art 3 [] rfl ?_
 refine lin (σ:=Int) (fun s=>[(1,pQ b_1),(18,pv0_0),(19,iV (p0.Items.length:Int)),(20,iV s)]) (fun s=>St w0 Φ [(b_1,.cells #[pv0_0,iV p0.Next] 29 (0,0))] []) (fun m s=>d6 N p0 m s=some r) (0) N h (sx [] [0]) (fun n1 ih1 s hm=>?_)
 revert hm; revert s; intro s1 hm
 have h:d6 N p0 (n1+1) s1=some r:=hm
 show WT _ _ [(1,pQ b_1),(18,pv0_0),(19,iV (p0.Items.length:Int)),(20,iV s1)] (St w0 Φ [(b_1,.cells #[pv0_0,iV p0.Next] 29 (0,0))] [])
 unfold d6 at h
 refine att 5 [] rfl ?_
 refine ch h rfl ?_ ?_ <;> intro h
 ·refine atr 6 [] rfl ?_
  obtain ⟨x2,hx2,h⟩:=bs h
  obtain ⟨cs1,F1,-,g1,hb1,hs1,r1⟩:=ph0_0.el (ab hx2).2.2
  obtain ⟨v1,G1,rfl,hq1,h1⟩:=r1
  obtain rfl:=hq1.symm
  refine lia ph0_0 hx2 rfl<|lhx 0 3 g1 rfl<|lnz pA rfl fun b_2=>la rfl<|soN 0 wI rfl ⟨rfl,rfl,h1.one,trivial⟩ rfl ?_
  refine art 3 [] rfl<|WT.draw mixed (by kernel_rfl) (fun _ h=>h.drew)<|aqq 2 [1,2] rfl ?_
  obtain ⟨x3,hx3,h⟩:=bs h
  refine qp (fx JJ rfl (fun w1 hw=>xB N (ba hw.in0) x2.F h1 hx3)) rfl<|aqq 2 [] rfl ?_
  obtain ⟨b2,hb_2,h⟩:=bs h
  refine WQ.cutN 8 [(37,.bool b2),(1,pQ b_1),(3,iV s1),(4,pQ b_2),(18,pv0_0),(19,iV (p0.Items.length:Int)),(20,iV s1)] ?_ (fun K=>?_)
  rotate_left
  ·refine WQ.split (d:=29) rfl (fun c4=>?_) (fun c4=>?_)
   ·replace hb_2:=ir hb_2 c4
    refine aqq 8 [] rfl ?_
    cases hb_2
    exact kq K
   ·replace hb_2:=ik hb_2 c4
    refine aqq 5 [0,0,1,32] rfl<|WQ.yes rfl rfl ?_
    obtain ⟨x4,hx4,hb_2⟩:=bs hb_2
    refine qp (fx JC rfl (fun w1 hw=>d7 N (ba hw.fro) x2.Id 1 (wz (p0.Next - 1)) hx4)) rfl<|aqq 2 [] rfl ?_
    cases hb_2
    exact kq K
  refine qq (ke rfl) rfl ?_
  obtain ⟨b3,hb_3,h⟩:=bs h
  refine WQ.cutN 15 [(53,.bool b3),(1,pQ b_1),(3,iV s1),(4,pQ b_2),(18,pv0_0),(19,iV (p0.Items.length:Int)),(20,iV s1)] ?_ (fun K=>?_)
  rotate_left
  ·refine WQ.split (d:=38) rfl (fun c5=>?_) (fun c5=>?_)
   ·replace hb_3:=ir hb_3 c5
    refine aqq 15 [] rfl ?_
    cases hb_3
    exact kq K
   ·replace hb_3:=ik hb_3 c5
    refine aqq 3 [] rfl ?_
    obtain ⟨b4,hb_4,hb_3⟩:=bs hb_3
    refine WQ.cutN 11 [(52,.bool b4),(1,pQ b_1),(3,iV s1),(4,pQ b_2),(18,pv0_0),(19,iV (p0.Items.length:Int)),(20,iV s1),(38,.bool false)] ?_ (fun K=>?_)
    rotate_left
    ·refine WQ.split (d:=41) rfl (fun c6=>?_) (fun c6=>?_)
     ·replace hb_4:=ir hb_4 c6
      refine aqq 6 [0,0,0,32] rfl<|WQ.yes rfl rfl ?_
      obtain ⟨x5,hx5,hb_4⟩:=bs hb_4
      obtain ⟨cs2,F2,-,g2,hb2,hs2,r2⟩:=ph0_0.el (ab hx5).2.2
      obtain ⟨v2,G2,rfl,hq2,h2⟩:=r2
      obtain rfl:=hq2.symm
      refine qq (aw nS rfl rfl ph0_0 hx5) rfl<|WQ.yes rfl rfl<|qq (aK tx rfl) rfl<|WQ.yes rfl rfl<|qq (cz BU rfl (fun w1 hw=>(g2.of_eq 0 1 rfl rfl:rg _ _ _ [iV x5.Id]).rangeAt hw.in0)) rfl<|aqq 2 [] rfl ?_
      cases hb_4
      exact kq K
     ·replace hb_4:=ik hb_4 c6
      refine aqq 11 [] rfl ?_
      cases hb_4
      exact kq K
    refine WQ.q (rK rfl rfl) rfl rfl rfl ?_
    cases hb_3
    exact kq K
  refine WQ.nil ?_
  refine ch h rfl ?_ ?_ <;> intro h
  ·refine att 4 [] rfl ?_
   exact rt hF h
  refine atr 6 [0,32] rfl ?_
  obtain ⟨x6,hx6,h⟩:=bs h
  refine lq (AH nS rfl rfl ph0_0 hx6) rfl ?_
  obtain ⟨F3,h3,hs3⟩:=ph0_0.sub hx6
  refine lnr h3 rfl<|art 3 [] rfl ?_
  refine lin (σ:=Int) (fun s=>[(1,pQ b_1),(4,pQ b_2),(18,pv0_0),(19,iV (p0.Items.length:Int)),(20,iV s1),(57,(slc pv0_0 (0:Int).toNat s1.toNat 3)),(58,iV (x6.length:Int)),(59,iV s)]) (fun s=>St w0 Φ [(b_2,.cells #[iV x2.Id,.string x2.F.Kind,v1] 66 (0,0)),(b_1,.cells #[pv0_0,iV p0.Next] 29 (0,0))] []) (fun m s=>ef N s1 (d6 N p0 n1) x2 x6 m s=some r) (0) N h (sx [] [0,0]) (fun n2 ih2 s hm=>?_)
  revert hm; revert s; intro s2 hm
  have h:ef N s1 (d6 N p0 n1) x2 x6 (n2+1) s2=some r:=hm
  show WT _ _ [(1,pQ b_1),(4,pQ b_2),(18,pv0_0),(19,iV (p0.Items.length:Int)),(20,iV s1),(57,(slc pv0_0 (0:Int).toNat s1.toNat 3)),(58,iV (x6.length:Int)),(59,iV s2)] (St w0 Φ [(b_2,.cells #[iV x2.Id,.string x2.F.Kind,v1] 66 (0,0)),(b_1,.cells #[pv0_0,iV p0.Next] 29 (0,0))] [])
  unfold ef at h
  refine att 5 [] rfl ?_
  refine ch h rfl ?_ ?_ <;> intro h
  ·refine atr 5 [] rfl ?_
   obtain ⟨x7,hx7,h⟩:=bs h
   obtain ⟨cs3,F4,-,g3,hb3,hs4,r3⟩:=h3.el (ab hx7).2.2
   obtain ⟨v3,G3,rfl,hq3,h4⟩:=r3
   obtain rfl:=hq3.symm
   refine lia h3 hx7 rfl<|lhx 0 3 g3 rfl<|lnz pA rfl fun b_3=>soN 0 wI rfl ⟨rfl,rfl,h4.one,trivial⟩ rfl ?_
   refine arr 7 [1,34,1,2] rfl<|qd h (vt N · x2.F x7.F h1 h4 ·) rfl rfl rfl fun x8 h=>en ?_
   refine ch h rfl ?_ ?_ <;> intro h
   ·refine att 4 [] rfl ?_
    exact rt hF h
   refine att 6 [] rfl ?_
   exact lb [] [1,1] (ih2 _ h)
  refine att 6 [] rfl ?_
  exact lb [] [1] (ih1 _ h)
 refine att 5 [] rfl ?_
 exact rt hF h
theorem o9 (w0:av Ψ Φ []) (p0:(List aN)) (ph0:RSl aP 3 Ψ pG0 pv0 p0) {r:(List aN)} (h:fe N p0=some r) :
  Calls prog 196 [pv0].toArray w0.w (be Φ w0.w [] (fun Φ' Fs v=>∃ (sr_0_0:Value),v=sr_0_0∧Fs=[ob sr_0_0]∧OSl aP 95 3 Φ' [] sr_0_0 r)):=by
 refine eN func196 rfl ntmps196 rfl w0 fun hF=>?_
 unfold fe at h
 refine att 6 [] rfl ?_
 rcases RSl.nilOr ph0 with ⟨hxs1,cc1,hv1⟩ | ⟨a1,cc1,hv1⟩
 ·replace h:some []=some r:=by simpa [hxs1,app] using h
  refine atr 2 [] rfl<|lq (mb iZ (congrArg some hv1) rfl) rfl<|en ?_
  refine cd rfl (fun c=>?_) (fun c=>by simp at c)
  refine att 4 [] rfl ?_
  refine WT.ret hF (ay.one rfl) (fun w1 hw=>?_)
  cases h
  replace hw:=hw.addNil
  refine aI (js:=[0]) hw rfl ⟨.slice none 0 0,rfl,rfl,OSl.nil _ _ _ _⟩
 refine atr 2 [] rfl<|lq (mb iZ (congrArg some hv1) rfl) rfl<|en ?_
 refine cd rfl (fun c=>by simp at c) (fun c=>?_)
 refine atr 3 [] rfl<|le' (sL aP.lasts iZ gF rfl rfl) rfl ?_
 rintro v1 Φ_1 D1 ⟨fr1,h1⟩
 refine la rfl<|lu0 ph0 fun h2=>?_
 obtain ⟨x1,hx1,h⟩:=bs h
 refine le' (ee aP.lasts aP.one aP.flat iZ yx rfl rfl rfl rfl rfl (js:=[0]) (Rr:=[]) rfl h1 h2 hx1) rfl ?_
 rintro v2 Φ_2 D2 ⟨⟨ap1,fr2⟩,h3⟩
 refine la rfl<|en ?_
 exact rtg [0] hF (ay.one rfl) rfl (by cases h; exact fun w1 hw=>⟨v2,rfl,rfl,h3⟩)
theorem vp (w0:av Ψ Φ []) (p0:aL) (ph0_0:RSl aP 3 Ψ pG0_0 pv0_0 p0.Fields) {r:aL} (h:l8 N p0=some r) :
  Calls prog 127 [.agg [.string p0.Kind,pv0_0].toArray].toArray w0.w (be Φ w0.w [] (fun Φ' Fs v=>∃ (sr_0_0:Value),v = .agg [.string r.Kind,sr_0_0].toArray∧Fs=[ob sr_0_0]∧OSl aP 95 3 Φ' [] sr_0_0 r.Fields)):=by
 refine eN func127 rfl ntmps127 rfl w0 fun hF=>?_
 unfold l8 at h
 refine sr<|lbx rfl fun b_1=>lnz ox rfl fun b_2=>en<|sq<|wm [0,1] [6] rfl<|amm 4 [0,0,1,32,2,1,3,32] [0,1] rfl rfl ?_
 obtain ⟨x1,hx1,h⟩:=bs h
 refine WM.one 4 (by kernel_rfl) (mc rfl (fun _ v Φx D w1 hq hw=>Kn.of Kf.nil (ai2 0 1 rfl rfl) hw) (bo (js:=[]) (R:=[]) HE rfl rfl (fun w1 hw ap hl=>o9 N (ba hw.fro) p0.Fields (ph0_0.y hw.up)  hx1)) rfl ?_)
 rintro v1 Φ_1 F1 ⟨ap1,fr1,v2,rfl,rfl,h1⟩
 refine mq 5 rfl (by kernel_rfl) (kN [0,1]) (bz (vs:=[(0,.string p0.Kind),(1,v1)]) (C:=#[.string p0.Kind,v1]) CW ox rfl (a8 (C':=[.string p0.Kind,.slice none 0 0]) rfl rfl rfl rfl rfl (a8 (C':=[.string p0.Kind,v1]) rfl (dK h1.one) rfl rfl rfl (ac)))) rfl ?_
 refine on1 6 (msN 0 rfl nk qO rfl ⟨rfl,h1.one,trivial⟩ rfl rfl ?_)
 refine WM.nil (by kernel_rfl) ?_
 exact rtg [0] hF (ay.one (bb rq rfl (fun w1 hw=>hw.rgO (i:=0) rfl 0 2 [.string p0.Kind,v1] rfl) rfl)) rfl (by cases h; exact fun w1 hw=>⟨v1,rfl,rfl,h1⟩)
theorem oV (w0:av Ψ Φ []) (p0:ah) (p1:Int) (ph0_0:RSl bm 3 Ψ pG0_0 pv0_0 p0.Items) {r:aL × Bool} (h:kh N p0 p1=some r) :
  Calls prog 131 [.agg [pv0_0,iV p0.Next].toArray,iV p1].toArray w0.w (be Φ w0.w [] (fun Φ' Fs v=>∃ (sr_0_0:Value),v = .tuple #[.agg [.string r.1.Kind,sr_0_0].toArray,.bool r.2]∧Fs=[ob sr_0_0]∧OSl aP 95 3 Φ' [] sr_0_0 r.1.Fields)):=by
 refine eN func131 rfl ntmps131 rfl w0 fun hF=>?_
 unfold kh at h
 refine sr<|lbx rfl fun b_1=>lnz ox rfl fun b_2=>arr 7 [0,32] rfl<|lnr ph0_0 rfl<|art 3 [] rfl ?_
 refine lin (σ:=Int) (fun s=>[(1,iV p1),(4,pQ b_2),(9,pv0_0),(10,iV (p0.Items.length:Int)),(11,iV s)]) (fun s=>St w0 Φ [(b_2,.cells #[.string (⟨#[]⟩:ByteArray),.slice none 0 0] 52 (0,0))] []) (fun m s=>fE N p0 p1 m s=some r) (0) N h (sx [] [0]) (fun n1 ih1 s hm=>?_)
 revert hm; revert s; intro s1 hm
 have h:fE N p0 p1 (n1+1) s1=some r:=hm
 show WT _ _ [(1,iV p1),(4,pQ b_2),(9,pv0_0),(10,iV (p0.Items.length:Int)),(11,iV s1)] (St w0 Φ [(b_2,.cells #[.string (⟨#[]⟩:ByteArray),.slice none 0 0] 52 (0,0))] [])
 unfold fE at h
 refine att 5 [] rfl ?_
 refine ch h rfl ?_ ?_ <;> intro h
 ·refine atr 5 [] rfl ?_
  obtain ⟨x1,hx1,h⟩:=bs h
  obtain ⟨cs1,F1,-,g1,hb1,hs1,r1⟩:=ph0_0.el (ab hx1).2.2
  obtain ⟨v1,G1,rfl,hq1,h1⟩:=r1
  obtain rfl:=hq1.symm
  refine lia ph0_0 hx1 rfl<|lhx 0 3 g1 rfl<|lnz pA rfl fun b_3=>soN 0 wI rfl ⟨rfl,rfl,h1.one,trivial⟩ rfl ?_
  refine art 8 [0,0] rfl ?_
  refine ch h rfl ?_ ?_ <;> intro h
  ·refine atr 4 [1,2] rfl<|kab h rfl rfl rfl (fun b z q=>vp N b x1.F (h1.y z) q) ?_
   rintro x2 h v2 Φ_1 F2 ⟨ap1,fr1,v3,rfl,rfl,h2⟩
   refine soN 1 qO rfl ⟨rfl,h2.one,trivial⟩ rfl ?_
   refine la rfl<|en ?_
   exact rtg [0] hF (ay.two (bb rq rfl (fun w1 hw=>hw.rgO (i:=1) rfl 0 2 [.string x2.Kind,v3] rfl) rfl) rfl) rfl (by cases h; exact fun w1 hw=>⟨v3,rfl,rfl,h2⟩)
  refine att 6 [] rfl ?_
  exact lb [] [1] (ih1 _ h)
 refine xt rfl<|sr<|lq (bz (vs:=[]) (C:=#[.string (⟨#[]⟩:ByteArray),.slice none 0 0]) CW ox rfl (ac)) rfl<|soN 0 qO rfl ⟨rfl,rfl,trivial⟩ rfl ?_
 refine la rfl<|en ?_
 refine WT.ret hF (ay.two (bb rq rfl (fun w1 hw=>hw.rgO (i:=0) rfl 0 2 [.string (⟨#[]⟩:ByteArray),.slice none 0 0] rfl) rfl) rfl) (fun w1 hw=>?_)
 cases h
 replace hw:=hw.addNil
 refine aI (js:=[0]) hw rfl ⟨.slice none 0 0,rfl,rfl,OSl.nil _ _ _ _⟩
theorem xz (w0:av Ψ Φ []) (p0:aM) (p1:aL) (ph0_0:RSl aP 3 Ψ pG0_0 pv0_0 p0.Consts) (ph0_1:RSl (RI .i64) 1 Ψ pG0_1 pv0_1 p0.At) (ph1_0:RSl aP 3 Ψ pG1_0 pv1_0 p1.Fields) {r:Bool} (h:nX N p0 p1=some r) :
  CB w0 prog 132 [.agg [.string p0.Kind,iV p0.N,pv0_0,pv0_1].toArray,.agg [.string p1.Kind,pv1_0].toArray] (.bool r):=by
 refine eN func132 rfl ntmps132 rfl w0 fun hF=>?_
 unfold nX at h
 refine sr<|lbx rfl fun b_1=>lbx rfl fun b_2=>arr 11 [0,0,0,32] rfl ?_
 obtain ⟨b1,hb_1,h⟩:=bs h
 refine WL.cutN 7 [(19,.bool b1),(2,pQ b_1),(3,pQ b_2)] ?_ (fun K=>?_)
 rotate_left
 ·refine sp 12 hb_1 rfl (fun hb_1=>?_) fun hb_1=>?_
  ·refine arr 7 [] rfl ?_
   cases hb_1
   exact ku K
  ·refine arr 2 [1,0] rfl<|ly rfl rfl<|lnr ph1_0 rfl<|arr 4 [1,32] rfl ?_
   cases hb_1
   exact ku K
 refine en ?_
 refine ch h rfl ?_ ?_ <;> intro h
 ·refine att 4 [] rfl ?_
  exact rt hF h
 refine atr 6 [3,32] rfl<|lnr ph0_1 rfl<|art 3 [] rfl ?_
 refine lin (σ:=Int) (fun s=>[(2,pQ b_1),(3,pQ b_2),(21,pv0_1),(22,iV (p0.At.length:Int)),(23,iV s)]) (fun s=>St w0 Φ [(b_2,.cells #[.string p1.Kind,pv1_0] 52 (0,0)),(b_1,.cells #[.string p0.Kind,iV p0.N,pv0_0,pv0_1] 137 (0,0))] []) (fun m s=>gR N p0 p1 m s=some r) (0) N h (sx [] [0,0]) (fun n1 ih1 s hm=>?_)
 revert hm; revert s; intro s1 hm
 have h:gR N p0 p1 (n1+1) s1=some r:=hm
 show WT _ _ [(2,pQ b_1),(3,pQ b_2),(21,pv0_1),(22,iV (p0.At.length:Int)),(23,iV s1)] (St w0 Φ [(b_2,.cells #[.string p1.Kind,pv1_0] 52 (0,0)),(b_1,.cells #[.string p0.Kind,iV p0.N,pv0_0,pv0_1] 137 (0,0))] [])
 unfold gR at h
 refine att 5 [] rfl ?_
 refine ch h rfl ?_ ?_ <;> intro h
 ·refine atr 6 [] rfl ?_
  obtain ⟨x1,hx1,h⟩:=bs h
  obtain ⟨cs1,F1,-,g1,hb1,hs1,r1⟩:=ph0_1.el (ab hx1).2.2
  obtain ⟨rfl,-⟩:=r1
  refine lia ph0_1 hx1 rfl<|lhx 0 0 g1 rfl<|art 4 [] rfl<|WT.draw mixed (by kernel_rfl) (fun _ h=>h.drew)<|aqq 3 [] rfl ?_
  obtain ⟨b2,hb_2,h⟩:=bs h
  refine WQ.cutN 6 [(36,.bool b2),(2,pQ b_1),(3,pQ b_2),(5,iV s1),(6,iV x1),(21,pv0_1),(22,iV (p0.At.length:Int)),(23,iV s1)] ?_ (fun K=>?_)
  rotate_left
  ·refine WQ.split (d:=30) rfl (fun c4=>?_) (fun c4=>?_)
   ·replace hb_2:=ir hb_2 c4
    refine aqq 6 [] rfl ?_
    cases hb_2
    exact kq K
   ·replace hb_2:=ik hb_2 c4
    refine aqq 3 [1,0] rfl<|WQ.yes rfl rfl<|qq (lM iZ rfl rfl ph1_0) rfl<|aqq 2 [] rfl ?_
    cases hb_2
    exact kq K
  refine qq (ke rfl) rfl ?_
  obtain ⟨b3,hb_3,h⟩:=bs h
  refine WQ.cutN 6 [(43,.bool b3),(2,pQ b_1),(3,pQ b_2),(5,iV s1),(6,iV x1),(21,pv0_1),(22,iV (p0.At.length:Int)),(23,iV s1)] ?_ (fun K=>?_)
  rotate_left
  ·refine WQ.split (d:=37) rfl (fun c5=>?_) (fun c5=>?_)
   ·replace hb_3:=ir hb_3 c5
    refine aqq 6 [] rfl ?_
    cases hb_3
    exact kq K
   ·replace hb_3:=ik hb_3 c5
    refine aqq 3 [2,32] rfl<|WQ.yes rfl rfl<|qq (lM iZ rfl rfl ph0_0) rfl<|aqq 2 [] rfl ?_
    cases hb_3
    exact kq K
  refine qq (ke rfl) rfl ?_
  obtain ⟨b4,hb_4,h⟩:=bs h
  refine WQ.cutN 12 [(56,.bool b4),(2,pQ b_1),(3,pQ b_2),(21,pv0_1),(22,iV (p0.At.length:Int)),(23,iV s1)] ?_ (fun K=>?_)
  rotate_left
  ·refine WQ.split (d:=44) rfl (fun c6=>?_) (fun c6=>?_)
   ·replace hb_4:=ir hb_4 c6
    refine aqq 12 [] rfl ?_
    cases hb_4
    exact kq K
   ·replace hb_4:=ik hb_4 c6
    refine aqq 3 [1,0] rfl<|WQ.yes rfl rfl ?_
    obtain ⟨x2,hx2,hb_4⟩:=bs hb_4
    obtain ⟨cs2,F2,-,g2,hb2,hs2,r2⟩:=ph1_0.el (ab hx2).2.2
    obtain ⟨rfl,-⟩:=r2
    refine qq (aw iZ rfl rfl ph1_0 hx2) rfl<|WQ.yes rfl rfl<|qq (aG mV rfl (fun w1 hw=>(g2.of_eq 0 3 rfl rfl:rg _ _ _ [iV x2.K,iV x2.N,.string x2.S]).rangeAt hw.in0) rfl) rfl<|aqq 3 [2,32] rfl<|WQ.yes rfl rfl ?_
    obtain ⟨x3,hx3,hb_4⟩:=bs hb_4
    obtain ⟨cs3,F3,-,g3,hb3,hs3,r3⟩:=ph0_0.el (ab hx3).2.2
    obtain ⟨rfl,-⟩:=r3
    refine qq (aw iZ rfl rfl ph0_0 hx3) rfl<|WQ.yes rfl rfl<|qq (aG mV rfl (fun w1 hw=>(g3.of_eq 0 3 rfl rfl:rg _ _ _ [iV x3.K,iV x3.N,.string x3.S]).rangeAt hw.in0) rfl) rfl<|WQ.yes rfl rfl<|qq (wc oU rfl rfl rfl (r:=bT x2 x3) rfl) rfl<|WQ.q (rK rfl rfl) rfl rfl rfl ?_
    cases hb_4
    exact kq K
  refine WQ.nil ?_
  refine ch h rfl ?_ ?_ <;> intro h
  ·refine att 4 [] rfl ?_
   exact rt hF h
  refine att 6 [] rfl ?_
  exact lb [] [0,0] (ih1 _ h)
 refine att 5 [] rfl ?_
 exact rt hF h
theorem oF (w0:av Ψ Φ []) (p0:af) (p1:Bool) (ph0_0:RSl bS 3 Ψ pG0_0 pv0_0 p0.Pats) (ph0_1:RSl bq 11 Ψ pG0_1 pv0_1 p0.Conds) (ph0_2:RSl ep 5 Ψ pG0_2 pv0_2 p0.Acts) {r:(List au)} (h:mG N p0 p1=some r) :
  Calls prog 115 [.agg [.string p0.Name,iV p0.Sal,pv0_0,pv0_1,pv0_2].toArray,.bool p1].toArray w0.w (be Φ w0.w [] (fun Φ' Fs v=>∃ (sr_0_0:Value) (Dr_0_0:List Nat),v=sr_0_0∧Fs=[ob sr_0_0]∧OSl bS 201 3 Φ' Dr_0_0 sr_0_0 r∧(∀ k∈Dr_0_0,k∈pG0_0))):=by
 refine eN func115 rfl ntmps115 rfl w0 fun hF=>?_
 unfold mG at h
 refine sr<|lbx rfl fun b_1=>arr 11 [2,0] rfl<|lnr ph0_0 rfl<|art 3 [] rfl<|wtS ?_
 have k1:=OSl.nil bS 201 3 Φ
 refine lin (σ:=Hp × (List au) × Value × List Nat × Int) (fun s=>[(1,.bool p1),(5,s.2.2.1),(9,pv0_0),(10,iV (p0.Pats.length:Int)),(11,iV s.2.2.2.2)]) (fun s=>St w0 s.1 [] [ob s.2.2.1]) (fun m s=>it N p0 p1 m s.2.1 s.2.2.2.2=some r∧(OSl bS 201 3 s.1 s.2.2.2.1 s.2.2.1 s.2.1)∧(∀ k∈s.2.2.2.1,k∈pG0_0)) (Φ,([]:List au),(.slice none 0 0),[],0) N ⟨h,k1,(by simp)⟩ (sx [0] []) (fun n1 ih1 s hm=>?_)
 obtain ⟨Φ_1,s1,u1,D1,s2⟩:=s
 obtain ⟨h,k2,i1⟩:=hm
 dsimp only at h k2 i1 ⊢
 unfold it at h
 refine att 5 [] rfl ?_
 refine ch h rfl ?_ ?_ <;> intro h
 ·refine atr 5 [] rfl ?_
  obtain ⟨x1,hx1,h⟩:=bs h
  obtain ⟨cs1,F1,-,g1,hb1,hs1,r1⟩:=ph0_0.el (ab hx1).2.2
  obtain ⟨v1,G1,rfl,hq1,h1⟩:=r1
  obtain rfl:=hq1.symm
  refine lia ph0_0 hx1 rfl<|lhx 0 3 g1 rfl<|lnz iU rfl fun b_2=>soN 0 mP rfl ⟨rfl,h1.one,rfl,trivial⟩ rfl ?_
  refine arr 6 [2,0] rfl<|lq (K6 Ks rfl rfl) rfl<|en ?_
  refine ch h rfl ?_ ?_ <;> intro h
  ·refine atr 3 [3] rfl<|lu0 h1 fun h2=>?_
   have rc1:RC bS 3 Φ_1 ([G1]:List (List Nat)) [.string x1.Kind,v1,.bool x1.Not] ([x1]:List au):=RC.cons (c:=[.string x1.Kind,v1,.bool x1.Not]) (cells:=[]) ⟨v1,G1,rfl,rfl,h2⟩ rfl (RC.nil _ _ _)
   refine le' (aV (vs:=[(0,.agg [.string x1.Kind,v1,.bool x1.Not].toArray)]) (C:=#[.string x1.Kind,v1,.bool x1.Not]) bS.lasts qF iU rfl rfl rfl rfl (ag tB (a8 (C':=[.string x1.Kind,v1,.bool x1.Not]) rfl rfl rfl rfl rfl (ac))) rfl rc1 rfl (RC.kn bS.knows rc1)) rfl ?_
   rintro v2 Φ_2 D2 ⟨fr1,h3⟩
   replace h3:OSl bS 201 3 Φ_2 (G1) v2 ([x1]:List au):=by simpa [List.append_assoc] using h3
   replace k2:=k2.f0 fr1
   obtain ⟨x2,hx2,h⟩:=bs h
   refine le' (fY bS.lasts bS.one qF wi rfl rfl rfl rfl rfl (js:=[1]) (Rr:=[ob v2]) rfl k2 h3 (fun ap=>(Dj.sub (ap.o ph0_0.old) i1)) (fun ap=>(Dj.sub (Dj.sub (ap.o ph0_0.old) (fun k h=>hs1 k h)) (fun k hk=>(by simpa [List.append_assoc] using hk:k∈G1)))) hx2) rfl ?_
   rintro v3 Φ_3 D3 ⟨⟨ap1,fr2⟩,h4⟩
   refine art 7 [] rfl ?_
   exact lb [0] [] (ih1 (_,_,_,_,_) ⟨h,h4,(fun k hk=>((List.mem_append.1 hk).elim (fun h=>(i1 k h)) (fun h=>((fun k h=>hs1 k h) k ((fun k hk=>(by simpa [List.append_assoc] using hk:k∈G1)) k h)))))⟩)
  refine att 6 [] rfl ?_
  exact lb [0] [] (ih1 (_,_,_,_,_) ⟨h,k2,(fun k hk=>(i1 k hk))⟩)
 refine att 6 [] rfl ?_
 exact rtg [0] hF (ay.one rfl) rfl (by cases h; exact fun w1 hw=>⟨u1,D1,rfl,rfl,k2,(fun k hk=>(i1 k hk))⟩)
theorem vu (w0:av Ψ Φ []) (p0:bP) (p1:fj) (p2:dI) (p3:ah) (p4:Int) (p5:Int) (ph0_0:RSl cD 5 Ψ pG0_0 pv0_0 p0.Rules) (ph1_1:RSl iw 2 Ψ pG1_1 pv1_1 p1.Chains) (ph2_0:RSl j0 1 Ψ pG2_0 pv2_0 p2.Alphas) (ph3_0:RSl bm 3 Ψ pG3_0 pv3_0 p3.Items) {r:cQ} (h:n7 N p0 p1 p2 p3 p4 p5=some r) :
  Calls prog 133 [.agg [.string p0.Name,pv0_0].toArray,.agg [pv1_0,pv1_1].toArray,.agg [pv2_0,pv2_1].toArray,.agg [pv3_0,iV p3.Next].toArray,iV p4,iV p5].toArray w0.w (be Φ w0.w [] (fun Φ' Fs v=>∃ (sr_0_0:Value) (Dr_0_0:List Nat) (sr_0_1:Value) (Dr_0_1:List Nat) (sr_0_2:Value) (Gr_0_2:List Nat) (sr_0_3:Value) (Gr_0_3:List Nat) (sr_0_4:Value) (Gr_0_4:List Nat) (sr_0_5:Value) (Gr_0_5:List Nat),v = .agg [sr_0_0,sr_0_1,sr_0_2,sr_0_3,sr_0_4,sr_0_5,iV r.s.Next,iV r.id].toArray∧Fs=[ob sr_0_0,ob sr_0_1]∧OSl bS 201 3 Φ' Dr_0_0 sr_0_0 r.pos∧(∀ k∈Dr_0_0,k∈pG0_0)∧OSl bS 201 3 Φ' Dr_0_1 sr_0_1 r.neg∧(∀ k∈Dr_0_1,k∈pG0_0)∧RSl (RI .i64) 1 Φ' Gr_0_2 sr_0_2 r.chain.Pos∧(∀ k∈Gr_0_2,k∈pG1_1)∧RSl (RI .i64) 1 Φ' Gr_0_3 sr_0_3 r.chain.Neg∧(∀ k∈Gr_0_3,k∈pG1_1)∧RSl j0 1 Φ' Gr_0_4 sr_0_4 r.alphas∧(∀ k∈Gr_0_4,k∈pG2_0)∧RSl bm 3 Φ' Gr_0_5 sr_0_5 r.s.Items∧(∀ k∈Gr_0_5,k∈pG3_0))):=by
 refine eN func133 rfl ntmps133 rfl w0 fun hF=>?_
 unfold n7 at h
 refine sr<|lbx rfl fun b_1=>lbx rfl fun b_2=>lbx rfl fun b_3=>lbx rfl fun b_4=>lnz BD rfl fun b_5=>arr 6 [1,128] rfl ?_
 obtain ⟨x1,hx1,h⟩:=bs h
 obtain ⟨cs1,F1,-,g1,hb1,hs1,r1⟩:=ph0_0.el (ab hx1).2.2
 obtain ⟨v1,G1,v2,G2,v3,G3,rfl,rfl,h1,h2,h3⟩:=r1
 refine lia ph0_0 hx1 rfl<|lhx 0 5 g1 rfl<|lnz p8 rfl fun b_6=>soN 0 qG rfl ⟨rfl,rfl,h1.one,h2.one,h3.one,trivial⟩ rfl ?_
 refine en<|sq<|wm [0,1,2,3,4,5] [14] rfl<|amm 5 [0,5,2,5,4,1,5,128,6] [0,1,2,3,4,5] rfl rfl ?_
 obtain ⟨x2,hx2,h⟩:=bs h
 obtain ⟨cs2,F2,-,g2,hb2,hs2,r2⟩:=ph1_1.el (ab hx2).2.2
 obtain ⟨v4,G4,v5,G5,rfl,rfl,h4,h5⟩:=r2
 refine mq 7 rfl (by kernel_rfl) (kN [0,1,2,3,4,5]) (aw Fm rfl rfl ph1_1 hx2) rfl<|mq 8 rfl (by kernel_rfl) (kN [0,1,2,3,4,5]) (aG JL rfl (fun w1 hw=>(g2.of_eq 0 2 rfl rfl:rg _ _ _ [v4,v5]).rangeAt hw.1) rfl) rfl<|amm 4 [9,0,10,96,11,66,12] [0,1,2,3,4,5] rfl rfl ?_
 obtain ⟨x3,hx3,h⟩:=bs h
 refine WM.one 1 (by kernel_rfl) (mc rfl (fun _ v Φx D w1 hq hw=>Kn.of Kf.nil (am [0,1,2,3,4,5] rfl) hw) (bo (js:=[]) (R:=[]) CC rfl rfl (fun w1 hw ap hl=>oF N (ba hw.fro) x1 false (h1.y hw.up) (h2.y hw.up) (h3.y hw.up)  hx3)) rfl ?_)
 rintro v6 Φ_1 F3 ⟨ap1,fr1,v7,D1,rfl,rfl,h6,i1⟩
 obtain ⟨x4,hx4,h⟩:=bs h
 refine WM.one 3 (by kernel_rfl) (mc rfl (fun _ v Φx D w1 hq hw=>Kn.of Kf.nil (am [0,1,2,3,4,5] rfl) hw) (bo (js:=[]) (R:=[ob v6]) CC rfl rfl (fun w1 hw ap hl=>oF N (ba hw.fro) x1 true (h1.y hw.up) (h2.y hw.up) (h3.y hw.up)  hx4)) rfl ?_)
 rintro v8 Φ_2 F4 ⟨ap2,fr2,v9,D2,rfl,rfl,h7,i2⟩
 replace h6:=h6.fr fr2 (ap2.q 0 rfl) (Dj.sub (ap2.o h1.old) i1)
 refine mq 13 rfl (by kernel_rfl) (kN [0,1,2,3,4,5]) (bz (vs:=[(0,v6),(1,v8),(2,.agg [v4,v5].toArray),(3,pv2_0),(4,.agg [pv3_0,iV p3.Next].toArray),(5,iV p4)]) (C:=#[v6,v8,v4,v5,pv2_0,pv3_0,iV p3.Next,iV p4]) Is BD rfl (a8 (C':=[v6,.slice none 0 0,.slice none 0 0,.slice none 0 0,.slice none 0 0,.slice none 0 0,iV 0,iV 0]) rfl (dK h6.one) rfl rfl rfl (a8 (C':=[v6,v8,.slice none 0 0,.slice none 0 0,.slice none 0 0,.slice none 0 0,iV 0,iV 0]) rfl (dK h7.one) rfl rfl rfl (a8 (C':=[v6,v8,v4,v5,.slice none 0 0,.slice none 0 0,iV 0,iV 0]) rfl rfl rfl rfl rfl (a8 (C':=[v6,v8,v4,v5,pv2_0,.slice none 0 0,iV 0,iV 0]) rfl (dK ph2_0.one) rfl rfl rfl (a8 (C':=[v6,v8,v4,v5,pv2_0,pv3_0,iV p3.Next,iV 0]) rfl rfl rfl rfl rfl (a8 (C':=[v6,v8,v4,v5,pv2_0,pv3_0,iV p3.Next,iV p4]) rfl rfl rfl rfl rfl (ac)))))))) rfl ?_
 refine on1 14 (msN 1 rfl nk Gc rfl ⟨h6.one,h7.one,h4.one,h5.one,ph2_0.one,ph3_0.one,rfl,rfl,trivial⟩ rfl rfl ?_)
 refine WM.nil (by kernel_rfl) ?_
 exact rtg [1,0] hF (ay.one (bb El rfl (fun w1 hw=>hw.rgO (i:=1) rfl 0 8 [v6,v8,v4,v5,pv2_0,pv3_0,iV p3.Next,iV p4] rfl) rfl)) rfl (by cases h; exact fun w1 hw=>⟨v6,D1,v8,D2,v4,G4,v5,G5,pv2_0,pG2_0,pv3_0,pG3_0,rfl,rfl,h6,(fun k hk=>((fun k h=>hs1 k (List.mem_append.2 (.inl h))) k (i1 k hk))),h7,(fun k hk=>((fun k h=>hs1 k (List.mem_append.2 (.inl h))) k (i2 k hk))),(h4.y hw.up),(fun k hk=>((fun k h=>hs2 k (List.mem_append.2 (.inl h))) k hk)),(h5.y hw.up),(fun k hk=>((fun k h=>hs2 k (List.mem_append.2 (.inr h))) k hk)),(ph2_0.y hw.up),(fun k hk=>hk),(ph3_0.y hw.up),(fun k hk=>hk)⟩)
end Go.Proofs.YtedmfnmbjglmbaaGreat
