/- Printed by a program of ours: each Go function computes its Lean function. -/
import Derived.Test.YtiljnppocjgkkaaGreatProg
import Derived.Test.YtiljnppocjgkkaaGreatWExactMemSoundWalk6
namespace Go.Proofs.YtiljnppocjgkkaaGreat
open Eng Tryz
open Go.RowKit (Below)
set_option linter.unusedVariables false
set_option linter.unusedSimpArgs false

set_option maxRecDepth 100000
set_option maxHeartbeats 1000000
variable {Ψ Φ:Hp} {pv0 pv1 pv0_0 pv0_1 pv1_0 pv1_1 pv0_2 pv2_0 pv2_1 pv3_0 pv2:Value} {pD0 pG0 pG1 pG0_0 pG0_1 pG1_0 pG1_1 pD0_0 pG0_2 pG2_0 pG3_0 pG2:List Nat} {pb0:Nat} (N:Nat)
theorem vd (w0:af Ψ Φ []) (p0:(List Int)) (ph0:RSl (RI .i64) 1 Ψ pG0 pv0 p0) {r:Int} (h:kC N p0=some r) :
  CB w0 prog 163 [pv0] (iV r):=by
 refine eN func163 rfl ntmps163 rfl w0 fun hF=>?_
 unfold kC at h
 refine atr 12 [] rfl<|lnr ph0 rfl<|art 3 [] rfl ?_
 refine lin (σ:=Int) (fun s=>[(3,iV 0),(6,pv0),(7,iV (p0.length:Int)),(8,iV s)]) (fun s=>St w0 Φ [] []) (fun m s=>fq N p0 m s=some r) (0) N h (sx [] []) (fun n1 ih1 s hm=>?_)
 revert hm; revert s; intro s1 hm
 have h:fq N p0 (n1+1) s1=some r:=hm
 show WT _ _ [(3,iV 0),(6,pv0),(7,iV (p0.length:Int)),(8,iV s1)] (St w0 Φ [] [])
 unfold fq at h
 refine att 5 [] rfl ?_
 refine ch h rfl ?_ ?_ <;> intro h
 ·refine atr 5 [] rfl ?_
  obtain ⟨x1,hx1,h⟩:=bs h
  obtain ⟨cs1,F1,-,g1,hb1,hs1,r1⟩:=ph0.el (a7 hx1).2.2
  obtain ⟨rfl,-⟩:=r1
  refine lia ph0 hx1 rfl<|lhx 0 0 g1 rfl<|art 8 [] rfl ?_
  refine ch h rfl ?_ ?_ <;> intro h
  ·refine att 5 [] rfl ?_
   exact rt hF h
  refine att 6 [] rfl ?_
  exact lb [] [] (ih1 _ h)
 refine att 6 [] rfl ?_
 exact rt hF h
theorem nJ  (w0:af Ψ Φ []) (p0:Int)  {r:Bool} (h:gO N p0=some r) :
  CB w0 prog 230 [iV p0] (.bool r):=by
 refine eN func230 rfl ntmps230 rfl w0 fun hF=>?_
 unfold gO at h
 refine att 11 [] rfl ?_
 exact rt hF h
theorem rO  (w0:af Ψ Φ []) (p0:Int) (p1:Int)  {r:Int} (h:fD N p0 p1=some r) :
  CB w0 prog 206 [iV p0,iV p1] (iV r):=by
 refine eN func206 rfl ntmps206 rfl w0 fun hF=>?_
 unfold fD at h
 refine atr 7 [] rfl<|qc h (nJ N · p0 ·) rfl rfl rfl fun x1 h=>arr 5 [] rfl<|qc h (nJ N · p1 ·) rfl rfl rfl fun x2 h=>art 7 [] rfl ?_
 refine ch h rfl ?_ ?_ <;> intro h
 ·refine att 5 [] rfl ?_
  refine ch h rfl ?_ ?_ <;> intro h
  ·refine att 4 [] rfl ?_
   exact rt hF h
  refine att 5 [] rfl ?_
  exact rt hF h
 refine att 6 [] rfl ?_
 refine ch h rfl ?_ ?_ <;> intro h
 ·refine att 4 [] rfl ?_
  exact rt hF h
 refine att 8 [] rfl ?_
 refine ch h rfl ?_ ?_ <;> intro h
 ·refine att 4 [] rfl ?_
  exact rt hF h
 refine att 8 [] rfl ?_
 refine ch h rfl ?_ ?_ <;> intro h
 ·refine att 4 [] rfl ?_
  exact rt hF h
 refine att 5 [] rfl ?_
 exact rt hF h
theorem jh (w0:af Ψ Φ []) (p0:(List Int)) (p1:(List Int)) (ph0:RSl (RI .i64) 1 Ψ pG0 pv0 p0) (ph1:RSl (RI .i64) 1 Ψ pG1 pv1 p1) {r:Int} (h:dC N p0 p1=some r) :
  CB w0 prog 164 [pv0,pv1] (iV r):=by
 refine eN func164 rfl ntmps164 rfl w0 fun hF=>?_
 unfold dC at h
 refine atr 8 [] rfl<|lnr ph0 rfl<|art 3 [] rfl ?_
 refine lin (σ:=Int) (fun s=>[(0,pv0),(1,pv1),(9,pv0),(10,iV (p0.length:Int)),(11,iV s)]) (fun s=>St w0 Φ [] []) (fun m s=>bG N p0 p1 m s=some r) (0) N h (sx [] []) (fun n1 ih1 s hm=>?_)
 revert hm; revert s; intro s1 hm
 have h:bG N p0 p1 (n1+1) s1=some r:=hm
 show WT _ _ [(0,pv0),(1,pv1),(9,pv0),(10,iV (p0.length:Int)),(11,iV s1)] (St w0 Φ [] [])
 unfold bG at h
 refine att 5 [] rfl ?_
 refine ch h rfl ?_ ?_ <;> intro h
 ·refine atr 6 [] rfl ?_
  obtain ⟨x1,hx1,h⟩:=bs h
  obtain ⟨cs1,F1,-,g1,hb1,hs1,r1⟩:=ph0.el (a7 hx1).2.2
  obtain ⟨rfl,-⟩:=r1
  refine lia ph0 hx1 rfl<|lhx 0 0 g1 rfl<|arr 8 [] rfl<|lnr ph1 rfl<|la rfl<|en ?_
  refine ch h rfl ?_ ?_ <;> intro h
  ·refine att 4 [] rfl ?_
   exact rt hF h
  refine atr 5 [] rfl ?_
  obtain ⟨x2,hx2,h⟩:=bs h
  obtain ⟨cs2,F2,-,g2,hb2,hs2,r2⟩:=ph1.el (a7 hx2).2.2
  obtain ⟨rfl,-⟩:=r2
  refine lia ph1 hx2 rfl<|lhx 0 0 g2 rfl<|arr 6 [] rfl<|qc h (rO N · x1 x2 ·) rfl rfl rfl fun x3 h=>art 7 [] rfl ?_
  refine ch h rfl ?_ ?_ <;> intro h
  ·refine att 5 [] rfl ?_
   exact rt hF h
  refine att 6 [] rfl ?_
  exact lb [] [] (ih1 _ h)
 refine atr 5 [] rfl<|lnr ph0 rfl<|la rfl<|lnr ph1 rfl<|la rfl<|en ?_
 refine ch h rfl ?_ ?_ <;> intro h
 ·refine att 4 [] rfl ?_
  exact rt hF h
 refine att 5 [] rfl ?_
 exact rt hF h
theorem jB (w0:af Ψ Φ []) (p0:aa) (p1:aa) (ph0_0:RSl (RI .i64) 1 Ψ pG0_0 pv0_0 p0.Ids) (ph0_1:RSl (RI .i64) 1 Ψ pG0_1 pv0_1 p0.Hits) (ph1_0:RSl (RI .i64) 1 Ψ pG1_0 pv1_0 p1.Ids) (ph1_1:RSl (RI .i64) 1 Ψ pG1_1 pv1_1 p1.Hits) {r:Int} (h:bR N p0 p1=some r) :
  CB w0 prog 117 [.agg [pv0_0,pv0_1].toArray,.agg [pv1_0,pv1_1].toArray] (iV r):=by
 refine eN func117 rfl ntmps117 rfl w0 fun hF=>?_
 unfold bR at h
 refine sr<|lbx rfl fun b_1=>lbx rfl fun b_2=>art 3 [] rfl<|wm [0,1] [] rfl<|amm 8 [0,0,1,32,2,0,3,0,5,1,6,32,7,1,8,0] [0,1] rfl rfl ?_
 obtain ⟨x1,hx1,h⟩:=bs h
 refine on1 4 (mp rfl (kS [0,1]) (pdP rfl (jh N · p0.Ids p1.Ids ph0_0 ph1_0 hx1)) rfl ?_)
 obtain ⟨x2,hx2,h⟩:=bs h
 refine on1 9 (mp rfl (kS [0,1]) (pdP rfl (jh N · p0.Hits p1.Hits ph0_1 ph1_1 hx2)) rfl ?_)
 have rc1:RC (RI .i64) 1 Φ ([[],[]]:List (List Nat)) [iV x1,iV x2] ([x1,x2]:List Int):=RC.cons (c:=[iV x1]) (cells:=[iV x2]) ⟨rfl,rfl⟩ rfl (RC.cons (c:=[iV x2]) (cells:=[]) ⟨rfl,rfl⟩ rfl (RC.nil _ _ _))
 refine WM.one 10 (by kernel_rfl) (me rfl (fun _ v Φx D w1 hq hw=>Kn.of Kf.nil (ai2 0 1 rfl rfl) hw) (cU (vs:=[(0,iV x1),(1,iV x2)]) (C:=#[iV x1,iV x2]) RI.lasts bD pb rfl rfl rfl rfl (aK JI (ai (C':=[iV x1,iV 0]) rfl rfl rfl rfl rfl (ai (C':=[iV x1,iV x2]) rfl rfl rfl rfl rfl (au)))) rfl rc1 rfl (by simpa using Kw.nil)) rfl ?_)
 rintro v1 Φ_1 D1 ⟨fr1,h1⟩
 replace h1:OSl (RI .i64) 3 1 Φ_1 [] v1 ([x1,x2]:List Int):=by simpa using h1
 obtain ⟨x3,hx3,h⟩:=bs h
 refine on1 11 (mp rfl (kS [0,1]) (pcP rfl (vd N · ([x1,x2]:List Int) h1.rsl hx3)) rfl ?_)
 refine amm 1 [12] [0,1] rfl rfl<|WM.nil (by kernel_rfl) ?_
 exact rt hF h
theorem gr {p2f:Nat} {p2fr:List Value} (w0:af Ψ Φ []) (p0:(List aa)) (p1:(List aa)) (p2:aa→aa→Option (Bool)) (ph0:RSl bC 2 Ψ pG0 pv0 p0) (ph1:RSl bC 2 Ψ pG1 pv1 p1) (p2hF:Fun prog p2f=true) (p2h:∀ {Φ':Hp} {w':World},FrH [] Φ Φ'→In Φ' w'→∀ (p2a0:aa) (p2a1:aa) {p2v0_0:Value} {p2G0_0:List Nat} {p2v0_1:Value} {p2G0_1:List Nat} {p2v1_0:Value} {p2G1_0:List Nat} {p2v1_1:Value} {p2G1_1:List Nat} (_:RSl (RI .i64) 1 Φ' p2G0_0 p2v0_0 p2a0.Ids) (_:RSl (RI .i64) 1 Φ' p2G0_1 p2v0_1 p2a0.Hits) (_:RSl (RI .i64) 1 Φ' p2G1_0 p2v1_0 p2a1.Ids) (_:RSl (RI .i64) 1 Φ' p2G1_1 p2v1_1 p2a1.Hits) {r:Bool},p2 p2a0 p2a1=some r→Calls prog p2f (([.agg [p2v0_0,p2v0_1].toArray,.agg [p2v1_0,p2v1_1].toArray]:List Value)++p2fr).toArray w' (pL (.bool r) w')) {r:Bool} (h:bq N p0 p1 p2=some r) :
  CB w0 prog 118 [pv0,pv1,.func (.func p2f) #[] p2fr.toArray] (.bool r):=by
 refine eN func118 rfl ntmps118 rfl w0 fun hF=>?_
 unfold bq at h
 refine atr 8 [] rfl<|lnr ph0 rfl<|la rfl<|lnr ph1 rfl<|la rfl<|en ?_
 refine ch h rfl ?_ ?_ <;> intro h
 ·refine att 4 [] rfl ?_
  exact rt hF h
 refine atr 5 [] rfl<|lnr ph0 rfl<|art 3 [] rfl ?_
 refine lin (σ:=Int) (fun s=>[(1,pv1),(2,.func (.func p2f) #[] p2fr.toArray),(15,pv0),(16,iV (p0.length:Int)),(17,iV s)]) (fun s=>St w0 Φ [] []) (fun m s=>ay N p0 p1 p2 m s=some r) (0) N h (sx [] []) (fun n1 ih1 s hm=>?_)
 revert hm; revert s; intro s1 hm
 have h:ay N p0 p1 p2 (n1+1) s1=some r:=hm
 show WT _ _ [(1,pv1),(2,.func (.func p2f) #[] p2fr.toArray),(15,pv0),(16,iV (p0.length:Int)),(17,iV s1)] (St w0 Φ [] [])
 unfold ay at h
 refine att 5 [] rfl ?_
 refine ch h rfl ?_ ?_ <;> intro h
 ·refine atr 6 [] rfl ?_
  obtain ⟨x1,hx1,h⟩:=bs h
  obtain ⟨cs1,F1,-,g1,hb1,hs1,r1⟩:=ph0.el (a7 hx1).2.2
  obtain ⟨v1,G1,v2,G2,rfl,rfl,h1,h2⟩:=r1
  refine lia ph0 hx1 rfl<|lhx 0 2 g1 rfl<|lnz iu rfl fun b_1=>la rfl<|soN 0 pH rfl ⟨h1.one,h2.one,trivial⟩ rfl ?_
  refine arr 5 [] rfl ?_
  obtain ⟨x2,hx2,h⟩:=bs h
  obtain ⟨cs2,F2,-,g2,hb2,hs2,r2⟩:=ph1.el (a7 hx2).2.2
  obtain ⟨v3,G3,v4,G4,rfl,rfl,h3,h4⟩:=r2
  refine lia ph1 hx2 rfl<|lhx 0 2 g2 rfl<|lnz iu rfl fun b_2=>soN 0 pH rfl ⟨h3.one,h4.one,trivial⟩ rfl ?_
  refine arr 6 [34,2] rfl ?_
  obtain ⟨x3,hx3,h⟩:=bs h
  refine lp (tO p2hF rfl rfl (fun w1 hw=>p2h hw.frB hw.fro x1 x2 (h1.y hw.up) (h2.y hw.up) (h3.y hw.up) (h4.y hw.up) hx3)) rfl<|la rfl<|en ?_
  refine ch h rfl ?_ ?_ <;> intro h
  ·refine att 4 [] rfl ?_
   exact rt hF h
  refine att 6 [] rfl ?_
  exact lb [] [] (ih1 _ h)
 refine att 5 [] rfl ?_
 exact rt hF h
theorem wK (w0:af Ψ Φ []) (p0:aa) (p1:aa) (ph0_0:RSl (RI .i64) 1 Ψ pG0_0 pv0_0 p0.Ids) (ph0_1:RSl (RI .i64) 1 Ψ pG0_1 pv0_1 p0.Hits) (ph1_0:RSl (RI .i64) 1 Ψ pG1_0 pv1_0 p1.Ids) (ph1_1:RSl (RI .i64) 1 Ψ pG1_1 pv1_1 p1.Hits) {r:Bool} (h:jQ N p0 p1=some r) :
  CB w0 prog 119 [.agg [pv0_0,pv0_1].toArray,.agg [pv1_0,pv1_1].toArray] (.bool r):=by
 refine eN func119 rfl ntmps119 rfl w0 fun hF=>?_
 unfold jQ at h
 refine sr<|lbx rfl fun b_1=>lbx rfl fun b_2=>arr 6 [34,2] rfl<|qd h (jB N · p0 p1 ph0_0 ph0_1 ph1_0 ph1_1 ·) rfl rfl rfl fun x1 h=>art 3 [] rfl ?_
 exact rt hF h
theorem uv (w0:af Ψ Φ []) (p0:ab) (p1:ab) (ph0_0:RSl bC 2 Ψ pG0_0 pv0_0 p0.Toks) (ph1_0:RSl bC 2 Ψ pG1_0 pv1_0 p1.Toks) {r:Bool} (h:fL N p0 p1=some r) :
  CB w0 prog 70 [.agg [pv0_0].toArray,.agg [pv1_0].toArray] (.bool r):=by
 refine eN func70 rfl ntmps70 rfl w0 fun hF=>?_
 unfold fL at h
 refine sr ?_
 refine ln (jI (C:=#[pv0_0]) rfl rfl) rfl (fun b_1=>?_)
 refine ln (jI (C:=#[pv1_0]) rfl rfl) rfl (fun b_2=>?_)
 refine arr 7 [0,32] rfl<|lnr ph0_0 rfl<|arr 2 [0,0] rfl<|lnr ph1_0 rfl<|la rfl<|en ?_
 refine ch h rfl ?_ ?_ <;> intro h
 ·refine att 4 [] rfl ?_
  exact rt hF h
 refine att 2 [] rfl<|wm [0,1] [] rfl<|amm 4 [0,0,1,32,3,0,4,0] [0,1] rfl rfl ?_
 obtain ⟨x1,hx1,h⟩:=bs h
 refine WM.one 2 (by kernel_rfl) (mc rfl (fun _ v Φx D w1 hq hw=>Kn.of Kf.nil (ai2 0 1 rfl rfl) hw) (cW (js:=[]) (R:=[]) DS rfl rfl (fun w1 hw ap hl=>iL N (ba hw.fro) p0.Toks (ph0_0.y hw.up)  hx1)) rfl ?_)
 rintro v1 Φ_1 F1 ⟨ap1,fr1,v2,D1,rfl,rfl,h1,i1⟩
 obtain ⟨x2,hx2,h⟩:=bs h
 refine WM.one 5 (by kernel_rfl) (mc rfl (fun _ v Φx D w1 hq hw=>Kn.of Kf.nil (ai2 0 1 rfl rfl) hw) (cW (js:=[]) (R:=[ob v1]) DS rfl rfl (fun w1 hw ap hl=>iL N (ba hw.fro) p1.Toks (ph1_0.y hw.up)  hx2)) rfl ?_)
 rintro v3 Φ_2 F2 ⟨ap2,fr2,v4,D2,rfl,rfl,h2,i2⟩
 replace h1:=h1.fr fr2 (ap2.q 0 rfl) (Dj.sub (ap2.o ph0_0.old) i1)
 refine amm 2 [6,7] [0,1] rfl rfl<|WM.nil (by kernel_rfl)<|sr<|la rfl<|kcb [1] h rfl rfl rfl rfl (fun b ap z q=>gu N b x1 (bR N) h1 DG (fun hle' hin a0 a1=>fun f0 f1 f2 f3=>fun hr=>jB N (ba hin) a0 a1 f0 f1 f2 f3 hr) (Dj.sub (ap.o ph0_0.old) i1) q) ?_
 rintro x3 h v5 Φ_3 F3 ⟨ap3,fr3,D3,rfl,rfl,h3,i3⟩
 replace h2:=h2.fr fr3 (ap3.q 0 rfl) (Dj.sub (ap3.o ph1_0.old) i2)
 refine arr 4 [] rfl<|kcb [1] h rfl rfl rfl rfl (fun b ap z q=>gu N b x2 (bR N) h2 DG (fun hle' hin a0 a1=>fun f0 f1 f2 f3=>fun hr=>jB N (ba hin) a0 a1 f0 f1 f2 f3 hr) (Dj.sub (ap.o ph1_0.old) i2) q) ?_
 rintro x4 h v6 Φ_4 F4 ⟨ap4,fr4,D4,rfl,rfl,h4,i4⟩
 replace h3:=h3.fr fr4 (ap4.q 0 rfl) (Dj.sub (Dj.sub (ap4.o ph0_0.old) i1) i3)
 refine arr 5 [] rfl<|qc h (gr N · x3 x4 (jQ N) h3.rsl h4.rsl GK (fun hle' hin a0 a1=>fun f0 f1 f2 f3=>fun hr=>wK N (ba hin) a0 a1 f0 f1 f2 f3 hr) ·) rfl rfl rfl fun x5 h=>la rfl<|en ?_
 exact rt hF h
theorem tw (w0:af Ψ Φ []) (p0:aF) (p1:aF) (ph0_0:RSl cc 1 Ψ pG0_0 pv0_0 p0.Levels) (ph1_0:RSl cc 1 Ψ pG1_0 pv1_0 p1.Levels) {r:Bool} (h:ef N p0 p1=some r) :
  CB w0 prog 68 [.agg [pv0_0].toArray,.agg [pv1_0].toArray] (.bool r):=by
 refine eN func68 rfl ntmps68 rfl w0 fun hF=>?_
 unfold ef at h
 refine sr ?_
 refine ln (jI (C:=#[pv0_0]) rfl rfl) rfl (fun b_1=>?_)
 refine ln (jI (C:=#[pv1_0]) rfl rfl) rfl (fun b_2=>?_)
 refine arr 8 [0,32,0,0] rfl<|qz h (fun b z q=>eS N b p0.Levels p1.Levels (fL N) (ph0_0.y z) (ph1_0.y z) Ja (fun hle' hin a0 a1=>fun f0 f1=>fun hr=>uv N (ba hin) a0 a1 f0 f1 hr) q) rfl rfl rfl fun x1 h=>la rfl<|en ?_
 exact rt hF h
theorem wT (w0:af Ψ Φ []) (p0:aJ) (p1:aJ) (ph0_0:RSl dp 1 Ψ pG0_0 pv0_0 p0.Alphas) (ph0_1:RSl ff 1 Ψ pG0_1 pv0_1 p0.Rules) (ph1_0:RSl dp 1 Ψ pG1_0 pv1_0 p1.Alphas) (ph1_1:RSl ff 1 Ψ pG1_1 pv1_1 p1.Rules) {r:Bool} (h:mF N p0 p1=some r) :
  CB w0 prog 32 [.agg [pv0_0,pv0_1].toArray,.agg [pv1_0,pv1_1].toArray] (.bool r):=by
 refine eN func32 rfl ntmps32 rfl w0 fun hF=>?_
 unfold mF at h
 refine sr<|lbx rfl fun b_1=>lbx rfl fun b_2=>arr 8 [0,32,0,0] rfl<|qz h (fun b z q=>gt N b p0.Alphas p1.Alphas (eX N) (ph0_0.y z) (ph1_0.y z) IN (fun hle' hin a0 a1=>fun f0 f1=>fun hr=>tR N (ba hin) a0 a1 f0 f1 hr) q) rfl rfl rfl fun x1 h=>arr 6 [] rfl ?_
 obtain ⟨b1,hb_1,h⟩:=bs h
 refine WL.cutN 6 [(18,.bool b1),(4,.bool false)] ?_ (fun K=>?_)
 rotate_left
 ·refine sp 12 hb_1 rfl (fun hb_1=>?_) fun hb_1=>?_
  ·refine arr 4 [1,32,1,0] rfl<|ly rfl rfl<|qz hb_1 (fun b z q=>gq N b p0.Rules p1.Rules (ef N) (ph0_1.y z) (ph1_1.y z) JK (fun hle' hin a0 a1=>fun f0 f1=>fun hr=>tw N (ba hin) a0 a1 f0 f1 hr) q) rfl rfl rfl fun x2 hb_1=>la rfl ?_
   cases hb_1
   exact ku K
  ·refine arr 6 [] rfl ?_
   cases hb_1
   exact ku K
 refine la rfl<|en ?_
 exact rt hF h
theorem wh (w0:af Ψ Φ []) (p0:ao) (ph0_0:RSl cu 5 Ψ pG0_0 pv0_0 p0.Args) {r:aj} (h:mD N p0=some r) :
  Calls prog 165 [.agg [.string p0.Kind,pv0_0,.bool p0.Not].toArray].toArray w0.w (aR Φ w0.w [] (fun Φ' Fs v=>∃ (sr_0_0:Value) (sr_0_1:Value),v = .agg [.string r.Kind,iV r.N,sr_0_0,sr_0_1].toArray∧Fs=[ob sr_0_0,ob sr_0_1]∧OSl aD 167 3 Φ' [] sr_0_0 r.Consts∧OSl (RI .i64) 3 1 Φ' [] sr_0_1 r.At)):=by
 refine eN func165 rfl ntmps165 rfl w0 fun hF=>?_
 unfold mD at h
 refine sr<|lbx rfl fun b_1=>lnz nO rfl fun b_2=>arr 7 [0,32,1,32] rfl<|lnr ph0_0 rfl<|lq (cA (vs:=[(0,.string p0.Kind),(1,iV (p0.Args.length:Int))]) (C:=#[.string p0.Kind,iV (p0.Args.length:Int),.slice none 0 0,.slice none 0 0]) Fq nO rfl (ai (C':=[.string p0.Kind,iV 0,.slice none 0 0,.slice none 0 0]) rfl rfl rfl rfl rfl (ai (C':=[.string p0.Kind,iV (p0.Args.length:Int),.slice none 0 0,.slice none 0 0]) rfl rfl rfl rfl rfl (au)))) rfl<|lnz nO rfl fun b_3=>?_
 refine soN 0 sV rfl ⟨rfl,rfl,rfl,rfl,trivial⟩ rfl ?_
 refine arr 6 [1,64] rfl<|lnr ph0_0 rfl<|art 3 [] rfl<|wtS ?_
 have k1:=OSl.nil aD 167 3 Φ
 refine wtS ?_
 have k2:=OSl.nil (RI .i64) 3 1 Φ
 refine lin (σ:=Hp × (List aP) × Value × (List Int) × Value × Int) (fun s=>[(2,pQ b_2),(3,pQ b_3),(13,pv0_0),(14,iV (p0.Args.length:Int)),(15,iV s.2.2.2.2.2)]) (fun s=>St w0 s.1 [(b_3,.cells #[.string p0.Kind,iV (p0.Args.length:Int),s.2.2.1,s.2.2.2.2.1] 128 (0,0)),(b_2,.cells #[.string (⟨#[]⟩:ByteArray),iV 0,.slice none 0 0,.slice none 0 0] 128 (0,0))] [ob s.2.2.2.2.1,ob s.2.2.1]) (fun m s=>e8 N p0 m s.2.1 s.2.2.2.1 s.2.2.2.2.2=some r∧(OSl aD 167 3 s.1 [] s.2.2.1 s.2.1)∧(OSl (RI .i64) 3 1 s.1 [] s.2.2.2.2.1 s.2.2.2.1)) (Φ,([]:List aP),(.slice none 0 0),([]:List Int),(.slice none 0 0),0) N ⟨h,k1,k2⟩ (sx [0,0] [0,0]) (fun n1 ih1 s hm=>?_)
 obtain ⟨Φ_1,s1,u1,s2,u2,s3⟩:=s
 obtain ⟨h,k3,k4⟩:=hm
 dsimp only at h k3 k4 ⊢
 unfold e8 at h
 refine att 5 [] rfl ?_
 refine ch h rfl ?_ ?_ <;> intro h
 ·refine atr 6 [] rfl ?_
  obtain ⟨x1,hx1,h⟩:=bs h
  obtain ⟨cs1,F1,-,g1,hb1,hs1,r1⟩:=ph0_0.el (a7 hx1).2.2
  obtain ⟨rfl,-⟩:=r1
  refine lia ph0_0 hx1 rfl<|lhx 0 5 g1 rfl<|lnz mH rfl fun b_4=>la rfl<|soN 0 oV rfl ⟨rfl,rfl,rfl,rfl,rfl,trivial⟩ rfl ?_
  refine art 7 [0,0] rfl ?_
  refine ch h rfl ?_ ?_ <;> intro h
  ·refine atr 6 [2,32,2,3] rfl ?_
   have rc1:RC aD 3 Φ_1 ([[]]:List (List Nat)) [iV x1.V.K,iV x1.V.N,.string x1.V.S] ([x1.V]:List aP):=RC.cons (c:=[iV x1.V.K,iV x1.V.N,.string x1.V.S]) (cells:=[]) ⟨rfl,rfl⟩ rfl (RC.nil _ _ _)
   refine le' (cU (vs:=[(0,.agg [iV x1.V.K,iV x1.V.N,.string x1.V.S].toArray)]) (C:=#[iV x1.V.K,iV x1.V.N,.string x1.V.S]) aD.lasts dA iw rfl rfl rfl rfl (aK C4 (ai (C':=[iV x1.V.K,iV x1.V.N,.string x1.V.S]) rfl rfl rfl rfl rfl (au))) rfl rc1 rfl (by simpa using Kw.nil)) rfl ?_
   rintro v1 Φ_2 D1 ⟨fr1,h1⟩
   replace h1:OSl aD 167 3 Φ_2 [] v1 ([x1.V]:List aP):=by simpa using h1
   replace k3:=k3.f0 fr1
   replace k4:=k4.f0 fr1
   obtain ⟨x2,hx2,h⟩:=bs h
   refine le' (dE aD.lasts aD.one aD.flat dA Av rfl rfl rfl rfl rfl (js:=[2]) (Rr:=[ob v1,ob u2]) rfl k3 h1.rsl hx2) rfl ?_
   rintro v2 Φ_3 D2 ⟨⟨ap1,fr2⟩,h2⟩
   replace k4:=k4.fr fr2 (ap1.q 1 rfl) dN
   refine lf Ey rfl rfl rfl<|so1 1 AU rfl h2.one ?_
   refine arr 5 [3,32] rfl ?_
   have rc2:RC (RI .i64) 1 Φ_3 ([[]]:List (List Nat)) [iV s3] ([s3]:List Int):=RC.cons (c:=[iV s3]) (cells:=[]) ⟨rfl,rfl⟩ rfl (RC.nil _ _ _)
   refine le' (cU (vs:=[(0,iV s3)]) (C:=#[iV s3]) RI.lasts bD pb rfl rfl rfl rfl (aK kv (ai (C':=[iV s3]) rfl rfl rfl rfl rfl (au))) rfl rc2 rfl (by simpa using Kw.nil)) rfl ?_
   rintro v3 Φ_4 D3 ⟨fr3,h3⟩
   replace h3:OSl (RI .i64) 3 1 Φ_4 [] v3 ([s3]:List Int):=by simpa using h3
   replace h2:=h2.f0 fr3
   replace k4:=k4.f0 fr3
   obtain ⟨x3,hx3,h⟩:=bs h
   refine le' (dE RI.lasts RI.one RI.flat bD tA rfl rfl rfl rfl rfl (js:=[3]) (Rr:=[ob v3,ob v2,ob v1]) rfl k4 h3.rsl hx3) rfl ?_
   rintro v4 Φ_5 D4 ⟨⟨ap2,fr4⟩,h4⟩
   replace h2:=h2.fr fr4 (ap2.q 1 rfl) dN
   refine lf A5 rfl rfl rfl<|so1 1 qm rfl h4.one ?_
   refine art 6 [] rfl ?_
   exact lb [0,1] [1,1] (ih1 (_,_,_,_,_,_) ⟨h,h2,h4⟩)
  refine att 6 [] rfl ?_
  exact lb [0,0] [1,1] (ih1 (_,_,_,_,_,_) ⟨h,k3,k4⟩)
 refine atr 4 [4] rfl<|soN 1 sV rfl ⟨rfl,rfl,k3.one,k4.one,trivial⟩ rfl ?_
 refine en ?_
 exact rtg [1,0] hF (aG.one (bw sX rfl (fun w1 hw=>hw.rgO (i:=1) rfl 0 4 [.string p0.Kind,iV (p0.Args.length:Int),u1,u2] rfl) rfl)) rfl (by cases h; exact fun w1 hw=>⟨u1,u2,rfl,rfl,k3,k4⟩)
theorem ud (w0:af Ψ Φ []) (p0:aj) (p1:aj) (ph0_0:RSl aD 3 Ψ pG0_0 pv0_0 p0.Consts) (ph0_1:RSl (RI .i64) 1 Ψ pG0_1 pv0_1 p0.At) (ph1_0:RSl aD 3 Ψ pG1_0 pv1_0 p1.Consts) (ph1_1:RSl (RI .i64) 1 Ψ pG1_1 pv1_1 p1.At) {r:Bool} (h:jj N p0 p1=some r) :
  CB w0 prog 166 [.agg [.string p0.Kind,iV p0.N,pv0_0,pv0_1].toArray,.agg [.string p1.Kind,iV p1.N,pv1_0,pv1_1].toArray] (.bool r):=by
 refine eN func166 rfl ntmps166 rfl w0 fun hF=>?_
 unfold jj at h
 refine sr<|lbx rfl fun b_1=>lbx rfl fun b_2=>arr 10 [0,32,0,0] rfl ?_
 obtain ⟨b1,hb_1,h⟩:=bs h
 refine WL.cutN 6 [(16,.bool b1),(2,pQ b_1),(3,pQ b_2),(4,.bool false)] ?_ (fun K=>?_)
 rotate_left
 ·refine sp 10 hb_1 rfl (fun hb_1=>?_) fun hb_1=>?_
  ·refine arr 6 [1,32,1,0] rfl ?_
   cases hb_1
   exact ku K
  ·refine arr 6 [] rfl ?_
   cases hb_1
   exact ku K
 refine la rfl ?_
 obtain ⟨b2,hb_2,h⟩:=bs h
 refine WL.cutN 6 [(23,.bool b2),(2,pQ b_1),(3,pQ b_2),(4,.bool false)] ?_ (fun K=>?_)
 rotate_left
 ·refine sp 17 hb_2 rfl (fun hb_2=>?_) fun hb_2=>?_
  ·refine arr 4 [2,32,2,0] rfl<|ly rfl rfl<|qd hb_2 (iI N · p0.Consts p1.Consts ph0_0 ph1_0 ·) rfl rfl rfl fun x1 hb_2=>la rfl ?_
   cases hb_2
   exact ku K
  ·refine arr 6 [] rfl ?_
   cases hb_2
   exact ku K
 refine la rfl ?_
 obtain ⟨b3,hb_3,h⟩:=bs h
 refine WL.cutN 6 [(30,.bool b3),(4,.bool false)] ?_ (fun K=>?_)
 rotate_left
 ·refine sp 24 hb_3 rfl (fun hb_3=>?_) fun hb_3=>?_
  ·refine arr 4 [3,32,3,0] rfl<|ly rfl rfl<|qd hb_3 (kE N · p0.At p1.At ph0_1 ph1_1 ·) rfl rfl rfl fun x2 hb_3=>la rfl ?_
   cases hb_3
   exact ku K
  ·refine arr 6 [] rfl ?_
   cases hb_3
   exact ku K
 refine la rfl<|en ?_
 exact rt hF h
theorem t8 (w0:af Ψ Φ [[pb0],ob pv0_0,pD0_0].flatten) (p0:bB) (p1:ao) (ph0_0:OSl cg 128 4 Φ pD0_0 pv0_0 p0.Alphas) (ph0_1:RSl er 2 Ψ pG0_1 pv0_1 p0.Chains) (pp0:Φ pb0=some (.cells #[pv0_0,pv0_1] 62 (0,0))) (ph1_0:RSl cu 5 Ψ pG1_0 pv1_0 p1.Args) {r:Int × bB} (h:gQ N p0 p1=some r) :
  Calls prog 120 [pQ pb0,.agg [.string p1.Kind,pv1_0,.bool p1.Not].toArray].toArray w0.w (aR Φ w0.w [[pb0],ob pv0_0,pD0_0].flatten (fun Φ' Fs v=>∃ (so_0_0:Value) (Do_0_0:List Nat),v=iV r.1∧Fs=[[pb0],ob so_0_0,Do_0_0]∧OSl cg 128 4 Φ' Do_0_0 so_0_0 r.2.Alphas∧r.2.Chains=p0.Chains∧Φ' pb0=some (.cells #[so_0_0,pv0_1] 62 (0,0)))):=by
 refine eL func120 rfl ntmps120 rfl (L:=[[pb0],ob pv0_0,pD0_0]) w0 (fun hF=>?_)
 unfold gQ at h
 refine sr<|lbx rfl fun b_1=>arr 5 [3] rfl<|kab h rfl rfl rfl (fun b z q=>wh N b p1 (ph1_0.y z) q) ?_
 rintro x1 h v1 Φ_1 F1 ⟨ap1,fr1,v2,v3,rfl,rfl,h1,h2⟩
 replace ph0_0:=ph0_0.fr fr1 (ap1.q 1 rfl) (ap1.q 2 rfl)
 replace pp0:=fr1 _ _ ((ap1.q 0 rfl) _ (by simp)) pp0
 refine lnz nO rfl fun b_2=>soN 0 sV rfl ⟨rfl,rfl,h1.one,h2.one,trivial⟩ rfl ?_
 refine arr 5 [] rfl<|lq (dG rfl) rfl<|lf oa rfl rfl rfl<|lgx 0 0 (jl pp0) rfl<|lno ph0_0 rfl<|art 3 [] rfl ?_
 refine lin (σ:=Int) (fun s=>[(0,pQ pb0),(5,pQ b_2),(13,pv0_0),(14,iV (p0.Alphas.length:Int)),(15,iV s)]) (fun s=>St w0 Φ_1 [(b_2,.cells #[.string x1.Kind,iV x1.N,v2,v3] 128 (0,0))] [ob v2,ob v3,[pb0],ob pv0_0,pD0_0]) (fun m s=>ct N p0 x1 m s=some r) (0) N h (sx [0,0,0,0,0] [0]) (fun n1 ih1 s hm=>?_)
 revert hm; revert s; intro s1 hm
 have h:ct N p0 x1 (n1+1) s1=some r:=hm
 show WT _ _ [(0,pQ pb0),(5,pQ b_2),(13,pv0_0),(14,iV (p0.Alphas.length:Int)),(15,iV s1)] (St w0 Φ_1 [(b_2,.cells #[.string x1.Kind,iV x1.N,v2,v3] 128 (0,0))] [ob v2,ob v3,[pb0],ob pv0_0,pD0_0])
 unfold ct at h
 refine att 5 [] rfl ?_
 refine ch h rfl ?_ ?_ <;> intro h
 ·refine atr 6 [] rfl ?_
  obtain ⟨x2,hx2,h⟩:=bs h
  obtain ⟨cs1,F2,-,g1,hb1,hs1,r1⟩:=ph0_0.elS (a7 hx2).2.2
  obtain ⟨v4,v5,rfl,rfl,h3,h4⟩:=r1
  have h5:=h3.rsl
  have h6:=h4.rsl
  refine lio ph0_0 hx2 rfl<|lgx 0 4 g1 rfl<|lnz nO rfl fun b_3=>la rfl<|soN 0 sV rfl ⟨rfl,rfl,h5.one,h6.one,trivial⟩ rfl ?_
  refine arr 5 [4,36] rfl<|qc h (ud N · x2 x1 h5 h6 h1.rsl h2.rsl ·) rfl rfl rfl fun x3 h=>en ?_
  refine ch h rfl ?_ ?_ <;> intro h
  ·refine att 5 [] rfl ?_
   exact rtg [2,2,2] hF (aG.one rfl) rfl (by cases h; exact fun w1 hw=>⟨pv0_0,pD0_0,rfl,rfl,ph0_0,rfl,pp0⟩)
  refine att 6 [] rfl ?_
  exact lb [0,0,0,0,0] [1] (ih1 _ h)
 refine xt rfl<|sq<|WT.mix (Kn w0 Φ_1 [pb0] [(b_2,.cells #[.string x1.Kind,iV x1.N,v2,v3] 128 (0,0))]) (fun i=>match i with | 10=>false | _=>true) mixed (fun _ h=>h.drew)<|ma 0 rfl (by kernel_rfl) (kn Kf.id (am [0] rfl)) rfl<|ma 1 rfl (by kernel_rfl) (kn Kf.id (am [0] rfl)) rfl<|mq 2 rfl (by kernel_rfl) (kn Kf.id (am [0] rfl)) (dG rfl) rfl<|mq 3 rfl (by kernel_rfl) (kn Kf.id (am [0] rfl)) (ax oa rfl) rfl ?_
 refine mq 4 rfl (by kernel_rfl) (kn Kf.id (am [0] rfl)) (aM Gv rfl (fun w1 hw=>hw.rg (by simp) ((jl pp0).of_eq 0 1 rfl rfl:rg _ _ _ [pv0_0]))) rfl<|mq 5 rfl (by kernel_rfl) (kn Kf.id (am [0] rfl)) (aq sX rfl (fun w1 hw=>hw.rgO (i:=0) rfl 0 4 [.string x1.Kind,iV x1.N,v2,v3] rfl) rfl) rfl ?_
 have rc1:RC cg 4 Φ_1 ([(ob v2++[])++((ob v3++[]))]:List (List Nat)) [.string x1.Kind,iV x1.N,v2,v3] ([x1]:List aj):=RC.cons (c:=[.string x1.Kind,iV x1.N,v2,v3]) (cells:=[]) ⟨v2,v3,rfl,rfl,h1,h2⟩ rfl (RC.nil _ _ _)
 refine WM.one 6 (by kernel_rfl) (me rfl (fun _ v Φx D w1 hq hw=>Kn.of (Kf.id.se hq.1) (am [0] rfl) hw) (cU (vs:=[(0,.agg [.string x1.Kind,iV x1.N,v2,v3].toArray)]) (C:=#[.string x1.Kind,iV x1.N,v2,v3]) cg.lasts zM nO rfl rfl rfl rfl (aK Cn (ai (C':=[.string x1.Kind,iV x1.N,v2,v3]) rfl rfl rfl rfl rfl (au))) rfl rc1 rfl (RC.kn cg.knows rc1)) rfl ?_)
 rintro v6 Φ_2 D1 ⟨fr2,h7⟩
 replace h7:OSl cg 128 4 Φ_2 ((ob v2++[])++((ob v3++[]))) v6 ([x1]:List aj):=by simpa [List.append_assoc] using h7
 replace ph0_0:=ph0_0.f0 fr2
 replace pp0:=fr2 _ _ (by simp) pp0
 refine WM.conv (S':=St w0 Φ_2 [(b_2,.cells #[.string x1.Kind,iV x1.N,v2,v3] 128 (0,0))] [((ob v2++[])++((ob v3++[]))),ob v6,[pb0],ob pv0_0,pD0_0]) (fun w1 hw=>hw.merge (js:=[1,1]) rfl (SP.eq (by simp [List.append_assoc,bW]))) ?_
 obtain ⟨x4,hx4,h⟩:=bs h
 have kf1:=(Kf.id (F:=[pb0]):Kf Φ_1 _ _).se fr2
 refine WM.one 7 (by kernel_rfl) (me rfl (fun _ v Φx D w1 hq hw=>Kn.of (kf1.st hq.1.2 (hq.1.1.r (i:=2) rfl)) (am [0] rfl) hw) (j6 cg.lasts cg.one zM Ff rfl rfl rfl rfl rfl (js:=[3]) (Rr:=[((ob v2++[])++((ob v3++[]))),ob v6,[pb0],pD0_0]) rfl ph0_0 h7 (fun ap=>ap.q 3 rfl) (fun ap=>ap.q 0 rfl) hx4) rfl ?_)
 rintro v7 Φ_3 D2 ⟨⟨ap2,fr3⟩,h8⟩
 replace pp0:=fr3 _ _ ((ap2.q 2 rfl) _ (by simp)) pp0
 refine WM.conv (S':=St w0 Φ_3 [(b_2,.cells #[.string x1.Kind,iV x1.N,v2,v3] 128 (0,0))] [(pD0_0++((ob v2++[])++((ob v3++[])))),ob v7,ob v6,[pb0]]) (fun w1 hw=>hw.merge (js:=[4,1]) rfl (SP.eq (by simp))) ?_
 have kf2:=kf1.st fr3 (ap2.q 2 rfl)
 refine mqT 8 [9,10] rfl (by kernel_rfl) (kn kf2 (am [0] rfl)) (dG rfl) rfl<|mq 9 rfl (by kernel_rfl) (kn kf2 (am [0] rfl)) (ax oa rfl) rfl ?_
 refine WM.thw (js:=[3]) (R:=[(pD0_0++((ob v2++[])++((ob v3++[])))),ob v7,ob v6]) rfl pp0 (fun Φ_4 ap3 fr4=>?_)
 replace h8:=h8.fr fr4 (ap3.q 1 rfl) (ap3.q 0 rfl)
 refine on1 10 (ms1 0 rfl nk HQ rfl h8.one ?_)
 refine WM.nil (by kernel_rfl)<|sr<|la rfl<|lq (dG rfl) rfl<|arr 2 [0,0] rfl<|lno h8 rfl<|art 3 [] rfl ?_
 refine WT.frz (js:=[0]) (R:=[(b_2,.cells #[.string x1.Kind,iV x1.N,v2,v3] 128 (0,0))]) rfl (fun Φ_5 fr5 k1=>?_)
 replace h8:=h8.f0 fr5
 exact rtg [0,1,0] hF (aG.one rfl) rfl (by cases h; exact fun w1 hw=>⟨v7,(pD0_0++((ob v2++[])++((ob v3++[])))),rfl,rfl,h8,rfl,k1⟩)
theorem Ao (w0:af Ψ Φ []) (p0:bh) (ph0_0:RSl bV 5 Ψ pG0_0 pv0_0 p0.Rules) {r:bB} (h:qr N p0=some r) :
  Calls prog 71 [.agg [.string p0.Name,pv0_0].toArray].toArray w0.w (aR Φ w0.w [] (fun Φ' Fs v=>∃ (sr_0_0:Value) (Dr_0_0:List Nat) (sr_0_1:Value) (Dr_0_1:List Nat),v = .agg [sr_0_0,sr_0_1].toArray∧Fs=[ob sr_0_0,Dr_0_0,ob sr_0_1,Dr_0_1]∧OSl cg 128 4 Φ' Dr_0_0 sr_0_0 r.Alphas∧OSl bi 121 2 Φ' Dr_0_1 sr_0_1 r.Chains)):=by
 refine eN func71 rfl ntmps71 rfl w0 fun hF=>?_
 unfold qr at h
 refine sr<|lbx rfl fun b_1=>lnz vZ rfl fun b_2=>en<|sr<|lnz vZ rfl fun b_3=>arr 6 [1,64] rfl<|lnr ph0_0 rfl<|art 3 [] rfl<|wtS<|wt0 ?_
 have k1:=OSl.nil cg 128 4 Φ
 refine wtS<|wt0 ?_
 have k2:=OSl.nil bi 121 2 Φ
 refine lin (σ:=Hp × (List aj) × Value × List Nat × (List aC) × Value × List Nat × Int) (fun s=>[(2,pQ b_2),(3,pQ b_3),(11,pv0_0),(12,iV (p0.Rules.length:Int)),(13,iV s.2.2.2.2.2.2.2)]) (fun s=>St w0 s.1 [(b_3,.cells #[s.2.2.1,s.2.2.2.2.2.1] 62 (0,0)),(b_2,.cells #[.slice none 0 0,.slice none 0 0] 62 (0,0))] [s.2.2.2.2.2.2.1,ob s.2.2.2.2.2.1,s.2.2.2.1,ob s.2.2.1]) (fun m s=>dS N p0 m s.2.1 s.2.2.2.2.1 s.2.2.2.2.2.2.2=some r∧(OSl cg 128 4 s.1 s.2.2.2.1 s.2.2.1 s.2.1)∧(OSl bi 121 2 s.1 s.2.2.2.2.2.2.1 s.2.2.2.2.2.1 s.2.2.2.2.1)) (Φ,([]:List aj),(.slice none 0 0),[],([]:List aC),(.slice none 0 0),[],0) N ⟨h,k1,k2⟩ (sx [0,0,0,0] [0,0]) (fun n1 ih1 s hm=>?_)
 obtain ⟨Φ_1,s1,u1,D1,s2,u2,D2,s3⟩:=s
 obtain ⟨h,k3,k4⟩:=hm
 dsimp only at h k3 k4 ⊢
 unfold dS at h
 refine att 5 [] rfl ?_
 refine ch h rfl ?_ ?_ <;> intro h
 ·refine atr 5 [] rfl ?_
  obtain ⟨x1,hx1,h⟩:=bs h
  obtain ⟨cs1,F1,-,g1,hb1,hs1,r1⟩:=ph0_0.el (a7 hx1).2.2
  obtain ⟨v1,G1,v2,G2,v3,G3,rfl,rfl,h1,h2,h3⟩:=r1
  refine lia ph0_0 hx1 rfl<|lhx 0 5 g1 rfl<|lnz un rfl fun b_4=>soN 0 vD rfl ⟨rfl,rfl,h1.one,h2.one,h3.one,trivial⟩ rfl ?_
  refine en<|sr<|lnz ub rfl fun b_5=>arr 6 [2,32] rfl<|lnr h1 rfl<|art 3 [] rfl<|wtS ?_
  have k5:=OSl.nil (RI .i64) 3 1 Φ_1
  refine wtS ?_
  have k6:=OSl.nil (RI .i64) 3 1 Φ_1
  refine lin (σ:=Hp × (List aj) × Value × List Nat × (List Int) × Value × (List Int) × Value × Int) (fun s=>[(2,pQ b_2),(3,pQ b_3),(6,pQ b_5),(11,pv0_0),(12,iV (p0.Rules.length:Int)),(13,iV s3),(18,v1),(19,iV (x1.Pats.length:Int)),(20,iV s.2.2.2.2.2.2.2.2)]) (fun s=>St w0 s.1 [(b_5,.cells #[s.2.2.2.2.2.2.2.1,s.2.2.2.2.2.1] 121 (0,0)),(b_3,.cells #[s.2.2.1,u2] 62 (0,0)),(b_2,.cells #[.slice none 0 0,.slice none 0 0] 62 (0,0))] [ob s.2.2.2.2.2.2.2.1,ob s.2.2.2.2.2.1,D2,ob u2,s.2.2.2.1,ob s.2.2.1]) (fun m s=>eD N s2 s3 (dS N p0 n1) x1 m s.2.1 s.2.2.2.2.1 s.2.2.2.2.2.2.1 s.2.2.2.2.2.2.2.2=some r∧(OSl cg 128 4 s.1 s.2.2.2.1 s.2.2.1 s.2.1)∧(OSl bi 121 2 s.1 D2 u2 s2)∧(OSl (RI .i64) 3 1 s.1 [] s.2.2.2.2.2.1 s.2.2.2.2.1)∧(OSl (RI .i64) 3 1 s.1 [] s.2.2.2.2.2.2.2.1 s.2.2.2.2.2.2.1)) (Φ_1,s1,u1,D1,([]:List Int),(.slice none 0 0),([]:List Int),(.slice none 0 0),0) N ⟨h,k3,k4,k5,k6⟩ (sx [0,0,0,0,0,0] [0,1,1]) (fun n2 ih2 s hm=>?_)
  obtain ⟨Φ_2,s4,u3,D3,s5,u4,s6,u5,s7⟩:=s
  obtain ⟨h,k7,k4,k8,k9⟩:=hm
  dsimp only at h k7 k4 k8 k9 ⊢
  unfold eD at h
  refine att 5 [] rfl ?_
  refine ch h rfl ?_ ?_ <;> intro h
  ·refine atr 5 [] rfl ?_
   obtain ⟨x2,hx2,h⟩:=bs h
   obtain ⟨cs2,F2,-,g2,hb2,hs2,r2⟩:=h1.el (a7 hx2).2.2
   obtain ⟨v4,G4,rfl,hq1,h4⟩:=r2
   obtain rfl:=hq1.symm
   refine lia h1 hx2 rfl<|lhx 0 3 g2 rfl<|lnz mN rfl fun b_6=>soN 0 pX rfl ⟨rfl,h4.one,rfl,trivial⟩ rfl ?_
   refine arr 4 [3] rfl ?_
   refine WL.frz (js:=[2]) (R:=[(b_6,.cells #[.string x2.Kind,v4,.bool x2.Not] 124 (0,0)),(b_5,.cells #[u5,u4] 121 (0,0)),(b_2,.cells #[.slice none 0 0,.slice none 0 0] 62 (0,0))]) rfl (fun Φ_3 fr1 k10=>?_)
   replace k7:=k7.f0 fr1
   replace k4:=k4.f0 fr1
   replace k8:=k8.f0 fr1
   replace k9:=k9.f0 fr1
   refine kcb [0,5,4] h rfl rfl rfl rfl (fun b ap z q=>t8 N b (⟨s4,s2⟩:bB) x2 k7 ((k4.rslG bi.gives).x (Dj.app (ap.q 3 rfl) (ap.q 2 rfl))) k10 (h4.y z) q) ?_
   rintro x3 h v5 Φ_4 F3 ⟨ap1,fr2,v6,D4,rfl,rfl,h5,e1,h6⟩
   replace k4:=k4.fr fr2 (ap1.q 3 rfl) (ap1.q 2 rfl)
   replace k8:=k8.fr fr2 (ap1.q 1 rfl) dN
   replace k9:=k9.fr fr2 (ap1.q 0 rfl) dN
   refine art 7 [2,0] rfl ?_
   refine ch h rfl ?_ ?_ <;> intro h
   ·refine atr 4 [1,32] rfl ?_
    have rc1:RC (RI .i64) 1 Φ_4 ([[]]:List (List Nat)) [iV x3.1] ([x3.1]:List Int):=RC.cons (c:=[iV x3.1]) (cells:=[]) ⟨rfl,rfl⟩ rfl (RC.nil _ _ _)
    refine le' (cU (vs:=[(0,iV x3.1)]) (C:=#[iV x3.1]) RI.lasts bD pb rfl rfl rfl rfl (aK kv (ai (C':=[iV x3.1]) rfl rfl rfl rfl rfl (au))) rfl rc1 rfl (by simpa using Kw.nil)) rfl ?_
    rintro v7 Φ_5 D5 ⟨fr3,h7⟩
    replace h7:OSl (RI .i64) 3 1 Φ_5 [] v7 ([x3.1]:List Int):=by simpa using h7
    replace k4:=k4.f0 fr3
    replace k8:=k8.f0 fr3
    replace k9:=k9.f0 fr3
    replace h5:=h5.f0 fr3
    replace h6:=fr3 _ _ (by simp) h6
    obtain ⟨x4,hx4,h⟩:=bs h
    refine le' (dE RI.lasts RI.one RI.flat bD tA rfl rfl rfl rfl rfl (js:=[5]) (Rr:=[ob v7,[b_3],ob v6,D4,ob u5,D2,ob u2]) rfl k8 h7.rsl hx4) rfl ?_
    rintro v8 Φ_6 D6 ⟨⟨ap2,fr4⟩,h8⟩
    replace k4:=k4.fr fr4 (ap2.q 6 rfl) (ap2.q 5 rfl)
    replace k9:=k9.fr fr4 (ap2.q 4 rfl) dN
    replace h5:=h5.fr fr4 (ap2.q 2 rfl) (ap2.q 3 rfl)
    replace h6:=fr4 _ _ ((ap2.q 1 rfl) _ (by simp)) h6
    refine lf ua rfl rfl rfl<|so1 1 qm rfl h8.one ?_
    refine art 6 [] rfl ?_
    refine WT.thw (js:=[2]) (R:=[ob v8,ob v7,ob v6,D4,ob u5,D2,ob u2]) rfl h6 (fun Φ_7 ap3 fr5=>?_)
    replace k4:=k4.fr fr5 (ap3.q 6 rfl) (ap3.q 5 rfl)
    replace h8:=h8.fr fr5 (ap3.q 0 rfl) dN
    replace k9:=k9.fr fr5 (ap3.q 4 rfl) dN
    replace h5:=h5.fr fr5 (ap3.q 2 rfl) (ap3.q 3 rfl)
    exact lb [4,0,3,3,2,1] [2,0,1] (ih2 (_,_,_,_,_,_,_,_,_) ⟨h,h5,k4,h8,k9⟩)
   refine atr 4 [0,32] rfl ?_
   have rc2:RC (RI .i64) 1 Φ_4 ([[]]:List (List Nat)) [iV x3.1] ([x3.1]:List Int):=RC.cons (c:=[iV x3.1]) (cells:=[]) ⟨rfl,rfl⟩ rfl (RC.nil _ _ _)
   refine le' (cU (vs:=[(0,iV x3.1)]) (C:=#[iV x3.1]) RI.lasts bD pb rfl rfl rfl rfl (aK kv (ai (C':=[iV x3.1]) rfl rfl rfl rfl rfl (au))) rfl rc2 rfl (by simpa using Kw.nil)) rfl ?_
   rintro v9 Φ_8 D7 ⟨fr6,h9⟩
   replace h9:OSl (RI .i64) 3 1 Φ_8 [] v9 ([x3.1]:List Int):=by simpa using h9
   replace k4:=k4.f0 fr6
   replace k8:=k8.f0 fr6
   replace k9:=k9.f0 fr6
   replace h5:=h5.f0 fr6
   replace h6:=fr6 _ _ (by simp) h6
   obtain ⟨x5,hx5,h⟩:=bs h
   refine le' (dE RI.lasts RI.one RI.flat bD tA rfl rfl rfl rfl rfl (js:=[4]) (Rr:=[ob v9,[b_3],ob v6,D4,ob u4,D2,ob u2]) rfl k9 h9.rsl hx5) rfl ?_
   rintro v10 Φ_9 D8 ⟨⟨ap4,fr7⟩,h10⟩
   replace k4:=k4.fr fr7 (ap4.q 6 rfl) (ap4.q 5 rfl)
   replace k8:=k8.fr fr7 (ap4.q 4 rfl) dN
   replace h5:=h5.fr fr7 (ap4.q 2 rfl) (ap4.q 3 rfl)
   replace h6:=fr7 _ _ ((ap4.q 1 rfl) _ (by simp)) h6
   refine lf sd rfl rfl rfl<|so1 1 qm rfl h10.one ?_
   refine art 6 [] rfl ?_
   refine WT.thw (js:=[2]) (R:=[ob v10,ob v9,ob v6,D4,ob u4,D2,ob u2]) rfl h6 (fun Φ_10 ap5 fr8=>?_)
   replace k4:=k4.fr fr8 (ap5.q 6 rfl) (ap5.q 5 rfl)
   replace k8:=k8.fr fr8 (ap5.q 4 rfl) dN
   replace h10:=h10.fr fr8 (ap5.q 0 rfl) dN
   replace h5:=h5.fr fr8 (ap5.q 2 rfl) (ap5.q 3 rfl)
   exact lb [0,3,3,3,2,1] [2,0,1] (ih2 (_,_,_,_,_,_,_,_,_) ⟨h,h5,k4,k8,h10⟩)
  refine atr 5 [1,32,2] rfl ?_
  have rc3:RC bi 2 Φ_2 ([(ob u5++[])++((ob u4++[]))]:List (List Nat)) [u5,u4] ([(⟨s6,s5⟩:aC)]:List aC):=RC.cons (c:=[u5,u4]) (cells:=[]) ⟨u5,u4,rfl,rfl,k9,k8⟩ rfl (RC.nil _ _ _)
  refine le' (cU (vs:=[(0,.agg [u5,u4].toArray)]) (C:=#[u5,u4]) bi.lasts Ac ub rfl rfl rfl rfl (aK Cz (ai (C':=[u5,u4]) rfl rfl rfl rfl rfl (au))) rfl rc3 rfl (RC.kn bi.knows rc3)) rfl ?_
  rintro v11 Φ_11 D9 ⟨fr9,h11⟩
  replace h11:OSl bi 121 2 Φ_11 ((ob u5++[])++((ob u4++[]))) v11 ([(⟨s6,s5⟩:aC)]:List aC):=by simpa [List.append_assoc] using h11
  replace k7:=k7.f0 fr9
  replace k4:=k4.f0 fr9
  refine wlL [((ob u5++[])++((ob u4++[]))),ob v11,D2,ob u2,D3,ob u3] (smg [1,1] rfl (SP.eq (by simp [List.append_assoc,bW]))) ?_
  obtain ⟨x6,hx6,h⟩:=bs h
  refine le' (j6 bi.lasts bi.one Ac Fq0 rfl rfl rfl rfl rfl (js:=[3]) (Rr:=[((ob u5++[])++((ob u4++[]))),ob v11,D2,D3,ob u3]) rfl k4 h11 (fun ap=>ap.q 2 rfl) (fun ap=>ap.q 0 rfl) hx6) rfl ?_
  rintro v12 Φ_12 D10 ⟨⟨ap6,fr10⟩,h12⟩
  replace k7:=k7.fr fr10 (ap6.q 4 rfl) (ap6.q 3 rfl)
  refine wlL [(D2++((ob u5++[])++((ob u4++[])))),ob v12,ob v11,D3,ob u3] (smg [3,1] rfl (SP.eq (by simp)))<|lf C3 rfl rfl rfl<|so1 1 HM rfl h12.one ?_
  refine art 6 [] rfl ?_
  exact lb [0,0,1,1] [1,1] (ih1 (_,_,_,_,_,_,_,_) ⟨h,k7,h12⟩)
 refine atr 4 [2] rfl<|soN 1 Cf rfl ⟨k3.one,k4.one,trivial⟩ rfl ?_
 refine en ?_
 exact rtg [3,2,1,0] hF (aG.one (bw I6 rfl (fun w1 hw=>hw.rgO (i:=1) rfl 0 2 [u1,u2] rfl) rfl)) rfl (by cases h; exact fun w1 hw=>⟨u1,D1,u2,D2,rfl,rfl,k3,k4⟩)
theorem yu (w0:af Ψ Φ []) (p0:bB) (ph0_0:RSl bY 4 Ψ pG0_0 pv0_0 p0.Alphas) (ph0_1:RSl er 2 Ψ pG0_1 pv0_1 p0.Chains) {r:aJ} (h:nP N p0=some r) :
  Calls prog 72 [.agg [pv0_0,pv0_1].toArray].toArray w0.w (aR Φ w0.w [] (fun Φ' Fs v=>∃ (sr_0_0:Value) (Dr_0_0:List Nat) (sr_0_1:Value) (Dr_0_1:List Nat),v = .agg [sr_0_0,sr_0_1].toArray∧Fs=[ob sr_0_0,Dr_0_0,ob sr_0_1,Dr_0_1]∧OSl bv 69 1 Φ' Dr_0_0 sr_0_0 r.Alphas∧OSl bd 72 1 Φ' Dr_0_1 sr_0_1 r.Rules)):=by
 refine eN func72 rfl ntmps72 rfl w0 fun hF=>?_
 unfold nP at h
 refine sr<|lbx rfl fun b_1=>lnz pj rfl fun b_2=>arr 5 [0,32] rfl<|lnr ph0_0 rfl ?_
 obtain ⟨x1,hx1,h⟩:=bs h
 refine le' (j5 (R:=bv) pA uI HP rfl rfl rfl (fun _=>⟨.slice none 0 0,rfl,rfl,OSl.nil _ _ _ _⟩) rfl rfl (Int.le_refl _) hx1 (mY hx1)) rfl ?_
 rintro v1 Φ_1 D1 ⟨fr1,h1⟩
 refine wl0<|lq (cA (vs:=[(0,v1)]) (C:=#[v1,.slice none 0 0]) HY pj rfl (ai (C':=[v1,.slice none 0 0]) rfl (ep h1.one) rfl rfl rfl (au))) rfl<|lnz pj rfl fun b_3=>soN 0 rG rfl ⟨h1.one,rfl,trivial⟩ rfl ?_
 refine arr 6 [1,64] rfl<|lnr ph0_1 rfl<|art 3 [] rfl<|wtS<|wt0 ?_
 have k1:=OSl.nil bd 72 1 Φ_1
 refine lin (σ:=Hp × (List aF) × Value × List Nat × Int) (fun s=>[(2,pQ b_2),(3,pQ b_3),(12,pv0_1),(13,iV (p0.Chains.length:Int)),(14,iV s.2.2.2.2)]) (fun s=>St w0 s.1 [(b_3,.cells #[v1,s.2.2.1] 43 (0,0)),(b_2,.cells #[.slice none 0 0,.slice none 0 0] 43 (0,0))] [s.2.2.2.1,ob s.2.2.1,[],ob v1]) (fun m s=>fO N p0 x1 m s.2.1 s.2.2.2.2=some r∧(OSl bv 69 1 s.1 [] v1 x1)∧(OSl bd 72 1 s.1 s.2.2.2.1 s.2.2.1 s.2.1)) (Φ_1,([]:List aF),(.slice none 0 0),[],0) N ⟨h,h1,k1⟩ (sx [0,0,0,0] [0,0]) (fun n1 ih1 s hm=>?_)
 obtain ⟨Φ_2,s1,u1,D2,s2⟩:=s
 obtain ⟨h,h1,k2⟩:=hm
 dsimp only at h h1 k2 ⊢
 unfold fO at h
 refine att 5 [] rfl ?_
 refine ch h rfl ?_ ?_ <;> intro h
 ·refine atr 5 [] rfl ?_
  obtain ⟨x2,hx2,h⟩:=bs h
  obtain ⟨cs1,F1,-,g1,hb1,hs1,r1⟩:=ph0_1.el (a7 hx2).2.2
  obtain ⟨v2,G1,v3,G2,rfl,rfl,h2,h3⟩:=r1
  refine lia ph0_1 hx2 rfl<|lhx 0 2 g1 rfl<|lnz ub rfl fun b_4=>soN 0 Fl rfl ⟨h2.one,h3.one,trivial⟩ rfl ?_
  refine en<|wm [0,1,2] [10] rfl<|amm 4 [0,1,1,32,2,0,3,0] [0,1,2] rfl rfl<|mq 4 rfl (by kernel_rfl) (kN [0,1,2]) (sU bD rfl rfl h2) rfl ?_
  obtain ⟨x3,hx3,h⟩:=bs h
  refine WM.one 5 (by kernel_rfl) (me rfl (fun _ v Φx D w1 hq hw=>Kn.of Kf.nil (ai3 0 1 2 rfl rfl rfl) hw) (j5 (R:=aN) rn uC I4 rfl rfl rfl (fun _=>⟨.slice none 0 0,[],rfl,rfl,OSl.nil _ _ _ _⟩) rfl rfl (Int.le_refl _) hx3 (mY hx3)) rfl ?_)
  rintro v4 Φ_3 D3 ⟨fr2,h4⟩
  replace h1:=h1.f0 fr2
  replace k2:=k2.f0 fr2
  refine WM.conv (S':=St w0 Φ_3 [(b_4,.cells #[v2,v3] 121 (0,0)),(b_3,.cells #[v1,u1] 43 (0,0)),(b_2,.cells #[.slice none 0 0,.slice none 0 0] 43 (0,0))] ([] :: [ob v4,D2,ob u1,[],ob v1])) (fun w1 hw=>hw.addNil)<|mq 6 rfl (by kernel_rfl) (kN [0,1,2]) (cA (vs:=[(0,v4)]) (C:=#[v4]) I0 ru rfl (ai (C':=[v4]) rfl (ep h4.one) rfl rfl rfl (au))) rfl ?_
  have rc1:RC bd 1 Φ_3 ([(ob v4++[])]:List (List Nat)) [v4] ([(⟨x3⟩:aF)]:List aF):=RC.cons (c:=[v4]) (cells:=[]) ⟨v4,[],rfl,rfl,h4⟩ rfl (RC.nil _ _ _)
  refine WM.one 7 (by kernel_rfl) (me rfl (fun _ v Φx D w1 hq hw=>Kn.of Kf.nil (ai3 0 1 2 rfl rfl rfl) hw) (cU (vs:=[(0,.agg [v4].toArray)]) (C:=#[v4]) bd.lasts tf ru rfl rfl rfl rfl (aK E5 (ai (C':=[v4]) rfl rfl rfl rfl rfl (au))) rfl rc1 rfl (RC.kn bd.knows rc1)) rfl ?_)
  rintro v5 Φ_4 D4 ⟨fr3,h5⟩
  replace h5:OSl bd 72 1 Φ_4 ((ob v4++[])) v5 ([(⟨x3⟩:aF)]:List aF):=by simpa [List.append_assoc] using h5
  replace h1:=h1.f0 fr3
  replace k2:=k2.f0 fr3
  refine WM.conv (S':=St w0 Φ_4 [(b_4,.cells #[v2,v3] 121 (0,0)),(b_3,.cells #[v1,u1] 43 (0,0)),(b_2,.cells #[.slice none 0 0,.slice none 0 0] 43 (0,0))] [((ob v4++[])),ob v5,D2,ob u1,[],ob v1]) (fun w1 hw=>hw.merge (js:=[2,1]) rfl (SP.eq (by simp [List.append_assoc,bW]))) ?_
  obtain ⟨x4,hx4,h⟩:=bs h
  refine WM.one 8 (by kernel_rfl) (me rfl (fun _ v Φx D w1 hq hw=>Kn.of Kf.nil (ai3 0 1 2 rfl rfl rfl) hw) (j6 bd.lasts bd.one tf HO rfl rfl rfl rfl rfl (js:=[3]) (Rr:=[((ob v4++[])),ob v5,D2,[],ob v1]) rfl k2 h5 (fun ap=>ap.q 2 rfl) (fun ap=>ap.q 0 rfl) hx4) rfl ?_)
  rintro v6 Φ_5 D5 ⟨⟨ap1,fr4⟩,h6⟩
  replace h1:=h1.fr fr4 (ap1.q 4 rfl) dN
  refine WM.conv (S':=St w0 Φ_5 [(b_4,.cells #[v2,v3] 121 (0,0)),(b_3,.cells #[v1,u1] 43 (0,0)),(b_2,.cells #[.slice none 0 0,.slice none 0 0] 43 (0,0))] [(D2++((ob v4++[]))),ob v6,ob v5,[],ob v1]) (fun w1 hw=>hw.merge (js:=[3,1]) rfl (SP.eq (by simp)))<|amm 1 [9,1] [0,1,2] rfl rfl ?_
  refine on1 10 (ms1 1 rfl nk Fw rfl h6.one ?_)
  refine WM.nil (by kernel_rfl)<|att 5 [] rfl ?_
  exact lb [0,0,1,1] [1,1] (ih1 (_,_,_,_,_) ⟨h,h1,h6⟩)
 refine atr 4 [2] rfl<|soN 1 rG rfl ⟨h1.one,k2.one,trivial⟩ rfl ?_
 refine en ?_
 exact rtg [3,2,1,0] hF (aG.one (bw zI rfl (fun w1 hw=>hw.rgO (i:=1) rfl 0 2 [v1,u1] rfl) rfl)) rfl (by cases h; exact fun w1 hw=>⟨v1,[],u1,D2,rfl,rfl,h1,k2⟩)
theorem oW (w0:af Ψ Φ []) (p0:(List aP)) (ph0:RSl aD 3 Ψ pG0 pv0 p0) {r:(List aP)} (h:eo N p0=some r) :
  Calls prog 207 [pv0].toArray w0.w (aR Φ w0.w [] (fun Φ' Fs v=>∃ (sr_0_0:Value),v=sr_0_0∧Fs=[ob sr_0_0]∧OSl aD 167 3 Φ' [] sr_0_0 r)):=by
 refine eN func207 rfl ntmps207 rfl w0 fun hF=>?_
 unfold eo at h
 refine att 6 [] rfl ?_
 rcases RSl.nilOr ph0 with ⟨hxs1,cc1,hv1⟩ | ⟨a1,cc1,hv1⟩
 ·replace h:some []=some r:=by simpa [hxs1,app] using h
  refine atr 2 [] rfl<|lq (lL dA (congrArg some hv1) rfl) rfl<|en ?_
  refine cd rfl (fun c=>?_) (fun c=>by simp at c)
  refine att 4 [] rfl ?_
  refine WT.ret hF (aG.one rfl) (fun w1 hw=>?_)
  cases h
  replace hw:=hw.addNil
  refine bK (js:=[0]) hw rfl ⟨.slice none 0 0,rfl,rfl,OSl.nil _ _ _ _⟩
 refine atr 2 [] rfl<|lq (lL dA (congrArg some hv1) rfl) rfl<|en ?_
 refine cd rfl (fun c=>by simp at c) (fun c=>?_)
 refine atr 3 [] rfl<|le' (kD aD.lasts dA iw rfl rfl) rfl ?_
 rintro v1 Φ_1 D1 ⟨fr1,h1⟩
 refine la rfl<|lu0 ph0 fun h2=>?_
 obtain ⟨x1,hx1,h⟩:=bs h
 refine le' (dE aD.lasts aD.one aD.flat dA Av rfl rfl rfl rfl rfl (js:=[0]) (Rr:=[]) rfl h1 h2 hx1) rfl ?_
 rintro v2 Φ_2 D2 ⟨⟨ap1,fr2⟩,h3⟩
 refine la rfl<|en ?_
 exact rtg [0] hF (aG.one rfl) rfl (by cases h; exact fun w1 hw=>⟨v2,rfl,rfl,h3⟩)
theorem uM (w0:af Ψ Φ []) (p0:av) (ph0_0:RSl aD 3 Ψ pG0_0 pv0_0 p0.Fields) {r:av} (h:kG N p0=some r) :
  Calls prog 167 [.agg [.string p0.Kind,pv0_0].toArray].toArray w0.w (aR Φ w0.w [] (fun Φ' Fs v=>∃ (sr_0_0:Value),v = .agg [.string r.Kind,sr_0_0].toArray∧Fs=[ob sr_0_0]∧OSl aD 167 3 Φ' [] sr_0_0 r.Fields)):=by
 refine eN func167 rfl ntmps167 rfl w0 fun hF=>?_
 unfold kG at h
 refine sr<|lbx rfl fun b_1=>lnz jD rfl fun b_2=>en<|sq<|wm [0,1] [6] rfl<|amm 4 [0,0,1,32,2,1,3,32] [0,1] rfl rfl ?_
 obtain ⟨x1,hx1,h⟩:=bs h
 refine WM.one 4 (by kernel_rfl) (mc rfl (fun _ v Φx D w1 hq hw=>Kn.of Kf.nil (ai2 0 1 rfl rfl) hw) (cW (js:=[]) (R:=[]) GQ rfl rfl (fun w1 hw ap hl=>oW N (ba hw.fro) p0.Fields (ph0_0.y hw.up)  hx1)) rfl ?_)
 rintro v1 Φ_1 F1 ⟨ap1,fr1,v2,rfl,rfl,h1⟩
 refine mq 5 rfl (by kernel_rfl) (kN [0,1]) (cA (vs:=[(0,.string p0.Kind),(1,v1)]) (C:=#[.string p0.Kind,v1]) Di jD rfl (ai (C':=[.string p0.Kind,.slice none 0 0]) rfl rfl rfl rfl rfl (ai (C':=[.string p0.Kind,v1]) rfl (ep h1.one) rfl rfl rfl (au)))) rfl ?_
 refine on1 6 (msN 0 rfl nk ky rfl ⟨rfl,h1.one,trivial⟩ rfl rfl ?_)
 refine WM.nil (by kernel_rfl) ?_
 exact rtg [0] hF (aG.one (bw mV rfl (fun w1 hw=>hw.rgO (i:=0) rfl 0 2 [.string p0.Kind,v1] rfl) rfl)) rfl (by cases h; exact fun w1 hw=>⟨v1,rfl,rfl,h1⟩)
theorem pI (w0:af Ψ Φ []) (p0:ae) (p1:Int) (ph0_0:RSl bn 3 Ψ pG0_0 pv0_0 p0.Items) {r:av × Bool} (h:jy N p0 p1=some r) :
  Calls prog 121 [.agg [pv0_0,iV p0.Next].toArray,iV p1].toArray w0.w (aR Φ w0.w [] (fun Φ' Fs v=>∃ (sr_0_0:Value),v = .tuple #[.agg [.string r.1.Kind,sr_0_0].toArray,.bool r.2]∧Fs=[ob sr_0_0]∧OSl aD 167 3 Φ' [] sr_0_0 r.1.Fields)):=by
 refine eN func121 rfl ntmps121 rfl w0 fun hF=>?_
 unfold jy at h
 refine sr<|lbx rfl fun b_1=>lnz jD rfl fun b_2=>arr 7 [0,32] rfl<|lnr ph0_0 rfl<|art 3 [] rfl ?_
 refine lin (σ:=Int) (fun s=>[(1,iV p1),(4,pQ b_2),(9,pv0_0),(10,iV (p0.Items.length:Int)),(11,iV s)]) (fun s=>St w0 Φ [(b_2,.cells #[.string (⟨#[]⟩:ByteArray),.slice none 0 0] 115 (0,0))] []) (fun m s=>eH N p0 p1 m s=some r) (0) N h (sx [] [0]) (fun n1 ih1 s hm=>?_)
 revert hm; revert s; intro s1 hm
 have h:eH N p0 p1 (n1+1) s1=some r:=hm
 show WT _ _ [(1,iV p1),(4,pQ b_2),(9,pv0_0),(10,iV (p0.Items.length:Int)),(11,iV s1)] (St w0 Φ [(b_2,.cells #[.string (⟨#[]⟩:ByteArray),.slice none 0 0] 115 (0,0))] [])
 unfold eH at h
 refine att 5 [] rfl ?_
 refine ch h rfl ?_ ?_ <;> intro h
 ·refine atr 5 [] rfl ?_
  obtain ⟨x1,hx1,h⟩:=bs h
  obtain ⟨cs1,F1,-,g1,hb1,hs1,r1⟩:=ph0_0.el (a7 hx1).2.2
  obtain ⟨v1,G1,rfl,hq1,h1⟩:=r1
  obtain rfl:=hq1.symm
  refine lia ph0_0 hx1 rfl<|lhx 0 3 g1 rfl<|lnz qU rfl fun b_3=>soN 0 rF rfl ⟨rfl,rfl,h1.one,trivial⟩ rfl ?_
  refine art 8 [0,0] rfl ?_
  refine ch h rfl ?_ ?_ <;> intro h
  ·refine atr 4 [1,2] rfl<|kab h rfl rfl rfl (fun b z q=>uM N b x1.F (h1.y z) q) ?_
   rintro x2 h v2 Φ_1 F2 ⟨ap1,fr1,v3,rfl,rfl,h2⟩
   refine soN 1 ky rfl ⟨rfl,h2.one,trivial⟩ rfl ?_
   refine la rfl<|en ?_
   exact rtg [0] hF (aG.two (bw mV rfl (fun w1 hw=>hw.rgO (i:=1) rfl 0 2 [.string x2.Kind,v3] rfl) rfl) rfl) rfl (by cases h; exact fun w1 hw=>⟨v3,rfl,rfl,h2⟩)
  refine att 6 [] rfl ?_
  exact lb [] [1] (ih1 _ h)
 refine xt rfl<|sr<|lq (cA (vs:=[]) (C:=#[.string (⟨#[]⟩:ByteArray),.slice none 0 0]) Di jD rfl (au)) rfl<|soN 0 ky rfl ⟨rfl,rfl,trivial⟩ rfl ?_
 refine la rfl<|en ?_
 refine WT.ret hF (aG.two (bw mV rfl (fun w1 hw=>hw.rgO (i:=0) rfl 0 2 [.string (⟨#[]⟩:ByteArray),.slice none 0 0] rfl) rfl) rfl) (fun w1 hw=>?_)
 cases h
 replace hw:=hw.addNil
 refine bK (js:=[0]) hw rfl ⟨.slice none 0 0,rfl,rfl,OSl.nil _ _ _ _⟩
theorem y8 (w0:af Ψ Φ []) (p0:aj) (p1:av) (ph0_0:RSl aD 3 Ψ pG0_0 pv0_0 p0.Consts) (ph0_1:RSl (RI .i64) 1 Ψ pG0_1 pv0_1 p0.At) (ph1_0:RSl aD 3 Ψ pG1_0 pv1_0 p1.Fields) {r:Bool} (h:o7 N p0 p1=some r) :
  CB w0 prog 122 [.agg [.string p0.Kind,iV p0.N,pv0_0,pv0_1].toArray,.agg [.string p1.Kind,pv1_0].toArray] (.bool r):=by
 refine eN func122 rfl ntmps122 rfl w0 fun hF=>?_
 unfold o7 at h
 refine sr<|lbx rfl fun b_1=>lbx rfl fun b_2=>arr 11 [0,0,0,32] rfl ?_
 obtain ⟨b1,hb_1,h⟩:=bs h
 refine WL.cutN 7 [(19,.bool b1),(2,pQ b_1),(3,pQ b_2)] ?_ (fun K=>?_)
 rotate_left
 ·refine sp 12 hb_1 rfl (fun hb_1=>?_) fun hb_1=>?_
  ·refine arr 7 [] rfl ?_
   cases hb_1
   exact ku K
  ·refine arr 2 [1,0] rfl<|ly rfl rfl<|lnr ph1_0 rfl<|arr 4 [1,32] rfl ?_
   cases hb_1
   exact ku K
 refine en ?_
 refine ch h rfl ?_ ?_ <;> intro h
 ·refine att 4 [] rfl ?_
  exact rt hF h
 refine atr 6 [3,32] rfl<|lnr ph0_1 rfl<|art 3 [] rfl ?_
 refine lin (σ:=Int) (fun s=>[(2,pQ b_1),(3,pQ b_2),(21,pv0_1),(22,iV (p0.At.length:Int)),(23,iV s)]) (fun s=>St w0 Φ [(b_2,.cells #[.string p1.Kind,pv1_0] 115 (0,0)),(b_1,.cells #[.string p0.Kind,iV p0.N,pv0_0,pv0_1] 128 (0,0))] []) (fun m s=>fP N p0 p1 m s=some r) (0) N h (sx [] [0,0]) (fun n1 ih1 s hm=>?_)
 revert hm; revert s; intro s1 hm
 have h:fP N p0 p1 (n1+1) s1=some r:=hm
 show WT _ _ [(2,pQ b_1),(3,pQ b_2),(21,pv0_1),(22,iV (p0.At.length:Int)),(23,iV s1)] (St w0 Φ [(b_2,.cells #[.string p1.Kind,pv1_0] 115 (0,0)),(b_1,.cells #[.string p0.Kind,iV p0.N,pv0_0,pv0_1] 128 (0,0))] [])
 unfold fP at h
 refine att 5 [] rfl ?_
 refine ch h rfl ?_ ?_ <;> intro h
 ·refine atr 6 [] rfl ?_
  obtain ⟨x1,hx1,h⟩:=bs h
  obtain ⟨cs1,F1,-,g1,hb1,hs1,r1⟩:=ph0_1.el (a7 hx1).2.2
  obtain ⟨rfl,-⟩:=r1
  refine lia ph0_1 hx1 rfl<|lhx 0 0 g1 rfl<|art 4 [] rfl<|WT.draw mixed (by kernel_rfl) (fun _ h=>h.drew)<|aqq 3 [] rfl ?_
  obtain ⟨b2,hb_2,h⟩:=bs h
  refine WQ.cutN 6 [(36,.bool b2),(2,pQ b_1),(3,pQ b_2),(5,iV s1),(6,iV x1),(21,pv0_1),(22,iV (p0.At.length:Int)),(23,iV s1)] ?_ (fun K=>?_)
  rotate_left
  ·refine WQ.split (d:=30) rfl (fun c4=>?_) (fun c4=>?_)
   ·replace hb_2:=fk hb_2 c4
    refine aqq 6 [] rfl ?_
    cases hb_2
    exact kq K
   ·replace hb_2:=fg hb_2 c4
    refine aqq 3 [1,0] rfl<|WQ.yes rfl rfl<|qq (sU dA rfl rfl ph1_0) rfl<|aqq 2 [] rfl ?_
    cases hb_2
    exact kq K
  refine qq (fo rfl) rfl ?_
  obtain ⟨b3,hb_3,h⟩:=bs h
  refine WQ.cutN 6 [(43,.bool b3),(2,pQ b_1),(3,pQ b_2),(5,iV s1),(6,iV x1),(21,pv0_1),(22,iV (p0.At.length:Int)),(23,iV s1)] ?_ (fun K=>?_)
  rotate_left
  ·refine WQ.split (d:=37) rfl (fun c5=>?_) (fun c5=>?_)
   ·replace hb_3:=fk hb_3 c5
    refine aqq 6 [] rfl ?_
    cases hb_3
    exact kq K
   ·replace hb_3:=fg hb_3 c5
    refine aqq 3 [2,32] rfl<|WQ.yes rfl rfl<|qq (sU dA rfl rfl ph0_0) rfl<|aqq 2 [] rfl ?_
    cases hb_3
    exact kq K
  refine qq (fo rfl) rfl ?_
  obtain ⟨b4,hb_4,h⟩:=bs h
  refine WQ.cutN 12 [(56,.bool b4),(2,pQ b_1),(3,pQ b_2),(21,pv0_1),(22,iV (p0.At.length:Int)),(23,iV s1)] ?_ (fun K=>?_)
  rotate_left
  ·refine WQ.split (d:=44) rfl (fun c6=>?_) (fun c6=>?_)
   ·replace hb_4:=fk hb_4 c6
    refine aqq 12 [] rfl ?_
    cases hb_4
    exact kq K
   ·replace hb_4:=fg hb_4 c6
    refine aqq 3 [1,0] rfl<|WQ.yes rfl rfl ?_
    obtain ⟨x2,hx2,hb_4⟩:=bs hb_4
    obtain ⟨cs2,F2,-,g2,hb2,hs2,r2⟩:=ph1_0.el (a7 hx2).2.2
    obtain ⟨rfl,-⟩:=r2
    refine qq (a8 dA rfl rfl ph1_0 hx2) rfl<|WQ.yes rfl rfl<|qq (aq gF rfl (fun w1 hw=>(g2.of_eq 0 3 rfl rfl:rg _ _ _ [iV x2.K,iV x2.N,.string x2.S]).rangeAt hw.in0) rfl) rfl<|aqq 3 [2,32] rfl<|WQ.yes rfl rfl ?_
    obtain ⟨x3,hx3,hb_4⟩:=bs hb_4
    obtain ⟨cs3,F3,-,g3,hb3,hs3,r3⟩:=ph0_0.el (a7 hx3).2.2
    obtain ⟨rfl,-⟩:=r3
    refine qq (a8 dA rfl rfl ph0_0 hx3) rfl<|WQ.yes rfl rfl<|qq (aq gF rfl (fun w1 hw=>(g3.of_eq 0 3 rfl rfl:rg _ _ _ [iV x3.K,iV x3.N,.string x3.S]).rangeAt hw.in0) rfl) rfl<|WQ.yes rfl rfl<|qq (uG kr rfl rfl rfl (r:=bb x2 x3) rfl) rfl<|WQ.q (pw rfl rfl) rfl rfl rfl ?_
    cases hb_4
    exact kq K
  refine WQ.nil ?_
  refine ch h rfl ?_ ?_ <;> intro h
  ·refine att 4 [] rfl ?_
   exact rt hF h
  refine att 6 [] rfl ?_
  exact lb [] [0,0] (ih1 _ h)
 refine att 5 [] rfl ?_
 exact rt hF h
theorem uE (w0:af Ψ Φ []) (p0:ac) (p1:Bool) (ph0_0:RSl bt 3 Ψ pG0_0 pv0_0 p0.Pats) (ph0_1:RSl bl 11 Ψ pG0_1 pv0_1 p0.Conds) (ph0_2:RSl cX 5 Ψ pG0_2 pv0_2 p0.Acts) {r:(List ao)} (h:qh N p0 p1=some r) :
  Calls prog 168 [.agg [.string p0.Name,iV p0.Sal,pv0_0,pv0_1,pv0_2].toArray,.bool p1].toArray w0.w (aR Φ w0.w [] (fun Φ' Fs v=>∃ (sr_0_0:Value) (Dr_0_0:List Nat),v=sr_0_0∧Fs=[ob sr_0_0]∧OSl bt 124 3 Φ' Dr_0_0 sr_0_0 r∧(∀ k∈Dr_0_0,k∈pG0_0))):=by
 refine eN func168 rfl ntmps168 rfl w0 fun hF=>?_
 unfold qh at h
 refine sr<|lbx rfl fun b_1=>arr 11 [2,0] rfl<|lnr ph0_0 rfl<|art 3 [] rfl<|wtS ?_
 have k1:=OSl.nil bt 124 3 Φ
 refine lin (σ:=Hp × (List ao) × Value × List Nat × Int) (fun s=>[(1,.bool p1),(5,s.2.2.1),(9,pv0_0),(10,iV (p0.Pats.length:Int)),(11,iV s.2.2.2.2)]) (fun s=>St w0 s.1 [] [ob s.2.2.1]) (fun m s=>gx N p0 p1 m s.2.1 s.2.2.2.2=some r∧(OSl bt 124 3 s.1 s.2.2.2.1 s.2.2.1 s.2.1)∧(∀ k∈s.2.2.2.1,k∈pG0_0)) (Φ,([]:List ao),(.slice none 0 0),[],0) N ⟨h,k1,(by simp)⟩ (sx [0] []) (fun n1 ih1 s hm=>?_)
 obtain ⟨Φ_1,s1,u1,D1,s2⟩:=s
 obtain ⟨h,k2,i1⟩:=hm
 dsimp only at h k2 i1 ⊢
 unfold gx at h
 refine att 5 [] rfl ?_
 refine ch h rfl ?_ ?_ <;> intro h
 ·refine atr 5 [] rfl ?_
  obtain ⟨x1,hx1,h⟩:=bs h
  obtain ⟨cs1,F1,-,g1,hb1,hs1,r1⟩:=ph0_0.el (a7 hx1).2.2
  obtain ⟨v1,G1,rfl,hq1,h1⟩:=r1
  obtain rfl:=hq1.symm
  refine lia ph0_0 hx1 rfl<|lhx 0 3 g1 rfl<|lnz mN rfl fun b_2=>soN 0 pX rfl ⟨rfl,h1.one,rfl,trivial⟩ rfl ?_
  refine arr 6 [2,0] rfl<|lq (Lh HE rfl rfl) rfl<|en ?_
  refine ch h rfl ?_ ?_ <;> intro h
  ·refine atr 3 [3] rfl<|lu0 h1 fun h2=>?_
   have rc1:RC bt 3 Φ_1 ([G1]:List (List Nat)) [.string x1.Kind,v1,.bool x1.Not] ([x1]:List ao):=RC.cons (c:=[.string x1.Kind,v1,.bool x1.Not]) (cells:=[]) ⟨v1,G1,rfl,rfl,h2⟩ rfl (RC.nil _ _ _)
   refine le' (cU (vs:=[(0,.agg [.string x1.Kind,v1,.bool x1.Not].toArray)]) (C:=#[.string x1.Kind,v1,.bool x1.Not]) bt.lasts qP mN rfl rfl rfl rfl (aK FC (ai (C':=[.string x1.Kind,v1,.bool x1.Not]) rfl rfl rfl rfl rfl (au))) rfl rc1 rfl (RC.kn bt.knows rc1)) rfl ?_
   rintro v2 Φ_2 D2 ⟨fr1,h3⟩
   replace h3:OSl bt 124 3 Φ_2 (G1) v2 ([x1]:List ao):=by simpa [List.append_assoc] using h3
   replace k2:=k2.f0 fr1
   obtain ⟨x2,hx2,h⟩:=bs h
   refine le' (j6 bt.lasts bt.one qP Jp rfl rfl rfl rfl rfl (js:=[1]) (Rr:=[ob v2]) rfl k2 h3 (fun ap=>(Dj.sub (ap.o ph0_0.old) i1)) (fun ap=>(Dj.sub (Dj.sub (ap.o ph0_0.old) (fun k h=>hs1 k h)) (fun k hk=>(by simpa [List.append_assoc] using hk:k∈G1)))) hx2) rfl ?_
   rintro v3 Φ_3 D3 ⟨⟨ap1,fr2⟩,h4⟩
   refine art 7 [] rfl ?_
   exact lb [0] [] (ih1 (_,_,_,_,_) ⟨h,h4,(fun k hk=>((List.mem_append.1 hk).elim (fun h=>(i1 k h)) (fun h=>((fun k h=>hs1 k h) k ((fun k hk=>(by simpa [List.append_assoc] using hk:k∈G1)) k h)))))⟩)
  refine att 6 [] rfl ?_
  exact lb [0] [] (ih1 (_,_,_,_,_) ⟨h,k2,(fun k hk=>(i1 k hk))⟩)
 refine att 6 [] rfl ?_
 exact rtg [0] hF (aG.one rfl) rfl (by cases h; exact fun w1 hw=>⟨u1,D1,rfl,rfl,k2,(fun k hk=>(i1 k hk))⟩)
theorem uZ (w0:af Ψ Φ []) (p0:bh) (p1:bB) (p2:aJ) (p3:ae) (p4:Int) (p5:Int) (ph0_0:RSl bV 5 Ψ pG0_0 pv0_0 p0.Rules) (ph1_1:RSl er 2 Ψ pG1_1 pv1_1 p1.Chains) (ph2_0:RSl dp 1 Ψ pG2_0 pv2_0 p2.Alphas) (ph3_0:RSl bn 3 Ψ pG3_0 pv3_0 p3.Items) {r:bZ} (h:mZ N p0 p1 p2 p3 p4 p5=some r) :
  Calls prog 123 [.agg [.string p0.Name,pv0_0].toArray,.agg [pv1_0,pv1_1].toArray,.agg [pv2_0,pv2_1].toArray,.agg [pv3_0,iV p3.Next].toArray,iV p4,iV p5].toArray w0.w (aR Φ w0.w [] (fun Φ' Fs v=>∃ (sr_0_0:Value) (Dr_0_0:List Nat) (sr_0_1:Value) (Dr_0_1:List Nat) (sr_0_2:Value) (Gr_0_2:List Nat) (sr_0_3:Value) (Gr_0_3:List Nat) (sr_0_4:Value) (Gr_0_4:List Nat) (sr_0_5:Value) (Gr_0_5:List Nat),v = .agg [sr_0_0,sr_0_1,sr_0_2,sr_0_3,sr_0_4,sr_0_5,iV r.s.Next,iV r.id].toArray∧Fs=[ob sr_0_0,ob sr_0_1]∧OSl bt 124 3 Φ' Dr_0_0 sr_0_0 r.pos∧(∀ k∈Dr_0_0,k∈pG0_0)∧OSl bt 124 3 Φ' Dr_0_1 sr_0_1 r.neg∧(∀ k∈Dr_0_1,k∈pG0_0)∧RSl (RI .i64) 1 Φ' Gr_0_2 sr_0_2 r.chain.Pos∧(∀ k∈Gr_0_2,k∈pG1_1)∧RSl (RI .i64) 1 Φ' Gr_0_3 sr_0_3 r.chain.Neg∧(∀ k∈Gr_0_3,k∈pG1_1)∧RSl dp 1 Φ' Gr_0_4 sr_0_4 r.alphas∧(∀ k∈Gr_0_4,k∈pG2_0)∧RSl bn 3 Φ' Gr_0_5 sr_0_5 r.s.Items∧(∀ k∈Gr_0_5,k∈pG3_0))):=by
 refine eN func123 rfl ntmps123 rfl w0 fun hF=>?_
 unfold mZ at h
 refine sr<|lbx rfl fun b_1=>lbx rfl fun b_2=>lbx rfl fun b_3=>lbx rfl fun b_4=>lnz CT rfl fun b_5=>arr 6 [1,128] rfl ?_
 obtain ⟨x1,hx1,h⟩:=bs h
 obtain ⟨cs1,F1,-,g1,hb1,hs1,r1⟩:=ph0_0.el (a7 hx1).2.2
 obtain ⟨v1,G1,v2,G2,v3,G3,rfl,rfl,h1,h2,h3⟩:=r1
 refine lia ph0_0 hx1 rfl<|lhx 0 5 g1 rfl<|lnz un rfl fun b_6=>soN 0 vD rfl ⟨rfl,rfl,h1.one,h2.one,h3.one,trivial⟩ rfl ?_
 refine en<|sq<|wm [0,1,2,3,4,5] [14] rfl<|amm 5 [0,5,2,5,4,1,5,128,6] [0,1,2,3,4,5] rfl rfl ?_
 obtain ⟨x2,hx2,h⟩:=bs h
 obtain ⟨cs2,F2,-,g2,hb2,hs2,r2⟩:=ph1_1.el (a7 hx2).2.2
 obtain ⟨v4,G4,v5,G5,rfl,rfl,h4,h5⟩:=r2
 refine mq 7 rfl (by kernel_rfl) (kN [0,1,2,3,4,5]) (a8 Ac rfl rfl ph1_1 hx2) rfl<|mq 8 rfl (by kernel_rfl) (kN [0,1,2,3,4,5]) (aq Gj rfl (fun w1 hw=>(g2.of_eq 0 2 rfl rfl:rg _ _ _ [v4,v5]).rangeAt hw.1) rfl) rfl<|amm 4 [9,0,10,96,11,66,12] [0,1,2,3,4,5] rfl rfl ?_
 obtain ⟨x3,hx3,h⟩:=bs h
 refine WM.one 1 (by kernel_rfl) (mc rfl (fun _ v Φx D w1 hq hw=>Kn.of Kf.nil (am [0,1,2,3,4,5] rfl) hw) (cW (js:=[]) (R:=[]) E8 rfl rfl (fun w1 hw ap hl=>uE N (ba hw.fro) x1 false (h1.y hw.up) (h2.y hw.up) (h3.y hw.up)  hx3)) rfl ?_)
 rintro v6 Φ_1 F3 ⟨ap1,fr1,v7,D1,rfl,rfl,h6,i1⟩
 obtain ⟨x4,hx4,h⟩:=bs h
 refine WM.one 3 (by kernel_rfl) (mc rfl (fun _ v Φx D w1 hq hw=>Kn.of Kf.nil (am [0,1,2,3,4,5] rfl) hw) (cW (js:=[]) (R:=[ob v6]) E8 rfl rfl (fun w1 hw ap hl=>uE N (ba hw.fro) x1 true (h1.y hw.up) (h2.y hw.up) (h3.y hw.up)  hx4)) rfl ?_)
 rintro v8 Φ_2 F4 ⟨ap2,fr2,v9,D2,rfl,rfl,h7,i2⟩
 replace h6:=h6.fr fr2 (ap2.q 0 rfl) (Dj.sub (ap2.o h1.old) i1)
 refine mq 13 rfl (by kernel_rfl) (kN [0,1,2,3,4,5]) (cA (vs:=[(0,v6),(1,v8),(2,.agg [v4,v5].toArray),(3,pv2_0),(4,.agg [pv3_0,iV p3.Next].toArray),(5,iV p4)]) (C:=#[v6,v8,v4,v5,pv2_0,pv3_0,iV p3.Next,iV p4]) Io CT rfl (ai (C':=[v6,.slice none 0 0,.slice none 0 0,.slice none 0 0,.slice none 0 0,.slice none 0 0,iV 0,iV 0]) rfl (ep h6.one) rfl rfl rfl (ai (C':=[v6,v8,.slice none 0 0,.slice none 0 0,.slice none 0 0,.slice none 0 0,iV 0,iV 0]) rfl (ep h7.one) rfl rfl rfl (ai (C':=[v6,v8,v4,v5,.slice none 0 0,.slice none 0 0,iV 0,iV 0]) rfl rfl rfl rfl rfl (ai (C':=[v6,v8,v4,v5,pv2_0,.slice none 0 0,iV 0,iV 0]) rfl (ep ph2_0.one) rfl rfl rfl (ai (C':=[v6,v8,v4,v5,pv2_0,pv3_0,iV p3.Next,iV 0]) rfl rfl rfl rfl rfl (ai (C':=[v6,v8,v4,v5,pv2_0,pv3_0,iV p3.Next,iV p4]) rfl rfl rfl rfl rfl (au)))))))) rfl ?_
 refine on1 14 (msN 1 rfl nk FQ rfl ⟨h6.one,h7.one,h4.one,h5.one,ph2_0.one,ph3_0.one,rfl,rfl,trivial⟩ rfl rfl ?_)
 refine WM.nil (by kernel_rfl) ?_
 exact rtg [1,0] hF (aG.one (bw FM rfl (fun w1 hw=>hw.rgO (i:=1) rfl 0 8 [v6,v8,v4,v5,pv2_0,pv3_0,iV p3.Next,iV p4] rfl) rfl)) rfl (by cases h; exact fun w1 hw=>⟨v6,D1,v8,D2,v4,G4,v5,G5,pv2_0,pG2_0,pv3_0,pG3_0,rfl,rfl,h6,(fun k hk=>((fun k h=>hs1 k (List.mem_append.2 (.inl h))) k (i1 k hk))),h7,(fun k hk=>((fun k h=>hs1 k (List.mem_append.2 (.inl h))) k (i2 k hk))),(h4.y hw.up),(fun k hk=>((fun k h=>hs2 k (List.mem_append.2 (.inl h))) k hk)),(h5.y hw.up),(fun k hk=>((fun k h=>hs2 k (List.mem_append.2 (.inr h))) k hk)),(ph2_0.y hw.up),(fun k hk=>hk),(ph3_0.y hw.up),(fun k hk=>hk)⟩)
theorem cO (w0:af Ψ Φ []) (p0:(List aB)) (ph0:RSl aV 4 Ψ pG0 pv0 p0) {r:(List aB)} (h:bg N p0=some r) :
  Calls prog 208 [pv0].toArray w0.w (aR Φ w0.w [] (fun Φ' Fs v=>∃ (sr_0_0:Value),v=sr_0_0∧Fs=[ob sr_0_0]∧OSl aV 289 4 Φ' [] sr_0_0 r)):=by
 refine eN func208 rfl ntmps208 rfl w0 fun hF=>?_
 unfold bg at h
 refine att 6 [] rfl ?_
 rcases RSl.nilOr ph0 with ⟨hxs1,cc1,hv1⟩ | ⟨a1,cc1,hv1⟩
 ·replace h:some []=some r:=by simpa [hxs1,app] using h
  refine atr 2 [] rfl<|lq (lL lh (congrArg some hv1) rfl) rfl<|en ?_
  refine cd rfl (fun c=>?_) (fun c=>by simp at c)
  refine att 4 [] rfl ?_
  refine WT.ret hF (aG.one rfl) (fun w1 hw=>?_)
  cases h
  replace hw:=hw.addNil
  refine bK (js:=[0]) hw rfl ⟨.slice none 0 0,rfl,rfl,OSl.nil _ _ _ _⟩
 refine atr 2 [] rfl<|lq (lL lh (congrArg some hv1) rfl) rfl<|en ?_
 refine cd rfl (fun c=>by simp at c) (fun c=>?_)
 refine atr 3 [] rfl<|le' (kD aV.lasts lh qN rfl rfl) rfl ?_
 rintro v1 Φ_1 D1 ⟨fr1,h1⟩
 refine la rfl<|lu0 ph0 fun h2=>?_
 obtain ⟨x1,hx1,h⟩:=bs h
 refine le' (dE aV.lasts aV.one aV.flat lh wj rfl rfl rfl rfl rfl (js:=[0]) (Rr:=[]) rfl h1 h2 hx1) rfl ?_
 rintro v2 Φ_2 D2 ⟨⟨ap1,fr2⟩,h3⟩
 refine la rfl<|en ?_
 exact rtg [0] hF (aG.one rfl) rfl (by cases h; exact fun w1 hw=>⟨v2,rfl,rfl,h3⟩)
theorem za (w0:af Ψ Φ []) (p0:(List aB)) (p1:ByteArray) (ph0:RSl aV 4 Ψ pG0 pv0 p0) {r:aP × Bool} (h:nX N p0 p1=some r) :
  CB w0 prog 209 [pv0,.string p1] (.tuple #[.agg [iV r.1.K,iV r.1.N,.string r.1.S].toArray,.bool r.2]):=by
 refine eN func209 rfl ntmps209 rfl w0 fun hF=>?_
 unfold nX at h
 refine sr<|lnz iw rfl fun b_1=>arr 6 [] rfl<|lnr ph0 rfl<|art 3 [] rfl ?_
 refine lin (σ:=Int) (fun s=>[(1,.string p1),(4,pQ b_1),(8,pv0),(9,iV (p0.length:Int)),(10,iV s)]) (fun s=>St w0 Φ [(b_1,.cells #[iV 0,iV 0,.string (⟨#[]⟩:ByteArray)] 167 (0,0))] []) (fun m s=>fM N p0 p1 m s=some r) (0) N h (sx [] [0]) (fun n1 ih1 s hm=>?_)
 revert hm; revert s; intro s1 hm
 have h:fM N p0 p1 (n1+1) s1=some r:=hm
 show WT _ _ [(1,.string p1),(4,pQ b_1),(8,pv0),(9,iV (p0.length:Int)),(10,iV s1)] (St w0 Φ [(b_1,.cells #[iV 0,iV 0,.string (⟨#[]⟩:ByteArray)] 167 (0,0))] [])
 unfold fM at h
 refine att 5 [] rfl ?_
 refine ch h rfl ?_ ?_ <;> intro h
 ·refine atr 5 [] rfl ?_
  obtain ⟨x1,hx1,h⟩:=bs h
  obtain ⟨cs1,F1,-,g1,hb1,hs1,r1⟩:=ph0.el (a7 hx1).2.2
  obtain ⟨rfl,-⟩:=r1
  refine lia ph0 hx1 rfl<|lhx 0 4 g1 rfl<|lnz qN rfl fun b_2=>soN 0 JX rfl ⟨rfl,rfl,rfl,rfl,trivial⟩ rfl ?_
  refine art 8 [0,0] rfl ?_
  refine ch h rfl ?_ ?_ <;> intro h
  ·refine atr 4 [1,3] rfl<|soN 1 oZ rfl ⟨rfl,rfl,rfl,trivial⟩ rfl ?_
   refine la rfl<|en ?_
   refine WT.ret hF (aG.two (bw gF rfl (fun w1 hw=>hw.rgO (i:=1) rfl 0 3 [iV x1.V.K,iV x1.V.N,.string x1.V.S] rfl) rfl) rfl) (fun w1 hw=>?_)
   cases h
   exact gE hw
  refine att 6 [] rfl ?_
  exact lb [] [1] (ih1 _ h)
 refine xt rfl<|sr<|lq (cA (vs:=[]) (C:=#[iV 0,iV 0,.string (⟨#[]⟩:ByteArray)]) wD iw rfl (au)) rfl<|soN 0 oZ rfl ⟨rfl,rfl,rfl,trivial⟩ rfl ?_
 refine la rfl<|en ?_
 refine WT.ret hF (aG.two (bw gF rfl (fun w1 hw=>hw.rgO (i:=0) rfl 0 3 [iV 0,iV 0,.string (⟨#[]⟩:ByteArray)] rfl) rfl) rfl) (fun w1 hw=>?_)
 cases h
 exact gE hw
theorem mU (w0:af Ψ Φ []) (p0:ao) (p1:av) (p2:(List aB)) (ph0_0:RSl cu 5 Ψ pG0_0 pv0_0 p0.Args) (ph1_0:RSl aD 3 Ψ pG1_0 pv1_0 p1.Fields) (ph2:RSl aV 4 Ψ pG2 pv2 p2) {r:(List aB) × Bool} (h:gB N p0 p1 p2=some r) :
  Calls prog 170 [.agg [.string p0.Kind,pv0_0,.bool p0.Not].toArray,.agg [.string p1.Kind,pv1_0].toArray,pv2].toArray w0.w (aR Φ w0.w [] (fun Φ' Fs v=>∃ (sr_0_0:Value),v = .tuple #[sr_0_0,.bool r.2]∧Fs=[ob sr_0_0]∧OSl aV 289 4 Φ' [] sr_0_0 r.1)):=by
 refine eN func170 rfl ntmps170 rfl w0 fun hF=>?_
 unfold gB at h
 refine sr<|lbx rfl fun b_1=>lbx rfl fun b_2=>arr 12 [0,0,0,32] rfl ?_
 obtain ⟨b1,hb_1,h⟩:=bs h
 refine WL.cutN 8 [(27,.bool b1),(2,pv2),(3,pQ b_1),(4,pQ b_2)] ?_ (fun K=>?_)
 rotate_left
 ·refine sp 19 hb_1 rfl (fun hb_1=>?_) fun hb_1=>?_
  ·refine arr 8 [] rfl ?_
   cases hb_1
   exact ku K
  ·refine arr 2 [1,0] rfl<|ly rfl rfl<|lnr ph1_0 rfl<|arr 2 [1,32] rfl<|ly rfl rfl<|lnr ph0_0 rfl<|arr 2 [] rfl ?_
   cases hb_1
   exact ku K
 refine en ?_
 refine ch h rfl ?_ ?_ <;> intro h
 ·refine sr<|la rfl<|kab h rfl rfl rfl (fun b z q=>cO N b p2 (ph2.y z) q) ?_
  rintro x1 h v1 Φ_1 F1 ⟨ap1,fr1,v2,rfl,rfl,h1⟩
  refine art 3 [] rfl ?_
  exact rtg [0] hF (aG.two rfl rfl) rfl (by cases h; exact fun w1 hw=>⟨v1,rfl,rfl,h1⟩)
 refine atr 4 [] rfl<|kab h rfl rfl rfl (fun b z q=>cO N b p2 (ph2.y z) q) ?_
 rintro x2 h v3 Φ_2 F2 ⟨ap2,fr2,v4,rfl,rfl,h2⟩
 refine arr 7 [1,32] rfl<|lnr ph0_0 rfl<|art 3 [] rfl ?_
 refine lin (σ:=Hp × (List aB) × Value × Int) (fun s=>[(2,pv2),(4,pQ b_2),(8,s.2.2.1),(33,pv0_0),(34,iV (p0.Args.length:Int)),(35,iV s.2.2.2)]) (fun s=>St w0 s.1 [(b_2,.cells #[.string p1.Kind,pv1_0] 115 (0,0))] [ob s.2.2.1]) (fun m s=>cL N p0 p1 p2 m s.2.1 s.2.2.2=some r∧(OSl aV 289 4 s.1 [] s.2.2.1 s.2.1)) (Φ_2,x2,v3,0) N ⟨h,h2⟩ (sx [0] [0]) (fun n1 ih1 s hm=>?_)
 obtain ⟨Φ_3,s1,u1,s2⟩:=s
 obtain ⟨h,k1⟩:=hm
 dsimp only at h k1 ⊢
 unfold cL at h
 refine att 5 [] rfl ?_
 refine ch h rfl ?_ ?_ <;> intro h
 ·refine atr 6 [] rfl ?_
  obtain ⟨x3,hx3,h⟩:=bs h
  obtain ⟨cs1,F3,-,g1,hb1,hs1,r1⟩:=ph0_0.el (a7 hx3).2.2
  obtain ⟨rfl,-⟩:=r1
  refine lia ph0_0 hx3 rfl<|lhx 0 5 g1 rfl<|lnz mH rfl fun b_3=>la rfl<|soN 0 oV rfl ⟨rfl,rfl,rfl,rfl,rfl,trivial⟩ rfl ?_
  refine arr 6 [1,32] rfl ?_
  obtain ⟨x4,hx4,h⟩:=bs h
  obtain ⟨cs2,F4,-,g2,hb2,hs2,r2⟩:=ph1_0.el (a7 hx4).2.2
  obtain ⟨rfl,-⟩:=r2
  refine lia ph1_0 hx4 rfl<|lhx 0 3 g2 rfl<|lnz iw rfl fun b_4=>soN 0 oZ rfl ⟨rfl,rfl,rfl,trivial⟩ rfl ?_
  refine art 12 [0,32] rfl ?_
  refine ch h rfl ?_ ?_ <;> intro h
  ·refine atr 5 [2,35,3] rfl<|lq (uG kr rfl rfl rfl (r:=bb x3.V x4) rfl) rfl<|en ?_
   refine ch h rfl ?_ ?_ <;> intro h
   ·refine sr<|la rfl<|kab h rfl rfl rfl (fun b z q=>cO N b p2 (ph2.y z) q) ?_
    rintro x5 h v5 Φ_4 F5 ⟨ap3,fr3,v6,rfl,rfl,h3⟩
    refine art 3 [] rfl ?_
    exact rtg [0] hF (aG.two rfl rfl) rfl (by cases h; exact fun w1 hw=>⟨v5,rfl,rfl,h3⟩)
   refine att 7 [] rfl ?_
   exact lb [0] [2] (ih1 (_,_,_,_) ⟨h,k1⟩)
  refine att 5 [] rfl ?_
  refine ch h rfl ?_ ?_ <;> intro h
  ·refine atr 5 [1,32] rfl<|qc h (za N · s1 x3.S k1.rsl ·) rfl rfl rfl fun x6 h=>arr 3 [] rfl<|lnz iw rfl fun b_5=>soN 0 oZ rfl ⟨rfl,rfl,rfl,trivial⟩ rfl ?_
   refine arr 7 [] rfl ?_
   obtain ⟨b2,hb_2,h⟩:=bs h
   refine WL.cutN 4 [(69,.bool b2),(2,pv2),(4,pQ b_2),(8,u1),(10,pQ b_3),(11,pQ b_4),(13,.bool x6.2),(33,pv0_0),(34,iV (p0.Args.length:Int)),(35,iV s2)] ?_ (fun K=>?_)
   rotate_left
   ·refine sp 65 hb_2 rfl (fun hb_2=>?_) fun hb_2=>?_
    ·refine arr 2 [3,35] rfl<|ly rfl rfl<|lq (uG kr rfl rfl rfl (r:=bb x6.1 x4) rfl) rfl<|la rfl ?_
     cases hb_2
     exact ku K
    ·refine arr 4 [] rfl ?_
     cases hb_2
     exact ku K
   refine en ?_
   refine ch h rfl ?_ ?_ <;> intro h
   ·refine sr<|la rfl<|kab h rfl rfl rfl (fun b z q=>cO N b p2 (ph2.y z) q) ?_
    rintro x7 h v7 Φ_5 F6 ⟨ap4,fr4,v8,rfl,rfl,h4⟩
    refine art 3 [] rfl ?_
    exact rtg [0] hF (aG.two rfl rfl) rfl (by cases h; exact fun w1 hw=>⟨v7,rfl,rfl,h4⟩)
   refine att 6 [] rfl ?_
   refine ch h rfl ?_ ?_ <;> intro h
   ·refine atr 5 [1,64,35] rfl<|lq (cA (vs:=[(0,.string x3.S),(1,.agg [iV x4.K,iV x4.N,.string x4.S].toArray)]) (C:=#[.string x3.S,iV x4.K,iV x4.N,.string x4.S]) Gt qN rfl (ai (C':=[.string x3.S,iV 0,iV 0,.string ⟨#[]⟩]) rfl rfl rfl rfl rfl (ai (C':=[.string x3.S,iV x4.K,iV x4.N,.string x4.S]) rfl rfl rfl rfl rfl (au)))) rfl ?_
    have rc1:RC aV 4 Φ_3 ([[]]:List (List Nat)) [.string x3.S,iV x4.K,iV x4.N,.string x4.S] ([(⟨x3.S,x4⟩:aB)]:List aB):=RC.cons (c:=[.string x3.S,iV x4.K,iV x4.N,.string x4.S]) (cells:=[]) ⟨rfl,rfl⟩ rfl (RC.nil _ _ _)
    refine le' (cU (vs:=[(0,.agg [.string x3.S,iV x4.K,iV x4.N,.string x4.S].toArray)]) (C:=#[.string x3.S,iV x4.K,iV x4.N,.string x4.S]) aV.lasts lh qN rfl rfl rfl rfl (aK Ch (ai (C':=[.string x3.S,iV x4.K,iV x4.N,.string x4.S]) rfl rfl rfl rfl rfl (au))) rfl rc1 rfl (by simpa using Kw.nil)) rfl ?_
    rintro v9 Φ_6 D1 ⟨fr5,h5⟩
    replace h5:OSl aV 289 4 Φ_6 [] v9 ([(⟨x3.S,x4⟩:aB)]:List aB):=by simpa using h5
    replace k1:=k1.f0 fr5
    obtain ⟨x8,hx8,h⟩:=bs h
    refine le' (dE aV.lasts aV.one aV.flat lh wj rfl rfl rfl rfl rfl (js:=[1]) (Rr:=[ob v9]) rfl k1 h5.rsl hx8) rfl ?_
    rintro v10 Φ_7 D2 ⟨⟨ap5,fr6⟩,h6⟩
    refine art 8 [] rfl ?_
    exact lb [0] [3] (ih1 (_,_,_,_) ⟨h,h6⟩)
   refine att 7 [] rfl ?_
   exact lb [0] [3] (ih1 (_,_,_,_) ⟨h,k1⟩)
  refine att 7 [] rfl ?_
  exact lb [0] [2] (ih1 (_,_,_,_) ⟨h,k1⟩)
 refine att 7 [] rfl ?_
 exact rtg [0] hF (aG.two rfl rfl) rfl (by cases h; exact fun w1 hw=>⟨u1,rfl,rfl,k1⟩)
theorem rI (w0:af Ψ Φ []) (p0:(List ao)) (p1:ae) (p2:(List Int)) (ph0:RSl bt 3 Ψ pG0 pv0 p0) (ph1_0:RSl bn 3 Ψ pG1_0 pv1_0 p1.Items) (ph2:RSl (RI .i64) 1 Ψ pG2 pv2 p2) {r:(List aB) × Bool} (h:jN N p0 p1 p2=some r) :
  Calls prog 169 [pv0,.agg [pv1_0,iV p1.Next].toArray,pv2].toArray w0.w (aR Φ w0.w [] (fun Φ' Fs v=>∃ (sr_0_0:Value),v = .tuple #[sr_0_0,.bool r.2]∧Fs=[ob sr_0_0]∧OSl aV 289 4 Φ' [] sr_0_0 r.1)):=by
 refine eN func169 rfl ntmps169 rfl w0 fun hF=>?_
 unfold jN at h
 refine sr<|lbx rfl fun b_1=>arr 11 [] rfl<|lnr ph2 rfl<|art 3 [] rfl<|wtS ?_
 have k1:=OSl.nil aV 289 4 Φ
 refine lin (σ:=Hp × (List aB) × Value × Int) (fun s=>[(0,pv0),(4,pQ b_1),(8,s.2.2.1),(13,pv2),(14,iV (p2.length:Int)),(15,iV s.2.2.2)]) (fun s=>St w0 s.1 [(b_1,.cells #[pv1_0,iV p1.Next] 47 (0,0))] [ob s.2.2.1]) (fun m s=>f9 N p0 p1 p2 m s.2.1 s.2.2.2=some r∧(OSl aV 289 4 s.1 [] s.2.2.1 s.2.1)) (Φ,([]:List aB),(.slice none 0 0),0) N ⟨h,k1⟩ (sx [0] [0]) (fun n1 ih1 s hm=>?_)
 obtain ⟨Φ_1,s1,u1,s2⟩:=s
 obtain ⟨h,k2⟩:=hm
 dsimp only at h k2 ⊢
 unfold f9 at h
 refine att 5 [] rfl ?_
 refine ch h rfl ?_ ?_ <;> intro h
 ·refine atr 6 [] rfl ?_
  obtain ⟨x1,hx1,h⟩:=bs h
  obtain ⟨cs1,F1,-,g1,hb1,hs1,r1⟩:=ph2.el (a7 hx1).2.2
  obtain ⟨rfl,-⟩:=r1
  refine lia ph2 hx1 rfl<|lhx 0 0 g1 rfl<|arr 7 [2] rfl<|kab h rfl rfl rfl (fun b z q=>pI N b p1 x1 (ph1_0.y z) q) ?_
  rintro x2 h v1 Φ_2 F2 ⟨ap1,fr1,v2,rfl,rfl,h1⟩
  replace k2:=k2.fr fr1 (ap1.q 0 rfl) dN
  refine arr 3 [] rfl<|lnz jD rfl fun b_2=>soN 0 ky rfl ⟨rfl,h1.one,trivial⟩ rfl ?_
  refine art 8 [] rfl ?_
  refine ch h rfl ?_ ?_ <;> intro h
  ·refine att 5 [] rfl ?_
   refine WT.ret hF (aG.two rfl rfl) (fun w1 hw=>?_)
   cases h
   replace hw:=hw.addNil
   refine bK (js:=[0]) hw rfl ⟨.slice none 0 0,rfl,rfl,OSl.nil _ _ _ _⟩
  refine att 2 [] rfl<|wm [0,1] [] rfl<|amm 2 [0,1] [0,1] rfl rfl ?_
  obtain ⟨x3,hx3,h⟩:=bs h
  obtain ⟨cs2,F3,-,g2,hb2,hs2,r2⟩:=ph0.el (a7 hx3).2.2
  obtain ⟨v3,G1,rfl,hq1,h2⟩:=r2
  obtain rfl:=hq1.symm
  refine mq 2 rfl (by kernel_rfl) (kN [0,1]) (a8 qP rfl rfl ph0 hx3) rfl<|mq 3 rfl (by kernel_rfl) (kN [0,1]) (aq sY rfl (fun w1 hw=>(g2.of_eq 0 3 rfl rfl:rg _ _ _ [.string x3.Kind,v3,.bool x3.Not]).rangeAt hw.1) rfl) rfl<|amm 2 [4,2,5] [0,1] rfl rfl ?_
  obtain ⟨x4,hx4,h⟩:=bs h
  refine WM.one 6 (by kernel_rfl) (mc rfl (fun _ v Φx D w1 hq hw=>Kn.of Kf.nil (ai2 0 1 rfl rfl) hw) (cW (js:=[]) (R:=[ob v2,ob u1]) Hf rfl rfl (fun w1 hw ap hl=>mU N (ba hw.fro) x3 x2.1 s1 (h2.y hw.up) h1.rsl k2.rsl  hx4)) rfl ?_)
  rintro v4 Φ_3 F4 ⟨ap2,fr2,v5,rfl,rfl,h3⟩
  replace k2:=k2.fr fr2 (ap2.q 1 rfl) dN
  refine amm 5 [7,8,9,10,11] [0,1] rfl rfl<|WM.nil (by kernel_rfl)<|att 5 [] rfl ?_
  refine ch h rfl ?_ ?_ <;> intro h
  ·refine att 5 [] rfl ?_
   refine WT.ret hF (aG.two rfl rfl) (fun w1 hw=>?_)
   cases h
   replace hw:=hw.addNil
   refine bK (js:=[0]) hw rfl ⟨.slice none 0 0,rfl,rfl,OSl.nil _ _ _ _⟩
  refine att 6 [] rfl ?_
  exact lb [0] [1] (ih1 (_,_,_,_) ⟨h,h3⟩)
 refine att 7 [] rfl ?_
 exact rtg [0] hF (aG.two rfl rfl) rfl (by cases h; exact fun w1 hw=>⟨u1,rfl,rfl,k2⟩)
end Go.Proofs.YtiljnppocjgkkaaGreat
