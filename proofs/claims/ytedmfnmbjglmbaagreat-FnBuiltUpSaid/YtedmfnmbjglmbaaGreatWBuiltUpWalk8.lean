/- Printed by a program of ours: each Go function computes its Lean function. -/
import Derived.Test.YtedmfnmbjglmbaaGreatProg
import Derived.Test.YtedmfnmbjglmbaaGreatWBuiltUpWalk7
import Derived.Test.YtedmfnmbjglmbaaGreatEV
namespace Go.Proofs.YtedmfnmbjglmbaaGreat
open Eng Tryz
open Go.RowKit (Below)
set_option linter.unusedVariables false
set_option linter.unusedSimpArgs false

set_option maxRecDepth 100000
set_option maxHeartbeats 1000000
variable {Ψ Φ:Hp} {pv0 pv1 pv0_0 pv0_1 pv1_0 pv1_1 pv2_0 pv0_2 pv2:Value} {pD0 pG0 pG1 pG0_0 pG0_1 pG1_0 pG1_1 pG2_0 pG0_2 pG2:List Nat} (N:Nat)
theorem mK (w0:av Ψ Φ []) (p0:(List Int)) (ph0:RSl (RI .i64) 1 Ψ pG0 pv0 p0) {r:Int} (h:ft N p0=some r) :
  CB w0 prog 119 [pv0] (iV r):=by
 refine eN func119 rfl ntmps119 rfl w0 fun hF=>?_
 unfold ft at h
 refine atr 12 [] rfl<|lnr ph0 rfl<|art 3 [] rfl ?_
 refine lin (σ:=Int) (fun s=>[(3,iV 0),(6,pv0),(7,iV (p0.length:Int)),(8,iV s)]) (fun s=>St w0 Φ [] []) (fun m s=>fg N p0 m s=some r) (0) N h (sx [] []) (fun n1 ih1 s hm=>?_)
 revert hm; revert s; intro s1 hm
 have h:fg N p0 (n1+1) s1=some r:=hm
 show WT _ _ [(3,iV 0),(6,pv0),(7,iV (p0.length:Int)),(8,iV s1)] (St w0 Φ [] [])
 unfold fg at h
 refine att 5 [] rfl ?_
 refine ch h rfl ?_ ?_ <;> intro h
 ·refine atr 5 [] rfl ?_
  obtain ⟨x1,hx1,h⟩:=bs h
  obtain ⟨cs1,F1,-,g1,hb1,hs1,r1⟩:=ph0.el (ab hx1).2.2
  obtain ⟨rfl,-⟩:=r1
  refine lia ph0 hx1 rfl<|lhx 0 0 g1 rfl<|art 8 [] rfl ?_
  refine ch h rfl ?_ ?_ <;> intro h
  ·refine att 5 [] rfl ?_
   exact rt hF h
  refine att 6 [] rfl ?_
  exact lb [] [] (ih1 _ h)
 refine att 6 [] rfl ?_
 exact rt hF h
theorem o6  (w0:av Ψ Φ []) (p0:Int)  {r:Bool} (h:iF N p0=some r) :
  CB w0 prog 189 [iV p0] (.bool r):=by
 refine eN func189 rfl ntmps189 rfl w0 fun hF=>?_
 unfold iF at h
 refine att 11 [] rfl ?_
 exact rt hF h
theorem eV  (w0:av Ψ Φ []) (p0:Int) (p1:Int)  {r:Int} (h:cO N p0 p1=some r) :
  CB w0 prog 120 [iV p0,iV p1] (iV r):=by
 refine eN func120 rfl ntmps120 rfl w0 fun hF=>?_
 unfold cO at h
 refine atr 7 [] rfl<|qc h (o6 N · p0 ·) rfl rfl rfl fun x1 h=>arr 5 [] rfl<|qc h (o6 N · p1 ·) rfl rfl rfl fun x2 h=>art 7 [] rfl ?_
 refine ch h rfl ?_ ?_ <;> intro h
 ·refine att 5 [] rfl ?_
  refine ch h rfl ?_ ?_ <;> intro h
  ·refine att 4 [] rfl ?_
   exact rt hF h
  refine att 5 [] rfl ?_
  exact rt hF h
 refine att 6 [] rfl ?_
 refine ch h rfl ?_ ?_ <;> intro h
 ·refine att 4 [] rfl ?_
  exact rt hF h
 refine att 8 [] rfl ?_
 refine ch h rfl ?_ ?_ <;> intro h
 ·refine att 4 [] rfl ?_
  exact rt hF h
 refine att 8 [] rfl ?_
 refine ch h rfl ?_ ?_ <;> intro h
 ·refine att 4 [] rfl ?_
  exact rt hF h
 refine att 5 [] rfl ?_
 exact rt hF h
theorem gT (w0:av Ψ Φ []) (p0:(List Int)) (p1:(List Int)) (ph0:RSl (RI .i64) 1 Ψ pG0 pv0 p0) (ph1:RSl (RI .i64) 1 Ψ pG1 pv1 p1) {r:Int} (h:cM N p0 p1=some r) :
  CB w0 prog 121 [pv0,pv1] (iV r):=by
 refine eN func121 rfl ntmps121 rfl w0 fun hF=>?_
 unfold cM at h
 refine atr 8 [] rfl<|lnr ph0 rfl<|art 3 [] rfl ?_
 refine lin (σ:=Int) (fun s=>[(0,pv0),(1,pv1),(9,pv0),(10,iV (p0.length:Int)),(11,iV s)]) (fun s=>St w0 Φ [] []) (fun m s=>bB N p0 p1 m s=some r) (0) N h (sx [] []) (fun n1 ih1 s hm=>?_)
 revert hm; revert s; intro s1 hm
 have h:bB N p0 p1 (n1+1) s1=some r:=hm
 show WT _ _ [(0,pv0),(1,pv1),(9,pv0),(10,iV (p0.length:Int)),(11,iV s1)] (St w0 Φ [] [])
 unfold bB at h
 refine att 5 [] rfl ?_
 refine ch h rfl ?_ ?_ <;> intro h
 ·refine atr 6 [] rfl ?_
  obtain ⟨x1,hx1,h⟩:=bs h
  obtain ⟨cs1,F1,-,g1,hb1,hs1,r1⟩:=ph0.el (ab hx1).2.2
  obtain ⟨rfl,-⟩:=r1
  refine lia ph0 hx1 rfl<|lhx 0 0 g1 rfl<|arr 8 [] rfl<|lnr ph1 rfl<|la rfl<|en ?_
  refine ch h rfl ?_ ?_ <;> intro h
  ·refine att 4 [] rfl ?_
   exact rt hF h
  refine atr 5 [] rfl ?_
  obtain ⟨x2,hx2,h⟩:=bs h
  obtain ⟨cs2,F2,-,g2,hb2,hs2,r2⟩:=ph1.el (ab hx2).2.2
  obtain ⟨rfl,-⟩:=r2
  refine lia ph1 hx2 rfl<|lhx 0 0 g2 rfl<|arr 6 [] rfl<|qc h (eV N · x1 x2 ·) rfl rfl rfl fun x3 h=>art 7 [] rfl ?_
  refine ch h rfl ?_ ?_ <;> intro h
  ·refine att 5 [] rfl ?_
   exact rt hF h
  refine att 6 [] rfl ?_
  exact lb [] [] (ih1 _ h)
 refine atr 5 [] rfl<|lnr ph0 rfl<|la rfl<|lnr ph1 rfl<|la rfl<|en ?_
 refine ch h rfl ?_ ?_ <;> intro h
 ·refine att 4 [] rfl ?_
  exact rt hF h
 refine att 5 [] rfl ?_
 exact rt hF h
theorem ki (w0:av Ψ Φ []) (p0:aD) (p1:aD) (ph0_0:RSl (RI .i64) 1 Ψ pG0_0 pv0_0 p0.Ids) (ph0_1:RSl (RI .i64) 1 Ψ pG0_1 pv0_1 p0.Hits) (ph1_0:RSl (RI .i64) 1 Ψ pG1_0 pv1_0 p1.Ids) (ph1_1:RSl (RI .i64) 1 Ψ pG1_1 pv1_1 p1.Hits) {r:Int} (h:cG N p0 p1=some r) :
  CB w0 prog 181 [.agg [pv0_0,pv0_1].toArray,.agg [pv1_0,pv1_1].toArray] (iV r):=by
 refine eN func181 rfl ntmps181 rfl w0 fun hF=>?_
 unfold cG at h
 refine sr<|lbx rfl fun b_1=>lbx rfl fun b_2=>art 3 [] rfl<|wm [0,1] [] rfl<|amm 8 [0,0,1,32,2,0,3,0,5,1,6,32,7,1,8,0] [0,1] rfl rfl ?_
 obtain ⟨x1,hx1,h⟩:=bs h
 refine on1 4 (mp rfl (kS [0,1]) (pdP rfl (gT N · p0.Ids p1.Ids ph0_0 ph1_0 hx1)) rfl ?_)
 obtain ⟨x2,hx2,h⟩:=bs h
 refine on1 9 (mp rfl (kS [0,1]) (pdP rfl (gT N · p0.Hits p1.Hits ph0_1 ph1_1 hx2)) rfl ?_)
 have rc1:RC (RI .i64) 1 Φ ([[],[]]:List (List Nat)) [iV x1,iV x2] ([x1,x2]:List Int):=RC.cons (c:=[iV x1]) (cells:=[iV x2]) ⟨rfl,rfl⟩ rfl (RC.cons (c:=[iV x2]) (cells:=[]) ⟨rfl,rfl⟩ rfl (RC.nil _ _ _))
 refine WM.one 10 (by kernel_rfl) (me rfl (fun _ v Φx D w1 hq hw=>Kn.of Kf.nil (ai2 0 1 rfl rfl) hw) (aV (vs:=[(0,iV x1),(1,iV x2)]) (C:=#[iV x1,iV x2]) RI.lasts dQ ou rfl rfl rfl rfl (ag BZ (a8 (C':=[iV x1,iV 0]) rfl rfl rfl rfl rfl (a8 (C':=[iV x1,iV x2]) rfl rfl rfl rfl rfl (ac)))) rfl rc1 rfl (by simpa using Kw.nil)) rfl ?_)
 rintro v1 Φ_1 D1 ⟨fr1,h1⟩
 replace h1:OSl (RI .i64) 3 1 Φ_1 [] v1 ([x1,x2]:List Int):=by simpa using h1
 obtain ⟨x3,hx3,h⟩:=bs h
 refine on1 11 (mp rfl (kS [0,1]) (pcP rfl (mK N · ([x1,x2]:List Int) h1.rsl hx3)) rfl ?_)
 refine amm 1 [12] [0,1] rfl rfl<|WM.nil (by kernel_rfl) ?_
 exact rt hF h
theorem ig {p2f:Nat} {p2fr:List Value} (w0:av Ψ Φ []) (p0:(List aD)) (p1:(List aD)) (p2:aD→aD→Option (Bool)) (ph0:RSl dY 2 Ψ pG0 pv0 p0) (ph1:RSl dY 2 Ψ pG1 pv1 p1) (p2hF:Fun prog p2f=true) (p2h:∀ {Φ':Hp} {w':World},FrH [] Φ Φ'→In Φ' w'→∀ (p2a0:aD) (p2a1:aD) {p2v0_0:Value} {p2G0_0:List Nat} {p2v0_1:Value} {p2G0_1:List Nat} {p2v1_0:Value} {p2G1_0:List Nat} {p2v1_1:Value} {p2G1_1:List Nat} (_:RSl (RI .i64) 1 Φ' p2G0_0 p2v0_0 p2a0.Ids) (_:RSl (RI .i64) 1 Φ' p2G0_1 p2v0_1 p2a0.Hits) (_:RSl (RI .i64) 1 Φ' p2G1_0 p2v1_0 p2a1.Ids) (_:RSl (RI .i64) 1 Φ' p2G1_1 p2v1_1 p2a1.Hits) {r:Bool},p2 p2a0 p2a1=some r→Calls prog p2f (([.agg [p2v0_0,p2v0_1].toArray,.agg [p2v1_0,p2v1_1].toArray]:List Value)++p2fr).toArray w' (lh (.bool r) w')) {r:Bool} (h:bU N p0 p1 p2=some r) :
  CB w0 prog 182 [pv0,pv1,.func (.func p2f) #[] p2fr.toArray] (.bool r):=by
 refine eN func182 rfl ntmps182 rfl w0 fun hF=>?_
 unfold bU at h
 refine atr 8 [] rfl<|lnr ph0 rfl<|la rfl<|lnr ph1 rfl<|la rfl<|en ?_
 refine ch h rfl ?_ ?_ <;> intro h
 ·refine att 4 [] rfl ?_
  exact rt hF h
 refine atr 5 [] rfl<|lnr ph0 rfl<|art 3 [] rfl ?_
 refine lin (σ:=Int) (fun s=>[(1,pv1),(2,.func (.func p2f) #[] p2fr.toArray),(15,pv0),(16,iV (p0.length:Int)),(17,iV s)]) (fun s=>St w0 Φ [] []) (fun m s=>aC N p0 p1 p2 m s=some r) (0) N h (sx [] []) (fun n1 ih1 s hm=>?_)
 revert hm; revert s; intro s1 hm
 have h:aC N p0 p1 p2 (n1+1) s1=some r:=hm
 show WT _ _ [(1,pv1),(2,.func (.func p2f) #[] p2fr.toArray),(15,pv0),(16,iV (p0.length:Int)),(17,iV s1)] (St w0 Φ [] [])
 unfold aC at h
 refine att 5 [] rfl ?_
 refine ch h rfl ?_ ?_ <;> intro h
 ·refine atr 6 [] rfl ?_
  obtain ⟨x1,hx1,h⟩:=bs h
  obtain ⟨cs1,F1,-,g1,hb1,hs1,r1⟩:=ph0.el (ab hx1).2.2
  obtain ⟨v1,G1,v2,G2,rfl,rfl,h1,h2⟩:=r1
  refine lia ph0 hx1 rfl<|lhx 0 2 g1 rfl<|lnz om rfl fun b_1=>la rfl<|soN 0 ta rfl ⟨h1.one,h2.one,trivial⟩ rfl ?_
  refine arr 5 [] rfl ?_
  obtain ⟨x2,hx2,h⟩:=bs h
  obtain ⟨cs2,F2,-,g2,hb2,hs2,r2⟩:=ph1.el (ab hx2).2.2
  obtain ⟨v3,G3,v4,G4,rfl,rfl,h3,h4⟩:=r2
  refine lia ph1 hx2 rfl<|lhx 0 2 g2 rfl<|lnz om rfl fun b_2=>soN 0 ta rfl ⟨h3.one,h4.one,trivial⟩ rfl ?_
  refine arr 6 [34,2] rfl ?_
  obtain ⟨x3,hx3,h⟩:=bs h
  refine lp (m6 p2hF rfl rfl (fun w1 hw=>p2h hw.frB hw.fro x1 x2 (h1.y hw.up) (h2.y hw.up) (h3.y hw.up) (h4.y hw.up) hx3)) rfl<|la rfl<|en ?_
  refine ch h rfl ?_ ?_ <;> intro h
  ·refine att 4 [] rfl ?_
   exact rt hF h
  refine att 6 [] rfl ?_
  exact lb [] [] (ih1 _ h)
 refine att 5 [] rfl ?_
 exact rt hF h
theorem wB (w0:av Ψ Φ []) (p0:aD) (p1:aD) (ph0_0:RSl (RI .i64) 1 Ψ pG0_0 pv0_0 p0.Ids) (ph0_1:RSl (RI .i64) 1 Ψ pG0_1 pv0_1 p0.Hits) (ph1_0:RSl (RI .i64) 1 Ψ pG1_0 pv1_0 p1.Ids) (ph1_1:RSl (RI .i64) 1 Ψ pG1_1 pv1_1 p1.Hits) {r:Bool} (h:kz N p0 p1=some r) :
  CB w0 prog 183 [.agg [pv0_0,pv0_1].toArray,.agg [pv1_0,pv1_1].toArray] (.bool r):=by
 refine eN func183 rfl ntmps183 rfl w0 fun hF=>?_
 unfold kz at h
 refine sr<|lbx rfl fun b_1=>lbx rfl fun b_2=>arr 6 [34,2] rfl<|qd h (ki N · p0 p1 ph0_0 ph0_1 ph1_0 ph1_1 ·) rfl rfl rfl fun x1 h=>art 3 [] rfl ?_
 exact rt hF h
theorem uy (w0:av Ψ Φ []) (p0:aO) (p1:aO) (ph0_0:RSl dY 2 Ψ pG0_0 pv0_0 p0.Toks) (ph1_0:RSl dY 2 Ψ pG1_0 pv1_0 p1.Toks) {r:Bool} (h:gO N p0 p1=some r) :
  CB w0 prog 114 [.agg [pv0_0].toArray,.agg [pv1_0].toArray] (.bool r):=by
 refine eN func114 rfl ntmps114 rfl w0 fun hF=>?_
 unfold gO at h
 refine sr ?_
 refine ln (uY (C:=#[pv0_0]) rfl rfl) rfl (fun b_1=>?_)
 refine ln (uY (C:=#[pv1_0]) rfl rfl) rfl (fun b_2=>?_)
 refine arr 7 [0,32] rfl<|lnr ph0_0 rfl<|arr 2 [0,0] rfl<|lnr ph1_0 rfl<|la rfl<|en ?_
 refine ch h rfl ?_ ?_ <;> intro h
 ·refine att 4 [] rfl ?_
  exact rt hF h
 refine att 2 [] rfl<|wm [0,1] [] rfl<|amm 4 [0,0,1,32,3,0,4,0] [0,1] rfl rfl ?_
 obtain ⟨x1,hx1,h⟩:=bs h
 refine WM.one 2 (by kernel_rfl) (mc rfl (fun _ v Φx D w1 hq hw=>Kn.of Kf.nil (ai2 0 1 rfl rfl) hw) (bo (js:=[]) (R:=[]) CV rfl rfl (fun w1 hw ap hl=>jh N (ba hw.fro) p0.Toks (ph0_0.y hw.up)  hx1)) rfl ?_)
 rintro v1 Φ_1 F1 ⟨ap1,fr1,v2,D1,rfl,rfl,h1,i1⟩
 obtain ⟨x2,hx2,h⟩:=bs h
 refine WM.one 5 (by kernel_rfl) (mc rfl (fun _ v Φx D w1 hq hw=>Kn.of Kf.nil (ai2 0 1 rfl rfl) hw) (bo (js:=[]) (R:=[ob v1]) CV rfl rfl (fun w1 hw ap hl=>jh N (ba hw.fro) p1.Toks (ph1_0.y hw.up)  hx2)) rfl ?_)
 rintro v3 Φ_2 F2 ⟨ap2,fr2,v4,D2,rfl,rfl,h2,i2⟩
 replace h1:=h1.fr fr2 (ap2.q 0 rfl) (Dj.sub (ap2.o ph0_0.old) i1)
 refine amm 2 [6,7] [0,1] rfl rfl<|WM.nil (by kernel_rfl)<|sr<|la rfl<|kcb [1] h rfl rfl rfl rfl (fun b ap z q=>im N b x1 (cG N) h1 Cw (fun hle' hin a0 a1=>fun f0 f1 f2 f3=>fun hr=>ki N (ba hin) a0 a1 f0 f1 f2 f3 hr) (Dj.sub (ap.o ph0_0.old) i1) q) ?_
 rintro x3 h v5 Φ_3 F3 ⟨ap3,fr3,D3,rfl,rfl,h3,i3⟩
 replace h2:=h2.fr fr3 (ap3.q 0 rfl) (Dj.sub (ap3.o ph1_0.old) i2)
 refine arr 4 [] rfl<|kcb [1] h rfl rfl rfl rfl (fun b ap z q=>im N b x2 (cG N) h2 Cw (fun hle' hin a0 a1=>fun f0 f1 f2 f3=>fun hr=>ki N (ba hin) a0 a1 f0 f1 f2 f3 hr) (Dj.sub (ap.o ph1_0.old) i2) q) ?_
 rintro x4 h v6 Φ_4 F4 ⟨ap4,fr4,D4,rfl,rfl,h4,i4⟩
 replace h3:=h3.fr fr4 (ap4.q 0 rfl) (Dj.sub (Dj.sub (ap4.o ph0_0.old) i1) i3)
 refine arr 5 [] rfl<|qc h (ig N · x3 x4 (kz N) h3.rsl h4.rsl H4 (fun hle' hin a0 a1=>fun f0 f1 f2 f3=>fun hr=>wB N (ba hin) a0 a1 f0 f1 f2 f3 hr) ·) rfl rfl rfl fun x5 h=>la rfl<|en ?_
 exact rt hF h
theorem tw (w0:av Ψ Φ []) (p0:cq) (p1:cq) (ph0_0:RSl gD 1 Ψ pG0_0 pv0_0 p0.Levels) (ph1_0:RSl gD 1 Ψ pG1_0 pv1_0 p1.Levels) {r:Bool} (h:f9 N p0 p1=some r) :
  CB w0 prog 112 [.agg [pv0_0].toArray,.agg [pv1_0].toArray] (.bool r):=by
 refine eN func112 rfl ntmps112 rfl w0 fun hF=>?_
 unfold f9 at h
 refine sr ?_
 refine ln (uY (C:=#[pv0_0]) rfl rfl) rfl (fun b_1=>?_)
 refine ln (uY (C:=#[pv1_0]) rfl rfl) rfl (fun b_2=>?_)
 refine arr 8 [0,32,0,0] rfl<|qz h (fun b z q=>fS N b p0.Levels p1.Levels (gO N) (ph0_0.y z) (ph1_0.y z) Hk (fun hle' hin a0 a1=>fun f0 f1=>fun hr=>uy N (ba hin) a0 a1 f0 f1 hr) q) rfl rfl rfl fun x1 h=>la rfl<|en ?_
 exact rt hF h
theorem wl (w0:av Ψ Φ []) (p0:dI) (p1:dI) (ph0_0:RSl j0 1 Ψ pG0_0 pv0_0 p0.Alphas) (ph0_1:RSl mm 1 Ψ pG0_1 pv0_1 p0.Rules) (ph1_0:RSl j0 1 Ψ pG1_0 pv1_0 p1.Alphas) (ph1_1:RSl mm 1 Ψ pG1_1 pv1_1 p1.Rules) {r:Bool} (h:mz N p0 p1=some r) :
  CB w0 prog 49 [.agg [pv0_0,pv0_1].toArray,.agg [pv1_0,pv1_1].toArray] (.bool r):=by
 refine eN func49 rfl ntmps49 rfl w0 fun hF=>?_
 unfold mz at h
 refine sr<|lbx rfl fun b_1=>lbx rfl fun b_2=>arr 8 [0,32,0,0] rfl<|qz h (fun b z q=>ie N b p0.Alphas p1.Alphas (ga N) (ph0_0.y z) (ph1_0.y z) Hj (fun hle' hin a0 a1=>fun f0 f1=>fun hr=>tI N (ba hin) a0 a1 f0 f1 hr) q) rfl rfl rfl fun x1 h=>arr 6 [] rfl ?_
 obtain ⟨b1,hb_1,h⟩:=bs h
 refine WL.cutN 6 [(18,.bool b1),(4,.bool false)] ?_ (fun K=>?_)
 rotate_left
 ·refine sp 12 hb_1 rfl (fun hb_1=>?_) fun hb_1=>?_
  ·refine arr 4 [1,32,1,0] rfl<|ly rfl rfl<|qz hb_1 (fun b z q=>ic N b p0.Rules p1.Rules (f9 N) (ph0_1.y z) (ph1_1.y z) GX (fun hle' hin a0 a1=>fun f0 f1=>fun hr=>tw N (ba hin) a0 a1 f0 f1 hr) q) rfl rfl rfl fun x2 hb_1=>la rfl ?_
   cases hb_1
   exact ku K
  ·refine arr 6 [] rfl ?_
   cases hb_1
   exact ku K
 refine la rfl<|en ?_
 exact rt hF h
theorem qD (w0:av Ψ Φ []) (p0:bP) (p1:dI) (p2:ah) (ph0_0:RSl cD 5 Ψ pG0_0 pv0_0 p0.Rules) (ph1_0:RSl j0 1 Ψ pG1_0 pv1_0 p1.Alphas) (ph1_1:RSl mm 1 Ψ pG1_1 pv1_1 p1.Rules) (ph2_0:RSl bm 3 Ψ pG2_0 pv2_0 p2.Items) {r:Bool} (h:gH N p0 p1 p2=some r) :
  CB w0 prog 13 [.agg [.string p0.Name,pv0_0].toArray,.agg [pv1_0,pv1_1].toArray,.agg [pv2_0,iV p2.Next].toArray] (.bool r):=by
 refine eN func13 rfl ntmps13 rfl w0 fun hF=>?_
 unfold gH at h
 refine sr<|lbx rfl fun b_1=>lbx rfl fun b_2=>lbx rfl fun b_3=>art 3 [] rfl<|wm [0,1,2] [] rfl<|amm 1 [0,66] [0,1,2] rfl rfl ?_
 obtain ⟨x1,hx1,h⟩:=bs h
 refine on1 1 (mp rfl (kS [0,1,2]) (pdP rfl (pV N · p0 ph0_0 hx1)) rfl ?_)
 refine amm 1 [2] [0,1,2] rfl rfl ?_
 refine WM.split (d:=9) rfl (fun c1=>?_) (fun c1=>?_)
 ·replace h:=ir h c1
  refine mqG 3 [4,5,6,7,8,9,10,11,12,13] rfl (by kernel_rfl) (kN [0,1,2]) (aG rz rfl (fun w1 hw=>hw.rgO (i:=0) rfl 0 2 [pv2_0,iV p2.Next] rfl) rfl) rfl ?_
  obtain ⟨x2,hx2,h⟩:=bs h
  refine on1 4 (mpG rfl (kS [0,1,2]) (pdP rfl (oe N · p2 ph2_0 hx2)) rfl ?_)
  refine amm 2 [5,6] [0,1,2] rfl rfl ?_
  refine WM.split (d:=13) rfl (fun c2=>?_) (fun c2=>?_)
  ·replace h:=ir h c2
   refine mqG 7 [11,12,13] rfl (by kernel_rfl) (kN [0,1,2]) (aG yj rfl (fun w1 hw=>hw.rgO (i:=1) rfl 0 2 [pv1_0,pv1_1] rfl) rfl) rfl<|mqG 8 [10,11,12,13] rfl (by kernel_rfl) (kN [0,1,2]) (aG y5 rfl (fun w1 hw=>hw.rgO (i:=2) rfl 0 2 [.string p0.Name,pv0_0] rfl) rfl) rfl<|mqG 9 [10,11,12,13] rfl (by kernel_rfl) (kN [0,1,2]) (aG rz rfl (fun w1 hw=>hw.rgO (i:=0) rfl 0 2 [pv2_0,iV p2.Next] rfl) rfl) rfl ?_
   obtain ⟨x3,hx3,h⟩:=bs h
   refine WM.one 10 (by kernel_rfl) (mcG rfl (fun _ v Φx D w1 hq hw=>Kn.of Kf.nil (ai3 0 1 2 rfl rfl rfl) hw) (bo (js:=[]) (R:=[]) J5 rfl rfl (fun w1 hw ap hl=>u9 N (ba hw.fro) p0 p2 (ph0_0.y hw.up) (ph2_0.y hw.up)  hx3)) rfl ?_)
   rintro v1 Φ_1 F1 ⟨ap1,fr1,v2,D1,v3,D2,rfl,rfl,h1,h2⟩
   obtain ⟨x4,hx4,h⟩:=bs h
   refine on1 11 (mpG rfl (kS [0,1,2]) (pzP rfl (fun b z=>wl N b p1 x3 (ph1_0.y z) (ph1_1.y z) (h1.rslG fc.gives) (h2.rslG ey.gives) hx4)) rfl ?_)
   refine amm 2 [12,13] [0,1,2] rfl rfl<|WM.nil (by kernel_rfl) ?_
   exact rt hF h
  replace h:=ik h c2
  refine mno 7 [11,12,13] rfl (by kernel_rfl) (kn Kf.nil (ai3 0 1 2 rfl rfl rfl)) rfl (.inl rfl) rfl rfl<|mno 8 [10,11,12,13] rfl (by kernel_rfl) (kn Kf.nil (ai3 0 1 2 rfl rfl rfl)) rfl (.inl rfl) rfl rfl<|mno 9 [10,11,12,13] rfl (by kernel_rfl) (kn Kf.nil (ai3 0 1 2 rfl rfl rfl)) rfl (.inl rfl) rfl rfl<|mno 10 [11,12,13] rfl (by kernel_rfl) (kn Kf.nil (ai3 0 1 2 rfl rfl rfl)) rfl (.inl rfl) rfl rfl<|mno 11 [12,13] rfl (by kernel_rfl) (kn Kf.nil (ai3 0 1 2 rfl rfl rfl)) rfl (.inl rfl) rfl rfl<|amm 2 [12,13] [0,1,2] rfl rfl<|WM.nil (by kernel_rfl) ?_
  exact rt hF h
 replace h:=ik h c1
 refine mno 3 [4,5,6,7,8,9,10,11,12,13] rfl (by kernel_rfl) (kn Kf.nil (ai3 0 1 2 rfl rfl rfl)) rfl (.inl rfl) rfl rfl<|mno 4 [5,6,7,8,9,10,11,12,13] rfl (by kernel_rfl) (kn Kf.nil (ai3 0 1 2 rfl rfl rfl)) rfl (.inl rfl) rfl rfl<|amm 2 [5,6] [0,1,2] rfl rfl<|mno 7 [11,12,13] rfl (by kernel_rfl) (kn Kf.nil (ai3 0 1 2 rfl rfl rfl)) rfl (.inl rfl) rfl rfl<|mno 8 [10,11,12,13] rfl (by kernel_rfl) (kn Kf.nil (ai3 0 1 2 rfl rfl rfl)) rfl (.inl rfl) rfl rfl<|mno 9 [10,11,12,13] rfl (by kernel_rfl) (kn Kf.nil (ai3 0 1 2 rfl rfl rfl)) rfl (.inl rfl) rfl rfl ?_
 refine mno 10 [11,12,13] rfl (by kernel_rfl) (kn Kf.nil (ai3 0 1 2 rfl rfl rfl)) rfl (.inl rfl) rfl rfl<|mno 11 [12,13] rfl (by kernel_rfl) (kn Kf.nil (ai3 0 1 2 rfl rfl rfl)) rfl (.inl rfl) rfl rfl<|amm 2 [12,13] [0,1,2] rfl rfl<|WM.nil (by kernel_rfl) ?_
 exact rt hF h
theorem fP {p2f:Nat} {p2fr:List Value} (w0:av Ψ Φ []) (p0:(List aa)) (p1:(List aa)) (p2:aa→aa→Option (Bool)) (ph0:RSl dM 3 Ψ pG0 pv0 p0) (ph1:RSl dM 3 Ψ pG1 pv1 p1) (p2hF:Fun prog p2f=true) (p2h:∀ {Φ':Hp} {w':World},FrH [] Φ Φ'→In Φ' w'→∀ (p2a0:aa) (p2a1:aa) {p2v0_0:Value} {p2G0_0:List Nat} {p2v0_1:Value} {p2G0_1:List Nat} {p2v1_0:Value} {p2G1_0:List Nat} {p2v1_1:Value} {p2G1_1:List Nat} (_:RSl (RI .i64) 1 Φ' p2G0_0 p2v0_0 p2a0.Ids) (_:RSl aZ 4 Φ' p2G0_1 p2v0_1 p2a0.Binds) (_:RSl (RI .i64) 1 Φ' p2G1_0 p2v1_0 p2a1.Ids) (_:RSl aZ 4 Φ' p2G1_1 p2v1_1 p2a1.Binds) {r:Bool},p2 p2a0 p2a1=some r→Calls prog p2f (([.agg [iV p2a0.Rule,p2v0_0,p2v0_1].toArray,.agg [iV p2a1.Rule,p2v1_0,p2v1_1].toArray]:List Value)++p2fr).toArray w' (lh (.bool r) w')) {r:Bool} (h:aQ N p0 p1 p2=some r) :
  CB w0 prog 50 [pv0,pv1,.func (.func p2f) #[] p2fr.toArray] (.bool r):=by
 refine eN func50 rfl ntmps50 rfl w0 fun hF=>?_
 unfold aQ at h
 refine atr 8 [] rfl<|lnr ph0 rfl<|la rfl<|lnr ph1 rfl<|la rfl<|en ?_
 refine ch h rfl ?_ ?_ <;> intro h
 ·refine att 4 [] rfl ?_
  exact rt hF h
 refine atr 5 [] rfl<|lnr ph0 rfl<|art 3 [] rfl ?_
 refine lin (σ:=Int) (fun s=>[(1,pv1),(2,.func (.func p2f) #[] p2fr.toArray),(15,pv0),(16,iV (p0.length:Int)),(17,iV s)]) (fun s=>St w0 Φ [] []) (fun m s=>aH N p0 p1 p2 m s=some r) (0) N h (sx [] []) (fun n1 ih1 s hm=>?_)
 revert hm; revert s; intro s1 hm
 have h:aH N p0 p1 p2 (n1+1) s1=some r:=hm
 show WT _ _ [(1,pv1),(2,.func (.func p2f) #[] p2fr.toArray),(15,pv0),(16,iV (p0.length:Int)),(17,iV s1)] (St w0 Φ [] [])
 unfold aH at h
 refine att 5 [] rfl ?_
 refine ch h rfl ?_ ?_ <;> intro h
 ·refine atr 6 [] rfl ?_
  obtain ⟨x1,hx1,h⟩:=bs h
  obtain ⟨cs1,F1,-,g1,hb1,hs1,r1⟩:=ph0.el (ab hx1).2.2
  obtain ⟨v1,G1,v2,G2,rfl,rfl,h1,h2⟩:=r1
  refine lia ph0 hx1 rfl<|lhx 0 3 g1 rfl<|lnz uU rfl fun b_1=>la rfl<|soN 0 qQ rfl ⟨rfl,h1.one,h2.one,trivial⟩ rfl ?_
  refine arr 5 [] rfl ?_
  obtain ⟨x2,hx2,h⟩:=bs h
  obtain ⟨cs2,F2,-,g2,hb2,hs2,r2⟩:=ph1.el (ab hx2).2.2
  obtain ⟨v3,G3,v4,G4,rfl,rfl,h3,h4⟩:=r2
  refine lia ph1 hx2 rfl<|lhx 0 3 g2 rfl<|lnz uU rfl fun b_2=>soN 0 qQ rfl ⟨rfl,h3.one,h4.one,trivial⟩ rfl ?_
  refine arr 6 [35,3] rfl ?_
  obtain ⟨x3,hx3,h⟩:=bs h
  refine lp (m6 p2hF rfl rfl (fun w1 hw=>p2h hw.frB hw.fro x1 x2 (h1.y hw.up) (h2.y hw.up) (h3.y hw.up) (h4.y hw.up) hx3)) rfl<|la rfl<|en ?_
  refine ch h rfl ?_ ?_ <;> intro h
  ·refine att 4 [] rfl ?_
   exact rt hF h
  refine att 6 [] rfl ?_
  exact lb [] [] (ih1 _ h)
 refine att 5 [] rfl ?_
 exact rt hF h
theorem uH (w0:av Ψ Φ []) (p0:aa) (p1:aa) (ph0_0:RSl (RI .i64) 1 Ψ pG0_0 pv0_0 p0.Ids) (ph0_1:RSl aZ 4 Ψ pG0_1 pv0_1 p0.Binds) (ph1_0:RSl (RI .i64) 1 Ψ pG1_0 pv1_0 p1.Ids) (ph1_1:RSl aZ 4 Ψ pG1_1 pv1_1 p1.Binds) {r:Bool} (h:jS N p0 p1=some r) :
  CB w0 prog 28 [.agg [iV p0.Rule,pv0_0,pv0_1].toArray,.agg [iV p1.Rule,pv1_0,pv1_1].toArray] (.bool r):=by
 refine eN func28 rfl ntmps28 rfl w0 fun hF=>?_
 unfold jS at h
 refine sr<|lbx rfl fun b_1=>lbx rfl fun b_2=>arr 10 [0,32,0,0] rfl ?_
 obtain ⟨b1,hb_1,h⟩:=bs h
 refine WL.cutN 6 [(16,.bool b1),(4,.bool false)] ?_ (fun K=>?_)
 rotate_left
 ·refine sp 10 hb_1 rfl (fun hb_1=>?_) fun hb_1=>?_
  ·refine arr 4 [1,32,1,0] rfl<|ly rfl rfl<|qd hb_1 (iB N · p0.Ids p1.Ids ph0_0 ph1_0 ·) rfl rfl rfl fun x1 hb_1=>la rfl ?_
   cases hb_1
   exact ku K
  ·refine arr 6 [] rfl ?_
   cases hb_1
   exact ku K
 refine la rfl<|en ?_
 exact rt hF h
theorem mQ (w0:av Ψ Φ []) (p0:(List ax)) (p1:(List ax)) (ph0:RSl aZ 4 Ψ pG0 pv0 p0) (ph1:RSl aZ 4 Ψ pG1 pv1 p1) {r:Bool} (h:df N p0 p1=some r) :
  CB w0 prog 52 [pv0,pv1] (.bool r):=by
 refine eN func52 rfl ntmps52 rfl w0 fun hF=>?_
 unfold df at h
 refine atr 8 [] rfl<|lnr ph0 rfl<|la rfl<|lnr ph1 rfl<|la rfl<|en ?_
 refine ch h rfl ?_ ?_ <;> intro h
 ·refine att 4 [] rfl ?_
  exact rt hF h
 refine atr 5 [] rfl<|lnr ph0 rfl<|art 3 [] rfl ?_
 refine lin (σ:=Int) (fun s=>[(0,pv0),(1,pv1),(12,iV (p0.length:Int)),(13,iV s)]) (fun s=>St w0 Φ [] []) (fun m s=>bH N p0 p1 m s=some r) (0) N h (sx [] []) (fun n1 ih1 s hm=>?_)
 revert hm; revert s; intro s1 hm
 have h:bH N p0 p1 (n1+1) s1=some r:=hm
 show WT _ _ [(0,pv0),(1,pv1),(12,iV (p0.length:Int)),(13,iV s1)] (St w0 Φ [] [])
 unfold bH at h
 refine att 5 [] rfl ?_
 refine ch h rfl ?_ ?_ <;> intro h
 ·refine att 9 [] rfl<|WT.draw mixed (by kernel_rfl) (fun _ h=>h.drew)<|aqq 2 [] rfl ?_
  obtain ⟨x1,hx1,h⟩:=bs h
  obtain ⟨cs1,F1,-,g1,hb1,hs1,r1⟩:=ph0.el (ab hx1).2.2
  obtain ⟨rfl,-⟩:=r1
  refine qq (aw uR rfl rfl ph0 hx1) rfl<|qq (aG HY rfl (fun w1 hw=>(g1.of_eq 0 4 rfl rfl:rg _ _ _ [.string x1.Name,iV x1.V.K,iV x1.V.N,.string x1.V.S]).rangeAt hw.in0) rfl) rfl<|aqq 2 [] rfl ?_
  obtain ⟨x2,hx2,h⟩:=bs h
  obtain ⟨cs2,F2,-,g2,hb2,hs2,r2⟩:=ph1.el (ab hx2).2.2
  obtain ⟨rfl,-⟩:=r2
  refine qq (aw uR rfl rfl ph1 hx2) rfl<|qq (aG HY rfl (fun w1 hw=>(g2.of_eq 0 4 rfl rfl:rg _ _ _ [.string x2.Name,iV x2.V.K,iV x2.V.N,.string x2.V.S]).rangeAt hw.in0) rfl) rfl<|qq (wc Jc rfl rfl rfl (r:=rL x1 x2) rfl) rfl<|WQ.nil ?_
  refine ch h rfl ?_ ?_ <;> intro h
  ·refine att 4 [] rfl ?_
   exact rt hF h
  refine att 6 [] rfl ?_
  exact lb [] [] (ih1 _ h)
 refine att 5 [] rfl ?_
 exact rt hF h
theorem tG (w0:av Ψ Φ []) (p0:aa) (p1:aa) (ph0_0:RSl (RI .i64) 1 Ψ pG0_0 pv0_0 p0.Ids) (ph0_1:RSl aZ 4 Ψ pG0_1 pv0_1 p0.Binds) (ph1_0:RSl (RI .i64) 1 Ψ pG1_0 pv1_0 p1.Ids) (ph1_1:RSl aZ 4 Ψ pG1_1 pv1_1 p1.Binds) {r:Bool} (h:eZ N p0 p1=some r) :
  CB w0 prog 51 [.agg [iV p0.Rule,pv0_0,pv0_1].toArray,.agg [iV p1.Rule,pv1_0,pv1_1].toArray] (.bool r):=by
 refine eN func51 rfl ntmps51 rfl w0 fun hF=>?_
 unfold eZ at h
 refine sr<|lbx rfl fun b_1=>lbx rfl fun b_2=>arr 6 [35,3] rfl<|qd h (uH N · p0 p1 ph0_0 ph0_1 ph1_0 ph1_1 ·) rfl rfl rfl fun x1 h=>la rfl ?_
 obtain ⟨b1,hb_1,h⟩:=bs h
 refine WL.cutN 6 [(14,.bool b1),(4,.bool false)] ?_ (fun K=>?_)
 rotate_left
 ·refine sp 8 hb_1 rfl (fun hb_1=>?_) fun hb_1=>?_
  ·refine arr 4 [2,32,2,0] rfl<|ly rfl rfl<|qd hb_1 (mQ N · p0.Binds p1.Binds ph0_1 ph1_1 ·) rfl rfl rfl fun x2 hb_1=>la rfl ?_
   cases hb_1
   exact ku K
  ·refine arr 6 [] rfl ?_
   cases hb_1
   exact ku K
 refine la rfl<|en ?_
 exact rt hF h
theorem wM (w0:av Ψ Φ []) (p0:(List aa)) (p1:(List aa)) (ph0:RSl dM 3 Ψ pG0 pv0 p0) (ph1:RSl dM 3 Ψ pG1 pv1 p1) {r:Bool} (h:mw N p0 p1=some r) :
  CB w0 prog 14 [pv0,pv1] (.bool r):=by
 refine eN func14 rfl ntmps14 rfl w0 fun hF=>?_
 unfold mw at h
 refine atr 8 [] rfl<|qz h (fun b z q=>fP N b p0 p1 (eZ N) (ph0.y z) (ph1.y z) Jd (fun hle' hin a0 a1=>fun f0 f1 f2 f3=>fun hr=>tG N (ba hin) a0 a1 f0 f1 f2 f3 hr) q) rfl rfl rfl fun x1 h=>la rfl<|en ?_
 exact rt hF h
theorem vn (w0:av Ψ Φ []) (p0:af) (p1:ah) (p2:(List Int)) (ph0_0:RSl bS 3 Ψ pG0_0 pv0_0 p0.Pats) (ph0_1:RSl bq 11 Ψ pG0_1 pv0_1 p0.Conds) (ph0_2:RSl ep 5 Ψ pG0_2 pv0_2 p0.Acts) (ph1_0:RSl bm 3 Ψ pG1_0 pv1_0 p1.Items) (ph2:RSl (RI .i64) 1 Ψ pG2 pv2 p2) {r:(List ax) × Bool} (h:kV N p0 p1 p2=some r) :
  Calls prog 53 [.agg [.string p0.Name,iV p0.Sal,pv0_0,pv0_1,pv0_2].toArray,.agg [pv1_0,iV p1.Next].toArray,pv2].toArray w0.w (be Φ w0.w [] (fun Φ' Fs v=>∃ (sr_0_0:Value),v = .tuple #[sr_0_0,.bool r.2]∧Fs=[ob sr_0_0]∧OSl aZ 97 4 Φ' [] sr_0_0 r.1)):=by
 refine eN func53 rfl ntmps53 rfl w0 fun hF=>?_
 unfold kV at h
 refine sr<|lbx rfl fun b_1=>lbx rfl fun b_2=>arr 6 [37] rfl<|kab h rfl rfl rfl (fun b z q=>oF N b p0 false (ph0_0.y z) (ph0_1.y z) (ph0_2.y z) q) ?_
 rintro x1 h v1 Φ_1 F1 ⟨ap1,fr1,v2,D1,rfl,rfl,h1,i1⟩
 refine arr 6 [] rfl<|lnr ph2 rfl<|la rfl<|lno h1 rfl<|la rfl<|en ?_
 refine ch h rfl ?_ ?_ <;> intro h
 ·refine att 5 [] rfl ?_
  refine WT.ret hF (ay.two rfl rfl) (fun w1 hw=>?_)
  cases h
  replace hw:=hw.addNil
  refine aI (js:=[0]) hw rfl ⟨.slice none 0 0,rfl,rfl,OSl.nil _ _ _ _⟩
 refine atr 6 [2] rfl<|kab h rfl rfl rfl (fun b z q=>nY N b x1 p1 p2 h1.rsl (ph1_0.y z) (ph2.y z) q) ?_
 rintro x2 h v3 Φ_2 F2 ⟨ap2,fr2,v4,rfl,rfl,h2⟩
 refine art 5 [] rfl ?_
 exact rtg [0] hF (ay.two rfl rfl) rfl (by cases h; exact fun w1 hw=>⟨v4,rfl,rfl,h2⟩)
theorem xK (w0:av Ψ Φ []) (p0:aD) (ph0_0:RSl (RI .i64) 1 Ψ pG0_0 pv0_0 p0.Ids) (ph0_1:RSl (RI .i64) 1 Ψ pG0_1 pv0_1 p0.Hits) {r:Bool} (h:o8 N p0=some r) :
  CB w0 prog 54 [.agg [pv0_0,pv0_1].toArray] (.bool r):=by
 refine eN func54 rfl ntmps54 rfl w0 fun hF=>?_
 unfold o8 at h
 refine sr<|lbx rfl fun b_1=>arr 7 [1,0] rfl<|lnr ph0_1 rfl<|art 3 [] rfl ?_
 refine lin (σ:=Int) (fun s=>[(6,pv0_1),(7,iV (p0.Hits.length:Int)),(8,iV s)]) (fun s=>St w0 Φ [] []) (fun m s=>fL N p0 m s=some r) (0) N h (sx [] []) (fun n1 ih1 s hm=>?_)
 revert hm; revert s; intro s1 hm
 have h:fL N p0 (n1+1) s1=some r:=hm
 show WT _ _ [(6,pv0_1),(7,iV (p0.Hits.length:Int)),(8,iV s1)] (St w0 Φ [] [])
 unfold fL at h
 refine att 5 [] rfl ?_
 refine ch h rfl ?_ ?_ <;> intro h
 ·refine atr 5 [] rfl ?_
  obtain ⟨x1,hx1,h⟩:=bs h
  obtain ⟨cs1,F1,-,g1,hb1,hs1,r1⟩:=ph0_1.el (ab hx1).2.2
  obtain ⟨rfl,-⟩:=r1
  refine lia ph0_1 hx1 rfl<|lhx 0 0 g1 rfl<|art 7 [] rfl ?_
  refine ch h rfl ?_ ?_ <;> intro h
  ·refine att 4 [] rfl ?_
   exact rt hF h
  refine att 6 [] rfl ?_
  exact lb [] [] (ih1 _ h)
 refine att 5 [] rfl ?_
 exact rt hF h
theorem rW (w0:av Ψ Φ []) (p0:bh) (p1:(List ax)) (ph1:RSl aZ 4 Ψ pG1 pv1 p1) {r:aN × Bool} (h:lx N p0 p1=some r) :
  CB w0 prog 185 [.agg [iV p0.K,.string p0.S,iV p0.V.K,iV p0.V.N,.string p0.V.S].toArray,pv1] (.tuple #[.agg [iV r.1.K,iV r.1.N,.string r.1.S].toArray,.bool r.2]):=by
 refine eN func185 rfl ntmps185 rfl w0 fun hF=>?_
 unfold lx at h
 refine sr<|lbx rfl fun b_1=>lnz gF rfl fun b_2=>art 14 [0,32] rfl ?_
 refine ch h rfl ?_ ?_ <;> intro h
 ·refine atr 4 [2,35] rfl<|soN 0 mW rfl ⟨rfl,rfl,rfl,trivial⟩ rfl ?_
  refine la rfl<|en ?_
  refine WT.ret hF (ay.two (bb mV rfl (fun w1 hw=>hw.rgO (i:=0) rfl 0 3 [iV p0.V.K,iV p0.V.N,.string p0.V.S] rfl) rfl) rfl) (fun w1 hw=>?_)
  cases h
  exact gg hw
 refine att 5 [] rfl ?_
 refine ch h rfl ?_ ?_ <;> intro h
 ·refine atr 5 [1,32] rfl<|qd h (sy N · p1 p0.S ph1 ·) rfl rfl rfl fun x1 h=>arr 2 [] rfl<|soN 0 mW rfl ⟨rfl,rfl,rfl,trivial⟩ rfl ?_
  refine la rfl<|en ?_
  refine WT.ret hF (ay.two (bb mV rfl (fun w1 hw=>hw.rgO (i:=0) rfl 0 3 [iV x1.1.K,iV x1.1.N,.string x1.1.S] rfl) rfl) rfl) (fun w1 hw=>?_)
  cases h
  exact gg hw
 refine atr 4 [] rfl<|lq (bz (vs:=[]) (C:=#[iV 0,iV 0,.string (⟨#[]⟩:ByteArray)]) qY gF rfl (ac)) rfl<|soN 0 mW rfl ⟨rfl,rfl,rfl,trivial⟩ rfl ?_
 refine la rfl<|en ?_
 refine WT.ret hF (ay.two (bb mV rfl (fun w1 hw=>hw.rgO (i:=0) rfl 0 3 [iV 0,iV 0,.string (⟨#[]⟩:ByteArray)] rfl) rfl) rfl) (fun w1 hw=>?_)
 cases h
 exact gg hw
theorem lw  (w0:av Ψ Φ []) (p0:ByteArray)  {r:Bool} (h:gn N p0=some r) :
  CB w0 prog 264 [.string p0] (.bool r):=by
 refine eN func264 rfl ntmps264 rfl w0 fun hF=>?_
 unfold gn at h
 refine att 11 [] rfl ?_
 exact rt hF h
theorem oZ  (w0:av Ψ Φ []) (p0:ByteArray) (p1:ByteArray)  {r:Int} (h:fa N p0 p1=some r) :
  CB w0 prog 252 [.string p0,.string p1] (iV r):=by
 refine eN func252 rfl ntmps252 rfl w0 fun hF=>?_
 unfold fa at h
 refine atr 7 [] rfl<|qc h (lw N · p0 ·) rfl rfl rfl fun x1 h=>arr 5 [] rfl<|qc h (lw N · p1 ·) rfl rfl rfl fun x2 h=>art 7 [] rfl ?_
 refine ch h rfl ?_ ?_ <;> intro h
 ·refine att 5 [] rfl ?_
  refine ch h rfl ?_ ?_ <;> intro h
  ·refine att 4 [] rfl ?_
   exact rt hF h
  refine att 5 [] rfl ?_
  exact rt hF h
 refine att 6 [] rfl ?_
 refine ch h rfl ?_ ?_ <;> intro h
 ·refine att 4 [] rfl ?_
  exact rt hF h
 refine atr 6 [] rfl<|lq (Kl rfl rfl) rfl<|en ?_
 refine ch h rfl ?_ ?_ <;> intro h
 ·refine att 4 [] rfl ?_
  exact rt hF h
 refine atr 6 [] rfl<|lq (Kc rfl rfl) rfl<|en ?_
 refine ch h rfl ?_ ?_ <;> intro h
 ·refine att 4 [] rfl ?_
  exact rt hF h
 refine att 5 [] rfl ?_
 exact rt hF h
theorem sR  (w0:av Ψ Φ []) (p0:aN) (p1:aN)  {r:Int} (h:jW N p0 p1=some r) :
  CB w0 prog 224 [.agg [iV p0.K,iV p0.N,.string p0.S].toArray,.agg [iV p1.K,iV p1.N,.string p1.S].toArray] (iV r):=by
 refine eN func224 rfl ntmps224 rfl w0 fun hF=>?_
 unfold jW at h
 refine sr<|lbx rfl fun b_1=>lbx rfl fun b_2=>art 3 [] rfl<|wm [0,1] [] rfl<|amm 12 [0,0,1,32,2,0,3,0,5,1,6,32,7,1,8,0,10,2,11,32,12,2,13,0] [0,1] rfl rfl ?_
 obtain ⟨x1,hx1,h⟩:=bs h
 refine on1 4 (mp rfl (kS [0,1]) (pcP rfl (eV N · p0.K p1.K hx1)) rfl ?_)
 obtain ⟨x2,hx2,h⟩:=bs h
 refine on1 9 (mp rfl (kS [0,1]) (pcP rfl (eV N · p0.N p1.N hx2)) rfl ?_)
 obtain ⟨x3,hx3,h⟩:=bs h
 refine on1 14 (mp rfl (kS [0,1]) (pcP rfl (oZ N · p0.S p1.S hx3)) rfl ?_)
 have rc1:RC (RI .i64) 1 Φ ([[],[],[]]:List (List Nat)) [iV x1,iV x2,iV x3] ([x1,x2,x3]:List Int):=RC.cons (c:=[iV x1]) (cells:=[iV x2,iV x3]) ⟨rfl,rfl⟩ rfl (RC.cons (c:=[iV x2]) (cells:=[iV x3]) ⟨rfl,rfl⟩ rfl (RC.cons (c:=[iV x3]) (cells:=[]) ⟨rfl,rfl⟩ rfl (RC.nil _ _ _)))
 refine WM.one 15 (by kernel_rfl) (me rfl (fun _ v Φx D w1 hq hw=>Kn.of Kf.nil (ai2 0 1 rfl rfl) hw) (aV (vs:=[(0,iV x1),(1,iV x2),(2,iV x3)]) (C:=#[iV x1,iV x2,iV x3]) RI.lasts dQ ou rfl rfl rfl rfl (ag Ee (a8 (C':=[iV x1,iV 0,iV 0]) rfl rfl rfl rfl rfl (a8 (C':=[iV x1,iV x2,iV 0]) rfl rfl rfl rfl rfl (a8 (C':=[iV x1,iV x2,iV x3]) rfl rfl rfl rfl rfl (ac))))) rfl rc1 rfl (by simpa using Kw.nil)) rfl ?_)
 rintro v1 Φ_1 D1 ⟨fr1,h1⟩
 replace h1:OSl (RI .i64) 3 1 Φ_1 [] v1 ([x1,x2,x3]:List Int):=by simpa using h1
 obtain ⟨x4,hx4,h⟩:=bs h
 refine on1 16 (mp rfl (kS [0,1]) (pcP rfl (mK N · ([x1,x2,x3]:List Int) h1.rsl hx4)) rfl ?_)
 refine amm 1 [17] [0,1] rfl rfl<|WM.nil (by kernel_rfl) ?_
 exact rt hF h
theorem w4  (w0:av Ψ Φ []) (p0:aN) (p1:aN)  {r:Bool} (h:mH N p0 p1=some r) :
  CB w0 prog 186 [.agg [iV p0.K,iV p0.N,.string p0.S].toArray,.agg [iV p1.K,iV p1.N,.string p1.S].toArray] (.bool r):=by
 refine eN func186 rfl ntmps186 rfl w0 fun hF=>?_
 unfold mH at h
 refine sr<|lbx rfl fun b_1=>lbx rfl fun b_2=>arr 6 [35,3] rfl<|qc h (sR N · p0 p1 ·) rfl rfl rfl fun x1 h=>art 3 [] rfl ?_
 exact rt hF h
theorem zi (w0:av Ψ Φ []) (p0:cm) (p1:(List ax)) (ph1:RSl aZ 4 Ψ pG1 pv1 p1) {r:Bool} (h:pG N p0 p1=some r) :
  CB w0 prog 117 [.agg [iV p0.Op,iV p0.L.K,.string p0.L.S,iV p0.L.V.K,iV p0.L.V.N,.string p0.L.V.S,iV p0.R.K,.string p0.R.S,iV p0.R.V.K,iV p0.R.V.N,.string p0.R.V.S].toArray,pv1] (.bool r):=by
 refine eN func117 rfl ntmps117 rfl w0 fun hF=>?_
 unfold pG at h
 refine sr<|lbx rfl fun b_1=>arr 7 [1,5] rfl<|qd h (rW N · p0.L p1 ph1 ·) rfl rfl rfl fun x1 h=>arr 3 [] rfl<|lnz gF rfl fun b_2=>soN 0 mW rfl ⟨rfl,rfl,rfl,trivial⟩ rfl ?_
 refine arr 7 [6,37] rfl<|qd h (rW N · p0.R p1 ph1 ·) rfl rfl rfl fun x2 h=>arr 3 [] rfl<|lnz gF rfl fun b_3=>soN 0 mW rfl ⟨rfl,rfl,rfl,trivial⟩ rfl ?_
 refine arr 8 [] rfl ?_
 obtain ⟨b1,hb_1,h⟩:=bs h
 refine WL.cutN 3 [(28,.bool b1),(2,pQ b_1),(5,pQ b_2),(7,pQ b_3)] ?_ (fun K=>?_)
 rotate_left
 ·refine sp 25 hb_1 rfl (fun hb_1=>?_) fun hb_1=>?_
  ·refine arr 3 [] rfl ?_
   cases hb_1
   exact ku K
  ·refine arr 3 [] rfl ?_
   cases hb_1
   exact ku K
 refine en ?_
 refine ch h rfl ?_ ?_ <;> intro h
 ·refine att 4 [] rfl ?_
  exact rt hF h
 refine att 13 [0,64] rfl ?_
 refine ch h rfl ?_ ?_ <;> intro h
 ·refine atr 4 [35,3] rfl<|lq (yq oU rfl rfl rfl (r:=bT x1.1 x2.1) rfl) rfl<|la rfl<|en ?_
  exact rt hF h
 refine att 5 [] rfl ?_
 refine ch h rfl ?_ ?_ <;> intro h
 ·refine atr 4 [35,3] rfl<|lq (wc oU rfl rfl rfl (r:=bT x1.1 x2.1) rfl) rfl<|la rfl<|en ?_
  exact rt hF h
 refine att 5 [] rfl ?_
 refine ch h rfl ?_ ?_ <;> intro h
 ·refine atr 4 [35,3] rfl<|qc h (w4 N · x1.1 x2.1 ·) rfl rfl rfl fun x3 h=>la rfl<|en ?_
  exact rt hF h
 refine att 6 [] rfl ?_
 exact rt hF h
theorem rm (w0:av Ψ Φ []) (p0:(List cm)) (p1:(List ax)) (ph0:RSl bq 11 Ψ pG0 pv0 p0) (ph1:RSl aZ 4 Ψ pG1 pv1 p1) {r:Bool} (h:kD N p0 p1=some r) :
  CB w0 prog 55 [pv0,pv1] (.bool r):=by
 refine eN func55 rfl ntmps55 rfl w0 fun hF=>?_
 unfold kD at h
 refine atr 8 [] rfl<|lnr ph0 rfl<|art 3 [] rfl ?_
 refine lin (σ:=Int) (fun s=>[(1,pv1),(7,pv0),(8,iV (p0.length:Int)),(9,iV s)]) (fun s=>St w0 Φ [] []) (fun m s=>eT N p0 p1 m s=some r) (0) N h (sx [] []) (fun n1 ih1 s hm=>?_)
 revert hm; revert s; intro s1 hm
 have h:eT N p0 p1 (n1+1) s1=some r:=hm
 show WT _ _ [(1,pv1),(7,pv0),(8,iV (p0.length:Int)),(9,iV s1)] (St w0 Φ [] [])
 unfold eT at h
 refine att 5 [] rfl ?_
 refine ch h rfl ?_ ?_ <;> intro h
 ·refine atr 5 [] rfl ?_
  obtain ⟨x1,hx1,h⟩:=bs h
  obtain ⟨cs1,F1,-,g1,hb1,hs1,r1⟩:=ph0.el (ab hx1).2.2
  obtain ⟨rfl,-⟩:=r1
  refine lia ph0 hx1 rfl<|lhx 0 11 g1 rfl<|lnz nI rfl fun b_1=>soN 0 sQ rfl ⟨rfl,rfl,rfl,rfl,rfl,rfl,rfl,rfl,rfl,rfl,rfl,trivial⟩ rfl ?_
  refine arr 5 [11] rfl<|qd h (zi N · x1 p1 ph1 ·) rfl rfl rfl fun x2 h=>la rfl<|en ?_
  refine ch h rfl ?_ ?_ <;> intro h
  ·refine att 4 [] rfl ?_
   exact rt hF h
  refine att 6 [] rfl ?_
  exact lb [] [] (ih1 _ h)
 refine att 5 [] rfl ?_
 exact rt hF h
theorem fk {p3f:Nat} {p3fr:List Value} (w0:av Ψ Φ [ob pv0,pD0].flatten) (p0:(List aa)) (p1:Int) (p2:Int) (p3:aa→aa→Option (Int)) (ph0:OSl aF 63 3 Φ pD0 pv0 p0) (p3hF:Fun prog p3f=true) (p3h:∀ {Φ':Hp} {w':World},FrH [ob pv0,pD0].flatten Φ Φ'→In Φ' w'→∀ (p3a0:aa) (p3a1:aa) {p3v0_0:Value} {p3G0_0:List Nat} {p3v0_1:Value} {p3G0_1:List Nat} {p3v1_0:Value} {p3G1_0:List Nat} {p3v1_1:Value} {p3G1_1:List Nat} (_:RSl (RI .i64) 1 Φ' p3G0_0 p3v0_0 p3a0.Ids) (_:RSl aZ 4 Φ' p3G0_1 p3v0_1 p3a0.Binds) (_:RSl (RI .i64) 1 Φ' p3G1_0 p3v1_0 p3a1.Ids) (_:RSl aZ 4 Φ' p3G1_1 p3v1_1 p3a1.Binds) {r:Int},p3 p3a0 p3a1=some r→Calls prog p3f (([.agg [iV p3a0.Rule,p3v0_0,p3v0_1].toArray,.agg [iV p3a1.Rule,p3v1_0,p3v1_1].toArray]:List Value)++p3fr).toArray w' (lh (iV r) w')) {r:(List aa)} (h:bC N p0 p1 p2 p3=some r) :
  Calls prog 187 [pv0,iV p1,iV p2,.func (.func p3f) #[] p3fr.toArray].toArray w0.w (be Φ w0.w [ob pv0,pD0].flatten (fun Φ' Fs v=>∃ (Do_0_0:List Nat),v = .tuple #[]∧Fs=[ob pv0,Do_0_0]∧OSl aF 63 3 Φ' Do_0_0 pv0 r)):=by
 refine eL func187 rfl ntmps187 rfl (L:=[ob pv0,pD0]) w0 (fun hF=>?_)
 unfold bC at h
 refine att 7 [] rfl ?_
 refine lin (σ:=Hp × (List aa) × List Nat × Int) (fun s=>[(0,pv0),(1,iV p1),(2,iV p2),(3,.func (.func p3f) #[] p3fr.toArray),(8,iV s.2.2.2)]) (fun s=>St w0 s.1 [] [ob pv0,s.2.2.1]) (fun m s=>aR N p1 p2 p3 m s.2.1 s.2.2.2=some r∧(OSl aF 63 3 s.1 s.2.2.1 pv0 s.2.1)) (Φ,p0,pD0,wz (p1+1)) N ⟨h,ph0⟩ (sx [0,0] []) (fun n1 ih1 s hm=>?_)
 obtain ⟨Φ_1,s1,D1,s2⟩:=s
 obtain ⟨h,k1⟩:=hm
 dsimp only at h k1 ⊢
 unfold aR at h
 refine att 7 [] rfl ?_
 refine ch h rfl ?_ ?_ <;> intro h
 ·refine att 9 [] rfl ?_
  refine lin (σ:=Hp × (List aa) × List Nat × Int) (fun s=>[(0,pv0),(1,iV p1),(2,iV p2),(3,.func (.func p3f) #[] p3fr.toArray),(8,iV s2),(9,iV s.2.2.2)]) (fun s=>St w0 s.1 [] [ob pv0,s.2.2.1]) (fun m s=>bn N p1 p3 s2 (aR N p1 p2 p3 n1) m s.2.1 s.2.2.2=some r∧(OSl aF 63 3 s.1 s.2.2.1 pv0 s.2.1)) (Φ_1,s1,D1,s2) N ⟨h,k1⟩ (sx [0,0] []) (fun n2 ih2 s hm=>?_)
  obtain ⟨Φ_2,s3,D2,s4⟩:=s
  obtain ⟨h,k2⟩:=hm
  dsimp only at h k2 ⊢
  unfold bn at h
  refine sq<|sq<|WT.draw mixed (by kernel_rfl) (fun _ h=>h.drew)<|aqq 4 [] rfl ?_
  obtain ⟨b1,hb_1,h⟩:=bs h
  refine WQ.cutN 13 [(34,.bool b1),(0,pv0),(1,iV p1),(2,iV p2),(3,.func (.func p3f) #[] p3fr.toArray),(8,iV s2),(9,iV s4)] ?_ (fun K=>?_)
  rotate_left
  ·refine WQ.split (d:=21) rfl (fun c2=>?_) (fun c2=>?_)
   ·replace hb_1:=ir hb_1 c2
    refine aqq 3 [] rfl<|WQ.yes rfl rfl ?_
    obtain ⟨x1,hx1,hb_1⟩:=bs hb_1
    obtain ⟨cs1,F1,-,g1,hb1,hs1,r1⟩:=k2.elS (ab hx1).2.2
    obtain ⟨v1,v2,rfl,rfl,h1,h2⟩:=r1
    have h3:=h1.rsl
    have h4:=h2.rsl
    refine qq (aw gp rfl rfl k2.rsl hx1) rfl<|WQ.yes rfl rfl<|qq (aG j6 rfl (fun w1 hw=>(g1.of_eq 0 3 rfl rfl:rg _ _ _ [iV x1.Rule,v1,v2]).rangeAt hw.fro) rfl) rfl<|aqq 3 [] rfl<|WQ.yes rfl rfl ?_
    obtain ⟨x2,hx2,hb_1⟩:=bs hb_1
    obtain ⟨cs2,F2,-,g2,hb2,hs2,r2⟩:=k2.elS (ab hx2).2.2
    obtain ⟨v3,v4,rfl,rfl,h5,h6⟩:=r2
    have h7:=h5.rsl
    have h8:=h6.rsl
    refine qq (aw gp rfl rfl k2.rsl hx2) rfl<|WQ.yes rfl rfl<|qq (aG j6 rfl (fun w1 hw=>(g2.of_eq 0 3 rfl rfl:rg _ _ _ [iV x2.Rule,v3,v4]).rangeAt hw.fro) rfl) rfl<|WQ.yes rfl rfl ?_
    obtain ⟨x3,hx3,hb_1⟩:=bs hb_1
    refine qp (m6 p3hF rfl rfl (fun w1 hw=>p3h hw.frB hw.fro x1 x2 h3 h4 h7 h8 hx3)) rfl<|aqq 2 [] rfl ?_
    cases hb_1
    exact kq K
   ·replace hb_1:=ik hb_1 c2
    refine aqq 13 [] rfl ?_
    cases hb_1
    exact kq K
  refine WQ.nil ?_
  refine ch h rfl ?_ ?_ <;> intro h
  ·refine att 3 [] rfl<|WT.mix (fun _=>True) (fun _=>true) mixed (fun _ h=>h.drew)<|ma 0 rfl (by kernel_rfl) (fun _ _=>trivial) rfl<|ma 1 rfl (by kernel_rfl) (fun _ _=>trivial) rfl<|ma 2 rfl (by kernel_rfl) (fun _ _=>trivial) rfl<|ma 3 rfl (by kernel_rfl) (fun _ _=>trivial) rfl<|ma 4 rfl (by kernel_rfl) (fun _ _=>trivial) rfl<|ma 5 rfl (by kernel_rfl) (fun _ _=>trivial) rfl<|ma 6 rfl (by kernel_rfl) (fun _ _=>trivial) rfl<|ma 7 rfl (by kernel_rfl) (fun _ _=>trivial) rfl ?_
   obtain ⟨x4,hx4,h⟩:=bs h
   obtain ⟨cs3,F3,-,g3,hb3,hs3,r3⟩:=k2.elS (ab hx4).2.2
   obtain ⟨v5,v6,rfl,rfl,h9,h10⟩:=r3
   have h11:=h9.rsl
   have h12:=h10.rsl
   refine mq 8 rfl (by kernel_rfl) (fun _ _=>trivial) (aw gp rfl rfl k2.rsl hx4) rfl<|ma 10 rfl (by kernel_rfl) (fun _ _=>trivial) rfl<|ma 11 rfl (by kernel_rfl) (fun _ _=>trivial) rfl ?_
   obtain ⟨x5,hx5,h⟩:=bs h
   obtain ⟨cs4,F4,-,g4,hb4,hs4,r4⟩:=k2.elS (ab hx5).2.2
   obtain ⟨v7,v8,rfl,rfl,h13,h14⟩:=r4
   have h15:=h13.rsl
   have h16:=h14.rsl
   refine mq 12 rfl (by kernel_rfl) (fun _ _=>trivial) (aw gp rfl rfl k2.rsl hx5) rfl ?_
   refine WM.qq2 9 13 rfl rfl (aG j6 rfl (fun w1 hw=>(g3.of_eq 0 3 rfl rfl:rg _ _ _ [iV x4.Rule,v5,v6]).rangeAt hw.fro) rfl) (aG j6 rfl (fun w1 hw=>(g4.of_eq 0 3 rfl rfl:rg _ _ _ [iV x5.Rule,v7,v8]).rangeAt hw.fro) rfl) (aG j6 rfl (fun w1 hw=>(g4.of_eq 0 3 rfl rfl:rg _ _ _ [iV x5.Rule,v7,v8]).rangeAt hw.fro) rfl) (aG j6 rfl (fun w1 hw=>(g3.of_eq 0 3 rfl rfl:rg _ _ _ [iV x4.Rule,v5,v6]).rangeAt hw.fro) rfl) rfl rfl (fun _ _=>trivial) rfl rfl (by kernel_rfl) (by kernel_rfl) (by kernel_rfl) ?_
   obtain ⟨x6,hx6,h⟩:=bs h
   obtain ⟨cs5,F5,-,g5,hb5,hs5,r5⟩:=k2.elS (ab hx6).2.2
   obtain ⟨v9,v10,rfl,rfl,h17,h18⟩:=r5
   have h19:=h17.rsl
   have h20:=h18.rsl
   refine mq 14 rfl (by kernel_rfl) (fun _ _=>trivial) (aw gp rfl rfl k2.rsl hx6) rfl ?_
   refine WM.one 15 (by kernel_rfl) (mu rfl (fun _ _ _ _ _ _=>trivial) (Cz (js:=[0]) (Rr:=[D2]) (vs:=[iV x4.Rule,v5,v6]) aF.lasts qQ rfl rfl rfl rfl ⟨rfl,h11.one,h12.one,trivial⟩ rfl k2 (ab hx5).2.2 (ab hx4).2.2 g4 rfl g3 (fun ap=>ap.q 0 rfl)) rfl ?_)
   rintro Φ_3 D3 ⟨⟨ap1,fr1⟩,h21⟩
   replace h15:=h15.fr fr1 (Dj.sub (ap1.q 0 rfl) (fun k h=>hs4 k (List.mem_append.2 (.inl h))))
   replace h16:=h16.fr fr1 (Dj.sub (ap1.q 0 rfl) (fun k h=>hs4 k (List.mem_append.2 (.inr h))))
   obtain ⟨x7,hx7,h⟩:=bs h
   refine mq 16 rfl (by kernel_rfl) (fun _ _=>trivial) (ni gp rfl rfl h21 hx7 (by simp)) rfl ?_
   refine WM.one 17 (by kernel_rfl) (mu rfl (fun _ _ _ _ _ _=>trivial) (Cy (js:=[0]) (Rr:=[D2]) aF.lasts qQ rfl rfl rfl ⟨rfl,h15.one,h16.one,trivial⟩ rfl h21 (ab hx5).2.2 (ab hx4).2.2 (fun ap=>ap.q 0 rfl)) rfl ?_)
   rintro Φ_4 D4 ⟨⟨ap2,fr2⟩,sp1,h22⟩
   refine WM.conv (S':=St w0 Φ_4 [] [D4,ob pv0]) (fun w1 hw=>hw.merge (js:=[1]) rfl (by simpa [List.append_assoc,fu] using sp1))<|WM.nil (by kernel_rfl)<|att 6 [] rfl ?_
   exact lb [1,0] [] (ih2 (_,_,_,_) ⟨h,h22⟩)
  refine att 7 [] rfl ?_
  exact lb [0,0] [] (ih1 (_,_,_,_) ⟨h,k2⟩)
 refine xt rfl ?_
 refine WT.fin hF ay.none (fun w1 hw=>?_)
 cases h
 refine aI (js:=[0,0]) hw rfl ⟨D1,rfl,rfl,k1⟩
theorem dX {p4f:Nat} {p4fr:List Value} (w0:av Ψ Φ [ob pv0,pD0].flatten) (p0:(List aa)) (p1:Int) (p2:Int) (p3:Int) (p4:aa→aa→Option (Int)) (ph0:OSl aF 63 3 Φ pD0 pv0 p0) (p4hF:Fun prog p4f=true) (p4h:∀ {Φ':Hp} {w':World},FrH [ob pv0,pD0].flatten Φ Φ'→In Φ' w'→∀ (p4a0:aa) (p4a1:aa) {p4v0_0:Value} {p4G0_0:List Nat} {p4v0_1:Value} {p4G0_1:List Nat} {p4v1_0:Value} {p4G1_0:List Nat} {p4v1_1:Value} {p4G1_1:List Nat} (_:RSl (RI .i64) 1 Φ' p4G0_0 p4v0_0 p4a0.Ids) (_:RSl aZ 4 Φ' p4G0_1 p4v0_1 p4a0.Binds) (_:RSl (RI .i64) 1 Φ' p4G1_0 p4v1_0 p4a1.Ids) (_:RSl aZ 4 Φ' p4G1_1 p4v1_1 p4a1.Binds) {r:Int},p4 p4a0 p4a1=some r→Calls prog p4f (([.agg [iV p4a0.Rule,p4v0_0,p4v0_1].toArray,.agg [iV p4a1.Rule,p4v1_0,p4v1_1].toArray]:List Value)++p4fr).toArray w' (lh (iV r) w')) {r:(List aa)} (h:bF N p0 p1 p2 p3 p4=some r) :
  Calls prog 253 [pv0,iV p1,iV p2,iV p3,.func (.func p4f) #[] p4fr.toArray].toArray w0.w (be Φ w0.w [ob pv0,pD0].flatten (fun Φ' Fs v=>∃ (Do_0_0:List Nat),v = .tuple #[]∧Fs=[ob pv0,Do_0_0]∧OSl aF 63 3 Φ' Do_0_0 pv0 r)):=by
 refine eL func253 rfl ntmps253 rfl (L:=[ob pv0,pD0]) w0 (fun hF=>?_)
 unfold bF at h
 refine att 5 [] rfl ?_
 refine lin (σ:=Hp × (List aa) × List Nat × Int) (fun s=>[(0,pv0),(1,iV p1),(2,iV p2),(3,iV p3),(10,iV s.2.2.2)]) (fun s=>St w0 s.1 [] [ob pv0,s.2.2.1]) (fun m s=>bk N p1 p2 p3 m s.2.1 s.2.2.2=some r∧(OSl aF 63 3 s.1 s.2.2.1 pv0 s.2.1)) (Φ,p0,pD0,0) N ⟨h,ph0⟩ (sx [0,0] []) (fun n1 ih1 s hm=>?_)
 obtain ⟨Φ_1,s1,D1,s2⟩:=s
 obtain ⟨h,k1⟩:=hm
 dsimp only at h k1 ⊢
 unfold bk at h
 refine att 7 [] rfl ?_
 refine ch h rfl ?_ ?_ <;> intro h
 ·refine att 3 [] rfl<|WT.mix (fun _=>True) (fun _=>true) mixed (fun _ h=>h.drew)<|ma 0 rfl (by kernel_rfl) (fun _ _=>trivial) rfl<|ma 1 rfl (by kernel_rfl) (fun _ _=>trivial) rfl<|ma 2 rfl (by kernel_rfl) (fun _ _=>trivial) rfl<|ma 3 rfl (by kernel_rfl) (fun _ _=>trivial) rfl<|ma 4 rfl (by kernel_rfl) (fun _ _=>trivial) rfl<|ma 5 rfl (by kernel_rfl) (fun _ _=>trivial) rfl<|ma 6 rfl (by kernel_rfl) (fun _ _=>trivial) rfl<|ma 7 rfl (by kernel_rfl) (fun _ _=>trivial) rfl<|ma 8 rfl (by kernel_rfl) (fun _ _=>trivial) rfl ?_
  refine ma 9 rfl (by kernel_rfl) (fun _ _=>trivial) rfl<|ma 10 rfl (by kernel_rfl) (fun _ _=>trivial) rfl<|ma 11 rfl (by kernel_rfl) (fun _ _=>trivial) rfl ?_
  obtain ⟨x1,hx1,h⟩:=bs h
  obtain ⟨cs1,F1,-,g1,hb1,hs1,r1⟩:=k1.elS (ab hx1).2.2
  obtain ⟨v1,v2,rfl,rfl,h1,h2⟩:=r1
  have h3:=h1.rsl
  have h4:=h2.rsl
  refine mq 12 rfl (by kernel_rfl) (fun _ _=>trivial) (aw gp rfl rfl k1.rsl hx1) rfl<|ma 14 rfl (by kernel_rfl) (fun _ _=>trivial) rfl<|ma 15 rfl (by kernel_rfl) (fun _ _=>trivial) rfl<|ma 16 rfl (by kernel_rfl) (fun _ _=>trivial) rfl<|ma 17 rfl (by kernel_rfl) (fun _ _=>trivial) rfl ?_
  obtain ⟨x2,hx2,h⟩:=bs h
  obtain ⟨cs2,F2,-,g2,hb2,hs2,r2⟩:=k1.elS (ab hx2).2.2
  obtain ⟨v3,v4,rfl,rfl,h5,h6⟩:=r2
  have h7:=h5.rsl
  have h8:=h6.rsl
  refine mq 18 rfl (by kernel_rfl) (fun _ _=>trivial) (aw gp rfl rfl k1.rsl hx2) rfl ?_
  refine WM.qq2 13 19 rfl rfl (aG j6 rfl (fun w1 hw=>(g1.of_eq 0 3 rfl rfl:rg _ _ _ [iV x1.Rule,v1,v2]).rangeAt hw.fro) rfl) (aG j6 rfl (fun w1 hw=>(g2.of_eq 0 3 rfl rfl:rg _ _ _ [iV x2.Rule,v3,v4]).rangeAt hw.fro) rfl) (aG j6 rfl (fun w1 hw=>(g2.of_eq 0 3 rfl rfl:rg _ _ _ [iV x2.Rule,v3,v4]).rangeAt hw.fro) rfl) (aG j6 rfl (fun w1 hw=>(g1.of_eq 0 3 rfl rfl:rg _ _ _ [iV x1.Rule,v1,v2]).rangeAt hw.fro) rfl) rfl rfl (fun _ _=>trivial) rfl rfl (by kernel_rfl) (by kernel_rfl) (by kernel_rfl) ?_
  obtain ⟨x3,hx3,h⟩:=bs h
  obtain ⟨cs3,F3,-,g3,hb3,hs3,r3⟩:=k1.elS (ab hx3).2.2
  obtain ⟨v5,v6,rfl,rfl,h9,h10⟩:=r3
  have h11:=h9.rsl
  have h12:=h10.rsl
  refine mq 20 rfl (by kernel_rfl) (fun _ _=>trivial) (aw gp rfl rfl k1.rsl hx3) rfl ?_
  refine WM.one 21 (by kernel_rfl) (mu rfl (fun _ _ _ _ _ _=>trivial) (Cz (js:=[0]) (Rr:=[D1]) (vs:=[iV x1.Rule,v1,v2]) aF.lasts qQ rfl rfl rfl rfl ⟨rfl,h3.one,h4.one,trivial⟩ rfl k1 (ab hx2).2.2 (ab hx1).2.2 g2 rfl g1 (fun ap=>ap.q 0 rfl)) rfl ?_)
  rintro Φ_2 D2 ⟨⟨ap1,fr1⟩,h13⟩
  replace h7:=h7.fr fr1 (Dj.sub (ap1.q 0 rfl) (fun k h=>hs2 k (List.mem_append.2 (.inl h))))
  replace h8:=h8.fr fr1 (Dj.sub (ap1.q 0 rfl) (fun k h=>hs2 k (List.mem_append.2 (.inr h))))
  obtain ⟨x4,hx4,h⟩:=bs h
  refine mq 22 rfl (by kernel_rfl) (fun _ _=>trivial) (ni gp rfl rfl h13 hx4 (by simp)) rfl ?_
  refine WM.one 23 (by kernel_rfl) (mu rfl (fun _ _ _ _ _ _=>trivial) (Cy (js:=[0]) (Rr:=[D1]) aF.lasts qQ rfl rfl rfl ⟨rfl,h7.one,h8.one,trivial⟩ rfl h13 (ab hx2).2.2 (ab hx1).2.2 (fun ap=>ap.q 0 rfl)) rfl ?_)
  rintro Φ_3 D3 ⟨⟨ap2,fr2⟩,sp1,h14⟩
  refine WM.conv (S':=St w0 Φ_3 [] [D3,ob pv0]) (fun w1 hw=>hw.merge (js:=[1]) rfl (by simpa [List.append_assoc,fu] using sp1))<|WM.nil (by kernel_rfl)<|att 6 [] rfl ?_
  exact lb [1,0] [] (ih1 (_,_,_,_) ⟨h,h14⟩)
 refine xt rfl ?_
 refine WT.fin hF ay.none (fun w1 hw=>?_)
 cases h
 refine aI (js:=[0,0]) hw rfl ⟨D1,rfl,rfl,k1⟩
theorem mg {p4f:Nat} {p4fr:List Value} (w0:av Ψ Φ [ob pv0,pD0].flatten) (p0:(List aa)) (p1:Int) (p2:Int) (p3:Int) (p4:aa→aa→Option (Int)) (ph0:OSl aF 63 3 Φ pD0 pv0 p0) (p4hF:Fun prog p4f=true) (p4h:∀ {Φ':Hp} {w':World},FrH [ob pv0,pD0].flatten Φ Φ'→In Φ' w'→∀ (p4a0:aa) (p4a1:aa) {p4v0_0:Value} {p4G0_0:List Nat} {p4v0_1:Value} {p4G0_1:List Nat} {p4v1_0:Value} {p4G1_0:List Nat} {p4v1_1:Value} {p4G1_1:List Nat} (_:RSl (RI .i64) 1 Φ' p4G0_0 p4v0_0 p4a0.Ids) (_:RSl aZ 4 Φ' p4G0_1 p4v0_1 p4a0.Binds) (_:RSl (RI .i64) 1 Φ' p4G1_0 p4v1_0 p4a1.Ids) (_:RSl aZ 4 Φ' p4G1_1 p4v1_1 p4a1.Binds) {r:Int},p4 p4a0 p4a1=some r→Calls prog p4f (([.agg [iV p4a0.Rule,p4v0_0,p4v0_1].toArray,.agg [iV p4a1.Rule,p4v1_0,p4v1_1].toArray]:List Value)++p4fr).toArray w' (lh (iV r) w')) {r:(List aa)} (h:d4 N p0 p1 p2 p3 p4=some r) :
  Calls prog 225 [pv0,iV p1,iV p2,iV p3,.func (.func p4f) #[] p4fr.toArray].toArray w0.w (be Φ w0.w [ob pv0,pD0].flatten (fun Φ' Fs v=>∃ (Do_0_0:List Nat),v = .tuple #[]∧Fs=[ob pv0,Do_0_0]∧OSl aF 63 3 Φ' Do_0_0 pv0 r)):=by
 refine eL func225 rfl ntmps225 rfl (L:=[ob pv0,pD0]) w0 (fun hF=>?_)
 unfold d4 at h
 refine att 16 [] rfl ?_
 refine lin (σ:=Hp × (List aa) × List Nat × Int × Int) (fun s=>[(0,pv0),(2,iV p2),(4,.func (.func p4f) #[] p4fr.toArray),(10,iV s.2.2.2.1),(11,iV s.2.2.2.2)]) (fun s=>St w0 s.1 [] [ob pv0,s.2.2.1]) (fun m s=>aT N p2 p4 m s.2.1 s.2.2.2.1 s.2.2.2.2=some r∧(OSl aF 63 3 s.1 s.2.2.1 pv0 s.2.1)) (Φ,p0,pD0,wz (p2 - p1),wz (p3 - p2)) N ⟨h,ph0⟩ (sx [0,0] []) (fun n1 ih1 s hm=>?_)
 obtain ⟨Φ_1,s1,D1,s2,s3⟩:=s
 obtain ⟨h,k1⟩:=hm
 dsimp only at h k1 ⊢
 unfold aT at h
 refine att 7 [] rfl ?_
 refine ch h rfl ?_ ?_ <;> intro h
 ·refine att 8 [] rfl ?_
  refine ch h rfl ?_ ?_ <;> intro h
  ·refine atr 9 [] rfl ?_
   obtain ⟨x1,hx1,h⟩:=bs h
   refine lc (bo (js:=[0,0]) (R:=[]) zQ rfl rfl (fun w1 hw ap hl=>dX N (bx hw ap hl) s1 (wz (p2 - s2)) p2 s3 p4 k1 p4hF (fun hle'=>p4h (hw.frX ap hle'))  hx1)) rfl ?_
   rintro v1 Φ_2 F1 ⟨ap1,fr1,D2,rfl,rfl,h1⟩
   refine art 8 [] rfl ?_
   exact lb [0,0] [] (ih1 (_,_,_,_,_) ⟨h,h1⟩)
  refine atr 13 [] rfl ?_
  obtain ⟨x2,hx2,h⟩:=bs h
  refine lc (bo (js:=[0,0]) (R:=[]) zQ rfl rfl (fun w1 hw ap hl=>dX N (bx hw ap hl) s1 (wz (p2 - s2)) (wz ((wz (p2+s3)) - s2)) s2 p4 k1 p4hF (fun hle'=>p4h (hw.frX ap hle'))  hx2)) rfl ?_
  rintro v2 Φ_3 F2 ⟨ap2,fr2,D3,rfl,rfl,h2⟩
  refine art 8 [] rfl ?_
  exact lb [0,0] [] (ih1 (_,_,_,_,_) ⟨h,h2⟩)
 refine atr 9 [] rfl ?_
 obtain ⟨x3,hx3,h⟩:=bs h
 refine lc (bo (js:=[0,0]) (R:=[]) zQ rfl rfl (fun w1 hw ap hl=>dX N (bx hw ap hl) s1 (wz (p2 - s2)) p2 s2 p4 k1 p4hF (fun hle'=>p4h (hw.frX ap hle'))  hx3)) rfl ?_
 rintro v3 Φ_4 F3 ⟨ap3,fr3,D4,rfl,rfl,h3⟩
 refine en ?_
 refine WT.fin hF ay.none (fun w1 hw=>?_)
 cases h
 refine aI (js:=[0,0]) hw rfl ⟨D4,rfl,rfl,h3⟩
end Go.Proofs.YtedmfnmbjglmbaaGreat
