/- Printed by a program of ours: each Go function computes its Lean function. -/
import Derived.Test.YtnnkgijdbebnaaaGreatProg
import Derived.Test.YtnnkgijdbebnaaaGreatWExactAddItemWalk5
namespace Go.Proofs.YtnnkgijdbebnaaaGreat
open Eng Tryz
open Go.RowKit (Below)
set_option linter.unusedVariables false
set_option linter.unusedSimpArgs false

set_option maxRecDepth 100000
set_option maxHeartbeats 1000000
variable {Ψ Φ:Hp} {pv0_0 pv0_1 pv0_2 pv0 pv1 pv1_0 pv1_1 pv2_0 pv2_1 pv3_0:Value} {pG0_0 pG0_1 pG0_2 pG0 pG1 pG1_0 pG1_1 pD0_0 pG2_0 pG2_1 pG3_0:List Nat} {pbc0 pb0:Nat} (N:Nat)
theorem BA (w0:af Ψ Φ []) (p0:ag) (ph0_0:RSl bJ 3 Ψ pG0_0 pv0_0 p0.Pats) (ph0_1:RSl bd 11 Ψ pG0_1 pv0_1 p0.Conds) (ph0_2:RSl dF 5 Ψ pG0_2 pv0_2 p0.Acts) {r:Bool} (h:qy N p0=some r) :
  CB w0 prog 172 [.agg [.string p0.Name,iV p0.Sal,pv0_0,pv0_1,pv0_2].toArray] (.bool r):=by
 refine eN func172 rfl ntmps172 rfl w0 fun hF=>?_
 unfold qy at h
 refine sr<|lbx rfl fun b_1=>arr 7 [0,0] rfl<|qc h (jD N · p0.Name ·) rfl rfl rfl fun x1 h=>arr 2 [] rfl ?_
 obtain ⟨b1,hb_1,h⟩:=bs h
 refine WL.cutN 5 [(19,.bool b1),(1,pQ b_1)] ?_ (fun K=>?_)
 rotate_left
 ·refine sp 14 hb_1 rfl (fun hb_1=>?_) fun hb_1=>?_
  ·refine arr 5 [] rfl ?_
   cases hb_1
   exact ku K
  ·refine arr 2 [1,0] rfl<|ly rfl rfl<|qc hb_1 (cM N · p0.Sal (-100) 100 ·) rfl rfl rfl fun x2 hb_1=>arr 2 [] rfl ?_
   cases hb_1
   exact ku K
 refine la rfl ?_
 obtain ⟨b2,hb_2,h⟩:=bs h
 refine WL.cutN 4 [(24,.bool b2),(1,pQ b_1)] ?_ (fun K=>?_)
 rotate_left
 ·refine sp 20 hb_2 rfl (fun hb_2=>?_) fun hb_2=>?_
  ·refine arr 4 [] rfl ?_
   cases hb_2
   exact ku K
  ·refine ly rfl rfl<|ld5 pn 0 rfl<|ly rfl rfl<|qd hb_2 (BX N · p0 ph0_0 ph0_1 ph0_2 ·) rfl rfl rfl fun x3 hb_2=>arr 2 [] rfl ?_
   cases hb_2
   exact ku K
 refine en ?_
 refine ch h rfl ?_ ?_ <;> intro h
 ·refine att 4 [] rfl ?_
  exact rt hF h
 refine atr 6 [3,0] rfl<|lnr ph0_1 rfl<|arr 2 [] rfl ?_
 obtain ⟨b3,hb_3,h⟩:=bs h
 refine WL.cutN 6 [(35,.bool b3),(1,pQ b_1)] ?_ (fun K=>?_)
 rotate_left
 ·refine sp 29 hb_3 rfl (fun hb_3=>?_) fun hb_3=>?_
  ·refine arr 6 [] rfl ?_
   cases hb_3
   exact ku K
  ·refine arr 2 [4,0] rfl<|ly rfl rfl<|lnr ph0_2 rfl<|ly rfl rfl<|qc hb_3 (cM N · (p0.Acts.length:Int) 1 6 ·) rfl rfl rfl fun x4 hb_3=>arr 2 [] rfl ?_
   cases hb_3
   exact ku K
 refine en ?_
 refine ch h rfl ?_ ?_ <;> intro h
 ·refine att 4 [] rfl ?_
  exact rt hF h
 refine atr 6 [3,0] rfl<|lnr ph0_1 rfl<|art 3 [] rfl ?_
 refine lin (σ:=Int) (fun s=>[(1,pQ b_1),(37,pv0_1),(38,iV (p0.Conds.length:Int)),(39,iV s)]) (fun s=>St w0 Φ [(b_1,.cells #[.string p0.Name,iV p0.Sal,pv0_0,pv0_1,pv0_2] 148 (0,0))] []) (fun m s=>eO N p0 m s=some r) (0) N h (sx [] [0]) (fun n1 ih1 s hm=>?_)
 revert hm; revert s; intro s1 hm
 have h:eO N p0 (n1+1) s1=some r:=hm
 show WT _ _ [(1,pQ b_1),(37,pv0_1),(38,iV (p0.Conds.length:Int)),(39,iV s1)] (St w0 Φ [(b_1,.cells #[.string p0.Name,iV p0.Sal,pv0_0,pv0_1,pv0_2] 148 (0,0))] [])
 unfold eO at h
 refine att 5 [] rfl ?_
 refine ch h rfl ?_ ?_ <;> intro h
 ·refine atr 5 [] rfl ?_
  obtain ⟨x5,hx5,h⟩:=bs h
  obtain ⟨cs1,F1,-,g1,hb1,hs1,r1⟩:=ph0_1.el (a7 hx5).2.2
  obtain ⟨rfl,-⟩:=r1
  refine lia ph0_1 hx5 rfl<|lhx 0 11 g1 rfl<|lnz zr rfl fun b_2=>soN 0 DR rfl ⟨rfl,rfl,rfl,rfl,rfl,rfl,rfl,rfl,rfl,rfl,rfl,trivial⟩ rfl ?_
  refine arr 4 [11] rfl<|qc h (Cp N · x5 ·) rfl rfl rfl fun x6 h=>la rfl<|en ?_
  refine ch h rfl ?_ ?_ <;> intro h
  ·refine att 4 [] rfl ?_
   exact rt hF h
  refine att 6 [] rfl ?_
  exact lb [] [1] (ih1 _ h)
 refine atr 6 [4,0] rfl<|lnr ph0_2 rfl<|art 3 [] rfl ?_
 refine lin (σ:=Int) (fun s=>[(1,pQ b_1),(48,pv0_2),(49,iV (p0.Acts.length:Int)),(50,iV s)]) (fun s=>St w0 Φ [(b_1,.cells #[.string p0.Name,iV p0.Sal,pv0_0,pv0_1,pv0_2] 148 (0,0))] []) (fun m s=>eZ N p0 m s=some r) (0) N h (sx [] [0]) (fun n2 ih2 s hm=>?_)
 revert hm; revert s; intro s2 hm
 have h:eZ N p0 (n2+1) s2=some r:=hm
 show WT _ _ [(1,pQ b_1),(48,pv0_2),(49,iV (p0.Acts.length:Int)),(50,iV s2)] (St w0 Φ [(b_1,.cells #[.string p0.Name,iV p0.Sal,pv0_0,pv0_1,pv0_2] 148 (0,0))] [])
 unfold eZ at h
 refine att 5 [] rfl ?_
 refine ch h rfl ?_ ?_ <;> intro h
 ·refine atr 5 [] rfl ?_
  obtain ⟨x7,hx7,h⟩:=bs h
  obtain ⟨cs2,F2,-,g2,hb2,hs2,r2⟩:=ph0_2.el (a7 hx7).2.2
  obtain ⟨v1,G1,rfl,hq1,h1⟩:=r2
  obtain rfl:=hq1.symm
  refine lia ph0_2 hx7 rfl<|lhx 0 5 g2 rfl<|lnz AD rfl fun b_3=>soN 0 Fi rfl ⟨rfl,rfl,h1.one,rfl,rfl,trivial⟩ rfl ?_
  refine en<|sq<|WT.draw co (by kernel_rfl) (fun _ h=>h.drew)<|qq (ao DO rfl (fun w1 hw=>hw.rgO (i:=0) rfl 0 5 [iV x7.Kind,.string x7.Name,v1,iV x7.N,.string x7.Undo] rfl) rfl) rfl ?_
  obtain ⟨x8,hx8,h⟩:=bs h
  refine qp (bP Kr rfl (fun w1 hw=>DX N (ba hw.in0) x7 h1 hx8)) rfl<|aqq 2 [] rfl ?_
  obtain ⟨b4,hb_4,h⟩:=bs h
  refine WQ.cutN 11 [(68,.bool b4),(1,pQ b_1),(48,pv0_2),(49,iV (p0.Acts.length:Int)),(50,iV s2)] ?_ (fun K=>?_)
  rotate_left
  ·refine WQ.split (d:=57) rfl (fun c9=>?_) (fun c9=>?_)
   ·replace hb_4:=gV hb_4 c9
    refine aqq 11 [] rfl ?_
    cases hb_4
    exact kq K
   ·replace hb_4:=gZ hb_4 c9
    refine aqq 4 [0,0] rfl ?_
    obtain ⟨b5,hb_5,hb_4⟩:=bs hb_4
    refine WQ.cutN 6 [(67,.bool b5),(1,pQ b_1),(48,pv0_2),(49,iV (p0.Acts.length:Int)),(50,iV s2),(57,.bool false)] ?_ (fun K=>?_)
    rotate_left
    ·refine WQ.split (d:=61) rfl (fun c10=>?_) (fun c10=>?_)
     ·replace hb_5:=gV hb_5 c10
      refine aqq 3 [3,0,37] rfl<|WQ.yes rfl rfl ?_
      obtain ⟨x9,hx9,hb_5⟩:=bs hb_5
      refine qp (bP Hr rfl (fun w1 hw=>pD N (ba hw.in0) p0 ph0_0 ph0_1 ph0_2 hx9)) rfl<|aqq 2 [] rfl ?_
      cases hb_5
      exact kq K
     ·replace hb_5:=gZ hb_5 c10
      refine aqq 6 [] rfl ?_
      cases hb_5
      exact kq K
    refine WQ.q (sv rfl rfl) rfl rfl rfl ?_
    cases hb_4
    exact kq K
  refine WQ.nil ?_
  refine ch h rfl ?_ ?_ <;> intro h
  ·refine att 4 [] rfl ?_
   exact rt hF h
  refine att 6 [] rfl ?_
  exact lb [] [1] (ih2 _ h)
 refine atr 4 [5] rfl<|kab h rfl rfl rfl (fun b z q=>A9 N b p0 (ph0_0.y z) (ph0_1.y z) (ph0_2.y z) q) ?_
 rintro x10 h v2 Φ_1 F3 ⟨ap1,fr1,v3,rfl,rfl,h2⟩
 refine arr 6 [5] rfl<|kab h rfl rfl rfl (fun b z q=>yK N b p0 (ph0_0.y z) (ph0_1.y z) (ph0_2.y z) q) ?_
 rintro x11 h v4 Φ_2 F4 ⟨ap2,fr2,v5,rfl,rfl,h3⟩
 replace h2:=h2.fr fr2 (ap2.q 0 rfl) dN
 refine lno h3 rfl<|art 3 [] rfl ?_
 refine lin (σ:=Int) (fun s=>[(7,v2),(73,v4),(74,iV (x11.length:Int)),(75,iV s)]) (fun s=>St w0 Φ_2 [] [ob v4,ob v2]) (fun m s=>eR N x10 x11 m s=some r) (0) N h (sx [0,0] []) (fun n3 ih3 s hm=>?_)
 revert hm; revert s; intro s3 hm
 have h:eR N x10 x11 (n3+1) s3=some r:=hm
 show WT _ _ [(7,v2),(73,v4),(74,iV (x11.length:Int)),(75,iV s3)] (St w0 Φ_2 [] [ob v4,ob v2])
 unfold eR at h
 refine att 5 [] rfl ?_
 refine ch h rfl ?_ ?_ <;> intro h
 ·refine atr 5 [] rfl ?_
  obtain ⟨x12,hx12,h⟩:=bs h
  obtain ⟨cs3,F5,-,g3,hb3,hs3,r3⟩:=h3.elS (a7 hx12).2.2
  obtain ⟨rfl,-⟩:=r3
  refine lio h3 hx12 rfl<|lgx 0 0 g3 rfl<|arr 6 [] rfl<|qc h (ie N · x10 x12 h2.rsl ·) rfl rfl rfl fun x13 h=>la rfl<|en ?_
  refine ch h rfl ?_ ?_ <;> intro h
  ·refine att 4 [] rfl ?_
   exact rt hF h
  refine att 6 [] rfl ?_
  exact lb [0,0] [] (ih3 _ h)
 refine att 5 [] rfl ?_
 exact rt hF h
theorem mG {p1f:Nat} {p1fr:List Value} (w0:af Ψ Φ []) (p0:(List ag)) (p1:ag→Option (Bool)) (ph0:RSl cf 5 Ψ pG0 pv0 p0) (p1hF:Fun prog p1f=true) (p1h:∀ {Φ':Hp} {w':World},FrH [] Φ Φ'→In Φ' w'→∀ (p1a0:ag) {p1v0_0:Value} {p1G0_0:List Nat} {p1v0_1:Value} {p1G0_1:List Nat} {p1v0_2:Value} {p1G0_2:List Nat} (_:RSl bJ 3 Φ' p1G0_0 p1v0_0 p1a0.Pats) (_:RSl bd 11 Φ' p1G0_1 p1v0_1 p1a0.Conds) (_:RSl dF 5 Φ' p1G0_2 p1v0_2 p1a0.Acts) {r:Bool},p1 p1a0=some r→Calls prog p1f (([.agg [.string p1a0.Name,iV p1a0.Sal,p1v0_0,p1v0_1,p1v0_2].toArray]:List Value)++p1fr).toArray w' (uP (.bool r) w')) {r:Int} (h:d5 N p0 p1=some r) :
  CB w0 prog 212 [pv0,.func (.func p1f) #[] p1fr.toArray] (iV r):=by
 refine eN func212 rfl ntmps212 rfl w0 fun hF=>?_
 unfold d5 at h
 refine atr 8 [] rfl<|lnr ph0 rfl<|art 3 [] rfl ?_
 refine lin (σ:=Int) (fun s=>[(0,pv0),(1,.func (.func p1f) #[] p1fr.toArray),(7,iV (p0.length:Int)),(8,iV s)]) (fun s=>St w0 Φ [] []) (fun m s=>bb N p0 p1 m s=some r) (0) N h (sx [] []) (fun n1 ih1 s hm=>?_)
 revert hm; revert s; intro s1 hm
 have h:bb N p0 p1 (n1+1) s1=some r:=hm
 show WT _ _ [(0,pv0),(1,.func (.func p1f) #[] p1fr.toArray),(7,iV (p0.length:Int)),(8,iV s1)] (St w0 Φ [] [])
 unfold bb at h
 refine att 5 [] rfl ?_
 refine ch h rfl ?_ ?_ <;> intro h
 ·refine atr 13 [] rfl ?_
  obtain ⟨x1,hx1,h⟩:=bs h
  obtain ⟨cs1,F1,-,g1,hb1,hs1,r1⟩:=ph0.el (a7 hx1).2.2
  obtain ⟨v1,G1,v2,G2,v3,G3,rfl,rfl,h1,h2,h3⟩:=r1
  refine lia ph0 hx1 rfl<|lhx 0 5 g1 rfl ?_
  obtain ⟨x2,hx2,h⟩:=bs h
  refine lp (Ek p1hF rfl rfl (fun w1 hw=>p1h hw.frB hw.fro x1 (h1.y hw.up) (h2.y hw.up) (h3.y hw.up) hx2)) rfl<|en ?_
  refine ch h rfl ?_ ?_ <;> intro h
  ·refine att 5 [] rfl ?_
   exact rt hF h
  refine att 6 [] rfl ?_
  exact lb [] [] (ih1 _ h)
 refine att 5 [] rfl ?_
 exact rt hF h
theorem xa (w0:af Ψ Φ []) (p0:ag) (c0:ByteArray) (ph0_0:RSl bJ 3 Ψ pG0_0 pv0_0 p0.Pats) (ph0_1:RSl bd 11 Ψ pG0_1 pv0_1 p0.Conds) (ph0_2:RSl dF 5 Ψ pG0_2 pv0_2 p0.Acts) (ppc0:Ψ pbc0=some (.cells #[.string c0] 9 (0,0))) {r:Bool} (h:jx N p0 c0=some r) :
  CB w0 prog 213 [.agg [.string p0.Name,iV p0.Sal,pv0_0,pv0_1,pv0_2].toArray,pQ pbc0] (.bool r):=by
 refine eN func213 rfl ntmps213 rfl w0 fun hF=>?_
 unfold jx at h
 refine sr<|lbx rfl fun b_1=>arr 6 [0,0] rfl<|lhx 0 0 (kY ppc0) rfl<|art 3 [] rfl ?_
 exact rt hF h
theorem BF (w0:af Ψ Φ []) (p0:bo) (p1:ByteArray) (ph0_0:RSl cf 5 Ψ pG0_0 pv0_0 p0.Rules) {r:Int} (h:sf N p0 p1=some r) :
  CB w0 prog 173 [.agg [.string p0.Name,pv0_0].toArray,.string p1] (iV r):=by
 refine eN func173 rfl ntmps173 rfl w0 fun hF=>?_
 unfold sf at h
 refine sr<|lbx rfl fun b_1=>?_
 refine ln (si (C:=#[.string p1]) rfl (rfl)) rfl (fun b_2=>?_)
 refine arr 6 [1,32] rfl ?_
 refine WL.frz (js:=[0]) (R:=[(b_1,.cells #[.string p0.Name,pv0_0] 47 (0,0))]) rfl (fun Φ_1 fr1 k1=>?_)
 refine lq (GX rfl) rfl<|qz h (fun b z q=>mG N b p0.Rules (fun a0=>jx N a0 p1) (ph0_0.y z) JZ (fun hle' hin a0=>fun f0 f1 f2=>fun hr=>xa N (ba hin) a0 p1 f0 f1 f2 (hle' _ _ (by simp) k1) hr) q) rfl rfl rfl fun x1 h=>la rfl<|en ?_
 exact rt hF h
theorem EB (w0:af Ψ Φ []) (p0:bo) (ph0_0:RSl cf 5 Ψ pG0_0 pv0_0 p0.Rules) {r:Bool} (h:tB N p0=some r) :
  CB w0 prog 123 [.agg [.string p0.Name,pv0_0].toArray] (.bool r):=by
 refine eN func123 rfl ntmps123 rfl w0 fun hF=>?_
 unfold tB at h
 refine sr<|lbx rfl fun b_1=>arr 7 [0,0] rfl<|qc h (jD N · p0.Name ·) rfl rfl rfl fun x1 h=>arr 2 [] rfl ?_
 obtain ⟨b1,hb_1,h⟩:=bs h
 refine WL.cutN 6 [(15,.bool b1),(1,pQ b_1)] ?_ (fun K=>?_)
 rotate_left
 ·refine sp 9 hb_1 rfl (fun hb_1=>?_) fun hb_1=>?_
  ·refine arr 6 [] rfl ?_
   cases hb_1
   exact ku K
  ·refine arr 2 [1,0] rfl<|ly rfl rfl<|lnr ph0_0 rfl<|ly rfl rfl<|qc hb_1 (cM N · (p0.Rules.length:Int) 1 12 ·) rfl rfl rfl fun x2 hb_1=>arr 2 [] rfl ?_
   cases hb_1
   exact ku K
 refine en ?_
 refine ch h rfl ?_ ?_ <;> intro h
 ·refine att 4 [] rfl ?_
  exact rt hF h
 refine atr 6 [1,0] rfl<|lnr ph0_0 rfl<|art 3 [] rfl ?_
 refine lin (σ:=Int) (fun s=>[(1,pQ b_1),(17,pv0_0),(18,iV (p0.Rules.length:Int)),(19,iV s)]) (fun s=>St w0 Φ [(b_1,.cells #[.string p0.Name,pv0_0] 47 (0,0))] []) (fun m s=>fN N p0 m s=some r) (0) N h (sx [] [0]) (fun n1 ih1 s hm=>?_)
 revert hm; revert s; intro s1 hm
 have h:fN N p0 (n1+1) s1=some r:=hm
 show WT _ _ [(1,pQ b_1),(17,pv0_0),(18,iV (p0.Rules.length:Int)),(19,iV s1)] (St w0 Φ [(b_1,.cells #[.string p0.Name,pv0_0] 47 (0,0))] [])
 unfold fN at h
 refine att 5 [] rfl ?_
 refine ch h rfl ?_ ?_ <;> intro h
 ·refine atr 6 [] rfl ?_
  obtain ⟨x3,hx3,h⟩:=bs h
  obtain ⟨cs1,F1,-,g1,hb1,hs1,r1⟩:=ph0_0.el (a7 hx3).2.2
  obtain ⟨v1,G1,v2,G2,v3,G3,rfl,rfl,h1,h2,h3⟩:=r1
  refine lia ph0_0 hx3 rfl<|lhx 0 5 g1 rfl<|lnz xC rfl fun b_2=>la rfl<|soN 0 Ad rfl ⟨rfl,rfl,h1.one,h2.one,h3.one,trivial⟩ rfl ?_
  refine arr 4 [5] rfl<|qd h (BA N · x3 h1 h2 h3 ·) rfl rfl rfl fun x4 h=>arr 2 [] rfl ?_
  obtain ⟨b2,hb_2,h⟩:=bs h
  refine WL.cutN 7 [(34,.bool b2),(1,pQ b_1),(17,pv0_0),(18,iV (p0.Rules.length:Int)),(19,iV s1)] ?_ (fun K=>?_)
  rotate_left
  ·refine sp 27 hb_2 rfl (fun hb_2=>?_) fun hb_2=>?_
   ·refine arr 7 [] rfl ?_
    cases hb_2
    exact ku K
   ·refine arr 3 [34,0,0] rfl<|ly rfl rfl<|qd hb_2 (BF N · p0 x3.Name ph0_0 ·) rfl rfl rfl fun x5 hb_2=>arr 3 [] rfl ?_
    cases hb_2
    exact ku K
  refine en ?_
  refine ch h rfl ?_ ?_ <;> intro h
  ·refine att 4 [] rfl ?_
   exact rt hF h
  refine att 6 [] rfl ?_
  exact lb [] [1] (ih1 _ h)
 refine att 5 [] rfl ?_
 exact rt hF h
theorem jV (w0:af Ψ Φ []) (p0:(List aL)) (p1:(List aL)) (ph0:RSl az 3 Ψ pG0 pv0 p0) (ph1:RSl az 3 Ψ pG1 pv1 p1) {r:Bool} (h:bI N p0 p1=some r) :
  CB w0 prog 175 [pv0,pv1] (.bool r):=by
 refine eN func175 rfl ntmps175 rfl w0 fun hF=>?_
 unfold bI at h
 refine atr 8 [] rfl<|lnr ph0 rfl<|la rfl<|lnr ph1 rfl<|la rfl<|en ?_
 refine ch h rfl ?_ ?_ <;> intro h
 ·refine att 4 [] rfl ?_
  exact rt hF h
 refine atr 5 [] rfl<|lnr ph0 rfl<|art 3 [] rfl ?_
 refine lin (σ:=Int) (fun s=>[(0,pv0),(1,pv1),(12,iV (p0.length:Int)),(13,iV s)]) (fun s=>St w0 Φ [] []) (fun m s=>bh N p0 p1 m s=some r) (0) N h (sx [] []) (fun n1 ih1 s hm=>?_)
 revert hm; revert s; intro s1 hm
 have h:bh N p0 p1 (n1+1) s1=some r:=hm
 show WT _ _ [(0,pv0),(1,pv1),(12,iV (p0.length:Int)),(13,iV s1)] (St w0 Φ [] [])
 unfold bh at h
 refine att 5 [] rfl ?_
 refine ch h rfl ?_ ?_ <;> intro h
 ·refine att 9 [] rfl<|WT.draw co (by kernel_rfl) (fun _ h=>h.drew)<|aqq 2 [] rfl ?_
  obtain ⟨x1,hx1,h⟩:=bs h
  obtain ⟨cs1,F1,-,g1,hb1,hs1,r1⟩:=ph0.el (a7 hx1).2.2
  obtain ⟨rfl,-⟩:=r1
  refine qq (a8 ep rfl rfl ph0 hx1) rfl<|qq (ao iY rfl (fun w1 hw=>(g1.of_eq 0 3 rfl rfl:rg _ _ _ [iV x1.K,iV x1.N,.string x1.S]).rangeAt hw.in0) rfl) rfl<|aqq 2 [] rfl ?_
  obtain ⟨x2,hx2,h⟩:=bs h
  obtain ⟨cs2,F2,-,g2,hb2,hs2,r2⟩:=ph1.el (a7 hx2).2.2
  obtain ⟨rfl,-⟩:=r2
  refine qq (a8 ep rfl rfl ph1 hx2) rfl<|qq (ao iY rfl (fun w1 hw=>(g2.of_eq 0 3 rfl rfl:rg _ _ _ [iV x2.K,iV x2.N,.string x2.S]).rangeAt hw.in0) rfl) rfl<|qq (xX mK rfl rfl rfl (r:=bp x1 x2) rfl) rfl<|WQ.nil ?_
  refine ch h rfl ?_ ?_ <;> intro h
  ·refine att 4 [] rfl ?_
   exact rt hF h
  refine att 6 [] rfl ?_
  exact lb [] [] (ih1 _ h)
 refine att 5 [] rfl ?_
 exact rt hF h
theorem iL (w0:af Ψ Φ []) (p0:(List Int)) (p1:(List Int)) (ph0:RSl (RI .i64) 1 Ψ pG0 pv0 p0) (ph1:RSl (RI .i64) 1 Ψ pG1 pv1 p1) {r:Bool} (h:cY N p0 p1=some r) :
  CB w0 prog 176 [pv0,pv1] (.bool r):=by
 refine eN func176 rfl ntmps176 rfl w0 fun hF=>?_
 unfold cY at h
 refine atr 8 [] rfl<|lnr ph0 rfl<|la rfl<|lnr ph1 rfl<|la rfl<|en ?_
 refine ch h rfl ?_ ?_ <;> intro h
 ·refine att 4 [] rfl ?_
  exact rt hF h
 refine atr 5 [] rfl<|lnr ph0 rfl<|art 3 [] rfl ?_
 refine lin (σ:=Int) (fun s=>[(0,pv0),(1,pv1),(12,iV (p0.length:Int)),(13,iV s)]) (fun s=>St w0 Φ [] []) (fun m s=>cQ N p0 p1 m s=some r) (0) N h (sx [] []) (fun n1 ih1 s hm=>?_)
 revert hm; revert s; intro s1 hm
 have h:cQ N p0 p1 (n1+1) s1=some r:=hm
 show WT _ _ [(0,pv0),(1,pv1),(12,iV (p0.length:Int)),(13,iV s1)] (St w0 Φ [] [])
 unfold cQ at h
 refine att 5 [] rfl ?_
 refine ch h rfl ?_ ?_ <;> intro h
 ·refine att 9 [] rfl<|WT.draw co (by kernel_rfl) (fun _ h=>h.drew)<|aqq 2 [] rfl ?_
  obtain ⟨x1,hx1,h⟩:=bs h
  obtain ⟨cs1,F1,-,g1,hb1,hs1,r1⟩:=ph0.el (a7 hx1).2.2
  obtain ⟨rfl,-⟩:=r1
  refine qq (a8 aR rfl rfl ph0 hx1) rfl<|qq (aW vd rfl (fun w1 hw=>(g1.of_eq 0 1 rfl rfl:rg _ _ _ [iV x1]).rangeAt hw.in0)) rfl<|aqq 2 [] rfl ?_
  obtain ⟨x2,hx2,h⟩:=bs h
  obtain ⟨cs2,F2,-,g2,hb2,hs2,r2⟩:=ph1.el (a7 hx2).2.2
  obtain ⟨rfl,-⟩:=r2
  refine qq (a8 aR rfl rfl ph1 hx2) rfl<|qq (aW vd rfl (fun w1 hw=>(g2.of_eq 0 1 rfl rfl:rg _ _ _ [iV x2]).rangeAt hw.in0)) rfl<|aqt 2 [] rfl ?_
  refine ch h rfl ?_ ?_ <;> intro h
  ·refine att 4 [] rfl ?_
   exact rt hF h
  refine att 6 [] rfl ?_
  exact lb [] [] (ih1 _ h)
 refine att 5 [] rfl ?_
 exact rt hF h
theorem t9 (w0:af Ψ Φ []) (p0:a9) (p1:a9) (ph0_0:RSl az 3 Ψ pG0_0 pv0_0 p0.Consts) (ph0_1:RSl (RI .i64) 1 Ψ pG0_1 pv0_1 p0.At) (ph1_0:RSl az 3 Ψ pG1_0 pv1_0 p1.Consts) (ph1_1:RSl (RI .i64) 1 Ψ pG1_1 pv1_1 p1.At) {r:Bool} (h:dG N p0 p1=some r) :
  CB w0 prog 126 [.agg [.string p0.Kind,iV p0.N,pv0_0,pv0_1].toArray,.agg [.string p1.Kind,iV p1.N,pv1_0,pv1_1].toArray] (.bool r):=by
 refine eN func126 rfl ntmps126 rfl w0 fun hF=>?_
 unfold dG at h
 refine sr<|lbx rfl fun b_1=>lbx rfl fun b_2=>arr 10 [0,32,0,0] rfl ?_
 obtain ⟨b1,hb_1,h⟩:=bs h
 refine WL.cutN 6 [(16,.bool b1),(2,pQ b_1),(3,pQ b_2),(4,.bool false)] ?_ (fun K=>?_)
 rotate_left
 ·refine sp 10 hb_1 rfl (fun hb_1=>?_) fun hb_1=>?_
  ·refine arr 6 [1,32,1,0] rfl ?_
   cases hb_1
   exact ku K
  ·refine arr 6 [] rfl ?_
   cases hb_1
   exact ku K
 refine la rfl ?_
 obtain ⟨b2,hb_2,h⟩:=bs h
 refine WL.cutN 6 [(23,.bool b2),(2,pQ b_1),(3,pQ b_2),(4,.bool false)] ?_ (fun K=>?_)
 rotate_left
 ·refine sp 17 hb_2 rfl (fun hb_2=>?_) fun hb_2=>?_
  ·refine arr 4 [2,32,2,0] rfl<|ly rfl rfl<|qd hb_2 (jV N · p0.Consts p1.Consts ph0_0 ph1_0 ·) rfl rfl rfl fun x1 hb_2=>la rfl ?_
   cases hb_2
   exact ku K
  ·refine arr 6 [] rfl ?_
   cases hb_2
   exact ku K
 refine la rfl ?_
 obtain ⟨b3,hb_3,h⟩:=bs h
 refine WL.cutN 6 [(30,.bool b3),(4,.bool false)] ?_ (fun K=>?_)
 rotate_left
 ·refine sp 24 hb_3 rfl (fun hb_3=>?_) fun hb_3=>?_
  ·refine arr 4 [3,32,3,0] rfl<|ly rfl rfl<|qd hb_3 (iL N · p0.At p1.At ph0_1 ph1_1 ·) rfl rfl rfl fun x2 hb_3=>la rfl ?_
   cases hb_3
   exact ku K
  ·refine arr 6 [] rfl ?_
   cases hb_3
   exact ku K
 refine la rfl<|en ?_
 exact rt hF h
theorem zg (w0:af Ψ Φ []) (p0:av) (ph0_0:RSl bQ 5 Ψ pG0_0 pv0_0 p0.Args) {r:a9} (h:oS N p0=some r) :
  Calls prog 214 [.agg [.string p0.Kind,pv0_0,.bool p0.Not].toArray].toArray w0.w (aQ Φ w0.w [] (fun Φ' Fs v=>∃ (sr_0_0:Value) (sr_0_1:Value),v = .agg [.string r.Kind,iV r.N,sr_0_0,sr_0_1].toArray∧Fs=[ob sr_0_0,ob sr_0_1]∧OSl az 193 3 Φ' [] sr_0_0 r.Consts∧OSl (RI .i64) 3 1 Φ' [] sr_0_1 r.At)):=by
 refine eN func214 rfl ntmps214 rfl w0 fun hF=>?_
 unfold oS at h
 refine sr<|lbx rfl fun b_1=>lnz kP rfl fun b_2=>arr 7 [0,32,1,32] rfl<|lnr ph0_0 rfl<|lq (cw (vs:=[(0,.string p0.Kind),(1,iV (p0.Args.length:Int))]) (C:=#[.string p0.Kind,iV (p0.Args.length:Int),.slice none 0 0,.slice none 0 0]) IT kP rfl (ai (C':=[.string p0.Kind,iV 0,.slice none 0 0,.slice none 0 0]) rfl rfl rfl rfl rfl (ai (C':=[.string p0.Kind,iV (p0.Args.length:Int),.slice none 0 0,.slice none 0 0]) rfl rfl rfl rfl rfl (ak)))) rfl<|lnz kP rfl fun b_3=>?_
 refine soN 0 qP rfl ⟨rfl,rfl,rfl,rfl,trivial⟩ rfl ?_
 refine arr 6 [1,64] rfl<|lnr ph0_0 rfl<|art 3 [] rfl<|wtS ?_
 have k1:=OSl.nil az 193 3 Φ
 refine wtS ?_
 have k2:=OSl.nil (RI .i64) 3 1 Φ
 refine lin (σ:=Hp × (List aL) × Value × (List Int) × Value × Int) (fun s=>[(2,pQ b_2),(3,pQ b_3),(13,pv0_0),(14,iV (p0.Args.length:Int)),(15,iV s.2.2.2.2.2)]) (fun s=>St w0 s.1 [(b_3,.cells #[.string p0.Kind,iV (p0.Args.length:Int),s.2.2.1,s.2.2.2.2.1] 142 (0,0)),(b_2,.cells #[.string (⟨#[]⟩:ByteArray),iV 0,.slice none 0 0,.slice none 0 0] 142 (0,0))] [ob s.2.2.2.2.1,ob s.2.2.1]) (fun m s=>ff N p0 m s.2.1 s.2.2.2.1 s.2.2.2.2.2=some r∧(OSl az 193 3 s.1 [] s.2.2.1 s.2.1)∧(OSl (RI .i64) 3 1 s.1 [] s.2.2.2.2.1 s.2.2.2.1)) (Φ,([]:List aL),(.slice none 0 0),([]:List Int),(.slice none 0 0),0) N ⟨h,k1,k2⟩ (sx [0,0] [0,0]) (fun n1 ih1 s hm=>?_)
 obtain ⟨Φ_1,s1,u1,s2,u2,s3⟩:=s
 obtain ⟨h,k3,k4⟩:=hm
 dsimp only at h k3 k4 ⊢
 unfold ff at h
 refine att 5 [] rfl ?_
 refine ch h rfl ?_ ?_ <;> intro h
 ·refine atr 6 [] rfl ?_
  obtain ⟨x1,hx1,h⟩:=bs h
  obtain ⟨cs1,F1,-,g1,hb1,hs1,r1⟩:=ph0_0.el (a7 hx1).2.2
  obtain ⟨rfl,-⟩:=r1
  refine lia ph0_0 hx1 rfl<|lhx 0 5 g1 rfl<|lnz pG rfl fun b_4=>la rfl<|soN 0 qO rfl ⟨rfl,rfl,rfl,rfl,rfl,trivial⟩ rfl ?_
  refine art 7 [0,0] rfl ?_
  refine ch h rfl ?_ ?_ <;> intro h
  ·refine atr 6 [2,32,2,3] rfl ?_
   have rc1:RC az 3 Φ_1 ([[]]:List (List Nat)) [iV x1.V.K,iV x1.V.N,.string x1.V.S] ([x1.V]:List aL):=RC.cons (c:=[iV x1.V.K,iV x1.V.N,.string x1.V.S]) (cells:=[]) ⟨rfl,rfl⟩ rfl (RC.nil _ _ _)
   refine le' (cu (vs:=[(0,.agg [iV x1.V.K,iV x1.V.N,.string x1.V.S].toArray)]) (C:=#[iV x1.V.K,iV x1.V.N,.string x1.V.S]) az.lasts ep jI rfl rfl rfl rfl (aI Gi (ai (C':=[iV x1.V.K,iV x1.V.N,.string x1.V.S]) rfl rfl rfl rfl rfl (ak))) rfl rc1 rfl (by simpa using Kw.nil)) rfl ?_
   rintro v1 Φ_2 D1 ⟨fr1,h1⟩
   replace h1:OSl az 193 3 Φ_2 [] v1 ([x1.V]:List aL):=by simpa using h1
   replace k3:=k3.f0 fr1
   replace k4:=k4.f0 fr1
   obtain ⟨x2,hx2,h⟩:=bs h
   refine le' (cP az.lasts az.one az.flat ep DA rfl rfl rfl rfl rfl (js:=[2]) (Rr:=[ob v1,ob u2]) rfl k3 h1.rsl hx2) rfl ?_
   rintro v2 Φ_3 D2 ⟨⟨ap1,fr2⟩,h2⟩
   replace k4:=k4.fr fr2 (ap1.q 1 rfl) dN
   refine lf xl rfl rfl rfl<|so1 1 AG rfl h2.one ?_
   refine arr 5 [3,32] rfl ?_
   have rc2:RC (RI .i64) 1 Φ_3 ([[]]:List (List Nat)) [iV s3] ([s3]:List Int):=RC.cons (c:=[iV s3]) (cells:=[]) ⟨rfl,rfl⟩ rfl (RC.nil _ _ _)
   refine le' (cu (vs:=[(0,iV s3)]) (C:=#[iV s3]) RI.lasts aR o7 rfl rfl rfl rfl (aI mE (ai (C':=[iV s3]) rfl rfl rfl rfl rfl (ak))) rfl rc2 rfl (by simpa using Kw.nil)) rfl ?_
   rintro v3 Φ_4 D3 ⟨fr3,h3⟩
   replace h3:OSl (RI .i64) 3 1 Φ_4 [] v3 ([s3]:List Int):=by simpa using h3
   replace h2:=h2.f0 fr3
   replace k4:=k4.f0 fr3
   obtain ⟨x3,hx3,h⟩:=bs h
   refine le' (cP RI.lasts RI.one RI.flat aR sP rfl rfl rfl rfl rfl (js:=[3]) (Rr:=[ob v3,ob v2,ob v1]) rfl k4 h3.rsl hx3) rfl ?_
   rintro v4 Φ_5 D4 ⟨⟨ap2,fr4⟩,h4⟩
   replace h2:=h2.fr fr4 (ap2.q 1 rfl) dN
   refine lf uY rfl rfl rfl<|so1 1 kO rfl h4.one ?_
   refine art 6 [] rfl ?_
   exact lb [0,1] [1,1] (ih1 (_,_,_,_,_,_) ⟨h,h2,h4⟩)
  refine att 6 [] rfl ?_
  exact lb [0,0] [1,1] (ih1 (_,_,_,_,_,_) ⟨h,k3,k4⟩)
 refine atr 4 [4] rfl<|soN 1 qP rfl ⟨rfl,rfl,k3.one,k4.one,trivial⟩ rfl ?_
 refine en ?_
 exact rtg [1,0] hF (ay.one (bB pr rfl (fun w1 hw=>hw.rgO (i:=1) rfl 0 4 [.string p0.Kind,iV (p0.Args.length:Int),u1,u2] rfl) rfl)) rfl (by cases h; exact fun w1 hw=>⟨u1,u2,rfl,rfl,k3,k4⟩)
theorem vK (w0:af Ψ Φ [[pb0],ob pv0_0,pD0_0].flatten) (p0:bc) (p1:av) (ph0_0:OSl aU 142 4 Φ pD0_0 pv0_0 p0.Alphas) (ph0_1:RSl bz 2 Ψ pG0_1 pv0_1 p0.Chains) (pp0:Φ pb0=some (.cells #[pv0_0,pv0_1] 52 (0,0))) (ph1_0:RSl bQ 5 Ψ pG1_0 pv1_0 p1.Args) {r:Int × bc} (h:ja N p0 p1=some r) :
  Calls prog 174 [pQ pb0,.agg [.string p1.Kind,pv1_0,.bool p1.Not].toArray].toArray w0.w (aQ Φ w0.w [[pb0],ob pv0_0,pD0_0].flatten (fun Φ' Fs v=>∃ (so_0_0:Value) (Do_0_0:List Nat),v=iV r.1∧Fs=[[pb0],ob so_0_0,Do_0_0]∧OSl aU 142 4 Φ' Do_0_0 so_0_0 r.2.Alphas∧r.2.Chains=p0.Chains∧Φ' pb0=some (.cells #[so_0_0,pv0_1] 52 (0,0)))):=by
 refine eL func174 rfl ntmps174 rfl (L:=[[pb0],ob pv0_0,pD0_0]) w0 (fun hF=>?_)
 unfold ja at h
 refine sr<|lbx rfl fun b_1=>arr 5 [3] rfl<|kab h rfl rfl rfl (fun b z q=>zg N b p1 (ph1_0.y z) q) ?_
 rintro x1 h v1 Φ_1 F1 ⟨ap1,fr1,v2,v3,rfl,rfl,h1,h2⟩
 replace ph0_0:=ph0_0.fr fr1 (ap1.q 1 rfl) (ap1.q 2 rfl)
 replace pp0:=fr1 _ _ ((ap1.q 0 rfl) _ (by simp)) pp0
 refine lnz kP rfl fun b_2=>soN 0 qP rfl ⟨rfl,rfl,h1.one,h2.one,trivial⟩ rfl ?_
 refine arr 5 [] rfl<|lq (ey rfl) rfl<|lf oZ rfl rfl rfl<|lgx 0 0 (kY pp0) rfl<|lno ph0_0 rfl<|art 3 [] rfl ?_
 refine lin (σ:=Int) (fun s=>[(0,pQ pb0),(5,pQ b_2),(13,pv0_0),(14,iV (p0.Alphas.length:Int)),(15,iV s)]) (fun s=>St w0 Φ_1 [(b_2,.cells #[.string x1.Kind,iV x1.N,v2,v3] 142 (0,0))] [ob v2,ob v3,[pb0],ob pv0_0,pD0_0]) (fun m s=>cC N p0 x1 m s=some r) (0) N h (sx [0,0,0,0,0] [0]) (fun n1 ih1 s hm=>?_)
 revert hm; revert s; intro s1 hm
 have h:cC N p0 x1 (n1+1) s1=some r:=hm
 show WT _ _ [(0,pQ pb0),(5,pQ b_2),(13,pv0_0),(14,iV (p0.Alphas.length:Int)),(15,iV s1)] (St w0 Φ_1 [(b_2,.cells #[.string x1.Kind,iV x1.N,v2,v3] 142 (0,0))] [ob v2,ob v3,[pb0],ob pv0_0,pD0_0])
 unfold cC at h
 refine att 5 [] rfl ?_
 refine ch h rfl ?_ ?_ <;> intro h
 ·refine atr 6 [] rfl ?_
  obtain ⟨x2,hx2,h⟩:=bs h
  obtain ⟨cs1,F2,-,g1,hb1,hs1,r1⟩:=ph0_0.elS (a7 hx2).2.2
  obtain ⟨v4,v5,rfl,rfl,h3,h4⟩:=r1
  have h5:=h3.rsl
  have h6:=h4.rsl
  refine lio ph0_0 hx2 rfl<|lgx 0 4 g1 rfl<|lnz kP rfl fun b_3=>la rfl<|soN 0 qP rfl ⟨rfl,rfl,h5.one,h6.one,trivial⟩ rfl ?_
  refine arr 5 [4,36] rfl<|qc h (t9 N · x2 x1 h5 h6 h1.rsl h2.rsl ·) rfl rfl rfl fun x3 h=>en ?_
  refine ch h rfl ?_ ?_ <;> intro h
  ·refine att 5 [] rfl ?_
   exact rtg [2,2,2] hF (ay.one rfl) rfl (by cases h; exact fun w1 hw=>⟨pv0_0,pD0_0,rfl,rfl,ph0_0,rfl,pp0⟩)
  refine att 6 [] rfl ?_
  exact lb [0,0,0,0,0] [1] (ih1 _ h)
 refine xt rfl<|sq<|WT.mix (Kn w0 Φ_1 [pb0] [(b_2,.cells #[.string x1.Kind,iV x1.N,v2,v3] 142 (0,0))]) (fun i=>match i with | 10=>false | _=>true) co (fun _ h=>h.drew)<|ma 0 rfl (by kernel_rfl) (kn Kf.id (am [0] rfl)) rfl<|ma 1 rfl (by kernel_rfl) (kn Kf.id (am [0] rfl)) rfl<|mq 2 rfl (by kernel_rfl) (kn Kf.id (am [0] rfl)) (ey rfl) rfl<|mq 3 rfl (by kernel_rfl) (kn Kf.id (am [0] rfl)) (aB oZ rfl) rfl ?_
 refine mq 4 rfl (by kernel_rfl) (kn Kf.id (am [0] rfl)) (aW Jx rfl (fun w1 hw=>hw.rg (by simp) ((kY pp0).of_eq 0 1 rfl rfl:rg _ _ _ [pv0_0]))) rfl<|mq 5 rfl (by kernel_rfl) (kn Kf.id (am [0] rfl)) (ao pr rfl (fun w1 hw=>hw.rgO (i:=0) rfl 0 4 [.string x1.Kind,iV x1.N,v2,v3] rfl) rfl) rfl ?_
 have rc1:RC aU 4 Φ_1 ([(ob v2++[])++((ob v3++[]))]:List (List Nat)) [.string x1.Kind,iV x1.N,v2,v3] ([x1]:List a9):=RC.cons (c:=[.string x1.Kind,iV x1.N,v2,v3]) (cells:=[]) ⟨v2,v3,rfl,rfl,h1,h2⟩ rfl (RC.nil _ _ _)
 refine WM.one 6 (by kernel_rfl) (me rfl (fun _ v Φx D w1 hq hw=>Kn.of (Kf.id.se hq.1) (am [0] rfl) hw) (cu (vs:=[(0,.agg [.string x1.Kind,iV x1.N,v2,v3].toArray)]) (C:=#[.string x1.Kind,iV x1.N,v2,v3]) aU.lasts uE kP rfl rfl rfl rfl (aI FR (ai (C':=[.string x1.Kind,iV x1.N,v2,v3]) rfl rfl rfl rfl rfl (ak))) rfl rc1 rfl (RC.kn aU.knows rc1)) rfl ?_)
 rintro v6 Φ_2 D1 ⟨fr2,h7⟩
 replace h7:OSl aU 142 4 Φ_2 ((ob v2++[])++((ob v3++[]))) v6 ([x1]:List a9):=by simpa [List.append_assoc] using h7
 replace ph0_0:=ph0_0.f0 fr2
 replace pp0:=fr2 _ _ (by simp) pp0
 refine WM.conv (S':=St w0 Φ_2 [(b_2,.cells #[.string x1.Kind,iV x1.N,v2,v3] 142 (0,0))] [((ob v2++[])++((ob v3++[]))),ob v6,[pb0],ob pv0_0,pD0_0]) (fun w1 hw=>hw.merge (js:=[1,1]) rfl (SP.eq (by simp [List.append_assoc,bl]))) ?_
 obtain ⟨x4,hx4,h⟩:=bs h
 have kf1:=(Kf.id (F:=[pb0]):Kf Φ_1 _ _).se fr2
 refine WM.one 7 (by kernel_rfl) (me rfl (fun _ v Φx D w1 hq hw=>Kn.of (kf1.st hq.1.2 (hq.1.1.r (i:=2) rfl)) (am [0] rfl) hw) (gE aU.lasts aU.one uE Jh rfl rfl rfl rfl rfl (js:=[3]) (Rr:=[((ob v2++[])++((ob v3++[]))),ob v6,[pb0],pD0_0]) rfl ph0_0 h7 (fun ap=>ap.q 3 rfl) (fun ap=>ap.q 0 rfl) hx4) rfl ?_)
 rintro v7 Φ_3 D2 ⟨⟨ap2,fr3⟩,h8⟩
 replace pp0:=fr3 _ _ ((ap2.q 2 rfl) _ (by simp)) pp0
 refine WM.conv (S':=St w0 Φ_3 [(b_2,.cells #[.string x1.Kind,iV x1.N,v2,v3] 142 (0,0))] [(pD0_0++((ob v2++[])++((ob v3++[])))),ob v7,ob v6,[pb0]]) (fun w1 hw=>hw.merge (js:=[4,1]) rfl (SP.eq (by simp))) ?_
 have kf2:=kf1.st fr3 (ap2.q 2 rfl)
 refine mqT 8 [9,10] rfl (by kernel_rfl) (kn kf2 (am [0] rfl)) (ey rfl) rfl<|mq 9 rfl (by kernel_rfl) (kn kf2 (am [0] rfl)) (aB oZ rfl) rfl ?_
 refine WM.thw (js:=[3]) (R:=[(pD0_0++((ob v2++[])++((ob v3++[])))),ob v7,ob v6]) rfl pp0 (fun Φ_4 ap3 fr4=>?_)
 replace h8:=h8.fr fr4 (ap3.q 1 rfl) (ap3.q 0 rfl)
 refine on1 10 (ms1 0 rfl nk JA rfl h8.one ?_)
 refine WM.nil (by kernel_rfl)<|sr<|la rfl<|lq (ey rfl) rfl<|arr 2 [0,0] rfl<|lno h8 rfl<|art 3 [] rfl ?_
 refine WT.frz (js:=[0]) (R:=[(b_2,.cells #[.string x1.Kind,iV x1.N,v2,v3] 142 (0,0))]) rfl (fun Φ_5 fr5 k1=>?_)
 replace h8:=h8.f0 fr5
 exact rtg [0,1,0] hF (ay.one rfl) rfl (by cases h; exact fun w1 hw=>⟨v7,(pD0_0++((ob v2++[])++((ob v3++[])))),rfl,rfl,h8,rfl,k1⟩)
theorem EY (w0:af Ψ Φ []) (p0:bo) (ph0_0:RSl cf 5 Ψ pG0_0 pv0_0 p0.Rules) {r:bc} (h:te N p0=some r) :
  Calls prog 124 [.agg [.string p0.Name,pv0_0].toArray].toArray w0.w (aQ Φ w0.w [] (fun Φ' Fs v=>∃ (sr_0_0:Value) (Dr_0_0:List Nat) (sr_0_1:Value) (Dr_0_1:List Nat),v = .agg [sr_0_0,sr_0_1].toArray∧Fs=[ob sr_0_0,Dr_0_0,ob sr_0_1,Dr_0_1]∧OSl aU 142 4 Φ' Dr_0_0 sr_0_0 r.Alphas∧OSl aJ 149 2 Φ' Dr_0_1 sr_0_1 r.Chains)):=by
 refine eN func124 rfl ntmps124 rfl w0 fun hF=>?_
 unfold te at h
 refine sr<|lbx rfl fun b_1=>lnz w5 rfl fun b_2=>en<|sr<|lnz w5 rfl fun b_3=>arr 6 [1,64] rfl<|lnr ph0_0 rfl<|art 3 [] rfl<|wtS<|wt0 ?_
 have k1:=OSl.nil aU 142 4 Φ
 refine wtS<|wt0 ?_
 have k2:=OSl.nil aJ 149 2 Φ
 refine lin (σ:=Hp × (List a9) × Value × List Nat × (List ae) × Value × List Nat × Int) (fun s=>[(2,pQ b_2),(3,pQ b_3),(11,pv0_0),(12,iV (p0.Rules.length:Int)),(13,iV s.2.2.2.2.2.2.2)]) (fun s=>St w0 s.1 [(b_3,.cells #[s.2.2.1,s.2.2.2.2.2.1] 52 (0,0)),(b_2,.cells #[.slice none 0 0,.slice none 0 0] 52 (0,0))] [s.2.2.2.2.2.2.1,ob s.2.2.2.2.2.1,s.2.2.2.1,ob s.2.2.1]) (fun m s=>eK N p0 m s.2.1 s.2.2.2.2.1 s.2.2.2.2.2.2.2=some r∧(OSl aU 142 4 s.1 s.2.2.2.1 s.2.2.1 s.2.1)∧(OSl aJ 149 2 s.1 s.2.2.2.2.2.2.1 s.2.2.2.2.2.1 s.2.2.2.2.1)) (Φ,([]:List a9),(.slice none 0 0),[],([]:List ae),(.slice none 0 0),[],0) N ⟨h,k1,k2⟩ (sx [0,0,0,0] [0,0]) (fun n1 ih1 s hm=>?_)
 obtain ⟨Φ_1,s1,u1,D1,s2,u2,D2,s3⟩:=s
 obtain ⟨h,k3,k4⟩:=hm
 dsimp only at h k3 k4 ⊢
 unfold eK at h
 refine att 5 [] rfl ?_
 refine ch h rfl ?_ ?_ <;> intro h
 ·refine atr 5 [] rfl ?_
  obtain ⟨x1,hx1,h⟩:=bs h
  obtain ⟨cs1,F1,-,g1,hb1,hs1,r1⟩:=ph0_0.el (a7 hx1).2.2
  obtain ⟨v1,G1,v2,G2,v3,G3,rfl,rfl,h1,h2,h3⟩:=r1
  refine lia ph0_0 hx1 rfl<|lhx 0 5 g1 rfl<|lnz xC rfl fun b_4=>soN 0 Ad rfl ⟨rfl,rfl,h1.one,h2.one,h3.one,trivial⟩ rfl ?_
  refine en<|sr<|lnz qG rfl fun b_5=>arr 6 [2,32] rfl<|lnr h1 rfl<|art 3 [] rfl<|wtS ?_
  have k5:=OSl.nil (RI .i64) 3 1 Φ_1
  refine wtS ?_
  have k6:=OSl.nil (RI .i64) 3 1 Φ_1
  refine lin (σ:=Hp × (List a9) × Value × List Nat × (List Int) × Value × (List Int) × Value × Int) (fun s=>[(2,pQ b_2),(3,pQ b_3),(6,pQ b_5),(11,pv0_0),(12,iV (p0.Rules.length:Int)),(13,iV s3),(18,v1),(19,iV (x1.Pats.length:Int)),(20,iV s.2.2.2.2.2.2.2.2)]) (fun s=>St w0 s.1 [(b_5,.cells #[s.2.2.2.2.2.2.2.1,s.2.2.2.2.2.1] 149 (0,0)),(b_3,.cells #[s.2.2.1,u2] 52 (0,0)),(b_2,.cells #[.slice none 0 0,.slice none 0 0] 52 (0,0))] [ob s.2.2.2.2.2.2.2.1,ob s.2.2.2.2.2.1,D2,ob u2,s.2.2.2.1,ob s.2.2.1]) (fun m s=>fR N s2 s3 (eK N p0 n1) x1 m s.2.1 s.2.2.2.2.1 s.2.2.2.2.2.2.1 s.2.2.2.2.2.2.2.2=some r∧(OSl aU 142 4 s.1 s.2.2.2.1 s.2.2.1 s.2.1)∧(OSl aJ 149 2 s.1 D2 u2 s2)∧(OSl (RI .i64) 3 1 s.1 [] s.2.2.2.2.2.1 s.2.2.2.2.1)∧(OSl (RI .i64) 3 1 s.1 [] s.2.2.2.2.2.2.2.1 s.2.2.2.2.2.2.1)) (Φ_1,s1,u1,D1,([]:List Int),(.slice none 0 0),([]:List Int),(.slice none 0 0),0) N ⟨h,k3,k4,k5,k6⟩ (sx [0,0,0,0,0,0] [0,1,1]) (fun n2 ih2 s hm=>?_)
  obtain ⟨Φ_2,s4,u3,D3,s5,u4,s6,u5,s7⟩:=s
  obtain ⟨h,k7,k4,k8,k9⟩:=hm
  dsimp only at h k7 k4 k8 k9 ⊢
  unfold fR at h
  refine att 5 [] rfl ?_
  refine ch h rfl ?_ ?_ <;> intro h
  ·refine atr 5 [] rfl ?_
   obtain ⟨x2,hx2,h⟩:=bs h
   obtain ⟨cs2,F2,-,g2,hb2,hs2,r2⟩:=h1.el (a7 hx2).2.2
   obtain ⟨v4,G4,rfl,hq1,h4⟩:=r2
   obtain rfl:=hq1.symm
   refine lia h1 hx2 rfl<|lhx 0 3 g2 rfl<|lnz pE rfl fun b_6=>soN 0 sN rfl ⟨rfl,h4.one,rfl,trivial⟩ rfl ?_
   refine arr 4 [3] rfl ?_
   refine WL.frz (js:=[2]) (R:=[(b_6,.cells #[.string x2.Kind,v4,.bool x2.Not] 212 (0,0)),(b_5,.cells #[u5,u4] 149 (0,0)),(b_2,.cells #[.slice none 0 0,.slice none 0 0] 52 (0,0))]) rfl (fun Φ_3 fr1 k10=>?_)
   replace k7:=k7.f0 fr1
   replace k4:=k4.f0 fr1
   replace k8:=k8.f0 fr1
   replace k9:=k9.f0 fr1
   refine kcb [0,5,4] h rfl rfl rfl rfl (fun b ap z q=>vK N b (⟨s4,s2⟩:bc) x2 k7 ((k4.rslG aJ.gives).x (Dj.app (ap.q 3 rfl) (ap.q 2 rfl))) k10 (h4.y z) q) ?_
   rintro x3 h v5 Φ_4 F3 ⟨ap1,fr2,v6,D4,rfl,rfl,h5,e1,h6⟩
   replace k4:=k4.fr fr2 (ap1.q 3 rfl) (ap1.q 2 rfl)
   replace k8:=k8.fr fr2 (ap1.q 1 rfl) dN
   replace k9:=k9.fr fr2 (ap1.q 0 rfl) dN
   refine art 7 [2,0] rfl ?_
   refine ch h rfl ?_ ?_ <;> intro h
   ·refine atr 4 [1,32] rfl ?_
    have rc1:RC (RI .i64) 1 Φ_4 ([[]]:List (List Nat)) [iV x3.1] ([x3.1]:List Int):=RC.cons (c:=[iV x3.1]) (cells:=[]) ⟨rfl,rfl⟩ rfl (RC.nil _ _ _)
    refine le' (cu (vs:=[(0,iV x3.1)]) (C:=#[iV x3.1]) RI.lasts aR o7 rfl rfl rfl rfl (aI mE (ai (C':=[iV x3.1]) rfl rfl rfl rfl rfl (ak))) rfl rc1 rfl (by simpa using Kw.nil)) rfl ?_
    rintro v7 Φ_5 D5 ⟨fr3,h7⟩
    replace h7:OSl (RI .i64) 3 1 Φ_5 [] v7 ([x3.1]:List Int):=by simpa using h7
    replace k4:=k4.f0 fr3
    replace k8:=k8.f0 fr3
    replace k9:=k9.f0 fr3
    replace h5:=h5.f0 fr3
    replace h6:=fr3 _ _ (by simp) h6
    obtain ⟨x4,hx4,h⟩:=bs h
    refine le' (cP RI.lasts RI.one RI.flat aR sP rfl rfl rfl rfl rfl (js:=[5]) (Rr:=[ob v7,[b_3],ob v6,D4,ob u5,D2,ob u2]) rfl k8 h7.rsl hx4) rfl ?_
    rintro v8 Φ_6 D6 ⟨⟨ap2,fr4⟩,h8⟩
    replace k4:=k4.fr fr4 (ap2.q 6 rfl) (ap2.q 5 rfl)
    replace k9:=k9.fr fr4 (ap2.q 4 rfl) dN
    replace h5:=h5.fr fr4 (ap2.q 2 rfl) (ap2.q 3 rfl)
    replace h6:=fr4 _ _ ((ap2.q 1 rfl) _ (by simp)) h6
    refine lf nL rfl rfl rfl<|so1 1 kO rfl h8.one ?_
    refine art 6 [] rfl ?_
    refine WT.thw (js:=[2]) (R:=[ob v8,ob v7,ob v6,D4,ob u5,D2,ob u2]) rfl h6 (fun Φ_7 ap3 fr5=>?_)
    replace k4:=k4.fr fr5 (ap3.q 6 rfl) (ap3.q 5 rfl)
    replace h8:=h8.fr fr5 (ap3.q 0 rfl) dN
    replace k9:=k9.fr fr5 (ap3.q 4 rfl) dN
    replace h5:=h5.fr fr5 (ap3.q 2 rfl) (ap3.q 3 rfl)
    exact lb [4,0,3,3,2,1] [2,0,1] (ih2 (_,_,_,_,_,_,_,_,_) ⟨h,h5,k4,h8,k9⟩)
   refine atr 4 [0,32] rfl ?_
   have rc2:RC (RI .i64) 1 Φ_4 ([[]]:List (List Nat)) [iV x3.1] ([x3.1]:List Int):=RC.cons (c:=[iV x3.1]) (cells:=[]) ⟨rfl,rfl⟩ rfl (RC.nil _ _ _)
   refine le' (cu (vs:=[(0,iV x3.1)]) (C:=#[iV x3.1]) RI.lasts aR o7 rfl rfl rfl rfl (aI mE (ai (C':=[iV x3.1]) rfl rfl rfl rfl rfl (ak))) rfl rc2 rfl (by simpa using Kw.nil)) rfl ?_
   rintro v9 Φ_8 D7 ⟨fr6,h9⟩
   replace h9:OSl (RI .i64) 3 1 Φ_8 [] v9 ([x3.1]:List Int):=by simpa using h9
   replace k4:=k4.f0 fr6
   replace k8:=k8.f0 fr6
   replace k9:=k9.f0 fr6
   replace h5:=h5.f0 fr6
   replace h6:=fr6 _ _ (by simp) h6
   obtain ⟨x5,hx5,h⟩:=bs h
   refine le' (cP RI.lasts RI.one RI.flat aR sP rfl rfl rfl rfl rfl (js:=[4]) (Rr:=[ob v9,[b_3],ob v6,D4,ob u4,D2,ob u2]) rfl k9 h9.rsl hx5) rfl ?_
   rintro v10 Φ_9 D8 ⟨⟨ap4,fr7⟩,h10⟩
   replace k4:=k4.fr fr7 (ap4.q 6 rfl) (ap4.q 5 rfl)
   replace k8:=k8.fr fr7 (ap4.q 4 rfl) dN
   replace h5:=h5.fr fr7 (ap4.q 2 rfl) (ap4.q 3 rfl)
   replace h6:=fr7 _ _ ((ap4.q 1 rfl) _ (by simp)) h6
   refine lf nQ rfl rfl rfl<|so1 1 kO rfl h10.one ?_
   refine art 6 [] rfl ?_
   refine WT.thw (js:=[2]) (R:=[ob v10,ob v9,ob v6,D4,ob u4,D2,ob u2]) rfl h6 (fun Φ_10 ap5 fr8=>?_)
   replace k4:=k4.fr fr8 (ap5.q 6 rfl) (ap5.q 5 rfl)
   replace k8:=k8.fr fr8 (ap5.q 4 rfl) dN
   replace h10:=h10.fr fr8 (ap5.q 0 rfl) dN
   replace h5:=h5.fr fr8 (ap5.q 2 rfl) (ap5.q 3 rfl)
   exact lb [0,3,3,3,2,1] [2,0,1] (ih2 (_,_,_,_,_,_,_,_,_) ⟨h,h5,k4,k8,h10⟩)
  refine atr 5 [1,32,2] rfl ?_
  have rc3:RC aJ 2 Φ_2 ([(ob u5++[])++((ob u4++[]))]:List (List Nat)) [u5,u4] ([(⟨s6,s5⟩:ae)]:List ae):=RC.cons (c:=[u5,u4]) (cells:=[]) ⟨u5,u4,rfl,rfl,k9,k8⟩ rfl (RC.nil _ _ _)
  refine le' (cu (vs:=[(0,.agg [u5,u4].toArray)]) (C:=#[u5,u4]) aJ.lasts th qG rfl rfl rfl rfl (aI FB (ai (C':=[u5,u4]) rfl rfl rfl rfl rfl (ak))) rfl rc3 rfl (RC.kn aJ.knows rc3)) rfl ?_
  rintro v11 Φ_11 D9 ⟨fr9,h11⟩
  replace h11:OSl aJ 149 2 Φ_11 ((ob u5++[])++((ob u4++[]))) v11 ([(⟨s6,s5⟩:ae)]:List ae):=by simpa [List.append_assoc] using h11
  replace k7:=k7.f0 fr9
  replace k4:=k4.f0 fr9
  refine wlL [((ob u5++[])++((ob u4++[]))),ob v11,D2,ob u2,D3,ob u3] (smg [1,1] rfl (SP.eq (by simp [List.append_assoc,bl]))) ?_
  obtain ⟨x6,hx6,h⟩:=bs h
  refine le' (gE aJ.lasts aJ.one th IC rfl rfl rfl rfl rfl (js:=[3]) (Rr:=[((ob u5++[])++((ob u4++[]))),ob v11,D2,D3,ob u3]) rfl k4 h11 (fun ap=>ap.q 2 rfl) (fun ap=>ap.q 0 rfl) hx6) rfl ?_
  rintro v12 Φ_12 D10 ⟨⟨ap6,fr10⟩,h12⟩
  replace k7:=k7.fr fr10 (ap6.q 4 rfl) (ap6.q 3 rfl)
  refine wlL [(D2++((ob u5++[])++((ob u4++[])))),ob v12,ob v11,D3,ob u3] (smg [3,1] rfl (SP.eq (by simp)))<|lf Aj rfl rfl rfl<|so1 1 Iq0 rfl h12.one ?_
  refine art 6 [] rfl ?_
  exact lb [0,0,1,1] [1,1] (ih1 (_,_,_,_,_,_,_,_) ⟨h,k7,h12⟩)
 refine atr 4 [2] rfl<|soN 1 Du rfl ⟨k3.one,k4.one,trivial⟩ rfl ?_
 refine en ?_
 exact rtg [3,2,1,0] hF (ay.one (bB Hw rfl (fun w1 hw=>hw.rgO (i:=1) rfl 0 2 [u1,u2] rfl) rfl)) rfl (by cases h; exact fun w1 hw=>⟨u1,D1,u2,D2,rfl,rfl,k3,k4⟩)
theorem gk {p2f:Nat} {p2fr:List Value} (w0:af Ψ Φ []) (p0:(List a9)) (p1:(List a9)) (p2:a9→a9→Option (Bool)) (ph0:RSl bf 4 Ψ pG0 pv0 p0) (ph1:RSl bf 4 Ψ pG1 pv1 p1) (p2hF:Fun prog p2f=true) (p2h:∀ {Φ':Hp} {w':World},FrH [] Φ Φ'→In Φ' w'→∀ (p2a0:a9) (p2a1:a9) {p2v0_0:Value} {p2G0_0:List Nat} {p2v0_1:Value} {p2G0_1:List Nat} {p2v1_0:Value} {p2G1_0:List Nat} {p2v1_1:Value} {p2G1_1:List Nat} (_:RSl az 3 Φ' p2G0_0 p2v0_0 p2a0.Consts) (_:RSl (RI .i64) 1 Φ' p2G0_1 p2v0_1 p2a0.At) (_:RSl az 3 Φ' p2G1_0 p2v1_0 p2a1.Consts) (_:RSl (RI .i64) 1 Φ' p2G1_1 p2v1_1 p2a1.At) {r:Bool},p2 p2a0 p2a1=some r→Calls prog p2f (([.agg [.string p2a0.Kind,iV p2a0.N,p2v0_0,p2v0_1].toArray,.agg [.string p2a1.Kind,iV p2a1.N,p2v1_0,p2v1_1].toArray]:List Value)++p2fr).toArray w' (uP (.bool r) w')) {r:Bool} (h:aX N p0 p1 p2=some r) :
  CB w0 prog 125 [pv0,pv1,.func (.func p2f) #[] p2fr.toArray] (.bool r):=by
 refine eN func125 rfl ntmps125 rfl w0 fun hF=>?_
 unfold aX at h
 refine atr 8 [] rfl<|lnr ph0 rfl<|la rfl<|lnr ph1 rfl<|la rfl<|en ?_
 refine ch h rfl ?_ ?_ <;> intro h
 ·refine att 4 [] rfl ?_
  exact rt hF h
 refine atr 5 [] rfl<|lnr ph0 rfl<|art 3 [] rfl ?_
 refine lin (σ:=Int) (fun s=>[(1,pv1),(2,.func (.func p2f) #[] p2fr.toArray),(15,pv0),(16,iV (p0.length:Int)),(17,iV s)]) (fun s=>St w0 Φ [] []) (fun m s=>aE N p0 p1 p2 m s=some r) (0) N h (sx [] []) (fun n1 ih1 s hm=>?_)
 revert hm; revert s; intro s1 hm
 have h:aE N p0 p1 p2 (n1+1) s1=some r:=hm
 show WT _ _ [(1,pv1),(2,.func (.func p2f) #[] p2fr.toArray),(15,pv0),(16,iV (p0.length:Int)),(17,iV s1)] (St w0 Φ [] [])
 unfold aE at h
 refine att 5 [] rfl ?_
 refine ch h rfl ?_ ?_ <;> intro h
 ·refine atr 6 [] rfl ?_
  obtain ⟨x1,hx1,h⟩:=bs h
  obtain ⟨cs1,F1,-,g1,hb1,hs1,r1⟩:=ph0.el (a7 hx1).2.2
  obtain ⟨v1,G1,v2,G2,rfl,rfl,h1,h2⟩:=r1
  refine lia ph0 hx1 rfl<|lhx 0 4 g1 rfl<|lnz kP rfl fun b_1=>la rfl<|soN 0 qP rfl ⟨rfl,rfl,h1.one,h2.one,trivial⟩ rfl ?_
  refine arr 5 [] rfl ?_
  obtain ⟨x2,hx2,h⟩:=bs h
  obtain ⟨cs2,F2,-,g2,hb2,hs2,r2⟩:=ph1.el (a7 hx2).2.2
  obtain ⟨v3,G3,v4,G4,rfl,rfl,h3,h4⟩:=r2
  refine lia ph1 hx2 rfl<|lhx 0 4 g2 rfl<|lnz kP rfl fun b_2=>soN 0 qP rfl ⟨rfl,rfl,h3.one,h4.one,trivial⟩ rfl ?_
  refine arr 6 [36,4] rfl ?_
  obtain ⟨x3,hx3,h⟩:=bs h
  refine lp (Ek p2hF rfl rfl (fun w1 hw=>p2h hw.frB hw.fro x1 x2 (h1.y hw.up) (h2.y hw.up) (h3.y hw.up) (h4.y hw.up) hx3)) rfl<|la rfl<|en ?_
  refine ch h rfl ?_ ?_ <;> intro h
  ·refine att 4 [] rfl ?_
   exact rt hF h
  refine att 6 [] rfl ?_
  exact lb [] [] (ih1 _ h)
 refine att 5 [] rfl ?_
 exact rt hF h
theorem gl {p2f:Nat} {p2fr:List Value} (w0:af Ψ Φ []) (p0:(List ae)) (p1:(List ae)) (p2:ae→ae→Option (Bool)) (ph0:RSl bz 2 Ψ pG0 pv0 p0) (ph1:RSl bz 2 Ψ pG1 pv1 p1) (p2hF:Fun prog p2f=true) (p2h:∀ {Φ':Hp} {w':World},FrH [] Φ Φ'→In Φ' w'→∀ (p2a0:ae) (p2a1:ae) {p2v0_0:Value} {p2G0_0:List Nat} {p2v0_1:Value} {p2G0_1:List Nat} {p2v1_0:Value} {p2G1_0:List Nat} {p2v1_1:Value} {p2G1_1:List Nat} (_:RSl (RI .i64) 1 Φ' p2G0_0 p2v0_0 p2a0.Pos) (_:RSl (RI .i64) 1 Φ' p2G0_1 p2v0_1 p2a0.Neg) (_:RSl (RI .i64) 1 Φ' p2G1_0 p2v1_0 p2a1.Pos) (_:RSl (RI .i64) 1 Φ' p2G1_1 p2v1_1 p2a1.Neg) {r:Bool},p2 p2a0 p2a1=some r→Calls prog p2f (([.agg [p2v0_0,p2v0_1].toArray,.agg [p2v1_0,p2v1_1].toArray]:List Value)++p2fr).toArray w' (uP (.bool r) w')) {r:Bool} (h:aZ N p0 p1 p2=some r) :
  CB w0 prog 127 [pv0,pv1,.func (.func p2f) #[] p2fr.toArray] (.bool r):=by
 refine eN func127 rfl ntmps127 rfl w0 fun hF=>?_
 unfold aZ at h
 refine atr 8 [] rfl<|lnr ph0 rfl<|la rfl<|lnr ph1 rfl<|la rfl<|en ?_
 refine ch h rfl ?_ ?_ <;> intro h
 ·refine att 4 [] rfl ?_
  exact rt hF h
 refine atr 5 [] rfl<|lnr ph0 rfl<|art 3 [] rfl ?_
 refine lin (σ:=Int) (fun s=>[(1,pv1),(2,.func (.func p2f) #[] p2fr.toArray),(15,pv0),(16,iV (p0.length:Int)),(17,iV s)]) (fun s=>St w0 Φ [] []) (fun m s=>aD N p0 p1 p2 m s=some r) (0) N h (sx [] []) (fun n1 ih1 s hm=>?_)
 revert hm; revert s; intro s1 hm
 have h:aD N p0 p1 p2 (n1+1) s1=some r:=hm
 show WT _ _ [(1,pv1),(2,.func (.func p2f) #[] p2fr.toArray),(15,pv0),(16,iV (p0.length:Int)),(17,iV s1)] (St w0 Φ [] [])
 unfold aD at h
 refine att 5 [] rfl ?_
 refine ch h rfl ?_ ?_ <;> intro h
 ·refine atr 6 [] rfl ?_
  obtain ⟨x1,hx1,h⟩:=bs h
  obtain ⟨cs1,F1,-,g1,hb1,hs1,r1⟩:=ph0.el (a7 hx1).2.2
  obtain ⟨v1,G1,v2,G2,rfl,rfl,h1,h2⟩:=r1
  refine lia ph0 hx1 rfl<|lhx 0 2 g1 rfl<|lnz qG rfl fun b_1=>la rfl<|soN 0 xw rfl ⟨h1.one,h2.one,trivial⟩ rfl ?_
  refine arr 5 [] rfl ?_
  obtain ⟨x2,hx2,h⟩:=bs h
  obtain ⟨cs2,F2,-,g2,hb2,hs2,r2⟩:=ph1.el (a7 hx2).2.2
  obtain ⟨v3,G3,v4,G4,rfl,rfl,h3,h4⟩:=r2
  refine lia ph1 hx2 rfl<|lhx 0 2 g2 rfl<|lnz qG rfl fun b_2=>soN 0 xw rfl ⟨h3.one,h4.one,trivial⟩ rfl ?_
  refine arr 6 [34,2] rfl ?_
  obtain ⟨x3,hx3,h⟩:=bs h
  refine lp (Ek p2hF rfl rfl (fun w1 hw=>p2h hw.frB hw.fro x1 x2 (h1.y hw.up) (h2.y hw.up) (h3.y hw.up) (h4.y hw.up) hx3)) rfl<|la rfl<|en ?_
  refine ch h rfl ?_ ?_ <;> intro h
  ·refine att 4 [] rfl ?_
   exact rt hF h
  refine att 6 [] rfl ?_
  exact lb [] [] (ih1 _ h)
 refine att 5 [] rfl ?_
 exact rt hF h
theorem xE (w0:af Ψ Φ []) (p0:ae) (p1:ae) (ph0_0:RSl (RI .i64) 1 Ψ pG0_0 pv0_0 p0.Pos) (ph0_1:RSl (RI .i64) 1 Ψ pG0_1 pv0_1 p0.Neg) (ph1_0:RSl (RI .i64) 1 Ψ pG1_0 pv1_0 p1.Pos) (ph1_1:RSl (RI .i64) 1 Ψ pG1_1 pv1_1 p1.Neg) {r:Bool} (h:eP N p0 p1=some r) :
  CB w0 prog 128 [.agg [pv0_0,pv0_1].toArray,.agg [pv1_0,pv1_1].toArray] (.bool r):=by
 refine eN func128 rfl ntmps128 rfl w0 fun hF=>?_
 unfold eP at h
 refine sr<|lbx rfl fun b_1=>lbx rfl fun b_2=>arr 8 [0,32,0,0] rfl<|qd h (iL N · p0.Pos p1.Pos ph0_0 ph1_0 ·) rfl rfl rfl fun x1 h=>la rfl ?_
 obtain ⟨b1,hb_1,h⟩:=bs h
 refine WL.cutN 6 [(16,.bool b1),(4,.bool false)] ?_ (fun K=>?_)
 rotate_left
 ·refine sp 10 hb_1 rfl (fun hb_1=>?_) fun hb_1=>?_
  ·refine arr 4 [1,32,1,0] rfl<|ly rfl rfl<|qd hb_1 (iL N · p0.Neg p1.Neg ph0_1 ph1_1 ·) rfl rfl rfl fun x2 hb_1=>la rfl ?_
   cases hb_1
   exact ku K
  ·refine arr 6 [] rfl ?_
   cases hb_1
   exact ku K
 refine la rfl<|en ?_
 exact rt hF h
theorem DE (w0:af Ψ Φ []) (p0:bc) (p1:bo) (ph0_0:RSl bf 4 Ψ pG0_0 pv0_0 p0.Alphas) (ph0_1:RSl bz 2 Ψ pG0_1 pv0_1 p0.Chains) (ph1_0:RSl cf 5 Ψ pG1_0 pv1_0 p1.Rules) {r:Bool} (h:td N p0 p1=some r) :
  CB w0 prog 75 [.agg [pv0_0,pv0_1].toArray,.agg [.string p1.Name,pv1_0].toArray] (.bool r):=by
 refine eN func75 rfl ntmps75 rfl w0 fun hF=>?_
 unfold td at h
 refine sr<|lbx rfl fun b_1=>lbx rfl fun b_2=>arr 6 [2] rfl<|qd h (EB N · p1 ph1_0 ·) rfl rfl rfl fun x1 h=>la rfl<|en ?_
 refine ch h rfl ?_ ?_ <;> intro h
 ·refine att 4 [] rfl ?_
  exact rt hF h
 refine atr 4 [2] rfl<|kab h rfl rfl rfl (fun b z q=>EY N b p1 (ph1_0.y z) q) ?_
 rintro x2 h v1 Φ_1 F1 ⟨ap1,fr1,v2,D1,v3,D2,rfl,rfl,h1,h2⟩
 refine lnz w5 rfl fun b_3=>soN 0 Du rfl ⟨h1.one,h2.one,trivial⟩ rfl ?_
 refine arr 7 [0,64,0,0] rfl<|qz h (fun b z q=>gk N b p0.Alphas x2.Alphas (dG N) (ph0_0.y z) (h1.rslG aU.gives) KH (fun hle' hin a0 a1=>fun f0 f1 f2 f3=>fun hr=>t9 N (ba hin) a0 a1 f0 f1 f2 f3 hr) q) rfl rfl rfl fun x3 h=>la rfl ?_
 obtain ⟨b1,hb_1,h⟩:=bs h
 refine WL.cutN 6 [(22,.bool b1)] ?_ (fun K=>?_)
 rotate_left
 ·refine sp 16 hb_1 rfl (fun hb_1=>?_) fun hb_1=>?_
  ·refine arr 4 [1,64,1,0] rfl<|ly rfl rfl<|qz hb_1 (fun b z q=>gl N b p0.Chains x2.Chains (eP N) (ph0_1.y z) (h2.rslG aJ.gives) JO (fun hle' hin a0 a1=>fun f0 f1 f2 f3=>fun hr=>xE N (ba hin) a0 a1 f0 f1 f2 f3 hr) q) rfl rfl rfl fun x4 hb_1=>la rfl ?_
   cases hb_1
   exact ku K
  ·refine arr 6 [] rfl ?_
   cases hb_1
   exact ku K
 refine la rfl<|en ?_
 exact rt hF h
theorem BQ (w0:af Ψ Φ []) (p0:aw) (ph0_0:RSl az 3 Ψ pG0_0 pv0_0 p0.Fields) {r:Bool} (h:qZ N p0=some r) :
  CB w0 prog 130 [.agg [.string p0.Kind,pv0_0].toArray] (.bool r):=by
 refine eN func130 rfl ntmps130 rfl w0 fun hF=>?_
 unfold qZ at h
 refine sr<|lbx rfl fun b_1=>arr 7 [0,0] rfl<|qc h (jD N · p0.Kind ·) rfl rfl rfl fun x1 h=>arr 2 [] rfl ?_
 obtain ⟨b1,hb_1,h⟩:=bs h
 refine WL.cutN 5 [(14,.bool b1),(1,pQ b_1)] ?_ (fun K=>?_)
 rotate_left
 ·refine sp 9 hb_1 rfl (fun hb_1=>?_) fun hb_1=>?_
  ·refine arr 5 [] rfl ?_
   cases hb_1
   exact ku K
  ·refine arr 2 [1,0] rfl<|ly rfl rfl<|lnr ph0_0 rfl<|arr 2 [] rfl ?_
   cases hb_1
   exact ku K
 refine en ?_
 refine ch h rfl ?_ ?_ <;> intro h
 ·refine att 4 [] rfl ?_
  exact rt hF h
 refine atr 6 [1,0] rfl<|lnr ph0_0 rfl<|art 3 [] rfl ?_
 refine lin (σ:=Int) (fun s=>[(16,pv0_0),(17,iV (p0.Fields.length:Int)),(18,iV s)]) (fun s=>St w0 Φ [] []) (fun m s=>f8 N p0 m s=some r) (0) N h (sx [] []) (fun n1 ih1 s hm=>?_)
 revert hm; revert s; intro s1 hm
 have h:f8 N p0 (n1+1) s1=some r:=hm
 show WT _ _ [(16,pv0_0),(17,iV (p0.Fields.length:Int)),(18,iV s1)] (St w0 Φ [] [])
 unfold f8 at h
 refine att 5 [] rfl ?_
 refine ch h rfl ?_ ?_ <;> intro h
 ·refine atr 5 [] rfl ?_
  obtain ⟨x2,hx2,h⟩:=bs h
  obtain ⟨cs1,F1,-,g1,hb1,hs1,r1⟩:=ph0_0.el (a7 hx2).2.2
  obtain ⟨rfl,-⟩:=r1
  refine lia ph0_0 hx2 rfl<|lhx 0 3 g1 rfl<|lnz jI rfl fun b_2=>soN 0 rR rfl ⟨rfl,rfl,rfl,trivial⟩ rfl ?_
  refine arr 4 [3] rfl<|qc h (wH N · x2 ·) rfl rfl rfl fun x3 h=>la rfl<|en ?_
  refine ch h rfl ?_ ?_ <;> intro h
  ·refine att 4 [] rfl ?_
   exact rt hF h
  refine att 6 [] rfl ?_
  exact lb [] [] (ih1 _ h)
 refine att 5 [] rfl ?_
 exact rt hF h
theorem yN (w0:af Ψ Φ []) (p0:aw) (p1:aw) (ph0_0:RSl az 3 Ψ pG0_0 pv0_0 p0.Fields) (ph1_0:RSl az 3 Ψ pG1_0 pv1_0 p1.Fields) {r:Bool} (h:mv N p0 p1=some r) :
  CB w0 prog 131 [.agg [.string p0.Kind,pv0_0].toArray,.agg [.string p1.Kind,pv1_0].toArray] (.bool r):=by
 refine eN func131 rfl ntmps131 rfl w0 fun hF=>?_
 unfold mv at h
 refine sr<|lbx rfl fun b_1=>lbx rfl fun b_2=>arr 10 [0,32,0,0] rfl ?_
 obtain ⟨b1,hb_1,h⟩:=bs h
 refine WL.cutN 6 [(16,.bool b1),(4,.bool false)] ?_ (fun K=>?_)
 rotate_left
 ·refine sp 10 hb_1 rfl (fun hb_1=>?_) fun hb_1=>?_
  ·refine arr 4 [1,32,1,0] rfl<|ly rfl rfl<|qd hb_1 (jV N · p0.Fields p1.Fields ph0_0 ph1_0 ·) rfl rfl rfl fun x1 hb_1=>la rfl ?_
   cases hb_1
   exact ku K
  ·refine arr 6 [] rfl ?_
   cases hb_1
   exact ku K
 refine la rfl<|en ?_
 exact rt hF h
theorem AI (w0:af Ψ Φ []) (p0:ah) (ph0_0:RSl bE 3 Ψ pG0_0 pv0_0 p0.Items) {r:Bool} (h:oW N p0=some r) :
  CB w0 prog 76 [.agg [pv0_0,iV p0.Next].toArray] (.bool r):=by
 refine eN func76 rfl ntmps76 rfl w0 fun hF=>?_
 unfold oW at h
 refine sr<|lbx rfl fun b_1=>arr 7 [0,0] rfl<|lnr ph0_0 rfl<|arr 2 [] rfl ?_
 obtain ⟨b1,hb_1,h⟩:=bs h
 refine WL.cutN 5 [(16,.bool b1),(1,pQ b_1)] ?_ (fun K=>?_)
 rotate_left
 ·refine sp 11 hb_1 rfl (fun hb_1=>?_) fun hb_1=>?_
  ·refine arr 5 [] rfl ?_
   cases hb_1
   exact ku K
  ·refine arr 2 [1,0] rfl<|ly rfl rfl<|qc hb_1 (cM N · p0.Next 1 1000000 ·) rfl rfl rfl fun x1 hb_1=>arr 2 [] rfl ?_
   cases hb_1
   exact ku K
 refine en ?_
 refine ch h rfl ?_ ?_ <;> intro h
 ·refine att 4 [] rfl ?_
  exact rt hF h
 refine atr 6 [0,0] rfl<|lnr ph0_0 rfl<|art 3 [] rfl ?_
 refine lin (σ:=Int) (fun s=>[(1,pQ b_1),(18,pv0_0),(19,iV (p0.Items.length:Int)),(20,iV s)]) (fun s=>St w0 Φ [(b_1,.cells #[pv0_0,iV p0.Next] 57 (0,0))] []) (fun m s=>cH N p0 m s=some r) (0) N h (sx [] [0]) (fun n1 ih1 s hm=>?_)
 revert hm; revert s; intro s1 hm
 have h:cH N p0 (n1+1) s1=some r:=hm
 show WT _ _ [(1,pQ b_1),(18,pv0_0),(19,iV (p0.Items.length:Int)),(20,iV s1)] (St w0 Φ [(b_1,.cells #[pv0_0,iV p0.Next] 57 (0,0))] [])
 unfold cH at h
 refine att 5 [] rfl ?_
 refine ch h rfl ?_ ?_ <;> intro h
 ·refine atr 6 [] rfl ?_
  obtain ⟨x2,hx2,h⟩:=bs h
  obtain ⟨cs1,F1,-,g1,hb1,hs1,r1⟩:=ph0_0.el (a7 hx2).2.2
  obtain ⟨v1,G1,rfl,hq1,h1⟩:=r1
  obtain rfl:=hq1.symm
  refine lia ph0_0 hx2 rfl<|lhx 0 3 g1 rfl<|lnz uM rfl fun b_2=>la rfl<|soN 0 vP rfl ⟨rfl,rfl,h1.one,trivial⟩ rfl ?_
  refine art 3 [] rfl<|WT.draw co (by kernel_rfl) (fun _ h=>h.drew)<|aqq 2 [1,2] rfl ?_
  obtain ⟨x3,hx3,h⟩:=bs h
  refine qp (bP KM rfl (fun w1 hw=>BQ N (ba hw.in0) x2.F h1 hx3)) rfl<|aqq 2 [] rfl ?_
  obtain ⟨b2,hb_2,h⟩:=bs h
  refine WQ.cutN 8 [(37,.bool b2),(1,pQ b_1),(3,iV s1),(4,pQ b_2),(18,pv0_0),(19,iV (p0.Items.length:Int)),(20,iV s1)] ?_ (fun K=>?_)
  rotate_left
  ·refine WQ.split (d:=29) rfl (fun c4=>?_) (fun c4=>?_)
   ·replace hb_2:=gV hb_2 c4
    refine aqq 8 [] rfl ?_
    cases hb_2
    exact kq K
   ·replace hb_2:=gZ hb_2 c4
    refine aqq 5 [0,0,1,32] rfl<|WQ.yes rfl rfl ?_
    obtain ⟨x4,hx4,hb_2⟩:=bs hb_2
    refine qp (bP Kc rfl (fun w1 hw=>cM N (ba hw.fro) x2.Id 1 (wz (p0.Next - 1)) hx4)) rfl<|aqq 2 [] rfl ?_
    cases hb_2
    exact kq K
  refine qq (iN rfl) rfl ?_
  obtain ⟨b3,hb_3,h⟩:=bs h
  refine WQ.cutN 15 [(53,.bool b3),(1,pQ b_1),(3,iV s1),(4,pQ b_2),(18,pv0_0),(19,iV (p0.Items.length:Int)),(20,iV s1)] ?_ (fun K=>?_)
  rotate_left
  ·refine WQ.split (d:=38) rfl (fun c5=>?_) (fun c5=>?_)
   ·replace hb_3:=gV hb_3 c5
    refine aqq 15 [] rfl ?_
    cases hb_3
    exact kq K
   ·replace hb_3:=gZ hb_3 c5
    refine aqq 3 [] rfl ?_
    obtain ⟨b4,hb_4,hb_3⟩:=bs hb_3
    refine WQ.cutN 11 [(52,.bool b4),(1,pQ b_1),(3,iV s1),(4,pQ b_2),(18,pv0_0),(19,iV (p0.Items.length:Int)),(20,iV s1),(38,.bool false)] ?_ (fun K=>?_)
    rotate_left
    ·refine WQ.split (d:=41) rfl (fun c6=>?_) (fun c6=>?_)
     ·replace hb_4:=gV hb_4 c6
      refine aqq 6 [0,0,0,32] rfl<|WQ.yes rfl rfl ?_
      obtain ⟨x5,hx5,hb_4⟩:=bs hb_4
      obtain ⟨cs2,F2,-,g2,hb2,hs2,r2⟩:=ph0_0.el (a7 hx5).2.2
      obtain ⟨v2,G2,rfl,hq2,h2⟩:=r2
      obtain rfl:=hq2.symm
      refine qq (a8 xR rfl rfl ph0_0 hx5) rfl<|WQ.yes rfl rfl<|qq (aB sU rfl) rfl<|WQ.yes rfl rfl<|qq (aW vd rfl (fun w1 hw=>(g2.of_eq 0 1 rfl rfl:rg _ _ _ [iV x5.Id]).rangeAt hw.in0)) rfl<|aqq 2 [] rfl ?_
      cases hb_4
      exact kq K
     ·replace hb_4:=gZ hb_4 c6
      refine aqq 11 [] rfl ?_
      cases hb_4
      exact kq K
    refine WQ.q (sv rfl rfl) rfl rfl rfl ?_
    cases hb_3
    exact kq K
  refine WQ.nil ?_
  refine ch h rfl ?_ ?_ <;> intro h
  ·refine att 4 [] rfl ?_
   exact rt hF h
  refine atr 6 [0,32] rfl ?_
  obtain ⟨x6,hx6,h⟩:=bs h
  refine lq (Oo xR rfl rfl ph0_0 hx6) rfl ?_
  obtain ⟨F3,h3,hs3⟩:=ph0_0.sub hx6
  refine lnr h3 rfl<|art 3 [] rfl ?_
  refine lin (σ:=Int) (fun s=>[(1,pQ b_1),(4,pQ b_2),(18,pv0_0),(19,iV (p0.Items.length:Int)),(20,iV s1),(57,(slc pv0_0 (0:Int).toNat s1.toNat 3)),(58,iV (x6.length:Int)),(59,iV s)]) (fun s=>St w0 Φ [(b_2,.cells #[iV x2.Id,.string x2.F.Kind,v1] 156 (0,0)),(b_1,.cells #[pv0_0,iV p0.Next] 57 (0,0))] []) (fun m s=>dP N s1 (cH N p0 n1) x2 x6 m s=some r) (0) N h (sx [] [0,0]) (fun n2 ih2 s hm=>?_)
  revert hm; revert s; intro s2 hm
  have h:dP N s1 (cH N p0 n1) x2 x6 (n2+1) s2=some r:=hm
  show WT _ _ [(1,pQ b_1),(4,pQ b_2),(18,pv0_0),(19,iV (p0.Items.length:Int)),(20,iV s1),(57,(slc pv0_0 (0:Int).toNat s1.toNat 3)),(58,iV (x6.length:Int)),(59,iV s2)] (St w0 Φ [(b_2,.cells #[iV x2.Id,.string x2.F.Kind,v1] 156 (0,0)),(b_1,.cells #[pv0_0,iV p0.Next] 57 (0,0))] [])
  unfold dP at h
  refine att 5 [] rfl ?_
  refine ch h rfl ?_ ?_ <;> intro h
  ·refine atr 5 [] rfl ?_
   obtain ⟨x7,hx7,h⟩:=bs h
   obtain ⟨cs3,F4,-,g3,hb3,hs4,r3⟩:=h3.el (a7 hx7).2.2
   obtain ⟨v3,G3,rfl,hq3,h4⟩:=r3
   obtain rfl:=hq3.symm
   refine lia h3 hx7 rfl<|lhx 0 3 g3 rfl<|lnz uM rfl fun b_3=>soN 0 vP rfl ⟨rfl,rfl,h4.one,trivial⟩ rfl ?_
   refine arr 7 [1,34,1,2] rfl<|qd h (yN N · x2.F x7.F h1 h4 ·) rfl rfl rfl fun x8 h=>en ?_
   refine ch h rfl ?_ ?_ <;> intro h
   ·refine att 4 [] rfl ?_
    exact rt hF h
   refine att 6 [] rfl ?_
   exact lb [] [1,1] (ih2 _ h)
  refine att 6 [] rfl ?_
  exact lb [] [1] (ih1 _ h)
 refine att 5 [] rfl ?_
 exact rt hF h
theorem Cm (w0:af Ψ Φ []) (p0:bc) (p1:aA) (ph0_0:RSl bf 4 Ψ pG0_0 pv0_0 p0.Alphas) (ph0_1:RSl bz 2 Ψ pG0_1 pv0_1 p0.Chains) (ph1_0:RSl dD 1 Ψ pG1_0 pv1_0 p1.Alphas) (ph1_1:RSl fM 1 Ψ pG1_1 pv1_1 p1.Rules) {r:Bool} (h:rc N p0 p1=some r) :
  CB w0 prog 77 [.agg [pv0_0,pv0_1].toArray,.agg [pv1_0,pv1_1].toArray] (.bool r):=by
 refine eN func77 rfl ntmps77 rfl w0 fun hF=>?_
 unfold rc at h
 refine sr<|lbx rfl fun b_1=>lbx rfl fun b_2=>arr 7 [0,0] rfl<|lnr ph1_0 rfl<|arr 2 [0,32] rfl<|lnr ph0_0 rfl<|arr 2 [] rfl ?_
 obtain ⟨b1,hb_1,h⟩:=bs h
 refine WL.cutN 8 [(28,.bool b1),(2,pQ b_1),(3,pQ b_2)] ?_ (fun K=>?_)
 rotate_left
 ·refine sp 20 hb_1 rfl (fun hb_1=>?_) fun hb_1=>?_
  ·refine arr 8 [] rfl ?_
   cases hb_1
   exact ku K
  ·refine arr 2 [1,0] rfl<|ly rfl rfl<|lnr ph1_1 rfl<|arr 2 [1,32] rfl<|ly rfl rfl<|lnr ph0_1 rfl<|arr 2 [] rfl ?_
   cases hb_1
   exact ku K
 refine en ?_
 refine ch h rfl ?_ ?_ <;> intro h
 ·refine att 4 [] rfl ?_
  exact rt hF h
 refine atr 6 [1,0] rfl<|lnr ph1_1 rfl<|art 3 [] rfl ?_
 refine lin (σ:=Int) (fun s=>[(2,pQ b_1),(30,pv1_1),(31,iV (p1.Rules.length:Int)),(32,iV s)]) (fun s=>St w0 Φ [(b_1,.cells #[pv0_0,pv0_1] 52 (0,0))] []) (fun m s=>bK N p0 p1 m s=some r) (0) N h (sx [] [1]) (fun n1 ih1 s hm=>?_)
 revert hm; revert s; intro s1 hm
 have h:bK N p0 p1 (n1+1) s1=some r:=hm
 show WT _ _ [(2,pQ b_1),(30,pv1_1),(31,iV (p1.Rules.length:Int)),(32,iV s1)] (St w0 Φ [(b_1,.cells #[pv0_0,pv0_1] 52 (0,0))] [])
 unfold bK at h
 refine att 5 [] rfl ?_
 refine ch h rfl ?_ ?_ <;> intro h
 ·refine atr 6 [] rfl ?_
  obtain ⟨x1,hx1,h⟩:=bs h
  obtain ⟨cs1,F1,-,g1,hb1,hs1,r1⟩:=ph1_1.el (a7 hx1).2.2
  obtain ⟨v1,G1,rfl,hq1,h1⟩:=r1
  obtain rfl:=hq1.symm
  refine lia ph1_1 hx1 rfl<|lhx 0 1 g1 rfl ?_
  refine ln (ig (C:=#[.slice none 0 0]) rG rfl) rfl (fun b_3=>?_)
  refine la rfl<|soN 0 xK rfl ⟨h1.one,trivial⟩ rfl ?_
  refine arr 6 [1,32] rfl ?_
  obtain ⟨x2,hx2,h⟩:=bs h
  obtain ⟨cs2,F2,-,g2,hb2,hs2,r2⟩:=ph0_1.el (a7 hx2).2.2
  obtain ⟨v2,G2,v3,G3,rfl,rfl,h2,h3⟩:=r2
  refine lia ph0_1 hx2 rfl<|lhx 0 2 g2 rfl<|lnz qG rfl fun b_4=>soN 0 xw rfl ⟨h2.one,h3.one,trivial⟩ rfl ?_
  refine arr 6 [0,32] rfl<|lnr h1 rfl<|arr 2 [0,0] rfl<|lnr h2 rfl<|la rfl<|en ?_
  refine ch h rfl ?_ ?_ <;> intro h
  ·refine att 4 [] rfl ?_
   exact rt hF h
  refine atr 5 [0,32] rfl<|lnr h1 rfl<|art 3 [] rfl ?_
  refine lin (σ:=Int) (fun s=>[(2,pQ b_1),(7,pQ b_4),(30,pv1_1),(31,iV (p1.Rules.length:Int)),(32,iV s1),(50,v1),(51,iV (x1.Levels.length:Int)),(52,iV s)]) (fun s=>St w0 Φ [(b_4,.cells #[v2,v3] 149 (0,0)),(b_1,.cells #[pv0_0,pv0_1] 52 (0,0))] []) (fun m s=>bX N s1 (bK N p0 p1 n1) x1 x2 m s=some r) (0) N h (sx [] [0,1]) (fun n2 ih2 s hm=>?_)
  revert hm; revert s; intro s2 hm
  have h:bX N s1 (bK N p0 p1 n1) x1 x2 (n2+1) s2=some r:=hm
  show WT _ _ [(2,pQ b_1),(7,pQ b_4),(30,pv1_1),(31,iV (p1.Rules.length:Int)),(32,iV s1),(50,v1),(51,iV (x1.Levels.length:Int)),(52,iV s2)] (St w0 Φ [(b_4,.cells #[v2,v3] 149 (0,0)),(b_1,.cells #[pv0_0,pv0_1] 52 (0,0))] [])
  unfold bX at h
  refine att 5 [] rfl ?_
  refine ch h rfl ?_ ?_ <;> intro h
  ·refine atr 6 [] rfl ?_
   obtain ⟨x3,hx3,h⟩:=bs h
   obtain ⟨cs3,F3,-,g3,hb3,hs3,r3⟩:=h1.el (a7 hx3).2.2
   obtain ⟨v4,G4,rfl,hq2,h4⟩:=r3
   obtain rfl:=hq2.symm
   refine lia h1 hx3 rfl<|lhx 0 1 g3 rfl ?_
   refine ln (ig (C:=#[.slice none 0 0]) tI rfl) rfl (fun b_5=>?_)
   refine la rfl<|soN 0 EQ rfl ⟨h4.one,trivial⟩ rfl ?_
   refine arr 11 [0,32] rfl<|lnr h2 rfl<|art 3 [] rfl ?_
   refine cut (σ:=Int) (fun s=>[(2,pQ b_1),(7,pQ b_4),(8,iV s2),(9,pQ b_5),(10,iV s),(30,pv1_1),(31,iV (p1.Rules.length:Int)),(32,iV s1),(50,v1),(51,iV (x1.Levels.length:Int)),(52,iV s2)]) (fun s=>St w0 Φ [(b_5,.cells #[v4] 130 (0,0)),(b_4,.cells #[v2,v3] 149 (0,0)),(b_1,.cells #[pv0_0,pv0_1] 52 (0,0))] []) (fun s=>i7 N s2 (bX N s1 (bK N p0 p1 n1) x1 x2 n2) x3 s=some r) (fun s hm=>?_) (fun K=>?_)
   ·clear h
    revert hm; revert s; intro s3 hm
    have h:i7 N s2 (bX N s1 (bK N p0 p1 n1) x1 x2 n2) x3 s3=some r:=hm
    show WT _ _ [(2,pQ b_1),(7,pQ b_4),(8,iV s2),(9,pQ b_5),(10,iV s3),(30,pv1_1),(31,iV (p1.Rules.length:Int)),(32,iV s1),(50,v1),(51,iV (x1.Levels.length:Int)),(52,iV s2)] (St w0 Φ [(b_5,.cells #[v4] 130 (0,0)),(b_4,.cells #[v2,v3] 149 (0,0)),(b_1,.cells #[pv0_0,pv0_1] 52 (0,0))] [])
    unfold i7 at h
    refine atr 4 [0,0] rfl<|lnr h4 rfl<|art 3 [] rfl ?_
    refine lin (σ:=Int) (fun s=>[(2,pQ b_1),(7,pQ b_4),(8,iV s2),(10,iV s3),(30,pv1_1),(31,iV (p1.Rules.length:Int)),(32,iV s1),(50,v1),(51,iV (x1.Levels.length:Int)),(52,iV s2),(67,v4),(68,iV (x3.Toks.length:Int)),(69,iV s)]) (fun s=>St w0 Φ [(b_4,.cells #[v2,v3] 149 (0,0)),(b_1,.cells #[pv0_0,pv0_1] 52 (0,0))] []) (fun m s=>f7 N s2 (bX N s1 (bK N p0 p1 n1) x1 x2 n2) x3 s3 m s=some r) (0) N h (sx [] [1,1]) (fun n4 ih4 s hm=>?_)
    revert hm; revert s; intro s4 hm
    have h:f7 N s2 (bX N s1 (bK N p0 p1 n1) x1 x2 n2) x3 s3 (n4+1) s4=some r:=hm
    show WT _ _ [(2,pQ b_1),(7,pQ b_4),(8,iV s2),(10,iV s3),(30,pv1_1),(31,iV (p1.Rules.length:Int)),(32,iV s1),(50,v1),(51,iV (x1.Levels.length:Int)),(52,iV s2),(67,v4),(68,iV (x3.Toks.length:Int)),(69,iV s4)] (St w0 Φ [(b_4,.cells #[v2,v3] 149 (0,0)),(b_1,.cells #[pv0_0,pv0_1] 52 (0,0))] [])
    unfold f7 at h
    refine att 5 [] rfl ?_
    refine ch h rfl ?_ ?_ <;> intro h
    ·refine atr 5 [] rfl ?_
     obtain ⟨x4,hx4,h⟩:=bs h
     obtain ⟨cs4,F4,-,g4,hb4,hs4,r4⟩:=h4.el (a7 hx4).2.2
     obtain ⟨v5,G5,v6,G6,rfl,rfl,h5,h6⟩:=r4
     refine lia h4 hx4 rfl<|lhx 0 2 g4 rfl<|lnz eD rfl fun b_6=>soN 0 sO rfl ⟨h5.one,h6.one,trivial⟩ rfl ?_
     refine arr 5 [0,0] rfl<|lnr h5 rfl<|arr 4 [] rfl ?_
     obtain ⟨b2,hb_2,h⟩:=bs h
     refine WL.cutN 6 [(85,.bool b2),(2,pQ b_1),(7,pQ b_4),(8,iV s2),(10,iV s3),(30,pv1_1),(31,iV (p1.Rules.length:Int)),(32,iV s1),(50,v1),(51,iV (x1.Levels.length:Int)),(52,iV s2),(67,v4),(68,iV (x3.Toks.length:Int)),(69,iV s4)] ?_ (fun K=>?_)
     rotate_left
     ·refine sp 79 hb_2 rfl (fun hb_2=>?_) fun hb_2=>?_
      ·refine arr 6 [] rfl ?_
       cases hb_2
       exact ku K
      ·refine arr 2 [1,0] rfl<|ly rfl rfl<|lnr h6 rfl<|arr 3 [] rfl ?_
       cases hb_2
       exact ku K
     refine en ?_
     refine ch h rfl ?_ ?_ <;> intro h
     ·refine att 4 [] rfl ?_
      exact rt hF h
     refine att 6 [] rfl ?_
     exact lb [] [1,1] (ih4 _ h)
    refine att 6 [] rfl ?_
    exact lb [] [0,0] (ih2 _ h)
   refine ch h rfl ?_ ?_ <;> intro h
   ·refine atr 3 [1,32] rfl<|lnr h3 rfl<|la rfl<|en ?_
    exact wo [] [0,0,0] (K _ h)
   refine WT.skip ?_
   exact wo [] [0,0,0] (K _ h)
  refine att 6 [] rfl ?_
  exact lb [] [1] (ih1 _ h)
 refine att 5 [] rfl ?_
 exact rt hF h
theorem ri (w0:af Ψ Φ []) (p0:(List aL)) (ph0:RSl az 3 Ψ pG0 pv0 p0) {r:(List aL)} (h:fv N p0=some r) :
  Calls prog 178 [pv0].toArray w0.w (aQ Φ w0.w [] (fun Φ' Fs v=>∃ (sr_0_0:Value),v=sr_0_0∧Fs=[ob sr_0_0]∧OSl az 193 3 Φ' [] sr_0_0 r)):=by
 refine eN func178 rfl ntmps178 rfl w0 fun hF=>?_
 unfold fv at h
 refine att 6 [] rfl ?_
 rcases RSl.nilOr ph0 with ⟨hxs1,cc1,hv1⟩ | ⟨a1,cc1,hv1⟩
 ·replace h:some []=some r:=by simpa [hxs1,app] using h
  refine atr 2 [] rfl<|lq (oc ep (congrArg some hv1) rfl) rfl<|en ?_
  refine cd rfl (fun c=>?_) (fun c=>by simp at c)
  refine att 4 [] rfl ?_
  refine WT.ret hF (ay.one rfl) (fun w1 hw=>?_)
  cases h
  replace hw:=hw.addNil
  refine bZ (js:=[0]) hw rfl ⟨.slice none 0 0,rfl,rfl,OSl.nil _ _ _ _⟩
 refine atr 2 [] rfl<|lq (oc ep (congrArg some hv1) rfl) rfl<|en ?_
 refine cd rfl (fun c=>by simp at c) (fun c=>?_)
 refine atr 3 [] rfl<|le' (io az.lasts ep jI rfl rfl) rfl ?_
 rintro v1 Φ_1 D1 ⟨fr1,h1⟩
 refine la rfl<|lu0 ph0 fun h2=>?_
 obtain ⟨x1,hx1,h⟩:=bs h
 refine le' (cP az.lasts az.one az.flat ep DA rfl rfl rfl rfl rfl (js:=[0]) (Rr:=[]) rfl h1 h2 hx1) rfl ?_
 rintro v2 Φ_2 D2 ⟨⟨ap1,fr2⟩,h3⟩
 refine la rfl<|en ?_
 exact rtg [0] hF (ay.one rfl) rfl (by cases h; exact fun w1 hw=>⟨v2,rfl,rfl,h3⟩)
theorem yC (w0:af Ψ Φ []) (p0:aw) (ph0_0:RSl az 3 Ψ pG0_0 pv0_0 p0.Fields) {r:aw} (h:mM N p0=some r) :
  Calls prog 132 [.agg [.string p0.Kind,pv0_0].toArray].toArray w0.w (aQ Φ w0.w [] (fun Φ' Fs v=>∃ (sr_0_0:Value),v = .agg [.string r.Kind,sr_0_0].toArray∧Fs=[ob sr_0_0]∧OSl az 193 3 Φ' [] sr_0_0 r.Fields)):=by
 refine eN func132 rfl ntmps132 rfl w0 fun hF=>?_
 unfold mM at h
 refine sr<|lbx rfl fun b_1=>lnz kj rfl fun b_2=>en<|sq<|wm [0,1] [6] rfl<|amm 4 [0,0,1,32,2,1,3,32] [0,1] rfl rfl ?_
 obtain ⟨x1,hx1,h⟩:=bs h
 refine WM.one 4 (by kernel_rfl) (mc rfl (fun _ v Φx D w1 hq hw=>Kn.of Kf.nil (ai2 0 1 rfl rfl) hw) (aY (js:=[]) (R:=[]) KJ rfl rfl (fun w1 hw ap hl=>ri N (ba hw.fro) p0.Fields (ph0_0.y hw.up)  hx1)) rfl ?_)
 rintro v1 Φ_1 F1 ⟨ap1,fr1,v2,rfl,rfl,h1⟩
 refine mq 5 rfl (by kernel_rfl) (kN [0,1]) (cw (vs:=[(0,.string p0.Kind),(1,v1)]) (C:=#[.string p0.Kind,v1]) H6 kj rfl (ai (C':=[.string p0.Kind,.slice none 0 0]) rfl rfl rfl rfl rfl (ai (C':=[.string p0.Kind,v1]) rfl (cm h1.one) rfl rfl rfl (ak)))) rfl ?_
 refine on1 6 (msN 0 rfl nk kL rfl ⟨rfl,h1.one,trivial⟩ rfl rfl ?_)
 refine WM.nil (by kernel_rfl) ?_
 exact rtg [0] hF (ay.one (bB pq rfl (fun w1 hw=>hw.rgO (i:=0) rfl 0 2 [.string p0.Kind,v1] rfl) rfl)) rfl (by cases h; exact fun w1 hw=>⟨v1,rfl,rfl,h1⟩)
theorem og (w0:af Ψ Φ []) (p0:ah) (p1:Int) (ph0_0:RSl bE 3 Ψ pG0_0 pv0_0 p0.Items) {r:aw × Bool} (h:jW N p0 p1=some r) :
  Calls prog 78 [.agg [pv0_0,iV p0.Next].toArray,iV p1].toArray w0.w (aQ Φ w0.w [] (fun Φ' Fs v=>∃ (sr_0_0:Value),v = .tuple #[.agg [.string r.1.Kind,sr_0_0].toArray,.bool r.2]∧Fs=[ob sr_0_0]∧OSl az 193 3 Φ' [] sr_0_0 r.1.Fields)):=by
 refine eN func78 rfl ntmps78 rfl w0 fun hF=>?_
 unfold jW at h
 refine sr<|lbx rfl fun b_1=>lnz kj rfl fun b_2=>arr 7 [0,32] rfl<|lnr ph0_0 rfl<|art 3 [] rfl ?_
 refine lin (σ:=Int) (fun s=>[(1,iV p1),(4,pQ b_2),(9,pv0_0),(10,iV (p0.Items.length:Int)),(11,iV s)]) (fun s=>St w0 Φ [(b_2,.cells #[.string (⟨#[]⟩:ByteArray),.slice none 0 0] 133 (0,0))] []) (fun m s=>ge N p0 p1 m s=some r) (0) N h (sx [] [0]) (fun n1 ih1 s hm=>?_)
 revert hm; revert s; intro s1 hm
 have h:ge N p0 p1 (n1+1) s1=some r:=hm
 show WT _ _ [(1,iV p1),(4,pQ b_2),(9,pv0_0),(10,iV (p0.Items.length:Int)),(11,iV s1)] (St w0 Φ [(b_2,.cells #[.string (⟨#[]⟩:ByteArray),.slice none 0 0] 133 (0,0))] [])
 unfold ge at h
 refine att 5 [] rfl ?_
 refine ch h rfl ?_ ?_ <;> intro h
 ·refine atr 5 [] rfl ?_
  obtain ⟨x1,hx1,h⟩:=bs h
  obtain ⟨cs1,F1,-,g1,hb1,hs1,r1⟩:=ph0_0.el (a7 hx1).2.2
  obtain ⟨v1,G1,rfl,hq1,h1⟩:=r1
  obtain rfl:=hq1.symm
  refine lia ph0_0 hx1 rfl<|lhx 0 3 g1 rfl<|lnz uM rfl fun b_3=>soN 0 vP rfl ⟨rfl,rfl,h1.one,trivial⟩ rfl ?_
  refine art 8 [0,0] rfl ?_
  refine ch h rfl ?_ ?_ <;> intro h
  ·refine atr 4 [1,2] rfl<|kab h rfl rfl rfl (fun b z q=>yC N b x1.F (h1.y z) q) ?_
   rintro x2 h v2 Φ_1 F2 ⟨ap1,fr1,v3,rfl,rfl,h2⟩
   refine soN 1 kL rfl ⟨rfl,h2.one,trivial⟩ rfl ?_
   refine la rfl<|en ?_
   exact rtg [0] hF (ay.two (bB pq rfl (fun w1 hw=>hw.rgO (i:=1) rfl 0 2 [.string x2.Kind,v3] rfl) rfl) rfl) rfl (by cases h; exact fun w1 hw=>⟨v3,rfl,rfl,h2⟩)
  refine att 6 [] rfl ?_
  exact lb [] [1] (ih1 _ h)
 refine xt rfl<|sr<|lq (cw (vs:=[]) (C:=#[.string (⟨#[]⟩:ByteArray),.slice none 0 0]) H6 kj rfl (ak)) rfl<|soN 0 kL rfl ⟨rfl,rfl,trivial⟩ rfl ?_
 refine la rfl<|en ?_
 refine WT.ret hF (ay.two (bB pq rfl (fun w1 hw=>hw.rgO (i:=0) rfl 0 2 [.string (⟨#[]⟩:ByteArray),.slice none 0 0] rfl) rfl) rfl) (fun w1 hw=>?_)
 cases h
 replace hw:=hw.addNil
 refine bZ (js:=[0]) hw rfl ⟨.slice none 0 0,rfl,rfl,OSl.nil _ _ _ _⟩
theorem Cb (w0:af Ψ Φ []) (p0:bo) (p1:bc) (p2:aA) (p3:ah) (p4:Int) (ph0_0:RSl cf 5 Ψ pG0_0 pv0_0 p0.Rules) (ph1_0:RSl bf 4 Ψ pG1_0 pv1_0 p1.Alphas) (ph1_1:RSl bz 2 Ψ pG1_1 pv1_1 p1.Chains) (ph2_0:RSl dD 1 Ψ pG2_0 pv2_0 p2.Alphas) (ph2_1:RSl fM 1 Ψ pG2_1 pv2_1 p2.Rules) (ph3_0:RSl bE 3 Ψ pG3_0 pv3_0 p3.Items) {r:Bool} (h:rb N p0 p1 p2 p3 p4=some r) :
  CB w0 prog 39 [.agg [.string p0.Name,pv0_0].toArray,.agg [pv1_0,pv1_1].toArray,.agg [pv2_0,pv2_1].toArray,.agg [pv3_0,iV p3.Next].toArray,iV p4] (.bool r):=by
 refine eN func39 rfl ntmps39 rfl w0 fun hF=>?_
 unfold rb at h
 refine sr<|lbx rfl fun b_1=>lbx rfl fun b_2=>lbx rfl fun b_3=>lbx rfl fun b_4=>arr 7 [66,98] rfl<|qd h (DE N · p1 p0 ph1_0 ph1_1 ph0_0 ·) rfl rfl rfl fun x1 h=>arr 2 [] rfl ?_
 obtain ⟨b1,hb_1,h⟩:=bs h
 refine WL.cutN 4 [(21,.bool b1),(4,iV p4),(6,pQ b_2),(7,pQ b_3),(8,pQ b_4)] ?_ (fun K=>?_)
 rotate_left
 ·refine sp 17 hb_1 rfl (fun hb_1=>?_) fun hb_1=>?_
  ·refine arr 4 [] rfl ?_
   cases hb_1
   exact ku K
  ·refine ly rfl rfl<|ld2 y6 0 rfl<|ly rfl rfl<|qd hb_1 (AI N · p3 ph3_0 ·) rfl rfl rfl fun x2 hb_1=>arr 2 [] rfl ?_
   cases hb_1
   exact ku K
 refine la rfl ?_
 obtain ⟨b2,hb_2,h⟩:=bs h
 refine WL.cutN 5 [(27,.bool b2),(4,iV p4),(8,pQ b_4)] ?_ (fun K=>?_)
 rotate_left
 ·refine sp 22 hb_2 rfl (fun hb_2=>?_) fun hb_2=>?_
  ·refine arr 5 [] rfl ?_
   cases hb_2
   exact ku K
  ·refine arr 2 [66,34] rfl<|ly rfl rfl<|qd hb_2 (Cm N · p1 p2 ph1_0 ph1_1 ph2_0 ph2_1 ·) rfl rfl rfl fun x3 hb_2=>arr 2 [] rfl ?_
   cases hb_2
   exact ku K
 refine en ?_
 refine ch h rfl ?_ ?_ <;> intro h
 ·refine att 4 [] rfl ?_
  exact rt hF h
 refine atr 5 [2] rfl<|kab h rfl rfl rfl (fun b z q=>og N b p3 p4 (ph3_0.y z) q) ?_
 rintro x4 h v1 Φ_1 F1 ⟨ap1,fr1,v2,rfl,rfl,h1⟩
 refine arr 3 [] rfl<|lnz kj rfl fun b_5=>soN 0 kL rfl ⟨rfl,h1.one,trivial⟩ rfl ?_
 refine art 7 [] rfl ?_
 exact rt hF h
theorem C4 (w0:af Ψ Φ []) (p0:a9) (p1:aw) (ph0_0:RSl az 3 Ψ pG0_0 pv0_0 p0.Consts) (ph0_1:RSl (RI .i64) 1 Ψ pG0_1 pv0_1 p0.At) (ph1_0:RSl az 3 Ψ pG1_0 pv1_0 p1.Fields) {r:Bool} (h:rz N p0 p1=some r) :
  CB w0 prog 79 [.agg [.string p0.Kind,iV p0.N,pv0_0,pv0_1].toArray,.agg [.string p1.Kind,pv1_0].toArray] (.bool r):=by
 refine eN func79 rfl ntmps79 rfl w0 fun hF=>?_
 unfold rz at h
 refine sr<|lbx rfl fun b_1=>lbx rfl fun b_2=>arr 11 [0,0,0,32] rfl ?_
 obtain ⟨b1,hb_1,h⟩:=bs h
 refine WL.cutN 7 [(19,.bool b1),(2,pQ b_1),(3,pQ b_2)] ?_ (fun K=>?_)
 rotate_left
 ·refine sp 12 hb_1 rfl (fun hb_1=>?_) fun hb_1=>?_
  ·refine arr 7 [] rfl ?_
   cases hb_1
   exact ku K
  ·refine arr 2 [1,0] rfl<|ly rfl rfl<|lnr ph1_0 rfl<|arr 4 [1,32] rfl ?_
   cases hb_1
   exact ku K
 refine en ?_
 refine ch h rfl ?_ ?_ <;> intro h
 ·refine att 4 [] rfl ?_
  exact rt hF h
 refine atr 6 [3,32] rfl<|lnr ph0_1 rfl<|art 3 [] rfl ?_
 refine lin (σ:=Int) (fun s=>[(2,pQ b_1),(3,pQ b_2),(21,pv0_1),(22,iV (p0.At.length:Int)),(23,iV s)]) (fun s=>St w0 Φ [(b_2,.cells #[.string p1.Kind,pv1_0] 133 (0,0)),(b_1,.cells #[.string p0.Kind,iV p0.N,pv0_0,pv0_1] 142 (0,0))] []) (fun m s=>hU N p0 p1 m s=some r) (0) N h (sx [] [0,0]) (fun n1 ih1 s hm=>?_)
 revert hm; revert s; intro s1 hm
 have h:hU N p0 p1 (n1+1) s1=some r:=hm
 show WT _ _ [(2,pQ b_1),(3,pQ b_2),(21,pv0_1),(22,iV (p0.At.length:Int)),(23,iV s1)] (St w0 Φ [(b_2,.cells #[.string p1.Kind,pv1_0] 133 (0,0)),(b_1,.cells #[.string p0.Kind,iV p0.N,pv0_0,pv0_1] 142 (0,0))] [])
 unfold hU at h
 refine att 5 [] rfl ?_
 refine ch h rfl ?_ ?_ <;> intro h
 ·refine atr 6 [] rfl ?_
  obtain ⟨x1,hx1,h⟩:=bs h
  obtain ⟨cs1,F1,-,g1,hb1,hs1,r1⟩:=ph0_1.el (a7 hx1).2.2
  obtain ⟨rfl,-⟩:=r1
  refine lia ph0_1 hx1 rfl<|lhx 0 0 g1 rfl<|art 4 [] rfl<|WT.draw co (by kernel_rfl) (fun _ h=>h.drew)<|aqq 3 [] rfl ?_
  obtain ⟨b2,hb_2,h⟩:=bs h
  refine WQ.cutN 6 [(36,.bool b2),(2,pQ b_1),(3,pQ b_2),(5,iV s1),(6,iV x1),(21,pv0_1),(22,iV (p0.At.length:Int)),(23,iV s1)] ?_ (fun K=>?_)
  rotate_left
  ·refine WQ.split (d:=30) rfl (fun c4=>?_) (fun c4=>?_)
   ·replace hb_2:=gV hb_2 c4
    refine aqq 6 [] rfl ?_
    cases hb_2
    exact kq K
   ·replace hb_2:=gZ hb_2 c4
    refine aqq 3 [1,0] rfl<|WQ.yes rfl rfl<|qq (xH ep rfl rfl ph1_0) rfl<|aqq 2 [] rfl ?_
    cases hb_2
    exact kq K
  refine qq (iN rfl) rfl ?_
  obtain ⟨b3,hb_3,h⟩:=bs h
  refine WQ.cutN 6 [(43,.bool b3),(2,pQ b_1),(3,pQ b_2),(5,iV s1),(6,iV x1),(21,pv0_1),(22,iV (p0.At.length:Int)),(23,iV s1)] ?_ (fun K=>?_)
  rotate_left
  ·refine WQ.split (d:=37) rfl (fun c5=>?_) (fun c5=>?_)
   ·replace hb_3:=gV hb_3 c5
    refine aqq 6 [] rfl ?_
    cases hb_3
    exact kq K
   ·replace hb_3:=gZ hb_3 c5
    refine aqq 3 [2,32] rfl<|WQ.yes rfl rfl<|qq (xH ep rfl rfl ph0_0) rfl<|aqq 2 [] rfl ?_
    cases hb_3
    exact kq K
  refine qq (iN rfl) rfl ?_
  obtain ⟨b4,hb_4,h⟩:=bs h
  refine WQ.cutN 12 [(56,.bool b4),(2,pQ b_1),(3,pQ b_2),(21,pv0_1),(22,iV (p0.At.length:Int)),(23,iV s1)] ?_ (fun K=>?_)
  rotate_left
  ·refine WQ.split (d:=44) rfl (fun c6=>?_) (fun c6=>?_)
   ·replace hb_4:=gV hb_4 c6
    refine aqq 12 [] rfl ?_
    cases hb_4
    exact kq K
   ·replace hb_4:=gZ hb_4 c6
    refine aqq 3 [1,0] rfl<|WQ.yes rfl rfl ?_
    obtain ⟨x2,hx2,hb_4⟩:=bs hb_4
    obtain ⟨cs2,F2,-,g2,hb2,hs2,r2⟩:=ph1_0.el (a7 hx2).2.2
    obtain ⟨rfl,-⟩:=r2
    refine qq (a8 ep rfl rfl ph1_0 hx2) rfl<|WQ.yes rfl rfl<|qq (ao iY rfl (fun w1 hw=>(g2.of_eq 0 3 rfl rfl:rg _ _ _ [iV x2.K,iV x2.N,.string x2.S]).rangeAt hw.in0) rfl) rfl<|aqq 3 [2,32] rfl<|WQ.yes rfl rfl ?_
    obtain ⟨x3,hx3,hb_4⟩:=bs hb_4
    obtain ⟨cs3,F3,-,g3,hb3,hs3,r3⟩:=ph0_0.el (a7 hx3).2.2
    obtain ⟨rfl,-⟩:=r3
    refine qq (a8 ep rfl rfl ph0_0 hx3) rfl<|WQ.yes rfl rfl<|qq (ao iY rfl (fun w1 hw=>(g3.of_eq 0 3 rfl rfl:rg _ _ _ [iV x3.K,iV x3.N,.string x3.S]).rangeAt hw.in0) rfl) rfl<|WQ.yes rfl rfl<|qq (xX mK rfl rfl rfl (r:=bp x2 x3) rfl) rfl<|WQ.q (sv rfl rfl) rfl rfl rfl ?_
    cases hb_4
    exact kq K
  refine WQ.nil ?_
  refine ch h rfl ?_ ?_ <;> intro h
  ·refine att 4 [] rfl ?_
   exact rt hF h
  refine att 6 [] rfl ?_
  exact lb [] [0,0] (ih1 _ h)
 refine att 5 [] rfl ?_
 exact rt hF h
theorem xP (w0:af Ψ Φ []) (p0:ag) (p1:Bool) (ph0_0:RSl bJ 3 Ψ pG0_0 pv0_0 p0.Pats) (ph0_1:RSl bd 11 Ψ pG0_1 pv0_1 p0.Conds) (ph0_2:RSl dF 5 Ψ pG0_2 pv0_2 p0.Acts) {r:(List av)} (h:tr N p0 p1=some r) :
  Calls prog 133 [.agg [.string p0.Name,iV p0.Sal,pv0_0,pv0_1,pv0_2].toArray,.bool p1].toArray w0.w (aQ Φ w0.w [] (fun Φ' Fs v=>∃ (sr_0_0:Value) (Dr_0_0:List Nat),v=sr_0_0∧Fs=[ob sr_0_0]∧OSl bJ 212 3 Φ' Dr_0_0 sr_0_0 r∧(∀ k∈Dr_0_0,k∈pG0_0))):=by
 refine eN func133 rfl ntmps133 rfl w0 fun hF=>?_
 unfold tr at h
 refine sr<|lbx rfl fun b_1=>arr 11 [2,0] rfl<|lnr ph0_0 rfl<|art 3 [] rfl<|wtS ?_
 have k1:=OSl.nil bJ 212 3 Φ
 refine lin (σ:=Hp × (List av) × Value × List Nat × Int) (fun s=>[(1,.bool p1),(5,s.2.2.1),(9,pv0_0),(10,iV (p0.Pats.length:Int)),(11,iV s.2.2.2.2)]) (fun s=>St w0 s.1 [] [ob s.2.2.1]) (fun m s=>iH N p0 p1 m s.2.1 s.2.2.2.2=some r∧(OSl bJ 212 3 s.1 s.2.2.2.1 s.2.2.1 s.2.1)∧(∀ k∈s.2.2.2.1,k∈pG0_0)) (Φ,([]:List av),(.slice none 0 0),[],0) N ⟨h,k1,(by simp)⟩ (sx [0] []) (fun n1 ih1 s hm=>?_)
 obtain ⟨Φ_1,s1,u1,D1,s2⟩:=s
 obtain ⟨h,k2,i1⟩:=hm
 dsimp only at h k2 i1 ⊢
 unfold iH at h
 refine att 5 [] rfl ?_
 refine ch h rfl ?_ ?_ <;> intro h
 ·refine atr 5 [] rfl ?_
  obtain ⟨x1,hx1,h⟩:=bs h
  obtain ⟨cs1,F1,-,g1,hb1,hs1,r1⟩:=ph0_0.el (a7 hx1).2.2
  obtain ⟨v1,G1,rfl,hq1,h1⟩:=r1
  obtain rfl:=hq1.symm
  refine lia ph0_0 hx1 rfl<|lhx 0 3 g1 rfl<|lnz pE rfl fun b_2=>soN 0 sN rfl ⟨rfl,h1.one,rfl,trivial⟩ rfl ?_
  refine arr 6 [2,0] rfl<|lq (O4 MM rfl rfl) rfl<|en ?_
  refine ch h rfl ?_ ?_ <;> intro h
  ·refine atr 3 [3] rfl<|lu0 h1 fun h2=>?_
   have rc1:RC bJ 3 Φ_1 ([G1]:List (List Nat)) [.string x1.Kind,v1,.bool x1.Not] ([x1]:List av):=RC.cons (c:=[.string x1.Kind,v1,.bool x1.Not]) (cells:=[]) ⟨v1,G1,rfl,rfl,h2⟩ rfl (RC.nil _ _ _)
   refine le' (cu (vs:=[(0,.agg [.string x1.Kind,v1,.bool x1.Not].toArray)]) (C:=#[.string x1.Kind,v1,.bool x1.Not]) bJ.lasts tY pE rfl rfl rfl rfl (aI Ix (ai (C':=[.string x1.Kind,v1,.bool x1.Not]) rfl rfl rfl rfl rfl (ak))) rfl rc1 rfl (RC.kn bJ.knows rc1)) rfl ?_
   rintro v2 Φ_2 D2 ⟨fr1,h3⟩
   replace h3:OSl bJ 212 3 Φ_2 (G1) v2 ([x1]:List av):=by simpa [List.append_assoc] using h3
   replace k2:=k2.f0 fr1
   obtain ⟨x2,hx2,h⟩:=bs h
   refine le' (gE bJ.lasts bJ.one tY Nh rfl rfl rfl rfl rfl (js:=[1]) (Rr:=[ob v2]) rfl k2 h3 (fun ap=>(Dj.sub (ap.o ph0_0.old) i1)) (fun ap=>(Dj.sub (Dj.sub (ap.o ph0_0.old) (fun k h=>hs1 k h)) (fun k hk=>(by simpa [List.append_assoc] using hk:k∈G1)))) hx2) rfl ?_
   rintro v3 Φ_3 D3 ⟨⟨ap1,fr2⟩,h4⟩
   refine art 7 [] rfl ?_
   exact lb [0] [] (ih1 (_,_,_,_,_) ⟨h,h4,(fun k hk=>((List.mem_append.1 hk).elim (fun h=>(i1 k h)) (fun h=>((fun k h=>hs1 k h) k ((fun k hk=>(by simpa [List.append_assoc] using hk:k∈G1)) k h)))))⟩)
  refine att 6 [] rfl ?_
  exact lb [0] [] (ih1 (_,_,_,_,_) ⟨h,k2,(fun k hk=>(i1 k hk))⟩)
 refine att 6 [] rfl ?_
 exact rtg [0] hF (ay.one rfl) rfl (by cases h; exact fun w1 hw=>⟨u1,D1,rfl,rfl,k2,(fun k hk=>(i1 k hk))⟩)
theorem yL (w0:af Ψ Φ []) (p0:bo) (p1:bc) (p2:aA) (p3:ah) (p4:Int) (p5:Int) (ph0_0:RSl cf 5 Ψ pG0_0 pv0_0 p0.Rules) (ph1_1:RSl bz 2 Ψ pG1_1 pv1_1 p1.Chains) (ph2_0:RSl dD 1 Ψ pG2_0 pv2_0 p2.Alphas) (ph3_0:RSl bE 3 Ψ pG3_0 pv3_0 p3.Items) {r:cA} (h:pU N p0 p1 p2 p3 p4 p5=some r) :
  Calls prog 80 [.agg [.string p0.Name,pv0_0].toArray,.agg [pv1_0,pv1_1].toArray,.agg [pv2_0,pv2_1].toArray,.agg [pv3_0,iV p3.Next].toArray,iV p4,iV p5].toArray w0.w (aQ Φ w0.w [] (fun Φ' Fs v=>∃ (sr_0_0:Value) (Dr_0_0:List Nat) (sr_0_1:Value) (Dr_0_1:List Nat) (sr_0_2:Value) (Gr_0_2:List Nat) (sr_0_3:Value) (Gr_0_3:List Nat) (sr_0_4:Value) (Gr_0_4:List Nat) (sr_0_5:Value) (Gr_0_5:List Nat),v = .agg [sr_0_0,sr_0_1,sr_0_2,sr_0_3,sr_0_4,sr_0_5,iV r.s.Next,iV r.id].toArray∧Fs=[ob sr_0_0,ob sr_0_1]∧OSl bJ 212 3 Φ' Dr_0_0 sr_0_0 r.pos∧(∀ k∈Dr_0_0,k∈pG0_0)∧OSl bJ 212 3 Φ' Dr_0_1 sr_0_1 r.neg∧(∀ k∈Dr_0_1,k∈pG0_0)∧RSl (RI .i64) 1 Φ' Gr_0_2 sr_0_2 r.chain.Pos∧(∀ k∈Gr_0_2,k∈pG1_1)∧RSl (RI .i64) 1 Φ' Gr_0_3 sr_0_3 r.chain.Neg∧(∀ k∈Gr_0_3,k∈pG1_1)∧RSl dD 1 Φ' Gr_0_4 sr_0_4 r.alphas∧(∀ k∈Gr_0_4,k∈pG2_0)∧RSl bE 3 Φ' Gr_0_5 sr_0_5 r.s.Items∧(∀ k∈Gr_0_5,k∈pG3_0))):=by
 refine eN func80 rfl ntmps80 rfl w0 fun hF=>?_
 unfold pU at h
 refine sr<|lbx rfl fun b_1=>lbx rfl fun b_2=>lbx rfl fun b_3=>lbx rfl fun b_4=>lnz H4 rfl fun b_5=>arr 6 [1,128] rfl ?_
 obtain ⟨x1,hx1,h⟩:=bs h
 obtain ⟨cs1,F1,-,g1,hb1,hs1,r1⟩:=ph0_0.el (a7 hx1).2.2
 obtain ⟨v1,G1,v2,G2,v3,G3,rfl,rfl,h1,h2,h3⟩:=r1
 refine lia ph0_0 hx1 rfl<|lhx 0 5 g1 rfl<|lnz xC rfl fun b_6=>soN 0 Ad rfl ⟨rfl,rfl,h1.one,h2.one,h3.one,trivial⟩ rfl ?_
 refine en<|sq<|wm [0,1,2,3,4,5] [14] rfl<|amm 5 [0,5,2,5,4,1,5,128,6] [0,1,2,3,4,5] rfl rfl ?_
 obtain ⟨x2,hx2,h⟩:=bs h
 obtain ⟨cs2,F2,-,g2,hb2,hs2,r2⟩:=ph1_1.el (a7 hx2).2.2
 obtain ⟨v4,G4,v5,G5,rfl,rfl,h4,h5⟩:=r2
 refine mq 7 rfl (by kernel_rfl) (kN [0,1,2,3,4,5]) (a8 th rfl rfl ph1_1 hx2) rfl<|mq 8 rfl (by kernel_rfl) (kN [0,1,2,3,4,5]) (ao AF rfl (fun w1 hw=>(g2.of_eq 0 2 rfl rfl:rg _ _ _ [v4,v5]).rangeAt hw.1) rfl) rfl<|amm 4 [9,0,10,96,11,66,12] [0,1,2,3,4,5] rfl rfl ?_
 obtain ⟨x3,hx3,h⟩:=bs h
 refine WM.one 1 (by kernel_rfl) (mc rfl (fun _ v Φx D w1 hq hw=>Kn.of Kf.nil (am [0,1,2,3,4,5] rfl) hw) (aY (js:=[]) (R:=[]) HQ rfl rfl (fun w1 hw ap hl=>xP N (ba hw.fro) x1 false (h1.y hw.up) (h2.y hw.up) (h3.y hw.up)  hx3)) rfl ?_)
 rintro v6 Φ_1 F3 ⟨ap1,fr1,v7,D1,rfl,rfl,h6,i1⟩
 obtain ⟨x4,hx4,h⟩:=bs h
 refine WM.one 3 (by kernel_rfl) (mc rfl (fun _ v Φx D w1 hq hw=>Kn.of Kf.nil (am [0,1,2,3,4,5] rfl) hw) (aY (js:=[]) (R:=[ob v6]) HQ rfl rfl (fun w1 hw ap hl=>xP N (ba hw.fro) x1 true (h1.y hw.up) (h2.y hw.up) (h3.y hw.up)  hx4)) rfl ?_)
 rintro v8 Φ_2 F4 ⟨ap2,fr2,v9,D2,rfl,rfl,h7,i2⟩
 replace h6:=h6.fr fr2 (ap2.q 0 rfl) (Dj.sub (ap2.o h1.old) i1)
 refine mq 13 rfl (by kernel_rfl) (kN [0,1,2,3,4,5]) (cw (vs:=[(0,v6),(1,v8),(2,.agg [v4,v5].toArray),(3,pv2_0),(4,.agg [pv3_0,iV p3.Next].toArray),(5,iV p4)]) (C:=#[v6,v8,v4,v5,pv2_0,pv3_0,iV p3.Next,iV p4]) Nr H4 rfl (ai (C':=[v6,.slice none 0 0,.slice none 0 0,.slice none 0 0,.slice none 0 0,.slice none 0 0,iV 0,iV 0]) rfl (cm h6.one) rfl rfl rfl (ai (C':=[v6,v8,.slice none 0 0,.slice none 0 0,.slice none 0 0,.slice none 0 0,iV 0,iV 0]) rfl (cm h7.one) rfl rfl rfl (ai (C':=[v6,v8,v4,v5,.slice none 0 0,.slice none 0 0,iV 0,iV 0]) rfl rfl rfl rfl rfl (ai (C':=[v6,v8,v4,v5,pv2_0,.slice none 0 0,iV 0,iV 0]) rfl (cm ph2_0.one) rfl rfl rfl (ai (C':=[v6,v8,v4,v5,pv2_0,pv3_0,iV p3.Next,iV 0]) rfl rfl rfl rfl rfl (ai (C':=[v6,v8,v4,v5,pv2_0,pv3_0,iV p3.Next,iV p4]) rfl rfl rfl rfl rfl (ak)))))))) rfl ?_
 refine on1 14 (msN 1 rfl nk IX rfl ⟨h6.one,h7.one,h4.one,h5.one,ph2_0.one,ph3_0.one,rfl,rfl,trivial⟩ rfl rfl ?_)
 refine WM.nil (by kernel_rfl) ?_
 exact rtg [1,0] hF (ay.one (bB IF rfl (fun w1 hw=>hw.rgO (i:=1) rfl 0 8 [v6,v8,v4,v5,pv2_0,pv3_0,iV p3.Next,iV p4] rfl) rfl)) rfl (by cases h; exact fun w1 hw=>⟨v6,D1,v8,D2,v4,G4,v5,G5,pv2_0,pG2_0,pv3_0,pG3_0,rfl,rfl,h6,(fun k hk=>((fun k h=>hs1 k (List.mem_append.2 (.inl h))) k (i1 k hk))),h7,(fun k hk=>((fun k h=>hs1 k (List.mem_append.2 (.inl h))) k (i2 k hk))),(h4.y hw.up),(fun k hk=>((fun k h=>hs2 k (List.mem_append.2 (.inl h))) k hk)),(h5.y hw.up),(fun k hk=>((fun k h=>hs2 k (List.mem_append.2 (.inr h))) k hk)),(ph2_0.y hw.up),(fun k hk=>hk),(ph3_0.y hw.up),(fun k hk=>hk)⟩)
end Go.Proofs.YtnnkgijdbebnaaaGreat
