/- Printed by a program of ours: each Go function computes its Lean function. -/
import Derived.Test.YtnnkgijdbebnaaaGreatProg
import Derived.Test.YtnnkgijdbebnaaaGreatWExactAddItemWalk6
namespace Go.Proofs.YtnnkgijdbebnaaaGreat
open Eng Tryz
open Go.RowKit (Below)
set_option linter.unusedVariables false
set_option linter.unusedSimpArgs false

set_option maxRecDepth 100000
set_option maxHeartbeats 1000000
variable {Ψ Φ:Hp} {pv0 pv0_0 pv1_0 pv2 pv0_1 pv0_2 pv0_3 pv0_4 pv0_5 pv1 pv1_1 pv2_0 pv2_1 pv3_0:Value} {pG0 pG0_0 pG1_0 pG2 pG0_1 pG0_2 pG0_3 pG0_4 pG0_5 pD1 pG1 pD0 pG1_1 pD2_0 pD2_1 pG3_0 pG2_0 pG2_1:List Nat} (N:Nat)
theorem dp (w0:af Ψ Φ []) (p0:(List aH)) (ph0:RSl bm 4 Ψ pG0 pv0 p0) {r:(List aH)} (h:bw N p0=some r) :
  Calls prog 179 [pv0].toArray w0.w (aQ Φ w0.w [] (fun Φ' Fs v=>∃ (sr_0_0:Value),v=sr_0_0∧Fs=[ob sr_0_0]∧OSl bm 271 4 Φ' [] sr_0_0 r)):=by
 refine eN func179 rfl ntmps179 rfl w0 fun hF=>?_
 unfold bw at h
 refine att 6 [] rfl ?_
 rcases RSl.nilOr ph0 with ⟨hxs1,cc1,hv1⟩ | ⟨a1,cc1,hv1⟩
 ·replace h:some []=some r:=by simpa [hxs1,app] using h
  refine atr 2 [] rfl<|lq (oc o4 (congrArg some hv1) rfl) rfl<|en ?_
  refine cd rfl (fun c=>?_) (fun c=>by simp at c)
  refine att 4 [] rfl ?_
  refine WT.ret hF (ay.one rfl) (fun w1 hw=>?_)
  cases h
  replace hw:=hw.addNil
  refine bZ (js:=[0]) hw rfl ⟨.slice none 0 0,rfl,rfl,OSl.nil _ _ _ _⟩
 refine atr 2 [] rfl<|lq (oc o4 (congrArg some hv1) rfl) rfl<|en ?_
 refine cd rfl (fun c=>by simp at c) (fun c=>?_)
 refine atr 3 [] rfl<|le' (io bm.lasts o4 tU rfl rfl) rfl ?_
 rintro v1 Φ_1 D1 ⟨fr1,h1⟩
 refine la rfl<|lu0 ph0 fun h2=>?_
 obtain ⟨x1,hx1,h⟩:=bs h
 refine le' (cP bm.lasts bm.one bm.flat o4 zu rfl rfl rfl rfl rfl (js:=[0]) (Rr:=[]) rfl h1 h2 hx1) rfl ?_
 rintro v2 Φ_2 D2 ⟨⟨ap1,fr2⟩,h3⟩
 refine la rfl<|en ?_
 exact rtg [0] hF (ay.one rfl) rfl (by cases h; exact fun w1 hw=>⟨v2,rfl,rfl,h3⟩)
theorem CE (w0:af Ψ Φ []) (p0:(List aH)) (p1:ByteArray) (ph0:RSl bm 4 Ψ pG0 pv0 p0) {r:aL × Bool} (h:rY N p0 p1=some r) :
  CB w0 prog 180 [pv0,.string p1] (.tuple #[.agg [iV r.1.K,iV r.1.N,.string r.1.S].toArray,.bool r.2]):=by
 refine eN func180 rfl ntmps180 rfl w0 fun hF=>?_
 unfold rY at h
 refine sr<|lnz jI rfl fun b_1=>arr 6 [] rfl<|lnr ph0 rfl<|art 3 [] rfl ?_
 refine lin (σ:=Int) (fun s=>[(1,.string p1),(4,pQ b_1),(8,pv0),(9,iV (p0.length:Int)),(10,iV s)]) (fun s=>St w0 Φ [(b_1,.cells #[iV 0,iV 0,.string (⟨#[]⟩:ByteArray)] 193 (0,0))] []) (fun m s=>i9 N p0 p1 m s=some r) (0) N h (sx [] [0]) (fun n1 ih1 s hm=>?_)
 revert hm; revert s; intro s1 hm
 have h:i9 N p0 p1 (n1+1) s1=some r:=hm
 show WT _ _ [(1,.string p1),(4,pQ b_1),(8,pv0),(9,iV (p0.length:Int)),(10,iV s1)] (St w0 Φ [(b_1,.cells #[iV 0,iV 0,.string (⟨#[]⟩:ByteArray)] 193 (0,0))] [])
 unfold i9 at h
 refine att 5 [] rfl ?_
 refine ch h rfl ?_ ?_ <;> intro h
 ·refine atr 5 [] rfl ?_
  obtain ⟨x1,hx1,h⟩:=bs h
  obtain ⟨cs1,F1,-,g1,hb1,hs1,r1⟩:=ph0.el (a7 hx1).2.2
  obtain ⟨rfl,-⟩:=r1
  refine lia ph0 hx1 rfl<|lhx 0 4 g1 rfl<|lnz tU rfl fun b_2=>soN 0 Mo rfl ⟨rfl,rfl,rfl,rfl,trivial⟩ rfl ?_
  refine art 8 [0,0] rfl ?_
  refine ch h rfl ?_ ?_ <;> intro h
  ·refine atr 4 [1,3] rfl<|soN 1 rR rfl ⟨rfl,rfl,rfl,trivial⟩ rfl ?_
   refine la rfl<|en ?_
   refine WT.ret hF (ay.two (bB iY rfl (fun w1 hw=>hw.rgO (i:=1) rfl 0 3 [iV x1.V.K,iV x1.V.N,.string x1.V.S] rfl) rfl) rfl) (fun w1 hw=>?_)
   cases h
   exact iZ hw
  refine att 6 [] rfl ?_
  exact lb [] [1] (ih1 _ h)
 refine xt rfl<|sr<|lq (cw (vs:=[]) (C:=#[iV 0,iV 0,.string (⟨#[]⟩:ByteArray)]) za jI rfl (ak)) rfl<|soN 0 rR rfl ⟨rfl,rfl,rfl,trivial⟩ rfl ?_
 refine la rfl<|en ?_
 refine WT.ret hF (ay.two (bB iY rfl (fun w1 hw=>hw.rgO (i:=0) rfl 0 3 [iV 0,iV 0,.string (⟨#[]⟩:ByteArray)] rfl) rfl) rfl) (fun w1 hw=>?_)
 cases h
 exact iZ hw
theorem pI (w0:af Ψ Φ []) (p0:av) (p1:aw) (p2:(List aH)) (ph0_0:RSl bQ 5 Ψ pG0_0 pv0_0 p0.Args) (ph1_0:RSl az 3 Ψ pG1_0 pv1_0 p1.Fields) (ph2:RSl bm 4 Ψ pG2 pv2 p2) {r:(List aH) × Bool} (h:iM N p0 p1 p2=some r) :
  Calls prog 135 [.agg [.string p0.Kind,pv0_0,.bool p0.Not].toArray,.agg [.string p1.Kind,pv1_0].toArray,pv2].toArray w0.w (aQ Φ w0.w [] (fun Φ' Fs v=>∃ (sr_0_0:Value),v = .tuple #[sr_0_0,.bool r.2]∧Fs=[ob sr_0_0]∧OSl bm 271 4 Φ' [] sr_0_0 r.1)):=by
 refine eN func135 rfl ntmps135 rfl w0 fun hF=>?_
 unfold iM at h
 refine sr<|lbx rfl fun b_1=>lbx rfl fun b_2=>arr 12 [0,0,0,32] rfl ?_
 obtain ⟨b1,hb_1,h⟩:=bs h
 refine WL.cutN 8 [(27,.bool b1),(2,pv2),(3,pQ b_1),(4,pQ b_2)] ?_ (fun K=>?_)
 rotate_left
 ·refine sp 19 hb_1 rfl (fun hb_1=>?_) fun hb_1=>?_
  ·refine arr 8 [] rfl ?_
   cases hb_1
   exact ku K
  ·refine arr 2 [1,0] rfl<|ly rfl rfl<|lnr ph1_0 rfl<|arr 2 [1,32] rfl<|ly rfl rfl<|lnr ph0_0 rfl<|arr 2 [] rfl ?_
   cases hb_1
   exact ku K
 refine en ?_
 refine ch h rfl ?_ ?_ <;> intro h
 ·refine sr<|la rfl<|kab h rfl rfl rfl (fun b z q=>dp N b p2 (ph2.y z) q) ?_
  rintro x1 h v1 Φ_1 F1 ⟨ap1,fr1,v2,rfl,rfl,h1⟩
  refine art 3 [] rfl ?_
  exact rtg [0] hF (ay.two rfl rfl) rfl (by cases h; exact fun w1 hw=>⟨v1,rfl,rfl,h1⟩)
 refine atr 4 [] rfl<|kab h rfl rfl rfl (fun b z q=>dp N b p2 (ph2.y z) q) ?_
 rintro x2 h v3 Φ_2 F2 ⟨ap2,fr2,v4,rfl,rfl,h2⟩
 refine arr 7 [1,32] rfl<|lnr ph0_0 rfl<|art 3 [] rfl ?_
 refine lin (σ:=Hp × (List aH) × Value × Int) (fun s=>[(2,pv2),(4,pQ b_2),(8,s.2.2.1),(33,pv0_0),(34,iV (p0.Args.length:Int)),(35,iV s.2.2.2)]) (fun s=>St w0 s.1 [(b_2,.cells #[.string p1.Kind,pv1_0] 133 (0,0))] [ob s.2.2.1]) (fun m s=>dl N p0 p1 p2 m s.2.1 s.2.2.2=some r∧(OSl bm 271 4 s.1 [] s.2.2.1 s.2.1)) (Φ_2,x2,v3,0) N ⟨h,h2⟩ (sx [0] [0]) (fun n1 ih1 s hm=>?_)
 obtain ⟨Φ_3,s1,u1,s2⟩:=s
 obtain ⟨h,k1⟩:=hm
 dsimp only at h k1 ⊢
 unfold dl at h
 refine att 5 [] rfl ?_
 refine ch h rfl ?_ ?_ <;> intro h
 ·refine atr 6 [] rfl ?_
  obtain ⟨x3,hx3,h⟩:=bs h
  obtain ⟨cs1,F3,-,g1,hb1,hs1,r1⟩:=ph0_0.el (a7 hx3).2.2
  obtain ⟨rfl,-⟩:=r1
  refine lia ph0_0 hx3 rfl<|lhx 0 5 g1 rfl<|lnz pG rfl fun b_3=>la rfl<|soN 0 qO rfl ⟨rfl,rfl,rfl,rfl,rfl,trivial⟩ rfl ?_
  refine arr 6 [1,32] rfl ?_
  obtain ⟨x4,hx4,h⟩:=bs h
  obtain ⟨cs2,F4,-,g2,hb2,hs2,r2⟩:=ph1_0.el (a7 hx4).2.2
  obtain ⟨rfl,-⟩:=r2
  refine lia ph1_0 hx4 rfl<|lhx 0 3 g2 rfl<|lnz jI rfl fun b_4=>soN 0 rR rfl ⟨rfl,rfl,rfl,trivial⟩ rfl ?_
  refine art 12 [0,32] rfl ?_
  refine ch h rfl ?_ ?_ <;> intro h
  ·refine atr 5 [2,35,3] rfl<|lq (xX mK rfl rfl rfl (r:=bp x3.V x4) rfl) rfl<|en ?_
   refine ch h rfl ?_ ?_ <;> intro h
   ·refine sr<|la rfl<|kab h rfl rfl rfl (fun b z q=>dp N b p2 (ph2.y z) q) ?_
    rintro x5 h v5 Φ_4 F5 ⟨ap3,fr3,v6,rfl,rfl,h3⟩
    refine art 3 [] rfl ?_
    exact rtg [0] hF (ay.two rfl rfl) rfl (by cases h; exact fun w1 hw=>⟨v5,rfl,rfl,h3⟩)
   refine att 7 [] rfl ?_
   exact lb [0] [2] (ih1 (_,_,_,_) ⟨h,k1⟩)
  refine att 5 [] rfl ?_
  refine ch h rfl ?_ ?_ <;> intro h
  ·refine atr 5 [1,32] rfl<|qc h (CE N · s1 x3.S k1.rsl ·) rfl rfl rfl fun x6 h=>arr 3 [] rfl<|lnz jI rfl fun b_5=>soN 0 rR rfl ⟨rfl,rfl,rfl,trivial⟩ rfl ?_
   refine arr 7 [] rfl ?_
   obtain ⟨b2,hb_2,h⟩:=bs h
   refine WL.cutN 4 [(69,.bool b2),(2,pv2),(4,pQ b_2),(8,u1),(10,pQ b_3),(11,pQ b_4),(13,.bool x6.2),(33,pv0_0),(34,iV (p0.Args.length:Int)),(35,iV s2)] ?_ (fun K=>?_)
   rotate_left
   ·refine sp 65 hb_2 rfl (fun hb_2=>?_) fun hb_2=>?_
    ·refine arr 2 [3,35] rfl<|ly rfl rfl<|lq (xX mK rfl rfl rfl (r:=bp x6.1 x4) rfl) rfl<|la rfl ?_
     cases hb_2
     exact ku K
    ·refine arr 4 [] rfl ?_
     cases hb_2
     exact ku K
   refine en ?_
   refine ch h rfl ?_ ?_ <;> intro h
   ·refine sr<|la rfl<|kab h rfl rfl rfl (fun b z q=>dp N b p2 (ph2.y z) q) ?_
    rintro x7 h v7 Φ_5 F6 ⟨ap4,fr4,v8,rfl,rfl,h4⟩
    refine art 3 [] rfl ?_
    exact rtg [0] hF (ay.two rfl rfl) rfl (by cases h; exact fun w1 hw=>⟨v7,rfl,rfl,h4⟩)
   refine att 6 [] rfl ?_
   refine ch h rfl ?_ ?_ <;> intro h
   ·refine atr 5 [1,64,35] rfl<|lq (cw (vs:=[(0,.string x3.S),(1,.agg [iV x4.K,iV x4.N,.string x4.S].toArray)]) (C:=#[.string x3.S,iV x4.K,iV x4.N,.string x4.S]) JD tU rfl (ai (C':=[.string x3.S,iV 0,iV 0,.string ⟨#[]⟩]) rfl rfl rfl rfl rfl (ai (C':=[.string x3.S,iV x4.K,iV x4.N,.string x4.S]) rfl rfl rfl rfl rfl (ak)))) rfl ?_
    have rc1:RC bm 4 Φ_3 ([[]]:List (List Nat)) [.string x3.S,iV x4.K,iV x4.N,.string x4.S] ([(⟨x3.S,x4⟩:aH)]:List aH):=RC.cons (c:=[.string x3.S,iV x4.K,iV x4.N,.string x4.S]) (cells:=[]) ⟨rfl,rfl⟩ rfl (RC.nil _ _ _)
    refine le' (cu (vs:=[(0,.agg [.string x3.S,iV x4.K,iV x4.N,.string x4.S].toArray)]) (C:=#[.string x3.S,iV x4.K,iV x4.N,.string x4.S]) bm.lasts o4 tU rfl rfl rfl rfl (aI FA (ai (C':=[.string x3.S,iV x4.K,iV x4.N,.string x4.S]) rfl rfl rfl rfl rfl (ak))) rfl rc1 rfl (by simpa using Kw.nil)) rfl ?_
    rintro v9 Φ_6 D1 ⟨fr5,h5⟩
    replace h5:OSl bm 271 4 Φ_6 [] v9 ([(⟨x3.S,x4⟩:aH)]:List aH):=by simpa using h5
    replace k1:=k1.f0 fr5
    obtain ⟨x8,hx8,h⟩:=bs h
    refine le' (cP bm.lasts bm.one bm.flat o4 zu rfl rfl rfl rfl rfl (js:=[1]) (Rr:=[ob v9]) rfl k1 h5.rsl hx8) rfl ?_
    rintro v10 Φ_7 D2 ⟨⟨ap5,fr6⟩,h6⟩
    refine art 8 [] rfl ?_
    exact lb [0] [3] (ih1 (_,_,_,_) ⟨h,h6⟩)
   refine att 7 [] rfl ?_
   exact lb [0] [3] (ih1 (_,_,_,_) ⟨h,k1⟩)
  refine att 7 [] rfl ?_
  exact lb [0] [2] (ih1 (_,_,_,_) ⟨h,k1⟩)
 refine att 7 [] rfl ?_
 exact rtg [0] hF (ay.two rfl rfl) rfl (by cases h; exact fun w1 hw=>⟨u1,rfl,rfl,k1⟩)
theorem ux (w0:af Ψ Φ []) (p0:(List av)) (p1:ah) (p2:(List Int)) (ph0:RSl bJ 3 Ψ pG0 pv0 p0) (ph1_0:RSl bE 3 Ψ pG1_0 pv1_0 p1.Items) (ph2:RSl (RI .i64) 1 Ψ pG2 pv2 p2) {r:(List aH) × Bool} (h:mf N p0 p1 p2=some r) :
  Calls prog 134 [pv0,.agg [pv1_0,iV p1.Next].toArray,pv2].toArray w0.w (aQ Φ w0.w [] (fun Φ' Fs v=>∃ (sr_0_0:Value),v = .tuple #[sr_0_0,.bool r.2]∧Fs=[ob sr_0_0]∧OSl bm 271 4 Φ' [] sr_0_0 r.1)):=by
 refine eN func134 rfl ntmps134 rfl w0 fun hF=>?_
 unfold mf at h
 refine sr<|lbx rfl fun b_1=>arr 11 [] rfl<|lnr ph2 rfl<|art 3 [] rfl<|wtS ?_
 have k1:=OSl.nil bm 271 4 Φ
 refine lin (σ:=Hp × (List aH) × Value × Int) (fun s=>[(0,pv0),(4,pQ b_1),(8,s.2.2.1),(13,pv2),(14,iV (p2.length:Int)),(15,iV s.2.2.2)]) (fun s=>St w0 s.1 [(b_1,.cells #[pv1_0,iV p1.Next] 57 (0,0))] [ob s.2.2.1]) (fun m s=>gv N p0 p1 p2 m s.2.1 s.2.2.2=some r∧(OSl bm 271 4 s.1 [] s.2.2.1 s.2.1)) (Φ,([]:List aH),(.slice none 0 0),0) N ⟨h,k1⟩ (sx [0] [0]) (fun n1 ih1 s hm=>?_)
 obtain ⟨Φ_1,s1,u1,s2⟩:=s
 obtain ⟨h,k2⟩:=hm
 dsimp only at h k2 ⊢
 unfold gv at h
 refine att 5 [] rfl ?_
 refine ch h rfl ?_ ?_ <;> intro h
 ·refine atr 6 [] rfl ?_
  obtain ⟨x1,hx1,h⟩:=bs h
  obtain ⟨cs1,F1,-,g1,hb1,hs1,r1⟩:=ph2.el (a7 hx1).2.2
  obtain ⟨rfl,-⟩:=r1
  refine lia ph2 hx1 rfl<|lhx 0 0 g1 rfl<|arr 7 [2] rfl<|kab h rfl rfl rfl (fun b z q=>og N b p1 x1 (ph1_0.y z) q) ?_
  rintro x2 h v1 Φ_2 F2 ⟨ap1,fr1,v2,rfl,rfl,h1⟩
  replace k2:=k2.fr fr1 (ap1.q 0 rfl) dN
  refine arr 3 [] rfl<|lnz kj rfl fun b_2=>soN 0 kL rfl ⟨rfl,h1.one,trivial⟩ rfl ?_
  refine art 8 [] rfl ?_
  refine ch h rfl ?_ ?_ <;> intro h
  ·refine att 5 [] rfl ?_
   refine WT.ret hF (ay.two rfl rfl) (fun w1 hw=>?_)
   cases h
   replace hw:=hw.addNil
   refine bZ (js:=[0]) hw rfl ⟨.slice none 0 0,rfl,rfl,OSl.nil _ _ _ _⟩
  refine att 2 [] rfl<|wm [0,1] [] rfl<|amm 2 [0,1] [0,1] rfl rfl ?_
  obtain ⟨x3,hx3,h⟩:=bs h
  obtain ⟨cs2,F3,-,g2,hb2,hs2,r2⟩:=ph0.el (a7 hx3).2.2
  obtain ⟨v3,G1,rfl,hq1,h2⟩:=r2
  obtain rfl:=hq1.symm
  refine mq 2 rfl (by kernel_rfl) (kN [0,1]) (a8 tY rfl rfl ph0 hx3) rfl<|mq 3 rfl (by kernel_rfl) (kN [0,1]) (ao vU rfl (fun w1 hw=>(g2.of_eq 0 3 rfl rfl:rg _ _ _ [.string x3.Kind,v3,.bool x3.Not]).rangeAt hw.1) rfl) rfl<|amm 2 [4,2,5] [0,1] rfl rfl ?_
  obtain ⟨x4,hx4,h⟩:=bs h
  refine WM.one 6 (by kernel_rfl) (mc rfl (fun _ v Φx D w1 hq hw=>Kn.of Kf.nil (ai2 0 1 rfl rfl) hw) (aY (js:=[]) (R:=[ob v2,ob u1]) JR rfl rfl (fun w1 hw ap hl=>pI N (ba hw.fro) x3 x2.1 s1 (h2.y hw.up) h1.rsl k2.rsl  hx4)) rfl ?_)
  rintro v4 Φ_3 F4 ⟨ap2,fr2,v5,rfl,rfl,h3⟩
  replace k2:=k2.fr fr2 (ap2.q 1 rfl) dN
  refine amm 5 [7,8,9,10,11] [0,1] rfl rfl<|WM.nil (by kernel_rfl)<|att 5 [] rfl ?_
  refine ch h rfl ?_ ?_ <;> intro h
  ·refine att 5 [] rfl ?_
   refine WT.ret hF (ay.two rfl rfl) (fun w1 hw=>?_)
   cases h
   replace hw:=hw.addNil
   refine bZ (js:=[0]) hw rfl ⟨.slice none 0 0,rfl,rfl,OSl.nil _ _ _ _⟩
  refine att 6 [] rfl ?_
  exact lb [0] [1] (ih1 (_,_,_,_) ⟨h,h3⟩)
 refine att 7 [] rfl ?_
 exact rtg [0] hF (ay.two rfl rfl) rfl (by cases h; exact fun w1 hw=>⟨u1,rfl,rfl,k2⟩)
theorem ve (w0:af Ψ Φ [ob pv1,pD1].flatten) (p0:cA) (p1:(List ab)) (p2:Int) (ph0_0:RSl bJ 3 Ψ pG0_0 pv0_0 p0.pos) (ph0_1:RSl bJ 3 Ψ pG0_1 pv0_1 p0.neg) (ph0_2:RSl (RI .i64) 1 Ψ pG0_2 pv0_2 p0.chain.Pos) (ph0_3:RSl (RI .i64) 1 Ψ pG0_3 pv0_3 p0.chain.Neg) (ph0_4:RSl dD 1 Ψ pG0_4 pv0_4 p0.alphas) (ph0_5:RSl bE 3 Ψ pG0_5 pv0_5 p0.s.Items) (ph1:OSl ax 160 2 Φ pD1 pv1 p1) {r:(List ab)} (h:gi N p0 p1 p2=some r) :
  Calls prog 81 [.agg [pv0_0,pv0_1,pv0_2,pv0_3,pv0_4,pv0_5,iV p0.s.Next,iV p0.id].toArray,pv1,iV p2].toArray w0.w (aQ Φ w0.w [ob pv1,pD1].flatten (fun Φ' Fs v=>∃ (Do_0_0:List Nat),v = .tuple #[]∧Fs=[ob pv1,Do_0_0]∧OSl ax 160 2 Φ' Do_0_0 pv1 r)):=by
 refine eL func81 rfl ntmps81 rfl (L:=[ob pv1,pD1]) w0 (fun hF=>?_)
 unfold gi at h
 refine sr<|lbx rfl fun b_1=>arr 7 [5,2,7,0] rfl<|kab h rfl rfl rfl (fun b z q=>og N b p0.s p0.id (ph0_5.y z) q) ?_
 rintro x1 h v1 Φ_1 F1 ⟨ap1,fr1,v2,rfl,rfl,h1⟩
 replace ph1:=ph1.fr fr1 (ap1.q 0 rfl) (ap1.q 1 rfl)
 refine arr 3 [] rfl<|lnz kj rfl fun b_2=>soN 0 kL rfl ⟨rfl,h1.one,trivial⟩ rfl ?_
 refine arr 5 [] rfl<|lno ph1 rfl<|art 3 [] rfl ?_
 refine lin (σ:=Hp × (List ab) × List Nat × Int) (fun s=>[(2,iV p2),(3,pQ b_1),(6,pQ b_2),(24,pv1),(25,iV (p1.length:Int)),(26,iV s.2.2.2)]) (fun s=>St w0 s.1 [(b_2,.cells #[.string x1.1.Kind,v2] 133 (0,0)),(b_1,.cells #[pv0_0,pv0_1,pv0_2,pv0_3,pv0_4,pv0_5,iV p0.s.Next,iV p0.id] 162 (0,0))] [ob v2,ob pv1,s.2.2.1]) (fun m s=>bA N p0 p1 p2 x1 m s.2.1 s.2.2.2=some r∧(OSl ax 160 2 s.1 s.2.2.1 pv1 s.2.1)∧(OSl az 193 3 s.1 [] v2 x1.1.Fields)) (Φ_1,p1,pD1,0) N ⟨h,ph1,h1⟩ (sx [0,0,0] [0,0]) (fun n1 ih1 s hm=>?_)
 obtain ⟨Φ_2,s1,D1,s2⟩:=s
 obtain ⟨h,k1,h1⟩:=hm
 dsimp only at h k1 h1 ⊢
 unfold bA at h
 refine att 5 [] rfl ?_
 refine ch h rfl ?_ ?_ <;> intro h
 ·refine atr 5 [] rfl ?_
  obtain ⟨x2,hx2,h⟩:=bs h
  obtain ⟨cs1,F2,D2,h2,r1,kf1,sp1⟩:=k1.focus hx2
  obtain ⟨v3,v4,rfl,rfl,h3,h4⟩:=r1
  refine wlL [ob v3,ob v4,D2,ob v2,ob pv1] (sre [2] [ob v3,ob v4,D2] rfl (by simpa [List.append_assoc] using sp1))<|lih h2 hx2 rfl<|lgx 0 2 h2.rg rfl<|lnz eD rfl fun b_3=>soN 0 sO rfl ⟨h3.one,h4.one,trivial⟩ rfl ?_
  refine arr 9 [0,64,5,66,0,0] rfl<|kab h rfl rfl rfl (fun b z q=>ux N b p0.pos p0.s x2.Ids (ph0_0.y z) (ph0_5.y z) h3.rsl q) ?_
  rintro x3 h v5 Φ_3 F3 ⟨ap2,fr2,v6,rfl,rfl,h5⟩
  replace h2:=h2.fr fr2 (ap2.q 4 rfl) (ap2.q 2 rfl)
  replace h1:=h1.fr fr2 (ap2.q 3 rfl) dN
  replace h3:=h3.fr fr2 (ap2.q 0 rfl) dN
  replace h4:=h4.fr fr2 (ap2.q 1 rfl) dN
  refine art 12 [] rfl ?_
  refine ch h rfl ?_ ?_ <;> intro h
  ·refine att 5 [] rfl ?_
   have r2:ax Φ_3 _ [v3,v4] x2:=⟨v3,v4,rfl,rfl,h3,h4⟩
   obtain ⟨D3,h6,sp2⟩:=h2.unfocus r2 (ax.knows _ _ _ _ r2)
   rw [IV hx2] at h6
   refine wtL [D3,ob v6,ob v2,ob pv1] (smg [1,1,1] rfl (by simpa [List.append_assoc,bl] using sp2)) ?_
   exact lb [2,2,0] [1,1] (ih1 (_,_,_,_) ⟨h,h6,h1⟩)
  refine atr 5 [1,64] rfl<|lnr ph0_1 rfl<|art 3 [] rfl ?_
  refine lin (σ:=Hp × (List Int) × Int) (fun s=>[(2,iV p2),(3,pQ b_1),(6,pQ b_2),(9,pQ b_3),(10,v6),(24,pv1),(25,iV (p1.length:Int)),(26,iV s2),(43,pv0_1),(44,iV (p0.neg.length:Int)),(45,iV s.2.2)]) (fun s=>St w0 s.1 [(b_3,.cells #[v3,v4] 160 (0,0)),(b_2,.cells #[.string x1.1.Kind,v2] 133 (0,0)),(b_1,.cells #[pv0_0,pv0_1,pv0_2,pv0_3,pv0_4,pv0_5,iV p0.s.Next,iV p0.id] 162 (0,0))] [ob v6,ob v3,ob v4,D2,ob v2,ob pv1]) (fun m s=>bU N p0 p2 x1 s1 s2 (bA N p0 p1 p2 x1 n1) x2 x3 m s.2.1 s.2.2=some r∧(OSl az 193 3 s.1 [] v2 x1.1.Fields)∧(OSl (RI .i64) 3 1 s.1 [] v3 x2.Ids)∧(OSl (RI .i64) 3 1 s.1 [] v4 s.2.1)∧(OSl bm 271 4 s.1 [] v6 x3.1)∧(HSl ax 160 2 s.1 D2 pv1 s1 s2.toNat [v3,v4])) (Φ_3,x2.Hits,0) N ⟨h,h1,h3,h4,h5,h2⟩ (sx [0,0,0,0,0,0] [0,0,0]) (fun n2 ih2 s hm=>?_)
  obtain ⟨Φ_4,s3,s4⟩:=s
  obtain ⟨h,h1,h3,k3,h5,k2⟩:=hm
  dsimp only at h h1 h3 k3 h5 k2 ⊢
  unfold bU at h
  refine att 5 [] rfl ?_
  refine ch h rfl ?_ ?_ <;> intro h
  ·refine atr 6 [] rfl ?_
   obtain ⟨x4,hx4,h⟩:=bs h
   obtain ⟨cs2,F4,-,g1,hb2,hs1,r3⟩:=ph0_1.el (a7 hx4).2.2
   obtain ⟨v7,G1,rfl,hq1,h7⟩:=r3
   obtain rfl:=hq1.symm
   refine lia ph0_1 hx4 rfl<|lhx 0 3 g1 rfl<|lnz pE rfl fun b_4=>la rfl<|soN 0 sN rfl ⟨rfl,h7.one,rfl,trivial⟩ rfl ?_
   refine arr 6 [3,66] rfl<|kab h rfl rfl rfl (fun b z q=>pI N b x4 x1.1 x3.1 (h7.y z) h1.rsl h5.rsl q) ?_
   rintro x5 h v8 Φ_5 F5 ⟨ap3,fr3,v9,rfl,rfl,h8⟩
   replace k2:=k2.fr fr3 (ap3.q 5 rfl) (ap3.q 3 rfl)
   replace h1:=h1.fr fr3 (ap3.q 4 rfl) dN
   replace h3:=h3.fr fr3 (ap3.q 1 rfl) dN
   replace k3:=k3.fr fr3 (ap3.q 2 rfl) dN
   replace h5:=h5.fr fr3 (ap3.q 0 rfl) dN
   refine art 10 [] rfl ?_
   refine ch h rfl ?_ ?_ <;> intro h
   ·refine atr 4 [1,32] rfl ?_
    obtain ⟨x6,hx6,h⟩:=bs h
    obtain ⟨cs3,F6,-,g2,hb3,hs2,r4⟩:=k3.elS (a7 hx6).2.2
    obtain ⟨rfl,-⟩:=r4
    refine lio k3 hx6 rfl<|lgx 0 0 g2 rfl<|arr 2 [] rfl ?_
    obtain ⟨x7,hx7,h⟩:=bs h
    obtain ⟨cs4,F7,-,g3,hb4,hs3,r5⟩:=k3.elS (a7 hx7).2.2
    obtain ⟨rfl,-⟩:=r5
    refine lio k3 hx7 rfl<|lu (tS (js:=[3]) (Rr:=[ob v9,ob v6,ob v3,D2,ob v2,ob pv1]) (vs:=[iV (wz (x6+p2))]) (x':=wz (x6+p2)) RI.lasts RI.flat j5 rfl rfl rfl rfl ⟨rfl,trivial⟩ rfl k3 (hP hx7) ⟨rfl,rfl⟩) rfl ?_
    rintro Φ_6 D4 ⟨⟨ap4,fr4⟩,h9⟩
    replace k2:=k2.fr fr4 (ap4.q 5 rfl) (ap4.q 3 rfl)
    replace h1:=h1.fr fr4 (ap4.q 4 rfl) dN
    replace h3:=h3.fr fr4 (ap4.q 2 rfl) dN
    replace h5:=h5.fr fr4 (ap4.q 1 rfl) dN
    refine art 6 [] rfl ?_
    exact lb [2,2,0,1,1,1] [1,1,1] (ih2 (_,_,_) ⟨h,h1,h3,h9,h5,k2⟩)
   refine att 6 [] rfl ?_
   exact lb [1,1,1,1,1,1] [1,1,1] (ih2 (_,_,_) ⟨h,h1,h3,k3,h5,k2⟩)
  refine att 6 [] rfl ?_
  have r6:ax Φ_4 _ [v3,v4] (⟨x2.Ids,s3⟩:ab):=⟨v3,v4,rfl,rfl,h3,k3⟩
  obtain ⟨D5,h10,sp3⟩:=k2.unfocus r6 (ax.knows _ _ _ _ r6)
  refine wtL [D5,ob v6,ob v2,ob pv1] (smg [1,1,1] rfl (by simpa [List.append_assoc,bl] using sp3)) ?_
  exact lb [2,2,0] [1,1] (ih1 (_,_,_,_) ⟨h,h10,h1⟩)
 refine xt rfl ?_
 refine WT.fin hF ay.none (fun w1 hw=>?_)
 cases h
 refine bZ (js:=[1,1]) hw rfl ⟨D1,rfl,rfl,k1⟩
theorem Bb (w0:af Ψ Φ []) (p0:av) (p1:ah) (p2:(List aH)) (ph0_0:RSl bQ 5 Ψ pG0_0 pv0_0 p0.Args) (ph1_0:RSl bE 3 Ψ pG1_0 pv1_0 p1.Items) (ph2:RSl bm 4 Ψ pG2 pv2 p2) {r:Int} (h:qD N p0 p1 p2=some r) :
  CB w0 prog 181 [.agg [.string p0.Kind,pv0_0,.bool p0.Not].toArray,.agg [pv1_0,iV p1.Next].toArray,pv2] (iV r):=by
 refine eN func181 rfl ntmps181 rfl w0 fun hF=>?_
 unfold qD at h
 refine sr<|lbx rfl fun b_1=>lbx rfl fun b_2=>arr 11 [0,0] rfl<|lnr ph1_0 rfl<|art 3 [] rfl ?_
 refine lin (σ:=Hp × Int × Int) (fun s=>[(2,pv2),(3,pQ b_1),(7,iV s.2.1),(13,pv1_0),(14,iV (p1.Items.length:Int)),(15,iV s.2.2)]) (fun s=>St w0 s.1 [(b_1,.cells #[.string p0.Kind,pv0_0,.bool p0.Not] 212 (0,0))] []) (fun m s=>eX N p0 p1 p2 m s.2.1 s.2.2=some r) (Φ,0,0) N h (sx [] [1]) (fun n1 ih1 s hm=>?_)
 obtain ⟨Φ_1,s1,s2⟩:=s
 have h:eX N p0 p1 p2 (n1+1) s1 s2=some r:=hm
 show WT _ _ [(2,pv2),(3,pQ b_1),(7,iV s1),(13,pv1_0),(14,iV (p1.Items.length:Int)),(15,iV s2)] (St w0 Φ_1 [(b_1,.cells #[.string p0.Kind,pv0_0,.bool p0.Not] 212 (0,0))] [])
 unfold eX at h
 refine att 5 [] rfl ?_
 refine ch h rfl ?_ ?_ <;> intro h
 ·refine atr 5 [] rfl ?_
  obtain ⟨x1,hx1,h⟩:=bs h
  obtain ⟨cs1,F1,-,g1,hb1,hs1,r1⟩:=ph1_0.el (a7 hx1).2.2
  obtain ⟨v1,G1,rfl,hq1,h1⟩:=r1
  obtain rfl:=hq1.symm
  refine lia ph1_0 hx1 rfl<|lhx 0 3 g1 rfl<|lnz uM rfl fun b_3=>soN 0 vP rfl ⟨rfl,rfl,h1.one,trivial⟩ rfl ?_
  refine arr 7 [35,1,2] rfl<|kab h rfl rfl rfl (fun b z q=>pI N b p0 x1.F p2 (ph0_0.y z) (h1.y z) (ph2.y z) q) ?_
  rintro x2 h v2 Φ_2 F2 ⟨ap1,fr1,v3,rfl,rfl,h2⟩
  refine art 10 [] rfl ?_
  refine ch h rfl ?_ ?_ <;> intro h
  ·refine att 10 [] rfl ?_
   exact lb [] [1] (ih1 (_,_,_) h)
  refine att 6 [] rfl ?_
  exact lb [] [1] (ih1 (_,_,_) h)
 refine att 6 [] rfl ?_
 exact rt hF h
theorem ko (w0:af Ψ Φ []) (p0:cA) (p1:(List Int)) (p2:(List Int)) (ph0_0:RSl bJ 3 Ψ pG0_0 pv0_0 p0.pos) (ph0_1:RSl bJ 3 Ψ pG0_1 pv0_1 p0.neg) (ph0_2:RSl (RI .i64) 1 Ψ pG0_2 pv0_2 p0.chain.Pos) (ph0_3:RSl (RI .i64) 1 Ψ pG0_3 pv0_3 p0.chain.Neg) (ph0_4:RSl dD 1 Ψ pG0_4 pv0_4 p0.alphas) (ph0_5:RSl bE 3 Ψ pG0_5 pv0_5 p0.s.Items) (ph1:RSl (RI .i64) 1 Ψ pG1 pv1 p1) (ph2:RSl (RI .i64) 1 Ψ pG2 pv2 p2) {r:(List ab)} (h:dT N p0 p1 p2=some r) :
  Calls prog 136 [.agg [pv0_0,pv0_1,pv0_2,pv0_3,pv0_4,pv0_5,iV p0.s.Next,iV p0.id].toArray,pv1,pv2].toArray w0.w (aQ Φ w0.w [] (fun Φ' Fs v=>∃ (sr_0_0:Value) (Dr_0_0:List Nat),v=sr_0_0∧Fs=[ob sr_0_0,Dr_0_0]∧OSl ax 160 2 Φ' Dr_0_0 sr_0_0 r)):=by
 refine eN func136 rfl ntmps136 rfl w0 fun hF=>?_
 unfold dT at h
 refine sr<|lbx rfl fun b_1=>arr 10 [] rfl<|lnr ph2 rfl<|art 3 [] rfl<|wtS<|wt0 ?_
 have k1:=OSl.nil ax 160 2 Φ
 refine lin (σ:=Hp × (List ab) × Value × List Nat × Int) (fun s=>[(1,pv1),(3,pQ b_1),(7,s.2.2.1),(16,pv2),(17,iV (p2.length:Int)),(18,iV s.2.2.2.2)]) (fun s=>St w0 s.1 [(b_1,.cells #[pv0_0,pv0_1,pv0_2,pv0_3,pv0_4,pv0_5,iV p0.s.Next,iV p0.id] 162 (0,0))] [s.2.2.2.1,ob s.2.2.1]) (fun m s=>bq N p0 p1 p2 m s.2.1 s.2.2.2.2=some r∧(OSl ax 160 2 s.1 s.2.2.2.1 s.2.2.1 s.2.1)) (Φ,([]:List ab),(.slice none 0 0),[],0) N ⟨h,k1⟩ (sx [0,0] [0]) (fun n1 ih1 s hm=>?_)
 obtain ⟨Φ_1,s1,u1,D1,s2⟩:=s
 obtain ⟨h,k2⟩:=hm
 dsimp only at h k2 ⊢
 unfold bq at h
 refine att 5 [] rfl ?_
 refine ch h rfl ?_ ?_ <;> intro h
 ·refine atr 5 [] rfl ?_
  obtain ⟨x1,hx1,h⟩:=bs h
  obtain ⟨cs1,F1,-,g1,hb1,hs1,r1⟩:=ph2.el (a7 hx1).2.2
  obtain ⟨rfl,-⟩:=r1
  refine lia ph2 hx1 rfl<|lhx 0 0 g1 rfl<|arr 5 [] rfl<|kab h rfl rfl rfl (fun b z q=>fU N b p1 (ph1.y z) q) ?_
  rintro x2 h v1 Φ_2 F2 ⟨ap1,fr1,v2,rfl,rfl,h1⟩
  replace k2:=k2.fr fr1 (ap1.q 1 rfl) (ap1.q 0 rfl)
  refine la rfl ?_
  have rc1:RC (RI .i64) 1 Φ_2 ([[]]:List (List Nat)) [iV x1] ([x1]:List Int):=RC.cons (c:=[iV x1]) (cells:=[]) ⟨rfl,rfl⟩ rfl (RC.nil _ _ _)
  refine le' (cu (vs:=[(0,iV x1)]) (C:=#[iV x1]) RI.lasts aR o7 rfl rfl rfl rfl (aI mE (ai (C':=[iV x1]) rfl rfl rfl rfl rfl (ak))) rfl rc1 rfl (by simpa using Kw.nil)) rfl ?_
  rintro v3 Φ_3 D2 ⟨fr2,h2⟩
  replace h2:OSl (RI .i64) 3 1 Φ_3 [] v3 ([x1]:List Int):=by simpa using h2
  replace k2:=k2.f0 fr2
  replace h1:=h1.f0 fr2
  obtain ⟨x3,hx3,h⟩:=bs h
  refine le' (cP RI.lasts RI.one RI.flat aR sP rfl rfl rfl rfl rfl (js:=[1]) (Rr:=[ob v3,D1,ob u1]) rfl h1 h2.rsl hx3) rfl ?_
  rintro v4 Φ_4 D3 ⟨⟨ap2,fr3⟩,h3⟩
  replace k2:=k2.fr fr3 (ap2.q 2 rfl) (ap2.q 1 rfl)
  refine arr 9 [0,0,5,2] rfl<|kab h rfl rfl rfl (fun b z q=>ux N b p0.pos p0.s x3 (ph0_0.y z) (ph0_5.y z) h3.rsl q) ?_
  rintro x4 h v5 Φ_5 F3 ⟨ap3,fr4,v6,rfl,rfl,h4⟩
  replace k2:=k2.fr fr4 (ap3.q 3 rfl) (ap3.q 2 rfl)
  replace h3:=h3.fr fr4 (ap3.q 0 rfl) dN
  refine art 12 [] rfl ?_
  refine ch h rfl ?_ ?_ <;> intro h
  ·refine att 5 [] rfl ?_
   exact lb [3,3] [0] (ih1 (_,_,_,_,_) ⟨h,k2⟩)
  refine atr 4 [] rfl<|lq (cw (vs:=[(0,v4)]) (C:=#[v4,.slice none 0 0]) xx eD rfl (ai (C':=[v4,.slice none 0 0]) rfl (cm h3.one) rfl rfl rfl (ak))) rfl<|lnz eD rfl fun b_2=>soN 0 sO rfl ⟨h3.one,rfl,trivial⟩ rfl ?_
  refine arr 5 [] rfl<|lno h3 rfl<|arr 2 [0,32] rfl<|lnr ph0_0 rfl<|la rfl<|en<|wtS ?_
  have k3:=OSl.nil (RI .i64) 3 1 Φ_5
  refine cut (σ:=Hp × (List Int) × Value) (fun s=>[(1,pv1),(3,pQ b_1),(7,u1),(13,pQ b_2),(16,pv2),(17,iV (p2.length:Int)),(18,iV s2)]) (fun s=>St w0 s.1 [(b_2,.cells #[v4,s.2.2] 160 (0,0)),(b_1,.cells #[pv0_0,pv0_1,pv0_2,pv0_3,pv0_4,pv0_5,iV p0.s.Next,iV p0.id] 162 (0,0))] [ob s.2.2,ob v4,D1,ob u1]) (fun s=>bY N s1 s2 (bq N p0 p1 p2 n1) x3 s.2.1=some r∧(OSl ax 160 2 s.1 D1 u1 s1)∧(OSl (RI .i64) 3 1 s.1 [] v4 x3)∧(OSl (RI .i64) 3 1 s.1 [] s.2.2 s.2.1)) (fun s hm=>?_) (fun K=>?_)
  ·clear h
   obtain ⟨Φ_6,s3,u2⟩:=s
   obtain ⟨h,k2,h3,k4⟩:=hm
   dsimp only at h k2 h3 k4 ⊢
   unfold bY at h
   refine atr 3 [2] rfl ?_
   have rc2:RC ax 2 Φ_6 ([(ob v4++[])++((ob u2++[]))]:List (List Nat)) [v4,u2] ([(⟨x3,s3⟩:ab)]:List ab):=RC.cons (c:=[v4,u2]) (cells:=[]) ⟨v4,u2,rfl,rfl,h3,k4⟩ rfl (RC.nil _ _ _)
   refine le' (cu (vs:=[(0,.agg [v4,u2].toArray)]) (C:=#[v4,u2]) ax.lasts cg eD rfl rfl rfl rfl (aI tF (ai (C':=[v4,u2]) rfl rfl rfl rfl rfl (ak))) rfl rc2 rfl (RC.kn ax.knows rc2)) rfl ?_
   rintro v7 Φ_7 D4 ⟨fr5,h5⟩
   replace h5:OSl ax 160 2 Φ_7 ((ob v4++[])++((ob u2++[]))) v7 ([(⟨x3,s3⟩:ab)]:List ab):=by simpa [List.append_assoc] using h5
   replace k2:=k2.f0 fr5
   refine wlL [((ob v4++[])++((ob u2++[]))),ob v7,D1,ob u1] (smg [2,1] rfl (SP.eq (by simp [List.append_assoc,bl]))) ?_
   obtain ⟨x5,hx5,h⟩:=bs h
   refine le' (gE ax.lasts ax.one cg pC rfl rfl rfl rfl rfl (js:=[3]) (Rr:=[((ob v4++[])++((ob u2++[]))),ob v7,D1]) rfl k2 h5 (fun ap=>ap.q 2 rfl) (fun ap=>ap.q 0 rfl) hx5) rfl ?_
   rintro v8 Φ_8 D5 ⟨⟨ap4,fr6⟩,h6⟩
   refine wlL [(D1++((ob v4++[])++((ob u2++[])))),ob v8,ob v7] (smg [3,1] rfl (SP.eq (by simp)))<|art 7 [] rfl ?_
   exact lb [0,0] [1] (ih1 (_,_,_,_,_) ⟨h,h6⟩)
  refine ch h rfl ?_ ?_ <;> intro h
  ·refine atr 4 [1,32] rfl<|lnr ph0_1 rfl<|art 3 [] rfl ?_
   refine lin (σ:=Hp × (List Int) × Value × Int) (fun s=>[(1,pv1),(3,pQ b_1),(7,u1),(11,v6),(13,pQ b_2),(16,pv2),(17,iV (p2.length:Int)),(18,iV s2),(47,pv0_1),(48,iV (p0.neg.length:Int)),(49,iV s.2.2.2)]) (fun s=>St w0 s.1 [(b_2,.cells #[v4,s.2.2.1] 160 (0,0)),(b_1,.cells #[pv0_0,pv0_1,pv0_2,pv0_3,pv0_4,pv0_5,iV p0.s.Next,iV p0.id] 162 (0,0))] [ob s.2.2.1,ob v6,ob v4,D1,ob u1]) (fun m s=>ce N p0 s1 s2 (bq N p0 p1 p2 n1) x3 x4 m s.2.1 s.2.2.2=some r∧(OSl ax 160 2 s.1 D1 u1 s1)∧(OSl (RI .i64) 3 1 s.1 [] v4 x3)∧(OSl bm 271 4 s.1 [] v6 x4.1)∧(OSl (RI .i64) 3 1 s.1 [] s.2.2.1 s.2.1)) (Φ_5,([]:List Int),(.slice none 0 0),0) N ⟨h,k2,h3,h4,k3⟩ (sx [0,0,0,1,1] [0,0]) (fun n3 ih3 s hm=>?_)
   obtain ⟨Φ_9,s4,u3,s5⟩:=s
   obtain ⟨h,k2,h3,h4,k5⟩:=hm
   dsimp only at h k2 h3 h4 k5 ⊢
   unfold ce at h
   refine att 5 [] rfl ?_
   refine ch h rfl ?_ ?_ <;> intro h
   ·refine atr 5 [] rfl ?_
    obtain ⟨x6,hx6,h⟩:=bs h
    obtain ⟨cs2,F4,-,g2,hb2,hs2,r2⟩:=ph0_1.el (a7 hx6).2.2
    obtain ⟨v9,G1,rfl,hq1,h7⟩:=r2
    obtain rfl:=hq1.symm
    refine lia ph0_1 hx6 rfl<|lhx 0 3 g2 rfl<|lnz pE rfl fun b_3=>soN 0 sN rfl ⟨rfl,h7.one,rfl,trivial⟩ rfl ?_
    refine en<|wm [0,1,2] [10] rfl<|amm 6 [0,1,1,32,2,3,3,5,4,66,5] [0,1,2] rfl rfl ?_
    obtain ⟨x7,hx7,h⟩:=bs h
    refine on1 6 (mp rfl (kS [0,1,2]) (pzP rfl (fun b z=>Bb N b x6 p0.s x4.1 (h7.y z) (ph0_5.y z) h4.rsl hx7)) rfl ?_)
    have rc3:RC (RI .i64) 1 Φ_9 ([[]]:List (List Nat)) [iV x7] ([x7]:List Int):=RC.cons (c:=[iV x7]) (cells:=[]) ⟨rfl,rfl⟩ rfl (RC.nil _ _ _)
    refine WM.one 7 (by kernel_rfl) (me rfl (fun _ v Φx D w1 hq hw=>Kn.of Kf.nil (ai3 0 1 2 rfl rfl rfl) hw) (cu (vs:=[(0,iV x7)]) (C:=#[iV x7]) RI.lasts aR o7 rfl rfl rfl rfl (aI mE (ai (C':=[iV x7]) rfl rfl rfl rfl rfl (ak))) rfl rc3 rfl (by simpa using Kw.nil)) rfl ?_)
    rintro v10 Φ_10 D6 ⟨fr7,h8⟩
    replace h8:OSl (RI .i64) 3 1 Φ_10 [] v10 ([x7]:List Int):=by simpa using h8
    replace k2:=k2.f0 fr7
    replace h3:=h3.f0 fr7
    replace h4:=h4.f0 fr7
    replace k5:=k5.f0 fr7
    obtain ⟨x8,hx8,h⟩:=bs h
    refine WM.one 8 (by kernel_rfl) (me rfl (fun _ v Φx D w1 hq hw=>Kn.of Kf.nil (ai3 0 1 2 rfl rfl rfl) hw) (cP RI.lasts RI.one RI.flat aR sP rfl rfl rfl rfl rfl (js:=[1]) (Rr:=[ob v10,ob v6,ob v4,D1,ob u1]) rfl k5 h8.rsl hx8) rfl ?_)
    rintro v11 Φ_11 D7 ⟨⟨ap5,fr8⟩,h9⟩
    replace k2:=k2.fr fr8 (ap5.q 4 rfl) (ap5.q 3 rfl)
    replace h3:=h3.fr fr8 (ap5.q 2 rfl) dN
    replace h4:=h4.fr fr8 (ap5.q 1 rfl) dN
    refine amm 1 [9,1] [0,1,2] rfl rfl ?_
    refine on1 10 (ms1 1 rfl nk kO rfl h9.one ?_)
    refine WM.nil (by kernel_rfl)<|att 5 [] rfl ?_
    exact lb [0,1,1,1,1] [1,1] (ih3 (_,_,_,_) ⟨h,k2,h3,h4,h9⟩)
   refine xt rfl ?_
   exact wo [0,1,1,1] [0,0] (K (_,_,_) ⟨h,k2,h3,k5⟩)
  refine WT.skip ?_
  exact wo [0,1,2,2] [0,0] (K (_,_,_) ⟨h,k2,h3,k3⟩)
 refine att 6 [] rfl ?_
 exact rtg [1,0] hF (ay.one rfl) rfl (by cases h; exact fun w1 hw=>⟨u1,D1,rfl,rfl,k2⟩)
theorem zR (w0:af Ψ Φ []) (p0:(List ab)) (ph0:RSl cD 2 Ψ pG0 pv0 p0) {r:(List ab)} (h:lX N p0=some r) :
  Calls prog 137 [pv0].toArray w0.w (aQ Φ w0.w [] (fun Φ' Fs v=>∃ (sr_0_0:Value) (Dr_0_0:List Nat),v=sr_0_0∧Fs=[ob sr_0_0]∧OSl cD 160 2 Φ' Dr_0_0 sr_0_0 r∧(∀ k∈Dr_0_0,k∈pG0))):=by
 refine eN func137 rfl ntmps137 rfl w0 fun hF=>?_
 unfold lX at h
 refine att 6 [] rfl ?_
 rcases RSl.nilOr ph0 with ⟨hxs1,cc1,hv1⟩ | ⟨a1,cc1,hv1⟩
 ·replace h:some []=some r:=by simpa [hxs1,app] using h
  refine atr 2 [] rfl<|lq (oc cg (congrArg some hv1) rfl) rfl<|en ?_
  refine cd rfl (fun c=>?_) (fun c=>by simp at c)
  refine att 4 [] rfl ?_
  refine WT.ret hF (ay.one rfl) (fun w1 hw=>?_)
  cases h
  replace hw:=hw.addNil
  refine bZ (js:=[0]) hw rfl ⟨.slice none 0 0,[],rfl,rfl,OSl.nil _ _ _ _,(by simp)⟩
 refine atr 2 [] rfl<|lq (oc cg (congrArg some hv1) rfl) rfl<|en ?_
 refine cd rfl (fun c=>by simp at c) (fun c=>?_)
 refine atr 3 [] rfl ?_
 have rc1:RC ax 2 Φ ([]:List (List Nat)) [] ([]:List ab):=RC.nil _ _ _
 refine le' (cu (vs:=[]) (C:=#[]) ax.lasts cg eD rfl rfl rfl rfl (aI uF (ak)) rfl rc1 rfl (by simpa using Kw.nil)) rfl ?_
 rintro v1 Φ_1 D1 ⟨fr1,h1⟩
 replace h1:OSl ax 160 2 Φ_1 [] v1 ([]:List ab):=by simpa [List.append_assoc] using h1
 refine WL.conv (S':=St w0 Φ_1 [] [[],ob v1]) (fun w1 hw=>hw.addNil)<|la rfl<|lu0 ph0 fun h2=>?_
 obtain ⟨x1,hx1,h⟩:=bs h
 replace h1:=h1.gives ax.gives
 refine le' (MY cD.lasts cD.knows cD.one cg pC rfl rfl rfl rfl rfl (js:=[1]) (Rr:=[[]]) rfl h1 h2 (fun ap=>dN) (fun ap=>(ap.o ph0.old)) hx1) rfl ?_
 rintro v2 Φ_2 D2 ⟨⟨ap1,fr2⟩,hin1,h3⟩
 refine la rfl<|en ?_
 exact rtg [0] hF (ay.one rfl) rfl (by cases h; exact fun w1 hw=>⟨v2,D2,rfl,rfl,h3,(fun k hk=>((fun k hk=>(by simpa using hin1 k hk:k∈pG0)) k hk))⟩)
theorem oG (w0:af Ψ Φ []) (p0:(List ab)) (ph0:OSl cD 160 2 Ψ pD0 pv0 p0) {r:(List ab)} (h:dU N p0=some r) :
  Calls prog 137 [pv0].toArray w0.w (aQ Φ w0.w [] (fun Φ' Fs v=>∃ (sr_0_0:Value) (Dr_0_0:List Nat),v=sr_0_0∧Fs=[ob sr_0_0]∧OSl cD 160 2 Φ' Dr_0_0 sr_0_0 r∧(∀ k∈Dr_0_0,k∈pD0))):=by
 refine eN func137 rfl ntmps137 rfl w0 fun hF=>?_
 unfold dU at h
 refine att 6 [] rfl ?_
 rcases RSl.nilOr (ph0.rsl) with ⟨hxs1,cc1,hv1⟩ | ⟨a1,cc1,hv1⟩
 ·replace h:some []=some r:=by simpa [hxs1,app] using h
  refine atr 2 [] rfl<|lq (oc cg (congrArg some hv1) rfl) rfl<|en ?_
  refine cd rfl (fun c=>?_) (fun c=>by simp at c)
  refine att 4 [] rfl ?_
  refine WT.ret hF (ay.one rfl) (fun w1 hw=>?_)
  cases h
  replace hw:=hw.addNil
  refine bZ (js:=[0]) hw rfl ⟨.slice none 0 0,[],rfl,rfl,OSl.nil _ _ _ _,(by simp)⟩
 refine atr 2 [] rfl<|lq (oc cg (congrArg some hv1) rfl) rfl<|en ?_
 refine cd rfl (fun c=>by simp at c) (fun c=>?_)
 refine atr 3 [] rfl ?_
 have rc1:RC ax 2 Φ ([]:List (List Nat)) [] ([]:List ab):=RC.nil _ _ _
 refine le' (cu (vs:=[]) (C:=#[]) ax.lasts cg eD rfl rfl rfl rfl (aI uF (ak)) rfl rc1 rfl (by simpa using Kw.nil)) rfl ?_
 rintro v1 Φ_1 D1 ⟨fr1,h1⟩
 replace h1:OSl ax 160 2 Φ_1 [] v1 ([]:List ab):=by simpa [List.append_assoc] using h1
 refine WL.conv (S':=St w0 Φ_1 [] [[],ob v1]) (fun w1 hw=>hw.addNil)<|la rfl<|luO ph0 fun h2=>?_
 obtain ⟨x1,hx1,h⟩:=bs h
 replace h1:=h1.gives ax.gives
 refine le' (gE cD.lasts cD.one cg pC rfl rfl rfl rfl rfl (js:=[1]) (Rr:=[[]]) rfl h1 h2 (fun ap=>dN) (fun ap=>(ap.o ph0.old)) hx1) rfl ?_
 rintro v2 Φ_2 D2 ⟨⟨ap1,fr2⟩,h3⟩
 replace h3:OSl cD 160 2 Φ_2 pD0 v2 x1:=by simpa using h3
 refine la rfl<|en ?_
 exact rtg [0] hF (ay.one rfl) rfl (by cases h; exact fun w1 hw=>⟨v2,pD0,rfl,rfl,h3,(fun k hk=>hk)⟩)
theorem vJ (w0:af Ψ Φ [ob pv1,pD1].flatten) (p0:cA) (p1:(List aa)) (ph0_0:RSl bJ 3 Ψ pG0_0 pv0_0 p0.pos) (ph0_1:RSl bJ 3 Ψ pG0_1 pv0_1 p0.neg) (ph0_2:RSl (RI .i64) 1 Ψ pG0_2 pv0_2 p0.chain.Pos) (ph0_3:RSl (RI .i64) 1 Ψ pG0_3 pv0_3 p0.chain.Neg) (ph0_4:RSl dD 1 Ψ pG0_4 pv0_4 p0.alphas) (ph0_5:RSl bE 3 Ψ pG0_5 pv0_5 p0.s.Items) (ph1:OSl aK 130 1 Φ pD1 pv1 p1) {r:(List aa)} (h:gR N p0 p1=some r) :
  Calls prog 82 [.agg [pv0_0,pv0_1,pv0_2,pv0_3,pv0_4,pv0_5,iV p0.s.Next,iV p0.id].toArray,pv1].toArray w0.w (aQ Φ w0.w [ob pv1,pD1].flatten (fun Φ' Fs v=>∃ (Do_0_0:List Nat),v = .tuple #[]∧Fs=[ob pv1,Do_0_0]∧OSl aK 130 1 Φ' Do_0_0 pv1 r)):=by
 refine eL func82 rfl ntmps82 rfl (L:=[ob pv1,pD1]) w0 (fun hF=>?_)
 unfold gR at h
 refine sr<|lbx rfl fun b_1=>arr 9 [] rfl<|lno ph1 rfl<|art 3 [] rfl<|wtS ?_
 have k1:=OSl.nil cD 160 2 Φ
 refine wtS ?_
 have k2:=OSl.nil cD 160 2 Φ
 refine lin (σ:=Hp × (List aa) × List Nat × (List ab) × Value × List Nat × (List ab) × Value × List Nat × Int) (fun s=>[(1,pv1),(2,pQ b_1),(4,s.2.2.2.2.1),(5,s.2.2.2.2.2.2.2.1),(13,iV (p1.length:Int)),(14,iV s.2.2.2.2.2.2.2.2.2)]) (fun s=>St w0 s.1 [(b_1,.cells #[pv0_0,pv0_1,pv0_2,pv0_3,pv0_4,pv0_5,iV p0.s.Next,iV p0.id] 162 (0,0))] [ob s.2.2.2.2.2.2.2.1,ob s.2.2.2.2.1,ob pv1,s.2.2.1]) (fun m s=>bv N p0 p1 m s.2.1 s.2.2.2.1 s.2.2.2.2.2.2.1 s.2.2.2.2.2.2.2.2.2=some r∧(OSl aK 130 1 s.1 s.2.2.1 pv1 s.2.1)∧(OSl cD 160 2 s.1 s.2.2.2.2.2.1 s.2.2.2.2.1 s.2.2.2.1)∧(∀ k∈s.2.2.2.2.2.1,k∈s.2.2.1)∧(OSl cD 160 2 s.1 s.2.2.2.2.2.2.2.2.1 s.2.2.2.2.2.2.2.1 s.2.2.2.2.2.2.1)∧(∀ k∈s.2.2.2.2.2.2.2.2.1,k∈s.2.2.1)) (Φ,p1,pD1,([]:List ab),(.slice none 0 0),[],([]:List ab),(.slice none 0 0),[],0) N ⟨h,ph1,k1,(by simp),k2,(by simp)⟩ (sx [0,0,0,0] [0]) (fun n1 ih1 s hm=>?_)
 obtain ⟨Φ_1,s1,D1,s2,u1,D2,s3,u2,D3,s4⟩:=s
 obtain ⟨h,k3,k4,i1,k5,i2⟩:=hm
 dsimp only at h k3 k4 i1 k5 i2 ⊢
 unfold bv at h
 refine att 5 [] rfl ?_
 refine ch h rfl ?_ ?_ <;> intro h
 ·refine att 18 [] rfl<|wtS<|wt0 ?_
  have k6:=OSl.nil ax 160 2 Φ_1
  refine cut (σ:=Hp × (List ab) × Value × List Nat) (fun s=>[(1,pv1),(2,pQ b_1),(6,iV s4),(7,s.2.2.1),(13,iV (p1.length:Int)),(14,iV s4)]) (fun s=>St w0 s.1 [(b_1,.cells #[pv0_0,pv0_1,pv0_2,pv0_3,pv0_4,pv0_5,iV p0.s.Next,iV p0.id] 162 (0,0))] [s.2.2.2,ob s.2.2.1,ob pv1,D1]) (fun s=>bO N s1 s4 (bv N p0 p1 n1) s.2.1=some r∧(OSl aK 130 1 s.1 D1 pv1 s1)∧(OSl ax 160 2 s.1 s.2.2.2 s.2.2.1 s.2.1)) (fun s hm=>?_) (fun K=>?_)
  ·clear h
   obtain ⟨Φ_2,s5,u3,D4⟩:=s
   obtain ⟨h,k3,k7⟩:=hm
   dsimp only at h k3 k7 ⊢
   unfold bO at h
   refine atr 4 [] rfl ?_
   obtain ⟨x1,hx1,h⟩:=bs h
   obtain ⟨cs1,F1,D5,h1,r1,kf1,sp1⟩:=k3.focus hx1
   obtain ⟨v1,D6,rfl,rfl,h2⟩:=r1
   refine wlL [ob v1,D6,D5,D4,ob u3,ob pv1] (sre [3] [ob v1,D6,D5] rfl (by simpa [List.append_assoc] using sp1))<|lih h1 hx1 rfl<|lf gg rfl rfl rfl<|lgx 0 0 h1.rg rfl<|kab h rfl rfl rfl (fun b z q=>oG N b x1.Toks (h2.gives ax.gives) q) ?_
   rintro x2 h v2 Φ_3 F2 ⟨ap1,fr1,v3,D7,rfl,rfl,h3,i3⟩
   replace h1:=h1.fr fr1 (ap1.q 5 rfl) (ap1.q 2 rfl)
   replace k7:=k7.fr fr1 (ap1.q 4 rfl) (ap1.q 3 rfl)
   replace h2:=h2.fr fr1 (ap1.q 0 rfl) (ap1.q 1 rfl)
   refine arr 12 [] rfl<|lih h1 hx1 rfl<|lf gg rfl rfl rfl<|lgx 0 0 h1.rg rfl<|la rfl ?_
   obtain ⟨x3,hx3,h⟩:=bs h
   have h5:=k7.gives ax.gives
   refine le' (gE ax.lasts ax.one cg pC rfl rfl rfl rfl rfl (js:=[1]) (Rr:=[ob v2,D6,D5,D4,ob u3,ob pv1]) rfl h2 k7 (fun ap=>ap.q 1 rfl) (fun ap=>ap.q 3 rfl) hx3) rfl ?_
   rintro v4 Φ_4 D8 ⟨⟨ap2,fr2⟩,h4⟩
   replace h1:=h1.fr fr2 (ap2.q 5 rfl) (ap2.q 2 rfl)
   replace h5:=h5.fr fr2 (ap2.q 4 rfl) (ap2.q 3 rfl)
   replace h3:=h3.fr fr2 (ap2.q 0 rfl) (Dj.sub (ap2.q 1 rfl) i3)
   refine wlL [(D6++D4),ob v4,ob v2,D5,ob u3,ob pv1] (smg [2,3] rfl (SP.eq (by simp)))<|lih h1 hx1 rfl<|lf gg rfl rfl rfl<|lu (us [5] [(D6++D4),ob v4,ob v2,D5,ob u3] 0 aK.lasts El rfl rfl h4.one rfl h1 rfl (fun ap=>ap.q 3 rfl)) rfl ?_
   rintro Φ_5 D9 ⟨⟨ap3,fr3⟩,h6⟩
   replace h5:=h5.fr fr3 (ap3.q 4 rfl) (Dj.sub (ap3.q 0 rfl) (fun k hk=>List.mem_append.2 (.inr hk)))
   replace h4:=h4.fr fr3 (ap3.q 1 rfl) (ap3.q 0 rfl)
   replace h3:=h3.fr fr3 (ap3.q 2 rfl) (Dj.sub (Dj.sub (ap3.q 0 rfl) (fun k hk=>List.mem_append.2 (.inl hk))) i3)
   refine art 6 [] rfl ?_
   have r2:aK Φ_5 _ [v4] (⟨x3⟩:aa):=⟨v4,(D6++D4),rfl,rfl,h4⟩
   obtain ⟨D10,h7,sp2,mF1,mD1⟩:=h6.unfocusM r2 (aK.knows _ _ _ _ r2)
   refine wtL [D10,ob pv1,ob v2,ob u3] (smg [2,1,2] rfl (by simpa [List.append_assoc,bl] using sp2)) ?_
   exact lb [3,2,1,0] [0] (ih1 (_,_,_,_,_,_,_,_,_,_) ⟨h,h7,h3,(fun k hk=>((fun k hk=>(fun k hk=>mF1 k (List.mem_append.2 (.inr hk))) k ((fun k hk=>List.mem_append.2 (.inl hk)) k hk)) k (i3 k hk))),h5,(fun k hk=>((fun k hk=>(fun k hk=>mF1 k (List.mem_append.2 (.inr hk))) k ((fun k hk=>List.mem_append.2 (.inr hk)) k hk)) k hk))⟩)
  refine ch h rfl ?_ ?_ <;> intro h
  ·refine atr 4 [8,7,0] rfl ?_
   have rc1:RC (RI .i64) 1 Φ_1 ([[]]:List (List Nat)) [iV p0.id] ([p0.id]:List Int):=RC.cons (c:=[iV p0.id]) (cells:=[]) ⟨rfl,rfl⟩ rfl (RC.nil _ _ _)
   refine le' (cu (vs:=[(0,iV p0.id)]) (C:=#[iV p0.id]) RI.lasts aR o7 rfl rfl rfl rfl (aI mE (ai (C':=[iV p0.id]) rfl rfl rfl rfl rfl (ak))) rfl rc1 rfl (by simpa using Kw.nil)) rfl ?_
   rintro v5 Φ_6 D11 ⟨fr4,h8⟩
   replace h8:OSl (RI .i64) 3 1 Φ_6 [] v5 ([p0.id]:List Int):=by simpa using h8
   replace k3:=k3.f0 fr4
   refine kab h rfl rfl rfl (fun b z q=>ko N b p0 [] ([p0.id]:List Int) (ph0_0.y z) (ph0_1.y z) (ph0_2.y z) (ph0_3.y z) (ph0_4.y z) (ph0_5.y z) (RSl.nil _ _ _) h8.rsl q) ?_
   rintro x4 h v6 Φ_7 F3 ⟨ap4,fr5,v7,D12,rfl,rfl,h9⟩
   replace k3:=k3.fr fr5 (ap4.q 5 rfl) (ap4.q 6 rfl)
   refine la rfl<|en ?_
   exact wo [1,0,5,5] [0] (K (_,_,_,_) ⟨h,k3,h9⟩)
  refine atr 4 [] rfl<|lno k4 rfl<|art 3 [] rfl ?_
  refine lin (σ:=Hp × (List ab) × Value × List Nat × Int) (fun s=>[(1,pv1),(2,pQ b_1),(5,u2),(6,iV s4),(7,s.2.2.1),(13,iV (p1.length:Int)),(14,iV s4),(24,u1),(25,iV (s2.length:Int)),(26,iV s.2.2.2.2)]) (fun s=>St w0 s.1 [(b_1,.cells #[pv0_0,pv0_1,pv0_2,pv0_3,pv0_4,pv0_5,iV p0.s.Next,iV p0.id] 162 (0,0))] [s.2.2.2.1,ob s.2.2.1,ob u2,ob u1,ob pv1,D1]) (fun m s=>cE N p0 s1 s2 s3 s4 (bv N p0 p1 n1) m s.2.1 s.2.2.2.2=some r∧(OSl aK 130 1 s.1 D1 pv1 s1)∧(OSl cD 160 2 s.1 D2 u1 s2)∧(OSl cD 160 2 s.1 D3 u2 s3)∧(OSl ax 160 2 s.1 s.2.2.2.1 s.2.2.1 s.2.1)) (Φ_1,([]:List ab),(.slice none 0 0),[],0) N ⟨h,k3,k4,k5,k6⟩ (sx [0,0,0,0,0,0] [0]) (fun n3 ih3 s hm=>?_)
  obtain ⟨Φ_8,s6,u4,D13,s7⟩:=s
  obtain ⟨h,k3,k4,k5,k8⟩:=hm
  dsimp only at h k3 k4 k5 k8 ⊢
  unfold cE at h
  refine att 5 [] rfl ?_
  refine ch h rfl ?_ ?_ <;> intro h
  ·refine atr 5 [] rfl ?_
   obtain ⟨x5,hx5,h⟩:=bs h
   obtain ⟨cs2,F4,-,g1,hb2,hs1,r3⟩:=k4.elS (a7 hx5).2.2
   obtain ⟨v8,G1,v9,G2,rfl,rfl,h10,h11⟩:=r3
   refine lio k4 hx5 rfl<|lgx 0 2 g1 rfl<|lnz eD rfl fun b_2=>soN 0 sO rfl ⟨h10.one,h11.one,trivial⟩ rfl ?_
   refine arr 8 [40,0,0,7,32] rfl ?_
   have rc2:RC (RI .i64) 1 Φ_8 ([[]]:List (List Nat)) [iV p0.id] ([p0.id]:List Int):=RC.cons (c:=[iV p0.id]) (cells:=[]) ⟨rfl,rfl⟩ rfl (RC.nil _ _ _)
   refine le' (cu (vs:=[(0,iV p0.id)]) (C:=#[iV p0.id]) RI.lasts aR o7 rfl rfl rfl rfl (aI mE (ai (C':=[iV p0.id]) rfl rfl rfl rfl rfl (ak))) rfl rc2 rfl (by simpa using Kw.nil)) rfl ?_
   rintro v10 Φ_9 D14 ⟨fr6,h12⟩
   replace h12:OSl (RI .i64) 3 1 Φ_9 [] v10 ([p0.id]:List Int):=by simpa using h12
   replace h10:=h10.f0 fr6
   replace k3:=k3.f0 fr6
   replace k4:=k4.f0 fr6
   replace k5:=k5.f0 fr6
   replace k8:=k8.f0 fr6
   refine kab h rfl rfl rfl (fun b z q=>ko N b p0 x5.Ids ([p0.id]:List Int) (ph0_0.y z) (ph0_1.y z) (ph0_2.y z) (ph0_3.y z) (ph0_4.y z) (ph0_5.y z) h10 h12.rsl q) ?_
   rintro x6 h v11 Φ_10 F5 ⟨ap5,fr7,v12,D15,rfl,rfl,h13⟩
   replace k3:=k3.fr fr7 (ap5.q 5 rfl) (ap5.q 6 rfl)
   replace k4:=k4.fr fr7 (ap5.q 4 rfl) (Dj.sub (ap5.q 6 rfl) i1)
   replace k5:=k5.fr fr7 (ap5.q 3 rfl) (Dj.sub (ap5.q 6 rfl) i2)
   replace k8:=k8.fr fr7 (ap5.q 2 rfl) (ap5.q 1 rfl)
   obtain ⟨x7,hx7,h⟩:=bs h
   refine le' (gE ax.lasts ax.one cg pC rfl rfl rfl rfl rfl (js:=[4]) (Rr:=[ob v11,D15,ob v10,D13,ob u2,ob u1,ob pv1,D1]) rfl k8 h13 (fun ap=>ap.q 3 rfl) (fun ap=>ap.q 1 rfl) hx7) rfl ?_
   rintro v13 Φ_11 D16 ⟨⟨ap6,fr8⟩,h14⟩
   replace k3:=k3.fr fr8 (ap6.q 6 rfl) (ap6.q 7 rfl)
   replace k4:=k4.fr fr8 (ap6.q 5 rfl) (Dj.sub (ap6.q 7 rfl) i1)
   replace k5:=k5.fr fr8 (ap6.q 4 rfl) (Dj.sub (ap6.q 7 rfl) i2)
   refine wlL [(D13++D15),ob v13,ob v11,ob v10,ob u2,ob u1,ob pv1,D1] (smg [4,2] rfl (SP.eq (by simp)))<|art 7 [] rfl ?_
   exact lb [0,0,2,2,2,2] [1] (ih3 (_,_,_,_,_) ⟨h,k3,k4,k5,h14⟩)
  refine atr 4 [] rfl<|lno k5 rfl<|art 3 [] rfl ?_
  refine lin (σ:=Hp × (List ab) × Value × List Nat × Int) (fun s=>[(1,pv1),(2,pQ b_1),(6,iV s4),(7,s.2.2.1),(13,iV (p1.length:Int)),(14,iV s4),(40,u2),(41,iV (s3.length:Int)),(42,iV s.2.2.2.2)]) (fun s=>St w0 s.1 [(b_1,.cells #[pv0_0,pv0_1,pv0_2,pv0_3,pv0_4,pv0_5,iV p0.s.Next,iV p0.id] 162 (0,0))] [s.2.2.2.1,ob s.2.2.1,ob u2,ob pv1,D1]) (fun m s=>cJ N p0 s1 s3 s4 (bv N p0 p1 n1) m s.2.1 s.2.2.2.2=some r∧(OSl aK 130 1 s.1 D1 pv1 s1)∧(OSl cD 160 2 s.1 D3 u2 s3)∧(OSl ax 160 2 s.1 s.2.2.2.1 s.2.2.1 s.2.1)) (Φ_8,s6,u4,D13,0) N ⟨h,k3,k5,k8⟩ (sx [0,0,0,1,1] [0]) (fun n4 ih4 s hm=>?_)
  obtain ⟨Φ_12,s8,u5,D17,s9⟩:=s
  obtain ⟨h,k3,k5,k9⟩:=hm
  dsimp only at h k3 k5 k9 ⊢
  unfold cJ at h
  refine att 5 [] rfl ?_
  refine ch h rfl ?_ ?_ <;> intro h
  ·refine atr 5 [] rfl ?_
   obtain ⟨x8,hx8,h⟩:=bs h
   obtain ⟨cs3,F6,-,g2,hb3,hs2,r4⟩:=k5.elS (a7 hx8).2.2
   obtain ⟨v14,G3,v15,G4,rfl,rfl,h15,h16⟩:=r4
   refine lio k5 hx8 rfl<|lgx 0 2 g2 rfl<|lnz eD rfl fun b_3=>soN 0 sO rfl ⟨h15.one,h16.one,trivial⟩ rfl ?_
   refine en<|wm [0,1] [] rfl<|amm 10 [0,1,40,2,0,3,0,4,4,5,32,6,2,7,0,8,32,9] [0,1] rfl rfl ?_
   obtain ⟨x9,hx9,h⟩:=bs h
   obtain ⟨cs4,F7,-,g3,hb4,hs3,r5⟩:=ph0_2.el (a7 hx9).2.2
   obtain ⟨rfl,-⟩:=r5
   refine mq 10 rfl (by kernel_rfl) (kN [0,1]) (a8 aR rfl rfl ph0_2 hx9) rfl<|mq 11 rfl (by kernel_rfl) (kN [0,1]) (aW vd rfl (fun w1 hw=>(g3.of_eq 0 1 rfl rfl:rg _ _ _ [iV x9]).rangeAt hw.1)) rfl ?_
   obtain ⟨x10,hx10,h⟩:=bs h
   obtain ⟨cs5,F8,-,g4,hb5,hs4,r6⟩:=ph0_4.el (a7 hx10).2.2
   obtain ⟨v16,G5,rfl,hq1,h17⟩:=r6
   obtain rfl:=hq1.symm
   refine mq 12 rfl (by kernel_rfl) (kN [0,1]) (a8 ss rfl rfl ph0_4 hx10) rfl<|amm 1 [13,0] [0,1] rfl rfl<|mq 14 rfl (by kernel_rfl) (kN [0,1]) (aW jK rfl (fun w1 hw=>(g4.of_eq 0 1 rfl rfl:rg _ _ _ [v16]).rangeAt hw.1)) rfl ?_
   obtain ⟨x11,hx11,h⟩:=bs h
   refine WM.one 15 (by kernel_rfl) (mc rfl (fun _ v Φx D w1 hq hw=>Kn.of Kf.nil (ai2 0 1 rfl rfl) hw) (aY (js:=[]) (R:=[D17,ob u5,ob u2,ob pv1,D1]) JI rfl rfl (fun w1 hw ap hl=>ko N (ba hw.fro) p0 x8.Ids x10.L (ph0_0.y hw.up) (ph0_1.y hw.up) (ph0_2.y hw.up) (ph0_3.y hw.up) (ph0_4.y hw.up) (ph0_5.y hw.up) h15 (h17.y hw.up)  hx11)) rfl ?_)
   rintro v17 Φ_13 F9 ⟨ap7,fr9,v18,D18,rfl,rfl,h18⟩
   replace k3:=k3.fr fr9 (ap7.q 3 rfl) (ap7.q 4 rfl)
   replace k5:=k5.fr fr9 (ap7.q 2 rfl) (Dj.sub (ap7.q 4 rfl) i2)
   replace k9:=k9.fr fr9 (ap7.q 1 rfl) (ap7.q 0 rfl)
   obtain ⟨x12,hx12,h⟩:=bs h
   refine WM.one 16 (by kernel_rfl) (me rfl (fun _ v Φx D w1 hq hw=>Kn.of Kf.nil (ai2 0 1 rfl rfl) hw) (gE ax.lasts ax.one cg pC rfl rfl rfl rfl rfl (js:=[3]) (Rr:=[ob v17,D18,D17,ob u2,ob pv1,D1]) rfl k9 h18 (fun ap=>ap.q 2 rfl) (fun ap=>ap.q 1 rfl) hx12) rfl ?_)
   rintro v19 Φ_14 D19 ⟨⟨ap8,fr10⟩,h19⟩
   replace k3:=k3.fr fr10 (ap8.q 4 rfl) (ap8.q 5 rfl)
   replace k5:=k5.fr fr10 (ap8.q 3 rfl) (Dj.sub (ap8.q 5 rfl) i2)
   refine WM.conv (S':=St w0 Φ_14 [(b_3,.cells #[v14,v15] 160 (0,0)),(b_1,.cells #[pv0_0,pv0_1,pv0_2,pv0_3,pv0_4,pv0_5,iV p0.s.Next,iV p0.id] 162 (0,0))] [(D17++D18),ob v19,ob v17,ob u2,ob pv1,D1]) (fun w1 hw=>hw.merge (js:=[3,2]) rfl (SP.eq (by simp)))<|amm 1 [17] [0,1] rfl rfl<|WM.nil (by kernel_rfl)<|att 5 [] rfl ?_
   exact lb [0,0,1,1,1] [1] (ih4 (_,_,_,_,_) ⟨h,k3,k5,h19⟩)
  refine xt rfl ?_
  exact wo [0,0,1,1] [0] (K (_,_,_,_) ⟨h,k3,k9⟩)
 refine xt rfl ?_
 refine WT.fin hF ay.none (fun w1 hw=>?_)
 cases h
 refine bZ (js:=[2,2]) hw rfl ⟨D1,rfl,rfl,k3⟩
theorem B3 (w0:af Ψ Φ [ob pv2_0,pD2_0,ob pv2_1,pD2_1].flatten) (p0:bo) (p1:bc) (p2:aA) (p3:ah) (p4:Int) (ph0_0:RSl cf 5 Ψ pG0_0 pv0_0 p0.Rules) (ph1_0:RSl bf 4 Ψ pG1_0 pv1_0 p1.Alphas) (ph1_1:RSl bz 2 Ψ pG1_1 pv1_1 p1.Chains) (ph2_0:OSl aO 123 1 Φ pD2_0 pv2_0 p2.Alphas) (ph2_1:OSl aP 126 1 Φ pD2_1 pv2_1 p2.Rules) (ph3_0:RSl bE 3 Ψ pG3_0 pv3_0 p3.Items) {r:(List aS) × (List aF)} (h:oV N p0 p1 p2 p3 p4=some r) :
  Calls prog 40 [.agg [.string p0.Name,pv0_0].toArray,.agg [pv1_0,pv1_1].toArray,.agg [pv2_0,pv2_1].toArray,.agg [pv3_0,iV p3.Next].toArray,iV p4].toArray w0.w (aQ Φ w0.w [ob pv2_0,pD2_0,ob pv2_1,pD2_1].flatten (fun Φ' Fs v=>∃ (Do_0_0:List Nat) (Do_1_0:List Nat),v = .tuple #[]∧Fs=[ob pv2_0,Do_0_0,ob pv2_1,Do_1_0]∧OSl aO 123 1 Φ' Do_0_0 pv2_0 r.1∧OSl aP 126 1 Φ' Do_1_0 pv2_1 r.2)):=by
 refine eL func40 rfl ntmps40 rfl (L:=[ob pv2_0,pD2_0,ob pv2_1,pD2_1]) w0 (fun hF=>?_)
 unfold oV at h
 refine sr<|lbx rfl fun b_1=>lbx rfl fun b_2=>lbx rfl fun b_3=>lbx rfl fun b_4=>arr 5 [2] rfl<|kab h rfl rfl rfl (fun b z q=>og N b p3 p4 (ph3_0.y z) q) ?_
 rintro x1 h v1 Φ_1 F1 ⟨ap1,fr1,v2,rfl,rfl,h1⟩
 replace ph2_0:=ph2_0.fr fr1 (ap1.q 0 rfl) (ap1.q 1 rfl)
 replace ph2_1:=ph2_1.fr fr1 (ap1.q 2 rfl) (ap1.q 3 rfl)
 refine arr 3 [] rfl<|lnz kj rfl fun b_5=>soN 0 kL rfl ⟨rfl,h1.one,trivial⟩ rfl ?_
 refine arr 7 [0,96] rfl<|lnr ph1_0 rfl<|art 3 [] rfl ?_
 refine lin (σ:=Hp × (List aS) × List Nat × Int) (fun s=>[(4,iV p4),(5,pQ b_1),(6,pQ b_2),(7,pQ b_3),(8,pQ b_4),(10,pQ b_5),(24,pv1_0),(25,iV (p1.Alphas.length:Int)),(26,iV s.2.2.2)]) (fun s=>St w0 s.1 [(b_5,.cells #[.string x1.1.Kind,v2] 133 (0,0)),(b_4,.cells #[pv3_0,iV p3.Next] 57 (0,0)),(b_3,.cells #[pv2_0,pv2_1] 43 (0,0)),(b_2,.cells #[pv1_0,pv1_1] 52 (0,0)),(b_1,.cells #[.string p0.Name,pv0_0] 47 (0,0))] [ob v2,ob pv2_0,s.2.2.1,ob pv2_1,pD2_1]) (fun m s=>dX N p0 p1 p2 p3 p4 x1 m s.2.1 s.2.2.2=some r∧(OSl aO 123 1 s.1 s.2.2.1 pv2_0 s.2.1)∧(OSl aP 126 1 s.1 pD2_1 pv2_1 p2.Rules)∧(OSl az 193 3 s.1 [] v2 x1.1.Fields)) (Φ_1,p2.Alphas,pD2_0,0) N ⟨h,ph2_0,ph2_1,h1⟩ (sx [0,0,0,0,0] [0,0,0,0,0]) (fun n1 ih1 s hm=>?_)
 obtain ⟨Φ_2,s1,D1,s2⟩:=s
 obtain ⟨h,k1,ph2_1,h1⟩:=hm
 dsimp only at h k1 ph2_1 h1 ⊢
 unfold dX at h
 refine att 5 [] rfl ?_
 refine ch h rfl ?_ ?_ <;> intro h
 ·refine atr 6 [] rfl ?_
  obtain ⟨x2,hx2,h⟩:=bs h
  obtain ⟨cs1,F2,-,g1,hb1,hs1,r1⟩:=ph1_0.el (a7 hx2).2.2
  obtain ⟨v3,G1,v4,G2,rfl,rfl,h2,h3⟩:=r1
  refine lia ph1_0 hx2 rfl<|lhx 0 4 g1 rfl<|lnz kP rfl fun b_6=>la rfl<|soN 0 qP rfl ⟨rfl,rfl,h2.one,h3.one,trivial⟩ rfl ?_
  refine arr 5 [4,34] rfl<|qz h (fun b z q=>C4 N b x2 x1.1 (h2.y z) (h3.y z) h1.rsl q) rfl rfl rfl fun x3 h=>en ?_
  refine ch h rfl ?_ ?_ <;> intro h
  ·obtain ⟨x4,hx4,h⟩:=bs h
   obtain ⟨cs2,F3,D2,h4,r2,kf1,sp1⟩:=k1.focus hx4
   obtain ⟨v5,rfl,rfl,h5⟩:=r2
   refine wtL [ob v5,D2,ob v2,ob pv2_0,ob pv2_1,pD2_1] (sre [2] [ob v5,D2] rfl (by simpa [List.append_assoc] using sp1))<|WT.mix (Kn w0 Φ_2 (ob pv2_0) [(b_6,.cells #[.string x2.Kind,iV x2.N,v3,v4] 142 (0,0)),(b_5,.cells #[.string x1.1.Kind,v2] 133 (0,0)),(b_4,.cells #[pv3_0,iV p3.Next] 57 (0,0)),(b_3,.cells #[pv2_0,pv2_1] 43 (0,0)),(b_2,.cells #[pv1_0,pv1_1] 52 (0,0)),(b_1,.cells #[.string p0.Name,pv0_0] 47 (0,0))]) (fun i=>match i with | 14=>false | _=>true) co (fun _ h=>h.drew) ?_
   refine mq 0 rfl (by kernel_rfl) (kn Kf.id (am [0,1,2,3,4,5] rfl)) (aB to rfl) rfl<|mq 1 rfl (by kernel_rfl) (kn Kf.id (am [0,1,2,3,4,5] rfl)) (aW FG rfl (fun w1 hw=>hw.rgO (i:=3) rfl 0 1 [pv2_0] rfl)) rfl<|ma 2 rfl (by kernel_rfl) (kn Kf.id (am [0,1,2,3,4,5] rfl)) rfl<|mq 3 rfl (by kernel_rfl) (kn Kf.id (am [0,1,2,3,4,5] rfl)) (aB to rfl) rfl<|mq 4 rfl (by kernel_rfl) (kn Kf.id (am [0,1,2,3,4,5] rfl)) (aW FG rfl (fun w1 hw=>hw.rgO (i:=3) rfl 0 1 [pv2_0] rfl)) rfl ?_
   refine ma 5 rfl (by kernel_rfl) (kn Kf.id (am [0,1,2,3,4,5] rfl)) rfl<|mq 6 rfl (by kernel_rfl) (kn Kf.id (am [0,1,2,3,4,5] rfl)) (dM ss rfl rfl h4 hx4) rfl<|mq 7 rfl (by kernel_rfl) (kn Kf.id (am [0,1,2,3,4,5] rfl)) (aB mr rfl) rfl<|mq 8 rfl (by kernel_rfl) (kn Kf.id (am [0,1,2,3,4,5] rfl)) (aW jK rfl (fun w1 hw=>hw.rg h4.hb (h4.rg.of_eq 0 1 rfl rfl:rg _ _ _ [v5]))) rfl<|ma 9 rfl (by kernel_rfl) (kn Kf.id (am [0,1,2,3,4,5] rfl)) rfl ?_
   have rc1:RC (RI .i64) 1 Φ_2 ([[]]:List (List Nat)) [iV p4] ([p4]:List Int):=RC.cons (c:=[iV p4]) (cells:=[]) ⟨rfl,rfl⟩ rfl (RC.nil _ _ _)
   refine WM.one 10 (by kernel_rfl) (me rfl (fun _ v Φx D w1 hq hw=>Kn.of (Kf.id.se hq.1) (am [0,1,2,3,4,5] rfl) hw) (cu (vs:=[(0,iV p4)]) (C:=#[iV p4]) RI.lasts aR o7 rfl rfl rfl rfl (aI mE (ai (C':=[iV p4]) rfl rfl rfl rfl rfl (ak))) rfl rc1 rfl (by simpa using Kw.nil)) rfl ?_)
   rintro v6 Φ_3 D3 ⟨fr2,h6⟩
   replace h6:OSl (RI .i64) 3 1 Φ_3 [] v6 ([p4]:List Int):=by simpa using h6
   replace h4:=h4.f0 fr2
   replace ph2_1:=ph2_1.f0 fr2
   replace h1:=h1.f0 fr2
   replace h5:=h5.f0 fr2
   obtain ⟨x5,hx5,h⟩:=bs h
   have kf1:=(Kf.id (F:=(ob pv2_0)):Kf Φ_2 _ _).se fr2
   refine WM.one 11 (by kernel_rfl) (me rfl (fun _ v Φx D w1 hq hw=>Kn.of (kf1.st hq.1.2 (hq.1.1.r (i:=3) rfl)) (am [0,1,2,3,4,5] rfl) hw) (cP RI.lasts RI.one RI.flat aR sP rfl rfl rfl rfl rfl (js:=[1]) (Rr:=[ob v6,D2,ob v2,ob pv2_0,ob pv2_1,pD2_1]) rfl h5 h6.rsl hx5) rfl ?_)
   rintro v7 Φ_4 D4 ⟨⟨ap2,fr3⟩,h7⟩
   replace h4:=h4.fr fr3 (ap2.q 3 rfl) (ap2.q 1 rfl)
   replace ph2_1:=ph2_1.fr fr3 (ap2.q 4 rfl) (ap2.q 5 rfl)
   replace h1:=h1.fr fr3 (ap2.q 2 rfl) dN
   have kf2:=kf1.st fr3 (ap2.q 3 rfl)
   refine mqT 12 [13,14] rfl (by kernel_rfl) (kn kf2 (am [0,1,2,3,4,5] rfl)) (dM ss rfl rfl h4 hx4) rfl<|mq 13 rfl (by kernel_rfl) (kn kf2 (am [0,1,2,3,4,5] rfl)) (aB mr rfl) rfl ?_
   refine WM.one 14 (by kernel_rfl) (mu rfl (fun hc=>by cases hc) (us [4] [ob v7,ob v6,D2,ob v2,ob pv2_1,pD2_1] 0 aO.lasts kO rfl rfl h7.one rfl h4 rfl (fun ap=>ap.q 2 rfl)) rfl ?_)
   rintro Φ_5 D5 ⟨⟨ap3,fr4⟩,h8⟩
   replace ph2_1:=ph2_1.fr fr4 (ap3.q 4 rfl) (ap3.q 5 rfl)
   replace h1:=h1.fr fr4 (ap3.q 3 rfl) dN
   replace h7:=h7.fr fr4 (ap3.q 0 rfl) dN
   refine WM.nil (by kernel_rfl)<|att 5 [] rfl ?_
   have r3:aO Φ_5 _ [v7] (⟨x5⟩:aS):=⟨v7,rfl,rfl,h7⟩
   obtain ⟨D6,h9,sp2⟩:=h8.unfocus r3 (aO.knows _ _ _ _ r3)
   refine wtL [D6,ob pv2_0,ob v6,ob v2,ob pv2_1,pD2_1] (smg [1,2] rfl (by simpa [List.append_assoc,bl] using sp2)) ?_
   exact lb [3,1,0,1,1] [1,1,1,1,1] (ih1 (_,_,_,_) ⟨h,h9,ph2_1,h1⟩)
  refine att 6 [] rfl ?_
  exact lb [0,0,0,0,0] [1,1,1,1,1] (ih1 (_,_,_,_) ⟨h,k1,ph2_1,h1⟩)
 refine atr 5 [1,64] rfl<|lno ph2_1 rfl<|art 3 [] rfl ?_
 refine lin (σ:=Hp × (List aF) × List Nat × Int) (fun s=>[(4,iV p4),(5,pQ b_1),(6,pQ b_2),(7,pQ b_3),(8,pQ b_4),(50,pv2_1),(51,iV (p2.Rules.length:Int)),(52,iV s.2.2.2)]) (fun s=>St w0 s.1 [(b_4,.cells #[pv3_0,iV p3.Next] 57 (0,0)),(b_3,.cells #[pv2_0,pv2_1] 43 (0,0)),(b_2,.cells #[pv1_0,pv1_1] 52 (0,0)),(b_1,.cells #[.string p0.Name,pv0_0] 47 (0,0))] [ob pv2_0,D1,ob pv2_1,s.2.2.1]) (fun m s=>dS N p0 p1 p2 p3 p4 s1 m s.2.1 s.2.2.2=some r∧(OSl aO 123 1 s.1 D1 pv2_0 s1)∧(OSl aP 126 1 s.1 s.2.2.1 pv2_1 s.2.1)) (Φ_2,p2.Rules,pD2_1,0) N ⟨h,k1,ph2_1⟩ (sx [1,1,1,1] [1,1,1,1]) (fun n2 ih2 s hm=>?_)
 obtain ⟨Φ_6,s3,D7,s4⟩:=s
 obtain ⟨h,k1,k2⟩:=hm
 dsimp only at h k1 k2 ⊢
 unfold dS at h
 refine att 5 [] rfl ?_
 refine ch h rfl ?_ ?_ <;> intro h
 ·refine atr 6 [] rfl ?_
  obtain ⟨x6,hx6,h⟩:=bs h
  obtain ⟨cs3,F4,D8,h10,r4,kf2,sp3⟩:=k2.focus hx6
  obtain ⟨v8,D9,rfl,rfl,h11⟩:=r4
  refine wlL [ob v8,D9,D8,ob pv2_0,D1,ob pv2_1] (sre [3] [ob v8,D9,D8] rfl (by simpa [List.append_assoc] using sp3))<|lih h10 hx6 rfl<|lgx 0 1 h10.rg rfl ?_
  refine ln (ig (C:=#[.slice none 0 0]) rG rfl) rfl (fun b_7=>?_)
  refine la rfl<|soN 0 xK rfl ⟨h11.one,trivial⟩ rfl ?_
  refine arr 9 [130,98,66,34] rfl<|kab h rfl rfl rfl (fun b z q=>yL N b p0 p1 (⟨s1,s3⟩:aA) p3 p4 s4 (ph0_0.y z) (ph1_1.y z) (k1.rslG aO.gives) (ph3_0.y z) q) ?_
  rintro x7 h v9 Φ_7 F5 ⟨ap4,fr5,v10,D10,v11,D11,v12,G3,v13,G4,v14,G5,v15,G6,rfl,rfl,h12,i1,h13,i2,h14,i3,h15,i4,h16,i5,h17,i6⟩
  replace k1:=k1.fr fr5 (ap4.q 3 rfl) (ap4.q 4 rfl)
  replace h10:=h10.fr fr5 (ap4.q 5 rfl) (ap4.q 2 rfl)
  replace h11:=h11.fr fr5 (ap4.q 0 rfl) (ap4.q 1 rfl)
  refine lnz H4 rfl fun b_8=>soN 0 IX rfl ⟨h12.one,h13.one,h14.one,h15.one,h16.one,h17.one,rfl,rfl,trivial⟩ rfl ?_
  refine en<|sq<|WT.mix (Kn w0 Φ_7 (ob v8) [(b_8,.cells #[v10,v11,v12,v13,v14,v15,iV x7.s.Next,iV x7.id] 162 (0,0)),(b_7,.cells #[v8] 126 (0,0)),(b_4,.cells #[pv3_0,iV p3.Next] 57 (0,0)),(b_3,.cells #[pv2_0,pv2_1] 43 (0,0)),(b_2,.cells #[pv1_0,pv1_1] 52 (0,0)),(b_1,.cells #[.string p0.Name,pv0_0] 47 (0,0))]) (fun i=>match i with | 10=>false | _=>true) co (fun _ h=>h.drew) ?_
  refine mq 0 rfl (by kernel_rfl) (kn Kf.id (am [0,1,2,3,4,5] rfl)) (ao IF rfl (fun w1 hw=>hw.rgO (i:=0) rfl 0 8 [v10,v11,v12,v13,v14,v15,iV x7.s.Next,iV x7.id] rfl) rfl) rfl<|mqT 1 [2,7,8,9,10] rfl (by kernel_rfl) (kn Kf.id (am [0,1,2,3,4,5] rfl)) (aB jA rfl) rfl<|mqT 2 [7,8,9,10] rfl (by kernel_rfl) (kn Kf.id (am [0,1,2,3,4,5] rfl)) (aW Hi rfl (fun w1 hw=>hw.rgO (i:=1) rfl 0 1 [v8] rfl)) rfl ?_
  refine mqT 3 [4,5,6,7,8,9,10] rfl (by kernel_rfl) (kn Kf.id (am [0,1,2,3,4,5] rfl)) (aB jA rfl) rfl<|mqT 4 [5,6,7,8,9,10] rfl (by kernel_rfl) (kn Kf.id (am [0,1,2,3,4,5] rfl)) (aW Hi rfl (fun w1 hw=>hw.rgO (i:=1) rfl 0 1 [v8] rfl)) rfl<|mqT 5 [6,7,8,9,10] rfl (by kernel_rfl) (kn Kf.id (am [0,1,2,3,4,5] rfl)) (xH pw rfl rfl (h11.rslG aK.gives)) rfl<|mqT 6 [7,8,9,10] rfl (by kernel_rfl) (kn Kf.id (am [0,1,2,3,4,5] rfl)) (IJ rfl rfl) rfl ?_
  obtain ⟨x8,hx8,h⟩:=bs h
  obtain ⟨cs4,F6,D12,h18,r5,kf3,sp4⟩:=h11.focus hx8
  obtain ⟨v16,D13,rfl,rfl,h19⟩:=r5
  refine WM.conv (S':=St w0 Φ_7 [(b_8,.cells #[v10,v11,v12,v13,v14,v15,iV x7.s.Next,iV x7.id] 162 (0,0)),(b_7,.cells #[v8] 126 (0,0)),(b_4,.cells #[pv3_0,iV p3.Next] 57 (0,0)),(b_3,.cells #[pv2_0,pv2_1] 43 (0,0)),(b_2,.cells #[pv1_0,pv1_1] 52 (0,0)),(b_1,.cells #[.string p0.Name,pv0_0] 47 (0,0))] [ob v16,D13,D12,ob v10,ob v11,ob v8,D8,ob pv2_0,D1,ob pv2_1]) (fun w1 hw=>hw.re (js:=[3]) (Bs:=[ob v16,D13,D12]) rfl (by simpa [List.append_assoc] using sp4)) ?_
  refine mqT 7 [8,9,10] rfl (by kernel_rfl) (kn Kf.id (am [0,1,2,3,4,5] rfl)) (dM pw rfl rfl h18 hx8) rfl<|mqT 8 [9,10] rfl (by kernel_rfl) (kn Kf.id (am [0,1,2,3,4,5] rfl)) (aB gg rfl) rfl<|mq 9 rfl (by kernel_rfl) (kn Kf.id (am [0,1,2,3,4,5] rfl)) (aW Ff rfl (fun w1 hw=>hw.rg h18.hb (h18.rg.of_eq 0 1 rfl rfl:rg _ _ _ [v16]))) rfl ?_
  obtain ⟨x9,hx9,h⟩:=bs h
  refine WM.one 10 (by kernel_rfl) (mc rfl (fun hc=>by cases hc) (aY (js:=[0,0]) (R:=[D12,ob v10,ob v11,ob v8,D8,ob pv2_0,D1,ob pv2_1]) LF rfl rfl (fun w1 hw ap hl=>ve N (bx hw ap hl) x7 x8.Toks 1 (h12.rsl.x (Dj.app (ap.q 1 rfl) (Dj.sub (ap.o ph0_0.old) i1))) (h13.rsl.x (Dj.app (ap.q 2 rfl) (Dj.sub (ap.o ph0_0.old) i2))) (h14.x (Dj.sub (ap.o ph1_1.old) i3)) (h15.x (Dj.sub (ap.o ph1_1.old) i4)) (h16.x (Dj.sub (Dj.app (ap.q 5 rfl) (ap.q 6 rfl)) i5)) (h17.x (Dj.sub (ap.o ph3_0.old) i6)) h19  hx9)) rfl ?_)
  rintro v17 Φ_8 F7 ⟨ap5,fr6,D14,rfl,rfl,h20⟩
  replace h14:=h14.fr fr6 (Dj.sub (ap5.o ph1_1.old) i3)
  replace h15:=h15.fr fr6 (Dj.sub (ap5.o ph1_1.old) i4)
  replace h16:=h16.fr fr6 (Dj.sub (Dj.app (ap5.q 5 rfl) (ap5.q 6 rfl)) i5)
  replace h17:=h17.fr fr6 (Dj.sub (ap5.o ph3_0.old) i6)
  replace k1:=k1.fr fr6 (ap5.q 5 rfl) (ap5.q 6 rfl)
  replace h10:=h10.fr fr6 (ap5.q 7 rfl) (ap5.q 4 rfl)
  replace h18:=h18.fr fr6 (ap5.q 3 rfl) (ap5.q 0 rfl)
  replace h12:=h12.fr fr6 (ap5.q 1 rfl) (Dj.sub (ap5.o ph0_0.old) i1)
  replace h13:=h13.fr fr6 (ap5.q 2 rfl) (Dj.sub (ap5.o ph0_0.old) i2)
  refine WM.nil (by kernel_rfl)<|atr 4 [8,0,32] rfl ?_
  have r6:aK Φ_8 _ [v16] (⟨x9⟩:aa):=⟨v16,D14,rfl,rfl,h20⟩
  obtain ⟨D15,h21,sp5⟩:=h18.unfocus r6 (aK.knows _ _ _ _ r6)
  refine wlL [D15,ob v10,ob v11,ob v8,D8,ob pv2_0,D1,ob pv2_1] (smg [0,0,0] rfl (by simpa [List.append_assoc,bl] using sp5))<|kcb [3,0] h rfl rfl rfl rfl (fun b ap z q=>vJ N b x7 (x6.Levels.set (wz ((x6.Levels.length:Int) - 1)).toNat (⟨x9⟩:aa)) (h12.rsl.x (Dj.app (ap.q 0 rfl) (Dj.sub (ap.o ph0_0.old) i1))) (h13.rsl.x (Dj.app (ap.q 1 rfl) (Dj.sub (ap.o ph0_0.old) i2))) (h14.x (Dj.sub (ap.o ph1_1.old) i3)) (h15.x (Dj.sub (ap.o ph1_1.old) i4)) (h16.x (Dj.sub (Dj.app (ap.q 3 rfl) (ap.q 4 rfl)) i5)) (h17.x (Dj.sub (ap.o ph3_0.old) i6)) h21 q) ?_
  rintro x10 h v18 Φ_9 F8 ⟨ap6,fr7,D16,rfl,rfl,h22⟩
  replace k1:=k1.fr fr7 (ap6.q 3 rfl) (ap6.q 4 rfl)
  replace h10:=h10.fr fr7 (ap6.q 5 rfl) (ap6.q 2 rfl)
  refine art 6 [] rfl ?_
  have r7:aP Φ_9 _ [v8] (⟨x10⟩:aF):=⟨v8,D16,rfl,rfl,h22⟩
  obtain ⟨D17,h23,sp6⟩:=h10.unfocus r7 (aP.knows _ _ _ _ r7)
  refine wtL [D17,ob v10,ob v11,ob pv2_0,D1,ob pv2_1] (smg [0,0,2] rfl (by simpa [List.append_assoc,bl] using sp6)) ?_
  exact lb [3,3,3,0] [2,2,2,2] (ih2 (_,_,_,_) ⟨h,k1,h23⟩)
 refine xt rfl ?_
 refine WT.fin hF ay.none (fun w1 hw=>?_)
 cases h
 refine bZ (js:=[0,0,0,0]) hw rfl ⟨D1,D7,rfl,rfl,k1,k2⟩
theorem gq (w0:af Ψ Φ []) (p0:bo) (p1:bc) (p2:aA) (p3:ah) (p4:Int) (ph0_0:RSl cf 5 Ψ pG0_0 pv0_0 p0.Rules) (ph1_0:RSl bf 4 Ψ pG1_0 pv1_0 p1.Alphas) (ph1_1:RSl bz 2 Ψ pG1_1 pv1_1 p1.Chains) (ph2_0:RSl dD 1 Ψ pG2_0 pv2_0 p2.Alphas) (ph2_1:RSl fM 1 Ψ pG2_1 pv2_1 p2.Rules) (ph3_0:RSl bE 3 Ψ pG3_0 pv3_0 p3.Items) {r:aA} (h:m9 N p0 p1 p2 p3 p4=some r) :
  Calls prog 13 [.agg [.string p0.Name,pv0_0].toArray,.agg [pv1_0,pv1_1].toArray,.agg [pv2_0,pv2_1].toArray,.agg [pv3_0,iV p3.Next].toArray,iV p4].toArray w0.w (aQ Φ w0.w [] (fun Φ' Fs v=>∃ (sr_0_0:Value) (Dr_0_0:List Nat) (sr_0_1:Value) (Dr_0_1:List Nat),v = .agg [sr_0_0,sr_0_1].toArray∧Fs=[ob sr_0_0,Dr_0_0,ob sr_0_1,Dr_0_1]∧OSl aO 123 1 Φ' Dr_0_0 sr_0_0 r.Alphas∧OSl aP 126 1 Φ' Dr_0_1 sr_0_1 r.Rules)):=by
 refine eN func13 rfl ntmps13 rfl w0 fun hF=>?_
 unfold m9 at h
 refine sr<|lbx rfl fun b_1=>lbx rfl fun b_2=>lbx rfl fun b_3=>lbx rfl fun b_4=>lnz j6 rfl fun b_5=>arr 4 [66] rfl<|kab h rfl rfl rfl (fun b z q=>AB N b p2 (ph2_0.y z) (ph2_1.y z) q) ?_
 rintro x1 h v1 Φ_1 F1 ⟨ap1,fr1,v2,D1,v3,D2,rfl,rfl,h1,h2⟩
 refine lnz j6 rfl fun b_6=>soN 0 kI rfl ⟨h1.one,h2.one,trivial⟩ rfl ?_
 refine arr 9 [162,130,98,66] rfl<|qd h (Cb N · p0 p1 p2 p3 p4 ph0_0 ph1_0 ph1_1 ph2_0 ph2_1 ph3_0 ·) rfl rfl rfl fun x2 h=>en ?_
 refine cut (σ:=Hp × (List aS) × List Nat × (List aF) × List Nat) (fun s=>[(10,pQ b_5),(11,pQ b_6)]) (fun s=>St w0 s.1 [(b_6,.cells #[v2,v3] 43 (0,0)),(b_5,.cells #[.slice none 0 0,.slice none 0 0] 43 (0,0))] [ob v2,s.2.2.1,ob v3,s.2.2.2.2]) (fun s=>nc N s.2.1 s.2.2.2.1=some r∧(OSl aO 123 1 s.1 s.2.2.1 v2 s.2.1)∧(OSl aP 126 1 s.1 s.2.2.2.2 v3 s.2.2.2.1)) (fun s hm=>?_) (fun K=>?_)
 ·clear h
  obtain ⟨Φ_2,s1,D3,s2,D4⟩:=s
  obtain ⟨h,k1,k2⟩:=hm
  dsimp only at h k1 k2 ⊢
  unfold nc at h
  refine atr 3 [2] rfl<|soN 1 kI rfl ⟨k1.one,k2.one,trivial⟩ rfl ?_
  refine en ?_
  exact rtg [0,0,0,0] hF (ay.one (bB Gl rfl (fun w1 hw=>hw.rgO (i:=1) rfl 0 2 [v2,v3] rfl) rfl)) rfl (by cases h; exact fun w1 hw=>⟨v2,D3,v3,D4,rfl,rfl,k1,k2⟩)
 refine ch h rfl ?_ ?_ <;> intro h
 ·refine atr 6 [162,130,2,66] rfl<|kcb [0,0,0,0] h rfl rfl rfl rfl (fun b ap z q=>B3 N b p0 p1 x1 p3 p4 (ph0_0.y z) (ph1_0.y z) (ph1_1.y z) h1 h2 (ph3_0.y z) q) ?_
  rintro x3 h v4 Φ_3 F2 ⟨ap2,fr2,D5,D6,rfl,rfl,h3,h4⟩
  refine en ?_
  exact wo [0,0,0,0] [0,0] (K (_,_,_,_,_) ⟨h,h3,h4⟩)
 refine WT.skip ?_
 exact wo [0,0,0,0] [0,0] (K (_,_,_,_,_) ⟨h,h1,h2⟩)
theorem jd (w0:af Ψ Φ []) (p0:(List Int)) (p1:(List Int)) (ph0:RSl (RI .i64) 1 Ψ pG0 pv0 p0) (ph1:RSl (RI .i64) 1 Ψ pG1 pv1 p1) {r:Bool} (h:ib N p0 p1=some r) :
  CB w0 prog 138 [pv0,pv1] (.bool r):=by
 refine eN func138 rfl ntmps138 rfl w0 fun hF=>?_
 unfold ib at h
 refine atr 8 [] rfl<|lnr ph0 rfl<|la rfl<|lnr ph1 rfl<|la rfl<|en ?_
 refine ch h rfl ?_ ?_ <;> intro h
 ·refine att 4 [] rfl ?_
  exact rt hF h
 refine att 7 [] rfl ?_
 refine lin (σ:=Int) (fun s=>[(0,pv0),(1,pv1),(5,iV s)]) (fun s=>St w0 Φ [] []) (fun m s=>jF N p0 p1 m s=some r) (0) N h (sx [] []) (fun n1 ih1 s hm=>?_)
 revert hm; revert s; intro s1 hm
 have h:jF N p0 p1 (n1+1) s1=some r:=hm
 show WT _ _ [(0,pv0),(1,pv1),(5,iV s1)] (St w0 Φ [] [])
 unfold jF at h
 refine atr 5 [] rfl<|lnr ph0 rfl<|la rfl<|en ?_
 refine ch h rfl ?_ ?_ <;> intro h
 ·refine att 4 [] rfl<|WT.draw co (by kernel_rfl) (fun _ h=>h.drew)<|aqq 2 [] rfl ?_
  obtain ⟨x1,hx1,h⟩:=bs h
  obtain ⟨cs1,F1,-,g1,hb1,hs1,r1⟩:=ph0.el (a7 hx1).2.2
  obtain ⟨rfl,-⟩:=r1
  refine qq (a8 aR rfl rfl ph0 hx1) rfl<|qq (aW vd rfl (fun w1 hw=>(g1.of_eq 0 1 rfl rfl:rg _ _ _ [iV x1]).rangeAt hw.in0)) rfl<|aqq 2 [] rfl ?_
  obtain ⟨x2,hx2,h⟩:=bs h
  obtain ⟨cs2,F2,-,g2,hb2,hs2,r2⟩:=ph1.el (a7 hx2).2.2
  obtain ⟨rfl,-⟩:=r2
  refine qq (a8 aR rfl rfl ph1 hx2) rfl<|qq (aW vd rfl (fun w1 hw=>(g2.of_eq 0 1 rfl rfl:rg _ _ _ [iV x2]).rangeAt hw.in0)) rfl<|aqt 2 [] rfl ?_
  refine ch h rfl ?_ ?_ <;> intro h
  ·refine att 4 [] rfl ?_
   exact rt hF h
  refine att 7 [] rfl ?_
  exact lb [] [] (ih1 _ h)
 refine att 5 [] rfl ?_
 exact rt hF h
theorem EJ (w0:af Ψ Φ []) (p0:aS) (p1:aS) (ph0_0:RSl (RI .i64) 1 Ψ pG0_0 pv0_0 p0.L) (ph1_0:RSl (RI .i64) 1 Ψ pG1_0 pv1_0 p1.L) {r:Bool} (h:qu N p0 p1=some r) :
  CB w0 prog 83 [.agg [pv0_0].toArray,.agg [pv1_0].toArray] (.bool r):=by
 refine eN func83 rfl ntmps83 rfl w0 fun hF=>?_
 unfold qu at h
 refine sr ?_
 refine ln (si (C:=#[pv0_0]) rfl rfl) rfl (fun b_1=>?_)
 refine ln (si (C:=#[pv1_0]) rfl rfl) rfl (fun b_2=>?_)
 refine arr 9 [0,32,0,0] rfl<|qd h (jd N · p0.L p1.L ph0_0 ph1_0 ·) rfl rfl rfl fun x1 h=>la rfl<|en ?_
 refine ch h rfl ?_ ?_ <;> intro h
 ·refine att 4 [] rfl ?_
  exact rt hF h
 refine att 5 [] rfl ?_
 exact rt hF h
theorem CH (w0:af Ψ Φ []) (p0:(List aS)) (p1:(List aS)) (ph0:RSl dD 1 Ψ pG0 pv0 p0) (ph1:RSl dD 1 Ψ pG1 pv1 p1) {r:Bool} (h:rn N p0 p1=some r) :
  CB w0 prog 41 [pv0,pv1] (.bool r):=by
 refine eN func41 rfl ntmps41 rfl w0 fun hF=>?_
 unfold rn at h
 refine atr 8 [] rfl<|lnr ph0 rfl<|la rfl<|lnr ph1 rfl<|la rfl<|en ?_
 refine ch h rfl ?_ ?_ <;> intro h
 ·refine att 4 [] rfl ?_
  exact rt hF h
 refine att 7 [] rfl ?_
 refine lin (σ:=Int) (fun s=>[(0,pv0),(1,pv1),(5,iV s)]) (fun s=>St w0 Φ [] []) (fun m s=>jq N p0 p1 m s=some r) (0) N h (sx [] []) (fun n1 ih1 s hm=>?_)
 revert hm; revert s; intro s1 hm
 have h:jq N p0 p1 (n1+1) s1=some r:=hm
 show WT _ _ [(0,pv0),(1,pv1),(5,iV s1)] (St w0 Φ [] [])
 unfold jq at h
 refine atr 5 [] rfl<|lnr ph0 rfl<|la rfl<|en ?_
 refine ch h rfl ?_ ?_ <;> intro h
 ·refine att 4 [] rfl<|WT.draw co (by kernel_rfl) (fun _ h=>h.drew)<|aqq 2 [] rfl ?_
  obtain ⟨x1,hx1,h⟩:=bs h
  obtain ⟨cs1,F1,-,g1,hb1,hs1,r1⟩:=ph0.el (a7 hx1).2.2
  obtain ⟨v1,G1,rfl,hq1,h1⟩:=r1
  obtain rfl:=hq1.symm
  refine qq (a8 ss rfl rfl ph0 hx1) rfl<|qq (ao EW rfl (fun w1 hw=>(g1.of_eq 0 1 rfl rfl:rg _ _ _ [v1]).rangeAt hw.in0) rfl) rfl<|aqq 2 [] rfl ?_
  obtain ⟨x2,hx2,h⟩:=bs h
  obtain ⟨cs2,F2,-,g2,hb2,hs2,r2⟩:=ph1.el (a7 hx2).2.2
  obtain ⟨v2,G2,rfl,hq2,h2⟩:=r2
  obtain rfl:=hq2.symm
  refine qq (a8 ss rfl rfl ph1 hx2) rfl<|qq (ao EW rfl (fun w1 hw=>(g2.of_eq 0 1 rfl rfl:rg _ _ _ [v2]).rangeAt hw.in0) rfl) rfl ?_
  obtain ⟨x3,hx3,h⟩:=bs h
  refine qp (bP Lw rfl (fun w1 hw=>EJ N (ba hw.in0) x1 x2 h1 h2 hx3)) rfl<|aqt 2 [] rfl ?_
  refine ch h rfl ?_ ?_ <;> intro h
  ·refine att 4 [] rfl ?_
   exact rt hF h
  refine att 7 [] rfl ?_
  exact lb [] [] (ih1 _ h)
 refine att 5 [] rfl ?_
 exact rt hF h
theorem Fg (w0:af Ψ Φ []) (p0:ab) (p1:ab) (ph0_0:RSl (RI .i64) 1 Ψ pG0_0 pv0_0 p0.Ids) (ph0_1:RSl (RI .i64) 1 Ψ pG0_1 pv0_1 p0.Hits) (ph1_0:RSl (RI .i64) 1 Ψ pG1_0 pv1_0 p1.Ids) (ph1_1:RSl (RI .i64) 1 Ψ pG1_1 pv1_1 p1.Hits) {r:Bool} (h:qa N p0 p1=some r) :
  CB w0 prog 238 [.agg [pv0_0,pv0_1].toArray,.agg [pv1_0,pv1_1].toArray] (.bool r):=by
 refine eN func238 rfl ntmps238 rfl w0 fun hF=>?_
 unfold qa at h
 refine sr<|lbx rfl fun b_1=>lbx rfl fun b_2=>arr 9 [0,32,0,0] rfl<|qd h (jd N · p0.Ids p1.Ids ph0_0 ph1_0 ·) rfl rfl rfl fun x1 h=>la rfl<|en ?_
 refine ch h rfl ?_ ?_ <;> intro h
 ·refine att 4 [] rfl ?_
  exact rt hF h
 refine atr 8 [1,32,1,0] rfl<|qd h (jd N · p0.Hits p1.Hits ph0_1 ph1_1 ·) rfl rfl rfl fun x2 h=>la rfl<|en ?_
 refine ch h rfl ?_ ?_ <;> intro h
 ·refine att 4 [] rfl ?_
  exact rt hF h
 refine att 5 [] rfl ?_
 exact rt hF h
theorem BO (w0:af Ψ Φ []) (p0:(List ab)) (p1:(List ab)) (ph0:RSl cD 2 Ψ pG0 pv0 p0) (ph1:RSl cD 2 Ψ pG1 pv1 p1) {r:Bool} (h:qX N p0 p1=some r) :
  CB w0 prog 215 [pv0,pv1] (.bool r):=by
 refine eN func215 rfl ntmps215 rfl w0 fun hF=>?_
 unfold qX at h
 refine atr 8 [] rfl<|lnr ph0 rfl<|la rfl<|lnr ph1 rfl<|la rfl<|en ?_
 refine ch h rfl ?_ ?_ <;> intro h
 ·refine att 4 [] rfl ?_
  exact rt hF h
 refine att 7 [] rfl ?_
 refine lin (σ:=Int) (fun s=>[(0,pv0),(1,pv1),(5,iV s)]) (fun s=>St w0 Φ [] []) (fun m s=>jn N p0 p1 m s=some r) (0) N h (sx [] []) (fun n1 ih1 s hm=>?_)
 revert hm; revert s; intro s1 hm
 have h:jn N p0 p1 (n1+1) s1=some r:=hm
 show WT _ _ [(0,pv0),(1,pv1),(5,iV s1)] (St w0 Φ [] [])
 unfold jn at h
 refine atr 5 [] rfl<|lnr ph0 rfl<|la rfl<|en ?_
 refine ch h rfl ?_ ?_ <;> intro h
 ·refine att 4 [] rfl<|WT.draw co (by kernel_rfl) (fun _ h=>h.drew)<|aqq 2 [] rfl ?_
  obtain ⟨x1,hx1,h⟩:=bs h
  obtain ⟨cs1,F1,-,g1,hb1,hs1,r1⟩:=ph0.el (a7 hx1).2.2
  obtain ⟨v1,G1,v2,G2,rfl,rfl,h1,h2⟩:=r1
  refine qq (a8 cg rfl rfl ph0 hx1) rfl<|qq (ao zM rfl (fun w1 hw=>(g1.of_eq 0 2 rfl rfl:rg _ _ _ [v1,v2]).rangeAt hw.in0) rfl) rfl<|aqq 2 [] rfl ?_
  obtain ⟨x2,hx2,h⟩:=bs h
  obtain ⟨cs2,F2,-,g2,hb2,hs2,r2⟩:=ph1.el (a7 hx2).2.2
  obtain ⟨v3,G3,v4,G4,rfl,rfl,h3,h4⟩:=r2
  refine qq (a8 cg rfl rfl ph1 hx2) rfl<|qq (ao zM rfl (fun w1 hw=>(g2.of_eq 0 2 rfl rfl:rg _ _ _ [v3,v4]).rangeAt hw.in0) rfl) rfl ?_
  obtain ⟨x3,hx3,h⟩:=bs h
  refine qp (bP Kk rfl (fun w1 hw=>Fg N (ba hw.in0) x1 x2 h1 h2 h3 h4 hx3)) rfl<|aqt 2 [] rfl ?_
  refine ch h rfl ?_ ?_ <;> intro h
  ·refine att 4 [] rfl ?_
   exact rt hF h
  refine att 7 [] rfl ?_
  exact lb [] [] (ih1 _ h)
 refine att 5 [] rfl ?_
 exact rt hF h
theorem A6 (w0:af Ψ Φ []) (p0:aa) (p1:aa) (ph0_0:RSl cD 2 Ψ pG0_0 pv0_0 p0.Toks) (ph1_0:RSl cD 2 Ψ pG1_0 pv1_0 p1.Toks) {r:Bool} (h:lZ N p0 p1=some r) :
  CB w0 prog 182 [.agg [pv0_0].toArray,.agg [pv1_0].toArray] (.bool r):=by
 refine eN func182 rfl ntmps182 rfl w0 fun hF=>?_
 unfold lZ at h
 refine sr ?_
 refine ln (si (C:=#[pv0_0]) rfl rfl) rfl (fun b_1=>?_)
 refine ln (si (C:=#[pv1_0]) rfl rfl) rfl (fun b_2=>?_)
 refine arr 9 [0,32,0,0] rfl<|qd h (BO N · p0.Toks p1.Toks ph0_0 ph1_0 ·) rfl rfl rfl fun x1 h=>la rfl<|en ?_
 refine ch h rfl ?_ ?_ <;> intro h
 ·refine att 4 [] rfl ?_
  exact rt hF h
 refine att 5 [] rfl ?_
 exact rt hF h
theorem yH (w0:af Ψ Φ []) (p0:(List aa)) (p1:(List aa)) (ph0:RSl ed 1 Ψ pG0 pv0 p0) (ph1:RSl ed 1 Ψ pG1 pv1 p1) {r:Bool} (h:nh N p0 p1=some r) :
  CB w0 prog 139 [pv0,pv1] (.bool r):=by
 refine eN func139 rfl ntmps139 rfl w0 fun hF=>?_
 unfold nh at h
 refine atr 8 [] rfl<|lnr ph0 rfl<|la rfl<|lnr ph1 rfl<|la rfl<|en ?_
 refine ch h rfl ?_ ?_ <;> intro h
 ·refine att 4 [] rfl ?_
  exact rt hF h
 refine att 7 [] rfl ?_
 refine lin (σ:=Int) (fun s=>[(0,pv0),(1,pv1),(5,iV s)]) (fun s=>St w0 Φ [] []) (fun m s=>gH N p0 p1 m s=some r) (0) N h (sx [] []) (fun n1 ih1 s hm=>?_)
 revert hm; revert s; intro s1 hm
 have h:gH N p0 p1 (n1+1) s1=some r:=hm
 show WT _ _ [(0,pv0),(1,pv1),(5,iV s1)] (St w0 Φ [] [])
 unfold gH at h
 refine atr 5 [] rfl<|lnr ph0 rfl<|la rfl<|en ?_
 refine ch h rfl ?_ ?_ <;> intro h
 ·refine att 4 [] rfl<|WT.draw co (by kernel_rfl) (fun _ h=>h.drew)<|aqq 2 [] rfl ?_
  obtain ⟨x1,hx1,h⟩:=bs h
  obtain ⟨cs1,F1,-,g1,hb1,hs1,r1⟩:=ph0.el (a7 hx1).2.2
  obtain ⟨v1,G1,rfl,hq1,h1⟩:=r1
  obtain rfl:=hq1.symm
  refine qq (a8 pw rfl rfl ph0 hx1) rfl<|qq (ao zo rfl (fun w1 hw=>(g1.of_eq 0 1 rfl rfl:rg _ _ _ [v1]).rangeAt hw.in0) rfl) rfl<|aqq 2 [] rfl ?_
  obtain ⟨x2,hx2,h⟩:=bs h
  obtain ⟨cs2,F2,-,g2,hb2,hs2,r2⟩:=ph1.el (a7 hx2).2.2
  obtain ⟨v2,G2,rfl,hq2,h2⟩:=r2
  obtain rfl:=hq2.symm
  refine qq (a8 pw rfl rfl ph1 hx2) rfl<|qq (ao zo rfl (fun w1 hw=>(g2.of_eq 0 1 rfl rfl:rg _ _ _ [v2]).rangeAt hw.in0) rfl) rfl ?_
  obtain ⟨x3,hx3,h⟩:=bs h
  refine qp (bP Ka rfl (fun w1 hw=>A6 N (ba hw.in0) x1 x2 h1 h2 hx3)) rfl<|aqt 2 [] rfl ?_
  refine ch h rfl ?_ ?_ <;> intro h
  ·refine att 4 [] rfl ?_
   exact rt hF h
  refine att 7 [] rfl ?_
  exact lb [] [] (ih1 _ h)
 refine att 5 [] rfl ?_
 exact rt hF h
theorem DS (w0:af Ψ Φ []) (p0:aF) (p1:aF) (ph0_0:RSl ed 1 Ψ pG0_0 pv0_0 p0.Levels) (ph1_0:RSl ed 1 Ψ pG1_0 pv1_0 p1.Levels) {r:Bool} (h:qk N p0 p1=some r) :
  CB w0 prog 84 [.agg [pv0_0].toArray,.agg [pv1_0].toArray] (.bool r):=by
 refine eN func84 rfl ntmps84 rfl w0 fun hF=>?_
 unfold qk at h
 refine sr ?_
 refine ln (si (C:=#[pv0_0]) rfl rfl) rfl (fun b_1=>?_)
 refine ln (si (C:=#[pv1_0]) rfl rfl) rfl (fun b_2=>?_)
 refine arr 9 [0,32,0,0] rfl<|qd h (yH N · p0.Levels p1.Levels ph0_0 ph1_0 ·) rfl rfl rfl fun x1 h=>la rfl<|en ?_
 refine ch h rfl ?_ ?_ <;> intro h
 ·refine att 4 [] rfl ?_
  exact rt hF h
 refine att 5 [] rfl ?_
 exact rt hF h
theorem BU (w0:af Ψ Φ []) (p0:(List aF)) (p1:(List aF)) (ph0:RSl fM 1 Ψ pG0 pv0 p0) (ph1:RSl fM 1 Ψ pG1 pv1 p1) {r:Bool} (h:rJ N p0 p1=some r) :
  CB w0 prog 42 [pv0,pv1] (.bool r):=by
 refine eN func42 rfl ntmps42 rfl w0 fun hF=>?_
 unfold rJ at h
 refine atr 8 [] rfl<|lnr ph0 rfl<|la rfl<|lnr ph1 rfl<|la rfl<|en ?_
 refine ch h rfl ?_ ?_ <;> intro h
 ·refine att 4 [] rfl ?_
  exact rt hF h
 refine att 7 [] rfl ?_
 refine lin (σ:=Int) (fun s=>[(0,pv0),(1,pv1),(5,iV s)]) (fun s=>St w0 Φ [] []) (fun m s=>jk N p0 p1 m s=some r) (0) N h (sx [] []) (fun n1 ih1 s hm=>?_)
 revert hm; revert s; intro s1 hm
 have h:jk N p0 p1 (n1+1) s1=some r:=hm
 show WT _ _ [(0,pv0),(1,pv1),(5,iV s1)] (St w0 Φ [] [])
 unfold jk at h
 refine atr 5 [] rfl<|lnr ph0 rfl<|la rfl<|en ?_
 refine ch h rfl ?_ ?_ <;> intro h
 ·refine att 4 [] rfl<|WT.draw co (by kernel_rfl) (fun _ h=>h.drew)<|aqq 2 [] rfl ?_
  obtain ⟨x1,hx1,h⟩:=bs h
  obtain ⟨cs1,F1,-,g1,hb1,hs1,r1⟩:=ph0.el (a7 hx1).2.2
  obtain ⟨v1,G1,rfl,hq1,h1⟩:=r1
  obtain rfl:=hq1.symm
  refine qq (a8 xO rfl rfl ph0 hx1) rfl<|qq (ao xN rfl (fun w1 hw=>(g1.of_eq 0 1 rfl rfl:rg _ _ _ [v1]).rangeAt hw.in0) rfl) rfl<|aqq 2 [] rfl ?_
  obtain ⟨x2,hx2,h⟩:=bs h
  obtain ⟨cs2,F2,-,g2,hb2,hs2,r2⟩:=ph1.el (a7 hx2).2.2
  obtain ⟨v2,G2,rfl,hq2,h2⟩:=r2
  obtain rfl:=hq2.symm
  refine qq (a8 xO rfl rfl ph1 hx2) rfl<|qq (ao xN rfl (fun w1 hw=>(g2.of_eq 0 1 rfl rfl:rg _ _ _ [v2]).rangeAt hw.in0) rfl) rfl ?_
  obtain ⟨x3,hx3,h⟩:=bs h
  refine qp (bP MS rfl (fun w1 hw=>DS N (ba hw.in0) x1 x2 h1 h2 hx3)) rfl<|aqt 2 [] rfl ?_
  refine ch h rfl ?_ ?_ <;> intro h
  ·refine att 4 [] rfl ?_
   exact rt hF h
  refine att 7 [] rfl ?_
  exact lb [] [] (ih1 _ h)
 refine att 5 [] rfl ?_
 exact rt hF h
theorem q8 (w0:af Ψ Φ []) (p0:aA) (p1:aA) (ph0_0:RSl dD 1 Ψ pG0_0 pv0_0 p0.Alphas) (ph0_1:RSl fM 1 Ψ pG0_1 pv0_1 p0.Rules) (ph1_0:RSl dD 1 Ψ pG1_0 pv1_0 p1.Alphas) (ph1_1:RSl fM 1 Ψ pG1_1 pv1_1 p1.Rules) {r:Bool} (h:mh N p0 p1=some r) :
  CB w0 prog 14 [.agg [pv0_0,pv0_1].toArray,.agg [pv1_0,pv1_1].toArray] (.bool r):=by
 refine eN func14 rfl ntmps14 rfl w0 fun hF=>?_
 unfold mh at h
 refine sr<|lbx rfl fun b_1=>lbx rfl fun b_2=>arr 9 [0,32,0,0] rfl<|qd h (CH N · p0.Alphas p1.Alphas ph0_0 ph1_0 ·) rfl rfl rfl fun x1 h=>la rfl<|en ?_
 refine ch h rfl ?_ ?_ <;> intro h
 ·refine att 4 [] rfl ?_
  exact rt hF h
 refine atr 8 [1,32,1,0] rfl<|qd h (BU N · p0.Rules p1.Rules ph0_1 ph1_1 ·) rfl rfl rfl fun x2 h=>la rfl<|en ?_
 refine ch h rfl ?_ ?_ <;> intro h
 ·refine att 4 [] rfl ?_
  exact rt hF h
 refine att 5 [] rfl ?_
 exact rt hF h
theorem ww  (w0:af Ψ Φ []) (p0:aL) (p1:aL)  {r:Bool} (h:nJ N p0 p1=some r) :
  CB w0 prog 186 [.agg [iV p0.K,iV p0.N,.string p0.S].toArray,.agg [iV p1.K,iV p1.N,.string p1.S].toArray] (.bool r):=by
 refine eN func186 rfl ntmps186 rfl w0 fun hF=>?_
 unfold nJ at h
 refine sr<|lbx rfl fun b_1=>lbx rfl fun b_2=>art 11 [0,32,0,0] rfl ?_
 refine ch h rfl ?_ ?_ <;> intro h
 ·refine att 4 [] rfl ?_
  exact rt hF h
 refine att 10 [1,32,1,0] rfl ?_
 refine ch h rfl ?_ ?_ <;> intro h
 ·refine att 4 [] rfl ?_
  exact rt hF h
 refine att 10 [2,32,2,0] rfl ?_
 refine ch h rfl ?_ ?_ <;> intro h
 ·refine att 4 [] rfl ?_
  exact rt hF h
 refine att 5 [] rfl ?_
 exact rt hF h
theorem nf  (w0:af Ψ Φ []) (p0:be) (p1:be)  {r:Bool} (h:jr N p0 p1=some r) :
  CB w0 prog 217 [.agg [iV p0.K,.string p0.S,iV p0.V.K,iV p0.V.N,.string p0.V.S].toArray,.agg [iV p1.K,.string p1.S,iV p1.V.K,iV p1.V.N,.string p1.V.S].toArray] (.bool r):=by
 refine eN func217 rfl ntmps217 rfl w0 fun hF=>?_
 unfold jr at h
 refine sr<|lbx rfl fun b_1=>lbx rfl fun b_2=>art 11 [0,32,0,0] rfl ?_
 refine ch h rfl ?_ ?_ <;> intro h
 ·refine att 4 [] rfl ?_
  exact rt hF h
 refine att 10 [1,32,1,0] rfl ?_
 refine ch h rfl ?_ ?_ <;> intro h
 ·refine att 4 [] rfl ?_
  exact rt hF h
 refine atr 8 [2,35,2,3] rfl<|qc h (ww N · p0.V p1.V ·) rfl rfl rfl fun x1 h=>la rfl<|en ?_
 refine ch h rfl ?_ ?_ <;> intro h
 ·refine att 4 [] rfl ?_
  exact rt hF h
 refine att 5 [] rfl ?_
 exact rt hF h
theorem Ba (w0:af Ψ Φ []) (p0:(List be)) (p1:(List be)) (ph0:RSl bQ 5 Ψ pG0 pv0 p0) (ph1:RSl bQ 5 Ψ pG1 pv1 p1) {r:Bool} (h:rO N p0 p1=some r) :
  CB w0 prog 216 [pv0,pv1] (.bool r):=by
 refine eN func216 rfl ntmps216 rfl w0 fun hF=>?_
 unfold rO at h
 refine atr 8 [] rfl<|lnr ph0 rfl<|la rfl<|lnr ph1 rfl<|la rfl<|en ?_
 refine ch h rfl ?_ ?_ <;> intro h
 ·refine att 4 [] rfl ?_
  exact rt hF h
 refine att 7 [] rfl ?_
 refine lin (σ:=Int) (fun s=>[(0,pv0),(1,pv1),(5,iV s)]) (fun s=>St w0 Φ [] []) (fun m s=>jB N p0 p1 m s=some r) (0) N h (sx [] []) (fun n1 ih1 s hm=>?_)
 revert hm; revert s; intro s1 hm
 have h:jB N p0 p1 (n1+1) s1=some r:=hm
 show WT _ _ [(0,pv0),(1,pv1),(5,iV s1)] (St w0 Φ [] [])
 unfold jB at h
 refine atr 5 [] rfl<|lnr ph0 rfl<|la rfl<|en ?_
 refine ch h rfl ?_ ?_ <;> intro h
 ·refine att 4 [] rfl<|WT.draw co (by kernel_rfl) (fun _ h=>h.drew)<|aqq 2 [] rfl ?_
  obtain ⟨x1,hx1,h⟩:=bs h
  obtain ⟨cs1,F1,-,g1,hb1,hs1,r1⟩:=ph0.el (a7 hx1).2.2
  obtain ⟨rfl,-⟩:=r1
  refine qq (a8 xf rfl rfl ph0 hx1) rfl<|qq (ao DF rfl (fun w1 hw=>(g1.of_eq 0 5 rfl rfl:rg _ _ _ [iV x1.K,.string x1.S,iV x1.V.K,iV x1.V.N,.string x1.V.S]).rangeAt hw.in0) rfl) rfl<|aqq 2 [] rfl ?_
  obtain ⟨x2,hx2,h⟩:=bs h
  obtain ⟨cs2,F2,-,g2,hb2,hs2,r2⟩:=ph1.el (a7 hx2).2.2
  obtain ⟨rfl,-⟩:=r2
  refine qq (a8 xf rfl rfl ph1 hx2) rfl<|qq (ao DF rfl (fun w1 hw=>(g2.of_eq 0 5 rfl rfl:rg _ _ _ [iV x2.K,.string x2.S,iV x2.V.K,iV x2.V.N,.string x2.V.S]).rangeAt hw.in0) rfl) rfl ?_
  obtain ⟨x3,hx3,h⟩:=bs h
  refine qp (bP K9 rfl (fun w1 hw=>nf N (ba hw.fro) x1 x2 hx3)) rfl<|aqt 2 [] rfl ?_
  refine ch h rfl ?_ ?_ <;> intro h
  ·refine att 4 [] rfl ?_
   exact rt hF h
  refine att 7 [] rfl ?_
  exact lb [] [] (ih1 _ h)
 refine att 5 [] rfl ?_
 exact rt hF h
theorem Ee (w0:af Ψ Φ []) (p0:av) (p1:av) (ph0_0:RSl bQ 5 Ψ pG0_0 pv0_0 p0.Args) (ph1_0:RSl bQ 5 Ψ pG1_0 pv1_0 p1.Args) {r:Bool} (h:qj N p0 p1=some r) :
  CB w0 prog 183 [.agg [.string p0.Kind,pv0_0,.bool p0.Not].toArray,.agg [.string p1.Kind,pv1_0,.bool p1.Not].toArray] (.bool r):=by
 refine eN func183 rfl ntmps183 rfl w0 fun hF=>?_
 unfold qj at h
 refine sr<|lbx rfl fun b_1=>lbx rfl fun b_2=>art 11 [0,32,0,0] rfl ?_
 refine ch h rfl ?_ ?_ <;> intro h
 ·refine att 4 [] rfl ?_
  exact rt hF h
 refine atr 8 [1,32,1,0] rfl<|qd h (Ba N · p0.Args p1.Args ph0_0 ph1_0 ·) rfl rfl rfl fun x1 h=>la rfl<|en ?_
 refine ch h rfl ?_ ?_ <;> intro h
 ·refine att 4 [] rfl ?_
  exact rt hF h
 refine atr 8 [2,32,2,0] rfl<|lq (Le MM rfl rfl) rfl<|en ?_
 refine ch h rfl ?_ ?_ <;> intro h
 ·refine att 4 [] rfl ?_
  exact rt hF h
 refine att 5 [] rfl ?_
 exact rt hF h
theorem Ct (w0:af Ψ Φ []) (p0:(List av)) (p1:(List av)) (ph0:RSl bJ 3 Ψ pG0 pv0 p0) (ph1:RSl bJ 3 Ψ pG1 pv1 p1) {r:Bool} (h:qV N p0 p1=some r) :
  CB w0 prog 140 [pv0,pv1] (.bool r):=by
 refine eN func140 rfl ntmps140 rfl w0 fun hF=>?_
 unfold qV at h
 refine atr 8 [] rfl<|lnr ph0 rfl<|la rfl<|lnr ph1 rfl<|la rfl<|en ?_
 refine ch h rfl ?_ ?_ <;> intro h
 ·refine att 4 [] rfl ?_
  exact rt hF h
 refine att 7 [] rfl ?_
 refine lin (σ:=Int) (fun s=>[(0,pv0),(1,pv1),(5,iV s)]) (fun s=>St w0 Φ [] []) (fun m s=>jw N p0 p1 m s=some r) (0) N h (sx [] []) (fun n1 ih1 s hm=>?_)
 revert hm; revert s; intro s1 hm
 have h:jw N p0 p1 (n1+1) s1=some r:=hm
 show WT _ _ [(0,pv0),(1,pv1),(5,iV s1)] (St w0 Φ [] [])
 unfold jw at h
 refine atr 5 [] rfl<|lnr ph0 rfl<|la rfl<|en ?_
 refine ch h rfl ?_ ?_ <;> intro h
 ·refine att 4 [] rfl<|WT.draw co (by kernel_rfl) (fun _ h=>h.drew)<|aqq 2 [] rfl ?_
  obtain ⟨x1,hx1,h⟩:=bs h
  obtain ⟨cs1,F1,-,g1,hb1,hs1,r1⟩:=ph0.el (a7 hx1).2.2
  obtain ⟨v1,G1,rfl,hq1,h1⟩:=r1
  obtain rfl:=hq1.symm
  refine qq (a8 tY rfl rfl ph0 hx1) rfl<|qq (ao vU rfl (fun w1 hw=>(g1.of_eq 0 3 rfl rfl:rg _ _ _ [.string x1.Kind,v1,.bool x1.Not]).rangeAt hw.in0) rfl) rfl<|aqq 2 [] rfl ?_
  obtain ⟨x2,hx2,h⟩:=bs h
  obtain ⟨cs2,F2,-,g2,hb2,hs2,r2⟩:=ph1.el (a7 hx2).2.2
  obtain ⟨v2,G2,rfl,hq2,h2⟩:=r2
  obtain rfl:=hq2.symm
  refine qq (a8 tY rfl rfl ph1 hx2) rfl<|qq (ao vU rfl (fun w1 hw=>(g2.of_eq 0 3 rfl rfl:rg _ _ _ [.string x2.Kind,v2,.bool x2.Not]).rangeAt hw.in0) rfl) rfl ?_
  obtain ⟨x3,hx3,h⟩:=bs h
  refine qp (bP Km rfl (fun w1 hw=>Ee N (ba hw.in0) x1 x2 h1 h2 hx3)) rfl<|aqt 2 [] rfl ?_
  refine ch h rfl ?_ ?_ <;> intro h
  ·refine att 4 [] rfl ?_
   exact rt hF h
  refine att 7 [] rfl ?_
  exact lb [] [] (ih1 _ h)
 refine att 5 [] rfl ?_
 exact rt hF h
end Go.Proofs.YtnnkgijdbebnaaaGreat
