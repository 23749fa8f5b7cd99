/- Printed by a program of ours: each Go function computes its Lean function. -/
import Derived.Test.YtedmfnmbjglmbaaGreatProg
import Derived.Test.YtedmfnmbjglmbaaGreatWBuiltUpWalk4
namespace Go.Proofs.YtedmfnmbjglmbaaGreat
open Eng Tryz
open Go.RowKit (Below)
set_option linter.unusedVariables false
set_option linter.unusedSimpArgs false

set_option maxRecDepth 100000
set_option maxHeartbeats 1000000
variable {Ψ Φ:Hp} {pv0 pv0_0 pv1_0 pv2 pv0_1 pv0_2 pv0_3 pv0_4 pv0_5 pv1 pv1_1 pv2_0 pv2_1 pv3_0:Value} {pG0 pG0_0 pG1_0 pG2 pG0_1 pG0_2 pG0_3 pG0_4 pG0_5 pD1 pD0 pG1 pG1_1 pD2_0 pD2_1 pG3_0 pD0_0:List Nat} {pb0:Nat} (N:Nat)
theorem cH (w0:av Ψ Φ []) (p0:(List ax)) (ph0:RSl aZ 4 Ψ pG0 pv0 p0) {r:(List ax)} (h:bc N p0=some r) :
  Calls prog 222 [pv0].toArray w0.w (be Φ w0.w [] (fun Φ' Fs v=>∃ (sr_0_0:Value),v=sr_0_0∧Fs=[ob sr_0_0]∧OSl aZ 97 4 Φ' [] sr_0_0 r)):=by
 refine eN func222 rfl ntmps222 rfl w0 fun hF=>?_
 unfold bc at h
 refine att 6 [] rfl ?_
 rcases RSl.nilOr ph0 with ⟨hxs1,cc1,hv1⟩ | ⟨a1,cc1,hv1⟩
 ·replace h:some []=some r:=by simpa [hxs1,app] using h
  refine atr 2 [] rfl<|lq (mb uR (congrArg some hv1) rfl) rfl<|en ?_
  refine cd rfl (fun c=>?_) (fun c=>by simp at c)
  refine att 4 [] rfl ?_
  refine WT.ret hF (ay.one rfl) (fun w1 hw=>?_)
  cases h
  replace hw:=hw.addNil
  refine aI (js:=[0]) hw rfl ⟨.slice none 0 0,rfl,rfl,OSl.nil _ _ _ _⟩
 refine atr 2 [] rfl<|lq (mb uR (congrArg some hv1) rfl) rfl<|en ?_
 refine cd rfl (fun c=>by simp at c) (fun c=>?_)
 refine atr 3 [] rfl<|le' (sL aZ.lasts uR Cv rfl rfl) rfl ?_
 rintro v1 Φ_1 D1 ⟨fr1,h1⟩
 refine la rfl<|lu0 ph0 fun h2=>?_
 obtain ⟨x1,hx1,h⟩:=bs h
 refine le' (ee aZ.lasts aZ.one aZ.flat uR HQ rfl rfl rfl rfl rfl (js:=[0]) (Rr:=[]) rfl h1 h2 hx1) rfl ?_
 rintro v2 Φ_2 D2 ⟨⟨ap1,fr2⟩,h3⟩
 refine la rfl<|en ?_
 exact rtg [0] hF (ay.one rfl) rfl (by cases h; exact fun w1 hw=>⟨v2,rfl,rfl,h3⟩)
theorem sy (w0:av Ψ Φ []) (p0:(List ax)) (p1:ByteArray) (ph0:RSl aZ 4 Ψ pG0 pv0 p0) {r:aN × Bool} (h:lA N p0 p1=some r) :
  CB w0 prog 223 [pv0,.string p1] (.tuple #[.agg [iV r.1.K,iV r.1.N,.string r.1.S].toArray,.bool r.2]):=by
 refine eN func223 rfl ntmps223 rfl w0 fun hF=>?_
 unfold lA at h
 refine sr<|lnz gF rfl fun b_1=>arr 6 [] rfl<|lnr ph0 rfl<|art 3 [] rfl ?_
 refine lin (σ:=Int) (fun s=>[(1,.string p1),(4,pQ b_1),(8,pv0),(9,iV (p0.length:Int)),(10,iV s)]) (fun s=>St w0 Φ [(b_1,.cells #[iV 0,iV 0,.string (⟨#[]⟩:ByteArray)] 95 (0,0))] []) (fun m s=>gU N p0 p1 m s=some r) (0) N h (sx [] [0]) (fun n1 ih1 s hm=>?_)
 revert hm; revert s; intro s1 hm
 have h:gU N p0 p1 (n1+1) s1=some r:=hm
 show WT _ _ [(1,.string p1),(4,pQ b_1),(8,pv0),(9,iV (p0.length:Int)),(10,iV s1)] (St w0 Φ [(b_1,.cells #[iV 0,iV 0,.string (⟨#[]⟩:ByteArray)] 95 (0,0))] [])
 unfold gU at h
 refine att 5 [] rfl ?_
 refine ch h rfl ?_ ?_ <;> intro h
 ·refine atr 5 [] rfl ?_
  obtain ⟨x1,hx1,h⟩:=bs h
  obtain ⟨cs1,F1,-,g1,hb1,hs1,r1⟩:=ph0.el (ab hx1).2.2
  obtain ⟨rfl,-⟩:=r1
  refine lia ph0 hx1 rfl<|lhx 0 4 g1 rfl<|lnz Cv rfl fun b_2=>soN 0 KF rfl ⟨rfl,rfl,rfl,rfl,trivial⟩ rfl ?_
  refine art 8 [0,0] rfl ?_
  refine ch h rfl ?_ ?_ <;> intro h
  ·refine atr 4 [1,3] rfl<|soN 1 mW rfl ⟨rfl,rfl,rfl,trivial⟩ rfl ?_
   refine la rfl<|en ?_
   refine WT.ret hF (ay.two (bb mV rfl (fun w1 hw=>hw.rgO (i:=1) rfl 0 3 [iV x1.V.K,iV x1.V.N,.string x1.V.S] rfl) rfl) rfl) (fun w1 hw=>?_)
   cases h
   exact gg hw
  refine att 6 [] rfl ?_
  exact lb [] [1] (ih1 _ h)
 refine xt rfl<|sr<|lq (bz (vs:=[]) (C:=#[iV 0,iV 0,.string (⟨#[]⟩:ByteArray)]) qY gF rfl (ac)) rfl<|soN 0 mW rfl ⟨rfl,rfl,rfl,trivial⟩ rfl ?_
 refine la rfl<|en ?_
 refine WT.ret hF (ay.two (bb mV rfl (fun w1 hw=>hw.rgO (i:=0) rfl 0 3 [iV 0,iV 0,.string (⟨#[]⟩:ByteArray)] rfl) rfl) rfl) (fun w1 hw=>?_)
 cases h
 exact gg hw
theorem jX (w0:av Ψ Φ []) (p0:au) (p1:aL) (p2:(List ax)) (ph0_0:RSl ck 5 Ψ pG0_0 pv0_0 p0.Args) (ph1_0:RSl aP 3 Ψ pG1_0 pv1_0 p1.Fields) (ph2:RSl aZ 4 Ψ pG2 pv2 p2) {r:(List ax) × Bool} (h:gK N p0 p1 p2=some r) :
  Calls prog 184 [.agg [.string p0.Kind,pv0_0,.bool p0.Not].toArray,.agg [.string p1.Kind,pv1_0].toArray,pv2].toArray w0.w (be Φ w0.w [] (fun Φ' Fs v=>∃ (sr_0_0:Value),v = .tuple #[sr_0_0,.bool r.2]∧Fs=[ob sr_0_0]∧OSl aZ 97 4 Φ' [] sr_0_0 r.1)):=by
 refine eN func184 rfl ntmps184 rfl w0 fun hF=>?_
 unfold gK at h
 refine sr<|lbx rfl fun b_1=>lbx rfl fun b_2=>arr 12 [0,0,0,32] rfl ?_
 obtain ⟨b1,hb_1,h⟩:=bs h
 refine WL.cutN 8 [(27,.bool b1),(2,pv2),(3,pQ b_1),(4,pQ b_2)] ?_ (fun K=>?_)
 rotate_left
 ·refine sp 19 hb_1 rfl (fun hb_1=>?_) fun hb_1=>?_
  ·refine arr 8 [] rfl ?_
   cases hb_1
   exact ku K
  ·refine arr 2 [1,0] rfl<|ly rfl rfl<|lnr ph1_0 rfl<|arr 2 [1,32] rfl<|ly rfl rfl<|lnr ph0_0 rfl<|arr 2 [] rfl ?_
   cases hb_1
   exact ku K
 refine en ?_
 refine ch h rfl ?_ ?_ <;> intro h
 ·refine sr<|la rfl<|kab h rfl rfl rfl (fun b z q=>cH N b p2 (ph2.y z) q) ?_
  rintro x1 h v1 Φ_1 F1 ⟨ap1,fr1,v2,rfl,rfl,h1⟩
  refine art 3 [] rfl ?_
  exact rtg [0] hF (ay.two rfl rfl) rfl (by cases h; exact fun w1 hw=>⟨v1,rfl,rfl,h1⟩)
 refine atr 4 [] rfl<|kab h rfl rfl rfl (fun b z q=>cH N b p2 (ph2.y z) q) ?_
 rintro x2 h v3 Φ_2 F2 ⟨ap2,fr2,v4,rfl,rfl,h2⟩
 refine arr 7 [1,32] rfl<|lnr ph0_0 rfl<|art 3 [] rfl ?_
 refine lin (σ:=Hp × (List ax) × Value × Int) (fun s=>[(2,pv2),(4,pQ b_2),(8,s.2.2.1),(33,pv0_0),(34,iV (p0.Args.length:Int)),(35,iV s.2.2.2)]) (fun s=>St w0 s.1 [(b_2,.cells #[.string p1.Kind,pv1_0] 52 (0,0))] [ob s.2.2.1]) (fun m s=>dC N p0 p1 p2 m s.2.1 s.2.2.2=some r∧(OSl aZ 97 4 s.1 [] s.2.2.1 s.2.1)) (Φ_2,x2,v3,0) N ⟨h,h2⟩ (sx [0] [0]) (fun n1 ih1 s hm=>?_)
 obtain ⟨Φ_3,s1,u1,s2⟩:=s
 obtain ⟨h,k1⟩:=hm
 dsimp only at h k1 ⊢
 unfold dC at h
 refine att 5 [] rfl ?_
 refine ch h rfl ?_ ?_ <;> intro h
 ·refine atr 6 [] rfl ?_
  obtain ⟨x3,hx3,h⟩:=bs h
  obtain ⟨cs1,F3,-,g1,hb1,hs1,r1⟩:=ph0_0.el (ab hx3).2.2
  obtain ⟨rfl,-⟩:=r1
  refine lia ph0_0 hx3 rfl<|lhx 0 5 g1 rfl<|lnz gl rfl fun b_3=>la rfl<|soN 0 gV rfl ⟨rfl,rfl,rfl,rfl,rfl,trivial⟩ rfl ?_
  refine arr 6 [1,32] rfl ?_
  obtain ⟨x4,hx4,h⟩:=bs h
  obtain ⟨cs2,F4,-,g2,hb2,hs2,r2⟩:=ph1_0.el (ab hx4).2.2
  obtain ⟨rfl,-⟩:=r2
  refine lia ph1_0 hx4 rfl<|lhx 0 3 g2 rfl<|lnz gF rfl fun b_4=>soN 0 mW rfl ⟨rfl,rfl,rfl,trivial⟩ rfl ?_
  refine art 12 [0,32] rfl ?_
  refine ch h rfl ?_ ?_ <;> intro h
  ·refine atr 5 [2,35,3] rfl<|lq (wc oU rfl rfl rfl (r:=bT x3.V x4) rfl) rfl<|en ?_
   refine ch h rfl ?_ ?_ <;> intro h
   ·refine sr<|la rfl<|kab h rfl rfl rfl (fun b z q=>cH N b p2 (ph2.y z) q) ?_
    rintro x5 h v5 Φ_4 F5 ⟨ap3,fr3,v6,rfl,rfl,h3⟩
    refine art 3 [] rfl ?_
    exact rtg [0] hF (ay.two rfl rfl) rfl (by cases h; exact fun w1 hw=>⟨v5,rfl,rfl,h3⟩)
   refine att 7 [] rfl ?_
   exact lb [0] [2] (ih1 (_,_,_,_) ⟨h,k1⟩)
  refine att 5 [] rfl ?_
  refine ch h rfl ?_ ?_ <;> intro h
  ·refine atr 5 [1,32] rfl<|qc h (sy N · s1 x3.S k1.rsl ·) rfl rfl rfl fun x6 h=>arr 3 [] rfl<|lnz gF rfl fun b_5=>soN 0 mW rfl ⟨rfl,rfl,rfl,trivial⟩ rfl ?_
   refine arr 7 [] rfl ?_
   obtain ⟨b2,hb_2,h⟩:=bs h
   refine WL.cutN 4 [(69,.bool b2),(2,pv2),(4,pQ b_2),(8,u1),(10,pQ b_3),(11,pQ b_4),(13,.bool x6.2),(33,pv0_0),(34,iV (p0.Args.length:Int)),(35,iV s2)] ?_ (fun K=>?_)
   rotate_left
   ·refine sp 65 hb_2 rfl (fun hb_2=>?_) fun hb_2=>?_
    ·refine arr 2 [3,35] rfl<|ly rfl rfl<|lq (wc oU rfl rfl rfl (r:=bT x6.1 x4) rfl) rfl<|la rfl ?_
     cases hb_2
     exact ku K
    ·refine arr 4 [] rfl ?_
     cases hb_2
     exact ku K
   refine en ?_
   refine ch h rfl ?_ ?_ <;> intro h
   ·refine sr<|la rfl<|kab h rfl rfl rfl (fun b z q=>cH N b p2 (ph2.y z) q) ?_
    rintro x7 h v7 Φ_5 F6 ⟨ap4,fr4,v8,rfl,rfl,h4⟩
    refine art 3 [] rfl ?_
    exact rtg [0] hF (ay.two rfl rfl) rfl (by cases h; exact fun w1 hw=>⟨v7,rfl,rfl,h4⟩)
   refine att 6 [] rfl ?_
   refine ch h rfl ?_ ?_ <;> intro h
   ·refine atr 5 [1,64,35] rfl<|lq (bz (vs:=[(0,.string x3.S),(1,.agg [iV x4.K,iV x4.N,.string x4.S].toArray)]) (C:=#[.string x3.S,iV x4.K,iV x4.N,.string x4.S]) Kd Cv rfl (a8 (C':=[.string x3.S,iV 0,iV 0,.string ⟨#[]⟩]) rfl rfl rfl rfl rfl (a8 (C':=[.string x3.S,iV x4.K,iV x4.N,.string x4.S]) rfl rfl rfl rfl rfl (ac)))) rfl ?_
    have rc1:RC aZ 4 Φ_3 ([[]]:List (List Nat)) [.string x3.S,iV x4.K,iV x4.N,.string x4.S] ([(⟨x3.S,x4⟩:ax)]:List ax):=RC.cons (c:=[.string x3.S,iV x4.K,iV x4.N,.string x4.S]) (cells:=[]) ⟨rfl,rfl⟩ rfl (RC.nil _ _ _)
    refine le' (aV (vs:=[(0,.agg [.string x3.S,iV x4.K,iV x4.N,.string x4.S].toArray)]) (C:=#[.string x3.S,iV x4.K,iV x4.N,.string x4.S]) aZ.lasts uR Cv rfl rfl rfl rfl (ag GZ (a8 (C':=[.string x3.S,iV x4.K,iV x4.N,.string x4.S]) rfl rfl rfl rfl rfl (ac))) rfl rc1 rfl (by simpa using Kw.nil)) rfl ?_
    rintro v9 Φ_6 D1 ⟨fr5,h5⟩
    replace h5:OSl aZ 97 4 Φ_6 [] v9 ([(⟨x3.S,x4⟩:ax)]:List ax):=by simpa using h5
    replace k1:=k1.f0 fr5
    obtain ⟨x8,hx8,h⟩:=bs h
    refine le' (ee aZ.lasts aZ.one aZ.flat uR HQ rfl rfl rfl rfl rfl (js:=[1]) (Rr:=[ob v9]) rfl k1 h5.rsl hx8) rfl ?_
    rintro v10 Φ_7 D2 ⟨⟨ap5,fr6⟩,h6⟩
    refine art 8 [] rfl ?_
    exact lb [0] [3] (ih1 (_,_,_,_) ⟨h,h6⟩)
   refine att 7 [] rfl ?_
   exact lb [0] [3] (ih1 (_,_,_,_) ⟨h,k1⟩)
  refine att 7 [] rfl ?_
  exact lb [0] [2] (ih1 (_,_,_,_) ⟨h,k1⟩)
 refine att 7 [] rfl ?_
 exact rtg [0] hF (ay.two rfl rfl) rfl (by cases h; exact fun w1 hw=>⟨u1,rfl,rfl,k1⟩)
theorem nY (w0:av Ψ Φ []) (p0:(List au)) (p1:ah) (p2:(List Int)) (ph0:RSl bS 3 Ψ pG0 pv0 p0) (ph1_0:RSl bm 3 Ψ pG1_0 pv1_0 p1.Items) (ph2:RSl (RI .i64) 1 Ψ pG2 pv2 p2) {r:(List ax) × Bool} (h:gw N p0 p1 p2=some r) :
  Calls prog 116 [pv0,.agg [pv1_0,iV p1.Next].toArray,pv2].toArray w0.w (be Φ w0.w [] (fun Φ' Fs v=>∃ (sr_0_0:Value),v = .tuple #[sr_0_0,.bool r.2]∧Fs=[ob sr_0_0]∧OSl aZ 97 4 Φ' [] sr_0_0 r.1)):=by
 refine eN func116 rfl ntmps116 rfl w0 fun hF=>?_
 unfold gw at h
 refine sr<|lbx rfl fun b_1=>arr 11 [] rfl<|lnr ph2 rfl<|art 3 [] rfl<|wtS ?_
 have k1:=OSl.nil aZ 97 4 Φ
 refine lin (σ:=Hp × (List ax) × Value × Int) (fun s=>[(0,pv0),(4,pQ b_1),(8,s.2.2.1),(13,pv2),(14,iV (p2.length:Int)),(15,iV s.2.2.2)]) (fun s=>St w0 s.1 [(b_1,.cells #[pv1_0,iV p1.Next] 29 (0,0))] [ob s.2.2.1]) (fun m s=>dx N p0 p1 p2 m s.2.1 s.2.2.2=some r∧(OSl aZ 97 4 s.1 [] s.2.2.1 s.2.1)) (Φ,([]:List ax),(.slice none 0 0),0) N ⟨h,k1⟩ (sx [0] [0]) (fun n1 ih1 s hm=>?_)
 obtain ⟨Φ_1,s1,u1,s2⟩:=s
 obtain ⟨h,k2⟩:=hm
 dsimp only at h k2 ⊢
 unfold dx at h
 refine att 5 [] rfl ?_
 refine ch h rfl ?_ ?_ <;> intro h
 ·refine atr 6 [] rfl ?_
  obtain ⟨x1,hx1,h⟩:=bs h
  obtain ⟨cs1,F1,-,g1,hb1,hs1,r1⟩:=ph2.el (ab hx1).2.2
  obtain ⟨rfl,-⟩:=r1
  refine lia ph2 hx1 rfl<|lhx 0 0 g1 rfl<|arr 7 [2] rfl<|kab h rfl rfl rfl (fun b z q=>oV N b p1 x1 (ph1_0.y z) q) ?_
  rintro x2 h v1 Φ_2 F2 ⟨ap1,fr1,v2,rfl,rfl,h1⟩
  replace k2:=k2.fr fr1 (ap1.q 0 rfl) dN
  refine arr 3 [] rfl<|lnz ox rfl fun b_2=>soN 0 qO rfl ⟨rfl,h1.one,trivial⟩ rfl ?_
  refine art 8 [] rfl ?_
  refine ch h rfl ?_ ?_ <;> intro h
  ·refine att 5 [] rfl ?_
   refine WT.ret hF (ay.two rfl rfl) (fun w1 hw=>?_)
   cases h
   replace hw:=hw.addNil
   refine aI (js:=[0]) hw rfl ⟨.slice none 0 0,rfl,rfl,OSl.nil _ _ _ _⟩
  refine att 2 [] rfl<|wm [0,1] [] rfl<|amm 2 [0,1] [0,1] rfl rfl ?_
  obtain ⟨x3,hx3,h⟩:=bs h
  obtain ⟨cs2,F3,-,g2,hb2,hs2,r2⟩:=ph0.el (ab hx3).2.2
  obtain ⟨v3,G1,rfl,hq1,h2⟩:=r2
  obtain rfl:=hq1.symm
  refine mq 2 rfl (by kernel_rfl) (kN [0,1]) (aw qF rfl rfl ph0 hx3) rfl<|mq 3 rfl (by kernel_rfl) (kN [0,1]) (aG w7 rfl (fun w1 hw=>(g2.of_eq 0 3 rfl rfl:rg _ _ _ [.string x3.Kind,v3,.bool x3.Not]).rangeAt hw.1) rfl) rfl<|amm 2 [4,2,5] [0,1] rfl rfl ?_
  obtain ⟨x4,hx4,h⟩:=bs h
  refine WM.one 6 (by kernel_rfl) (mc rfl (fun _ v Φx D w1 hq hw=>Kn.of Kf.nil (ai2 0 1 rfl rfl) hw) (bo (js:=[]) (R:=[ob v2,ob u1]) CO rfl rfl (fun w1 hw ap hl=>jX N (ba hw.fro) x3 x2.1 s1 (h2.y hw.up) h1.rsl k2.rsl  hx4)) rfl ?_)
  rintro v4 Φ_3 F4 ⟨ap2,fr2,v5,rfl,rfl,h3⟩
  replace k2:=k2.fr fr2 (ap2.q 1 rfl) dN
  refine amm 5 [7,8,9,10,11] [0,1] rfl rfl<|WM.nil (by kernel_rfl)<|att 5 [] rfl ?_
  refine ch h rfl ?_ ?_ <;> intro h
  ·refine att 5 [] rfl ?_
   refine WT.ret hF (ay.two rfl rfl) (fun w1 hw=>?_)
   cases h
   replace hw:=hw.addNil
   refine aI (js:=[0]) hw rfl ⟨.slice none 0 0,rfl,rfl,OSl.nil _ _ _ _⟩
  refine att 6 [] rfl ?_
  exact lb [0] [1] (ih1 (_,_,_,_) ⟨h,h3⟩)
 refine att 7 [] rfl ?_
 exact rtg [0] hF (ay.two rfl rfl) rfl (by cases h; exact fun w1 hw=>⟨u1,rfl,rfl,k2⟩)
theorem rS (w0:av Ψ Φ [ob pv1,pD1].flatten) (p0:cQ) (p1:(List aD)) (p2:Int) (ph0_0:RSl bS 3 Ψ pG0_0 pv0_0 p0.pos) (ph0_1:RSl bS 3 Ψ pG0_1 pv0_1 p0.neg) (ph0_2:RSl (RI .i64) 1 Ψ pG0_2 pv0_2 p0.chain.Pos) (ph0_3:RSl (RI .i64) 1 Ψ pG0_3 pv0_3 p0.chain.Neg) (ph0_4:RSl j0 1 Ψ pG0_4 pv0_4 p0.alphas) (ph0_5:RSl bm 3 Ψ pG0_5 pv0_5 p0.s.Items) (ph1:OSl cF 105 2 Φ pD1 pv1 p1) {r:(List aD)} (h:fO N p0 p1 p2=some r) :
  Calls prog 134 [.agg [pv0_0,pv0_1,pv0_2,pv0_3,pv0_4,pv0_5,iV p0.s.Next,iV p0.id].toArray,pv1,iV p2].toArray w0.w (be Φ w0.w [ob pv1,pD1].flatten (fun Φ' Fs v=>∃ (Do_0_0:List Nat),v = .tuple #[]∧Fs=[ob pv1,Do_0_0]∧OSl cF 105 2 Φ' Do_0_0 pv1 r)):=by
 refine eL func134 rfl ntmps134 rfl (L:=[ob pv1,pD1]) w0 (fun hF=>?_)
 unfold fO at h
 refine sr<|lbx rfl fun b_1=>arr 7 [5,2,7,0] rfl<|kab h rfl rfl rfl (fun b z q=>oV N b p0.s p0.id (ph0_5.y z) q) ?_
 rintro x1 h v1 Φ_1 F1 ⟨ap1,fr1,v2,rfl,rfl,h1⟩
 replace ph1:=ph1.fr fr1 (ap1.q 0 rfl) (ap1.q 1 rfl)
 refine arr 3 [] rfl<|lnz ox rfl fun b_2=>soN 0 qO rfl ⟨rfl,h1.one,trivial⟩ rfl ?_
 refine arr 5 [] rfl<|lno ph1 rfl<|art 3 [] rfl ?_
 refine lin (σ:=Hp × (List aD) × List Nat × Int) (fun s=>[(2,iV p2),(3,pQ b_1),(6,pQ b_2),(24,pv1),(25,iV (p1.length:Int)),(26,iV s.2.2.2)]) (fun s=>St w0 s.1 [(b_2,.cells #[.string x1.1.Kind,v2] 52 (0,0)),(b_1,.cells #[pv0_0,pv0_1,pv0_2,pv0_3,pv0_4,pv0_5,iV p0.s.Next,iV p0.id] 191 (0,0))] [ob v2,ob pv1,s.2.2.1]) (fun m s=>bI N p0 p1 p2 x1 m s.2.1 s.2.2.2=some r∧(OSl cF 105 2 s.1 s.2.2.1 pv1 s.2.1)∧(OSl aP 95 3 s.1 [] v2 x1.1.Fields)) (Φ_1,p1,pD1,0) N ⟨h,ph1,h1⟩ (sx [0,0,0] [0,0]) (fun n1 ih1 s hm=>?_)
 obtain ⟨Φ_2,s1,D1,s2⟩:=s
 obtain ⟨h,k1,h1⟩:=hm
 dsimp only at h k1 h1 ⊢
 unfold bI at h
 refine att 5 [] rfl ?_
 refine ch h rfl ?_ ?_ <;> intro h
 ·refine atr 5 [] rfl ?_
  obtain ⟨x2,hx2,h⟩:=bs h
  obtain ⟨cs1,F2,D2,h2,r1,kf1,sp1⟩:=k1.focus hx2
  obtain ⟨v3,v4,rfl,rfl,h3,h4⟩:=r1
  refine wlL [ob v3,ob v4,D2,ob v2,ob pv1] (sre [2] [ob v3,ob v4,D2] rfl (by simpa [List.append_assoc] using sp1))<|lih h2 hx2 rfl<|lgx 0 2 h2.rg rfl<|lnz om rfl fun b_3=>soN 0 ta rfl ⟨h3.one,h4.one,trivial⟩ rfl ?_
  refine arr 9 [0,64,5,66,0,0] rfl<|kab h rfl rfl rfl (fun b z q=>nY N b p0.pos p0.s x2.Ids (ph0_0.y z) (ph0_5.y z) h3.rsl q) ?_
  rintro x3 h v5 Φ_3 F3 ⟨ap2,fr2,v6,rfl,rfl,h5⟩
  replace h2:=h2.fr fr2 (ap2.q 4 rfl) (ap2.q 2 rfl)
  replace h1:=h1.fr fr2 (ap2.q 3 rfl) dN
  replace h3:=h3.fr fr2 (ap2.q 0 rfl) dN
  replace h4:=h4.fr fr2 (ap2.q 1 rfl) dN
  refine art 12 [] rfl ?_
  refine ch h rfl ?_ ?_ <;> intro h
  ·refine att 5 [] rfl ?_
   have r2:cF Φ_3 _ [v3,v4] x2:=⟨v3,v4,rfl,rfl,h3,h4⟩
   obtain ⟨D3,h6,sp2⟩:=h2.unfocus r2 (cF.knows _ _ _ _ r2)
   rw [EF hx2] at h6
   refine wtL [D3,ob v6,ob v2,ob pv1] (smg [1,1,1] rfl (by simpa [List.append_assoc,fu] using sp2)) ?_
   exact lb [2,2,0] [1,1] (ih1 (_,_,_,_) ⟨h,h6,h1⟩)
  refine atr 5 [1,64] rfl<|lnr ph0_1 rfl<|art 3 [] rfl ?_
  refine lin (σ:=Hp × (List Int) × Int) (fun s=>[(2,iV p2),(3,pQ b_1),(6,pQ b_2),(9,pQ b_3),(10,v6),(24,pv1),(25,iV (p1.length:Int)),(26,iV s2),(43,pv0_1),(44,iV (p0.neg.length:Int)),(45,iV s.2.2)]) (fun s=>St w0 s.1 [(b_3,.cells #[v3,v4] 105 (0,0)),(b_2,.cells #[.string x1.1.Kind,v2] 52 (0,0)),(b_1,.cells #[pv0_0,pv0_1,pv0_2,pv0_3,pv0_4,pv0_5,iV p0.s.Next,iV p0.id] 191 (0,0))] [ob v6,ob v3,ob v4,D2,ob v2,ob pv1]) (fun m s=>cw N p0 p2 x1 s1 s2 (bI N p0 p1 p2 x1 n1) x2 x3 m s.2.1 s.2.2=some r∧(OSl aP 95 3 s.1 [] v2 x1.1.Fields)∧(OSl (RI .i64) 3 1 s.1 [] v3 x2.Ids)∧(OSl (RI .i64) 3 1 s.1 [] v4 s.2.1)∧(OSl aZ 97 4 s.1 [] v6 x3.1)∧(HSl cF 105 2 s.1 D2 pv1 s1 s2.toNat [v3,v4])) (Φ_3,x2.Hits,0) N ⟨h,h1,h3,h4,h5,h2⟩ (sx [0,0,0,0,0,0] [0,0,0]) (fun n2 ih2 s hm=>?_)
  obtain ⟨Φ_4,s3,s4⟩:=s
  obtain ⟨h,h1,h3,k3,h5,k2⟩:=hm
  dsimp only at h h1 h3 k3 h5 k2 ⊢
  unfold cw at h
  refine att 5 [] rfl ?_
  refine ch h rfl ?_ ?_ <;> intro h
  ·refine atr 6 [] rfl ?_
   obtain ⟨x4,hx4,h⟩:=bs h
   obtain ⟨cs2,F4,-,g1,hb2,hs1,r3⟩:=ph0_1.el (ab hx4).2.2
   obtain ⟨v7,G1,rfl,hq1,h7⟩:=r3
   obtain rfl:=hq1.symm
   refine lia ph0_1 hx4 rfl<|lhx 0 3 g1 rfl<|lnz iU rfl fun b_4=>la rfl<|soN 0 mP rfl ⟨rfl,h7.one,rfl,trivial⟩ rfl ?_
   refine arr 6 [3,66] rfl<|kab h rfl rfl rfl (fun b z q=>jX N b x4 x1.1 x3.1 (h7.y z) h1.rsl h5.rsl q) ?_
   rintro x5 h v8 Φ_5 F5 ⟨ap3,fr3,v9,rfl,rfl,h8⟩
   replace k2:=k2.fr fr3 (ap3.q 5 rfl) (ap3.q 3 rfl)
   replace h1:=h1.fr fr3 (ap3.q 4 rfl) dN
   replace h3:=h3.fr fr3 (ap3.q 1 rfl) dN
   replace k3:=k3.fr fr3 (ap3.q 2 rfl) dN
   replace h5:=h5.fr fr3 (ap3.q 0 rfl) dN
   refine art 10 [] rfl ?_
   refine ch h rfl ?_ ?_ <;> intro h
   ·refine atr 4 [1,32] rfl ?_
    obtain ⟨x6,hx6,h⟩:=bs h
    obtain ⟨cs3,F6,-,g2,hb3,hs2,r4⟩:=k3.elS (ab hx6).2.2
    obtain ⟨rfl,-⟩:=r4
    refine lio k3 hx6 rfl<|lgx 0 0 g2 rfl<|arr 2 [] rfl ?_
    obtain ⟨x7,hx7,h⟩:=bs h
    obtain ⟨cs4,F7,-,g3,hb4,hs3,r5⟩:=k3.elS (ab hx7).2.2
    obtain ⟨rfl,-⟩:=r5
    refine lio k3 hx7 rfl<|lu (J6 (js:=[3]) (Rr:=[ob v9,ob v6,ob v3,D2,ob v2,ob pv1]) (vs:=[iV (wz (x6+p2))]) (x':=wz (x6+p2)) RI.lasts RI.flat tV rfl rfl rfl rfl ⟨rfl,trivial⟩ rfl k3 (xd hx7) ⟨rfl,rfl⟩) rfl ?_
    rintro Φ_6 D4 ⟨⟨ap4,fr4⟩,h9⟩
    replace k2:=k2.fr fr4 (ap4.q 5 rfl) (ap4.q 3 rfl)
    replace h1:=h1.fr fr4 (ap4.q 4 rfl) dN
    replace h3:=h3.fr fr4 (ap4.q 2 rfl) dN
    replace h5:=h5.fr fr4 (ap4.q 1 rfl) dN
    refine art 6 [] rfl ?_
    exact lb [2,2,0,1,1,1] [1,1,1] (ih2 (_,_,_) ⟨h,h1,h3,h9,h5,k2⟩)
   refine att 6 [] rfl ?_
   exact lb [1,1,1,1,1,1] [1,1,1] (ih2 (_,_,_) ⟨h,h1,h3,k3,h5,k2⟩)
  refine att 6 [] rfl ?_
  have r6:cF Φ_4 _ [v3,v4] (⟨x2.Ids,s3⟩:aD):=⟨v3,v4,rfl,rfl,h3,k3⟩
  obtain ⟨D5,h10,sp3⟩:=k2.unfocus r6 (cF.knows _ _ _ _ r6)
  refine wtL [D5,ob v6,ob v2,ob pv1] (smg [1,1,1] rfl (by simpa [List.append_assoc,fu] using sp3)) ?_
  exact lb [2,2,0] [1,1] (ih1 (_,_,_,_) ⟨h,h10,h1⟩)
 refine xt rfl ?_
 refine WT.fin hF ay.none (fun w1 hw=>?_)
 cases h
 refine aI (js:=[1,1]) hw rfl ⟨D1,rfl,rfl,k1⟩
theorem jh (w0:av Ψ Φ []) (p0:(List aD)) (ph0:RSl dY 2 Ψ pG0 pv0 p0) {r:(List aD)} (h:dJ N p0=some r) :
  Calls prog 179 [pv0].toArray w0.w (be Φ w0.w [] (fun Φ' Fs v=>∃ (sr_0_0:Value) (Dr_0_0:List Nat),v=sr_0_0∧Fs=[ob sr_0_0]∧OSl dY 105 2 Φ' Dr_0_0 sr_0_0 r∧(∀ k∈Dr_0_0,k∈pG0))):=by
 refine eN func179 rfl ntmps179 rfl w0 fun hF=>?_
 unfold dJ at h
 refine att 6 [] rfl ?_
 rcases RSl.nilOr ph0 with ⟨hxs1,cc1,hv1⟩ | ⟨a1,cc1,hv1⟩
 ·replace h:some []=some r:=by simpa [hxs1,app] using h
  refine atr 2 [] rfl<|lq (mb lJ (congrArg some hv1) rfl) rfl<|en ?_
  refine cd rfl (fun c=>?_) (fun c=>by simp at c)
  refine att 4 [] rfl ?_
  refine WT.ret hF (ay.one rfl) (fun w1 hw=>?_)
  cases h
  replace hw:=hw.addNil
  refine aI (js:=[0]) hw rfl ⟨.slice none 0 0,[],rfl,rfl,OSl.nil _ _ _ _,(by simp)⟩
 refine atr 2 [] rfl<|lq (mb lJ (congrArg some hv1) rfl) rfl<|en ?_
 refine cd rfl (fun c=>by simp at c) (fun c=>?_)
 refine atr 3 [] rfl ?_
 have rc1:RC cF 2 Φ ([]:List (List Nat)) [] ([]:List aD):=RC.nil _ _ _
 refine le' (aV (vs:=[]) (C:=#[]) cF.lasts lJ om rfl rfl rfl rfl (ag Ax (ac)) rfl rc1 rfl (by simpa using Kw.nil)) rfl ?_
 rintro v1 Φ_1 D1 ⟨fr1,h1⟩
 replace h1:OSl cF 105 2 Φ_1 [] v1 ([]:List aD):=by simpa [List.append_assoc] using h1
 refine WL.conv (S':=St w0 Φ_1 [] [[],ob v1]) (fun w1 hw=>hw.addNil)<|la rfl<|lu0 ph0 fun h2=>?_
 obtain ⟨x1,hx1,h⟩:=bs h
 replace h1:=h1.gives cF.gives
 refine le' (Ba dY.lasts dY.knows dY.one lJ ue rfl rfl rfl rfl rfl (js:=[1]) (Rr:=[[]]) rfl h1 h2 (fun ap=>dN) (fun ap=>(ap.o ph0.old)) hx1) rfl ?_
 rintro v2 Φ_2 D2 ⟨⟨ap1,fr2⟩,hin1,h3⟩
 refine la rfl<|en ?_
 exact rtg [0] hF (ay.one rfl) rfl (by cases h; exact fun w1 hw=>⟨v2,D2,rfl,rfl,h3,(fun k hk=>((fun k hk=>(by simpa using hin1 k hk:k∈pG0)) k hk))⟩)
theorem mn (w0:av Ψ Φ []) (p0:(List aD)) (ph0:OSl dY 105 2 Ψ pD0 pv0 p0) {r:(List aD)} (h:dV N p0=some r) :
  Calls prog 179 [pv0].toArray w0.w (be Φ w0.w [] (fun Φ' Fs v=>∃ (sr_0_0:Value) (Dr_0_0:List Nat),v=sr_0_0∧Fs=[ob sr_0_0]∧OSl dY 105 2 Φ' Dr_0_0 sr_0_0 r∧(∀ k∈Dr_0_0,k∈pD0))):=by
 refine eN func179 rfl ntmps179 rfl w0 fun hF=>?_
 unfold dV at h
 refine att 6 [] rfl ?_
 rcases RSl.nilOr (ph0.rsl) with ⟨hxs1,cc1,hv1⟩ | ⟨a1,cc1,hv1⟩
 ·replace h:some []=some r:=by simpa [hxs1,app] using h
  refine atr 2 [] rfl<|lq (mb lJ (congrArg some hv1) rfl) rfl<|en ?_
  refine cd rfl (fun c=>?_) (fun c=>by simp at c)
  refine att 4 [] rfl ?_
  refine WT.ret hF (ay.one rfl) (fun w1 hw=>?_)
  cases h
  replace hw:=hw.addNil
  refine aI (js:=[0]) hw rfl ⟨.slice none 0 0,[],rfl,rfl,OSl.nil _ _ _ _,(by simp)⟩
 refine atr 2 [] rfl<|lq (mb lJ (congrArg some hv1) rfl) rfl<|en ?_
 refine cd rfl (fun c=>by simp at c) (fun c=>?_)
 refine atr 3 [] rfl ?_
 have rc1:RC cF 2 Φ ([]:List (List Nat)) [] ([]:List aD):=RC.nil _ _ _
 refine le' (aV (vs:=[]) (C:=#[]) cF.lasts lJ om rfl rfl rfl rfl (ag Ax (ac)) rfl rc1 rfl (by simpa using Kw.nil)) rfl ?_
 rintro v1 Φ_1 D1 ⟨fr1,h1⟩
 replace h1:OSl cF 105 2 Φ_1 [] v1 ([]:List aD):=by simpa [List.append_assoc] using h1
 refine WL.conv (S':=St w0 Φ_1 [] [[],ob v1]) (fun w1 hw=>hw.addNil)<|la rfl<|luO ph0 fun h2=>?_
 obtain ⟨x1,hx1,h⟩:=bs h
 replace h1:=h1.gives cF.gives
 refine le' (fY dY.lasts dY.one lJ ue rfl rfl rfl rfl rfl (js:=[1]) (Rr:=[[]]) rfl h1 h2 (fun ap=>dN) (fun ap=>(ap.o ph0.old)) hx1) rfl ?_
 rintro v2 Φ_2 D2 ⟨⟨ap1,fr2⟩,h3⟩
 replace h3:OSl dY 105 2 Φ_2 pD0 v2 x1:=by simpa using h3
 refine la rfl<|en ?_
 exact rtg [0] hF (ay.one rfl) rfl (by cases h; exact fun w1 hw=>⟨v2,pD0,rfl,rfl,h3,(fun k hk=>hk)⟩)
theorem eh (w0:av Ψ Φ []) (p0:(List Int)) (ph0:RSl (RI .i64) 1 Ψ pG0 pv0 p0) {r:(List Int)} (h:bZ N p0=some r) :
  Calls prog 56 [pv0].toArray w0.w (be Φ w0.w [] (fun Φ' Fs v=>∃ (sr_0_0:Value),v=sr_0_0∧Fs=[ob sr_0_0]∧OSl (RI .i64) 3 1 Φ' [] sr_0_0 r)):=by
 refine eN func56 rfl ntmps56 rfl w0 fun hF=>?_
 unfold bZ at h
 refine att 6 [] rfl ?_
 rcases RSl.nilOr ph0 with ⟨hxs1,cc1,hv1⟩ | ⟨a1,cc1,hv1⟩
 ·replace h:some []=some r:=by simpa [hxs1,app] using h
  refine atr 2 [] rfl<|lq (mb dQ (congrArg some hv1) rfl) rfl<|en ?_
  refine cd rfl (fun c=>?_) (fun c=>by simp at c)
  refine att 4 [] rfl ?_
  refine WT.ret hF (ay.one rfl) (fun w1 hw=>?_)
  cases h
  replace hw:=hw.addNil
  refine aI (js:=[0]) hw rfl ⟨.slice none 0 0,rfl,rfl,OSl.nil _ _ _ _⟩
 refine atr 2 [] rfl<|lq (mb dQ (congrArg some hv1) rfl) rfl<|en ?_
 refine cd rfl (fun c=>by simp at c) (fun c=>?_)
 refine atr 3 [] rfl<|le' (sL (R:=RI .i64) RI.lasts dQ ou rfl rfl) rfl ?_
 rintro v1 Φ_1 D1 ⟨fr1,h1⟩
 refine la rfl<|lu0 ph0 fun h2=>?_
 obtain ⟨x1,hx1,h⟩:=bs h
 refine le' (ee RI.lasts RI.one RI.flat dQ yY rfl rfl rfl rfl rfl (js:=[0]) (Rr:=[]) rfl h1 h2 hx1) rfl ?_
 rintro v2 Φ_2 D2 ⟨⟨ap1,fr2⟩,h3⟩
 refine la rfl<|en ?_
 exact rtg [0] hF (ay.one rfl) rfl (by cases h; exact fun w1 hw=>⟨v2,rfl,rfl,h3⟩)
theorem rU (w0:av Ψ Φ []) (p0:au) (p1:ah) (p2:(List ax)) (ph0_0:RSl ck 5 Ψ pG0_0 pv0_0 p0.Args) (ph1_0:RSl bm 3 Ψ pG1_0 pv1_0 p1.Items) (ph2:RSl aZ 4 Ψ pG2 pv2 p2) {r:Int} (h:lI N p0 p1 p2=some r) :
  CB w0 prog 232 [.agg [.string p0.Kind,pv0_0,.bool p0.Not].toArray,.agg [pv1_0,iV p1.Next].toArray,pv2] (iV r):=by
 refine eN func232 rfl ntmps232 rfl w0 fun hF=>?_
 unfold lI at h
 refine sr<|lbx rfl fun b_1=>lbx rfl fun b_2=>arr 11 [0,0] rfl<|lnr ph1_0 rfl<|art 3 [] rfl ?_
 refine lin (σ:=Hp × Int × Int) (fun s=>[(2,pv2),(3,pQ b_1),(7,iV s.2.1),(13,pv1_0),(14,iV (p1.Items.length:Int)),(15,iV s.2.2)]) (fun s=>St w0 s.1 [(b_1,.cells #[.string p0.Kind,pv0_0,.bool p0.Not] 201 (0,0))] []) (fun m s=>eO N p0 p1 p2 m s.2.1 s.2.2=some r) (Φ,0,0) N h (sx [] [1]) (fun n1 ih1 s hm=>?_)
 obtain ⟨Φ_1,s1,s2⟩:=s
 have h:eO N p0 p1 p2 (n1+1) s1 s2=some r:=hm
 show WT _ _ [(2,pv2),(3,pQ b_1),(7,iV s1),(13,pv1_0),(14,iV (p1.Items.length:Int)),(15,iV s2)] (St w0 Φ_1 [(b_1,.cells #[.string p0.Kind,pv0_0,.bool p0.Not] 201 (0,0))] [])
 unfold eO at h
 refine att 5 [] rfl ?_
 refine ch h rfl ?_ ?_ <;> intro h
 ·refine atr 5 [] rfl ?_
  obtain ⟨x1,hx1,h⟩:=bs h
  obtain ⟨cs1,F1,-,g1,hb1,hs1,r1⟩:=ph1_0.el (ab hx1).2.2
  obtain ⟨v1,G1,rfl,hq1,h1⟩:=r1
  obtain rfl:=hq1.symm
  refine lia ph1_0 hx1 rfl<|lhx 0 3 g1 rfl<|lnz pA rfl fun b_3=>soN 0 wI rfl ⟨rfl,rfl,h1.one,trivial⟩ rfl ?_
  refine arr 7 [35,1,2] rfl<|kab h rfl rfl rfl (fun b z q=>jX N b p0 x1.F p2 (ph0_0.y z) (h1.y z) (ph2.y z) q) ?_
  rintro x2 h v2 Φ_2 F2 ⟨ap1,fr1,v3,rfl,rfl,h2⟩
  refine art 10 [] rfl ?_
  refine ch h rfl ?_ ?_ <;> intro h
  ·refine att 10 [] rfl ?_
   exact lb [] [1] (ih1 (_,_,_) h)
  refine att 6 [] rfl ?_
  exact lb [] [1] (ih1 (_,_,_) h)
 refine att 6 [] rfl ?_
 exact rt hF h
theorem ji (w0:av Ψ Φ []) (p0:cQ) (p1:(List Int)) (p2:(List Int)) (ph0_0:RSl bS 3 Ψ pG0_0 pv0_0 p0.pos) (ph0_1:RSl bS 3 Ψ pG0_1 pv0_1 p0.neg) (ph0_2:RSl (RI .i64) 1 Ψ pG0_2 pv0_2 p0.chain.Pos) (ph0_3:RSl (RI .i64) 1 Ψ pG0_3 pv0_3 p0.chain.Neg) (ph0_4:RSl j0 1 Ψ pG0_4 pv0_4 p0.alphas) (ph0_5:RSl bm 3 Ψ pG0_5 pv0_5 p0.s.Items) (ph1:RSl (RI .i64) 1 Ψ pG1 pv1 p1) (ph2:RSl (RI .i64) 1 Ψ pG2 pv2 p2) {r:(List aD)} (h:dT N p0 p1 p2=some r) :
  Calls prog 197 [.agg [pv0_0,pv0_1,pv0_2,pv0_3,pv0_4,pv0_5,iV p0.s.Next,iV p0.id].toArray,pv1,pv2].toArray w0.w (be Φ w0.w [] (fun Φ' Fs v=>∃ (sr_0_0:Value) (Dr_0_0:List Nat),v=sr_0_0∧Fs=[ob sr_0_0,Dr_0_0]∧OSl cF 105 2 Φ' Dr_0_0 sr_0_0 r)):=by
 refine eN func197 rfl ntmps197 rfl w0 fun hF=>?_
 unfold dT at h
 refine sr<|lbx rfl fun b_1=>arr 10 [] rfl<|lnr ph2 rfl<|art 3 [] rfl<|wtS<|wt0 ?_
 have k1:=OSl.nil cF 105 2 Φ
 refine lin (σ:=Hp × (List aD) × Value × List Nat × Int) (fun s=>[(1,pv1),(3,pQ b_1),(7,s.2.2.1),(16,pv2),(17,iV (p2.length:Int)),(18,iV s.2.2.2.2)]) (fun s=>St w0 s.1 [(b_1,.cells #[pv0_0,pv0_1,pv0_2,pv0_3,pv0_4,pv0_5,iV p0.s.Next,iV p0.id] 191 (0,0))] [s.2.2.2.1,ob s.2.2.1]) (fun m s=>bD N p0 p1 p2 m s.2.1 s.2.2.2.2=some r∧(OSl cF 105 2 s.1 s.2.2.2.1 s.2.2.1 s.2.1)) (Φ,([]:List aD),(.slice none 0 0),[],0) N ⟨h,k1⟩ (sx [0,0] [0]) (fun n1 ih1 s hm=>?_)
 obtain ⟨Φ_1,s1,u1,D1,s2⟩:=s
 obtain ⟨h,k2⟩:=hm
 dsimp only at h k2 ⊢
 unfold bD at h
 refine att 5 [] rfl ?_
 refine ch h rfl ?_ ?_ <;> intro h
 ·refine atr 5 [] rfl ?_
  obtain ⟨x1,hx1,h⟩:=bs h
  obtain ⟨cs1,F1,-,g1,hb1,hs1,r1⟩:=ph2.el (ab hx1).2.2
  obtain ⟨rfl,-⟩:=r1
  refine lia ph2 hx1 rfl<|lhx 0 0 g1 rfl<|arr 5 [] rfl<|kab h rfl rfl rfl (fun b z q=>eh N b p1 (ph1.y z) q) ?_
  rintro x2 h v1 Φ_2 F2 ⟨ap1,fr1,v2,rfl,rfl,h1⟩
  replace k2:=k2.fr fr1 (ap1.q 1 rfl) (ap1.q 0 rfl)
  refine la rfl ?_
  have rc1:RC (RI .i64) 1 Φ_2 ([[]]:List (List Nat)) [iV x1] ([x1]:List Int):=RC.cons (c:=[iV x1]) (cells:=[]) ⟨rfl,rfl⟩ rfl (RC.nil _ _ _)
  refine le' (aV (vs:=[(0,iV x1)]) (C:=#[iV x1]) RI.lasts dQ ou rfl rfl rfl rfl (ag oW (a8 (C':=[iV x1]) rfl rfl rfl rfl rfl (ac))) rfl rc1 rfl (by simpa using Kw.nil)) rfl ?_
  rintro v3 Φ_3 D2 ⟨fr2,h2⟩
  replace h2:OSl (RI .i64) 3 1 Φ_3 [] v3 ([x1]:List Int):=by simpa using h2
  replace k2:=k2.f0 fr2
  replace h1:=h1.f0 fr2
  obtain ⟨x3,hx3,h⟩:=bs h
  refine le' (ee RI.lasts RI.one RI.flat dQ yY rfl rfl rfl rfl rfl (js:=[1]) (Rr:=[ob v3,D1,ob u1]) rfl h1 h2.rsl hx3) rfl ?_
  rintro v4 Φ_4 D3 ⟨⟨ap2,fr3⟩,h3⟩
  replace k2:=k2.fr fr3 (ap2.q 2 rfl) (ap2.q 1 rfl)
  refine arr 9 [0,0,5,2] rfl<|kab h rfl rfl rfl (fun b z q=>nY N b p0.pos p0.s x3 (ph0_0.y z) (ph0_5.y z) h3.rsl q) ?_
  rintro x4 h v5 Φ_5 F3 ⟨ap3,fr4,v6,rfl,rfl,h4⟩
  replace k2:=k2.fr fr4 (ap3.q 3 rfl) (ap3.q 2 rfl)
  replace h3:=h3.fr fr4 (ap3.q 0 rfl) dN
  refine art 12 [] rfl ?_
  refine ch h rfl ?_ ?_ <;> intro h
  ·refine att 5 [] rfl ?_
   exact lb [3,3] [0] (ih1 (_,_,_,_,_) ⟨h,k2⟩)
  refine atr 4 [] rfl<|lq (bz (vs:=[(0,v4)]) (C:=#[v4,.slice none 0 0]) IC om rfl (a8 (C':=[v4,.slice none 0 0]) rfl (dK h3.one) rfl rfl rfl (ac))) rfl<|lnz om rfl fun b_2=>soN 0 ta rfl ⟨h3.one,rfl,trivial⟩ rfl ?_
  refine arr 5 [] rfl<|lno h3 rfl<|arr 2 [0,32] rfl<|lnr ph0_0 rfl<|la rfl<|en<|wtS ?_
  have k3:=OSl.nil (RI .i64) 3 1 Φ_5
  refine cut (σ:=Hp × (List Int) × Value) (fun s=>[(1,pv1),(3,pQ b_1),(7,u1),(13,pQ b_2),(16,pv2),(17,iV (p2.length:Int)),(18,iV s2)]) (fun s=>St w0 s.1 [(b_2,.cells #[v4,s.2.2] 105 (0,0)),(b_1,.cells #[pv0_0,pv0_1,pv0_2,pv0_3,pv0_4,pv0_5,iV p0.s.Next,iV p0.id] 191 (0,0))] [ob s.2.2,ob v4,D1,ob u1]) (fun s=>cB N s1 s2 (bD N p0 p1 p2 n1) x3 s.2.1=some r∧(OSl cF 105 2 s.1 D1 u1 s1)∧(OSl (RI .i64) 3 1 s.1 [] v4 x3)∧(OSl (RI .i64) 3 1 s.1 [] s.2.2 s.2.1)) (fun s hm=>?_) (fun K=>?_)
  ·clear h
   obtain ⟨Φ_6,s3,u2⟩:=s
   obtain ⟨h,k2,h3,k4⟩:=hm
   dsimp only at h k2 h3 k4 ⊢
   unfold cB at h
   refine atr 3 [2] rfl ?_
   have rc2:RC cF 2 Φ_6 ([(ob v4++[])++((ob u2++[]))]:List (List Nat)) [v4,u2] ([(⟨x3,s3⟩:aD)]:List aD):=RC.cons (c:=[v4,u2]) (cells:=[]) ⟨v4,u2,rfl,rfl,h3,k4⟩ rfl (RC.nil _ _ _)
   refine le' (aV (vs:=[(0,.agg [v4,u2].toArray)]) (C:=#[v4,u2]) cF.lasts lJ om rfl rfl rfl rfl (ag FB (a8 (C':=[v4,u2]) rfl rfl rfl rfl rfl (ac))) rfl rc2 rfl (RC.kn cF.knows rc2)) rfl ?_
   rintro v7 Φ_7 D4 ⟨fr5,h5⟩
   replace h5:OSl cF 105 2 Φ_7 ((ob v4++[])++((ob u2++[]))) v7 ([(⟨x3,s3⟩:aD)]:List aD):=by simpa [List.append_assoc] using h5
   replace k2:=k2.f0 fr5
   refine wlL [((ob v4++[])++((ob u2++[]))),ob v7,D1,ob u1] (smg [2,1] rfl (SP.eq (by simp [List.append_assoc,fu]))) ?_
   obtain ⟨x5,hx5,h⟩:=bs h
   refine le' (fY cF.lasts cF.one lJ ue rfl rfl rfl rfl rfl (js:=[3]) (Rr:=[((ob v4++[])++((ob u2++[]))),ob v7,D1]) rfl k2 h5 (fun ap=>ap.q 2 rfl) (fun ap=>ap.q 0 rfl) hx5) rfl ?_
   rintro v8 Φ_8 D5 ⟨⟨ap4,fr6⟩,h6⟩
   refine wlL [(D1++((ob v4++[])++((ob u2++[])))),ob v8,ob v7] (smg [3,1] rfl (SP.eq (by simp)))<|art 7 [] rfl ?_
   exact lb [0,0] [1] (ih1 (_,_,_,_,_) ⟨h,h6⟩)
  refine ch h rfl ?_ ?_ <;> intro h
  ·refine atr 4 [1,32] rfl<|lnr ph0_1 rfl<|art 3 [] rfl ?_
   refine lin (σ:=Hp × (List Int) × Value × Int) (fun s=>[(1,pv1),(3,pQ b_1),(7,u1),(11,v6),(13,pQ b_2),(16,pv2),(17,iV (p2.length:Int)),(18,iV s2),(47,pv0_1),(48,iV (p0.neg.length:Int)),(49,iV s.2.2.2)]) (fun s=>St w0 s.1 [(b_2,.cells #[v4,s.2.2.1] 105 (0,0)),(b_1,.cells #[pv0_0,pv0_1,pv0_2,pv0_3,pv0_4,pv0_5,iV p0.s.Next,iV p0.id] 191 (0,0))] [ob s.2.2.1,ob v6,ob v4,D1,ob u1]) (fun m s=>cC N p0 s1 s2 (bD N p0 p1 p2 n1) x3 x4 m s.2.1 s.2.2.2=some r∧(OSl cF 105 2 s.1 D1 u1 s1)∧(OSl (RI .i64) 3 1 s.1 [] v4 x3)∧(OSl aZ 97 4 s.1 [] v6 x4.1)∧(OSl (RI .i64) 3 1 s.1 [] s.2.2.1 s.2.1)) (Φ_5,([]:List Int),(.slice none 0 0),0) N ⟨h,k2,h3,h4,k3⟩ (sx [0,0,0,1,1] [0,0]) (fun n3 ih3 s hm=>?_)
   obtain ⟨Φ_9,s4,u3,s5⟩:=s
   obtain ⟨h,k2,h3,h4,k5⟩:=hm
   dsimp only at h k2 h3 h4 k5 ⊢
   unfold cC at h
   refine att 5 [] rfl ?_
   refine ch h rfl ?_ ?_ <;> intro h
   ·refine atr 5 [] rfl ?_
    obtain ⟨x6,hx6,h⟩:=bs h
    obtain ⟨cs2,F4,-,g2,hb2,hs2,r2⟩:=ph0_1.el (ab hx6).2.2
    obtain ⟨v9,G1,rfl,hq1,h7⟩:=r2
    obtain rfl:=hq1.symm
    refine lia ph0_1 hx6 rfl<|lhx 0 3 g2 rfl<|lnz iU rfl fun b_3=>soN 0 mP rfl ⟨rfl,h7.one,rfl,trivial⟩ rfl ?_
    refine en<|wm [0,1,2] [10] rfl<|amm 6 [0,1,1,32,2,3,3,5,4,66,5] [0,1,2] rfl rfl ?_
    obtain ⟨x7,hx7,h⟩:=bs h
    refine on1 6 (mp rfl (kS [0,1,2]) (pzP rfl (fun b z=>rU N b x6 p0.s x4.1 (h7.y z) (ph0_5.y z) h4.rsl hx7)) rfl ?_)
    have rc3:RC (RI .i64) 1 Φ_9 ([[]]:List (List Nat)) [iV x7] ([x7]:List Int):=RC.cons (c:=[iV x7]) (cells:=[]) ⟨rfl,rfl⟩ rfl (RC.nil _ _ _)
    refine WM.one 7 (by kernel_rfl) (me rfl (fun _ v Φx D w1 hq hw=>Kn.of Kf.nil (ai3 0 1 2 rfl rfl rfl) hw) (aV (vs:=[(0,iV x7)]) (C:=#[iV x7]) RI.lasts dQ ou rfl rfl rfl rfl (ag oW (a8 (C':=[iV x7]) rfl rfl rfl rfl rfl (ac))) rfl rc3 rfl (by simpa using Kw.nil)) rfl ?_)
    rintro v10 Φ_10 D6 ⟨fr7,h8⟩
    replace h8:OSl (RI .i64) 3 1 Φ_10 [] v10 ([x7]:List Int):=by simpa using h8
    replace k2:=k2.f0 fr7
    replace h3:=h3.f0 fr7
    replace h4:=h4.f0 fr7
    replace k5:=k5.f0 fr7
    obtain ⟨x8,hx8,h⟩:=bs h
    refine WM.one 8 (by kernel_rfl) (me rfl (fun _ v Φx D w1 hq hw=>Kn.of Kf.nil (ai3 0 1 2 rfl rfl rfl) hw) (ee RI.lasts RI.one RI.flat dQ yY rfl rfl rfl rfl rfl (js:=[1]) (Rr:=[ob v10,ob v6,ob v4,D1,ob u1]) rfl k5 h8.rsl hx8) rfl ?_)
    rintro v11 Φ_11 D7 ⟨⟨ap5,fr8⟩,h9⟩
    replace k2:=k2.fr fr8 (ap5.q 4 rfl) (ap5.q 3 rfl)
    replace h3:=h3.fr fr8 (ap5.q 2 rfl) dN
    replace h4:=h4.fr fr8 (ap5.q 1 rfl) dN
    refine amm 1 [9,1] [0,1,2] rfl rfl ?_
    refine on1 10 (ms1 1 rfl nk zZ rfl h9.one ?_)
    refine WM.nil (by kernel_rfl)<|att 5 [] rfl ?_
    exact lb [0,1,1,1,1] [1,1] (ih3 (_,_,_,_) ⟨h,k2,h3,h4,h9⟩)
   refine xt rfl ?_
   exact wo [0,1,1,1] [0,0] (K (_,_,_) ⟨h,k2,h3,k5⟩)
  refine WT.skip ?_
  exact wo [0,1,2,2] [0,0] (K (_,_,_) ⟨h,k2,h3,k3⟩)
 refine att 6 [] rfl ?_
 exact rtg [1,0] hF (ay.one rfl) rfl (by cases h; exact fun w1 hw=>⟨u1,D1,rfl,rfl,k2⟩)
theorem sM (w0:av Ψ Φ [ob pv1,pD1].flatten) (p0:cQ) (p1:(List aO)) (ph0_0:RSl bS 3 Ψ pG0_0 pv0_0 p0.pos) (ph0_1:RSl bS 3 Ψ pG0_1 pv0_1 p0.neg) (ph0_2:RSl (RI .i64) 1 Ψ pG0_2 pv0_2 p0.chain.Pos) (ph0_3:RSl (RI .i64) 1 Ψ pG0_3 pv0_3 p0.chain.Neg) (ph0_4:RSl j0 1 Ψ pG0_4 pv0_4 p0.alphas) (ph0_5:RSl bm 3 Ψ pG0_5 pv0_5 p0.s.Items) (ph1:OSl dp 103 1 Φ pD1 pv1 p1) {r:(List aO)} (h:gt N p0 p1=some r) :
  Calls prog 135 [.agg [pv0_0,pv0_1,pv0_2,pv0_3,pv0_4,pv0_5,iV p0.s.Next,iV p0.id].toArray,pv1].toArray w0.w (be Φ w0.w [ob pv1,pD1].flatten (fun Φ' Fs v=>∃ (Do_0_0:List Nat),v = .tuple #[]∧Fs=[ob pv1,Do_0_0]∧OSl dp 103 1 Φ' Do_0_0 pv1 r)):=by
 refine eL func135 rfl ntmps135 rfl (L:=[ob pv1,pD1]) w0 (fun hF=>?_)
 unfold gt at h
 refine sr<|lbx rfl fun b_1=>arr 9 [] rfl<|lno ph1 rfl<|art 3 [] rfl<|wtS ?_
 have k1:=OSl.nil dY 105 2 Φ
 refine wtS ?_
 have k2:=OSl.nil dY 105 2 Φ
 refine lin (σ:=Hp × (List aO) × List Nat × (List aD) × Value × List Nat × (List aD) × Value × List Nat × Int) (fun s=>[(1,pv1),(2,pQ b_1),(4,s.2.2.2.2.1),(5,s.2.2.2.2.2.2.2.1),(13,iV (p1.length:Int)),(14,iV s.2.2.2.2.2.2.2.2.2)]) (fun s=>St w0 s.1 [(b_1,.cells #[pv0_0,pv0_1,pv0_2,pv0_3,pv0_4,pv0_5,iV p0.s.Next,iV p0.id] 191 (0,0))] [ob s.2.2.2.2.2.2.2.1,ob s.2.2.2.2.1,ob pv1,s.2.2.1]) (fun m s=>bG N p0 p1 m s.2.1 s.2.2.2.1 s.2.2.2.2.2.2.1 s.2.2.2.2.2.2.2.2.2=some r∧(OSl dp 103 1 s.1 s.2.2.1 pv1 s.2.1)∧(OSl dY 105 2 s.1 s.2.2.2.2.2.1 s.2.2.2.2.1 s.2.2.2.1)∧(∀ k∈s.2.2.2.2.2.1,k∈s.2.2.1)∧(OSl dY 105 2 s.1 s.2.2.2.2.2.2.2.2.1 s.2.2.2.2.2.2.2.1 s.2.2.2.2.2.2.1)∧(∀ k∈s.2.2.2.2.2.2.2.2.1,k∈s.2.2.1)) (Φ,p1,pD1,([]:List aD),(.slice none 0 0),[],([]:List aD),(.slice none 0 0),[],0) N ⟨h,ph1,k1,(by simp),k2,(by simp)⟩ (sx [0,0,0,0] [0]) (fun n1 ih1 s hm=>?_)
 obtain ⟨Φ_1,s1,D1,s2,u1,D2,s3,u2,D3,s4⟩:=s
 obtain ⟨h,k3,k4,i1,k5,i2⟩:=hm
 dsimp only at h k3 k4 i1 k5 i2 ⊢
 unfold bG at h
 refine att 5 [] rfl ?_
 refine ch h rfl ?_ ?_ <;> intro h
 ·refine att 18 [] rfl<|wtS<|wt0 ?_
  have k6:=OSl.nil cF 105 2 Φ_1
  refine cut (σ:=Hp × (List aD) × Value × List Nat) (fun s=>[(1,pv1),(2,pQ b_1),(6,iV s4),(7,s.2.2.1),(13,iV (p1.length:Int)),(14,iV s4)]) (fun s=>St w0 s.1 [(b_1,.cells #[pv0_0,pv0_1,pv0_2,pv0_3,pv0_4,pv0_5,iV p0.s.Next,iV p0.id] 191 (0,0))] [s.2.2.2,ob s.2.2.1,ob pv1,D1]) (fun s=>co N s1 s4 (bG N p0 p1 n1) s.2.1=some r∧(OSl dp 103 1 s.1 D1 pv1 s1)∧(OSl cF 105 2 s.1 s.2.2.2 s.2.2.1 s.2.1)) (fun s hm=>?_) (fun K=>?_)
  ·clear h
   obtain ⟨Φ_2,s5,u3,D4⟩:=s
   obtain ⟨h,k3,k7⟩:=hm
   dsimp only at h k3 k7 ⊢
   unfold co at h
   refine atr 4 [] rfl ?_
   obtain ⟨x1,hx1,h⟩:=bs h
   obtain ⟨cs1,F1,D5,h1,r1,kf1,sp1⟩:=k3.focus hx1
   obtain ⟨v1,D6,rfl,rfl,h2⟩:=r1
   refine wlL [ob v1,D6,D5,D4,ob u3,ob pv1] (sre [3] [ob v1,D6,D5] rfl (by simpa [List.append_assoc] using sp1))<|lih h1 hx1 rfl<|lf pL rfl rfl rfl<|lgx 0 0 h1.rg rfl<|kab h rfl rfl rfl (fun b z q=>mn N b x1.Toks (h2.gives cF.gives) q) ?_
   rintro x2 h v2 Φ_3 F2 ⟨ap1,fr1,v3,D7,rfl,rfl,h3,i3⟩
   replace h1:=h1.fr fr1 (ap1.q 5 rfl) (ap1.q 2 rfl)
   replace k7:=k7.fr fr1 (ap1.q 4 rfl) (ap1.q 3 rfl)
   replace h2:=h2.fr fr1 (ap1.q 0 rfl) (ap1.q 1 rfl)
   refine arr 12 [] rfl<|lih h1 hx1 rfl<|lf pL rfl rfl rfl<|lgx 0 0 h1.rg rfl<|la rfl ?_
   obtain ⟨x3,hx3,h⟩:=bs h
   have h5:=k7.gives cF.gives
   refine le' (fY cF.lasts cF.one lJ ue rfl rfl rfl rfl rfl (js:=[1]) (Rr:=[ob v2,D6,D5,D4,ob u3,ob pv1]) rfl h2 k7 (fun ap=>ap.q 1 rfl) (fun ap=>ap.q 3 rfl) hx3) rfl ?_
   rintro v4 Φ_4 D8 ⟨⟨ap2,fr2⟩,h4⟩
   replace h1:=h1.fr fr2 (ap2.q 5 rfl) (ap2.q 2 rfl)
   replace h5:=h5.fr fr2 (ap2.q 4 rfl) (ap2.q 3 rfl)
   replace h3:=h3.fr fr2 (ap2.q 0 rfl) (Dj.sub (ap2.q 1 rfl) i3)
   refine wlL [(D6++D4),ob v4,ob v2,D5,ob u3,ob pv1] (smg [2,3] rfl (SP.eq (by simp)))<|lih h1 hx1 rfl<|lf pL rfl rfl rfl<|lu (us [5] [(D6++D4),ob v4,ob v2,D5,ob u3] 0 dp.lasts J4 rfl rfl h4.one rfl h1 rfl (fun ap=>ap.q 3 rfl)) rfl ?_
   rintro Φ_5 D9 ⟨⟨ap3,fr3⟩,h6⟩
   replace h5:=h5.fr fr3 (ap3.q 4 rfl) (Dj.sub (ap3.q 0 rfl) (fun k hk=>List.mem_append.2 (.inr hk)))
   replace h4:=h4.fr fr3 (ap3.q 1 rfl) (ap3.q 0 rfl)
   replace h3:=h3.fr fr3 (ap3.q 2 rfl) (Dj.sub (Dj.sub (ap3.q 0 rfl) (fun k hk=>List.mem_append.2 (.inl hk))) i3)
   refine art 6 [] rfl ?_
   have r2:dp Φ_5 _ [v4] (⟨x3⟩:aO):=⟨v4,(D6++D4),rfl,rfl,h4⟩
   obtain ⟨D10,h7,sp2,mF1,mD1⟩:=h6.unfocusM r2 (dp.knows _ _ _ _ r2)
   refine wtL [D10,ob pv1,ob v2,ob u3] (smg [2,1,2] rfl (by simpa [List.append_assoc,fu] using sp2)) ?_
   exact lb [3,2,1,0] [0] (ih1 (_,_,_,_,_,_,_,_,_,_) ⟨h,h7,h3,(fun k hk=>((fun k hk=>(fun k hk=>mF1 k (List.mem_append.2 (.inr hk))) k ((fun k hk=>List.mem_append.2 (.inl hk)) k hk)) k (i3 k hk))),h5,(fun k hk=>((fun k hk=>(fun k hk=>mF1 k (List.mem_append.2 (.inr hk))) k ((fun k hk=>List.mem_append.2 (.inr hk)) k hk)) k hk))⟩)
  refine ch h rfl ?_ ?_ <;> intro h
  ·refine atr 4 [8,7,0] rfl ?_
   have rc1:RC (RI .i64) 1 Φ_1 ([[]]:List (List Nat)) [iV p0.id] ([p0.id]:List Int):=RC.cons (c:=[iV p0.id]) (cells:=[]) ⟨rfl,rfl⟩ rfl (RC.nil _ _ _)
   refine le' (aV (vs:=[(0,iV p0.id)]) (C:=#[iV p0.id]) RI.lasts dQ ou rfl rfl rfl rfl (ag oW (a8 (C':=[iV p0.id]) rfl rfl rfl rfl rfl (ac))) rfl rc1 rfl (by simpa using Kw.nil)) rfl ?_
   rintro v5 Φ_6 D11 ⟨fr4,h8⟩
   replace h8:OSl (RI .i64) 3 1 Φ_6 [] v5 ([p0.id]:List Int):=by simpa using h8
   replace k3:=k3.f0 fr4
   refine kab h rfl rfl rfl (fun b z q=>ji N b p0 [] ([p0.id]:List Int) (ph0_0.y z) (ph0_1.y z) (ph0_2.y z) (ph0_3.y z) (ph0_4.y z) (ph0_5.y z) (RSl.nil _ _ _) h8.rsl q) ?_
   rintro x4 h v6 Φ_7 F3 ⟨ap4,fr5,v7,D12,rfl,rfl,h9⟩
   replace k3:=k3.fr fr5 (ap4.q 5 rfl) (ap4.q 6 rfl)
   refine la rfl<|en ?_
   exact wo [1,0,5,5] [0] (K (_,_,_,_) ⟨h,k3,h9⟩)
  refine atr 4 [] rfl<|lno k4 rfl<|art 3 [] rfl ?_
  refine lin (σ:=Hp × (List aD) × Value × List Nat × Int) (fun s=>[(1,pv1),(2,pQ b_1),(5,u2),(6,iV s4),(7,s.2.2.1),(13,iV (p1.length:Int)),(14,iV s4),(24,u1),(25,iV (s2.length:Int)),(26,iV s.2.2.2.2)]) (fun s=>St w0 s.1 [(b_1,.cells #[pv0_0,pv0_1,pv0_2,pv0_3,pv0_4,pv0_5,iV p0.s.Next,iV p0.id] 191 (0,0))] [s.2.2.2.1,ob s.2.2.1,ob u2,ob u1,ob pv1,D1]) (fun m s=>cV N p0 s1 s2 s3 s4 (bG N p0 p1 n1) m s.2.1 s.2.2.2.2=some r∧(OSl dp 103 1 s.1 D1 pv1 s1)∧(OSl dY 105 2 s.1 D2 u1 s2)∧(OSl dY 105 2 s.1 D3 u2 s3)∧(OSl cF 105 2 s.1 s.2.2.2.1 s.2.2.1 s.2.1)) (Φ_1,([]:List aD),(.slice none 0 0),[],0) N ⟨h,k3,k4,k5,k6⟩ (sx [0,0,0,0,0,0] [0]) (fun n3 ih3 s hm=>?_)
  obtain ⟨Φ_8,s6,u4,D13,s7⟩:=s
  obtain ⟨h,k3,k4,k5,k8⟩:=hm
  dsimp only at h k3 k4 k5 k8 ⊢
  unfold cV at h
  refine att 5 [] rfl ?_
  refine ch h rfl ?_ ?_ <;> intro h
  ·refine atr 5 [] rfl ?_
   obtain ⟨x5,hx5,h⟩:=bs h
   obtain ⟨cs2,F4,-,g1,hb2,hs1,r3⟩:=k4.elS (ab hx5).2.2
   obtain ⟨v8,G1,v9,G2,rfl,rfl,h10,h11⟩:=r3
   refine lio k4 hx5 rfl<|lgx 0 2 g1 rfl<|lnz om rfl fun b_2=>soN 0 ta rfl ⟨h10.one,h11.one,trivial⟩ rfl ?_
   refine arr 8 [40,0,0,7,32] rfl ?_
   have rc2:RC (RI .i64) 1 Φ_8 ([[]]:List (List Nat)) [iV p0.id] ([p0.id]:List Int):=RC.cons (c:=[iV p0.id]) (cells:=[]) ⟨rfl,rfl⟩ rfl (RC.nil _ _ _)
   refine le' (aV (vs:=[(0,iV p0.id)]) (C:=#[iV p0.id]) RI.lasts dQ ou rfl rfl rfl rfl (ag oW (a8 (C':=[iV p0.id]) rfl rfl rfl rfl rfl (ac))) rfl rc2 rfl (by simpa using Kw.nil)) rfl ?_
   rintro v10 Φ_9 D14 ⟨fr6,h12⟩
   replace h12:OSl (RI .i64) 3 1 Φ_9 [] v10 ([p0.id]:List Int):=by simpa using h12
   replace h10:=h10.f0 fr6
   replace k3:=k3.f0 fr6
   replace k4:=k4.f0 fr6
   replace k5:=k5.f0 fr6
   replace k8:=k8.f0 fr6
   refine kab h rfl rfl rfl (fun b z q=>ji N b p0 x5.Ids ([p0.id]:List Int) (ph0_0.y z) (ph0_1.y z) (ph0_2.y z) (ph0_3.y z) (ph0_4.y z) (ph0_5.y z) h10 h12.rsl q) ?_
   rintro x6 h v11 Φ_10 F5 ⟨ap5,fr7,v12,D15,rfl,rfl,h13⟩
   replace k3:=k3.fr fr7 (ap5.q 5 rfl) (ap5.q 6 rfl)
   replace k4:=k4.fr fr7 (ap5.q 4 rfl) (Dj.sub (ap5.q 6 rfl) i1)
   replace k5:=k5.fr fr7 (ap5.q 3 rfl) (Dj.sub (ap5.q 6 rfl) i2)
   replace k8:=k8.fr fr7 (ap5.q 2 rfl) (ap5.q 1 rfl)
   obtain ⟨x7,hx7,h⟩:=bs h
   refine le' (fY cF.lasts cF.one lJ ue rfl rfl rfl rfl rfl (js:=[4]) (Rr:=[ob v11,D15,ob v10,D13,ob u2,ob u1,ob pv1,D1]) rfl k8 h13 (fun ap=>ap.q 3 rfl) (fun ap=>ap.q 1 rfl) hx7) rfl ?_
   rintro v13 Φ_11 D16 ⟨⟨ap6,fr8⟩,h14⟩
   replace k3:=k3.fr fr8 (ap6.q 6 rfl) (ap6.q 7 rfl)
   replace k4:=k4.fr fr8 (ap6.q 5 rfl) (Dj.sub (ap6.q 7 rfl) i1)
   replace k5:=k5.fr fr8 (ap6.q 4 rfl) (Dj.sub (ap6.q 7 rfl) i2)
   refine wlL [(D13++D15),ob v13,ob v11,ob v10,ob u2,ob u1,ob pv1,D1] (smg [4,2] rfl (SP.eq (by simp)))<|art 7 [] rfl ?_
   exact lb [0,0,2,2,2,2] [1] (ih3 (_,_,_,_,_) ⟨h,k3,k4,k5,h14⟩)
  refine atr 4 [] rfl<|lno k5 rfl<|art 3 [] rfl ?_
  refine lin (σ:=Hp × (List aD) × Value × List Nat × Int) (fun s=>[(1,pv1),(2,pQ b_1),(6,iV s4),(7,s.2.2.1),(13,iV (p1.length:Int)),(14,iV s4),(40,u2),(41,iV (s3.length:Int)),(42,iV s.2.2.2.2)]) (fun s=>St w0 s.1 [(b_1,.cells #[pv0_0,pv0_1,pv0_2,pv0_3,pv0_4,pv0_5,iV p0.s.Next,iV p0.id] 191 (0,0))] [s.2.2.2.1,ob s.2.2.1,ob u2,ob pv1,D1]) (fun m s=>cS N p0 s1 s3 s4 (bG N p0 p1 n1) m s.2.1 s.2.2.2.2=some r∧(OSl dp 103 1 s.1 D1 pv1 s1)∧(OSl dY 105 2 s.1 D3 u2 s3)∧(OSl cF 105 2 s.1 s.2.2.2.1 s.2.2.1 s.2.1)) (Φ_8,s6,u4,D13,0) N ⟨h,k3,k5,k8⟩ (sx [0,0,0,1,1] [0]) (fun n4 ih4 s hm=>?_)
  obtain ⟨Φ_12,s8,u5,D17,s9⟩:=s
  obtain ⟨h,k3,k5,k9⟩:=hm
  dsimp only at h k3 k5 k9 ⊢
  unfold cS at h
  refine att 5 [] rfl ?_
  refine ch h rfl ?_ ?_ <;> intro h
  ·refine atr 5 [] rfl ?_
   obtain ⟨x8,hx8,h⟩:=bs h
   obtain ⟨cs3,F6,-,g2,hb3,hs2,r4⟩:=k5.elS (ab hx8).2.2
   obtain ⟨v14,G3,v15,G4,rfl,rfl,h15,h16⟩:=r4
   refine lio k5 hx8 rfl<|lgx 0 2 g2 rfl<|lnz om rfl fun b_3=>soN 0 ta rfl ⟨h15.one,h16.one,trivial⟩ rfl ?_
   refine en<|wm [0,1] [] rfl<|amm 10 [0,1,40,2,0,3,0,4,4,5,32,6,2,7,0,8,32,9] [0,1] rfl rfl ?_
   obtain ⟨x9,hx9,h⟩:=bs h
   obtain ⟨cs4,F7,-,g3,hb4,hs3,r5⟩:=ph0_2.el (ab hx9).2.2
   obtain ⟨rfl,-⟩:=r5
   refine mq 10 rfl (by kernel_rfl) (kN [0,1]) (aw dQ rfl rfl ph0_2 hx9) rfl<|mq 11 rfl (by kernel_rfl) (kN [0,1]) (cz BU rfl (fun w1 hw=>(g3.of_eq 0 1 rfl rfl:rg _ _ _ [iV x9]).rangeAt hw.1)) rfl ?_
   obtain ⟨x10,hx10,h⟩:=bs h
   obtain ⟨cs5,F8,-,g4,hb5,hs4,r6⟩:=ph0_4.el (ab hx10).2.2
   obtain ⟨v16,G5,rfl,hq1,h17⟩:=r6
   obtain rfl:=hq1.symm
   refine mq 12 rfl (by kernel_rfl) (kN [0,1]) (aw CT rfl rfl ph0_4 hx10) rfl<|amm 1 [13,0] [0,1] rfl rfl<|mq 14 rfl (by kernel_rfl) (kN [0,1]) (cz Ii rfl (fun w1 hw=>(g4.of_eq 0 1 rfl rfl:rg _ _ _ [v16]).rangeAt hw.1)) rfl ?_
   obtain ⟨x11,hx11,h⟩:=bs h
   refine WM.one 15 (by kernel_rfl) (mc rfl (fun _ v Φx D w1 hq hw=>Kn.of Kf.nil (ai2 0 1 rfl rfl) hw) (bo (js:=[]) (R:=[D17,ob u5,ob u2,ob pv1,D1]) GU rfl rfl (fun w1 hw ap hl=>ji N (ba hw.fro) p0 x8.Ids x10.L (ph0_0.y hw.up) (ph0_1.y hw.up) (ph0_2.y hw.up) (ph0_3.y hw.up) (ph0_4.y hw.up) (ph0_5.y hw.up) h15 (h17.y hw.up)  hx11)) rfl ?_)
   rintro v17 Φ_13 F9 ⟨ap7,fr9,v18,D18,rfl,rfl,h18⟩
   replace k3:=k3.fr fr9 (ap7.q 3 rfl) (ap7.q 4 rfl)
   replace k5:=k5.fr fr9 (ap7.q 2 rfl) (Dj.sub (ap7.q 4 rfl) i2)
   replace k9:=k9.fr fr9 (ap7.q 1 rfl) (ap7.q 0 rfl)
   obtain ⟨x12,hx12,h⟩:=bs h
   refine WM.one 16 (by kernel_rfl) (me rfl (fun _ v Φx D w1 hq hw=>Kn.of Kf.nil (ai2 0 1 rfl rfl) hw) (fY cF.lasts cF.one lJ ue rfl rfl rfl rfl rfl (js:=[3]) (Rr:=[ob v17,D18,D17,ob u2,ob pv1,D1]) rfl k9 h18 (fun ap=>ap.q 2 rfl) (fun ap=>ap.q 1 rfl) hx12) rfl ?_)
   rintro v19 Φ_14 D19 ⟨⟨ap8,fr10⟩,h19⟩
   replace k3:=k3.fr fr10 (ap8.q 4 rfl) (ap8.q 5 rfl)
   replace k5:=k5.fr fr10 (ap8.q 3 rfl) (Dj.sub (ap8.q 5 rfl) i2)
   refine WM.conv (S':=St w0 Φ_14 [(b_3,.cells #[v14,v15] 105 (0,0)),(b_1,.cells #[pv0_0,pv0_1,pv0_2,pv0_3,pv0_4,pv0_5,iV p0.s.Next,iV p0.id] 191 (0,0))] [(D17++D18),ob v19,ob v17,ob u2,ob pv1,D1]) (fun w1 hw=>hw.merge (js:=[3,2]) rfl (SP.eq (by simp)))<|amm 1 [17] [0,1] rfl rfl<|WM.nil (by kernel_rfl)<|att 5 [] rfl ?_
   exact lb [0,0,1,1,1] [1] (ih4 (_,_,_,_,_) ⟨h,k3,k5,h19⟩)
  refine xt rfl ?_
  exact wo [0,0,1,1] [0] (K (_,_,_,_) ⟨h,k3,k9⟩)
 refine xt rfl ?_
 refine WT.fin hF ay.none (fun w1 hw=>?_)
 cases h
 refine aI (js:=[2,2]) hw rfl ⟨D1,rfl,rfl,k3⟩
theorem vT (w0:av Ψ Φ [ob pv2_0,pD2_0,ob pv2_1,pD2_1].flatten) (p0:bP) (p1:fj) (p2:dI) (p3:ah) (p4:Int) (ph0_0:RSl cD 5 Ψ pG0_0 pv0_0 p0.Rules) (ph1_0:RSl jB 4 Ψ pG1_0 pv1_0 p1.Alphas) (ph1_1:RSl iw 2 Ψ pG1_1 pv1_1 p1.Chains) (ph2_0:OSl fc 133 1 Φ pD2_0 pv2_0 p2.Alphas) (ph2_1:OSl ey 100 1 Φ pD2_1 pv2_1 p2.Rules) (ph3_0:RSl bm 3 Ψ pG3_0 pv3_0 p3.Items) {r:(List eu) × (List cq)} (h:mi N p0 p1 p2 p3 p4=some r) :
  Calls prog 68 [.agg [.string p0.Name,pv0_0].toArray,.agg [pv1_0,pv1_1].toArray,.agg [pv2_0,pv2_1].toArray,.agg [pv3_0,iV p3.Next].toArray,iV p4].toArray w0.w (be Φ w0.w [ob pv2_0,pD2_0,ob pv2_1,pD2_1].flatten (fun Φ' Fs v=>∃ (Do_0_0:List Nat) (Do_1_0:List Nat),v = .tuple #[]∧Fs=[ob pv2_0,Do_0_0,ob pv2_1,Do_1_0]∧OSl fc 133 1 Φ' Do_0_0 pv2_0 r.1∧OSl ey 100 1 Φ' Do_1_0 pv2_1 r.2)):=by
 refine eL func68 rfl ntmps68 rfl (L:=[ob pv2_0,pD2_0,ob pv2_1,pD2_1]) w0 (fun hF=>?_)
 unfold mi at h
 refine sr<|lbx rfl fun b_1=>lbx rfl fun b_2=>lbx rfl fun b_3=>lbx rfl fun b_4=>arr 5 [2] rfl<|kab h rfl rfl rfl (fun b z q=>oV N b p3 p4 (ph3_0.y z) q) ?_
 rintro x1 h v1 Φ_1 F1 ⟨ap1,fr1,v2,rfl,rfl,h1⟩
 replace ph2_0:=ph2_0.fr fr1 (ap1.q 0 rfl) (ap1.q 1 rfl)
 replace ph2_1:=ph2_1.fr fr1 (ap1.q 2 rfl) (ap1.q 3 rfl)
 refine arr 3 [] rfl<|lnz ox rfl fun b_5=>soN 0 qO rfl ⟨rfl,h1.one,trivial⟩ rfl ?_
 refine arr 7 [0,96] rfl<|lnr ph1_0 rfl<|art 3 [] rfl ?_
 refine lin (σ:=Hp × (List eu) × List Nat × Int) (fun s=>[(4,iV p4),(5,pQ b_1),(6,pQ b_2),(7,pQ b_3),(8,pQ b_4),(10,pQ b_5),(24,pv1_0),(25,iV (p1.Alphas.length:Int)),(26,iV s.2.2.2)]) (fun s=>St w0 s.1 [(b_5,.cells #[.string x1.1.Kind,v2] 52 (0,0)),(b_4,.cells #[pv3_0,iV p3.Next] 29 (0,0)),(b_3,.cells #[pv2_0,pv2_1] 35 (0,0)),(b_2,.cells #[pv1_0,pv1_1] 47 (0,0)),(b_1,.cells #[.string p0.Name,pv0_0] 26 (0,0))] [ob v2,ob pv2_0,s.2.2.1,ob pv2_1,pD2_1]) (fun m s=>dS N p0 p1 p2 p3 p4 x1 m s.2.1 s.2.2.2=some r∧(OSl fc 133 1 s.1 s.2.2.1 pv2_0 s.2.1)∧(OSl ey 100 1 s.1 pD2_1 pv2_1 p2.Rules)∧(OSl aP 95 3 s.1 [] v2 x1.1.Fields)) (Φ_1,p2.Alphas,pD2_0,0) N ⟨h,ph2_0,ph2_1,h1⟩ (sx [0,0,0,0,0] [0,0,0,0,0]) (fun n1 ih1 s hm=>?_)
 obtain ⟨Φ_2,s1,D1,s2⟩:=s
 obtain ⟨h,k1,ph2_1,h1⟩:=hm
 dsimp only at h k1 ph2_1 h1 ⊢
 unfold dS at h
 refine att 5 [] rfl ?_
 refine ch h rfl ?_ ?_ <;> intro h
 ·refine atr 6 [] rfl ?_
  obtain ⟨x2,hx2,h⟩:=bs h
  obtain ⟨cs1,F2,-,g1,hb1,hs1,r1⟩:=ph1_0.el (ab hx2).2.2
  obtain ⟨v3,G1,v4,G2,rfl,rfl,h2,h3⟩:=r1
  refine lia ph1_0 hx2 rfl<|lhx 0 4 g1 rfl<|lnz sJ rfl fun b_6=>la rfl<|soN 0 wL rfl ⟨rfl,rfl,h2.one,h3.one,trivial⟩ rfl ?_
  refine arr 5 [4,34] rfl<|qz h (fun b z q=>xz N b x2 x1.1 (h2.y z) (h3.y z) h1.rsl q) rfl rfl rfl fun x3 h=>en ?_
  refine ch h rfl ?_ ?_ <;> intro h
  ·obtain ⟨x4,hx4,h⟩:=bs h
   obtain ⟨cs2,F3,D2,h4,r2,kf1,sp1⟩:=k1.focus hx4
   obtain ⟨v5,rfl,rfl,h5⟩:=r2
   refine wtL [ob v5,D2,ob v2,ob pv2_0,ob pv2_1,pD2_1] (sre [2] [ob v5,D2] rfl (by simpa [List.append_assoc] using sp1))<|WT.mix (Kn w0 Φ_2 (ob pv2_0) [(b_6,.cells #[.string x2.Kind,iV x2.N,v3,v4] 137 (0,0)),(b_5,.cells #[.string x1.1.Kind,v2] 52 (0,0)),(b_4,.cells #[pv3_0,iV p3.Next] 29 (0,0)),(b_3,.cells #[pv2_0,pv2_1] 35 (0,0)),(b_2,.cells #[pv1_0,pv1_1] 47 (0,0)),(b_1,.cells #[.string p0.Name,pv0_0] 26 (0,0))]) (fun i=>match i with | 14=>false | _=>true) mixed (fun _ h=>h.drew) ?_
   refine mq 0 rfl (by kernel_rfl) (kn Kf.id (am [0,1,2,3,4,5] rfl)) (aK Ab rfl) rfl<|mq 1 rfl (by kernel_rfl) (kn Kf.id (am [0,1,2,3,4,5] rfl)) (cz I3 rfl (fun w1 hw=>hw.rgO (i:=3) rfl 0 1 [pv2_0] rfl)) rfl<|ma 2 rfl (by kernel_rfl) (kn Kf.id (am [0,1,2,3,4,5] rfl)) rfl<|mq 3 rfl (by kernel_rfl) (kn Kf.id (am [0,1,2,3,4,5] rfl)) (aK Ab rfl) rfl<|mq 4 rfl (by kernel_rfl) (kn Kf.id (am [0,1,2,3,4,5] rfl)) (cz I3 rfl (fun w1 hw=>hw.rgO (i:=3) rfl 0 1 [pv2_0] rfl)) rfl ?_
   refine ma 5 rfl (by kernel_rfl) (kn Kf.id (am [0,1,2,3,4,5] rfl)) rfl<|mq 6 rfl (by kernel_rfl) (kn Kf.id (am [0,1,2,3,4,5] rfl)) (gG CT rfl rfl h4 hx4) rfl<|mq 7 rfl (by kernel_rfl) (kn Kf.id (am [0,1,2,3,4,5] rfl)) (aK yd rfl) rfl<|mq 8 rfl (by kernel_rfl) (kn Kf.id (am [0,1,2,3,4,5] rfl)) (cz Ii rfl (fun w1 hw=>hw.rg h4.hb (h4.rg.of_eq 0 1 rfl rfl:rg _ _ _ [v5]))) rfl<|ma 9 rfl (by kernel_rfl) (kn Kf.id (am [0,1,2,3,4,5] rfl)) rfl ?_
   have rc1:RC (RI .i64) 1 Φ_2 ([[]]:List (List Nat)) [iV p4] ([p4]:List Int):=RC.cons (c:=[iV p4]) (cells:=[]) ⟨rfl,rfl⟩ rfl (RC.nil _ _ _)
   refine WM.one 10 (by kernel_rfl) (me rfl (fun _ v Φx D w1 hq hw=>Kn.of (Kf.id.se hq.1) (am [0,1,2,3,4,5] rfl) hw) (aV (vs:=[(0,iV p4)]) (C:=#[iV p4]) RI.lasts dQ ou rfl rfl rfl rfl (ag oW (a8 (C':=[iV p4]) rfl rfl rfl rfl rfl (ac))) rfl rc1 rfl (by simpa using Kw.nil)) rfl ?_)
   rintro v6 Φ_3 D3 ⟨fr2,h6⟩
   replace h6:OSl (RI .i64) 3 1 Φ_3 [] v6 ([p4]:List Int):=by simpa using h6
   replace h4:=h4.f0 fr2
   replace ph2_1:=ph2_1.f0 fr2
   replace h1:=h1.f0 fr2
   replace h5:=h5.f0 fr2
   obtain ⟨x5,hx5,h⟩:=bs h
   have kf1:=(Kf.id (F:=(ob pv2_0)):Kf Φ_2 _ _).se fr2
   refine WM.one 11 (by kernel_rfl) (me rfl (fun _ v Φx D w1 hq hw=>Kn.of (kf1.st hq.1.2 (hq.1.1.r (i:=3) rfl)) (am [0,1,2,3,4,5] rfl) hw) (ee RI.lasts RI.one RI.flat dQ yY rfl rfl rfl rfl rfl (js:=[1]) (Rr:=[ob v6,D2,ob v2,ob pv2_0,ob pv2_1,pD2_1]) rfl h5 h6.rsl hx5) rfl ?_)
   rintro v7 Φ_4 D4 ⟨⟨ap2,fr3⟩,h7⟩
   replace h4:=h4.fr fr3 (ap2.q 3 rfl) (ap2.q 1 rfl)
   replace ph2_1:=ph2_1.fr fr3 (ap2.q 4 rfl) (ap2.q 5 rfl)
   replace h1:=h1.fr fr3 (ap2.q 2 rfl) dN
   have kf2:=kf1.st fr3 (ap2.q 3 rfl)
   refine mqT 12 [13,14] rfl (by kernel_rfl) (kn kf2 (am [0,1,2,3,4,5] rfl)) (gG CT rfl rfl h4 hx4) rfl<|mq 13 rfl (by kernel_rfl) (kn kf2 (am [0,1,2,3,4,5] rfl)) (aK yd rfl) rfl ?_
   refine WM.one 14 (by kernel_rfl) (mu rfl (fun hc=>by cases hc) (us [4] [ob v7,ob v6,D2,ob v2,ob pv2_1,pD2_1] 0 fc.lasts zZ rfl rfl h7.one rfl h4 rfl (fun ap=>ap.q 2 rfl)) rfl ?_)
   rintro Φ_5 D5 ⟨⟨ap3,fr4⟩,h8⟩
   replace ph2_1:=ph2_1.fr fr4 (ap3.q 4 rfl) (ap3.q 5 rfl)
   replace h1:=h1.fr fr4 (ap3.q 3 rfl) dN
   replace h7:=h7.fr fr4 (ap3.q 0 rfl) dN
   refine WM.nil (by kernel_rfl)<|att 5 [] rfl ?_
   have r3:fc Φ_5 _ [v7] (⟨x5⟩:eu):=⟨v7,rfl,rfl,h7⟩
   obtain ⟨D6,h9,sp2⟩:=h8.unfocus r3 (fc.knows _ _ _ _ r3)
   refine wtL [D6,ob pv2_0,ob v6,ob v2,ob pv2_1,pD2_1] (smg [1,2] rfl (by simpa [List.append_assoc,fu] using sp2)) ?_
   exact lb [3,1,0,1,1] [1,1,1,1,1] (ih1 (_,_,_,_) ⟨h,h9,ph2_1,h1⟩)
  refine att 6 [] rfl ?_
  exact lb [0,0,0,0,0] [1,1,1,1,1] (ih1 (_,_,_,_) ⟨h,k1,ph2_1,h1⟩)
 refine atr 5 [1,64] rfl<|lno ph2_1 rfl<|art 3 [] rfl ?_
 refine lin (σ:=Hp × (List cq) × List Nat × Int) (fun s=>[(4,iV p4),(5,pQ b_1),(6,pQ b_2),(7,pQ b_3),(8,pQ b_4),(50,pv2_1),(51,iV (p2.Rules.length:Int)),(52,iV s.2.2.2)]) (fun s=>St w0 s.1 [(b_4,.cells #[pv3_0,iV p3.Next] 29 (0,0)),(b_3,.cells #[pv2_0,pv2_1] 35 (0,0)),(b_2,.cells #[pv1_0,pv1_1] 47 (0,0)),(b_1,.cells #[.string p0.Name,pv0_0] 26 (0,0))] [ob pv2_0,D1,ob pv2_1,s.2.2.1]) (fun m s=>ej N p0 p1 p2 p3 p4 s1 m s.2.1 s.2.2.2=some r∧(OSl fc 133 1 s.1 D1 pv2_0 s1)∧(OSl ey 100 1 s.1 s.2.2.1 pv2_1 s.2.1)) (Φ_2,p2.Rules,pD2_1,0) N ⟨h,k1,ph2_1⟩ (sx [1,1,1,1] [1,1,1,1]) (fun n2 ih2 s hm=>?_)
 obtain ⟨Φ_6,s3,D7,s4⟩:=s
 obtain ⟨h,k1,k2⟩:=hm
 dsimp only at h k1 k2 ⊢
 unfold ej at h
 refine att 5 [] rfl ?_
 refine ch h rfl ?_ ?_ <;> intro h
 ·refine atr 6 [] rfl ?_
  obtain ⟨x6,hx6,h⟩:=bs h
  obtain ⟨cs3,F4,D8,h10,r4,kf2,sp3⟩:=k2.focus hx6
  obtain ⟨v8,D9,rfl,rfl,h11⟩:=r4
  refine wlL [ob v8,D9,D8,ob pv2_0,D1,ob pv2_1] (sre [3] [ob v8,D9,D8] rfl (by simpa [List.append_assoc] using sp3))<|lih h10 hx6 rfl<|lgx 0 1 h10.rg rfl ?_
  refine ln (mY (C:=#[.slice none 0 0]) wd rfl) rfl (fun b_7=>?_)
  refine la rfl<|soN 0 Bl rfl ⟨h11.one,trivial⟩ rfl ?_
  refine arr 9 [130,98,66,34] rfl<|kab h rfl rfl rfl (fun b z q=>vu N b p0 p1 (⟨s1,s3⟩:dI) p3 p4 s4 (ph0_0.y z) (ph1_1.y z) (k1.rslG fc.gives) (ph3_0.y z) q) ?_
  rintro x7 h v9 Φ_7 F5 ⟨ap4,fr5,v10,D10,v11,D11,v12,G3,v13,G4,v14,G5,v15,G6,rfl,rfl,h12,i1,h13,i2,h14,i3,h15,i4,h16,i5,h17,i6⟩
  replace k1:=k1.fr fr5 (ap4.q 3 rfl) (ap4.q 4 rfl)
  replace h10:=h10.fr fr5 (ap4.q 5 rfl) (ap4.q 2 rfl)
  replace h11:=h11.fr fr5 (ap4.q 0 rfl) (ap4.q 1 rfl)
  refine lnz BD rfl fun b_8=>soN 0 Gc rfl ⟨h12.one,h13.one,h14.one,h15.one,h16.one,h17.one,rfl,rfl,trivial⟩ rfl ?_
  refine en<|sq<|WT.mix (Kn w0 Φ_7 (ob v8) [(b_8,.cells #[v10,v11,v12,v13,v14,v15,iV x7.s.Next,iV x7.id] 191 (0,0)),(b_7,.cells #[v8] 100 (0,0)),(b_4,.cells #[pv3_0,iV p3.Next] 29 (0,0)),(b_3,.cells #[pv2_0,pv2_1] 35 (0,0)),(b_2,.cells #[pv1_0,pv1_1] 47 (0,0)),(b_1,.cells #[.string p0.Name,pv0_0] 26 (0,0))]) (fun i=>match i with | 10=>false | _=>true) mixed (fun _ h=>h.drew) ?_
  refine mq 0 rfl (by kernel_rfl) (kn Kf.id (am [0,1,2,3,4,5] rfl)) (aG El rfl (fun w1 hw=>hw.rgO (i:=0) rfl 0 8 [v10,v11,v12,v13,v14,v15,iV x7.s.Next,iV x7.id] rfl) rfl) rfl<|mqT 1 [2,7,8,9,10] rfl (by kernel_rfl) (kn Kf.id (am [0,1,2,3,4,5] rfl)) (aK rP rfl) rfl<|mqT 2 [7,8,9,10] rfl (by kernel_rfl) (kn Kf.id (am [0,1,2,3,4,5] rfl)) (cz HX rfl (fun w1 hw=>hw.rgO (i:=1) rfl 0 1 [v8] rfl)) rfl ?_
  refine mqT 3 [4,5,6,7,8,9,10] rfl (by kernel_rfl) (kn Kf.id (am [0,1,2,3,4,5] rfl)) (aK rP rfl) rfl<|mqT 4 [5,6,7,8,9,10] rfl (by kernel_rfl) (kn Kf.id (am [0,1,2,3,4,5] rfl)) (cz HX rfl (fun w1 hw=>hw.rgO (i:=1) rfl 0 1 [v8] rfl)) rfl<|mqT 5 [6,7,8,9,10] rfl (by kernel_rfl) (kn Kf.id (am [0,1,2,3,4,5] rfl)) (lM FO rfl rfl (h11.rslG dp.gives)) rfl<|mqT 6 [7,8,9,10] rfl (by kernel_rfl) (kn Kf.id (am [0,1,2,3,4,5] rfl)) (I4 rfl rfl) rfl ?_
  obtain ⟨x8,hx8,h⟩:=bs h
  obtain ⟨cs4,F6,D12,h18,r5,kf3,sp4⟩:=h11.focus hx8
  obtain ⟨v16,D13,rfl,rfl,h19⟩:=r5
  refine WM.conv (S':=St w0 Φ_7 [(b_8,.cells #[v10,v11,v12,v13,v14,v15,iV x7.s.Next,iV x7.id] 191 (0,0)),(b_7,.cells #[v8] 100 (0,0)),(b_4,.cells #[pv3_0,iV p3.Next] 29 (0,0)),(b_3,.cells #[pv2_0,pv2_1] 35 (0,0)),(b_2,.cells #[pv1_0,pv1_1] 47 (0,0)),(b_1,.cells #[.string p0.Name,pv0_0] 26 (0,0))] [ob v16,D13,D12,ob v10,ob v11,ob v8,D8,ob pv2_0,D1,ob pv2_1]) (fun w1 hw=>hw.re (js:=[3]) (Bs:=[ob v16,D13,D12]) rfl (by simpa [List.append_assoc] using sp4)) ?_
  refine mqT 7 [8,9,10] rfl (by kernel_rfl) (kn Kf.id (am [0,1,2,3,4,5] rfl)) (gG FO rfl rfl h18 hx8) rfl<|mqT 8 [9,10] rfl (by kernel_rfl) (kn Kf.id (am [0,1,2,3,4,5] rfl)) (aK pL rfl) rfl<|mq 9 rfl (by kernel_rfl) (kn Kf.id (am [0,1,2,3,4,5] rfl)) (cz Jr rfl (fun w1 hw=>hw.rg h18.hb (h18.rg.of_eq 0 1 rfl rfl:rg _ _ _ [v16]))) rfl ?_
  obtain ⟨x9,hx9,h⟩:=bs h
  refine WM.one 10 (by kernel_rfl) (mc rfl (fun hc=>by cases hc) (bo (js:=[0,0]) (R:=[D12,ob v10,ob v11,ob v8,D8,ob pv2_0,D1,ob pv2_1]) Hq rfl rfl (fun w1 hw ap hl=>rS N (bx hw ap hl) x7 x8.Toks 1 (h12.rsl.x (Dj.app (ap.q 1 rfl) (Dj.sub (ap.o ph0_0.old) i1))) (h13.rsl.x (Dj.app (ap.q 2 rfl) (Dj.sub (ap.o ph0_0.old) i2))) (h14.x (Dj.sub (ap.o ph1_1.old) i3)) (h15.x (Dj.sub (ap.o ph1_1.old) i4)) (h16.x (Dj.sub (Dj.app (ap.q 5 rfl) (ap.q 6 rfl)) i5)) (h17.x (Dj.sub (ap.o ph3_0.old) i6)) h19  hx9)) rfl ?_)
  rintro v17 Φ_8 F7 ⟨ap5,fr6,D14,rfl,rfl,h20⟩
  replace h14:=h14.fr fr6 (Dj.sub (ap5.o ph1_1.old) i3)
  replace h15:=h15.fr fr6 (Dj.sub (ap5.o ph1_1.old) i4)
  replace h16:=h16.fr fr6 (Dj.sub (Dj.app (ap5.q 5 rfl) (ap5.q 6 rfl)) i5)
  replace h17:=h17.fr fr6 (Dj.sub (ap5.o ph3_0.old) i6)
  replace k1:=k1.fr fr6 (ap5.q 5 rfl) (ap5.q 6 rfl)
  replace h10:=h10.fr fr6 (ap5.q 7 rfl) (ap5.q 4 rfl)
  replace h18:=h18.fr fr6 (ap5.q 3 rfl) (ap5.q 0 rfl)
  replace h12:=h12.fr fr6 (ap5.q 1 rfl) (Dj.sub (ap5.o ph0_0.old) i1)
  replace h13:=h13.fr fr6 (ap5.q 2 rfl) (Dj.sub (ap5.o ph0_0.old) i2)
  refine WM.nil (by kernel_rfl)<|atr 4 [8,0,32] rfl ?_
  have r6:dp Φ_8 _ [v16] (⟨x9⟩:aO):=⟨v16,D14,rfl,rfl,h20⟩
  obtain ⟨D15,h21,sp5⟩:=h18.unfocus r6 (dp.knows _ _ _ _ r6)
  refine wlL [D15,ob v10,ob v11,ob v8,D8,ob pv2_0,D1,ob pv2_1] (smg [0,0,0] rfl (by simpa [List.append_assoc,fu] using sp5))<|kcb [3,0] h rfl rfl rfl rfl (fun b ap z q=>sM N b x7 (x6.Levels.set (wz ((x6.Levels.length:Int) - 1)).toNat (⟨x9⟩:aO)) (h12.rsl.x (Dj.app (ap.q 0 rfl) (Dj.sub (ap.o ph0_0.old) i1))) (h13.rsl.x (Dj.app (ap.q 1 rfl) (Dj.sub (ap.o ph0_0.old) i2))) (h14.x (Dj.sub (ap.o ph1_1.old) i3)) (h15.x (Dj.sub (ap.o ph1_1.old) i4)) (h16.x (Dj.sub (Dj.app (ap.q 3 rfl) (ap.q 4 rfl)) i5)) (h17.x (Dj.sub (ap.o ph3_0.old) i6)) h21 q) ?_
  rintro x10 h v18 Φ_9 F8 ⟨ap6,fr7,D16,rfl,rfl,h22⟩
  replace k1:=k1.fr fr7 (ap6.q 3 rfl) (ap6.q 4 rfl)
  replace h10:=h10.fr fr7 (ap6.q 5 rfl) (ap6.q 2 rfl)
  refine art 6 [] rfl ?_
  have r7:ey Φ_9 _ [v8] (⟨x10⟩:cq):=⟨v8,D16,rfl,rfl,h22⟩
  obtain ⟨D17,h23,sp6⟩:=h10.unfocus r7 (ey.knows _ _ _ _ r7)
  refine wtL [D17,ob v10,ob v11,ob pv2_0,D1,ob pv2_1] (smg [0,0,2] rfl (by simpa [List.append_assoc,fu] using sp6)) ?_
  exact lb [3,3,3,0] [2,2,2,2] (ih2 (_,_,_,_) ⟨h,k1,h23⟩)
 refine xt rfl ?_
 refine WT.fin hF ay.none (fun w1 hw=>?_)
 cases h
 refine aI (js:=[0,0,0,0]) hw rfl ⟨D1,D7,rfl,rfl,k1,k2⟩
theorem iB (w0:av Ψ Φ []) (p0:(List Int)) (p1:(List Int)) (ph0:RSl (RI .i64) 1 Ψ pG0 pv0 p0) (ph1:RSl (RI .i64) 1 Ψ pG1 pv1 p1) {r:Bool} (h:cu N p0 p1=some r) :
  CB w0 prog 76 [pv0,pv1] (.bool r):=by
 refine eN func76 rfl ntmps76 rfl w0 fun hF=>?_
 unfold cu at h
 refine atr 8 [] rfl<|lnr ph0 rfl<|la rfl<|lnr ph1 rfl<|la rfl<|en ?_
 refine ch h rfl ?_ ?_ <;> intro h
 ·refine att 4 [] rfl ?_
  exact rt hF h
 refine atr 5 [] rfl<|lnr ph0 rfl<|art 3 [] rfl ?_
 refine lin (σ:=Int) (fun s=>[(0,pv0),(1,pv1),(12,iV (p0.length:Int)),(13,iV s)]) (fun s=>St w0 Φ [] []) (fun m s=>cE N p0 p1 m s=some r) (0) N h (sx [] []) (fun n1 ih1 s hm=>?_)
 revert hm; revert s; intro s1 hm
 have h:cE N p0 p1 (n1+1) s1=some r:=hm
 show WT _ _ [(0,pv0),(1,pv1),(12,iV (p0.length:Int)),(13,iV s1)] (St w0 Φ [] [])
 unfold cE at h
 refine att 5 [] rfl ?_
 refine ch h rfl ?_ ?_ <;> intro h
 ·refine att 9 [] rfl<|WT.draw mixed (by kernel_rfl) (fun _ h=>h.drew)<|aqq 2 [] rfl ?_
  obtain ⟨x1,hx1,h⟩:=bs h
  obtain ⟨cs1,F1,-,g1,hb1,hs1,r1⟩:=ph0.el (ab hx1).2.2
  obtain ⟨rfl,-⟩:=r1
  refine qq (aw dQ rfl rfl ph0 hx1) rfl<|qq (cz BU rfl (fun w1 hw=>(g1.of_eq 0 1 rfl rfl:rg _ _ _ [iV x1]).rangeAt hw.in0)) rfl<|aqq 2 [] rfl ?_
  obtain ⟨x2,hx2,h⟩:=bs h
  obtain ⟨cs2,F2,-,g2,hb2,hs2,r2⟩:=ph1.el (ab hx2).2.2
  obtain ⟨rfl,-⟩:=r2
  refine qq (aw dQ rfl rfl ph1 hx2) rfl<|qq (cz BU rfl (fun w1 hw=>(g2.of_eq 0 1 rfl rfl:rg _ _ _ [iV x2]).rangeAt hw.in0)) rfl<|aqt 2 [] rfl ?_
  refine ch h rfl ?_ ?_ <;> intro h
  ·refine att 4 [] rfl ?_
   exact rt hF h
  refine att 6 [] rfl ?_
  exact lb [] [] (ih1 _ h)
 refine att 5 [] rfl ?_
 exact rt hF h
theorem ug (w0:av Ψ Φ []) (p0:aM) (p1:aM) (ph0_0:RSl aP 3 Ψ pG0_0 pv0_0 p0.Consts) (ph0_1:RSl (RI .i64) 1 Ψ pG0_1 pv0_1 p0.At) (ph1_0:RSl aP 3 Ψ pG1_0 pv1_0 p1.Consts) (ph1_1:RSl (RI .i64) 1 Ψ pG1_1 pv1_1 p1.At) {r:Bool} (h:jM N p0 p1=some r) :
  CB w0 prog 85 [.agg [.string p0.Kind,iV p0.N,pv0_0,pv0_1].toArray,.agg [.string p1.Kind,iV p1.N,pv1_0,pv1_1].toArray] (.bool r):=by
 refine eN func85 rfl ntmps85 rfl w0 fun hF=>?_
 unfold jM at h
 refine sr<|lbx rfl fun b_1=>lbx rfl fun b_2=>arr 10 [0,32,0,0] rfl ?_
 obtain ⟨b1,hb_1,h⟩:=bs h
 refine WL.cutN 6 [(16,.bool b1),(2,pQ b_1),(3,pQ b_2),(4,.bool false)] ?_ (fun K=>?_)
 rotate_left
 ·refine sp 10 hb_1 rfl (fun hb_1=>?_) fun hb_1=>?_
  ·refine arr 6 [1,32,1,0] rfl ?_
   cases hb_1
   exact ku K
  ·refine arr 6 [] rfl ?_
   cases hb_1
   exact ku K
 refine la rfl ?_
 obtain ⟨b2,hb_2,h⟩:=bs h
 refine WL.cutN 6 [(23,.bool b2),(2,pQ b_1),(3,pQ b_2),(4,.bool false)] ?_ (fun K=>?_)
 rotate_left
 ·refine sp 17 hb_2 rfl (fun hb_2=>?_) fun hb_2=>?_
  ·refine arr 4 [2,32,2,0] rfl<|ly rfl rfl<|qd hb_2 (jo N · p0.Consts p1.Consts ph0_0 ph1_0 ·) rfl rfl rfl fun x1 hb_2=>la rfl ?_
   cases hb_2
   exact ku K
  ·refine arr 6 [] rfl ?_
   cases hb_2
   exact ku K
 refine la rfl ?_
 obtain ⟨b3,hb_3,h⟩:=bs h
 refine WL.cutN 6 [(30,.bool b3),(4,.bool false)] ?_ (fun K=>?_)
 rotate_left
 ·refine sp 24 hb_3 rfl (fun hb_3=>?_) fun hb_3=>?_
  ·refine arr 4 [3,32,3,0] rfl<|ly rfl rfl<|qd hb_3 (iB N · p0.At p1.At ph0_1 ph1_1 ·) rfl rfl rfl fun x2 hb_3=>la rfl ?_
   cases hb_3
   exact ku K
  ·refine arr 6 [] rfl ?_
   cases hb_3
   exact ku K
 refine la rfl<|en ?_
 exact rt hF h
theorem wn (w0:av Ψ Φ []) (p0:au) (ph0_0:RSl ck 5 Ψ pG0_0 pv0_0 p0.Args) {r:aM} (h:mD N p0=some r) :
  Calls prog 204 [.agg [.string p0.Kind,pv0_0,.bool p0.Not].toArray].toArray w0.w (be Φ w0.w [] (fun Φ' Fs v=>∃ (sr_0_0:Value) (sr_0_1:Value),v = .agg [.string r.Kind,iV r.N,sr_0_0,sr_0_1].toArray∧Fs=[ob sr_0_0,ob sr_0_1]∧OSl aP 95 3 Φ' [] sr_0_0 r.Consts∧OSl (RI .i64) 3 1 Φ' [] sr_0_1 r.At)):=by
 refine eN func204 rfl ntmps204 rfl w0 fun hF=>?_
 unfold mD at h
 refine sr<|lbx rfl fun b_1=>lnz sJ rfl fun b_2=>arr 7 [0,32,1,32] rfl<|lnr ph0_0 rfl<|lq (bz (vs:=[(0,.string p0.Kind),(1,iV (p0.Args.length:Int))]) (C:=#[.string p0.Kind,iV (p0.Args.length:Int),.slice none 0 0,.slice none 0 0]) Jz sJ rfl (a8 (C':=[.string p0.Kind,iV 0,.slice none 0 0,.slice none 0 0]) rfl rfl rfl rfl rfl (a8 (C':=[.string p0.Kind,iV (p0.Args.length:Int),.slice none 0 0,.slice none 0 0]) rfl rfl rfl rfl rfl (ac)))) rfl<|lnz sJ rfl fun b_3=>?_
 refine soN 0 wL rfl ⟨rfl,rfl,rfl,rfl,trivial⟩ rfl ?_
 refine arr 6 [1,64] rfl<|lnr ph0_0 rfl<|art 3 [] rfl<|wtS ?_
 have k1:=OSl.nil aP 95 3 Φ
 refine wtS ?_
 have k2:=OSl.nil (RI .i64) 3 1 Φ
 refine lin (σ:=Hp × (List aN) × Value × (List Int) × Value × Int) (fun s=>[(2,pQ b_2),(3,pQ b_3),(13,pv0_0),(14,iV (p0.Args.length:Int)),(15,iV s.2.2.2.2.2)]) (fun s=>St w0 s.1 [(b_3,.cells #[.string p0.Kind,iV (p0.Args.length:Int),s.2.2.1,s.2.2.2.2.1] 137 (0,0)),(b_2,.cells #[.string (⟨#[]⟩:ByteArray),iV 0,.slice none 0 0,.slice none 0 0] 137 (0,0))] [ob s.2.2.2.2.1,ob s.2.2.1]) (fun m s=>eR N p0 m s.2.1 s.2.2.2.1 s.2.2.2.2.2=some r∧(OSl aP 95 3 s.1 [] s.2.2.1 s.2.1)∧(OSl (RI .i64) 3 1 s.1 [] s.2.2.2.2.1 s.2.2.2.1)) (Φ,([]:List aN),(.slice none 0 0),([]:List Int),(.slice none 0 0),0) N ⟨h,k1,k2⟩ (sx [0,0] [0,0]) (fun n1 ih1 s hm=>?_)
 obtain ⟨Φ_1,s1,u1,s2,u2,s3⟩:=s
 obtain ⟨h,k3,k4⟩:=hm
 dsimp only at h k3 k4 ⊢
 unfold eR at h
 refine att 5 [] rfl ?_
 refine ch h rfl ?_ ?_ <;> intro h
 ·refine atr 6 [] rfl ?_
  obtain ⟨x1,hx1,h⟩:=bs h
  obtain ⟨cs1,F1,-,g1,hb1,hs1,r1⟩:=ph0_0.el (ab hx1).2.2
  obtain ⟨rfl,-⟩:=r1
  refine lia ph0_0 hx1 rfl<|lhx 0 5 g1 rfl<|lnz gl rfl fun b_4=>la rfl<|soN 0 gV rfl ⟨rfl,rfl,rfl,rfl,rfl,trivial⟩ rfl ?_
  refine art 7 [0,0] rfl ?_
  refine ch h rfl ?_ ?_ <;> intro h
  ·refine atr 6 [2,32,2,3] rfl ?_
   have rc1:RC aP 3 Φ_1 ([[]]:List (List Nat)) [iV x1.V.K,iV x1.V.N,.string x1.V.S] ([x1.V]:List aN):=RC.cons (c:=[iV x1.V.K,iV x1.V.N,.string x1.V.S]) (cells:=[]) ⟨rfl,rfl⟩ rfl (RC.nil _ _ _)
   refine le' (aV (vs:=[(0,.agg [iV x1.V.K,iV x1.V.N,.string x1.V.S].toArray)]) (C:=#[iV x1.V.K,iV x1.V.N,.string x1.V.S]) aP.lasts iZ gF rfl rfl rfl rfl (ag tv (a8 (C':=[iV x1.V.K,iV x1.V.N,.string x1.V.S]) rfl rfl rfl rfl rfl (ac))) rfl rc1 rfl (by simpa using Kw.nil)) rfl ?_
   rintro v1 Φ_2 D1 ⟨fr1,h1⟩
   replace h1:OSl aP 95 3 Φ_2 [] v1 ([x1.V]:List aN):=by simpa using h1
   replace k3:=k3.f0 fr1
   replace k4:=k4.f0 fr1
   obtain ⟨x2,hx2,h⟩:=bs h
   refine le' (ee aP.lasts aP.one aP.flat iZ yx rfl rfl rfl rfl rfl (js:=[2]) (Rr:=[ob v1,ob u2]) rfl k3 h1.rsl hx2) rfl ?_
   rintro v2 Φ_3 D2 ⟨⟨ap1,fr2⟩,h2⟩
   replace k4:=k4.fr fr2 (ap1.q 1 rfl) dN
   refine lf Dn rfl rfl rfl<|so1 1 Ag rfl h2.one ?_
   refine arr 5 [3,32] rfl ?_
   have rc2:RC (RI .i64) 1 Φ_3 ([[]]:List (List Nat)) [iV s3] ([s3]:List Int):=RC.cons (c:=[iV s3]) (cells:=[]) ⟨rfl,rfl⟩ rfl (RC.nil _ _ _)
   refine le' (aV (vs:=[(0,iV s3)]) (C:=#[iV s3]) RI.lasts dQ ou rfl rfl rfl rfl (ag oW (a8 (C':=[iV s3]) rfl rfl rfl rfl rfl (ac))) rfl rc2 rfl (by simpa using Kw.nil)) rfl ?_
   rintro v3 Φ_4 D3 ⟨fr3,h3⟩
   replace h3:OSl (RI .i64) 3 1 Φ_4 [] v3 ([s3]:List Int):=by simpa using h3
   replace h2:=h2.f0 fr3
   replace k4:=k4.f0 fr3
   obtain ⟨x3,hx3,h⟩:=bs h
   refine le' (ee RI.lasts RI.one RI.flat dQ yY rfl rfl rfl rfl rfl (js:=[3]) (Rr:=[ob v3,ob v2,ob v1]) rfl k4 h3.rsl hx3) rfl ?_
   rintro v4 Φ_5 D4 ⟨⟨ap2,fr4⟩,h4⟩
   replace h2:=h2.fr fr4 (ap2.q 1 rfl) dN
   refine lf Di rfl rfl rfl<|so1 1 zZ rfl h4.one ?_
   refine art 6 [] rfl ?_
   exact lb [0,1] [1,1] (ih1 (_,_,_,_,_,_) ⟨h,h2,h4⟩)
  refine att 6 [] rfl ?_
  exact lb [0,0] [1,1] (ih1 (_,_,_,_,_,_) ⟨h,k3,k4⟩)
 refine atr 4 [4] rfl<|soN 1 wL rfl ⟨rfl,rfl,k3.one,k4.one,trivial⟩ rfl ?_
 refine en ?_
 exact rtg [1,0] hF (ay.one (bb EX rfl (fun w1 hw=>hw.rgO (i:=1) rfl 0 4 [.string p0.Kind,iV (p0.Args.length:Int),u1,u2] rfl) rfl)) rfl (by cases h; exact fun w1 hw=>⟨u1,u2,rfl,rfl,k3,k4⟩)
theorem sN (w0:av Ψ Φ [[pb0],ob pv0_0,pD0_0].flatten) (p0:fj) (p1:au) (ph0_0:OSl cP 137 4 Φ pD0_0 pv0_0 p0.Alphas) (ph0_1:RSl iw 2 Ψ pG0_1 pv0_1 p0.Chains) (pp0:Φ pb0=some (.cells #[pv0_0,pv0_1] 47 (0,0))) (ph1_0:RSl ck 5 Ψ pG1_0 pv1_0 p1.Args) {r:Int × fj} (h:iE N p0 p1=some r) :
  Calls prog 149 [pQ pb0,.agg [.string p1.Kind,pv1_0,.bool p1.Not].toArray].toArray w0.w (be Φ w0.w [[pb0],ob pv0_0,pD0_0].flatten (fun Φ' Fs v=>∃ (so_0_0:Value) (Do_0_0:List Nat),v=iV r.1∧Fs=[[pb0],ob so_0_0,Do_0_0]∧OSl cP 137 4 Φ' Do_0_0 so_0_0 r.2.Alphas∧r.2.Chains=p0.Chains∧Φ' pb0=some (.cells #[so_0_0,pv0_1] 47 (0,0)))):=by
 refine eL func149 rfl ntmps149 rfl (L:=[[pb0],ob pv0_0,pD0_0]) w0 (fun hF=>?_)
 unfold iE at h
 refine sr<|lbx rfl fun b_1=>arr 5 [3] rfl<|kab h rfl rfl rfl (fun b z q=>wn N b p1 (ph1_0.y z) q) ?_
 rintro x1 h v1 Φ_1 F1 ⟨ap1,fr1,v2,v3,rfl,rfl,h1,h2⟩
 replace ph0_0:=ph0_0.fr fr1 (ap1.q 1 rfl) (ap1.q 2 rfl)
 replace pp0:=fr1 _ _ ((ap1.q 0 rfl) _ (by simp)) pp0
 refine lnz sJ rfl fun b_2=>soN 0 wL rfl ⟨rfl,rfl,h1.one,h2.one,trivial⟩ rfl ?_
 refine arr 5 [] rfl<|lq (bf rfl) rfl<|lf wH rfl rfl rfl<|lgx 0 0 (fX pp0) rfl<|lno ph0_0 rfl<|art 3 [] rfl ?_
 refine lin (σ:=Int) (fun s=>[(0,pQ pb0),(5,pQ b_2),(13,pv0_0),(14,iV (p0.Alphas.length:Int)),(15,iV s)]) (fun s=>St w0 Φ_1 [(b_2,.cells #[.string x1.Kind,iV x1.N,v2,v3] 137 (0,0))] [ob v2,ob v3,[pb0],ob pv0_0,pD0_0]) (fun m s=>cU N p0 x1 m s=some r) (0) N h (sx [0,0,0,0,0] [0]) (fun n1 ih1 s hm=>?_)
 revert hm; revert s; intro s1 hm
 have h:cU N p0 x1 (n1+1) s1=some r:=hm
 show WT _ _ [(0,pQ pb0),(5,pQ b_2),(13,pv0_0),(14,iV (p0.Alphas.length:Int)),(15,iV s1)] (St w0 Φ_1 [(b_2,.cells #[.string x1.Kind,iV x1.N,v2,v3] 137 (0,0))] [ob v2,ob v3,[pb0],ob pv0_0,pD0_0])
 unfold cU at h
 refine att 5 [] rfl ?_
 refine ch h rfl ?_ ?_ <;> intro h
 ·refine atr 6 [] rfl ?_
  obtain ⟨x2,hx2,h⟩:=bs h
  obtain ⟨cs1,F2,-,g1,hb1,hs1,r1⟩:=ph0_0.elS (ab hx2).2.2
  obtain ⟨v4,v5,rfl,rfl,h3,h4⟩:=r1
  have h5:=h3.rsl
  have h6:=h4.rsl
  refine lio ph0_0 hx2 rfl<|lgx 0 4 g1 rfl<|lnz sJ rfl fun b_3=>la rfl<|soN 0 wL rfl ⟨rfl,rfl,h5.one,h6.one,trivial⟩ rfl ?_
  refine arr 5 [4,36] rfl<|qc h (ug N · x2 x1 h5 h6 h1.rsl h2.rsl ·) rfl rfl rfl fun x3 h=>en ?_
  refine ch h rfl ?_ ?_ <;> intro h
  ·refine att 5 [] rfl ?_
   exact rtg [2,2,2] hF (ay.one rfl) rfl (by cases h; exact fun w1 hw=>⟨pv0_0,pD0_0,rfl,rfl,ph0_0,rfl,pp0⟩)
  refine att 6 [] rfl ?_
  exact lb [0,0,0,0,0] [1] (ih1 _ h)
 refine xt rfl<|sq<|WT.mix (Kn w0 Φ_1 [pb0] [(b_2,.cells #[.string x1.Kind,iV x1.N,v2,v3] 137 (0,0))]) (fun i=>match i with | 10=>false | _=>true) mixed (fun _ h=>h.drew)<|ma 0 rfl (by kernel_rfl) (kn Kf.id (am [0] rfl)) rfl<|ma 1 rfl (by kernel_rfl) (kn Kf.id (am [0] rfl)) rfl<|mq 2 rfl (by kernel_rfl) (kn Kf.id (am [0] rfl)) (bf rfl) rfl<|mq 3 rfl (by kernel_rfl) (kn Kf.id (am [0] rfl)) (aK wH rfl) rfl ?_
 refine mq 4 rfl (by kernel_rfl) (kn Kf.id (am [0] rfl)) (cz K3 rfl (fun w1 hw=>hw.rg (by simp) ((fX pp0).of_eq 0 1 rfl rfl:rg _ _ _ [pv0_0]))) rfl<|mq 5 rfl (by kernel_rfl) (kn Kf.id (am [0] rfl)) (aG EX rfl (fun w1 hw=>hw.rgO (i:=0) rfl 0 4 [.string x1.Kind,iV x1.N,v2,v3] rfl) rfl) rfl ?_
 have rc1:RC cP 4 Φ_1 ([(ob v2++[])++((ob v3++[]))]:List (List Nat)) [.string x1.Kind,iV x1.N,v2,v3] ([x1]:List aM):=RC.cons (c:=[.string x1.Kind,iV x1.N,v2,v3]) (cells:=[]) ⟨v2,v3,rfl,rfl,h1,h2⟩ rfl (RC.nil _ _ _)
 refine WM.one 6 (by kernel_rfl) (me rfl (fun _ v Φx D w1 hq hw=>Kn.of (Kf.id.se hq.1) (am [0] rfl) hw) (aV (vs:=[(0,.agg [.string x1.Kind,iV x1.N,v2,v3].toArray)]) (C:=#[.string x1.Kind,iV x1.N,v2,v3]) cP.lasts HS sJ rfl rfl rfl rfl (ag Fl (a8 (C':=[.string x1.Kind,iV x1.N,v2,v3]) rfl rfl rfl rfl rfl (ac))) rfl rc1 rfl (RC.kn cP.knows rc1)) rfl ?_)
 rintro v6 Φ_2 D1 ⟨fr2,h7⟩
 replace h7:OSl cP 137 4 Φ_2 ((ob v2++[])++((ob v3++[]))) v6 ([x1]:List aM):=by simpa [List.append_assoc] using h7
 replace ph0_0:=ph0_0.f0 fr2
 replace pp0:=fr2 _ _ (by simp) pp0
 refine WM.conv (S':=St w0 Φ_2 [(b_2,.cells #[.string x1.Kind,iV x1.N,v2,v3] 137 (0,0))] [((ob v2++[])++((ob v3++[]))),ob v6,[pb0],ob pv0_0,pD0_0]) (fun w1 hw=>hw.merge (js:=[1,1]) rfl (SP.eq (by simp [List.append_assoc,fu]))) ?_
 obtain ⟨x4,hx4,h⟩:=bs h
 have kf1:=(Kf.id (F:=[pb0]):Kf Φ_1 _ _).se fr2
 refine WM.one 7 (by kernel_rfl) (me rfl (fun _ v Φx D w1 hq hw=>Kn.of (kf1.st hq.1.2 (hq.1.1.r (i:=2) rfl)) (am [0] rfl) hw) (fY cP.lasts cP.one HS JB rfl rfl rfl rfl rfl (js:=[3]) (Rr:=[((ob v2++[])++((ob v3++[]))),ob v6,[pb0],pD0_0]) rfl ph0_0 h7 (fun ap=>ap.q 3 rfl) (fun ap=>ap.q 0 rfl) hx4) rfl ?_)
 rintro v7 Φ_3 D2 ⟨⟨ap2,fr3⟩,h8⟩
 replace pp0:=fr3 _ _ ((ap2.q 2 rfl) _ (by simp)) pp0
 refine WM.conv (S':=St w0 Φ_3 [(b_2,.cells #[.string x1.Kind,iV x1.N,v2,v3] 137 (0,0))] [(pD0_0++((ob v2++[])++((ob v3++[])))),ob v7,ob v6,[pb0]]) (fun w1 hw=>hw.merge (js:=[4,1]) rfl (SP.eq (by simp))) ?_
 have kf2:=kf1.st fr3 (ap2.q 2 rfl)
 refine mqT 8 [9,10] rfl (by kernel_rfl) (kn kf2 (am [0] rfl)) (bf rfl) rfl<|mq 9 rfl (by kernel_rfl) (kn kf2 (am [0] rfl)) (aK wH rfl) rfl ?_
 refine WM.thw (js:=[3]) (R:=[(pD0_0++((ob v2++[])++((ob v3++[])))),ob v7,ob v6]) rfl pp0 (fun Φ_4 ap3 fr4=>?_)
 replace h8:=h8.fr fr4 (ap3.q 1 rfl) (ap3.q 0 rfl)
 refine on1 10 (ms1 0 rfl nk KE rfl h8.one ?_)
 refine WM.nil (by kernel_rfl)<|sr<|la rfl<|lq (bf rfl) rfl<|arr 2 [0,0] rfl<|lno h8 rfl<|art 3 [] rfl ?_
 refine WT.frz (js:=[0]) (R:=[(b_2,.cells #[.string x1.Kind,iV x1.N,v2,v3] 137 (0,0))]) rfl (fun Φ_5 fr5 k1=>?_)
 replace h8:=h8.f0 fr5
 exact rtg [0,1,0] hF (ay.one rfl) rfl (by cases h; exact fun w1 hw=>⟨v7,(pD0_0++((ob v2++[])++((ob v3++[])))),rfl,rfl,h8,rfl,k1⟩)
end Go.Proofs.YtedmfnmbjglmbaaGreat
