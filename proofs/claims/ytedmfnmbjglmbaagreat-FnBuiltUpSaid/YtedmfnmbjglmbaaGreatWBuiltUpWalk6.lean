/- Printed by a program of ours: each Go function computes its Lean function. -/
import Derived.Test.YtedmfnmbjglmbaaGreatProg
import Derived.Test.YtedmfnmbjglmbaaGreatWBuiltUpWalk5
namespace Go.Proofs.YtedmfnmbjglmbaaGreat
open Eng Tryz
open Go.RowKit (Below)
set_option linter.unusedVariables false
set_option linter.unusedSimpArgs false

set_option maxRecDepth 100000
set_option maxHeartbeats 1000000
variable {Ψ Φ:Hp} {pv0_0 pv0_1 pv1_0 pv0 pv1 pv0_2:Value} {pG0_0 pG0_1 pG1_0 pG0 pG1 pG0_2:List Nat} (N:Nat)
theorem zk (w0:av Ψ Φ []) (p0:bP) (ph0_0:RSl cD 5 Ψ pG0_0 pv0_0 p0.Rules) {r:fj} (h:pO N p0=some r) :
  Calls prog 83 [.agg [.string p0.Name,pv0_0].toArray].toArray w0.w (be Φ w0.w [] (fun Φ' Fs v=>∃ (sr_0_0:Value) (Dr_0_0:List Nat) (sr_0_1:Value) (Dr_0_1:List Nat),v = .agg [sr_0_0,sr_0_1].toArray∧Fs=[ob sr_0_0,Dr_0_0,ob sr_0_1,Dr_0_1]∧OSl cP 137 4 Φ' Dr_0_0 sr_0_0 r.Alphas∧OSl db 141 2 Φ' Dr_0_1 sr_0_1 r.Chains)):=by
 refine eN func83 rfl ntmps83 rfl w0 fun hF=>?_
 unfold pO at h
 refine sr<|lbx rfl fun b_1=>lnz Fc rfl fun b_2=>en<|sr<|lnz Fc rfl fun b_3=>arr 6 [1,64] rfl<|lnr ph0_0 rfl<|art 3 [] rfl<|wtS<|wt0 ?_
 have k1:=OSl.nil cP 137 4 Φ
 refine wtS<|wt0 ?_
 have k2:=OSl.nil db 141 2 Φ
 refine lin (σ:=Hp × (List aM) × Value × List Nat × (List bR) × Value × List Nat × Int) (fun s=>[(2,pQ b_2),(3,pQ b_3),(11,pv0_0),(12,iV (p0.Rules.length:Int)),(13,iV s.2.2.2.2.2.2.2)]) (fun s=>St w0 s.1 [(b_3,.cells #[s.2.2.1,s.2.2.2.2.2.1] 47 (0,0)),(b_2,.cells #[.slice none 0 0,.slice none 0 0] 47 (0,0))] [s.2.2.2.2.2.2.1,ob s.2.2.2.2.2.1,s.2.2.2.1,ob s.2.2.1]) (fun m s=>eM N p0 m s.2.1 s.2.2.2.2.1 s.2.2.2.2.2.2.2=some r∧(OSl cP 137 4 s.1 s.2.2.2.1 s.2.2.1 s.2.1)∧(OSl db 141 2 s.1 s.2.2.2.2.2.2.1 s.2.2.2.2.2.1 s.2.2.2.2.1)) (Φ,([]:List aM),(.slice none 0 0),[],([]:List bR),(.slice none 0 0),[],0) N ⟨h,k1,k2⟩ (sx [0,0,0,0] [0,0]) (fun n1 ih1 s hm=>?_)
 obtain ⟨Φ_1,s1,u1,D1,s2,u2,D2,s3⟩:=s
 obtain ⟨h,k3,k4⟩:=hm
 dsimp only at h k3 k4 ⊢
 unfold eM at h
 refine att 5 [] rfl ?_
 refine ch h rfl ?_ ?_ <;> intro h
 ·refine atr 5 [] rfl ?_
  obtain ⟨x1,hx1,h⟩:=bs h
  obtain ⟨cs1,F1,-,g1,hb1,hs1,r1⟩:=ph0_0.el (ab hx1).2.2
  obtain ⟨v1,G1,v2,G2,v3,G3,rfl,rfl,h1,h2,h3⟩:=r1
  refine lia ph0_0 hx1 rfl<|lhx 0 5 g1 rfl<|lnz p8 rfl fun b_4=>soN 0 qG rfl ⟨rfl,rfl,h1.one,h2.one,h3.one,trivial⟩ rfl ?_
  refine en<|sr<|lnz Bf rfl fun b_5=>arr 6 [2,32] rfl<|lnr h1 rfl<|art 3 [] rfl<|wtS ?_
  have k5:=OSl.nil (RI .i64) 3 1 Φ_1
  refine wtS ?_
  have k6:=OSl.nil (RI .i64) 3 1 Φ_1
  refine lin (σ:=Hp × (List aM) × Value × List Nat × (List Int) × Value × (List Int) × Value × Int) (fun s=>[(2,pQ b_2),(3,pQ b_3),(6,pQ b_5),(11,pv0_0),(12,iV (p0.Rules.length:Int)),(13,iV s3),(18,v1),(19,iV (x1.Pats.length:Int)),(20,iV s.2.2.2.2.2.2.2.2)]) (fun s=>St w0 s.1 [(b_5,.cells #[s.2.2.2.2.2.2.2.1,s.2.2.2.2.2.1] 141 (0,0)),(b_3,.cells #[s.2.2.1,u2] 47 (0,0)),(b_2,.cells #[.slice none 0 0,.slice none 0 0] 47 (0,0))] [ob s.2.2.2.2.2.2.2.1,ob s.2.2.2.2.2.1,D2,ob u2,s.2.2.2.1,ob s.2.2.1]) (fun m s=>fq N s2 s3 (eM N p0 n1) x1 m s.2.1 s.2.2.2.2.1 s.2.2.2.2.2.2.1 s.2.2.2.2.2.2.2.2=some r∧(OSl cP 137 4 s.1 s.2.2.2.1 s.2.2.1 s.2.1)∧(OSl db 141 2 s.1 D2 u2 s2)∧(OSl (RI .i64) 3 1 s.1 [] s.2.2.2.2.2.1 s.2.2.2.2.1)∧(OSl (RI .i64) 3 1 s.1 [] s.2.2.2.2.2.2.2.1 s.2.2.2.2.2.2.1)) (Φ_1,s1,u1,D1,([]:List Int),(.slice none 0 0),([]:List Int),(.slice none 0 0),0) N ⟨h,k3,k4,k5,k6⟩ (sx [0,0,0,0,0,0] [0,1,1]) (fun n2 ih2 s hm=>?_)
  obtain ⟨Φ_2,s4,u3,D3,s5,u4,s6,u5,s7⟩:=s
  obtain ⟨h,k7,k4,k8,k9⟩:=hm
  dsimp only at h k7 k4 k8 k9 ⊢
  unfold fq at h
  refine att 5 [] rfl ?_
  refine ch h rfl ?_ ?_ <;> intro h
  ·refine atr 5 [] rfl ?_
   obtain ⟨x2,hx2,h⟩:=bs h
   obtain ⟨cs2,F2,-,g2,hb2,hs2,r2⟩:=h1.el (ab hx2).2.2
   obtain ⟨v4,G4,rfl,hq1,h4⟩:=r2
   obtain rfl:=hq1.symm
   refine lia h1 hx2 rfl<|lhx 0 3 g2 rfl<|lnz iU rfl fun b_6=>soN 0 mP rfl ⟨rfl,h4.one,rfl,trivial⟩ rfl ?_
   refine arr 4 [3] rfl ?_
   refine WL.frz (js:=[2]) (R:=[(b_6,.cells #[.string x2.Kind,v4,.bool x2.Not] 201 (0,0)),(b_5,.cells #[u5,u4] 141 (0,0)),(b_2,.cells #[.slice none 0 0,.slice none 0 0] 47 (0,0))]) rfl (fun Φ_3 fr1 k10=>?_)
   replace k7:=k7.f0 fr1
   replace k4:=k4.f0 fr1
   replace k8:=k8.f0 fr1
   replace k9:=k9.f0 fr1
   refine kcb [0,5,4] h rfl rfl rfl rfl (fun b ap z q=>sN N b (⟨s4,s2⟩:fj) x2 k7 ((k4.rslG db.gives).x (Dj.app (ap.q 3 rfl) (ap.q 2 rfl))) k10 (h4.y z) q) ?_
   rintro x3 h v5 Φ_4 F3 ⟨ap1,fr2,v6,D4,rfl,rfl,h5,e1,h6⟩
   replace k4:=k4.fr fr2 (ap1.q 3 rfl) (ap1.q 2 rfl)
   replace k8:=k8.fr fr2 (ap1.q 1 rfl) dN
   replace k9:=k9.fr fr2 (ap1.q 0 rfl) dN
   refine art 7 [2,0] rfl ?_
   refine ch h rfl ?_ ?_ <;> intro h
   ·refine atr 4 [1,32] rfl ?_
    have rc1:RC (RI .i64) 1 Φ_4 ([[]]:List (List Nat)) [iV x3.1] ([x3.1]:List Int):=RC.cons (c:=[iV x3.1]) (cells:=[]) ⟨rfl,rfl⟩ rfl (RC.nil _ _ _)
    refine le' (aV (vs:=[(0,iV x3.1)]) (C:=#[iV x3.1]) RI.lasts dQ ou rfl rfl rfl rfl (ag oW (a8 (C':=[iV x3.1]) rfl rfl rfl rfl rfl (ac))) rfl rc1 rfl (by simpa using Kw.nil)) rfl ?_
    rintro v7 Φ_5 D5 ⟨fr3,h7⟩
    replace h7:OSl (RI .i64) 3 1 Φ_5 [] v7 ([x3.1]:List Int):=by simpa using h7
    replace k4:=k4.f0 fr3
    replace k8:=k8.f0 fr3
    replace k9:=k9.f0 fr3
    replace h5:=h5.f0 fr3
    replace h6:=fr3 _ _ (by simp) h6
    obtain ⟨x4,hx4,h⟩:=bs h
    refine le' (ee RI.lasts RI.one RI.flat dQ yY rfl rfl rfl rfl rfl (js:=[5]) (Rr:=[ob v7,[b_3],ob v6,D4,ob u5,D2,ob u2]) rfl k8 h7.rsl hx4) rfl ?_
    rintro v8 Φ_6 D6 ⟨⟨ap2,fr4⟩,h8⟩
    replace k4:=k4.fr fr4 (ap2.q 6 rfl) (ap2.q 5 rfl)
    replace k9:=k9.fr fr4 (ap2.q 4 rfl) dN
    replace h5:=h5.fr fr4 (ap2.q 2 rfl) (ap2.q 3 rfl)
    replace h6:=fr4 _ _ ((ap2.q 1 rfl) _ (by simp)) h6
    refine lf DR rfl rfl rfl<|so1 1 zZ rfl h8.one ?_
    refine art 6 [] rfl ?_
    refine WT.thw (js:=[2]) (R:=[ob v8,ob v7,ob v6,D4,ob u5,D2,ob u2]) rfl h6 (fun Φ_7 ap3 fr5=>?_)
    replace k4:=k4.fr fr5 (ap3.q 6 rfl) (ap3.q 5 rfl)
    replace h8:=h8.fr fr5 (ap3.q 0 rfl) dN
    replace k9:=k9.fr fr5 (ap3.q 4 rfl) dN
    replace h5:=h5.fr fr5 (ap3.q 2 rfl) (ap3.q 3 rfl)
    exact lb [4,0,3,3,2,1] [2,0,1] (ih2 (_,_,_,_,_,_,_,_,_) ⟨h,h5,k4,h8,k9⟩)
   refine atr 4 [0,32] rfl ?_
   have rc2:RC (RI .i64) 1 Φ_4 ([[]]:List (List Nat)) [iV x3.1] ([x3.1]:List Int):=RC.cons (c:=[iV x3.1]) (cells:=[]) ⟨rfl,rfl⟩ rfl (RC.nil _ _ _)
   refine le' (aV (vs:=[(0,iV x3.1)]) (C:=#[iV x3.1]) RI.lasts dQ ou rfl rfl rfl rfl (ag oW (a8 (C':=[iV x3.1]) rfl rfl rfl rfl rfl (ac))) rfl rc2 rfl (by simpa using Kw.nil)) rfl ?_
   rintro v9 Φ_8 D7 ⟨fr6,h9⟩
   replace h9:OSl (RI .i64) 3 1 Φ_8 [] v9 ([x3.1]:List Int):=by simpa using h9
   replace k4:=k4.f0 fr6
   replace k8:=k8.f0 fr6
   replace k9:=k9.f0 fr6
   replace h5:=h5.f0 fr6
   replace h6:=fr6 _ _ (by simp) h6
   obtain ⟨x5,hx5,h⟩:=bs h
   refine le' (ee RI.lasts RI.one RI.flat dQ yY rfl rfl rfl rfl rfl (js:=[4]) (Rr:=[ob v9,[b_3],ob v6,D4,ob u4,D2,ob u2]) rfl k9 h9.rsl hx5) rfl ?_
   rintro v10 Φ_9 D8 ⟨⟨ap4,fr7⟩,h10⟩
   replace k4:=k4.fr fr7 (ap4.q 6 rfl) (ap4.q 5 rfl)
   replace k8:=k8.fr fr7 (ap4.q 4 rfl) dN
   replace h5:=h5.fr fr7 (ap4.q 2 rfl) (ap4.q 3 rfl)
   replace h6:=fr7 _ _ ((ap4.q 1 rfl) _ (by simp)) h6
   refine lf E4 rfl rfl rfl<|so1 1 zZ rfl h10.one ?_
   refine art 6 [] rfl ?_
   refine WT.thw (js:=[2]) (R:=[ob v10,ob v9,ob v6,D4,ob u4,D2,ob u2]) rfl h6 (fun Φ_10 ap5 fr8=>?_)
   replace k4:=k4.fr fr8 (ap5.q 6 rfl) (ap5.q 5 rfl)
   replace k8:=k8.fr fr8 (ap5.q 4 rfl) dN
   replace h10:=h10.fr fr8 (ap5.q 0 rfl) dN
   replace h5:=h5.fr fr8 (ap5.q 2 rfl) (ap5.q 3 rfl)
   exact lb [0,3,3,3,2,1] [2,0,1] (ih2 (_,_,_,_,_,_,_,_,_) ⟨h,h5,k4,k8,h10⟩)
  refine atr 5 [1,32,2] rfl ?_
  have rc3:RC db 2 Φ_2 ([(ob u5++[])++((ob u4++[]))]:List (List Nat)) [u5,u4] ([(⟨s6,s5⟩:bR)]:List bR):=RC.cons (c:=[u5,u4]) (cells:=[]) ⟨u5,u4,rfl,rfl,k9,k8⟩ rfl (RC.nil _ _ _)
  refine le' (aV (vs:=[(0,.agg [u5,u4].toArray)]) (C:=#[u5,u4]) db.lasts Fm Bf rfl rfl rfl rfl (ag Gw (a8 (C':=[u5,u4]) rfl rfl rfl rfl rfl (ac))) rfl rc3 rfl (RC.kn db.knows rc3)) rfl ?_
  rintro v11 Φ_11 D9 ⟨fr9,h11⟩
  replace h11:OSl db 141 2 Φ_11 ((ob u5++[])++((ob u4++[]))) v11 ([(⟨s6,s5⟩:bR)]:List bR):=by simpa [List.append_assoc] using h11
  replace k7:=k7.f0 fr9
  replace k4:=k4.f0 fr9
  refine wlL [((ob u5++[])++((ob u4++[]))),ob v11,D2,ob u2,D3,ob u3] (smg [1,1] rfl (SP.eq (by simp [List.append_assoc,fu]))) ?_
  obtain ⟨x6,hx6,h⟩:=bs h
  refine le' (fY db.lasts db.one Fm Iy rfl rfl rfl rfl rfl (js:=[3]) (Rr:=[((ob u5++[])++((ob u4++[]))),ob v11,D2,D3,ob u3]) rfl k4 h11 (fun ap=>ap.q 2 rfl) (fun ap=>ap.q 0 rfl) hx6) rfl ?_
  rintro v12 Φ_12 D10 ⟨⟨ap6,fr10⟩,h12⟩
  replace k7:=k7.fr fr10 (ap6.q 4 rfl) (ap6.q 3 rfl)
  refine wlL [(D2++((ob u5++[])++((ob u4++[])))),ob v12,ob v11,D3,ob u3] (smg [3,1] rfl (SP.eq (by simp)))<|lf En rfl rfl rfl<|so1 1 JR rfl h12.one ?_
  refine art 6 [] rfl ?_
  exact lb [0,0,1,1] [1,1] (ih1 (_,_,_,_,_,_,_,_) ⟨h,k7,h12⟩)
 refine atr 4 [2] rfl<|soN 1 HM rfl ⟨k3.one,k4.one,trivial⟩ rfl ?_
 refine en ?_
 exact rtg [3,2,1,0] hF (ay.one (bb Ka rfl (fun w1 hw=>hw.rgO (i:=1) rfl 0 2 [u1,u2] rfl) rfl)) rfl (by cases h; exact fun w1 hw=>⟨u1,D1,u2,D2,rfl,rfl,k3,k4⟩)
theorem xu (w0:av Ψ Φ []) (p0:fj) (ph0_0:RSl jB 4 Ψ pG0_0 pv0_0 p0.Alphas) (ph0_1:RSl iw 2 Ψ pG0_1 pv0_1 p0.Chains) {r:dI} (h:oc N p0=some r) :
  Calls prog 100 [.agg [pv0_0,pv0_1].toArray].toArray w0.w (be Φ w0.w [] (fun Φ' Fs v=>∃ (sr_0_0:Value) (Dr_0_0:List Nat) (sr_0_1:Value) (Dr_0_1:List Nat),v = .agg [sr_0_0,sr_0_1].toArray∧Fs=[ob sr_0_0,Dr_0_0,ob sr_0_1,Dr_0_1]∧OSl fc 133 1 Φ' Dr_0_0 sr_0_0 r.Alphas∧OSl ey 100 1 Φ' Dr_0_1 sr_0_1 r.Rules)):=by
 refine eN func100 rfl ntmps100 rfl w0 fun hF=>?_
 unfold oc at h
 refine sr<|lbx rfl fun b_1=>lnz uX rfl fun b_2=>arr 5 [0,32] rfl<|lnr ph0_0 rfl ?_
 obtain ⟨x1,hx1,h⟩:=bs h
 refine le' (Gv (R:=fc) CT Bv IW rfl rfl rfl (fun _=>⟨.slice none 0 0,rfl,rfl,OSl.nil _ _ _ _⟩) rfl rfl (Int.le_refl _) hx1 (I2 hx1)) rfl ?_
 rintro v1 Φ_1 D1 ⟨fr1,h1⟩
 refine wl0<|lq (bz (vs:=[(0,v1)]) (C:=#[v1,.slice none 0 0]) I8 uX rfl (a8 (C':=[v1,.slice none 0 0]) rfl (dK h1.one) rfl rfl rfl (ac))) rfl<|lnz uX rfl fun b_3=>soN 0 wY rfl ⟨h1.one,rfl,trivial⟩ rfl ?_
 refine arr 6 [1,64] rfl<|lnr ph0_1 rfl<|art 3 [] rfl<|wtS<|wt0 ?_
 have k1:=OSl.nil ey 100 1 Φ_1
 refine lin (σ:=Hp × (List cq) × Value × List Nat × Int) (fun s=>[(2,pQ b_2),(3,pQ b_3),(12,pv0_1),(13,iV (p0.Chains.length:Int)),(14,iV s.2.2.2.2)]) (fun s=>St w0 s.1 [(b_3,.cells #[v1,s.2.2.1] 35 (0,0)),(b_2,.cells #[.slice none 0 0,.slice none 0 0] 35 (0,0))] [s.2.2.2.1,ob s.2.2.1,[],ob v1]) (fun m s=>gQ N p0 x1 m s.2.1 s.2.2.2.2=some r∧(OSl fc 133 1 s.1 [] v1 x1)∧(OSl ey 100 1 s.1 s.2.2.2.1 s.2.2.1 s.2.1)) (Φ_1,([]:List cq),(.slice none 0 0),[],0) N ⟨h,h1,k1⟩ (sx [0,0,0,0] [0,0]) (fun n1 ih1 s hm=>?_)
 obtain ⟨Φ_2,s1,u1,D2,s2⟩:=s
 obtain ⟨h,h1,k2⟩:=hm
 dsimp only at h h1 k2 ⊢
 unfold gQ at h
 refine att 5 [] rfl ?_
 refine ch h rfl ?_ ?_ <;> intro h
 ·refine atr 5 [] rfl ?_
  obtain ⟨x2,hx2,h⟩:=bs h
  obtain ⟨cs1,F1,-,g1,hb1,hs1,r1⟩:=ph0_1.el (ab hx2).2.2
  obtain ⟨v2,G1,v3,G2,rfl,rfl,h2,h3⟩:=r1
  refine lia ph0_1 hx2 rfl<|lhx 0 2 g1 rfl<|lnz Bf rfl fun b_4=>soN 0 Jg rfl ⟨h2.one,h3.one,trivial⟩ rfl ?_
  refine en<|wm [0,1,2] [10] rfl<|amm 4 [0,1,1,32,2,0,3,0] [0,1,2] rfl rfl<|mq 4 rfl (by kernel_rfl) (kN [0,1,2]) (lM dQ rfl rfl h2) rfl ?_
  obtain ⟨x3,hx3,h⟩:=bs h
  refine WM.one 5 (by kernel_rfl) (me rfl (fun _ v Φx D w1 hq hw=>Kn.of Kf.nil (ai3 0 1 2 rfl rfl rfl) hw) (Gv (R:=dp) FO BN Jl rfl rfl rfl (fun _=>⟨.slice none 0 0,[],rfl,rfl,OSl.nil _ _ _ _⟩) rfl rfl (Int.le_refl _) hx3 (I2 hx3)) rfl ?_)
  rintro v4 Φ_3 D3 ⟨fr2,h4⟩
  replace h1:=h1.f0 fr2
  replace k2:=k2.f0 fr2
  refine WM.conv (S':=St w0 Φ_3 [(b_4,.cells #[v2,v3] 141 (0,0)),(b_3,.cells #[v1,u1] 35 (0,0)),(b_2,.cells #[.slice none 0 0,.slice none 0 0] 35 (0,0))] ([] :: [ob v4,D2,ob u1,[],ob v1])) (fun w1 hw=>hw.addNil)<|mq 6 rfl (by kernel_rfl) (kN [0,1,2]) (bz (vs:=[(0,v4)]) (C:=#[v4]) JM wd rfl (a8 (C':=[v4]) rfl (dK h4.one) rfl rfl rfl (ac))) rfl ?_
  have rc1:RC ey 1 Φ_3 ([(ob v4++[])]:List (List Nat)) [v4] ([(⟨x3⟩:cq)]:List cq):=RC.cons (c:=[v4]) (cells:=[]) ⟨v4,[],rfl,rfl,h4⟩ rfl (RC.nil _ _ _)
  refine WM.one 7 (by kernel_rfl) (me rfl (fun _ v Φx D w1 hq hw=>Kn.of Kf.nil (ai3 0 1 2 rfl rfl rfl) hw) (aV (vs:=[(0,.agg [v4].toArray)]) (C:=#[v4]) ey.lasts EK wd rfl rfl rfl rfl (ag Fv (a8 (C':=[v4]) rfl rfl rfl rfl rfl (ac))) rfl rc1 rfl (RC.kn ey.knows rc1)) rfl ?_)
  rintro v5 Φ_4 D4 ⟨fr3,h5⟩
  replace h5:OSl ey 100 1 Φ_4 ((ob v4++[])) v5 ([(⟨x3⟩:cq)]:List cq):=by simpa [List.append_assoc] using h5
  replace h1:=h1.f0 fr3
  replace k2:=k2.f0 fr3
  refine WM.conv (S':=St w0 Φ_4 [(b_4,.cells #[v2,v3] 141 (0,0)),(b_3,.cells #[v1,u1] 35 (0,0)),(b_2,.cells #[.slice none 0 0,.slice none 0 0] 35 (0,0))] [((ob v4++[])),ob v5,D2,ob u1,[],ob v1]) (fun w1 hw=>hw.merge (js:=[2,1]) rfl (SP.eq (by simp [List.append_assoc,fu]))) ?_
  obtain ⟨x4,hx4,h⟩:=bs h
  refine WM.one 8 (by kernel_rfl) (me rfl (fun _ v Φx D w1 hq hw=>Kn.of Kf.nil (ai3 0 1 2 rfl rfl rfl) hw) (fY ey.lasts ey.one EK Ja rfl rfl rfl rfl rfl (js:=[3]) (Rr:=[((ob v4++[])),ob v5,D2,[],ob v1]) rfl k2 h5 (fun ap=>ap.q 2 rfl) (fun ap=>ap.q 0 rfl) hx4) rfl ?_)
  rintro v6 Φ_5 D5 ⟨⟨ap1,fr4⟩,h6⟩
  replace h1:=h1.fr fr4 (ap1.q 4 rfl) dN
  refine WM.conv (S':=St w0 Φ_5 [(b_4,.cells #[v2,v3] 141 (0,0)),(b_3,.cells #[v1,u1] 35 (0,0)),(b_2,.cells #[.slice none 0 0,.slice none 0 0] 35 (0,0))] [(D2++((ob v4++[]))),ob v6,ob v5,[],ob v1]) (fun w1 hw=>hw.merge (js:=[3,1]) rfl (SP.eq (by simp)))<|amm 1 [9,1] [0,1,2] rfl rfl ?_
  refine on1 10 (ms1 1 rfl nk KK rfl h6.one ?_)
  refine WM.nil (by kernel_rfl)<|att 5 [] rfl ?_
  exact lb [0,0,1,1] [1,1] (ih1 (_,_,_,_,_) ⟨h,h1,h6⟩)
 refine atr 4 [2] rfl<|soN 1 wY rfl ⟨h1.one,k2.one,trivial⟩ rfl ?_
 refine en ?_
 exact rtg [3,2,1,0] hF (ay.one (bb yj rfl (fun w1 hw=>hw.rgO (i:=1) rfl 0 2 [v1,u1] rfl) rfl)) rfl (by cases h; exact fun w1 hw=>⟨v1,[],u1,D2,rfl,rfl,h1,k2⟩)
theorem u9 (w0:av Ψ Φ []) (p0:bP) (p1:ah) (ph0_0:RSl cD 5 Ψ pG0_0 pv0_0 p0.Rules) (ph1_0:RSl bm 3 Ψ pG1_0 pv1_0 p1.Items) {r:dI} (h:ny N p0 p1=some r) :
  Calls prog 42 [.agg [.string p0.Name,pv0_0].toArray,.agg [pv1_0,iV p1.Next].toArray].toArray w0.w (be Φ w0.w [] (fun Φ' Fs v=>∃ (sr_0_0:Value) (Dr_0_0:List Nat) (sr_0_1:Value) (Dr_0_1:List Nat),v = .agg [sr_0_0,sr_0_1].toArray∧Fs=[ob sr_0_0,Dr_0_0,ob sr_0_1,Dr_0_1]∧OSl fc 133 1 Φ' Dr_0_0 sr_0_0 r.Alphas∧OSl ey 100 1 Φ' Dr_0_1 sr_0_1 r.Rules)):=by
 refine eN func42 rfl ntmps42 rfl w0 fun hF=>?_
 unfold ny at h
 refine sr<|lbx rfl fun b_1=>lbx rfl fun b_2=>lnz uX rfl fun b_3=>arr 4 [66] rfl<|kab h rfl rfl rfl (fun b z q=>zk N b p0 (ph0_0.y z) q) ?_
 rintro x1 h v1 Φ_1 F1 ⟨ap1,fr1,v2,D1,v3,D2,rfl,rfl,h1,h2⟩
 refine lnz Fc rfl fun b_4=>soN 0 HM rfl ⟨h1.one,h2.one,trivial⟩ rfl ?_
 refine arr 4 [2] rfl<|kab h rfl rfl rfl (fun b z q=>xu N b x1 (h1.rslG cP.gives) (h2.rslG db.gives) q) ?_
 rintro x2 h v4 Φ_2 F2 ⟨ap2,fr2,v5,D3,v6,D4,rfl,rfl,h3,h4⟩
 replace h1:=h1.fr fr2 (ap2.q 0 rfl) (ap2.q 1 rfl)
 replace h2:=h2.fr fr2 (ap2.q 2 rfl) (ap2.q 3 rfl)
 refine lnz uX rfl fun b_5=>soN 0 wY rfl ⟨h3.one,h4.one,trivial⟩ rfl ?_
 refine arr 6 [0,96] rfl<|lnr ph1_0 rfl<|art 3 [] rfl ?_
 refine lin (σ:=Hp × (List eu) × List Nat × (List cq) × List Nat × Int) (fun s=>[(2,pQ b_1),(3,pQ b_2),(4,pQ b_3),(5,pQ b_4),(6,pQ b_5),(14,pv1_0),(15,iV (p1.Items.length:Int)),(16,iV s.2.2.2.2.2)]) (fun s=>St w0 s.1 [(b_5,.cells #[v5,v6] 35 (0,0)),(b_4,.cells #[v2,v3] 47 (0,0)),(b_3,.cells #[.slice none 0 0,.slice none 0 0] 35 (0,0)),(b_2,.cells #[pv1_0,iV p1.Next] 29 (0,0)),(b_1,.cells #[.string p0.Name,pv0_0] 26 (0,0))] [ob v5,s.2.2.1,ob v6,s.2.2.2.2.1,ob v2,D1,ob v3,D2]) (fun m s=>fw N p0 p1 x1 m s.2.1 s.2.2.2.1 s.2.2.2.2.2=some r∧(OSl cP 137 4 s.1 D1 v2 x1.Alphas)∧(OSl db 141 2 s.1 D2 v3 x1.Chains)∧(OSl fc 133 1 s.1 s.2.2.1 v5 s.2.1)∧(OSl ey 100 1 s.1 s.2.2.2.2.1 v6 s.2.2.2.1)) (Φ_2,x2.Alphas,D3,x2.Rules,D4,0) N ⟨h,h1,h2,h3,h4⟩ (sx [0,0,0,0,0,0,0,0] [0,0,0,0,0]) (fun n1 ih1 s hm=>?_)
 obtain ⟨Φ_3,s1,D5,s2,D6,s3⟩:=s
 obtain ⟨h,h1,h2,k1,k2⟩:=hm
 dsimp only at h h1 h2 k1 k2 ⊢
 unfold fw at h
 refine att 5 [] rfl ?_
 refine ch h rfl ?_ ?_ <;> intro h
 ·refine atr 6 [] rfl ?_
  obtain ⟨x3,hx3,h⟩:=bs h
  obtain ⟨cs1,F3,-,g1,hb1,hs1,r1⟩:=ph1_0.el (ab hx3).2.2
  obtain ⟨v7,G1,rfl,hq1,h5⟩:=r1
  obtain rfl:=hq1.symm
  refine lia ph1_0 hx3 rfl<|lhx 0 3 g1 rfl<|lnz pA rfl fun b_6=>la rfl<|soN 0 wI rfl ⟨rfl,rfl,h5.one,trivial⟩ rfl ?_
  refine en<|wm [0,1,2,3,4,5] [13] rfl<|amm 7 [0,162,1,66,2,34,3,0,4,128,5,6] [0,1,2,3,4,5] rfl rfl ?_
  obtain ⟨x4,hx4,h⟩:=bs h
  refine mqT 7 [10,13] rfl (by kernel_rfl) (kN [0,1,2,3,4,5]) (AH nS rfl rfl ph1_0 hx4) rfl ?_
  obtain ⟨F4,h6,hs2⟩:=ph1_0.sub hx4
  refine amm 2 [8,1,9,128] [0,1,2,3,4,5] rfl rfl<|mq 10 rfl (by kernel_rfl) (kN [0,1,2,3,4,5]) (bz (vs:=[(0,(slc pv1_0 (0:Int).toNat (wz (s3+1)).toNat 3)),(1,iV p1.Next)]) (C:=#[(slc pv1_0 (0:Int).toNat (wz (s3+1)).toNat 3),iV p1.Next]) Ic tD rfl (a8 (C':=[(slc pv1_0 (0:Int).toNat (wz (s3+1)).toNat 3),iV 0]) rfl (dK h6.one) rfl rfl rfl (a8 (C':=[(slc pv1_0 (0:Int).toNat (wz (s3+1)).toNat 3),iV p1.Next]) rfl rfl rfl rfl rfl (ac)))) rfl<|amm 2 [11,0,12,0] [0,1,2,3,4,5] rfl rfl ?_
  obtain ⟨x5,hx5,h⟩:=bs h
  refine WM.one 13 (by kernel_rfl) (mc rfl (fun hc=>by cases hc) (bo (js:=[0,0,0,0]) (R:=[ob v2,D1,ob v3,D2]) Im rfl rfl (fun w1 hw ap hl=>vT N (bx hw ap hl) p0 x1 (⟨s1,s2⟩:dI) (⟨x4,p1.Next⟩:ah) x3.Id (ph0_0.y (hw.uo ap)) ((h1.rslG cP.gives).x (Dj.app (ap.q 0 rfl) (ap.q 1 rfl))) ((h2.rslG db.gives).x (Dj.app (ap.q 2 rfl) (ap.q 3 rfl))) k1 k2 (h6.y (hw.uo ap))  hx5)) rfl ?_)
  rintro v8 Φ_4 F5 ⟨ap3,fr3,D7,D8,rfl,rfl,h7,h8⟩
  replace h1:=h1.fr fr3 (ap3.q 0 rfl) (ap3.q 1 rfl)
  replace h2:=h2.fr fr3 (ap3.q 2 rfl) (ap3.q 3 rfl)
  refine WM.nil (by kernel_rfl)<|att 5 [] rfl ?_
  exact lb [0,0,0,0,0,0,0,0] [1,1,1,1,1] (ih1 (_,_,_,_,_,_) ⟨h,h1,h2,h7,h8⟩)
 refine atr 4 [2] rfl<|soN 2 wY rfl ⟨k1.one,k2.one,trivial⟩ rfl ?_
 refine en ?_
 exact rtg [0,0,0,0] hF (ay.one (bb yj rfl (fun w1 hw=>hw.rgO (i:=2) rfl 0 2 [v5,v6] rfl) rfl)) rfl (by cases h; exact fun w1 hw=>⟨v5,D5,v6,D6,rfl,rfl,k1,k2⟩)
theorem zy (w0:av Ψ Φ []) (p0:bP) (p1:ah) (ph0_0:RSl cD 5 Ψ pG0_0 pv0_0 p0.Rules) (ph1_0:RSl bm 3 Ψ pG1_0 pv1_0 p1.Items) {r:dI} (h:lN N p0 p1=some r) :
  Calls prog 10 [.agg [.string p0.Name,pv0_0].toArray,.agg [pv1_0,iV p1.Next].toArray].toArray w0.w (be Φ w0.w [] (fun Φ' Fs v=>∃ (sr_0_0:Value) (Dr_0_0:List Nat) (sr_0_1:Value) (Dr_0_1:List Nat),v = .agg [sr_0_0,sr_0_1].toArray∧Fs=[ob sr_0_0,Dr_0_0,ob sr_0_1,Dr_0_1]∧OSl fc 133 1 Φ' Dr_0_0 sr_0_0 r.Alphas∧OSl ey 100 1 Φ' Dr_0_1 sr_0_1 r.Rules)):=by
 refine eN func10 rfl ntmps10 rfl w0 fun hF=>?_
 unfold lN at h
 refine sr<|lbx rfl fun b_1=>lbx rfl fun b_2=>lnz uX rfl fun b_3=>arr 5 [66] rfl<|qd h (pV N · p0 ph0_0 ·) rfl rfl rfl fun x1 h=>arr 2 [] rfl ?_
 obtain ⟨b1,hb_1,h⟩:=bs h
 refine WL.cutN 4 [(12,.bool b1),(2,pQ b_1),(3,pQ b_2),(4,pQ b_3)] ?_ (fun K=>?_)
 rotate_left
 ·refine sp 8 hb_1 rfl (fun hb_1=>?_) fun hb_1=>?_
  ·refine arr 4 [] rfl ?_
   cases hb_1
   exact ku K
  ·refine ly rfl rfl<|ld2 rz 1 rfl<|ly rfl rfl<|qd hb_1 (oe N · p1 ph1_0 ·) rfl rfl rfl fun x2 hb_1=>arr 2 [] rfl ?_
   cases hb_1
   exact ku K
 refine en ?_
 refine ch h rfl ?_ ?_ <;> intro h
 ·refine sr<|lq (bz (vs:=[]) (C:=#[.slice none 0 0,.slice none 0 0]) I8 uX rfl (ac)) rfl<|soN 0 wY rfl ⟨rfl,rfl,trivial⟩ rfl ?_
  refine en ?_
  refine WT.ret hF (ay.one (bb yj rfl (fun w1 hw=>hw.rgO (i:=0) rfl 0 2 [.slice none 0 0,.slice none 0 0] rfl) rfl)) (fun w1 hw=>?_)
  cases h
  replace hw:=hw.addNil
  replace hw:=hw.addNil
  replace hw:=hw.addNil
  replace hw:=hw.addNil
  refine aI (js:=[3,2,1,0]) hw rfl ⟨.slice none 0 0,[],.slice none 0 0,[],rfl,rfl,OSl.nil _ _ _ _,OSl.nil _ _ _ _⟩
 refine atr 5 [66,34] rfl<|kab h rfl rfl rfl (fun b z q=>u9 N b p0 p1 (ph0_0.y z) (ph1_0.y z) q) ?_
 rintro x3 h v1 Φ_1 F1 ⟨ap1,fr1,v2,D1,v3,D2,rfl,rfl,h1,h2⟩
 refine soN 0 wY rfl ⟨h1.one,h2.one,trivial⟩ rfl ?_
 refine en ?_
 exact rtg [0,0,0,0] hF (ay.one (bb yj rfl (fun w1 hw=>hw.rgO (i:=0) rfl 0 2 [v2,v3] rfl) rfl)) rfl (by cases h; exact fun w1 hw=>⟨v2,D1,v3,D2,rfl,rfl,h1,h2⟩)
theorem cX  (w0:av Ψ Φ []) (p0:Int) (p1:Int) (p2:Int)  {r:Bool} (h:ed N p0 p1 p2=some r) :
  CB w0 prog 46 [iV p0,iV p1,iV p2] (.bool r):=by
 refine eN func46 rfl ntmps46 rfl w0 fun hF=>?_
 unfold ed at h
 refine atr 10 [] rfl ?_
 obtain ⟨b1,hb_1,h⟩:=bs h
 refine WL.cutN 4 [(14,.bool b1),(6,.bool false)] ?_ (fun K=>?_)
 rotate_left
 ·refine sp 10 hb_1 rfl (fun hb_1=>?_) fun hb_1=>?_
  ·refine arr 4 [] rfl ?_
   cases hb_1
   exact ku K
  ·refine arr 4 [] rfl ?_
   cases hb_1
   exact ku K
 refine la rfl<|en ?_
 exact rt hF h
theorem mJ  (w0:av Ψ Φ []) (p0:Int)  {r:Bool} (h:iz N p0=some r) :
  CB w0 prog 106 [.int .u8 p0] (.bool r):=by
 refine eN func106 rfl ntmps106 rfl w0 fun hF=>?_
 unfold iz at h
 refine atr 7 [] rfl<|lq (iY Dm tg rfl) rfl<|qc h (cX N · (wz p0) 97 122 ·) rfl rfl rfl fun x1 h=>la rfl ?_
 obtain ⟨b1,hb_1,h⟩:=bs h
 refine WL.cutN 4 [(10,.bool b1),(0,.int .u8 p0),(2,.bool false)] ?_ (fun K=>?_)
 rotate_left
 ·refine sp 6 hb_1 rfl (fun hb_1=>?_) fun hb_1=>?_
  ·refine arr 4 [] rfl ?_
   cases hb_1
   exact ku K
  ·refine ly rfl rfl<|la rfl<|ly rfl rfl<|lq (iY Dm tg rfl) rfl<|ly rfl rfl<|qc hb_1 (cX N · (wz p0) 48 57 ·) rfl rfl rfl fun x2 hb_1=>la rfl ?_
   cases hb_1
   exact ku K
 refine la rfl ?_
 obtain ⟨b2,hb_2,h⟩:=bs h
 refine WL.cutN 3 [(14,.bool b2),(2,.bool false)] ?_ (fun K=>?_)
 rotate_left
 ·refine sp 11 hb_2 rfl (fun hb_2=>?_) fun hb_2=>?_
  ·refine arr 3 [] rfl ?_
   cases hb_2
   exact ku K
  ·refine arr 3 [] rfl ?_
   cases hb_2
   exact ku K
 refine la rfl<|en ?_
 exact rt hF h
theorem fG  (w0:av Ψ Φ []) (p0:ByteArray)  {r:Bool} (h:et N p0=some r) :
  CB w0 prog 45 [.string p0] (.bool r):=by
 refine eN func45 rfl ntmps45 rfl w0 fun hF=>?_
 unfold et at h
 refine att 10 [] rfl ?_
 refine lin (σ:=Int) (fun s=>[(0,.string p0),(3,iV s)]) (fun s=>St w0 Φ [] []) (fun m s=>eF N p0 m s=some r) (0) N h (sx [] []) (fun n1 ih1 s hm=>?_)
 revert hm; revert s; intro s1 hm
 have h:eF N p0 (n1+1) s1=some r:=hm
 show WT _ _ [(0,.string p0),(3,iV s1)] (St w0 Φ [] [])
 unfold eF at h
 refine atr 5 [] rfl<|lq (mL jG rfl rfl) rfl<|la rfl<|en ?_
 refine ch h rfl ?_ ?_ <;> intro h
 ·refine atr 7 [] rfl ?_
  obtain ⟨y1,hy1,h⟩:=bs h
  refine lq (jK jG rfl rfl hy1) rfl<|qc h (mJ N · (y1.toNat:Int) ·) rfl rfl rfl fun x1 h=>arr 2 [] rfl ?_
  obtain ⟨b1,hb_1,h⟩:=bs h
  refine WL.cutN 11 [(26,.bool b1),(0,.string p0),(3,iV s1)] ?_ (fun K=>?_)
  rotate_left
  ·refine sp 15 hb_1 rfl (fun hb_1=>?_) fun hb_1=>?_
   ·refine arr 11 [] rfl ?_
    cases hb_1
    exact ku K
   ·refine arr 3 [] rfl ?_
    obtain ⟨b2,hb_2,hb_1⟩:=bs hb_1
    refine WL.cutN 7 [(25,.bool b2),(0,.string p0),(3,iV s1),(15,.bool false)] ?_ (fun K=>?_)
    rotate_left
    ·refine sp 18 hb_2 rfl (fun hb_2=>?_) fun hb_2=>?_
     ·refine arr 2 [] rfl<|ly rfl rfl ?_
      obtain ⟨y2,hy2,hb_2⟩:=bs hb_2
      refine lq (jK jG rfl rfl hy2) rfl<|ly rfl rfl<|lq (iY Dm tg rfl) rfl<|ly rfl rfl<|qc hb_2 (cX N · (wz (y2.toNat:Int)) 97 122 ·) rfl rfl rfl fun x2 hb_2=>arr 2 [] rfl ?_
      cases hb_2
      exact ku K
     ·refine arr 7 [] rfl ?_
      cases hb_2
      exact ku K
    refine la rfl ?_
    cases hb_1
    exact ku K
  refine en ?_
  refine ch h rfl ?_ ?_ <;> intro h
  ·refine att 4 [] rfl ?_
   exact rt hF h
  refine att 7 [] rfl ?_
  exact lb [] [] (ih1 _ h)
 refine atr 4 [] rfl<|lq (mL jG rfl rfl) rfl<|qc h (cX N · (p0.size:Int) 1 12 ·) rfl rfl rfl fun x3 h=>la rfl<|en ?_
 exact rt hF h
theorem w5  (w0:av Ψ Φ []) (p0:ByteArray)  {r:Bool} (h:mt N p0=some r) :
  CB w0 prog 219 [.string p0] (.bool r):=by
 refine eN func219 rfl ntmps219 rfl w0 fun hF=>?_
 unfold mt at h
 refine att 10 [] rfl ?_
 refine lin (σ:=Int) (fun s=>[(0,.string p0),(3,iV s)]) (fun s=>St w0 Φ [] []) (fun m s=>eW N p0 m s=some r) (0) N h (sx [] []) (fun n1 ih1 s hm=>?_)
 revert hm; revert s; intro s1 hm
 have h:eW N p0 (n1+1) s1=some r:=hm
 show WT _ _ [(0,.string p0),(3,iV s1)] (St w0 Φ [] [])
 unfold eW at h
 refine atr 5 [] rfl<|lq (mL jG rfl rfl) rfl<|la rfl<|en ?_
 refine ch h rfl ?_ ?_ <;> intro h
 ·refine atr 7 [] rfl ?_
  obtain ⟨y1,hy1,h⟩:=bs h
  refine lq (jK jG rfl rfl hy1) rfl<|qc h (mJ N · (y1.toNat:Int) ·) rfl rfl rfl fun x1 h=>la rfl<|en ?_
  refine ch h rfl ?_ ?_ <;> intro h
  ·refine att 4 [] rfl ?_
   exact rt hF h
  refine att 7 [] rfl ?_
  exact lb [] [] (ih1 _ h)
 refine atr 4 [] rfl<|lq (mL jG rfl rfl) rfl<|art 3 [] rfl ?_
 exact rt hF h
theorem u7  (w0:av Ψ Φ []) (p0:aN)  {r:Bool} (h:nw N p0=some r) :
  CB w0 prog 177 [.agg [iV p0.K,iV p0.N,.string p0.S].toArray] (.bool r):=by
 refine eN func177 rfl ntmps177 rfl w0 fun hF=>?_
 unfold nw at h
 refine sr<|lbx rfl fun b_1=>art 14 [0,0] rfl ?_
 refine ch h rfl ?_ ?_ <;> intro h
 ·refine atr 4 [1,0] rfl<|qc h (cX N · p0.N (-1000000000) 1000000000 ·) rfl rfl rfl fun x1 h=>la rfl ?_
  obtain ⟨b1,hb_1,h⟩:=bs h
  refine WL.cutN 4 [(14,.bool b1),(2,.bool false)] ?_ (fun K=>?_)
  rotate_left
  ·refine sp 10 hb_1 rfl (fun hb_1=>?_) fun hb_1=>?_
   ·refine arr 4 [2,0] rfl ?_
    cases hb_1
    exact ku K
   ·refine arr 4 [] rfl ?_
    cases hb_1
    exact ku K
  refine la rfl<|en ?_
  exact rt hF h
 refine att 5 [] rfl ?_
 refine ch h rfl ?_ ?_ <;> intro h
 ·refine atr 4 [2,0] rfl<|qc h (w5 N · p0.S ·) rfl rfl rfl fun x2 h=>la rfl ?_
  obtain ⟨b2,hb_2,h⟩:=bs h
  refine WL.cutN 4 [(24,.bool b2),(2,.bool false)] ?_ (fun K=>?_)
  rotate_left
  ·refine sp 20 hb_2 rfl (fun hb_2=>?_) fun hb_2=>?_
   ·refine arr 4 [1,0] rfl ?_
    cases hb_2
    exact ku K
   ·refine arr 4 [] rfl ?_
    cases hb_2
    exact ku K
  refine la rfl<|en ?_
  exact rt hF h
 refine att 6 [] rfl ?_
 exact rt hF h
theorem wP  (w0:av Ψ Φ []) (p0:Int)  {r:Bool} (h:mh N p0=some r) :
  CB w0 prog 257 [.int .u8 p0] (.bool r):=by
 refine eN func257 rfl ntmps257 rfl w0 fun hF=>?_
 unfold mh at h
 refine atr 7 [] rfl<|lq (iY Dm tg rfl) rfl<|qc h (cX N · (wz p0) 65 90 ·) rfl rfl rfl fun x1 h=>la rfl<|en ?_
 exact rt hF h
theorem vO  (w0:av Ψ Φ []) (p0:ByteArray)  {r:Bool} (h:ml N p0=some r) :
  CB w0 prog 240 [.string p0] (.bool r):=by
 refine eN func240 rfl ntmps240 rfl w0 fun hF=>?_
 unfold ml at h
 refine att 10 [] rfl ?_
 refine lin (σ:=Int) (fun s=>[(0,.string p0),(3,iV s)]) (fun s=>St w0 Φ [] []) (fun m s=>dA N p0 m s=some r) (0) N h (sx [] []) (fun n1 ih1 s hm=>?_)
 revert hm; revert s; intro s1 hm
 have h:dA N p0 (n1+1) s1=some r:=hm
 show WT _ _ [(0,.string p0),(3,iV s1)] (St w0 Φ [] [])
 unfold dA at h
 refine atr 5 [] rfl<|lq (mL jG rfl rfl) rfl<|la rfl<|en ?_
 refine ch h rfl ?_ ?_ <;> intro h
 ·refine atr 7 [] rfl ?_
  obtain ⟨y1,hy1,h⟩:=bs h
  refine lq (jK jG rfl rfl hy1) rfl<|qc h (wP N · (y1.toNat:Int) ·) rfl rfl rfl fun x1 h=>arr 2 [] rfl ?_
  obtain ⟨b1,hb_1,h⟩:=bs h
  refine WL.cutN 10 [(25,.bool b1),(0,.string p0),(3,iV s1)] ?_ (fun K=>?_)
  rotate_left
  ·refine sp 15 hb_1 rfl (fun hb_1=>?_) fun hb_1=>?_
   ·refine arr 3 [] rfl ?_
    obtain ⟨b2,hb_2,hb_1⟩:=bs hb_1
    refine WL.cutN 6 [(24,.bool b2),(0,.string p0),(3,iV s1),(15,.bool true)] ?_ (fun K=>?_)
    rotate_left
    ·refine sp 18 hb_2 rfl (fun hb_2=>?_) fun hb_2=>?_
     ·refine arr 6 [] rfl ?_
      cases hb_2
      exact ku K
     ·refine arr 2 [] rfl<|ly rfl rfl ?_
      obtain ⟨y2,hy2,hb_2⟩:=bs hb_2
      refine lq (jK jG rfl rfl hy2) rfl<|ly rfl rfl<|qc hb_2 (mJ N · (y2.toNat:Int) ·) rfl rfl rfl fun x2 hb_2=>arr 2 [] rfl ?_
      cases hb_2
      exact ku K
    refine la rfl ?_
    cases hb_1
    exact ku K
   ·refine arr 10 [] rfl ?_
    cases hb_1
    exact ku K
  refine en ?_
  refine ch h rfl ?_ ?_ <;> intro h
  ·refine att 4 [] rfl ?_
   exact rt hF h
  refine att 7 [] rfl ?_
  exact lb [] [] (ih1 _ h)
 refine atr 4 [] rfl<|lq (mL jG rfl rfl) rfl<|qc h (cX N · (p0.size:Int) 1 12 ·) rfl rfl rfl fun x3 h=>la rfl<|en ?_
 exact rt hF h
theorem nc  (w0:av Ψ Φ []) (p0:bh)  {r:Bool} (h:kt N p0=some r) :
  CB w0 prog 217 [.agg [iV p0.K,.string p0.S,iV p0.V.K,iV p0.V.N,.string p0.V.S].toArray] (.bool r):=by
 refine eN func217 rfl ntmps217 rfl w0 fun hF=>?_
 unfold kt at h
 refine sr<|lbx rfl fun b_1=>arr 6 [2,3] rfl<|lq (bz (vs:=[]) (C:=#[iV 0,iV 0,.string (⟨#[]⟩:ByteArray)]) qY gF rfl (ac)) rfl<|lq (yq oU rfl rfl rfl (r:=bT p0.V (⟨0,0,(⟨#[]⟩:ByteArray)⟩:aN)) rfl) rfl<|art 14 [0,0] rfl ?_
 refine ch h rfl ?_ ?_ <;> intro h
 ·refine atr 4 [1,0] rfl<|qc h (vO N · p0.S ·) rfl rfl rfl fun x1 h=>la rfl ?_
  obtain ⟨b1,hb_1,h⟩:=bs h
  refine WL.cutN 2 [(17,.bool b1),(2,.bool false)] ?_ (fun K=>?_)
  rotate_left
  ·refine sp 15 hb_1 rfl (fun hb_1=>?_) fun hb_1=>?_
   ·refine arr 2 [] rfl ?_
    cases hb_1
    exact ku K
   ·refine arr 2 [] rfl ?_
    cases hb_1
    exact ku K
  refine la rfl<|en ?_
  exact rt hF h
 refine att 5 [] rfl ?_
 refine ch h rfl ?_ ?_ <;> intro h
 ·refine atr 4 [2,3] rfl<|qc h (u7 N · p0.V ·) rfl rfl rfl fun x2 h=>la rfl ?_
  obtain ⟨b2,hb_2,h⟩:=bs h
  refine WL.cutN 4 [(27,.bool b2),(2,.bool false)] ?_ (fun K=>?_)
  rotate_left
  ·refine sp 23 hb_2 rfl (fun hb_2=>?_) fun hb_2=>?_
   ·refine arr 4 [1,0] rfl ?_
    cases hb_2
    exact ku K
   ·refine arr 4 [] rfl ?_
    cases hb_2
    exact ku K
  refine la rfl<|en ?_
  exact rt hF h
 refine att 5 [] rfl ?_
 refine ch h rfl ?_ ?_ <;> intro h
 ·refine atr 6 [1,0] rfl ?_
  obtain ⟨b3,hb_3,h⟩:=bs h
  refine WL.cutN 2 [(35,.bool b3),(2,.bool false)] ?_ (fun K=>?_)
  rotate_left
  ·refine sp 33 hb_3 rfl (fun hb_3=>?_) fun hb_3=>?_
   ·refine arr 2 [] rfl ?_
    cases hb_3
    exact ku K
   ·refine arr 2 [] rfl ?_
    cases hb_3
    exact ku K
  refine la rfl<|en ?_
  exact rt hF h
 refine att 6 [] rfl ?_
 exact rt hF h
theorem zG (w0:av Ψ Φ []) (p0:au) (ph0_0:RSl ck 5 Ψ pG0_0 pv0_0 p0.Args) {r:Bool} (h:pm N p0=some r) :
  CB w0 prog 173 [.agg [.string p0.Kind,pv0_0,.bool p0.Not].toArray] (.bool r):=by
 refine eN func173 rfl ntmps173 rfl w0 fun hF=>?_
 unfold pm at h
 refine sr<|lbx rfl fun b_1=>art 8 [] rfl ?_
 refine lin (σ:=Int) (fun s=>[(1,pQ b_1),(3,iV s)]) (fun s=>St w0 Φ [(b_1,.cells #[.string p0.Kind,pv0_0,.bool p0.Not] 201 (0,0))] []) (fun m s=>gL N p0 m s=some r) (0) N h (sx [] [0]) (fun n1 ih1 s hm=>?_)
 revert hm; revert s; intro s1 hm
 have h:gL N p0 (n1+1) s1=some r:=hm
 show WT _ _ [(1,pQ b_1),(3,iV s1)] (St w0 Φ [(b_1,.cells #[.string p0.Kind,pv0_0,.bool p0.Not] 201 (0,0))] [])
 unfold gL at h
 refine atr 6 [1,0] rfl<|lnr ph0_0 rfl<|la rfl<|en ?_
 refine ch h rfl ?_ ?_ <;> intro h
 ·refine atr 8 [1,0] rfl ?_
  obtain ⟨x1,hx1,h⟩:=bs h
  obtain ⟨cs1,F1,-,g1,hb1,hs1,r1⟩:=ph0_0.el (ab hx1).2.2
  obtain ⟨rfl,-⟩:=r1
  refine lia ph0_0 hx1 rfl<|lhx 0 5 g1 rfl<|qc h (nc N · x1 ·) rfl rfl rfl fun x2 h=>la rfl<|en ?_
  refine ch h rfl ?_ ?_ <;> intro h
  ·refine att 4 [] rfl ?_
   exact rt hF h
  refine att 7 [] rfl ?_
  exact lb [] [0] (ih1 _ h)
 refine atr 5 [0,0] rfl<|qc h (fG N · p0.Kind ·) rfl rfl rfl fun x3 h=>la rfl ?_
 obtain ⟨b1,hb_1,h⟩:=bs h
 refine WL.cutN 5 [(26,.bool b1)] ?_ (fun K=>?_)
 rotate_left
 ·refine sp 21 hb_1 rfl (fun hb_1=>?_) fun hb_1=>?_
  ·refine arr 2 [1,0] rfl<|ly rfl rfl<|lnr ph0_0 rfl<|arr 2 [] rfl ?_
   cases hb_1
   exact ku K
  ·refine arr 5 [] rfl ?_
   cases hb_1
   exact ku K
 refine la rfl<|en ?_
 exact rt hF h
theorem xL (w0:av Ψ Φ []) (p0:(List au)) (ph0:RSl bS 3 Ψ pG0 pv0 p0) {r:Bool} (h:nC N p0=some r) :
  CB w0 prog 102 [pv0] (.bool r):=by
 refine eN func102 rfl ntmps102 rfl w0 fun hF=>?_
 unfold nC at h
 refine att 10 [] rfl ?_
 refine lin (σ:=Int) (fun s=>[(0,pv0),(3,iV s)]) (fun s=>St w0 Φ [] []) (fun m s=>eH N p0 m s=some r) (0) N h (sx [] []) (fun n1 ih1 s hm=>?_)
 revert hm; revert s; intro s1 hm
 have h:eH N p0 (n1+1) s1=some r:=hm
 show WT _ _ [(0,pv0),(3,iV s1)] (St w0 Φ [] [])
 unfold eH at h
 refine atr 5 [] rfl<|lnr ph0 rfl<|la rfl<|en ?_
 refine ch h rfl ?_ ?_ <;> intro h
 ·refine atr 9 [] rfl ?_
  obtain ⟨b1,hb_1,h⟩:=bs h
  refine WL.cutN 7 [(19,.bool b1),(0,pv0),(3,iV s1)] ?_ (fun K=>?_)
  rotate_left
  ·refine sp 12 hb_1 rfl (fun hb_1=>?_) fun hb_1=>?_
   ·refine arr 2 [] rfl<|ly rfl rfl ?_
    obtain ⟨x1,hx1,hb_1⟩:=bs hb_1
    obtain ⟨cs1,F1,-,g1,hb1,hs1,r1⟩:=ph0.el (ab hx1).2.2
    obtain ⟨v1,G1,rfl,hq1,h1⟩:=r1
    obtain rfl:=hq1.symm
    refine lia ph0 hx1 rfl<|ly rfl rfl<|lf lz rfl rfl rfl<|ly rfl rfl<|lhx 2 0 g1 rfl<|arr 2 [] rfl ?_
    cases hb_1
    exact ku K
   ·refine arr 7 [] rfl ?_
    cases hb_1
    exact ku K
  refine en ?_
  refine ch h rfl ?_ ?_ <;> intro h
  ·refine att 4 [] rfl ?_
   exact rt hF h
  refine atr 5 [] rfl ?_
  obtain ⟨x2,hx2,h⟩:=bs h
  obtain ⟨cs2,F2,-,g2,hb2,hs2,r2⟩:=ph0.el (ab hx2).2.2
  obtain ⟨v2,G2,rfl,hq2,h2⟩:=r2
  obtain rfl:=hq2.symm
  refine lia ph0 hx2 rfl<|lhx 0 3 g2 rfl<|qd h (zG N · x2 h2 ·) rfl rfl rfl fun x3 h=>arr 2 [] rfl ?_
  obtain ⟨b2,hb_2,h⟩:=bs h
  refine WL.cutN 10 [(36,.bool b2),(0,pv0),(3,iV s1)] ?_ (fun K=>?_)
  rotate_left
  ·refine sp 26 hb_2 rfl (fun hb_2=>?_) fun hb_2=>?_
   ·refine arr 10 [] rfl ?_
    cases hb_2
    exact ku K
   ·refine arr 3 [] rfl ?_
    obtain ⟨b3,hb_3,hb_2⟩:=bs hb_2
    refine WL.cutN 6 [(35,.bool b3),(0,pv0),(3,iV s1),(26,.bool false)] ?_ (fun K=>?_)
    rotate_left
    ·refine sp 29 hb_3 rfl (fun hb_3=>?_) fun hb_3=>?_
     ·refine arr 2 [] rfl<|ly rfl rfl ?_
      obtain ⟨x4,hx4,hb_3⟩:=bs hb_3
      obtain ⟨cs3,F3,-,g3,hb3,hs3,r3⟩:=ph0.el (ab hx4).2.2
      obtain ⟨v3,G3,rfl,hq3,h3⟩:=r3
      obtain rfl:=hq3.symm
      refine lia ph0 hx4 rfl<|ly rfl rfl<|lf lz rfl rfl rfl<|ly rfl rfl<|lhx 2 0 g3 rfl<|ly rfl rfl<|la rfl ?_
      cases hb_3
      exact ku K
     ·refine arr 6 [] rfl ?_
      cases hb_3
      exact ku K
    refine la rfl ?_
    cases hb_2
    exact ku K
  refine la rfl ?_
  obtain ⟨b4,hb_4,h⟩:=bs h
  refine WL.cutN 19 [(56,.bool b4),(0,pv0),(3,iV s1)] ?_ (fun K=>?_)
  rotate_left
  ·refine sp 37 hb_4 rfl (fun hb_4=>?_) fun hb_4=>?_
   ·refine arr 19 [] rfl ?_
    cases hb_4
    exact ku K
   ·refine arr 3 [] rfl ?_
    obtain ⟨b5,hb_5,hb_4⟩:=bs hb_4
    refine WL.cutN 7 [(47,.bool b5),(0,pv0),(3,iV s1),(37,.bool false)] ?_ (fun K=>?_)
    rotate_left
    ·refine sp 40 hb_5 rfl (fun hb_5=>?_) fun hb_5=>?_
     ·refine arr 3 [] rfl<|ly rfl rfl ?_
      obtain ⟨x5,hx5,hb_5⟩:=bs hb_5
      obtain ⟨cs4,F4,-,g4,hb4,hs4,r4⟩:=ph0.el (ab hx5).2.2
      obtain ⟨v4,G4,rfl,hq4,h4⟩:=r4
      obtain rfl:=hq4.symm
      refine lia ph0 hx5 rfl<|ly rfl rfl<|lf lz rfl rfl rfl<|ly rfl rfl<|lhx 2 0 g4 rfl<|ly rfl rfl<|la rfl ?_
      cases hb_5
      exact ku K
     ·refine arr 7 [] rfl ?_
      cases hb_5
      exact ku K
    refine ly rfl rfl<|la rfl ?_
    obtain ⟨b6,hb_6,hb_4⟩:=bs hb_4
    refine WL.cutN 7 [(55,.bool b6),(0,pv0),(3,iV s1),(37,.bool false)] ?_ (fun K=>?_)
    rotate_left
    ·refine sp 48 hb_6 rfl (fun hb_6=>?_) fun hb_6=>?_
     ·refine arr 2 [] rfl<|ly rfl rfl ?_
      obtain ⟨x6,hx6,hb_6⟩:=bs hb_6
      obtain ⟨cs5,F5,-,g5,hb5,hs5,r5⟩:=ph0.el (ab hx6).2.2
      obtain ⟨v5,G5,rfl,hq5,h5⟩:=r5
      obtain rfl:=hq5.symm
      refine lia ph0 hx6 rfl<|ly rfl rfl<|lf lz rfl rfl rfl<|ly rfl rfl<|lhx 2 0 g5 rfl<|arr 2 [] rfl ?_
      cases hb_6
      exact ku K
     ·refine arr 7 [] rfl ?_
      cases hb_6
      exact ku K
    refine la rfl ?_
    cases hb_4
    exact ku K
  refine en ?_
  refine ch h rfl ?_ ?_ <;> intro h
  ·refine att 4 [] rfl ?_
   exact rt hF h
  refine att 7 [] rfl ?_
  exact lb [] [] (ih1 _ h)
 refine atr 4 [] rfl<|lnr ph0 rfl<|qc h (cX N · (p0.length:Int) 1 6 ·) rfl rfl rfl fun x7 h=>la rfl<|en ?_
 exact rt hF h
theorem xT  (w0:av Ψ Φ []) (p0:cm)  {r:Bool} (h:nW N p0=some r) :
  CB w0 prog 174 [.agg [iV p0.Op,iV p0.L.K,.string p0.L.S,iV p0.L.V.K,iV p0.L.V.N,.string p0.L.V.S,iV p0.R.K,.string p0.R.S,iV p0.R.V.K,iV p0.R.V.N,.string p0.R.V.S].toArray] (.bool r):=by
 refine eN func174 rfl ntmps174 rfl w0 fun hF=>?_
 unfold nW at h
 refine sr<|lbx rfl fun b_1=>arr 6 [0,0] rfl<|qc h (cX N · p0.Op 1 3 ·) rfl rfl rfl fun x1 h=>la rfl ?_
 obtain ⟨b1,hb_1,h⟩:=bs h
 refine WL.cutN 4 [(10,.bool b1),(1,pQ b_1),(2,.bool false)] ?_ (fun K=>?_)
 rotate_left
 ·refine sp 6 hb_1 rfl (fun hb_1=>?_) fun hb_1=>?_
  ·refine arr 2 [1,5] rfl<|ly rfl rfl<|qc hb_1 (nc N · p0.L ·) rfl rfl rfl fun x2 hb_1=>la rfl ?_
   cases hb_1
   exact ku K
  ·refine arr 4 [] rfl ?_
   cases hb_1
   exact ku K
 refine la rfl ?_
 obtain ⟨b2,hb_2,h⟩:=bs h
 refine WL.cutN 4 [(15,.bool b2),(1,pQ b_1),(2,.bool false)] ?_ (fun K=>?_)
 rotate_left
 ·refine sp 11 hb_2 rfl (fun hb_2=>?_) fun hb_2=>?_
  ·refine arr 2 [6,5] rfl<|ly rfl rfl<|qc hb_2 (nc N · p0.R ·) rfl rfl rfl fun x3 hb_2=>la rfl ?_
   cases hb_2
   exact ku K
  ·refine arr 4 [] rfl ?_
   cases hb_2
   exact ku K
 refine la rfl ?_
 obtain ⟨b3,hb_3,h⟩:=bs h
 refine WL.cutN 5 [(21,.bool b3),(1,pQ b_1),(2,.bool false)] ?_ (fun K=>?_)
 rotate_left
 ·refine sp 16 hb_3 rfl (fun hb_3=>?_) fun hb_3=>?_
  ·refine arr 5 [1,0,0] rfl ?_
   cases hb_3
   exact ku K
  ·refine arr 5 [] rfl ?_
   cases hb_3
   exact ku K
 refine la rfl ?_
 obtain ⟨b4,hb_4,h⟩:=bs h
 refine WL.cutN 5 [(27,.bool b4),(2,.bool false)] ?_ (fun K=>?_)
 rotate_left
 ·refine sp 22 hb_4 rfl (fun hb_4=>?_) fun hb_4=>?_
  ·refine arr 5 [6,0,0] rfl ?_
   cases hb_4
   exact ku K
  ·refine arr 5 [] rfl ?_
   cases hb_4
   exact ku K
 refine la rfl<|en ?_
 exact rt hF h
theorem wG (w0:av Ψ Φ []) (p0:(List cm)) (p1:(List ByteArray)) (ph0:RSl bq 11 Ψ pG0 pv0 p0) (ph1:RSl RS 1 Ψ pG1 pv1 p1) {r:Bool} (h:mo N p0 p1=some r) :
  CB w0 prog 103 [pv0,pv1] (.bool r):=by
 refine eN func103 rfl ntmps103 rfl w0 fun hF=>?_
 unfold mo at h
 refine att 10 [] rfl ?_
 refine lin (σ:=Int) (fun s=>[(0,pv0),(1,pv1),(5,iV s)]) (fun s=>St w0 Φ [] []) (fun m s=>eX N p0 p1 m s=some r) (0) N h (sx [] []) (fun n1 ih1 s hm=>?_)
 revert hm; revert s; intro s1 hm
 have h:eX N p0 p1 (n1+1) s1=some r:=hm
 show WT _ _ [(0,pv0),(1,pv1),(5,iV s1)] (St w0 Φ [] [])
 unfold eX at h
 refine atr 5 [] rfl<|lnr ph0 rfl<|la rfl<|en ?_
 refine ch h rfl ?_ ?_ <;> intro h
 ·refine atr 7 [] rfl ?_
  obtain ⟨x1,hx1,h⟩:=bs h
  obtain ⟨cs1,F1,-,g1,hb1,hs1,r1⟩:=ph0.el (ab hx1).2.2
  obtain ⟨rfl,-⟩:=r1
  refine lia ph0 hx1 rfl<|lhx 0 11 g1 rfl<|qc h (xT N · x1 ·) rfl rfl rfl fun x2 h=>arr 2 [] rfl ?_
  obtain ⟨b1,hb_1,h⟩:=bs h
  refine WL.cutN 9 [(27,.bool b1),(0,pv0),(1,pv1),(5,iV s1)] ?_ (fun K=>?_)
  rotate_left
  ·refine sp 18 hb_1 rfl (fun hb_1=>?_) fun hb_1=>?_
   ·refine arr 9 [] rfl ?_
    cases hb_1
    exact ku K
   ·refine arr 2 [] rfl<|ly rfl rfl ?_
    obtain ⟨x3,hx3,hb_1⟩:=bs hb_1
    obtain ⟨cs2,F2,-,g2,hb2,hs2,r2⟩:=ph0.el (ab hx3).2.2
    obtain ⟨rfl,-⟩:=r2
    refine lia ph0 hx3 rfl<|ly rfl rfl<|lf uh rfl rfl rfl<|ly rfl rfl<|lhx 1 5 g2 rfl<|ly rfl rfl<|la rfl<|ly rfl rfl<|qd hb_1 (jc N · x3.L p1 ph1 ·) rfl rfl rfl fun x4 hb_1=>arr 2 [] rfl ?_
    cases hb_1
    exact ku K
  refine la rfl ?_
  obtain ⟨b2,hb_2,h⟩:=bs h
  refine WL.cutN 9 [(37,.bool b2),(0,pv0),(1,pv1),(5,iV s1)] ?_ (fun K=>?_)
  rotate_left
  ·refine sp 28 hb_2 rfl (fun hb_2=>?_) fun hb_2=>?_
   ·refine arr 9 [] rfl ?_
    cases hb_2
    exact ku K
   ·refine arr 2 [] rfl<|ly rfl rfl ?_
    obtain ⟨x5,hx5,hb_2⟩:=bs hb_2
    obtain ⟨cs3,F3,-,g3,hb3,hs3,r3⟩:=ph0.el (ab hx5).2.2
    obtain ⟨rfl,-⟩:=r3
    refine lia ph0 hx5 rfl<|ly rfl rfl<|lf uf rfl rfl rfl<|ly rfl rfl<|lhx 6 5 g3 rfl<|ly rfl rfl<|la rfl<|ly rfl rfl<|qd hb_2 (jc N · x5.R p1 ph1 ·) rfl rfl rfl fun x6 hb_2=>arr 2 [] rfl ?_
    cases hb_2
    exact ku K
  refine en ?_
  refine ch h rfl ?_ ?_ <;> intro h
  ·refine att 4 [] rfl ?_
   exact rt hF h
  refine att 7 [] rfl ?_
  exact lb [] [] (ih1 _ h)
 refine atr 4 [] rfl<|lnr ph0 rfl<|art 3 [] rfl ?_
 exact rt hF h
theorem nB  (w0:av Ψ Φ []) (p0:bh)  {r:Bool} (h:jd N p0=some r) :
  CB w0 prog 258 [.agg [iV p0.K,.string p0.S,iV p0.V.K,iV p0.V.N,.string p0.V.S].toArray] (.bool r):=by
 refine eN func258 rfl ntmps258 rfl w0 fun hF=>?_
 unfold jd at h
 refine sr<|lbx rfl fun b_1=>arr 5 [5] rfl<|qc h (nc N · p0 ·) rfl rfl rfl fun x1 h=>la rfl ?_
 obtain ⟨b1,hb_1,h⟩:=bs h
 refine WL.cutN 4 [(9,.bool b1),(2,.bool false)] ?_ (fun K=>?_)
 rotate_left
 ·refine sp 5 hb_1 rfl (fun hb_1=>?_) fun hb_1=>?_
  ·refine arr 4 [0,0] rfl ?_
   cases hb_1
   exact ku K
  ·refine arr 4 [] rfl ?_
   cases hb_1
   exact ku K
 refine la rfl<|en ?_
 exact rt hF h
theorem xF  (w0:av Ψ Φ []) (p0:cn)  {r:Bool} (h:o2 N p0=some r) :
  CB w0 prog 241 [.agg [.string p0.Op,iV p0.L.K,.string p0.L.S,iV p0.L.V.K,iV p0.L.V.N,.string p0.L.V.S,iV p0.R.K,.string p0.R.S,iV p0.R.V.K,iV p0.R.V.N,.string p0.R.V.S].toArray] (.bool r):=by
 refine eN func241 rfl ntmps241 rfl w0 fun hF=>?_
 unfold o2 at h
 refine sr<|lbx rfl fun b_1=>art 14 [0,0] rfl ?_
 refine ch h rfl ?_ ?_ <;> intro h
 ·refine atr 4 [1,5] rfl<|qc h (nB N · p0.L ·) rfl rfl rfl fun x1 h=>la rfl ?_
  obtain ⟨b1,hb_1,h⟩:=bs h
  refine WL.cutN 5 [(15,.bool b1),(2,.bool false)] ?_ (fun K=>?_)
  rotate_left
  ·refine sp 10 hb_1 rfl (fun hb_1=>?_) fun hb_1=>?_
   ·refine arr 2 [6,5] rfl<|ly rfl rfl<|lq (bz (vs:=[]) (C:=#[iV 0,.string (⟨#[]⟩:ByteArray),iV 0,iV 0,.string (⟨#[]⟩:ByteArray)]) qM gl rfl (ac)) rfl<|ly rfl rfl<|lq (yq CU rfl rfl rfl (r:=o5 p0.R (⟨0,(⟨#[]⟩:ByteArray),(⟨0,0,(⟨#[]⟩:ByteArray)⟩:aN)⟩:bh)) rfl) rfl<|la rfl ?_
    cases hb_1
    exact ku K
   ·refine arr 5 [] rfl ?_
    cases hb_1
    exact ku K
  refine la rfl<|en ?_
  exact rt hF h
 refine att 6 [] rfl ?_
 refine cut (σ:=Bool) (fun s=>[(1,pQ b_1),(16,.bool s)]) (fun s=>St w0 Φ [(b_1,.cells #[.string p0.Op,iV p0.L.K,.string p0.L.S,iV p0.L.V.K,iV p0.L.V.N,.string p0.L.V.S,iV p0.R.K,.string p0.R.S,iV p0.R.V.K,iV p0.R.V.N,.string p0.R.V.S] 216 (0,0))] []) (fun s=>iH N p0 s=some r) (fun s hm=>?_) (fun K=>?_)
 ·clear h
  revert hm; revert s; intro s1 hm
  have h:iH N p0 s1=some r:=hm
  show WT _ _ [(1,pQ b_1),(16,.bool s1)] (St w0 Φ [(b_1,.cells #[.string p0.Op,iV p0.L.K,.string p0.L.S,iV p0.L.V.K,iV p0.L.V.N,.string p0.L.V.S,iV p0.R.K,.string p0.R.S,iV p0.R.V.K,iV p0.R.V.N,.string p0.R.V.S] 216 (0,0))] [])
  unfold iH at h
  refine ch h rfl ?_ ?_ <;> intro h
  ·refine atr 4 [1,5] rfl<|qc h (nB N · p0.L ·) rfl rfl rfl fun x2 h=>la rfl ?_
   obtain ⟨b2,hb_2,h⟩:=bs h
   refine WL.cutN 4 [(26,.bool b2)] ?_ (fun K=>?_)
   rotate_left
   ·refine sp 22 hb_2 rfl (fun hb_2=>?_) fun hb_2=>?_
    ·refine arr 2 [6,5] rfl<|ly rfl rfl<|qc hb_2 (nB N · p0.R ·) rfl rfl rfl fun x3 hb_2=>la rfl ?_
     cases hb_2
     exact ku K
    ·refine arr 4 [] rfl ?_
     cases hb_2
     exact ku K
   refine la rfl<|en ?_
   exact rt hF h
  refine att 6 [] rfl ?_
  exact rt hF h
 refine ch h rfl ?_ ?_ <;> intro h
 ·refine WT.skip ?_
  exact wo [] [0] (K _ h)
 refine att 4 [] rfl ?_
 exact wo [] [0] (K _ h)
theorem oX (w0:av Ψ Φ []) (p0:(List cn)) (ph0:RSl ce 11 Ψ pG0 pv0 p0) {r:Bool} (h:km N p0=some r) :
  CB w0 prog 218 [pv0] (.bool r):=by
 refine eN func218 rfl ntmps218 rfl w0 fun hF=>?_
 unfold km at h
 refine att 10 [] rfl ?_
 refine lin (σ:=Int) (fun s=>[(0,pv0),(3,iV s)]) (fun s=>St w0 Φ [] []) (fun m s=>fK N p0 m s=some r) (0) N h (sx [] []) (fun n1 ih1 s hm=>?_)
 revert hm; revert s; intro s1 hm
 have h:fK N p0 (n1+1) s1=some r:=hm
 show WT _ _ [(0,pv0),(3,iV s1)] (St w0 Φ [] [])
 unfold fK at h
 refine atr 5 [] rfl<|lnr ph0 rfl<|la rfl<|en ?_
 refine ch h rfl ?_ ?_ <;> intro h
 ·refine atr 7 [] rfl ?_
  obtain ⟨x1,hx1,h⟩:=bs h
  obtain ⟨cs1,F1,-,g1,hb1,hs1,r1⟩:=ph0.el (ab hx1).2.2
  obtain ⟨rfl,-⟩:=r1
  refine lia ph0 hx1 rfl<|lhx 0 11 g1 rfl<|qc h (xF N · x1 ·) rfl rfl rfl fun x2 h=>la rfl<|en ?_
  refine ch h rfl ?_ ?_ <;> intro h
  ·refine att 4 [] rfl ?_
   exact rt hF h
  refine att 7 [] rfl ?_
  exact lb [] [] (ih1 _ h)
 refine atr 4 [] rfl<|lnr ph0 rfl<|art 3 [] rfl ?_
 exact rt hF h
theorem z6 (w0:av Ψ Φ []) (p0:cI) (ph0_0:RSl ce 11 Ψ pG0_0 pv0_0 p0.Args) {r:Bool} (h:pN N p0=some r) :
  CB w0 prog 176 [.agg [iV p0.Kind,.string p0.Name,pv0_0,iV p0.N,.string p0.Undo].toArray] (.bool r):=by
 refine eN func176 rfl ntmps176 rfl w0 fun hF=>?_
 unfold pN at h
 refine sr<|lbx rfl fun b_1=>arr 8 [1,0] rfl ?_
 obtain ⟨b1,hb_1,h⟩:=bs h
 refine WL.cutN 5 [(12,.bool b1),(1,pQ b_1)] ?_ (fun K=>?_)
 rotate_left
 ·refine sp 7 hb_1 rfl (fun hb_1=>?_) fun hb_1=>?_
  ·refine arr 2 [2,0] rfl<|ly rfl rfl<|lnr ph0_0 rfl<|arr 2 [] rfl ?_
   cases hb_1
   exact ku K
  ·refine arr 5 [] rfl ?_
   cases hb_1
   exact ku K
 refine la rfl ?_
 obtain ⟨b2,hb_2,h⟩:=bs h
 refine WL.cutN 4 [(17,.bool b2),(1,pQ b_1)] ?_ (fun K=>?_)
 rotate_left
 ·refine sp 13 hb_2 rfl (fun hb_2=>?_) fun hb_2=>?_
  ·refine arr 4 [4,0] rfl ?_
   cases hb_2
   exact ku K
  ·refine arr 4 [] rfl ?_
   cases hb_2
   exact ku K
 refine art 14 [0,0] rfl ?_
 refine ch h rfl ?_ ?_ <;> intro h
 ·refine atr 4 [1,0] rfl<|qc h (fG N · p0.Name ·) rfl rfl rfl fun x1 h=>la rfl ?_
  obtain ⟨b3,hb_3,h⟩:=bs h
  refine WL.cutN 4 [(29,.bool b3),(1,pQ b_1)] ?_ (fun K=>?_)
  rotate_left
  ·refine sp 25 hb_3 rfl (fun hb_3=>?_) fun hb_3=>?_
   ·refine arr 2 [2,0] rfl<|ly rfl rfl<|qd hb_3 (oX N · p0.Args ph0_0 ·) rfl rfl rfl fun x2 hb_3=>la rfl ?_
    cases hb_3
    exact ku K
   ·refine arr 4 [] rfl ?_
    cases hb_3
    exact ku K
  refine la rfl ?_
  obtain ⟨b4,hb_4,h⟩:=bs h
  refine WL.cutN 4 [(34,.bool b4),(1,pQ b_1)] ?_ (fun K=>?_)
  rotate_left
  ·refine sp 30 hb_4 rfl (fun hb_4=>?_) fun hb_4=>?_
   ·refine arr 4 [3,0] rfl ?_
    cases hb_4
    exact ku K
   ·refine arr 4 [] rfl ?_
    cases hb_4
    exact ku K
  refine la rfl ?_
  obtain ⟨b5,hb_5,h⟩:=bs h
  refine WL.cutN 4 [(39,.bool b5)] ?_ (fun K=>?_)
  rotate_left
  ·refine sp 35 hb_5 rfl (fun hb_5=>?_) fun hb_5=>?_
   ·refine arr 4 [4,0] rfl ?_
    cases hb_5
    exact ku K
   ·refine arr 4 [] rfl ?_
    cases hb_5
    exact ku K
  refine la rfl<|en ?_
  exact rt hF h
 refine att 5 [] rfl ?_
 refine ch h rfl ?_ ?_ <;> intro h
 ·refine atr 4 [1,0] rfl<|qc h (fG N · p0.Name ·) rfl rfl rfl fun x3 h=>la rfl ?_
  obtain ⟨b6,hb_6,h⟩:=bs h
  refine WL.cutN 4 [(49,.bool b6),(1,pQ b_1)] ?_ (fun K=>?_)
  rotate_left
  ·refine sp 45 hb_6 rfl (fun hb_6=>?_) fun hb_6=>?_
   ·refine arr 2 [2,0] rfl<|ly rfl rfl<|qd hb_6 (oX N · p0.Args ph0_0 ·) rfl rfl rfl fun x4 hb_6=>la rfl ?_
    cases hb_6
    exact ku K
   ·refine arr 4 [] rfl ?_
    cases hb_6
    exact ku K
  refine la rfl ?_
  obtain ⟨b7,hb_7,h⟩:=bs h
  refine WL.cutN 4 [(54,.bool b7),(1,pQ b_1)] ?_ (fun K=>?_)
  rotate_left
  ·refine sp 50 hb_7 rfl (fun hb_7=>?_) fun hb_7=>?_
   ·refine arr 4 [3,0] rfl ?_
    cases hb_7
    exact ku K
   ·refine arr 4 [] rfl ?_
    cases hb_7
    exact ku K
  refine la rfl ?_
  obtain ⟨b8,hb_8,h⟩:=bs h
  refine WL.cutN 9 [(64,.bool b8)] ?_ (fun K=>?_)
  rotate_left
  ·refine sp 55 hb_8 rfl (fun hb_8=>?_) fun hb_8=>?_
   ·refine arr 4 [4,0] rfl ?_
    obtain ⟨b9,hb_9,hb_8⟩:=bs hb_8
    refine WL.cutN 4 [(63,.bool b9),(55,.bool true)] ?_ (fun K=>?_)
    rotate_left
    ·refine sp 59 hb_9 rfl (fun hb_9=>?_) fun hb_9=>?_
     ·refine arr 4 [] rfl ?_
      cases hb_9
      exact ku K
     ·refine arr 2 [4,0] rfl<|ly rfl rfl<|qc hb_9 (fG N · p0.Undo ·) rfl rfl rfl fun x5 hb_9=>ly rfl rfl<|la rfl ?_
      cases hb_9
      exact ku K
    refine la rfl ?_
    cases hb_8
    exact ku K
   ·refine arr 9 [] rfl ?_
    cases hb_8
    exact ku K
  refine la rfl<|en ?_
  exact rt hF h
 refine att 5 [] rfl ?_
 refine ch h rfl ?_ ?_ <;> intro h
 ·refine atr 4 [1,0] rfl<|qc h (fG N · p0.Name ·) rfl rfl rfl fun x6 h=>la rfl ?_
  obtain ⟨b10,hb_10,h⟩:=bs h
  refine WL.cutN 4 [(74,.bool b10),(1,pQ b_1)] ?_ (fun K=>?_)
  rotate_left
  ·refine sp 70 hb_10 rfl (fun hb_10=>?_) fun hb_10=>?_
   ·refine arr 2 [2,0] rfl<|ly rfl rfl<|qd hb_10 (oX N · p0.Args ph0_0 ·) rfl rfl rfl fun x7 hb_10=>la rfl ?_
    cases hb_10
    exact ku K
   ·refine arr 4 [] rfl ?_
    cases hb_10
    exact ku K
  refine la rfl ?_
  obtain ⟨b11,hb_11,h⟩:=bs h
  refine WL.cutN 4 [(79,.bool b11),(1,pQ b_1)] ?_ (fun K=>?_)
  rotate_left
  ·refine sp 75 hb_11 rfl (fun hb_11=>?_) fun hb_11=>?_
   ·refine arr 2 [3,0] rfl<|ly rfl rfl<|qc hb_11 (cX N · p0.N 0 100000 ·) rfl rfl rfl fun x8 hb_11=>la rfl ?_
    cases hb_11
    exact ku K
   ·refine arr 4 [] rfl ?_
    cases hb_11
    exact ku K
  refine la rfl ?_
  obtain ⟨b12,hb_12,h⟩:=bs h
  refine WL.cutN 4 [(84,.bool b12)] ?_ (fun K=>?_)
  rotate_left
  ·refine sp 80 hb_12 rfl (fun hb_12=>?_) fun hb_12=>?_
   ·refine arr 4 [4,0] rfl ?_
    cases hb_12
    exact ku K
   ·refine arr 4 [] rfl ?_
    cases hb_12
    exact ku K
  refine la rfl<|en ?_
  exact rt hF h
 refine att 5 [] rfl ?_
 refine ch h rfl ?_ ?_ <;> intro h
 ·refine atr 4 [] rfl ?_
  obtain ⟨b13,hb_13,h⟩:=bs h
  refine WL.cutN 4 [(92,.bool b13)] ?_ (fun K=>?_)
  rotate_left
  ·refine sp 88 hb_13 rfl (fun hb_13=>?_) fun hb_13=>?_
   ·refine arr 2 [3,0] rfl<|ly rfl rfl<|qc hb_13 (cX N · p0.N 0 7 ·) rfl rfl rfl fun x9 hb_13=>la rfl ?_
    cases hb_13
    exact ku K
   ·refine arr 4 [] rfl ?_
    cases hb_13
    exact ku K
  refine la rfl<|en ?_
  exact rt hF h
 refine att 6 [] rfl ?_
 refine cut (σ:=Bool) (fun s=>[(1,pQ b_1),(3,.bool b2),(93,.bool s)]) (fun s=>St w0 Φ [(b_1,.cells #[iV p0.Kind,.string p0.Name,pv0_0,iV p0.N,.string p0.Undo] 213 (0,0))] []) (fun s=>jD N p0 b2 s=some r) (fun s hm=>?_) (fun K=>?_)
 ·clear h
  revert hm; revert s; intro s1 hm
  have h:jD N p0 b2 s1=some r:=hm
  show WT _ _ [(1,pQ b_1),(3,.bool b2),(93,.bool s1)] (St w0 Φ [(b_1,.cells #[iV p0.Kind,.string p0.Name,pv0_0,iV p0.N,.string p0.Undo] 213 (0,0))] [])
  unfold jD at h
  refine ch h rfl ?_ ?_ <;> intro h
  ·refine atr 4 [] rfl ?_
   obtain ⟨b14,hb_14,h⟩:=bs h
   refine WL.cutN 4 [(101,.bool b14)] ?_ (fun K=>?_)
   rotate_left
   ·refine sp 97 hb_14 rfl (fun hb_14=>?_) fun hb_14=>?_
    ·refine arr 4 [3,0] rfl ?_
     cases hb_14
     exact ku K
    ·refine arr 4 [] rfl ?_
     cases hb_14
     exact ku K
   refine la rfl<|en ?_
   exact rt hF h
  refine att 6 [] rfl ?_
  exact rt hF h
 refine ch h rfl ?_ ?_ <;> intro h
 ·refine WT.skip ?_
  exact wo [] [0] (K _ h)
 refine att 4 [] rfl ?_
 exact wo [] [0] (K _ h)
theorem xS (w0:av Ψ Φ []) (p0:(List cI)) (p1:(List ByteArray)) (p2:Int) (ph0:RSl ep 5 Ψ pG0 pv0 p0) (ph1:RSl RS 1 Ψ pG1 pv1 p1) {r:Bool} (h:od N p0 p1 p2=some r) :
  CB w0 prog 104 [pv0,pv1,iV p2] (.bool r):=by
 refine eN func104 rfl ntmps104 rfl w0 fun hF=>?_
 unfold od at h
 refine att 10 [] rfl ?_
 refine lin (σ:=Int) (fun s=>[(0,pv0),(1,pv1),(2,iV p2),(7,iV s)]) (fun s=>St w0 Φ [] []) (fun m s=>du N p0 p1 p2 m s=some r) (0) N h (sx [] []) (fun n1 ih1 s hm=>?_)
 revert hm; revert s; intro s1 hm
 have h:du N p0 p1 p2 (n1+1) s1=some r:=hm
 show WT _ _ [(0,pv0),(1,pv1),(2,iV p2),(7,iV s1)] (St w0 Φ [] [])
 unfold du at h
 refine atr 5 [] rfl<|lnr ph0 rfl<|la rfl<|en ?_
 refine ch h rfl ?_ ?_ <;> intro h
 ·refine atr 8 [] rfl ?_
  obtain ⟨x1,hx1,h⟩:=bs h
  obtain ⟨cs1,F1,-,g1,hb1,hs1,r1⟩:=ph0.el (ab hx1).2.2
  obtain ⟨v1,G1,rfl,hq1,h1⟩:=r1
  obtain rfl:=hq1.symm
  refine lia ph0 hx1 rfl<|lhx 0 5 g1 rfl<|qd h (z6 N · x1 h1 ·) rfl rfl rfl fun x2 h=>arr 2 [] rfl ?_
  obtain ⟨b1,hb_1,h⟩:=bs h
  refine WL.cutN 16 [(37,.bool b1),(0,pv0),(1,pv1),(2,iV p2),(7,iV s1)] ?_ (fun K=>?_)
  rotate_left
  ·refine sp 21 hb_1 rfl (fun hb_1=>?_) fun hb_1=>?_
   ·refine arr 16 [] rfl ?_
    cases hb_1
    exact ku K
   ·refine arr 2 [] rfl<|ly rfl rfl ?_
    obtain ⟨x3,hx3,hb_1⟩:=bs hb_1
    obtain ⟨cs2,F2,-,g2,hb2,hs2,r2⟩:=ph0.el (ab hx3).2.2
    obtain ⟨v2,G2,rfl,hq2,h2⟩:=r2
    obtain rfl:=hq2.symm
    refine lia ph0 hx3 rfl<|ly rfl rfl<|lf yv rfl rfl rfl<|ly rfl rfl<|lhx 0 0 g2 rfl<|arr 2 [] rfl ?_
    obtain ⟨b2,hb_2,hb_1⟩:=bs hb_1
    refine WL.cutN 8 [(36,.bool b2),(0,pv0),(1,pv1),(2,iV p2),(7,iV s1),(21,.bool false)] ?_ (fun K=>?_)
    rotate_left
    ·refine sp 28 hb_2 rfl (fun hb_2=>?_) fun hb_2=>?_
     ·refine arr 2 [] rfl<|ly rfl rfl ?_
      obtain ⟨x4,hx4,hb_2⟩:=bs hb_2
      obtain ⟨cs3,F3,-,g3,hb3,hs3,r3⟩:=ph0.el (ab hx4).2.2
      obtain ⟨v3,G3,rfl,hq3,h3⟩:=r3
      obtain rfl:=hq3.symm
      refine lia ph0 hx4 rfl<|ly rfl rfl<|lf rN rfl rfl rfl<|ly rfl rfl<|lhx 3 0 g3 rfl<|arr 3 [] rfl ?_
      cases hb_2
      exact ku K
     ·refine arr 8 [] rfl ?_
      cases hb_2
      exact ku K
    refine la rfl ?_
    cases hb_1
    exact ku K
  refine en ?_
  refine ch h rfl ?_ ?_ <;> intro h
  ·refine att 4 [] rfl ?_
   exact rt hF h
  refine att 6 [] rfl ?_
  refine lin (σ:=Int) (fun s=>[(0,pv0),(1,pv1),(2,iV p2),(7,iV s1),(8,iV s)]) (fun s=>St w0 Φ [] []) (fun m s=>fM N p0 p1 s1 (du N p0 p1 p2 n1) m s=some r) (0) N h (sx [] []) (fun n2 ih2 s hm=>?_)
  revert hm; revert s; intro s2 hm
  have h:fM N p0 p1 s1 (du N p0 p1 p2 n1) (n2+1) s2=some r:=hm
  show WT _ _ [(0,pv0),(1,pv1),(2,iV p2),(7,iV s1),(8,iV s2)] (St w0 Φ [] [])
  unfold fM at h
  refine atr 6 [] rfl ?_
  obtain ⟨x5,hx5,h⟩:=bs h
  obtain ⟨cs4,F4,-,g4,hb4,hs4,r4⟩:=ph0.el (ab hx5).2.2
  obtain ⟨v4,G4,rfl,hq4,h4⟩:=r4
  obtain rfl:=hq4.symm
  refine lia ph0 hx5 rfl<|lf lG rfl rfl rfl<|lhx 2 0 g4 rfl<|lnr h4 rfl<|la rfl<|en ?_
  refine ch h rfl ?_ ?_ <;> intro h
  ·refine atr 7 [] rfl ?_
   obtain ⟨x6,hx6,h⟩:=bs h
   obtain ⟨cs5,F5,-,g5,hb5,hs5,r5⟩:=ph0.el (ab hx6).2.2
   obtain ⟨v5,G5,rfl,hq5,h5⟩:=r5
   obtain rfl:=hq5.symm
   refine lia ph0 hx6 rfl<|lf lG rfl rfl rfl<|lhx 2 0 g5 rfl<|la rfl ?_
   obtain ⟨x7,hx7,h⟩:=bs h
   obtain ⟨cs6,F6,-,g6,hb6,hs6,r6⟩:=h5.el (ab hx7).2.2
   obtain ⟨rfl,-⟩:=r6
   refine lia h5 hx7 rfl<|lf ud rfl rfl rfl<|lhx 1 5 g6 rfl<|la rfl<|qd h (jc N · x7.L p1 ph1 ·) rfl rfl rfl fun x8 h=>arr 2 [] rfl ?_
   obtain ⟨b3,hb_3,h⟩:=bs h
   refine WL.cutN 13 [(73,.bool b3),(0,pv0),(1,pv1),(2,iV p2),(7,iV s1),(8,iV s2)] ?_ (fun K=>?_)
   rotate_left
   ·refine sp 60 hb_3 rfl (fun hb_3=>?_) fun hb_3=>?_
    ·refine arr 13 [] rfl ?_
     cases hb_3
     exact ku K
    ·refine arr 2 [] rfl<|ly rfl rfl ?_
     obtain ⟨x9,hx9,hb_3⟩:=bs hb_3
     obtain ⟨cs7,F7,-,g7,hb7,hs7,r7⟩:=ph0.el (ab hx9).2.2
     obtain ⟨v6,G6,rfl,hq6,h6⟩:=r7
     obtain rfl:=hq6.symm
     refine lia ph0 hx9 rfl<|ly rfl rfl<|lf lG rfl rfl rfl<|ly rfl rfl<|lhx 2 0 g7 rfl<|ly rfl rfl<|la rfl<|ly rfl rfl ?_
     obtain ⟨x10,hx10,hb_3⟩:=bs hb_3
     obtain ⟨cs8,F8,-,g8,hb8,hs8,r8⟩:=h6.el (ab hx10).2.2
     obtain ⟨rfl,-⟩:=r8
     refine lia h6 hx10 rfl<|ly rfl rfl<|lf rF rfl rfl rfl<|ly rfl rfl<|lhx 6 5 g8 rfl<|ly rfl rfl<|la rfl<|ly rfl rfl<|qd hb_3 (jc N · x10.R p1 ph1 ·) rfl rfl rfl fun x11 hb_3=>arr 2 [] rfl ?_
     cases hb_3
     exact ku K
   refine en ?_
   refine ch h rfl ?_ ?_ <;> intro h
   ·refine att 4 [] rfl ?_
    exact rt hF h
   refine att 7 [] rfl ?_
   exact lb [] [] (ih2 _ h)
  refine att 7 [] rfl ?_
  exact lb [] [] (ih1 _ h)
 refine atr 4 [] rfl<|lnr ph0 rfl<|qc h (cX N · (p0.length:Int) 1 6 ·) rfl rfl rfl fun x12 h=>la rfl<|en ?_
 exact rt hF h
theorem xx (w0:av Ψ Φ []) (p0:af) (ph0_0:RSl bS 3 Ψ pG0_0 pv0_0 p0.Pats) (ph0_1:RSl bq 11 Ψ pG0_1 pv0_1 p0.Conds) (ph0_2:RSl ep 5 Ψ pG0_2 pv0_2 p0.Acts) {r:Bool} (h:og N p0=some r) :
  CB w0 prog 43 [.agg [.string p0.Name,iV p0.Sal,pv0_0,pv0_1,pv0_2].toArray] (.bool r):=by
 refine eN func43 rfl ntmps43 rfl w0 fun hF=>?_
 unfold og at h
 refine sr<|lbx rfl fun b_1=>arr 5 [5] rfl<|kab h rfl rfl rfl (fun b z q=>qZ N b p0 (ph0_0.y z) (ph0_1.y z) (ph0_2.y z) q) ?_
 rintro x1 h v1 Φ_1 F1 ⟨ap1,fr1,v2,rfl,rfl,h1⟩
 refine art 3 [] rfl<|WT.draw mixed (by kernel_rfl) (fun _ h=>h.drew)<|aqq 2 [0,0] rfl ?_
 obtain ⟨x2,hx2,h⟩:=bs h
 refine qp (fx IZ rfl (fun w1 hw=>fG N (ba hw.fro) p0.Name hx2)) rfl<|qq (ke rfl) rfl ?_
 obtain ⟨b1,hb_1,h⟩:=bs h
 refine WQ.cutN 4 [(13,.bool b1),(1,pQ b_1),(3,v1)] ?_ (fun K=>?_)
 rotate_left
 ·refine WQ.split (d:=9) rfl (fun c1=>?_) (fun c1=>?_)
  ·replace hb_1:=ir hb_1 c1
   refine aqq 2 [1,0] rfl<|WQ.yes rfl rfl ?_
   obtain ⟨x3,hx3,hb_1⟩:=bs hb_1
   refine qp (fx Jv rfl (fun w1 hw=>cX N (ba hw.fro) p0.Sal (-100) 100 hx3)) rfl<|WQ.q (tM rfl rfl) rfl rfl rfl ?_
   cases hb_1
   exact kq K
  ·replace hb_1:=ik hb_1 c1
   refine aqq 4 [] rfl ?_
   cases hb_1
   exact kq K
 refine qq (ke rfl) rfl ?_
 obtain ⟨b2,hb_2,h⟩:=bs h
 refine WQ.cutN 4 [(18,.bool b2),(1,pQ b_1),(3,v1)] ?_ (fun K=>?_)
 rotate_left
 ·refine WQ.split (d:=14) rfl (fun c2=>?_) (fun c2=>?_)
  ·replace hb_2:=ir hb_2 c2
   refine aqq 2 [2,0] rfl<|WQ.yes rfl rfl ?_
   obtain ⟨x4,hx4,hb_2⟩:=bs hb_2
   refine qp (fx H9 rfl (fun w1 hw=>xL N (ba hw.in0) p0.Pats ph0_0 hx4)) rfl<|WQ.q (tM rfl rfl) rfl rfl rfl ?_
   cases hb_2
   exact kq K
  ·replace hb_2:=ik hb_2 c2
   refine aqq 4 [] rfl ?_
   cases hb_2
   exact kq K
 refine qq (ke rfl) rfl ?_
 obtain ⟨b3,hb_3,h⟩:=bs h
 refine WQ.cutN 5 [(24,.bool b3),(1,pQ b_1),(3,v1)] ?_ (fun K=>?_)
 rotate_left
 ·refine WQ.split (d:=19) rfl (fun c3=>?_) (fun c3=>?_)
  ·replace hb_3:=ir hb_3 c3
   refine aqq 3 [3,0] rfl<|WQ.yes rfl rfl ?_
   obtain ⟨x5,hx5,hb_3⟩:=bs hb_3
   refine qp (fx Hu rfl (fun w1 hw=>wG N (ba hw.fro) p0.Conds x1 (ph0_1.y hw.up) h1.rsl hx5)) rfl<|WQ.q (tM rfl rfl) rfl rfl rfl ?_
   cases hb_3
   exact kq K
  ·replace hb_3:=ik hb_3 c3
   refine aqq 5 [] rfl ?_
   cases hb_3
   exact kq K
 refine qq (ke rfl) rfl ?_
 obtain ⟨b4,hb_4,h⟩:=bs h
 refine WQ.cutN 7 [(32,.bool b4)] ?_ (fun K=>?_)
 rotate_left
 ·refine WQ.split (d:=25) rfl (fun c4=>?_) (fun c4=>?_)
  ·replace hb_4:=ir hb_4 c4
   refine aqq 4 [4,0,5] rfl<|WQ.yes rfl rfl ?_
   obtain ⟨x6,hx6,hb_4⟩:=bs hb_4
   refine qp (fx Hb rfl (fun w1 hw=>qI N (ba hw.in0) p0 ph0_0 ph0_1 ph0_2 hx6)) rfl<|WQ.yes rfl rfl ?_
   obtain ⟨x7,hx7,hb_4⟩:=bs hb_4
   refine qp (fx HI rfl (fun w1 hw=>xS N (ba hw.fro) p0.Acts x1 x6 (ph0_2.y hw.up) h1.rsl hx7)) rfl<|WQ.q (tM rfl rfl) rfl rfl rfl ?_
   cases hb_4
   exact kq K
  ·replace hb_4:=ik hb_4 c4
   refine aqq 7 [] rfl ?_
   cases hb_4
   exact kq K
 refine aqt 2 [] rfl ?_
 exact rt hF h
theorem xG (w0:av Ψ Φ []) (p0:bP) (p1:ByteArray) (ph0_0:RSl cD 5 Ψ pG0_0 pv0_0 p0.Rules) {r:Int} (h:nF N p0 p1=some r) :
  CB w0 prog 44 [.agg [.string p0.Name,pv0_0].toArray,.string p1] (iV r):=by
 refine eN func44 rfl ntmps44 rfl w0 fun hF=>?_
 unfold nF at h
 refine sr<|lbx rfl fun b_1=>art 8 [] rfl ?_
 refine lin (σ:=Int) (fun s=>[(1,.string p1),(2,pQ b_1),(5,iV s)]) (fun s=>St w0 Φ [(b_1,.cells #[.string p0.Name,pv0_0] 26 (0,0))] []) (fun m s=>fN N p0 p1 m s=some r) (0) N h (sx [] [0]) (fun n1 ih1 s hm=>?_)
 revert hm; revert s; intro s1 hm
 have h:fN N p0 p1 (n1+1) s1=some r:=hm
 show WT _ _ [(1,.string p1),(2,pQ b_1),(5,iV s1)] (St w0 Φ [(b_1,.cells #[.string p0.Name,pv0_0] 26 (0,0))] [])
 unfold fN at h
 refine atr 6 [1,0] rfl<|lnr ph0_0 rfl<|la rfl<|en ?_
 refine ch h rfl ?_ ?_ <;> intro h
 ·refine atr 8 [1,0] rfl ?_
  obtain ⟨x1,hx1,h⟩:=bs h
  obtain ⟨cs1,F1,-,g1,hb1,hs1,r1⟩:=ph0_0.el (ab hx1).2.2
  obtain ⟨v1,G1,v2,G2,v3,G3,rfl,rfl,h1,h2,h3⟩:=r1
  refine lia ph0_0 hx1 rfl<|lf xi rfl rfl rfl<|lhx 0 0 g1 rfl<|art 3 [] rfl ?_
  refine ch h rfl ?_ ?_ <;> intro h
  ·refine att 5 [] rfl ?_
   exact rt hF h
  refine att 7 [] rfl ?_
  exact lb [] [0] (ih1 _ h)
 refine att 5 [] rfl ?_
 exact rt hF h
theorem zp (w0:av Ψ Φ []) (p0:bP) (ph0_0:RSl cD 5 Ψ pG0_0 pv0_0 p0.Rules) {r:Bool} (h:pH N p0=some r) :
  CB w0 prog 11 [.agg [.string p0.Name,pv0_0].toArray] (.bool r):=by
 refine eN func11 rfl ntmps11 rfl w0 fun hF=>?_
 unfold pH at h
 refine sr<|lbx rfl fun b_1=>art 8 [] rfl ?_
 refine lin (σ:=Int) (fun s=>[(1,pQ b_1),(3,iV s)]) (fun s=>St w0 Φ [(b_1,.cells #[.string p0.Name,pv0_0] 26 (0,0))] []) (fun m s=>fB N p0 m s=some r) (0) N h (sx [] [0]) (fun n1 ih1 s hm=>?_)
 revert hm; revert s; intro s1 hm
 have h:fB N p0 (n1+1) s1=some r:=hm
 show WT _ _ [(1,pQ b_1),(3,iV s1)] (St w0 Φ [(b_1,.cells #[.string p0.Name,pv0_0] 26 (0,0))] [])
 unfold fB at h
 refine atr 6 [1,0] rfl<|lnr ph0_0 rfl<|la rfl<|en ?_
 refine ch h rfl ?_ ?_ <;> intro h
 ·refine att 4 [] rfl<|WT.draw mixed (by kernel_rfl) (fun _ h=>h.drew)<|aqq 3 [1,0] rfl ?_
  obtain ⟨x1,hx1,h⟩:=bs h
  obtain ⟨cs1,F1,-,g1,hb1,hs1,r1⟩:=ph0_0.el (ab hx1).2.2
  obtain ⟨v1,G1,v2,G2,v3,G3,rfl,rfl,h1,h2,h3⟩:=r1
  refine qq (aw sH rfl rfl ph0_0 hx1) rfl<|qq (aG wW rfl (fun w1 hw=>(g1.of_eq 0 5 rfl rfl:rg _ _ _ [.string x1.Name,iV x1.Sal,v1,v2,v3]).rangeAt hw.in0) rfl) rfl ?_
  obtain ⟨x2,hx2,h⟩:=bs h
  refine qp (fx J3 rfl (fun w1 hw=>xx N (ba hw.in0) x1 h1 h2 h3 hx2)) rfl<|aqq 2 [] rfl ?_
  obtain ⟨b1,hb_1,h⟩:=bs h
  refine WQ.cutN 11 [(29,.bool b1),(1,pQ b_1),(3,iV s1)] ?_ (fun K=>?_)
  rotate_left
  ·refine WQ.split (d:=18) rfl (fun c2=>?_) (fun c2=>?_)
   ·replace hb_1:=ir hb_1 c2
    refine aqq 11 [] rfl ?_
    cases hb_1
    exact kq K
   ·replace hb_1:=ik hb_1 c2
    refine aqq 4 [2,1,0] rfl<|WQ.yes rfl rfl ?_
    obtain ⟨x3,hx3,hb_1⟩:=bs hb_1
    obtain ⟨cs2,F2,-,g2,hb2,hs2,r2⟩:=ph0_0.el (ab hx3).2.2
    obtain ⟨v4,G4,v5,G5,v6,G6,rfl,rfl,h4,h5,h6⟩:=r2
    refine qq (aw sH rfl rfl ph0_0 hx3) rfl<|WQ.yes rfl rfl<|qq (aK xi rfl) rfl<|WQ.yes rfl rfl<|qq (cz K8 rfl (fun w1 hw=>(g2.of_eq 0 1 rfl rfl:rg _ _ _ [.string x3.Name]).rangeAt hw.in0)) rfl<|WQ.yes rfl rfl ?_
    obtain ⟨x4,hx4,hb_1⟩:=bs hb_1
    refine qp (fx Jt rfl (fun w1 hw=>xG N (ba hw.in0) p0 x3.Name ph0_0 hx4)) rfl<|aqq 3 [] rfl ?_
    cases hb_1
    exact kq K
  refine WQ.nil ?_
  refine ch h rfl ?_ ?_ <;> intro h
  ·refine att 4 [] rfl ?_
   exact rt hF h
  refine att 7 [] rfl ?_
  exact lb [] [0] (ih1 _ h)
 refine atr 5 [0,0] rfl<|qc h (fG N · p0.Name ·) rfl rfl rfl fun x5 h=>la rfl ?_
 obtain ⟨b2,hb_2,h⟩:=bs h
 refine WL.cutN 5 [(38,.bool b2)] ?_ (fun K=>?_)
 rotate_left
 ·refine sp 33 hb_2 rfl (fun hb_2=>?_) fun hb_2=>?_
  ·refine arr 2 [1,0] rfl<|ly rfl rfl<|lnr ph0_0 rfl<|ly rfl rfl<|qc hb_2 (cX N · (p0.Rules.length:Int) 1 12 ·) rfl rfl rfl fun x6 hb_2=>la rfl ?_
   cases hb_2
   exact ku K
  ·refine arr 5 [] rfl ?_
   cases hb_2
   exact ku K
 refine la rfl<|en ?_
 exact rt hF h
theorem xW (w0:av Ψ Φ []) (p0:(List aN)) (ph0:RSl aP 3 Ψ pG0 pv0 p0) {r:Bool} (h:qw N p0=some r) :
  CB w0 prog 107 [pv0] (.bool r):=by
 refine eN func107 rfl ntmps107 rfl w0 fun hF=>?_
 unfold qw at h
 refine att 10 [] rfl ?_
 refine lin (σ:=Int) (fun s=>[(0,pv0),(3,iV s)]) (fun s=>St w0 Φ [] []) (fun m s=>eP N p0 m s=some r) (0) N h (sx [] []) (fun n1 ih1 s hm=>?_)
 revert hm; revert s; intro s1 hm
 have h:eP N p0 (n1+1) s1=some r:=hm
 show WT _ _ [(0,pv0),(3,iV s1)] (St w0 Φ [] [])
 unfold eP at h
 refine atr 5 [] rfl<|lnr ph0 rfl<|la rfl<|en ?_
 refine ch h rfl ?_ ?_ <;> intro h
 ·refine atr 7 [] rfl ?_
  obtain ⟨x1,hx1,h⟩:=bs h
  obtain ⟨cs1,F1,-,g1,hb1,hs1,r1⟩:=ph0.el (ab hx1).2.2
  obtain ⟨rfl,-⟩:=r1
  refine lia ph0 hx1 rfl<|lhx 0 3 g1 rfl<|qc h (u7 N · x1 ·) rfl rfl rfl fun x2 h=>la rfl<|en ?_
  refine ch h rfl ?_ ?_ <;> intro h
  ·refine att 4 [] rfl ?_
   exact rt hF h
  refine att 7 [] rfl ?_
  exact lb [] [] (ih1 _ h)
 refine atr 4 [] rfl<|lnr ph0 rfl<|art 3 [] rfl ?_
 exact rt hF h
theorem xN (w0:av Ψ Φ []) (p0:aL) (ph0_0:RSl aP 3 Ψ pG0_0 pv0_0 p0.Fields) {r:Bool} (h:nH N p0=some r) :
  CB w0 prog 47 [.agg [.string p0.Kind,pv0_0].toArray] (.bool r):=by
 refine eN func47 rfl ntmps47 rfl w0 fun hF=>?_
 unfold nH at h
 refine sr<|lbx rfl fun b_1=>arr 6 [0,0] rfl<|qc h (fG N · p0.Kind ·) rfl rfl rfl fun x1 h=>la rfl ?_
 obtain ⟨b1,hb_1,h⟩:=bs h
 refine WL.cutN 4 [(10,.bool b1),(2,.bool false)] ?_ (fun K=>?_)
 rotate_left
 ·refine sp 6 hb_1 rfl (fun hb_1=>?_) fun hb_1=>?_
  ·refine arr 2 [1,0] rfl<|ly rfl rfl<|qd hb_1 (xW N · p0.Fields ph0_0 ·) rfl rfl rfl fun x2 hb_1=>la rfl ?_
   cases hb_1
   exact ku K
  ·refine arr 4 [] rfl ?_
   cases hb_1
   exact ku K
 refine la rfl<|en ?_
 exact rt hF h
theorem vU (w0:av Ψ Φ []) (p0:ah) (ph0_0:RSl bm 3 Ψ pG0_0 pv0_0 p0.Items) {r:Bool} (h:mj N p0=some r) :
  CB w0 prog 12 [.agg [pv0_0,iV p0.Next].toArray] (.bool r):=by
 refine eN func12 rfl ntmps12 rfl w0 fun hF=>?_
 unfold mj at h
 refine sr<|lbx rfl fun b_1=>arr 7 [1,0] rfl<|qc h (cX N · p0.Next 1 1000000 ·) rfl rfl rfl fun x1 h=>arr 2 [] rfl ?_
 obtain ⟨b1,hb_1,h⟩:=bs h
 refine WL.cutN 5 [(14,.bool b1),(1,pQ b_1)] ?_ (fun K=>?_)
 rotate_left
 ·refine sp 9 hb_1 rfl (fun hb_1=>?_) fun hb_1=>?_
  ·refine arr 5 [] rfl ?_
   cases hb_1
   exact ku K
  ·refine arr 2 [0,0] rfl<|ly rfl rfl<|lnr ph0_0 rfl<|arr 2 [] rfl ?_
   cases hb_1
   exact ku K
 refine en ?_
 refine ch h rfl ?_ ?_ <;> intro h
 ·refine att 4 [] rfl ?_
  exact rt hF h
 refine att 7 [] rfl ?_
 refine lin (σ:=Int) (fun s=>[(1,pQ b_1),(3,iV s)]) (fun s=>St w0 Φ [(b_1,.cells #[pv0_0,iV p0.Next] 29 (0,0))] []) (fun m s=>fZ N p0 m s=some r) (0) N h (sx [] [0]) (fun n1 ih1 s hm=>?_)
 revert hm; revert s; intro s1 hm
 have h:fZ N p0 (n1+1) s1=some r:=hm
 show WT _ _ [(1,pQ b_1),(3,iV s1)] (St w0 Φ [(b_1,.cells #[pv0_0,iV p0.Next] 29 (0,0))] [])
 unfold fZ at h
 refine atr 6 [0,0] rfl<|lnr ph0_0 rfl<|la rfl<|en ?_
 refine ch h rfl ?_ ?_ <;> intro h
 ·refine atr 8 [0,0] rfl ?_
  obtain ⟨x2,hx2,h⟩:=bs h
  obtain ⟨cs1,F1,-,g1,hb1,hs1,r1⟩:=ph0_0.el (ab hx2).2.2
  obtain ⟨v1,G1,rfl,hq1,h1⟩:=r1
  obtain rfl:=hq1.symm
  refine lia ph0_0 hx2 rfl<|lhx 0 3 g1 rfl<|lnz pA rfl fun b_2=>soN 0 wI rfl ⟨rfl,rfl,h1.one,trivial⟩ rfl ?_
  refine en<|sq<|WT.draw mixed (by kernel_rfl) (fun _ h=>h.drew)<|aqq 2 [1,2] rfl ?_
  obtain ⟨x3,hx3,h⟩:=bs h
  refine qp (fx Jk rfl (fun w1 hw=>xN N (ba hw.in0) x2.F h1 hx3)) rfl<|aqq 2 [] rfl ?_
  obtain ⟨b2,hb_2,h⟩:=bs h
  refine WQ.cutN 4 [(35,.bool b2),(1,pQ b_1),(3,iV s1),(4,pQ b_2)] ?_ (fun K=>?_)
  rotate_left
  ·refine WQ.split (d:=31) rfl (fun c4=>?_) (fun c4=>?_)
   ·replace hb_2:=ir hb_2 c4
    refine aqq 4 [] rfl ?_
    cases hb_2
    exact kq K
   ·replace hb_2:=ik hb_2 c4
    refine aqq 4 [0,0] rfl ?_
    cases hb_2
    exact kq K
  refine qq (ke rfl) rfl ?_
  obtain ⟨b3,hb_3,h⟩:=bs h
  refine WQ.cutN 6 [(42,.bool b3),(1,pQ b_1),(3,iV s1),(4,pQ b_2)] ?_ (fun K=>?_)
  rotate_left
  ·refine WQ.split (d:=36) rfl (fun c5=>?_) (fun c5=>?_)
   ·replace hb_3:=ir hb_3 c5
    refine aqq 6 [] rfl ?_
    cases hb_3
    exact kq K
   ·replace hb_3:=ik hb_3 c5
    refine aqq 6 [0,0,1,32] rfl ?_
    cases hb_3
    exact kq K
  refine qq (ke rfl) rfl ?_
  obtain ⟨b4,hb_4,h⟩:=bs h
  refine WQ.cutN 15 [(58,.bool b4),(1,pQ b_1),(3,iV s1),(4,pQ b_2)] ?_ (fun K=>?_)
  rotate_left
  ·refine WQ.split (d:=43) rfl (fun c6=>?_) (fun c6=>?_)
   ·replace hb_4:=ir hb_4 c6
    refine aqq 15 [] rfl ?_
    cases hb_4
    exact kq K
   ·replace hb_4:=ik hb_4 c6
    refine aqq 3 [] rfl ?_
    obtain ⟨b5,hb_5,hb_4⟩:=bs hb_4
    refine WQ.cutN 11 [(57,.bool b5),(1,pQ b_1),(3,iV s1),(4,pQ b_2),(43,.bool false)] ?_ (fun K=>?_)
    rotate_left
    ·refine WQ.split (d:=46) rfl (fun c7=>?_) (fun c7=>?_)
     ·replace hb_5:=ir hb_5 c7
      refine aqq 4 [0,32] rfl<|WQ.yes rfl rfl ?_
      obtain ⟨x4,hx4,hb_5⟩:=bs hb_5
      obtain ⟨cs2,F2,-,g2,hb2,hs2,r2⟩:=ph0_0.el (ab hx4).2.2
      obtain ⟨v2,G2,rfl,hq2,h2⟩:=r2
      obtain rfl:=hq2.symm
      refine qq (aw nS rfl rfl ph0_0 hx4) rfl<|WQ.yes rfl rfl<|qq (aK tx rfl) rfl<|WQ.yes rfl rfl<|qq (cz BU rfl (fun w1 hw=>(g2.of_eq 0 1 rfl rfl:rg _ _ _ [iV x4.Id]).rangeAt hw.in0)) rfl<|aqq 4 [0,0] rfl ?_
      cases hb_5
      exact kq K
     ·replace hb_5:=ik hb_5 c7
      refine aqq 11 [] rfl ?_
      cases hb_5
      exact kq K
    refine WQ.q (rK rfl rfl) rfl rfl rfl ?_
    cases hb_4
    exact kq K
  refine qq (ke rfl) rfl ?_
  obtain ⟨b6,hb_6,h⟩:=bs h
  refine WQ.cutN 8 [(67,.bool b6),(1,pQ b_1),(3,iV s1)] ?_ (fun K=>?_)
  rotate_left
  ·refine WQ.split (d:=59) rfl (fun c8=>?_) (fun c8=>?_)
   ·replace hb_6:=ir hb_6 c8
    refine aqq 8 [] rfl ?_
    cases hb_6
    exact kq K
   ·replace hb_6:=ik hb_6 c8
    refine aqq 3 [34,1,2] rfl<|WQ.yes rfl rfl ?_
    obtain ⟨x5,hx5,hb_6⟩:=bs hb_6
    refine qp (fx Ff rfl (fun w1 hw=>uP N (ba hw.in0) p0 x2.F ph0_0 h1 hx5)) rfl<|aqq 4 [0,0] rfl ?_
    cases hb_6
    exact kq K
  refine WQ.nil ?_
  refine ch h rfl ?_ ?_ <;> intro h
  ·refine att 4 [] rfl ?_
   exact rt hF h
  refine att 7 [] rfl ?_
  exact lb [] [1] (ih1 _ h)
 refine att 5 [] rfl ?_
 exact rt hF h
theorem ie {p2f:Nat} {p2fr:List Value} (w0:av Ψ Φ []) (p0:(List eu)) (p1:(List eu)) (p2:eu→eu→Option (Bool)) (ph0:RSl j0 1 Ψ pG0 pv0 p0) (ph1:RSl j0 1 Ψ pG1 pv1 p1) (p2hF:Fun prog p2f=true) (p2h:∀ {Φ':Hp} {w':World},FrH [] Φ Φ'→In Φ' w'→∀ (p2a0:eu) (p2a1:eu) {p2v0_0:Value} {p2G0_0:List Nat} {p2v1_0:Value} {p2G1_0:List Nat} (_:RSl (RI .i64) 1 Φ' p2G0_0 p2v0_0 p2a0.L) (_:RSl (RI .i64) 1 Φ' p2G1_0 p2v1_0 p2a1.L) {r:Bool},p2 p2a0 p2a1=some r→Calls prog p2f (([.agg [p2v0_0].toArray,.agg [p2v1_0].toArray]:List Value)++p2fr).toArray w' (lh (.bool r) w')) {r:Bool} (h:bu N p0 p1 p2=some r) :
  CB w0 prog 109 [pv0,pv1,.func (.func p2f) #[] p2fr.toArray] (.bool r):=by
 refine eN func109 rfl ntmps109 rfl w0 fun hF=>?_
 unfold bu at h
 refine atr 8 [] rfl<|lnr ph0 rfl<|la rfl<|lnr ph1 rfl<|la rfl<|en ?_
 refine ch h rfl ?_ ?_ <;> intro h
 ·refine att 4 [] rfl ?_
  exact rt hF h
 refine atr 5 [] rfl<|lnr ph0 rfl<|art 3 [] rfl ?_
 refine lin (σ:=Int) (fun s=>[(1,pv1),(2,.func (.func p2f) #[] p2fr.toArray),(15,pv0),(16,iV (p0.length:Int)),(17,iV s)]) (fun s=>St w0 Φ [] []) (fun m s=>aA N p0 p1 p2 m s=some r) (0) N h (sx [] []) (fun n1 ih1 s hm=>?_)
 revert hm; revert s; intro s1 hm
 have h:aA N p0 p1 p2 (n1+1) s1=some r:=hm
 show WT _ _ [(1,pv1),(2,.func (.func p2f) #[] p2fr.toArray),(15,pv0),(16,iV (p0.length:Int)),(17,iV s1)] (St w0 Φ [] [])
 unfold aA at h
 refine att 5 [] rfl ?_
 refine ch h rfl ?_ ?_ <;> intro h
 ·refine atr 6 [] rfl ?_
  obtain ⟨x1,hx1,h⟩:=bs h
  obtain ⟨cs1,F1,-,g1,hb1,hs1,r1⟩:=ph0.el (ab hx1).2.2
  obtain ⟨v1,G1,rfl,hq1,h1⟩:=r1
  obtain rfl:=hq1.symm
  refine lia ph0 hx1 rfl<|lhx 0 1 g1 rfl ?_
  refine ln (mY (C:=#[.slice none 0 0]) Bv rfl) rfl (fun b_1=>?_)
  refine la rfl<|soN 0 Gr rfl ⟨h1.one,trivial⟩ rfl ?_
  refine arr 5 [] rfl ?_
  obtain ⟨x2,hx2,h⟩:=bs h
  obtain ⟨cs2,F2,-,g2,hb2,hs2,r2⟩:=ph1.el (ab hx2).2.2
  obtain ⟨v2,G2,rfl,hq2,h2⟩:=r2
  obtain rfl:=hq2.symm
  refine lia ph1 hx2 rfl<|lhx 0 1 g2 rfl ?_
  refine ln (mY (C:=#[.slice none 0 0]) Bv rfl) rfl (fun b_2=>?_)
  refine soN 0 Gr rfl ⟨h2.one,trivial⟩ rfl ?_
  refine arr 4 [] rfl<|lq (aG EB rfl (fun w1 hw=>hw.rgO (i:=1) rfl 0 1 [v1] rfl) rfl) rfl<|lq (aG EB rfl (fun w1 hw=>hw.rgO (i:=0) rfl 0 1 [v2] rfl) rfl) rfl ?_
  obtain ⟨x3,hx3,h⟩:=bs h
  refine lp (m6 p2hF rfl rfl (fun w1 hw=>p2h hw.frB hw.fro x1 x2 (h1.y hw.up) (h2.y hw.up) hx3)) rfl<|la rfl<|en ?_
  refine ch h rfl ?_ ?_ <;> intro h
  ·refine att 4 [] rfl ?_
   exact rt hF h
  refine att 6 [] rfl ?_
  exact lb [] [] (ih1 _ h)
 refine att 5 [] rfl ?_
 exact rt hF h
theorem tI (w0:av Ψ Φ []) (p0:eu) (p1:eu) (ph0_0:RSl (RI .i64) 1 Ψ pG0_0 pv0_0 p0.L) (ph1_0:RSl (RI .i64) 1 Ψ pG1_0 pv1_0 p1.L) {r:Bool} (h:ga N p0 p1=some r) :
  CB w0 prog 110 [.agg [pv0_0].toArray,.agg [pv1_0].toArray] (.bool r):=by
 refine eN func110 rfl ntmps110 rfl w0 fun hF=>?_
 unfold ga at h
 refine sr ?_
 refine ln (uY (C:=#[pv0_0]) rfl rfl) rfl (fun b_1=>?_)
 refine ln (uY (C:=#[pv1_0]) rfl rfl) rfl (fun b_2=>?_)
 refine arr 8 [0,32,0,0] rfl<|qd h (iB N · p0.L p1.L ph0_0 ph1_0 ·) rfl rfl rfl fun x1 h=>la rfl<|en ?_
 exact rt hF h
theorem ic {p2f:Nat} {p2fr:List Value} (w0:av Ψ Φ []) (p0:(List cq)) (p1:(List cq)) (p2:cq→cq→Option (Bool)) (ph0:RSl mm 1 Ψ pG0 pv0 p0) (ph1:RSl mm 1 Ψ pG1 pv1 p1) (p2hF:Fun prog p2f=true) (p2h:∀ {Φ':Hp} {w':World},FrH [] Φ Φ'→In Φ' w'→∀ (p2a0:cq) (p2a1:cq) {p2v0_0:Value} {p2G0_0:List Nat} {p2v1_0:Value} {p2G1_0:List Nat} (_:RSl gD 1 Φ' p2G0_0 p2v0_0 p2a0.Levels) (_:RSl gD 1 Φ' p2G1_0 p2v1_0 p2a1.Levels) {r:Bool},p2 p2a0 p2a1=some r→Calls prog p2f (([.agg [p2v0_0].toArray,.agg [p2v1_0].toArray]:List Value)++p2fr).toArray w' (lh (.bool r) w')) {r:Bool} (h:bv N p0 p1 p2=some r) :
  CB w0 prog 111 [pv0,pv1,.func (.func p2f) #[] p2fr.toArray] (.bool r):=by
 refine eN func111 rfl ntmps111 rfl w0 fun hF=>?_
 unfold bv at h
 refine atr 8 [] rfl<|lnr ph0 rfl<|la rfl<|lnr ph1 rfl<|la rfl<|en ?_
 refine ch h rfl ?_ ?_ <;> intro h
 ·refine att 4 [] rfl ?_
  exact rt hF h
 refine atr 5 [] rfl<|lnr ph0 rfl<|art 3 [] rfl ?_
 refine lin (σ:=Int) (fun s=>[(1,pv1),(2,.func (.func p2f) #[] p2fr.toArray),(15,pv0),(16,iV (p0.length:Int)),(17,iV s)]) (fun s=>St w0 Φ [] []) (fun m s=>aB N p0 p1 p2 m s=some r) (0) N h (sx [] []) (fun n1 ih1 s hm=>?_)
 revert hm; revert s; intro s1 hm
 have h:aB N p0 p1 p2 (n1+1) s1=some r:=hm
 show WT _ _ [(1,pv1),(2,.func (.func p2f) #[] p2fr.toArray),(15,pv0),(16,iV (p0.length:Int)),(17,iV s1)] (St w0 Φ [] [])
 unfold aB at h
 refine att 5 [] rfl ?_
 refine ch h rfl ?_ ?_ <;> intro h
 ·refine atr 6 [] rfl ?_
  obtain ⟨x1,hx1,h⟩:=bs h
  obtain ⟨cs1,F1,-,g1,hb1,hs1,r1⟩:=ph0.el (ab hx1).2.2
  obtain ⟨v1,G1,rfl,hq1,h1⟩:=r1
  obtain rfl:=hq1.symm
  refine lia ph0 hx1 rfl<|lhx 0 1 g1 rfl ?_
  refine ln (mY (C:=#[.slice none 0 0]) wd rfl) rfl (fun b_1=>?_)
  refine la rfl<|soN 0 Bl rfl ⟨h1.one,trivial⟩ rfl ?_
  refine arr 5 [] rfl ?_
  obtain ⟨x2,hx2,h⟩:=bs h
  obtain ⟨cs2,F2,-,g2,hb2,hs2,r2⟩:=ph1.el (ab hx2).2.2
  obtain ⟨v2,G2,rfl,hq2,h2⟩:=r2
  obtain rfl:=hq2.symm
  refine lia ph1 hx2 rfl<|lhx 0 1 g2 rfl ?_
  refine ln (mY (C:=#[.slice none 0 0]) wd rfl) rfl (fun b_2=>?_)
  refine soN 0 Bl rfl ⟨h2.one,trivial⟩ rfl ?_
  refine arr 4 [] rfl<|lq (aG EZ rfl (fun w1 hw=>hw.rgO (i:=1) rfl 0 1 [v1] rfl) rfl) rfl<|lq (aG EZ rfl (fun w1 hw=>hw.rgO (i:=0) rfl 0 1 [v2] rfl) rfl) rfl ?_
  obtain ⟨x3,hx3,h⟩:=bs h
  refine lp (m6 p2hF rfl rfl (fun w1 hw=>p2h hw.frB hw.fro x1 x2 (h1.y hw.up) (h2.y hw.up) hx3)) rfl<|la rfl<|en ?_
  refine ch h rfl ?_ ?_ <;> intro h
  ·refine att 4 [] rfl ?_
   exact rt hF h
  refine att 6 [] rfl ?_
  exact lb [] [] (ih1 _ h)
 refine att 5 [] rfl ?_
 exact rt hF h
end Go.Proofs.YtedmfnmbjglmbaaGreat
