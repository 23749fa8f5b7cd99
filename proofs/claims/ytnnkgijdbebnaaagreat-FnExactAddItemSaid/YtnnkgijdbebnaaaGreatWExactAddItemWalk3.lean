/- Printed by a program of ours: each Go function computes its Lean function. -/
import Derived.Test.YtnnkgijdbebnaaaGreatProg
import Derived.Test.YtnnkgijdbebnaaaGreatWExactAddItemWalk2
namespace Go.Proofs.YtnnkgijdbebnaaaGreat
open Eng Tryz
open Go.RowKit (Below)
set_option linter.unusedVariables false
set_option linter.unusedSimpArgs false

set_option maxRecDepth 100000
set_option maxHeartbeats 1000000
variable {Ψ Φ:Hp} {pv0_0 pv0_1 pv1_0 pv0 pv1_1 pv2_0 pv2_1 pv3_0 pv2 pv0_2 pv1_2 pv3:Value} {pG0_0 pG0_1 pG1_0 pG0 pG1_1 pG2_0 pG2_1 pG3_0 pG2 pG0_2 pD2 pD0 pG1_2 pG3:List Nat} (N:Nat)
theorem zV (w0:af Ψ Φ []) (p0:av) (ph0_0:RSl bQ 5 Ψ pG0_0 pv0_0 p0.Args) {r:a9} (h:oQ N p0=some r) :
  Calls prog 162 [.agg [.string p0.Kind,pv0_0,.bool p0.Not].toArray].toArray w0.w (aQ Φ w0.w [] (fun Φ' Fs v=>∃ (sr_0_0:Value) (sr_0_1:Value),v = .agg [.string r.Kind,iV r.N,sr_0_0,sr_0_1].toArray∧Fs=[ob sr_0_0,ob sr_0_1]∧OSl az 193 3 Φ' [] sr_0_0 r.Consts∧OSl (RI .i64) 3 1 Φ' [] sr_0_1 r.At)):=by
 refine eN func162 rfl ntmps162 rfl w0 fun hF=>?_
 unfold oQ at h
 refine sr<|lbx rfl fun b_1=>lnz kP rfl fun b_2=>arr 7 [0,32,1,32] rfl<|lnr ph0_0 rfl<|lq (cw (vs:=[(0,.string p0.Kind),(1,iV (p0.Args.length:Int))]) (C:=#[.string p0.Kind,iV (p0.Args.length:Int),.slice none 0 0,.slice none 0 0]) IT kP rfl (ai (C':=[.string p0.Kind,iV 0,.slice none 0 0,.slice none 0 0]) rfl rfl rfl rfl rfl (ai (C':=[.string p0.Kind,iV (p0.Args.length:Int),.slice none 0 0,.slice none 0 0]) rfl rfl rfl rfl rfl (ak)))) rfl<|lnz kP rfl fun b_3=>?_
 refine soN 0 qP rfl ⟨rfl,rfl,rfl,rfl,trivial⟩ rfl ?_
 refine art 7 [] rfl<|wtS ?_
 have k1:=OSl.nil az 193 3 Φ
 refine wtS ?_
 have k2:=OSl.nil (RI .i64) 3 1 Φ
 refine lin (σ:=Hp × (List aL) × Value × (List Int) × Value × Int) (fun s=>[(1,pQ b_1),(2,pQ b_2),(3,pQ b_3),(4,iV s.2.2.2.2.2)]) (fun s=>St w0 s.1 [(b_3,.cells #[.string p0.Kind,iV (p0.Args.length:Int),s.2.2.1,s.2.2.2.2.1] 142 (0,0)),(b_2,.cells #[.string (⟨#[]⟩:ByteArray),iV 0,.slice none 0 0,.slice none 0 0] 142 (0,0)),(b_1,.cells #[.string p0.Kind,pv0_0,.bool p0.Not] 212 (0,0))] [ob s.2.2.2.2.1,ob s.2.2.1]) (fun m s=>fq N p0 m s.2.1 s.2.2.2.1 s.2.2.2.2.2=some r∧(OSl az 193 3 s.1 [] s.2.2.1 s.2.1)∧(OSl (RI .i64) 3 1 s.1 [] s.2.2.2.2.1 s.2.2.2.1)) (Φ,([]:List aL),(.slice none 0 0),([]:List Int),(.slice none 0 0),0) N ⟨h,k1,k2⟩ (sx [0,0] [0,0,0]) (fun n1 ih1 s hm=>?_)
 obtain ⟨Φ_1,s1,u1,s2,u2,s3⟩:=s
 obtain ⟨h,k3,k4⟩:=hm
 dsimp only at h k3 k4 ⊢
 unfold fq at h
 refine atr 6 [1,64] rfl<|lnr ph0_0 rfl<|la rfl<|en ?_
 refine ch h rfl ?_ ?_ <;> intro h
 ·refine atr 8 [1,64] rfl ?_
  obtain ⟨x1,hx1,h⟩:=bs h
  obtain ⟨cs1,F1,-,g1,hb1,hs1,r1⟩:=ph0_0.el (a7 hx1).2.2
  obtain ⟨rfl,-⟩:=r1
  refine lia ph0_0 hx1 rfl<|lf xB rfl rfl rfl<|lhx 0 0 g1 rfl<|la rfl<|en ?_
  refine ch h rfl ?_ ?_ <;> intro h
  ·refine sq<|wm [0,1,2] [11] rfl<|amm 5 [0,2,1,0,2,1,3,64,4] [0,1,2] rfl rfl ?_
   obtain ⟨x2,hx2,h⟩:=bs h
   obtain ⟨cs2,F2,-,g2,hb2,hs2,r2⟩:=ph0_0.el (a7 hx2).2.2
   obtain ⟨rfl,-⟩:=r2
   refine mq 5 rfl (by kernel_rfl) (kN [0,1,2]) (a8 xf rfl rfl ph0_0 hx2) rfl<|amm 1 [6,2] [0,1,2] rfl rfl<|mq 7 rfl (by kernel_rfl) (kN [0,1,2]) (ao iY rfl (fun w1 hw=>(g2.of_eq 2 3 rfl rfl:rg _ _ _ [iV x2.V.K,iV x2.V.N,.string x2.V.S]).rangeAt hw.1) rfl) rfl ?_
   have rc1:RC az 3 Φ_1 ([[]]:List (List Nat)) [iV x2.V.K,iV x2.V.N,.string x2.V.S] ([x2.V]:List aL):=RC.cons (c:=[iV x2.V.K,iV x2.V.N,.string x2.V.S]) (cells:=[]) ⟨rfl,rfl⟩ rfl (RC.nil _ _ _)
   refine WM.one 8 (by kernel_rfl) (me rfl (fun _ v Φx D w1 hq hw=>Kn.of Kf.nil (ai3 0 1 2 rfl rfl rfl) hw) (cu (vs:=[(0,.agg [iV x2.V.K,iV x2.V.N,.string x2.V.S].toArray)]) (C:=#[iV x2.V.K,iV x2.V.N,.string x2.V.S]) az.lasts ep jI rfl rfl rfl rfl (aI Gi (ai (C':=[iV x2.V.K,iV x2.V.N,.string x2.V.S]) rfl rfl rfl rfl rfl (ak))) rfl rc1 rfl (by simpa using Kw.nil)) rfl ?_)
   rintro v1 Φ_2 D1 ⟨fr1,h1⟩
   replace h1:OSl az 193 3 Φ_2 [] v1 ([x2.V]:List aL):=by simpa using h1
   replace k3:=k3.f0 fr1
   replace k4:=k4.f0 fr1
   obtain ⟨x3,hx3,h⟩:=bs h
   refine WM.one 9 (by kernel_rfl) (me rfl (fun _ v Φx D w1 hq hw=>Kn.of Kf.nil (ai3 0 1 2 rfl rfl rfl) hw) (cP az.lasts az.one az.flat ep DA rfl rfl rfl rfl rfl (js:=[2]) (Rr:=[ob v1,ob u2]) rfl k3 h1.rsl hx3) rfl ?_)
   rintro v2 Φ_3 D2 ⟨⟨ap1,fr2⟩,h2⟩
   replace k4:=k4.fr fr2 (ap1.q 1 rfl) dN
   refine amm 1 [10,2] [0,1,2] rfl rfl ?_
   refine on1 11 (ms1 0 rfl nk AG rfl h2.one ?_)
   refine WM.nil (by kernel_rfl)<|atr 4 [3,0] rfl ?_
   have rc2:RC (RI .i64) 1 Φ_3 ([[]]:List (List Nat)) [iV s3] ([s3]:List Int):=RC.cons (c:=[iV s3]) (cells:=[]) ⟨rfl,rfl⟩ rfl (RC.nil _ _ _)
   refine le' (cu (vs:=[(0,iV s3)]) (C:=#[iV s3]) RI.lasts aR o7 rfl rfl rfl rfl (aI mE (ai (C':=[iV s3]) rfl rfl rfl rfl rfl (ak))) rfl rc2 rfl (by simpa using Kw.nil)) rfl ?_
   rintro v3 Φ_4 D3 ⟨fr3,h3⟩
   replace h3:OSl (RI .i64) 3 1 Φ_4 [] v3 ([s3]:List Int):=by simpa using h3
   replace h2:=h2.f0 fr3
   replace k4:=k4.f0 fr3
   obtain ⟨x4,hx4,h⟩:=bs h
   refine le' (cP RI.lasts RI.one RI.flat aR sP rfl rfl rfl rfl rfl (js:=[3]) (Rr:=[ob v3,ob v2,ob v1]) rfl k4 h3.rsl hx4) rfl ?_
   rintro v4 Φ_5 D4 ⟨⟨ap2,fr4⟩,h4⟩
   replace h2:=h2.fr fr4 (ap2.q 1 rfl) dN
   refine lf uY rfl rfl rfl<|so1 0 kO rfl h4.one ?_
   refine art 7 [] rfl ?_
   exact lb [0,1] [0,0,0] (ih1 (_,_,_,_,_,_) ⟨h,h2,h4⟩)
  refine att 7 [] rfl ?_
  exact lb [0,0] [0,0,0] (ih1 (_,_,_,_,_,_) ⟨h,k3,k4⟩)
 refine atr 4 [4] rfl<|soN 1 qP rfl ⟨rfl,rfl,k3.one,k4.one,trivial⟩ rfl ?_
 refine en ?_
 exact rtg [1,0] hF (ay.one (bB pr rfl (fun w1 hw=>hw.rgO (i:=1) rfl 0 4 [.string p0.Kind,iV (p0.Args.length:Int),u1,u2] rfl) rfl)) rfl (by cases h; exact fun w1 hw=>⟨u1,u2,rfl,rfl,k3,k4⟩)
theorem Cc (w0:af Ψ Φ []) (p0:bo) (ph0_0:RSl cf 5 Ψ pG0_0 pv0_0 p0.Rules) {r:bc} (h:qT N p0=some r) :
  Calls prog 111 [.agg [.string p0.Name,pv0_0].toArray].toArray w0.w (aQ Φ w0.w [] (fun Φ' Fs v=>∃ (sr_0_0:Value) (Dr_0_0:List Nat) (sr_0_1:Value) (Dr_0_1:List Nat) (X:List Nat),v = .agg [sr_0_0,sr_0_1].toArray∧Fs=[ob sr_0_0,ob sr_0_1,Dr_0_1,X]∧OSl bf 142 4 Φ' Dr_0_0 sr_0_0 r.Alphas∧(∀ k∈Dr_0_0,k∈X)∧OSl aJ 149 2 Φ' Dr_0_1 sr_0_1 r.Chains)):=by
 refine eN func111 rfl ntmps111 rfl w0 fun hF=>?_
 unfold qT at h
 refine sr<|lbx rfl fun b_1=>lnz w5 rfl fun b_2=>en<|sr<|lq (cw (vs:=[]) (C:=#[.slice none 0 0,.slice none 0 0]) Od w5 rfl (ak)) rfl<|lnz w5 rfl fun b_3=>soN 0 Du rfl ⟨rfl,rfl,trivial⟩ rfl ?_
 refine art 7 [] rfl<|wt0<|wtS ?_
 have k1:=OSl.nil bf 142 4 Φ
 refine wtS<|wt0 ?_
 have k2:=OSl.nil aJ 149 2 Φ
 refine lin (σ:=Hp × List Nat × (List a9) × Value × List Nat × (List ae) × Value × List Nat × Int) (fun s=>[(1,pQ b_1),(2,pQ b_2),(3,pQ b_3),(4,iV s.2.2.2.2.2.2.2.2)]) (fun s=>St w0 s.1 [(b_3,.cells #[s.2.2.2.1,s.2.2.2.2.2.2.1] 52 (0,0)),(b_2,.cells #[.slice none 0 0,.slice none 0 0] 52 (0,0)),(b_1,.cells #[.string p0.Name,pv0_0] 47 (0,0))] [s.2.2.2.2.2.2.2.1,ob s.2.2.2.2.2.2.1,ob s.2.2.2.1,s.2.1]) (fun m s=>dH N p0 m s.2.2.1 s.2.2.2.2.2.1 s.2.2.2.2.2.2.2.2=some r∧(OSl bf 142 4 s.1 s.2.2.2.2.1 s.2.2.2.1 s.2.2.1)∧(∀ k∈s.2.2.2.2.1,k∈s.2.1)∧(OSl aJ 149 2 s.1 s.2.2.2.2.2.2.2.1 s.2.2.2.2.2.2.1 s.2.2.2.2.2.1)) (Φ,[],([]:List a9),(.slice none 0 0),[],([]:List ae),(.slice none 0 0),[],0) N ⟨h,k1,(by simp),k2⟩ (sx [0,0,0,0] [0,0,0]) (fun n1 ih1 s hm=>?_)
 obtain ⟨Φ_1,X1,s1,u1,D1,s2,u2,D2,s3⟩:=s
 obtain ⟨h,k3,i1,k4⟩:=hm
 dsimp only at h k3 i1 k4 ⊢
 unfold dH at h
 refine atr 6 [1,64] rfl<|lnr ph0_0 rfl<|la rfl<|en ?_
 refine ch h rfl ?_ ?_ <;> intro h
 ·refine atr 5 [] rfl<|lq (cw (vs:=[]) (C:=#[.slice none 0 0,.slice none 0 0]) Mt qG rfl (ak)) rfl<|lnz qG rfl fun b_4=>soN 0 xw rfl ⟨rfl,rfl,trivial⟩ rfl ?_
  refine art 7 [] rfl<|wt0<|wtS ?_
  have k5:=OSl.nil (RI .i64) 3 1 Φ_1
  refine wtS ?_
  have k6:=OSl.nil (RI .i64) 3 1 Φ_1
  refine lin (σ:=Hp × List Nat × (List a9) × Value × List Nat × (List Int) × Value × (List Int) × Value × Int) (fun s=>[(1,pQ b_1),(2,pQ b_2),(3,pQ b_3),(4,iV s3),(5,pQ b_4),(6,iV s.2.2.2.2.2.2.2.2.2)]) (fun s=>St w0 s.1 [(b_4,.cells #[s.2.2.2.2.2.2.2.2.1,s.2.2.2.2.2.2.1] 149 (0,0)),(b_3,.cells #[s.2.2.2.1,u2] 52 (0,0)),(b_2,.cells #[.slice none 0 0,.slice none 0 0] 52 (0,0)),(b_1,.cells #[.string p0.Name,pv0_0] 47 (0,0))] [ob s.2.2.2.2.2.2.2.2.1,ob s.2.2.2.2.2.2.1,s.2.1,D2,ob u2,ob s.2.2.2.1,X1]) (fun m s=>eY N p0 s2 s3 (dH N p0 n1) m s.2.2.1 s.2.2.2.2.2.1 s.2.2.2.2.2.2.2.1 s.2.2.2.2.2.2.2.2.2=some r∧(OSl bf 142 4 s.1 s.2.2.2.2.1 s.2.2.2.1 s.2.2.1)∧(∀ k∈s.2.2.2.2.1,k∈(X1++s.2.1))∧(OSl aJ 149 2 s.1 D2 u2 s2)∧(OSl (RI .i64) 3 1 s.1 [] s.2.2.2.2.2.2.1 s.2.2.2.2.2.1)∧(OSl (RI .i64) 3 1 s.1 [] s.2.2.2.2.2.2.2.2.1 s.2.2.2.2.2.2.2.1)) (Φ_1,[],s1,u1,D1,([]:List Int),(.slice none 0 0),([]:List Int),(.slice none 0 0),0) N ⟨h,k3,(fun k hk=>(List.mem_append.2 (.inl (i1 k hk)))),k4,k5,k6⟩ (sx [0,0,0,0,0,0,0] [0,0,0,0]) (fun n2 ih2 s hm=>?_)
  obtain ⟨Φ_2,X2,s4,u3,D3,s5,u4,s6,u5,s7⟩:=s
  obtain ⟨h,k7,i2,k4,k8,k9⟩:=hm
  dsimp only at h k7 i2 k4 k8 k9 ⊢
  unfold eY at h
  refine atr 7 [1,96] rfl ?_
  obtain ⟨x1,hx1,h⟩:=bs h
  obtain ⟨cs1,F1,-,g1,hb1,hs1,r1⟩:=ph0_0.el (a7 hx1).2.2
  obtain ⟨v1,G1,v2,G2,v3,G3,rfl,rfl,h1,h2,h3⟩:=r1
  refine lia ph0_0 hx1 rfl<|lf uU rfl rfl rfl<|lhx 2 0 g1 rfl<|lnr h1 rfl<|la rfl<|en ?_
  refine ch h rfl ?_ ?_ <;> intro h
  ·refine atr 8 [1,96] rfl ?_
   obtain ⟨x2,hx2,h⟩:=bs h
   obtain ⟨cs2,F2,-,g2,hb2,hs2,r2⟩:=ph0_0.el (a7 hx2).2.2
   obtain ⟨v4,G4,v5,G5,v6,G6,rfl,rfl,h4,h5,h6⟩:=r2
   refine lia ph0_0 hx2 rfl<|lf uU rfl rfl rfl<|lhx 2 0 g2 rfl<|la rfl ?_
   obtain ⟨x3,hx3,h⟩:=bs h
   obtain ⟨cs3,F3,-,g3,hb3,hs3,r3⟩:=h4.el (a7 hx3).2.2
   obtain ⟨v7,G7,rfl,hq1,h7⟩:=r3
   obtain rfl:=hq1.symm
   refine lia h4 hx3 rfl<|lhx 0 3 g3 rfl<|lnz pE rfl fun b_5=>soN 0 sN rfl ⟨rfl,h7.one,rfl,trivial⟩ rfl ?_
   refine arr 4 [3] rfl<|kab h rfl rfl rfl (fun b z q=>zV N b x3 (h7.y z) q) ?_
   rintro x4 h v8 Φ_3 F4 ⟨ap1,fr1,v9,v10,rfl,rfl,h8,h9⟩
   replace k7:=k7.fr fr1 (ap1.q 5 rfl) (Dj.sub (Dj.app (ap1.q 6 rfl) (ap1.q 2 rfl)) i2)
   replace k4:=k4.fr fr1 (ap1.q 4 rfl) (ap1.q 3 rfl)
   replace k8:=k8.fr fr1 (ap1.q 1 rfl) dN
   replace k9:=k9.fr fr1 (ap1.q 0 rfl) dN
   refine WL.frz (js:=[2]) (R:=[(b_5,.cells #[.string x3.Kind,v7,.bool x3.Not] 212 (0,0)),(b_4,.cells #[u5,u4] 149 (0,0)),(b_2,.cells #[.slice none 0 0,.slice none 0 0] 52 (0,0)),(b_1,.cells #[.string p0.Name,pv0_0] 47 (0,0))]) rfl (fun Φ_4 fr2 k10=>?_)
   replace k7:=k7.f0 fr2
   replace k4:=k4.f0 fr2
   replace k8:=k8.f0 fr2
   replace k9:=k9.f0 fr2
   replace h8:=h8.f0 fr2
   replace h9:=h9.f0 fr2
   refine kcb [0,7] h rfl rfl rfl rfl (fun b ap z q=>AW N b (⟨s4,s2⟩:bc) x4 k7 ((k4.rslG aJ.gives).x (Dj.app (ap.q 6 rfl) (ap.q 5 rfl))) k10 (h8.rsl.x (Dj.app (ap.q 0 rfl) dN)) (h9.rsl.x (Dj.app (ap.q 1 rfl) dN)) (Dj.sub (Dj.app (ap.q 7 rfl) (ap.q 4 rfl)) i2) q) ?_
   rintro x5 h v11 Φ_5 F5 ⟨ap2,fr3,v12,D4,rfl,rfl,h10,i3,e1,h11⟩
   replace k4:=k4.fr fr3 (ap2.q 6 rfl) (ap2.q 5 rfl)
   replace k8:=k8.fr fr3 (ap2.q 3 rfl) dN
   replace k9:=k9.fr fr3 (ap2.q 2 rfl) dN
   refine art 7 [2,0] rfl ?_
   refine ch h rfl ?_ ?_ <;> intro h
   ·refine atr 4 [1,32] rfl ?_
    have rc1:RC (RI .i64) 1 Φ_5 ([[]]:List (List Nat)) [iV x5.1] ([x5.1]:List Int):=RC.cons (c:=[iV x5.1]) (cells:=[]) ⟨rfl,rfl⟩ rfl (RC.nil _ _ _)
    refine le' (cu (vs:=[(0,iV x5.1)]) (C:=#[iV x5.1]) RI.lasts aR o7 rfl rfl rfl rfl (aI mE (ai (C':=[iV x5.1]) rfl rfl rfl rfl rfl (ak))) rfl rc1 rfl (by simpa using Kw.nil)) rfl ?_
    rintro v13 Φ_6 D5 ⟨fr4,h12⟩
    replace h12:OSl (RI .i64) 3 1 Φ_6 [] v13 ([x5.1]:List Int):=by simpa using h12
    replace k4:=k4.f0 fr4
    replace k8:=k8.f0 fr4
    replace k9:=k9.f0 fr4
    replace h10:=h10.f0 fr4
    replace h11:=fr4 _ _ (by simp) h11
    obtain ⟨x6,hx6,h⟩:=bs h
    refine le' (cP RI.lasts RI.one RI.flat aR sP rfl rfl rfl rfl rfl (js:=[6]) (Rr:=[ob v13,[b_3],ob v12,ob v9,ob v10,ob u5,X2,D2,ob u2,X1]) rfl k8 h12.rsl hx6) rfl ?_
    rintro v14 Φ_7 D6 ⟨⟨ap3,fr5⟩,h13⟩
    replace k4:=k4.fr fr5 (ap3.q 8 rfl) (ap3.q 7 rfl)
    replace k9:=k9.fr fr5 (ap3.q 5 rfl) dN
    replace h10:=h10.fr fr5 (ap3.q 2 rfl) (Dj.sub (Dj.app (Dj.sub (Dj.app (ap3.q 9 rfl) (ap3.q 6 rfl)) i2) (Dj.app (Dj.sub (ap3.q 3 rfl) uc) (Dj.sub (ap3.q 4 rfl) uc))) i3)
    replace h11:=fr5 _ _ ((ap3.q 1 rfl) _ (by simp)) h11
    refine lf nL rfl rfl rfl<|so1 1 kO rfl h13.one ?_
    refine art 7 [] rfl ?_
    refine WT.thw (js:=[2]) (R:=[ob v14,ob v13,ob v12,ob v9,ob v10,ob u5,X2,D2,ob u2,X1]) rfl h11 (fun Φ_8 ap4 fr6=>?_)
    replace k4:=k4.fr fr6 (ap4.q 8 rfl) (ap4.q 7 rfl)
    replace h13:=h13.fr fr6 (ap4.q 0 rfl) dN
    replace k9:=k9.fr fr6 (ap4.q 5 rfl) dN
    replace h10:=h10.fr fr6 (ap4.q 2 rfl) (Dj.sub (Dj.app (Dj.sub (Dj.app (ap4.q 9 rfl) (ap4.q 6 rfl)) i2) (Dj.app (Dj.sub (ap4.q 3 rfl) uc) (Dj.sub (ap4.q 4 rfl) uc))) i3)
    refine wtL [(X2++(ob v9++(ob v10))),ob v14,ob v13,ob v12,ob u5,D2,ob u2,X1] (smg [6,3,3] rfl (SP.eq (by simp [List.append_assoc]))) ?_
    exact lb [4,1,0,2,2,1,1] [2,0,1,1] (ih2 (_,_,_,_,_,_,_,_,_,_) ⟨h,h10,(fun k hk=>((List.mem_append.1 (i3 k hk)).elim (fun h=>((List.mem_append.1 (i2 k h)).elim (fun h=>(List.mem_append.2 (.inl h))) (fun h=>(List.mem_append.2 (.inr ((fun k hk=>(List.mem_append.2 (.inl hk))) k h)))))) (fun h=>((List.mem_append.1 h).elim (fun h=>(List.mem_append.2 (.inr ((fun k hk=>(List.mem_append.2 (.inr (List.mem_append.2 (.inl hk))))) k (uc k h))))) (fun h=>(List.mem_append.2 (.inr ((fun k hk=>(List.mem_append.2 (.inr (List.mem_append.2 (.inr hk))))) k (uc k h))))))))),k4,h13,k9⟩)
   refine atr 4 [0,32] rfl ?_
   have rc2:RC (RI .i64) 1 Φ_5 ([[]]:List (List Nat)) [iV x5.1] ([x5.1]:List Int):=RC.cons (c:=[iV x5.1]) (cells:=[]) ⟨rfl,rfl⟩ rfl (RC.nil _ _ _)
   refine le' (cu (vs:=[(0,iV x5.1)]) (C:=#[iV x5.1]) RI.lasts aR o7 rfl rfl rfl rfl (aI mE (ai (C':=[iV x5.1]) rfl rfl rfl rfl rfl (ak))) rfl rc2 rfl (by simpa using Kw.nil)) rfl ?_
   rintro v15 Φ_9 D7 ⟨fr7,h14⟩
   replace h14:OSl (RI .i64) 3 1 Φ_9 [] v15 ([x5.1]:List Int):=by simpa using h14
   replace k4:=k4.f0 fr7
   replace k8:=k8.f0 fr7
   replace k9:=k9.f0 fr7
   replace h10:=h10.f0 fr7
   replace h11:=fr7 _ _ (by simp) h11
   obtain ⟨x7,hx7,h⟩:=bs h
   refine le' (cP RI.lasts RI.one RI.flat aR sP rfl rfl rfl rfl rfl (js:=[5]) (Rr:=[ob v15,[b_3],ob v12,ob v9,ob v10,ob u4,X2,D2,ob u2,X1]) rfl k9 h14.rsl hx7) rfl ?_
   rintro v16 Φ_10 D8 ⟨⟨ap5,fr8⟩,h15⟩
   replace k4:=k4.fr fr8 (ap5.q 8 rfl) (ap5.q 7 rfl)
   replace k8:=k8.fr fr8 (ap5.q 5 rfl) dN
   replace h10:=h10.fr fr8 (ap5.q 2 rfl) (Dj.sub (Dj.app (Dj.sub (Dj.app (ap5.q 9 rfl) (ap5.q 6 rfl)) i2) (Dj.app (Dj.sub (ap5.q 3 rfl) uc) (Dj.sub (ap5.q 4 rfl) uc))) i3)
   replace h11:=fr8 _ _ ((ap5.q 1 rfl) _ (by simp)) h11
   refine lf nQ rfl rfl rfl<|so1 1 kO rfl h15.one ?_
   refine art 7 [] rfl ?_
   refine WT.thw (js:=[2]) (R:=[ob v16,ob v15,ob v12,ob v9,ob v10,ob u4,X2,D2,ob u2,X1]) rfl h11 (fun Φ_11 ap6 fr9=>?_)
   replace k4:=k4.fr fr9 (ap6.q 8 rfl) (ap6.q 7 rfl)
   replace k8:=k8.fr fr9 (ap6.q 5 rfl) dN
   replace h15:=h15.fr fr9 (ap6.q 0 rfl) dN
   replace h10:=h10.fr fr9 (ap6.q 2 rfl) (Dj.sub (Dj.app (Dj.sub (Dj.app (ap6.q 9 rfl) (ap6.q 6 rfl)) i2) (Dj.app (Dj.sub (ap6.q 3 rfl) uc) (Dj.sub (ap6.q 4 rfl) uc))) i3)
   refine wtL [(X2++(ob v9++(ob v10))),ob v16,ob v15,ob v12,ob u4,D2,ob u2,X1] (smg [6,3,3] rfl (SP.eq (by simp [List.append_assoc]))) ?_
   exact lb [1,3,0,2,2,1,1] [2,0,1,1] (ih2 (_,_,_,_,_,_,_,_,_,_) ⟨h,h10,(fun k hk=>((List.mem_append.1 (i3 k hk)).elim (fun h=>((List.mem_append.1 (i2 k h)).elim (fun h=>(List.mem_append.2 (.inl h))) (fun h=>(List.mem_append.2 (.inr ((fun k hk=>(List.mem_append.2 (.inl hk))) k h)))))) (fun h=>((List.mem_append.1 h).elim (fun h=>(List.mem_append.2 (.inr ((fun k hk=>(List.mem_append.2 (.inr (List.mem_append.2 (.inl hk))))) k (uc k h))))) (fun h=>(List.mem_append.2 (.inr ((fun k hk=>(List.mem_append.2 (.inr (List.mem_append.2 (.inr hk))))) k (uc k h))))))))),k4,k8,h15⟩)
  refine atr 5 [1,32,2] rfl ?_
  have rc3:RC aJ 2 Φ_2 ([(ob u5++[])++((ob u4++[]))]:List (List Nat)) [u5,u4] ([(⟨s6,s5⟩:ae)]:List ae):=RC.cons (c:=[u5,u4]) (cells:=[]) ⟨u5,u4,rfl,rfl,k9,k8⟩ rfl (RC.nil _ _ _)
  refine le' (cu (vs:=[(0,.agg [u5,u4].toArray)]) (C:=#[u5,u4]) aJ.lasts th qG rfl rfl rfl rfl (aI FB (ai (C':=[u5,u4]) rfl rfl rfl rfl rfl (ak))) rfl rc3 rfl (RC.kn aJ.knows rc3)) rfl ?_
  rintro v17 Φ_12 D9 ⟨fr10,h16⟩
  replace h16:OSl aJ 149 2 Φ_12 ((ob u5++[])++((ob u4++[]))) v17 ([(⟨s6,s5⟩:ae)]:List ae):=by simpa [List.append_assoc] using h16
  replace k7:=k7.f0 fr10
  replace k4:=k4.f0 fr10
  refine wlL [((ob u5++[])++((ob u4++[]))),ob v17,X2,D2,ob u2,ob u3,X1] (smg [1,1] rfl (SP.eq (by simp [List.append_assoc,bl]))) ?_
  obtain ⟨x8,hx8,h⟩:=bs h
  refine le' (gE aJ.lasts aJ.one th IC rfl rfl rfl rfl rfl (js:=[4]) (Rr:=[((ob u5++[])++((ob u4++[]))),ob v17,X2,D2,ob u3,X1]) rfl k4 h16 (fun ap=>ap.q 3 rfl) (fun ap=>ap.q 0 rfl) hx8) rfl ?_
  rintro v18 Φ_13 D10 ⟨⟨ap7,fr11⟩,h17⟩
  replace k7:=k7.fr fr11 (ap7.q 4 rfl) (Dj.sub (Dj.app (ap7.q 5 rfl) (ap7.q 2 rfl)) i2)
  refine wlL [(D2++((ob u5++[])++((ob u4++[])))),ob v18,ob v17,X2,ob u3,X1] (smg [4,1] rfl (SP.eq (by simp)))<|lf Aj rfl rfl rfl<|so1 1 Iq0 rfl h17.one ?_
  refine art 7 [] rfl<|wtL [(X1++(X2)),(D2++((ob u5++[])++((ob u4++[])))),ob v18,ob v17,ob u3] (smg [5,3] rfl (SP.eq (by simp [List.append_assoc]))) ?_
  exact lb [1,1,2,0] [1,1,1] (ih1 (_,_,_,_,_,_,_,_,_) ⟨h,k7,(fun k hk=>((List.mem_append.1 (i2 k hk)).elim (fun h=>((fun k hk=>(List.mem_append.2 (.inl hk))) k h)) (fun h=>((fun k hk=>(List.mem_append.2 (.inr hk))) k h)))),h17⟩)
 refine atr 4 [2] rfl<|soN 1 Du rfl ⟨k3.one,k4.one,trivial⟩ rfl ?_
 refine en ?_
 refine WT.ret hF (ay.one (bB Hw rfl (fun w1 hw=>hw.rgO (i:=1) rfl 0 2 [u1,u2] rfl) rfl)) (fun w1 hw=>?_)
 cases h
 replace hw:=hw.merge (js:=[3]) (F:=[X1].flatten) rfl (SP.eq (by simp))
 refine bZ (js:=[3,2,1,0]) hw rfl ⟨u1,D1,u2,D2,[X1].flatten,rfl,rfl,k3,(fun k hk=>(List.mem_flatten.2 ⟨X1,by simp,(i1 k hk)⟩)),k4⟩
theorem Fo (w0:af Ψ Φ []) (p0:bc) (p1:bo) (ph0_0:RSl bf 4 Ψ pG0_0 pv0_0 p0.Alphas) (ph0_1:RSl bz 2 Ψ pG0_1 pv0_1 p0.Chains) (ph1_0:RSl cf 5 Ψ pG1_0 pv1_0 p1.Rules) {r:Bool} (h:tb N p0 p1=some r) :
  CB w0 prog 64 [.agg [pv0_0,pv0_1].toArray,.agg [.string p1.Name,pv1_0].toArray] (.bool r):=by
 refine eN func64 rfl ntmps64 rfl w0 fun hF=>?_
 unfold tb at h
 refine sr<|lbx rfl fun b_1=>lbx rfl fun b_2=>art 3 [] rfl<|wm [0,1] [] rfl<|amm 1 [0,2] [0,1] rfl rfl ?_
 obtain ⟨x1,hx1,h⟩:=bs h
 refine on1 1 (mp rfl (kS [0,1]) (pdP rfl (Et N · p1 ph1_0 hx1)) rfl ?_)
 refine amm 1 [2] [0,1] rfl rfl ?_
 refine WM.split (d:=7) rfl (fun c1=>?_) (fun c1=>?_)
 ·replace h:=gV h c1
  refine mqG 3 [6,7,8] rfl (by kernel_rfl) (kN [0,1]) (ao Hw rfl (fun w1 hw=>hw.rgO (i:=1) rfl 0 2 [pv0_0,pv0_1] rfl) rfl) rfl<|mqG 4 [5,6,7,8] rfl (by kernel_rfl) (kN [0,1]) (ao La rfl (fun w1 hw=>hw.rgO (i:=0) rfl 0 2 [.string p1.Name,pv1_0] rfl) rfl) rfl ?_
  obtain ⟨x2,hx2,h⟩:=bs h
  refine WM.one 5 (by kernel_rfl) (mcG rfl (fun _ v Φx D w1 hq hw=>Kn.of Kf.nil (ai2 0 1 rfl rfl) hw) (aY (js:=[]) (R:=[]) KO rfl rfl (fun w1 hw ap hl=>Cc N (ba hw.fro) p1 (ph1_0.y hw.up)  hx2)) rfl ?_)
  rintro v1 Φ_1 F1 ⟨ap1,fr1,v2,D1,v3,D2,X1,rfl,rfl,h1,i1,h2⟩
  obtain ⟨x4,hx3,h⟩:=bs h
  refine on1 6 (mpG rfl (kS [0,1]) (pzP rfl (fun b z=>zi N b p0 x2 (ph0_0.y z) (ph0_1.y z) h1.rsl (h2.rslG aJ.gives) hx3)) rfl ?_)
  refine amm 2 [7,8] [0,1] rfl rfl<|WM.nil (by kernel_rfl) ?_
  exact rt hF h
 replace h:=gZ h c1
 refine mno 3 [6,7,8] rfl (by kernel_rfl) (kn Kf.nil (ai2 0 1 rfl rfl)) rfl (.inl rfl) rfl rfl<|mno 4 [5,6,7,8] rfl (by kernel_rfl) (kn Kf.nil (ai2 0 1 rfl rfl)) rfl (.inl rfl) rfl rfl<|mno 5 [6,7,8] rfl (by kernel_rfl) (kn Kf.nil (ai2 0 1 rfl rfl)) rfl (.inl rfl) rfl rfl<|mno 6 [7,8] rfl (by kernel_rfl) (kn Kf.nil (ai2 0 1 rfl rfl)) rfl (.inl rfl) rfl rfl<|amm 2 [7,8] [0,1] rfl rfl<|WM.nil (by kernel_rfl) ?_
 exact rt hF h
theorem z7 (w0:af Ψ Φ []) (p0:(List ab)) (p1:Int) (p2:Int) (ph0:RSl cD 2 Ψ pG0 pv0 p0) {r:Bool} (h:oF N p0 p1 p2=some r) :
  CB w0 prog 112 [pv0,iV p1,iV p2] (.bool r):=by
 refine eN func112 rfl ntmps112 rfl w0 fun hF=>?_
 unfold oF at h
 refine att 10 [] rfl ?_
 refine lin (σ:=Int) (fun s=>[(0,pv0),(1,iV p1),(2,iV p2),(7,iV s)]) (fun s=>St w0 Φ [] []) (fun m s=>fm N p0 p1 p2 m s=some r) (0) N h (sx [] []) (fun n1 ih1 s hm=>?_)
 revert hm; revert s; intro s1 hm
 have h:fm N p0 p1 p2 (n1+1) s1=some r:=hm
 show WT _ _ [(0,pv0),(1,iV p1),(2,iV p2),(7,iV s1)] (St w0 Φ [] [])
 unfold fm at h
 refine atr 5 [] rfl<|lnr ph0 rfl<|la rfl<|en ?_
 refine ch h rfl ?_ ?_ <;> intro h
 ·refine atr 7 [] rfl ?_
  obtain ⟨x1,hx1,h⟩:=bs h
  obtain ⟨cs1,F1,-,g1,hb1,hs1,r1⟩:=ph0.el (a7 hx1).2.2
  obtain ⟨v1,G1,v2,G2,rfl,rfl,h1,h2⟩:=r1
  refine lia ph0 hx1 rfl<|lf o2 rfl rfl rfl<|lhx 0 0 g1 rfl<|lnr h1 rfl<|arr 3 [] rfl ?_
  obtain ⟨b1,hb_1,h⟩:=bs h
  refine WL.cutN 9 [(31,.bool b1),(0,pv0),(1,iV p1),(2,iV p2),(7,iV s1)] ?_ (fun K=>?_)
  rotate_left
  ·refine sp 22 hb_1 rfl (fun hb_1=>?_) fun hb_1=>?_
   ·refine arr 9 [] rfl ?_
    cases hb_1
    exact ku K
   ·refine arr 2 [] rfl<|ly rfl rfl ?_
    obtain ⟨x2,hx2,hb_1⟩:=bs hb_1
    obtain ⟨cs2,F2,-,g2,hb2,hs2,r2⟩:=ph0.el (a7 hx2).2.2
    obtain ⟨v3,G3,v4,G4,rfl,rfl,h3,h4⟩:=r2
    refine lia ph0 hx2 rfl<|ly rfl rfl<|lf lW rfl rfl rfl<|ly rfl rfl<|lhx 1 0 g2 rfl<|ly rfl rfl<|lnr h4 rfl<|arr 3 [] rfl ?_
    cases hb_1
    exact ku K
  refine en ?_
  refine ch h rfl ?_ ?_ <;> intro h
  ·refine att 4 [] rfl ?_
   exact rt hF h
  refine att 7 [] rfl ?_
  exact lb [] [] (ih1 _ h)
 refine att 5 [] rfl ?_
 exact rt hF h
theorem yQ (w0:af Ψ Φ []) (p0:bc) (p1:aA) (ph0_0:RSl bf 4 Ψ pG0_0 pv0_0 p0.Alphas) (ph0_1:RSl bz 2 Ψ pG0_1 pv0_1 p0.Chains) (ph1_0:RSl dD 1 Ψ pG1_0 pv1_0 p1.Alphas) (ph1_1:RSl fM 1 Ψ pG1_1 pv1_1 p1.Rules) {r:Bool} (h:nt N p0 p1=some r) :
  CB w0 prog 65 [.agg [pv0_0,pv0_1].toArray,.agg [pv1_0,pv1_1].toArray] (.bool r):=by
 refine eN func65 rfl ntmps65 rfl w0 fun hF=>?_
 unfold nt at h
 refine sr<|lbx rfl fun b_1=>lbx rfl fun b_2=>arr 7 [0,0] rfl<|lnr ph1_0 rfl<|arr 2 [0,32] rfl<|lnr ph0_0 rfl<|arr 2 [] rfl ?_
 obtain ⟨b1,hb_1,h⟩:=bs h
 refine WL.cutN 8 [(24,.bool b1),(2,pQ b_1),(3,pQ b_2)] ?_ (fun K=>?_)
 rotate_left
 ·refine sp 16 hb_1 rfl (fun hb_1=>?_) fun hb_1=>?_
  ·refine arr 8 [] rfl ?_
   cases hb_1
   exact ku K
  ·refine arr 2 [1,0] rfl<|ly rfl rfl<|lnr ph1_1 rfl<|arr 2 [1,32] rfl<|ly rfl rfl<|lnr ph0_1 rfl<|arr 2 [] rfl ?_
   cases hb_1
   exact ku K
 refine en ?_
 refine ch h rfl ?_ ?_ <;> intro h
 ·refine att 4 [] rfl ?_
  exact rt hF h
 refine att 7 [] rfl ?_
 refine lin (σ:=Int) (fun s=>[(2,pQ b_1),(3,pQ b_2),(5,iV s)]) (fun s=>St w0 Φ [(b_2,.cells #[pv1_0,pv1_1] 43 (0,0)),(b_1,.cells #[pv0_0,pv0_1] 52 (0,0))] []) (fun m s=>bF N p0 p1 m s=some r) (0) N h (sx [] [0,0]) (fun n1 ih1 s hm=>?_)
 revert hm; revert s; intro s1 hm
 have h:bF N p0 p1 (n1+1) s1=some r:=hm
 show WT _ _ [(2,pQ b_1),(3,pQ b_2),(5,iV s1)] (St w0 Φ [(b_2,.cells #[pv1_0,pv1_1] 43 (0,0)),(b_1,.cells #[pv0_0,pv0_1] 52 (0,0))] [])
 unfold bF at h
 refine atr 6 [1,0] rfl<|lnr ph1_1 rfl<|la rfl<|en ?_
 refine ch h rfl ?_ ?_ <;> intro h
 ·refine atr 8 [1,32] rfl ?_
  obtain ⟨x1,hx1,h⟩:=bs h
  obtain ⟨cs1,F1,-,g1,hb1,hs1,r1⟩:=ph0_1.el (a7 hx1).2.2
  obtain ⟨v1,G1,v2,G2,rfl,rfl,h1,h2⟩:=r1
  refine lia ph0_1 hx1 rfl<|lf nQ rfl rfl rfl<|lhx 0 0 g1 rfl<|lnr h1 rfl<|arr 8 [1,0] rfl ?_
  obtain ⟨x2,hx2,h⟩:=bs h
  obtain ⟨cs2,F2,-,g2,hb2,hs2,r2⟩:=ph1_1.el (a7 hx2).2.2
  obtain ⟨v3,G3,rfl,hq1,h3⟩:=r2
  obtain rfl:=hq1.symm
  refine lia ph1_1 hx2 rfl<|lf jA rfl rfl rfl<|lhx 0 0 g2 rfl<|lnr h3 rfl<|art 3 [] rfl ?_
  refine ch h rfl ?_ ?_ <;> intro h
  ·refine att 4 [] rfl ?_
   exact rt hF h
  refine att 6 [] rfl ?_
  refine lin (σ:=Int) (fun s=>[(2,pQ b_1),(3,pQ b_2),(5,iV s1),(6,iV (x1.Pos.length:Int)),(7,iV s)]) (fun s=>St w0 Φ [(b_2,.cells #[pv1_0,pv1_1] 43 (0,0)),(b_1,.cells #[pv0_0,pv0_1] 52 (0,0))] []) (fun m s=>bV N p0 p1 s1 (bF N p0 p1 n1) x1 m s=some r) (0) N h (sx [] [0,0]) (fun n2 ih2 s hm=>?_)
  revert hm; revert s; intro s2 hm
  have h:bV N p0 p1 s1 (bF N p0 p1 n1) x1 (n2+1) s2=some r:=hm
  show WT _ _ [(2,pQ b_1),(3,pQ b_2),(5,iV s1),(6,iV (x1.Pos.length:Int)),(7,iV s2)] (St w0 Φ [(b_2,.cells #[pv1_0,pv1_1] 43 (0,0)),(b_1,.cells #[pv0_0,pv0_1] 52 (0,0))] [])
  unfold bV at h
  refine att 7 [] rfl ?_
  refine ch h rfl ?_ ?_ <;> intro h
  ·refine att 15 [] rfl ?_
   refine cut (σ:=Int) (fun s=>[(2,pQ b_1),(3,pQ b_2),(5,iV s1),(6,iV (x1.Pos.length:Int)),(7,iV s2),(8,iV s)]) (fun s=>St w0 Φ [(b_2,.cells #[pv1_0,pv1_1] 43 (0,0)),(b_1,.cells #[pv0_0,pv0_1] 52 (0,0))] []) (fun s=>fF N p1 s1 s2 (bV N p0 p1 s1 (bF N p0 p1 n1) x1 n2) s=some r) (fun s hm=>?_) (fun K=>?_)
   ·clear h
    revert hm; revert s; intro s3 hm
    have h:fF N p1 s1 s2 (bV N p0 p1 s1 (bF N p0 p1 n1) x1 n2) s3=some r:=hm
    show WT _ _ [(2,pQ b_1),(3,pQ b_2),(5,iV s1),(6,iV (x1.Pos.length:Int)),(7,iV s2),(8,iV s3)] (St w0 Φ [(b_2,.cells #[pv1_0,pv1_1] 43 (0,0)),(b_1,.cells #[pv0_0,pv0_1] 52 (0,0))] [])
    unfold fF at h
    refine atr 5 [1,0] rfl ?_
    obtain ⟨x3,hx3,h⟩:=bs h
    obtain ⟨cs3,F3,-,g3,hb3,hs3,r3⟩:=ph1_1.el (a7 hx3).2.2
    obtain ⟨v4,G4,rfl,hq2,h4⟩:=r3
    obtain rfl:=hq2.symm
    refine lia ph1_1 hx3 rfl<|lf jA rfl rfl rfl<|lhx 0 0 g3 rfl<|la rfl ?_
    obtain ⟨x4,hx4,h⟩:=bs h
    obtain ⟨cs4,F4,-,g4,hb4,hs4,r4⟩:=h4.el (a7 hx4).2.2
    obtain ⟨v5,G5,rfl,hq3,h5⟩:=r4
    obtain rfl:=hq3.symm
    refine lia h4 hx4 rfl<|lf gg rfl rfl rfl<|lhx 0 0 g4 rfl<|arr 3 [] rfl<|qd h (z7 N · x4.Toks (wz (s2+1)) s3 h5 ·) rfl rfl rfl fun x5 h=>la rfl<|en ?_
    refine ch h rfl ?_ ?_ <;> intro h
    ·refine att 4 [] rfl ?_
     exact rt hF h
    refine att 7 [] rfl ?_
    exact lb [] [0,0] (ih2 _ h)
   refine ch h rfl ?_ ?_ <;> intro h
   ·refine atr 4 [1,32] rfl ?_
    obtain ⟨x6,hx6,h⟩:=bs h
    obtain ⟨cs5,F5,-,g5,hb5,hs5,r5⟩:=ph0_1.el (a7 hx6).2.2
    obtain ⟨v6,G6,v7,G7,rfl,rfl,h6,h7⟩:=r5
    refine lia ph0_1 hx6 rfl<|lf nL rfl rfl rfl<|lhx 1 0 g5 rfl<|lnr h7 rfl<|la rfl<|en ?_
    exact wo [] [0,0] (K _ h)
   refine WT.skip ?_
   exact wo [] [0,0] (K _ h)
  refine att 7 [] rfl ?_
  exact lb [] [0,0] (ih1 _ h)
 refine att 5 [] rfl ?_
 exact rt hF h
theorem CK (w0:af Ψ Φ []) (p0:bo) (p1:bc) (p2:aA) (p3:ah) (p4:Int) (ph0_0:RSl cf 5 Ψ pG0_0 pv0_0 p0.Rules) (ph1_0:RSl bf 4 Ψ pG1_0 pv1_0 p1.Alphas) (ph1_1:RSl bz 2 Ψ pG1_1 pv1_1 p1.Chains) (ph2_0:RSl dD 1 Ψ pG2_0 pv2_0 p2.Alphas) (ph2_1:RSl fM 1 Ψ pG2_1 pv2_1 p2.Rules) (ph3_0:RSl bE 3 Ψ pG3_0 pv3_0 p3.Items) {r:Bool} (h:qL N p0 p1 p2 p3 p4=some r) :
  CB w0 prog 30 [.agg [.string p0.Name,pv0_0].toArray,.agg [pv1_0,pv1_1].toArray,.agg [pv2_0,pv2_1].toArray,.agg [pv3_0,iV p3.Next].toArray,iV p4] (.bool r):=by
 refine eN func30 rfl ntmps30 rfl w0 fun hF=>?_
 unfold qL at h
 refine sr<|lbx rfl fun b_1=>lbx rfl fun b_2=>lbx rfl fun b_3=>lbx rfl fun b_4=>arr 6 [2] rfl<|kab h rfl rfl rfl (fun b z q=>od N b p3 p4 (ph3_0.y z) q) ?_
 rintro x1 h v1 Φ_1 F1 ⟨ap1,fr1,v2,rfl,rfl,h1⟩
 refine arr 3 [] rfl<|lnz kj rfl fun b_5=>soN 0 kL rfl ⟨rfl,h1.one,trivial⟩ rfl ?_
 refine arr 6 [] rfl ?_
 obtain ⟨b1,hb_1,h⟩:=bs h
 refine WL.cutN 3 [(23,.bool b1),(5,pQ b_1),(6,pQ b_2),(7,pQ b_3)] ?_ (fun K=>?_)
 rotate_left
 ·refine sp 20 hb_1 rfl (fun hb_1=>?_) fun hb_1=>?_
  ·refine ly rfl rfl<|ld2 y6 1 rfl<|ly rfl rfl<|qd hb_1 (AT N · p3 ph3_0 ·) rfl rfl rfl fun x2 hb_1=>la rfl ?_
   cases hb_1
   exact ku K
  ·refine arr 3 [] rfl ?_
   cases hb_1
   exact ku K
 refine la rfl ?_
 obtain ⟨b2,hb_2,h⟩:=bs h
 refine WL.cutN 4 [(28,.bool b2),(6,pQ b_2),(7,pQ b_3)] ?_ (fun K=>?_)
 rotate_left
 ·refine sp 24 hb_2 rfl (fun hb_2=>?_) fun hb_2=>?_
  ·refine arr 2 [98,130] rfl<|ly rfl rfl<|qd hb_2 (Fo N · p1 p0 ph1_0 ph1_1 ph0_0 ·) rfl rfl rfl fun x3 hb_2=>la rfl ?_
   cases hb_2
   exact ku K
  ·refine arr 4 [] rfl ?_
   cases hb_2
   exact ku K
 refine la rfl ?_
 obtain ⟨b3,hb_3,h⟩:=bs h
 refine WL.cutN 4 [(33,.bool b3)] ?_ (fun K=>?_)
 rotate_left
 ·refine sp 29 hb_3 rfl (fun hb_3=>?_) fun hb_3=>?_
  ·refine arr 2 [98,66] rfl<|ly rfl rfl<|qd hb_3 (yQ N · p1 p2 ph1_0 ph1_1 ph2_0 ph2_1 ·) rfl rfl rfl fun x4 hb_3=>la rfl ?_
   cases hb_3
   exact ku K
  ·refine arr 4 [] rfl ?_
   cases hb_3
   exact ku K
 refine la rfl<|en ?_
 exact rt hF h
theorem Cy (w0:af Ψ Φ []) (p0:a9) (p1:aw) (ph0_0:RSl az 3 Ψ pG0_0 pv0_0 p0.Consts) (ph0_1:RSl (RI .i64) 1 Ψ pG0_1 pv0_1 p0.At) (ph1_0:RSl az 3 Ψ pG1_0 pv1_0 p1.Fields) {r:Bool} (h:qN N p0 p1=some r) :
  CB w0 prog 66 [.agg [.string p0.Kind,iV p0.N,pv0_0,pv0_1].toArray,.agg [.string p1.Kind,pv1_0].toArray] (.bool r):=by
 refine eN func66 rfl ntmps66 rfl w0 fun hF=>?_
 unfold qN at h
 refine sr<|lbx rfl fun b_1=>lbx rfl fun b_2=>arr 11 [0,32,0,0] rfl ?_
 obtain ⟨b1,hb_1,h⟩:=bs h
 refine WL.cutN 7 [(19,.bool b1),(2,pQ b_1),(3,pQ b_2)] ?_ (fun K=>?_)
 rotate_left
 ·refine sp 12 hb_1 rfl (fun hb_1=>?_) fun hb_1=>?_
  ·refine arr 7 [] rfl ?_
   cases hb_1
   exact ku K
  ·refine arr 4 [1,32,1,0] rfl<|ly rfl rfl<|lnr ph1_0 rfl<|arr 2 [] rfl ?_
   cases hb_1
   exact ku K
 refine en ?_
 refine ch h rfl ?_ ?_ <;> intro h
 ·refine att 4 [] rfl ?_
  exact rt hF h
 refine att 7 [] rfl ?_
 refine lin (σ:=Int) (fun s=>[(2,pQ b_1),(3,pQ b_2),(5,iV s)]) (fun s=>St w0 Φ [(b_2,.cells #[.string p1.Kind,pv1_0] 133 (0,0)),(b_1,.cells #[.string p0.Kind,iV p0.N,pv0_0,pv0_1] 142 (0,0))] []) (fun m s=>hY N p0 p1 m s=some r) (0) N h (sx [] [0,0]) (fun n1 ih1 s hm=>?_)
 revert hm; revert s; intro s1 hm
 have h:hY N p0 p1 (n1+1) s1=some r:=hm
 show WT _ _ [(2,pQ b_1),(3,pQ b_2),(5,iV s1)] (St w0 Φ [(b_2,.cells #[.string p1.Kind,pv1_0] 133 (0,0)),(b_1,.cells #[.string p0.Kind,iV p0.N,pv0_0,pv0_1] 142 (0,0))] [])
 unfold hY at h
 refine atr 6 [3,32] rfl<|lnr ph0_1 rfl<|la rfl<|en ?_
 refine ch h rfl ?_ ?_ <;> intro h
 ·refine atr 8 [3,32] rfl ?_
  obtain ⟨x1,hx1,h⟩:=bs h
  obtain ⟨cs1,F1,-,g1,hb1,hs1,r1⟩:=ph0_1.el (a7 hx1).2.2
  obtain ⟨rfl,-⟩:=r1
  refine lia ph0_1 hx1 rfl<|lhx 0 0 g1 rfl<|art 3 [] rfl<|WT.draw co (by kernel_rfl) (fun _ h=>h.drew)<|aqq 3 [2,32] rfl<|qq (xH ep rfl rfl ph0_0) rfl<|aqq 2 [] rfl ?_
  obtain ⟨b2,hb_2,h⟩:=bs h
  refine WQ.cutN 8 [(45,.bool b2),(2,pQ b_1),(3,pQ b_2),(5,iV s1),(6,iV x1)] ?_ (fun K=>?_)
  rotate_left
  ·refine WQ.split (d:=37) rfl (fun c4=>?_) (fun c4=>?_)
   ·replace hb_2:=gV hb_2 c4
    refine aqq 8 [] rfl ?_
    cases hb_2
    exact kq K
   ·replace hb_2:=gZ hb_2 c4
    refine aqq 3 [1,0] rfl<|WQ.yes rfl rfl<|qq (xH ep rfl rfl ph1_0) rfl<|WQ.yes rfl rfl<|qq (IJ rfl rfl) rfl<|WQ.yes rfl rfl ?_
    obtain ⟨x2,hx2,hb_2⟩:=bs hb_2
    refine qp (bP HC rfl (fun w1 hw=>cp N (ba hw.fro) x1 0 (wz ((p1.Fields.length:Int) - 1)) hx2)) rfl<|aqq 2 [] rfl ?_
    cases hb_2
    exact kq K
  refine qq (iN rfl) rfl ?_
  obtain ⟨b3,hb_3,h⟩:=bs h
  refine WQ.cutN 12 [(58,.bool b3),(2,pQ b_1),(3,pQ b_2),(5,iV s1)] ?_ (fun K=>?_)
  rotate_left
  ·refine WQ.split (d:=46) rfl (fun c5=>?_) (fun c5=>?_)
   ·replace hb_3:=gV hb_3 c5
    refine aqq 12 [] rfl ?_
    cases hb_3
    exact kq K
   ·replace hb_3:=gZ hb_3 c5
    refine aqq 3 [1,0] rfl<|WQ.yes rfl rfl ?_
    obtain ⟨x3,hx3,hb_3⟩:=bs hb_3
    obtain ⟨cs2,F2,-,g2,hb2,hs2,r2⟩:=ph1_0.el (a7 hx3).2.2
    obtain ⟨rfl,-⟩:=r2
    refine qq (a8 ep rfl rfl ph1_0 hx3) rfl<|WQ.yes rfl rfl<|qq (ao iY rfl (fun w1 hw=>(g2.of_eq 0 3 rfl rfl:rg _ _ _ [iV x3.K,iV x3.N,.string x3.S]).rangeAt hw.in0) rfl) rfl<|aqq 3 [2,32] rfl<|WQ.yes rfl rfl ?_
    obtain ⟨x4,hx4,hb_3⟩:=bs hb_3
    obtain ⟨cs3,F3,-,g3,hb3,hs3,r3⟩:=ph0_0.el (a7 hx4).2.2
    obtain ⟨rfl,-⟩:=r3
    refine qq (a8 ep rfl rfl ph0_0 hx4) rfl<|WQ.yes rfl rfl<|qq (ao iY rfl (fun w1 hw=>(g3.of_eq 0 3 rfl rfl:rg _ _ _ [iV x4.K,iV x4.N,.string x4.S]).rangeAt hw.in0) rfl) rfl<|WQ.yes rfl rfl<|qq (xX mK rfl rfl rfl (r:=bp x3 x4) rfl) rfl<|WQ.q (sv rfl rfl) rfl rfl rfl ?_
    cases hb_3
    exact kq K
  refine WQ.nil ?_
  refine ch h rfl ?_ ?_ <;> intro h
  ·refine att 4 [] rfl ?_
   exact rt hF h
  refine att 7 [] rfl ?_
  exact lb [] [0,0] (ih1 _ h)
 refine att 5 [] rfl ?_
 exact rt hF h
theorem Cf (w0:af Ψ Φ []) (p0:(List aH)) (p1:ByteArray) (ph0:RSl bm 4 Ψ pG0 pv0 p0) {r:aL × Bool} (h:sd N p0 p1=some r) :
  CB w0 prog 228 [pv0,.string p1] (.tuple #[.agg [iV r.1.K,iV r.1.N,.string r.1.S].toArray,.bool r.2]):=by
 refine eN func228 rfl ntmps228 rfl w0 fun hF=>?_
 unfold sd at h
 refine sr<|lnz jI rfl fun b_1=>art 8 [] rfl ?_
 refine lin (σ:=Int) (fun s=>[(0,pv0),(1,.string p1),(4,pQ b_1),(6,iV s)]) (fun s=>St w0 Φ [(b_1,.cells #[iV 0,iV 0,.string (⟨#[]⟩:ByteArray)] 193 (0,0))] []) (fun m s=>i8 N p0 p1 m s=some r) (0) N h (sx [] [0]) (fun n1 ih1 s hm=>?_)
 revert hm; revert s; intro s1 hm
 have h:i8 N p0 p1 (n1+1) s1=some r:=hm
 show WT _ _ [(0,pv0),(1,.string p1),(4,pQ b_1),(6,iV s1)] (St w0 Φ [(b_1,.cells #[iV 0,iV 0,.string (⟨#[]⟩:ByteArray)] 193 (0,0))] [])
 unfold i8 at h
 refine atr 5 [] rfl<|lnr ph0 rfl<|la rfl<|en ?_
 refine ch h rfl ?_ ?_ <;> intro h
 ·refine atr 7 [] rfl ?_
  obtain ⟨x1,hx1,h⟩:=bs h
  obtain ⟨cs1,F1,-,g1,hb1,hs1,r1⟩:=ph0.el (a7 hx1).2.2
  obtain ⟨rfl,-⟩:=r1
  refine lia ph0 hx1 rfl<|lf I1 rfl rfl rfl<|lhx 0 0 g1 rfl<|art 3 [] rfl ?_
  refine ch h rfl ?_ ?_ <;> intro h
  ·refine atr 4 [] rfl ?_
   obtain ⟨x2,hx2,h⟩:=bs h
   obtain ⟨cs2,F2,-,g2,hb2,hs2,r2⟩:=ph0.el (a7 hx2).2.2
   obtain ⟨rfl,-⟩:=r2
   refine lia ph0 hx2 rfl<|lf I9 rfl rfl rfl<|lhx 1 3 g2 rfl<|soN 0 rR rfl ⟨rfl,rfl,rfl,trivial⟩ rfl ?_
   refine la rfl<|en ?_
   refine WT.ret hF (ay.two (bB iY rfl (fun w1 hw=>hw.rgO (i:=0) rfl 0 3 [iV x2.V.K,iV x2.V.N,.string x2.V.S] rfl) rfl) rfl) (fun w1 hw=>?_)
   cases h
   exact iZ hw
  refine att 7 [] rfl ?_
  exact lb [] [0] (ih1 _ h)
 refine xt rfl<|sr<|lq (cw (vs:=[]) (C:=#[iV 0,iV 0,.string (⟨#[]⟩:ByteArray)]) za jI rfl (ak)) rfl<|soN 0 rR rfl ⟨rfl,rfl,rfl,trivial⟩ rfl ?_
 refine la rfl<|en ?_
 refine WT.ret hF (ay.two (bB iY rfl (fun w1 hw=>hw.rgO (i:=0) rfl 0 3 [iV 0,iV 0,.string (⟨#[]⟩:ByteArray)] rfl) rfl) rfl) (fun w1 hw=>?_)
 cases h
 exact iZ hw
theorem uh (w0:af Ψ Φ []) (p0:av) (p1:aw) (p2:(List aH)) (ph0_0:RSl bQ 5 Ψ pG0_0 pv0_0 p0.Args) (ph1_0:RSl az 3 Ψ pG1_0 pv1_0 p1.Fields) (ph2:RSl bm 4 Ψ pG2 pv2 p2) {r:(List aH) × Bool} (h:ky N p0 p1 p2=some r) :
  Calls prog 198 [.agg [.string p0.Kind,pv0_0,.bool p0.Not].toArray,.agg [.string p1.Kind,pv1_0].toArray,pv2].toArray w0.w (aQ Φ w0.w [] (fun Φ' Fs v=>∃ (sr_0_0:Value),v = .tuple #[sr_0_0,.bool r.2]∧Fs=[ob sr_0_0]∧OSl bm 271 4 Φ' [] sr_0_0 r.1)):=by
 refine eN func198 rfl ntmps198 rfl w0 fun hF=>?_
 unfold ky at h
 refine sr<|lbx rfl fun b_1=>lbx rfl fun b_2=>arr 5 [] rfl<|le' (io bm.lasts o4 tU rfl rfl) rfl ?_
 rintro v1 Φ_1 D1 ⟨fr1,h1⟩
 refine la rfl<|lu0 ph2 fun h2=>?_
 obtain ⟨x1,hx1,h⟩:=bs h
 refine le' (cP bm.lasts bm.one bm.flat o4 zu rfl rfl rfl rfl rfl (js:=[0]) (Rr:=[]) rfl h1 h2 hx1) rfl ?_
 rintro v2 Φ_2 D2 ⟨⟨ap1,fr2⟩,h3⟩
 refine arr 11 [0,32,0,0] rfl ?_
 obtain ⟨b1,hb_1,h⟩:=bs h
 refine WL.cutN 8 [(29,.bool b1),(2,pv2),(3,pQ b_1),(4,pQ b_2),(8,v2)] ?_ (fun K=>?_)
 rotate_left
 ·refine sp 21 hb_1 rfl (fun hb_1=>?_) fun hb_1=>?_
  ·refine arr 8 [] rfl ?_
   cases hb_1
   exact ku K
  ·refine arr 2 [1,32] rfl<|ly rfl rfl<|lnr ph0_0 rfl<|arr 2 [1,0] rfl<|ly rfl rfl<|lnr ph1_0 rfl<|arr 2 [] rfl ?_
   cases hb_1
   exact ku K
 refine en ?_
 refine ch h rfl ?_ ?_ <;> intro h
 ·refine att 6 [] rfl ?_
  exact rtg [0] hF (ay.two rfl rfl) rfl (by cases h; exact fun w1 hw=>⟨v2,rfl,rfl,h3⟩)
 refine att 7 [] rfl ?_
 refine lin (σ:=Hp × (List aH) × Value × Int) (fun s=>[(2,pv2),(3,pQ b_1),(4,pQ b_2),(8,s.2.2.1),(9,iV s.2.2.2)]) (fun s=>St w0 s.1 [(b_2,.cells #[.string p1.Kind,pv1_0] 133 (0,0)),(b_1,.cells #[.string p0.Kind,pv0_0,.bool p0.Not] 212 (0,0))] [ob s.2.2.1]) (fun m s=>fJ N p0 p1 p2 m s.2.1 s.2.2.2=some r∧(OSl bm 271 4 s.1 [] s.2.2.1 s.2.1)) (Φ_2,x1,v2,0) N ⟨h,h3⟩ (sx [0] [0,0]) (fun n1 ih1 s hm=>?_)
 obtain ⟨Φ_3,s1,u1,s2⟩:=s
 obtain ⟨h,k1⟩:=hm
 dsimp only at h k1 ⊢
 unfold fJ at h
 refine atr 6 [1,32] rfl<|lnr ph0_0 rfl<|la rfl<|en ?_
 refine ch h rfl ?_ ?_ <;> intro h
 ·refine atr 8 [1,32] rfl ?_
  obtain ⟨x2,hx2,h⟩:=bs h
  obtain ⟨cs1,F1,-,g1,hb1,hs1,r1⟩:=ph0_0.el (a7 hx2).2.2
  obtain ⟨rfl,-⟩:=r1
  refine lia ph0_0 hx2 rfl<|lhx 0 5 g1 rfl<|lnz pG rfl fun b_3=>soN 0 qO rfl ⟨rfl,rfl,rfl,rfl,rfl,trivial⟩ rfl ?_
  refine arr 6 [1,0] rfl<|qc h (Cf N · s1 x2.S k1.rsl ·) rfl rfl rfl fun x3 h=>arr 3 [] rfl<|lnz jI rfl fun b_4=>soN 0 rR rfl ⟨rfl,rfl,rfl,trivial⟩ rfl ?_
  refine art 4 [] rfl<|WT.draw co (by kernel_rfl) (fun _ h=>h.drew)<|aqq 4 [0,32] rfl ?_
  obtain ⟨b2,hb_2,h⟩:=bs h
  refine WQ.cutN 9 [(62,.bool b2),(2,pv2),(3,pQ b_1),(4,pQ b_2),(8,u1),(9,iV s2),(10,pQ b_3),(11,pQ b_4),(12,.bool x3.2)] ?_ (fun K=>?_)
  rotate_left
  ·refine WQ.split (d:=53) rfl (fun c4=>?_) (fun c4=>?_)
   ·replace hb_2:=gV hb_2 c4
    refine aqq 5 [2,35,1,64] rfl<|WQ.yes rfl rfl ?_
    obtain ⟨x4,hx4,hb_2⟩:=bs hb_2
    obtain ⟨cs2,F2,-,g2,hb2,hs2,r2⟩:=ph1_0.el (a7 hx4).2.2
    obtain ⟨rfl,-⟩:=r2
    refine qq (a8 ep rfl rfl ph1_0 hx4) rfl<|WQ.yes rfl rfl<|qq (ao iY rfl (fun w1 hw=>(g2.of_eq 0 3 rfl rfl:rg _ _ _ [iV x4.K,iV x4.N,.string x4.S]).rangeAt hw.in0) rfl) rfl<|WQ.yes rfl rfl<|qq (xX mK rfl rfl rfl (r:=bp x2.V x4) rfl) rfl<|WQ.q (tM rfl rfl) rfl rfl rfl ?_
    cases hb_2
    exact kq K
   ·replace hb_2:=gZ hb_2 c4
    refine aqq 9 [] rfl ?_
    cases hb_2
    exact kq K
  refine qq (iN rfl) rfl ?_
  obtain ⟨b3,hb_3,h⟩:=bs h
  refine WQ.cutN 16 [(79,.bool b3),(2,pv2),(3,pQ b_1),(4,pQ b_2),(8,u1),(9,iV s2),(10,pQ b_3),(12,.bool x3.2)] ?_ (fun K=>?_)
  rotate_left
  ·refine WQ.split (d:=63) rfl (fun c5=>?_) (fun c5=>?_)
   ·replace hb_3:=gV hb_3 c5
    refine aqq 16 [] rfl ?_
    cases hb_3
    exact kq K
   ·replace hb_3:=gZ hb_3 c5
    refine aqq 4 [0,32] rfl ?_
    obtain ⟨b4,hb_4,hb_3⟩:=bs hb_3
    refine WQ.cutN 2 [(69,.bool b4),(2,pv2),(3,pQ b_1),(4,pQ b_2),(8,u1),(9,iV s2),(10,pQ b_3),(11,pQ b_4),(12,.bool x3.2),(63,.bool false)] ?_ (fun K=>?_)
    rotate_left
    ·refine WQ.split (d:=67) rfl (fun c6=>?_) (fun c6=>?_)
     ·replace hb_4:=gV hb_4 c6
      refine aqq 2 [] rfl ?_
      cases hb_4
      exact kq K
     ·replace hb_4:=gZ hb_4 c6
      refine aqq 2 [] rfl ?_
      cases hb_4
      exact kq K
    refine WQ.yes rfl rfl<|qq (iN rfl) rfl ?_
    obtain ⟨b5,hb_5,hb_3⟩:=bs hb_3
    refine WQ.cutN 8 [(78,.bool b5),(2,pv2),(3,pQ b_1),(4,pQ b_2),(8,u1),(9,iV s2),(10,pQ b_3),(12,.bool x3.2),(63,.bool false)] ?_ (fun K=>?_)
    rotate_left
    ·refine WQ.split (d:=70) rfl (fun c7=>?_) (fun c7=>?_)
     ·replace hb_5:=gV hb_5 c7
      refine aqq 4 [3,1,64] rfl<|WQ.yes rfl rfl ?_
      obtain ⟨x5,hx5,hb_5⟩:=bs hb_5
      obtain ⟨cs3,F3,-,g3,hb3,hs3,r3⟩:=ph1_0.el (a7 hx5).2.2
      obtain ⟨rfl,-⟩:=r3
      refine qq (a8 ep rfl rfl ph1_0 hx5) rfl<|WQ.yes rfl rfl<|qq (ao iY rfl (fun w1 hw=>(g3.of_eq 0 3 rfl rfl:rg _ _ _ [iV x5.K,iV x5.N,.string x5.S]).rangeAt hw.in0) rfl) rfl<|WQ.yes rfl rfl<|qq (xX mK rfl rfl rfl (r:=bp x3.1 x5) rfl) rfl<|WQ.yes rfl rfl<|WQ.q (tM rfl rfl) rfl rfl rfl ?_
      cases hb_5
      exact kq K
     ·replace hb_5:=gZ hb_5 c7
      refine aqq 8 [] rfl ?_
      cases hb_5
      exact kq K
    refine WQ.q (sv rfl rfl) rfl rfl rfl ?_
    cases hb_3
    exact kq K
  refine WQ.nil ?_
  refine ch h rfl ?_ ?_ <;> intro h
  ·refine sr<|le' (io bm.lasts o4 tU rfl rfl) rfl ?_
   rintro v3 Φ_4 D3 ⟨fr3,h4⟩
   refine la rfl<|lu0 ph2 fun h5=>?_
   obtain ⟨x6,hx6,h⟩:=bs h
   refine le' (cP bm.lasts bm.one bm.flat o4 zu rfl rfl rfl rfl rfl (js:=[0]) (Rr:=[ob u1]) rfl h4 h5 hx6) rfl ?_
   rintro v4 Φ_5 D4 ⟨⟨ap2,fr4⟩,h6⟩
   refine art 3 [] rfl ?_
   exact rtg [0] hF (ay.two rfl rfl) rfl (by cases h; exact fun w1 hw=>⟨v4,rfl,rfl,h6⟩)
  refine atr 7 [0,32] rfl ?_
  obtain ⟨b6,hb_6,h⟩:=bs h
  refine WL.cutN 3 [(89,.bool b6),(2,pv2),(3,pQ b_1),(4,pQ b_2),(8,u1),(9,iV s2),(10,pQ b_3)] ?_ (fun K=>?_)
  rotate_left
  ·refine sp 86 hb_6 rfl (fun hb_6=>?_) fun hb_6=>?_
   ·refine arr 3 [] rfl ?_
    cases hb_6
    exact ku K
   ·refine arr 3 [] rfl ?_
    cases hb_6
    exact ku K
  refine en ?_
  refine ch h rfl ?_ ?_ <;> intro h
  ·refine wm [0,1,2,3] [] rfl<|amm 6 [0,1,1,2,32,3,1,4,64,5] [0,1,2,3] rfl rfl ?_
   obtain ⟨x7,hx7,h⟩:=bs h
   obtain ⟨cs4,F4,-,g4,hb4,hs4,r4⟩:=ph1_0.el (a7 hx7).2.2
   obtain ⟨rfl,-⟩:=r4
   refine mq 6 rfl (by kernel_rfl) (kN [0,1,2,3]) (a8 ep rfl rfl ph1_0 hx7) rfl<|mq 7 rfl (by kernel_rfl) (kN [0,1,2,3]) (ao iY rfl (fun w1 hw=>(g4.of_eq 0 3 rfl rfl:rg _ _ _ [iV x7.K,iV x7.N,.string x7.S]).rangeAt hw.1) rfl) rfl ?_
   refine mq 8 rfl (by kernel_rfl) (kN [0,1,2,3]) (cw (vs:=[(0,.string x2.S),(1,.agg [iV x7.K,iV x7.N,.string x7.S].toArray)]) (C:=#[.string x2.S,iV x7.K,iV x7.N,.string x7.S]) JD tU rfl (ai (C':=[.string x2.S,iV 0,iV 0,.string ⟨#[]⟩]) rfl rfl rfl rfl rfl (ai (C':=[.string x2.S,iV x7.K,iV x7.N,.string x7.S]) rfl rfl rfl rfl rfl (ak)))) rfl ?_
   have rc3:RC bm 4 Φ_3 ([[]]:List (List Nat)) [.string x2.S,iV x7.K,iV x7.N,.string x7.S] ([(⟨x2.S,x7⟩:aH)]:List aH):=RC.cons (c:=[.string x2.S,iV x7.K,iV x7.N,.string x7.S]) (cells:=[]) ⟨rfl,rfl⟩ rfl (RC.nil _ _ _)
   refine WM.one 9 (by kernel_rfl) (me rfl (fun _ v Φx D w1 hq hw=>Kn.of Kf.nil (am [0,1,2,3] rfl) hw) (cu (vs:=[(0,.agg [.string x2.S,iV x7.K,iV x7.N,.string x7.S].toArray)]) (C:=#[.string x2.S,iV x7.K,iV x7.N,.string x7.S]) bm.lasts o4 tU rfl rfl rfl rfl (aI FA (ai (C':=[.string x2.S,iV x7.K,iV x7.N,.string x7.S]) rfl rfl rfl rfl rfl (ak))) rfl rc3 rfl (by simpa using Kw.nil)) rfl ?_)
   rintro v5 Φ_6 D5 ⟨fr5,h7⟩
   replace h7:OSl bm 271 4 Φ_6 [] v5 ([(⟨x2.S,x7⟩:aH)]:List aH):=by simpa using h7
   replace k1:=k1.f0 fr5
   obtain ⟨x8,hx8,h⟩:=bs h
   refine WM.one 10 (by kernel_rfl) (me rfl (fun _ v Φx D w1 hq hw=>Kn.of Kf.nil (am [0,1,2,3] rfl) hw) (cP bm.lasts bm.one bm.flat o4 zu rfl rfl rfl rfl rfl (js:=[1]) (Rr:=[ob v5]) rfl k1 h7.rsl hx8) rfl ?_)
   rintro v6 Φ_7 D6 ⟨⟨ap3,fr6⟩,h8⟩
   refine amm 1 [11] [0,1,2,3] rfl rfl<|WM.nil (by kernel_rfl)<|att 6 [] rfl ?_
   exact lb [0] [2,2] (ih1 (_,_,_,_) ⟨h,h8⟩)
  refine att 7 [] rfl ?_
  exact lb [0] [2,2] (ih1 (_,_,_,_) ⟨h,k1⟩)
 refine att 7 [] rfl ?_
 exact rtg [0] hF (ay.two rfl rfl) rfl (by cases h; exact fun w1 hw=>⟨u1,rfl,rfl,k1⟩)
theorem pF (w0:af Ψ Φ []) (p0:ag) (p1:ah) (p2:(List Int)) (ph0_0:RSl bJ 3 Ψ pG0_0 pv0_0 p0.Pats) (ph0_1:RSl bd 11 Ψ pG0_1 pv0_1 p0.Conds) (ph0_2:RSl dF 5 Ψ pG0_2 pv0_2 p0.Acts) (ph1_0:RSl bE 3 Ψ pG1_0 pv1_0 p1.Items) (ph2:RSl (RI .i64) 1 Ψ pG2 pv2 p2) {r:(List aH) × Bool} (h:iW N p0 p1 p2=some r) :
  Calls prog 163 [.agg [.string p0.Name,iV p0.Sal,pv0_0,pv0_1,pv0_2].toArray,.agg [pv1_0,iV p1.Next].toArray,pv2].toArray w0.w (aQ Φ w0.w [] (fun Φ' Fs v=>∃ (sr_0_0:Value),v = .tuple #[sr_0_0,.bool r.2]∧Fs=[ob sr_0_0]∧OSl bm 271 4 Φ' [] sr_0_0 r.1)):=by
 refine eN func163 rfl ntmps163 rfl w0 fun hF=>?_
 unfold iW at h
 refine sr<|lbx rfl fun b_1=>lbx rfl fun b_2=>arr 5 [] rfl<|le' (io bm.lasts o4 tU rfl rfl) rfl ?_
 rintro v1 Φ_1 D1 ⟨fr1,h1⟩
 refine art 8 [] rfl ?_
 refine lin (σ:=Hp × (List aH) × Value × Int) (fun s=>[(2,pv2),(3,pQ b_1),(4,pQ b_2),(8,s.2.2.1),(9,iV s.2.2.2)]) (fun s=>St w0 s.1 [(b_2,.cells #[pv1_0,iV p1.Next] 57 (0,0)),(b_1,.cells #[.string p0.Name,iV p0.Sal,pv0_0,pv0_1,pv0_2] 148 (0,0))] [ob s.2.2.1]) (fun m s=>eh N p0 p1 p2 m s.2.1 s.2.2.2=some r∧(OSl bm 271 4 s.1 [] s.2.2.1 s.2.1)) (Φ_1,([]:List aH),v1,0) N ⟨h,h1⟩ (sx [0] [0,0]) (fun n1 ih1 s hm=>?_)
 obtain ⟨Φ_2,s1,u1,s2⟩:=s
 obtain ⟨h,k1⟩:=hm
 dsimp only at h k1 ⊢
 unfold eh at h
 refine atr 5 [] rfl<|lnr ph2 rfl<|la rfl<|en ?_
 refine ch h rfl ?_ ?_ <;> intro h
 ·refine att 4 [] rfl ?_
  refine cut (σ:=Hp × Nat × (List aL) × Value × Bool × ByteArray) (fun s=>[(2,pv2),(3,pQ b_1),(4,pQ b_2),(8,u1),(9,iV s2),(10,.pointer (some ⟨s.2.1,0,none⟩)),(11,.bool s.2.2.2.2.1)]) (fun s=>St w0 s.1 [(s.2.1,.cells #[.string s.2.2.2.2.2,s.2.2.2.1] 133 (0,0)),(b_2,.cells #[pv1_0,iV p1.Next] 57 (0,0)),(b_1,.cells #[.string p0.Name,iV p0.Sal,pv0_0,pv0_1,pv0_2] 148 (0,0))] [ob s.2.2.2.1,ob u1]) (fun s=>lx N p0 s1 s2 (eh N p0 p1 p2 n1) s.2.2.1 s.2.2.2.2.1 s.2.2.2.2.2=some r∧(OSl bm 271 4 s.1 [] u1 s1)∧(OSl az 193 3 s.1 [] s.2.2.2.1 s.2.2.1)) (fun s hm=>?_) (fun K=>?_)
  ·clear h
   obtain ⟨Φ_4,b_4,s3,u2,s4,s5⟩:=s
   obtain ⟨h,k1,k2⟩:=hm
   dsimp only at h k1 k2 ⊢
   unfold lx at h
   refine sq<|wm [0,1,2] [] rfl<|amm 3 [0,2,1,64,2] [0,1,2] rfl rfl ?_
   obtain ⟨x3,hx3,h⟩:=bs h
   obtain ⟨cs2,F3,-,g2,hb2,hs2,r2⟩:=ph0_0.el (a7 hx3).2.2
   obtain ⟨v4,G1,rfl,hq1,h3⟩:=r2
   obtain rfl:=hq1.symm
   refine mq 3 rfl (by kernel_rfl) (kN [0,1,2]) (a8 tY rfl rfl ph0_0 hx3) rfl<|mq 4 rfl (by kernel_rfl) (kN [0,1,2]) (ao vU rfl (fun w1 hw=>(g2.of_eq 0 3 rfl rfl:rg _ _ _ [.string x3.Kind,v4,.bool x3.Not]).rangeAt hw.1) rfl) rfl<|amm 2 [5,2,6] [0,1,2] rfl rfl ?_
   obtain ⟨x4,hx4,h⟩:=bs h
   refine WM.one 7 (by kernel_rfl) (mc rfl (fun _ v Φx D w1 hq hw=>Kn.of Kf.nil (ai3 0 1 2 rfl rfl rfl) hw) (aY (js:=[]) (R:=[ob u2,ob u1]) Ho rfl rfl (fun w1 hw ap hl=>uh N (ba hw.fro) x3 (⟨s5,s3⟩:aw) s1 (h3.y hw.up) k2.rsl k1.rsl  hx4)) rfl ?_)
   rintro v5 Φ_5 F4 ⟨ap2,fr3,v6,rfl,rfl,h4⟩
   replace k1:=k1.fr fr3 (ap2.q 1 rfl) dN
   refine amm 5 [8,9,10,11,12] [0,1,2] rfl rfl<|WM.nil (by kernel_rfl)<|atr 6 [] rfl ?_
   obtain ⟨b1,hb_1,h⟩:=bs h
   refine WL.cutN 3 [(46,.bool b1),(2,pv2),(3,pQ b_1),(4,pQ b_2),(8,u1),(9,iV s2),(12,v6)] ?_ (fun K=>?_)
   rotate_left
   ·refine sp 43 hb_1 rfl (fun hb_1=>?_) fun hb_1=>?_
    ·refine arr 3 [] rfl ?_
     cases hb_1
     exact ku K
    ·refine arr 3 [] rfl ?_
     cases hb_1
     exact ku K
   refine en ?_
   refine ch h rfl ?_ ?_ <;> intro h
   ·refine att 6 [] rfl ?_
    exact rtg [2] hF (ay.two rfl rfl) rfl (by cases h; exact fun w1 hw=>⟨u1,rfl,rfl,k1⟩)
   refine att 11 [] rfl ?_
   exact lb [0] [1,1] (ih1 (_,_,_,_) ⟨h,h4⟩)
  refine wm [0,1] [] rfl<|amm 3 [0,2,1,2] [0,1] rfl rfl ?_
  obtain ⟨x5,hx5,h⟩:=bs h
  obtain ⟨cs3,F5,-,g3,hb3,hs3,r3⟩:=ph2.el (a7 hx5).2.2
  obtain ⟨rfl,-⟩:=r3
  refine mq 3 rfl (by kernel_rfl) (kN [0,1]) (a8 aR rfl rfl ph2 hx5) rfl<|mq 4 rfl (by kernel_rfl) (kN [0,1]) (aW vd rfl (fun w1 hw=>(g3.of_eq 0 1 rfl rfl:rg _ _ _ [iV x5]).rangeAt hw.1)) rfl ?_
  refine WM.two 5 9 (by kernel_rfl) ?_ ?_
  ·obtain ⟨x6,hx6,h⟩:=bs h
   refine mc rfl (fun _ v Φx D w1 hq hw=>Kn.of Kf.nil (ai2 0 1 rfl rfl) hw) (aY (js:=[]) (R:=[ob u1]) Jp rfl rfl (fun w1 hw ap hl=>od N (ba hw.fro) p1 x5 (ph1_0.y hw.up)  hx6)) rfl ?_
   rintro v7 Φ_6 F6 ⟨ap3,fr4,v8,rfl,rfl,h5⟩
   replace k1:=k1.fr fr4 (ap3.q 0 rfl) dN
   refine amm 3 [6,7,8] [0,1] rfl rfl ?_
   refine on1 9 (mn rfl (kB [1,2]) (nz kj) rfl (fun b_5=>?_))
   refine on1 10 (msK 0 [1,2] rfl kL rfl ⟨rfl,h5.one,trivial⟩ rfl rfl ?_)
   refine amm 1 [11] [1,2] rfl rfl<|WM.nil (by kernel_rfl) ?_
   exact wo [0,0] [0,0,0] (K (_,_,_,_,_,_) ⟨h,k1,h5⟩)
  refine mn rfl (fun _ b w1 hw=>Kn.of Kf.nil (ai2 1 2 rfl rfl) hw) (nz kj) rfl (fun b_6=>?_)
  obtain ⟨x7,hx7,h⟩:=bs h
  refine WM.one 5 (by kernel_rfl) (mc rfl (fun _ v Φx D w1 hq hw=>Kn.of Kf.nil (ai2 1 2 rfl rfl) hw) (aY (js:=[]) (R:=[ob u1]) Jp rfl rfl (fun w1 hw ap hl=>od N (ba hw.fro) p1 x5 (ph1_0.y hw.up)  hx7)) rfl ?_)
  rintro v9 Φ_7 F7 ⟨ap4,fr5,v10,rfl,rfl,h6⟩
  replace k1:=k1.fr fr5 (ap4.q 0 rfl) dN
  refine amm 3 [6,7,8] [1,2] rfl rfl ?_
  refine on1 10 (msK 0 [1,2] rfl kL rfl ⟨rfl,h6.one,trivial⟩ rfl rfl ?_)
  refine amm 1 [11] [1,2] rfl rfl<|WM.nil (by kernel_rfl) ?_
  exact wo [0,0] [0,0,0] (K (_,_,_,_,_,_) ⟨h,k1,h6⟩)
 refine att 7 [] rfl ?_
 exact rtg [0] hF (ay.two rfl rfl) rfl (by cases h; exact fun w1 hw=>⟨u1,rfl,rfl,k1⟩)
theorem vt (w0:af Ψ Φ []) (p0:ag) (p1:aw) (p2:(List aH)) (ph0_0:RSl bJ 3 Ψ pG0_0 pv0_0 p0.Pats) (ph0_1:RSl bd 11 Ψ pG0_1 pv0_1 p0.Conds) (ph0_2:RSl dF 5 Ψ pG0_2 pv0_2 p0.Acts) (ph1_0:RSl az 3 Ψ pG1_0 pv1_0 p1.Fields) (ph2:RSl bm 4 Ψ pG2 pv2 p2) {r:(List Int)} (h:nC N p0 p1 p2=some r) :
  Calls prog 164 [.agg [.string p0.Name,iV p0.Sal,pv0_0,pv0_1,pv0_2].toArray,.agg [.string p1.Kind,pv1_0].toArray,pv2].toArray w0.w (aQ Φ w0.w [] (fun Φ' Fs v=>∃ (sr_0_0:Value),v=sr_0_0∧Fs=[ob sr_0_0]∧OSl (RI .i64) 3 1 Φ' [] sr_0_0 r)):=by
 refine eN func164 rfl ntmps164 rfl w0 fun hF=>?_
 unfold nC at h
 refine sr<|lbx rfl fun b_1=>lbx rfl fun b_2=>arr 4 [] rfl<|le' (io (R:=RI .i64) RI.lasts aR o7 rfl rfl) rfl ?_
 rintro v1 Φ_1 D1 ⟨fr1,h1⟩
 refine art 8 [] rfl ?_
 refine lin (σ:=Hp × (List Int) × Value × Int) (fun s=>[(2,pv2),(3,pQ b_1),(4,pQ b_2),(7,s.2.2.1),(8,iV s.2.2.2)]) (fun s=>St w0 s.1 [(b_2,.cells #[.string p1.Kind,pv1_0] 133 (0,0)),(b_1,.cells #[.string p0.Name,iV p0.Sal,pv0_0,pv0_1,pv0_2] 148 (0,0))] [ob s.2.2.1]) (fun m s=>de N p0 p1 p2 m s.2.1 s.2.2.2=some r∧(OSl (RI .i64) 3 1 s.1 [] s.2.2.1 s.2.1)) (Φ_1,([]:List Int),v1,0) N ⟨h,h1⟩ (sx [0] [0,0]) (fun n1 ih1 s hm=>?_)
 obtain ⟨Φ_2,s1,u1,s2⟩:=s
 obtain ⟨h,k1⟩:=hm
 dsimp only at h k1 ⊢
 unfold de at h
 refine atr 6 [2,32] rfl<|lnr ph0_0 rfl<|la rfl<|en ?_
 refine ch h rfl ?_ ?_ <;> intro h
 ·refine atr 8 [2,32] rfl ?_
  obtain ⟨x1,hx1,h⟩:=bs h
  obtain ⟨cs1,F1,-,g1,hb1,hs1,r1⟩:=ph0_0.el (a7 hx1).2.2
  obtain ⟨v2,G1,rfl,hq1,h2⟩:=r1
  obtain rfl:=hq1.symm
  refine lia ph0_0 hx1 rfl<|lf lP rfl rfl rfl<|lhx 2 0 g1 rfl<|en ?_
  refine ch h rfl ?_ ?_ <;> intro h
  ·refine sq<|wm [0,1] [] rfl<|amm 3 [0,2,1,32,2] [0,1] rfl rfl ?_
   obtain ⟨x2,hx2,h⟩:=bs h
   obtain ⟨cs2,F2,-,g2,hb2,hs2,r2⟩:=ph0_0.el (a7 hx2).2.2
   obtain ⟨v3,G2,rfl,hq2,h3⟩:=r2
   obtain rfl:=hq2.symm
   refine mq 3 rfl (by kernel_rfl) (kN [0,1]) (a8 tY rfl rfl ph0_0 hx2) rfl<|mq 4 rfl (by kernel_rfl) (kN [0,1]) (ao vU rfl (fun w1 hw=>(g2.of_eq 0 3 rfl rfl:rg _ _ _ [.string x2.Kind,v3,.bool x2.Not]).rangeAt hw.1) rfl) rfl<|amm 2 [5,2,6] [0,1] rfl rfl ?_
   obtain ⟨x3,hx3,h⟩:=bs h
   refine WM.one 7 (by kernel_rfl) (mc rfl (fun _ v Φx D w1 hq hw=>Kn.of Kf.nil (ai2 0 1 rfl rfl) hw) (aY (js:=[]) (R:=[ob u1]) Ho rfl rfl (fun w1 hw ap hl=>uh N (ba hw.fro) x2 p1 p2 (h3.y hw.up) (ph1_0.y hw.up) (ph2.y hw.up)  hx3)) rfl ?_)
   rintro v4 Φ_3 F3 ⟨ap1,fr2,v5,rfl,rfl,h4⟩
   replace k1:=k1.fr fr2 (ap1.q 0 rfl) dN
   refine amm 5 [8,9,10,11,12] [0,1] rfl rfl<|WM.nil (by kernel_rfl)<|att 9 [] rfl ?_
   refine cut (σ:=Int) (fun s=>[(2,pv2),(3,pQ b_1),(4,pQ b_2),(7,u1),(8,iV s2),(11,iV s)]) (fun s=>St w0 Φ_3 [(b_2,.cells #[.string p1.Kind,pv1_0] 133 (0,0)),(b_1,.cells #[.string p0.Name,iV p0.Sal,pv0_0,pv0_1,pv0_2] 148 (0,0))] [ob u1]) (fun s=>hH N s1 s2 (de N p0 p1 p2 n1) s=some r) (fun s hm=>?_) (fun K=>?_)
   ·clear h
    revert hm; revert s; intro s3 hm
    have h:hH N s1 s2 (de N p0 p1 p2 n1) s3=some r:=hm
    show WT _ _ [(2,pv2),(3,pQ b_1),(4,pQ b_2),(7,u1),(8,iV s2),(11,iV s3)] (St w0 Φ_3 [(b_2,.cells #[.string p1.Kind,pv1_0] 133 (0,0)),(b_1,.cells #[.string p0.Name,iV p0.Sal,pv0_0,pv0_1,pv0_2] 148 (0,0))] [ob u1])
    unfold hH at h
    refine atr 3 [] rfl ?_
    have rc2:RC (RI .i64) 1 Φ_3 ([[]]:List (List Nat)) [iV s3] ([s3]:List Int):=RC.cons (c:=[iV s3]) (cells:=[]) ⟨rfl,rfl⟩ rfl (RC.nil _ _ _)
    refine le' (cu (vs:=[(0,iV s3)]) (C:=#[iV s3]) RI.lasts aR o7 rfl rfl rfl rfl (aI mE (ai (C':=[iV s3]) rfl rfl rfl rfl rfl (ak))) rfl rc2 rfl (by simpa using Kw.nil)) rfl ?_
    rintro v6 Φ_4 D2 ⟨fr3,h5⟩
    replace h5:OSl (RI .i64) 3 1 Φ_4 [] v6 ([s3]:List Int):=by simpa using h5
    replace k1:=k1.f0 fr3
    obtain ⟨x4,hx4,h⟩:=bs h
    refine le' (cP RI.lasts RI.one RI.flat aR sP rfl rfl rfl rfl rfl (js:=[1]) (Rr:=[ob v6]) rfl k1 h5.rsl hx4) rfl ?_
    rintro v7 Φ_5 D3 ⟨⟨ap2,fr4⟩,h6⟩
    refine art 8 [] rfl ?_
    exact lb [0] [0,0] (ih1 (_,_,_,_) ⟨h,h6⟩)
   refine ch h rfl ?_ ?_ <;> intro h
   ·refine att 3 [] rfl ?_
    exact wo [1] [0,0] (K _ h)
   refine WT.skip ?_
   exact wo [1] [0,0] (K _ h)
  refine att 7 [] rfl ?_
  exact lb [0] [0,0] (ih1 (_,_,_,_) ⟨h,k1⟩)
 refine att 6 [] rfl ?_
 exact rtg [0] hF (ay.one rfl) rfl (by cases h; exact fun w1 hw=>⟨u1,rfl,rfl,k1⟩)
theorem B5 (w0:af Ψ Φ [ob pv2,pD2].flatten) (p0:ag) (p1:ah) (p2:(List ab)) (p3:aw) (p4:Int) (ph0_0:RSl bJ 3 Ψ pG0_0 pv0_0 p0.Pats) (ph0_1:RSl bd 11 Ψ pG0_1 pv0_1 p0.Conds) (ph0_2:RSl dF 5 Ψ pG0_2 pv0_2 p0.Acts) (ph1_0:RSl bE 3 Ψ pG1_0 pv1_0 p1.Items) (ph2:OSl ax 160 2 Φ pD2 pv2 p2) (ph3_0:RSl az 3 Ψ pG3_0 pv3_0 p3.Fields) {r:(List ab)} (h:oT N p0 p1 p2 p3 p4=some r) :
  Calls prog 113 [.agg [.string p0.Name,iV p0.Sal,pv0_0,pv0_1,pv0_2].toArray,.agg [pv1_0,iV p1.Next].toArray,pv2,.agg [.string p3.Kind,pv3_0].toArray,iV p4].toArray w0.w (aQ Φ w0.w [ob pv2,pD2].flatten (fun Φ' Fs v=>∃ (Do_0_0:List Nat),v = .tuple #[]∧Fs=[ob pv2,Do_0_0]∧OSl ax 160 2 Φ' Do_0_0 pv2 r)):=by
 refine eL func113 rfl ntmps113 rfl (L:=[ob pv2,pD2]) w0 (fun hF=>?_)
 unfold oT at h
 refine sr<|lbx rfl fun b_1=>lbx rfl fun b_2=>lbx rfl fun b_3=>art 6 [] rfl ?_
 refine lin (σ:=Hp × (List ab) × List Nat × Int) (fun s=>[(2,pv2),(4,iV p4),(5,pQ b_1),(6,pQ b_2),(8,pQ b_3),(10,iV s.2.2.2)]) (fun s=>St w0 s.1 [(b_3,.cells #[.string p3.Kind,pv3_0] 133 (0,0)),(b_2,.cells #[pv1_0,iV p1.Next] 57 (0,0)),(b_1,.cells #[.string p0.Name,iV p0.Sal,pv0_0,pv0_1,pv0_2] 148 (0,0))] [ob pv2,s.2.2.1]) (fun m s=>cj N p0 p1 p3 p4 m s.2.1 s.2.2.2=some r∧(OSl ax 160 2 s.1 s.2.2.1 pv2 s.2.1)) (Φ,p2,pD2,0) N ⟨h,ph2⟩ (sx [0,0] [0,0,0]) (fun n1 ih1 s hm=>?_)
 obtain ⟨Φ_1,s1,D1,s2⟩:=s
 obtain ⟨h,k1⟩:=hm
 dsimp only at h k1 ⊢
 unfold cj at h
 refine atr 5 [] rfl<|lno k1 rfl<|la rfl<|en ?_
 refine ch h rfl ?_ ?_ <;> intro h
 ·refine att 4 [] rfl<|WT.mix (Kn w0 Φ_1 (ob pv2) [(b_3,.cells #[.string p3.Kind,pv3_0] 133 (0,0)),(b_2,.cells #[pv1_0,iV p1.Next] 57 (0,0)),(b_1,.cells #[.string p0.Name,iV p0.Sal,pv0_0,pv0_1,pv0_2] 148 (0,0))]) (fun _=>true) co (fun _ h=>h.drew)<|mq 0 rfl (by kernel_rfl) (kn Kf.id (ai3 0 1 2 rfl rfl rfl)) (ao pn rfl (fun w1 hw=>hw.rgO (i:=2) rfl 0 5 [.string p0.Name,iV p0.Sal,pv0_0,pv0_1,pv0_2] rfl) rfl) rfl ?_
  refine mq 1 rfl (by kernel_rfl) (kn Kf.id (ai3 0 1 2 rfl rfl rfl)) (ao y6 rfl (fun w1 hw=>hw.rgO (i:=1) rfl 0 2 [pv1_0,iV p1.Next] rfl) rfl) rfl<|ma 2 rfl (by kernel_rfl) (kn Kf.id (ai3 0 1 2 rfl rfl rfl)) rfl<|ma 3 rfl (by kernel_rfl) (kn Kf.id (ai3 0 1 2 rfl rfl rfl)) rfl ?_
  obtain ⟨x1,hx1,h⟩:=bs h
  obtain ⟨cs1,F1,-,g1,hb1,hs1,r1⟩:=k1.elS (a7 hx1).2.2
  obtain ⟨v1,v2,rfl,rfl,h1,h2⟩:=r1
  have h3:=h1.rsl
  have h4:=h2.rsl
  refine mq 4 rfl (by kernel_rfl) (kn Kf.id (ai3 0 1 2 rfl rfl rfl)) (a8 cg rfl rfl k1.rsl hx1) rfl<|mq 5 rfl (by kernel_rfl) (kn Kf.id (ai3 0 1 2 rfl rfl rfl)) (aB o2 rfl) rfl<|mq 6 rfl (by kernel_rfl) (kn Kf.id (ai3 0 1 2 rfl rfl rfl)) (aW jK rfl (fun w1 hw=>hw.rg hb1 (g1.of_eq 0 1 rfl rfl:rg _ _ _ [v1]))) rfl ?_
  obtain ⟨x2,hx2,h⟩:=bs h
  refine WM.one 7 (by kernel_rfl) (mc rfl (fun _ v Φx D w1 hq hw=>Kn.of (Kf.id.st hq.2.1 (hq.1.r (i:=0) rfl)) (ai3 0 1 2 rfl rfl rfl) hw) (aY (js:=[]) (R:=[ob pv2,D1]) JL rfl rfl (fun w1 hw ap hl=>pF N (ba hw.fro) p0 p1 x1.Ids (ph0_0.y hw.up) (ph0_1.y hw.up) (ph0_2.y hw.up) (ph1_0.y hw.up) h3  hx2)) rfl ?_)
  rintro v3 Φ_2 F2 ⟨ap1,fr1,v4,rfl,rfl,h5⟩
  replace k1:=k1.fr fr1 (ap1.q 0 rfl) (ap1.q 1 rfl)
  have kf1:=(Kf.id (F:=(ob pv2)):Kf Φ_1 _ _).st fr1 (ap1.q 0 rfl)
  refine ma 8 rfl (by kernel_rfl) (kn kf1 (ai3 0 1 2 rfl rfl rfl)) rfl<|ma 9 rfl (by kernel_rfl) (kn kf1 (ai3 0 1 2 rfl rfl rfl)) rfl<|ma 10 rfl (by kernel_rfl) (kn kf1 (ai3 0 1 2 rfl rfl rfl)) rfl<|ma 11 rfl (by kernel_rfl) (kn kf1 (ai3 0 1 2 rfl rfl rfl)) rfl<|ma 12 rfl (by kernel_rfl) (kn kf1 (ai3 0 1 2 rfl rfl rfl)) rfl<|WM.nil (by kernel_rfl)<|atr 5 [69,2] rfl<|kab h rfl rfl rfl (fun b z q=>vt N b p0 p3 x2.1 (ph0_0.y z) (ph0_1.y z) (ph0_2.y z) (ph3_0.y z) h5.rsl q) ?_
  rintro x3 h v5 Φ_3 F3 ⟨ap2,fr2,v6,rfl,rfl,h6⟩
  replace k1:=k1.fr fr2 (ap2.q 1 rfl) (ap2.q 2 rfl)
  refine art 7 [] rfl ?_
  refine lin (σ:=Hp × (List ab) × List Nat × Int) (fun s=>[(2,pv2),(4,iV p4),(5,pQ b_1),(6,pQ b_2),(8,pQ b_3),(10,iV s2),(12,.bool x2.2),(13,v5),(14,iV s.2.2.2)]) (fun s=>St w0 s.1 [(b_3,.cells #[.string p3.Kind,pv3_0] 133 (0,0)),(b_2,.cells #[pv1_0,iV p1.Next] 57 (0,0)),(b_1,.cells #[.string p0.Name,iV p0.Sal,pv0_0,pv0_1,pv0_2] 148 (0,0))] [ob v5,ob pv2,s.2.2.1]) (fun m s=>d8 N p4 s2 (cj N p0 p1 p3 p4 n1) x2 x3 m s.2.1 s.2.2.2=some r∧(OSl ax 160 2 s.1 s.2.2.1 pv2 s.2.1)∧(OSl (RI .i64) 3 1 s.1 [] v5 x3)) (Φ_3,s1,D1,0) N ⟨h,k1,h6⟩ (sx [0,1,1] [0,0,0]) (fun n2 ih2 s hm=>?_)
  obtain ⟨Φ_4,s3,D2,s4⟩:=s
  obtain ⟨h,k2,h6⟩:=hm
  dsimp only at h k2 h6 ⊢
  unfold d8 at h
  refine atr 5 [] rfl<|lno h6 rfl<|arr 2 [] rfl ?_
  obtain ⟨b1,hb_1,h⟩:=bs h
  refine WL.cutN 2 [(42,.bool b1),(2,pv2),(4,iV p4),(5,pQ b_1),(6,pQ b_2),(8,pQ b_3),(10,iV s2),(12,.bool x2.2),(13,v5),(14,iV s4)] ?_ (fun K=>?_)
  rotate_left
  ·refine sp 40 hb_1 rfl (fun hb_1=>?_) fun hb_1=>?_
   ·refine arr 2 [] rfl ?_
    cases hb_1
    exact ku K
   ·refine arr 2 [] rfl ?_
    cases hb_1
    exact ku K
  refine en ?_
  refine ch h rfl ?_ ?_ <;> intro h
  ·refine att 3 [] rfl ?_
   obtain ⟨x4,hx4,h⟩:=bs h
   obtain ⟨cs2,F4,D3,h7,r2,kf1,sp1⟩:=k2.focus hx4
   obtain ⟨v7,v8,rfl,rfl,h8,h9⟩:=r2
   refine wtL [ob v7,ob v8,D3,ob v5,ob pv2] (sre [2] [ob v7,ob v8,D3] rfl (by simpa [List.append_assoc] using sp1))<|WT.mix (Kn w0 Φ_4 (ob pv2++(ob v8++ob v5)) [(b_3,.cells #[.string p3.Kind,pv3_0] 133 (0,0)),(b_2,.cells #[pv1_0,iV p1.Next] 57 (0,0)),(b_1,.cells #[.string p0.Name,iV p0.Sal,pv0_0,pv0_1,pv0_2] 148 (0,0))]) (fun i=>match i with | 22=>false | _=>true) co (fun _ h=>h.drew)<|ma 0 rfl (by kernel_rfl) (kn Kf.id (ai3 0 1 2 rfl rfl rfl)) rfl<|ma 1 rfl (by kernel_rfl) (kn Kf.id (ai3 0 1 2 rfl rfl rfl)) rfl ?_
   refine mq 2 rfl (by kernel_rfl) (kn Kf.id (ai3 0 1 2 rfl rfl rfl)) (dM cg rfl rfl h7 hx4) rfl<|mq 3 rfl (by kernel_rfl) (kn Kf.id (ai3 0 1 2 rfl rfl rfl)) (aB lW rfl) rfl<|mq 4 rfl (by kernel_rfl) (kn Kf.id (ai3 0 1 2 rfl rfl rfl)) (aW jK rfl (fun w1 hw=>hw.rg (List.mem_append.2 (.inl h7.hb)) (h7.rg.of_eq 1 1 rfl rfl:rg _ _ _ [v8]))) rfl<|ma 5 rfl (by kernel_rfl) (kn Kf.id (ai3 0 1 2 rfl rfl rfl)) rfl<|ma 6 rfl (by kernel_rfl) (kn Kf.id (ai3 0 1 2 rfl rfl rfl)) rfl<|ma 7 rfl (by kernel_rfl) (kn Kf.id (ai3 0 1 2 rfl rfl rfl)) rfl ?_
   refine mq 8 rfl (by kernel_rfl) (kn Kf.id (ai3 0 1 2 rfl rfl rfl)) (dM cg rfl rfl h7 hx4) rfl<|mq 9 rfl (by kernel_rfl) (kn Kf.id (ai3 0 1 2 rfl rfl rfl)) (aB lW rfl) rfl<|mq 10 rfl (by kernel_rfl) (kn Kf.id (ai3 0 1 2 rfl rfl rfl)) (aW jK rfl (fun w1 hw=>hw.rg (List.mem_append.2 (.inl h7.hb)) (h7.rg.of_eq 1 1 rfl rfl:rg _ _ _ [v8]))) rfl<|ma 11 rfl (by kernel_rfl) (kn Kf.id (ai3 0 1 2 rfl rfl rfl)) rfl ?_
   obtain ⟨x5,hx5,h⟩:=bs h
   obtain ⟨cs3,F5,-,g2,hb3,hs2,r3⟩:=h9.elS (a7 hx5).2.2
   obtain ⟨rfl,-⟩:=r3
   refine mq 12 rfl (by kernel_rfl) (kn Kf.id (ai3 0 1 2 rfl rfl rfl)) (a8 aR rfl rfl h9.rsl hx5) rfl<|mq 13 rfl (by kernel_rfl) (kn Kf.id (ai3 0 1 2 rfl rfl rfl)) (aW vd rfl (fun w1 hw=>hw.rg (List.mem_append.2 (.inr (List.mem_append.2 (.inl hb3)))) (g2.of_eq 0 1 rfl rfl:rg _ _ _ [iV x5]))) rfl<|ma 14 rfl (by kernel_rfl) (kn Kf.id (ai3 0 1 2 rfl rfl rfl)) rfl<|ma 15 rfl (by kernel_rfl) (kn Kf.id (ai3 0 1 2 rfl rfl rfl)) rfl<|ma 16 rfl (by kernel_rfl) (kn Kf.id (ai3 0 1 2 rfl rfl rfl)) rfl ?_
   obtain ⟨x6,hx6,h⟩:=bs h
   obtain ⟨cs4,F6,-,g3,hb4,hs3,r4⟩:=h6.elS (a7 hx6).2.2
   obtain ⟨rfl,-⟩:=r4
   refine mq 17 rfl (by kernel_rfl) (kn Kf.id (ai3 0 1 2 rfl rfl rfl)) (a8 aR rfl rfl h6.rsl hx6) rfl<|mq 18 rfl (by kernel_rfl) (kn Kf.id (ai3 0 1 2 rfl rfl rfl)) (aW vd rfl (fun w1 hw=>hw.rg (List.mem_append.2 (.inr (List.mem_append.2 (.inr hb4)))) (g3.of_eq 0 1 rfl rfl:rg _ _ _ [iV x6]))) rfl<|ma 19 rfl (by kernel_rfl) (kn Kf.id (ai3 0 1 2 rfl rfl rfl)) rfl<|ma 20 rfl (by kernel_rfl) (kn Kf.id (ai3 0 1 2 rfl rfl rfl)) rfl ?_
   obtain ⟨x7,hx7,h⟩:=bs h
   obtain ⟨cs5,F7,-,g4,hb5,hs4,r5⟩:=h9.elS (a7 hx7).2.2
   obtain ⟨rfl,-⟩:=r5
   refine mq 21 rfl (by kernel_rfl) (kn Kf.id (ai3 0 1 2 rfl rfl rfl)) (a8 aR rfl rfl h9.rsl hx7) rfl ?_
   refine WM.one 22 (by kernel_rfl) (mu rfl (fun hc=>by cases hc) (tS (js:=[1]) (Rr:=[ob v7,D3,ob v5,ob pv2]) (vs:=[iV (wz (x5+(wz (p4*x6))))]) (x':=wz (x5+(wz (p4*x6)))) RI.lasts RI.flat j5 rfl rfl rfl rfl ⟨rfl,trivial⟩ rfl h9 (hP hx7) ⟨rfl,rfl⟩) rfl ?_)
   rintro Φ_5 D4 ⟨⟨ap3,fr3⟩,h10⟩
   replace h7:=h7.fr fr3 (ap3.q 3 rfl) (ap3.q 1 rfl)
   replace h6:=h6.fr fr3 (ap3.q 2 rfl) dN
   replace h8:=h8.fr fr3 (ap3.q 0 rfl) dN
   refine WM.nil (by kernel_rfl)<|att 6 [] rfl ?_
   have r6:ax Φ_5 _ [v7,v8] (⟨x4.Ids,(x4.Hits.set s4.toNat (wz (x5+(wz (p4*x6)))))⟩:ab):=⟨v7,v8,rfl,rfl,h8,h10⟩
   obtain ⟨D5,h11,sp2⟩:=h7.unfocus r6 (ax.knows _ _ _ _ r6)
   refine wtL [D5,ob v5,ob pv2] (smg [1,0,0] rfl (by simpa [List.append_assoc,bl] using sp2)) ?_
   exact lb [1,1,0] [0,0,0] (ih2 (_,_,_,_) ⟨h,h11,h6⟩)
  refine att 7 [] rfl ?_
  exact lb [1,1] [0,0,0] (ih1 (_,_,_,_) ⟨h,k2⟩)
 refine xt rfl ?_
 refine WT.fin hF ay.none (fun w1 hw=>?_)
 cases h
 refine bZ (js:=[0,0]) hw rfl ⟨D1,rfl,rfl,k1⟩
theorem qY (w0:af Ψ Φ [ob pv0,pD0].flatten) (p0:(List ab)) (p1:ag) (p2:ah) (p3:(List Int)) (p4:Int) (ph0:OSl ax 160 2 Φ pD0 pv0 p0) (ph1_0:RSl bJ 3 Ψ pG1_0 pv1_0 p1.Pats) (ph1_1:RSl bd 11 Ψ pG1_1 pv1_1 p1.Conds) (ph1_2:RSl dF 5 Ψ pG1_2 pv1_2 p1.Acts) (ph2_0:RSl bE 3 Ψ pG2_0 pv2_0 p2.Items) (ph3:RSl (RI .i64) 1 Ψ pG3 pv3 p3) {r:(List ab)} (h:kl N p0 p1 p2 p3 p4=some r) :
  Calls prog 114 [pv0,.agg [.string p1.Name,iV p1.Sal,pv1_0,pv1_1,pv1_2].toArray,.agg [pv2_0,iV p2.Next].toArray,pv3,iV p4].toArray w0.w (aQ Φ w0.w [ob pv0,pD0].flatten (fun Φ' Fs v=>∃ (sr_0_0:Value) (Dr_0_0:List Nat),v=sr_0_0∧Fs=[ob sr_0_0,Dr_0_0]∧OSl ax 160 2 Φ' Dr_0_0 sr_0_0 r)):=by
 refine eL func114 rfl ntmps114 rfl (L:=[ob pv0,pD0]) w0 (fun hF=>?_)
 unfold kl at h
 refine sr<|lbx rfl fun b_1=>lbx rfl fun b_2=>arr 4 [] rfl<|le' (io (R:=RI .i64) RI.lasts aR o7 rfl rfl) rfl ?_
 rintro v1 Φ_1 D1 ⟨fr1,h1⟩
 replace ph0:=ph0.f0 fr1
 refine la rfl<|lu0 ph3 fun h2=>?_
 obtain ⟨x1,hx1,h⟩:=bs h
 refine le' (cP RI.lasts RI.one RI.flat aR sP rfl rfl rfl rfl rfl (js:=[0]) (Rr:=[ob pv0,pD0]) rfl h1 h2 hx1) rfl ?_
 rintro v2 Φ_2 D2 ⟨⟨ap1,fr2⟩,h3⟩
 replace ph0:=ph0.fr fr2 (ap1.q 0 rfl) (ap1.q 1 rfl)
 refine la rfl ?_
 have rc2:RC (RI .i64) 1 Φ_2 ([[]]:List (List Nat)) [iV p4] ([p4]:List Int):=RC.cons (c:=[iV p4]) (cells:=[]) ⟨rfl,rfl⟩ rfl (RC.nil _ _ _)
 refine le' (cu (vs:=[(0,iV p4)]) (C:=#[iV p4]) RI.lasts aR o7 rfl rfl rfl rfl (aI mE (ai (C':=[iV p4]) rfl rfl rfl rfl rfl (ak))) rfl rc2 rfl (by simpa using Kw.nil)) rfl ?_
 rintro v3 Φ_3 D3 ⟨fr3,h4⟩
 replace h4:OSl (RI .i64) 3 1 Φ_3 [] v3 ([p4]:List Int):=by simpa using h4
 replace ph0:=ph0.f0 fr3
 replace h3:=h3.f0 fr3
 obtain ⟨x2,hx2,h⟩:=bs h
 refine le' (cP RI.lasts RI.one RI.flat aR sP rfl rfl rfl rfl rfl (js:=[1]) (Rr:=[ob v3,ob pv0,pD0]) rfl h3 h4.rsl hx2) rfl ?_
 rintro v4 Φ_4 D4 ⟨⟨ap2,fr4⟩,h5⟩
 replace ph0:=ph0.fr fr4 (ap2.q 1 rfl) (ap2.q 2 rfl)
 refine arr 7 [37,2] rfl<|kab h rfl rfl rfl (fun b z q=>pF N b p1 p2 x2 (ph1_0.y z) (ph1_1.y z) (ph1_2.y z) (ph2_0.y z) h5.rsl q) ?_
 rintro x3 h v5 Φ_5 F1 ⟨ap3,fr5,v6,rfl,rfl,h6⟩
 replace ph0:=ph0.fr fr5 (ap3.q 2 rfl) (ap3.q 3 rfl)
 replace h5:=h5.fr fr5 (ap3.q 0 rfl) dN
 refine art 12 [] rfl ?_
 refine ch h rfl ?_ ?_ <;> intro h
 ·refine att 5 [] rfl ?_
  exact rtg [3,3] hF (ay.one rfl) rfl (by cases h; exact fun w1 hw=>⟨pv0,pD0,rfl,rfl,ph0⟩)
 refine atr 5 [] rfl<|le' (io (R:=RI .i64) RI.lasts aR o7 rfl rfl) rfl ?_
 rintro v7 Φ_6 D5 ⟨fr6,h7⟩
 replace ph0:=ph0.f0 fr6
 replace h5:=h5.f0 fr6
 refine lq (cw (vs:=[(0,v4),(1,v7)]) (C:=#[v4,v7]) xx eD rfl (ai (C':=[v4,.slice none 0 0]) rfl (cm h5.one) rfl rfl rfl (ai (C':=[v4,v7]) rfl (cm h7.one) rfl rfl rfl (ak)))) rfl ?_
 have rc4:RC ax 2 Φ_6 ([(ob v4++[])++((ob v7++[]))]:List (List Nat)) [v4,v7] ([(⟨x2,([]:List Int)⟩:ab)]:List ab):=RC.cons (c:=[v4,v7]) (cells:=[]) ⟨v4,v7,rfl,rfl,h5,h7⟩ rfl (RC.nil _ _ _)
 refine le' (cu (vs:=[(0,.agg [v4,v7].toArray)]) (C:=#[v4,v7]) ax.lasts cg eD rfl rfl rfl rfl (aI tF (ai (C':=[v4,v7]) rfl rfl rfl rfl rfl (ak))) rfl rc4 rfl (RC.kn ax.knows rc4)) rfl ?_
 rintro v8 Φ_7 D6 ⟨fr7,h8⟩
 replace h8:OSl ax 160 2 Φ_7 ((ob v4++[])++((ob v7++[]))) v8 ([(⟨x2,([]:List Int)⟩:ab)]:List ab):=by simpa [List.append_assoc] using h8
 replace ph0:=ph0.f0 fr7
 refine wlL [((ob v4++[])++((ob v7++[]))),ob v8,ob v6,ob v3,ob pv0,pD0] (smg [3,1] rfl (SP.eq (by simp [List.append_assoc,bl]))) ?_
 obtain ⟨x4,hx4,h⟩:=bs h
 refine le' (gE ax.lasts ax.one cg pC rfl rfl rfl rfl rfl (js:=[4]) (Rr:=[((ob v4++[])++((ob v7++[]))),ob v8,ob v6,ob v3,pD0]) rfl ph0 h8 (fun ap=>ap.q 4 rfl) (fun ap=>ap.q 0 rfl) hx4) rfl ?_
 rintro v9 Φ_8 D7 ⟨⟨ap4,fr8⟩,h9⟩
 refine wlL [(pD0++((ob v4++[])++((ob v7++[])))),ob v9,ob v8,ob v6,ob v3] (smg [5,1] rfl (SP.eq (by simp)))<|la rfl<|en ?_
 exact rtg [1,0] hF (ay.one rfl) rfl (by cases h; exact fun w1 hw=>⟨v9,(pD0++((ob v4++[])++((ob v7++[])))),rfl,rfl,h9⟩)
theorem yc (w0:af Ψ Φ [ob pv2_0].flatten) (p0:ag) (p1:ah) (p2:ab) (ph0_0:RSl bJ 3 Ψ pG0_0 pv0_0 p0.Pats) (ph0_1:RSl bd 11 Ψ pG0_1 pv0_1 p0.Conds) (ph0_2:RSl dF 5 Ψ pG0_2 pv0_2 p0.Acts) (ph1_0:RSl bE 3 Ψ pG1_0 pv1_0 p1.Items) (ph2_0:OSl (RI .i64) 3 1 Φ [] pv2_0 p2.Ids) (ph2_1:RSl (RI .i64) 1 Ψ pG2_1 pv2_1 p2.Hits) {r:ab} (h:mC N p0 p1 p2=some r) :
  Calls prog 115 [.agg [.string p0.Name,iV p0.Sal,pv0_0,pv0_1,pv0_2].toArray,.agg [pv1_0,iV p1.Next].toArray,.agg [pv2_0,pv2_1].toArray].toArray w0.w (aQ Φ w0.w [ob pv2_0].flatten (fun Φ' Fs v=>∃ (sr_0_0:Value) (sr_0_1:Value),v = .agg [sr_0_0,sr_0_1].toArray∧Fs=[ob sr_0_0,ob sr_0_1]∧OSl (RI .i64) 3 1 Φ' [] sr_0_0 r.Ids∧OSl (RI .i64) 3 1 Φ' [] sr_0_1 r.Hits)):=by
 refine eL func115 rfl ntmps115 rfl (L:=[ob pv2_0]) w0 (fun hF=>?_)
 unfold mC at h
 refine sr<|lbx rfl fun b_1=>lbx rfl fun b_2=>lbx rfl fun b_3=>lnz eD rfl fun b_4=>arr 7 [101,66,0,32] rfl<|kab h rfl rfl rfl (fun b z q=>pF N b p0 p1 p2.Ids (ph0_0.y z) (ph0_1.y z) (ph0_2.y z) (ph1_0.y z) ph2_0.rsl q) ?_
 rintro x1 h v1 Φ_1 F1 ⟨ap1,fr1,v2,rfl,rfl,h1⟩
 replace ph2_0:=ph2_0.fr fr1 (ap1.q 0 rfl) dN
 refine art 7 [] rfl<|wm [0,1,2,3] [8] rfl<|amm 2 [0,2,1,96] [0,1,2,3] rfl rfl<|mq 2 rfl (by kernel_rfl) (kN [0,1,2,3]) (xH tY rfl rfl ph0_0) rfl<|amm 1 [3,101] [0,1,2,3] rfl rfl ?_
 obtain ⟨x2,hx2,h⟩:=bs h
 refine on1 4 (mp rfl (kS [0,1,2,3]) (pdP rfl (uf N · p0 ph0_0 ph0_1 ph0_2 hx2)) rfl ?_)
 refine amm 1 [5] [0,1,2,3] rfl rfl ?_
 obtain ⟨x3,hx3,h⟩:=bs h
 refine WM.one 6 (by kernel_rfl) (me rfl (fun _ v Φx D w1 hq hw=>Kn.of Kf.nil (am [0,1,2,3] rfl) hw) (kM (R:=(RI .i64)) aR o7 NP rfl rfl rfl (fun _=>⟨rfl,rfl⟩) rfl rfl (Int.le_refl _) hx3 (pL hx3)) rfl ?_)
 rintro v3 Φ_2 D1 ⟨fr2,h2⟩
 replace ph2_0:=ph2_0.f0 fr2
 replace h1:=h1.f0 fr2
 refine amm 1 [7,1] [0,1,2,3] rfl rfl ?_
 refine on1 8 (ms1 1 rfl nk kO rfl h2.one ?_)
 refine WM.nil (by kernel_rfl)<|att 6 [] rfl ?_
 refine lin (σ:=Hp × (List Int) × Int) (fun s=>[(3,pQ b_1),(4,pQ b_2),(5,pQ b_3),(6,pQ b_4),(7,v2),(9,iV s.2.2)]) (fun s=>St w0 s.1 [(b_4,.cells #[.slice none 0 0,.slice none 0 0] 160 (0,0)),(b_3,.cells #[pv2_0,v3] 160 (0,0)),(b_2,.cells #[pv1_0,iV p1.Next] 57 (0,0)),(b_1,.cells #[.string p0.Name,iV p0.Sal,pv0_0,pv0_1,pv0_2] 148 (0,0))] [ob v3,ob v2,ob pv2_0]) (fun m s=>cN N p0 p1 p2 x1 m s.2.1 s.2.2=some r∧(OSl (RI .i64) 3 1 s.1 [] pv2_0 p2.Ids)∧(OSl bm 271 4 s.1 [] v2 x1.1)∧(OSl (RI .i64) 3 1 s.1 [] v3 s.2.1)) (Φ_2,x3,0) N ⟨h,ph2_0,h1,h2⟩ (sx [0,0,0] [0,0,0,0]) (fun n1 ih1 s hm=>?_)
 obtain ⟨Φ_3,s1,s2⟩:=s
 obtain ⟨h,ph2_0,h1,k1⟩:=hm
 dsimp only at h ph2_0 h1 k1 ⊢
 unfold cN at h
 refine atr 6 [0,64] rfl<|lnr ph1_0 rfl<|la rfl<|en ?_
 refine ch h rfl ?_ ?_ <;> intro h
 ·refine att 4 [] rfl<|wm [0,1,2,3] [] rfl<|amm 4 [0,101,1,0,2,64,3] [0,1,2,3] rfl rfl ?_
  obtain ⟨x4,hx4,h⟩:=bs h
  obtain ⟨cs1,F2,-,g1,hb1,hs1,r1⟩:=ph1_0.el (a7 hx4).2.2
  obtain ⟨v4,G1,rfl,hq1,h3⟩:=r1
  obtain rfl:=hq1.symm
  refine mq 4 rfl (by kernel_rfl) (kN [0,1,2,3]) (a8 xR rfl rfl ph1_0 hx4) rfl<|amm 1 [5,1] [0,1,2,3] rfl rfl<|mq 6 rfl (by kernel_rfl) (kN [0,1,2,3]) (ao pq rfl (fun w1 hw=>(g1.of_eq 1 2 rfl rfl:rg _ _ _ [.string x4.F.Kind,v4]).rangeAt hw.1) rfl) rfl<|amm 1 [7] [0,1,2,3] rfl rfl ?_
  obtain ⟨x5,hx5,h⟩:=bs h
  refine WM.one 8 (by kernel_rfl) (mc rfl (fun _ v Φx D w1 hq hw=>Kn.of Kf.nil (am [0,1,2,3] rfl) hw) (aY (js:=[]) (R:=[ob v3,ob v2,ob pv2_0]) Kv rfl rfl (fun w1 hw ap hl=>vt N (ba hw.fro) p0 x4.F x1.1 (ph0_0.y hw.up) (ph0_1.y hw.up) (ph0_2.y hw.up) (h3.y hw.up) h1.rsl  hx5)) rfl ?_)
  rintro v5 Φ_4 F3 ⟨ap2,fr3,v6,rfl,rfl,h4⟩
  replace ph2_0:=ph2_0.fr fr3 (ap2.q 2 rfl) dN
  replace h1:=h1.fr fr3 (ap2.q 1 rfl) dN
  replace k1:=k1.fr fr3 (ap2.q 0 rfl) dN
  refine amm 1 [9] [0,1,2,3] rfl rfl<|WM.nil (by kernel_rfl)<|att 5 [] rfl ?_
  refine lin (σ:=Hp × (List Int) × Int) (fun s=>[(3,pQ b_1),(4,pQ b_2),(5,pQ b_3),(6,pQ b_4),(7,v2),(9,iV s2),(10,v5),(11,iV s.2.2)]) (fun s=>St w0 s.1 [(b_4,.cells #[.slice none 0 0,.slice none 0 0] 160 (0,0)),(b_3,.cells #[pv2_0,v3] 160 (0,0)),(b_2,.cells #[pv1_0,iV p1.Next] 57 (0,0)),(b_1,.cells #[.string p0.Name,iV p0.Sal,pv0_0,pv0_1,pv0_2] 148 (0,0))] [ob v5,ob v3,ob v2,ob pv2_0]) (fun m s=>ek N s2 (cN N p0 p1 p2 x1 n1) x5 m s.2.1 s.2.2=some r∧(OSl (RI .i64) 3 1 s.1 [] pv2_0 p2.Ids)∧(OSl bm 271 4 s.1 [] v2 x1.1)∧(OSl (RI .i64) 3 1 s.1 [] v3 s.2.1)∧(OSl (RI .i64) 3 1 s.1 [] v5 x5)) (Φ_4,s1,0) N ⟨h,ph2_0,h1,k1,h4⟩ (sx [0,0,0,0] [0,0,0,0]) (fun n2 ih2 s hm=>?_)
  obtain ⟨Φ_5,s3,s4⟩:=s
  obtain ⟨h,ph2_0,h1,k2,h4⟩:=hm
  dsimp only at h ph2_0 h1 k2 h4 ⊢
  unfold ek at h
  refine atr 5 [] rfl<|lno h4 rfl<|la rfl<|en ?_
  refine ch h rfl ?_ ?_ <;> intro h
  ·refine att 3 [] rfl<|WT.mix (Kn w0 Φ_5 (ob v3++ob v5) [(b_4,.cells #[.slice none 0 0,.slice none 0 0] 160 (0,0)),(b_3,.cells #[pv2_0,v3] 160 (0,0)),(b_2,.cells #[pv1_0,iV p1.Next] 57 (0,0)),(b_1,.cells #[.string p0.Name,iV p0.Sal,pv0_0,pv0_1,pv0_2] 148 (0,0))]) (fun i=>match i with | 14=>false | _=>true) co (fun _ h=>h.drew)<|mq 0 rfl (by kernel_rfl) (kn Kf.id (am [0,1,2,3] rfl)) (aB lW rfl) rfl<|mq 1 rfl (by kernel_rfl) (kn Kf.id (am [0,1,2,3] rfl)) (aW jK rfl (fun w1 hw=>hw.rgO (i:=1) rfl 1 1 [v3] rfl)) rfl ?_
   refine ma 2 rfl (by kernel_rfl) (kn Kf.id (am [0,1,2,3] rfl)) rfl<|mq 3 rfl (by kernel_rfl) (kn Kf.id (am [0,1,2,3] rfl)) (aB lW rfl) rfl<|mq 4 rfl (by kernel_rfl) (kn Kf.id (am [0,1,2,3] rfl)) (aW jK rfl (fun w1 hw=>hw.rgO (i:=1) rfl 1 1 [v3] rfl)) rfl<|ma 5 rfl (by kernel_rfl) (kn Kf.id (am [0,1,2,3] rfl)) rfl ?_
   obtain ⟨x6,hx6,h⟩:=bs h
   obtain ⟨cs2,F4,-,g2,hb2,hs2,r2⟩:=k2.elS (a7 hx6).2.2
   obtain ⟨rfl,-⟩:=r2
   refine mq 6 rfl (by kernel_rfl) (kn Kf.id (am [0,1,2,3] rfl)) (a8 aR rfl rfl k2.rsl hx6) rfl<|mq 7 rfl (by kernel_rfl) (kn Kf.id (am [0,1,2,3] rfl)) (aW vd rfl (fun w1 hw=>hw.rg (List.mem_append.2 (.inl hb2)) (g2.of_eq 0 1 rfl rfl:rg _ _ _ [iV x6]))) rfl<|ma 8 rfl (by kernel_rfl) (kn Kf.id (am [0,1,2,3] rfl)) rfl<|ma 9 rfl (by kernel_rfl) (kn Kf.id (am [0,1,2,3] rfl)) rfl ?_
   obtain ⟨x7,hx7,h⟩:=bs h
   obtain ⟨cs3,F5,-,g3,hb3,hs3,r3⟩:=h4.elS (a7 hx7).2.2
   obtain ⟨rfl,-⟩:=r3
   refine mq 10 rfl (by kernel_rfl) (kn Kf.id (am [0,1,2,3] rfl)) (a8 aR rfl rfl h4.rsl hx7) rfl<|mq 11 rfl (by kernel_rfl) (kn Kf.id (am [0,1,2,3] rfl)) (aW vd rfl (fun w1 hw=>hw.rg (List.mem_append.2 (.inr hb3)) (g3.of_eq 0 1 rfl rfl:rg _ _ _ [iV x7]))) rfl<|ma 12 rfl (by kernel_rfl) (kn Kf.id (am [0,1,2,3] rfl)) rfl ?_
   obtain ⟨x8,hx8,h⟩:=bs h
   obtain ⟨cs4,F6,-,g4,hb4,hs4,r4⟩:=k2.elS (a7 hx8).2.2
   obtain ⟨rfl,-⟩:=r4
   refine mq 13 rfl (by kernel_rfl) (kn Kf.id (am [0,1,2,3] rfl)) (a8 aR rfl rfl k2.rsl hx8) rfl ?_
   refine WM.one 14 (by kernel_rfl) (mu rfl (fun hc=>by cases hc) (tS (js:=[1]) (Rr:=[ob v5,ob v2,ob pv2_0]) (vs:=[iV (wz (x6+x7))]) (x':=wz (x6+x7)) RI.lasts RI.flat j5 rfl rfl rfl rfl ⟨rfl,trivial⟩ rfl k2 (hP hx8) ⟨rfl,rfl⟩) rfl ?_)
   rintro Φ_6 D2 ⟨⟨ap3,fr4⟩,h5⟩
   replace ph2_0:=ph2_0.fr fr4 (ap3.q 2 rfl) dN
   replace h1:=h1.fr fr4 (ap3.q 1 rfl) dN
   replace h4:=h4.fr fr4 (ap3.q 0 rfl) dN
   refine WM.nil (by kernel_rfl)<|att 6 [] rfl ?_
   exact lb [1,0,0,0] [0,0,0,0] (ih2 (_,_,_) ⟨h,ph2_0,h1,h5,h4⟩)
  refine att 7 [] rfl ?_
  exact lb [1,1,1] [0,0,0,0] (ih1 (_,_,_) ⟨h,ph2_0,h1,k2⟩)
 refine atr 4 [34] rfl<|soN 0 sO rfl ⟨ph2_0.one,k1.one,trivial⟩ rfl ?_
 refine en ?_
 exact rtg [2,0] hF (ay.one (bB zM rfl (fun w1 hw=>hw.rgO (i:=0) rfl 0 2 [pv2_0,v3] rfl) rfl)) rfl (by cases h; exact fun w1 hw=>⟨pv2_0,v3,rfl,rfl,ph2_0,k1⟩)
end Go.Proofs.YtnnkgijdbebnaaaGreat
