/- Printed by a program of ours: each Go function computes its Lean function. -/
import Derived.Test.YtinomobmcjnfjaaGreatProg
import Derived.Test.YtinomobmcjnfjaaGreatWKeptWalk4
namespace Go.Proofs.YtinomobmcjnfjaaGreat
open Eng Tryz
open Go.RowKit (Below)
set_option linter.unusedVariables false
set_option linter.unusedSimpArgs false

set_option maxRecDepth 100000
set_option maxHeartbeats 1000000
variable {Ψ Φ:Hp} {pv0 pv0_0 pv0_1 pv1_0 pv1_1 pv0_2:Value} {pG0 pG0_0 pG0_1 pG1_0 pG1_1 pG0_2:List Nat} {pb0:Nat} (N:Nat)
theorem rE (w0:aw Ψ Φ []) (p0:(List af)) (ph0:RSl eF 2 Ψ pG0 pv0 p0) {r:(List af)} (h:hH N p0=some r) :
  Calls prog 52 [pv0].toArray w0.w (bg Φ w0.w [] (fun Φ' Fs v=>∃ (sr_0_0:Value) (Dr_0_0:List Nat),v=sr_0_0∧Fs=[ob sr_0_0,Dr_0_0]∧OSl aq 103 2 Φ' Dr_0_0 sr_0_0 r)):=by
 refine eN func52 rfl ntmps52 rfl w0 fun hF=>?_
 unfold hH at h
 refine atr 6 [] rfl ?_
 have rc1:RC aq 2 Φ ([]:List (List Nat)) [] ([]:List af):=RC.nil _ _ _
 refine le' (aY (vs:=[]) (C:=#[]) aq.lasts cM dJ rfl rfl rfl rfl (ag oA (aa)) rfl rc1 rfl (by simpa using Kw.nil)) rfl ?_
 rintro v1 Φ_1 D1 ⟨fr1,h1⟩
 replace h1:OSl aq 103 2 Φ_1 [] v1 ([]:List af):=by simpa [List.append_assoc] using h1
 refine WL.conv (S':=St w0 Φ_1 [] [[],ob v1]) (fun w1 hw=>hw.addNil)<|art 8 [] rfl ?_
 refine lin (σ:=Hp × (List af) × Value × List Nat × Int) (fun s=>[(0,pv0),(3,s.2.2.1),(4,iV s.2.2.2.2)]) (fun s=>St w0 s.1 [] [s.2.2.2.1,ob s.2.2.1]) (fun m s=>cu N p0 m s.2.1 s.2.2.2.2=some r∧(OSl aq 103 2 s.1 s.2.2.2.1 s.2.2.1 s.2.1)) (Φ_1,([]:List af),v1,[],0) N ⟨h,h1⟩ (sx [0,0] []) (fun n1 ih1 s hm=>?_)
 obtain ⟨Φ_2,s1,u1,D2,s2⟩:=s
 obtain ⟨h,k1⟩:=hm
 dsimp only at h k1 ⊢
 unfold cu at h
 refine atr 5 [] rfl<|lnr ph0 rfl<|la rfl<|en ?_
 refine ch h rfl ?_ ?_ <;> intro h
 ·refine att 3 [] rfl ?_
  refine cut (σ:=Hp × (List af) × Value × List Nat) (fun s=>[(0,pv0),(3,s.2.2.1),(4,iV s2)]) (fun s=>St w0 s.1 [] [s.2.2.2,ob s.2.2.1]) (fun s=>gU N s2 (cu N p0 n1) s.2.1=some r∧(OSl aq 103 2 s.1 s.2.2.2 s.2.2.1 s.2.1)) (fun s hm=>?_) (fun K=>?_)
  ·clear h
   obtain ⟨Φ_9,s3,u2,D9⟩:=s
   obtain ⟨h,k2⟩:=hm
   dsimp only at h k2 ⊢
   unfold gU at h
   refine att 6 [] rfl ?_
   exact lb [0,0] [] (ih1 (_,_,_,_,_) ⟨h,k2⟩)
  refine wm [] [] rfl<|amm 3 [0,2,3] [] rfl rfl ?_
  obtain ⟨x6,hx6,h⟩:=bs h
  obtain ⟨cs3,F3,-,g3,hb3,hs3,r3⟩:=ph0.el (a9 hx6).2.2
  obtain ⟨v12,G5,v13,G6,rfl,rfl,h14,h15⟩:=r3
  refine mq 4 rfl (by kernel_rfl) (kN []) (ac cM rfl rfl ph0 hx6) rfl<|amm 1 [5,0] [] rfl rfl<|mq 6 rfl (by kernel_rfl) (kN []) (au iz rfl (fun w1 hw=>(g3.of_eq 0 1 rfl rfl:rg _ _ _ [v12]).rangeAt hw.1)) rfl<|amm 2 [9,10] [] rfl rfl ?_
  obtain ⟨x7,hx7,h⟩:=bs h
  obtain ⟨cs4,F4,-,g4,hb4,hs4,r4⟩:=ph0.el (a9 hx7).2.2
  obtain ⟨v14,G7,v15,G8,rfl,rfl,h16,h17⟩:=r4
  refine mq 11 rfl (by kernel_rfl) (kN []) (ac cM rfl rfl ph0 hx7) rfl<|amm 1 [12,1] [] rfl rfl<|mq 13 rfl (by kernel_rfl) (kN []) (au iz rfl (fun w1 hw=>(g4.of_eq 1 1 rfl rfl:rg _ _ _ [v15]).rangeAt hw.1)) rfl ?_
  refine WM.two 1 8 (by kernel_rfl) ?_ ?_
  ·refine me rfl (fun _ v Φx D w1 hq hw=>Kn.of Kf.nil aN hw) (dI (R:=RI .i64) RI.lasts aW gB rfl rfl) rfl ?_
   rintro v16 Φ_10 D10 ⟨fr8,h18⟩
   replace k1:=k1.f0 fr8
   refine WM.two 7 8 (by kernel_rfl) ?_ ?_
   ·first | refine mu0 h14 fun h19=>?_ | refine iu0 h14 fun h19=>?_
    obtain ⟨x8,hx8,h⟩:=bs h
    refine me rfl (fun _ v Φx D w1 hq hw=>Kn.of Kf.nil aN hw) (bB RI.lasts RI.one RI.flat aW jw rfl rfl rfl rfl rfl (js:=[0]) (Rr:=[D2,ob u1]) rfl h18 h19 hx8) rfl ?_
    rintro v17 Φ_11 D11 ⟨⟨ap4,fr9⟩,h20⟩
    replace k1:=k1.fr fr9 (ap4.q 1 rfl) (ap4.q 0 rfl)
    refine WM.one 8 (by kernel_rfl) (me rfl (fun _ v Φx D w1 hq hw=>Kn.of Kf.nil aN hw) (dI (R:=RI .i64) RI.lasts aW gB rfl rfl) rfl ?_)
    rintro v18 Φ_12 D12 ⟨fr10,h21⟩
    replace k1:=k1.f0 fr10
    replace h20:=h20.f0 fr10
    first | refine mu0 h17 fun h22=>?_ | refine iu0 h17 fun h22=>?_
    obtain ⟨x9,hx9,h⟩:=bs h
    refine WM.one 14 (by kernel_rfl) (me rfl (fun _ v Φx D w1 hq hw=>Kn.of Kf.nil aN hw) (bB RI.lasts RI.one RI.flat aW jw rfl rfl rfl rfl rfl (js:=[0]) (Rr:=[ob v17,D2,ob u1]) rfl h21 h22 hx9) rfl ?_)
    rintro v19 Φ_13 D13 ⟨⟨ap5,fr11⟩,h23⟩
    replace k1:=k1.fr fr11 (ap5.q 2 rfl) (ap5.q 1 rfl)
    replace h20:=h20.fr fr11 (ap5.q 0 rfl) dN
    refine mq 15 rfl (by kernel_rfl) (kN []) (aQ (vs:=[(0,v17),(1,v19)]) (C:=#[v17,v19]) rH dJ rfl (a7 (C':=[v17,.slice none 0 0]) rfl (bt h20.one) rfl rfl rfl (a7 (C':=[v17,v19]) rfl (bt h23.one) rfl rfl rfl (aa)))) rfl ?_
    have rc7:RC aq 2 Φ_13 ([(ob v17++[])++((ob v19++[]))]:List (List Nat)) [v17,v19] ([(⟨x8,x9⟩:af)]:List af):=RC.cons (c:=[v17,v19]) (cells:=[]) ⟨v17,v19,rfl,rfl,h20,h23⟩ rfl (RC.nil _ _ _)
    refine WM.one 16 (by kernel_rfl) (me rfl (fun _ v Φx D w1 hq hw=>Kn.of Kf.nil aN hw) (aY (vs:=[(0,.agg [v17,v19].toArray)]) (C:=#[v17,v19]) aq.lasts cM dJ rfl rfl rfl rfl (ag lT (a7 (C':=[v17,v19]) rfl rfl rfl rfl rfl (aa))) rfl rc7 rfl (RC.kn aq.knows rc7)) rfl ?_)
    rintro v20 Φ_14 D14 ⟨fr12,h24⟩
    replace h24:OSl aq 103 2 Φ_14 ((ob v17++[])++((ob v19++[]))) v20 ([(⟨x8,x9⟩:af)]:List af):=by simpa [List.append_assoc] using h24
    replace k1:=k1.f0 fr12
    refine WM.conv (S':=St w0 Φ_14 [] [((ob v17++[])++((ob v19++[]))),ob v20,D2,ob u1]) (fun w1 hw=>hw.merge (js:=[2,1]) rfl (SP.eq (by simp [List.append_assoc,bv]))) ?_
    obtain ⟨x10,hx10,h⟩:=bs h
    refine WM.one 17 (by kernel_rfl) (me rfl (fun _ v Φx D w1 hq hw=>Kn.of Kf.nil aN hw) (bU aq.lasts aq.one cM km rfl rfl rfl rfl rfl (js:=[3]) (Rr:=[((ob v17++[])++((ob v19++[]))),ob v20,D2]) rfl k1 h24 (fun ap=>ap.q 2 rfl) (fun ap=>ap.q 0 rfl) hx10) rfl ?_)
    rintro v21 Φ_15 D15 ⟨⟨ap6,fr13⟩,h25⟩
    refine WM.conv (S':=St w0 Φ_15 [] [(D2++((ob v17++[])++((ob v19++[])))),ob v21,ob v20]) (fun w1 hw=>hw.merge (js:=[3,1]) rfl (SP.eq (by simp)))<|amm 1 [18] [] rfl rfl<|WM.nil (by kernel_rfl) ?_
    exact wo [0,0] [] (K (_,_,_,_) ⟨h,h25⟩)
   refine me rfl (fun _ v Φx D w1 hq hw=>Kn.of Kf.nil aN hw) (dI (R:=RI .i64) RI.lasts aW gB rfl rfl) rfl ?_
   rintro v22 Φ_16 D16 ⟨fr14,h26⟩
   replace k1:=k1.f0 fr14
   replace h18:=h18.f0 fr14
   first | refine mu0 h14 fun h27=>?_ | refine iu0 h14 fun h27=>?_
   obtain ⟨x11,hx11,h⟩:=bs h
   refine WM.one 7 (by kernel_rfl) (me rfl (fun _ v Φx D w1 hq hw=>Kn.of Kf.nil aN hw) (bB RI.lasts RI.one RI.flat aW jw rfl rfl rfl rfl rfl (js:=[1]) (Rr:=[ob v22,D2,ob u1]) rfl h18 h27 hx11) rfl ?_)
   rintro v23 Φ_17 D17 ⟨⟨ap7,fr15⟩,h28⟩
   replace k1:=k1.fr fr15 (ap7.q 2 rfl) (ap7.q 1 rfl)
   replace h26:=h26.fr fr15 (ap7.q 0 rfl) dN
   first | refine mu0 h17 fun h29=>?_ | refine iu0 h17 fun h29=>?_
   obtain ⟨x12,hx12,h⟩:=bs h
   refine WM.one 14 (by kernel_rfl) (me rfl (fun _ v Φx D w1 hq hw=>Kn.of Kf.nil aN hw) (bB RI.lasts RI.one RI.flat aW jw rfl rfl rfl rfl rfl (js:=[1]) (Rr:=[ob v23,D2,ob u1]) rfl h26 h29 hx12) rfl ?_)
   rintro v24 Φ_18 D18 ⟨⟨ap8,fr16⟩,h30⟩
   replace k1:=k1.fr fr16 (ap8.q 2 rfl) (ap8.q 1 rfl)
   replace h28:=h28.fr fr16 (ap8.q 0 rfl) dN
   refine mq 15 rfl (by kernel_rfl) (kN []) (aQ (vs:=[(0,v23),(1,v24)]) (C:=#[v23,v24]) rH dJ rfl (a7 (C':=[v23,.slice none 0 0]) rfl (bt h28.one) rfl rfl rfl (a7 (C':=[v23,v24]) rfl (bt h30.one) rfl rfl rfl (aa)))) rfl ?_
   have rc9:RC aq 2 Φ_18 ([(ob v23++[])++((ob v24++[]))]:List (List Nat)) [v23,v24] ([(⟨x11,x12⟩:af)]:List af):=RC.cons (c:=[v23,v24]) (cells:=[]) ⟨v23,v24,rfl,rfl,h28,h30⟩ rfl (RC.nil _ _ _)
   refine WM.one 16 (by kernel_rfl) (me rfl (fun _ v Φx D w1 hq hw=>Kn.of Kf.nil aN hw) (aY (vs:=[(0,.agg [v23,v24].toArray)]) (C:=#[v23,v24]) aq.lasts cM dJ rfl rfl rfl rfl (ag lT (a7 (C':=[v23,v24]) rfl rfl rfl rfl rfl (aa))) rfl rc9 rfl (RC.kn aq.knows rc9)) rfl ?_)
   rintro v25 Φ_19 D19 ⟨fr17,h31⟩
   replace h31:OSl aq 103 2 Φ_19 ((ob v23++[])++((ob v24++[]))) v25 ([(⟨x11,x12⟩:af)]:List af):=by simpa [List.append_assoc] using h31
   replace k1:=k1.f0 fr17
   refine WM.conv (S':=St w0 Φ_19 [] [((ob v23++[])++((ob v24++[]))),ob v25,D2,ob u1]) (fun w1 hw=>hw.merge (js:=[2,1]) rfl (SP.eq (by simp [List.append_assoc,bv]))) ?_
   obtain ⟨x13,hx13,h⟩:=bs h
   refine WM.one 17 (by kernel_rfl) (me rfl (fun _ v Φx D w1 hq hw=>Kn.of Kf.nil aN hw) (bU aq.lasts aq.one cM km rfl rfl rfl rfl rfl (js:=[3]) (Rr:=[((ob v23++[])++((ob v24++[]))),ob v25,D2]) rfl k1 h31 (fun ap=>ap.q 2 rfl) (fun ap=>ap.q 0 rfl) hx13) rfl ?_)
   rintro v26 Φ_20 D20 ⟨⟨ap9,fr18⟩,h32⟩
   refine WM.conv (S':=St w0 Φ_20 [] [(D2++((ob v23++[])++((ob v24++[])))),ob v26,ob v25]) (fun w1 hw=>hw.merge (js:=[3,1]) rfl (SP.eq (by simp)))<|amm 1 [18] [] rfl rfl<|WM.nil (by kernel_rfl) ?_
   exact wo [0,0] [] (K (_,_,_,_) ⟨h,h32⟩)
  refine me rfl (fun _ v Φx D w1 hq hw=>Kn.of Kf.nil aN hw) (dI (R:=RI .i64) RI.lasts aW gB rfl rfl) rfl ?_
  rintro v27 Φ_21 D21 ⟨fr19,h33⟩
  replace k1:=k1.f0 fr19
  refine WM.one 1 (by kernel_rfl) (me rfl (fun _ v Φx D w1 hq hw=>Kn.of Kf.nil aN hw) (dI (R:=RI .i64) RI.lasts aW gB rfl rfl) rfl ?_)
  rintro v28 Φ_22 D22 ⟨fr20,h34⟩
  replace k1:=k1.f0 fr20
  replace h33:=h33.f0 fr20
  first | refine mu0 h14 fun h35=>?_ | refine iu0 h14 fun h35=>?_
  obtain ⟨x14,hx14,h⟩:=bs h
  refine WM.one 7 (by kernel_rfl) (me rfl (fun _ v Φx D w1 hq hw=>Kn.of Kf.nil aN hw) (bB RI.lasts RI.one RI.flat aW jw rfl rfl rfl rfl rfl (js:=[0]) (Rr:=[ob v27,D2,ob u1]) rfl h34 h35 hx14) rfl ?_)
  rintro v29 Φ_23 D23 ⟨⟨ap10,fr21⟩,h36⟩
  replace k1:=k1.fr fr21 (ap10.q 2 rfl) (ap10.q 1 rfl)
  replace h33:=h33.fr fr21 (ap10.q 0 rfl) dN
  first | refine mu0 h17 fun h37=>?_ | refine iu0 h17 fun h37=>?_
  obtain ⟨x15,hx15,h⟩:=bs h
  refine WM.one 14 (by kernel_rfl) (me rfl (fun _ v Φx D w1 hq hw=>Kn.of Kf.nil aN hw) (bB RI.lasts RI.one RI.flat aW jw rfl rfl rfl rfl rfl (js:=[1]) (Rr:=[ob v29,D2,ob u1]) rfl h33 h37 hx15) rfl ?_)
  rintro v30 Φ_24 D24 ⟨⟨ap11,fr22⟩,h38⟩
  replace k1:=k1.fr fr22 (ap11.q 2 rfl) (ap11.q 1 rfl)
  replace h36:=h36.fr fr22 (ap11.q 0 rfl) dN
  refine mq 15 rfl (by kernel_rfl) (kN []) (aQ (vs:=[(0,v29),(1,v30)]) (C:=#[v29,v30]) rH dJ rfl (a7 (C':=[v29,.slice none 0 0]) rfl (bt h36.one) rfl rfl rfl (a7 (C':=[v29,v30]) rfl (bt h38.one) rfl rfl rfl (aa)))) rfl ?_
  have rc12:RC aq 2 Φ_24 ([(ob v29++[])++((ob v30++[]))]:List (List Nat)) [v29,v30] ([(⟨x14,x15⟩:af)]:List af):=RC.cons (c:=[v29,v30]) (cells:=[]) ⟨v29,v30,rfl,rfl,h36,h38⟩ rfl (RC.nil _ _ _)
  refine WM.one 16 (by kernel_rfl) (me rfl (fun _ v Φx D w1 hq hw=>Kn.of Kf.nil aN hw) (aY (vs:=[(0,.agg [v29,v30].toArray)]) (C:=#[v29,v30]) aq.lasts cM dJ rfl rfl rfl rfl (ag lT (a7 (C':=[v29,v30]) rfl rfl rfl rfl rfl (aa))) rfl rc12 rfl (RC.kn aq.knows rc12)) rfl ?_)
  rintro v31 Φ_25 D25 ⟨fr23,h39⟩
  replace h39:OSl aq 103 2 Φ_25 ((ob v29++[])++((ob v30++[]))) v31 ([(⟨x14,x15⟩:af)]:List af):=by simpa [List.append_assoc] using h39
  replace k1:=k1.f0 fr23
  refine WM.conv (S':=St w0 Φ_25 [] [((ob v29++[])++((ob v30++[]))),ob v31,D2,ob u1]) (fun w1 hw=>hw.merge (js:=[2,1]) rfl (SP.eq (by simp [List.append_assoc,bv]))) ?_
  obtain ⟨x16,hx16,h⟩:=bs h
  refine WM.one 17 (by kernel_rfl) (me rfl (fun _ v Φx D w1 hq hw=>Kn.of Kf.nil aN hw) (bU aq.lasts aq.one cM km rfl rfl rfl rfl rfl (js:=[3]) (Rr:=[((ob v29++[])++((ob v30++[]))),ob v31,D2]) rfl k1 h39 (fun ap=>ap.q 2 rfl) (fun ap=>ap.q 0 rfl) hx16) rfl ?_)
  rintro v32 Φ_26 D26 ⟨⟨ap12,fr24⟩,h40⟩
  refine WM.conv (S':=St w0 Φ_26 [] [(D2++((ob v29++[])++((ob v30++[])))),ob v32,ob v31]) (fun w1 hw=>hw.merge (js:=[3,1]) rfl (SP.eq (by simp)))<|amm 1 [18] [] rfl rfl<|WM.nil (by kernel_rfl) ?_
  exact wo [0,0] [] (K (_,_,_,_) ⟨h,h40⟩)
 refine att 6 [] rfl ?_
 exact rtg [1,0] hF (az.one rfl) rfl (by cases h; exact fun w1 hw=>⟨u1,D2,rfl,rfl,k1⟩)
theorem q8 (w0:aw Ψ Φ []) (p0:ax) (ph0_0:RSl gp 1 Ψ pG0_0 pv0_0 p0.Alphas) (ph0_1:RSl jx 1 Ψ pG0_1 pv0_1 p0.Rules) {r:ax} (h:jK N p0=some r) :
  Calls prog 23 [.agg [pv0_0,pv0_1].toArray].toArray w0.w (bg Φ w0.w [] (fun Φ' Fs v=>∃ (sr_0_0:Value) (Dr_0_0:List Nat) (sr_0_1:Value) (Dr_0_1:List Nat),v = .agg [sr_0_0,sr_0_1].toArray∧Fs=[ob sr_0_0,Dr_0_0,ob sr_0_1,Dr_0_1]∧OSl aR 44 1 Φ' Dr_0_0 sr_0_0 r.Alphas∧OSl aM 98 1 Φ' Dr_0_1 sr_0_1 r.Rules)):=by
 refine eN func23 rfl ntmps23 rfl w0 fun hF=>?_
 unfold jK at h
 refine sr<|lbx rfl fun b_1=>lnz jE rfl fun b_2=>en<|sr<|lq (aQ (vs:=[]) (C:=#[.slice none 0 0,.slice none 0 0]) DA jE rfl (aa)) rfl<|lnz jE rfl fun b_3=>soN 0 kj rfl ⟨rfl,rfl,trivial⟩ rfl ?_
 refine art 7 [] rfl<|wtS<|wt0 ?_
 have k1:=OSl.nil aR 44 1 Φ
 refine lin (σ:=Hp × (List bk) × Value × List Nat × Int) (fun s=>[(1,pQ b_1),(2,pQ b_2),(3,pQ b_3),(4,iV s.2.2.2.2)]) (fun s=>St w0 s.1 [(b_3,.cells #[s.2.2.1,.slice none 0 0] 34 (0,0)),(b_2,.cells #[.slice none 0 0,.slice none 0 0] 34 (0,0)),(b_1,.cells #[pv0_0,pv0_1] 34 (0,0))] [s.2.2.2.1,ob s.2.2.1]) (fun m s=>fE N p0 m s.2.1 s.2.2.2.2=some r∧(OSl aR 44 1 s.1 s.2.2.2.1 s.2.2.1 s.2.1)) (Φ,([]:List bk),(.slice none 0 0),[],0) N ⟨h,k1⟩ (sx [0,0] [0,0,0]) (fun n1 ih1 s hm=>?_)
 obtain ⟨Φ_1,s1,u1,D1,s2⟩:=s
 obtain ⟨h,k2⟩:=hm
 dsimp only at h k2 ⊢
 unfold fE at h
 refine atr 6 [0,64] rfl<|lnr ph0_0 rfl<|la rfl<|en ?_
 refine ch h rfl ?_ ?_ <;> intro h
 ·refine att 3 [] rfl<|wm [0,1,2] [14] rfl<|amm 5 [0,0,1,0,3,0,4,64,5] [0,1,2] rfl rfl ?_
  obtain ⟨x1,hx1,h⟩:=bs h
  obtain ⟨cs1,F1,-,g1,hb1,hs1,r1⟩:=ph0_0.el (a9 hx1).2.2
  obtain ⟨v1,G1,rfl,hq1,h1⟩:=r1
  obtain rfl:=hq1.symm
  refine mq 6 rfl (by kernel_rfl) (kN [0,1,2]) (ac jR rfl rfl ph0_0 hx1) rfl<|amm 1 [7,0] [0,1,2] rfl rfl<|mq 8 rfl (by kernel_rfl) (kN [0,1,2]) (au iz rfl (fun w1 hw=>(g1.of_eq 0 1 rfl rfl:rg _ _ _ [v1]).rangeAt hw.1)) rfl ?_
  refine WM.one 2 (by kernel_rfl) (me rfl (fun _ v Φx D w1 hq hw=>Kn.of Kf.nil (ai3 0 1 2 rfl rfl rfl) hw) (dI (R:=RI .i64) RI.lasts aW gB rfl rfl) rfl ?_)
  rintro v2 Φ_2 D2 ⟨fr1,h2⟩
  replace k2:=k2.f0 fr1
  first | refine mu0 h1 fun h3=>?_ | refine iu0 h1 fun h3=>?_
  obtain ⟨x2,hx2,h⟩:=bs h
  refine WM.one 9 (by kernel_rfl) (me rfl (fun _ v Φx D w1 hq hw=>Kn.of Kf.nil (ai3 0 1 2 rfl rfl rfl) hw) (bB RI.lasts RI.one RI.flat aW jw rfl rfl rfl rfl rfl (js:=[0]) (Rr:=[D1,ob u1]) rfl h2 h3 hx2) rfl ?_)
  rintro v3 Φ_3 D3 ⟨⟨ap1,fr2⟩,h4⟩
  replace k2:=k2.fr fr2 (ap1.q 1 rfl) (ap1.q 0 rfl)
  refine mq 10 rfl (by kernel_rfl) (kN [0,1,2]) (aQ (vs:=[(0,v3)]) (C:=#[v3]) B9 uc rfl (a7 (C':=[v3]) rfl (bt h4.one) rfl rfl rfl (aa))) rfl ?_
  have rc2:RC aR 1 Φ_3 ([(ob v3++[])]:List (List Nat)) [v3] ([(⟨x2⟩:bk)]:List bk):=RC.cons (c:=[v3]) (cells:=[]) ⟨v3,rfl,rfl,h4⟩ rfl (RC.nil _ _ _)
  refine WM.one 11 (by kernel_rfl) (me rfl (fun _ v Φx D w1 hq hw=>Kn.of Kf.nil (ai3 0 1 2 rfl rfl rfl) hw) (aY (vs:=[(0,.agg [v3].toArray)]) (C:=#[v3]) aR.lasts jR uc rfl rfl rfl rfl (ag xh (a7 (C':=[v3]) rfl rfl rfl rfl rfl (aa))) rfl rc2 rfl (RC.kn aR.knows rc2)) rfl ?_)
  rintro v4 Φ_4 D4 ⟨fr3,h5⟩
  replace h5:OSl aR 44 1 Φ_4 ((ob v3++[])) v4 ([(⟨x2⟩:bk)]:List bk):=by simpa [List.append_assoc] using h5
  replace k2:=k2.f0 fr3
  refine WM.conv (S':=St w0 Φ_4 [(b_3,.cells #[u1,.slice none 0 0] 34 (0,0)),(b_2,.cells #[.slice none 0 0,.slice none 0 0] 34 (0,0)),(b_1,.cells #[pv0_0,pv0_1] 34 (0,0))] [((ob v3++[])),ob v4,D1,ob u1]) (fun w1 hw=>hw.merge (js:=[1]) rfl (SP.eq (by simp [List.append_assoc,bv]))) ?_
  obtain ⟨x3,hx3,h⟩:=bs h
  refine WM.one 12 (by kernel_rfl) (me rfl (fun _ v Φx D w1 hq hw=>Kn.of Kf.nil (ai3 0 1 2 rfl rfl rfl) hw) (bU aR.lasts aR.one jR C8 rfl rfl rfl rfl rfl (js:=[3]) (Rr:=[((ob v3++[])),ob v4,D1]) rfl k2 h5 (fun ap=>ap.q 2 rfl) (fun ap=>ap.q 0 rfl) hx3) rfl ?_)
  rintro v5 Φ_5 D5 ⟨⟨ap2,fr4⟩,h6⟩
  refine WM.conv (S':=St w0 Φ_5 [(b_3,.cells #[u1,.slice none 0 0] 34 (0,0)),(b_2,.cells #[.slice none 0 0,.slice none 0 0] 34 (0,0)),(b_1,.cells #[pv0_0,pv0_1] 34 (0,0))] [(D1++((ob v3++[]))),ob v5,ob v4]) (fun w1 hw=>hw.merge (js:=[3,1]) rfl (SP.eq (by simp)))<|amm 1 [13,0] [0,1,2] rfl rfl ?_
  refine on1 14 (ms1 0 rfl nk AP rfl h6.one ?_)
  refine WM.nil (by kernel_rfl)<|att 6 [] rfl ?_
  exact lb [0,0] [0,0,0] (ih1 (_,_,_,_,_) ⟨h,h6⟩)
 refine att 7 [] rfl<|wtS<|wt0 ?_
 have k3:=OSl.nil aM 98 1 Φ_1
 refine lin (σ:=Hp × (List aJ) × Value × List Nat × Int) (fun s=>[(1,pQ b_1),(2,pQ b_2),(3,pQ b_3),(5,iV s.2.2.2.2)]) (fun s=>St w0 s.1 [(b_3,.cells #[u1,s.2.2.1] 34 (0,0)),(b_2,.cells #[.slice none 0 0,.slice none 0 0] 34 (0,0)),(b_1,.cells #[pv0_0,pv0_1] 34 (0,0))] [s.2.2.2.1,ob s.2.2.1,D1,ob u1]) (fun m s=>dt N p0 s1 m s.2.1 s.2.2.2.2=some r∧(OSl aR 44 1 s.1 D1 u1 s1)∧(OSl aM 98 1 s.1 s.2.2.2.1 s.2.2.1 s.2.1)) (Φ_1,([]:List aJ),(.slice none 0 0),[],0) N ⟨h,k2,k3⟩ (sx [0,0,0,0] [0,0,0]) (fun n2 ih2 s hm=>?_)
 obtain ⟨Φ_6,s3,u2,D6,s4⟩:=s
 obtain ⟨h,k2,k4⟩:=hm
 dsimp only at h k2 k4 ⊢
 unfold dt at h
 refine atr 6 [1,64] rfl<|lnr ph0_1 rfl<|la rfl<|en ?_
 refine ch h rfl ?_ ?_ <;> intro h
 ·refine atr 5 [] rfl<|lq (aQ (vs:=[]) (C:=#[.slice none 0 0]) Bx oD rfl (aa)) rfl ?_
  refine ln (jP (C:=#[.slice none 0 0]) oD rfl) rfl (fun b_4=>?_)
  refine soN 0 yk rfl ⟨rfl,trivial⟩ rfl ?_
  refine art 7 [] rfl<|wtS<|wt0 ?_
  have k5:=OSl.nil aB 101 1 Φ_6
  refine lin (σ:=Hp × (List aj) × Value × List Nat × Int) (fun s=>[(1,pQ b_1),(2,pQ b_2),(3,pQ b_3),(5,iV s4),(6,pQ b_4),(7,iV s.2.2.2.2)]) (fun s=>St w0 s.1 [(b_4,.cells #[s.2.2.1] 98 (0,0)),(b_3,.cells #[u1,u2] 34 (0,0)),(b_2,.cells #[.slice none 0 0,.slice none 0 0] 34 (0,0)),(b_1,.cells #[pv0_0,pv0_1] 34 (0,0))] [s.2.2.2.1,ob s.2.2.1,D6,ob u2,D1,ob u1]) (fun m s=>eJ N p0 s3 s4 (dt N p0 s1 n2) m s.2.1 s.2.2.2.2=some r∧(OSl aR 44 1 s.1 D1 u1 s1)∧(OSl aM 98 1 s.1 D6 u2 s3)∧(OSl aB 101 1 s.1 s.2.2.2.1 s.2.2.1 s.2.1)) (Φ_6,([]:List aj),(.slice none 0 0),[],0) N ⟨h,k2,k4,k5⟩ (sx [0,0,0,0,0,0] [0,0,0,0]) (fun n3 ih3 s hm=>?_)
  obtain ⟨Φ_7,s5,u3,D7,s6⟩:=s
  obtain ⟨h,k2,k4,k6⟩:=hm
  dsimp only at h k2 k4 k6 ⊢
  unfold eJ at h
  refine atr 7 [1,96] rfl ?_
  obtain ⟨x4,hx4,h⟩:=bs h
  obtain ⟨cs2,F2,-,g2,hb2,hs2,r2⟩:=ph0_1.el (a9 hx4).2.2
  obtain ⟨v6,G2,rfl,hq2,h7⟩:=r2
  obtain rfl:=hq2.symm
  refine lia ph0_1 hx4 rfl<|lf gZ rfl rfl rfl<|lhx 0 0 g2 rfl<|lnr h7 rfl<|la rfl<|en ?_
  refine ch h rfl ?_ ?_ <;> intro h
  ·refine att 3 [] rfl<|wm [0,1,2,3] [17] rfl<|amm 5 [0,0,1,0,2,1,3,96,4] [0,1,2,3] rfl rfl ?_
   obtain ⟨x5,hx5,h⟩:=bs h
   obtain ⟨cs3,F3,-,g3,hb3,hs3,r3⟩:=ph0_1.el (a9 hx5).2.2
   obtain ⟨v7,G3,rfl,hq3,h8⟩:=r3
   obtain rfl:=hq3.symm
   refine mq 5 rfl (by kernel_rfl) (kN [0,1,2,3]) (ac pZ rfl rfl ph0_1 hx5) rfl<|amm 1 [6,0] [0,1,2,3] rfl rfl<|mq 7 rfl (by kernel_rfl) (kN [0,1,2,3]) (au yu rfl (fun w1 hw=>(g3.of_eq 0 1 rfl rfl:rg _ _ _ [v7]).rangeAt hw.1)) rfl<|amm 1 [8] [0,1,2,3] rfl rfl ?_
   obtain ⟨x6,hx6,h⟩:=bs h
   obtain ⟨cs4,F4,-,g4,hb4,hs4,r4⟩:=h8.el (a9 hx6).2.2
   obtain ⟨v8,G4,rfl,hq4,h9⟩:=r4
   obtain rfl:=hq4.symm
   refine mq 9 rfl (by kernel_rfl) (kN [0,1,2,3]) (ac mD rfl rfl h8 hx6) rfl<|amm 1 [10,0] [0,1,2,3] rfl rfl<|mq 11 rfl (by kernel_rfl) (kN [0,1,2,3]) (au vV rfl (fun w1 hw=>(g4.of_eq 0 1 rfl rfl:rg _ _ _ [v8]).rangeAt hw.1)) rfl ?_
   obtain ⟨x7,hx7,h⟩:=bs h
   refine WM.one 12 (by kernel_rfl) (mc rfl (fun _ v Φx D w1 hq hw=>Kn.of Kf.nil (am [0,1,2,3] rfl) hw) (bZ (js:=[]) (R:=[D7,ob u3,D6,ob u2,D1,ob u1]) Ex rfl rfl (fun w1 hw ap hl=>rE N (ba hw.fro) x6.Toks (h9.y hw.up)  hx7)) rfl ?_)
   rintro v9 Φ_8 F5 ⟨ap3,fr5,v10,D8,rfl,rfl,h10⟩
   replace k2:=k2.fr fr5 (ap3.q 5 rfl) (ap3.q 4 rfl)
   replace k4:=k4.fr fr5 (ap3.q 3 rfl) (ap3.q 2 rfl)
   replace k6:=k6.fr fr5 (ap3.q 1 rfl) (ap3.q 0 rfl)
   refine mq 13 rfl (by kernel_rfl) (kN [0,1,2,3]) (aQ (vs:=[(0,v9)]) (C:=#[v9]) BK qe rfl (a7 (C':=[v9]) rfl (bt h10.one) rfl rfl rfl (aa))) rfl ?_
   have rc3:RC aB 1 Φ_8 ([(ob v9++D8)]:List (List Nat)) [v9] ([(⟨x7⟩:aj)]:List aj):=RC.cons (c:=[v9]) (cells:=[]) ⟨v9,D8,rfl,rfl,h10⟩ rfl (RC.nil _ _ _)
   refine WM.one 14 (by kernel_rfl) (me rfl (fun _ v Φx D w1 hq hw=>Kn.of Kf.nil (am [0,1,2,3] rfl) hw) (aY (vs:=[(0,.agg [v9].toArray)]) (C:=#[v9]) aB.lasts mD qe rfl rfl rfl rfl (ag ur (a7 (C':=[v9]) rfl rfl rfl rfl rfl (aa))) rfl rc3 rfl (RC.kn aB.knows rc3)) rfl ?_)
   rintro v11 Φ_9 D9 ⟨fr6,h11⟩
   replace h11:OSl aB 101 1 Φ_9 ((ob v9++D8)) v11 ([(⟨x7⟩:aj)]:List aj):=by simpa [List.append_assoc] using h11
   replace k2:=k2.f0 fr6
   replace k4:=k4.f0 fr6
   replace k6:=k6.f0 fr6
   refine WM.conv (S':=St w0 Φ_9 [(b_4,.cells #[u3] 98 (0,0)),(b_3,.cells #[u1,u2] 34 (0,0)),(b_2,.cells #[.slice none 0 0,.slice none 0 0] 34 (0,0)),(b_1,.cells #[pv0_0,pv0_1] 34 (0,0))] [((ob v9++D8)),ob v11,D7,ob u3,D6,ob u2,D1,ob u1]) (fun w1 hw=>hw.merge (js:=[1,1]) rfl (SP.eq (by simp [List.append_assoc,bv]))) ?_
   obtain ⟨x8,hx8,h⟩:=bs h
   refine WM.one 15 (by kernel_rfl) (me rfl (fun _ v Φx D w1 hq hw=>Kn.of Kf.nil (am [0,1,2,3] rfl) hw) (bU aB.lasts aB.one mD yL rfl rfl rfl rfl rfl (js:=[3]) (Rr:=[((ob v9++D8)),ob v11,D7,D6,ob u2,D1,ob u1]) rfl k6 h11 (fun ap=>ap.q 2 rfl) (fun ap=>ap.q 0 rfl) hx8) rfl ?_)
   rintro v12 Φ_10 D10 ⟨⟨ap4,fr7⟩,h12⟩
   replace k2:=k2.fr fr7 (ap4.q 6 rfl) (ap4.q 5 rfl)
   replace k4:=k4.fr fr7 (ap4.q 4 rfl) (ap4.q 3 rfl)
   refine WM.conv (S':=St w0 Φ_10 [(b_4,.cells #[u3] 98 (0,0)),(b_3,.cells #[u1,u2] 34 (0,0)),(b_2,.cells #[.slice none 0 0,.slice none 0 0] 34 (0,0)),(b_1,.cells #[pv0_0,pv0_1] 34 (0,0))] [(D7++((ob v9++D8))),ob v12,ob v11,D6,ob u2,D1,ob u1]) (fun w1 hw=>hw.merge (js:=[3,1]) rfl (SP.eq (by simp)))<|amm 1 [16,0] [0,1,2,3] rfl rfl ?_
   refine on1 17 (ms1 0 rfl nk AR rfl h12.one ?_)
   refine WM.nil (by kernel_rfl)<|att 6 [] rfl ?_
   exact lb [0,0,1,1,1,1] [0,0,0,0] (ih3 (_,_,_,_,_) ⟨h,k2,k4,h12⟩)
  refine atr 4 [1,32] rfl<|lq (aI BF rfl (fun w1 hw=>hw.rgO (i:=0) rfl 0 1 [u3] rfl) rfl) rfl ?_
  have rc4:RC aM 1 Φ_7 ([(ob u3++D7)]:List (List Nat)) [u3] ([(⟨s5⟩:aJ)]:List aJ):=RC.cons (c:=[u3]) (cells:=[]) ⟨u3,D7,rfl,rfl,k6⟩ rfl (RC.nil _ _ _)
  refine le' (aY (vs:=[(0,.agg [u3].toArray)]) (C:=#[u3]) aM.lasts pZ oD rfl rfl rfl rfl (ag tK (a7 (C':=[u3]) rfl rfl rfl rfl rfl (aa))) rfl rc4 rfl (RC.kn aM.knows rc4)) rfl ?_
  rintro v13 Φ_11 D11 ⟨fr8,h13⟩
  replace h13:OSl aM 98 1 Φ_11 ((ob u3++D7)) v13 ([(⟨s5⟩:aJ)]:List aJ):=by simpa [List.append_assoc] using h13
  replace k2:=k2.f0 fr8
  replace k4:=k4.f0 fr8
  refine wlL [((ob u3++D7)),ob v13,D6,ob u2,D1,ob u1] (smg [2,1] rfl (SP.eq (by simp [List.append_assoc,bv]))) ?_
  obtain ⟨x9,hx9,h⟩:=bs h
  refine le' (bU aM.lasts aM.one pZ zI rfl rfl rfl rfl rfl (js:=[3]) (Rr:=[((ob u3++D7)),ob v13,D6,D1,ob u1]) rfl k4 h13 (fun ap=>ap.q 2 rfl) (fun ap=>ap.q 0 rfl) hx9) rfl ?_
  rintro v14 Φ_12 D12 ⟨⟨ap5,fr9⟩,h14⟩
  replace k2:=k2.fr fr9 (ap5.q 4 rfl) (ap5.q 3 rfl)
  refine wlL [(D6++((ob u3++D7))),ob v14,ob v13,D1,ob u1] (smg [3,1] rfl (SP.eq (by simp)))<|lf lE rfl rfl rfl<|so1 1 zR rfl h14.one ?_
  refine art 7 [] rfl ?_
  exact lb [0,0,1,1] [1,1,1] (ih2 (_,_,_,_,_) ⟨h,k2,h14⟩)
 refine atr 4 [2] rfl<|soN 1 kj rfl ⟨k2.one,k4.one,trivial⟩ rfl ?_
 refine en ?_
 exact rtg [3,2,1,0] hF (az.one (aX tc rfl (fun w1 hw=>hw.rgO (i:=1) rfl 0 2 [u1,u2] rfl) rfl)) rfl (by cases h; exact fun w1 hw=>⟨u1,D1,u2,D6,rfl,rfl,k2,k4⟩)
theorem tV (w0:aw Ψ Φ [[pb0]].flatten) (p0:a8) (p1:ax) (ph0_0:RSl (RI .u8) 1 Ψ pG0_0 pv0_0 p0.b) (pp0:Φ pb0=some (.cells #[pv0_0,iV p0.i,iV p0.h] 82 (0,0))) (ph1_0:RSl gp 1 Ψ pG1_0 pv1_0 p1.Alphas) (ph1_1:RSl jx 1 Ψ pG1_1 pv1_1 p1.Rules) {r:ax × a8} (h:l8 N p0 p1=some r) :
  Calls prog 19 [pQ pb0,.agg [pv1_0,pv1_1].toArray].toArray w0.w (bg Φ w0.w [[pb0]].flatten (fun Φ' Fs v=>∃ (sr_0_0:Value) (Dr_0_0:List Nat) (sr_0_1:Value) (Dr_0_1:List Nat),v = .agg [sr_0_0,sr_0_1].toArray∧Fs=[ob sr_0_0,Dr_0_0,ob sr_0_1,Dr_0_1,[pb0]]∧OSl aR 44 1 Φ' Dr_0_0 sr_0_0 r.1.Alphas∧OSl aM 98 1 Φ' Dr_0_1 sr_0_1 r.1.Rules∧r.2.b=p0.b∧Φ' pb0=some (.cells #[pv0_0,iV r.2.i,iV r.2.h] 82 (0,0)))):=by
 refine eL func19 rfl ntmps19 rfl (L:=[[pb0]]) w0 (fun hF=>?_)
 unfold l8 at h
 refine sr<|lbx rfl fun b_1=>lnz jE rfl fun b_2=>arr 4 [34] rfl<|kab h rfl rfl rfl (fun b z q=>q8 N b p1 (ph1_0.y z) (ph1_1.y z) q) ?_
 rintro x1 h v1 Φ_1 F1 ⟨ap1,fr1,v2,D1,v3,D2,rfl,rfl,h1,h2⟩
 replace pp0:=fr1 _ _ ((ap1.q 0 rfl) _ (by simp)) pp0
 refine soN 1 kj rfl ⟨h1.one,h2.one,trivial⟩ rfl ?_
 refine arr 5 [] rfl<|kcb [4] h rfl rfl rfl rfl (fun b ap z q=>aL N b p0 6 (ph0_0.y z) pp0 q) ?_
 rintro x2 h v4 Φ_2 F2 ⟨ap2,fr2,rfl,rfl,e1,h3⟩
 replace h1:=h1.fr fr2 (ap2.q 0 rfl) (ap2.q 1 rfl)
 replace h2:=h2.fr fr2 (ap2.q 2 rfl) (ap2.q 3 rfl)
 refine art 7 [] rfl ?_
 refine cut (σ:=Hp × (List bk) × List Nat × (List aJ) × Value × List Nat × Int × Int) (fun s=>[(3,pQ b_1),(4,pQ b_2)]) (fun s=>St w0 s.1 [(b_2,.cells #[.slice none 0 0,.slice none 0 0] 34 (0,0)),(b_1,.cells #[v2,s.2.2.2.2.1] 34 (0,0))] [[pb0],ob v2,s.2.2.1,ob s.2.2.2.2.1,s.2.2.2.2.2.1]) (fun s=>et N p0 s.2.1 s.2.2.2.1 s.2.2.2.2.2.2.1 s.2.2.2.2.2.2.2=some r∧(OSl aR 44 1 s.1 s.2.2.1 v2 s.2.1)∧(OSl aM 98 1 s.1 s.2.2.2.2.2.1 s.2.2.2.2.1 s.2.2.2.1)∧(s.1 pb0=some (.cells #[pv0_0,iV s.2.2.2.2.2.2.1,iV s.2.2.2.2.2.2.2] 82 (0,0)))) (fun s hm=>?_) (fun K=>?_)
 ·clear h
  obtain ⟨Φ_3,s1,D3,s2,u1,D4,s3,s4⟩:=s
  obtain ⟨h,k1,k2,k3⟩:=hm
  dsimp only at h k1 k2 k3 ⊢
  unfold et at h
  refine atr 4 [34] rfl<|soN 0 kj rfl ⟨k1.one,k2.one,trivial⟩ rfl ?_
  refine en ?_
  exact rtg [1,1,1,1,0] hF (az.one (aX tc rfl (fun w1 hw=>hw.rgO (i:=0) rfl 0 2 [v2,u1] rfl) rfl)) rfl (by cases h; exact fun w1 hw=>⟨v2,D3,u1,D4,rfl,rfl,k1,k2,rfl,k3⟩)
 refine ch h rfl ?_ ?_ <;> intro h
 ·refine atr 4 [0,32] rfl<|lno h1 rfl<|la rfl<|en ?_
  refine ch h rfl ?_ ?_ <;> intro h
  ·obtain ⟨x3,hx3,h⟩:=bs h
   obtain ⟨cs1,F3,D5,h4,r1,kf1,sp1⟩:=h1.focus hx3
   obtain ⟨v5,rfl,rfl,h5⟩:=r1
   refine wtL [ob v5,D5,[pb0],ob v2,ob v3,D2] (sre [2] [ob v5,D5] rfl (by simpa [List.append_assoc] using sp1))<|WT.mix (Kn w0 Φ_2 (ob v2) [(b_2,.cells #[.slice none 0 0,.slice none 0 0] 34 (0,0)),(b_1,.cells #[v2,v3] 34 (0,0))]) (fun i=>match i with | 13=>false | _=>true) cc (fun _ h=>h.drew)<|mq 0 rfl (by kernel_rfl) (kn Kf.id (ai2 0 1 rfl rfl)) (ab gr rfl) rfl<|mq 1 rfl (by kernel_rfl) (kn Kf.id (ai2 0 1 rfl rfl)) (au uX rfl (fun w1 hw=>hw.rgO (i:=1) rfl 0 1 [v2] rfl)) rfl ?_
   refine mq 2 rfl (by kernel_rfl) (kn Kf.id (ai2 0 1 rfl rfl)) (ab gr rfl) rfl<|mq 3 rfl (by kernel_rfl) (kn Kf.id (ai2 0 1 rfl rfl)) (au uX rfl (fun w1 hw=>hw.rgO (i:=1) rfl 0 1 [v2] rfl)) rfl<|mq 4 rfl (by kernel_rfl) (kn Kf.id (ai2 0 1 rfl rfl)) (aZ jR rfl rfl h4 hx3) rfl<|mq 5 rfl (by kernel_rfl) (kn Kf.id (ai2 0 1 rfl rfl)) (ab fw rfl) rfl<|mq 6 rfl (by kernel_rfl) (kn Kf.id (ai2 0 1 rfl rfl)) (au iz rfl (fun w1 hw=>hw.rg h4.hb (h4.rg.of_eq 0 1 rfl rfl:rg _ _ _ [v5]))) rfl ?_
   refine ma 7 rfl (by kernel_rfl) (kn Kf.id (ai2 0 1 rfl rfl)) rfl ?_
   obtain ⟨x4,hx4,h⟩:=bs h
   refine WM.one 8 (by kernel_rfl) (mc rfl (fun _ v Φx D w1 hq hw=>Kn.of (Kf.id.st hq.2.1 (hq.1.r (i:=2) rfl)) (ai2 0 1 rfl rfl) hw) (bZ (js:=[2]) (R:=[ob v5,D5,ob v2,ob v3,D2]) sN rfl rfl (fun w1 hw ap hl=>aL N (bx hw ap hl) (⟨p0.b,x2.2.i,x2.2.h⟩:a8) 9 (ph0_0.y (hw.uo ap)) h3  hx4)) rfl ?_)
   rintro v6 Φ_4 F4 ⟨ap3,fr3,rfl,rfl,e2,h6⟩
   replace h4:=h4.fr fr3 (ap3.q 2 rfl) (ap3.q 1 rfl)
   replace h2:=h2.fr fr3 (ap3.q 3 rfl) (ap3.q 4 rfl)
   replace h5:=h5.fr fr3 (ap3.q 0 rfl) dN
   have rc1:RC (RI .i64) 1 Φ_4 ([[]]:List (List Nat)) [iV x4.1] ([x4.1]:List Int):=RC.cons (c:=[iV x4.1]) (cells:=[]) ⟨rfl,rfl⟩ rfl (RC.nil _ _ _)
   have kf1:=(Kf.id (F:=(ob v2)):Kf Φ_2 _ _).st fr3 (ap3.q 2 rfl)
   refine WM.one 9 (by kernel_rfl) (me rfl (fun _ v Φx D w1 hq hw=>Kn.of (kf1.se hq.1) (ai2 0 1 rfl rfl) hw) (aY (vs:=[(0,iV x4.1)]) (C:=#[iV x4.1]) RI.lasts aW gB rfl rfl rfl rfl (ag iy (a7 (C':=[iV x4.1]) rfl rfl rfl rfl rfl (aa))) rfl rc1 rfl (by simpa using Kw.nil)) rfl ?_)
   rintro v7 Φ_5 D6 ⟨fr4,h7⟩
   replace h7:OSl (RI .i64) 3 1 Φ_5 [] v7 ([x4.1]:List Int):=by simpa using h7
   replace h4:=h4.f0 fr4
   replace h2:=h2.f0 fr4
   replace h5:=h5.f0 fr4
   replace h6:=fr4 _ _ (by simp) h6
   obtain ⟨x5,hx5,h⟩:=bs h
   have kf2:=kf1.se fr4
   refine WM.one 10 (by kernel_rfl) (me rfl (fun _ v Φx D w1 hq hw=>Kn.of (kf2.st hq.1.2 (hq.1.1.r (i:=3) rfl)) (ai2 0 1 rfl rfl) hw) (bB RI.lasts RI.one RI.flat aW jw rfl rfl rfl rfl rfl (js:=[2]) (Rr:=[ob v7,[pb0],D5,ob v2,ob v3,D2]) rfl h5 h7.rsl hx5) rfl ?_)
   rintro v8 Φ_6 D7 ⟨⟨ap4,fr5⟩,h8⟩
   replace h4:=h4.fr fr5 (ap4.q 3 rfl) (ap4.q 2 rfl)
   replace h2:=h2.fr fr5 (ap4.q 4 rfl) (ap4.q 5 rfl)
   replace h6:=fr5 _ _ ((ap4.q 1 rfl) _ (by simp)) h6
   have kf3:=kf2.st fr5 (ap4.q 3 rfl)
   refine mqT 11 [12,13] rfl (by kernel_rfl) (kn kf3 (ai2 0 1 rfl rfl)) (aZ jR rfl rfl h4 hx3) rfl<|mq 12 rfl (by kernel_rfl) (kn kf3 (ai2 0 1 rfl rfl)) (ab fw rfl) rfl ?_
   refine WM.one 13 (by kernel_rfl) (mu rfl (fun hc=>by cases hc) (us [4] [ob v8,ob v7,[pb0],D5,ob v3,D2] 0 aR.lasts nU rfl rfl h8.one rfl h4 rfl (fun ap=>ap.q 3 rfl)) rfl ?_)
   rintro Φ_7 D8 ⟨⟨ap5,fr6⟩,h9⟩
   replace h2:=h2.fr fr6 (ap5.q 4 rfl) (ap5.q 5 rfl)
   replace h8:=h8.fr fr6 (ap5.q 0 rfl) dN
   replace h6:=fr6 _ _ ((ap5.q 2 rfl) _ (by simp)) h6
   refine WM.nil (by kernel_rfl) ?_
   have r2:aR Φ_7 _ [v8] (⟨x5⟩:bk):=⟨v8,rfl,rfl,h8⟩
   obtain ⟨D9,h10,sp2⟩:=h9.unfocus r2 (aR.knows _ _ _ _ r2)
   refine wtL [D9,ob v2,ob v7,[pb0],ob v3,D2] (smg [1,3] rfl (by simpa [List.append_assoc,bv] using sp2)) ?_
   exact wo [3,1,0,1,1] [0,0] (K (_,_,_,_,_,_,_,_) ⟨h,h10,h2,h6⟩)
  refine WT.skip ?_
  exact wo [0,0,0,0,0] [0,0] (K (_,_,_,_,_,_,_,_) ⟨h,h1,h2,h3⟩)
 refine att 5 [] rfl ?_
 refine ch h rfl ?_ ?_ <;> intro h
 ·refine atr 4 [1,32] rfl<|lno h2 rfl<|arr 2 [] rfl ?_
  obtain ⟨b3,hb_1,h⟩:=bs h
  refine WL.cutN 8 [(42,.bool b3),(0,pQ pb0),(3,pQ b_1),(4,pQ b_2)] ?_ (fun K=>?_)
  rotate_left
  ·refine sp 34 hb_1 rfl (fun hb_1=>?_) fun hb_1=>?_
   ·refine arr 2 [1,32] rfl<|ly rfl rfl ?_
    obtain ⟨x6,hx6,hb_1⟩:=bs hb_1
    obtain ⟨cs2,F5,-,g1,hb2,hs1,r3⟩:=h2.elS (a9 hx6).2.2
    obtain ⟨v9,D10,rfl,rfl,h11⟩:=r3
    have h12:=h11.rslG aB.gives
    refine lio h2 hx6 rfl<|ly rfl rfl<|lf gZ rfl rfl rfl<|ly rfl rfl<|lgx 0 0 g1 rfl<|ly rfl rfl<|lnr h12 rfl<|arr 2 [] rfl ?_
    cases hb_1
    exact ku K
   ·refine arr 8 [] rfl ?_
    cases hb_1
    exact ku K
  refine en ?_
  refine ch h rfl ?_ ?_ <;> intro h
  ·obtain ⟨x7,hx7,h⟩:=bs h
   obtain ⟨cs3,F6,D11,h13,r4,kf2,sp3⟩:=h2.focus hx7
   obtain ⟨v10,D12,rfl,rfl,h14⟩:=r4
   refine wtL [ob v10,D12,D11,[pb0],ob v2,D1,ob v3] (sre [4] [ob v10,D12,D11] rfl (by simpa [List.append_assoc] using sp3)) ?_
   obtain ⟨x8,hx8,h⟩:=bs h
   obtain ⟨cs4,F7,D13,h15,r5,kf3,sp4⟩:=h14.focus hx8
   obtain ⟨v11,D14,rfl,rfl,h16⟩:=r5
   refine wtL [ob v11,D14,D13,ob v10,D11,[pb0],ob v2,D1,ob v3] (sre [1] [ob v11,D14,D13] rfl (by simpa [List.append_assoc] using sp4))<|WT.mix (Kn w0 Φ_2 (ob v3++(D11++ob v10)) [(b_2,.cells #[.slice none 0 0,.slice none 0 0] 34 (0,0)),(b_1,.cells #[v2,v3] 34 (0,0))]) (fun i=>match i with | 21=>false | _=>true) cc (fun _ h=>h.drew)<|mq 0 rfl (by kernel_rfl) (kn Kf.id (ai2 0 1 rfl rfl)) (ab lE rfl) rfl<|mq 1 rfl (by kernel_rfl) (kn Kf.id (ai2 0 1 rfl rfl)) (au DM rfl (fun w1 hw=>hw.rgO (i:=1) rfl 1 1 [v3] rfl)) rfl ?_
   refine mq 2 rfl (by kernel_rfl) (kn Kf.id (ai2 0 1 rfl rfl)) (aZ pZ rfl rfl h13 hx7) rfl<|mq 3 rfl (by kernel_rfl) (kn Kf.id (ai2 0 1 rfl rfl)) (ab gZ rfl) rfl<|mq 4 rfl (by kernel_rfl) (kn Kf.id (ai2 0 1 rfl rfl)) (au yu rfl (fun w1 hw=>hw.rg (List.mem_append.2 (.inl h13.hb)) (h13.rg.of_eq 0 1 rfl rfl:rg _ _ _ [v10]))) rfl<|mq 5 rfl (by kernel_rfl) (kn Kf.id (ai2 0 1 rfl rfl)) (ab lE rfl) rfl<|mq 6 rfl (by kernel_rfl) (kn Kf.id (ai2 0 1 rfl rfl)) (au DM rfl (fun w1 hw=>hw.rgO (i:=1) rfl 1 1 [v3] rfl)) rfl ?_
   refine mq 7 rfl (by kernel_rfl) (kn Kf.id (ai2 0 1 rfl rfl)) (aZ pZ rfl rfl h13 hx7) rfl<|mq 8 rfl (by kernel_rfl) (kn Kf.id (ai2 0 1 rfl rfl)) (ab gZ rfl) rfl<|mq 9 rfl (by kernel_rfl) (kn Kf.id (ai2 0 1 rfl rfl)) (au yu rfl (fun w1 hw=>hw.rg (List.mem_append.2 (.inl h13.hb)) (h13.rg.of_eq 0 1 rfl rfl:rg _ _ _ [v10]))) rfl<|mq 10 rfl (by kernel_rfl) (kn Kf.id (ai2 0 1 rfl rfl)) (aZ mD rfl rfl h15 hx8) rfl<|mq 11 rfl (by kernel_rfl) (kn Kf.id (ai2 0 1 rfl rfl)) (ab dP rfl) rfl ?_
   refine mq 12 rfl (by kernel_rfl) (kn Kf.id (ai2 0 1 rfl rfl)) (au vV rfl (fun w1 hw=>hw.rg (List.mem_append.2 (.inr (List.mem_append.2 (.inr h15.hb)))) (h15.rg.of_eq 0 1 rfl rfl:rg _ _ _ [v11]))) rfl<|ma 13 rfl (by kernel_rfl) (kn Kf.id (ai2 0 1 rfl rfl)) rfl ?_
   obtain ⟨x9,hx9,h⟩:=bs h
   refine WM.one 14 (by kernel_rfl) (mc rfl (fun _ v Φx D w1 hq hw=>Kn.of (Kf.id.st hq.2.1 (Dj.app (hq.1.r (i:=7) rfl) (Dj.app (hq.1.r (i:=4) rfl) (hq.1.r (i:=3) rfl)))) (ai2 0 1 rfl rfl) hw) (bZ (js:=[5]) (R:=[ob v11,D14,D13,ob v10,D11,ob v2,D1,ob v3]) sN rfl rfl (fun w1 hw ap hl=>aL N (bx hw ap hl) (⟨p0.b,x2.2.i,x2.2.h⟩:a8) 9 (ph0_0.y (hw.uo ap)) h3  hx9)) rfl ?_)
   rintro v12 Φ_8 F8 ⟨ap6,fr7,rfl,rfl,e3,h17⟩
   replace h1:=h1.fr fr7 (ap6.q 5 rfl) (ap6.q 6 rfl)
   replace h13:=h13.fr fr7 (ap6.q 7 rfl) (ap6.q 4 rfl)
   replace h15:=h15.fr fr7 (ap6.q 3 rfl) (ap6.q 2 rfl)
   replace h16:=h16.fr fr7 (ap6.q 0 rfl) (ap6.q 1 rfl)
   have rc2:RC (RI .i64) 1 Φ_8 ([[]]:List (List Nat)) [iV x9.1] ([x9.1]:List Int):=RC.cons (c:=[iV x9.1]) (cells:=[]) ⟨rfl,rfl⟩ rfl (RC.nil _ _ _)
   have kf4:=(Kf.id (F:=(ob v3++(D11++ob v10))):Kf Φ_2 _ _).st fr7 (Dj.app (ap6.q 7 rfl) (Dj.app (ap6.q 4 rfl) (ap6.q 3 rfl)))
   refine WM.one 15 (by kernel_rfl) (me rfl (fun _ v Φx D w1 hq hw=>Kn.of (kf4.se hq.1) (ai2 0 1 rfl rfl) hw) (aY (vs:=[(0,iV x9.1)]) (C:=#[iV x9.1]) RI.lasts aW gB rfl rfl rfl rfl (ag iy (a7 (C':=[iV x9.1]) rfl rfl rfl rfl rfl (aa))) rfl rc2 rfl (by simpa using Kw.nil)) rfl ?_)
   rintro v13 Φ_9 D15 ⟨fr8,h18⟩
   replace h18:OSl (RI .i64) 3 1 Φ_9 [] v13 ([x9.1]:List Int):=by simpa using h18
   replace h1:=h1.f0 fr8
   replace h13:=h13.f0 fr8
   replace h15:=h15.f0 fr8
   replace h16:=h16.f0 fr8
   replace h17:=fr8 _ _ (by simp) h17
   have kf5:=kf4.se fr8
   refine mq 16 rfl (by kernel_rfl) (kn kf5 (ai2 0 1 rfl rfl)) (aQ (vs:=[(0,v13)]) (C:=#[v13,.slice none 0 0]) rH dJ rfl (a7 (C':=[v13,.slice none 0 0]) rfl (bt h18.one) rfl rfl rfl (aa))) rfl ?_
   have rc3:RC aq 2 Φ_9 ([(ob v13++[])++((ob (.slice none 0 0)++[]))]:List (List Nat)) [v13,.slice none 0 0] ([(⟨([x9.1]:List Int),[]⟩:af)]:List af):=RC.cons (c:=[v13,.slice none 0 0]) (cells:=[]) ⟨v13,.slice none 0 0,rfl,rfl,h18,OSl.nil _ _ _ _⟩ rfl (RC.nil _ _ _)
   refine WM.one 17 (by kernel_rfl) (me rfl (fun _ v Φx D w1 hq hw=>Kn.of (kf5.se hq.1) (ai2 0 1 rfl rfl) hw) (aY (vs:=[(0,.agg [v13,.slice none 0 0].toArray)]) (C:=#[v13,.slice none 0 0]) aq.lasts cM dJ rfl rfl rfl rfl (ag lT (a7 (C':=[v13,.slice none 0 0]) rfl rfl rfl rfl rfl (aa))) rfl rc3 rfl (RC.kn aq.knows rc3)) rfl ?_)
   rintro v14 Φ_10 D16 ⟨fr9,h19⟩
   replace h19:OSl aq 103 2 Φ_10 ((ob v13++[])++((ob (.slice none 0 0)++[]))) v14 ([(⟨([x9.1]:List Int),[]⟩:af)]:List af):=by simpa [List.append_assoc] using h19
   replace h1:=h1.f0 fr9
   replace h13:=h13.f0 fr9
   replace h15:=h15.f0 fr9
   replace h16:=h16.f0 fr9
   replace h17:=fr9 _ _ (by simp) h17
   refine WM.conv (S':=St w0 Φ_10 [(b_2,.cells #[.slice none 0 0,.slice none 0 0] 34 (0,0)),(b_1,.cells #[v2,v3] 34 (0,0))] [((ob v13++[])++((ob (.slice none 0 0)++[]))),ob v14,[pb0],ob v11,D14,D13,ob v10,D11,ob v2,D1,ob v3]) (fun w1 hw=>hw.merge (js:=[1]) rfl (SP.eq (by simp [List.append_assoc,bv]))) ?_
   obtain ⟨x10,hx10,h⟩:=bs h
   have kf6:=kf5.se fr9
   refine WM.one 18 (by kernel_rfl) (me rfl (fun _ v Φx D w1 hq hw=>Kn.of (kf6.st hq.1.2 (Dj.app (hq.1.1.r (i:=9) rfl) (Dj.app (hq.1.1.r (i:=6) rfl) (hq.1.1.r (i:=5) rfl)))) (ai2 0 1 rfl rfl) hw) (bU aq.lasts aq.one cM km rfl rfl rfl rfl rfl (js:=[3]) (Rr:=[((ob v13++[])++((ob (.slice none 0 0)++[]))),ob v14,[pb0],D14,D13,ob v10,D11,ob v2,D1,ob v3]) rfl h16 h19 (fun ap=>ap.q 3 rfl) (fun ap=>ap.q 0 rfl) hx10) rfl ?_)
   rintro v15 Φ_11 D17 ⟨⟨ap7,fr10⟩,h20⟩
   replace h1:=h1.fr fr10 (ap7.q 7 rfl) (ap7.q 8 rfl)
   replace h13:=h13.fr fr10 (ap7.q 9 rfl) (ap7.q 6 rfl)
   replace h15:=h15.fr fr10 (ap7.q 5 rfl) (ap7.q 4 rfl)
   replace h17:=fr10 _ _ ((ap7.q 2 rfl) _ (by simp)) h17
   refine WM.conv (S':=St w0 Φ_11 [(b_2,.cells #[.slice none 0 0,.slice none 0 0] 34 (0,0)),(b_1,.cells #[v2,v3] 34 (0,0))] [(D14++((ob v13++[])++((ob (.slice none 0 0)++[])))),ob v15,ob v14,[pb0],D13,ob v10,D11,ob v2,D1,ob v3]) (fun w1 hw=>hw.merge (js:=[4,1]) rfl (SP.eq (by simp))) ?_
   have kf7:=kf6.st fr10 (Dj.app (ap7.q 9 rfl) (Dj.app (ap7.q 6 rfl) (ap7.q 5 rfl)))
   refine mqT 19 [20,21] rfl (by kernel_rfl) (kn kf7 (ai2 0 1 rfl rfl)) (aZ mD rfl rfl h15 hx8) rfl<|mq 20 rfl (by kernel_rfl) (kn kf7 (ai2 0 1 rfl rfl)) (ab dP rfl) rfl ?_
   refine WM.one 21 (by kernel_rfl) (mu rfl (fun hc=>by cases hc) (us [5] [(D14++((ob v13++[])++((ob (.slice none 0 0)++[])))),ob v15,ob v14,[pb0],D13,D11,ob v2,D1,ob v3] 0 aB.lasts y9 rfl rfl h20.one rfl h15 rfl (fun ap=>ap.q 4 rfl)) rfl ?_)
   rintro Φ_12 D18 ⟨⟨ap8,fr11⟩,h21⟩
   replace h1:=h1.fr fr11 (ap8.q 6 rfl) (ap8.q 7 rfl)
   replace h13:=h13.fr fr11 (ap8.q 8 rfl) (ap8.q 5 rfl)
   replace h20:=h20.fr fr11 (ap8.q 1 rfl) (ap8.q 0 rfl)
   replace h17:=fr11 _ _ ((ap8.q 3 rfl) _ (by simp)) h17
   refine WM.nil (by kernel_rfl) ?_
   have r6:aB Φ_12 _ [v15] (⟨x10⟩:aj):=⟨v15,(D14++((ob v13++[])++((ob (.slice none 0 0)++[])))),rfl,rfl,h20⟩
   obtain ⟨D19,h22,sp5⟩:=h21.unfocus r6 (aB.knows _ _ _ _ r6)
   refine wtL [D19,ob v10,ob v14,[pb0],D11,ob v2,D1,ob v3] (smg [2,1,3] rfl (by simpa [List.append_assoc,bv] using sp5)) ?_
   have r7:aM Φ_12 _ [v10] (⟨(x7.Levels.set (0:Int).toNat (⟨x10⟩:aj))⟩:aJ):=⟨v10,D19,rfl,rfl,h22⟩
   obtain ⟨D20,h23,sp6⟩:=h13.unfocus r7 (aM.knows _ _ _ _ r7)
   refine wtL [D20,ob v14,[pb0],ob v2,D1,ob v3] (smg [1,0,2] rfl (by simpa [List.append_assoc,bv] using sp6)) ?_
   exact wo [2,2,2,2,0] [0,0] (K (_,_,_,_,_,_,_,_) ⟨h,h1,h23,h17⟩)
  refine WT.skip ?_
  exact wo [0,0,0,0,0] [0,0] (K (_,_,_,_,_,_,_,_) ⟨h,h1,h2,h3⟩)
 refine att 5 [] rfl ?_
 refine ch h rfl ?_ ?_ <;> intro h
 ·refine atr 3 [1,32] rfl<|lq (aQ (vs:=[]) (C:=#[.slice none 0 0]) Bx oD rfl (aa)) rfl ?_
  have rc4:RC aM 1 Φ_2 ([(ob (.slice none 0 0)++[])]:List (List Nat)) [.slice none 0 0] ([(⟨[]⟩:aJ)]:List aJ):=RC.cons (c:=[.slice none 0 0]) (cells:=[]) ⟨.slice none 0 0,[],rfl,rfl,OSl.nil _ _ _ _⟩ rfl (RC.nil _ _ _)
  refine le' (aY (vs:=[(0,.agg [.slice none 0 0].toArray)]) (C:=#[.slice none 0 0]) aM.lasts pZ oD rfl rfl rfl rfl (ag tK (a7 (C':=[.slice none 0 0]) rfl rfl rfl rfl rfl (aa))) rfl rc4 rfl (RC.kn aM.knows rc4)) rfl ?_
  rintro v16 Φ_13 D21 ⟨fr12,h24⟩
  replace h24:OSl aM 98 1 Φ_13 ((ob (.slice none 0 0)++[])) v16 ([(⟨[]⟩:aJ)]:List aJ):=by simpa [List.append_assoc] using h24
  replace h1:=h1.f0 fr12
  replace h2:=h2.f0 fr12
  replace h3:=fr12 _ _ (by simp) h3
  refine wlL [((ob (.slice none 0 0)++[])),ob v16,[pb0],ob v2,D1,ob v3,D2] (smg [] rfl (SP.eq (by simp [List.append_assoc,bv]))) ?_
  obtain ⟨x11,hx11,h⟩:=bs h
  refine le' (bU aM.lasts aM.one pZ zI rfl rfl rfl rfl rfl (js:=[5]) (Rr:=[((ob (.slice none 0 0)++[])),ob v16,[pb0],ob v2,D1,D2]) rfl h2 h24 (fun ap=>ap.q 5 rfl) (fun ap=>ap.q 0 rfl) hx11) rfl ?_
  rintro v17 Φ_14 D22 ⟨⟨ap9,fr13⟩,h25⟩
  replace h1:=h1.fr fr13 (ap9.q 3 rfl) (ap9.q 4 rfl)
  replace h3:=fr13 _ _ ((ap9.q 2 rfl) _ (by simp)) h3
  refine wlL [(D2++((ob (.slice none 0 0)++[]))),ob v17,ob v16,[pb0],ob v2,D1] (smg [6,1] rfl (SP.eq (by simp)))<|lf lE rfl rfl rfl<|so1 1 zR rfl h25.one ?_
  refine en ?_
  exact wo [3,3,3,1,0] [0,0] (K (_,_,_,_,_,_,_,_) ⟨h,h1,h25,h3⟩)
 refine WT.skip ?_
 exact wo [0,0,0,0,0] [0,0] (K (_,_,_,_,_,_,_,_) ⟨h,h1,h2,h3⟩)
theorem rz (w0:aw Ψ Φ []) (p0:(List Int)) (ph0:RSl (RI .u8) 1 Ψ pG0 pv0 p0) {r:bm × aO × ax × ah × Int} (h:hJ N p0=some r) :
  Calls prog 5 [pv0].toArray w0.w (bg Φ w0.w [] (fun Φ' Fs v=>∃ (sr_0_0:Value) (Dr_0_0:List Nat) (sr_1_0:Value) (Dr_1_0:List Nat) (sr_1_1:Value) (Dr_1_1:List Nat) (sr_2_0:Value) (Dr_2_0:List Nat) (sr_2_1:Value) (Dr_2_1:List Nat) (sr_3_0:Value) (Dr_3_0:List Nat) (X:List Nat),v = .tuple #[.agg [.string r.1.Name,sr_0_0].toArray,.agg [sr_1_0,sr_1_1].toArray,.agg [sr_2_0,sr_2_1].toArray,.agg [sr_3_0,iV r.2.2.2.1.Next].toArray,iV r.2.2.2.2]∧Fs=[ob sr_0_0,Dr_0_0,ob sr_1_0,ob sr_1_1,Dr_1_1,ob sr_2_0,Dr_2_0,ob sr_2_1,Dr_2_1,ob sr_3_0,X]∧OSl cG 120 5 Φ' Dr_0_0 sr_0_0 r.1.Rules∧OSl bl 75 4 Φ' Dr_1_0 sr_1_0 r.2.1.Alphas∧(∀ k∈Dr_1_0,k∈X)∧OSl ay 79 2 Φ' Dr_1_1 sr_1_1 r.2.1.Chains∧OSl aR 44 1 Φ' Dr_2_0 sr_2_0 r.2.2.1.Alphas∧OSl aM 98 1 Φ' Dr_2_1 sr_2_1 r.2.2.1.Rules∧OSl bh 69 3 Φ' Dr_3_0 sr_3_0 r.2.2.2.1.Items∧(∀ k∈Dr_3_0,k∈X))):=by
 refine eN func5 rfl ntmps5 rfl w0 fun hF=>?_
 unfold hJ at h
 refine sr<|lnz tj rfl fun b_1=>lnz nj rfl fun b_2=>lnz jE rfl fun b_3=>lnz w8 rfl fun b_4=>arr 5 [] rfl<|kab h rfl rfl rfl (fun b z q=>wZ N b p0 (ph0.y z) q) ?_
 rintro x1 h v1 Φ_1 F1 ⟨ap1,fr1,b_5,v2,G1,rfl,rfl,h1,i1,h2⟩
 refine arr 5 [] rfl<|kcb [0] h rfl rfl rfl rfl (fun b ap z q=>uk N b x1 (h1.x (Dj.sub (ap.o ph0.old) i1)) h2 q) ?_
 rintro x2 h v3 Φ_2 F2 ⟨ap2,fr2,v4,D1,v5,D2,v6,D3,v7,D4,v8,D5,v9,D6,X1,rfl,rfl,h3,h4,i2,h5,h6,h7,h8,i3,e1,h9⟩
 replace h1:=h1.fr fr2 (Dj.sub (ap2.o ph0.old) i1)
 refine arr 5 [] rfl<|lnz tj rfl fun b_6=>lnz nj rfl fun b_7=>lnz jE rfl fun b_8=>lnz w8 rfl fun b_9=>soN 3 u6 rfl ⟨rfl,h3.one,trivial⟩ rfl ?_
 refine soN 2 o0 rfl ⟨h4.one,h5.one,trivial⟩ rfl ?_
 refine soN 1 kj rfl ⟨h6.one,h7.one,trivial⟩ rfl ?_
 refine soN 0 xV rfl ⟨h8.one,rfl,trivial⟩ rfl ?_
 refine arr 4 [] rfl<|kcb [10] h rfl rfl rfl rfl (fun b ap z q=>qX N b (⟨x1.b,x2.2.2.2.2.i,x2.2.2.2.2.h⟩:a8) (h1.x (Dj.sub (ap.o ph0.old) i1)) h9 q) ?_
 rintro x4 h v10 Φ_3 F3 ⟨ap3,fr3,v11,rfl,rfl,h10,e2,h11⟩
 replace h1:=h1.fr fr3 (Dj.sub (ap3.o ph0.old) i1)
 replace h3:=h3.fr fr3 (ap3.q 0 rfl) (ap3.q 1 rfl)
 replace h4:=h4.fr fr3 (ap3.q 2 rfl) (Dj.sub (ap3.q 10 rfl) i2)
 replace h5:=h5.fr fr3 (ap3.q 3 rfl) (ap3.q 4 rfl)
 replace h6:=h6.fr fr3 (ap3.q 5 rfl) (ap3.q 6 rfl)
 replace h7:=h7.fr fr3 (ap3.q 7 rfl) (ap3.q 8 rfl)
 replace h8:=h8.fr fr3 (ap3.q 9 rfl) (Dj.sub (ap3.q 10 rfl) i3)
 refine lnz j9 rfl fun b_10=>soN 0 jL rfl ⟨rfl,h10.one,trivial⟩ rfl ?_
 refine arr 5 [34] rfl<|kcb [1] h rfl rfl rfl rfl (fun b ap z q=>xI N b (⟨x1.b,x4.2.i,x4.2.h⟩:a8) x2.2.2.2.1 (h1.x (Dj.sub (ap.o ph0.old) i1)) h11 (h8.rsl.x (Dj.app (ap.q 10 rfl) (Dj.sub (ap.q 11 rfl) i3))) q) ?_
 rintro x5 h v12 Φ_4 F4 ⟨ap4,fr4,rfl,rfl,e3,h12⟩
 replace h1:=h1.fr fr4 (Dj.sub (ap4.o ph0.old) i1)
 replace h3:=h3.fr fr4 (ap4.q 1 rfl) (ap4.q 2 rfl)
 replace h4:=h4.fr fr4 (ap4.q 3 rfl) (Dj.sub (ap4.q 11 rfl) i2)
 replace h5:=h5.fr fr4 (ap4.q 4 rfl) (ap4.q 5 rfl)
 replace h6:=h6.fr fr4 (ap4.q 6 rfl) (ap4.q 7 rfl)
 replace h7:=h7.fr fr4 (ap4.q 8 rfl) (ap4.q 9 rfl)
 replace h8:=h8.fr fr4 (ap4.q 10 rfl) (Dj.sub (ap4.q 11 rfl) i3)
 replace h10:=h10.fr fr4 (ap4.q 0 rfl) dN
 refine arr 7 [34,2] rfl<|qc h (nV N · x2.2.2.2.1 x4.1 h8.rsl h10.rsl ·) rfl rfl rfl fun x6 h=>la rfl<|en<|wt0 ?_
 refine cut (σ:=Hp × List Nat × (List aP) × Value × List Nat × Int × Int) (fun s=>[(2,pQ b_1),(3,pQ b_2),(4,pQ b_3),(5,pQ b_4),(7,pQ b_5),(8,pQ b_6),(9,pQ b_7),(10,pQ b_8),(11,pQ b_9),(13,iV s.2.2.2.2.2.1)]) (fun s=>St w0 s.1 [(b_9,.cells #[s.2.2.2.1,iV s.2.2.2.2.2.2] 37 (0,0)),(b_8,.cells #[v7,v8] 34 (0,0)),(b_7,.cells #[v5,v6] 30 (0,0)),(b_6,.cells #[.string x2.1.Name,v4] 26 (0,0)),(b_4,.cells #[.slice none 0 0,iV 0] 37 (0,0)),(b_3,.cells #[.slice none 0 0,.slice none 0 0] 34 (0,0)),(b_2,.cells #[.slice none 0 0,.slice none 0 0] 30 (0,0)),(b_1,.cells #[.string (⟨#[]⟩:ByteArray),.slice none 0 0] 26 (0,0))] [s.2.1,[b_5],ob v4,D1,ob v5,ob v6,D3,ob v7,D4,ob v8,D5,ob s.2.2.2.1,X1]) (fun s=>dM N x1 x2 x5 s.2.2.1 s.2.2.2.2.2.1 s.2.2.2.2.2.2=some r∧(OSl cG 120 5 s.1 D1 v4 x2.1.Rules)∧(OSl bl 75 4 s.1 D2 v5 x2.2.1.Alphas)∧(OSl ay 79 2 s.1 D3 v6 x2.2.1.Chains)∧(OSl aR 44 1 s.1 D4 v7 x2.2.2.1.Alphas)∧(OSl aM 98 1 s.1 D5 v8 x2.2.2.1.Rules)∧(OSl bh 69 3 s.1 s.2.2.2.2.1 s.2.2.2.1 s.2.2.1)∧(∀ k∈s.2.2.2.2.1,k∈(X1++s.2.1))∧(s.1 b_5=some (.cells #[v2,iV x5.2.i,iV x5.2.h] 82 (0,0)))∧(RSl (RI .u8) 1 s.1 G1 v2 x1.b)) (fun s hm=>?_) (fun K=>?_)
 ·clear h
  obtain ⟨Φ_5,X2,s1,u1,D7,s2,s3⟩:=s
  obtain ⟨h,h3,h4,h5,h6,h7,k1,i4,k2,h1⟩:=hm
  dsimp only at h h3 h4 h5 h6 h7 k1 i4 k2 h1 ⊢
  unfold dM at h
  refine atr 4 [] rfl<|kcb [1] h rfl rfl rfl rfl (fun b ap z q=>aL N b (⟨x1.b,x5.2.i,x5.2.h⟩:a8) 12 (h1.x (Dj.sub (ap.o ph0.old) i1)) k2 q) ?_
  rintro x7 h v13 Φ_6 F5 ⟨ap5,fr5,rfl,rfl,e4,h13⟩
  replace h1:=h1.fr fr5 (Dj.sub (ap5.o ph0.old) i1)
  replace h3:=h3.fr fr5 (ap5.q 1 rfl) (ap5.q 2 rfl)
  replace h4:=h4.fr fr5 (ap5.q 3 rfl) (Dj.sub (ap5.q 11 rfl) i2)
  replace h5:=h5.fr fr5 (ap5.q 4 rfl) (ap5.q 5 rfl)
  replace h6:=h6.fr fr5 (ap5.q 6 rfl) (ap5.q 7 rfl)
  replace h7:=h7.fr fr5 (ap5.q 8 rfl) (ap5.q 9 rfl)
  replace k1:=k1.fr fr5 (ap5.q 10 rfl) (Dj.sub (Dj.app (ap5.q 11 rfl) (ap5.q 0 rfl)) i4)
  refine art 7 [] rfl<|wt0 ?_
  refine cut (σ:=Hp × List Nat × (List ai) × Value × List Nat × (List ao) × Value × List Nat × (List bk) × Value × List Nat × (List aJ) × Value × List Nat × Int) (fun s=>[(2,pQ b_1),(3,pQ b_2),(4,pQ b_3),(5,pQ b_4),(8,pQ b_6),(9,pQ b_7),(10,pQ b_8),(11,pQ b_9),(13,iV s.2.2.2.2.2.2.2.2.2.2.2.2.2.2)]) (fun s=>St w0 s.1 [(b_9,.cells #[u1,iV s3] 37 (0,0)),(b_8,.cells #[s.2.2.2.2.2.2.2.2.2.1,s.2.2.2.2.2.2.2.2.2.2.2.2.1] 34 (0,0)),(b_7,.cells #[s.2.2.2.1,s.2.2.2.2.2.2.1] 30 (0,0)),(b_6,.cells #[.string x2.1.Name,v4] 26 (0,0)),(b_4,.cells #[.slice none 0 0,iV 0] 37 (0,0)),(b_3,.cells #[.slice none 0 0,.slice none 0 0] 34 (0,0)),(b_2,.cells #[.slice none 0 0,.slice none 0 0] 30 (0,0)),(b_1,.cells #[.string (⟨#[]⟩:ByteArray),.slice none 0 0] 26 (0,0))] [s.2.1,X2,ob v4,D1,ob s.2.2.2.1,ob s.2.2.2.2.2.2.1,s.2.2.2.2.2.2.2.1,ob s.2.2.2.2.2.2.2.2.2.1,s.2.2.2.2.2.2.2.2.2.2.1,ob s.2.2.2.2.2.2.2.2.2.2.2.2.1,s.2.2.2.2.2.2.2.2.2.2.2.2.2.1,ob u1,X1]) (fun s=>bK N x2 s1 s3 s.2.2.1 s.2.2.2.2.2.1 s.2.2.2.2.2.2.2.2.1 s.2.2.2.2.2.2.2.2.2.2.2.1 s.2.2.2.2.2.2.2.2.2.2.2.2.2.2=some r∧(OSl cG 120 5 s.1 D1 v4 x2.1.Rules)∧(OSl bl 75 4 s.1 s.2.2.2.2.1 s.2.2.2.1 s.2.2.1)∧(∀ k∈s.2.2.2.2.1,k∈(X1++s.2.1))∧(OSl ay 79 2 s.1 s.2.2.2.2.2.2.2.1 s.2.2.2.2.2.2.1 s.2.2.2.2.2.1)∧(OSl aR 44 1 s.1 s.2.2.2.2.2.2.2.2.2.2.1 s.2.2.2.2.2.2.2.2.2.1 s.2.2.2.2.2.2.2.2.1)∧(OSl aM 98 1 s.1 s.2.2.2.2.2.2.2.2.2.2.2.2.2.1 s.2.2.2.2.2.2.2.2.2.2.2.2.1 s.2.2.2.2.2.2.2.2.2.2.2.1)∧(OSl bh 69 3 s.1 D7 u1 s1)) (fun s hm=>?_) (fun K=>?_)
  ·clear h
   obtain ⟨Φ_7,X3,s4,u2,D8,s5,u3,D9,s6,u4,D10,s7,u5,D11,s8⟩:=s
   obtain ⟨h,h3,k3,i5,k4,k5,k6,k1⟩:=hm
   dsimp only at h h3 k3 i5 k4 k5 k6 k1 ⊢
   unfold bK at h
   refine ib<|sq<|wm [0,1,2,3] [] rfl<|amm 5 [0,98,1,66,2,34,3,2,4] [0,1,2,3] rfl rfl ?_
   refine on1 5 (msK 7 [0,1,2,3] rfl u6 rfl ⟨rfl,h3.one,trivial⟩ rfl rfl ?_)
   refine on1 6 (msK 6 [0,1,2,3] rfl o0 rfl ⟨k3.one,k4.one,trivial⟩ rfl rfl ?_)
   refine on1 7 (msK 5 [0,1,2,3] rfl kj rfl ⟨k5.one,k6.one,trivial⟩ rfl rfl ?_)
   refine on1 8 (msK 4 [0,1,2,3] rfl xV rfl ⟨k1.one,rfl,trivial⟩ rfl rfl ?_)
   refine amm 1 [9] [0,1,2,3] rfl rfl<|WM.nil (by kernel_rfl) ?_
   refine WT.ret hF (az.five (aX zh rfl (fun w1 hw=>hw.rgO (i:=7) rfl 0 2 [.string x2.1.Name,v4] rfl) rfl) (aX uU rfl (fun w1 hw=>hw.rgO (i:=6) rfl 0 2 [u2,u3] rfl) rfl) (aX tc rfl (fun w1 hw=>hw.rgO (i:=5) rfl 0 2 [u4,u5] rfl) rfl) (aX pV rfl (fun w1 hw=>hw.rgO (i:=4) rfl 0 2 [u1,iV s3] rfl) rfl) rfl) (fun w1 hw=>?_)
   cases h
   replace hw:=hw.merge (js:=[12,0,0]) (F:=[X1,X3,X2].flatten) rfl (SP.eq (by simp))
   refine bc (js:=[1,1,1,1,1,1,1,1,1,1,0]) hw rfl ⟨v4,D1,u2,D8,u3,D9,u4,D10,u5,D11,u1,D7,[X1,X3,X2].flatten,rfl,rfl,h3,k3,(fun k hk=>((List.mem_append.1 (i5 k hk)).elim (fun h=>(List.mem_flatten.2 ⟨X1,by simp,h⟩)) (fun h=>(List.mem_flatten.2 ⟨X3,by simp,h⟩)))),k4,k5,k6,k1,(fun k hk=>((List.mem_append.1 (i4 k hk)).elim (fun h=>(List.mem_flatten.2 ⟨X1,by simp,h⟩)) (fun h=>(List.mem_flatten.2 ⟨X2,by simp,h⟩))))⟩
  refine ch h rfl ?_ ?_ <;> intro h
  ·refine atr 3 [66] rfl<|kcb [1] h rfl rfl rfl rfl (fun b ap z q=>uO N b (⟨x1.b,x7.2.i,x7.2.h⟩:a8) x2.2.1 (h1.x (Dj.sub (ap.o ph0.old) i1)) h13 (h4.rsl.x (Dj.app (ap.q 4 rfl) (Dj.sub (ap.q 12 rfl) i2))) ((h5.rslG ay.gives).x (Dj.app (ap.q 5 rfl) (ap.q 6 rfl))) q) ?_
   rintro x8 h v14 Φ_8 F6 ⟨ap6,fr6,v15,D12,v16,D13,rfl,rfl,h14,h15,e5,h16⟩
   replace h3:=h3.fr fr6 (ap6.q 2 rfl) (ap6.q 3 rfl)
   replace h4:=h4.fr fr6 (ap6.q 4 rfl) (Dj.sub (ap6.q 12 rfl) i2)
   replace h5:=h5.fr fr6 (ap6.q 5 rfl) (ap6.q 6 rfl)
   replace h6:=h6.fr fr6 (ap6.q 7 rfl) (ap6.q 8 rfl)
   replace h7:=h7.fr fr6 (ap6.q 9 rfl) (ap6.q 10 rfl)
   replace k1:=k1.fr fr6 (ap6.q 11 rfl) (Dj.sub (Dj.app (ap6.q 12 rfl) (ap6.q 1 rfl)) i4)
   refine soN 2 o0 rfl ⟨h14.one,h15.one,trivial⟩ rfl ?_
   refine en ?_
   replace h14:=h14.gives bb.gives
   refine wtL [([]++(D12)),ob v15,ob v16,D13,[b_5],X2,ob v4,D1,ob v5,ob v6,D3,ob v7,D4,ob v8,D5,ob u1,X1] (smg [5,1] rfl (SP.eq (by simp [List.append_assoc]))) ?_
   exact wo [0,4,4,4,0,0,0,4,4,4,4,4,4] [0,0,0,0,0,0,0,0] (K (_,_,_,_,_,_,_,_,_,_,_,_,_,_,_) ⟨h,h3,h14,(fun k hk=>(List.mem_append.2 (.inr ((fun k hk=>(List.mem_append.2 (.inr hk))) k hk)))),h15,h6,h7,k1⟩)
  refine att 5 [] rfl ?_
  refine ch h rfl ?_ ?_ <;> intro h
  ·refine atr 3 [34] rfl<|kcb [1] h rfl rfl rfl rfl (fun b ap z q=>tV N b (⟨x1.b,x7.2.i,x7.2.h⟩:a8) x2.2.2.1 (h1.x (Dj.sub (ap.o ph0.old) i1)) h13 ((h6.rslG aR.gives).x (Dj.app (ap.q 7 rfl) (ap.q 8 rfl))) ((h7.rslG aM.gives).x (Dj.app (ap.q 9 rfl) (ap.q 10 rfl))) q) ?_
   rintro x9 h v17 Φ_9 F7 ⟨ap7,fr7,v18,D14,v19,D15,rfl,rfl,h17,h18,e6,h19⟩
   replace h3:=h3.fr fr7 (ap7.q 2 rfl) (ap7.q 3 rfl)
   replace h4:=h4.fr fr7 (ap7.q 4 rfl) (Dj.sub (ap7.q 12 rfl) i2)
   replace h5:=h5.fr fr7 (ap7.q 5 rfl) (ap7.q 6 rfl)
   replace h6:=h6.fr fr7 (ap7.q 7 rfl) (ap7.q 8 rfl)
   replace h7:=h7.fr fr7 (ap7.q 9 rfl) (ap7.q 10 rfl)
   replace k1:=k1.fr fr7 (ap7.q 11 rfl) (Dj.sub (Dj.app (ap7.q 12 rfl) (ap7.q 1 rfl)) i4)
   refine soN 1 kj rfl ⟨h17.one,h18.one,trivial⟩ rfl ?_
   refine en ?_
   exact wo [5,5,5,5,5,5,5,0,0,0,0,5,5] [0,0,0,0,0,0,0,0] (K (_,_,_,_,_,_,_,_,_,_,_,_,_,_,_) ⟨h,h3,h4,(fun k hk=>(List.mem_append.2 (.inl (i2 k hk)))),h5,h17,h18,k1⟩)
  refine att 5 [] rfl ?_
  refine ch h rfl ?_ ?_ <;> intro h
  ·refine atr 2 [] rfl<|kcb [1] h rfl rfl rfl rfl (fun b ap z q=>aL N b (⟨x1.b,x7.2.i,x7.2.h⟩:a8) 30 (h1.x (Dj.sub (ap.o ph0.old) i1)) h13 q) ?_
   rintro x10 h v20 Φ_10 F8 ⟨ap8,fr8,rfl,rfl,e7,h20⟩
   replace h3:=h3.fr fr8 (ap8.q 2 rfl) (ap8.q 3 rfl)
   replace h4:=h4.fr fr8 (ap8.q 4 rfl) (Dj.sub (ap8.q 12 rfl) i2)
   replace h5:=h5.fr fr8 (ap8.q 5 rfl) (ap8.q 6 rfl)
   replace h6:=h6.fr fr8 (ap8.q 7 rfl) (ap8.q 8 rfl)
   replace h7:=h7.fr fr8 (ap8.q 9 rfl) (ap8.q 10 rfl)
   replace k1:=k1.fr fr8 (ap8.q 11 rfl) (Dj.sub (Dj.app (ap8.q 12 rfl) (ap8.q 1 rfl)) i4)
   refine la rfl<|en ?_
   exact wo [1,1,1,1,1,1,1,1,1,1,1,1,1] [0,0,0,0,0,0,0,0] (K (_,_,_,_,_,_,_,_,_,_,_,_,_,_,_) ⟨h,h3,h4,(fun k hk=>(List.mem_append.2 (.inl (i2 k hk)))),h5,h6,h7,k1⟩)
  refine WT.skip ?_
  exact wo [0,1,1,1,1,1,1,1,1,1,1,1,1] [0,0,0,0,0,0,0,0] (K (_,_,_,_,_,_,_,_,_,_,_,_,_,_,_) ⟨h,h3,h4,(fun k hk=>(List.mem_append.2 (.inl (i2 k hk)))),h5,h6,h7,k1⟩)
 refine ch h rfl ?_ ?_ <;> intro h
 ·refine atr 2 [2] rfl ?_
  refine WL.frz (js:=[1]) (R:=[(b_10,.cells #[.string x4.1.Kind,v11] 47 (0,0)),(b_8,.cells #[v7,v8] 34 (0,0)),(b_7,.cells #[v5,v6] 30 (0,0)),(b_6,.cells #[.string x2.1.Name,v4] 26 (0,0)),(b_4,.cells #[.slice none 0 0,iV 0] 37 (0,0)),(b_3,.cells #[.slice none 0 0,.slice none 0 0] 34 (0,0)),(b_2,.cells #[.slice none 0 0,.slice none 0 0] 30 (0,0)),(b_1,.cells #[.string (⟨#[]⟩:ByteArray),.slice none 0 0] 26 (0,0))]) rfl (fun Φ_11 fr9 k7=>?_)
  replace h1:=h1.f0 fr9
  replace h3:=h3.f0 fr9
  replace h4:=h4.f0 fr9
  replace h5:=h5.f0 fr9
  replace h6:=h6.f0 fr9
  replace h7:=h7.f0 fr9
  replace h8:=h8.f0 fr9
  replace h10:=h10.f0 fr9
  replace h12:=fr9 _ _ (by simp) h12
  refine kcb [0,12] h rfl rfl rfl rfl (fun b ap z q=>pO N b x2.2.2.2.1 x4.1 h8 k7 (h10.rsl.x (Dj.app (ap.q 2 rfl) dN)) (Dj.sub (ap.q 12 rfl) i3) q) ?_
  rintro x11 h v21 Φ_12 F9 ⟨ap9,fr10,v22,D16,X4,rfl,rfl,h21,i6,h22⟩
  replace h1:=h1.fr fr10 (Dj.sub (ap9.o ph0.old) i1)
  replace h3:=h3.fr fr10 (ap9.q 3 rfl) (ap9.q 4 rfl)
  replace h4:=h4.fr fr10 (ap9.q 5 rfl) (Dj.sub (ap9.q 12 rfl) i2)
  replace h5:=h5.fr fr10 (ap9.q 6 rfl) (ap9.q 7 rfl)
  replace h6:=h6.fr fr10 (ap9.q 8 rfl) (ap9.q 9 rfl)
  replace h7:=h7.fr fr10 (ap9.q 10 rfl) (ap9.q 11 rfl)
  replace h12:=fr10 _ _ ((ap9.q 1 rfl) _ (by simp)) h12
  refine la rfl<|en ?_
  refine WT.thw (js:=[0]) (R:=[ob v22,X4,[],[b_5],ob v11,ob v4,D1,ob v5,ob v6,D3,ob v7,D4,ob v8,D5,X1]) rfl h22 (fun Φ_13 ap10 fr11=>?_)
  replace h1:=h1.fr fr11 (Dj.sub (ap10.o ph0.old) i1)
  replace h3:=h3.fr fr11 (ap10.q 5 rfl) (ap10.q 6 rfl)
  replace h21:=h21.fr fr11 (ap10.q 0 rfl) (Dj.sub (Dj.app (ap10.q 1 rfl) (Dj.sub (ap10.q 14 rfl) i3)) i6)
  replace h4:=h4.fr fr11 (ap10.q 7 rfl) (Dj.sub (ap10.q 14 rfl) i2)
  replace h5:=h5.fr fr11 (ap10.q 8 rfl) (ap10.q 9 rfl)
  replace h6:=h6.fr fr11 (ap10.q 10 rfl) (ap10.q 11 rfl)
  replace h7:=h7.fr fr11 (ap10.q 12 rfl) (ap10.q 13 rfl)
  replace h12:=fr11 _ _ ((ap10.q 3 rfl) _ (by simp)) h12
  refine wtL [([]++(X4)),ob v22,[b_5],ob v11,ob v4,D1,ob v5,ob v6,D3,ob v7,D4,ob v8,D5,X1] (smg [2,1] rfl (SP.eq (by simp [List.append_assoc]))) ?_
  exact wo [0,1,2,2,2,2,2,2,2,2,2,0,1] [0,1,1,1,1,1,1,1] (K (_,_,_,_,_,_,_) ⟨h,h3,h4,h5,h6,h7,h21,(fun k hk=>((List.mem_append.1 (i6 k hk)).elim (fun h=>(List.mem_append.2 (.inr ((fun k hk=>(List.mem_append.2 (.inr hk))) k h)))) (fun h=>(List.mem_append.2 (.inl (i3 k h)))))),h12,h1⟩)
 refine WT.skip ?_
 exact wo [0,0,1,1,1,1,1,1,1,1,1,1,1] [1,1,1,1,1,1,1,1] (K (_,_,_,_,_,_,_) ⟨h,h3,h4,h5,h6,h7,h8,(fun k hk=>(List.mem_append.2 (.inl (i3 k hk)))),h12,h1⟩)
theorem eV (w0:aw Ψ Φ []) (p0:(List Int)) (ph0:RSl (RI .i64) 1 Ψ pG0 pv0 p0) {r:(List Int)} (h:bN N p0=some r) :
  Calls prog 45 [pv0].toArray w0.w (bg Φ w0.w [] (fun Φ' Fs v=>∃ (sr_0_0:Value),v=sr_0_0∧Fs=[ob sr_0_0]∧OSl (RI .i64) 3 1 Φ' [] sr_0_0 r)):=by
 refine eN func45 rfl ntmps45 rfl w0 fun hF=>?_
 unfold bN at h
 refine att 6 [] rfl ?_
 rcases RSl.nilOr ph0 with ⟨hxs1,cc1,hv1⟩ | ⟨a1,cc1,hv1⟩
 ·replace h:some []=some r:=by simpa [hxs1,app] using h
  refine atr 2 [] rfl<|lq (l5 aW (congrArg some hv1) rfl) rfl<|en ?_
  refine cd rfl (fun c=>?_) (fun c=>by simp at c)
  refine att 4 [] rfl ?_
  refine WT.ret hF (az.one rfl) (fun w1 hw=>?_)
  cases h
  replace hw:=hw.addNil
  refine bc (js:=[0]) hw rfl ⟨.slice none 0 0,rfl,rfl,OSl.nil _ _ _ _⟩
 refine atr 2 [] rfl<|lq (l5 aW (congrArg some hv1) rfl) rfl<|en ?_
 refine cd rfl (fun c=>by simp at c) (fun c=>?_)
 refine atr 3 [] rfl<|le' (dI (R:=RI .i64) RI.lasts aW gB rfl rfl) rfl ?_
 rintro v1 Φ_1 D1 ⟨fr1,h1⟩
 refine la rfl<|lu0 ph0 fun h2=>?_
 obtain ⟨x1,hx1,h⟩:=bs h
 refine le' (bB RI.lasts RI.one RI.flat aW jw rfl rfl rfl rfl rfl (js:=[0]) (Rr:=[]) rfl h1 h2 hx1) rfl ?_
 rintro v2 Φ_2 D2 ⟨⟨ap1,fr2⟩,h3⟩
 refine la rfl<|en ?_
 exact rtg [0] hF (az.one rfl) rfl (by cases h; exact fun w1 hw=>⟨v2,rfl,rfl,h3⟩)
theorem uG (w0:aw Ψ Φ []) (p0:ax) (ph0_0:RSl gp 1 Ψ pG0_0 pv0_0 p0.Alphas) (ph0_1:RSl jx 1 Ψ pG0_1 pv0_1 p0.Rules) {r:ax} (h:lJ N p0=some r) :
  Calls prog 20 [.agg [pv0_0,pv0_1].toArray].toArray w0.w (bg Φ w0.w [] (fun Φ' Fs v=>∃ (sr_0_0:Value) (Dr_0_0:List Nat) (sr_0_1:Value) (Dr_0_1:List Nat),v = .agg [sr_0_0,sr_0_1].toArray∧Fs=[ob sr_0_0,Dr_0_0,ob sr_0_1,Dr_0_1]∧OSl aR 44 1 Φ' Dr_0_0 sr_0_0 r.Alphas∧OSl aM 98 1 Φ' Dr_0_1 sr_0_1 r.Rules)):=by
 refine eN func20 rfl ntmps20 rfl w0 fun hF=>?_
 unfold lJ at h
 refine sr<|lbx rfl fun b_1=>lnz jE rfl fun b_2=>en<|sr<|lnz jE rfl fun b_3=>arr 6 [0,64] rfl<|lnr ph0_0 rfl<|art 3 [] rfl<|wtS<|wt0 ?_
 have k1:=OSl.nil aR 44 1 Φ
 refine lin (σ:=Hp × (List bk) × Value × List Nat × Int) (fun s=>[(1,pQ b_1),(2,pQ b_2),(3,pQ b_3),(15,pv0_0),(16,iV (p0.Alphas.length:Int)),(17,iV s.2.2.2.2)]) (fun s=>St w0 s.1 [(b_3,.cells #[s.2.2.1,.slice none 0 0] 34 (0,0)),(b_2,.cells #[.slice none 0 0,.slice none 0 0] 34 (0,0)),(b_1,.cells #[pv0_0,pv0_1] 34 (0,0))] [s.2.2.2.1,ob s.2.2.1]) (fun m s=>fD N p0 m s.2.1 s.2.2.2.2=some r∧(OSl aR 44 1 s.1 s.2.2.2.1 s.2.2.1 s.2.1)) (Φ,([]:List bk),(.slice none 0 0),[],0) N ⟨h,k1⟩ (sx [0,0] [0,0,0]) (fun n1 ih1 s hm=>?_)
 obtain ⟨Φ_1,s1,u1,D1,s2⟩:=s
 obtain ⟨h,k2⟩:=hm
 dsimp only at h k2 ⊢
 unfold fD at h
 refine att 5 [] rfl ?_
 refine ch h rfl ?_ ?_ <;> intro h
 ·refine atr 5 [] rfl ?_
  obtain ⟨x1,hx1,h⟩:=bs h
  obtain ⟨cs1,F1,-,g1,hb1,hs1,r1⟩:=ph0_0.el (a9 hx1).2.2
  obtain ⟨v1,G1,rfl,hq1,h1⟩:=r1
  obtain rfl:=hq1.symm
  refine lia ph0_0 hx1 rfl<|lhx 0 1 g1 rfl ?_
  refine ln (jP (C:=#[.slice none 0 0]) uc rfl) rfl (fun b_4=>?_)
  refine soN 0 FV rfl ⟨h1.one,trivial⟩ rfl ?_
  refine en<|wm [0,1,2,3] [9] rfl<|amm 4 [0,0,1,32,2,0,3,0] [0,1,2,3] rfl rfl ?_
  obtain ⟨x2,hx2,h⟩:=bs h
  refine WM.one 4 (by kernel_rfl) (mc rfl (fun _ v Φx D w1 hq hw=>Kn.of Kf.nil (am [0,1,2,3] rfl) hw) (bZ (js:=[]) (R:=[D1,ob u1]) yJ rfl rfl (fun w1 hw ap hl=>eV N (ba hw.fro) x1.L (h1.y hw.up)  hx2)) rfl ?_)
  rintro v2 Φ_2 F2 ⟨ap1,fr1,v3,rfl,rfl,h2⟩
  replace k2:=k2.fr fr1 (ap1.q 1 rfl) (ap1.q 0 rfl)
  refine mq 5 rfl (by kernel_rfl) (kN [0,1,2,3]) (aQ (vs:=[(0,v2)]) (C:=#[v2]) B9 uc rfl (a7 (C':=[v2]) rfl (bt h2.one) rfl rfl rfl (aa))) rfl ?_
  have rc1:RC aR 1 Φ_2 ([(ob v2++[])]:List (List Nat)) [v2] ([(⟨x2⟩:bk)]:List bk):=RC.cons (c:=[v2]) (cells:=[]) ⟨v2,rfl,rfl,h2⟩ rfl (RC.nil _ _ _)
  refine WM.one 6 (by kernel_rfl) (me rfl (fun _ v Φx D w1 hq hw=>Kn.of Kf.nil (am [0,1,2,3] rfl) hw) (aY (vs:=[(0,.agg [v2].toArray)]) (C:=#[v2]) aR.lasts jR uc rfl rfl rfl rfl (ag xh (a7 (C':=[v2]) rfl rfl rfl rfl rfl (aa))) rfl rc1 rfl (RC.kn aR.knows rc1)) rfl ?_)
  rintro v4 Φ_3 D2 ⟨fr2,h3⟩
  replace h3:OSl aR 44 1 Φ_3 ((ob v2++[])) v4 ([(⟨x2⟩:bk)]:List bk):=by simpa [List.append_assoc] using h3
  replace k2:=k2.f0 fr2
  refine WM.conv (S':=St w0 Φ_3 [(b_4,.cells #[v1] 44 (0,0)),(b_3,.cells #[u1,.slice none 0 0] 34 (0,0)),(b_2,.cells #[.slice none 0 0,.slice none 0 0] 34 (0,0)),(b_1,.cells #[pv0_0,pv0_1] 34 (0,0))] [((ob v2++[])),ob v4,D1,ob u1]) (fun w1 hw=>hw.merge (js:=[1]) rfl (SP.eq (by simp [List.append_assoc,bv]))) ?_
  obtain ⟨x3,hx3,h⟩:=bs h
  refine WM.one 7 (by kernel_rfl) (me rfl (fun _ v Φx D w1 hq hw=>Kn.of Kf.nil (am [0,1,2,3] rfl) hw) (bU aR.lasts aR.one jR C8 rfl rfl rfl rfl rfl (js:=[3]) (Rr:=[((ob v2++[])),ob v4,D1]) rfl k2 h3 (fun ap=>ap.q 2 rfl) (fun ap=>ap.q 0 rfl) hx3) rfl ?_)
  rintro v5 Φ_4 D3 ⟨⟨ap2,fr3⟩,h4⟩
  refine WM.conv (S':=St w0 Φ_4 [(b_4,.cells #[v1] 44 (0,0)),(b_3,.cells #[u1,.slice none 0 0] 34 (0,0)),(b_2,.cells #[.slice none 0 0,.slice none 0 0] 34 (0,0)),(b_1,.cells #[pv0_0,pv0_1] 34 (0,0))] [(D1++((ob v2++[]))),ob v5,ob v4]) (fun w1 hw=>hw.merge (js:=[3,1]) rfl (SP.eq (by simp)))<|amm 1 [8,0] [0,1,2,3] rfl rfl ?_
  refine on1 9 (ms1 1 rfl nk AP rfl h4.one ?_)
  refine WM.nil (by kernel_rfl)<|att 5 [] rfl ?_
  exact lb [0,0] [1,1,1] (ih1 (_,_,_,_,_) ⟨h,h4⟩)
 refine atr 6 [1,64] rfl<|lnr ph0_1 rfl<|art 3 [] rfl<|wtS<|wt0 ?_
 have k3:=OSl.nil aM 98 1 Φ_1
 refine lin (σ:=Hp × (List aJ) × Value × List Nat × Int) (fun s=>[(2,pQ b_2),(3,pQ b_3),(32,pv0_1),(33,iV (p0.Rules.length:Int)),(34,iV s.2.2.2.2)]) (fun s=>St w0 s.1 [(b_3,.cells #[u1,s.2.2.1] 34 (0,0)),(b_2,.cells #[.slice none 0 0,.slice none 0 0] 34 (0,0))] [s.2.2.2.1,ob s.2.2.1,D1,ob u1]) (fun m s=>cR N p0 s1 m s.2.1 s.2.2.2.2=some r∧(OSl aR 44 1 s.1 D1 u1 s1)∧(OSl aM 98 1 s.1 s.2.2.2.1 s.2.2.1 s.2.1)) (Φ_1,([]:List aJ),(.slice none 0 0),[],0) N ⟨h,k2,k3⟩ (sx [0,0,0,0] [0,0]) (fun n2 ih2 s hm=>?_)
 obtain ⟨Φ_5,s3,u2,D4,s4⟩:=s
 obtain ⟨h,k2,k4⟩:=hm
 dsimp only at h k2 k4 ⊢
 unfold cR at h
 refine att 5 [] rfl ?_
 refine ch h rfl ?_ ?_ <;> intro h
 ·refine atr 5 [] rfl ?_
  obtain ⟨x4,hx4,h⟩:=bs h
  obtain ⟨cs2,F3,-,g2,hb2,hs2,r2⟩:=ph0_1.el (a9 hx4).2.2
  obtain ⟨v6,G2,rfl,hq2,h5⟩:=r2
  obtain rfl:=hq2.symm
  refine lia ph0_1 hx4 rfl<|lhx 0 1 g2 rfl ?_
  refine ln (jP (C:=#[.slice none 0 0]) oD rfl) rfl (fun b_5=>?_)
  refine soN 0 yk rfl ⟨h5.one,trivial⟩ rfl ?_
  refine en<|sr ?_
  refine ln (jP (C:=#[.slice none 0 0]) oD rfl) rfl (fun b_6=>?_)
  refine arr 6 [0,32] rfl<|lnr h5 rfl<|art 3 [] rfl<|wtS<|wt0 ?_
  have k5:=OSl.nil aB 101 1 Φ_5
  refine lin (σ:=Hp × (List aj) × Value × List Nat × Int) (fun s=>[(2,pQ b_2),(3,pQ b_3),(8,pQ b_6),(32,pv0_1),(33,iV (p0.Rules.length:Int)),(34,iV s4),(39,v6),(40,iV (x4.Levels.length:Int)),(41,iV s.2.2.2.2)]) (fun s=>St w0 s.1 [(b_6,.cells #[s.2.2.1] 98 (0,0)),(b_3,.cells #[u1,u2] 34 (0,0)),(b_2,.cells #[.slice none 0 0,.slice none 0 0] 34 (0,0))] [s.2.2.2.1,ob s.2.2.1,D4,ob u2,D1,ob u1]) (fun m s=>dk N s3 s4 (cR N p0 s1 n2) x4 m s.2.1 s.2.2.2.2=some r∧(OSl aR 44 1 s.1 D1 u1 s1)∧(OSl aM 98 1 s.1 D4 u2 s3)∧(OSl aB 101 1 s.1 s.2.2.2.1 s.2.2.1 s.2.1)) (Φ_5,([]:List aj),(.slice none 0 0),[],0) N ⟨h,k2,k4,k5⟩ (sx [0,0,0,0,0,0] [0,1,1]) (fun n3 ih3 s hm=>?_)
  obtain ⟨Φ_6,s5,u3,D5,s6⟩:=s
  obtain ⟨h,k2,k4,k6⟩:=hm
  dsimp only at h k2 k4 k6 ⊢
  unfold dk at h
  refine att 5 [] rfl ?_
  refine ch h rfl ?_ ?_ <;> intro h
  ·refine atr 5 [] rfl ?_
   obtain ⟨x5,hx5,h⟩:=bs h
   obtain ⟨cs3,F4,-,g3,hb3,hs3,r3⟩:=h5.el (a9 hx5).2.2
   obtain ⟨v7,G3,rfl,hq3,h6⟩:=r3
   obtain rfl:=hq3.symm
   refine lia h5 hx5 rfl<|lhx 0 1 g3 rfl ?_
   refine ln (jP (C:=#[.slice none 0 0]) qe rfl) rfl (fun b_7=>?_)
   refine soN 0 Bq rfl ⟨h6.one,trivial⟩ rfl ?_
   refine en<|sr ?_
   refine ln (jP (C:=#[.slice none 0 0]) qe rfl) rfl (fun b_8=>?_)
   refine arr 6 [0,32] rfl<|lnr h6 rfl<|art 3 [] rfl<|wtS<|wt0 ?_
   have k7:=OSl.nil aq 103 2 Φ_6
   refine lin (σ:=Hp × (List af) × Value × List Nat × Int) (fun s=>[(2,pQ b_2),(3,pQ b_3),(8,pQ b_6),(11,pQ b_8),(32,pv0_1),(33,iV (p0.Rules.length:Int)),(34,iV s4),(39,v6),(40,iV (x4.Levels.length:Int)),(41,iV s6),(46,v7),(47,iV (x5.Toks.length:Int)),(48,iV s.2.2.2.2)]) (fun s=>St w0 s.1 [(b_8,.cells #[s.2.2.1] 101 (0,0)),(b_6,.cells #[u3] 98 (0,0)),(b_3,.cells #[u1,u2] 34 (0,0)),(b_2,.cells #[.slice none 0 0,.slice none 0 0] 34 (0,0))] [s.2.2.2.1,ob s.2.2.1,D5,ob u3,D4,ob u2,D1,ob u1]) (fun m s=>eH N s5 s6 (dk N s3 s4 (cR N p0 s1 n2) x4 n3) x5 m s.2.1 s.2.2.2.2=some r∧(OSl aR 44 1 s.1 D1 u1 s1)∧(OSl aM 98 1 s.1 D4 u2 s3)∧(OSl aB 101 1 s.1 D5 u3 s5)∧(OSl aq 103 2 s.1 s.2.2.2.1 s.2.2.1 s.2.1)) (Φ_6,([]:List af),(.slice none 0 0),[],0) N ⟨h,k2,k4,k6,k7⟩ (sx [0,0,0,0,0,0,0,0] [0,1,1,1]) (fun n4 ih4 s hm=>?_)
   obtain ⟨Φ_7,s7,u4,D6,s8⟩:=s
   obtain ⟨h,k2,k4,k6,k8⟩:=hm
   dsimp only at h k2 k4 k6 k8 ⊢
   unfold eH at h
   refine att 5 [] rfl ?_
   refine ch h rfl ?_ ?_ <;> intro h
   ·refine atr 5 [] rfl ?_
    obtain ⟨x6,hx6,h⟩:=bs h
    obtain ⟨cs4,F5,-,g4,hb4,hs4,r4⟩:=h6.el (a9 hx6).2.2
    obtain ⟨v8,G4,v9,G5,rfl,rfl,h7,h8⟩:=r4
    refine lia h6 hx6 rfl<|lhx 0 2 g4 rfl<|lnz dJ rfl fun b_9=>soN 0 qy rfl ⟨h7.one,h8.one,trivial⟩ rfl ?_
    refine en<|wm [0,1,2,3,4] [12] rfl<|amm 6 [0,0,1,32,2,0,3,0,5,1,6,0] [0,1,2,3,4] rfl rfl ?_
    obtain ⟨x7,hx7,h⟩:=bs h
    refine WM.one 4 (by kernel_rfl) (mc rfl (fun _ v Φx D w1 hq hw=>Kn.of Kf.nil (am [0,1,2,3,4] rfl) hw) (bZ (js:=[]) (R:=[D6,ob u4,D5,ob u3,D4,ob u2,D1,ob u1]) yJ rfl rfl (fun w1 hw ap hl=>eV N (ba hw.fro) x6.Ids (h7.y hw.up)  hx7)) rfl ?_)
    rintro v10 Φ_8 F6 ⟨ap3,fr4,v11,rfl,rfl,h9⟩
    replace k2:=k2.fr fr4 (ap3.q 7 rfl) (ap3.q 6 rfl)
    replace k4:=k4.fr fr4 (ap3.q 5 rfl) (ap3.q 4 rfl)
    replace k6:=k6.fr fr4 (ap3.q 3 rfl) (ap3.q 2 rfl)
    replace k8:=k8.fr fr4 (ap3.q 1 rfl) (ap3.q 0 rfl)
    obtain ⟨x8,hx8,h⟩:=bs h
    refine WM.one 7 (by kernel_rfl) (mc rfl (fun _ v Φx D w1 hq hw=>Kn.of Kf.nil (am [0,1,2,3,4] rfl) hw) (bZ (js:=[]) (R:=[ob v10,D6,ob u4,D5,ob u3,D4,ob u2,D1,ob u1]) yJ rfl rfl (fun w1 hw ap hl=>eV N (ba hw.fro) x6.Hits (h8.y hw.up)  hx8)) rfl ?_)
    rintro v12 Φ_9 F7 ⟨ap4,fr5,v13,rfl,rfl,h10⟩
    replace k2:=k2.fr fr5 (ap4.q 8 rfl) (ap4.q 7 rfl)
    replace k4:=k4.fr fr5 (ap4.q 6 rfl) (ap4.q 5 rfl)
    replace k6:=k6.fr fr5 (ap4.q 4 rfl) (ap4.q 3 rfl)
    replace k8:=k8.fr fr5 (ap4.q 2 rfl) (ap4.q 1 rfl)
    replace h9:=h9.fr fr5 (ap4.q 0 rfl) dN
    refine mq 8 rfl (by kernel_rfl) (kN [0,1,2,3,4]) (aQ (vs:=[(0,v10),(1,v12)]) (C:=#[v10,v12]) rH dJ rfl (a7 (C':=[v10,.slice none 0 0]) rfl (bt h9.one) rfl rfl rfl (a7 (C':=[v10,v12]) rfl (bt h10.one) rfl rfl rfl (aa)))) rfl ?_
    have rc2:RC aq 2 Φ_9 ([(ob v10++[])++((ob v12++[]))]:List (List Nat)) [v10,v12] ([(⟨x7,x8⟩:af)]:List af):=RC.cons (c:=[v10,v12]) (cells:=[]) ⟨v10,v12,rfl,rfl,h9,h10⟩ rfl (RC.nil _ _ _)
    refine WM.one 9 (by kernel_rfl) (me rfl (fun _ v Φx D w1 hq hw=>Kn.of Kf.nil (am [0,1,2,3,4] rfl) hw) (aY (vs:=[(0,.agg [v10,v12].toArray)]) (C:=#[v10,v12]) aq.lasts cM dJ rfl rfl rfl rfl (ag lT (a7 (C':=[v10,v12]) rfl rfl rfl rfl rfl (aa))) rfl rc2 rfl (RC.kn aq.knows rc2)) rfl ?_)
    rintro v14 Φ_10 D7 ⟨fr6,h11⟩
    replace h11:OSl aq 103 2 Φ_10 ((ob v10++[])++((ob v12++[]))) v14 ([(⟨x7,x8⟩:af)]:List af):=by simpa [List.append_assoc] using h11
    replace k2:=k2.f0 fr6
    replace k4:=k4.f0 fr6
    replace k6:=k6.f0 fr6
    replace k8:=k8.f0 fr6
    refine WM.conv (S':=St w0 Φ_10 [(b_9,.cells #[v8,v9] 103 (0,0)),(b_8,.cells #[u4] 101 (0,0)),(b_6,.cells #[u3] 98 (0,0)),(b_3,.cells #[u1,u2] 34 (0,0)),(b_2,.cells #[.slice none 0 0,.slice none 0 0] 34 (0,0))] [((ob v10++[])++((ob v12++[]))),ob v14,D6,ob u4,D5,ob u3,D4,ob u2,D1,ob u1]) (fun w1 hw=>hw.merge (js:=[2,1]) rfl (SP.eq (by simp [List.append_assoc,bv]))) ?_
    obtain ⟨x9,hx9,h⟩:=bs h
    refine WM.one 10 (by kernel_rfl) (me rfl (fun _ v Φx D w1 hq hw=>Kn.of Kf.nil (am [0,1,2,3,4] rfl) hw) (bU aq.lasts aq.one cM km rfl rfl rfl rfl rfl (js:=[3]) (Rr:=[((ob v10++[])++((ob v12++[]))),ob v14,D6,D5,ob u3,D4,ob u2,D1,ob u1]) rfl k8 h11 (fun ap=>ap.q 2 rfl) (fun ap=>ap.q 0 rfl) hx9) rfl ?_)
    rintro v15 Φ_11 D8 ⟨⟨ap5,fr7⟩,h12⟩
    replace k2:=k2.fr fr7 (ap5.q 8 rfl) (ap5.q 7 rfl)
    replace k4:=k4.fr fr7 (ap5.q 6 rfl) (ap5.q 5 rfl)
    replace k6:=k6.fr fr7 (ap5.q 4 rfl) (ap5.q 3 rfl)
    refine WM.conv (S':=St w0 Φ_11 [(b_9,.cells #[v8,v9] 103 (0,0)),(b_8,.cells #[u4] 101 (0,0)),(b_6,.cells #[u3] 98 (0,0)),(b_3,.cells #[u1,u2] 34 (0,0)),(b_2,.cells #[.slice none 0 0,.slice none 0 0] 34 (0,0))] [(D6++((ob v10++[])++((ob v12++[])))),ob v15,ob v14,D5,ob u3,D4,ob u2,D1,ob u1]) (fun w1 hw=>hw.merge (js:=[3,1]) rfl (SP.eq (by simp)))<|amm 1 [11,0] [0,1,2,3,4] rfl rfl ?_
    refine on1 12 (ms1 1 rfl nk y9 rfl h12.one ?_)
    refine WM.nil (by kernel_rfl)<|att 5 [] rfl ?_
    exact lb [0,0,1,1,1,1,1,1] [1,1,1,1] (ih4 (_,_,_,_,_) ⟨h,k2,k4,k6,h12⟩)
   refine atr 4 [0,32] rfl<|lq (aI Ff rfl (fun w1 hw=>hw.rgO (i:=0) rfl 0 1 [u4] rfl) rfl) rfl ?_
   have rc3:RC aB 1 Φ_7 ([(ob u4++D6)]:List (List Nat)) [u4] ([(⟨s7⟩:aj)]:List aj):=RC.cons (c:=[u4]) (cells:=[]) ⟨u4,D6,rfl,rfl,k8⟩ rfl (RC.nil _ _ _)
   refine le' (aY (vs:=[(0,.agg [u4].toArray)]) (C:=#[u4]) aB.lasts mD qe rfl rfl rfl rfl (ag ur (a7 (C':=[u4]) rfl rfl rfl rfl rfl (aa))) rfl rc3 rfl (RC.kn aB.knows rc3)) rfl ?_
   rintro v16 Φ_12 D9 ⟨fr8,h13⟩
   replace h13:OSl aB 101 1 Φ_12 ((ob u4++D6)) v16 ([(⟨s7⟩:aj)]:List aj):=by simpa [List.append_assoc] using h13
   replace k2:=k2.f0 fr8
   replace k4:=k4.f0 fr8
   replace k6:=k6.f0 fr8
   refine wlL [((ob u4++D6)),ob v16,D5,ob u3,D4,ob u2,D1,ob u1] (smg [2,1] rfl (SP.eq (by simp [List.append_assoc,bv]))) ?_
   obtain ⟨x10,hx10,h⟩:=bs h
   refine le' (bU aB.lasts aB.one mD yL rfl rfl rfl rfl rfl (js:=[3]) (Rr:=[((ob u4++D6)),ob v16,D5,D4,ob u2,D1,ob u1]) rfl k6 h13 (fun ap=>ap.q 2 rfl) (fun ap=>ap.q 0 rfl) hx10) rfl ?_
   rintro v17 Φ_13 D10 ⟨⟨ap6,fr9⟩,h14⟩
   replace k2:=k2.fr fr9 (ap6.q 6 rfl) (ap6.q 5 rfl)
   replace k4:=k4.fr fr9 (ap6.q 4 rfl) (ap6.q 3 rfl)
   refine wlL [(D5++((ob u4++D6))),ob v17,ob v16,D4,ob u2,D1,ob u1] (smg [3,1] rfl (SP.eq (by simp)))<|lf gZ rfl rfl rfl<|so1 1 AR rfl h14.one ?_
   refine art 6 [] rfl ?_
   exact lb [0,0,1,1,1,1] [1,1,1] (ih3 (_,_,_,_,_) ⟨h,k2,k4,h14⟩)
  refine atr 4 [1,32] rfl<|lq (aI BF rfl (fun w1 hw=>hw.rgO (i:=0) rfl 0 1 [u3] rfl) rfl) rfl ?_
  have rc4:RC aM 1 Φ_6 ([(ob u3++D5)]:List (List Nat)) [u3] ([(⟨s5⟩:aJ)]:List aJ):=RC.cons (c:=[u3]) (cells:=[]) ⟨u3,D5,rfl,rfl,k6⟩ rfl (RC.nil _ _ _)
  refine le' (aY (vs:=[(0,.agg [u3].toArray)]) (C:=#[u3]) aM.lasts pZ oD rfl rfl rfl rfl (ag tK (a7 (C':=[u3]) rfl rfl rfl rfl rfl (aa))) rfl rc4 rfl (RC.kn aM.knows rc4)) rfl ?_
  rintro v18 Φ_14 D11 ⟨fr10,h15⟩
  replace h15:OSl aM 98 1 Φ_14 ((ob u3++D5)) v18 ([(⟨s5⟩:aJ)]:List aJ):=by simpa [List.append_assoc] using h15
  replace k2:=k2.f0 fr10
  replace k4:=k4.f0 fr10
  refine wlL [((ob u3++D5)),ob v18,D4,ob u2,D1,ob u1] (smg [2,1] rfl (SP.eq (by simp [List.append_assoc,bv]))) ?_
  obtain ⟨x11,hx11,h⟩:=bs h
  refine le' (bU aM.lasts aM.one pZ zI rfl rfl rfl rfl rfl (js:=[3]) (Rr:=[((ob u3++D5)),ob v18,D4,D1,ob u1]) rfl k4 h15 (fun ap=>ap.q 2 rfl) (fun ap=>ap.q 0 rfl) hx11) rfl ?_
  rintro v19 Φ_15 D12 ⟨⟨ap7,fr11⟩,h16⟩
  replace k2:=k2.fr fr11 (ap7.q 4 rfl) (ap7.q 3 rfl)
  refine wlL [(D4++((ob u3++D5))),ob v19,ob v18,D1,ob u1] (smg [3,1] rfl (SP.eq (by simp)))<|lf lE rfl rfl rfl<|so1 1 zR rfl h16.one ?_
  refine art 6 [] rfl ?_
  exact lb [0,0,1,1] [1,1] (ih2 (_,_,_,_,_) ⟨h,k2,h16⟩)
 refine atr 4 [2] rfl<|soN 1 kj rfl ⟨k2.one,k4.one,trivial⟩ rfl ?_
 refine en ?_
 exact rtg [3,2,1,0] hF (az.one (aX tc rfl (fun w1 hw=>hw.rgO (i:=1) rfl 0 2 [u1,u2] rfl) rfl)) rfl (by cases h; exact fun w1 hw=>⟨u1,D1,u2,D4,rfl,rfl,k2,k4⟩)
theorem nB (w0:aw Ψ Φ []) (p0:(List bn)) (ph0:RSl aH 3 Ψ pG0 pv0 p0) {r:(List bn)} (h:eP N p0=some r) :
  Calls prog 59 [pv0].toArray w0.w (bg Φ w0.w [] (fun Φ' Fs v=>∃ (sr_0_0:Value),v=sr_0_0∧Fs=[ob sr_0_0]∧OSl aH 91 3 Φ' [] sr_0_0 r)):=by
 refine eN func59 rfl ntmps59 rfl w0 fun hF=>?_
 unfold eP at h
 refine att 6 [] rfl ?_
 rcases RSl.nilOr ph0 with ⟨hxs1,cc1,hv1⟩ | ⟨a1,cc1,hv1⟩
 ·replace h:some []=some r:=by simpa [hxs1,app] using h
  refine atr 2 [] rfl<|lq (l5 fT (congrArg some hv1) rfl) rfl<|en ?_
  refine cd rfl (fun c=>?_) (fun c=>by simp at c)
  refine att 4 [] rfl ?_
  refine WT.ret hF (az.one rfl) (fun w1 hw=>?_)
  cases h
  replace hw:=hw.addNil
  refine bc (js:=[0]) hw rfl ⟨.slice none 0 0,rfl,rfl,OSl.nil _ _ _ _⟩
 refine atr 2 [] rfl<|lq (l5 fT (congrArg some hv1) rfl) rfl<|en ?_
 refine cd rfl (fun c=>by simp at c) (fun c=>?_)
 refine atr 3 [] rfl<|le' (dI aH.lasts fT jk rfl rfl) rfl ?_
 rintro v1 Φ_1 D1 ⟨fr1,h1⟩
 refine la rfl<|lu0 ph0 fun h2=>?_
 obtain ⟨x1,hx1,h⟩:=bs h
 refine le' (bB aH.lasts aH.one aH.flat fT vY rfl rfl rfl rfl rfl (js:=[0]) (Rr:=[]) rfl h1 h2 hx1) rfl ?_
 rintro v2 Φ_2 D2 ⟨⟨ap1,fr2⟩,h3⟩
 refine la rfl<|en ?_
 exact rtg [0] hF (az.one rfl) rfl (by cases h; exact fun w1 hw=>⟨v2,rfl,rfl,h3⟩)
theorem tu (w0:aw Ψ Φ []) (p0:aA) (ph0_0:RSl aH 3 Ψ pG0_0 pv0_0 p0.Fields) {r:aA} (h:kl N p0=some r) :
  Calls prog 26 [.agg [.string p0.Kind,pv0_0].toArray].toArray w0.w (bg Φ w0.w [] (fun Φ' Fs v=>∃ (sr_0_0:Value),v = .agg [.string r.Kind,sr_0_0].toArray∧Fs=[ob sr_0_0]∧OSl aH 91 3 Φ' [] sr_0_0 r.Fields)):=by
 refine eN func26 rfl ntmps26 rfl w0 fun hF=>?_
 unfold kl at h
 refine sr<|lbx rfl fun b_1=>lnz j9 rfl fun b_2=>en<|sq<|wm [0,1] [6] rfl<|amm 4 [0,0,1,32,2,1,3,32] [0,1] rfl rfl ?_
 obtain ⟨x1,hx1,h⟩:=bs h
 refine WM.one 4 (by kernel_rfl) (mc rfl (fun _ v Φx D w1 hq hw=>Kn.of Kf.nil (ai2 0 1 rfl rfl) hw) (bZ (js:=[]) (R:=[]) Ej rfl rfl (fun w1 hw ap hl=>nB N (ba hw.fro) p0.Fields (ph0_0.y hw.up)  hx1)) rfl ?_)
 rintro v1 Φ_1 F1 ⟨ap1,fr1,v2,rfl,rfl,h1⟩
 refine mq 5 rfl (by kernel_rfl) (kN [0,1]) (aQ (vs:=[(0,.string p0.Kind),(1,v1)]) (C:=#[.string p0.Kind,v1]) zJ j9 rfl (a7 (C':=[.string p0.Kind,.slice none 0 0]) rfl rfl rfl rfl rfl (a7 (C':=[.string p0.Kind,v1]) rfl (bt h1.one) rfl rfl rfl (aa)))) rfl ?_
 refine on1 6 (msN 0 rfl nk jL rfl ⟨rfl,h1.one,trivial⟩ rfl rfl ?_)
 refine WM.nil (by kernel_rfl) ?_
 exact rtg [0] hF (az.one (aX ni rfl (fun w1 hw=>hw.rgO (i:=0) rfl 0 2 [.string p0.Kind,v1] rfl) rfl)) rfl (by cases h; exact fun w1 hw=>⟨v1,rfl,rfl,h1⟩)
theorem jl (w0:aw Ψ Φ []) (p0:ah) (p1:Int) (ph0_0:RSl bh 3 Ψ pG0_0 pv0_0 p0.Items) {r:aA × Bool} (h:gL N p0 p1=some r) :
  Calls prog 9 [.agg [pv0_0,iV p0.Next].toArray,iV p1].toArray w0.w (bg Φ w0.w [] (fun Φ' Fs v=>∃ (sr_0_0:Value),v = .tuple #[.agg [.string r.1.Kind,sr_0_0].toArray,.bool r.2]∧Fs=[ob sr_0_0]∧OSl aH 91 3 Φ' [] sr_0_0 r.1.Fields)):=by
 refine eN func9 rfl ntmps9 rfl w0 fun hF=>?_
 unfold gL at h
 refine sr<|lbx rfl fun b_1=>lnz j9 rfl fun b_2=>arr 7 [0,32] rfl<|lnr ph0_0 rfl<|art 3 [] rfl ?_
 refine lin (σ:=Int) (fun s=>[(1,iV p1),(4,pQ b_2),(9,pv0_0),(10,iV (p0.Items.length:Int)),(11,iV s)]) (fun s=>St w0 Φ [(b_2,.cells #[.string (⟨#[]⟩:ByteArray),.slice none 0 0] 47 (0,0))] []) (fun m s=>fk N p0 p1 m s=some r) (0) N h (sx [] [0]) (fun n1 ih1 s hm=>?_)
 revert hm; revert s; intro s1 hm
 have h:fk N p0 p1 (n1+1) s1=some r:=hm
 show WT _ _ [(1,iV p1),(4,pQ b_2),(9,pv0_0),(10,iV (p0.Items.length:Int)),(11,iV s1)] (St w0 Φ [(b_2,.cells #[.string (⟨#[]⟩:ByteArray),.slice none 0 0] 47 (0,0))] [])
 unfold fk at h
 refine att 5 [] rfl ?_
 refine ch h rfl ?_ ?_ <;> intro h
 ·refine atr 5 [] rfl ?_
  obtain ⟨x1,hx1,h⟩:=bs h
  obtain ⟨cs1,F1,-,g1,hb1,hs1,r1⟩:=ph0_0.el (a9 hx1).2.2
  obtain ⟨v1,G1,rfl,hq1,h1⟩:=r1
  obtain rfl:=hq1.symm
  refine lia ph0_0 hx1 rfl<|lhx 0 3 g1 rfl<|lnz sm rfl fun b_3=>soN 0 xZ rfl ⟨rfl,rfl,h1.one,trivial⟩ rfl ?_
  refine art 8 [0,0] rfl ?_
  refine ch h rfl ?_ ?_ <;> intro h
  ·refine atr 4 [1,2] rfl<|kab h rfl rfl rfl (fun b z q=>tu N b x1.F (h1.y z) q) ?_
   rintro x2 h v2 Φ_1 F2 ⟨ap1,fr1,v3,rfl,rfl,h2⟩
   refine soN 1 jL rfl ⟨rfl,h2.one,trivial⟩ rfl ?_
   refine la rfl<|en ?_
   exact rtg [0] hF (az.two (aX ni rfl (fun w1 hw=>hw.rgO (i:=1) rfl 0 2 [.string x2.Kind,v3] rfl) rfl) rfl) rfl (by cases h; exact fun w1 hw=>⟨v3,rfl,rfl,h2⟩)
  refine att 6 [] rfl ?_
  exact lb [] [1] (ih1 _ h)
 refine xt rfl<|sr<|lq (aQ (vs:=[]) (C:=#[.string (⟨#[]⟩:ByteArray),.slice none 0 0]) zJ j9 rfl (aa)) rfl<|soN 0 jL rfl ⟨rfl,rfl,trivial⟩ rfl ?_
 refine la rfl<|en ?_
 refine WT.ret hF (az.two (aX ni rfl (fun w1 hw=>hw.rgO (i:=0) rfl 0 2 [.string (⟨#[]⟩:ByteArray),.slice none 0 0] rfl) rfl) rfl) (fun w1 hw=>?_)
 cases h
 replace hw:=hw.addNil
 refine bc (js:=[0]) hw rfl ⟨.slice none 0 0,rfl,rfl,OSl.nil _ _ _ _⟩
theorem qv  (w0:aw Ψ Φ []) (p0:Int)  {r:Bool} (h:iF N p0=some r) :
  CB w0 prog 87 [.int .u8 p0] (.bool r):=by
 refine eN func87 rfl ntmps87 rfl w0 fun hF=>?_
 unfold iF at h
 refine atr 9 [] rfl ?_
 obtain ⟨b1,hb_1,h⟩:=bs h
 refine WL.cutN 3 [(8,.bool b1),(2,.bool false)] ?_ (fun K=>?_)
 rotate_left
 ·refine sp 5 hb_1 rfl (fun hb_1=>?_) fun hb_1=>?_
  ·refine arr 3 [] rfl ?_
   cases hb_1
   exact ku K
  ·refine arr 3 [] rfl ?_
   cases hb_1
   exact ku K
 refine la rfl<|en ?_
 exact rt hF h
theorem uf  (w0:aw Ψ Φ []) (p0:Int)  {r:Bool} (h:o4 N p0=some r) :
  CB w0 prog 140 [.int .u8 p0] (.bool r):=by
 refine eN func140 rfl ntmps140 rfl w0 fun hF=>?_
 unfold o4 at h
 refine atr 9 [] rfl ?_
 obtain ⟨b1,hb_1,h⟩:=bs h
 refine WL.cutN 3 [(8,.bool b1),(2,.bool false)] ?_ (fun K=>?_)
 rotate_left
 ·refine sp 5 hb_1 rfl (fun hb_1=>?_) fun hb_1=>?_
  ·refine arr 3 [] rfl ?_
   cases hb_1
   exact ku K
  ·refine arr 3 [] rfl ?_
   cases hb_1
   exact ku K
 refine la rfl<|en ?_
 exact rt hF h
theorem o3  (w0:aw Ψ Φ []) (p0:Int)  {r:Bool} (h:gA N p0=some r) :
  CB w0 prog 119 [.int .u8 p0] (.bool r):=by
 refine eN func119 rfl ntmps119 rfl w0 fun hF=>?_
 unfold gA at h
 refine atr 7 [] rfl<|qc h (qv N · p0 ·) rfl rfl rfl fun x1 h=>la rfl ?_
 obtain ⟨b1,hb_1,h⟩:=bs h
 refine WL.cutN 3 [(8,.bool b1),(0,.int .u8 p0),(2,.bool false)] ?_ (fun K=>?_)
 rotate_left
 ·refine sp 5 hb_1 rfl (fun hb_1=>?_) fun hb_1=>?_
  ·refine arr 3 [] rfl ?_
   cases hb_1
   exact ku K
  ·refine ly rfl rfl<|la rfl<|ly rfl rfl<|qc hb_1 (uf N · p0 ·) rfl rfl rfl fun x2 hb_1=>la rfl ?_
   cases hb_1
   exact ku K
 refine la rfl ?_
 obtain ⟨b2,hb_2,h⟩:=bs h
 refine WL.cutN 3 [(12,.bool b2),(2,.bool false)] ?_ (fun K=>?_)
 rotate_left
 ·refine sp 9 hb_2 rfl (fun hb_2=>?_) fun hb_2=>?_
  ·refine arr 3 [] rfl ?_
   cases hb_2
   exact ku K
  ·refine arr 3 [] rfl ?_
   cases hb_2
   exact ku K
 refine la rfl<|en ?_
 exact rt hF h
theorem rh  (w0:aw Ψ Φ []) (p0:ByteArray) (p1:Int)  {r:Bool} (h:kP N p0 p1=some r) :
  CB w0 prog 88 [.string p0,iV p1] (.bool r):=by
 refine eN func88 rfl ntmps88 rfl w0 fun hF=>?_
 unfold kP at h
 refine atr 8 [] rfl<|lq (lX j7 rfl rfl) rfl<|art 3 [] rfl ?_
 refine ch h rfl ?_ ?_ <;> intro h
 ·refine att 4 [] rfl ?_
  exact rt hF h
 refine att 7 [] rfl ?_
 refine lin (σ:=Int) (fun s=>[(0,.string p0),(5,iV s)]) (fun s=>St w0 Φ [] []) (fun m s=>ec N p0 m s=some r) (0) N h (sx [] []) (fun n1 ih1 s hm=>?_)
 revert hm; revert s; intro s1 hm
 have h:ec N p0 (n1+1) s1=some r:=hm
 show WT _ _ [(0,.string p0),(5,iV s1)] (St w0 Φ [] [])
 unfold ec at h
 refine atr 5 [] rfl<|lq (lX j7 rfl rfl) rfl<|la rfl<|en ?_
 refine ch h rfl ?_ ?_ <;> intro h
 ·refine atr 7 [] rfl ?_
  obtain ⟨y1,hy1,h⟩:=bs h
  refine lq (jh j7 rfl rfl hy1) rfl<|qc h (o3 N · (y1.toNat:Int) ·) rfl rfl rfl fun x1 h=>la rfl<|en ?_
  refine ch h rfl ?_ ?_ <;> intro h
  ·refine att 4 [] rfl ?_
   exact rt hF h
  refine att 7 [] rfl ?_
  exact lb [] [] (ih1 _ h)
 refine att 5 [] rfl ?_
 exact rt hF h
theorem ig  (w0:aw Ψ Φ []) (p0:ByteArray)  {r:Bool} (h:fF N p0=some r) :
  CB w0 prog 60 [.string p0] (.bool r):=by
 refine eN func60 rfl ntmps60 rfl w0 fun hF=>?_
 unfold fF at h
 refine atr 7 [] rfl<|lq (lX j7 rfl rfl) rfl<|arr 2 [] rfl ?_
 obtain ⟨b1,hb_1,h⟩:=bs h
 refine WL.cutN 4 [(10,.bool b1),(0,.string p0),(2,.bool false)] ?_ (fun K=>?_)
 rotate_left
 ·refine sp 6 hb_1 rfl (fun hb_1=>?_) fun hb_1=>?_
  ·refine ly rfl rfl<|la rfl<|ly rfl rfl ?_
   obtain ⟨y1,hy1,hb_1⟩:=bs hb_1
   refine lq (jh j7 rfl rfl hy1) rfl<|ly rfl rfl<|qc hb_1 (qv N · (y1.toNat:Int) ·) rfl rfl rfl fun x1 hb_1=>la rfl ?_
   cases hb_1
   exact ku K
  ·refine arr 4 [] rfl ?_
   cases hb_1
   exact ku K
 refine la rfl ?_
 obtain ⟨b2,hb_2,h⟩:=bs h
 refine WL.cutN 3 [(14,.bool b2),(2,.bool false)] ?_ (fun K=>?_)
 rotate_left
 ·refine sp 11 hb_2 rfl (fun hb_2=>?_) fun hb_2=>?_
  ·refine ly rfl rfl<|la rfl<|ly rfl rfl<|qc hb_2 (rh N · p0 12 ·) rfl rfl rfl fun x2 hb_2=>la rfl ?_
   cases hb_2
   exact ku K
  ·refine arr 3 [] rfl ?_
   cases hb_2
   exact ku K
 refine la rfl<|en ?_
 exact rt hF h
theorem cw  (w0:aw Ψ Φ []) (p0:Int) (p1:Int) (p2:Int)  {r:Bool} (h:cn N p0 p1 p2=some r) :
  CB w0 prog 61 [iV p0,iV p1,iV p2] (.bool r):=by
 refine eN func61 rfl ntmps61 rfl w0 fun hF=>?_
 unfold cn at h
 refine atr 10 [] rfl ?_
 obtain ⟨b1,hb_1,h⟩:=bs h
 refine WL.cutN 4 [(14,.bool b1),(6,.bool false)] ?_ (fun K=>?_)
 rotate_left
 ·refine sp 10 hb_1 rfl (fun hb_1=>?_) fun hb_1=>?_
  ·refine arr 4 [] rfl ?_
   cases hb_1
   exact ku K
  ·refine arr 4 [] rfl ?_
   cases hb_1
   exact ku K
 refine la rfl<|en ?_
 exact rt hF h
theorem m7 (w0:aw Ψ Φ []) (p0:an) (ph0_0:RSl bW 3 Ψ pG0_0 pv0_0 p0.Pats) (ph0_1:RSl bL 11 Ψ pG0_1 pv0_1 p0.Conds) (ph0_2:RSl fS 5 Ψ pG0_2 pv0_2 p0.Acts) {r:Int} (h:gW N p0=some r) :
  CB w0 prog 92 [.agg [.string p0.Name,iV p0.Sal,pv0_0,pv0_1,pv0_2].toArray] (iV r):=by
 refine eN func92 rfl ntmps92 rfl w0 fun hF=>?_
 unfold gW at h
 refine sr<|lbx rfl fun b_1=>arr 11 [2,0] rfl<|lnr ph0_0 rfl<|art 3 [] rfl ?_
 refine lin (σ:=Int × Int) (fun s=>[(3,iV s.1),(7,pv0_0),(8,iV (p0.Pats.length:Int)),(9,iV s.2)]) (fun s=>St w0 Φ [] []) (fun m s=>cV N p0 m s.1 s.2=some r) (0,0) N h (sx [] []) (fun n1 ih1 s hm=>?_)
 obtain ⟨s1,s2⟩:=s
 have h:cV N p0 (n1+1) s1 s2=some r:=hm
 show WT _ _ [(3,iV s1),(7,pv0_0),(8,iV (p0.Pats.length:Int)),(9,iV s2)] (St w0 Φ [] [])
 unfold cV at h
 refine att 5 [] rfl ?_
 refine ch h rfl ?_ ?_ <;> intro h
 ·refine atr 5 [] rfl ?_
  obtain ⟨x1,hx1,h⟩:=bs h
  obtain ⟨cs1,F1,-,g1,hb1,hs1,r1⟩:=ph0_0.el (a9 hx1).2.2
  obtain ⟨v1,G1,rfl,hq1,h1⟩:=r1
  obtain rfl:=hq1.symm
  refine lia ph0_0 hx1 rfl<|lhx 0 3 g1 rfl<|lnz jY rfl fun b_2=>soN 0 od rfl ⟨rfl,h1.one,rfl,trivial⟩ rfl ?_
  refine art 7 [2,0] rfl ?_
  refine ch h rfl ?_ ?_ <;> intro h
  ·refine att 10 [] rfl ?_
   exact lb [] [] (ih1 (_,_) h)
  refine att 6 [] rfl ?_
  exact lb [] [] (ih1 (_,_) h)
 refine att 6 [] rfl ?_
 exact rt hF h
theorem rO  (w0:aw Ψ Φ []) (p0:bn)  {r:Bool} (h:jJ N p0=some r) :
  CB w0 prog 110 [.agg [iV p0.K,iV p0.N,.string p0.S].toArray] (.bool r):=by
 refine eN func110 rfl ntmps110 rfl w0 fun hF=>?_
 unfold jJ at h
 refine sr<|lbx rfl fun b_1=>art 14 [0,0] rfl ?_
 refine ch h rfl ?_ ?_ <;> intro h
 ·refine atr 4 [1,0] rfl<|qc h (cw N · p0.N (-1000000000) 1000000000 ·) rfl rfl rfl fun x1 h=>la rfl ?_
  obtain ⟨b1,hb_1,h⟩:=bs h
  refine WL.cutN 4 [(14,.bool b1),(2,.bool false)] ?_ (fun K=>?_)
  rotate_left
  ·refine sp 10 hb_1 rfl (fun hb_1=>?_) fun hb_1=>?_
   ·refine arr 4 [2,0] rfl ?_
    cases hb_1
    exact ku K
   ·refine arr 4 [] rfl ?_
    cases hb_1
    exact ku K
  refine la rfl<|en ?_
  exact rt hF h
 refine att 5 [] rfl ?_
 refine ch h rfl ?_ ?_ <;> intro h
 ·refine atr 6 [1,0] rfl ?_
  obtain ⟨b2,hb_2,h⟩:=bs h
  refine WL.cutN 4 [(24,.bool b2),(2,.bool false)] ?_ (fun K=>?_)
  rotate_left
  ·refine sp 20 hb_2 rfl (fun hb_2=>?_) fun hb_2=>?_
   ·refine arr 2 [2,0] rfl<|ly rfl rfl<|qc hb_2 (rh N · p0.S 20 ·) rfl rfl rfl fun x2 hb_2=>la rfl ?_
    cases hb_2
    exact ku K
   ·refine arr 4 [] rfl ?_
    cases hb_2
    exact ku K
  refine la rfl<|en ?_
  exact rt hF h
 refine att 6 [] rfl ?_
 exact rt hF h
theorem qD  (w0:aw Ψ Φ []) (p0:Int)  {r:Bool} (h:jH N p0=some r) :
  CB w0 prog 152 [.int .u8 p0] (.bool r):=by
 refine eN func152 rfl ntmps152 rfl w0 fun hF=>?_
 unfold jH at h
 refine atr 9 [] rfl ?_
 obtain ⟨b1,hb_1,h⟩:=bs h
 refine WL.cutN 3 [(8,.bool b1),(2,.bool false)] ?_ (fun K=>?_)
 rotate_left
 ·refine sp 5 hb_1 rfl (fun hb_1=>?_) fun hb_1=>?_
  ·refine arr 3 [] rfl ?_
   cases hb_1
   exact ku K
  ·refine arr 3 [] rfl ?_
   cases hb_1
   exact ku K
 refine la rfl<|en ?_
 exact rt hF h
theorem xj  (w0:aw Ψ Φ []) (p0:ByteArray)  {r:Bool} (h:oP N p0=some r) :
  CB w0 prog 149 [.string p0] (.bool r):=by
 refine eN func149 rfl ntmps149 rfl w0 fun hF=>?_
 unfold oP at h
 refine atr 8 [] rfl<|lq (lX j7 rfl rfl) rfl<|arr 2 [] rfl ?_
 obtain ⟨b1,hb_1,h⟩:=bs h
 refine WL.cutN 4 [(11,.bool b1),(0,.string p0)] ?_ (fun K=>?_)
 rotate_left
 ·refine sp 7 hb_1 rfl (fun hb_1=>?_) fun hb_1=>?_
  ·refine arr 4 [] rfl ?_
   cases hb_1
   exact ku K
  ·refine ly rfl rfl<|la rfl<|ly rfl rfl<|lq (lX j7 rfl rfl) rfl<|arr 2 [] rfl ?_
   cases hb_1
   exact ku K
 refine la rfl ?_
 obtain ⟨b2,hb_2,h⟩:=bs h
 refine WL.cutN 5 [(17,.bool b2),(0,.string p0)] ?_ (fun K=>?_)
 rotate_left
 ·refine sp 12 hb_2 rfl (fun hb_2=>?_) fun hb_2=>?_
  ·refine arr 5 [] rfl ?_
   cases hb_2
   exact ku K
  ·refine ly rfl rfl<|la rfl<|ly rfl rfl ?_
   obtain ⟨y1,hy1,hb_2⟩:=bs hb_2
   refine lq (jh j7 rfl rfl hy1) rfl<|ly rfl rfl<|qc hb_2 (qD N · (y1.toNat:Int) ·) rfl rfl rfl fun x1 hb_2=>arr 2 [] rfl ?_
   cases hb_2
   exact ku K
 refine en ?_
 refine ch h rfl ?_ ?_ <;> intro h
 ·refine att 4 [] rfl ?_
  exact rt hF h
 refine att 7 [] rfl ?_
 refine lin (σ:=Int) (fun s=>[(0,.string p0),(3,iV s)]) (fun s=>St w0 Φ [] []) (fun m s=>fQ N p0 m s=some r) (0) N h (sx [] []) (fun n1 ih1 s hm=>?_)
 revert hm; revert s; intro s1 hm
 have h:fQ N p0 (n1+1) s1=some r:=hm
 show WT _ _ [(0,.string p0),(3,iV s1)] (St w0 Φ [] [])
 unfold fQ at h
 refine atr 5 [] rfl<|lq (lX j7 rfl rfl) rfl<|la rfl<|en ?_
 refine ch h rfl ?_ ?_ <;> intro h
 ·refine atr 7 [] rfl ?_
  obtain ⟨y2,hy2,h⟩:=bs h
  refine lq (jh j7 rfl rfl hy2) rfl<|qc h (o3 N · (y2.toNat:Int) ·) rfl rfl rfl fun x2 h=>arr 2 [] rfl ?_
  obtain ⟨b3,hb_3,h⟩:=bs h
  refine WL.cutN 6 [(35,.bool b3),(0,.string p0),(3,iV s1)] ?_ (fun K=>?_)
  rotate_left
  ·refine sp 29 hb_3 rfl (fun hb_3=>?_) fun hb_3=>?_
   ·refine arr 2 [] rfl<|ly rfl rfl ?_
    obtain ⟨y3,hy3,hb_3⟩:=bs hb_3
    refine lq (jh j7 rfl rfl hy3) rfl<|ly rfl rfl<|qc hb_3 (qD N · (y3.toNat:Int) ·) rfl rfl rfl fun x3 hb_3=>arr 2 [] rfl ?_
    cases hb_3
    exact ku K
   ·refine arr 6 [] rfl ?_
    cases hb_3
    exact ku K
  refine en ?_
  refine ch h rfl ?_ ?_ <;> intro h
  ·refine att 4 [] rfl ?_
   exact rt hF h
  refine att 7 [] rfl ?_
  exact lb [] [] (ih1 _ h)
 refine att 5 [] rfl ?_
 exact rt hF h
theorem rL  (w0:aw Ψ Φ []) (p0:bD)  {r:Bool} (h:mA N p0=some r) :
  CB w0 prog 141 [.agg [iV p0.K,.string p0.S,iV p0.V.K,iV p0.V.N,.string p0.V.S].toArray] (.bool r):=by
 refine eN func141 rfl ntmps141 rfl w0 fun hF=>?_
 unfold mA at h
 refine sr<|lbx rfl fun b_1=>art 14 [0,0] rfl ?_
 refine ch h rfl ?_ ?_ <;> intro h
 ·refine atr 4 [1,0] rfl<|qc h (xj N · p0.S ·) rfl rfl rfl fun x1 h=>la rfl ?_
  obtain ⟨b1,hb_1,h⟩:=bs h
  refine WL.cutN 5 [(15,.bool b1),(2,.bool false)] ?_ (fun K=>?_)
  rotate_left
  ·refine sp 10 hb_1 rfl (fun hb_1=>?_) fun hb_1=>?_
   ·refine arr 2 [2,3] rfl<|ly rfl rfl<|lq (aQ (vs:=[]) (C:=#[iV 0,iV 0,.string (⟨#[]⟩:ByteArray)]) tl jk rfl (aa)) rfl<|ly rfl rfl<|lq (xE mK rfl rfl rfl (r:=bo p0.V (⟨0,0,(⟨#[]⟩:ByteArray)⟩:bn)) rfl) rfl<|la rfl ?_
    cases hb_1
    exact ku K
   ·refine arr 5 [] rfl ?_
    cases hb_1
    exact ku K
  refine la rfl<|en ?_
  exact rt hF h
 refine att 5 [] rfl ?_
 refine ch h rfl ?_ ?_ <;> intro h
 ·refine atr 6 [1,0] rfl ?_
  obtain ⟨b2,hb_2,h⟩:=bs h
  refine WL.cutN 4 [(25,.bool b2),(2,.bool false)] ?_ (fun K=>?_)
  rotate_left
  ·refine sp 21 hb_2 rfl (fun hb_2=>?_) fun hb_2=>?_
   ·refine arr 2 [2,3] rfl<|ly rfl rfl<|qc hb_2 (rO N · p0.V ·) rfl rfl rfl fun x2 hb_2=>la rfl ?_
    cases hb_2
    exact ku K
   ·refine arr 4 [] rfl ?_
    cases hb_2
    exact ku K
  refine la rfl<|en ?_
  exact rt hF h
 refine att 5 [] rfl ?_
 refine ch h rfl ?_ ?_ <;> intro h
 ·refine atr 6 [1,0] rfl ?_
  obtain ⟨b3,hb_3,h⟩:=bs h
  refine WL.cutN 5 [(36,.bool b3),(2,.bool false)] ?_ (fun K=>?_)
  rotate_left
  ·refine sp 31 hb_3 rfl (fun hb_3=>?_) fun hb_3=>?_
   ·refine arr 2 [2,3] rfl<|ly rfl rfl<|lq (aQ (vs:=[]) (C:=#[iV 0,iV 0,.string (⟨#[]⟩:ByteArray)]) tl jk rfl (aa)) rfl<|ly rfl rfl<|lq (xE mK rfl rfl rfl (r:=bo p0.V (⟨0,0,(⟨#[]⟩:ByteArray)⟩:bn)) rfl) rfl<|la rfl ?_
    cases hb_3
    exact ku K
   ·refine arr 5 [] rfl ?_
    cases hb_3
    exact ku K
  refine la rfl<|en ?_
  exact rt hF h
 refine att 6 [] rfl ?_
 exact rt hF h
end Go.Proofs.YtinomobmcjnfjaaGreat
