/- Printed by a program of ours: each Go function computes its Lean function. -/
import Derived.Test.YtinomobmcjnfjaaGreatProg
import Derived.Test.YtinomobmcjnfjaaGreatWKeptWalk1
namespace Go.Proofs.YtinomobmcjnfjaaGreat
open Eng Tryz
open Go.RowKit (Below)
set_option linter.unusedVariables false
set_option linter.unusedSimpArgs false

set_option maxRecDepth 100000
set_option maxHeartbeats 1000000
variable {Ψ Φ:Hp} {pv0_0 pv0_1 pv0_2 pv1_0 pv2_0 pv2_1 pv1_1 pv4_0 pv6_0 pv7 pv3_0 pv1 pv0:Value} {pG0_0 pG0_1 pG0_2 pG1_0 pG2_1 pG1_1 pG2_0 pD2_1 pG4_0 pG6_0 pG7 pD2_0 pG3_0 pG1 pG0:List Nat} {pb2 pb0:Nat} (N:Nat)
theorem tA (w0:aw Ψ Φ [ob pv2_0].flatten) (p0:an) (p1:ah) (p2:af) (ph0_0:RSl bW 3 Ψ pG0_0 pv0_0 p0.Pats) (ph0_1:RSl bL 11 Ψ pG0_1 pv0_1 p0.Conds) (ph0_2:RSl fS 5 Ψ pG0_2 pv0_2 p0.Acts) (ph1_0:RSl bh 3 Ψ pG1_0 pv1_0 p1.Items) (ph2_0:OSl (RI .i64) 3 1 Φ [] pv2_0 p2.Ids) (ph2_1:RSl (RI .i64) 1 Ψ pG2_1 pv2_1 p2.Hits) {r:af} (h:jX N p0 p1 p2=some r) :
  Calls prog 86 [.agg [.string p0.Name,iV p0.Sal,pv0_0,pv0_1,pv0_2].toArray,.agg [pv1_0,iV p1.Next].toArray,.agg [pv2_0,pv2_1].toArray].toArray w0.w (bg Φ w0.w [ob pv2_0].flatten (fun Φ' Fs v=>∃ (sr_0_0:Value) (sr_0_1:Value),v = .agg [sr_0_0,sr_0_1].toArray∧Fs=[ob sr_0_0,ob sr_0_1]∧OSl (RI .i64) 3 1 Φ' [] sr_0_0 r.Ids∧OSl (RI .i64) 3 1 Φ' [] sr_0_1 r.Hits)):=by
 refine eL func86 rfl ntmps86 rfl (L:=[ob pv2_0]) w0 (fun hF=>?_)
 unfold jX at h
 refine sr<|lbx rfl fun b_1=>lbx rfl fun b_2=>lbx rfl fun b_3=>lnz dJ rfl fun b_4=>arr 7 [101,66,0,32] rfl<|kab h rfl rfl rfl (fun b z q=>m6 N b p0 p1 p2.Ids (ph0_0.y z) (ph0_1.y z) (ph0_2.y z) (ph1_0.y z) ph2_0.rsl q) ?_
 rintro x1 h v1 Φ_1 F1 ⟨ap1,fr1,v2,rfl,rfl,h1⟩
 replace ph2_0:=ph2_0.fr fr1 (ap1.q 0 rfl) dN
 refine art 7 [] rfl<|wm [0,1,2,3] [8] rfl<|amm 2 [0,2,1,96] [0,1,2,3] rfl rfl<|mq 2 rfl (by kernel_rfl) (kN [0,1,2,3]) (o5 o7 rfl rfl ph0_0) rfl<|amm 1 [3,101] [0,1,2,3] rfl rfl ?_
 obtain ⟨x2,hx2,h⟩:=bs h
 refine on1 4 (mp rfl (kS [0,1,2,3]) (pdP rfl (m5 N · p0 ph0_0 ph0_1 ph0_2 hx2)) rfl ?_)
 refine amm 1 [5] [0,1,2,3] rfl rfl ?_
 obtain ⟨x3,hx3,h⟩:=bs h
 refine WM.one 6 (by kernel_rfl) (me rfl (fun _ v Φx D w1 hq hw=>Kn.of Kf.nil (am [0,1,2,3] rfl) hw) (Fz (R:=(RI .i64)) aW gB Hr rfl rfl rfl (fun _=>⟨rfl,rfl⟩) rfl rfl (Int.le_refl _) hx3 (GN hx3)) rfl ?_)
 rintro v3 Φ_2 D1 ⟨fr2,h2⟩
 replace ph2_0:=ph2_0.f0 fr2
 replace h1:=h1.f0 fr2
 refine amm 1 [7,1] [0,1,2,3] rfl rfl ?_
 refine on1 8 (ms1 1 rfl nk nU rfl h2.one ?_)
 refine WM.nil (by kernel_rfl)<|att 6 [] rfl ?_
 refine lin (σ:=Hp × (List Int) × Int) (fun s=>[(3,pQ b_1),(4,pQ b_2),(5,pQ b_3),(6,pQ b_4),(7,v2),(9,iV s.2.2)]) (fun s=>St w0 s.1 [(b_4,.cells #[.slice none 0 0,.slice none 0 0] 103 (0,0)),(b_3,.cells #[pv2_0,v3] 103 (0,0)),(b_2,.cells #[pv1_0,iV p1.Next] 37 (0,0)),(b_1,.cells #[.string p0.Name,iV p0.Sal,pv0_0,pv0_1,pv0_2] 120 (0,0))] [ob v3,ob v2,ob pv2_0]) (fun m s=>cA N p0 p1 p2 x1 m s.2.1 s.2.2=some r∧(OSl (RI .i64) 3 1 s.1 [] pv2_0 p2.Ids)∧(OSl bi 177 4 s.1 [] v2 x1.1)∧(OSl (RI .i64) 3 1 s.1 [] v3 s.2.1)) (Φ_2,x3,0) N ⟨h,ph2_0,h1,h2⟩ (sx [0,0,0] [0,0,0,0]) (fun n1 ih1 s hm=>?_)
 obtain ⟨Φ_3,s1,s2⟩:=s
 obtain ⟨h,ph2_0,h1,k1⟩:=hm
 dsimp only at h ph2_0 h1 k1 ⊢
 unfold cA at h
 refine atr 6 [0,64] rfl<|lnr ph1_0 rfl<|la rfl<|en ?_
 refine ch h rfl ?_ ?_ <;> intro h
 ·refine att 4 [] rfl<|wm [0,1,2,3] [] rfl<|amm 4 [0,101,1,0,2,64,3] [0,1,2,3] rfl rfl ?_
  obtain ⟨x4,hx4,h⟩:=bs h
  obtain ⟨cs1,F2,-,g1,hb1,hs1,r1⟩:=ph1_0.el (a9 hx4).2.2
  obtain ⟨v4,G1,rfl,hq1,h3⟩:=r1
  obtain rfl:=hq1.symm
  refine mq 4 rfl (by kernel_rfl) (kN [0,1,2,3]) (ac nX rfl rfl ph1_0 hx4) rfl<|amm 1 [5,1] [0,1,2,3] rfl rfl<|mq 6 rfl (by kernel_rfl) (kN [0,1,2,3]) (aI ni rfl (fun w1 hw=>(g1.of_eq 1 2 rfl rfl:rg _ _ _ [.string x4.F.Kind,v4]).rangeAt hw.1) rfl) rfl<|amm 1 [7] [0,1,2,3] rfl rfl ?_
  obtain ⟨x5,hx5,h⟩:=bs h
  refine WM.one 8 (by kernel_rfl) (mc rfl (fun _ v Φx D w1 hq hw=>Kn.of Kf.nil (am [0,1,2,3] rfl) hw) (bZ (js:=[]) (R:=[ob v3,ob v2,ob pv2_0]) Dk rfl rfl (fun w1 hw ap hl=>rd N (ba hw.fro) p0 x4.F x1.1 (ph0_0.y hw.up) (ph0_1.y hw.up) (ph0_2.y hw.up) (h3.y hw.up) h1.rsl  hx5)) rfl ?_)
  rintro v5 Φ_4 F3 ⟨ap2,fr3,v6,rfl,rfl,h4⟩
  replace ph2_0:=ph2_0.fr fr3 (ap2.q 2 rfl) dN
  replace h1:=h1.fr fr3 (ap2.q 1 rfl) dN
  replace k1:=k1.fr fr3 (ap2.q 0 rfl) dN
  refine amm 1 [9] [0,1,2,3] rfl rfl<|WM.nil (by kernel_rfl)<|att 5 [] rfl ?_
  refine lin (σ:=Hp × (List Int) × Int) (fun s=>[(3,pQ b_1),(4,pQ b_2),(5,pQ b_3),(6,pQ b_4),(7,v2),(9,iV s2),(10,v5),(11,iV s.2.2)]) (fun s=>St w0 s.1 [(b_4,.cells #[.slice none 0 0,.slice none 0 0] 103 (0,0)),(b_3,.cells #[pv2_0,v3] 103 (0,0)),(b_2,.cells #[pv1_0,iV p1.Next] 37 (0,0)),(b_1,.cells #[.string p0.Name,iV p0.Sal,pv0_0,pv0_1,pv0_2] 120 (0,0))] [ob v5,ob v3,ob v2,ob pv2_0]) (fun m s=>dG N s2 (cA N p0 p1 p2 x1 n1) x5 m s.2.1 s.2.2=some r∧(OSl (RI .i64) 3 1 s.1 [] pv2_0 p2.Ids)∧(OSl bi 177 4 s.1 [] v2 x1.1)∧(OSl (RI .i64) 3 1 s.1 [] v3 s.2.1)∧(OSl (RI .i64) 3 1 s.1 [] v5 x5)) (Φ_4,s1,0) N ⟨h,ph2_0,h1,k1,h4⟩ (sx [0,0,0,0] [0,0,0,0]) (fun n2 ih2 s hm=>?_)
  obtain ⟨Φ_5,s3,s4⟩:=s
  obtain ⟨h,ph2_0,h1,k2,h4⟩:=hm
  dsimp only at h ph2_0 h1 k2 h4 ⊢
  unfold dG at h
  refine atr 5 [] rfl<|lno h4 rfl<|la rfl<|en ?_
  refine ch h rfl ?_ ?_ <;> intro h
  ·refine att 3 [] rfl<|WT.mix (Kn w0 Φ_5 (ob v3++ob v5) [(b_4,.cells #[.slice none 0 0,.slice none 0 0] 103 (0,0)),(b_3,.cells #[pv2_0,v3] 103 (0,0)),(b_2,.cells #[pv1_0,iV p1.Next] 37 (0,0)),(b_1,.cells #[.string p0.Name,iV p0.Sal,pv0_0,pv0_1,pv0_2] 120 (0,0))]) (fun i=>match i with | 14=>false | _=>true) cc (fun _ h=>h.drew)<|mq 0 rfl (by kernel_rfl) (kn Kf.id (am [0,1,2,3] rfl)) (ab oK rfl) rfl<|mq 1 rfl (by kernel_rfl) (kn Kf.id (am [0,1,2,3] rfl)) (au iz rfl (fun w1 hw=>hw.rgO (i:=1) rfl 1 1 [v3] rfl)) rfl ?_
   refine ma 2 rfl (by kernel_rfl) (kn Kf.id (am [0,1,2,3] rfl)) rfl<|mq 3 rfl (by kernel_rfl) (kn Kf.id (am [0,1,2,3] rfl)) (ab oK rfl) rfl<|mq 4 rfl (by kernel_rfl) (kn Kf.id (am [0,1,2,3] rfl)) (au iz rfl (fun w1 hw=>hw.rgO (i:=1) rfl 1 1 [v3] rfl)) rfl<|ma 5 rfl (by kernel_rfl) (kn Kf.id (am [0,1,2,3] rfl)) rfl ?_
   obtain ⟨x6,hx6,h⟩:=bs h
   obtain ⟨cs2,F4,-,g2,hb2,hs2,r2⟩:=k2.elS (a9 hx6).2.2
   obtain ⟨rfl,-⟩:=r2
   refine mq 6 rfl (by kernel_rfl) (kn Kf.id (am [0,1,2,3] rfl)) (ac aW rfl rfl k2.rsl hx6) rfl<|mq 7 rfl (by kernel_rfl) (kn Kf.id (am [0,1,2,3] rfl)) (au pt rfl (fun w1 hw=>hw.rg (List.mem_append.2 (.inl hb2)) (g2.of_eq 0 1 rfl rfl:rg _ _ _ [iV x6]))) rfl<|ma 8 rfl (by kernel_rfl) (kn Kf.id (am [0,1,2,3] rfl)) rfl<|ma 9 rfl (by kernel_rfl) (kn Kf.id (am [0,1,2,3] rfl)) rfl ?_
   obtain ⟨x7,hx7,h⟩:=bs h
   obtain ⟨cs3,F5,-,g3,hb3,hs3,r3⟩:=h4.elS (a9 hx7).2.2
   obtain ⟨rfl,-⟩:=r3
   refine mq 10 rfl (by kernel_rfl) (kn Kf.id (am [0,1,2,3] rfl)) (ac aW rfl rfl h4.rsl hx7) rfl<|mq 11 rfl (by kernel_rfl) (kn Kf.id (am [0,1,2,3] rfl)) (au pt rfl (fun w1 hw=>hw.rg (List.mem_append.2 (.inr hb3)) (g3.of_eq 0 1 rfl rfl:rg _ _ _ [iV x7]))) rfl<|ma 12 rfl (by kernel_rfl) (kn Kf.id (am [0,1,2,3] rfl)) rfl ?_
   obtain ⟨x8,hx8,h⟩:=bs h
   obtain ⟨cs4,F6,-,g4,hb4,hs4,r4⟩:=k2.elS (a9 hx8).2.2
   obtain ⟨rfl,-⟩:=r4
   refine mq 13 rfl (by kernel_rfl) (kn Kf.id (am [0,1,2,3] rfl)) (ac aW rfl rfl k2.rsl hx8) rfl ?_
   refine WM.one 14 (by kernel_rfl) (mu rfl (fun hc=>by cases hc) (yR (js:=[1]) (Rr:=[ob v5,ob v2,ob pv2_0]) (vs:=[iV (wz (x6+x7))]) (x':=wz (x6+x7)) RI.lasts RI.flat wQ rfl rfl rfl rfl ⟨rfl,trivial⟩ rfl k2 (rA hx8) ⟨rfl,rfl⟩) rfl ?_)
   rintro Φ_6 D2 ⟨⟨ap3,fr4⟩,h5⟩
   replace ph2_0:=ph2_0.fr fr4 (ap3.q 2 rfl) dN
   replace h1:=h1.fr fr4 (ap3.q 1 rfl) dN
   replace h4:=h4.fr fr4 (ap3.q 0 rfl) dN
   refine WM.nil (by kernel_rfl)<|att 6 [] rfl ?_
   exact lb [1,0,0,0] [0,0,0,0] (ih2 (_,_,_) ⟨h,ph2_0,h1,h5,h4⟩)
  refine att 7 [] rfl ?_
  exact lb [1,1,1] [0,0,0,0] (ih1 (_,_,_) ⟨h,ph2_0,h1,k2⟩)
 refine atr 4 [34] rfl<|soN 0 qy rfl ⟨ph2_0.one,k1.one,trivial⟩ rfl ?_
 refine en ?_
 exact rtg [2,0] hF (az.one (aX C3 rfl (fun w1 hw=>hw.rgO (i:=0) rfl 0 2 [pv2_0,v3] rfl) rfl)) rfl (by cases h; exact fun w1 hw=>⟨pv2_0,v3,rfl,rfl,ph2_0,k1⟩)
theorem tW (w0:aw Ψ Φ [[pb2],ob pv2_1,pD2_1].flatten) (p0:an) (p1:ao) (p2:ax) (p3:Int) (p4:ah) (p5:Int) (p6:aA) (p7:(List Bool)) (ph0_0:RSl bW 3 Ψ pG0_0 pv0_0 p0.Pats) (ph0_1:RSl bL 11 Ψ pG0_1 pv0_1 p0.Conds) (ph0_2:RSl fS 5 Ψ pG0_2 pv0_2 p0.Acts) (ph1_0:RSl (RI .i64) 1 Ψ pG1_0 pv1_0 p1.Pos) (ph1_1:RSl (RI .i64) 1 Ψ pG1_1 pv1_1 p1.Neg) (ph2_0:RSl gp 1 Ψ pG2_0 pv2_0 p2.Alphas) (ph2_1:OSl aM 98 1 Φ pD2_1 pv2_1 p2.Rules) (pp2:Φ pb2=some (.cells #[pv2_0,pv2_1] 34 (0,0))) (ph4_0:RSl bh 3 Ψ pG4_0 pv4_0 p4.Items) (ph6_0:RSl aH 3 Ψ pG6_0 pv6_0 p6.Fields) (ph7:RSl RB 1 Ψ pG7 pv7 p7) {r:ax} (h:lm N p0 p1 p2 p3 p4 p5 p6 p7=some r) :
  Calls prog 58 [.agg [.string p0.Name,iV p0.Sal,pv0_0,pv0_1,pv0_2].toArray,.agg [pv1_0,pv1_1].toArray,pQ pb2,iV p3,.agg [pv4_0,iV p4.Next].toArray,iV p5,.agg [.string p6.Kind,pv6_0].toArray,pv7].toArray w0.w (bg Φ w0.w [[pb2],ob pv2_1,pD2_1].flatten (fun Φ' Fs v=>∃ (so_0_1:Value) (Do_0_1:List Nat),v = .tuple #[]∧Fs=[[pb2],ob so_0_1,Do_0_1]∧r.Alphas=p2.Alphas∧OSl aM 98 1 Φ' Do_0_1 so_0_1 r.Rules∧Φ' pb2=some (.cells #[pv2_0,so_0_1] 34 (0,0)))):=by
 refine eL func58 rfl ntmps58 rfl (L:=[[pb2],ob pv2_1,pD2_1]) w0 (fun hF=>?_)
 unfold lm at h
 refine sr<|lbx rfl fun b_1=>lbx rfl fun b_2=>lbx rfl fun b_3=>lbx rfl fun b_4=>arr 4 [] rfl<|lq (aC rfl) rfl<|lf lE rfl rfl rfl<|lgx 1 0 (bP pp2) rfl<|la rfl ?_
 obtain ⟨x1,hx1,h⟩:=bs h
 obtain ⟨cs1,F1,D1,h1,r1,kf1,sp1⟩:=ph2_1.focus hx1
 obtain ⟨v1,D2,rfl,rfl,h2⟩:=r1
 refine wlL [ob v1,D2,D1,[pb2],ob pv2_1] (sre [2] [ob v1,D2,D1] rfl (by simpa [List.append_assoc] using sp1))<|lih h1 hx1 rfl<|lf gZ rfl rfl rfl<|lgx 0 0 h1.rg rfl<|arr 5 [] rfl<|lno h2 rfl<|art 4 [] rfl ?_
 obtain ⟨x2,hx2,h⟩:=bs h
 obtain ⟨cs2,F2,D3,h3,r2,kf2,sp2⟩:=h2.focus hx2
 obtain ⟨v2,D4,rfl,rfl,h4⟩:=r2
 refine wtL [ob v2,D4,D3,ob v1,D1,[pb2],ob pv2_1] (sre [1] [ob v2,D4,D3] rfl (by simpa [List.append_assoc] using sp2))<|WT.mix (Kn w0 Φ (ob v1) [(b_4,.cells #[.string p6.Kind,pv6_0] 47 (0,0)),(b_3,.cells #[pv4_0,iV p4.Next] 37 (0,0)),(b_2,.cells #[pv1_0,pv1_1] 79 (0,0)),(b_1,.cells #[.string p0.Name,iV p0.Sal,pv0_0,pv0_1,pv0_2] 120 (0,0))]) (fun i=>match i with | 8=>false | _=>true) cc (fun _ h=>h.drew) ?_
 refine mq 0 rfl (by kernel_rfl) (kn Kf.id (am [0,1,2,3] rfl)) (aI mF rfl (fun w1 hw=>hw.rgO (i:=3) rfl 0 5 [.string p0.Name,iV p0.Sal,pv0_0,pv0_1,pv0_2] rfl) rfl) rfl<|mq 1 rfl (by kernel_rfl) (kn Kf.id (am [0,1,2,3] rfl)) (aI pV rfl (fun w1 hw=>hw.rgO (i:=1) rfl 0 2 [pv4_0,iV p4.Next] rfl) rfl) rfl<|mq 7 rfl (by kernel_rfl) (kn Kf.id (am [0,1,2,3] rfl)) (aI ni rfl (fun w1 hw=>hw.rgO (i:=0) rfl 0 2 [.string p6.Kind,pv6_0] rfl) rfl) rfl<|mqT 2 [4,5,6,8] rfl (by kernel_rfl) (kn Kf.id (am [0,1,2,3] rfl)) (ep rfl) rfl ?_
 refine mqT 3 [4,5,6,8] rfl (by kernel_rfl) (kn Kf.id (am [0,1,2,3] rfl)) (ep rfl) rfl<|mqT 4 [5,6,8] rfl (by kernel_rfl) (kn Kf.id (am [0,1,2,3] rfl)) (aZ mD rfl rfl h3 hx2) rfl<|mqT 5 [6,8] rfl (by kernel_rfl) (kn Kf.id (am [0,1,2,3] rfl)) (ab dP rfl) rfl<|mq 6 rfl (by kernel_rfl) (kn Kf.id (am [0,1,2,3] rfl)) (au vV rfl (fun w1 hw=>hw.rg h3.hb (h3.rg.of_eq 0 1 rfl rfl:rg _ _ _ [v2]))) rfl ?_
 obtain ⟨x3,hx3,h⟩:=bs h
 refine WM.one 8 (by kernel_rfl) (mc rfl (fun hc=>by cases hc) (bZ (js:=[0,0]) (R:=[D3,ob v1,D1,[pb2],ob pv2_1]) Ch rfl rfl (fun w1 hw ap hl=>pP N (bx hw ap hl) p0 p4 x2.Toks p6 1 (ph0_0.y (hw.uo ap)) (ph0_1.y (hw.uo ap)) (ph0_2.y (hw.uo ap)) (ph4_0.y (hw.uo ap)) h4 (ph6_0.y (hw.uo ap))  hx3)) rfl ?_)
 rintro v3 Φ_1 F3 ⟨ap1,fr1,D5,rfl,rfl,h5⟩
 replace h1:=h1.fr fr1 (ap1.q 4 rfl) (ap1.q 2 rfl)
 replace h3:=h3.fr fr1 (ap1.q 1 rfl) (ap1.q 0 rfl)
 replace pp2:=fr1 _ _ ((ap1.q 3 rfl) _ (by simp)) pp2
 refine WM.nil (by kernel_rfl)<|sr ?_
 have rc1:RC aq 2 Φ_1 ([]:List (List Nat)) [] ([]:List af):=RC.nil _ _ _
 refine le' (aY (vs:=[]) (C:=#[]) aq.lasts cM dJ rfl rfl rfl rfl (ag oA (aa)) rfl rc1 rfl (by simpa using Kw.nil)) rfl ?_
 rintro v4 Φ_2 D6 ⟨fr2,h6⟩
 replace h6:OSl aq 103 2 Φ_2 [] v4 ([]:List af):=by simpa [List.append_assoc] using h6
 replace h1:=h1.f0 fr2
 replace h3:=h3.f0 fr2
 replace h5:=h5.f0 fr2
 replace pp2:=fr2 _ _ (by simp) pp2
 refine WL.conv (S':=St w0 Φ_2 [(b_4,.cells #[.string p6.Kind,pv6_0] 47 (0,0)),(b_3,.cells #[pv4_0,iV p4.Next] 37 (0,0)),(b_2,.cells #[pv1_0,pv1_1] 79 (0,0)),(b_1,.cells #[.string p0.Name,iV p0.Sal,pv0_0,pv0_1,pv0_2] 120 (0,0))] [[],ob v4,ob v2,D5,D3,ob v1,D1,[pb2],ob pv2_1]) (fun w1 hw=>hw.addNil)<|art 7 [] rfl ?_
 have r3:aB Φ_2 _ [v2] (⟨x3⟩:aj):=⟨v2,D5,rfl,rfl,h5⟩
 obtain ⟨D7,h7,sp3⟩:=h3.unfocus r3 (aB.knows _ _ _ _ r3)
 refine wtL [D7,[],ob v4,ob v1,D1,[pb2],ob pv2_1] (smg [2,2,2] rfl (by simpa [List.append_assoc,bv] using sp3)) ?_
 replace h6:=h6.gives aq.gives
 refine lin (σ:=Hp × (List aj) × List Nat × (List af) × Value × List Nat × Int) (fun s=>[(2,pQ pb2),(5,iV p5),(7,pv7),(8,pQ b_1),(9,pQ b_2),(12,pQ b_3),(16,v1),(17,iV (wz ((x1.Levels.length:Int) - 1))),(18,s.2.2.2.2.1),(19,iV s.2.2.2.2.2.2)]) (fun s=>St w0 s.1 [(b_3,.cells #[pv4_0,iV p4.Next] 37 (0,0)),(b_2,.cells #[pv1_0,pv1_1] 79 (0,0)),(b_1,.cells #[.string p0.Name,iV p0.Sal,pv0_0,pv0_1,pv0_2] 120 (0,0))] [s.2.2.1,ob s.2.2.2.2.1,ob v1,D1,[pb2],ob pv2_1]) (fun m s=>be N p0 p1 p2 p3 p4 p5 p7 x1 m s.2.1 s.2.2.2.1 s.2.2.2.2.2.2=some r∧(OSl aB 101 1 s.1 s.2.2.1 v1 s.2.1)∧(OSl eF 103 2 s.1 s.2.2.2.2.2.1 s.2.2.2.2.1 s.2.2.2.1)∧(∀ k∈s.2.2.2.2.2.1,k∈s.2.2.1)∧(s.1 pb2=some (.cells #[pv2_0,pv2_1] 34 (0,0)))∧(HSl aM 98 1 s.1 D1 pv2_1 p2.Rules p3.toNat [v1])) (Φ_2,(x1.Levels.set (wz ((x1.Levels.length:Int) - 1)).toNat (⟨x3⟩:aj)),D7,([]:List af),v4,[],0) N ⟨h,h7,h6,(by simp),pp2,h1⟩ (sx [0,1,1,1,1,1] [1,1,1]) (fun n1 ih1 s hm=>?_)
 obtain ⟨Φ_3,s1,D8,s2,u1,D9,s3⟩:=s
 obtain ⟨h,k2,k3,i1,k4,k1⟩:=hm
 dsimp only at h k2 k3 i1 k4 k1 ⊢
 unfold be at h
 refine att 7 [] rfl ?_
 refine ch h rfl ?_ ?_ <;> intro h
 ·refine atr 5 [] rfl ?_
  have rc2:RC aq 2 Φ_3 ([]:List (List Nat)) [] ([]:List af):=RC.nil _ _ _
  refine le' (aY (vs:=[]) (C:=#[]) aq.lasts cM dJ rfl rfl rfl rfl (ag oA (aa)) rfl rc2 rfl (by simpa using Kw.nil)) rfl ?_
  rintro v5 Φ_4 D10 ⟨fr3,h8⟩
  replace h8:OSl aq 103 2 Φ_4 [] v5 ([]:List af):=by simpa [List.append_assoc] using h8
  replace k1:=k1.f0 fr3
  replace k2:=k2.f0 fr3
  replace k3:=k3.f0 fr3
  replace k4:=fr3 _ _ (by simp) k4
  refine WL.conv (S':=St w0 Φ_4 [(b_3,.cells #[pv4_0,iV p4.Next] 37 (0,0)),(b_2,.cells #[pv1_0,pv1_1] 79 (0,0)),(b_1,.cells #[.string p0.Name,iV p0.Sal,pv0_0,pv0_1,pv0_2] 120 (0,0))] [[],ob v5,D8,ob u1,ob v1,D1,[pb2],ob pv2_1]) (fun w1 hw=>hw.addNil)<|arr 8 [] rfl ?_
  obtain ⟨b1,hb_1,h⟩:=bs h
  refine WL.cutN 8 [(64,.bool b1),(2,pQ pb2),(5,iV p5),(7,pv7),(8,pQ b_1),(9,pQ b_2),(12,pQ b_3),(16,v1),(17,iV (wz ((x1.Levels.length:Int) - 1))),(18,u1),(19,iV s3),(20,v5)] ?_ (fun K=>?_)
  rotate_left
  ·refine sp 56 hb_1 rfl (fun hb_1=>?_) fun hb_1=>?_
   ·refine arr 3 [0,32] rfl<|ly rfl rfl ?_
    obtain ⟨x4,hx4,hb_1⟩:=bs hb_1
    obtain ⟨cs3,F4,-,g1,hb3,hs1,r4⟩:=ph1_0.el (a9 hx4).2.2
    obtain ⟨rfl,-⟩:=r4
    refine lia ph1_0 hx4 rfl<|ly rfl rfl<|lhx 0 0 g1 rfl<|ly rfl rfl ?_
    obtain ⟨x5,hx5,hb_1⟩:=bs hb_1
    obtain ⟨cs4,F5,-,g2,hb4,hs2,r5⟩:=ph7.el (a9 hx5).2.2
    obtain ⟨rfl,-⟩:=r5
    refine lia ph7 hx5 rfl<|ly rfl rfl<|lhx 0 0 g2 rfl<|la rfl ?_
    cases hb_1
    exact ku K
   ·refine arr 8 [] rfl ?_
    cases hb_1
    exact ku K
  refine en ?_
  refine cut (σ:=Hp × (List af) × Value × List Nat) (fun s=>[(2,pQ pb2),(5,iV p5),(7,pv7),(8,pQ b_1),(9,pQ b_2),(12,pQ b_3),(16,v1),(17,iV (wz ((x1.Levels.length:Int) - 1))),(18,u1),(19,iV s3),(20,s.2.2.1)]) (fun s=>St w0 s.1 [(b_3,.cells #[pv4_0,iV p4.Next] 37 (0,0)),(b_2,.cells #[pv1_0,pv1_1] 79 (0,0)),(b_1,.cells #[.string p0.Name,iV p0.Sal,pv0_0,pv0_1,pv0_2] 120 (0,0))] [s.2.2.2,ob s.2.2.1,D8,ob u1,ob v1,D1,[pb2],ob pv2_1]) (fun s=>fG N p0 p1 p2 p4 p5 p7 x1 s1 s2 s3 (be N p0 p1 p2 p3 p4 p5 p7 x1 n1) s.2.1=some r∧(OSl aB 101 1 s.1 D8 v1 s1)∧(OSl eF 103 2 s.1 D9 u1 s2)∧(OSl aq 103 2 s.1 s.2.2.2 s.2.2.1 s.2.1)∧(s.1 pb2=some (.cells #[pv2_0,pv2_1] 34 (0,0)))∧(HSl aM 98 1 s.1 D1 pv2_1 p2.Rules p3.toNat [v1])) (fun s hm=>?_) (fun K=>?_)
  ·clear h
   obtain ⟨Φ_5,s4,u2,D11⟩:=s
   obtain ⟨h,k2,k3,k6,k7,k5⟩:=hm
   dsimp only at h k2 k3 k6 k7 k5 ⊢
   unfold fG at h
   refine att 10 [] rfl ?_
   refine cut (σ:=Int) (fun s=>[(2,pQ pb2),(5,iV p5),(7,pv7),(8,pQ b_1),(9,pQ b_2),(12,pQ b_3),(16,v1),(17,iV (wz ((x1.Levels.length:Int) - 1))),(18,u1),(19,iV s3),(20,u2),(21,iV s)]) (fun s=>St w0 Φ_5 [(b_3,.cells #[pv4_0,iV p4.Next] 37 (0,0)),(b_2,.cells #[pv1_0,pv1_1] 79 (0,0)),(b_1,.cells #[.string p0.Name,iV p0.Sal,pv0_0,pv0_1,pv0_2] 120 (0,0))] [D11,ob u2,D8,ob u1,ob v1,D1,[pb2],ob pv2_1]) (fun s=>gz N p0 p1 p2 p4 p5 p7 x1 s1 s2 s3 (be N p0 p1 p2 p3 p4 p5 p7 x1 n1) s4 s=some r∧(HSl aM 98 1 Φ_5 D1 pv2_1 p2.Rules p3.toNat [v1])) (fun s hm=>?_) (fun K=>?_)
   ·clear h
    revert hm; revert s; intro s5 hm
    obtain ⟨h,k8⟩:=hm
    try dsimp only at h k8 ⊢
    unfold gz at h
    refine att 6 [] rfl ?_
    refine lin (σ:=Hp × (List af) × Value × List Nat × Int) (fun s=>[(2,pQ pb2),(5,iV p5),(7,pv7),(8,pQ b_1),(9,pQ b_2),(12,pQ b_3),(16,v1),(17,iV (wz ((x1.Levels.length:Int) - 1))),(18,u1),(19,iV s3),(20,s.2.2.1),(21,iV s5),(22,iV s.2.2.2.2)]) (fun s=>St w0 s.1 [(b_3,.cells #[pv4_0,iV p4.Next] 37 (0,0)),(b_2,.cells #[pv1_0,pv1_1] 79 (0,0)),(b_1,.cells #[.string p0.Name,iV p0.Sal,pv0_0,pv0_1,pv0_2] 120 (0,0))] [s.2.2.2.1,ob s.2.2.1,D8,ob u1,ob v1,D1,[pb2],ob pv2_1]) (fun m s=>cN N p0 p1 p2 p4 p5 p7 x1 s1 s2 s3 (be N p0 p1 p2 p3 p4 p5 p7 x1 n1) s5 m s.2.1 s.2.2.2.2=some r∧(OSl aB 101 1 s.1 D8 v1 s1)∧(OSl eF 103 2 s.1 D9 u1 s2)∧(OSl aq 103 2 s.1 s.2.2.2.1 s.2.2.1 s.2.1)∧(s.1 pb2=some (.cells #[pv2_0,pv2_1] 34 (0,0)))∧(HSl aM 98 1 s.1 D1 pv2_1 p2.Rules p3.toNat [v1])) (Φ_5,s4,u2,D11,0) N ⟨h,k2,k3,k6,k7,k8⟩ (sx [0,0,0,0,0,0,0,0] [0,0,0]) (fun n4 ih4 s hm=>?_)
    obtain ⟨Φ_6,s6,u3,D12,s7⟩:=s
    obtain ⟨h,k2,k3,k10,k11,k9⟩:=hm
    dsimp only at h k2 k3 k10 k11 k9 ⊢
    unfold cN at h
    refine atr 7 [] rfl ?_
    obtain ⟨b2,hb_2,h⟩:=bs h
    refine WL.cutN 9 [(95,.bool b2),(2,pQ pb2),(5,iV p5),(7,pv7),(8,pQ b_1),(9,pQ b_2),(12,pQ b_3),(16,v1),(17,iV (wz ((x1.Levels.length:Int) - 1))),(18,u1),(19,iV s3),(20,u3),(21,iV s5),(22,iV s7)] ?_ (fun K=>?_)
    rotate_left
    ·refine sp 86 hb_2 rfl (fun hb_2=>?_) fun hb_2=>?_
     ·refine arr 4 [0,32] rfl<|ly rfl rfl ?_
      obtain ⟨x6,hx6,hb_2⟩:=bs hb_2
      obtain ⟨cs5,F6,-,g3,hb5,hs3,r6⟩:=ph1_0.el (a9 hx6).2.2
      obtain ⟨rfl,-⟩:=r6
      refine lia ph1_0 hx6 rfl<|ly rfl rfl<|lhx 0 0 g3 rfl<|ly rfl rfl ?_
      obtain ⟨x7,hx7,hb_2⟩:=bs hb_2
      obtain ⟨cs6,F7,-,g4,hb6,hs4,r7⟩:=ph7.el (a9 hx7).2.2
      obtain ⟨rfl,-⟩:=r7
      refine lia ph7 hx7 rfl<|ly rfl rfl<|lhx 0 0 g4 rfl<|la rfl ?_
      cases hb_2
      exact ku K
     ·refine arr 9 [] rfl ?_
      cases hb_2
      exact ku K
    refine en ?_
    refine ch h rfl ?_ ?_ <;> intro h
    ·refine att 3 [] rfl<|WT.mix (Kn w0 Φ_6 (ob v1++D8) [(b_3,.cells #[pv4_0,iV p4.Next] 37 (0,0)),(b_2,.cells #[pv1_0,pv1_1] 79 (0,0)),(b_1,.cells #[.string p0.Name,iV p0.Sal,pv0_0,pv0_1,pv0_2] 120 (0,0))]) (fun _=>true) cc (fun _ h=>h.drew)<|ma 0 rfl (by kernel_rfl) (kn Kf.id (ai3 0 1 2 rfl rfl rfl)) rfl<|mq 1 rfl (by kernel_rfl) (kn Kf.id (ai3 0 1 2 rfl rfl rfl)) (aI mF rfl (fun w1 hw=>hw.rgO (i:=2) rfl 0 5 [.string p0.Name,iV p0.Sal,pv0_0,pv0_1,pv0_2] rfl) rfl) rfl ?_
     refine mq 2 rfl (by kernel_rfl) (kn Kf.id (ai3 0 1 2 rfl rfl rfl)) (aI pV rfl (fun w1 hw=>hw.rgO (i:=0) rfl 0 2 [pv4_0,iV p4.Next] rfl) rfl) rfl<|ma 3 rfl (by kernel_rfl) (kn Kf.id (ai3 0 1 2 rfl rfl rfl)) rfl<|ma 4 rfl (by kernel_rfl) (kn Kf.id (ai3 0 1 2 rfl rfl rfl)) rfl<|ma 5 rfl (by kernel_rfl) (kn Kf.id (ai3 0 1 2 rfl rfl rfl)) rfl ?_
     obtain ⟨x8,hx8,h⟩:=bs h
     obtain ⟨cs7,F8,-,g5,hb7,hs5,r8⟩:=k2.elS (a9 hx8).2.2
     obtain ⟨v6,D13,rfl,rfl,h9⟩:=r8
     have h10:=h9.rslG aq.gives
     refine mq 6 rfl (by kernel_rfl) (kn Kf.id (ai3 0 1 2 rfl rfl rfl)) (ac mD rfl rfl k2.rsl hx8) rfl<|mq 7 rfl (by kernel_rfl) (kn Kf.id (ai3 0 1 2 rfl rfl rfl)) (ab dP rfl) rfl<|mq 8 rfl (by kernel_rfl) (kn Kf.id (ai3 0 1 2 rfl rfl rfl)) (au vV rfl (fun w1 hw=>hw.rg (List.mem_append.2 (.inl hb7)) (g5.of_eq 0 1 rfl rfl:rg _ _ _ [v6]))) rfl<|ma 9 rfl (by kernel_rfl) (kn Kf.id (ai3 0 1 2 rfl rfl rfl)) rfl ?_
     obtain ⟨x9,hx9,h⟩:=bs h
     obtain ⟨cs8,F9,-,g6,hb8,hs6,r9⟩:=h10.el (a9 hx9).2.2
     obtain ⟨v7,G1,v8,G2,rfl,rfl,h11,h12⟩:=r9
     refine mq 10 rfl (by kernel_rfl) (kn Kf.id (ai3 0 1 2 rfl rfl rfl)) (ac cM rfl rfl h10 hx9) rfl<|mq 11 rfl (by kernel_rfl) (kn Kf.id (ai3 0 1 2 rfl rfl rfl)) (ab oW rfl) rfl<|mq 12 rfl (by kernel_rfl) (kn Kf.id (ai3 0 1 2 rfl rfl rfl)) (au iz rfl (fun w1 hw=>hw.rg (List.mem_append.2 (.inr ((fun k h=>hs5 k h) _ hb8))) (g6.of_eq 0 1 rfl rfl:rg _ _ _ [v7]))) rfl<|ma 13 rfl (by kernel_rfl) (kn Kf.id (ai3 0 1 2 rfl rfl rfl)) rfl ?_
     obtain ⟨x10,hx10,h⟩:=bs h
     refine WM.one 14 (by kernel_rfl) (mc rfl (fun _ v Φx D w1 hq hw=>Kn.of (Kf.id.st hq.2.1 (Dj.app (hq.1.r (i:=2) rfl) (hq.1.r (i:=0) rfl))) (ai3 0 1 2 rfl rfl rfl) hw) (bZ (js:=[1,0]) (R:=[D8,ob u1,ob v1,D1,[pb2],ob pv2_1]) BC rfl rfl (fun w1 hw ap hl=>np N (bx hw ap hl) s6 p0 p4 x9.Ids p5 k10 (ph0_0.y (hw.uo ap)) (ph0_1.y (hw.uo ap)) (ph0_2.y (hw.uo ap)) (ph4_0.y (hw.uo ap)) (h11.x (Dj.sub (Dj.sub (ap.q 0 rfl) (fun k h=>hs5 k h)) (fun k h=>hs6 k (List.mem_append.2 (.inl h)))))  hx10)) rfl ?_)
     rintro v9 Φ_7 F10 ⟨ap2,fr4,v10,D14,rfl,rfl,h13⟩
     replace k9:=k9.fr fr4 (ap2.q 5 rfl) (ap2.q 3 rfl)
     replace k2:=k2.fr fr4 (ap2.q 2 rfl) (ap2.q 0 rfl)
     replace k3:=k3.fr fr4 (ap2.q 1 rfl) (Dj.sub (ap2.q 0 rfl) i1)
     replace k11:=fr4 _ _ ((ap2.q 4 rfl) _ (by simp)) k11
     have kf1:=(Kf.id (F:=(ob v1++D8)):Kf Φ_6 _ _).st fr4 (Dj.app (ap2.q 2 rfl) (ap2.q 0 rfl))
     refine ma 15 rfl (by kernel_rfl) (kn kf1 (ai3 0 1 2 rfl rfl rfl)) rfl<|WM.nil (by kernel_rfl)<|att 6 [] rfl ?_
     exact lb [1,0,0,0,0,0,0,0] [0,0,0] (ih4 (_,_,_,_,_) ⟨h,k2,k3,h13,k11,k9⟩)
    refine xt rfl<|sq<|WT.draw cc (by kernel_rfl) (fun _ h=>h.drew)<|qq (ep rfl) rfl<|qq (aC rfl) rfl<|qq (ab gr rfl) rfl<|qq (au uX rfl (fun w1 hw=>((bP k11).of_eq 0 1 rfl rfl:rg _ _ _ [pv2_0]).rangeAt hw.fro)) rfl<|aqq 3 [0,32] rfl ?_
    obtain ⟨x11,hx11,h⟩:=bs h
    obtain ⟨cs9,F11,-,g7,hb9,hs7,r10⟩:=ph1_0.el (a9 hx11).2.2
    obtain ⟨rfl,-⟩:=r10
    refine qq (ac aW rfl rfl ph1_0 hx11) rfl<|qq (au pt rfl (fun w1 hw=>(g7.of_eq 0 1 rfl rfl:rg _ _ _ [iV x11]).rangeAt hw.in0)) rfl ?_
    obtain ⟨x12,hx12,h⟩:=bs h
    obtain ⟨cs10,F12,-,g8,hb10,hs8,r11⟩:=ph2_0.el (a9 hx12).2.2
    obtain ⟨v11,G3,rfl,hq1,h14⟩:=r11
    obtain rfl:=hq1.symm
    refine qq (ac jR rfl rfl ph2_0 hx12) rfl<|qq (ab fw rfl) rfl<|qq (au iz rfl (fun w1 hw=>(g8.of_eq 0 1 rfl rfl:rg _ _ _ [v11]).rangeAt hw.in0)) rfl<|aqt 8 [] rfl ?_
    refine lin (σ:=Hp × (List af) × Value × List Nat × Int) (fun s=>[(2,pQ pb2),(5,iV p5),(7,pv7),(8,pQ b_1),(9,pQ b_2),(12,pQ b_3),(16,v1),(17,iV (wz ((x1.Levels.length:Int) - 1))),(18,u1),(19,iV s3),(20,s.2.2.1),(23,v11),(24,iV s.2.2.2.2)]) (fun s=>St w0 s.1 [(b_3,.cells #[pv4_0,iV p4.Next] 37 (0,0)),(b_2,.cells #[pv1_0,pv1_1] 79 (0,0)),(b_1,.cells #[.string p0.Name,iV p0.Sal,pv0_0,pv0_1,pv0_2] 120 (0,0))] [s.2.2.2.1,ob s.2.2.1,D8,ob u1,ob v1,D1,[pb2],ob pv2_1]) (fun m s=>dl N p0 p4 x1 s1 s2 s3 (be N p0 p1 p2 p3 p4 p5 p7 x1 n1) x12 m s.2.1 s.2.2.2.2=some r∧(OSl aB 101 1 s.1 D8 v1 s1)∧(OSl eF 103 2 s.1 D9 u1 s2)∧(OSl aq 103 2 s.1 s.2.2.2.1 s.2.2.1 s.2.1)∧(s.1 pb2=some (.cells #[pv2_0,pv2_1] 34 (0,0)))∧(HSl aM 98 1 s.1 D1 pv2_1 p2.Rules p3.toNat [v1])) (Φ_6,s6,u3,D12,0) N ⟨h,k2,k3,k10,k11,k9⟩ (sx [0,0,0,0,0,0,0,0] [0,0,0]) (fun n5 ih5 s hm=>?_)
    obtain ⟨Φ_8,s8,u4,D15,s9⟩:=s
    obtain ⟨h,k2,k3,k13,k14,k12⟩:=hm
    dsimp only at h k2 k3 k13 k14 k12 ⊢
    unfold dl at h
    refine atr 5 [] rfl<|lno k3 rfl<|la rfl<|en ?_
    refine ch h rfl ?_ ?_ <;> intro h
    ·refine att 8 [] rfl ?_
     refine lin (σ:=Hp × (List af) × Value × List Nat × Int) (fun s=>[(2,pQ pb2),(5,iV p5),(7,pv7),(8,pQ b_1),(9,pQ b_2),(12,pQ b_3),(16,v1),(17,iV (wz ((x1.Levels.length:Int) - 1))),(18,u1),(19,iV s3),(20,s.2.2.1),(23,v11),(24,iV s9),(25,iV s.2.2.2.2)]) (fun s=>St w0 s.1 [(b_3,.cells #[pv4_0,iV p4.Next] 37 (0,0)),(b_2,.cells #[pv1_0,pv1_1] 79 (0,0)),(b_1,.cells #[.string p0.Name,iV p0.Sal,pv0_0,pv0_1,pv0_2] 120 (0,0))] [s.2.2.2.1,ob s.2.2.1,D8,ob u1,ob v1,D1,[pb2],ob pv2_1]) (fun m s=>eK N p0 p4 s2 x12 s9 (dl N p0 p4 x1 s1 s2 s3 (be N p0 p1 p2 p3 p4 p5 p7 x1 n1) x12 n5) m s.2.1 s.2.2.2.2=some r∧(OSl aB 101 1 s.1 D8 v1 s1)∧(OSl eF 103 2 s.1 D9 u1 s2)∧(OSl aq 103 2 s.1 s.2.2.2.1 s.2.2.1 s.2.1)∧(s.1 pb2=some (.cells #[pv2_0,pv2_1] 34 (0,0)))∧(HSl aM 98 1 s.1 D1 pv2_1 p2.Rules p3.toNat [v1])) (Φ_8,s8,u4,D15,0) N ⟨h,k2,k3,k13,k14,k12⟩ (sx [0,0,0,0,0,0,0,0] [0,0,0]) (fun n6 ih6 s hm=>?_)
     obtain ⟨Φ_9,s10,u5,D16,s11⟩:=s
     obtain ⟨h,k2,k3,k16,k17,k15⟩:=hm
     dsimp only at h k2 k3 k16 k17 k15 ⊢
     unfold eK at h
     refine atr 5 [] rfl<|lnr h14 rfl<|la rfl<|en ?_
     refine ch h rfl ?_ ?_ <;> intro h
     ·refine att 3 [] rfl<|WT.mix (Kn w0 Φ_9 (ob u1) [(b_3,.cells #[pv4_0,iV p4.Next] 37 (0,0)),(b_2,.cells #[pv1_0,pv1_1] 79 (0,0)),(b_1,.cells #[.string p0.Name,iV p0.Sal,pv0_0,pv0_1,pv0_2] 120 (0,0))]) (fun _=>true) cc (fun _ h=>h.drew)<|ma 0 rfl (by kernel_rfl) (kn Kf.id (ai3 0 1 2 rfl rfl rfl)) rfl<|mq 1 rfl (by kernel_rfl) (kn Kf.id (ai3 0 1 2 rfl rfl rfl)) (aI mF rfl (fun w1 hw=>hw.rgO (i:=2) rfl 0 5 [.string p0.Name,iV p0.Sal,pv0_0,pv0_1,pv0_2] rfl) rfl) rfl ?_
      refine mq 2 rfl (by kernel_rfl) (kn Kf.id (ai3 0 1 2 rfl rfl rfl)) (aI pV rfl (fun w1 hw=>hw.rgO (i:=0) rfl 0 2 [pv4_0,iV p4.Next] rfl) rfl) rfl<|ma 3 rfl (by kernel_rfl) (kn Kf.id (ai3 0 1 2 rfl rfl rfl)) rfl<|ma 4 rfl (by kernel_rfl) (kn Kf.id (ai3 0 1 2 rfl rfl rfl)) rfl ?_
      obtain ⟨x13,hx13,h⟩:=bs h
      obtain ⟨cs11,F13,-,g9,hb11,hs9,r12⟩:=k3.elS (a9 hx13).2.2
      obtain ⟨v12,G4,v13,G5,rfl,rfl,h15,h16⟩:=r12
      refine mq 5 rfl (by kernel_rfl) (kn Kf.id (ai3 0 1 2 rfl rfl rfl)) (ac cM rfl rfl k3.rsl hx13) rfl<|mq 6 rfl (by kernel_rfl) (kn Kf.id (ai3 0 1 2 rfl rfl rfl)) (ab oW rfl) rfl<|mq 7 rfl (by kernel_rfl) (kn Kf.id (ai3 0 1 2 rfl rfl rfl)) (au iz rfl (fun w1 hw=>hw.rg hb11 (g9.of_eq 0 1 rfl rfl:rg _ _ _ [v12]))) rfl<|ma 8 rfl (by kernel_rfl) (kn Kf.id (ai3 0 1 2 rfl rfl rfl)) rfl<|ma 9 rfl (by kernel_rfl) (kn Kf.id (ai3 0 1 2 rfl rfl rfl)) rfl ?_
      obtain ⟨x14,hx14,h⟩:=bs h
      obtain ⟨cs12,F14,-,g10,hb12,hs10,r13⟩:=h14.el (a9 hx14).2.2
      obtain ⟨rfl,-⟩:=r13
      refine mq 10 rfl (by kernel_rfl) (kn Kf.id (ai3 0 1 2 rfl rfl rfl)) (ac aW rfl rfl h14 hx14) rfl<|mq 11 rfl (by kernel_rfl) (kn Kf.id (ai3 0 1 2 rfl rfl rfl)) (au pt rfl (fun w1 hw=>(g10.of_eq 0 1 rfl rfl:rg _ _ _ [iV x14]).rangeAt hw.1)) rfl ?_
      obtain ⟨x15,hx15,h⟩:=bs h
      refine WM.one 12 (by kernel_rfl) (mc rfl (fun _ v Φx D w1 hq hw=>Kn.of (Kf.id.st hq.2.1 (hq.1.r (i:=1) rfl)) (ai3 0 1 2 rfl rfl rfl) hw) (bZ (js:=[1,0]) (R:=[D8,ob u1,ob v1,D1,[pb2],ob pv2_1]) BC rfl rfl (fun w1 hw ap hl=>np N (bx hw ap hl) s10 p0 p4 x13.Ids x14 k16 (ph0_0.y (hw.uo ap)) (ph0_1.y (hw.uo ap)) (ph0_2.y (hw.uo ap)) (ph4_0.y (hw.uo ap)) (h15.x (Dj.sub (ap.q 0 rfl) (fun k h=>i1 k (hs9 k (List.mem_append.2 (.inl h))))))  hx15)) rfl ?_)
      rintro v14 Φ_10 F15 ⟨ap3,fr5,v15,D17,rfl,rfl,h17⟩
      replace k15:=k15.fr fr5 (ap3.q 5 rfl) (ap3.q 3 rfl)
      replace k2:=k2.fr fr5 (ap3.q 2 rfl) (ap3.q 0 rfl)
      replace k3:=k3.fr fr5 (ap3.q 1 rfl) (Dj.sub (ap3.q 0 rfl) i1)
      replace k17:=fr5 _ _ ((ap3.q 4 rfl) _ (by simp)) k17
      have kf2:=(Kf.id (F:=(ob u1)):Kf Φ_9 _ _).st fr5 (ap3.q 1 rfl)
      refine ma 13 rfl (by kernel_rfl) (kn kf2 (ai3 0 1 2 rfl rfl rfl)) rfl<|WM.nil (by kernel_rfl)<|att 6 [] rfl ?_
      exact lb [1,0,0,0,0,0,0,0] [0,0,0] (ih6 (_,_,_,_,_) ⟨h,k2,k3,h17,k17,k15⟩)
     refine att 7 [] rfl ?_
     exact lb [0,0,0,0,0,0,0,0] [0,0,0] (ih5 (_,_,_,_,_) ⟨h,k2,k3,k16,k17,k15⟩)
    refine att 7 [] rfl ?_
    refine lin (σ:=Hp × (List af) × List Nat × Int) (fun s=>[(2,pQ pb2),(5,iV p5),(7,pv7),(8,pQ b_1),(9,pQ b_2),(12,pQ b_3),(16,v1),(17,iV (wz ((x1.Levels.length:Int) - 1))),(19,iV s3),(20,u4),(26,iV s.2.2.2)]) (fun s=>St w0 s.1 [(b_3,.cells #[pv4_0,iV p4.Next] 37 (0,0)),(b_2,.cells #[pv1_0,pv1_1] 79 (0,0)),(b_1,.cells #[.string p0.Name,iV p0.Sal,pv0_0,pv0_1,pv0_2] 120 (0,0))] [s.2.2.1,ob u4,D8,ob v1,D1,[pb2],ob pv2_1]) (fun m s=>bE N p0 p4 x1 s1 s3 (be N p0 p1 p2 p3 p4 p5 p7 x1 n1) m s.2.1 s.2.2.2=some r∧(OSl aB 101 1 s.1 D8 v1 s1)∧(OSl aq 103 2 s.1 s.2.2.1 u4 s.2.1)∧(s.1 pb2=some (.cells #[pv2_0,pv2_1] 34 (0,0)))∧(HSl aM 98 1 s.1 D1 pv2_1 p2.Rules p3.toNat [v1])) (Φ_8,s8,D15,0) N ⟨h,k2,k13,k14,k12⟩ (sx [0,0,0,1,1,1,1] [0,0,0]) (fun n7 ih7 s hm=>?_)
    obtain ⟨Φ_11,s12,D18,s13⟩:=s
    obtain ⟨h,k2,k19,k20,k18⟩:=hm
    dsimp only at h k2 k19 k20 k18 ⊢
    unfold bE at h
    refine atr 5 [] rfl<|lno k19 rfl<|arr 2 [] rfl ?_
    obtain ⟨b3,hb_3,h⟩:=bs h
    refine WL.cutN 4 [(158,.bool b3),(2,pQ pb2),(5,iV p5),(7,pv7),(8,pQ b_1),(9,pQ b_2),(12,pQ b_3),(16,v1),(17,iV (wz ((x1.Levels.length:Int) - 1))),(19,iV s3),(20,u4),(26,iV s13)] ?_ (fun K=>?_)
    rotate_left
    ·refine sp 154 hb_3 rfl (fun hb_3=>?_) fun hb_3=>?_
     ·refine arr 4 [] rfl ?_
      cases hb_3
      exact ku K
     ·refine arr 4 [] rfl ?_
      cases hb_3
      exact ku K
    refine en ?_
    refine ch h rfl ?_ ?_ <;> intro h
    ·refine att 3 [] rfl ?_
     obtain ⟨x16,hx16,h⟩:=bs h
     obtain ⟨cs13,F16,D19,h18,r14,kf3,sp4⟩:=k19.focus hx16
     obtain ⟨v16,v17,rfl,rfl,h19,h20⟩:=r14
     refine wtL [ob v16,ob v17,D19,ob u4,D8,ob v1,D1,[pb2],ob pv2_1] (sre [0] [ob v16,ob v17,D19] rfl (by simpa [List.append_assoc] using sp4))<|WT.mix (Kn w0 Φ_11 (ob u4) [(b_3,.cells #[pv4_0,iV p4.Next] 37 (0,0)),(b_2,.cells #[pv1_0,pv1_1] 79 (0,0)),(b_1,.cells #[.string p0.Name,iV p0.Sal,pv0_0,pv0_1,pv0_2] 120 (0,0))]) (fun i=>match i with | 10=>false | _=>true) cc (fun _ h=>h.drew)<|ma 0 rfl (by kernel_rfl) (kn Kf.id (ai3 0 1 2 rfl rfl rfl)) rfl<|ma 1 rfl (by kernel_rfl) (kn Kf.id (ai3 0 1 2 rfl rfl rfl)) rfl ?_
     refine mq 2 rfl (by kernel_rfl) (kn Kf.id (ai3 0 1 2 rfl rfl rfl)) (aI mF rfl (fun w1 hw=>hw.rgO (i:=2) rfl 0 5 [.string p0.Name,iV p0.Sal,pv0_0,pv0_1,pv0_2] rfl) rfl) rfl<|mq 3 rfl (by kernel_rfl) (kn Kf.id (ai3 0 1 2 rfl rfl rfl)) (aI pV rfl (fun w1 hw=>hw.rgO (i:=0) rfl 0 2 [pv4_0,iV p4.Next] rfl) rfl) rfl<|ma 4 rfl (by kernel_rfl) (kn Kf.id (ai3 0 1 2 rfl rfl rfl)) rfl<|ma 5 rfl (by kernel_rfl) (kn Kf.id (ai3 0 1 2 rfl rfl rfl)) rfl<|mq 6 rfl (by kernel_rfl) (kn Kf.id (ai3 0 1 2 rfl rfl rfl)) (aZ cM rfl rfl h18 hx16) rfl ?_
     refine mq 7 rfl (by kernel_rfl) (kn Kf.id (ai3 0 1 2 rfl rfl rfl)) (aI C3 rfl (fun w1 hw=>hw.rg h18.hb (h18.rg.of_eq 0 2 rfl rfl:rg _ _ _ [v16,v17])) rfl) rfl ?_
     obtain ⟨x17,hx17,h⟩:=bs h
     refine WM.one 8 (by kernel_rfl) (mc rfl (fun _ v Φx D w1 hq hw=>Kn.of (Kf.id.st hq.2.1 (hq.1.r (i:=2) rfl)) (ai3 0 1 2 rfl rfl rfl) hw) (bZ (js:=[0]) (R:=[ob v17,D19,ob u4,D8,ob v1,D1,[pb2],ob pv2_1]) Eg rfl rfl (fun w1 hw ap hl=>tA N (bx hw ap hl) p0 p4 x16 (ph0_0.y (hw.uo ap)) (ph0_1.y (hw.uo ap)) (ph0_2.y (hw.uo ap)) (ph4_0.y (hw.uo ap)) h19 (h20.rsl.x (Dj.app (ap.q 0 rfl) dN))  hx17)) rfl ?_)
     rintro v18 Φ_12 F17 ⟨ap4,fr6,v19,v20,rfl,rfl,h21,h22⟩
     replace k18:=k18.fr fr6 (ap4.q 7 rfl) (ap4.q 5 rfl)
     replace k2:=k2.fr fr6 (ap4.q 4 rfl) (ap4.q 3 rfl)
     replace h18:=h18.fr fr6 (ap4.q 2 rfl) (ap4.q 1 rfl)
     replace h20:=h20.fr fr6 (ap4.q 0 rfl) dN
     replace k20:=fr6 _ _ ((ap4.q 6 rfl) _ (by simp)) k20
     have kf3:=(Kf.id (F:=(ob u4)):Kf Φ_11 _ _).st fr6 (ap4.q 2 rfl)
     refine mq 9 rfl (by kernel_rfl) (kn kf3 (ai3 0 1 2 rfl rfl rfl)) (aZ cM rfl rfl h18 hx16) rfl ?_
     refine WM.one 10 (by kernel_rfl) (mu rfl (fun hc=>by cases hc) (wF (js:=[4]) (Rr:=[ob v19,ob v20,ob v17,D19,D8,ob v1,D1,[pb2],ob pv2_1]) (o:=0) (vs:=[v19,v20]) (cs':=[v19,v20]) aq.lasts qy rfl rfl rfl rfl ⟨h21.one,h22.one,trivial⟩ rfl h18 rfl rfl (fun ap=>ap.q 3 rfl)) rfl ?_)
     rintro Φ_13 D20 ⟨⟨ap5,fr7⟩,h23⟩
     replace k18:=k18.fr fr7 (ap5.q 8 rfl) (ap5.q 6 rfl)
     replace k2:=k2.fr fr7 (ap5.q 5 rfl) (ap5.q 4 rfl)
     replace h21:=h21.fr fr7 (ap5.q 0 rfl) dN
     replace h22:=h22.fr fr7 (ap5.q 1 rfl) dN
     replace k20:=fr7 _ _ ((ap5.q 7 rfl) _ (by simp)) k20
     refine WM.nil (by kernel_rfl)<|att 6 [] rfl ?_
     have r15:aq Φ_13 _ [v19,v20] x17:=⟨v19,v20,rfl,rfl,h21,h22⟩
     obtain ⟨D21,h24,sp5⟩:=h23.unfocus r15 (aq.knows _ _ _ _ r15)
     refine wtL [D21,ob u4,ob v17,D8,ob v1,D1,[pb2],ob pv2_1] (smg [1,1,2] rfl (by simpa [List.append_assoc,bv] using sp5)) ?_
     exact lb [0,0,1,1,1,1,1] [0,0,0] (ih7 (_,_,_,_) ⟨h,k2,h24,k20,k18⟩)
    refine atr 7 [] rfl ?_
    obtain ⟨x18,hx18,h⟩:=bs h
    obtain ⟨cs14,F18,D22,h25,r16,kf4,sp6⟩:=k2.focus hx18
    obtain ⟨v21,D23,rfl,rfl,h26⟩:=r16
    refine wlL [ob v21,D23,D22,D18,ob u4,ob v1,D1,[pb2],ob pv2_1] (sre [2] [ob v21,D23,D22] rfl (by simpa [List.append_assoc] using sp6))<|lih h25 hx18 rfl<|lf dP rfl rfl rfl<|lgx 0 0 h25.rg rfl<|la rfl ?_
    obtain ⟨x19,hx19,h⟩:=bs h
    have h28:=k19.gives aq.gives
    refine le' (bU aq.lasts aq.one cM km rfl rfl rfl rfl rfl (js:=[0]) (Rr:=[D23,D22,D18,ob u4,ob v1,D1,[pb2],ob pv2_1]) rfl h26 k19 (fun ap=>ap.q 0 rfl) (fun ap=>ap.q 2 rfl) hx19) rfl ?_
    rintro v22 Φ_14 D24 ⟨⟨ap6,fr8⟩,h27⟩
    replace k18:=k18.fr fr8 (ap6.q 7 rfl) (ap6.q 5 rfl)
    replace h25:=h25.fr fr8 (ap6.q 4 rfl) (ap6.q 1 rfl)
    replace h28:=h28.fr fr8 (ap6.q 3 rfl) (ap6.q 2 rfl)
    replace k20:=fr8 _ _ ((ap6.q 6 rfl) _ (by simp)) k20
    refine wlL [(D23++D18),ob v22,D22,ob u4,ob v1,D1,[pb2],ob pv2_1] (smg [1,2] rfl (SP.eq (by simp)))<|lih h25 hx18 rfl<|lf dP rfl rfl rfl<|lu (us [4] [(D23++D18),ob v22,D22,ob u4,D1,[pb2],ob pv2_1] 0 aB.lasts y9 rfl rfl h27.one rfl h25 rfl (fun ap=>ap.q 2 rfl)) rfl ?_
    rintro Φ_15 D25 ⟨⟨ap7,fr9⟩,h29⟩
    replace k18:=k18.fr fr9 (ap7.q 6 rfl) (ap7.q 4 rfl)
    replace h27:=h27.fr fr9 (ap7.q 1 rfl) (ap7.q 0 rfl)
    replace h28:=h28.fr fr9 (ap7.q 3 rfl) (Dj.sub (ap7.q 0 rfl) (fun k hk=>List.mem_append.2 (.inr hk)))
    replace k20:=fr9 _ _ ((ap7.q 5 rfl) _ (by simp)) k20
    refine art 11 [] rfl ?_
    have r17:aB Φ_15 _ [v22] (⟨x19⟩:aj):=⟨v22,(D23++D18),rfl,rfl,h27⟩
    obtain ⟨D26,h30,sp7,mF1,mD1⟩:=h29.unfocusM r17 (aB.knows _ _ _ _ r17)
    refine wtL [D26,ob v1,ob u4,D1,[pb2],ob pv2_1] (smg [2,1,1] rfl (by simpa [List.append_assoc,bv] using sp7)) ?_
    exact lb [0,1,0,0,0,0] [0,0,0] (ih1 (_,_,_,_,_,_,_) ⟨h,h30,h28,(fun k hk=>((fun k hk=>(fun k hk=>mF1 k (List.mem_append.2 (.inr hk))) k ((fun k hk=>List.mem_append.2 (.inr hk)) k hk)) k hk)),k20,k18⟩)
   refine ch h rfl ?_ ?_ <;> intro h
   ·refine atr 4 [] rfl ?_
    obtain ⟨x20,hx20,h⟩:=bs h
    obtain ⟨cs15,F19,-,g11,hb15,hs11,r18⟩:=k2.elS (a9 hx20).2.2
    obtain ⟨v23,D27,rfl,rfl,h31⟩:=r18
    have h32:=h31.rslG aq.gives
    refine lio k2 hx20 rfl<|lf dP rfl rfl rfl<|lgx 0 0 g11 rfl<|lnr h32 rfl<|la rfl<|lno k3 rfl<|art 3 [] rfl ?_
    exact wo [0,0,0,0,0,0,0,0] [0,0,0] (K _ ⟨h,k5⟩)
   refine WT.skip ?_
   exact wo [0,0,0,0,0,0,0,0] [0,0,0] (K _ ⟨h,k5⟩)
  refine ch h rfl ?_ ?_ <;> intro h
  ·refine atr 4 [69,2] rfl<|le' (dI (R:=RI .i64) RI.lasts aW gB rfl rfl) rfl ?_
   rintro v24 Φ_16 D28 ⟨fr10,h33⟩
   replace k1:=k1.f0 fr10
   replace k2:=k2.f0 fr10
   replace k3:=k3.f0 fr10
   replace h8:=h8.f0 fr10
   replace k4:=fr10 _ _ (by simp) k4
   refine la rfl<|kcb [2,1] h rfl rfl rfl rfl (fun b ap z q=>np N b ([]:List af) p0 p4 ([]:List Int) p5 h8 (ph0_0.y z) (ph0_1.y z) (ph0_2.y z) (ph4_0.y z) (h33.rsl.x (Dj.app (ap.q 0 rfl) dN)) q) ?_
   rintro x21 h v25 Φ_17 F20 ⟨ap8,fr11,v26,D29,rfl,rfl,h34⟩
   replace k1:=k1.fr fr11 (ap8.q 6 rfl) (ap8.q 4 rfl)
   replace k2:=k2.fr fr11 (ap8.q 3 rfl) (ap8.q 1 rfl)
   replace k3:=k3.fr fr11 (ap8.q 2 rfl) (Dj.sub (ap8.q 1 rfl) i1)
   replace k4:=fr11 _ _ ((ap8.q 5 rfl) _ (by simp)) k4
   refine la rfl<|en ?_
   exact wo [1,0,1,1,1,1,1,1] [0,0,0] (K (_,_,_,_) ⟨h,k2,k3,h34,k4,k1⟩)
  refine WT.skip ?_
  exact wo [0,0,0,0,0,0,0,0] [0,0,0] (K (_,_,_,_) ⟨h,k2,k3,h8,k4,k1⟩)
 refine xt rfl ?_
 have r19:aM Φ_3 _ [v1] (⟨s1⟩:aJ):=⟨v1,D8,rfl,rfl,k2⟩
 obtain ⟨D30,h35,sp8,mF2,mD2⟩:=k1.unfocusM r19 (aM.knows _ _ _ _ r19)
 refine wtL [D30,ob u1,[pb2],ob pv2_1] (smg [2,0,1] rfl (by simpa [List.append_assoc,bv] using sp8)) ?_
 refine WT.fin hF az.none (fun w1 hw=>?_)
 cases h
 refine bc (js:=[2,2,0]) hw rfl ⟨pv2_1,D30,rfl,rfl,rfl,h35,k4⟩
theorem qR (w0:aw Ψ Φ [[pb2],ob pv2_0,pD2_0,ob pv2_1,pD2_1].flatten) (p0:bm) (p1:aO) (p2:ax) (p3:ah) (p4:Int) (ph0_0:RSl dH 5 Ψ pG0_0 pv0_0 p0.Rules) (ph1_0:RSl bl 4 Ψ pG1_0 pv1_0 p1.Alphas) (ph1_1:RSl bV 2 Ψ pG1_1 pv1_1 p1.Chains) (ph2_0:OSl aR 44 1 Φ pD2_0 pv2_0 p2.Alphas) (ph2_1:OSl aM 98 1 Φ pD2_1 pv2_1 p2.Rules) (pp2:Φ pb2=some (.cells #[pv2_0,pv2_1] 34 (0,0))) (ph3_0:RSl bh 3 Ψ pG3_0 pv3_0 p3.Items) {r:ax} (h:kJ N p0 p1 p2 p3 p4=some r) :
  Calls prog 25 [.agg [.string p0.Name,pv0_0].toArray,.agg [pv1_0,pv1_1].toArray,pQ pb2,.agg [pv3_0,iV p3.Next].toArray,iV p4].toArray w0.w (bg Φ w0.w [[pb2],ob pv2_0,pD2_0,ob pv2_1,pD2_1].flatten (fun Φ' Fs v=>∃ (so_0_0:Value) (Do_0_0:List Nat) (so_0_1:Value) (Do_0_1:List Nat),v = .tuple #[]∧Fs=[[pb2],ob so_0_0,Do_0_0,ob so_0_1,Do_0_1]∧OSl aR 44 1 Φ' Do_0_0 so_0_0 r.Alphas∧OSl aM 98 1 Φ' Do_0_1 so_0_1 r.Rules∧Φ' pb2=some (.cells #[so_0_0,so_0_1] 34 (0,0)))):=by
 refine eL func25 rfl ntmps25 rfl (L:=[[pb2],ob pv2_0,pD2_0,ob pv2_1,pD2_1]) w0 (fun hF=>?_)
 unfold kJ at h
 refine sr<|lbx rfl fun b_1=>lbx rfl fun b_2=>lbx rfl fun b_3=>arr 5 [2] rfl<|kab h rfl rfl rfl (fun b z q=>jg N b p3 p4 (ph3_0.y z) q) ?_
 rintro x1 h v1 Φ_1 F1 ⟨ap1,fr1,v2,rfl,rfl,h1⟩
 replace ph2_0:=ph2_0.fr fr1 (ap1.q 1 rfl) (ap1.q 2 rfl)
 replace ph2_1:=ph2_1.fr fr1 (ap1.q 3 rfl) (ap1.q 4 rfl)
 replace pp2:=fr1 _ _ ((ap1.q 0 rfl) _ (by simp)) pp2
 refine arr 3 [] rfl<|lnz j9 rfl fun b_4=>soN 0 jL rfl ⟨rfl,h1.one,trivial⟩ rfl ?_
 refine arr 4 [] rfl<|le' (dI RB.lasts yB Gf rfl rfl) rfl ?_
 rintro v3 Φ_2 D1 ⟨fr2,h2⟩
 replace ph2_0:=ph2_0.f0 fr2
 replace ph2_1:=ph2_1.f0 fr2
 replace h1:=h1.f0 fr2
 replace pp2:=fr2 _ _ (by simp) pp2
 refine art 8 [] rfl ?_
 refine lin (σ:=Hp × (List bk) × List Nat × (List Bool) × Value × Int) (fun s=>[(2,pQ pb2),(4,iV p4),(5,pQ b_1),(6,pQ b_2),(8,pQ b_3),(10,pQ b_4),(12,s.2.2.2.2.1),(13,iV s.2.2.2.2.2)]) (fun s=>St w0 s.1 [(b_4,.cells #[.string x1.1.Kind,v2] 47 (0,0)),(b_3,.cells #[pv3_0,iV p3.Next] 37 (0,0)),(b_2,.cells #[pv1_0,pv1_1] 30 (0,0)),(b_1,.cells #[.string p0.Name,pv0_0] 26 (0,0))] [ob s.2.2.2.2.1,ob v2,[pb2],ob pv2_0,s.2.2.1,ob pv2_1,pD2_1]) (fun m s=>ef N p0 p1 p2 p3 p4 x1 m s.2.1 s.2.2.2.1 s.2.2.2.2.2=some r∧(OSl aR 44 1 s.1 s.2.2.1 pv2_0 s.2.1)∧(OSl aM 98 1 s.1 pD2_1 pv2_1 p2.Rules)∧(OSl aH 91 3 s.1 [] v2 x1.1.Fields)∧(OSl RB 4 1 s.1 [] s.2.2.2.2.1 s.2.2.2.1)∧(s.1 pb2=some (.cells #[pv2_0,pv2_1] 34 (0,0)))) (Φ_2,p2.Alphas,pD2_0,([]:List Bool),v3,0) N ⟨h,ph2_0,ph2_1,h1,h2,pp2⟩ (sx [0,0,0,0,0,0,0] [0,0,0,0]) (fun n1 ih1 s hm=>?_)
 obtain ⟨Φ_3,s1,D2,s2,u1,s3⟩:=s
 obtain ⟨h,k1,ph2_1,h1,k2,k3⟩:=hm
 dsimp only at h k1 ph2_1 h1 k2 k3 ⊢
 unfold ef at h
 refine atr 6 [0,64] rfl<|lnr ph1_0 rfl<|la rfl<|en ?_
 refine ch h rfl ?_ ?_ <;> intro h
 ·refine att 4 [] rfl<|WT.draw cc (by kernel_rfl) (fun _ h=>h.drew)<|aqq 3 [0,64] rfl ?_
  obtain ⟨x2,hx2,h⟩:=bs h
  obtain ⟨cs1,F2,-,g1,hb1,hs1,r1⟩:=ph1_0.el (a9 hx2).2.2
  obtain ⟨v4,G1,v5,G2,rfl,rfl,h3,h4⟩:=r1
  refine qq (ac oG rfl rfl ph1_0 hx2) rfl<|qq (aI rQ rfl (fun w1 hw=>(g1.of_eq 0 4 rfl rfl:rg _ _ _ [.string x2.Kind,iV x2.N,v4,v5]).rangeAt hw.in0) rfl) rfl<|qq (aI ni rfl (fun w1 hw=>hw.rgO (i:=0) rfl 0 2 [.string x1.1.Kind,v2] rfl) rfl) rfl ?_
  obtain ⟨x3,hx3,h⟩:=bs h
  refine qp (cQ EB rfl (fun w1 hw=>vC N (ba hw.fro) x2 x1.1 (h3.y hw.up) (h4.y hw.up) h1.rsl hx3)) rfl<|aqr 6 [] rfl ?_
  have rc2:RC RB 1 Φ_3 ([[]]:List (List Nat)) [.bool x3] ([x3]:List Bool):=RC.cons (c:=[.bool x3]) (cells:=[]) ⟨rfl,rfl⟩ rfl (RC.nil _ _ _)
  refine le' (aY (vs:=[(0,.bool x3)]) (C:=#[.bool x3]) RB.lasts yB Gf rfl rfl rfl rfl (ag Eb (a7 (C':=[.bool x3]) rfl rfl rfl rfl rfl (aa))) rfl rc2 rfl (by simpa using Kw.nil)) rfl ?_
  rintro v6 Φ_4 D3 ⟨fr3,h5⟩
  replace h5:OSl RB 4 1 Φ_4 [] v6 ([x3]:List Bool):=by simpa using h5
  replace k1:=k1.f0 fr3
  replace ph2_1:=ph2_1.f0 fr3
  replace h1:=h1.f0 fr3
  replace k2:=k2.f0 fr3
  replace k3:=fr3 _ _ (by simp) k3
  obtain ⟨x4,hx4,h⟩:=bs h
  refine le' (bB RB.lasts RB.one RB.flat yB Hj rfl rfl rfl rfl rfl (js:=[1]) (Rr:=[ob v6,ob v2,[pb2],ob pv2_0,D2,ob pv2_1,pD2_1]) rfl k2 h5.rsl hx4) rfl ?_
  rintro v7 Φ_5 D4 ⟨⟨ap2,fr4⟩,h6⟩
  replace k1:=k1.fr fr4 (ap2.q 3 rfl) (ap2.q 4 rfl)
  replace ph2_1:=ph2_1.fr fr4 (ap2.q 5 rfl) (ap2.q 6 rfl)
  replace h1:=h1.fr fr4 (ap2.q 1 rfl) dN
  replace k3:=fr4 _ _ ((ap2.q 2 rfl) _ (by simp)) k3
  refine art 6 [] rfl ?_
  refine ch h rfl ?_ ?_ <;> intro h
  ·obtain ⟨x5,hx5,h⟩:=bs h
   obtain ⟨cs2,F3,D5,h7,r2,kf1,sp1⟩:=k1.focus hx5
   obtain ⟨v8,rfl,rfl,h8⟩:=r2
   refine wtL [ob v8,D5,ob v7,ob v6,ob v2,[pb2],ob pv2_0,ob pv2_1,pD2_1] (sre [5] [ob v8,D5] rfl (by simpa [List.append_assoc] using sp1))<|WT.mix (Kn w0 Φ_5 ([pb2]++ob pv2_0) [(b_4,.cells #[.string x1.1.Kind,v2] 47 (0,0)),(b_3,.cells #[pv3_0,iV p3.Next] 37 (0,0)),(b_2,.cells #[pv1_0,pv1_1] 30 (0,0)),(b_1,.cells #[.string p0.Name,pv0_0] 26 (0,0))]) (fun i=>match i with | 18=>false | _=>true) cc (fun _ h=>h.drew)<|ma 0 rfl (by kernel_rfl) (kn Kf.id (am [0,1,2,3] rfl)) rfl ?_
   refine mq 1 rfl (by kernel_rfl) (kn Kf.id (am [0,1,2,3] rfl)) (aC rfl) rfl<|mq 2 rfl (by kernel_rfl) (kn Kf.id (am [0,1,2,3] rfl)) (ab gr rfl) rfl<|mq 3 rfl (by kernel_rfl) (kn Kf.id (am [0,1,2,3] rfl)) (au uX rfl (fun w1 hw=>hw.rg (List.mem_append.2 (.inl (by simp))) ((bP k3).of_eq 0 1 rfl rfl:rg _ _ _ [pv2_0]))) rfl<|ma 4 rfl (by kernel_rfl) (kn Kf.id (am [0,1,2,3] rfl)) rfl<|ma 5 rfl (by kernel_rfl) (kn Kf.id (am [0,1,2,3] rfl)) rfl<|mq 6 rfl (by kernel_rfl) (kn Kf.id (am [0,1,2,3] rfl)) (aC rfl) rfl ?_
   refine mq 7 rfl (by kernel_rfl) (kn Kf.id (am [0,1,2,3] rfl)) (ab gr rfl) rfl<|mq 8 rfl (by kernel_rfl) (kn Kf.id (am [0,1,2,3] rfl)) (au uX rfl (fun w1 hw=>hw.rg (List.mem_append.2 (.inl (by simp))) ((bP k3).of_eq 0 1 rfl rfl:rg _ _ _ [pv2_0]))) rfl<|ma 9 rfl (by kernel_rfl) (kn Kf.id (am [0,1,2,3] rfl)) rfl<|mq 10 rfl (by kernel_rfl) (kn Kf.id (am [0,1,2,3] rfl)) (aZ jR rfl rfl h7 hx5) rfl<|mq 11 rfl (by kernel_rfl) (kn Kf.id (am [0,1,2,3] rfl)) (ab fw rfl) rfl ?_
   refine mq 12 rfl (by kernel_rfl) (kn Kf.id (am [0,1,2,3] rfl)) (au iz rfl (fun w1 hw=>hw.rg (List.mem_append.2 (.inr h7.hb)) (h7.rg.of_eq 0 1 rfl rfl:rg _ _ _ [v8]))) rfl<|ma 13 rfl (by kernel_rfl) (kn Kf.id (am [0,1,2,3] rfl)) rfl ?_
   have rc3:RC (RI .i64) 1 Φ_5 ([[]]:List (List Nat)) [iV p4] ([p4]:List Int):=RC.cons (c:=[iV p4]) (cells:=[]) ⟨rfl,rfl⟩ rfl (RC.nil _ _ _)
   refine WM.one 14 (by kernel_rfl) (me rfl (fun _ v Φx D w1 hq hw=>Kn.of (Kf.id.se hq.1) (am [0,1,2,3] rfl) hw) (aY (vs:=[(0,iV p4)]) (C:=#[iV p4]) RI.lasts aW gB rfl rfl rfl rfl (ag iy (a7 (C':=[iV p4]) rfl rfl rfl rfl rfl (aa))) rfl rc3 rfl (by simpa using Kw.nil)) rfl ?_)
   rintro v9 Φ_6 D6 ⟨fr5,h9⟩
   replace h9:OSl (RI .i64) 3 1 Φ_6 [] v9 ([p4]:List Int):=by simpa using h9
   replace h7:=h7.f0 fr5
   replace ph2_1:=ph2_1.f0 fr5
   replace h1:=h1.f0 fr5
   replace h6:=h6.f0 fr5
   replace h8:=h8.f0 fr5
   replace k3:=fr5 _ _ (by simp) k3
   obtain ⟨x6,hx6,h⟩:=bs h
   have kf1:=(Kf.id (F:=([pb2]++ob pv2_0)):Kf Φ_5 _ _).se fr5
   refine WM.one 15 (by kernel_rfl) (me rfl (fun _ v Φx D w1 hq hw=>Kn.of (kf1.st hq.1.2 (Dj.app (hq.1.1.r (i:=5) rfl) (hq.1.1.r (i:=6) rfl))) (am [0,1,2,3] rfl) hw) (bB RI.lasts RI.one RI.flat aW jw rfl rfl rfl rfl rfl (js:=[1]) (Rr:=[ob v9,D5,ob v7,ob v6,ob v2,[pb2],ob pv2_0,ob pv2_1,pD2_1]) rfl h8 h9.rsl hx6) rfl ?_)
   rintro v10 Φ_7 D7 ⟨⟨ap3,fr6⟩,h10⟩
   replace h7:=h7.fr fr6 (ap3.q 6 rfl) (ap3.q 1 rfl)
   replace ph2_1:=ph2_1.fr fr6 (ap3.q 7 rfl) (ap3.q 8 rfl)
   replace h1:=h1.fr fr6 (ap3.q 4 rfl) dN
   replace h6:=h6.fr fr6 (ap3.q 2 rfl) dN
   replace k3:=fr6 _ _ ((ap3.q 5 rfl) _ (by simp)) k3
   have kf2:=kf1.st fr6 (Dj.app (ap3.q 5 rfl) (ap3.q 6 rfl))
   refine mqT 16 [17,18] rfl (by kernel_rfl) (kn kf2 (am [0,1,2,3] rfl)) (aZ jR rfl rfl h7 hx5) rfl<|mq 17 rfl (by kernel_rfl) (kn kf2 (am [0,1,2,3] rfl)) (ab fw rfl) rfl ?_
   refine WM.one 18 (by kernel_rfl) (mu rfl (fun hc=>by cases hc) (us [7] [ob v10,ob v9,D5,ob v7,ob v6,ob v2,[pb2],ob pv2_1,pD2_1] 0 aR.lasts nU rfl rfl h10.one rfl h7 rfl (fun ap=>ap.q 2 rfl)) rfl ?_)
   rintro Φ_8 D8 ⟨⟨ap4,fr7⟩,h11⟩
   replace ph2_1:=ph2_1.fr fr7 (ap4.q 7 rfl) (ap4.q 8 rfl)
   replace h1:=h1.fr fr7 (ap4.q 5 rfl) dN
   replace h6:=h6.fr fr7 (ap4.q 3 rfl) dN
   replace h10:=h10.fr fr7 (ap4.q 0 rfl) dN
   replace k3:=fr7 _ _ ((ap4.q 6 rfl) _ (by simp)) k3
   refine WM.nil (by kernel_rfl)<|att 6 [] rfl ?_
   have r3:aR Φ_8 _ [v10] (⟨x6⟩:bk):=⟨v10,rfl,rfl,h10⟩
   obtain ⟨D9,h12,sp2⟩:=h11.unfocus r3 (aR.knows _ _ _ _ r3)
   refine wtL [D9,ob pv2_0,ob v9,ob v7,ob v6,ob v2,[pb2],ob pv2_1,pD2_1] (smg [1,2] rfl (by simpa [List.append_assoc,bv] using sp2)) ?_
   exact lb [3,4,4,1,0,2,2] [0,0,0,0] (ih1 (_,_,_,_,_,_) ⟨h,h12,ph2_1,h1,h6,k3⟩)
  refine att 7 [] rfl ?_
  exact lb [0,1,1,1,1,1,1] [0,0,0,0] (ih1 (_,_,_,_,_,_) ⟨h,k1,ph2_1,h1,h6,k3⟩)
 refine att 6 [] rfl ?_
 refine lin (σ:=Hp × (List aJ) × Value × List Nat × Int) (fun s=>[(2,pQ pb2),(4,iV p4),(5,pQ b_1),(6,pQ b_2),(8,pQ b_3),(10,pQ b_4),(12,u1),(15,iV s.2.2.2.2)]) (fun s=>St w0 s.1 [(b_4,.cells #[.string x1.1.Kind,v2] 47 (0,0)),(b_3,.cells #[pv3_0,iV p3.Next] 37 (0,0)),(b_2,.cells #[pv1_0,pv1_1] 30 (0,0)),(b_1,.cells #[.string p0.Name,pv0_0] 26 (0,0))] [ob u1,ob v2,[pb2],ob pv2_0,D2,ob s.2.2.1,s.2.2.2.1]) (fun m s=>fa N p0 p1 p3 p4 x1 s1 s2 m s.2.1 s.2.2.2.2=some r∧(OSl aR 44 1 s.1 D2 pv2_0 s1)∧(OSl aM 98 1 s.1 s.2.2.2.1 s.2.2.1 s.2.1)∧(OSl aH 91 3 s.1 [] v2 x1.1.Fields)∧(OSl RB 4 1 s.1 [] u1 s2)∧(s.1 pb2=some (.cells #[pv2_0,s.2.2.1] 34 (0,0)))) (Φ_3,p2.Rules,pv2_1,pD2_1,0) N ⟨h,k1,ph2_1,h1,k2,k3⟩ (sx [0,0,0,0,0,0,0] [0,0,0,0]) (fun n2 ih2 s hm=>?_)
 obtain ⟨Φ_9,s4,u2,D10,s5⟩:=s
 obtain ⟨h,k1,k4,h1,k2,k5⟩:=hm
 dsimp only at h k1 k4 h1 k2 k5 ⊢
 unfold fa at h
 refine atr 6 [1,96] rfl<|lnr ph0_0 rfl<|la rfl<|en ?_
 refine ch h rfl ?_ ?_ <;> intro h
 ·refine att 3 [] rfl<|wm [0,1,2,3] [16] rfl<|amm 9 [10,11,12,34,13,14,2,15,0,1,1,96,2] [0,1,2,3] rfl rfl ?_
  obtain ⟨x7,hx7,h⟩:=bs h
  obtain ⟨cs3,F4,-,g2,hb3,hs2,r4⟩:=ph0_0.el (a9 hx7).2.2
  obtain ⟨v11,G3,v12,G4,v13,G5,rfl,rfl,h13,h14,h15⟩:=r4
  refine mqT 3 [4,16] rfl (by kernel_rfl) (kN [0,1,2,3]) (ac wx rfl rfl ph0_0 hx7) rfl<|mq 4 rfl (by kernel_rfl) (kN [0,1,2,3]) (aI mF rfl (fun w1 hw=>(g2.of_eq 0 5 rfl rfl:rg _ _ _ [.string x7.Name,iV x7.Sal,v11,v12,v13]).rangeAt hw.1) rfl) rfl<|amm 3 [5,1,6,64,7] [0,1,2,3] rfl rfl ?_
  obtain ⟨x8,hx8,h⟩:=bs h
  obtain ⟨cs4,F5,-,g3,hb4,hs3,r5⟩:=ph1_1.el (a9 hx8).2.2
  obtain ⟨v14,G6,v15,G7,rfl,rfl,h16,h17⟩:=r5
  refine mqT 8 [9,16] rfl (by kernel_rfl) (kN [0,1,2,3]) (ac ky rfl rfl ph1_1 hx8) rfl<|mq 9 rfl (by kernel_rfl) (kN [0,1,2,3]) (aI DR rfl (fun w1 hw=>(g3.of_eq 0 2 rfl rfl:rg _ _ _ [v14,v15]).rangeAt hw.1) rfl) rfl ?_
  obtain ⟨x9,hx9,h⟩:=bs h
  refine WM.one 16 (by kernel_rfl) (mc rfl (fun hc=>by cases hc) (bZ (js:=[2,4,4]) (R:=[ob u1,ob v2,ob pv2_0,D2]) Ew rfl rfl (fun w1 hw ap hl=>tW N (bx hw ap hl) x7 x8 (⟨s1,s4⟩:ax) s5 p3 p4 x1.1 s2 (h13.y (hw.uo ap)) (h14.y (hw.uo ap)) (h15.y (hw.uo ap)) (h16.y (hw.uo ap)) (h17.y (hw.uo ap)) ((k1.rslG aR.gives).x (Dj.app (ap.q 2 rfl) (ap.q 3 rfl))) k4 k5 (ph3_0.y (hw.uo ap)) (h1.rsl.x (Dj.app (ap.q 1 rfl) dN)) (k2.rsl.x (Dj.app (ap.q 0 rfl) dN))  hx9)) rfl ?_)
  rintro v16 Φ_10 F6 ⟨ap5,fr8,v17,D11,rfl,rfl,e1,h18,h19⟩
  replace k1:=k1.fr fr8 (ap5.q 2 rfl) (ap5.q 3 rfl)
  replace h1:=h1.fr fr8 (ap5.q 1 rfl) dN
  replace k2:=k2.fr fr8 (ap5.q 0 rfl) dN
  refine WM.nil (by kernel_rfl)<|att 6 [] rfl ?_
  exact lb [3,3,0,2,2,0,0] [0,0,0,0] (ih2 (_,_,_,_,_) ⟨h,k1,h18,h1,k2,h19⟩)
 refine xt rfl ?_
 refine WT.fin hF az.none (fun w1 hw=>?_)
 cases h
 refine bc (js:=[2,2,2,2,2]) hw rfl ⟨pv2_0,D2,u2,D10,rfl,rfl,k1,k4,k5⟩
theorem pw (w0:aw Ψ Φ [[pb0]].flatten) (p0:a8) (p1:(List Int)) (ph0_0:RSl (RI .u8) 1 Ψ pG0_0 pv0_0 p0.b) (pp0:Φ pb0=some (.cells #[pv0_0,iV p0.i,iV p0.h] 82 (0,0))) (ph1:RSl (RI .i64) 1 Ψ pG1 pv1 p1) {r:Int × a8} (h:kR N p0 p1=some r) :
  Calls prog 99 [pQ pb0,pv1].toArray w0.w (bg Φ w0.w [[pb0]].flatten (fun Φ' Fs v=>v=iV r.1∧Fs=[[pb0]]∧r.2.b=p0.b∧Φ' pb0=some (.cells #[pv0_0,iV r.2.i,iV r.2.h] 82 (0,0)))):=by
 refine eL func99 rfl ntmps99 rfl (L:=[[pb0]]) w0 (fun hF=>?_)
 unfold kR at h
 refine atr 9 [] rfl<|lnr ph1 rfl<|kcb [0] h rfl rfl rfl rfl (fun b ap z q=>aL N b p0 (p1.length:Int) (ph0_0.y z) pp0 q) ?_
 rintro x1 h v1 Φ_1 F1 ⟨ap1,fr1,rfl,rfl,e1,h1⟩
 obtain ⟨x2,hx2,h⟩:=bs h
 obtain ⟨cs1,F2,-,g1,hb1,hs1,r1⟩:=ph1.el (a9 hx2).2.2
 obtain ⟨rfl,-⟩:=r1
 refine lia ph1 hx2 rfl<|lhx 0 0 g1 rfl<|la rfl<|en ?_
 exact rtg [0] hF (az.one rfl) rfl (by cases h; exact fun w1 hw=>⟨rfl,rfl,rfl,h1⟩)
theorem pD  (w0:aw Ψ Φ []) (p0:bn)  {r:bD} (h:oR N p0=some r) :
  CB w0 prog 131 [.agg [iV p0.K,iV p0.N,.string p0.S].toArray] (.agg [iV r.K,.string r.S,iV r.V.K,iV r.V.N,.string r.V.S].toArray):=by
 refine eN func131 rfl ntmps131 rfl w0 fun hF=>?_
 unfold oR at h
 refine sr<|lbx rfl fun b_1=>lnz iu rfl fun b_2=>arr 4 [35] rfl<|lq (aQ (vs:=[(0,iV 2),(2,.agg [iV p0.K,iV p0.N,.string p0.S].toArray)]) (C:=#[iV 2,.string (⟨#[]⟩:ByteArray),iV p0.K,iV p0.N,.string p0.S]) uL iu rfl (a7 (C':=[iV 2,.string ⟨#[]⟩,iV 0,iV 0,.string ⟨#[]⟩]) rfl rfl rfl rfl rfl (a7 (C':=[iV 2,.string ⟨#[]⟩,iV p0.K,iV p0.N,.string p0.S]) rfl rfl rfl rfl rfl (aa)))) rfl<|soN 0 gy rfl ⟨rfl,rfl,rfl,rfl,rfl,trivial⟩ rfl ?_
 refine en ?_
 refine WT.ret hF (az.one (aX kM rfl (fun w1 hw=>hw.rgO (i:=0) rfl 0 5 [iV 2,.string (⟨#[]⟩:ByteArray),iV p0.K,iV p0.N,.string p0.S] rfl) rfl)) (fun w1 hw=>?_)
 cases h
 exact gi hw
theorem pj  (w0:aw Ψ Φ []) (p0:ByteArray)  {r:bD} (h:oQ N p0=some r) :
  CB w0 prog 132 [.string p0] (.agg [iV r.K,.string r.S,iV r.V.K,iV r.V.N,.string r.V.S].toArray):=by
 refine eN func132 rfl ntmps132 rfl w0 fun hF=>?_
 unfold oQ at h
 refine sr<|lnz iu rfl fun b_1=>arr 4 [] rfl<|lq (aQ (vs:=[(0,iV 1),(1,.string p0)]) (C:=#[iV 1,.string p0,iV 0,iV 0,.string (⟨#[]⟩:ByteArray)]) uL iu rfl (a7 (C':=[iV 1,.string ⟨#[]⟩,iV 0,iV 0,.string ⟨#[]⟩]) rfl rfl rfl rfl rfl (a7 (C':=[iV 1,.string p0,iV 0,iV 0,.string ⟨#[]⟩]) rfl rfl rfl rfl rfl (aa)))) rfl<|soN 0 gy rfl ⟨rfl,rfl,rfl,rfl,rfl,trivial⟩ rfl ?_
 refine en ?_
 refine WT.ret hF (az.one (aX kM rfl (fun w1 hw=>hw.rgO (i:=0) rfl 0 5 [iV 1,.string p0,iV 0,iV 0,.string (⟨#[]⟩:ByteArray)] rfl) rfl)) (fun w1 hw=>?_)
 cases h
 exact gi hw
theorem xu (w0:aw Ψ Φ [[pb0]].flatten) (p0:a8) (ph0_0:RSl (RI .u8) 1 Ψ pG0_0 pv0_0 p0.b) (pp0:Φ pb0=some (.cells #[pv0_0,iV p0.i,iV p0.h] 82 (0,0))) {r:bD × a8} (h:ou N p0=some r) :
  Calls prog 126 [pQ pb0].toArray w0.w (bg Φ w0.w [[pb0]].flatten (fun Φ' Fs v=>v = .agg [iV r.1.K,.string r.1.S,iV r.1.V.K,iV r.1.V.N,.string r.1.V.S].toArray∧Fs=[[pb0]]∧r.2.b=p0.b∧Φ' pb0=some (.cells #[pv0_0,iV r.2.i,iV r.2.h] 82 (0,0)))):=by
 refine eL func126 rfl ntmps126 rfl (L:=[[pb0]]) w0 (fun hF=>?_)
 unfold ou at h
 refine sr<|lnz iu rfl fun b_1=>arr 5 [] rfl<|kcb [0] h rfl rfl rfl rfl (fun b ap z q=>aL N b p0 6 (ph0_0.y z) pp0 q) ?_
 rintro x1 h v1 Φ_1 F1 ⟨ap1,fr1,rfl,rfl,e1,h1⟩
 refine art 7 [] rfl ?_
 refine ch h rfl ?_ ?_ <;> intro h
 ·refine sr<|lq (aQ (vs:=[(0,iV 3)]) (C:=#[iV 3,.string (⟨#[]⟩:ByteArray),iV 0,iV 0,.string (⟨#[]⟩:ByteArray)]) uL iu rfl (a7 (C':=[iV 3,.string ⟨#[]⟩,iV 0,iV 0,.string ⟨#[]⟩]) rfl rfl rfl rfl rfl (aa))) rfl<|soN 0 gy rfl ⟨rfl,rfl,rfl,rfl,rfl,trivial⟩ rfl ?_
  refine en ?_
  exact rtg [0] hF (az.one (aX kM rfl (fun w1 hw=>hw.rgO (i:=0) rfl 0 5 [iV 3,.string (⟨#[]⟩:ByteArray),iV 0,iV 0,.string (⟨#[]⟩:ByteArray)] rfl) rfl)) rfl (by cases h; exact fun w1 hw=>⟨rfl,rfl,rfl,h1⟩)
 refine att 5 [] rfl ?_
 refine ch h rfl ?_ ?_ <;> intro h
 ·refine sr<|la rfl<|kcb [0] h rfl rfl rfl rfl (fun b ap z q=>mX N b (⟨p0.b,x1.2.i,x1.2.h⟩:a8) (ph0_0.y z) h1 q) ?_
  rintro x2 h v2 Φ_2 F2 ⟨ap2,fr2,rfl,rfl,e2,h2⟩
  refine qc h (pD N · x2.1 ·) rfl rfl rfl fun x3 h=>soN 0 gy rfl ⟨rfl,rfl,rfl,rfl,rfl,trivial⟩ rfl ?_
  refine en ?_
  exact rtg [0] hF (az.one (aX kM rfl (fun w1 hw=>hw.rgO (i:=0) rfl 0 5 [iV x3.K,.string x3.S,iV x3.V.K,iV x3.V.N,.string x3.V.S] rfl) rfl)) rfl (by cases h; exact fun w1 hw=>⟨rfl,rfl,rfl,h2⟩)
 refine atr 5 [] rfl ?_
 have rc1:RC RS 1 Φ_1 ([[],[],[],[]]:List (List Nat)) [.string (⟨#[88]⟩:ByteArray),.string (⟨#[89]⟩:ByteArray),.string (⟨#[90]⟩:ByteArray),.string (⟨#[88]⟩:ByteArray)] ([(⟨#[88]⟩:ByteArray),(⟨#[89]⟩:ByteArray),(⟨#[90]⟩:ByteArray),(⟨#[88]⟩:ByteArray)]:List ByteArray):=RC.cons (c:=[.string (⟨#[88]⟩:ByteArray)]) (cells:=[.string (⟨#[89]⟩:ByteArray),.string (⟨#[90]⟩:ByteArray),.string (⟨#[88]⟩:ByteArray)]) ⟨rfl,rfl⟩ rfl (RC.cons (c:=[.string (⟨#[89]⟩:ByteArray)]) (cells:=[.string (⟨#[90]⟩:ByteArray),.string (⟨#[88]⟩:ByteArray)]) ⟨rfl,rfl⟩ rfl (RC.cons (c:=[.string (⟨#[90]⟩:ByteArray)]) (cells:=[.string (⟨#[88]⟩:ByteArray)]) ⟨rfl,rfl⟩ rfl (RC.cons (c:=[.string (⟨#[88]⟩:ByteArray)]) (cells:=[]) ⟨rfl,rfl⟩ rfl (RC.nil _ _ _))))
 refine le' (aY (vs:=[(0,.string (⟨#[88]⟩:ByteArray)),(1,.string (⟨#[89]⟩:ByteArray)),(2,.string (⟨#[90]⟩:ByteArray)),(3,.string (⟨#[88]⟩:ByteArray))]) (C:=#[.string (⟨#[88]⟩:ByteArray),.string (⟨#[89]⟩:ByteArray),.string (⟨#[90]⟩:ByteArray),.string (⟨#[88]⟩:ByteArray)]) RS.lasts ke rp rfl rfl rfl rfl (ag xw (a7 (C':=[.string (⟨#[88]⟩:ByteArray),.string ⟨#[]⟩,.string ⟨#[]⟩,.string ⟨#[]⟩]) rfl rfl rfl rfl rfl (a7 (C':=[.string (⟨#[88]⟩:ByteArray),.string (⟨#[89]⟩:ByteArray),.string ⟨#[]⟩,.string ⟨#[]⟩]) rfl rfl rfl rfl rfl (a7 (C':=[.string (⟨#[88]⟩:ByteArray),.string (⟨#[89]⟩:ByteArray),.string (⟨#[90]⟩:ByteArray),.string ⟨#[]⟩]) rfl rfl rfl rfl rfl (a7 (C':=[.string (⟨#[88]⟩:ByteArray),.string (⟨#[89]⟩:ByteArray),.string (⟨#[90]⟩:ByteArray),.string (⟨#[88]⟩:ByteArray)]) rfl rfl rfl rfl rfl (aa)))))) rfl rc1 rfl (by simpa using Kw.nil)) rfl ?_
 rintro v3 Φ_3 D1 ⟨fr3,h3⟩
 replace h3:OSl RS 9 1 Φ_3 [] v3 ([(⟨#[88]⟩:ByteArray),(⟨#[89]⟩:ByteArray),(⟨#[90]⟩:ByteArray),(⟨#[88]⟩:ByteArray)]:List ByteArray):=by simpa using h3
 replace h1:=fr3 _ _ (by simp) h1
 refine kcb [1] h rfl rfl rfl rfl (fun b ap z q=>eY N b (⟨p0.b,x1.2.i,x1.2.h⟩:a8) ([(⟨#[88]⟩:ByteArray),(⟨#[89]⟩:ByteArray),(⟨#[90]⟩:ByteArray),(⟨#[88]⟩:ByteArray)]:List ByteArray) (ph0_0.y z) h1 (h3.rsl.x (Dj.app (ap.q 0 rfl) dN)) q) ?_
 rintro x4 h v4 Φ_4 F3 ⟨ap3,fr4,rfl,rfl,e3,h4⟩
 refine qc h (pj N · x4.1 ·) rfl rfl rfl fun x5 h=>soN 0 gy rfl ⟨rfl,rfl,rfl,rfl,rfl,trivial⟩ rfl ?_
 refine en ?_
 exact rtg [0] hF (az.one (aX kM rfl (fun w1 hw=>hw.rgO (i:=0) rfl 0 5 [iV x5.K,.string x5.S,iV x5.V.K,iV x5.V.N,.string x5.V.S] rfl) rfl)) rfl (by cases h; exact fun w1 hw=>⟨rfl,rfl,rfl,h4⟩)
theorem qU (w0:aw Ψ Φ [[pb0]].flatten) (p0:a8) (p1:Bool) (ph0_0:RSl (RI .u8) 1 Ψ pG0_0 pv0_0 p0.b) (pp0:Φ pb0=some (.cells #[pv0_0,iV p0.i,iV p0.h] 82 (0,0))) {r:av × a8} (h:kT N p0 p1=some r) :
  Calls prog 100 [pQ pb0,.bool p1].toArray w0.w (bg Φ w0.w [[pb0]].flatten (fun Φ' Fs v=>∃ (sr_0_0:Value),v = .agg [.string r.1.Kind,sr_0_0,.bool r.1.Not].toArray∧Fs=[ob sr_0_0,[pb0]]∧OSl du 152 5 Φ' [] sr_0_0 r.1.Args∧r.2.b=p0.b∧Φ' pb0=some (.cells #[pv0_0,iV r.2.i,iV r.2.h] 82 (0,0)))):=by
 refine eL func100 rfl ntmps100 rfl (L:=[[pb0]]) w0 (fun hF=>?_)
 unfold kT at h
 refine sr<|lnz jY rfl fun b_1=>arr 4 [] rfl ?_
 have rc1:RC RS 1 Φ ([[],[],[],[]]:List (List Nat)) [.string (⟨#[111,114,100,101,114]⟩:ByteArray),.string (⟨#[112,97,105,100]⟩:ByteArray),.string (⟨#[105,116,101,109]⟩:ByteArray),.string (⟨#[111,114,100,101,114]⟩:ByteArray)] ([(⟨#[111,114,100,101,114]⟩:ByteArray),(⟨#[112,97,105,100]⟩:ByteArray),(⟨#[105,116,101,109]⟩:ByteArray),(⟨#[111,114,100,101,114]⟩:ByteArray)]:List ByteArray):=RC.cons (c:=[.string (⟨#[111,114,100,101,114]⟩:ByteArray)]) (cells:=[.string (⟨#[112,97,105,100]⟩:ByteArray),.string (⟨#[105,116,101,109]⟩:ByteArray),.string (⟨#[111,114,100,101,114]⟩:ByteArray)]) ⟨rfl,rfl⟩ rfl (RC.cons (c:=[.string (⟨#[112,97,105,100]⟩:ByteArray)]) (cells:=[.string (⟨#[105,116,101,109]⟩:ByteArray),.string (⟨#[111,114,100,101,114]⟩:ByteArray)]) ⟨rfl,rfl⟩ rfl (RC.cons (c:=[.string (⟨#[105,116,101,109]⟩:ByteArray)]) (cells:=[.string (⟨#[111,114,100,101,114]⟩:ByteArray)]) ⟨rfl,rfl⟩ rfl (RC.cons (c:=[.string (⟨#[111,114,100,101,114]⟩:ByteArray)]) (cells:=[]) ⟨rfl,rfl⟩ rfl (RC.nil _ _ _))))
 refine le' (aY (vs:=[(0,.string (⟨#[111,114,100,101,114]⟩:ByteArray)),(1,.string (⟨#[112,97,105,100]⟩:ByteArray)),(2,.string (⟨#[105,116,101,109]⟩:ByteArray)),(3,.string (⟨#[111,114,100,101,114]⟩:ByteArray))]) (C:=#[.string (⟨#[111,114,100,101,114]⟩:ByteArray),.string (⟨#[112,97,105,100]⟩:ByteArray),.string (⟨#[105,116,101,109]⟩:ByteArray),.string (⟨#[111,114,100,101,114]⟩:ByteArray)]) RS.lasts ke rp rfl rfl rfl rfl (ag xw (a7 (C':=[.string (⟨#[111,114,100,101,114]⟩:ByteArray),.string ⟨#[]⟩,.string ⟨#[]⟩,.string ⟨#[]⟩]) rfl rfl rfl rfl rfl (a7 (C':=[.string (⟨#[111,114,100,101,114]⟩:ByteArray),.string (⟨#[112,97,105,100]⟩:ByteArray),.string ⟨#[]⟩,.string ⟨#[]⟩]) rfl rfl rfl rfl rfl (a7 (C':=[.string (⟨#[111,114,100,101,114]⟩:ByteArray),.string (⟨#[112,97,105,100]⟩:ByteArray),.string (⟨#[105,116,101,109]⟩:ByteArray),.string ⟨#[]⟩]) rfl rfl rfl rfl rfl (a7 (C':=[.string (⟨#[111,114,100,101,114]⟩:ByteArray),.string (⟨#[112,97,105,100]⟩:ByteArray),.string (⟨#[105,116,101,109]⟩:ByteArray),.string (⟨#[111,114,100,101,114]⟩:ByteArray)]) rfl rfl rfl rfl rfl (aa)))))) rfl rc1 rfl (by simpa using Kw.nil)) rfl ?_
 rintro v1 Φ_1 D1 ⟨fr1,h1⟩
 replace h1:OSl RS 9 1 Φ_1 [] v1 ([(⟨#[111,114,100,101,114]⟩:ByteArray),(⟨#[112,97,105,100]⟩:ByteArray),(⟨#[105,116,101,109]⟩:ByteArray),(⟨#[111,114,100,101,114]⟩:ByteArray)]:List ByteArray):=by simpa using h1
 replace pp0:=fr1 _ _ (by simp) pp0
 refine kcb [1] h rfl rfl rfl rfl (fun b ap z q=>eY N b p0 ([(⟨#[111,114,100,101,114]⟩:ByteArray),(⟨#[112,97,105,100]⟩:ByteArray),(⟨#[105,116,101,109]⟩:ByteArray),(⟨#[111,114,100,101,114]⟩:ByteArray)]:List ByteArray) (ph0_0.y z) pp0 (h1.rsl.x (Dj.app (ap.q 0 rfl) dN)) q) ?_
 rintro x1 h v2 Φ_2 F1 ⟨ap1,fr2,rfl,rfl,e1,h2⟩
 refine la rfl<|lq (aQ (vs:=[(0,.string x1.1),(2,.bool p1)]) (C:=#[.string x1.1,.slice none 0 0,.bool p1]) Fx jY rfl (a7 (C':=[.string x1.1,.slice none 0 0,.bool false]) rfl rfl rfl rfl rfl (a7 (C':=[.string x1.1,.slice none 0 0,.bool p1]) rfl rfl rfl rfl rfl (aa)))) rfl<|lnz jY rfl fun b_2=>soN 0 od rfl ⟨rfl,rfl,rfl,trivial⟩ rfl ?_
 refine art 12 [0,0] rfl ?_
 refine cut (σ:=Int) (fun s=>[(0,pQ pb0),(4,pQ b_1),(5,pQ b_2),(6,iV s)]) (fun s=>St w0 Φ_2 [(b_2,.cells #[.string x1.1,.slice none 0 0,.bool p1] 128 (0,0)),(b_1,.cells #[.string (⟨#[]⟩:ByteArray),.slice none 0 0,.bool false] 128 (0,0))] [[pb0]]) (fun s=>jm N p0 p1 x1 s=some r) (fun s hm=>?_) (fun K=>?_)
 ·clear h
  revert hm; revert s; intro s1 hm
  have h:jm N p0 p1 x1 s1=some r:=hm
  show WT _ _ [(0,pQ pb0),(4,pQ b_1),(5,pQ b_2),(6,iV s1)] (St w0 Φ_2 [(b_2,.cells #[.string x1.1,.slice none 0 0,.bool p1] 128 (0,0)),(b_1,.cells #[.string (⟨#[]⟩:ByteArray),.slice none 0 0,.bool false] 128 (0,0))] [[pb0]])
  unfold jm at h
  refine att 6 [] rfl<|wtS ?_
  have k1:=OSl.nil du 152 5 Φ_2
  refine lin (σ:=Hp × (List bD) × Value × Int × Int × Int) (fun s=>[(0,pQ pb0),(4,pQ b_1),(5,pQ b_2),(6,iV s1),(7,iV s.2.2.2.1)]) (fun s=>St w0 s.1 [(b_2,.cells #[.string x1.1,s.2.2.1,.bool p1] 128 (0,0)),(b_1,.cells #[.string (⟨#[]⟩:ByteArray),.slice none 0 0,.bool false] 128 (0,0))] [ob s.2.2.1,[pb0]]) (fun m s=>ia N p0 p1 x1 s1 m s.2.1 s.2.2.2.1 s.2.2.2.2.1 s.2.2.2.2.2=some r∧(OSl du 152 5 s.1 [] s.2.2.1 s.2.1)∧(s.1 pb0=some (.cells #[pv0_0,iV s.2.2.2.2.1,iV s.2.2.2.2.2] 82 (0,0)))) (Φ_2,([]:List bD),(.slice none 0 0),0,x1.2.i,x1.2.h) N ⟨h,k1,h2⟩ (sx [0,0] [0,0]) (fun n2 ih2 s hm=>?_)
  obtain ⟨Φ_3,s2,u1,s3,s4,s5⟩:=s
  obtain ⟨h,k2,k3⟩:=hm
  dsimp only at h k2 k3 ⊢
  unfold ia at h
  refine att 7 [] rfl ?_
  refine ch h rfl ?_ ?_ <;> intro h
  ·refine att 3 [] rfl<|wm [0,1] [7] rfl<|amm 3 [0,1,1,0,2] [0,1] rfl rfl ?_
   obtain ⟨x2,hx2,h⟩:=bs h
   refine WM.one 3 (by kernel_rfl) (mc rfl (fun _ v Φx D w1 hq hw=>Kn.of Kf.nil (ai2 0 1 rfl rfl) hw) (bZ (js:=[1]) (R:=[ob u1]) CL rfl rfl (fun w1 hw ap hl=>xu N (bx hw ap hl) (⟨p0.b,s4,s5⟩:a8) (ph0_0.y (hw.uo ap)) k3  hx2)) rfl ?_)
   rintro v3 Φ_4 F2 ⟨ap2,fr3,rfl,rfl,e2,h3⟩
   replace k2:=k2.fr fr3 (ap2.q 0 rfl) dN
   have rc2:RC du 5 Φ_4 ([[]]:List (List Nat)) [iV x2.1.K,.string x2.1.S,iV x2.1.V.K,iV x2.1.V.N,.string x2.1.V.S] ([x2.1]:List bD):=RC.cons (c:=[iV x2.1.K,.string x2.1.S,iV x2.1.V.K,iV x2.1.V.N,.string x2.1.V.S]) (cells:=[]) ⟨rfl,rfl⟩ rfl (RC.nil _ _ _)
   refine WM.one 4 (by kernel_rfl) (me rfl (fun _ v Φx D w1 hq hw=>Kn.of Kf.nil (ai2 0 1 rfl rfl) hw) (aY (vs:=[(0,.agg [iV x2.1.K,.string x2.1.S,iV x2.1.V.K,iV x2.1.V.N,.string x2.1.V.S].toArray)]) (C:=#[iV x2.1.K,.string x2.1.S,iV x2.1.V.K,iV x2.1.V.N,.string x2.1.V.S]) du.lasts un iu rfl rfl rfl rfl (ag B5 (a7 (C':=[iV x2.1.K,.string x2.1.S,iV x2.1.V.K,iV x2.1.V.N,.string x2.1.V.S]) rfl rfl rfl rfl rfl (aa))) rfl rc2 rfl (by simpa using Kw.nil)) rfl ?_)
   rintro v4 Φ_5 D2 ⟨fr4,h4⟩
   replace h4:OSl du 152 5 Φ_5 [] v4 ([x2.1]:List bD):=by simpa using h4
   replace k2:=k2.f0 fr4
   replace h3:=fr4 _ _ (by simp) h3
   obtain ⟨x3,hx3,h⟩:=bs h
   refine WM.one 5 (by kernel_rfl) (me rfl (fun _ v Φx D w1 hq hw=>Kn.of Kf.nil (ai2 0 1 rfl rfl) hw) (bB du.lasts du.one du.flat un E3 rfl rfl rfl rfl rfl (js:=[2]) (Rr:=[ob v4,[pb0]]) rfl k2 h4.rsl hx3) rfl ?_)
   rintro v5 Φ_6 D3 ⟨⟨ap3,fr5⟩,h5⟩
   replace h3:=fr5 _ _ ((ap3.q 1 rfl) _ (by simp)) h3
   refine amm 1 [6,1] [0,1] rfl rfl ?_
   refine on1 7 (ms1 0 rfl nk Ek rfl h5.one ?_)
   refine WM.nil (by kernel_rfl)<|att 6 [] rfl ?_
   exact lb [0,1] [0,0] (ih2 (_,_,_,_,_,_) ⟨h,h5,h3⟩)
  refine atr 4 [3] rfl<|soN 1 od rfl ⟨rfl,k2.one,rfl,trivial⟩ rfl ?_
  refine en ?_
  exact rtg [0,0] hF (az.one (aX ve rfl (fun w1 hw=>hw.rgO (i:=1) rfl 0 3 [.string x1.1,u1,.bool p1] rfl) rfl)) rfl (by cases h; exact fun w1 hw=>⟨u1,rfl,rfl,k2,rfl,k3⟩)
 refine ch h rfl ?_ ?_ <;> intro h
 ·refine att 3 [] rfl ?_
  exact wo [0] [0,0] (K _ h)
 refine WT.skip ?_
 exact wo [0] [0,0] (K _ h)
theorem pq (w0:aw Ψ Φ []) (p0:(List ByteArray)) (p1:ByteArray) (ph0:RSl RS 1 Ψ pG0 pv0 p0) {r:Bool} (h:kO N p0 p1=some r) :
  CB w0 prog 128 [pv0,.string p1] (.bool r):=by
 refine eN func128 rfl ntmps128 rfl w0 fun hF=>?_
 unfold kO at h
 refine att 10 [] rfl ?_
 refine lin (σ:=Int) (fun s=>[(0,pv0),(1,.string p1),(5,iV s)]) (fun s=>St w0 Φ [] []) (fun m s=>gY N p0 p1 m s=some r) (0) N h (sx [] []) (fun n1 ih1 s hm=>?_)
 revert hm; revert s; intro s1 hm
 have h:gY N p0 p1 (n1+1) s1=some r:=hm
 show WT _ _ [(0,pv0),(1,.string p1),(5,iV s1)] (St w0 Φ [] [])
 unfold gY at h
 refine atr 5 [] rfl<|lnr ph0 rfl<|la rfl<|en ?_
 refine ch h rfl ?_ ?_ <;> intro h
 ·refine atr 7 [] rfl ?_
  obtain ⟨x1,hx1,h⟩:=bs h
  obtain ⟨cs1,F1,-,g1,hb1,hs1,r1⟩:=ph0.el (a9 hx1).2.2
  obtain ⟨rfl,-⟩:=r1
  refine lia ph0 hx1 rfl<|lhx 0 0 g1 rfl<|art 3 [] rfl ?_
  refine ch h rfl ?_ ?_ <;> intro h
  ·refine att 4 [] rfl ?_
   exact rt hF h
  refine att 7 [] rfl ?_
  exact lb [] [] (ih1 _ h)
 refine att 5 [] rfl ?_
 exact rt hF h
theorem vO (w0:aw Ψ Φ []) (p0:av) (ph0_0:RSl du 5 Ψ pG0_0 pv0_0 p0.Args) {r:(List ByteArray)} (h:mY N p0=some r) :
  Calls prog 127 [.agg [.string p0.Kind,pv0_0,.bool p0.Not].toArray].toArray w0.w (bg Φ w0.w [] (fun Φ' Fs v=>∃ (sr_0_0:Value),v=sr_0_0∧Fs=[ob sr_0_0]∧OSl RS 9 1 Φ' [] sr_0_0 r)):=by
 refine eN func127 rfl ntmps127 rfl w0 fun hF=>?_
 unfold mY at h
 refine sr<|lbx rfl fun b_1=>arr 4 [] rfl<|le' (dI RS.lasts ke rp rfl rfl) rfl ?_
 rintro v1 Φ_1 D1 ⟨fr1,h1⟩
 refine art 8 [] rfl ?_
 refine lin (σ:=Hp × (List ByteArray) × Value × Int) (fun s=>[(1,pQ b_1),(3,s.2.2.1),(4,iV s.2.2.2)]) (fun s=>St w0 s.1 [(b_1,.cells #[.string p0.Kind,pv0_0,.bool p0.Not] 128 (0,0))] [ob s.2.2.1]) (fun m s=>fo N p0 m s.2.1 s.2.2.2=some r∧(OSl RS 9 1 s.1 [] s.2.2.1 s.2.1)) (Φ_1,([]:List ByteArray),v1,0) N ⟨h,h1⟩ (sx [0] [0]) (fun n1 ih1 s hm=>?_)
 obtain ⟨Φ_2,s1,u1,s2⟩:=s
 obtain ⟨h,k1⟩:=hm
 dsimp only at h k1 ⊢
 unfold fo at h
 refine atr 6 [1,0] rfl<|lnr ph0_0 rfl<|la rfl<|en ?_
 refine ch h rfl ?_ ?_ <;> intro h
 ·refine atr 8 [1,0] rfl ?_
  obtain ⟨x1,hx1,h⟩:=bs h
  obtain ⟨cs1,F1,-,g1,hb1,hs1,r1⟩:=ph0_0.el (a9 hx1).2.2
  obtain ⟨rfl,-⟩:=r1
  refine lia ph0_0 hx1 rfl<|lf ww rfl rfl rfl<|lhx 0 0 g1 rfl<|arr 2 [] rfl ?_
  obtain ⟨b1,hb_1,h⟩:=bs h
  refine WL.cutN 10 [(30,.bool b1),(1,pQ b_1),(3,u1),(4,iV s2)] ?_ (fun K=>?_)
  rotate_left
  ·refine sp 20 hb_1 rfl (fun hb_1=>?_) fun hb_1=>?_
   ·refine arr 4 [1,0] rfl<|ly rfl rfl ?_
    obtain ⟨x2,hx2,hb_1⟩:=bs hb_1
    obtain ⟨cs2,F2,-,g2,hb2,hs2,r2⟩:=ph0_0.el (a9 hx2).2.2
    obtain ⟨rfl,-⟩:=r2
    refine lia ph0_0 hx2 rfl<|ly rfl rfl<|lf wh rfl rfl rfl<|ly rfl rfl<|lhx 1 0 g2 rfl<|ly rfl rfl<|qc hb_1 (pq N · s1 x2.S k1.rsl ·) rfl rfl rfl fun x3 hb_1=>arr 2 [] rfl ?_
    cases hb_1
    exact ku K
   ·refine arr 10 [] rfl ?_
    cases hb_1
    exact ku K
  refine en ?_
  refine ch h rfl ?_ ?_ <;> intro h
  ·refine atr 5 [1,0] rfl ?_
   obtain ⟨x4,hx4,h⟩:=bs h
   obtain ⟨cs3,F3,-,g3,hb3,hs3,r3⟩:=ph0_0.el (a9 hx4).2.2
   obtain ⟨rfl,-⟩:=r3
   refine lia ph0_0 hx4 rfl<|lf wh rfl rfl rfl<|lhx 1 0 g3 rfl ?_
   have rc2:RC RS 1 Φ_2 ([[]]:List (List Nat)) [.string x4.S] ([x4.S]:List ByteArray):=RC.cons (c:=[.string x4.S]) (cells:=[]) ⟨rfl,rfl⟩ rfl (RC.nil _ _ _)
   refine le' (aY (vs:=[(0,.string x4.S)]) (C:=#[.string x4.S]) RS.lasts ke rp rfl rfl rfl rfl (ag yI (a7 (C':=[.string x4.S]) rfl rfl rfl rfl rfl (aa))) rfl rc2 rfl (by simpa using Kw.nil)) rfl ?_
   rintro v2 Φ_3 D2 ⟨fr2,h2⟩
   replace h2:OSl RS 9 1 Φ_3 [] v2 ([x4.S]:List ByteArray):=by simpa using h2
   replace k1:=k1.f0 fr2
   obtain ⟨x5,hx5,h⟩:=bs h
   refine le' (bB RS.lasts RS.one RS.flat ke EE rfl rfl rfl rfl rfl (js:=[1]) (Rr:=[ob v2]) rfl k1 h2.rsl hx5) rfl ?_
   rintro v3 Φ_4 D3 ⟨⟨ap1,fr3⟩,h3⟩
   refine art 8 [] rfl ?_
   exact lb [0] [0] (ih1 (_,_,_,_) ⟨h,h3⟩)
  refine att 7 [] rfl ?_
  exact lb [0] [0] (ih1 (_,_,_,_) ⟨h,k1⟩)
 refine att 6 [] rfl ?_
 exact rtg [0] hF (az.one rfl) rfl (by cases h; exact fun w1 hw=>⟨u1,rfl,rfl,k1⟩)
theorem pU (w0:aw Ψ Φ []) (p0:an) (ph0_0:RSl bW 3 Ψ pG0_0 pv0_0 p0.Pats) (ph0_1:RSl bL 11 Ψ pG0_1 pv0_1 p0.Conds) (ph0_2:RSl fS 5 Ψ pG0_2 pv0_2 p0.Acts) {r:(List ByteArray)} (h:gJ N p0=some r) :
  Calls prog 101 [.agg [.string p0.Name,iV p0.Sal,pv0_0,pv0_1,pv0_2].toArray].toArray w0.w (bg Φ w0.w [] (fun Φ' Fs v=>∃ (sr_0_0:Value),v=sr_0_0∧Fs=[ob sr_0_0]∧OSl RS 9 1 Φ' [] sr_0_0 r)):=by
 refine eN func101 rfl ntmps101 rfl w0 fun hF=>?_
 unfold gJ at h
 refine sr<|lbx rfl fun b_1=>arr 4 [] rfl<|le' (dI RS.lasts ke rp rfl rfl) rfl ?_
 rintro v1 Φ_1 D1 ⟨fr1,h1⟩
 refine art 8 [] rfl ?_
 refine lin (σ:=Hp × (List ByteArray) × Value × Int) (fun s=>[(1,pQ b_1),(3,s.2.2.1),(4,iV s.2.2.2)]) (fun s=>St w0 s.1 [(b_1,.cells #[.string p0.Name,iV p0.Sal,pv0_0,pv0_1,pv0_2] 120 (0,0))] [ob s.2.2.1]) (fun m s=>ct N p0 m s.2.1 s.2.2.2=some r∧(OSl RS 9 1 s.1 [] s.2.2.1 s.2.1)) (Φ_1,([]:List ByteArray),v1,0) N ⟨h,h1⟩ (sx [0] [0]) (fun n1 ih1 s hm=>?_)
 obtain ⟨Φ_2,s1,u1,s2⟩:=s
 obtain ⟨h,k1⟩:=hm
 dsimp only at h k1 ⊢
 unfold ct at h
 refine atr 6 [2,0] rfl<|lnr ph0_0 rfl<|la rfl<|en ?_
 refine ch h rfl ?_ ?_ <;> intro h
 ·refine atr 8 [2,0] rfl ?_
  obtain ⟨x1,hx1,h⟩:=bs h
  obtain ⟨cs1,F1,-,g1,hb1,hs1,r1⟩:=ph0_0.el (a9 hx1).2.2
  obtain ⟨v2,G1,rfl,hq1,h2⟩:=r1
  obtain rfl:=hq1.symm
  refine lia ph0_0 hx1 rfl<|lhx 0 3 g1 rfl<|kab h rfl rfl rfl (fun b z q=>vO N b x1 (h2.y z) q) ?_
  rintro x2 h v3 Φ_3 F2 ⟨ap1,fr2,v4,rfl,rfl,h3⟩
  replace k1:=k1.fr fr2 (ap1.q 0 rfl) dN
  refine art 7 [] rfl ?_
  refine lin (σ:=Hp × (List ByteArray) × Value × Int) (fun s=>[(1,pQ b_1),(3,s.2.2.1),(4,iV s2),(5,v3),(6,iV s.2.2.2)]) (fun s=>St w0 s.1 [(b_1,.cells #[.string p0.Name,iV p0.Sal,pv0_0,pv0_1,pv0_2] 120 (0,0))] [ob v3,ob s.2.2.1]) (fun m s=>co N p0 s2 (ct N p0 n1) x2 m s.2.1 s.2.2.2=some r∧(OSl RS 9 1 s.1 [] s.2.2.1 s.2.1)∧(OSl RS 9 1 s.1 [] v3 x2)) (Φ_3,s1,u1,0) N ⟨h,k1,h3⟩ (sx [0,0] [0]) (fun n2 ih2 s hm=>?_)
  obtain ⟨Φ_4,s3,u2,s4⟩:=s
  obtain ⟨h,k2,h3⟩:=hm
  dsimp only at h k2 h3 ⊢
  unfold co at h
  refine atr 5 [] rfl<|lno h3 rfl<|arr 2 [] rfl ?_
  obtain ⟨b1,hb_1,h⟩:=bs h
  refine WL.cutN 8 [(33,.bool b1),(1,pQ b_1),(3,u2),(4,iV s2),(5,v3),(6,iV s4)] ?_ (fun K=>?_)
  rotate_left
  ·refine sp 25 hb_1 rfl (fun hb_1=>?_) fun hb_1=>?_
   ·refine arr 3 [2,0] rfl<|ly rfl rfl ?_
    obtain ⟨x3,hx3,hb_1⟩:=bs hb_1
    obtain ⟨cs2,F3,-,g2,hb2,hs2,r2⟩:=ph0_0.el (a9 hx3).2.2
    obtain ⟨v5,G2,rfl,hq2,h4⟩:=r2
    obtain rfl:=hq2.symm
    refine lia ph0_0 hx3 rfl<|ly rfl rfl<|lf kF rfl rfl rfl<|ly rfl rfl<|lhx 2 0 g2 rfl<|arr 2 [] rfl ?_
    cases hb_1
    exact ku K
   ·refine arr 8 [] rfl ?_
    cases hb_1
    exact ku K
  refine en ?_
  refine ch h rfl ?_ ?_ <;> intro h
  ·refine atr 8 [] rfl ?_
   obtain ⟨x4,hx4,h⟩:=bs h
   obtain ⟨cs3,F4,-,g3,hb3,hs3,r3⟩:=h3.elS (a9 hx4).2.2
   obtain ⟨rfl,-⟩:=r3
   refine lio h3 hx4 rfl<|lgx 0 0 g3 rfl<|qc h (pq N · s3 x4 k2.rsl ·) rfl rfl rfl fun x5 h=>la rfl<|en ?_
   refine ch h rfl ?_ ?_ <;> intro h
   ·refine atr 4 [] rfl ?_
    obtain ⟨x6,hx6,h⟩:=bs h
    obtain ⟨cs4,F5,-,g4,hb4,hs4,r4⟩:=h3.elS (a9 hx6).2.2
    obtain ⟨rfl,-⟩:=r4
    refine lio h3 hx6 rfl<|lgx 0 0 g4 rfl ?_
    have rc2:RC RS 1 Φ_4 ([[]]:List (List Nat)) [.string x6] ([x6]:List ByteArray):=RC.cons (c:=[.string x6]) (cells:=[]) ⟨rfl,rfl⟩ rfl (RC.nil _ _ _)
    refine le' (aY (vs:=[(0,.string x6)]) (C:=#[.string x6]) RS.lasts ke rp rfl rfl rfl rfl (ag yI (a7 (C':=[.string x6]) rfl rfl rfl rfl rfl (aa))) rfl rc2 rfl (by simpa using Kw.nil)) rfl ?_
    rintro v6 Φ_5 D2 ⟨fr3,h5⟩
    replace h5:OSl RS 9 1 Φ_5 [] v6 ([x6]:List ByteArray):=by simpa using h5
    replace k2:=k2.f0 fr3
    replace h3:=h3.f0 fr3
    obtain ⟨x7,hx7,h⟩:=bs h
    refine le' (bB RS.lasts RS.one RS.flat ke EE rfl rfl rfl rfl rfl (js:=[2]) (Rr:=[ob v6,ob v3]) rfl k2 h5.rsl hx7) rfl ?_
    rintro v7 Φ_6 D3 ⟨⟨ap2,fr4⟩,h6⟩
    replace h3:=h3.fr fr4 (ap2.q 1 rfl) dN
    refine art 8 [] rfl ?_
    exact lb [2,0] [0] (ih2 (_,_,_,_) ⟨h,h6,h3⟩)
   refine att 7 [] rfl ?_
   exact lb [0,0] [0] (ih2 (_,_,_,_) ⟨h,k2,h3⟩)
  refine att 7 [] rfl ?_
  exact lb [1] [0] (ih1 (_,_,_,_) ⟨h,k2⟩)
 refine att 6 [] rfl ?_
 exact rtg [0] hF (az.one rfl) rfl (by cases h; exact fun w1 hw=>⟨u1,rfl,rfl,k1⟩)
theorem mg (w0:aw Ψ Φ [[pb0]].flatten) (p0:a8) (ph0_0:RSl (RI .u8) 1 Ψ pG0_0 pv0_0 p0.b) (pp0:Φ pb0=some (.cells #[pv0_0,iV p0.i,iV p0.h] 82 (0,0))) {r:bD × a8} (h:jI N p0=some r) :
  Calls prog 129 [pQ pb0].toArray w0.w (bg Φ w0.w [[pb0]].flatten (fun Φ' Fs v=>v = .agg [iV r.1.K,.string r.1.S,iV r.1.V.K,iV r.1.V.N,.string r.1.V.S].toArray∧Fs=[[pb0]]∧r.2.b=p0.b∧Φ' pb0=some (.cells #[pv0_0,iV r.2.i,iV r.2.h] 82 (0,0)))):=by
 refine eL func129 rfl ntmps129 rfl (L:=[[pb0]]) w0 (fun hF=>?_)
 unfold jI at h
 refine sr<|lnz iu rfl fun b_1=>arr 5 [] rfl<|kcb [0] h rfl rfl rfl rfl (fun b ap z q=>em N b p0 3 (ph0_0.y z) pp0 q) ?_
 rintro x1 h v1 Φ_1 F1 ⟨ap1,fr1,rfl,rfl,e1,h1⟩
 refine en ?_
 refine ch h rfl ?_ ?_ <;> intro h
 ·refine sr<|la rfl<|kcb [0] h rfl rfl rfl rfl (fun b ap z q=>mX N b (⟨p0.b,x1.2.i,x1.2.h⟩:a8) (ph0_0.y z) h1 q) ?_
  rintro x2 h v2 Φ_2 F2 ⟨ap2,fr2,rfl,rfl,e2,h2⟩
  refine qc h (pD N · x2.1 ·) rfl rfl rfl fun x3 h=>soN 0 gy rfl ⟨rfl,rfl,rfl,rfl,rfl,trivial⟩ rfl ?_
  refine en ?_
  exact rtg [0] hF (az.one (aX kM rfl (fun w1 hw=>hw.rgO (i:=0) rfl 0 5 [iV x3.K,.string x3.S,iV x3.V.K,iV x3.V.N,.string x3.V.S] rfl) rfl)) rfl (by cases h; exact fun w1 hw=>⟨rfl,rfl,rfl,h2⟩)
 refine atr 4 [] rfl ?_
 have rc1:RC RS 1 Φ_1 ([[],[]]:List (List Nat)) [.string (⟨#[88]⟩:ByteArray),.string (⟨#[89]⟩:ByteArray)] ([(⟨#[88]⟩:ByteArray),(⟨#[89]⟩:ByteArray)]:List ByteArray):=RC.cons (c:=[.string (⟨#[88]⟩:ByteArray)]) (cells:=[.string (⟨#[89]⟩:ByteArray)]) ⟨rfl,rfl⟩ rfl (RC.cons (c:=[.string (⟨#[89]⟩:ByteArray)]) (cells:=[]) ⟨rfl,rfl⟩ rfl (RC.nil _ _ _))
 refine le' (aY (vs:=[(0,.string (⟨#[88]⟩:ByteArray)),(1,.string (⟨#[89]⟩:ByteArray))]) (C:=#[.string (⟨#[88]⟩:ByteArray),.string (⟨#[89]⟩:ByteArray)]) RS.lasts ke rp rfl rfl rfl rfl (ag xp (a7 (C':=[.string (⟨#[88]⟩:ByteArray),.string ⟨#[]⟩]) rfl rfl rfl rfl rfl (a7 (C':=[.string (⟨#[88]⟩:ByteArray),.string (⟨#[89]⟩:ByteArray)]) rfl rfl rfl rfl rfl (aa)))) rfl rc1 rfl (by simpa using Kw.nil)) rfl ?_
 rintro v3 Φ_3 D1 ⟨fr3,h3⟩
 replace h3:OSl RS 9 1 Φ_3 [] v3 ([(⟨#[88]⟩:ByteArray),(⟨#[89]⟩:ByteArray)]:List ByteArray):=by simpa using h3
 replace h1:=fr3 _ _ (by simp) h1
 refine kcb [1] h rfl rfl rfl rfl (fun b ap z q=>eY N b (⟨p0.b,x1.2.i,x1.2.h⟩:a8) ([(⟨#[88]⟩:ByteArray),(⟨#[89]⟩:ByteArray)]:List ByteArray) (ph0_0.y z) h1 (h3.rsl.x (Dj.app (ap.q 0 rfl) dN)) q) ?_
 rintro x4 h v4 Φ_4 F3 ⟨ap3,fr4,rfl,rfl,e3,h4⟩
 refine qc h (pj N · x4.1 ·) rfl rfl rfl fun x5 h=>soN 0 gy rfl ⟨rfl,rfl,rfl,rfl,rfl,trivial⟩ rfl ?_
 refine en ?_
 exact rtg [0] hF (az.one (aX kM rfl (fun w1 hw=>hw.rgO (i:=0) rfl 0 5 [iV x5.K,.string x5.S,iV x5.V.K,iV x5.V.N,.string x5.V.S] rfl) rfl)) rfl (by cases h; exact fun w1 hw=>⟨rfl,rfl,rfl,h4⟩)
theorem vp (w0:aw Ψ Φ [[pb0]].flatten) (p0:a8) (ph0_0:RSl (RI .u8) 1 Ψ pG0_0 pv0_0 p0.b) (pp0:Φ pb0=some (.cells #[pv0_0,iV p0.i,iV p0.h] 82 (0,0))) {r:dK × a8} (h:mE N p0=some r) :
  Calls prog 102 [pQ pb0].toArray w0.w (bg Φ w0.w [[pb0]].flatten (fun Φ' Fs v=>v = .agg [iV r.1.Op,iV r.1.L.K,.string r.1.L.S,iV r.1.L.V.K,iV r.1.L.V.N,.string r.1.L.V.S,iV r.1.R.K,.string r.1.R.S,iV r.1.R.V.K,iV r.1.R.V.N,.string r.1.R.V.S].toArray∧Fs=[[pb0]]∧r.2.b=p0.b∧Φ' pb0=some (.cells #[pv0_0,iV r.2.i,iV r.2.h] 82 (0,0)))):=by
 refine eL func102 rfl ntmps102 rfl (L:=[[pb0]]) w0 (fun hF=>?_)
 unfold mE at h
 refine sr<|lnz sQ rfl fun b_1=>arr 4 [] rfl<|kcb [0] h rfl rfl rfl rfl (fun b ap z q=>aL N b p0 3 (ph0_0.y z) pp0 q) ?_
 rintro x1 h v1 Φ_1 F1 ⟨ap1,fr1,rfl,rfl,e1,h1⟩
 refine arr 2 [] rfl<|kcb [0] h rfl rfl rfl rfl (fun b ap z q=>mg N b (⟨p0.b,x1.2.i,x1.2.h⟩:a8) (ph0_0.y z) h1 q) ?_
 rintro x2 h v2 Φ_2 F2 ⟨ap2,fr2,rfl,rfl,e2,h2⟩
 refine la rfl<|kcb [0] h rfl rfl rfl rfl (fun b ap z q=>mg N b (⟨p0.b,x2.2.i,x2.2.h⟩:a8) (ph0_0.y z) h2 q) ?_
 rintro x3 h v3 Φ_3 F3 ⟨ap3,fr3,rfl,rfl,e3,h3⟩
 refine lq (aQ (vs:=[(0,iV (wz (1+x1.1))),(1,.agg [iV x2.1.K,.string x2.1.S,iV x2.1.V.K,iV x2.1.V.N,.string x2.1.V.S].toArray),(2,.agg [iV x3.1.K,.string x3.1.S,iV x3.1.V.K,iV x3.1.V.N,.string x3.1.V.S].toArray)]) (C:=#[iV (wz (1+x1.1)),iV x2.1.K,.string x2.1.S,iV x2.1.V.K,iV x2.1.V.N,.string x2.1.V.S,iV x3.1.K,.string x3.1.S,iV x3.1.V.K,iV x3.1.V.N,.string x3.1.V.S]) Fo sQ rfl (a7 (C':=[iV (wz (1+x1.1)),iV 0,.string ⟨#[]⟩,iV 0,iV 0,.string ⟨#[]⟩,iV 0,.string ⟨#[]⟩,iV 0,iV 0,.string ⟨#[]⟩]) rfl rfl rfl rfl rfl (a7 (C':=[iV (wz (1+x1.1)),iV x2.1.K,.string x2.1.S,iV x2.1.V.K,iV x2.1.V.N,.string x2.1.V.S,iV 0,.string ⟨#[]⟩,iV 0,iV 0,.string ⟨#[]⟩]) rfl rfl rfl rfl rfl (a7 (C':=[iV (wz (1+x1.1)),iV x2.1.K,.string x2.1.S,iV x2.1.V.K,iV x2.1.V.N,.string x2.1.V.S,iV x3.1.K,.string x3.1.S,iV x3.1.V.K,iV x3.1.V.N,.string x3.1.V.S]) rfl rfl rfl rfl rfl (aa))))) rfl ?_
 refine soN 0 xl rfl ⟨rfl,rfl,rfl,rfl,rfl,rfl,rfl,rfl,rfl,rfl,rfl,trivial⟩ rfl ?_
 refine en ?_
 exact rtg [0] hF (az.one (aX FB rfl (fun w1 hw=>hw.rgO (i:=0) rfl 0 11 [iV (wz (1+x1.1)),iV x2.1.K,.string x2.1.S,iV x2.1.V.K,iV x2.1.V.N,.string x2.1.V.S,iV x3.1.K,.string x3.1.S,iV x3.1.V.K,iV x3.1.V.N,.string x3.1.V.S] rfl) rfl)) rfl (by cases h; exact fun w1 hw=>⟨rfl,rfl,rfl,h3⟩)
theorem iJ (w0:aw Ψ Φ []) (p0:bD) (p1:(List ByteArray)) (ph1:RSl RS 1 Ψ pG1 pv1 p1) {r:Bool} (h:fV N p0 p1=some r) :
  CB w0 prog 130 [.agg [iV p0.K,.string p0.S,iV p0.V.K,iV p0.V.N,.string p0.V.S].toArray,pv1] (.bool r):=by
 refine eN func130 rfl ntmps130 rfl w0 fun hF=>?_
 unfold fV at h
 refine sr<|lbx rfl fun b_1=>arr 8 [0,0] rfl ?_
 obtain ⟨b1,hb_1,h⟩:=bs h
 refine WL.cutN 5 [(13,.bool b1),(4,.bool false)] ?_ (fun K=>?_)
 rotate_left
 ·refine sp 8 hb_1 rfl (fun hb_1=>?_) fun hb_1=>?_
  ·refine arr 5 [] rfl ?_
   cases hb_1
   exact ku K
  ·refine arr 3 [1,0] rfl<|ly rfl rfl<|qd hb_1 (pq N · p1 p0.S ph1 ·) rfl rfl rfl fun x1 hb_1=>la rfl ?_
   cases hb_1
   exact ku K
 refine la rfl<|en ?_
 exact rt hF h
theorem mt (w0:aw Ψ Φ []) (p0:bD) (p1:(List ByteArray)) (ph1:RSl RS 1 Ψ pG1 pv1 p1) {r:bD} (h:jF N p0 p1=some r) :
  CB w0 prog 103 [.agg [iV p0.K,.string p0.S,iV p0.V.K,iV p0.V.N,.string p0.V.S].toArray,pv1] (.agg [iV r.K,.string r.S,iV r.V.K,iV r.V.N,.string r.V.S].toArray):=by
 refine eN func103 rfl ntmps103 rfl w0 fun hF=>?_
 unfold jF at h
 refine sr<|lbx rfl fun b_1=>lnz iu rfl fun b_2=>arr 6 [37] rfl<|qd h (iJ N · p0 p1 ph1 ·) rfl rfl rfl fun x1 h=>en ?_
 refine ch h rfl ?_ ?_ <;> intro h
 ·refine atr 3 [37] rfl<|soN 0 gy rfl ⟨rfl,rfl,rfl,rfl,rfl,trivial⟩ rfl ?_
  refine en ?_
  refine WT.ret hF (az.one (aX kM rfl (fun w1 hw=>hw.rgO (i:=0) rfl 0 5 [iV p0.K,.string p0.S,iV p0.V.K,iV p0.V.N,.string p0.V.S] rfl) rfl)) (fun w1 hw=>?_)
  cases h
  exact gi hw
 refine atr 5 [] rfl<|lnr ph1 rfl<|la rfl<|en ?_
 refine ch h rfl ?_ ?_ <;> intro h
 ·refine sr<|lq (aQ (vs:=[(0,iV 1),(1,iV 1)]) (C:=#[iV 1,iV 1,.string (⟨#[]⟩:ByteArray)]) tl jk rfl (a7 (C':=[iV 1,iV 0,.string ⟨#[]⟩]) rfl rfl rfl rfl rfl (a7 (C':=[iV 1,iV 1,.string ⟨#[]⟩]) rfl rfl rfl rfl rfl (aa)))) rfl<|qc h (pD N · (⟨1,1,(⟨#[]⟩:ByteArray)⟩:bn) ·) rfl rfl rfl fun x2 h=>soN 0 gy rfl ⟨rfl,rfl,rfl,rfl,rfl,trivial⟩ rfl ?_
  refine en ?_
  refine WT.ret hF (az.one (aX kM rfl (fun w1 hw=>hw.rgO (i:=0) rfl 0 5 [iV x2.K,.string x2.S,iV x2.V.K,iV x2.V.N,.string x2.V.S] rfl) rfl)) (fun w1 hw=>?_)
  cases h
  exact gi hw
 refine atr 4 [] rfl ?_
 obtain ⟨x3,hx3,h⟩:=bs h
 obtain ⟨cs1,F1,-,g1,hb1,hs1,r1⟩:=ph1.el (a9 hx3).2.2
 obtain ⟨rfl,-⟩:=r1
 refine lia ph1 hx3 rfl<|lhx 0 0 g1 rfl<|qc h (pj N · x3 ·) rfl rfl rfl fun x4 h=>soN 0 gy rfl ⟨rfl,rfl,rfl,rfl,rfl,trivial⟩ rfl ?_
 refine en ?_
 refine WT.ret hF (az.one (aX kM rfl (fun w1 hw=>hw.rgO (i:=0) rfl 0 5 [iV x4.K,.string x4.S,iV x4.V.K,iV x4.V.N,.string x4.V.S] rfl) rfl)) (fun w1 hw=>?_)
 cases h
 exact gi hw
theorem vB (w0:aw Ψ Φ [[pb0]].flatten) (p0:a8) (ph0_0:RSl (RI .u8) 1 Ψ pG0_0 pv0_0 p0.b) (pp0:Φ pb0=some (.cells #[pv0_0,iV p0.i,iV p0.h] 82 (0,0))) {r:bX × a8} (h:nq N p0=some r) :
  Calls prog 133 [pQ pb0].toArray w0.w (bg Φ w0.w [[pb0]].flatten (fun Φ' Fs v=>v = .agg [.string r.1.Op,iV r.1.L.K,.string r.1.L.S,iV r.1.L.V.K,iV r.1.L.V.N,.string r.1.L.V.S,iV r.1.R.K,.string r.1.R.S,iV r.1.R.V.K,iV r.1.R.V.N,.string r.1.R.V.S].toArray∧Fs=[[pb0]]∧r.2.b=p0.b∧Φ' pb0=some (.cells #[pv0_0,iV r.2.i,iV r.2.h] 82 (0,0)))):=by
 refine eL func133 rfl ntmps133 rfl (L:=[[pb0]]) w0 (fun hF=>?_)
 unfold nq at h
 refine sr<|lnz t4 rfl fun b_1=>arr 4 [] rfl<|kcb [0] h rfl rfl rfl rfl (fun b ap z q=>mg N b p0 (ph0_0.y z) pp0 q) ?_
 rintro x1 h v1 Φ_1 F1 ⟨ap1,fr1,rfl,rfl,e1,h1⟩
 refine lq (aQ (vs:=[(1,.agg [iV x1.1.K,.string x1.1.S,iV x1.1.V.K,iV x1.1.V.N,.string x1.1.V.S].toArray)]) (C:=#[.string (⟨#[]⟩:ByteArray),iV x1.1.K,.string x1.1.S,iV x1.1.V.K,iV x1.1.V.N,.string x1.1.V.S,iV 0,.string (⟨#[]⟩:ByteArray),iV 0,iV 0,.string (⟨#[]⟩:ByteArray)]) Eh t4 rfl (a7 (C':=[.string ⟨#[]⟩,iV x1.1.K,.string x1.1.S,iV x1.1.V.K,iV x1.1.V.N,.string x1.1.V.S,iV 0,.string ⟨#[]⟩,iV 0,iV 0,.string ⟨#[]⟩]) rfl rfl rfl rfl rfl (aa))) rfl ?_
 refine lnz t4 rfl fun b_2=>soN 0 xc rfl ⟨rfl,rfl,rfl,rfl,rfl,rfl,rfl,rfl,rfl,rfl,rfl,trivial⟩ rfl ?_
 refine arr 5 [] rfl<|kcb [0] h rfl rfl rfl rfl (fun b ap z q=>em N b (⟨p0.b,x1.2.i,x1.2.h⟩:a8) 4 (ph0_0.y z) h1 q) ?_
 rintro x2 h v2 Φ_2 F2 ⟨ap2,fr2,rfl,rfl,e2,h2⟩
 refine en ?_
 refine cut (σ:=Hp × Int × Int × ByteArray × Int × ByteArray × Int × Int × ByteArray) (fun s=>[(2,pQ b_1),(3,pQ b_2)]) (fun s=>St w0 s.1 [(b_2,.cells #[.string s.2.2.2.1,iV x1.1.K,.string x1.1.S,iV x1.1.V.K,iV x1.1.V.N,.string x1.1.V.S,iV s.2.2.2.2.1,.string s.2.2.2.2.2.1,iV s.2.2.2.2.2.2.1,iV s.2.2.2.2.2.2.2.1,.string s.2.2.2.2.2.2.2.2] 170 (0,0)),(b_1,.cells #[.string (⟨#[]⟩:ByteArray),iV 0,.string (⟨#[]⟩:ByteArray),iV 0,iV 0,.string (⟨#[]⟩:ByteArray),iV 0,.string (⟨#[]⟩:ByteArray),iV 0,iV 0,.string (⟨#[]⟩:ByteArray)] 170 (0,0))] [[pb0]]) (fun s=>kU N p0 x1 s.2.1 s.2.2.1 s.2.2.2.1 s.2.2.2.2.1 s.2.2.2.2.2.1 s.2.2.2.2.2.2.1 s.2.2.2.2.2.2.2.1 s.2.2.2.2.2.2.2.2=some r∧(s.1 pb0=some (.cells #[pv0_0,iV s.2.1,iV s.2.2.1] 82 (0,0)))) (fun s hm=>?_) (fun K=>?_)
 ·clear h
  obtain ⟨Φ_3,s1,s2,s3,s4,s5,s6,s7,s8⟩:=s
  obtain ⟨h,k1⟩:=hm
  dsimp only at h k1 ⊢
  unfold kU at h
  refine atr 3 [11] rfl<|soN 1 xc rfl ⟨rfl,rfl,rfl,rfl,rfl,rfl,rfl,rfl,rfl,rfl,rfl,trivial⟩ rfl ?_
  refine en ?_
  exact rtg [0] hF (az.one (aX E4 rfl (fun w1 hw=>hw.rgO (i:=1) rfl 0 11 [.string s3,iV x1.1.K,.string x1.1.S,iV x1.1.V.K,iV x1.1.V.N,.string x1.1.V.S,iV s4,.string s5,iV s6,iV s7,.string s8] rfl) rfl)) rfl (by cases h; exact fun w1 hw=>⟨rfl,rfl,rfl,k1⟩)
 refine ch h rfl ?_ ?_ <;> intro h
 ·refine sr<|la rfl ?_
  have rc1:RC RS 1 Φ_2 ([[],[]]:List (List Nat)) [.string (⟨#[43]⟩:ByteArray),.string (⟨#[45]⟩:ByteArray)] ([(⟨#[43]⟩:ByteArray),(⟨#[45]⟩:ByteArray)]:List ByteArray):=RC.cons (c:=[.string (⟨#[43]⟩:ByteArray)]) (cells:=[.string (⟨#[45]⟩:ByteArray)]) ⟨rfl,rfl⟩ rfl (RC.cons (c:=[.string (⟨#[45]⟩:ByteArray)]) (cells:=[]) ⟨rfl,rfl⟩ rfl (RC.nil _ _ _))
  refine le' (aY (vs:=[(0,.string (⟨#[43]⟩:ByteArray)),(1,.string (⟨#[45]⟩:ByteArray))]) (C:=#[.string (⟨#[43]⟩:ByteArray),.string (⟨#[45]⟩:ByteArray)]) RS.lasts ke rp rfl rfl rfl rfl (ag xp (a7 (C':=[.string (⟨#[43]⟩:ByteArray),.string ⟨#[]⟩]) rfl rfl rfl rfl rfl (a7 (C':=[.string (⟨#[43]⟩:ByteArray),.string (⟨#[45]⟩:ByteArray)]) rfl rfl rfl rfl rfl (aa)))) rfl rc1 rfl (by simpa using Kw.nil)) rfl ?_
  rintro v3 Φ_4 D1 ⟨fr3,h3⟩
  replace h3:OSl RS 9 1 Φ_4 [] v3 ([(⟨#[43]⟩:ByteArray),(⟨#[45]⟩:ByteArray)]:List ByteArray):=by simpa using h3
  replace h2:=fr3 _ _ (by simp) h2
  refine kcb [1] h rfl rfl rfl rfl (fun b ap z q=>eY N b (⟨p0.b,x2.2.i,x2.2.h⟩:a8) ([(⟨#[43]⟩:ByteArray),(⟨#[45]⟩:ByteArray)]:List ByteArray) (ph0_0.y z) h2 (h3.rsl.x (Dj.app (ap.q 0 rfl) dN)) q) ?_
  rintro x3 h v4 Φ_5 F3 ⟨ap3,fr4,rfl,rfl,e3,h4⟩
  refine lf wa rfl rfl rfl<|so1 0 Fv rfl rfl ?_
  refine arr 3 [] rfl<|kcb [0] h rfl rfl rfl rfl (fun b ap z q=>mg N b (⟨p0.b,x3.2.i,x3.2.h⟩:a8) (ph0_0.y z) h4 q) ?_
  rintro x4 h v5 Φ_6 F4 ⟨ap4,fr5,rfl,rfl,e4,h5⟩
  refine lf qH rfl rfl rfl<|soN 0 gy rfl ⟨rfl,rfl,rfl,rfl,rfl,trivial⟩ rfl ?_
  refine en ?_
  exact wo [0] [0,0] (K (_,_,_,_,_,_,_,_,_) ⟨h,h5⟩)
 refine WT.skip ?_
 exact wo [0] [0,0] (K (_,_,_,_,_,_,_,_,_) ⟨h,h2⟩)
end Go.Proofs.YtinomobmcjnfjaaGreat
