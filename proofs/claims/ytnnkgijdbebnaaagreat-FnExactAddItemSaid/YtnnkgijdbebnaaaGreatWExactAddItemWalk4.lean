/- Printed by a program of ours: each Go function computes its Lean function. -/
import Derived.Test.YtnnkgijdbebnaaaGreatProg
import Derived.Test.YtnnkgijdbebnaaaGreatWExactAddItemWalk3
namespace Go.Proofs.YtnnkgijdbebnaaaGreat
open Eng Tryz
open Go.RowKit (Below)
set_option linter.unusedVariables false
set_option linter.unusedSimpArgs false

set_option maxRecDepth 100000
set_option maxHeartbeats 1000000
variable {Ψ Φ:Hp} {pv0_0 pv0_1 pv0_2 pv1_0 pv1_1 pv2_0 pv2_1 pv4_0 pv6_0 pv7 pv3_0 pv0:Value} {pG0_0 pG0_1 pG0_2 pG1_0 pG1_1 pG2_0 pD2_1 pG4_0 pG6_0 pG7 pD2_0 pG3_0 pG2_1 pG0:List Nat} {pb2:Nat} (N:Nat)
theorem AZ (w0:af Ψ Φ [[pb2],ob pv2_1,pD2_1].flatten) (p0:ag) (p1:ae) (p2:aA) (p3:Int) (p4:ah) (p5:Int) (p6:aw) (p7:(List Bool)) (ph0_0:RSl bJ 3 Ψ pG0_0 pv0_0 p0.Pats) (ph0_1:RSl bd 11 Ψ pG0_1 pv0_1 p0.Conds) (ph0_2:RSl dF 5 Ψ pG0_2 pv0_2 p0.Acts) (ph1_0:RSl (RI .i64) 1 Ψ pG1_0 pv1_0 p1.Pos) (ph1_1:RSl (RI .i64) 1 Ψ pG1_1 pv1_1 p1.Neg) (ph2_0:RSl dD 1 Ψ pG2_0 pv2_0 p2.Alphas) (ph2_1:OSl aP 126 1 Φ pD2_1 pv2_1 p2.Rules) (pp2:Φ pb2=some (.cells #[pv2_0,pv2_1] 43 (0,0))) (ph4_0:RSl bE 3 Ψ pG4_0 pv4_0 p4.Items) (ph6_0:RSl az 3 Ψ pG6_0 pv6_0 p6.Fields) (ph7:RSl RB 1 Ψ pG7 pv7 p7) {r:aA} (h:oN N p0 p1 p2 p3 p4 p5 p6 p7=some r) :
  Calls prog 67 [.agg [.string p0.Name,iV p0.Sal,pv0_0,pv0_1,pv0_2].toArray,.agg [pv1_0,pv1_1].toArray,pQ pb2,iV p3,.agg [pv4_0,iV p4.Next].toArray,iV p5,.agg [.string p6.Kind,pv6_0].toArray,pv7].toArray w0.w (aQ Φ w0.w [[pb2],ob pv2_1,pD2_1].flatten (fun Φ' Fs v=>∃ (so_0_1:Value) (Do_0_1:List Nat),v = .tuple #[]∧Fs=[[pb2],ob so_0_1,Do_0_1]∧r.Alphas=p2.Alphas∧OSl aP 126 1 Φ' Do_0_1 so_0_1 r.Rules∧Φ' pb2=some (.cells #[pv2_0,so_0_1] 43 (0,0)))):=by
 refine eL func67 rfl ntmps67 rfl (L:=[[pb2],ob pv2_1,pD2_1]) w0 (fun hF=>?_)
 unfold oN at h
 refine sr<|lbx rfl fun b_1=>lbx rfl fun b_2=>lbx rfl fun b_3=>lbx rfl fun b_4=>arr 4 [] rfl<|lq (ey rfl) rfl<|lf wk rfl rfl rfl<|lgx 1 0 (kY pp2) rfl<|la rfl ?_
 obtain ⟨x1,hx1,h⟩:=bs h
 obtain ⟨cs1,F1,D1,h1,r1,kf1,sp1⟩:=ph2_1.focus hx1
 obtain ⟨v1,D2,rfl,rfl,h2⟩:=r1
 refine wlL [ob v1,D2,D1,[pb2],ob pv2_1] (sre [2] [ob v1,D2,D1] rfl (by simpa [List.append_assoc] using sp1))<|lih h1 hx1 rfl<|lf jA rfl rfl rfl<|lgx 0 0 h1.rg rfl<|arr 5 [] rfl<|lno h2 rfl<|art 4 [] rfl ?_
 obtain ⟨x2,hx2,h⟩:=bs h
 obtain ⟨cs2,F2,D3,h3,r2,kf2,sp2⟩:=h2.focus hx2
 obtain ⟨v2,D4,rfl,rfl,h4⟩:=r2
 refine wtL [ob v2,D4,D3,ob v1,D1,[pb2],ob pv2_1] (sre [1] [ob v2,D4,D3] rfl (by simpa [List.append_assoc] using sp2))<|WT.mix (Kn w0 Φ (ob v1) [(b_4,.cells #[.string p6.Kind,pv6_0] 133 (0,0)),(b_3,.cells #[pv4_0,iV p4.Next] 57 (0,0)),(b_2,.cells #[pv1_0,pv1_1] 149 (0,0)),(b_1,.cells #[.string p0.Name,iV p0.Sal,pv0_0,pv0_1,pv0_2] 148 (0,0))]) (fun i=>match i with | 8=>false | _=>true) co (fun _ h=>h.drew) ?_
 refine mq 0 rfl (by kernel_rfl) (kn Kf.id (am [0,1,2,3] rfl)) (ao pn rfl (fun w1 hw=>hw.rgO (i:=3) rfl 0 5 [.string p0.Name,iV p0.Sal,pv0_0,pv0_1,pv0_2] rfl) rfl) rfl<|mq 1 rfl (by kernel_rfl) (kn Kf.id (am [0,1,2,3] rfl)) (ao y6 rfl (fun w1 hw=>hw.rgO (i:=1) rfl 0 2 [pv4_0,iV p4.Next] rfl) rfl) rfl<|mq 7 rfl (by kernel_rfl) (kn Kf.id (am [0,1,2,3] rfl)) (ao pq rfl (fun w1 hw=>hw.rgO (i:=0) rfl 0 2 [.string p6.Kind,pv6_0] rfl) rfl) rfl<|mqT 2 [4,5,6,8] rfl (by kernel_rfl) (kn Kf.id (am [0,1,2,3] rfl)) (iN rfl) rfl ?_
 refine mqT 3 [4,5,6,8] rfl (by kernel_rfl) (kn Kf.id (am [0,1,2,3] rfl)) (iN rfl) rfl<|mqT 4 [5,6,8] rfl (by kernel_rfl) (kn Kf.id (am [0,1,2,3] rfl)) (dM pw rfl rfl h3 hx2) rfl<|mqT 5 [6,8] rfl (by kernel_rfl) (kn Kf.id (am [0,1,2,3] rfl)) (aB gg rfl) rfl<|mq 6 rfl (by kernel_rfl) (kn Kf.id (am [0,1,2,3] rfl)) (aW Ff rfl (fun w1 hw=>hw.rg h3.hb (h3.rg.of_eq 0 1 rfl rfl:rg _ _ _ [v2]))) rfl ?_
 obtain ⟨x3,hx3,h⟩:=bs h
 refine WM.one 8 (by kernel_rfl) (mc rfl (fun hc=>by cases hc) (aY (js:=[0,0]) (R:=[D3,ob v1,D1,[pb2],ob pv2_1]) Kb rfl rfl (fun w1 hw ap hl=>B5 N (bx hw ap hl) p0 p4 x2.Toks p6 1 (ph0_0.y (hw.uo ap)) (ph0_1.y (hw.uo ap)) (ph0_2.y (hw.uo ap)) (ph4_0.y (hw.uo ap)) h4 (ph6_0.y (hw.uo ap))  hx3)) rfl ?_)
 rintro v3 Φ_1 F3 ⟨ap1,fr1,D5,rfl,rfl,h5⟩
 replace h1:=h1.fr fr1 (ap1.q 4 rfl) (ap1.q 2 rfl)
 replace h3:=h3.fr fr1 (ap1.q 1 rfl) (ap1.q 0 rfl)
 replace pp2:=fr1 _ _ ((ap1.q 3 rfl) _ (by simp)) pp2
 refine WM.nil (by kernel_rfl)<|sr ?_
 have rc1:RC ax 2 Φ_1 ([]:List (List Nat)) [] ([]:List ab):=RC.nil _ _ _
 refine le' (cu (vs:=[]) (C:=#[]) ax.lasts cg eD rfl rfl rfl rfl (aI uF (ak)) rfl rc1 rfl (by simpa using Kw.nil)) rfl ?_
 rintro v4 Φ_2 D6 ⟨fr2,h6⟩
 replace h6:OSl ax 160 2 Φ_2 [] v4 ([]:List ab):=by simpa [List.append_assoc] using h6
 replace h1:=h1.f0 fr2
 replace h3:=h3.f0 fr2
 replace h5:=h5.f0 fr2
 replace pp2:=fr2 _ _ (by simp) pp2
 refine WL.conv (S':=St w0 Φ_2 [(b_4,.cells #[.string p6.Kind,pv6_0] 133 (0,0)),(b_3,.cells #[pv4_0,iV p4.Next] 57 (0,0)),(b_2,.cells #[pv1_0,pv1_1] 149 (0,0)),(b_1,.cells #[.string p0.Name,iV p0.Sal,pv0_0,pv0_1,pv0_2] 148 (0,0))] [[],ob v4,ob v2,D5,D3,ob v1,D1,[pb2],ob pv2_1]) (fun w1 hw=>hw.addNil)<|art 7 [] rfl ?_
 have r3:aK Φ_2 _ [v2] (⟨x3⟩:aa):=⟨v2,D5,rfl,rfl,h5⟩
 obtain ⟨D7,h7,sp3⟩:=h3.unfocus r3 (aK.knows _ _ _ _ r3)
 refine wtL [D7,[],ob v4,ob v1,D1,[pb2],ob pv2_1] (smg [2,2,2] rfl (by simpa [List.append_assoc,bl] using sp3)) ?_
 replace h6:=h6.gives ax.gives
 refine lin (σ:=Hp × (List aa) × List Nat × (List ab) × Value × List Nat × Int) (fun s=>[(2,pQ pb2),(5,iV p5),(7,pv7),(8,pQ b_1),(9,pQ b_2),(12,pQ b_3),(16,v1),(17,iV (wz ((x1.Levels.length:Int) - 1))),(18,s.2.2.2.2.1),(19,iV s.2.2.2.2.2.2)]) (fun s=>St w0 s.1 [(b_3,.cells #[pv4_0,iV p4.Next] 57 (0,0)),(b_2,.cells #[pv1_0,pv1_1] 149 (0,0)),(b_1,.cells #[.string p0.Name,iV p0.Sal,pv0_0,pv0_1,pv0_2] 148 (0,0))] [s.2.2.1,ob s.2.2.2.2.1,ob v1,D1,[pb2],ob pv2_1]) (fun m s=>bi N p0 p1 p2 p3 p4 p5 p7 x1 m s.2.1 s.2.2.2.1 s.2.2.2.2.2.2=some r∧(OSl aK 130 1 s.1 s.2.2.1 v1 s.2.1)∧(OSl cD 160 2 s.1 s.2.2.2.2.2.1 s.2.2.2.2.1 s.2.2.2.1)∧(∀ k∈s.2.2.2.2.2.1,k∈s.2.2.1)∧(s.1 pb2=some (.cells #[pv2_0,pv2_1] 43 (0,0)))∧(HSl aP 126 1 s.1 D1 pv2_1 p2.Rules p3.toNat [v1])) (Φ_2,(x1.Levels.set (wz ((x1.Levels.length:Int) - 1)).toNat (⟨x3⟩:aa)),D7,([]:List ab),v4,[],0) N ⟨h,h7,h6,(by simp),pp2,h1⟩ (sx [0,1,1,1,1,1] [1,1,1]) (fun n1 ih1 s hm=>?_)
 obtain ⟨Φ_3,s1,D8,s2,u1,D9,s3⟩:=s
 obtain ⟨h,k2,k3,i1,k4,k1⟩:=hm
 dsimp only at h k2 k3 i1 k4 k1 ⊢
 unfold bi at h
 refine att 7 [] rfl ?_
 refine ch h rfl ?_ ?_ <;> intro h
 ·refine atr 5 [] rfl ?_
  have rc2:RC ax 2 Φ_3 ([]:List (List Nat)) [] ([]:List ab):=RC.nil _ _ _
  refine le' (cu (vs:=[]) (C:=#[]) ax.lasts cg eD rfl rfl rfl rfl (aI uF (ak)) rfl rc2 rfl (by simpa using Kw.nil)) rfl ?_
  rintro v5 Φ_4 D10 ⟨fr3,h8⟩
  replace h8:OSl ax 160 2 Φ_4 [] v5 ([]:List ab):=by simpa [List.append_assoc] using h8
  replace k1:=k1.f0 fr3
  replace k2:=k2.f0 fr3
  replace k3:=k3.f0 fr3
  replace k4:=fr3 _ _ (by simp) k4
  refine WL.conv (S':=St w0 Φ_4 [(b_3,.cells #[pv4_0,iV p4.Next] 57 (0,0)),(b_2,.cells #[pv1_0,pv1_1] 149 (0,0)),(b_1,.cells #[.string p0.Name,iV p0.Sal,pv0_0,pv0_1,pv0_2] 148 (0,0))] [[],ob v5,D8,ob u1,ob v1,D1,[pb2],ob pv2_1]) (fun w1 hw=>hw.addNil)<|arr 8 [] rfl ?_
  obtain ⟨b1,hb_1,h⟩:=bs h
  refine WL.cutN 8 [(64,.bool b1),(2,pQ pb2),(5,iV p5),(7,pv7),(8,pQ b_1),(9,pQ b_2),(12,pQ b_3),(16,v1),(17,iV (wz ((x1.Levels.length:Int) - 1))),(18,u1),(19,iV s3),(20,v5)] ?_ (fun K=>?_)
  rotate_left
  ·refine sp 56 hb_1 rfl (fun hb_1=>?_) fun hb_1=>?_
   ·refine arr 3 [0,32] rfl<|ly rfl rfl ?_
    obtain ⟨x4,hx4,hb_1⟩:=bs hb_1
    obtain ⟨cs3,F4,-,g1,hb3,hs1,r4⟩:=ph1_0.el (a7 hx4).2.2
    obtain ⟨rfl,-⟩:=r4
    refine lia ph1_0 hx4 rfl<|ly rfl rfl<|lhx 0 0 g1 rfl<|ly rfl rfl ?_
    obtain ⟨x5,hx5,hb_1⟩:=bs hb_1
    obtain ⟨cs4,F5,-,g2,hb4,hs2,r5⟩:=ph7.el (a7 hx5).2.2
    obtain ⟨rfl,-⟩:=r5
    refine lia ph7 hx5 rfl<|ly rfl rfl<|lhx 0 0 g2 rfl<|la rfl ?_
    cases hb_1
    exact ku K
   ·refine arr 8 [] rfl ?_
    cases hb_1
    exact ku K
  refine en ?_
  refine cut (σ:=Hp × (List ab) × Value × List Nat) (fun s=>[(2,pQ pb2),(5,iV p5),(7,pv7),(8,pQ b_1),(9,pQ b_2),(12,pQ b_3),(16,v1),(17,iV (wz ((x1.Levels.length:Int) - 1))),(18,u1),(19,iV s3),(20,s.2.2.1)]) (fun s=>St w0 s.1 [(b_3,.cells #[pv4_0,iV p4.Next] 57 (0,0)),(b_2,.cells #[pv1_0,pv1_1] 149 (0,0)),(b_1,.cells #[.string p0.Name,iV p0.Sal,pv0_0,pv0_1,pv0_2] 148 (0,0))] [s.2.2.2,ob s.2.2.1,D8,ob u1,ob v1,D1,[pb2],ob pv2_1]) (fun s=>gu N p0 p1 p2 p4 p5 p7 x1 s1 s2 s3 (bi N p0 p1 p2 p3 p4 p5 p7 x1 n1) s.2.1=some r∧(OSl aK 130 1 s.1 D8 v1 s1)∧(OSl cD 160 2 s.1 D9 u1 s2)∧(OSl ax 160 2 s.1 s.2.2.2 s.2.2.1 s.2.1)∧(s.1 pb2=some (.cells #[pv2_0,pv2_1] 43 (0,0)))∧(HSl aP 126 1 s.1 D1 pv2_1 p2.Rules p3.toNat [v1])) (fun s hm=>?_) (fun K=>?_)
  ·clear h
   obtain ⟨Φ_5,s4,u2,D11⟩:=s
   obtain ⟨h,k2,k3,k6,k7,k5⟩:=hm
   dsimp only at h k2 k3 k6 k7 k5 ⊢
   unfold gu at h
   refine att 10 [] rfl ?_
   refine cut (σ:=Int) (fun s=>[(2,pQ pb2),(5,iV p5),(7,pv7),(8,pQ b_1),(9,pQ b_2),(12,pQ b_3),(16,v1),(17,iV (wz ((x1.Levels.length:Int) - 1))),(18,u1),(19,iV s3),(20,u2),(21,iV s)]) (fun s=>St w0 Φ_5 [(b_3,.cells #[pv4_0,iV p4.Next] 57 (0,0)),(b_2,.cells #[pv1_0,pv1_1] 149 (0,0)),(b_1,.cells #[.string p0.Name,iV p0.Sal,pv0_0,pv0_1,pv0_2] 148 (0,0))] [D11,ob u2,D8,ob u1,ob v1,D1,[pb2],ob pv2_1]) (fun s=>ik N p0 p1 p2 p4 p5 p7 x1 s1 s2 s3 (bi N p0 p1 p2 p3 p4 p5 p7 x1 n1) s4 s=some r∧(HSl aP 126 1 Φ_5 D1 pv2_1 p2.Rules p3.toNat [v1])) (fun s hm=>?_) (fun K=>?_)
   ·clear h
    revert hm; revert s; intro s5 hm
    obtain ⟨h,k8⟩:=hm
    try dsimp only at h k8 ⊢
    unfold ik at h
    refine att 6 [] rfl ?_
    refine lin (σ:=Hp × (List ab) × Value × List Nat × Int) (fun s=>[(2,pQ pb2),(5,iV p5),(7,pv7),(8,pQ b_1),(9,pQ b_2),(12,pQ b_3),(16,v1),(17,iV (wz ((x1.Levels.length:Int) - 1))),(18,u1),(19,iV s3),(20,s.2.2.1),(21,iV s5),(22,iV s.2.2.2.2)]) (fun s=>St w0 s.1 [(b_3,.cells #[pv4_0,iV p4.Next] 57 (0,0)),(b_2,.cells #[pv1_0,pv1_1] 149 (0,0)),(b_1,.cells #[.string p0.Name,iV p0.Sal,pv0_0,pv0_1,pv0_2] 148 (0,0))] [s.2.2.2.1,ob s.2.2.1,D8,ob u1,ob v1,D1,[pb2],ob pv2_1]) (fun m s=>d9 N p0 p1 p2 p4 p5 p7 x1 s1 s2 s3 (bi N p0 p1 p2 p3 p4 p5 p7 x1 n1) s5 m s.2.1 s.2.2.2.2=some r∧(OSl aK 130 1 s.1 D8 v1 s1)∧(OSl cD 160 2 s.1 D9 u1 s2)∧(OSl ax 160 2 s.1 s.2.2.2.1 s.2.2.1 s.2.1)∧(s.1 pb2=some (.cells #[pv2_0,pv2_1] 43 (0,0)))∧(HSl aP 126 1 s.1 D1 pv2_1 p2.Rules p3.toNat [v1])) (Φ_5,s4,u2,D11,0) N ⟨h,k2,k3,k6,k7,k8⟩ (sx [0,0,0,0,0,0,0,0] [0,0,0]) (fun n4 ih4 s hm=>?_)
    obtain ⟨Φ_6,s6,u3,D12,s7⟩:=s
    obtain ⟨h,k2,k3,k10,k11,k9⟩:=hm
    dsimp only at h k2 k3 k10 k11 k9 ⊢
    unfold d9 at h
    refine atr 7 [] rfl ?_
    obtain ⟨b2,hb_2,h⟩:=bs h
    refine WL.cutN 9 [(95,.bool b2),(2,pQ pb2),(5,iV p5),(7,pv7),(8,pQ b_1),(9,pQ b_2),(12,pQ b_3),(16,v1),(17,iV (wz ((x1.Levels.length:Int) - 1))),(18,u1),(19,iV s3),(20,u3),(21,iV s5),(22,iV s7)] ?_ (fun K=>?_)
    rotate_left
    ·refine sp 86 hb_2 rfl (fun hb_2=>?_) fun hb_2=>?_
     ·refine arr 4 [0,32] rfl<|ly rfl rfl ?_
      obtain ⟨x6,hx6,hb_2⟩:=bs hb_2
      obtain ⟨cs5,F6,-,g3,hb5,hs3,r6⟩:=ph1_0.el (a7 hx6).2.2
      obtain ⟨rfl,-⟩:=r6
      refine lia ph1_0 hx6 rfl<|ly rfl rfl<|lhx 0 0 g3 rfl<|ly rfl rfl ?_
      obtain ⟨x7,hx7,hb_2⟩:=bs hb_2
      obtain ⟨cs6,F7,-,g4,hb6,hs4,r7⟩:=ph7.el (a7 hx7).2.2
      obtain ⟨rfl,-⟩:=r7
      refine lia ph7 hx7 rfl<|ly rfl rfl<|lhx 0 0 g4 rfl<|la rfl ?_
      cases hb_2
      exact ku K
     ·refine arr 9 [] rfl ?_
      cases hb_2
      exact ku K
    refine en ?_
    refine ch h rfl ?_ ?_ <;> intro h
    ·refine att 3 [] rfl<|WT.mix (Kn w0 Φ_6 (ob v1++D8) [(b_3,.cells #[pv4_0,iV p4.Next] 57 (0,0)),(b_2,.cells #[pv1_0,pv1_1] 149 (0,0)),(b_1,.cells #[.string p0.Name,iV p0.Sal,pv0_0,pv0_1,pv0_2] 148 (0,0))]) (fun _=>true) co (fun _ h=>h.drew)<|ma 0 rfl (by kernel_rfl) (kn Kf.id (ai3 0 1 2 rfl rfl rfl)) rfl<|mq 1 rfl (by kernel_rfl) (kn Kf.id (ai3 0 1 2 rfl rfl rfl)) (ao pn rfl (fun w1 hw=>hw.rgO (i:=2) rfl 0 5 [.string p0.Name,iV p0.Sal,pv0_0,pv0_1,pv0_2] rfl) rfl) rfl ?_
     refine mq 2 rfl (by kernel_rfl) (kn Kf.id (ai3 0 1 2 rfl rfl rfl)) (ao y6 rfl (fun w1 hw=>hw.rgO (i:=0) rfl 0 2 [pv4_0,iV p4.Next] rfl) rfl) rfl<|ma 3 rfl (by kernel_rfl) (kn Kf.id (ai3 0 1 2 rfl rfl rfl)) rfl<|ma 4 rfl (by kernel_rfl) (kn Kf.id (ai3 0 1 2 rfl rfl rfl)) rfl<|ma 5 rfl (by kernel_rfl) (kn Kf.id (ai3 0 1 2 rfl rfl rfl)) rfl ?_
     obtain ⟨x8,hx8,h⟩:=bs h
     obtain ⟨cs7,F8,-,g5,hb7,hs5,r8⟩:=k2.elS (a7 hx8).2.2
     obtain ⟨v6,D13,rfl,rfl,h9⟩:=r8
     have h10:=h9.rslG ax.gives
     refine mq 6 rfl (by kernel_rfl) (kn Kf.id (ai3 0 1 2 rfl rfl rfl)) (a8 pw rfl rfl k2.rsl hx8) rfl<|mq 7 rfl (by kernel_rfl) (kn Kf.id (ai3 0 1 2 rfl rfl rfl)) (aB gg rfl) rfl<|mq 8 rfl (by kernel_rfl) (kn Kf.id (ai3 0 1 2 rfl rfl rfl)) (aW Ff rfl (fun w1 hw=>hw.rg (List.mem_append.2 (.inl hb7)) (g5.of_eq 0 1 rfl rfl:rg _ _ _ [v6]))) rfl<|ma 9 rfl (by kernel_rfl) (kn Kf.id (ai3 0 1 2 rfl rfl rfl)) rfl ?_
     obtain ⟨x9,hx9,h⟩:=bs h
     obtain ⟨cs8,F9,-,g6,hb8,hs6,r9⟩:=h10.el (a7 hx9).2.2
     obtain ⟨v7,G1,v8,G2,rfl,rfl,h11,h12⟩:=r9
     refine mq 10 rfl (by kernel_rfl) (kn Kf.id (ai3 0 1 2 rfl rfl rfl)) (a8 cg rfl rfl h10 hx9) rfl<|mq 11 rfl (by kernel_rfl) (kn Kf.id (ai3 0 1 2 rfl rfl rfl)) (aB o2 rfl) rfl<|mq 12 rfl (by kernel_rfl) (kn Kf.id (ai3 0 1 2 rfl rfl rfl)) (aW jK rfl (fun w1 hw=>hw.rg (List.mem_append.2 (.inr ((fun k h=>hs5 k h) _ hb8))) (g6.of_eq 0 1 rfl rfl:rg _ _ _ [v7]))) rfl<|ma 13 rfl (by kernel_rfl) (kn Kf.id (ai3 0 1 2 rfl rfl rfl)) rfl ?_
     obtain ⟨x10,hx10,h⟩:=bs h
     refine WM.one 14 (by kernel_rfl) (mc rfl (fun _ v Φx D w1 hq hw=>Kn.of (Kf.id.st hq.2.1 (Dj.app (hq.1.r (i:=2) rfl) (hq.1.r (i:=0) rfl))) (ai3 0 1 2 rfl rfl rfl) hw) (aY (js:=[1,0]) (R:=[D8,ob u1,ob v1,D1,[pb2],ob pv2_1]) HO rfl rfl (fun w1 hw ap hl=>qY N (bx hw ap hl) s6 p0 p4 x9.Ids p5 k10 (ph0_0.y (hw.uo ap)) (ph0_1.y (hw.uo ap)) (ph0_2.y (hw.uo ap)) (ph4_0.y (hw.uo ap)) (h11.x (Dj.sub (Dj.sub (ap.q 0 rfl) (fun k h=>hs5 k h)) (fun k h=>hs6 k (List.mem_append.2 (.inl h)))))  hx10)) rfl ?_)
     rintro v9 Φ_7 F10 ⟨ap2,fr4,v10,D14,rfl,rfl,h13⟩
     replace k9:=k9.fr fr4 (ap2.q 5 rfl) (ap2.q 3 rfl)
     replace k2:=k2.fr fr4 (ap2.q 2 rfl) (ap2.q 0 rfl)
     replace k3:=k3.fr fr4 (ap2.q 1 rfl) (Dj.sub (ap2.q 0 rfl) i1)
     replace k11:=fr4 _ _ ((ap2.q 4 rfl) _ (by simp)) k11
     have kf1:=(Kf.id (F:=(ob v1++D8)):Kf Φ_6 _ _).st fr4 (Dj.app (ap2.q 2 rfl) (ap2.q 0 rfl))
     refine ma 15 rfl (by kernel_rfl) (kn kf1 (ai3 0 1 2 rfl rfl rfl)) rfl<|WM.nil (by kernel_rfl)<|att 6 [] rfl ?_
     exact lb [1,0,0,0,0,0,0,0] [0,0,0] (ih4 (_,_,_,_,_) ⟨h,k2,k3,h13,k11,k9⟩)
    refine xt rfl<|sq<|WT.draw co (by kernel_rfl) (fun _ h=>h.drew)<|qq (iN rfl) rfl<|qq (ey rfl) rfl<|qq (aB to rfl) rfl<|qq (aW FG rfl (fun w1 hw=>((kY k11).of_eq 0 1 rfl rfl:rg _ _ _ [pv2_0]).rangeAt hw.fro)) rfl<|aqq 3 [0,32] rfl ?_
    obtain ⟨x11,hx11,h⟩:=bs h
    obtain ⟨cs9,F11,-,g7,hb9,hs7,r10⟩:=ph1_0.el (a7 hx11).2.2
    obtain ⟨rfl,-⟩:=r10
    refine qq (a8 aR rfl rfl ph1_0 hx11) rfl<|qq (aW vd rfl (fun w1 hw=>(g7.of_eq 0 1 rfl rfl:rg _ _ _ [iV x11]).rangeAt hw.in0)) rfl ?_
    obtain ⟨x12,hx12,h⟩:=bs h
    obtain ⟨cs10,F12,-,g8,hb10,hs8,r11⟩:=ph2_0.el (a7 hx12).2.2
    obtain ⟨v11,G3,rfl,hq1,h14⟩:=r11
    obtain rfl:=hq1.symm
    refine qq (a8 ss rfl rfl ph2_0 hx12) rfl<|qq (aB mr rfl) rfl<|qq (aW jK rfl (fun w1 hw=>(g8.of_eq 0 1 rfl rfl:rg _ _ _ [v11]).rangeAt hw.in0)) rfl<|aqt 8 [] rfl ?_
    refine lin (σ:=Hp × (List ab) × Value × List Nat × Int) (fun s=>[(2,pQ pb2),(5,iV p5),(7,pv7),(8,pQ b_1),(9,pQ b_2),(12,pQ b_3),(16,v1),(17,iV (wz ((x1.Levels.length:Int) - 1))),(18,u1),(19,iV s3),(20,s.2.2.1),(23,v11),(24,iV s.2.2.2.2)]) (fun s=>St w0 s.1 [(b_3,.cells #[pv4_0,iV p4.Next] 57 (0,0)),(b_2,.cells #[pv1_0,pv1_1] 149 (0,0)),(b_1,.cells #[.string p0.Name,iV p0.Sal,pv0_0,pv0_1,pv0_2] 148 (0,0))] [s.2.2.2.1,ob s.2.2.1,D8,ob u1,ob v1,D1,[pb2],ob pv2_1]) (fun m s=>dK N p0 p4 x1 s1 s2 s3 (bi N p0 p1 p2 p3 p4 p5 p7 x1 n1) x12 m s.2.1 s.2.2.2.2=some r∧(OSl aK 130 1 s.1 D8 v1 s1)∧(OSl cD 160 2 s.1 D9 u1 s2)∧(OSl ax 160 2 s.1 s.2.2.2.1 s.2.2.1 s.2.1)∧(s.1 pb2=some (.cells #[pv2_0,pv2_1] 43 (0,0)))∧(HSl aP 126 1 s.1 D1 pv2_1 p2.Rules p3.toNat [v1])) (Φ_6,s6,u3,D12,0) N ⟨h,k2,k3,k10,k11,k9⟩ (sx [0,0,0,0,0,0,0,0] [0,0,0]) (fun n5 ih5 s hm=>?_)
    obtain ⟨Φ_8,s8,u4,D15,s9⟩:=s
    obtain ⟨h,k2,k3,k13,k14,k12⟩:=hm
    dsimp only at h k2 k3 k13 k14 k12 ⊢
    unfold dK at h
    refine atr 5 [] rfl<|lno k3 rfl<|la rfl<|en ?_
    refine ch h rfl ?_ ?_ <;> intro h
    ·refine att 8 [] rfl ?_
     refine lin (σ:=Hp × (List ab) × Value × List Nat × Int) (fun s=>[(2,pQ pb2),(5,iV p5),(7,pv7),(8,pQ b_1),(9,pQ b_2),(12,pQ b_3),(16,v1),(17,iV (wz ((x1.Levels.length:Int) - 1))),(18,u1),(19,iV s3),(20,s.2.2.1),(23,v11),(24,iV s9),(25,iV s.2.2.2.2)]) (fun s=>St w0 s.1 [(b_3,.cells #[pv4_0,iV p4.Next] 57 (0,0)),(b_2,.cells #[pv1_0,pv1_1] 149 (0,0)),(b_1,.cells #[.string p0.Name,iV p0.Sal,pv0_0,pv0_1,pv0_2] 148 (0,0))] [s.2.2.2.1,ob s.2.2.1,D8,ob u1,ob v1,D1,[pb2],ob pv2_1]) (fun m s=>fj N p0 p4 s2 x12 s9 (dK N p0 p4 x1 s1 s2 s3 (bi N p0 p1 p2 p3 p4 p5 p7 x1 n1) x12 n5) m s.2.1 s.2.2.2.2=some r∧(OSl aK 130 1 s.1 D8 v1 s1)∧(OSl cD 160 2 s.1 D9 u1 s2)∧(OSl ax 160 2 s.1 s.2.2.2.1 s.2.2.1 s.2.1)∧(s.1 pb2=some (.cells #[pv2_0,pv2_1] 43 (0,0)))∧(HSl aP 126 1 s.1 D1 pv2_1 p2.Rules p3.toNat [v1])) (Φ_8,s8,u4,D15,0) N ⟨h,k2,k3,k13,k14,k12⟩ (sx [0,0,0,0,0,0,0,0] [0,0,0]) (fun n6 ih6 s hm=>?_)
     obtain ⟨Φ_9,s10,u5,D16,s11⟩:=s
     obtain ⟨h,k2,k3,k16,k17,k15⟩:=hm
     dsimp only at h k2 k3 k16 k17 k15 ⊢
     unfold fj at h
     refine atr 5 [] rfl<|lnr h14 rfl<|la rfl<|en ?_
     refine ch h rfl ?_ ?_ <;> intro h
     ·refine att 3 [] rfl<|WT.mix (Kn w0 Φ_9 (ob u1) [(b_3,.cells #[pv4_0,iV p4.Next] 57 (0,0)),(b_2,.cells #[pv1_0,pv1_1] 149 (0,0)),(b_1,.cells #[.string p0.Name,iV p0.Sal,pv0_0,pv0_1,pv0_2] 148 (0,0))]) (fun _=>true) co (fun _ h=>h.drew)<|ma 0 rfl (by kernel_rfl) (kn Kf.id (ai3 0 1 2 rfl rfl rfl)) rfl<|mq 1 rfl (by kernel_rfl) (kn Kf.id (ai3 0 1 2 rfl rfl rfl)) (ao pn rfl (fun w1 hw=>hw.rgO (i:=2) rfl 0 5 [.string p0.Name,iV p0.Sal,pv0_0,pv0_1,pv0_2] rfl) rfl) rfl ?_
      refine mq 2 rfl (by kernel_rfl) (kn Kf.id (ai3 0 1 2 rfl rfl rfl)) (ao y6 rfl (fun w1 hw=>hw.rgO (i:=0) rfl 0 2 [pv4_0,iV p4.Next] rfl) rfl) rfl<|ma 3 rfl (by kernel_rfl) (kn Kf.id (ai3 0 1 2 rfl rfl rfl)) rfl<|ma 4 rfl (by kernel_rfl) (kn Kf.id (ai3 0 1 2 rfl rfl rfl)) rfl ?_
      obtain ⟨x13,hx13,h⟩:=bs h
      obtain ⟨cs11,F13,-,g9,hb11,hs9,r12⟩:=k3.elS (a7 hx13).2.2
      obtain ⟨v12,G4,v13,G5,rfl,rfl,h15,h16⟩:=r12
      refine mq 5 rfl (by kernel_rfl) (kn Kf.id (ai3 0 1 2 rfl rfl rfl)) (a8 cg rfl rfl k3.rsl hx13) rfl<|mq 6 rfl (by kernel_rfl) (kn Kf.id (ai3 0 1 2 rfl rfl rfl)) (aB o2 rfl) rfl<|mq 7 rfl (by kernel_rfl) (kn Kf.id (ai3 0 1 2 rfl rfl rfl)) (aW jK rfl (fun w1 hw=>hw.rg hb11 (g9.of_eq 0 1 rfl rfl:rg _ _ _ [v12]))) rfl<|ma 8 rfl (by kernel_rfl) (kn Kf.id (ai3 0 1 2 rfl rfl rfl)) rfl<|ma 9 rfl (by kernel_rfl) (kn Kf.id (ai3 0 1 2 rfl rfl rfl)) rfl ?_
      obtain ⟨x14,hx14,h⟩:=bs h
      obtain ⟨cs12,F14,-,g10,hb12,hs10,r13⟩:=h14.el (a7 hx14).2.2
      obtain ⟨rfl,-⟩:=r13
      refine mq 10 rfl (by kernel_rfl) (kn Kf.id (ai3 0 1 2 rfl rfl rfl)) (a8 aR rfl rfl h14 hx14) rfl<|mq 11 rfl (by kernel_rfl) (kn Kf.id (ai3 0 1 2 rfl rfl rfl)) (aW vd rfl (fun w1 hw=>(g10.of_eq 0 1 rfl rfl:rg _ _ _ [iV x14]).rangeAt hw.1)) rfl ?_
      obtain ⟨x15,hx15,h⟩:=bs h
      refine WM.one 12 (by kernel_rfl) (mc rfl (fun _ v Φx D w1 hq hw=>Kn.of (Kf.id.st hq.2.1 (hq.1.r (i:=1) rfl)) (ai3 0 1 2 rfl rfl rfl) hw) (aY (js:=[1,0]) (R:=[D8,ob u1,ob v1,D1,[pb2],ob pv2_1]) HO rfl rfl (fun w1 hw ap hl=>qY N (bx hw ap hl) s10 p0 p4 x13.Ids x14 k16 (ph0_0.y (hw.uo ap)) (ph0_1.y (hw.uo ap)) (ph0_2.y (hw.uo ap)) (ph4_0.y (hw.uo ap)) (h15.x (Dj.sub (ap.q 0 rfl) (fun k h=>i1 k (hs9 k (List.mem_append.2 (.inl h))))))  hx15)) rfl ?_)
      rintro v14 Φ_10 F15 ⟨ap3,fr5,v15,D17,rfl,rfl,h17⟩
      replace k15:=k15.fr fr5 (ap3.q 5 rfl) (ap3.q 3 rfl)
      replace k2:=k2.fr fr5 (ap3.q 2 rfl) (ap3.q 0 rfl)
      replace k3:=k3.fr fr5 (ap3.q 1 rfl) (Dj.sub (ap3.q 0 rfl) i1)
      replace k17:=fr5 _ _ ((ap3.q 4 rfl) _ (by simp)) k17
      have kf2:=(Kf.id (F:=(ob u1)):Kf Φ_9 _ _).st fr5 (ap3.q 1 rfl)
      refine ma 13 rfl (by kernel_rfl) (kn kf2 (ai3 0 1 2 rfl rfl rfl)) rfl<|WM.nil (by kernel_rfl)<|att 6 [] rfl ?_
      exact lb [1,0,0,0,0,0,0,0] [0,0,0] (ih6 (_,_,_,_,_) ⟨h,k2,k3,h17,k17,k15⟩)
     refine att 7 [] rfl ?_
     exact lb [0,0,0,0,0,0,0,0] [0,0,0] (ih5 (_,_,_,_,_) ⟨h,k2,k3,k16,k17,k15⟩)
    refine att 7 [] rfl ?_
    refine lin (σ:=Hp × (List ab) × List Nat × Int) (fun s=>[(2,pQ pb2),(5,iV p5),(7,pv7),(8,pQ b_1),(9,pQ b_2),(12,pQ b_3),(16,v1),(17,iV (wz ((x1.Levels.length:Int) - 1))),(19,iV s3),(20,u4),(26,iV s.2.2.2)]) (fun s=>St w0 s.1 [(b_3,.cells #[pv4_0,iV p4.Next] 57 (0,0)),(b_2,.cells #[pv1_0,pv1_1] 149 (0,0)),(b_1,.cells #[.string p0.Name,iV p0.Sal,pv0_0,pv0_1,pv0_2] 148 (0,0))] [s.2.2.1,ob u4,D8,ob v1,D1,[pb2],ob pv2_1]) (fun m s=>bH N p0 p4 x1 s1 s3 (bi N p0 p1 p2 p3 p4 p5 p7 x1 n1) m s.2.1 s.2.2.2=some r∧(OSl aK 130 1 s.1 D8 v1 s1)∧(OSl ax 160 2 s.1 s.2.2.1 u4 s.2.1)∧(s.1 pb2=some (.cells #[pv2_0,pv2_1] 43 (0,0)))∧(HSl aP 126 1 s.1 D1 pv2_1 p2.Rules p3.toNat [v1])) (Φ_8,s8,D15,0) N ⟨h,k2,k13,k14,k12⟩ (sx [0,0,0,1,1,1,1] [0,0,0]) (fun n7 ih7 s hm=>?_)
    obtain ⟨Φ_11,s12,D18,s13⟩:=s
    obtain ⟨h,k2,k19,k20,k18⟩:=hm
    dsimp only at h k2 k19 k20 k18 ⊢
    unfold bH at h
    refine atr 5 [] rfl<|lno k19 rfl<|arr 2 [] rfl ?_
    obtain ⟨b3,hb_3,h⟩:=bs h
    refine WL.cutN 4 [(158,.bool b3),(2,pQ pb2),(5,iV p5),(7,pv7),(8,pQ b_1),(9,pQ b_2),(12,pQ b_3),(16,v1),(17,iV (wz ((x1.Levels.length:Int) - 1))),(19,iV s3),(20,u4),(26,iV s13)] ?_ (fun K=>?_)
    rotate_left
    ·refine sp 154 hb_3 rfl (fun hb_3=>?_) fun hb_3=>?_
     ·refine arr 4 [] rfl ?_
      cases hb_3
      exact ku K
     ·refine arr 4 [] rfl ?_
      cases hb_3
      exact ku K
    refine en ?_
    refine ch h rfl ?_ ?_ <;> intro h
    ·refine att 3 [] rfl ?_
     obtain ⟨x16,hx16,h⟩:=bs h
     obtain ⟨cs13,F16,D19,h18,r14,kf3,sp4⟩:=k19.focus hx16
     obtain ⟨v16,v17,rfl,rfl,h19,h20⟩:=r14
     refine wtL [ob v16,ob v17,D19,ob u4,D8,ob v1,D1,[pb2],ob pv2_1] (sre [0] [ob v16,ob v17,D19] rfl (by simpa [List.append_assoc] using sp4))<|WT.mix (Kn w0 Φ_11 (ob u4) [(b_3,.cells #[pv4_0,iV p4.Next] 57 (0,0)),(b_2,.cells #[pv1_0,pv1_1] 149 (0,0)),(b_1,.cells #[.string p0.Name,iV p0.Sal,pv0_0,pv0_1,pv0_2] 148 (0,0))]) (fun i=>match i with | 10=>false | _=>true) co (fun _ h=>h.drew)<|ma 0 rfl (by kernel_rfl) (kn Kf.id (ai3 0 1 2 rfl rfl rfl)) rfl<|ma 1 rfl (by kernel_rfl) (kn Kf.id (ai3 0 1 2 rfl rfl rfl)) rfl ?_
     refine mq 2 rfl (by kernel_rfl) (kn Kf.id (ai3 0 1 2 rfl rfl rfl)) (ao pn rfl (fun w1 hw=>hw.rgO (i:=2) rfl 0 5 [.string p0.Name,iV p0.Sal,pv0_0,pv0_1,pv0_2] rfl) rfl) rfl<|mq 3 rfl (by kernel_rfl) (kn Kf.id (ai3 0 1 2 rfl rfl rfl)) (ao y6 rfl (fun w1 hw=>hw.rgO (i:=0) rfl 0 2 [pv4_0,iV p4.Next] rfl) rfl) rfl<|ma 4 rfl (by kernel_rfl) (kn Kf.id (ai3 0 1 2 rfl rfl rfl)) rfl<|ma 5 rfl (by kernel_rfl) (kn Kf.id (ai3 0 1 2 rfl rfl rfl)) rfl<|mq 6 rfl (by kernel_rfl) (kn Kf.id (ai3 0 1 2 rfl rfl rfl)) (dM cg rfl rfl h18 hx16) rfl ?_
     refine mq 7 rfl (by kernel_rfl) (kn Kf.id (ai3 0 1 2 rfl rfl rfl)) (ao zM rfl (fun w1 hw=>hw.rg h18.hb (h18.rg.of_eq 0 2 rfl rfl:rg _ _ _ [v16,v17])) rfl) rfl ?_
     obtain ⟨x17,hx17,h⟩:=bs h
     refine WM.one 8 (by kernel_rfl) (mc rfl (fun _ v Φx D w1 hq hw=>Kn.of (Kf.id.st hq.2.1 (hq.1.r (i:=2) rfl)) (ai3 0 1 2 rfl rfl rfl) hw) (aY (js:=[0]) (R:=[ob v17,D19,ob u4,D8,ob v1,D1,[pb2],ob pv2_1]) Kx rfl rfl (fun w1 hw ap hl=>yc N (bx hw ap hl) p0 p4 x16 (ph0_0.y (hw.uo ap)) (ph0_1.y (hw.uo ap)) (ph0_2.y (hw.uo ap)) (ph4_0.y (hw.uo ap)) h19 (h20.rsl.x (Dj.app (ap.q 0 rfl) dN))  hx17)) rfl ?_)
     rintro v18 Φ_12 F17 ⟨ap4,fr6,v19,v20,rfl,rfl,h21,h22⟩
     replace k18:=k18.fr fr6 (ap4.q 7 rfl) (ap4.q 5 rfl)
     replace k2:=k2.fr fr6 (ap4.q 4 rfl) (ap4.q 3 rfl)
     replace h18:=h18.fr fr6 (ap4.q 2 rfl) (ap4.q 1 rfl)
     replace h20:=h20.fr fr6 (ap4.q 0 rfl) dN
     replace k20:=fr6 _ _ ((ap4.q 6 rfl) _ (by simp)) k20
     have kf3:=(Kf.id (F:=(ob u4)):Kf Φ_11 _ _).st fr6 (ap4.q 2 rfl)
     refine mq 9 rfl (by kernel_rfl) (kn kf3 (ai3 0 1 2 rfl rfl rfl)) (dM cg rfl rfl h18 hx16) rfl ?_
     refine WM.one 10 (by kernel_rfl) (mu rfl (fun hc=>by cases hc) (JF (js:=[4]) (Rr:=[ob v19,ob v20,ob v17,D19,D8,ob v1,D1,[pb2],ob pv2_1]) (o:=0) (vs:=[v19,v20]) (cs':=[v19,v20]) ax.lasts sO rfl rfl rfl rfl ⟨h21.one,h22.one,trivial⟩ rfl h18 rfl rfl (fun ap=>ap.q 3 rfl)) rfl ?_)
     rintro Φ_13 D20 ⟨⟨ap5,fr7⟩,h23⟩
     replace k18:=k18.fr fr7 (ap5.q 8 rfl) (ap5.q 6 rfl)
     replace k2:=k2.fr fr7 (ap5.q 5 rfl) (ap5.q 4 rfl)
     replace h21:=h21.fr fr7 (ap5.q 0 rfl) dN
     replace h22:=h22.fr fr7 (ap5.q 1 rfl) dN
     replace k20:=fr7 _ _ ((ap5.q 7 rfl) _ (by simp)) k20
     refine WM.nil (by kernel_rfl)<|att 6 [] rfl ?_
     have r15:ax Φ_13 _ [v19,v20] x17:=⟨v19,v20,rfl,rfl,h21,h22⟩
     obtain ⟨D21,h24,sp5⟩:=h23.unfocus r15 (ax.knows _ _ _ _ r15)
     refine wtL [D21,ob u4,ob v17,D8,ob v1,D1,[pb2],ob pv2_1] (smg [1,1,2] rfl (by simpa [List.append_assoc,bl] using sp5)) ?_
     exact lb [0,0,1,1,1,1,1] [0,0,0] (ih7 (_,_,_,_) ⟨h,k2,h24,k20,k18⟩)
    refine atr 7 [] rfl ?_
    obtain ⟨x18,hx18,h⟩:=bs h
    obtain ⟨cs14,F18,D22,h25,r16,kf4,sp6⟩:=k2.focus hx18
    obtain ⟨v21,D23,rfl,rfl,h26⟩:=r16
    refine wlL [ob v21,D23,D22,D18,ob u4,ob v1,D1,[pb2],ob pv2_1] (sre [2] [ob v21,D23,D22] rfl (by simpa [List.append_assoc] using sp6))<|lih h25 hx18 rfl<|lf gg rfl rfl rfl<|lgx 0 0 h25.rg rfl<|la rfl ?_
    obtain ⟨x19,hx19,h⟩:=bs h
    have h28:=k19.gives ax.gives
    refine le' (gE ax.lasts ax.one cg pC rfl rfl rfl rfl rfl (js:=[0]) (Rr:=[D23,D22,D18,ob u4,ob v1,D1,[pb2],ob pv2_1]) rfl h26 k19 (fun ap=>ap.q 0 rfl) (fun ap=>ap.q 2 rfl) hx19) rfl ?_
    rintro v22 Φ_14 D24 ⟨⟨ap6,fr8⟩,h27⟩
    replace k18:=k18.fr fr8 (ap6.q 7 rfl) (ap6.q 5 rfl)
    replace h25:=h25.fr fr8 (ap6.q 4 rfl) (ap6.q 1 rfl)
    replace h28:=h28.fr fr8 (ap6.q 3 rfl) (ap6.q 2 rfl)
    replace k20:=fr8 _ _ ((ap6.q 6 rfl) _ (by simp)) k20
    refine wlL [(D23++D18),ob v22,D22,ob u4,ob v1,D1,[pb2],ob pv2_1] (smg [1,2] rfl (SP.eq (by simp)))<|lih h25 hx18 rfl<|lf gg rfl rfl rfl<|lu (us [4] [(D23++D18),ob v22,D22,ob u4,D1,[pb2],ob pv2_1] 0 aK.lasts El rfl rfl h27.one rfl h25 rfl (fun ap=>ap.q 2 rfl)) rfl ?_
    rintro Φ_15 D25 ⟨⟨ap7,fr9⟩,h29⟩
    replace k18:=k18.fr fr9 (ap7.q 6 rfl) (ap7.q 4 rfl)
    replace h27:=h27.fr fr9 (ap7.q 1 rfl) (ap7.q 0 rfl)
    replace h28:=h28.fr fr9 (ap7.q 3 rfl) (Dj.sub (ap7.q 0 rfl) (fun k hk=>List.mem_append.2 (.inr hk)))
    replace k20:=fr9 _ _ ((ap7.q 5 rfl) _ (by simp)) k20
    refine art 11 [] rfl ?_
    have r17:aK Φ_15 _ [v22] (⟨x19⟩:aa):=⟨v22,(D23++D18),rfl,rfl,h27⟩
    obtain ⟨D26,h30,sp7,mF1,mD1⟩:=h29.unfocusM r17 (aK.knows _ _ _ _ r17)
    refine wtL [D26,ob v1,ob u4,D1,[pb2],ob pv2_1] (smg [2,1,1] rfl (by simpa [List.append_assoc,bl] using sp7)) ?_
    exact lb [0,1,0,0,0,0] [0,0,0] (ih1 (_,_,_,_,_,_,_) ⟨h,h30,h28,(fun k hk=>((fun k hk=>(fun k hk=>mF1 k (List.mem_append.2 (.inr hk))) k ((fun k hk=>List.mem_append.2 (.inr hk)) k hk)) k hk)),k20,k18⟩)
   refine ch h rfl ?_ ?_ <;> intro h
   ·refine atr 4 [] rfl ?_
    obtain ⟨x20,hx20,h⟩:=bs h
    obtain ⟨cs15,F19,-,g11,hb15,hs11,r18⟩:=k2.elS (a7 hx20).2.2
    obtain ⟨v23,D27,rfl,rfl,h31⟩:=r18
    have h32:=h31.rslG ax.gives
    refine lio k2 hx20 rfl<|lf gg rfl rfl rfl<|lgx 0 0 g11 rfl<|lnr h32 rfl<|la rfl<|lno k3 rfl<|art 3 [] rfl ?_
    exact wo [0,0,0,0,0,0,0,0] [0,0,0] (K _ ⟨h,k5⟩)
   refine WT.skip ?_
   exact wo [0,0,0,0,0,0,0,0] [0,0,0] (K _ ⟨h,k5⟩)
  refine ch h rfl ?_ ?_ <;> intro h
  ·refine atr 4 [69,2] rfl<|le' (io (R:=RI .i64) RI.lasts aR o7 rfl rfl) rfl ?_
   rintro v24 Φ_16 D28 ⟨fr10,h33⟩
   replace k1:=k1.f0 fr10
   replace k2:=k2.f0 fr10
   replace k3:=k3.f0 fr10
   replace h8:=h8.f0 fr10
   replace k4:=fr10 _ _ (by simp) k4
   refine la rfl<|kcb [2,1] h rfl rfl rfl rfl (fun b ap z q=>qY N b ([]:List ab) p0 p4 ([]:List Int) p5 h8 (ph0_0.y z) (ph0_1.y z) (ph0_2.y z) (ph4_0.y z) (h33.rsl.x (Dj.app (ap.q 0 rfl) dN)) q) ?_
   rintro x21 h v25 Φ_17 F20 ⟨ap8,fr11,v26,D29,rfl,rfl,h34⟩
   replace k1:=k1.fr fr11 (ap8.q 6 rfl) (ap8.q 4 rfl)
   replace k2:=k2.fr fr11 (ap8.q 3 rfl) (ap8.q 1 rfl)
   replace k3:=k3.fr fr11 (ap8.q 2 rfl) (Dj.sub (ap8.q 1 rfl) i1)
   replace k4:=fr11 _ _ ((ap8.q 5 rfl) _ (by simp)) k4
   refine la rfl<|en ?_
   exact wo [1,0,1,1,1,1,1,1] [0,0,0] (K (_,_,_,_) ⟨h,k2,k3,h34,k4,k1⟩)
  refine WT.skip ?_
  exact wo [0,0,0,0,0,0,0,0] [0,0,0] (K (_,_,_,_) ⟨h,k2,k3,h8,k4,k1⟩)
 refine xt rfl ?_
 have r19:aP Φ_3 _ [v1] (⟨s1⟩:aF):=⟨v1,D8,rfl,rfl,k2⟩
 obtain ⟨D30,h35,sp8,mF2,mD2⟩:=k1.unfocusM r19 (aP.knows _ _ _ _ r19)
 refine wtL [D30,ob u1,[pb2],ob pv2_1] (smg [2,0,1] rfl (by simpa [List.append_assoc,bl] using sp8)) ?_
 refine WT.fin hF ay.none (fun w1 hw=>?_)
 cases h
 refine bZ (js:=[2,2,0]) hw rfl ⟨pv2_1,D30,rfl,rfl,rfl,h35,k4⟩
theorem Bk (w0:af Ψ Φ [[pb2],ob pv2_0,pD2_0,ob pv2_1,pD2_1].flatten) (p0:bo) (p1:bc) (p2:aA) (p3:ah) (p4:Int) (ph0_0:RSl cf 5 Ψ pG0_0 pv0_0 p0.Rules) (ph1_0:RSl bf 4 Ψ pG1_0 pv1_0 p1.Alphas) (ph1_1:RSl bz 2 Ψ pG1_1 pv1_1 p1.Chains) (ph2_0:OSl aO 123 1 Φ pD2_0 pv2_0 p2.Alphas) (ph2_1:OSl aP 126 1 Φ pD2_1 pv2_1 p2.Rules) (pp2:Φ pb2=some (.cells #[pv2_0,pv2_1] 43 (0,0))) (ph3_0:RSl bE 3 Ψ pG3_0 pv3_0 p3.Items) {r:aA} (h:rk N p0 p1 p2 p3 p4=some r) :
  Calls prog 31 [.agg [.string p0.Name,pv0_0].toArray,.agg [pv1_0,pv1_1].toArray,pQ pb2,.agg [pv3_0,iV p3.Next].toArray,iV p4].toArray w0.w (aQ Φ w0.w [[pb2],ob pv2_0,pD2_0,ob pv2_1,pD2_1].flatten (fun Φ' Fs v=>∃ (so_0_0:Value) (Do_0_0:List Nat) (so_0_1:Value) (Do_0_1:List Nat),v = .tuple #[]∧Fs=[[pb2],ob so_0_0,Do_0_0,ob so_0_1,Do_0_1]∧OSl aO 123 1 Φ' Do_0_0 so_0_0 r.Alphas∧OSl aP 126 1 Φ' Do_0_1 so_0_1 r.Rules∧Φ' pb2=some (.cells #[so_0_0,so_0_1] 43 (0,0)))):=by
 refine eL func31 rfl ntmps31 rfl (L:=[[pb2],ob pv2_0,pD2_0,ob pv2_1,pD2_1]) w0 (fun hF=>?_)
 unfold rk at h
 refine sr<|lbx rfl fun b_1=>lbx rfl fun b_2=>lbx rfl fun b_3=>arr 5 [2] rfl<|kab h rfl rfl rfl (fun b z q=>od N b p3 p4 (ph3_0.y z) q) ?_
 rintro x1 h v1 Φ_1 F1 ⟨ap1,fr1,v2,rfl,rfl,h1⟩
 replace ph2_0:=ph2_0.fr fr1 (ap1.q 1 rfl) (ap1.q 2 rfl)
 replace ph2_1:=ph2_1.fr fr1 (ap1.q 3 rfl) (ap1.q 4 rfl)
 replace pp2:=fr1 _ _ ((ap1.q 0 rfl) _ (by simp)) pp2
 refine arr 3 [] rfl<|lnz kj rfl fun b_4=>soN 0 kL rfl ⟨rfl,h1.one,trivial⟩ rfl ?_
 refine arr 4 [] rfl<|le' (io RB.lasts Gq Ow rfl rfl) rfl ?_
 rintro v3 Φ_2 D1 ⟨fr2,h2⟩
 replace ph2_0:=ph2_0.f0 fr2
 replace ph2_1:=ph2_1.f0 fr2
 replace h1:=h1.f0 fr2
 replace pp2:=fr2 _ _ (by simp) pp2
 refine art 8 [] rfl ?_
 refine lin (σ:=Hp × (List aS) × List Nat × (List Bool) × Value × Int) (fun s=>[(2,pQ pb2),(4,iV p4),(5,pQ b_1),(6,pQ b_2),(8,pQ b_3),(10,pQ b_4),(12,s.2.2.2.2.1),(13,iV s.2.2.2.2.2)]) (fun s=>St w0 s.1 [(b_4,.cells #[.string x1.1.Kind,v2] 133 (0,0)),(b_3,.cells #[pv3_0,iV p3.Next] 57 (0,0)),(b_2,.cells #[pv1_0,pv1_1] 52 (0,0)),(b_1,.cells #[.string p0.Name,pv0_0] 47 (0,0))] [ob s.2.2.2.2.1,ob v2,[pb2],ob pv2_0,s.2.2.1,ob pv2_1,pD2_1]) (fun m s=>eH N p0 p1 p2 p3 p4 x1 m s.2.1 s.2.2.2.1 s.2.2.2.2.2=some r∧(OSl aO 123 1 s.1 s.2.2.1 pv2_0 s.2.1)∧(OSl aP 126 1 s.1 pD2_1 pv2_1 p2.Rules)∧(OSl az 193 3 s.1 [] v2 x1.1.Fields)∧(OSl RB 4 1 s.1 [] s.2.2.2.2.1 s.2.2.2.1)∧(s.1 pb2=some (.cells #[pv2_0,pv2_1] 43 (0,0)))) (Φ_2,p2.Alphas,pD2_0,([]:List Bool),v3,0) N ⟨h,ph2_0,ph2_1,h1,h2,pp2⟩ (sx [0,0,0,0,0,0,0] [0,0,0,0]) (fun n1 ih1 s hm=>?_)
 obtain ⟨Φ_3,s1,D2,s2,u1,s3⟩:=s
 obtain ⟨h,k1,ph2_1,h1,k2,k3⟩:=hm
 dsimp only at h k1 ph2_1 h1 k2 k3 ⊢
 unfold eH at h
 refine atr 6 [0,64] rfl<|lnr ph1_0 rfl<|la rfl<|en ?_
 refine ch h rfl ?_ ?_ <;> intro h
 ·refine att 4 [] rfl<|WT.draw co (by kernel_rfl) (fun _ h=>h.drew)<|aqq 3 [0,64] rfl ?_
  obtain ⟨x2,hx2,h⟩:=bs h
  obtain ⟨cs1,F2,-,g1,hb1,hs1,r1⟩:=ph1_0.el (a7 hx2).2.2
  obtain ⟨v4,G1,v5,G2,rfl,rfl,h3,h4⟩:=r1
  refine qq (a8 uE rfl rfl ph1_0 hx2) rfl<|qq (ao pr rfl (fun w1 hw=>(g1.of_eq 0 4 rfl rfl:rg _ _ _ [.string x2.Kind,iV x2.N,v4,v5]).rangeAt hw.in0) rfl) rfl<|qq (ao pq rfl (fun w1 hw=>hw.rgO (i:=0) rfl 0 2 [.string x1.1.Kind,v2] rfl) rfl) rfl ?_
  obtain ⟨x3,hx3,h⟩:=bs h
  refine qp (bP Mg rfl (fun w1 hw=>Cy N (ba hw.fro) x2 x1.1 (h3.y hw.up) (h4.y hw.up) h1.rsl hx3)) rfl<|aqr 6 [] rfl ?_
  have rc2:RC RB 1 Φ_3 ([[]]:List (List Nat)) [.bool x3] ([x3]:List Bool):=RC.cons (c:=[.bool x3]) (cells:=[]) ⟨rfl,rfl⟩ rfl (RC.nil _ _ _)
  refine le' (cu (vs:=[(0,.bool x3)]) (C:=#[.bool x3]) RB.lasts Gq Ow rfl rfl rfl rfl (aI Nf (ai (C':=[.bool x3]) rfl rfl rfl rfl rfl (ak))) rfl rc2 rfl (by simpa using Kw.nil)) rfl ?_
  rintro v6 Φ_4 D3 ⟨fr3,h5⟩
  replace h5:OSl RB 4 1 Φ_4 [] v6 ([x3]:List Bool):=by simpa using h5
  replace k1:=k1.f0 fr3
  replace ph2_1:=ph2_1.f0 fr3
  replace h1:=h1.f0 fr3
  replace k2:=k2.f0 fr3
  replace k3:=fr3 _ _ (by simp) k3
  obtain ⟨x4,hx4,h⟩:=bs h
  refine le' (cP RB.lasts RB.one RB.flat Gq Pa rfl rfl rfl rfl rfl (js:=[1]) (Rr:=[ob v6,ob v2,[pb2],ob pv2_0,D2,ob pv2_1,pD2_1]) rfl k2 h5.rsl hx4) rfl ?_
  rintro v7 Φ_5 D4 ⟨⟨ap2,fr4⟩,h6⟩
  replace k1:=k1.fr fr4 (ap2.q 3 rfl) (ap2.q 4 rfl)
  replace ph2_1:=ph2_1.fr fr4 (ap2.q 5 rfl) (ap2.q 6 rfl)
  replace h1:=h1.fr fr4 (ap2.q 1 rfl) dN
  replace k3:=fr4 _ _ ((ap2.q 2 rfl) _ (by simp)) k3
  refine art 6 [] rfl ?_
  refine ch h rfl ?_ ?_ <;> intro h
  ·obtain ⟨x5,hx5,h⟩:=bs h
   obtain ⟨cs2,F3,D5,h7,r2,kf1,sp1⟩:=k1.focus hx5
   obtain ⟨v8,rfl,rfl,h8⟩:=r2
   refine wtL [ob v8,D5,ob v7,ob v6,ob v2,[pb2],ob pv2_0,ob pv2_1,pD2_1] (sre [5] [ob v8,D5] rfl (by simpa [List.append_assoc] using sp1))<|WT.mix (Kn w0 Φ_5 ([pb2]++ob pv2_0) [(b_4,.cells #[.string x1.1.Kind,v2] 133 (0,0)),(b_3,.cells #[pv3_0,iV p3.Next] 57 (0,0)),(b_2,.cells #[pv1_0,pv1_1] 52 (0,0)),(b_1,.cells #[.string p0.Name,pv0_0] 47 (0,0))]) (fun i=>match i with | 18=>false | _=>true) co (fun _ h=>h.drew)<|ma 0 rfl (by kernel_rfl) (kn Kf.id (am [0,1,2,3] rfl)) rfl ?_
   refine mq 1 rfl (by kernel_rfl) (kn Kf.id (am [0,1,2,3] rfl)) (ey rfl) rfl<|mq 2 rfl (by kernel_rfl) (kn Kf.id (am [0,1,2,3] rfl)) (aB to rfl) rfl<|mq 3 rfl (by kernel_rfl) (kn Kf.id (am [0,1,2,3] rfl)) (aW FG rfl (fun w1 hw=>hw.rg (List.mem_append.2 (.inl (by simp))) ((kY k3).of_eq 0 1 rfl rfl:rg _ _ _ [pv2_0]))) rfl<|ma 4 rfl (by kernel_rfl) (kn Kf.id (am [0,1,2,3] rfl)) rfl<|ma 5 rfl (by kernel_rfl) (kn Kf.id (am [0,1,2,3] rfl)) rfl<|mq 6 rfl (by kernel_rfl) (kn Kf.id (am [0,1,2,3] rfl)) (ey rfl) rfl ?_
   refine mq 7 rfl (by kernel_rfl) (kn Kf.id (am [0,1,2,3] rfl)) (aB to rfl) rfl<|mq 8 rfl (by kernel_rfl) (kn Kf.id (am [0,1,2,3] rfl)) (aW FG rfl (fun w1 hw=>hw.rg (List.mem_append.2 (.inl (by simp))) ((kY k3).of_eq 0 1 rfl rfl:rg _ _ _ [pv2_0]))) rfl<|ma 9 rfl (by kernel_rfl) (kn Kf.id (am [0,1,2,3] rfl)) rfl<|mq 10 rfl (by kernel_rfl) (kn Kf.id (am [0,1,2,3] rfl)) (dM ss rfl rfl h7 hx5) rfl<|mq 11 rfl (by kernel_rfl) (kn Kf.id (am [0,1,2,3] rfl)) (aB mr rfl) rfl ?_
   refine mq 12 rfl (by kernel_rfl) (kn Kf.id (am [0,1,2,3] rfl)) (aW jK rfl (fun w1 hw=>hw.rg (List.mem_append.2 (.inr h7.hb)) (h7.rg.of_eq 0 1 rfl rfl:rg _ _ _ [v8]))) rfl<|ma 13 rfl (by kernel_rfl) (kn Kf.id (am [0,1,2,3] rfl)) rfl ?_
   have rc3:RC (RI .i64) 1 Φ_5 ([[]]:List (List Nat)) [iV p4] ([p4]:List Int):=RC.cons (c:=[iV p4]) (cells:=[]) ⟨rfl,rfl⟩ rfl (RC.nil _ _ _)
   refine WM.one 14 (by kernel_rfl) (me rfl (fun _ v Φx D w1 hq hw=>Kn.of (Kf.id.se hq.1) (am [0,1,2,3] rfl) hw) (cu (vs:=[(0,iV p4)]) (C:=#[iV p4]) RI.lasts aR o7 rfl rfl rfl rfl (aI mE (ai (C':=[iV p4]) rfl rfl rfl rfl rfl (ak))) rfl rc3 rfl (by simpa using Kw.nil)) rfl ?_)
   rintro v9 Φ_6 D6 ⟨fr5,h9⟩
   replace h9:OSl (RI .i64) 3 1 Φ_6 [] v9 ([p4]:List Int):=by simpa using h9
   replace h7:=h7.f0 fr5
   replace ph2_1:=ph2_1.f0 fr5
   replace h1:=h1.f0 fr5
   replace h6:=h6.f0 fr5
   replace h8:=h8.f0 fr5
   replace k3:=fr5 _ _ (by simp) k3
   obtain ⟨x6,hx6,h⟩:=bs h
   have kf1:=(Kf.id (F:=([pb2]++ob pv2_0)):Kf Φ_5 _ _).se fr5
   refine WM.one 15 (by kernel_rfl) (me rfl (fun _ v Φx D w1 hq hw=>Kn.of (kf1.st hq.1.2 (Dj.app (hq.1.1.r (i:=5) rfl) (hq.1.1.r (i:=6) rfl))) (am [0,1,2,3] rfl) hw) (cP RI.lasts RI.one RI.flat aR sP rfl rfl rfl rfl rfl (js:=[1]) (Rr:=[ob v9,D5,ob v7,ob v6,ob v2,[pb2],ob pv2_0,ob pv2_1,pD2_1]) rfl h8 h9.rsl hx6) rfl ?_)
   rintro v10 Φ_7 D7 ⟨⟨ap3,fr6⟩,h10⟩
   replace h7:=h7.fr fr6 (ap3.q 6 rfl) (ap3.q 1 rfl)
   replace ph2_1:=ph2_1.fr fr6 (ap3.q 7 rfl) (ap3.q 8 rfl)
   replace h1:=h1.fr fr6 (ap3.q 4 rfl) dN
   replace h6:=h6.fr fr6 (ap3.q 2 rfl) dN
   replace k3:=fr6 _ _ ((ap3.q 5 rfl) _ (by simp)) k3
   have kf2:=kf1.st fr6 (Dj.app (ap3.q 5 rfl) (ap3.q 6 rfl))
   refine mqT 16 [17,18] rfl (by kernel_rfl) (kn kf2 (am [0,1,2,3] rfl)) (dM ss rfl rfl h7 hx5) rfl<|mq 17 rfl (by kernel_rfl) (kn kf2 (am [0,1,2,3] rfl)) (aB mr rfl) rfl ?_
   refine WM.one 18 (by kernel_rfl) (mu rfl (fun hc=>by cases hc) (us [7] [ob v10,ob v9,D5,ob v7,ob v6,ob v2,[pb2],ob pv2_1,pD2_1] 0 aO.lasts kO rfl rfl h10.one rfl h7 rfl (fun ap=>ap.q 2 rfl)) rfl ?_)
   rintro Φ_8 D8 ⟨⟨ap4,fr7⟩,h11⟩
   replace ph2_1:=ph2_1.fr fr7 (ap4.q 7 rfl) (ap4.q 8 rfl)
   replace h1:=h1.fr fr7 (ap4.q 5 rfl) dN
   replace h6:=h6.fr fr7 (ap4.q 3 rfl) dN
   replace h10:=h10.fr fr7 (ap4.q 0 rfl) dN
   replace k3:=fr7 _ _ ((ap4.q 6 rfl) _ (by simp)) k3
   refine WM.nil (by kernel_rfl)<|att 6 [] rfl ?_
   have r3:aO Φ_8 _ [v10] (⟨x6⟩:aS):=⟨v10,rfl,rfl,h10⟩
   obtain ⟨D9,h12,sp2⟩:=h11.unfocus r3 (aO.knows _ _ _ _ r3)
   refine wtL [D9,ob pv2_0,ob v9,ob v7,ob v6,ob v2,[pb2],ob pv2_1,pD2_1] (smg [1,2] rfl (by simpa [List.append_assoc,bl] using sp2)) ?_
   exact lb [3,4,4,1,0,2,2] [0,0,0,0] (ih1 (_,_,_,_,_,_) ⟨h,h12,ph2_1,h1,h6,k3⟩)
  refine att 7 [] rfl ?_
  exact lb [0,1,1,1,1,1,1] [0,0,0,0] (ih1 (_,_,_,_,_,_) ⟨h,k1,ph2_1,h1,h6,k3⟩)
 refine att 6 [] rfl ?_
 refine lin (σ:=Hp × (List aF) × Value × List Nat × Int) (fun s=>[(2,pQ pb2),(4,iV p4),(5,pQ b_1),(6,pQ b_2),(8,pQ b_3),(10,pQ b_4),(12,u1),(15,iV s.2.2.2.2)]) (fun s=>St w0 s.1 [(b_4,.cells #[.string x1.1.Kind,v2] 133 (0,0)),(b_3,.cells #[pv3_0,iV p3.Next] 57 (0,0)),(b_2,.cells #[pv1_0,pv1_1] 52 (0,0)),(b_1,.cells #[.string p0.Name,pv0_0] 47 (0,0))] [ob u1,ob v2,[pb2],ob pv2_0,D2,ob s.2.2.1,s.2.2.2.1]) (fun m s=>fZ N p0 p1 p3 p4 x1 s1 s2 m s.2.1 s.2.2.2.2=some r∧(OSl aO 123 1 s.1 D2 pv2_0 s1)∧(OSl aP 126 1 s.1 s.2.2.2.1 s.2.2.1 s.2.1)∧(OSl az 193 3 s.1 [] v2 x1.1.Fields)∧(OSl RB 4 1 s.1 [] u1 s2)∧(s.1 pb2=some (.cells #[pv2_0,s.2.2.1] 43 (0,0)))) (Φ_3,p2.Rules,pv2_1,pD2_1,0) N ⟨h,k1,ph2_1,h1,k2,k3⟩ (sx [0,0,0,0,0,0,0] [0,0,0,0]) (fun n2 ih2 s hm=>?_)
 obtain ⟨Φ_9,s4,u2,D10,s5⟩:=s
 obtain ⟨h,k1,k4,h1,k2,k5⟩:=hm
 dsimp only at h k1 k4 h1 k2 k5 ⊢
 unfold fZ at h
 refine atr 6 [1,96] rfl<|lnr ph0_0 rfl<|la rfl<|en ?_
 refine ch h rfl ?_ ?_ <;> intro h
 ·refine att 3 [] rfl<|wm [0,1,2,3] [16] rfl<|amm 9 [10,11,12,34,13,14,2,15,0,1,1,96,2] [0,1,2,3] rfl rfl ?_
  obtain ⟨x7,hx7,h⟩:=bs h
  obtain ⟨cs3,F4,-,g2,hb3,hs2,r4⟩:=ph0_0.el (a7 hx7).2.2
  obtain ⟨v11,G3,v12,G4,v13,G5,rfl,rfl,h13,h14,h15⟩:=r4
  refine mqT 3 [4,16] rfl (by kernel_rfl) (kN [0,1,2,3]) (a8 CR rfl rfl ph0_0 hx7) rfl<|mq 4 rfl (by kernel_rfl) (kN [0,1,2,3]) (ao pn rfl (fun w1 hw=>(g2.of_eq 0 5 rfl rfl:rg _ _ _ [.string x7.Name,iV x7.Sal,v11,v12,v13]).rangeAt hw.1) rfl) rfl<|amm 3 [5,1,6,64,7] [0,1,2,3] rfl rfl ?_
  obtain ⟨x8,hx8,h⟩:=bs h
  obtain ⟨cs4,F5,-,g3,hb4,hs3,r5⟩:=ph1_1.el (a7 hx8).2.2
  obtain ⟨v14,G6,v15,G7,rfl,rfl,h16,h17⟩:=r5
  refine mqT 8 [9,16] rfl (by kernel_rfl) (kN [0,1,2,3]) (a8 th rfl rfl ph1_1 hx8) rfl<|mq 9 rfl (by kernel_rfl) (kN [0,1,2,3]) (ao AF rfl (fun w1 hw=>(g3.of_eq 0 2 rfl rfl:rg _ _ _ [v14,v15]).rangeAt hw.1) rfl) rfl ?_
  obtain ⟨x9,hx9,h⟩:=bs h
  refine WM.one 16 (by kernel_rfl) (mc rfl (fun hc=>by cases hc) (aY (js:=[2,4,4]) (R:=[ob u1,ob v2,ob pv2_0,D2]) MG rfl rfl (fun w1 hw ap hl=>AZ N (bx hw ap hl) x7 x8 (⟨s1,s4⟩:aA) s5 p3 p4 x1.1 s2 (h13.y (hw.uo ap)) (h14.y (hw.uo ap)) (h15.y (hw.uo ap)) (h16.y (hw.uo ap)) (h17.y (hw.uo ap)) ((k1.rslG aO.gives).x (Dj.app (ap.q 2 rfl) (ap.q 3 rfl))) k4 k5 (ph3_0.y (hw.uo ap)) (h1.rsl.x (Dj.app (ap.q 1 rfl) dN)) (k2.rsl.x (Dj.app (ap.q 0 rfl) dN))  hx9)) rfl ?_)
  rintro v16 Φ_10 F6 ⟨ap5,fr8,v17,D11,rfl,rfl,e1,h18,h19⟩
  replace k1:=k1.fr fr8 (ap5.q 2 rfl) (ap5.q 3 rfl)
  replace h1:=h1.fr fr8 (ap5.q 1 rfl) dN
  replace k2:=k2.fr fr8 (ap5.q 0 rfl) dN
  refine WM.nil (by kernel_rfl)<|att 6 [] rfl ?_
  exact lb [3,3,0,2,2,0,0] [0,0,0,0] (ih2 (_,_,_,_,_) ⟨h,k1,h18,h1,k2,h19⟩)
 refine xt rfl ?_
 refine WT.fin hF ay.none (fun w1 hw=>?_)
 cases h
 refine bZ (js:=[2,2,2,2,2]) hw rfl ⟨pv2_0,D2,u2,D10,rfl,rfl,k1,k4,k5⟩
theorem iu (w0:af Ψ Φ []) (p0:bo) (p1:bc) (p2:aA) (p3:ah) (p4:Int) (ph0_0:RSl cf 5 Ψ pG0_0 pv0_0 p0.Rules) (ph1_0:RSl bf 4 Ψ pG1_0 pv1_0 p1.Alphas) (ph1_1:RSl bz 2 Ψ pG1_1 pv1_1 p1.Chains) (ph2_0:RSl dD 1 Ψ pG2_0 pv2_0 p2.Alphas) (ph2_1:RSl fM 1 Ψ pG2_1 pv2_1 p2.Rules) (ph3_0:RSl bE 3 Ψ pG3_0 pv3_0 p3.Items) {r:aA} (h:pi N p0 p1 p2 p3 p4=some r) :
  Calls prog 8 [.agg [.string p0.Name,pv0_0].toArray,.agg [pv1_0,pv1_1].toArray,.agg [pv2_0,pv2_1].toArray,.agg [pv3_0,iV p3.Next].toArray,iV p4].toArray w0.w (aQ Φ w0.w [] (fun Φ' Fs v=>∃ (sr_0_0:Value) (Dr_0_0:List Nat) (sr_0_1:Value) (Dr_0_1:List Nat),v = .agg [sr_0_0,sr_0_1].toArray∧Fs=[ob sr_0_0,Dr_0_0,ob sr_0_1,Dr_0_1]∧OSl aO 123 1 Φ' Dr_0_0 sr_0_0 r.Alphas∧OSl aP 126 1 Φ' Dr_0_1 sr_0_1 r.Rules)):=by
 refine eN func8 rfl ntmps8 rfl w0 fun hF=>?_
 unfold pi at h
 refine sr<|lbx rfl fun b_1=>lbx rfl fun b_2=>lbx rfl fun b_3=>lbx rfl fun b_4=>lnz j6 rfl fun b_5=>arr 4 [66] rfl<|kab h rfl rfl rfl (fun b z q=>A2 N b p2 (ph2_0.y z) (ph2_1.y z) q) ?_
 rintro x1 h v1 Φ_1 F1 ⟨ap1,fr1,v2,D1,v3,D2,rfl,rfl,h1,h2⟩
 refine lnz j6 rfl fun b_6=>soN 0 kI rfl ⟨h1.one,h2.one,trivial⟩ rfl ?_
 refine arr 9 [162,130,98,66] rfl<|qd h (CK N · p0 p1 p2 p3 p4 ph0_0 ph1_0 ph1_1 ph2_0 ph2_1 ph3_0 ·) rfl rfl rfl fun x2 h=>en ?_
 refine cut (σ:=Hp × (List aS) × Value × List Nat × (List aF) × Value × List Nat) (fun s=>[(10,pQ b_5),(11,pQ b_6)]) (fun s=>St w0 s.1 [(b_6,.cells #[s.2.2.1,s.2.2.2.2.2.1] 43 (0,0)),(b_5,.cells #[.slice none 0 0,.slice none 0 0] 43 (0,0))] [ob s.2.2.1,s.2.2.2.1,ob s.2.2.2.2.2.1,s.2.2.2.2.2.2]) (fun s=>mA N s.2.1 s.2.2.2.2.1=some r∧(OSl aO 123 1 s.1 s.2.2.2.1 s.2.2.1 s.2.1)∧(OSl aP 126 1 s.1 s.2.2.2.2.2.2 s.2.2.2.2.2.1 s.2.2.2.2.1)) (fun s hm=>?_) (fun K=>?_)
 ·clear h
  obtain ⟨Φ_2,s1,u1,D3,s2,u2,D4⟩:=s
  obtain ⟨h,k1,k2⟩:=hm
  dsimp only at h k1 k2 ⊢
  unfold mA at h
  refine atr 3 [2] rfl<|soN 1 kI rfl ⟨k1.one,k2.one,trivial⟩ rfl ?_
  refine en ?_
  exact rtg [0,0,0,0] hF (ay.one (bB Gl rfl (fun w1 hw=>hw.rgO (i:=1) rfl 0 2 [u1,u2] rfl) rfl)) rfl (by cases h; exact fun w1 hw=>⟨u1,D3,u2,D4,rfl,rfl,k1,k2⟩)
 refine ch h rfl ?_ ?_ <;> intro h
 ·refine atr 5 [162,130,66] rfl ?_
  refine WL.frz (js:=[0]) (R:=[(b_5,.cells #[.slice none 0 0,.slice none 0 0] 43 (0,0)),(b_4,.cells #[pv3_0,iV p3.Next] 57 (0,0)),(b_3,.cells #[pv2_0,pv2_1] 43 (0,0)),(b_2,.cells #[pv1_0,pv1_1] 52 (0,0)),(b_1,.cells #[.string p0.Name,pv0_0] 47 (0,0))]) rfl (fun Φ_3 fr2 k3=>?_)
  replace h1:=h1.f0 fr2
  replace h2:=h2.f0 fr2
  refine kcb [0,0,0,0,0] h rfl rfl rfl rfl (fun b ap z q=>Bk N b p0 p1 x1 p3 p4 (ph0_0.y z) (ph1_0.y z) (ph1_1.y z) h1 h2 k3 (ph3_0.y z) q) ?_
  rintro x3 h v4 Φ_4 F2 ⟨ap2,fr3,v5,D5,v6,D6,rfl,rfl,h3,h4,h5⟩
  refine en ?_
  refine WT.thw (js:=[0]) (R:=[ob v5,D5,ob v6,D6]) rfl h5 (fun Φ_5 ap3 fr4=>?_)
  replace h3:=h3.fr fr4 (ap3.q 0 rfl) (ap3.q 1 rfl)
  replace h4:=h4.fr fr4 (ap3.q 2 rfl) (ap3.q 3 rfl)
  exact wo [0,0,0,0] [0,0] (K (_,_,_,_,_,_,_) ⟨h,h3,h4⟩)
 refine WT.skip ?_
 exact wo [0,0,0,0] [0,0] (K (_,_,_,_,_,_,_) ⟨h,h1,h2⟩)
theorem wT  (w0:af Ψ Φ []) (p0:aL)  {r:aL} (h:nS N p0=some r) :
  CB w0 prog 169 [.agg [iV p0.K,iV p0.N,.string p0.S].toArray] (.agg [iV r.K,iV r.N,.string r.S].toArray):=by
 refine eN func169 rfl ntmps169 rfl w0 fun hF=>?_
 unfold nS at h
 refine sr<|lbx rfl fun b_1=>lnz jI rfl fun b_2=>en<|sr<|lnz jI rfl fun b_3=>arr 6 [0,64,0] rfl<|so1 0 j5 rfl rfl ?_
 refine arr 6 [1,64,1] rfl<|so1 0 j5 rfl rfl ?_
 refine arr 6 [2,64,2] rfl<|so1 0 nA rfl rfl ?_
 refine arr 4 [3] rfl<|soN 1 rR rfl ⟨rfl,rfl,rfl,trivial⟩ rfl ?_
 refine en ?_
 refine WT.ret hF (ay.one (bB iY rfl (fun w1 hw=>hw.rgO (i:=1) rfl 0 3 [iV p0.K,iV p0.N,.string p0.S] rfl) rfl)) (fun w1 hw=>?_)
 cases h
 exact iZ hw
theorem mz  (w0:af Ψ Φ []) (p0:be)  {r:be} (h:jv N p0=some r) :
  CB w0 prog 200 [.agg [iV p0.K,.string p0.S,iV p0.V.K,iV p0.V.N,.string p0.V.S].toArray] (.agg [iV r.K,.string r.S,iV r.V.K,iV r.V.N,.string r.V.S].toArray):=by
 refine eN func200 rfl ntmps200 rfl w0 fun hF=>?_
 unfold jv at h
 refine sr<|lbx rfl fun b_1=>lnz pG rfl fun b_2=>en<|sr<|lnz pG rfl fun b_3=>arr 6 [0,64,0] rfl<|so1 0 j5 rfl rfl ?_
 refine arr 6 [1,64,1] rfl<|so1 0 nA rfl rfl ?_
 refine arr 5 [2,67] rfl<|qc h (wT N · p0.V ·) rfl rfl rfl fun x1 h=>lf Im rfl rfl rfl<|soN 0 rR rfl ⟨rfl,rfl,rfl,trivial⟩ rfl ?_
 refine arr 4 [5] rfl<|soN 1 qO rfl ⟨rfl,rfl,rfl,rfl,rfl,trivial⟩ rfl ?_
 refine en ?_
 refine WT.ret hF (ay.one (bB DF rfl (fun w1 hw=>hw.rgO (i:=1) rfl 0 5 [iV p0.K,.string p0.S,iV x1.K,iV x1.N,.string x1.S] rfl) rfl)) (fun w1 hw=>?_)
 cases h
 exact iZ hw
theorem Cg (w0:af Ψ Φ []) (p0:(List be)) (ph0:RSl bQ 5 Ψ pG0 pv0 p0) {r:(List be)} (h:qQ N p0=some r) :
  Calls prog 199 [pv0].toArray w0.w (aQ Φ w0.w [] (fun Φ' Fs v=>∃ (sr_0_0:Value),v=sr_0_0∧Fs=[ob sr_0_0]∧OSl bQ 224 5 Φ' [] sr_0_0 r)):=by
 refine eN func199 rfl ntmps199 rfl w0 fun hF=>?_
 unfold qQ at h
 refine atr 7 [] rfl<|lnr ph0 rfl ?_
 obtain ⟨x1,hx1,h⟩:=bs h
 refine le' (kM (R:=bQ) xf pG M1 rfl rfl rfl (fun _=>⟨rfl,rfl⟩) rfl rfl (Int.le_refl _) hx1 (pL hx1)) rfl ?_
 rintro v1 Φ_1 D1 ⟨fr1,h1⟩
 refine art 8 [] rfl ?_
 refine lin (σ:=Hp × (List be) × Int) (fun s=>[(0,pv0),(3,v1),(4,iV s.2.2)]) (fun s=>St w0 s.1 [] [ob v1]) (fun m s=>kX N p0 m s.2.1 s.2.2=some r∧(OSl bQ 224 5 s.1 [] v1 s.2.1)) (Φ_1,x1,0) N ⟨h,h1⟩ (sx [0] []) (fun n1 ih1 s hm=>?_)
 obtain ⟨Φ_2,s1,s2⟩:=s
 obtain ⟨h,k1⟩:=hm
 dsimp only at h k1 ⊢
 unfold kX at h
 refine atr 5 [] rfl<|lnr ph0 rfl<|la rfl<|en ?_
 refine ch h rfl ?_ ?_ <;> intro h
 ·refine atr 8 [] rfl ?_
  obtain ⟨x2,hx2,h⟩:=bs h
  obtain ⟨cs1,F1,-,g1,hb1,hs1,r1⟩:=ph0.el (a7 hx2).2.2
  obtain ⟨rfl,-⟩:=r1
  refine lia ph0 hx2 rfl<|lhx 0 5 g1 rfl<|qc h (mz N · x2 ·) rfl rfl rfl fun x3 h=>?_
  obtain ⟨x4,hx4,h⟩:=bs h
  obtain ⟨cs2,F2,-,g2,hb2,hs2,r2⟩:=k1.elS (a7 hx4).2.2
  obtain ⟨rfl,-⟩:=r2
  refine lio k1 hx4 rfl<|lu (tS (js:=[0]) (Rr:=[]) (vs:=[iV x3.K,.string x3.S,iV x3.V.K,iV x3.V.N,.string x3.V.S]) (x':=x3) bQ.lasts bQ.flat qO rfl rfl rfl rfl ⟨rfl,rfl,rfl,rfl,rfl,trivial⟩ rfl k1 (hP hx4) ⟨rfl,rfl⟩) rfl ?_
  rintro Φ_3 D2 ⟨⟨ap1,fr2⟩,h2⟩
  refine art 7 [] rfl ?_
  exact lb [0] [] (ih1 (_,_,_) ⟨h,h2⟩)
 refine att 6 [] rfl ?_
 exact rtg [0] hF (ay.one rfl) rfl (by cases h; exact fun w1 hw=>⟨v1,rfl,rfl,k1⟩)
theorem Eu (w0:af Ψ Φ []) (p0:av) (ph0_0:RSl bQ 5 Ψ pG0_0 pv0_0 p0.Args) {r:av} (h:qn N p0=some r) :
  Calls prog 166 [.agg [.string p0.Kind,pv0_0,.bool p0.Not].toArray].toArray w0.w (aQ Φ w0.w [] (fun Φ' Fs v=>∃ (sr_0_0:Value),v = .agg [.string r.Kind,sr_0_0,.bool r.Not].toArray∧Fs=[ob sr_0_0]∧OSl bQ 224 5 Φ' [] sr_0_0 r.Args)):=by
 refine eN func166 rfl ntmps166 rfl w0 fun hF=>?_
 unfold qn at h
 refine sr<|lbx rfl fun b_1=>lnz pE rfl fun b_2=>en<|sr<|lnz pE rfl fun b_3=>arr 6 [0,64,0] rfl<|so1 0 nA rfl rfl ?_
 refine arr 5 [1,64] rfl<|kab h rfl rfl rfl (fun b z q=>Cg N b p0.Args (ph0_0.y z) q) ?_
 rintro x1 h v1 Φ_1 F1 ⟨ap1,fr1,v2,rfl,rfl,h1⟩
 refine lf Dr rfl rfl rfl<|so1 0 LM rfl h1.one ?_
 refine arr 6 [2,64,2] rfl<|so1 0 NA rfl rfl ?_
 refine arr 4 [3] rfl<|soN 1 sN rfl ⟨rfl,h1.one,rfl,trivial⟩ rfl ?_
 refine en ?_
 exact rtg [0] hF (ay.one (bB vU rfl (fun w1 hw=>hw.rgO (i:=1) rfl 0 3 [.string p0.Kind,v1,.bool p0.Not] rfl) rfl)) rfl (by cases h; exact fun w1 hw=>⟨v1,rfl,rfl,h1⟩)
theorem Cq (w0:af Ψ Φ []) (p0:(List av)) (ph0:RSl bJ 3 Ψ pG0 pv0 p0) {r:(List av)} (h:rj N p0=some r) :
  Calls prog 116 [pv0].toArray w0.w (aQ Φ w0.w [] (fun Φ' Fs v=>∃ (sr_0_0:Value) (Dr_0_0:List Nat),v=sr_0_0∧Fs=[ob sr_0_0,Dr_0_0]∧OSl fu 212 3 Φ' Dr_0_0 sr_0_0 r)):=by
 refine eN func116 rfl ntmps116 rfl w0 fun hF=>?_
 unfold rj at h
 refine atr 7 [] rfl<|lnr ph0 rfl ?_
 obtain ⟨x1,hx1,h⟩:=bs h
 refine le' (kM (R:=fu) tY pE LN rfl rfl rfl (fun _=>⟨.slice none 0 0,rfl,rfl,OSl.nil _ _ _ _⟩) rfl rfl (Int.le_refl _) hx1 (pL hx1)) rfl ?_
 rintro v1 Φ_1 D1 ⟨fr1,h1⟩
 refine wl0<|art 8 [] rfl ?_
 refine lin (σ:=Hp × (List av) × List Nat × Int) (fun s=>[(0,pv0),(3,v1),(4,iV s.2.2.2)]) (fun s=>St w0 s.1 [] [s.2.2.1,ob v1]) (fun m s=>kW N p0 m s.2.1 s.2.2.2=some r∧(OSl fu 212 3 s.1 s.2.2.1 v1 s.2.1)) (Φ_1,x1,[],0) N ⟨h,h1⟩ (sx [0,0] []) (fun n1 ih1 s hm=>?_)
 obtain ⟨Φ_2,s1,D2,s2⟩:=s
 obtain ⟨h,k1⟩:=hm
 dsimp only at h k1 ⊢
 unfold kW at h
 refine atr 5 [] rfl<|lnr ph0 rfl<|la rfl<|en ?_
 refine ch h rfl ?_ ?_ <;> intro h
 ·refine atr 8 [] rfl ?_
  obtain ⟨x2,hx2,h⟩:=bs h
  obtain ⟨cs1,F1,-,g1,hb1,hs1,r1⟩:=ph0.el (a7 hx2).2.2
  obtain ⟨v2,G1,rfl,hq1,h2⟩:=r1
  obtain rfl:=hq1.symm
  refine lia ph0 hx2 rfl<|lhx 0 3 g1 rfl<|kab h rfl rfl rfl (fun b z q=>Eu N b x2 (h2.y z) q) ?_
  rintro x3 h v3 Φ_3 F2 ⟨ap1,fr2,v4,rfl,rfl,h3⟩
  replace k1:=k1.fr fr2 (ap1.q 1 rfl) (ap1.q 0 rfl)
  obtain ⟨x4,hx4,h⟩:=bs h
  obtain ⟨cs2,F3,-,g2,hb2,hs2,r2⟩:=k1.elS (a7 hx4).2.2
  obtain ⟨v5,rfl,rfl,h4⟩:=r2
  have h5:=h4.rsl
  refine lio k1 hx4 rfl ?_
  have r3:fu Φ_3 ((ob v4++[])) [.string x3.Kind,v4,.bool x3.Not] x3:=⟨v4,rfl,rfl,h3⟩
  refine lu (sM (js:=[2]) (Rr:=[ob v4,D2]) (vs:=[.string x3.Kind,v4,.bool x3.Not]) (x':=x3) fu.lasts sN rfl rfl rfl rfl ⟨rfl,h3.one,rfl,trivial⟩ rfl k1 (hP hx4) r3 (fu.knows _ _ _ _ r3) (fun ap=>ap.q 1 rfl) (fun ap=>by simpa [bl] using (ap.q 0 rfl))) rfl ?_
  rintro Φ_4 D3 ⟨⟨ap2,fr3⟩,sp1,h6⟩
  refine wlL [D3,ob v1] (smg [2,1] rfl (by simpa [List.append_assoc,bl] using sp1))<|art 7 [] rfl ?_
  exact lb [0,0] [] (ih1 (_,_,_,_) ⟨h,h6⟩)
 refine att 6 [] rfl ?_
 exact rtg [1,0] hF (ay.one rfl) rfl (by cases h; exact fun w1 hw=>⟨v1,D2,rfl,rfl,k1⟩)
theorem CA  (w0:af Ψ Φ []) (p0:bn)  {r:bn} (h:nB N p0=some r) :
  CB w0 prog 167 [.agg [iV p0.Op,iV p0.L.K,.string p0.L.S,iV p0.L.V.K,iV p0.L.V.N,.string p0.L.V.S,iV p0.R.K,.string p0.R.S,iV p0.R.V.K,iV p0.R.V.N,.string p0.R.V.S].toArray] (.agg [iV r.Op,iV r.L.K,.string r.L.S,iV r.L.V.K,iV r.L.V.N,.string r.L.V.S,iV r.R.K,.string r.R.S,iV r.R.V.K,iV r.R.V.N,.string r.R.V.S].toArray):=by
 refine eN func167 rfl ntmps167 rfl w0 fun hF=>?_
 unfold nB at h
 refine sr<|lbx rfl fun b_1=>lnz zr rfl fun b_2=>en<|sr<|lnz zr rfl fun b_3=>arr 6 [0,64,0] rfl<|so1 0 j5 rfl rfl ?_
 refine arr 5 [1,69] rfl<|qc h (mz N · p0.L ·) rfl rfl rfl fun x1 h=>lf Da rfl rfl rfl<|soN 0 qO rfl ⟨rfl,rfl,rfl,rfl,rfl,trivial⟩ rfl ?_
 refine arr 5 [6,69] rfl<|qc h (mz N · p0.R ·) rfl rfl rfl fun x2 h=>lf Dg rfl rfl rfl<|soN 0 qO rfl ⟨rfl,rfl,rfl,rfl,rfl,trivial⟩ rfl ?_
 refine arr 4 [11] rfl<|soN 1 DR rfl ⟨rfl,rfl,rfl,rfl,rfl,rfl,rfl,rfl,rfl,rfl,rfl,trivial⟩ rfl ?_
 refine en ?_
 refine WT.ret hF (ay.one (bB GG rfl (fun w1 hw=>hw.rgO (i:=1) rfl 0 11 [iV p0.Op,iV x1.K,.string x1.S,iV x1.V.K,iV x1.V.N,.string x1.V.S,iV x2.K,.string x2.S,iV x2.V.K,iV x2.V.N,.string x2.V.S] rfl) rfl)) (fun w1 hw=>?_)
 cases h
 exact iZ hw
theorem z8 (w0:af Ψ Φ []) (p0:(List bn)) (ph0:RSl bd 11 Ψ pG0 pv0 p0) {r:(List bn)} (h:oR N p0=some r) :
  Calls prog 117 [pv0].toArray w0.w (aQ Φ w0.w [] (fun Φ' Fs v=>∃ (sr_0_0:Value),v=sr_0_0∧Fs=[ob sr_0_0]∧OSl bd 226 11 Φ' [] sr_0_0 r)):=by
 refine eN func117 rfl ntmps117 rfl w0 fun hF=>?_
 unfold oR at h
 refine atr 7 [] rfl<|lnr ph0 rfl ?_
 obtain ⟨x1,hx1,h⟩:=bs h
 refine le' (kM (R:=bd) GD zr Ly rfl rfl rfl (fun _=>⟨rfl,rfl⟩) rfl rfl (Int.le_refl _) hx1 (pL hx1)) rfl ?_
 rintro v1 Φ_1 D1 ⟨fr1,h1⟩
 refine art 8 [] rfl ?_
 refine lin (σ:=Hp × (List bn) × Int) (fun s=>[(0,pv0),(3,v1),(4,iV s.2.2)]) (fun s=>St w0 s.1 [] [ob v1]) (fun m s=>jR N p0 m s.2.1 s.2.2=some r∧(OSl bd 226 11 s.1 [] v1 s.2.1)) (Φ_1,x1,0) N ⟨h,h1⟩ (sx [0] []) (fun n1 ih1 s hm=>?_)
 obtain ⟨Φ_2,s1,s2⟩:=s
 obtain ⟨h,k1⟩:=hm
 dsimp only at h k1 ⊢
 unfold jR at h
 refine atr 5 [] rfl<|lnr ph0 rfl<|la rfl<|en ?_
 refine ch h rfl ?_ ?_ <;> intro h
 ·refine atr 8 [] rfl ?_
  obtain ⟨x2,hx2,h⟩:=bs h
  obtain ⟨cs1,F1,-,g1,hb1,hs1,r1⟩:=ph0.el (a7 hx2).2.2
  obtain ⟨rfl,-⟩:=r1
  refine lia ph0 hx2 rfl<|lhx 0 11 g1 rfl<|qc h (CA N · x2 ·) rfl rfl rfl fun x3 h=>?_
  obtain ⟨x4,hx4,h⟩:=bs h
  obtain ⟨cs2,F2,-,g2,hb2,hs2,r2⟩:=k1.elS (a7 hx4).2.2
  obtain ⟨rfl,-⟩:=r2
  refine lio k1 hx4 rfl<|lu (tS (js:=[0]) (Rr:=[]) (vs:=[iV x3.Op,iV x3.L.K,.string x3.L.S,iV x3.L.V.K,iV x3.L.V.N,.string x3.L.V.S,iV x3.R.K,.string x3.R.S,iV x3.R.V.K,iV x3.R.V.N,.string x3.R.V.S]) (x':=x3) bd.lasts bd.flat DR rfl rfl rfl rfl ⟨rfl,rfl,rfl,rfl,rfl,rfl,rfl,rfl,rfl,rfl,rfl,trivial⟩ rfl k1 (hP hx4) ⟨rfl,rfl⟩) rfl ?_
  rintro Φ_3 D2 ⟨⟨ap1,fr2⟩,h2⟩
  refine art 7 [] rfl ?_
  exact lb [0] [] (ih1 (_,_,_) ⟨h,h2⟩)
 refine att 6 [] rfl ?_
 exact rtg [0] hF (ay.one rfl) rfl (by cases h; exact fun w1 hw=>⟨v1,rfl,rfl,k1⟩)
theorem Bc  (w0:af Ψ Φ []) (p0:bk)  {r:bk} (h:nW N p0=some r) :
  CB w0 prog 229 [.agg [.string p0.Op,iV p0.L.K,.string p0.L.S,iV p0.L.V.K,iV p0.L.V.N,.string p0.L.V.S,iV p0.R.K,.string p0.R.S,iV p0.R.V.K,iV p0.R.V.N,.string p0.R.V.S].toArray] (.agg [.string r.Op,iV r.L.K,.string r.L.S,iV r.L.V.K,iV r.L.V.N,.string r.L.V.S,iV r.R.K,.string r.R.S,iV r.R.V.K,iV r.R.V.N,.string r.R.V.S].toArray):=by
 refine eN func229 rfl ntmps229 rfl w0 fun hF=>?_
 unfold nW at h
 refine sr<|lbx rfl fun b_1=>lnz zY rfl fun b_2=>en<|sr<|lnz zY rfl fun b_3=>arr 6 [0,64,0] rfl<|so1 0 nA rfl rfl ?_
 refine arr 5 [1,69] rfl<|qc h (mz N · p0.L ·) rfl rfl rfl fun x1 h=>lf Dq rfl rfl rfl<|soN 0 qO rfl ⟨rfl,rfl,rfl,rfl,rfl,trivial⟩ rfl ?_
 refine arr 5 [6,69] rfl<|qc h (mz N · p0.R ·) rfl rfl rfl fun x2 h=>lf Dn rfl rfl rfl<|soN 0 qO rfl ⟨rfl,rfl,rfl,rfl,rfl,trivial⟩ rfl ?_
 refine arr 4 [11] rfl<|soN 1 E1 rfl ⟨rfl,rfl,rfl,rfl,rfl,rfl,rfl,rfl,rfl,rfl,rfl,trivial⟩ rfl ?_
 refine en ?_
 refine WT.ret hF (ay.one (bB Hf rfl (fun w1 hw=>hw.rgO (i:=1) rfl 0 11 [.string p0.Op,iV x1.K,.string x1.S,iV x1.V.K,iV x1.V.N,.string x1.V.S,iV x2.K,.string x2.S,iV x2.V.K,iV x2.V.N,.string x2.V.S] rfl) rfl)) (fun w1 hw=>?_)
 cases h
 exact iZ hw
theorem zl (w0:af Ψ Φ []) (p0:(List bk)) (ph0:RSl bu 11 Ψ pG0 pv0 p0) {r:(List bk)} (h:oM N p0=some r) :
  Calls prog 201 [pv0].toArray w0.w (aQ Φ w0.w [] (fun Φ' Fs v=>∃ (sr_0_0:Value),v=sr_0_0∧Fs=[ob sr_0_0]∧OSl bu 281 11 Φ' [] sr_0_0 r)):=by
 refine eN func201 rfl ntmps201 rfl w0 fun hF=>?_
 unfold oM at h
 refine atr 7 [] rfl<|lnr ph0 rfl ?_
 obtain ⟨x1,hx1,h⟩:=bs h
 refine le' (kM (R:=bu) H1 zY M3 rfl rfl rfl (fun _=>⟨rfl,rfl⟩) rfl rfl (Int.le_refl _) hx1 (pL hx1)) rfl ?_
 rintro v1 Φ_1 D1 ⟨fr1,h1⟩
 refine art 8 [] rfl ?_
 refine lin (σ:=Hp × (List bk) × Int) (fun s=>[(0,pv0),(3,v1),(4,iV s.2.2)]) (fun s=>St w0 s.1 [] [ob v1]) (fun m s=>jS N p0 m s.2.1 s.2.2=some r∧(OSl bu 281 11 s.1 [] v1 s.2.1)) (Φ_1,x1,0) N ⟨h,h1⟩ (sx [0] []) (fun n1 ih1 s hm=>?_)
 obtain ⟨Φ_2,s1,s2⟩:=s
 obtain ⟨h,k1⟩:=hm
 dsimp only at h k1 ⊢
 unfold jS at h
 refine atr 5 [] rfl<|lnr ph0 rfl<|la rfl<|en ?_
 refine ch h rfl ?_ ?_ <;> intro h
 ·refine atr 8 [] rfl ?_
  obtain ⟨x2,hx2,h⟩:=bs h
  obtain ⟨cs1,F1,-,g1,hb1,hs1,r1⟩:=ph0.el (a7 hx2).2.2
  obtain ⟨rfl,-⟩:=r1
  refine lia ph0 hx2 rfl<|lhx 0 11 g1 rfl<|qc h (Bc N · x2 ·) rfl rfl rfl fun x3 h=>?_
  obtain ⟨x4,hx4,h⟩:=bs h
  obtain ⟨cs2,F2,-,g2,hb2,hs2,r2⟩:=k1.elS (a7 hx4).2.2
  obtain ⟨rfl,-⟩:=r2
  refine lio k1 hx4 rfl<|lu (tS (js:=[0]) (Rr:=[]) (vs:=[.string x3.Op,iV x3.L.K,.string x3.L.S,iV x3.L.V.K,iV x3.L.V.N,.string x3.L.V.S,iV x3.R.K,.string x3.R.S,iV x3.R.V.K,iV x3.R.V.N,.string x3.R.V.S]) (x':=x3) bu.lasts bu.flat E1 rfl rfl rfl rfl ⟨rfl,rfl,rfl,rfl,rfl,rfl,rfl,rfl,rfl,rfl,rfl,trivial⟩ rfl k1 (hP hx4) ⟨rfl,rfl⟩) rfl ?_
  rintro Φ_3 D2 ⟨⟨ap1,fr2⟩,h2⟩
  refine art 7 [] rfl ?_
  exact lb [0] [] (ih1 (_,_,_) ⟨h,h2⟩)
 refine att 6 [] rfl ?_
 exact rtg [0] hF (ay.one rfl) rfl (by cases h; exact fun w1 hw=>⟨v1,rfl,rfl,k1⟩)
theorem DW (w0:af Ψ Φ []) (p0:bM) (ph0_0:RSl bu 11 Ψ pG0_0 pv0_0 p0.Args) {r:bM} (h:qg N p0=some r) :
  Calls prog 168 [.agg [iV p0.Kind,.string p0.Name,pv0_0,iV p0.N,.string p0.Undo].toArray].toArray w0.w (aQ Φ w0.w [] (fun Φ' Fs v=>∃ (sr_0_0:Value),v = .agg [iV r.Kind,.string r.Name,sr_0_0,iV r.N,.string r.Undo].toArray∧Fs=[ob sr_0_0]∧OSl bu 281 11 Φ' [] sr_0_0 r.Args)):=by
 refine eN func168 rfl ntmps168 rfl w0 fun hF=>?_
 unfold qg at h
 refine sr<|lbx rfl fun b_1=>lnz AD rfl fun b_2=>en<|sr<|lnz AD rfl fun b_3=>arr 6 [0,64,0] rfl<|so1 0 j5 rfl rfl ?_
 refine arr 6 [1,64,1] rfl<|so1 0 nA rfl rfl ?_
 refine arr 5 [2,64] rfl<|kab h rfl rfl rfl (fun b z q=>zl N b p0.Args (ph0_0.y z) q) ?_
 rintro x1 h v1 Φ_1 F1 ⟨ap1,fr1,v2,rfl,rfl,h1⟩
 refine lf tA rfl rfl rfl<|so1 0 MU rfl h1.one ?_
 refine arr 6 [3,64,3] rfl<|so1 0 j5 rfl rfl ?_
 refine arr 6 [4,64,4] rfl<|so1 0 nA rfl rfl ?_
 refine arr 4 [5] rfl<|soN 1 Fi rfl ⟨rfl,rfl,h1.one,rfl,rfl,trivial⟩ rfl ?_
 refine en ?_
 exact rtg [0] hF (ay.one (bB DO rfl (fun w1 hw=>hw.rgO (i:=1) rfl 0 5 [iV p0.Kind,.string p0.Name,v1,iV p0.N,.string p0.Undo] rfl) rfl)) rfl (by cases h; exact fun w1 hw=>⟨v1,rfl,rfl,h1⟩)
theorem BG (w0:af Ψ Φ []) (p0:(List bM)) (ph0:RSl dF 5 Ψ pG0 pv0 p0) {r:(List bM)} (h:rN N p0=some r) :
  Calls prog 118 [pv0].toArray w0.w (aQ Φ w0.w [] (fun Φ' Fs v=>∃ (sr_0_0:Value) (Dr_0_0:List Nat),v=sr_0_0∧Fs=[ob sr_0_0,Dr_0_0]∧OSl gA 229 5 Φ' Dr_0_0 sr_0_0 r)):=by
 refine eN func118 rfl ntmps118 rfl w0 fun hF=>?_
 unfold rN at h
 refine atr 7 [] rfl<|lnr ph0 rfl ?_
 obtain ⟨x1,hx1,h⟩:=bs h
 refine le' (kM (R:=gA) GV AD MD rfl rfl rfl (fun _=>⟨.slice none 0 0,rfl,rfl,OSl.nil _ _ _ _⟩) rfl rfl (Int.le_refl _) hx1 (pL hx1)) rfl ?_
 rintro v1 Φ_1 D1 ⟨fr1,h1⟩
 refine wl0<|art 8 [] rfl ?_
 refine lin (σ:=Hp × (List bM) × List Nat × Int) (fun s=>[(0,pv0),(3,v1),(4,iV s.2.2.2)]) (fun s=>St w0 s.1 [] [s.2.2.1,ob v1]) (fun m s=>l5 N p0 m s.2.1 s.2.2.2=some r∧(OSl gA 229 5 s.1 s.2.2.1 v1 s.2.1)) (Φ_1,x1,[],0) N ⟨h,h1⟩ (sx [0,0] []) (fun n1 ih1 s hm=>?_)
 obtain ⟨Φ_2,s1,D2,s2⟩:=s
 obtain ⟨h,k1⟩:=hm
 dsimp only at h k1 ⊢
 unfold l5 at h
 refine atr 5 [] rfl<|lnr ph0 rfl<|la rfl<|en ?_
 refine ch h rfl ?_ ?_ <;> intro h
 ·refine atr 8 [] rfl ?_
  obtain ⟨x2,hx2,h⟩:=bs h
  obtain ⟨cs1,F1,-,g1,hb1,hs1,r1⟩:=ph0.el (a7 hx2).2.2
  obtain ⟨v2,G1,rfl,hq1,h2⟩:=r1
  obtain rfl:=hq1.symm
  refine lia ph0 hx2 rfl<|lhx 0 5 g1 rfl<|kab h rfl rfl rfl (fun b z q=>DW N b x2 (h2.y z) q) ?_
  rintro x3 h v3 Φ_3 F2 ⟨ap1,fr2,v4,rfl,rfl,h3⟩
  replace k1:=k1.fr fr2 (ap1.q 1 rfl) (ap1.q 0 rfl)
  obtain ⟨x4,hx4,h⟩:=bs h
  obtain ⟨cs2,F3,-,g2,hb2,hs2,r2⟩:=k1.elS (a7 hx4).2.2
  obtain ⟨v5,rfl,rfl,h4⟩:=r2
  have h5:=h4.rsl
  refine lio k1 hx4 rfl ?_
  have r3:gA Φ_3 ((ob v4++[])) [iV x3.Kind,.string x3.Name,v4,iV x3.N,.string x3.Undo] x3:=⟨v4,rfl,rfl,h3⟩
  refine lu (sM (js:=[2]) (Rr:=[ob v4,D2]) (vs:=[iV x3.Kind,.string x3.Name,v4,iV x3.N,.string x3.Undo]) (x':=x3) gA.lasts Fi rfl rfl rfl rfl ⟨rfl,rfl,h3.one,rfl,rfl,trivial⟩ rfl k1 (hP hx4) r3 (gA.knows _ _ _ _ r3) (fun ap=>ap.q 1 rfl) (fun ap=>by simpa [bl] using (ap.q 0 rfl))) rfl ?_
  rintro Φ_4 D3 ⟨⟨ap2,fr3⟩,sp1,h6⟩
  refine wlL [D3,ob v1] (smg [2,1] rfl (by simpa [List.append_assoc,bl] using sp1))<|art 7 [] rfl ?_
  exact lb [0,0] [] (ih1 (_,_,_,_) ⟨h,h6⟩)
 refine att 6 [] rfl ?_
 exact rtg [1,0] hF (ay.one rfl) rfl (by cases h; exact fun w1 hw=>⟨v1,D2,rfl,rfl,k1⟩)
theorem Br (w0:af Ψ Φ []) (p0:ag) (ph0_0:RSl bJ 3 Ψ pG0_0 pv0_0 p0.Pats) (ph0_1:RSl bd 11 Ψ pG0_1 pv0_1 p0.Conds) (ph0_2:RSl dF 5 Ψ pG0_2 pv0_2 p0.Acts) {r:ag} (h:o9 N p0=some r) :
  Calls prog 68 [.agg [.string p0.Name,iV p0.Sal,pv0_0,pv0_1,pv0_2].toArray].toArray w0.w (aQ Φ w0.w [] (fun Φ' Fs v=>∃ (sr_0_0:Value) (Dr_0_0:List Nat) (sr_0_1:Value) (sr_0_2:Value) (Dr_0_2:List Nat),v = .agg [.string r.Name,iV r.Sal,sr_0_0,sr_0_1,sr_0_2].toArray∧Fs=[ob sr_0_0,Dr_0_0,ob sr_0_1,ob sr_0_2,Dr_0_2]∧OSl fu 212 3 Φ' Dr_0_0 sr_0_0 r.Pats∧OSl bd 226 11 Φ' [] sr_0_1 r.Conds∧OSl gA 229 5 Φ' Dr_0_2 sr_0_2 r.Acts)):=by
 refine eN func68 rfl ntmps68 rfl w0 fun hF=>?_
 unfold o9 at h
 refine sr<|lbx rfl fun b_1=>lnz xC rfl fun b_2=>en<|sr<|lnz xC rfl fun b_3=>arr 6 [0,64,0] rfl<|so1 0 nA rfl rfl ?_
 refine arr 6 [1,64,1] rfl<|so1 0 j5 rfl rfl ?_
 refine arr 5 [2,64] rfl<|kab h rfl rfl rfl (fun b z q=>Cq N b p0.Pats (ph0_0.y z) q) ?_
 rintro x1 h v1 Φ_1 F1 ⟨ap1,fr1,v2,D1,rfl,rfl,h1⟩
 refine lf uU rfl rfl rfl<|so1 0 My rfl h1.one ?_
 refine arr 5 [3,64] rfl<|kab h rfl rfl rfl (fun b z q=>z8 N b p0.Conds (ph0_1.y z) q) ?_
 rintro x2 h v3 Φ_2 F2 ⟨ap2,fr2,v4,rfl,rfl,h2⟩
 replace h1:=h1.fr fr2 (ap2.q 0 rfl) (ap2.q 1 rfl)
 refine lf CT rfl rfl rfl<|so1 0 M5 rfl h2.one ?_
 refine arr 5 [4,64] rfl<|kab h rfl rfl rfl (fun b z q=>BG N b p0.Acts (ph0_2.y z) q) ?_
 rintro x3 h v5 Φ_3 F3 ⟨ap3,fr3,v6,D2,rfl,rfl,h3⟩
 replace h1:=h1.fr fr3 (ap3.q 1 rfl) (ap3.q 2 rfl)
 replace h2:=h2.fr fr3 (ap3.q 0 rfl) dN
 refine lf CY rfl rfl rfl<|so1 0 N7 rfl h3.one ?_
 refine arr 4 [5] rfl<|soN 1 Ad rfl ⟨rfl,rfl,h1.one,h2.one,h3.one,trivial⟩ rfl ?_
 refine en ?_
 exact rtg [3,3,2,0,0] hF (ay.one (bB pn rfl (fun w1 hw=>hw.rgO (i:=1) rfl 0 5 [.string p0.Name,iV p0.Sal,v1,v3,v5] rfl) rfl)) rfl (by cases h; exact fun w1 hw=>⟨v1,D1,v3,v5,D2,rfl,rfl,h1,h2,h3⟩)
theorem AV (w0:af Ψ Φ []) (p0:(List ag)) (ph0:RSl cf 5 Ψ pG0 pv0 p0) {r:(List ag)} (h:ph N p0=some r) :
  Calls prog 32 [pv0].toArray w0.w (aQ Φ w0.w [] (fun Φ' Fs v=>∃ (sr_0_0:Value) (Dr_0_0:List Nat),v=sr_0_0∧Fs=[ob sr_0_0,Dr_0_0]∧OSl bN 148 5 Φ' Dr_0_0 sr_0_0 r)):=by
 refine eN func32 rfl ntmps32 rfl w0 fun hF=>?_
 unfold ph at h
 refine atr 7 [] rfl<|lnr ph0 rfl ?_
 obtain ⟨x1,hx1,h⟩:=bs h
 refine le' (kM (R:=bN) CR xC Ns rfl rfl rfl (fun _=>⟨.slice none 0 0,[],.slice none 0 0,.slice none 0 0,[],rfl,rfl,OSl.nil _ _ _ _,OSl.nil _ _ _ _,OSl.nil _ _ _ _⟩) rfl rfl (Int.le_refl _) hx1 (pL hx1)) rfl ?_
 rintro v1 Φ_1 D1 ⟨fr1,h1⟩
 refine wl0<|art 8 [] rfl ?_
 refine lin (σ:=Hp × (List ag) × List Nat × Int) (fun s=>[(0,pv0),(3,v1),(4,iV s.2.2.2)]) (fun s=>St w0 s.1 [] [s.2.2.1,ob v1]) (fun m s=>jX N p0 m s.2.1 s.2.2.2=some r∧(OSl bN 148 5 s.1 s.2.2.1 v1 s.2.1)) (Φ_1,x1,[],0) N ⟨h,h1⟩ (sx [0,0] []) (fun n1 ih1 s hm=>?_)
 obtain ⟨Φ_2,s1,D2,s2⟩:=s
 obtain ⟨h,k1⟩:=hm
 dsimp only at h k1 ⊢
 unfold jX at h
 refine atr 5 [] rfl<|lnr ph0 rfl<|la rfl<|en ?_
 refine ch h rfl ?_ ?_ <;> intro h
 ·refine atr 8 [] rfl ?_
  obtain ⟨x2,hx2,h⟩:=bs h
  obtain ⟨cs1,F1,-,g1,hb1,hs1,r1⟩:=ph0.el (a7 hx2).2.2
  obtain ⟨v2,G1,v3,G2,v4,G3,rfl,rfl,h2,h3,h4⟩:=r1
  refine lia ph0 hx2 rfl<|lhx 0 5 g1 rfl<|kab h rfl rfl rfl (fun b z q=>Br N b x2 (h2.y z) (h3.y z) (h4.y z) q) ?_
  rintro x3 h v5 Φ_3 F2 ⟨ap1,fr2,v6,D3,v7,v8,D4,rfl,rfl,h5,h6,h7⟩
  replace k1:=k1.fr fr2 (ap1.q 1 rfl) (ap1.q 0 rfl)
  obtain ⟨x4,hx4,h⟩:=bs h
  obtain ⟨cs2,F3,-,g2,hb2,hs2,r2⟩:=k1.elS (a7 hx4).2.2
  obtain ⟨v9,D5,v10,v11,D6,rfl,rfl,h8,h9,h10⟩:=r2
  have h11:=h8.rslG fu.gives
  have h12:=h9.rsl
  have h13:=h10.rslG gA.gives
  refine lio k1 hx4 rfl ?_
  have r3:bN Φ_3 ((ob v6++D3)++((ob v7++[])++((ob v8++D4)))) [.string x3.Name,iV x3.Sal,v6,v7,v8] x3:=⟨v6,D3,v7,v8,D4,rfl,rfl,h5,h6,h7⟩
  refine lu (sM (js:=[6]) (Rr:=[ob v6,D3,ob v7,ob v8,D4,D2]) (vs:=[.string x3.Name,iV x3.Sal,v6,v7,v8]) (x':=x3) bN.lasts Ad rfl rfl rfl rfl ⟨rfl,rfl,h5.one,h6.one,h7.one,trivial⟩ rfl k1 (hP hx4) r3 (bN.knows _ _ _ _ r3) (fun ap=>ap.q 5 rfl) (fun ap=>by simpa [bl] using (Dj.app (ap.q 0 rfl) (Dj.app (ap.q 1 rfl) (Dj.app (ap.q 2 rfl) (Dj.app (ap.q 3 rfl) (ap.q 4 rfl))))))) rfl ?_
  rintro Φ_4 D7 ⟨⟨ap2,fr3⟩,sp1,h14⟩
  refine wlL [D7,ob v1] (smg [6,1,1,1,1,1] rfl (by simpa [List.append_assoc,bl] using sp1))<|art 7 [] rfl ?_
  exact lb [0,0] [] (ih1 (_,_,_,_) ⟨h,h14⟩)
 refine att 6 [] rfl ?_
 exact rtg [1,0] hF (ay.one rfl) rfl (by cases h; exact fun w1 hw=>⟨v1,D2,rfl,rfl,k1⟩)
theorem kt (w0:af Ψ Φ []) (p0:bo) (ph0_0:RSl cf 5 Ψ pG0_0 pv0_0 p0.Rules) {r:bo} (h:lO N p0=some r) :
  Calls prog 9 [.agg [.string p0.Name,pv0_0].toArray].toArray w0.w (aQ Φ w0.w [] (fun Φ' Fs v=>∃ (sr_0_0:Value) (Dr_0_0:List Nat),v = .agg [.string r.Name,sr_0_0].toArray∧Fs=[ob sr_0_0,Dr_0_0]∧OSl bN 148 5 Φ' Dr_0_0 sr_0_0 r.Rules)):=by
 refine eN func9 rfl ntmps9 rfl w0 fun hF=>?_
 unfold lO at h
 refine sr<|lbx rfl fun b_1=>lnz Jd rfl fun b_2=>en<|sr<|lnz Jd rfl fun b_3=>arr 6 [0,64,0] rfl<|so1 0 nA rfl rfl ?_
 refine arr 5 [1,64] rfl<|kab h rfl rfl rfl (fun b z q=>AV N b p0.Rules (ph0_0.y z) q) ?_
 rintro x1 h v1 Φ_1 F1 ⟨ap1,fr1,v2,D1,rfl,rfl,h1⟩
 refine lf J7 rfl rfl rfl<|so1 0 Ox rfl h1.one ?_
 refine arr 4 [2] rfl<|soN 1 KZ rfl ⟨rfl,h1.one,trivial⟩ rfl ?_
 refine en ?_
 exact rtg [0,0] hF (ay.one (bB La rfl (fun w1 hw=>hw.rgO (i:=1) rfl 0 2 [.string p0.Name,v1] rfl) rfl)) rfl (by cases h; exact fun w1 hw=>⟨v1,D1,rfl,rfl,h1⟩)
theorem vz (w0:af Ψ Φ []) (p0:(List aL)) (ph0:RSl az 3 Ψ pG0 pv0 p0) {r:(List aL)} (h:nZ N p0=some r) :
  Calls prog 119 [pv0].toArray w0.w (aQ Φ w0.w [] (fun Φ' Fs v=>∃ (sr_0_0:Value),v=sr_0_0∧Fs=[ob sr_0_0]∧OSl az 193 3 Φ' [] sr_0_0 r)):=by
 refine eN func119 rfl ntmps119 rfl w0 fun hF=>?_
 unfold nZ at h
 refine atr 7 [] rfl<|lnr ph0 rfl ?_
 obtain ⟨x1,hx1,h⟩:=bs h
 refine le' (kM (R:=az) ep jI Lo rfl rfl rfl (fun _=>⟨rfl,rfl⟩) rfl rfl (Int.le_refl _) hx1 (pL hx1)) rfl ?_
 rintro v1 Φ_1 D1 ⟨fr1,h1⟩
 refine art 8 [] rfl ?_
 refine lin (σ:=Hp × (List aL) × Int) (fun s=>[(0,pv0),(3,v1),(4,iV s.2.2)]) (fun s=>St w0 s.1 [] [ob v1]) (fun m s=>kT N p0 m s.2.1 s.2.2=some r∧(OSl az 193 3 s.1 [] v1 s.2.1)) (Φ_1,x1,0) N ⟨h,h1⟩ (sx [0] []) (fun n1 ih1 s hm=>?_)
 obtain ⟨Φ_2,s1,s2⟩:=s
 obtain ⟨h,k1⟩:=hm
 dsimp only at h k1 ⊢
 unfold kT at h
 refine atr 5 [] rfl<|lnr ph0 rfl<|la rfl<|en ?_
 refine ch h rfl ?_ ?_ <;> intro h
 ·refine atr 8 [] rfl ?_
  obtain ⟨x2,hx2,h⟩:=bs h
  obtain ⟨cs1,F1,-,g1,hb1,hs1,r1⟩:=ph0.el (a7 hx2).2.2
  obtain ⟨rfl,-⟩:=r1
  refine lia ph0 hx2 rfl<|lhx 0 3 g1 rfl<|qc h (wT N · x2 ·) rfl rfl rfl fun x3 h=>?_
  obtain ⟨x4,hx4,h⟩:=bs h
  obtain ⟨cs2,F2,-,g2,hb2,hs2,r2⟩:=k1.elS (a7 hx4).2.2
  obtain ⟨rfl,-⟩:=r2
  refine lio k1 hx4 rfl<|lu (tS (js:=[0]) (Rr:=[]) (vs:=[iV x3.K,iV x3.N,.string x3.S]) (x':=x3) az.lasts az.flat rR rfl rfl rfl rfl ⟨rfl,rfl,rfl,trivial⟩ rfl k1 (hP hx4) ⟨rfl,rfl⟩) rfl ?_
  rintro Φ_3 D2 ⟨⟨ap1,fr2⟩,h2⟩
  refine art 7 [] rfl ?_
  exact lb [0] [] (ih1 (_,_,_) ⟨h,h2⟩)
 refine att 6 [] rfl ?_
 exact rtg [0] hF (ay.one rfl) rfl (by cases h; exact fun w1 hw=>⟨v1,rfl,rfl,k1⟩)
theorem jE (w0:af Ψ Φ []) (p0:(List Int)) (ph0:RSl (RI .i64) 1 Ψ pG0 pv0 p0) {r:(List Int)} (h:ia N p0=some r) :
  Calls prog 120 [pv0].toArray w0.w (aQ Φ w0.w [] (fun Φ' Fs v=>∃ (sr_0_0:Value),v=sr_0_0∧Fs=[ob sr_0_0]∧OSl (RI .i64) 3 1 Φ' [] sr_0_0 r)):=by
 refine eN func120 rfl ntmps120 rfl w0 fun hF=>?_
 unfold ia at h
 refine atr 7 [] rfl<|lnr ph0 rfl ?_
 obtain ⟨x1,hx1,h⟩:=bs h
 refine le' (kM (R:=(RI .i64)) aR o7 NP rfl rfl rfl (fun _=>⟨rfl,rfl⟩) rfl rfl (Int.le_refl _) hx1 (pL hx1)) rfl ?_
 rintro v1 Φ_1 D1 ⟨fr1,h1⟩
 refine art 8 [] rfl ?_
 refine lin (σ:=Hp × (List Int) × Int) (fun s=>[(0,pv0),(3,v1),(4,iV s.2.2)]) (fun s=>St w0 s.1 [] [ob v1]) (fun m s=>l6 N p0 m s.2.1 s.2.2=some r∧(OSl (RI .i64) 3 1 s.1 [] v1 s.2.1)) (Φ_1,x1,0) N ⟨h,h1⟩ (sx [0] []) (fun n1 ih1 s hm=>?_)
 obtain ⟨Φ_2,s1,s2⟩:=s
 obtain ⟨h,k1⟩:=hm
 dsimp only at h k1 ⊢
 unfold l6 at h
 refine atr 5 [] rfl<|lnr ph0 rfl<|la rfl<|en ?_
 refine ch h rfl ?_ ?_ <;> intro h
 ·refine atr 8 [] rfl ?_
  obtain ⟨x2,hx2,h⟩:=bs h
  obtain ⟨cs1,F1,-,g1,hb1,hs1,r1⟩:=ph0.el (a7 hx2).2.2
  obtain ⟨rfl,-⟩:=r1
  refine lia ph0 hx2 rfl<|lhx 0 0 g1 rfl ?_
  obtain ⟨x3,hx3,h⟩:=bs h
  obtain ⟨cs2,F2,-,g2,hb2,hs2,r2⟩:=k1.elS (a7 hx3).2.2
  obtain ⟨rfl,-⟩:=r2
  refine lio k1 hx3 rfl<|lu (tS (js:=[0]) (Rr:=[]) (vs:=[iV x2]) (x':=x2) RI.lasts RI.flat j5 rfl rfl rfl rfl ⟨rfl,trivial⟩ rfl k1 (hP hx3) ⟨rfl,rfl⟩) rfl ?_
  rintro Φ_3 D2 ⟨⟨ap1,fr2⟩,h2⟩
  refine art 7 [] rfl ?_
  exact lb [0] [] (ih1 (_,_,_) ⟨h,h2⟩)
 refine att 6 [] rfl ?_
 exact rtg [0] hF (ay.one rfl) rfl (by cases h; exact fun w1 hw=>⟨v1,rfl,rfl,k1⟩)
theorem A5 (w0:af Ψ Φ []) (p0:a9) (ph0_0:RSl az 3 Ψ pG0_0 pv0_0 p0.Consts) (ph0_1:RSl (RI .i64) 1 Ψ pG0_1 pv0_1 p0.At) {r:a9} (h:m6 N p0=some r) :
  Calls prog 69 [.agg [.string p0.Kind,iV p0.N,pv0_0,pv0_1].toArray].toArray w0.w (aQ Φ w0.w [] (fun Φ' Fs v=>∃ (sr_0_0:Value) (sr_0_1:Value),v = .agg [.string r.Kind,iV r.N,sr_0_0,sr_0_1].toArray∧Fs=[ob sr_0_0,ob sr_0_1]∧OSl az 193 3 Φ' [] sr_0_0 r.Consts∧OSl (RI .i64) 3 1 Φ' [] sr_0_1 r.At)):=by
 refine eN func69 rfl ntmps69 rfl w0 fun hF=>?_
 unfold m6 at h
 refine sr<|lbx rfl fun b_1=>lnz kP rfl fun b_2=>en<|sr<|lnz kP rfl fun b_3=>arr 6 [0,64,0] rfl<|so1 0 nA rfl rfl ?_
 refine arr 6 [1,64,1] rfl<|so1 0 j5 rfl rfl ?_
 refine arr 5 [2,64] rfl<|kab h rfl rfl rfl (fun b z q=>vz N b p0.Consts (ph0_0.y z) q) ?_
 rintro x1 h v1 Φ_1 F1 ⟨ap1,fr1,v2,rfl,rfl,h1⟩
 refine lf xl rfl rfl rfl<|so1 0 AG rfl h1.one ?_
 refine arr 5 [3,64] rfl<|kab h rfl rfl rfl (fun b z q=>jE N b p0.At (ph0_1.y z) q) ?_
 rintro x2 h v3 Φ_2 F2 ⟨ap2,fr2,v4,rfl,rfl,h2⟩
 replace h1:=h1.fr fr2 (ap2.q 0 rfl) dN
 refine lf uY rfl rfl rfl<|so1 0 kO rfl h2.one ?_
 refine arr 4 [4] rfl<|soN 1 qP rfl ⟨rfl,rfl,h1.one,h2.one,trivial⟩ rfl ?_
 refine en ?_
 exact rtg [1,0] hF (ay.one (bB pr rfl (fun w1 hw=>hw.rgO (i:=1) rfl 0 4 [.string p0.Kind,iV p0.N,v1,v3] rfl) rfl)) rfl (by cases h; exact fun w1 hw=>⟨v1,v3,rfl,rfl,h1,h2⟩)
theorem yn (w0:af Ψ Φ []) (p0:(List a9)) (ph0:RSl bf 4 Ψ pG0 pv0 p0) {r:(List a9)} (h:mO N p0=some r) :
  Calls prog 33 [pv0].toArray w0.w (aQ Φ w0.w [] (fun Φ' Fs v=>∃ (sr_0_0:Value) (Dr_0_0:List Nat),v=sr_0_0∧Fs=[ob sr_0_0,Dr_0_0]∧OSl aU 142 4 Φ' Dr_0_0 sr_0_0 r)):=by
 refine eN func33 rfl ntmps33 rfl w0 fun hF=>?_
 unfold mO at h
 refine atr 7 [] rfl<|lnr ph0 rfl ?_
 obtain ⟨x1,hx1,h⟩:=bs h
 refine le' (kM (R:=aU) uE kP N8 rfl rfl rfl (fun _=>⟨.slice none 0 0,.slice none 0 0,rfl,rfl,OSl.nil _ _ _ _,OSl.nil _ _ _ _⟩) rfl rfl (Int.le_refl _) hx1 (pL hx1)) rfl ?_
 rintro v1 Φ_1 D1 ⟨fr1,h1⟩
 refine wl0<|art 8 [] rfl ?_
 refine lin (σ:=Hp × (List a9) × List Nat × Int) (fun s=>[(0,pv0),(3,v1),(4,iV s.2.2.2)]) (fun s=>St w0 s.1 [] [s.2.2.1,ob v1]) (fun m s=>j0 N p0 m s.2.1 s.2.2.2=some r∧(OSl aU 142 4 s.1 s.2.2.1 v1 s.2.1)) (Φ_1,x1,[],0) N ⟨h,h1⟩ (sx [0,0] []) (fun n1 ih1 s hm=>?_)
 obtain ⟨Φ_2,s1,D2,s2⟩:=s
 obtain ⟨h,k1⟩:=hm
 dsimp only at h k1 ⊢
 unfold j0 at h
 refine atr 5 [] rfl<|lnr ph0 rfl<|la rfl<|en ?_
 refine ch h rfl ?_ ?_ <;> intro h
 ·refine atr 8 [] rfl ?_
  obtain ⟨x2,hx2,h⟩:=bs h
  obtain ⟨cs1,F1,-,g1,hb1,hs1,r1⟩:=ph0.el (a7 hx2).2.2
  obtain ⟨v2,G1,v3,G2,rfl,rfl,h2,h3⟩:=r1
  refine lia ph0 hx2 rfl<|lhx 0 4 g1 rfl<|kab h rfl rfl rfl (fun b z q=>A5 N b x2 (h2.y z) (h3.y z) q) ?_
  rintro x3 h v4 Φ_3 F2 ⟨ap1,fr2,v5,v6,rfl,rfl,h4,h5⟩
  replace k1:=k1.fr fr2 (ap1.q 1 rfl) (ap1.q 0 rfl)
  obtain ⟨x4,hx4,h⟩:=bs h
  obtain ⟨cs2,F3,-,g2,hb2,hs2,r2⟩:=k1.elS (a7 hx4).2.2
  obtain ⟨v7,v8,rfl,rfl,h6,h7⟩:=r2
  have h8:=h6.rsl
  have h9:=h7.rsl
  refine lio k1 hx4 rfl ?_
  have r3:aU Φ_3 ((ob v5++[])++((ob v6++[]))) [.string x3.Kind,iV x3.N,v5,v6] x3:=⟨v5,v6,rfl,rfl,h4,h5⟩
  refine lu (sM (js:=[3]) (Rr:=[ob v5,ob v6,D2]) (vs:=[.string x3.Kind,iV x3.N,v5,v6]) (x':=x3) aU.lasts qP rfl rfl rfl rfl ⟨rfl,rfl,h4.one,h5.one,trivial⟩ rfl k1 (hP hx4) r3 (aU.knows _ _ _ _ r3) (fun ap=>ap.q 2 rfl) (fun ap=>by simpa [bl] using (Dj.app (ap.q 0 rfl) (ap.q 1 rfl)))) rfl ?_
  rintro Φ_4 D3 ⟨⟨ap2,fr3⟩,sp1,h10⟩
  refine wlL [D3,ob v1] (smg [3,1,1] rfl (by simpa [List.append_assoc,bl] using sp1))<|art 7 [] rfl ?_
  exact lb [0,0] [] (ih1 (_,_,_,_) ⟨h,h10⟩)
 refine att 6 [] rfl ?_
 exact rtg [1,0] hF (ay.one rfl) rfl (by cases h; exact fun w1 hw=>⟨v1,D2,rfl,rfl,k1⟩)
theorem zn (w0:af Ψ Φ []) (p0:ae) (ph0_0:RSl (RI .i64) 1 Ψ pG0_0 pv0_0 p0.Pos) (ph0_1:RSl (RI .i64) 1 Ψ pG0_1 pv0_1 p0.Neg) {r:ae} (h:mb N p0=some r) :
  Calls prog 70 [.agg [pv0_0,pv0_1].toArray].toArray w0.w (aQ Φ w0.w [] (fun Φ' Fs v=>∃ (sr_0_0:Value) (sr_0_1:Value),v = .agg [sr_0_0,sr_0_1].toArray∧Fs=[ob sr_0_0,ob sr_0_1]∧OSl (RI .i64) 3 1 Φ' [] sr_0_0 r.Pos∧OSl (RI .i64) 3 1 Φ' [] sr_0_1 r.Neg)):=by
 refine eN func70 rfl ntmps70 rfl w0 fun hF=>?_
 unfold mb at h
 refine sr<|lbx rfl fun b_1=>lnz qG rfl fun b_2=>en<|sr<|lnz qG rfl fun b_3=>arr 5 [0,64] rfl<|kab h rfl rfl rfl (fun b z q=>jE N b p0.Pos (ph0_0.y z) q) ?_
 rintro x1 h v1 Φ_1 F1 ⟨ap1,fr1,v2,rfl,rfl,h1⟩
 refine lf nQ rfl rfl rfl<|so1 0 kO rfl h1.one ?_
 refine arr 5 [1,64] rfl<|kab h rfl rfl rfl (fun b z q=>jE N b p0.Neg (ph0_1.y z) q) ?_
 rintro x2 h v3 Φ_2 F2 ⟨ap2,fr2,v4,rfl,rfl,h2⟩
 replace h1:=h1.fr fr2 (ap2.q 0 rfl) dN
 refine lf nL rfl rfl rfl<|so1 0 kO rfl h2.one ?_
 refine arr 4 [2] rfl<|soN 1 xw rfl ⟨h1.one,h2.one,trivial⟩ rfl ?_
 refine en ?_
 exact rtg [1,0] hF (ay.one (bB AF rfl (fun w1 hw=>hw.rgO (i:=1) rfl 0 2 [v1,v3] rfl) rfl)) rfl (by cases h; exact fun w1 hw=>⟨v1,v3,rfl,rfl,h1,h2⟩)
theorem yp (w0:af Ψ Φ []) (p0:(List ae)) (ph0:RSl bz 2 Ψ pG0 pv0 p0) {r:(List ae)} (h:mB N p0=some r) :
  Calls prog 34 [pv0].toArray w0.w (aQ Φ w0.w [] (fun Φ' Fs v=>∃ (sr_0_0:Value) (Dr_0_0:List Nat),v=sr_0_0∧Fs=[ob sr_0_0,Dr_0_0]∧OSl aJ 149 2 Φ' Dr_0_0 sr_0_0 r)):=by
 refine eN func34 rfl ntmps34 rfl w0 fun hF=>?_
 unfold mB at h
 refine atr 7 [] rfl<|lnr ph0 rfl ?_
 obtain ⟨x1,hx1,h⟩:=bs h
 refine le' (kM (R:=aJ) th qG LJ rfl rfl rfl (fun _=>⟨.slice none 0 0,.slice none 0 0,rfl,rfl,OSl.nil _ _ _ _,OSl.nil _ _ _ _⟩) rfl rfl (Int.le_refl _) hx1 (pL hx1)) rfl ?_
 rintro v1 Φ_1 D1 ⟨fr1,h1⟩
 refine wl0<|art 8 [] rfl ?_
 refine lin (σ:=Hp × (List ae) × List Nat × Int) (fun s=>[(0,pv0),(3,v1),(4,iV s.2.2.2)]) (fun s=>St w0 s.1 [] [s.2.2.1,ob v1]) (fun m s=>j4 N p0 m s.2.1 s.2.2.2=some r∧(OSl aJ 149 2 s.1 s.2.2.1 v1 s.2.1)) (Φ_1,x1,[],0) N ⟨h,h1⟩ (sx [0,0] []) (fun n1 ih1 s hm=>?_)
 obtain ⟨Φ_2,s1,D2,s2⟩:=s
 obtain ⟨h,k1⟩:=hm
 dsimp only at h k1 ⊢
 unfold j4 at h
 refine atr 5 [] rfl<|lnr ph0 rfl<|la rfl<|en ?_
 refine ch h rfl ?_ ?_ <;> intro h
 ·refine atr 8 [] rfl ?_
  obtain ⟨x2,hx2,h⟩:=bs h
  obtain ⟨cs1,F1,-,g1,hb1,hs1,r1⟩:=ph0.el (a7 hx2).2.2
  obtain ⟨v2,G1,v3,G2,rfl,rfl,h2,h3⟩:=r1
  refine lia ph0 hx2 rfl<|lhx 0 2 g1 rfl<|kab h rfl rfl rfl (fun b z q=>zn N b x2 (h2.y z) (h3.y z) q) ?_
  rintro x3 h v4 Φ_3 F2 ⟨ap1,fr2,v5,v6,rfl,rfl,h4,h5⟩
  replace k1:=k1.fr fr2 (ap1.q 1 rfl) (ap1.q 0 rfl)
  obtain ⟨x4,hx4,h⟩:=bs h
  obtain ⟨cs2,F3,-,g2,hb2,hs2,r2⟩:=k1.elS (a7 hx4).2.2
  obtain ⟨v7,v8,rfl,rfl,h6,h7⟩:=r2
  have h8:=h6.rsl
  have h9:=h7.rsl
  refine lio k1 hx4 rfl ?_
  have r3:aJ Φ_3 ((ob v5++[])++((ob v6++[]))) [v5,v6] x3:=⟨v5,v6,rfl,rfl,h4,h5⟩
  refine lu (sM (js:=[3]) (Rr:=[ob v5,ob v6,D2]) (vs:=[v5,v6]) (x':=x3) aJ.lasts xw rfl rfl rfl rfl ⟨h4.one,h5.one,trivial⟩ rfl k1 (hP hx4) r3 (aJ.knows _ _ _ _ r3) (fun ap=>ap.q 2 rfl) (fun ap=>by simpa [bl] using (Dj.app (ap.q 0 rfl) (ap.q 1 rfl)))) rfl ?_
  rintro Φ_4 D3 ⟨⟨ap2,fr3⟩,sp1,h10⟩
  refine wlL [D3,ob v1] (smg [3,1,1] rfl (by simpa [List.append_assoc,bl] using sp1))<|art 7 [] rfl ?_
  exact lb [0,0] [] (ih1 (_,_,_,_) ⟨h,h10⟩)
 refine att 6 [] rfl ?_
 exact rtg [1,0] hF (ay.one rfl) rfl (by cases h; exact fun w1 hw=>⟨v1,D2,rfl,rfl,k1⟩)
theorem gY (w0:af Ψ Φ []) (p0:bc) (ph0_0:RSl bf 4 Ψ pG0_0 pv0_0 p0.Alphas) (ph0_1:RSl bz 2 Ψ pG0_1 pv0_1 p0.Chains) {r:bc} (h:lU N p0=some r) :
  Calls prog 10 [.agg [pv0_0,pv0_1].toArray].toArray w0.w (aQ Φ w0.w [] (fun Φ' Fs v=>∃ (sr_0_0:Value) (Dr_0_0:List Nat) (sr_0_1:Value) (Dr_0_1:List Nat),v = .agg [sr_0_0,sr_0_1].toArray∧Fs=[ob sr_0_0,Dr_0_0,ob sr_0_1,Dr_0_1]∧OSl aU 142 4 Φ' Dr_0_0 sr_0_0 r.Alphas∧OSl aJ 149 2 Φ' Dr_0_1 sr_0_1 r.Chains)):=by
 refine eN func10 rfl ntmps10 rfl w0 fun hF=>?_
 unfold lU at h
 refine sr<|lbx rfl fun b_1=>lnz w5 rfl fun b_2=>en<|sr<|lnz w5 rfl fun b_3=>arr 5 [0,64] rfl<|kab h rfl rfl rfl (fun b z q=>yn N b p0.Alphas (ph0_0.y z) q) ?_
 rintro x1 h v1 Φ_1 F1 ⟨ap1,fr1,v2,D1,rfl,rfl,h1⟩
 refine lf oZ rfl rfl rfl<|so1 0 JA rfl h1.one ?_
 refine arr 5 [1,64] rfl<|kab h rfl rfl rfl (fun b z q=>yp N b p0.Chains (ph0_1.y z) q) ?_
 rintro x2 h v3 Φ_2 F2 ⟨ap2,fr2,v4,D2,rfl,rfl,h2⟩
 replace h1:=h1.fr fr2 (ap2.q 0 rfl) (ap2.q 1 rfl)
 refine lf Aj rfl rfl rfl<|so1 0 Iq0 rfl h2.one ?_
 refine arr 4 [2] rfl<|soN 1 Du rfl ⟨h1.one,h2.one,trivial⟩ rfl ?_
 refine en ?_
 exact rtg [2,2,0,0] hF (ay.one (bB Hw rfl (fun w1 hw=>hw.rgO (i:=1) rfl 0 2 [v1,v3] rfl) rfl)) rfl (by cases h; exact fun w1 hw=>⟨v1,D1,v3,D2,rfl,rfl,h1,h2⟩)
theorem DH (w0:af Ψ Φ []) (p0:aS) (ph0_0:RSl (RI .i64) 1 Ψ pG0_0 pv0_0 p0.L) {r:aS} (h:qi N p0=some r) :
  Calls prog 71 [.agg [pv0_0].toArray].toArray w0.w (aQ Φ w0.w [] (fun Φ' Fs v=>∃ (sr_0_0:Value),v = .agg [sr_0_0].toArray∧Fs=[ob sr_0_0]∧OSl (RI .i64) 3 1 Φ' [] sr_0_0 r.L)):=by
 refine eN func71 rfl ntmps71 rfl w0 fun hF=>?_
 unfold qi at h
 refine sr ?_
 refine ln (si (C:=#[pv0_0]) rfl rfl) rfl (fun b_1=>?_)
 refine ln (ig (C:=#[.slice none 0 0]) uN rfl) rfl (fun b_2=>?_)
 refine en<|sr ?_
 refine ln (ig (C:=#[.slice none 0 0]) uN rfl) rfl (fun b_3=>?_)
 refine arr 5 [0,64] rfl<|kab h rfl rfl rfl (fun b z q=>jE N b p0.L (ph0_0.y z) q) ?_
 rintro x1 h v1 Φ_1 F1 ⟨ap1,fr1,v2,rfl,rfl,h1⟩
 refine lf mr rfl rfl rfl<|so1 0 kO rfl h1.one ?_
 refine en<|sr<|lq (ao EW rfl (fun w1 hw=>hw.rgO (i:=0) rfl 0 1 [v1] rfl) rfl) rfl<|soN 1 GY rfl ⟨h1.one,trivial⟩ rfl ?_
 refine en ?_
 exact rtg [0] hF (ay.one (bB EW rfl (fun w1 hw=>hw.rgO (i:=1) rfl 0 1 [v1] rfl) rfl)) rfl (by cases h; exact fun w1 hw=>⟨v1,rfl,rfl,h1⟩)
end Go.Proofs.YtnnkgijdbebnaaaGreat
