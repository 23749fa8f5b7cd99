/- Printed by a program of ours: each Go function computes its Lean function. -/
import Derived.Test.YtedmfnmbjglmbaaGreatProg
import Derived.Test.YtedmfnmbjglmbaaGreatWBuiltUpWalk8
import Derived.Test.YtedmfnmbjglmbaaGreatEV
namespace Go.Proofs.YtedmfnmbjglmbaaGreat
open Eng Tryz
open Go.RowKit (Below)
set_option linter.unusedVariables false
set_option linter.unusedSimpArgs false

set_option maxRecDepth 100000
set_option maxHeartbeats 8000000
variable {Ψ Φ:Hp} {pv0 pv0_0 pv0_1 pv1_0 pv1_1 pv2_0 pv0_2 pv2:Value} {pD0 pG0_0 pG0_1 pG1_0 pG1_1 pG2_0 pG0_2 pG2 pG0:List Nat} (N:Nat)
theorem gW (N:Nat):∀ {Ψ Φ:Hp} {pv0:Value} {pD0:List Nat} {p4f:Nat} {p4fr:List Value} (w0:av Ψ Φ [ob pv0,pD0].flatten) (p0:(List aa)) (p1:Int) (p2:Int) (p3:Int) (p4:aa→aa→Option (Int)) (ph0:OSl aF 63 3 Φ pD0 pv0 p0) (p4hF:Fun prog p4f=true) (p4h:∀ {Φ':Hp} {w':World},FrH [ob pv0,pD0].flatten Φ Φ'→In Φ' w'→∀ (p4a0:aa) (p4a1:aa) {p4v0_0:Value} {p4G0_0:List Nat} {p4v0_1:Value} {p4G0_1:List Nat} {p4v1_0:Value} {p4G1_0:List Nat} {p4v1_1:Value} {p4G1_1:List Nat} (_:RSl (RI .i64) 1 Φ' p4G0_0 p4v0_0 p4a0.Ids) (_:RSl aZ 4 Φ' p4G0_1 p4v0_1 p4a0.Binds) (_:RSl (RI .i64) 1 Φ' p4G1_0 p4v1_0 p4a1.Ids) (_:RSl aZ 4 Φ' p4G1_1 p4v1_1 p4a1.Binds) {r:Int},p4 p4a0 p4a1=some r→Calls prog p4f (([.agg [iV p4a0.Rule,p4v0_0,p4v0_1].toArray,.agg [iV p4a1.Rule,p4v1_0,p4v1_1].toArray]:List Value)++p4fr).toArray w' (lh (iV r) w')) {r:(List aa)} (h:ao N p0 p1 p2 p3 p4=some r),
  Calls prog 188 [pv0,iV p1,iV p2,iV p3,.func (.func p4f) #[] p4fr.toArray].toArray w0.w (be Φ w0.w [ob pv0,pD0].flatten (fun Φ' Fs v=>∃ (Do_0_0:List Nat),v = .tuple #[]∧Fs=[ob pv0,Do_0_0]∧OSl aF 63 3 Φ' Do_0_0 pv0 r)):=by
 induction N with
 | zero=>intros; rename_i h; simp [ao] at h
 | succ N ih=>
 intro Ψ Φ pv0 pD0 p4f p4fr w0 p0 p1 p2 p3 p4 ph0 p4hF p4h r h
 refine eL func188 rfl ntmps188 rfl (L:=[ob pv0,pD0]) w0 (fun hF=>?_)
 unfold ao at h
 refine att 8 [] rfl ?_
 refine ch h rfl ?_ ?_ <;> intro h
 ·refine att 12 [] rfl ?_
  refine lin (σ:=Int × Int) (fun s=>[(0,pv0),(1,iV p1),(4,.func (.func p4f) #[] p4fr.toArray),(10,iV s.1),(11,iV s.2)]) (fun s=>St w0 Φ [] [ob pv0,pD0]) (fun m s=>aW N p0 p1 p4 m s.1 s.2=some r) (p2,p3) N h (sx [0,0] []) (fun n1 ih1 s hm=>?_)
  obtain ⟨s1,s2⟩:=s
  have h:aW N p0 p1 p4 (n1+1) s1 s2=some r:=hm
  show WT _ _ [(0,pv0),(1,iV p1),(4,.func (.func p4f) #[] p4fr.toArray),(10,iV s1),(11,iV s2)] (St w0 Φ [] [ob pv0,pD0])
  unfold aW at h
  refine att 7 [] rfl ?_
  refine ch h rfl ?_ ?_ <;> intro h
  ·refine atr 7 [] rfl<|lq (iY tg rD rfl) rfl<|lq (yp rfl rfl (by decide)) rfl<|lq (iY rD tg rfl) rfl<|art 3 [] rfl<|WT.draw mixed (by kernel_rfl) (fun _ h=>h.drew)<|aqq 3 [] rfl ?_
   obtain ⟨x1,hx1,h⟩:=bs h
   obtain ⟨cs1,F1,-,g1,hb1,hs1,r1⟩:=ph0.elS (ab hx1).2.2
   obtain ⟨v1,v2,rfl,rfl,h1,h2⟩:=r1
   have h3:=h1.rsl
   have h4:=h2.rsl
   refine qq (aw gp rfl rfl ph0.rsl hx1) rfl<|qq (aG j6 rfl (fun w1 hw=>(g1.of_eq 0 3 rfl rfl:rg _ _ _ [iV x1.Rule,v1,v2]).rangeAt hw.fro) rfl) rfl<|aqq 2 [] rfl ?_
   obtain ⟨x2,hx2,h⟩:=bs h
   obtain ⟨cs2,F2,-,g2,hb2,hs2,r2⟩:=ph0.elS (ab hx2).2.2
   obtain ⟨v3,v4,rfl,rfl,h5,h6⟩:=r2
   have h7:=h5.rsl
   have h8:=h6.rsl
   refine qq (aw gp rfl rfl ph0.rsl hx2) rfl<|qq (aG j6 rfl (fun w1 hw=>(g2.of_eq 0 3 rfl rfl:rg _ _ _ [iV x2.Rule,v3,v4]).rangeAt hw.fro) rfl) rfl ?_
   obtain ⟨x3,hx3,h⟩:=bs h
   refine qp (m6 p4hF rfl rfl (fun w1 hw=>p4h hw.frB hw.fro x1 x2 h3 h4 h7 h8 hx3)) rfl<|aqt 2 [] rfl ?_
   refine ch h rfl ?_ ?_ <;> intro h
   ·refine att 6 [] rfl ?_
    exact lb [0,0] [] (ih1 (_,_) h)
   refine att 5 [] rfl ?_
   exact lb [0,0] [] (ih1 (_,_) h)
  refine att 8 [] rfl ?_
  refine lin (σ:=Hp × (List aa) × List Nat × Int) (fun s=>[(0,pv0),(10,iV s1),(13,iV s.2.2.2)]) (fun s=>St w0 s.1 [] [ob pv0,s.2.2.1]) (fun m s=>bN N s1 m s.2.1 s.2.2.2=some r∧(OSl aF 63 3 s.1 s.2.2.1 pv0 s.2.1)) (Φ,p0,pD0,p1) N ⟨h,ph0⟩ (sx [0,0] []) (fun n2 ih2 s hm=>?_)
  obtain ⟨Φ_1,s3,D1,s4⟩:=s
  obtain ⟨h,k1⟩:=hm
  dsimp only at h k1 ⊢
  unfold bN at h
  refine att 8 [] rfl ?_
  refine ch h rfl ?_ ?_ <;> intro h
  ·refine att 3 [] rfl<|WT.mix (fun _=>True) (fun _=>true) mixed (fun _ h=>h.drew)<|ma 0 rfl (by kernel_rfl) (fun _ _=>trivial) rfl<|ma 1 rfl (by kernel_rfl) (fun _ _=>trivial) rfl<|ma 2 rfl (by kernel_rfl) (fun _ _=>trivial) rfl<|ma 3 rfl (by kernel_rfl) (fun _ _=>trivial) rfl<|ma 4 rfl (by kernel_rfl) (fun _ _=>trivial) rfl<|ma 5 rfl (by kernel_rfl) (fun _ _=>trivial) rfl<|ma 6 rfl (by kernel_rfl) (fun _ _=>trivial) rfl<|ma 7 rfl (by kernel_rfl) (fun _ _=>trivial) rfl ?_
   obtain ⟨x4,hx4,h⟩:=bs h
   obtain ⟨cs3,F3,-,g3,hb3,hs3,r3⟩:=k1.elS (ab hx4).2.2
   obtain ⟨v5,v6,rfl,rfl,h9,h10⟩:=r3
   have h11:=h9.rsl
   have h12:=h10.rsl
   refine mq 8 rfl (by kernel_rfl) (fun _ _=>trivial) (aw gp rfl rfl k1.rsl hx4) rfl<|ma 10 rfl (by kernel_rfl) (fun _ _=>trivial) rfl<|ma 11 rfl (by kernel_rfl) (fun _ _=>trivial) rfl ?_
   obtain ⟨x5,hx5,h⟩:=bs h
   obtain ⟨cs4,F4,-,g4,hb4,hs4,r4⟩:=k1.elS (ab hx5).2.2
   obtain ⟨v7,v8,rfl,rfl,h13,h14⟩:=r4
   have h15:=h13.rsl
   have h16:=h14.rsl
   refine mq 12 rfl (by kernel_rfl) (fun _ _=>trivial) (aw gp rfl rfl k1.rsl hx5) rfl ?_
   refine WM.qq2 9 13 rfl rfl (aG j6 rfl (fun w1 hw=>(g3.of_eq 0 3 rfl rfl:rg _ _ _ [iV x4.Rule,v5,v6]).rangeAt hw.fro) rfl) (aG j6 rfl (fun w1 hw=>(g4.of_eq 0 3 rfl rfl:rg _ _ _ [iV x5.Rule,v7,v8]).rangeAt hw.fro) rfl) (aG j6 rfl (fun w1 hw=>(g4.of_eq 0 3 rfl rfl:rg _ _ _ [iV x5.Rule,v7,v8]).rangeAt hw.fro) rfl) (aG j6 rfl (fun w1 hw=>(g3.of_eq 0 3 rfl rfl:rg _ _ _ [iV x4.Rule,v5,v6]).rangeAt hw.fro) rfl) rfl rfl (fun _ _=>trivial) rfl rfl (by kernel_rfl) (by kernel_rfl) (by kernel_rfl) ?_
   obtain ⟨x6,hx6,h⟩:=bs h
   obtain ⟨cs5,F5,-,g5,hb5,hs5,r5⟩:=k1.elS (ab hx6).2.2
   obtain ⟨v9,v10,rfl,rfl,h17,h18⟩:=r5
   have h19:=h17.rsl
   have h20:=h18.rsl
   refine mq 14 rfl (by kernel_rfl) (fun _ _=>trivial) (aw gp rfl rfl k1.rsl hx6) rfl ?_
   refine WM.one 15 (by kernel_rfl) (mu rfl (fun _ _ _ _ _ _=>trivial) (Cz (js:=[0]) (Rr:=[D1]) (vs:=[iV x4.Rule,v5,v6]) aF.lasts qQ rfl rfl rfl rfl ⟨rfl,h11.one,h12.one,trivial⟩ rfl k1 (ab hx5).2.2 (ab hx4).2.2 g4 rfl g3 (fun ap=>ap.q 0 rfl)) rfl ?_)
   rintro Φ_2 D2 ⟨⟨ap1,fr1⟩,h21⟩
   replace h15:=h15.fr fr1 (Dj.sub (ap1.q 0 rfl) (fun k h=>hs4 k (List.mem_append.2 (.inl h))))
   replace h16:=h16.fr fr1 (Dj.sub (ap1.q 0 rfl) (fun k h=>hs4 k (List.mem_append.2 (.inr h))))
   obtain ⟨x7,hx7,h⟩:=bs h
   refine mq 16 rfl (by kernel_rfl) (fun _ _=>trivial) (ni gp rfl rfl h21 hx7 (by simp)) rfl ?_
   refine WM.one 17 (by kernel_rfl) (mu rfl (fun _ _ _ _ _ _=>trivial) (Cy (js:=[0]) (Rr:=[D1]) aF.lasts qQ rfl rfl rfl ⟨rfl,h15.one,h16.one,trivial⟩ rfl h21 (ab hx5).2.2 (ab hx4).2.2 (fun ap=>ap.q 0 rfl)) rfl ?_)
   rintro Φ_3 D3 ⟨⟨ap2,fr2⟩,sp1,h22⟩
   refine WM.conv (S':=St w0 Φ_3 [] [D3,ob pv0]) (fun w1 hw=>hw.merge (js:=[1]) rfl (by simpa [List.append_assoc,fu] using sp1))<|WM.nil (by kernel_rfl)<|att 6 [] rfl ?_
   exact lb [1,0] [] (ih2 (_,_,_,_) ⟨h,h22⟩)
  refine xt rfl ?_
  exact rtg [0,0] hF ay.none rfl (by cases h; exact fun w1 hw=>⟨D1,rfl,rfl,k1⟩)
 refine att 9 [] rfl ?_
 refine ch h rfl ?_ ?_ <;> intro h
 ·refine att 12 [] rfl ?_
  refine lin (σ:=Int × Int) (fun s=>[(0,pv0),(2,iV p2),(4,.func (.func p4f) #[] p4fr.toArray),(14,iV s.1),(15,iV s.2)]) (fun s=>St w0 Φ [] [ob pv0,pD0]) (fun m s=>aX N p0 p2 p4 m s.1 s.2=some r) (p1,p2) N h (sx [0,0] []) (fun n3 ih3 s hm=>?_)
  obtain ⟨s5,s6⟩:=s
  have h:aX N p0 p2 p4 (n3+1) s5 s6=some r:=hm
  show WT _ _ [(0,pv0),(2,iV p2),(4,.func (.func p4f) #[] p4fr.toArray),(14,iV s5),(15,iV s6)] (St w0 Φ [] [ob pv0,pD0])
  unfold aX at h
  refine att 7 [] rfl ?_
  refine ch h rfl ?_ ?_ <;> intro h
  ·refine atr 7 [] rfl<|lq (iY tg rD rfl) rfl<|lq (yp rfl rfl (by decide)) rfl<|lq (iY rD tg rfl) rfl<|art 3 [] rfl<|WT.draw mixed (by kernel_rfl) (fun _ h=>h.drew)<|aqq 3 [] rfl ?_
   obtain ⟨x8,hx8,h⟩:=bs h
   obtain ⟨cs6,F6,-,g6,hb6,hs6,r6⟩:=ph0.elS (ab hx8).2.2
   obtain ⟨v11,v12,rfl,rfl,h23,h24⟩:=r6
   have h25:=h23.rsl
   have h26:=h24.rsl
   refine qq (aw gp rfl rfl ph0.rsl hx8) rfl<|qq (aG j6 rfl (fun w1 hw=>(g6.of_eq 0 3 rfl rfl:rg _ _ _ [iV x8.Rule,v11,v12]).rangeAt hw.fro) rfl) rfl<|aqq 2 [] rfl ?_
   obtain ⟨x9,hx9,h⟩:=bs h
   obtain ⟨cs7,F7,-,g7,hb7,hs7,r7⟩:=ph0.elS (ab hx9).2.2
   obtain ⟨v13,v14,rfl,rfl,h27,h28⟩:=r7
   have h29:=h27.rsl
   have h30:=h28.rsl
   refine qq (aw gp rfl rfl ph0.rsl hx9) rfl<|qq (aG j6 rfl (fun w1 hw=>(g7.of_eq 0 3 rfl rfl:rg _ _ _ [iV x9.Rule,v13,v14]).rangeAt hw.fro) rfl) rfl ?_
   obtain ⟨x10,hx10,h⟩:=bs h
   refine qp (m6 p4hF rfl rfl (fun w1 hw=>p4h hw.frB hw.fro x8 x9 h25 h26 h29 h30 hx10)) rfl<|aqt 3 [] rfl ?_
   refine ch h rfl ?_ ?_ <;> intro h
   ·refine att 6 [] rfl ?_
    exact lb [0,0] [] (ih3 (_,_) h)
   refine att 5 [] rfl ?_
   exact lb [0,0] [] (ih3 (_,_) h)
  refine att 8 [] rfl ?_
  refine lin (σ:=Hp × (List aa) × List Nat × Int) (fun s=>[(0,pv0),(14,iV s5),(17,iV s.2.2.2)]) (fun s=>St w0 s.1 [] [ob pv0,s.2.2.1]) (fun m s=>bM N s5 m s.2.1 s.2.2.2=some r∧(OSl aF 63 3 s.1 s.2.2.1 pv0 s.2.1)) (Φ,p0,pD0,p2) N ⟨h,ph0⟩ (sx [0,0] []) (fun n4 ih4 s hm=>?_)
  obtain ⟨Φ_4,s7,D4,s8⟩:=s
  obtain ⟨h,k2⟩:=hm
  dsimp only at h k2 ⊢
  unfold bM at h
  refine att 7 [] rfl ?_
  refine ch h rfl ?_ ?_ <;> intro h
  ·refine att 3 [] rfl<|WT.mix (fun _=>True) (fun _=>true) mixed (fun _ h=>h.drew)<|ma 0 rfl (by kernel_rfl) (fun _ _=>trivial) rfl<|ma 1 rfl (by kernel_rfl) (fun _ _=>trivial) rfl<|ma 2 rfl (by kernel_rfl) (fun _ _=>trivial) rfl<|ma 3 rfl (by kernel_rfl) (fun _ _=>trivial) rfl<|ma 4 rfl (by kernel_rfl) (fun _ _=>trivial) rfl<|ma 5 rfl (by kernel_rfl) (fun _ _=>trivial) rfl<|ma 6 rfl (by kernel_rfl) (fun _ _=>trivial) rfl<|ma 7 rfl (by kernel_rfl) (fun _ _=>trivial) rfl ?_
   obtain ⟨x11,hx11,h⟩:=bs h
   obtain ⟨cs8,F8,-,g8,hb8,hs8,r8⟩:=k2.elS (ab hx11).2.2
   obtain ⟨v15,v16,rfl,rfl,h31,h32⟩:=r8
   have h33:=h31.rsl
   have h34:=h32.rsl
   refine mq 8 rfl (by kernel_rfl) (fun _ _=>trivial) (aw gp rfl rfl k2.rsl hx11) rfl<|ma 10 rfl (by kernel_rfl) (fun _ _=>trivial) rfl<|ma 11 rfl (by kernel_rfl) (fun _ _=>trivial) rfl ?_
   obtain ⟨x12,hx12,h⟩:=bs h
   obtain ⟨cs9,F9,-,g9,hb9,hs9,r9⟩:=k2.elS (ab hx12).2.2
   obtain ⟨v17,v18,rfl,rfl,h35,h36⟩:=r9
   have h37:=h35.rsl
   have h38:=h36.rsl
   refine mq 12 rfl (by kernel_rfl) (fun _ _=>trivial) (aw gp rfl rfl k2.rsl hx12) rfl ?_
   refine WM.qq2 9 13 rfl rfl (aG j6 rfl (fun w1 hw=>(g8.of_eq 0 3 rfl rfl:rg _ _ _ [iV x11.Rule,v15,v16]).rangeAt hw.fro) rfl) (aG j6 rfl (fun w1 hw=>(g9.of_eq 0 3 rfl rfl:rg _ _ _ [iV x12.Rule,v17,v18]).rangeAt hw.fro) rfl) (aG j6 rfl (fun w1 hw=>(g9.of_eq 0 3 rfl rfl:rg _ _ _ [iV x12.Rule,v17,v18]).rangeAt hw.fro) rfl) (aG j6 rfl (fun w1 hw=>(g8.of_eq 0 3 rfl rfl:rg _ _ _ [iV x11.Rule,v15,v16]).rangeAt hw.fro) rfl) rfl rfl (fun _ _=>trivial) rfl rfl (by kernel_rfl) (by kernel_rfl) (by kernel_rfl) ?_
   obtain ⟨x13,hx13,h⟩:=bs h
   obtain ⟨cs10,F10,-,g10,hb10,hs10,r10⟩:=k2.elS (ab hx13).2.2
   obtain ⟨v19,v20,rfl,rfl,h39,h40⟩:=r10
   have h41:=h39.rsl
   have h42:=h40.rsl
   refine mq 14 rfl (by kernel_rfl) (fun _ _=>trivial) (aw gp rfl rfl k2.rsl hx13) rfl ?_
   refine WM.one 15 (by kernel_rfl) (mu rfl (fun _ _ _ _ _ _=>trivial) (Cz (js:=[0]) (Rr:=[D4]) (vs:=[iV x11.Rule,v15,v16]) aF.lasts qQ rfl rfl rfl rfl ⟨rfl,h33.one,h34.one,trivial⟩ rfl k2 (ab hx12).2.2 (ab hx11).2.2 g9 rfl g8 (fun ap=>ap.q 0 rfl)) rfl ?_)
   rintro Φ_5 D5 ⟨⟨ap3,fr3⟩,h43⟩
   replace h37:=h37.fr fr3 (Dj.sub (ap3.q 0 rfl) (fun k h=>hs9 k (List.mem_append.2 (.inl h))))
   replace h38:=h38.fr fr3 (Dj.sub (ap3.q 0 rfl) (fun k h=>hs9 k (List.mem_append.2 (.inr h))))
   obtain ⟨x14,hx14,h⟩:=bs h
   refine mq 16 rfl (by kernel_rfl) (fun _ _=>trivial) (ni gp rfl rfl h43 hx14 (by simp)) rfl ?_
   refine WM.one 17 (by kernel_rfl) (mu rfl (fun _ _ _ _ _ _=>trivial) (Cy (js:=[0]) (Rr:=[D4]) aF.lasts qQ rfl rfl rfl ⟨rfl,h37.one,h38.one,trivial⟩ rfl h43 (ab hx12).2.2 (ab hx11).2.2 (fun ap=>ap.q 0 rfl)) rfl ?_)
   rintro Φ_6 D6 ⟨⟨ap4,fr4⟩,sp2,h44⟩
   refine WM.conv (S':=St w0 Φ_6 [] [D6,ob pv0]) (fun w1 hw=>hw.merge (js:=[1]) rfl (by simpa [List.append_assoc,fu] using sp2))<|WM.nil (by kernel_rfl)<|att 6 [] rfl ?_
   exact lb [1,0] [] (ih4 (_,_,_,_) ⟨h,h44⟩)
  refine xt rfl ?_
  exact rtg [0,0] hF ay.none rfl (by cases h; exact fun w1 hw=>⟨D4,rfl,rfl,k2⟩)
 refine atr 6 [] rfl<|lq (iY tg rD rfl) rfl<|lq (yp rfl rfl (by decide)) rfl<|lq (iY rD tg rfl) rfl<|art 21 [] rfl ?_
 refine cut (σ:=Int × Int) (fun s=>[(0,pv0),(1,iV p1),(2,iV p2),(3,iV p3),(4,.func (.func p4f) #[] p4fr.toArray),(18,iV (wz (em .u64 (IntKind.u64.wrap (wz (p1+p3))) 1))),(19,iV (wz ((wz (em .u64 (IntKind.u64.wrap (wz (p1+p3))) 1))+p2))),(20,iV s.1),(21,iV s.2)]) (fun s=>St w0 Φ [] [ob pv0,pD0]) (fun s=>br N p0 p1 p2 p3 p4 (ao N) s.1 s.2=some r) (fun s hm=>?_) (fun K=>?_)
 ·clear h
  obtain ⟨s9,s10⟩:=s
  have h:br N p0 p1 p2 p3 p4 (ao N) s9 s10=some r:=hm
  show WT _ _ [(0,pv0),(1,iV p1),(2,iV p2),(3,iV p3),(4,.func (.func p4f) #[] p4fr.toArray),(18,iV (wz (em .u64 (IntKind.u64.wrap (wz (p1+p3))) 1))),(19,iV (wz ((wz (em .u64 (IntKind.u64.wrap (wz (p1+p3))) 1))+p2))),(20,iV s9),(21,iV s10)] (St w0 Φ [] [ob pv0,pD0])
  unfold br at h
  refine att 8 [] rfl ?_
  refine lin (σ:=Int × Int) (fun s=>[(0,pv0),(1,iV p1),(2,iV p2),(3,iV p3),(4,.func (.func p4f) #[] p4fr.toArray),(18,iV (wz (em .u64 (IntKind.u64.wrap (wz (p1+p3))) 1))),(19,iV (wz ((wz (em .u64 (IntKind.u64.wrap (wz (p1+p3))) 1))+p2))),(20,iV s.1),(21,iV s.2),(22,iV (wz ((wz ((wz (em .u64 (IntKind.u64.wrap (wz (p1+p3))) 1))+p2)) - 1)))]) (fun s=>St w0 Φ [] [ob pv0,pD0]) (fun m s=>aY N p0 p1 p2 p3 p4 (ao N) m s.1 s.2=some r) (s9,s10) N h (sx [0,0] []) (fun n6 ih6 s hm=>?_)
  obtain ⟨s11,s12⟩:=s
  have h:aY N p0 p1 p2 p3 p4 (ao N) (n6+1) s11 s12=some r:=hm
  show WT _ _ [(0,pv0),(1,iV p1),(2,iV p2),(3,iV p3),(4,.func (.func p4f) #[] p4fr.toArray),(18,iV (wz (em .u64 (IntKind.u64.wrap (wz (p1+p3))) 1))),(19,iV (wz ((wz (em .u64 (IntKind.u64.wrap (wz (p1+p3))) 1))+p2))),(20,iV s11),(21,iV s12),(22,iV (wz ((wz ((wz (em .u64 (IntKind.u64.wrap (wz (p1+p3))) 1))+p2)) - 1)))] (St w0 Φ [] [ob pv0,pD0])
  unfold aY at h
  refine att 7 [] rfl ?_
  refine ch h rfl ?_ ?_ <;> intro h
  ·refine atr 7 [] rfl<|lq (iY tg rD rfl) rfl<|lq (yp rfl rfl (by decide)) rfl<|lq (iY rD tg rfl) rfl<|art 3 [] rfl<|WT.draw mixed (by kernel_rfl) (fun _ h=>h.drew)<|aqq 5 [] rfl ?_
   obtain ⟨x15,hx15,h⟩:=bs h
   obtain ⟨cs11,F11,-,g11,hb11,hs11,r11⟩:=ph0.elS (ab hx15).2.2
   obtain ⟨v21,v22,rfl,rfl,h45,h46⟩:=r11
   have h47:=h45.rsl
   have h48:=h46.rsl
   refine qq (aw gp rfl rfl ph0.rsl hx15) rfl<|qq (aG j6 rfl (fun w1 hw=>(g11.of_eq 0 3 rfl rfl:rg _ _ _ [iV x15.Rule,v21,v22]).rangeAt hw.fro) rfl) rfl<|aqq 2 [] rfl ?_
   obtain ⟨x16,hx16,h⟩:=bs h
   obtain ⟨cs12,F12,-,g12,hb12,hs12,r12⟩:=ph0.elS (ab hx16).2.2
   obtain ⟨v23,v24,rfl,rfl,h49,h50⟩:=r12
   have h51:=h49.rsl
   have h52:=h50.rsl
   refine qq (aw gp rfl rfl ph0.rsl hx16) rfl<|qq (aG j6 rfl (fun w1 hw=>(g12.of_eq 0 3 rfl rfl:rg _ _ _ [iV x16.Rule,v23,v24]).rangeAt hw.fro) rfl) rfl ?_
   obtain ⟨x17,hx17,h⟩:=bs h
   refine qp (m6 p4hF rfl rfl (fun w1 hw=>p4h hw.frB hw.fro x15 x16 h47 h48 h51 h52 hx17)) rfl<|aqt 3 [] rfl ?_
   refine ch h rfl ?_ ?_ <;> intro h
   ·refine att 6 [] rfl ?_
    exact lb [0,0] [] (ih6 (_,_) h)
   refine att 5 [] rfl ?_
   exact lb [0,0] [] (ih6 (_,_) h)
  refine atr 15 [] rfl ?_
  obtain ⟨b1,hb_1,h⟩:=bs h
  refine WL.cutN 4 [(185,.bool b1),(0,pv0),(1,iV p1),(2,iV p2),(3,iV p3),(4,.func (.func p4f) #[] p4fr.toArray),(18,iV (wz (em .u64 (IntKind.u64.wrap (wz (p1+p3))) 1))),(20,iV s11),(24,iV (wz ((wz ((wz (em .u64 (IntKind.u64.wrap (wz (p1+p3))) 1))+p2)) - s11)))] ?_ (fun K=>?_)
  rotate_left
  ·refine sp 181 hb_1 rfl (fun hb_1=>?_) fun hb_1=>?_
   ·refine arr 4 [] rfl ?_
    cases hb_1
    exact ku K
   ·refine arr 4 [] rfl ?_
    cases hb_1
    exact ku K
  refine en ?_
  refine cut (σ:=Hp × (List aa) × List Nat) (fun s=>[(0,pv0),(1,iV p1),(3,iV p3),(4,.func (.func p4f) #[] p4fr.toArray),(18,iV (wz (em .u64 (IntKind.u64.wrap (wz (p1+p3))) 1))),(20,iV s11),(24,iV (wz ((wz ((wz (em .u64 (IntKind.u64.wrap (wz (p1+p3))) 1))+p2)) - s11)))]) (fun s=>St w0 s.1 [] [ob pv0,s.2.2]) (fun s=>bK N p1 p2 p3 p4 (ao N) s11 s.2.1=some r∧(OSl aF 63 3 s.1 s.2.2 pv0 s.2.1)) (fun s hm=>?_) (fun K=>?_)
  ·clear h
   obtain ⟨Φ_7,s13,D7⟩:=s
   obtain ⟨h,k3⟩:=hm
   dsimp only at h k3 ⊢
   unfold bK at h
   refine atr 7 [] rfl ?_
   obtain ⟨b2,hb_2,h⟩:=bs h
   refine WL.cutN 4 [(199,.bool b2),(0,pv0),(1,iV p1),(3,iV p3),(4,.func (.func p4f) #[] p4fr.toArray),(18,iV (wz (em .u64 (IntKind.u64.wrap (wz (p1+p3))) 1))),(20,iV s11),(24,iV (wz ((wz ((wz (em .u64 (IntKind.u64.wrap (wz (p1+p3))) 1))+p2)) - s11)))] ?_ (fun K=>?_)
   rotate_left
   ·refine sp 195 hb_2 rfl (fun hb_2=>?_) fun hb_2=>?_
    ·refine arr 4 [] rfl ?_
     cases hb_2
     exact ku K
    ·refine arr 4 [] rfl ?_
     cases hb_2
     exact ku K
   refine en ?_
   refine cut (σ:=Hp × (List aa) × List Nat) (fun s=>[(0,pv0),(3,iV p3),(4,.func (.func p4f) #[] p4fr.toArray),(18,iV (wz (em .u64 (IntKind.u64.wrap (wz (p1+p3))) 1))),(24,iV (wz ((wz ((wz (em .u64 (IntKind.u64.wrap (wz (p1+p3))) 1))+p2)) - s11)))]) (fun s=>St w0 s.1 [] [ob pv0,s.2.2]) (fun s=>bL N p1 p2 p3 p4 (ao N) s11 s.2.1=some r∧(OSl aF 63 3 s.1 s.2.2 pv0 s.2.1)) (fun s hm=>?_) (fun K=>?_)
   ·clear h
    obtain ⟨Φ_8,s14,D8⟩:=s
    obtain ⟨h,k4⟩:=hm
    dsimp only at h k4 ⊢
    unfold bL at h
    refine atr 6 [] rfl ?_
    obtain ⟨b3,hb_3,h⟩:=bs h
    refine WL.cutN 4 [(213,.bool b3),(0,pv0),(3,iV p3),(4,.func (.func p4f) #[] p4fr.toArray),(18,iV (wz (em .u64 (IntKind.u64.wrap (wz (p1+p3))) 1))),(24,iV (wz ((wz ((wz (em .u64 (IntKind.u64.wrap (wz (p1+p3))) 1))+p2)) - s11)))] ?_ (fun K=>?_)
    rotate_left
    ·refine sp 209 hb_3 rfl (fun hb_3=>?_) fun hb_3=>?_
     ·refine arr 4 [] rfl ?_
      cases hb_3
      exact ku K
     ·refine arr 4 [] rfl ?_
      cases hb_3
      exact ku K
    refine en ?_
    refine ch h rfl ?_ ?_ <;> intro h
    ·refine atr 6 [] rfl ?_
     obtain ⟨x18,hx18,h⟩:=bs h
     refine lc (bo (js:=[0,0]) (R:=[]) vL rfl rfl (fun w1 hw ap hl=>ih (bx hw ap hl) s14 (wz (em .u64 (IntKind.u64.wrap (wz (p1+p3))) 1)) (wz ((wz ((wz (em .u64 (IntKind.u64.wrap (wz (p1+p3))) 1))+p2)) - s11)) p3 p4 k4 p4hF (fun hle'=>p4h (hw.frX ap hle'))  hx18)) rfl ?_
     rintro v25 Φ_9 F13 ⟨ap5,fr5,D9,rfl,rfl,h53⟩
     refine en ?_
     refine WT.fin hF ay.none (fun w1 hw=>?_)
     cases h
     refine aI (js:=[0,0]) hw rfl ⟨D9,rfl,rfl,h53⟩
    refine WT.skip ?_
    refine WT.fin hF ay.none (fun w1 hw=>?_)
    cases h
    refine aI (js:=[0,0]) hw rfl ⟨D8,rfl,rfl,k4⟩
   refine ch h rfl ?_ ?_ <;> intro h
   ·refine atr 6 [] rfl ?_
    obtain ⟨x19,hx19,h⟩:=bs h
    refine lc (bo (js:=[0,0]) (R:=[]) vL rfl rfl (fun w1 hw ap hl=>ih (bx hw ap hl) s13 p1 s11 (wz (em .u64 (IntKind.u64.wrap (wz (p1+p3))) 1)) p4 k3 p4hF (fun hle'=>p4h (hw.frX ap hle'))  hx19)) rfl ?_
    rintro v26 Φ_10 F14 ⟨ap6,fr6,D10,rfl,rfl,h54⟩
    refine en ?_
    exact wo [0,0] [] (K (_,_,_) ⟨h,h54⟩)
   refine WT.skip ?_
   exact wo [0,0] [] (K (_,_,_) ⟨h,k3⟩)
  refine ch h rfl ?_ ?_ <;> intro h
  ·refine atr 6 [] rfl ?_
   obtain ⟨x20,hx20,h⟩:=bs h
   refine lc (bo (js:=[0,0]) (R:=[]) HF rfl rfl (fun w1 hw ap hl=>mg N (bx hw ap hl) p0 s11 p2 (wz ((wz ((wz (em .u64 (IntKind.u64.wrap (wz (p1+p3))) 1))+p2)) - s11)) p4 ph0 p4hF (fun hle'=>p4h (hw.frX ap hle'))  hx20)) rfl ?_
   rintro v27 Φ_11 F15 ⟨ap7,fr7,D11,rfl,rfl,h55⟩
   refine en ?_
   exact wo [0,0] [] (K (_,_,_) ⟨h,h55⟩)
  refine WT.skip ?_
  exact wo [0,0] [] (K (_,_,_) ⟨h,ph0⟩)
 refine ch h rfl ?_ ?_ <;> intro h
 ·refine att 11 [] rfl ?_
  exact wo [0,0] [] (K (_,_) h)
 refine att 9 [] rfl ?_
 exact wo [0,0] [] (K (_,_) h)
theorem mr {p2f:Nat} {p2fr:List Value} (w0:av Ψ Φ [ob pv0,pD0].flatten) (p0:(List aa)) (p1:Int) (p2:aa→aa→Option (Int)) (ph0:OSl aF 63 3 Φ pD0 pv0 p0) (p2hF:Fun prog p2f=true) (p2h:∀ {Φ':Hp} {w':World},FrH [ob pv0,pD0].flatten Φ Φ'→In Φ' w'→∀ (p2a0:aa) (p2a1:aa) {p2v0_0:Value} {p2G0_0:List Nat} {p2v0_1:Value} {p2G0_1:List Nat} {p2v1_0:Value} {p2G1_0:List Nat} {p2v1_1:Value} {p2G1_1:List Nat} (_:RSl (RI .i64) 1 Φ' p2G0_0 p2v0_0 p2a0.Ids) (_:RSl aZ 4 Φ' p2G0_1 p2v0_1 p2a0.Binds) (_:RSl (RI .i64) 1 Φ' p2G1_0 p2v1_0 p2a1.Ids) (_:RSl aZ 4 Φ' p2G1_1 p2v1_1 p2a1.Binds) {r:Int},p2 p2a0 p2a1=some r→Calls prog p2f (([.agg [iV p2a0.Rule,p2v0_0,p2v0_1].toArray,.agg [iV p2a1.Rule,p2v1_0,p2v1_1].toArray]:List Value)++p2fr).toArray w' (lh (iV r) w')) {r:(List aa)} (h:dZ N p0 p1 p2=some r) :
  Calls prog 118 [pv0,iV p1,.func (.func p2f) #[] p2fr.toArray].toArray w0.w (be Φ w0.w [ob pv0,pD0].flatten (fun Φ' Fs v=>∃ (Do_0_0:List Nat),v = .tuple #[]∧Fs=[ob pv0,Do_0_0]∧OSl aF 63 3 Φ' Do_0_0 pv0 r)):=by
 refine eL func118 rfl ntmps118 rfl (L:=[ob pv0,pD0]) w0 (fun hF=>?_)
 unfold dZ at h
 refine att 12 [] rfl ?_
 refine lin (σ:=Hp × (List aa) × List Nat × Int × Int) (fun s=>[(0,pv0),(1,iV p1),(2,.func (.func p2f) #[] p2fr.toArray),(6,iV 20),(7,iV s.2.2.2.1),(8,iV s.2.2.2.2)]) (fun s=>St w0 s.1 [] [ob pv0,s.2.2.1]) (fun m s=>bE N p1 p2 m s.2.1 s.2.2.2.1 s.2.2.2.2=some r∧(OSl aF 63 3 s.1 s.2.2.1 pv0 s.2.1)) (Φ,p0,pD0,0,20) N ⟨h,ph0⟩ (sx [0,0] []) (fun n1 ih1 s hm=>?_)
 obtain ⟨Φ_1,s1,D1,s2,s3⟩:=s
 obtain ⟨h,k1⟩:=hm
 dsimp only at h k1 ⊢
 unfold bE at h
 refine att 7 [] rfl ?_
 refine ch h rfl ?_ ?_ <;> intro h
 ·refine atr 8 [] rfl ?_
  obtain ⟨x1,hx1,h⟩:=bs h
  refine lc (bo (js:=[0,0]) (R:=[]) CM rfl rfl (fun w1 hw ap hl=>fk N (bx hw ap hl) s1 s2 s3 p2 k1 p2hF (fun hle'=>p2h (hw.frX ap hle'))  hx1)) rfl ?_
  rintro v1 Φ_2 F1 ⟨ap1,fr1,D2,rfl,rfl,h1⟩
  refine art 13 [] rfl ?_
  exact lb [0,0] [] (ih1 (_,_,_,_,_) ⟨h,h1⟩)
 refine atr 7 [] rfl ?_
 obtain ⟨x2,hx2,h⟩:=bs h
 refine lc (bo (js:=[0,0]) (R:=[]) CM rfl rfl (fun w1 hw ap hl=>fk N (bx hw ap hl) s1 s2 p1 p2 k1 p2hF (fun hle'=>p2h (hw.frX ap hle'))  hx2)) rfl ?_
 rintro v2 Φ_3 F2 ⟨ap2,fr2,D3,rfl,rfl,h2⟩
 refine en<|blk ?_
 refine lin (σ:=Hp × (List aa) × List Nat × Int) (fun s=>[(0,pv0),(1,iV p1),(2,.func (.func p2f) #[] p2fr.toArray),(6,iV s.2.2.2)]) (fun s=>St w0 s.1 [] [ob pv0,s.2.2.1]) (fun m s=>aS N p1 p2 m s.2.1 s.2.2.2=some r∧(OSl aF 63 3 s.1 s.2.2.1 pv0 s.2.1)) (Φ_3,x2,D3,20) N ⟨h,h2⟩ (sx [0,0] []) (fun n2 ih2 s hm=>?_)
 obtain ⟨Φ_4,s4,D4,s5⟩:=s
 obtain ⟨h,k2⟩:=hm
 dsimp only at h k2 ⊢
 unfold aS at h
 refine att 7 [] rfl ?_
 refine ch h rfl ?_ ?_ <;> intro h
 ·refine att 11 [] rfl ?_
  refine lin (σ:=Hp × (List aa) × List Nat × Int × Int) (fun s=>[(0,pv0),(1,iV p1),(2,.func (.func p2f) #[] p2fr.toArray),(6,iV s5),(7,iV s.2.2.2.1),(8,iV s.2.2.2.2)]) (fun s=>St w0 s.1 [] [ob pv0,s.2.2.1]) (fun m s=>bW N p1 p2 s5 (aS N p1 p2 n2) m s.2.1 s.2.2.2.1 s.2.2.2.2=some r∧(OSl aF 63 3 s.1 s.2.2.1 pv0 s.2.1)) (Φ_4,s4,D4,0,wz (2*s5)) N ⟨h,k2⟩ (sx [0,0] []) (fun n3 ih3 s hm=>?_)
  obtain ⟨Φ_5,s6,D5,s7,s8⟩:=s
  obtain ⟨h,k3⟩:=hm
  dsimp only at h k3 ⊢
  unfold bW at h
  refine att 7 [] rfl ?_
  refine ch h rfl ?_ ?_ <;> intro h
  ·refine atr 11 [] rfl ?_
   obtain ⟨x3,hx3,h⟩:=bs h
   refine lc (bo (js:=[0,0]) (R:=[]) vL rfl rfl (fun w1 hw ap hl=>gW N (bx hw ap hl) s6 s7 (wz (s7+s5)) s8 p2 k3 p2hF (fun hle'=>p2h (hw.frX ap hle'))  hx3)) rfl ?_
   rintro v3 Φ_6 F3 ⟨ap3,fr3,D6,rfl,rfl,h3⟩
   refine art 14 [] rfl ?_
   exact lb [0,0] [] (ih3 (_,_,_,_,_) ⟨h,h3⟩)
  refine att 15 [] rfl ?_
  refine ch h rfl ?_ ?_ <;> intro h
  ·refine atr 6 [] rfl ?_
   obtain ⟨x4,hx4,h⟩:=bs h
   refine lc (bo (js:=[0,0]) (R:=[]) vL rfl rfl (fun w1 hw ap hl=>gW N (bx hw ap hl) s6 s7 (wz (s7+s5)) p1 p2 k3 p2hF (fun hle'=>p2h (hw.frX ap hle'))  hx4)) rfl ?_
   rintro v4 Φ_7 F4 ⟨ap4,fr4,D7,rfl,rfl,h4⟩
   refine art 7 [] rfl ?_
   exact lb [0,0] [] (ih2 (_,_,_,_) ⟨h,h4⟩)
  refine att 7 [] rfl ?_
  exact lb [0,0] [] (ih2 (_,_,_,_) ⟨h,k3⟩)
 refine xt rfl ?_
 refine WT.fin hF ay.none (fun w1 hw=>?_)
 cases h
 refine aI (js:=[0,0]) hw rfl ⟨D4,rfl,rfl,k2⟩
theorem j9 {p1f:Nat} {p1fr:List Value} (w0:av Ψ Φ [ob pv0,pD0].flatten) (p0:(List aa)) (p1:aa→aa→Option (Int)) (ph0:OSl aF 63 3 Φ pD0 pv0 p0) (p1hF:Fun prog p1f=true) (p1h:∀ {Φ':Hp} {w':World},FrH [ob pv0,pD0].flatten Φ Φ'→In Φ' w'→∀ (p1a0:aa) (p1a1:aa) {p1v0_0:Value} {p1G0_0:List Nat} {p1v0_1:Value} {p1G0_1:List Nat} {p1v1_0:Value} {p1G1_0:List Nat} {p1v1_1:Value} {p1G1_1:List Nat} (_:RSl (RI .i64) 1 Φ' p1G0_0 p1v0_0 p1a0.Ids) (_:RSl aZ 4 Φ' p1G0_1 p1v0_1 p1a0.Binds) (_:RSl (RI .i64) 1 Φ' p1G1_0 p1v1_0 p1a1.Ids) (_:RSl aZ 4 Φ' p1G1_1 p1v1_1 p1a1.Binds) {r:Int},p1 p1a0 p1a1=some r→Calls prog p1f (([.agg [iV p1a0.Rule,p1v0_0,p1v0_1].toArray,.agg [iV p1a1.Rule,p1v1_0,p1v1_1].toArray]:List Value)++p1fr).toArray w' (lh (iV r) w')) {r:(List aa)} (h:bJ N p0 p1=some r) :
  Calls prog 57 [pv0,.func (.func p1f) #[] p1fr.toArray].toArray w0.w (be Φ w0.w [ob pv0,pD0].flatten (fun Φ' Fs v=>∃ (Do_0_0:List Nat),v = .tuple #[]∧Fs=[ob pv0,Do_0_0]∧OSl aF 63 3 Φ' Do_0_0 pv0 r)):=by
 refine eL func57 rfl ntmps57 rfl (L:=[ob pv0,pD0]) w0 (fun hF=>?_)
 unfold bJ at h
 refine atr 3 [] rfl<|lno ph0 rfl<|la rfl ?_
 obtain ⟨x1,hx1,h⟩:=bs h
 refine lc (bo (js:=[0,0]) (R:=[]) GY rfl rfl (fun w1 hw ap hl=>mr N (bx hw ap hl) p0 (p0.length:Int) p1 ph0 p1hF (fun hle'=>p1h (hw.frX ap hle'))  hx1)) rfl ?_
 rintro v1 Φ_1 F1 ⟨ap1,fr1,D1,rfl,rfl,h1⟩
 refine en ?_
 refine WT.fin hF ay.none (fun w1 hw=>?_)
 cases h
 refine aI (js:=[0,0]) hw rfl ⟨D1,rfl,rfl,h1⟩
theorem qL (w0:av Ψ Φ []) (p0:aa) (p1:aa) (ph0_0:RSl (RI .i64) 1 Ψ pG0_0 pv0_0 p0.Ids) (ph0_1:RSl aZ 4 Ψ pG0_1 pv0_1 p0.Binds) (ph1_0:RSl (RI .i64) 1 Ψ pG1_0 pv1_0 p1.Ids) (ph1_1:RSl aZ 4 Ψ pG1_1 pv1_1 p1.Binds) {r:Int} (h:dH N p0 p1=some r) :
  CB w0 prog 58 [.agg [iV p0.Rule,pv0_0,pv0_1].toArray,.agg [iV p1.Rule,pv1_0,pv1_1].toArray] (iV r):=by
 refine eN func58 rfl ntmps58 rfl w0 fun hF=>?_
 unfold dH at h
 refine sr<|lbx rfl fun b_1=>lbx rfl fun b_2=>art 3 [] rfl<|wm [0,1] [] rfl<|amm 6 [0,0,1,32,2,0,3,0,5,1,6,32] [0,1] rfl rfl<|mq 7 rfl (by kernel_rfl) (kN [0,1]) (lM dQ rfl rfl ph0_0) rfl<|amm 2 [8,1,9,0] [0,1] rfl rfl<|mq 10 rfl (by kernel_rfl) (kN [0,1]) (lM dQ rfl rfl ph1_0) rfl ?_
 obtain ⟨x1,hx1,h⟩:=bs h
 refine on1 4 (mp rfl (kS [0,1]) (pcP rfl (eV N · p0.Rule p1.Rule hx1)) rfl ?_)
 obtain ⟨x2,hx2,h⟩:=bs h
 refine on1 11 (mp rfl (kS [0,1]) (pcP rfl (eV N · (p0.Ids.length:Int) (p1.Ids.length:Int) hx2)) rfl ?_)
 have rc1:RC (RI .i64) 1 Φ ([[],[]]:List (List Nat)) [iV x1,iV x2] ([x1,x2]:List Int):=RC.cons (c:=[iV x1]) (cells:=[iV x2]) ⟨rfl,rfl⟩ rfl (RC.cons (c:=[iV x2]) (cells:=[]) ⟨rfl,rfl⟩ rfl (RC.nil _ _ _))
 refine WM.one 12 (by kernel_rfl) (me rfl (fun _ v Φx D w1 hq hw=>Kn.of Kf.nil (ai2 0 1 rfl rfl) hw) (aV (vs:=[(0,iV x1),(1,iV x2)]) (C:=#[iV x1,iV x2]) RI.lasts dQ ou rfl rfl rfl rfl (ag BZ (a8 (C':=[iV x1,iV 0]) rfl rfl rfl rfl rfl (a8 (C':=[iV x1,iV x2]) rfl rfl rfl rfl rfl (ac)))) rfl rc1 rfl (by simpa using Kw.nil)) rfl ?_)
 rintro v1 Φ_1 D1 ⟨fr1,h1⟩
 replace h1:OSl (RI .i64) 3 1 Φ_1 [] v1 ([x1,x2]:List Int):=by simpa using h1
 obtain ⟨x3,hx3,h⟩:=bs h
 refine on1 13 (mp rfl (kS [0,1]) (pcP rfl (mK N · ([x1,x2]:List Int) h1.rsl hx3)) rfl ?_)
 refine amm 1 [14] [0,1] rfl rfl<|WM.nil (by kernel_rfl)<|att 6 [] rfl ?_
 refine ch h rfl ?_ ?_ <;> intro h
 ·refine atr 5 [1,32,1,0] rfl<|qd h (gT N · p0.Ids p1.Ids ph0_0 ph1_0 ·) rfl rfl rfl fun x4 h=>art 7 [] rfl ?_
  exact rt hF h
 refine att 6 [] rfl ?_
 exact rt hF h
theorem zN (w0:av Ψ Φ []) (p0:bP) (p1:dI) (p2:ah) (ph0_0:RSl cD 5 Ψ pG0_0 pv0_0 p0.Rules) (ph1_0:RSl j0 1 Ψ pG1_0 pv1_0 p1.Alphas) (ph1_1:RSl mm 1 Ψ pG1_1 pv1_1 p1.Rules) (ph2_0:RSl bm 3 Ψ pG2_0 pv2_0 p2.Items) {r:(List aa)} (h:nv N p0 p1 p2=some r) :
  Calls prog 15 [.agg [.string p0.Name,pv0_0].toArray,.agg [pv1_0,pv1_1].toArray,.agg [pv2_0,iV p2.Next].toArray].toArray w0.w (be Φ w0.w [] (fun Φ' Fs v=>∃ (sr_0_0:Value) (Dr_0_0:List Nat),v=sr_0_0∧Fs=[ob sr_0_0,Dr_0_0]∧OSl aF 63 3 Φ' Dr_0_0 sr_0_0 r)):=by
 refine eN func15 rfl ntmps15 rfl w0 fun hF=>?_
 unfold nv at h
 refine sr<|lbx rfl fun b_1=>lbx rfl fun b_2=>lbx rfl fun b_3=>arr 11 [1,64] rfl<|lnr ph0_0 rfl<|art 3 [] rfl<|wtS<|wt0 ?_
 have k1:=OSl.nil aF 63 3 Φ
 refine lin (σ:=Hp × (List aa) × Value × List Nat × Int) (fun s=>[(4,pQ b_2),(5,pQ b_3),(7,s.2.2.1),(17,pv0_0),(18,iV (p0.Rules.length:Int)),(19,iV s.2.2.2.2)]) (fun s=>St w0 s.1 [(b_3,.cells #[pv2_0,iV p2.Next] 29 (0,0)),(b_2,.cells #[pv1_0,pv1_1] 35 (0,0))] [s.2.2.2.1,ob s.2.2.1]) (fun m s=>gz N p0 p1 p2 m s.2.1 s.2.2.2.2=some r∧(OSl aF 63 3 s.1 s.2.2.2.1 s.2.2.1 s.2.1)) (Φ,([]:List aa),(.slice none 0 0),[],0) N ⟨h,k1⟩ (sx [0,0] [0,0]) (fun n1 ih1 s hm=>?_)
 obtain ⟨Φ_1,s1,u1,D1,s2⟩:=s
 obtain ⟨h,k2⟩:=hm
 dsimp only at h k2 ⊢
 unfold gz at h
 refine att 5 [] rfl ?_
 refine ch h rfl ?_ ?_ <;> intro h
 ·refine atr 6 [] rfl ?_
  obtain ⟨x1,hx1,h⟩:=bs h
  obtain ⟨cs1,F1,-,g1,hb1,hs1,r1⟩:=ph0_0.el (ab hx1).2.2
  obtain ⟨v1,G1,v2,G2,v3,G3,rfl,rfl,h1,h2,h3⟩:=r1
  refine lia ph0_0 hx1 rfl<|lhx 0 5 g1 rfl<|lnz p8 rfl fun b_4=>la rfl<|soN 0 qG rfl ⟨rfl,rfl,h1.one,h2.one,h3.one,trivial⟩ rfl ?_
  refine arr 7 [1,64] rfl<|lnr ph1_1 rfl<|arr 2 [] rfl ?_
  obtain ⟨b1,hb_1,h⟩:=bs h
  refine WL.cutN 9 [(38,.bool b1),(4,pQ b_2),(5,pQ b_3),(7,u1),(8,iV s2),(9,pQ b_4),(17,pv0_0),(18,iV (p0.Rules.length:Int)),(19,iV s2)] ?_ (fun K=>?_)
  rotate_left
  ·refine sp 29 hb_1 rfl (fun hb_1=>?_) fun hb_1=>?_
   ·refine arr 9 [] rfl ?_
    cases hb_1
    exact ku K
   ·refine arr 3 [1,64] rfl<|ly rfl rfl ?_
    obtain ⟨x2,hx2,hb_1⟩:=bs hb_1
    obtain ⟨cs2,F2,-,g2,hb2,hs2,r2⟩:=ph1_1.el (ab hx2).2.2
    obtain ⟨v4,G4,rfl,hq1,h4⟩:=r2
    obtain rfl:=hq1.symm
    refine lia ph1_1 hx2 rfl<|ly rfl rfl<|lf rP rfl rfl rfl<|ly rfl rfl<|lhx 0 0 g2 rfl<|ly rfl rfl<|lnr h4 rfl<|arr 2 [] rfl ?_
    cases hb_1
    exact ku K
  refine en ?_
  refine ch h rfl ?_ ?_ <;> intro h
  ·refine att 5 [] rfl ?_
   exact lb [0,0] [1,1] (ih1 (_,_,_,_,_) ⟨h,k2⟩)
  refine atr 6 [1,64] rfl ?_
  obtain ⟨x3,hx3,h⟩:=bs h
  obtain ⟨cs3,F3,-,g3,hb3,hs3,r3⟩:=ph1_1.el (ab hx3).2.2
  obtain ⟨v5,G5,rfl,hq2,h5⟩:=r3
  obtain rfl:=hq2.symm
  refine lia ph1_1 hx3 rfl<|lf rP rfl rfl rfl<|lhx 0 0 g3 rfl<|arr 11 [] rfl<|lnr h5 rfl<|la rfl ?_
  obtain ⟨x4,hx4,h⟩:=bs h
  obtain ⟨cs4,F4,-,g4,hb4,hs4,r4⟩:=h5.el (ab hx4).2.2
  obtain ⟨v6,G6,rfl,hq3,h6⟩:=r4
  obtain rfl:=hq3.symm
  refine lia h5 hx4 rfl<|lf pL rfl rfl rfl<|lhx 0 0 g4 rfl<|lnr h6 rfl<|art 3 [] rfl<|wtS<|wt0 ?_
  have k3:=OSl.nil aF 63 3 Φ_1
  refine lin (σ:=Hp × (List aa) × Value × List Nat × Int) (fun s=>[(4,pQ b_2),(5,pQ b_3),(7,u1),(8,iV s2),(9,pQ b_4),(11,s.2.2.1),(17,pv0_0),(18,iV (p0.Rules.length:Int)),(19,iV s2),(51,v6),(52,iV (x4.Toks.length:Int)),(53,iV s.2.2.2.2)]) (fun s=>St w0 s.1 [(b_4,.cells #[.string x1.Name,iV x1.Sal,v1,v2,v3] 87 (0,0)),(b_3,.cells #[pv2_0,iV p2.Next] 29 (0,0)),(b_2,.cells #[pv1_0,pv1_1] 35 (0,0))] [s.2.2.2.1,ob s.2.2.1,D1,ob u1]) (fun m s=>eA N p2 s1 s2 (gz N p0 p1 p2 n1) x1 x4 m s.2.1 s.2.2.2.2=some r∧(OSl aF 63 3 s.1 D1 u1 s1)∧(OSl aF 63 3 s.1 s.2.2.2.1 s.2.2.1 s.2.1)) (Φ_1,([]:List aa),(.slice none 0 0),[],0) N ⟨h,k2,k3⟩ (sx [0,0,0,0] [0,0,0]) (fun n2 ih2 s hm=>?_)
  obtain ⟨Φ_2,s3,u2,D2,s4⟩:=s
  obtain ⟨h,k2,k4⟩:=hm
  dsimp only at h k2 k4 ⊢
  unfold eA at h
  refine att 5 [] rfl ?_
  refine ch h rfl ?_ ?_ <;> intro h
  ·refine atr 5 [] rfl ?_
   obtain ⟨x5,hx5,h⟩:=bs h
   obtain ⟨cs5,F5,-,g5,hb5,hs5,r5⟩:=h6.el (ab hx5).2.2
   obtain ⟨v7,G7,v8,G8,rfl,rfl,h7,h8⟩:=r5
   refine lia h6 hx5 rfl<|lhx 0 2 g5 rfl<|lnz om rfl fun b_5=>soN 0 ta rfl ⟨h7.one,h8.one,trivial⟩ rfl ?_
   refine arr 7 [37,66,0,0] rfl<|kab h rfl rfl rfl (fun b z q=>vn N b x1 p2 x5.Ids (h1.y z) (h2.y z) (h3.y z) (ph2_0.y z) (h7.y z) q) ?_
   rintro x6 h v9 Φ_3 F6 ⟨ap1,fr1,v10,rfl,rfl,h9⟩
   replace k2:=k2.fr fr1 (ap1.q 3 rfl) (ap1.q 2 rfl)
   replace k4:=k4.fr fr1 (ap1.q 1 rfl) (ap1.q 0 rfl)
   refine arr 10 [] rfl ?_
   obtain ⟨b2,hb_2,h⟩:=bs h
   refine WL.cutN 3 [(69,.bool b2),(4,pQ b_2),(5,pQ b_3),(7,u1),(8,iV s2),(9,pQ b_4),(11,u2),(13,pQ b_5),(14,v10),(17,pv0_0),(18,iV (p0.Rules.length:Int)),(19,iV s2),(51,v6),(52,iV (x4.Toks.length:Int)),(53,iV s4)] ?_ (fun K=>?_)
   rotate_left
   ·refine sp 66 hb_2 rfl (fun hb_2=>?_) fun hb_2=>?_
    ·refine ly rfl rfl<|ld2 II 0 rfl<|ly rfl rfl<|qd hb_2 (xK N · x5 h7 h8 ·) rfl rfl rfl fun x7 hb_2=>la rfl ?_
     cases hb_2
     exact ku K
    ·refine arr 3 [] rfl ?_
     cases hb_2
     exact ku K
   refine la rfl ?_
   obtain ⟨b3,hb_3,h⟩:=bs h
   refine WL.cutN 5 [(75,.bool b3),(4,pQ b_2),(5,pQ b_3),(7,u1),(8,iV s2),(9,pQ b_4),(11,u2),(13,pQ b_5),(14,v10),(17,pv0_0),(18,iV (p0.Rules.length:Int)),(19,iV s2),(51,v6),(52,iV (x4.Toks.length:Int)),(53,iV s4)] ?_ (fun K=>?_)
   rotate_left
   ·refine sp 70 hb_3 rfl (fun hb_3=>?_) fun hb_3=>?_
    ·refine arr 3 [3,32] rfl<|ly rfl rfl<|qz hb_3 (fun b z q=>rm N b x1.Conds x6.1 (h2.y z) h9.rsl q) rfl rfl rfl fun x8 hb_3=>la rfl ?_
     cases hb_3
     exact ku K
    ·refine arr 5 [] rfl ?_
     cases hb_3
     exact ku K
   refine en ?_
   refine ch h rfl ?_ ?_ <;> intro h
   ·refine atr 5 [0,0] rfl<|kab h rfl rfl rfl (fun b z q=>eh N b x5.Ids (h7.y z) q) ?_
    rintro x9 h v11 Φ_4 F7 ⟨ap2,fr2,v12,rfl,rfl,h10⟩
    replace k2:=k2.fr fr2 (ap2.q 4 rfl) (ap2.q 3 rfl)
    replace k4:=k4.fr fr2 (ap2.q 2 rfl) (ap2.q 1 rfl)
    replace h9:=h9.fr fr2 (ap2.q 0 rfl) dN
    refine la rfl<|lq (bz (vs:=[(0,iV s2),(1,v11),(2,v10)]) (C:=#[iV s2,v11,v10]) Ib uU rfl (a8 (C':=[iV s2,.slice none 0 0,.slice none 0 0]) rfl rfl rfl rfl rfl (a8 (C':=[iV s2,v11,.slice none 0 0]) rfl (dK h10.one) rfl rfl rfl (a8 (C':=[iV s2,v11,v10]) rfl (dK h9.one) rfl rfl rfl (ac))))) rfl ?_
    have rc1:RC aF 3 Φ_4 ([(ob v11++[])++((ob v10++[]))]:List (List Nat)) [iV s2,v11,v10] ([(⟨s2,x9,x6.1⟩:aa)]:List aa):=RC.cons (c:=[iV s2,v11,v10]) (cells:=[]) ⟨v11,v10,rfl,rfl,h10,h9⟩ rfl (RC.nil _ _ _)
    refine le' (aV (vs:=[(0,.agg [iV s2,v11,v10].toArray)]) (C:=#[iV s2,v11,v10]) aF.lasts gp uU rfl rfl rfl rfl (ag zK (a8 (C':=[iV s2,v11,v10]) rfl rfl rfl rfl rfl (ac))) rfl rc1 rfl (RC.kn aF.knows rc1)) rfl ?_
    rintro v13 Φ_5 D3 ⟨fr3,h11⟩
    replace h11:OSl aF 63 3 Φ_5 ((ob v11++[])++((ob v10++[]))) v13 ([(⟨s2,x9,x6.1⟩:aa)]:List aa):=by simpa [List.append_assoc] using h11
    replace k2:=k2.f0 fr3
    replace k4:=k4.f0 fr3
    refine wlL [((ob v11++[])++((ob v10++[]))),ob v13,D2,ob u2,D1,ob u1] (smg [1,1] rfl (SP.eq (by simp [List.append_assoc,fu]))) ?_
    obtain ⟨x10,hx10,h⟩:=bs h
    refine le' (fY aF.lasts aF.one gp CY rfl rfl rfl rfl rfl (js:=[3]) (Rr:=[((ob v11++[])++((ob v10++[]))),ob v13,D2,D1,ob u1]) rfl k4 h11 (fun ap=>ap.q 2 rfl) (fun ap=>ap.q 0 rfl) hx10) rfl ?_
    rintro v14 Φ_6 D4 ⟨⟨ap3,fr4⟩,h12⟩
    replace k2:=k2.fr fr4 (ap3.q 4 rfl) (ap3.q 3 rfl)
    refine wlL [(D2++((ob v11++[])++((ob v10++[])))),ob v14,ob v13,D1,ob u1] (smg [3,1] rfl (SP.eq (by simp)))<|art 7 [] rfl ?_
    exact lb [0,0,1,1] [1,1,1] (ih2 (_,_,_,_,_) ⟨h,k2,h12⟩)
   refine att 6 [] rfl ?_
   exact lb [1,1,1,1] [1,1,1] (ih2 (_,_,_,_,_) ⟨h,k2,k4⟩)
  refine atr 4 [] rfl<|kcb [1,0] h rfl rfl rfl rfl (fun b ap z q=>j9 N b s3 (dH N) k4 IP (fun hle' hin a0 a1=>fun f0 f1 f2 f3=>fun hr=>qL N (ba hin) a0 a1 f0 f1 f2 f3 hr) q) ?_
  rintro x11 h v15 Φ_7 F8 ⟨ap4,fr5,D5,rfl,rfl,h13⟩
  replace k2:=k2.fr fr5 (ap4.q 1 rfl) (ap4.q 0 rfl)
  refine arr 4 [] rfl ?_
  obtain ⟨x12,hx12,h⟩:=bs h
  refine le' (fY aF.lasts aF.one gp CY rfl rfl rfl rfl rfl (js:=[3]) (Rr:=[ob u2,D5,D1]) rfl k2 h13 (fun ap=>ap.q 2 rfl) (fun ap=>ap.q 1 rfl) hx12) rfl ?_
  rintro v16 Φ_8 D6 ⟨⟨ap5,fr6⟩,h14⟩
  refine wlL [(D1++D5),ob v16,ob u2] (smg [3,2] rfl (SP.eq (by simp)))<|art 7 [] rfl ?_
  exact lb [0,0] [1,1] (ih1 (_,_,_,_,_) ⟨h,h14⟩)
 refine att 6 [] rfl ?_
 exact rtg [1,0] hF (ay.one rfl) rfl (by cases h; exact fun w1 hw=>⟨u1,D1,rfl,rfl,k2⟩)
theorem wN (w0:av Ψ Φ []) (p0:af) (p1:ah) (p2:(List ax)) (ph0_0:RSl bS 3 Ψ pG0_0 pv0_0 p0.Pats) (ph0_1:RSl bq 11 Ψ pG0_1 pv0_1 p0.Conds) (ph0_2:RSl ep 5 Ψ pG0_2 pv0_2 p0.Acts) (ph1_0:RSl bm 3 Ψ pG1_0 pv1_0 p1.Items) (ph2:RSl aZ 4 Ψ pG2 pv2 p2) {r:Bool} (h:mB N p0 p1 p2=some r) :
  CB w0 prog 226 [.agg [.string p0.Name,iV p0.Sal,pv0_0,pv0_1,pv0_2].toArray,.agg [pv1_0,iV p1.Next].toArray,pv2] (.bool r):=by
 refine eN func226 rfl ntmps226 rfl w0 fun hF=>?_
 unfold mB at h
 refine sr<|lbx rfl fun b_1=>lbx rfl fun b_2=>arr 7 [2,32] rfl<|lnr ph0_0 rfl<|art 3 [] rfl ?_
 refine lin (σ:=Int) (fun s=>[(2,pv2),(4,pQ b_2),(10,pv0_0),(11,iV (p0.Pats.length:Int)),(12,iV s)]) (fun s=>St w0 Φ [(b_2,.cells #[pv1_0,iV p1.Next] 29 (0,0))] []) (fun m s=>eS N p0 p1 p2 m s=some r) (0) N h (sx [] [0]) (fun n1 ih1 s hm=>?_)
 revert hm; revert s; intro s1 hm
 have h:eS N p0 p1 p2 (n1+1) s1=some r:=hm
 show WT _ _ [(2,pv2),(4,pQ b_2),(10,pv0_0),(11,iV (p0.Pats.length:Int)),(12,iV s1)] (St w0 Φ [(b_2,.cells #[pv1_0,iV p1.Next] 29 (0,0))] [])
 unfold eS at h
 refine att 5 [] rfl ?_
 refine ch h rfl ?_ ?_ <;> intro h
 ·refine atr 5 [] rfl ?_
  obtain ⟨x1,hx1,h⟩:=bs h
  obtain ⟨cs1,F1,-,g1,hb1,hs1,r1⟩:=ph0_0.el (ab hx1).2.2
  obtain ⟨v1,G1,rfl,hq1,h1⟩:=r1
  obtain rfl:=hq1.symm
  refine lia ph0_0 hx1 rfl<|lhx 0 3 g1 rfl<|lnz iU rfl fun b_3=>soN 0 mP rfl ⟨rfl,h1.one,rfl,trivial⟩ rfl ?_
  refine arr 6 [2,0] rfl ?_
  obtain ⟨b1,hb_1,h⟩:=bs h
  refine WL.cutN 6 [(24,.bool b1),(2,pv2),(4,pQ b_2),(10,pv0_0),(11,iV (p0.Pats.length:Int)),(12,iV s1)] ?_ (fun K=>?_)
  rotate_left
  ·refine sp 18 hb_1 rfl (fun hb_1=>?_) fun hb_1=>?_
   ·refine arr 3 [3,34] rfl<|ly rfl rfl<|qd hb_1 (rU N · x1 p1 p2 h1 ph1_0 ph2 ·) rfl rfl rfl fun x2 hb_1=>arr 2 [] rfl ?_
    cases hb_1
    exact ku K
   ·refine arr 6 [] rfl ?_
    cases hb_1
    exact ku K
  refine en ?_
  refine ch h rfl ?_ ?_ <;> intro h
  ·refine att 4 [] rfl ?_
   exact rt hF h
  refine att 6 [] rfl ?_
  exact lb [] [1] (ih1 _ h)
 refine att 5 [] rfl ?_
 exact rt hF h
theorem wb (N:Nat):∀ {Ψ Φ:Hp} {pv0 pv1_0 pv1_1 pv1_2 pv2_0 pv3 pv4:Value} {pD0 pG1_0 pG1_1 pG1_2 pG2_0 pG3 pG4:List Nat} {pb0:Nat} (w0:av Ψ Φ [[pb0],ob pv0,pD0].flatten) (p0:(List aa)) (p1:af) (p2:ah) (p3:(List Int)) (p4:(List ax)) (ph0:OSl aF 63 3 Φ pD0 pv0 p0) (pp0:Φ pb0=some (.cells #[pv0] 41 (0,0))) (ph1_0:RSl bS 3 Ψ pG1_0 pv1_0 p1.Pats) (ph1_1:RSl bq 11 Ψ pG1_1 pv1_1 p1.Conds) (ph1_2:RSl ep 5 Ψ pG1_2 pv1_2 p1.Acts) (ph2_0:RSl bm 3 Ψ pG2_0 pv2_0 p2.Items) (ph3:RSl (RI .i64) 1 Ψ pG3 pv3 p3) (ph4:RSl aZ 4 Ψ pG4 pv4 p4) {r:(List aa)} (h:eQ N p0 p1 p2 p3 p4=some r),
  Calls prog 190 [pQ pb0,.agg [.string p1.Name,iV p1.Sal,pv1_0,pv1_1,pv1_2].toArray,.agg [pv2_0,iV p2.Next].toArray,pv3,pv4].toArray w0.w (be Φ w0.w [[pb0],ob pv0,pD0].flatten (fun Φ' Fs v=>∃ (so_0_0:Value) (Do_0_0:List Nat),v = .tuple #[]∧Fs=[[pb0],ob so_0_0,Do_0_0]∧OSl aF 63 3 Φ' Do_0_0 so_0_0 r∧Φ' pb0=some (.cells #[so_0_0] 41 (0,0)))):=by
 induction N with
 | zero=>intros; rename_i h; simp [eQ] at h
 | succ N ih=>
 intro Ψ Φ pv0 pv1_0 pv1_1 pv1_2 pv2_0 pv3 pv4 pD0 pG1_0 pG1_1 pG1_2 pG2_0 pG3 pG4 pb0 w0 p0 p1 p2 p3 p4 ph0 pp0 ph1_0 ph1_1 ph1_2 ph2_0 ph3 ph4 r h
 refine eL func190 rfl ntmps190 rfl (L:=[[pb0],ob pv0,pD0]) w0 (fun hF=>?_)
 unfold eQ at h
 refine sr<|lbx rfl fun b_1=>lbx rfl fun b_2=>arr 4 [37] rfl<|kab h rfl rfl rfl (fun b z q=>oF N b p1 false (ph1_0.y z) (ph1_1.y z) (ph1_2.y z) q) ?_
 rintro x1 h v1 Φ_1 F1 ⟨ap1,fr1,v2,D1,rfl,rfl,h1,i1⟩
 replace ph0:=ph0.fr fr1 (ap1.q 1 rfl) (ap1.q 2 rfl)
 replace pp0:=fr1 _ _ ((ap1.q 0 rfl) _ (by simp)) pp0
 refine arr 6 [] rfl<|lnr ph3 rfl<|la rfl<|lno h1 rfl<|la rfl<|en ?_
 refine ch h rfl ?_ ?_ <;> intro h
 ·refine atr 6 [37,2] rfl<|qd h (wN N · p1 p2 p4 ph1_0 ph1_1 ph1_2 ph2_0 ph4 ·) rfl rfl rfl fun x2 h=>arr 2 [] rfl ?_
  obtain ⟨b1,hb_1,h⟩:=bs h
  refine WL.cutN 5 [(32,.bool b1),(0,pQ pb0),(3,pv3),(4,pv4)] ?_ (fun K=>?_)
  rotate_left
  ·refine sp 27 hb_1 rfl (fun hb_1=>?_) fun hb_1=>?_
   ·refine arr 3 [3,32] rfl<|ly rfl rfl<|qd hb_1 (rm N · p1.Conds p4 ph1_1 ph4 ·) rfl rfl rfl fun x3 hb_1=>la rfl ?_
    cases hb_1
    exact ku K
   ·refine arr 5 [] rfl ?_
    cases hb_1
    exact ku K
  refine en ?_
  refine ch h rfl ?_ ?_ <;> intro h
  ·refine WT.mix (Kn w0 Φ_1 [pb0] [(b_2,.cells #[pv2_0,iV p2.Next] 29 (0,0)),(b_1,.cells #[.string p1.Name,iV p1.Sal,pv1_0,pv1_1,pv1_2] 87 (0,0))]) (fun i=>match i with | 12=>false | _=>true) mixed (fun _ h=>h.drew)<|ma 0 rfl (by kernel_rfl) (kn Kf.id (ai2 0 1 rfl rfl)) rfl<|ma 1 rfl (by kernel_rfl) (kn Kf.id (ai2 0 1 rfl rfl)) rfl<|mq 2 rfl (by kernel_rfl) (kn Kf.id (ai2 0 1 rfl rfl)) (bf rfl) rfl ?_
   refine mq 3 rfl (by kernel_rfl) (kn Kf.id (ai2 0 1 rfl rfl)) (cz JS rfl (fun w1 hw=>hw.rg (by simp) ((fX pp0).of_eq 0 1 rfl rfl:rg _ _ _ [pv0]))) rfl<|ma 4 rfl (by kernel_rfl) (kn Kf.id (ai2 0 1 rfl rfl)) rfl<|ma 6 rfl (by kernel_rfl) (kn Kf.id (ai2 0 1 rfl rfl)) rfl ?_
   obtain ⟨x4,hx4,h⟩:=bs h
   refine WM.one 5 (by kernel_rfl) (mc rfl (fun _ v Φx D w1 hq hw=>Kn.of (Kf.id.st hq.2.1 (hq.1.r (i:=1) rfl)) (ai2 0 1 rfl rfl) hw) (bo (js:=[]) (R:=[ob v1,[pb0],ob pv0,pD0]) BE rfl rfl (fun w1 hw ap hl=>eh N (ba hw.fro) p3 (ph3.y hw.up)  hx4)) rfl ?_)
   rintro v3 Φ_2 F2 ⟨ap2,fr2,v4,rfl,rfl,h2⟩
   replace ph0:=ph0.fr fr2 (ap2.q 2 rfl) (ap2.q 3 rfl)
   replace pp0:=fr2 _ _ ((ap2.q 1 rfl) _ (by simp)) pp0
   obtain ⟨x5,hx5,h⟩:=bs h
   have kf1:=(Kf.id (F:=[pb0]):Kf Φ_1 _ _).st fr2 (ap2.q 1 rfl)
   refine WM.one 7 (by kernel_rfl) (mc rfl (fun _ v Φx D w1 hq hw=>Kn.of (kf1.st hq.2.1 (hq.1.r (i:=2) rfl)) (ai2 0 1 rfl rfl) hw) (bo (js:=[]) (R:=[ob v3,ob v1,[pb0],ob pv0,pD0]) Hg rfl rfl (fun w1 hw ap hl=>cH N (ba hw.fro) p4 (ph4.y hw.up)  hx5)) rfl ?_)
   rintro v5 Φ_3 F3 ⟨ap3,fr3,v6,rfl,rfl,h3⟩
   replace ph0:=ph0.fr fr3 (ap3.q 3 rfl) (ap3.q 4 rfl)
   replace h2:=h2.fr fr3 (ap3.q 0 rfl) dN
   replace pp0:=fr3 _ _ ((ap3.q 2 rfl) _ (by simp)) pp0
   have kf2:=kf1.st fr3 (ap3.q 2 rfl)
   refine mq 8 rfl (by kernel_rfl) (kn kf2 (ai2 0 1 rfl rfl)) (bz (vs:=[(1,v3),(2,v5)]) (C:=#[iV 0,v3,v5]) Ib uU rfl (a8 (C':=[iV 0,v3,.slice none 0 0]) rfl (dK h2.one) rfl rfl rfl (a8 (C':=[iV 0,v3,v5]) rfl (dK h3.one) rfl rfl rfl (ac)))) rfl ?_
   have rc1:RC aF 3 Φ_3 ([(ob v3++[])++((ob v5++[]))]:List (List Nat)) [iV 0,v3,v5] ([(⟨0,x4,x5⟩:aa)]:List aa):=RC.cons (c:=[iV 0,v3,v5]) (cells:=[]) ⟨v3,v5,rfl,rfl,h2,h3⟩ rfl (RC.nil _ _ _)
   refine WM.one 9 (by kernel_rfl) (me rfl (fun _ v Φx D w1 hq hw=>Kn.of (kf2.se hq.1) (ai2 0 1 rfl rfl) hw) (aV (vs:=[(0,.agg [iV 0,v3,v5].toArray)]) (C:=#[iV 0,v3,v5]) aF.lasts gp uU rfl rfl rfl rfl (ag zK (a8 (C':=[iV 0,v3,v5]) rfl rfl rfl rfl rfl (ac))) rfl rc1 rfl (RC.kn aF.knows rc1)) rfl ?_)
   rintro v7 Φ_4 D2 ⟨fr4,h4⟩
   replace h4:OSl aF 63 3 Φ_4 ((ob v3++[])++((ob v5++[]))) v7 ([(⟨0,x4,x5⟩:aa)]:List aa):=by simpa [List.append_assoc] using h4
   replace ph0:=ph0.f0 fr4
   replace pp0:=fr4 _ _ (by simp) pp0
   refine WM.conv (S':=St w0 Φ_4 [(b_2,.cells #[pv2_0,iV p2.Next] 29 (0,0)),(b_1,.cells #[.string p1.Name,iV p1.Sal,pv1_0,pv1_1,pv1_2] 87 (0,0))] [((ob v3++[])++((ob v5++[]))),ob v7,ob v1,[pb0],ob pv0,pD0]) (fun w1 hw=>hw.merge (js:=[2,1]) rfl (SP.eq (by simp [List.append_assoc,fu]))) ?_
   obtain ⟨x6,hx6,h⟩:=bs h
   have kf3:=kf2.se fr4
   refine WM.one 10 (by kernel_rfl) (me rfl (fun _ v Φx D w1 hq hw=>Kn.of (kf3.st hq.1.2 (hq.1.1.r (i:=3) rfl)) (ai2 0 1 rfl rfl) hw) (fY aF.lasts aF.one gp CY rfl rfl rfl rfl rfl (js:=[4]) (Rr:=[((ob v3++[])++((ob v5++[]))),ob v7,ob v1,[pb0],pD0]) rfl ph0 h4 (fun ap=>ap.q 4 rfl) (fun ap=>ap.q 0 rfl) hx6) rfl ?_)
   rintro v8 Φ_5 D3 ⟨⟨ap4,fr5⟩,h5⟩
   replace pp0:=fr5 _ _ ((ap4.q 3 rfl) _ (by simp)) pp0
   refine WM.conv (S':=St w0 Φ_5 [(b_2,.cells #[pv2_0,iV p2.Next] 29 (0,0)),(b_1,.cells #[.string p1.Name,iV p1.Sal,pv1_0,pv1_1,pv1_2] 87 (0,0))] [(pD0++((ob v3++[])++((ob v5++[])))),ob v8,ob v7,ob v1,[pb0]]) (fun w1 hw=>hw.merge (js:=[5,1]) rfl (SP.eq (by simp))) ?_
   have kf4:=kf3.st fr5 (ap4.q 3 rfl)
   refine mq 11 rfl (by kernel_rfl) (kn kf4 (ai2 0 1 rfl rfl)) (bf rfl) rfl ?_
   refine WM.thw (js:=[4]) (R:=[(pD0++((ob v3++[])++((ob v5++[])))),ob v8,ob v7,ob v1]) rfl pp0 (fun Φ_6 ap5 fr6=>?_)
   replace h5:=h5.fr fr6 (ap5.q 1 rfl) (ap5.q 0 rfl)
   refine on1 12 (ms1 0 rfl nk Kq rfl h5.one ?_)
   refine WM.nil (by kernel_rfl) ?_
   refine WT.frz (js:=[0]) (R:=[(b_2,.cells #[pv2_0,iV p2.Next] 29 (0,0)),(b_1,.cells #[.string p1.Name,iV p1.Sal,pv1_0,pv1_1,pv1_2] 87 (0,0))]) rfl (fun Φ_7 fr7 k1=>?_)
   replace h5:=h5.f0 fr7
   exact rtg [0,1,0] hF ay.none rfl (by cases h; exact fun w1 hw=>⟨v8,(pD0++((ob v3++[])++((ob v5++[])))),rfl,rfl,h5,k1⟩)
  refine WT.skip ?_
  exact rtg [1,1,1] hF ay.none rfl (by cases h; exact fun w1 hw=>⟨pv0,pD0,rfl,rfl,ph0,pp0⟩)
 refine atr 5 [0,0] rfl<|lnr ph2_0 rfl<|art 3 [] rfl ?_
 refine lin (σ:=Hp × (List aa) × Value × List Nat × Int) (fun s=>[(0,pQ pb0),(3,pv3),(4,pv4),(6,pQ b_1),(7,pQ b_2),(10,v1),(46,pv2_0),(47,iV (p2.Items.length:Int)),(48,iV s.2.2.2.2)]) (fun s=>St w0 s.1 [(b_2,.cells #[pv2_0,iV p2.Next] 29 (0,0)),(b_1,.cells #[.string p1.Name,iV p1.Sal,pv1_0,pv1_1,pv1_2] 87 (0,0))] [ob v1,[pb0],ob s.2.2.1,s.2.2.2.1]) (fun m s=>dU N p1 p2 p3 p4 (eQ N) x1 m s.2.1 s.2.2.2.2=some r∧(OSl aF 63 3 s.1 s.2.2.2.1 s.2.2.1 s.2.1)∧(OSl bS 201 3 s.1 D1 v1 x1)∧(s.1 pb0=some (.cells #[s.2.2.1] 41 (0,0)))) (Φ_1,p0,pv0,pD0,0) N ⟨h,ph0,h1,pp0⟩ (sx [0,0,0,0] [0,0]) (fun n1 ih1 s hm=>?_)
 obtain ⟨Φ_8,s1,u1,D4,s2⟩:=s
 obtain ⟨h,k2,h1,k3⟩:=hm
 dsimp only at h k2 h1 k3 ⊢
 unfold dU at h
 refine att 5 [] rfl ?_
 refine ch h rfl ?_ ?_ <;> intro h
 ·refine atr 5 [] rfl ?_
  obtain ⟨x7,hx7,h⟩:=bs h
  obtain ⟨cs1,F4,-,g1,hb1,hs1,r1⟩:=ph2_0.el (ab hx7).2.2
  obtain ⟨v9,G1,rfl,hq1,h6⟩:=r1
  obtain rfl:=hq1.symm
  refine lia ph2_0 hx7 rfl<|lhx 0 3 g1 rfl<|lnz pA rfl fun b_3=>soN 0 wI rfl ⟨rfl,rfl,h6.one,trivial⟩ rfl ?_
  refine en<|sq<|WT.mix (Kn w0 Φ_8 (ob v1) [(b_3,.cells #[iV x7.Id,.string x7.F.Kind,v9] 66 (0,0)),(b_2,.cells #[pv2_0,iV p2.Next] 29 (0,0)),(b_1,.cells #[.string p1.Name,iV p1.Sal,pv1_0,pv1_1,pv1_2] 87 (0,0))]) (fun _=>true) mixed (fun _ h=>h.drew)<|ma 0 rfl (by kernel_rfl) (kn Kf.id (ai3 0 1 2 rfl rfl rfl)) rfl<|ma 1 rfl (by kernel_rfl) (kn Kf.id (ai3 0 1 2 rfl rfl rfl)) rfl<|mq 2 rfl (by kernel_rfl) (kn Kf.id (ai3 0 1 2 rfl rfl rfl)) (lM dQ rfl rfl ph3) rfl ?_
  obtain ⟨x8,hx8,h⟩:=bs h
  obtain ⟨cs2,F5,-,g2,hb2,hs2,r2⟩:=h1.elS (ab hx8).2.2
  obtain ⟨v10,G2,rfl,hq2,h7⟩:=r2
  obtain rfl:=hq2.symm
  refine mq 3 rfl (by kernel_rfl) (kn Kf.id (ai3 0 1 2 rfl rfl rfl)) (aw qF rfl rfl h1.rsl hx8) rfl<|mq 4 rfl (by kernel_rfl) (kn Kf.id (ai3 0 1 2 rfl rfl rfl)) (aG w7 rfl (fun w1 hw=>hw.rg hb2 (g2.of_eq 0 3 rfl rfl:rg _ _ _ [.string x8.Kind,v10,.bool x8.Not])) rfl) rfl<|mq 5 rfl (by kernel_rfl) (kn Kf.id (ai3 0 1 2 rfl rfl rfl)) (aK AF rfl) rfl<|mq 6 rfl (by kernel_rfl) (kn Kf.id (ai3 0 1 2 rfl rfl rfl)) (aG rq rfl (fun w1 hw=>hw.rgO (i:=0) rfl 1 2 [.string x7.F.Kind,v9] rfl) rfl) rfl ?_
  refine ma 7 rfl (by kernel_rfl) (kn Kf.id (ai3 0 1 2 rfl rfl rfl)) rfl ?_
  obtain ⟨x9,hx9,h⟩:=bs h
  refine WM.one 8 (by kernel_rfl) (mc rfl (fun _ v Φx D w1 hq hw=>Kn.of (Kf.id.st hq.2.1 (hq.1.r (i:=0) rfl)) (ai3 0 1 2 rfl rfl rfl) hw) (bo (js:=[]) (R:=[ob v1,[pb0],ob u1,D4]) CO rfl rfl (fun w1 hw ap hl=>jX N (ba hw.fro) x8 x7.F p4 h7 (h6.y hw.up) (ph4.y hw.up)  hx9)) rfl ?_)
  rintro v11 Φ_9 F6 ⟨ap6,fr8,v12,rfl,rfl,h8⟩
  replace k2:=k2.fr fr8 (ap6.q 2 rfl) (ap6.q 3 rfl)
  replace h1:=h1.fr fr8 (ap6.q 0 rfl) (Dj.sub (ap6.o ph1_0.old) i1)
  replace k3:=fr8 _ _ ((ap6.q 1 rfl) _ (by simp)) k3
  have kf5:=(Kf.id (F:=(ob v1)):Kf Φ_8 _ _).st fr8 (ap6.q 0 rfl)
  refine ma 9 rfl (by kernel_rfl) (kn kf5 (ai3 0 1 2 rfl rfl rfl)) rfl<|ma 10 rfl (by kernel_rfl) (kn kf5 (ai3 0 1 2 rfl rfl rfl)) rfl<|ma 11 rfl (by kernel_rfl) (kn kf5 (ai3 0 1 2 rfl rfl rfl)) rfl<|ma 12 rfl (by kernel_rfl) (kn kf5 (ai3 0 1 2 rfl rfl rfl)) rfl<|ma 13 rfl (by kernel_rfl) (kn kf5 (ai3 0 1 2 rfl rfl rfl)) rfl<|WM.nil (by kernel_rfl)<|att 4 [] rfl ?_
  refine ch h rfl ?_ ?_ <;> intro h
  ·refine cut (σ:=Hp × (List aa) × Value × List Nat) (fun s=>[(0,pQ pb0),(3,pv3),(4,pv4),(6,pQ b_1),(7,pQ b_2),(10,v1),(46,pv2_0),(47,iV (p2.Items.length:Int)),(48,iV s2)]) (fun s=>St w0 s.1 [(b_2,.cells #[pv2_0,iV p2.Next] 29 (0,0)),(b_1,.cells #[.string p1.Name,iV p1.Sal,pv1_0,pv1_1,pv1_2] 87 (0,0))] [[pb0],ob s.2.2.1,s.2.2.2,ob v1]) (fun s=>l6 N s2 (dU N p1 p2 p3 p4 (eQ N) x1 n1) s.2.1=some r∧(OSl bS 201 3 s.1 D1 v1 x1)∧(OSl aF 63 3 s.1 s.2.2.2 s.2.2.1 s.2.1)∧(s.1 pb0=some (.cells #[s.2.2.1] 41 (0,0)))) (fun s hm=>?_) (fun K=>?_)
   ·clear h
    obtain ⟨Φ_14,s3,u2,D8⟩:=s
    obtain ⟨h,h1,k4,k5⟩:=hm
    dsimp only at h h1 k4 k5 ⊢
    unfold l6 at h
    refine att 5 [] rfl ?_
    exact lb [3,0,0,0] [0,0] (ih1 (_,_,_,_,_) ⟨h,k4,h1,k5⟩)
   refine wm [0,1,2] [10] rfl<|amm 7 [0,1,69,2,34,9,3,5,0,6,0] [0,1,2] rfl rfl ?_
   refine WM.two 4 7 (by kernel_rfl) ?_ ?_
   ·obtain ⟨x13,hx13,h⟩:=bs h
    refine mc rfl (fun _ v Φx D w1 hq hw=>Kn.of Kf.nil (ai3 0 1 2 rfl rfl rfl) hw) (bo (js:=[]) (R:=[ob v12,ob v1,[pb0],ob u1,D4]) BE rfl rfl (fun w1 hw ap hl=>eh N (ba hw.fro) p3 (ph3.y hw.up)  hx13)) rfl ?_
    rintro v19 Φ_15 F9 ⟨ap10,fr13,v20,rfl,rfl,h14⟩
    replace k2:=k2.fr fr13 (ap10.q 3 rfl) (ap10.q 4 rfl)
    replace h1:=h1.fr fr13 (ap10.q 1 rfl) (Dj.sub (ap10.o ph1_0.old) i1)
    replace h8:=h8.fr fr13 (ap10.q 0 rfl) dN
    replace k3:=fr13 _ _ ((ap10.q 2 rfl) _ (by simp)) k3
    have rc3:RC (RI .i64) 1 Φ_15 ([[]]:List (List Nat)) [iV x7.Id] ([x7.Id]:List Int):=RC.cons (c:=[iV x7.Id]) (cells:=[]) ⟨rfl,rfl⟩ rfl (RC.nil _ _ _)
    refine WM.one 7 (by kernel_rfl) (me rfl (fun _ v Φx D w1 hq hw=>Kn.of Kf.nil (ai3 0 1 2 rfl rfl rfl) hw) (aV (vs:=[(0,iV x7.Id)]) (C:=#[iV x7.Id]) RI.lasts dQ ou rfl rfl rfl rfl (ag oW (a8 (C':=[iV x7.Id]) rfl rfl rfl rfl rfl (ac))) rfl rc3 rfl (by simpa using Kw.nil)) rfl ?_)
    rintro v21 Φ_16 D9 ⟨fr14,h15⟩
    replace h15:OSl (RI .i64) 3 1 Φ_16 [] v21 ([x7.Id]:List Int):=by simpa using h15
    replace k2:=k2.f0 fr14
    replace h1:=h1.f0 fr14
    replace h8:=h8.f0 fr14
    replace h14:=h14.f0 fr14
    replace k3:=fr14 _ _ (by simp) k3
    obtain ⟨x14,hx14,h⟩:=bs h
    refine WM.one 8 (by kernel_rfl) (me rfl (fun _ v Φx D w1 hq hw=>Kn.of Kf.nil (ai3 0 1 2 rfl rfl rfl) hw) (ee RI.lasts RI.one RI.flat dQ yY rfl rfl rfl rfl rfl (js:=[1]) (Rr:=[ob v21,ob v12,ob v1,[pb0],ob u1,D4]) rfl h14 h15.rsl hx14) rfl ?_)
    rintro v22 Φ_17 D10 ⟨⟨ap11,fr15⟩,h16⟩
    replace k2:=k2.fr fr15 (ap11.q 4 rfl) (ap11.q 5 rfl)
    replace h1:=h1.fr fr15 (ap11.q 2 rfl) (Dj.sub (ap11.o ph1_0.old) i1)
    replace h8:=h8.fr fr15 (ap11.q 1 rfl) dN
    replace k3:=fr15 _ _ ((ap11.q 3 rfl) _ (by simp)) k3
    obtain ⟨x15,hx15,h⟩:=bs h
    refine WM.one 10 (by kernel_rfl) (mc rfl (fun hc=>by cases hc) (bo (js:=[4,4,4]) (R:=[ob v22,ob v21,ob v12,ob v1]) C0 rfl rfl (fun w1 hw ap hl=>ih (bx hw ap hl) s1 p1 p2 x14 x9.1 k2 k3 (ph1_0.y (hw.uo ap)) (ph1_1.y (hw.uo ap)) (ph1_2.y (hw.uo ap)) (ph2_0.y (hw.uo ap)) (h16.rsl.x (Dj.app (ap.q 0 rfl) dN)) (h8.rsl.x (Dj.app (ap.q 2 rfl) dN))  hx15)) rfl ?_)
    rintro v23 Φ_18 F10 ⟨ap12,fr16,v24,D11,rfl,rfl,h17,h18⟩
    replace h1:=h1.fr fr16 (ap12.q 3 rfl) (Dj.sub (ap12.o ph1_0.old) i1)
    refine WM.nil (by kernel_rfl) ?_
    exact wo [0,0,0,3] [1,1] (K (_,_,_,_) ⟨h,h1,h17,h18⟩)
   have rc4:RC (RI .i64) 1 Φ_9 ([[]]:List (List Nat)) [iV x7.Id] ([x7.Id]:List Int):=RC.cons (c:=[iV x7.Id]) (cells:=[]) ⟨rfl,rfl⟩ rfl (RC.nil _ _ _)
   refine me rfl (fun _ v Φx D w1 hq hw=>Kn.of Kf.nil (ai3 0 1 2 rfl rfl rfl) hw) (aV (vs:=[(0,iV x7.Id)]) (C:=#[iV x7.Id]) RI.lasts dQ ou rfl rfl rfl rfl (ag oW (a8 (C':=[iV x7.Id]) rfl rfl rfl rfl rfl (ac))) rfl rc4 rfl (by simpa using Kw.nil)) rfl ?_
   rintro v25 Φ_19 D12 ⟨fr17,h19⟩
   replace h19:OSl (RI .i64) 3 1 Φ_19 [] v25 ([x7.Id]:List Int):=by simpa using h19
   replace k2:=k2.f0 fr17
   replace h1:=h1.f0 fr17
   replace h8:=h8.f0 fr17
   replace k3:=fr17 _ _ (by simp) k3
   obtain ⟨x16,hx16,h⟩:=bs h
   refine WM.one 4 (by kernel_rfl) (mc rfl (fun _ v Φx D w1 hq hw=>Kn.of Kf.nil (ai3 0 1 2 rfl rfl rfl) hw) (bo (js:=[]) (R:=[ob v25,ob v12,ob v1,[pb0],ob u1,D4]) BE rfl rfl (fun w1 hw ap hl=>eh N (ba hw.fro) p3 (ph3.y hw.up)  hx16)) rfl ?_)
   rintro v26 Φ_20 F11 ⟨ap13,fr18,v27,rfl,rfl,h20⟩
   replace k2:=k2.fr fr18 (ap13.q 4 rfl) (ap13.q 5 rfl)
   replace h1:=h1.fr fr18 (ap13.q 2 rfl) (Dj.sub (ap13.o ph1_0.old) i1)
   replace h19:=h19.fr fr18 (ap13.q 0 rfl) dN
   replace h8:=h8.fr fr18 (ap13.q 1 rfl) dN
   replace k3:=fr18 _ _ ((ap13.q 3 rfl) _ (by simp)) k3
   obtain ⟨x17,hx17,h⟩:=bs h
   refine WM.one 8 (by kernel_rfl) (me rfl (fun _ v Φx D w1 hq hw=>Kn.of Kf.nil (ai3 0 1 2 rfl rfl rfl) hw) (ee RI.lasts RI.one RI.flat dQ yY rfl rfl rfl rfl rfl (js:=[0]) (Rr:=[ob v25,ob v12,ob v1,[pb0],ob u1,D4]) rfl h20 h19.rsl hx17) rfl ?_)
   rintro v28 Φ_21 D13 ⟨⟨ap14,fr19⟩,h21⟩
   replace k2:=k2.fr fr19 (ap14.q 4 rfl) (ap14.q 5 rfl)
   replace h1:=h1.fr fr19 (ap14.q 2 rfl) (Dj.sub (ap14.o ph1_0.old) i1)
   replace h8:=h8.fr fr19 (ap14.q 1 rfl) dN
   replace k3:=fr19 _ _ ((ap14.q 3 rfl) _ (by simp)) k3
   obtain ⟨x18,hx18,h⟩:=bs h
   refine WM.one 10 (by kernel_rfl) (mc rfl (fun hc=>by cases hc) (bo (js:=[4,4,4]) (R:=[ob v28,ob v25,ob v12,ob v1]) C0 rfl rfl (fun w1 hw ap hl=>ih (bx hw ap hl) s1 p1 p2 x17 x9.1 k2 k3 (ph1_0.y (hw.uo ap)) (ph1_1.y (hw.uo ap)) (ph1_2.y (hw.uo ap)) (ph2_0.y (hw.uo ap)) (h21.rsl.x (Dj.app (ap.q 0 rfl) dN)) (h8.rsl.x (Dj.app (ap.q 2 rfl) dN))  hx18)) rfl ?_)
   rintro v29 Φ_22 F12 ⟨ap15,fr20,v30,D14,rfl,rfl,h22,h23⟩
   replace h1:=h1.fr fr20 (ap15.q 3 rfl) (Dj.sub (ap15.o ph1_0.old) i1)
   refine WM.nil (by kernel_rfl) ?_
   exact wo [0,0,0,3] [1,1] (K (_,_,_,_) ⟨h,h1,h22,h23⟩)
  refine att 6 [] rfl ?_
  exact lb [1,1,1,1] [1,1] (ih1 (_,_,_,_,_) ⟨h,k2,h1,k3⟩)
 refine xt rfl ?_
 refine WT.fin hF ay.none (fun w1 hw=>?_)
 cases h
 refine aI (js:=[1,1,1]) hw rfl ⟨u1,D4,rfl,rfl,k2,k3⟩
theorem uB (w0:av Ψ Φ []) (p0:af) (p1:ah) (ph0_0:RSl bS 3 Ψ pG0_0 pv0_0 p0.Pats) (ph0_1:RSl bq 11 Ψ pG0_1 pv0_1 p0.Conds) (ph0_2:RSl ep 5 Ψ pG0_2 pv0_2 p0.Acts) (ph1_0:RSl bm 3 Ψ pG1_0 pv1_0 p1.Items) {r:(List aa)} (h:jJ N p0 p1=some r) :
  Calls prog 122 [.agg [.string p0.Name,iV p0.Sal,pv0_0,pv0_1,pv0_2].toArray,.agg [pv1_0,iV p1.Next].toArray].toArray w0.w (be Φ w0.w [] (fun Φ' Fs v=>∃ (sr_0_0:Value) (Dr_0_0:List Nat),v=sr_0_0∧Fs=[ob sr_0_0,Dr_0_0]∧OSl aF 63 3 Φ' Dr_0_0 sr_0_0 r)):=by
 refine eN func122 rfl ntmps122 rfl w0 fun hF=>?_
 unfold jJ at h
 refine sr<|lbx rfl fun b_1=>lbx rfl fun b_2=>arr 4 [] rfl ?_
 refine ln (mY (C:=#[.slice none 0 0]) Kx rfl) rfl (fun b_3=>?_)
 refine arr 5 [69,34] rfl ?_
 refine WL.frz (js:=[0]) (R:=[(b_2,.cells #[pv1_0,iV p1.Next] 29 (0,0)),(b_1,.cells #[.string p0.Name,iV p0.Sal,pv0_0,pv0_1,pv0_2] 87 (0,0))]) rfl (fun Φ_1 fr1 k1=>?_)
 refine wlS<|wl0 ?_
 have k2:=OSl.nil aF 63 3 Φ_1
 refine kcb [2,1,0] h rfl rfl rfl rfl (fun b ap z q=>wb N b ([]:List aa) p0 p1 [] [] k2 k1 (ph0_0.y z) (ph0_1.y z) (ph0_2.y z) (ph1_0.y z) (RSl.nil _ _ _) (RSl.nil _ _ _) q) ?_
 rintro x1 h v1 Φ_2 F1 ⟨ap1,fr2,v2,D1,rfl,rfl,h1,h2⟩
 refine en<|sr<|lgx 0 0 (fX h2) rfl<|la rfl<|en ?_
 exact rtg [1,1] hF (ay.one rfl) rfl (by cases h; exact fun w1 hw=>⟨v2,D1,rfl,rfl,h1⟩)
theorem zF (w0:av Ψ Φ []) (p0:bP) (p1:ah) (ph0_0:RSl cD 5 Ψ pG0_0 pv0_0 p0.Rules) (ph1_0:RSl bm 3 Ψ pG1_0 pv1_0 p1.Items) {r:(List aa)} (h:pq N p0 p1=some r) :
  Calls prog 59 [.agg [.string p0.Name,pv0_0].toArray,.agg [pv1_0,iV p1.Next].toArray].toArray w0.w (be Φ w0.w [] (fun Φ' Fs v=>∃ (sr_0_0:Value) (Dr_0_0:List Nat) (X:List Nat),v=sr_0_0∧Fs=[ob sr_0_0,X]∧OSl dM 63 3 Φ' Dr_0_0 sr_0_0 r∧(∀ k∈Dr_0_0,k∈X))):=by
 refine eN func59 rfl ntmps59 rfl w0 fun hF=>?_
 unfold pq at h
 refine sr<|lbx rfl fun b_1=>lbx rfl fun b_2=>arr 11 [1,32] rfl<|lnr ph0_0 rfl<|art 3 [] rfl<|wt0<|wtS ?_
 have k1:=OSl.nil dM 63 3 Φ
 refine lin (σ:=Hp × List Nat × (List aa) × Value × List Nat × Int) (fun s=>[(3,pQ b_2),(5,s.2.2.2.1),(11,pv0_0),(12,iV (p0.Rules.length:Int)),(13,iV s.2.2.2.2.2)]) (fun s=>St w0 s.1 [(b_2,.cells #[pv1_0,iV p1.Next] 29 (0,0))] [ob s.2.2.2.1,s.2.1]) (fun m s=>fv N p0 p1 m s.2.2.1 s.2.2.2.2.2=some r∧(OSl dM 63 3 s.1 s.2.2.2.2.1 s.2.2.2.1 s.2.2.1)∧(∀ k∈s.2.2.2.2.1,k∈s.2.1)) (Φ,[],([]:List aa),(.slice none 0 0),[],0) N ⟨h,k1,(by simp)⟩ (sx [0,0] [0]) (fun n1 ih1 s hm=>?_)
 obtain ⟨Φ_1,X1,s1,u1,D1,s2⟩:=s
 obtain ⟨h,k2,i1⟩:=hm
 dsimp only at h k2 i1 ⊢
 unfold fv at h
 refine att 5 [] rfl ?_
 refine ch h rfl ?_ ?_ <;> intro h
 ·refine atr 6 [] rfl ?_
  obtain ⟨x1,hx1,h⟩:=bs h
  obtain ⟨cs1,F1,-,g1,hb1,hs1,r1⟩:=ph0_0.el (ab hx1).2.2
  obtain ⟨v1,G1,v2,G2,v3,G3,rfl,rfl,h1,h2,h3⟩:=r1
  refine lia ph0_0 hx1 rfl<|lhx 0 5 g1 rfl<|lnz p8 rfl fun b_3=>la rfl<|soN 0 qG rfl ⟨rfl,rfl,h1.one,h2.one,h3.one,trivial⟩ rfl ?_
  refine arr 5 [5,34] rfl<|kab h rfl rfl rfl (fun b z q=>uB N b x1 p1 (h1.y z) (h2.y z) (h3.y z) (ph1_0.y z) q) ?_
  rintro x2 h v4 Φ_2 F2 ⟨ap1,fr1,v5,D2,rfl,rfl,h4⟩
  replace k2:=k2.fr fr1 (ap1.q 0 rfl) (Dj.sub (ap1.q 1 rfl) i1)
  refine lno h4 rfl<|art 3 [] rfl ?_
  refine lin (σ:=Hp × (List aa) × Value × List Nat × Int) (fun s=>[(3,pQ b_2),(5,s.2.2.1),(6,iV s2),(11,pv0_0),(12,iV (p0.Rules.length:Int)),(13,iV s2),(20,v4),(21,iV (x2.length:Int)),(22,iV s.2.2.2.2)]) (fun s=>St w0 s.1 [(b_2,.cells #[pv1_0,iV p1.Next] 29 (0,0))] [ob v4,D2,ob s.2.2.1,X1]) (fun m s=>iD N s2 (fv N p0 p1 n1) x2 m s.2.1 s.2.2.2.2=some r∧(OSl dM 63 3 s.1 s.2.2.2.1 s.2.2.1 s.2.1)∧(∀ k∈s.2.2.2.1,k∈(X1++D2))∧(OSl aF 63 3 s.1 D2 v4 x2)) (Φ_2,s1,u1,D1,0) N ⟨h,k2,(fun k hk=>(List.mem_append.2 (.inl (i1 k hk)))),h4⟩ (sx [0,0,0,0] [1]) (fun n2 ih2 s hm=>?_)
  obtain ⟨Φ_3,s3,u2,D3,s4⟩:=s
  obtain ⟨h,k3,i2,h4⟩:=hm
  dsimp only at h k3 i2 h4 ⊢
  unfold iD at h
  refine att 5 [] rfl ?_
  refine ch h rfl ?_ ?_ <;> intro h
  ·refine atr 5 [] rfl ?_
   obtain ⟨x3,hx3,h⟩:=bs h
   obtain ⟨cs2,F3,-,g2,hb2,hs2,r2⟩:=h4.elS (ab hx3).2.2
   obtain ⟨v6,v7,rfl,rfl,h5,h6⟩:=r2
   have h7:=h5.rsl
   have h8:=h6.rsl
   refine lio h4 hx3 rfl<|lgx 0 3 g2 rfl<|lnz uU rfl fun b_4=>soN 0 qQ rfl ⟨rfl,h7.one,h8.one,trivial⟩ rfl ?_
   refine arr 5 [0] rfl<|so1 0 tV rfl rfl ?_
   refine arr 4 [3] rfl ?_
   have rc1:RC dM 3 Φ_3 ([(ob v6++[])++((ob v7++[]))]:List (List Nat)) [iV s2,v6,v7] ([(⟨s2,x3.Ids,x3.Binds⟩:aa)]:List aa):=RC.cons (c:=[iV s2,v6,v7]) (cells:=[]) ⟨v6,(ob v6++[]),v7,(ob v7++[]),rfl,rfl,h7,h8⟩ rfl (RC.nil _ _ _)
   refine le' (aV (vs:=[(0,.agg [iV s2,v6,v7].toArray)]) (C:=#[iV s2,v6,v7]) dM.lasts gp uU rfl rfl rfl rfl (ag zK (a8 (C':=[iV s2,v6,v7]) rfl rfl rfl rfl rfl (ac))) rfl rc1 rfl (RC.kn dM.knows rc1)) rfl ?_
   rintro v8 Φ_4 D4 ⟨fr2,h9⟩
   replace h9:OSl dM 63 3 Φ_4 ((ob v6++[])++((ob v7++[]))) v8 ([(⟨s2,x3.Ids,x3.Binds⟩:aa)]:List aa):=by simpa [List.append_assoc] using h9
   replace k3:=k3.f0 fr2
   replace h4:=h4.f0 fr2
   obtain ⟨x4,hx4,h⟩:=bs h
   refine le' (fY dM.lasts dM.one gp CY rfl rfl rfl rfl rfl (js:=[3]) (Rr:=[ob v8,ob v4,D2,X1]) rfl k3 h9 (fun ap=>(Dj.sub (Dj.app (ap.q 3 rfl) (ap.q 2 rfl)) i2)) (fun ap=>(Dj.sub (Dj.app (Dj.sub (ap.q 2 rfl) (fun k h=>hs2 k (List.mem_append.2 (.inl h)))) (Dj.sub (ap.q 2 rfl) (fun k h=>hs2 k (List.mem_append.2 (.inr h))))) (fun k hk=>(by simpa [List.append_assoc] using hk:k∈((ob v6++[])++(ob v7++[])))))) hx4) rfl ?_
   rintro v9 Φ_5 D5 ⟨⟨ap2,fr3⟩,h10⟩
   replace h4:=h4.fr fr3 (ap2.q 1 rfl) (ap2.q 2 rfl)
   refine art 7 [] rfl ?_
   exact lb [2,2,0,1] [1] (ih2 (_,_,_,_,_) ⟨h,h10,(fun k hk=>((List.mem_append.1 hk).elim (fun h=>((List.mem_append.1 (i2 k h)).elim (fun h=>(List.mem_append.2 (.inl h))) (fun h=>(List.mem_append.2 (.inr h))))) (fun h=>((List.mem_append.1 ((fun k hk=>(by simpa [List.append_assoc] using hk:k∈((ob v6++[])++(ob v7++[])))) k h)).elim (fun h=>(List.mem_append.2 (.inr ((fun k h=>hs2 k (List.mem_append.2 (.inl h))) k h)))) (fun h=>(List.mem_append.2 (.inr ((fun k h=>hs2 k (List.mem_append.2 (.inr h))) k h)))))))),h4⟩)
  refine att 6 [] rfl<|wtL [(X1++(D2)),ob v4,ob u2] (smg [3,1] rfl (SP.eq (by simp [List.append_assoc]))) ?_
  exact lb [2,0] [0] (ih1 (_,_,_,_,_,_) ⟨h,k3,(fun k hk=>((List.mem_append.1 (i2 k hk)).elim (fun h=>((fun k hk=>(List.mem_append.2 (.inl hk))) k h)) (fun h=>((fun k hk=>(List.mem_append.2 (.inr hk))) k h))))⟩)
 refine att 6 [] rfl ?_
 refine WT.ret hF (ay.one rfl) (fun w1 hw=>?_)
 cases h
 replace hw:=hw.merge (js:=[1]) (F:=[X1].flatten) rfl (SP.eq (by simp))
 refine aI (js:=[1,0]) hw rfl ⟨u1,D1,[X1].flatten,rfl,rfl,k2,(fun k hk=>(List.mem_flatten.2 ⟨X1,by simp,(i1 k hk)⟩))⟩
theorem tZ (w0:av Ψ Φ []) (p0:bP) (p1:ah) (ph0_0:RSl cD 5 Ψ pG0_0 pv0_0 p0.Rules) (ph1_0:RSl bm 3 Ψ pG1_0 pv1_0 p1.Items) {r:(List aa)} (h:jj N p0 p1=some r) :
  Calls prog 16 [.agg [.string p0.Name,pv0_0].toArray,.agg [pv1_0,iV p1.Next].toArray].toArray w0.w (be Φ w0.w [] (fun Φ' Fs v=>∃ (sr_0_0:Value) (Dr_0_0:List Nat) (X:List Nat),v=sr_0_0∧Fs=[ob sr_0_0,X]∧OSl dM 63 3 Φ' Dr_0_0 sr_0_0 r∧(∀ k∈Dr_0_0,k∈X))):=by
 refine eN func16 rfl ntmps16 rfl w0 fun hF=>?_
 unfold jj at h
 refine sr<|lbx rfl fun b_1=>lbx rfl fun b_2=>arr 6 [34] rfl<|qd h (pV N · p0 ph0_0 ·) rfl rfl rfl fun x1 h=>arr 2 [] rfl ?_
 obtain ⟨b1,hb_1,h⟩:=bs h
 refine WL.cutN 4 [(12,.bool b1),(2,pQ b_1),(3,pQ b_2)] ?_ (fun K=>?_)
 rotate_left
 ·refine sp 8 hb_1 rfl (fun hb_1=>?_) fun hb_1=>?_
  ·refine arr 4 [] rfl ?_
   cases hb_1
   exact ku K
  ·refine ly rfl rfl<|ld2 rz 0 rfl<|ly rfl rfl<|qd hb_1 (oe N · p1 ph1_0 ·) rfl rfl rfl fun x2 hb_1=>arr 2 [] rfl ?_
   cases hb_1
   exact ku K
 refine en ?_
 refine ch h rfl ?_ ?_ <;> intro h
 ·refine att 4 [] rfl ?_
  refine WT.ret hF (ay.one rfl) (fun w1 hw=>?_)
  cases h
  replace hw:=hw.addNil
  replace hw:=hw.addNil
  refine aI (js:=[1,0]) hw rfl ⟨.slice none 0 0,[],[],rfl,rfl,OSl.nil _ _ _ _,(by simp)⟩
 refine atr 5 [34,2] rfl<|kab h rfl rfl rfl (fun b z q=>zF N b p0 p1 (ph0_0.y z) (ph1_0.y z) q) ?_
 rintro x3 h v1 Φ_1 F1 ⟨ap1,fr1,v2,D1,X1,rfl,rfl,h1,i1⟩
 refine la rfl<|en ?_
 refine WT.ret hF (ay.one rfl) (fun w1 hw=>?_)
 cases h
 replace hw:=hw.merge (js:=[1]) (F:=[X1].flatten) rfl (SP.eq (by simp))
 refine aI (js:=[1,0]) hw rfl ⟨v1,D1,[X1].flatten,rfl,rfl,h1,(fun k hk=>(List.mem_flatten.2 ⟨X1,by simp,(i1 k hk)⟩))⟩
theorem uj (w0:av Ψ Φ []) (p0:(List Int)) (ph0:RSl (RI .u8) 1 Ψ pG0 pv0 p0) {r:Bool} (h:jP N p0=some r) :
  CB w0 prog 3 [pv0] (.bool r):=by
 refine eN func3 rfl ntmps3 rfl w0 fun hF=>?_
 unfold jP at h
 refine atr 8 [] rfl<|qd h (BX N · p0 ph0 ·) rfl rfl rfl fun x1 h=>en ?_
 refine ch h rfl ?_ ?_ <;> intro h
 ·refine att 4 [] rfl ?_
  exact rt hF h
 refine atr 4 [] rfl<|kab h rfl rfl rfl (fun b z q=>uJ N b p0 (ph0.y z) q) ?_
 rintro x2 h v1 Φ_1 F1 ⟨ap1,fr1,v2,D1,v3,D2,X1,rfl,rfl,h1,i1,h2,i2⟩
 refine arr 3 [] rfl<|lnz uO rfl fun b_1=>lnz tD rfl fun b_2=>soN 1 vd rfl ⟨rfl,h1.one,trivial⟩ rfl ?_
 refine soN 0 vk rfl ⟨h2.one,rfl,trivial⟩ rfl ?_
 refine arr 5 [34,2] rfl<|kab h rfl rfl rfl (fun b z q=>zy N b x2.1 x2.2 h1.rsl h2.rsl q) ?_
 rintro x4 h v4 Φ_2 F2 ⟨ap2,fr2,v5,D3,v6,D4,rfl,rfl,h3,h4⟩
 replace h1:=h1.fr fr2 (ap2.q 0 rfl) (Dj.sub (ap2.q 2 rfl) i1)
 replace h2:=h2.fr fr2 (ap2.q 1 rfl) (Dj.sub (ap2.q 2 rfl) i2)
 refine lnz uX rfl fun b_3=>soN 0 wY rfl ⟨h3.one,h4.one,trivial⟩ rfl ?_
 refine arr 5 [66] rfl<|qc h (zp N · x2.1 h1.rsl ·) rfl rfl rfl fun x5 h=>arr 2 [] rfl ?_
 obtain ⟨b1,hb_1,h⟩:=bs h
 refine WL.cutN 4 [(23,.bool b1),(3,pQ b_1),(4,pQ b_2),(5,pQ b_3)] ?_ (fun K=>?_)
 rotate_left
 ·refine sp 19 hb_1 rfl (fun hb_1=>?_) fun hb_1=>?_
  ·refine arr 4 [] rfl ?_
   cases hb_1
   exact ku K
  ·refine ly rfl rfl<|ld2 rz 1 rfl<|ly rfl rfl<|qc hb_1 (vU N · x2.2 h2.rsl ·) rfl rfl rfl fun x6 hb_1=>arr 2 [] rfl ?_
   cases hb_1
   exact ku K
 refine en ?_
 refine ch h rfl ?_ ?_ <;> intro h
 ·refine atr 4 [1,0] rfl<|lno h4 rfl<|arr 2 [] rfl ?_
  obtain ⟨b2,hb_2,h⟩:=bs h
  refine WL.cutN 6 [(34,.bool b2)] ?_ (fun K=>?_)
  rotate_left
  ·refine sp 28 hb_2 rfl (fun hb_2=>?_) fun hb_2=>?_
   ·refine arr 3 [66,2,34] rfl<|ly rfl rfl<|qc hb_2 (qD N · x2.1 x4 x2.2 h1.rsl (h3.rslG fc.gives) (h4.rslG ey.gives) h2.rsl ·) rfl rfl rfl fun x7 hb_2=>arr 2 [] rfl ?_
    cases hb_2
    exact ku K
   ·refine arr 6 [] rfl ?_
    cases hb_2
    exact ku K
  refine la rfl<|en ?_
  exact rt hF h
 refine att 2 [] rfl<|wm [0,1,2] [] rfl<|amm 3 [0,66,1,2,2,34] [0,1,2] rfl rfl ?_
 obtain ⟨x8,hx7,h⟩:=bs h
 refine on1 3 (mp rfl (kS [0,1,2]) (pcP rfl (qD N · x2.1 x4 x2.2 h1.rsl (h3.rslG fc.gives) (h4.rslG ey.gives) h2.rsl hx7)) rfl ?_)
 refine amm 1 [4] [0,1,2] rfl rfl ?_
 refine WM.split (d:=39) rfl (fun c5=>?_) (fun c5=>?_)
 ·replace h:=ir h c5
  refine mqG 5 [8,11,12,13,14,15,16,17,18,19,20,21,22,23] rfl (by kernel_rfl) (kN [0,1,2]) (aG y5 rfl (fun w1 hw=>hw.rgO (i:=2) rfl 0 2 [.string x2.1.Name,v2] rfl) rfl) rfl<|mqG 6 [8,11,12,13,14,15,16,17,18,19,20,21,22,23] rfl (by kernel_rfl) (kN [0,1,2]) (aG yj rfl (fun w1 hw=>hw.rgO (i:=0) rfl 0 2 [v5,v6] rfl) rfl) rfl<|mqG 7 [8,11,12,13,14,15,16,17,18,19,20,21,22,23] rfl (by kernel_rfl) (kN [0,1,2]) (aG rz rfl (fun w1 hw=>hw.rgO (i:=1) rfl 0 2 [v3,iV x2.2.Next] rfl) rfl) rfl ?_
  refine mqG 9 [11,12,13,14,15,16,17,18,19,20,21,22,23] rfl (by kernel_rfl) (kN [0,1,2]) (aG y5 rfl (fun w1 hw=>hw.rgO (i:=2) rfl 0 2 [.string x2.1.Name,v2] rfl) rfl) rfl<|mqG 10 [11,12,13,14,15,16,17,18,19,20,21,22,23] rfl (by kernel_rfl) (kN [0,1,2]) (aG rz rfl (fun w1 hw=>hw.rgO (i:=1) rfl 0 2 [v3,iV x2.2.Next] rfl) rfl) rfl ?_
  obtain ⟨x9,hx8,h⟩:=bs h
  refine WM.one 8 (by kernel_rfl) (mcG rfl (fun _ v Φx D w1 hq hw=>Kn.of Kf.nil (ai3 0 1 2 rfl rfl rfl) hw) (bo (js:=[]) (R:=[ob v5,D3,ob v6,D4,ob v2,ob v3,X1]) Io rfl rfl (fun w1 hw ap hl=>zN N (ba hw.fro) x2.1 x4 x2.2 h1.rsl (h3.rslG fc.gives) (h4.rslG ey.gives) h2.rsl  hx8)) rfl ?_)
  rintro v7 Φ_3 F3 ⟨ap3,fr3,v8,D5,rfl,rfl,h5⟩
  replace h1:=h1.fr fr3 (ap3.q 4 rfl) (Dj.sub (ap3.q 6 rfl) i1)
  replace h2:=h2.fr fr3 (ap3.q 5 rfl) (Dj.sub (ap3.q 6 rfl) i2)
  replace h3:=h3.fr fr3 (ap3.q 0 rfl) (ap3.q 1 rfl)
  replace h4:=h4.fr fr3 (ap3.q 2 rfl) (ap3.q 3 rfl)
  obtain ⟨x10,hx9,h⟩:=bs h
  refine WM.one 11 (by kernel_rfl) (mcG rfl (fun _ v Φx D w1 hq hw=>Kn.of Kf.nil (ai3 0 1 2 rfl rfl rfl) hw) (bo (js:=[]) (R:=[ob v7,D5,ob v5,D3,ob v6,D4,ob v2,ob v3,X1]) Iz rfl rfl (fun w1 hw ap hl=>tZ N (ba hw.fro) x2.1 x2.2 h1.rsl h2.rsl  hx9)) rfl ?_)
  rintro v9 Φ_4 F4 ⟨ap4,fr4,v10,D6,X2,rfl,rfl,h6,i3⟩
  replace h1:=h1.fr fr4 (ap4.q 6 rfl) (Dj.sub (ap4.q 8 rfl) i1)
  replace h3:=h3.fr fr4 (ap4.q 2 rfl) (ap4.q 3 rfl)
  replace h4:=h4.fr fr4 (ap4.q 4 rfl) (ap4.q 5 rfl)
  replace h5:=h5.fr fr4 (ap4.q 0 rfl) (ap4.q 1 rfl)
  obtain ⟨x12,hx10,h⟩:=bs h
  refine on1 12 (mpG rfl (kS [0,1,2]) (pcP rfl (wM N · x9 x10 (h5.rslG aF.gives) h6.rsl hx10)) rfl ?_)
  refine amm 2 [13,14] [0,1,2] rfl rfl ?_
  refine WM.split (d:=49) rfl (fun c6=>?_) (fun c6=>?_)
  ·replace h:=ir h c6
   refine mqG 15 [16,17,21,22,23] rfl (by kernel_rfl) (kN [0,1,2]) (aK Gl rfl) rfl<|mqG 16 [17,21,22,23] rfl (by kernel_rfl) (kN [0,1,2]) (cz Kp rfl (fun w1 hw=>hw.rgO (i:=0) rfl 1 1 [v6] rfl)) rfl<|mqG 17 [21,22,23] rfl (by kernel_rfl) (kN [0,1,2]) (lM EK rfl rfl (h4.rslG ey.gives)) rfl<|mqG 18 [19,20,21,22,23] rfl (by kernel_rfl) (kN [0,1,2]) (aK pI rfl) rfl<|mqG 19 [20,21,22,23] rfl (by kernel_rfl) (kN [0,1,2]) (cz CE rfl (fun w1 hw=>hw.rgO (i:=2) rfl 1 1 [v2] rfl)) rfl ?_
   refine mqG 20 [21,22,23] rfl (by kernel_rfl) (kN [0,1,2]) (lM sH rfl rfl h1.rsl) rfl<|mqG 21 [22,23] rfl (by kernel_rfl) (kN [0,1,2]) (HO rfl rfl) rfl<|amm 2 [22,23] [0,1,2] rfl rfl<|WM.nil (by kernel_rfl) ?_
   exact rt hF h
  replace h:=ik h c6
  refine mno 15 [16,17,21,22,23] rfl (by kernel_rfl) (kn Kf.nil (ai3 0 1 2 rfl rfl rfl)) rfl (.inl rfl) rfl rfl<|mno 16 [17,21,22,23] rfl (by kernel_rfl) (kn Kf.nil (ai3 0 1 2 rfl rfl rfl)) rfl (.inl rfl) rfl rfl<|mno 17 [21,22,23] rfl (by kernel_rfl) (kn Kf.nil (ai3 0 1 2 rfl rfl rfl)) rfl (.inl rfl) rfl rfl<|mno 18 [19,20,21,22,23] rfl (by kernel_rfl) (kn Kf.nil (ai3 0 1 2 rfl rfl rfl)) rfl (.inl rfl) rfl rfl<|mno 19 [20,21,22,23] rfl (by kernel_rfl) (kn Kf.nil (ai3 0 1 2 rfl rfl rfl)) rfl (.inl rfl) rfl rfl ?_
  refine mno 20 [21,22,23] rfl (by kernel_rfl) (kn Kf.nil (ai3 0 1 2 rfl rfl rfl)) rfl (.inl rfl) rfl rfl<|mno 21 [22,23] rfl (by kernel_rfl) (kn Kf.nil (ai3 0 1 2 rfl rfl rfl)) rfl (.inl rfl) rfl rfl<|amm 2 [22,23] [0,1,2] rfl rfl<|WM.nil (by kernel_rfl) ?_
  exact rt hF h
 replace h:=ik h c5
 refine mno 5 [8,11,12,13,14,15,16,17,18,19,20,21,22,23] rfl (by kernel_rfl) (kn Kf.nil (ai3 0 1 2 rfl rfl rfl)) rfl (.inl rfl) rfl rfl<|mno 6 [8,11,12,13,14,15,16,17,18,19,20,21,22,23] rfl (by kernel_rfl) (kn Kf.nil (ai3 0 1 2 rfl rfl rfl)) rfl (.inl rfl) rfl rfl<|mno 7 [8,11,12,13,14,15,16,17,18,19,20,21,22,23] rfl (by kernel_rfl) (kn Kf.nil (ai3 0 1 2 rfl rfl rfl)) rfl (.inl rfl) rfl rfl<|mno 8 [11,12,13,14,15,16,17,18,19,20,21,22,23] rfl (by kernel_rfl) (kn Kf.nil (ai3 0 1 2 rfl rfl rfl)) rfl (.inl rfl) rfl rfl ?_
 refine mno 9 [11,12,13,14,15,16,17,18,19,20,21,22,23] rfl (by kernel_rfl) (kn Kf.nil (ai3 0 1 2 rfl rfl rfl)) rfl (.inl rfl) rfl rfl<|mno 10 [11,12,13,14,15,16,17,18,19,20,21,22,23] rfl (by kernel_rfl) (kn Kf.nil (ai3 0 1 2 rfl rfl rfl)) rfl (.inl rfl) rfl rfl<|mno 11 [12,13,14,15,16,17,18,19,20,21,22,23] rfl (by kernel_rfl) (kn Kf.nil (ai3 0 1 2 rfl rfl rfl)) rfl (.inl rfl) rfl rfl<|mno 12 [13,14,15,16,17,18,19,20,21,22,23] rfl (by kernel_rfl) (kn Kf.nil (ai3 0 1 2 rfl rfl rfl)) rfl (.inl rfl) rfl rfl<|amm 2 [13,14] [0,1,2] rfl rfl ?_
 refine mno 15 [16,17,21,22,23] rfl (by kernel_rfl) (kn Kf.nil (ai3 0 1 2 rfl rfl rfl)) rfl (.inl rfl) rfl rfl<|mno 16 [17,21,22,23] rfl (by kernel_rfl) (kn Kf.nil (ai3 0 1 2 rfl rfl rfl)) rfl (.inl rfl) rfl rfl<|mno 17 [21,22,23] rfl (by kernel_rfl) (kn Kf.nil (ai3 0 1 2 rfl rfl rfl)) rfl (.inl rfl) rfl rfl<|mno 18 [19,20,21,22,23] rfl (by kernel_rfl) (kn Kf.nil (ai3 0 1 2 rfl rfl rfl)) rfl (.inl rfl) rfl rfl<|mno 19 [20,21,22,23] rfl (by kernel_rfl) (kn Kf.nil (ai3 0 1 2 rfl rfl rfl)) rfl (.inl rfl) rfl rfl ?_
 refine mno 20 [21,22,23] rfl (by kernel_rfl) (kn Kf.nil (ai3 0 1 2 rfl rfl rfl)) rfl (.inl rfl) rfl rfl<|mno 21 [22,23] rfl (by kernel_rfl) (kn Kf.nil (ai3 0 1 2 rfl rfl rfl)) rfl (.inl rfl) rfl rfl<|amm 2 [22,23] [0,1,2] rfl rfl<|WM.nil (by kernel_rfl) ?_
 exact rt hF h
end Go.Proofs.YtedmfnmbjglmbaaGreat
