/- Printed by a program of ours: each Go function computes its Lean function. -/
import Derived.Test.YtnnkgijdbebnaaaGreatProg
import Derived.Test.YtnnkgijdbebnaaaGreatWExactAddItemWalk4
namespace Go.Proofs.YtnnkgijdbebnaaaGreat
open Eng Tryz
open Go.RowKit (Below)
set_option linter.unusedVariables false
set_option linter.unusedSimpArgs false

set_option maxRecDepth 100000
set_option maxHeartbeats 1000000
variable {Ψ Φ:Hp} {pv0 pv0_0 pv0_1 pv0_2 pv1:Value} {pG0 pG0_0 pG0_1 pG0_2 pG1:List Nat} (N:Nat)
theorem BB (w0:af Ψ Φ []) (p0:(List aS)) (ph0:RSl dD 1 Ψ pG0 pv0 p0) {r:(List aS)} (h:rC N p0=some r) :
  Calls prog 35 [pv0].toArray w0.w (aQ Φ w0.w [] (fun Φ' Fs v=>∃ (sr_0_0:Value) (Dr_0_0:List Nat),v=sr_0_0∧Fs=[ob sr_0_0,Dr_0_0]∧OSl aO 123 1 Φ' Dr_0_0 sr_0_0 r)):=by
 refine eN func35 rfl ntmps35 rfl w0 fun hF=>?_
 unfold rC at h
 refine atr 7 [] rfl<|lnr ph0 rfl ?_
 obtain ⟨x1,hx1,h⟩:=bs h
 refine le' (kM (R:=aO) ss uN Mh rfl rfl rfl (fun _=>⟨.slice none 0 0,rfl,rfl,OSl.nil _ _ _ _⟩) rfl rfl (Int.le_refl _) hx1 (pL hx1)) rfl ?_
 rintro v1 Φ_1 D1 ⟨fr1,h1⟩
 refine wl0<|art 8 [] rfl ?_
 refine lin (σ:=Hp × (List aS) × List Nat × Int) (fun s=>[(0,pv0),(3,v1),(4,iV s.2.2.2)]) (fun s=>St w0 s.1 [] [s.2.2.1,ob v1]) (fun m s=>l7 N p0 m s.2.1 s.2.2.2=some r∧(OSl aO 123 1 s.1 s.2.2.1 v1 s.2.1)) (Φ_1,x1,[],0) N ⟨h,h1⟩ (sx [0,0] []) (fun n1 ih1 s hm=>?_)
 obtain ⟨Φ_2,s1,D2,s2⟩:=s
 obtain ⟨h,k1⟩:=hm
 dsimp only at h k1 ⊢
 unfold l7 at h
 refine atr 5 [] rfl<|lnr ph0 rfl<|la rfl<|en ?_
 refine ch h rfl ?_ ?_ <;> intro h
 ·refine atr 8 [] rfl ?_
  obtain ⟨x2,hx2,h⟩:=bs h
  obtain ⟨cs1,F1,-,g1,hb1,hs1,r1⟩:=ph0.el (a7 hx2).2.2
  obtain ⟨v2,G1,rfl,hq1,h2⟩:=r1
  obtain rfl:=hq1.symm
  refine lia ph0 hx2 rfl<|lhx 0 1 g1 rfl<|kab h rfl rfl rfl (fun b z q=>DH N b x2 (h2.y z) q) ?_
  rintro x3 h v3 Φ_3 F2 ⟨ap1,fr2,v4,rfl,rfl,h3⟩
  replace k1:=k1.fr fr2 (ap1.q 1 rfl) (ap1.q 0 rfl)
  obtain ⟨x4,hx4,h⟩:=bs h
  obtain ⟨cs2,F3,-,g2,hb2,hs2,r2⟩:=k1.elS (a7 hx4).2.2
  obtain ⟨v5,rfl,rfl,h4⟩:=r2
  have h5:=h4.rsl
  refine lio k1 hx4 rfl ?_
  have r3:aO Φ_3 ((ob v4++[])) [v4] x3:=⟨v4,rfl,rfl,h3⟩
  refine lu (sM (js:=[2]) (Rr:=[ob v4,D2]) (vs:=[v4]) (x':=x3) aO.lasts GY rfl rfl rfl rfl ⟨h3.one,trivial⟩ rfl k1 (hP hx4) r3 (aO.knows _ _ _ _ r3) (fun ap=>ap.q 1 rfl) (fun ap=>by simpa [bl] using (ap.q 0 rfl))) rfl ?_
  rintro Φ_4 D3 ⟨⟨ap2,fr3⟩,sp1,h6⟩
  refine wlL [D3,ob v1] (smg [2,1] rfl (by simpa [List.append_assoc,bl] using sp1))<|art 7 [] rfl ?_
  exact lb [0,0] [] (ih1 (_,_,_,_) ⟨h,h6⟩)
 refine att 6 [] rfl ?_
 exact rtg [1,0] hF (ay.one rfl) rfl (by cases h; exact fun w1 hw=>⟨v1,D2,rfl,rfl,k1⟩)
theorem EX (w0:af Ψ Φ []) (p0:ab) (ph0_0:RSl (RI .i64) 1 Ψ pG0_0 pv0_0 p0.Ids) (ph0_1:RSl (RI .i64) 1 Ψ pG0_1 pv0_1 p0.Hits) {r:ab} (h:qf N p0=some r) :
  Calls prog 230 [.agg [pv0_0,pv0_1].toArray].toArray w0.w (aQ Φ w0.w [] (fun Φ' Fs v=>∃ (sr_0_0:Value) (sr_0_1:Value),v = .agg [sr_0_0,sr_0_1].toArray∧Fs=[ob sr_0_0,ob sr_0_1]∧OSl (RI .i64) 3 1 Φ' [] sr_0_0 r.Ids∧OSl (RI .i64) 3 1 Φ' [] sr_0_1 r.Hits)):=by
 refine eN func230 rfl ntmps230 rfl w0 fun hF=>?_
 unfold qf at h
 refine sr<|lbx rfl fun b_1=>lnz eD rfl fun b_2=>en<|sr<|lnz eD rfl fun b_3=>arr 5 [0,64] rfl<|kab h rfl rfl rfl (fun b z q=>jE N b p0.Ids (ph0_0.y z) q) ?_
 rintro x1 h v1 Φ_1 F1 ⟨ap1,fr1,v2,rfl,rfl,h1⟩
 refine lf o2 rfl rfl rfl<|so1 0 kO rfl h1.one ?_
 refine arr 5 [1,64] rfl<|kab h rfl rfl rfl (fun b z q=>jE N b p0.Hits (ph0_1.y z) q) ?_
 rintro x2 h v3 Φ_2 F2 ⟨ap2,fr2,v4,rfl,rfl,h2⟩
 replace h1:=h1.fr fr2 (ap2.q 0 rfl) dN
 refine lf lW rfl rfl rfl<|so1 0 kO rfl h2.one ?_
 refine arr 4 [2] rfl<|soN 1 sO rfl ⟨h1.one,h2.one,trivial⟩ rfl ?_
 refine en ?_
 exact rtg [1,0] hF (ay.one (bB zM rfl (fun w1 hw=>hw.rgO (i:=1) rfl 0 2 [v1,v3] rfl) rfl)) rfl (by cases h; exact fun w1 hw=>⟨v1,v3,rfl,rfl,h1,h2⟩)
theorem Bj (w0:af Ψ Φ []) (p0:(List ab)) (ph0:RSl cD 2 Ψ pG0 pv0 p0) {r:(List ab)} (h:rH N p0=some r) :
  Calls prog 202 [pv0].toArray w0.w (aQ Φ w0.w [] (fun Φ' Fs v=>∃ (sr_0_0:Value) (Dr_0_0:List Nat),v=sr_0_0∧Fs=[ob sr_0_0,Dr_0_0]∧OSl ax 160 2 Φ' Dr_0_0 sr_0_0 r)):=by
 refine eN func202 rfl ntmps202 rfl w0 fun hF=>?_
 unfold rH at h
 refine atr 7 [] rfl<|lnr ph0 rfl ?_
 obtain ⟨x1,hx1,h⟩:=bs h
 refine le' (kM (R:=ax) cg eD MP rfl rfl rfl (fun _=>⟨.slice none 0 0,.slice none 0 0,rfl,rfl,OSl.nil _ _ _ _,OSl.nil _ _ _ _⟩) rfl rfl (Int.le_refl _) hx1 (pL hx1)) rfl ?_
 rintro v1 Φ_1 D1 ⟨fr1,h1⟩
 refine wl0<|art 8 [] rfl ?_
 refine lin (σ:=Hp × (List ab) × List Nat × Int) (fun s=>[(0,pv0),(3,v1),(4,iV s.2.2.2)]) (fun s=>St w0 s.1 [] [s.2.2.1,ob v1]) (fun m s=>l9 N p0 m s.2.1 s.2.2.2=some r∧(OSl ax 160 2 s.1 s.2.2.1 v1 s.2.1)) (Φ_1,x1,[],0) N ⟨h,h1⟩ (sx [0,0] []) (fun n1 ih1 s hm=>?_)
 obtain ⟨Φ_2,s1,D2,s2⟩:=s
 obtain ⟨h,k1⟩:=hm
 dsimp only at h k1 ⊢
 unfold l9 at h
 refine atr 5 [] rfl<|lnr ph0 rfl<|la rfl<|en ?_
 refine ch h rfl ?_ ?_ <;> intro h
 ·refine atr 8 [] rfl ?_
  obtain ⟨x2,hx2,h⟩:=bs h
  obtain ⟨cs1,F1,-,g1,hb1,hs1,r1⟩:=ph0.el (a7 hx2).2.2
  obtain ⟨v2,G1,v3,G2,rfl,rfl,h2,h3⟩:=r1
  refine lia ph0 hx2 rfl<|lhx 0 2 g1 rfl<|kab h rfl rfl rfl (fun b z q=>EX N b x2 (h2.y z) (h3.y z) q) ?_
  rintro x3 h v4 Φ_3 F2 ⟨ap1,fr2,v5,v6,rfl,rfl,h4,h5⟩
  replace k1:=k1.fr fr2 (ap1.q 1 rfl) (ap1.q 0 rfl)
  obtain ⟨x4,hx4,h⟩:=bs h
  obtain ⟨cs2,F3,-,g2,hb2,hs2,r2⟩:=k1.elS (a7 hx4).2.2
  obtain ⟨v7,v8,rfl,rfl,h6,h7⟩:=r2
  have h8:=h6.rsl
  have h9:=h7.rsl
  refine lio k1 hx4 rfl ?_
  have r3:ax Φ_3 ((ob v5++[])++((ob v6++[]))) [v5,v6] x3:=⟨v5,v6,rfl,rfl,h4,h5⟩
  refine lu (sM (js:=[3]) (Rr:=[ob v5,ob v6,D2]) (vs:=[v5,v6]) (x':=x3) ax.lasts sO rfl rfl rfl rfl ⟨h4.one,h5.one,trivial⟩ rfl k1 (hP hx4) r3 (ax.knows _ _ _ _ r3) (fun ap=>ap.q 2 rfl) (fun ap=>by simpa [bl] using (Dj.app (ap.q 0 rfl) (ap.q 1 rfl)))) rfl ?_
  rintro Φ_4 D3 ⟨⟨ap2,fr3⟩,sp1,h10⟩
  refine wlL [D3,ob v1] (smg [3,1,1] rfl (by simpa [List.append_assoc,bl] using sp1))<|art 7 [] rfl ?_
  exact lb [0,0] [] (ih1 (_,_,_,_) ⟨h,h10⟩)
 refine att 6 [] rfl ?_
 exact rtg [1,0] hF (ay.one rfl) rfl (by cases h; exact fun w1 hw=>⟨v1,D2,rfl,rfl,k1⟩)
theorem AO (w0:af Ψ Φ []) (p0:aa) (ph0_0:RSl cD 2 Ψ pG0_0 pv0_0 p0.Toks) {r:aa} (h:lH N p0=some r) :
  Calls prog 170 [.agg [pv0_0].toArray].toArray w0.w (aQ Φ w0.w [] (fun Φ' Fs v=>∃ (sr_0_0:Value) (Dr_0_0:List Nat),v = .agg [sr_0_0].toArray∧Fs=[ob sr_0_0,Dr_0_0]∧OSl ax 160 2 Φ' Dr_0_0 sr_0_0 r.Toks)):=by
 refine eN func170 rfl ntmps170 rfl w0 fun hF=>?_
 unfold lH at h
 refine sr ?_
 refine ln (si (C:=#[pv0_0]) rfl rfl) rfl (fun b_1=>?_)
 refine ln (ig (C:=#[.slice none 0 0]) tI rfl) rfl (fun b_2=>?_)
 refine en<|sr ?_
 refine ln (ig (C:=#[.slice none 0 0]) tI rfl) rfl (fun b_3=>?_)
 refine arr 5 [0,64] rfl<|kab h rfl rfl rfl (fun b z q=>Bj N b p0.Toks (ph0_0.y z) q) ?_
 rintro x1 h v1 Φ_1 F1 ⟨ap1,fr1,v2,D1,rfl,rfl,h1⟩
 refine lf gg rfl rfl rfl<|so1 0 El rfl h1.one ?_
 refine en<|sr<|lq (ao zo rfl (fun w1 hw=>hw.rgO (i:=0) rfl 0 1 [v1] rfl) rfl) rfl<|soN 1 EQ rfl ⟨h1.one,trivial⟩ rfl ?_
 refine en ?_
 exact rtg [0,0] hF (ay.one (bB zo rfl (fun w1 hw=>hw.rgO (i:=1) rfl 0 1 [v1] rfl) rfl)) rfl (by cases h; exact fun w1 hw=>⟨v1,D1,rfl,rfl,h1⟩)
theorem yg (w0:af Ψ Φ []) (p0:(List aa)) (ph0:RSl ed 1 Ψ pG0 pv0 p0) {r:(List aa)} (h:mw N p0=some r) :
  Calls prog 121 [pv0].toArray w0.w (aQ Φ w0.w [] (fun Φ' Fs v=>∃ (sr_0_0:Value) (Dr_0_0:List Nat),v=sr_0_0∧Fs=[ob sr_0_0,Dr_0_0]∧OSl aK 130 1 Φ' Dr_0_0 sr_0_0 r)):=by
 refine eN func121 rfl ntmps121 rfl w0 fun hF=>?_
 unfold mw at h
 refine atr 7 [] rfl<|lnr ph0 rfl ?_
 obtain ⟨x1,hx1,h⟩:=bs h
 refine le' (kM (R:=aK) pw tI N4 rfl rfl rfl (fun _=>⟨.slice none 0 0,[],rfl,rfl,OSl.nil _ _ _ _⟩) rfl rfl (Int.le_refl _) hx1 (pL hx1)) rfl ?_
 rintro v1 Φ_1 D1 ⟨fr1,h1⟩
 refine wl0<|art 8 [] rfl ?_
 refine lin (σ:=Hp × (List aa) × List Nat × Int) (fun s=>[(0,pv0),(3,v1),(4,iV s.2.2.2)]) (fun s=>St w0 s.1 [] [s.2.2.1,ob v1]) (fun m s=>j9 N p0 m s.2.1 s.2.2.2=some r∧(OSl aK 130 1 s.1 s.2.2.1 v1 s.2.1)) (Φ_1,x1,[],0) N ⟨h,h1⟩ (sx [0,0] []) (fun n1 ih1 s hm=>?_)
 obtain ⟨Φ_2,s1,D2,s2⟩:=s
 obtain ⟨h,k1⟩:=hm
 dsimp only at h k1 ⊢
 unfold j9 at h
 refine atr 5 [] rfl<|lnr ph0 rfl<|la rfl<|en ?_
 refine ch h rfl ?_ ?_ <;> intro h
 ·refine atr 8 [] rfl ?_
  obtain ⟨x2,hx2,h⟩:=bs h
  obtain ⟨cs1,F1,-,g1,hb1,hs1,r1⟩:=ph0.el (a7 hx2).2.2
  obtain ⟨v2,G1,rfl,hq1,h2⟩:=r1
  obtain rfl:=hq1.symm
  refine lia ph0 hx2 rfl<|lhx 0 1 g1 rfl<|kab h rfl rfl rfl (fun b z q=>AO N b x2 (h2.y z) q) ?_
  rintro x3 h v3 Φ_3 F2 ⟨ap1,fr2,v4,D3,rfl,rfl,h3⟩
  replace k1:=k1.fr fr2 (ap1.q 1 rfl) (ap1.q 0 rfl)
  obtain ⟨x4,hx4,h⟩:=bs h
  obtain ⟨cs2,F3,-,g2,hb2,hs2,r2⟩:=k1.elS (a7 hx4).2.2
  obtain ⟨v5,D4,rfl,rfl,h4⟩:=r2
  have h5:=h4.rslG ax.gives
  refine lio k1 hx4 rfl ?_
  have r3:aK Φ_3 ((ob v4++D3)) [v4] x3:=⟨v4,D3,rfl,rfl,h3⟩
  refine lu (sM (js:=[3]) (Rr:=[ob v4,D3,D2]) (vs:=[v4]) (x':=x3) aK.lasts EQ rfl rfl rfl rfl ⟨h3.one,trivial⟩ rfl k1 (hP hx4) r3 (aK.knows _ _ _ _ r3) (fun ap=>ap.q 2 rfl) (fun ap=>by simpa [bl] using (Dj.app (ap.q 0 rfl) (ap.q 1 rfl)))) rfl ?_
  rintro Φ_4 D5 ⟨⟨ap2,fr3⟩,sp1,h6⟩
  refine wlL [D5,ob v1] (smg [3,1,1] rfl (by simpa [List.append_assoc,bl] using sp1))<|art 7 [] rfl ?_
  exact lb [0,0] [] (ih1 (_,_,_,_) ⟨h,h6⟩)
 refine att 6 [] rfl ?_
 exact rtg [1,0] hF (ay.one rfl) rfl (by cases h; exact fun w1 hw=>⟨v1,D2,rfl,rfl,k1⟩)
theorem EF (w0:af Ψ Φ []) (p0:aF) (ph0_0:RSl ed 1 Ψ pG0_0 pv0_0 p0.Levels) {r:aF} (h:qo N p0=some r) :
  Calls prog 72 [.agg [pv0_0].toArray].toArray w0.w (aQ Φ w0.w [] (fun Φ' Fs v=>∃ (sr_0_0:Value) (Dr_0_0:List Nat),v = .agg [sr_0_0].toArray∧Fs=[ob sr_0_0,Dr_0_0]∧OSl aK 130 1 Φ' Dr_0_0 sr_0_0 r.Levels)):=by
 refine eN func72 rfl ntmps72 rfl w0 fun hF=>?_
 unfold qo at h
 refine sr ?_
 refine ln (si (C:=#[pv0_0]) rfl rfl) rfl (fun b_1=>?_)
 refine ln (ig (C:=#[.slice none 0 0]) rG rfl) rfl (fun b_2=>?_)
 refine en<|sr ?_
 refine ln (ig (C:=#[.slice none 0 0]) rG rfl) rfl (fun b_3=>?_)
 refine arr 5 [0,64] rfl<|kab h rfl rfl rfl (fun b z q=>yg N b p0.Levels (ph0_0.y z) q) ?_
 rintro x1 h v1 Φ_1 F1 ⟨ap1,fr1,v2,D1,rfl,rfl,h1⟩
 refine lf jA rfl rfl rfl<|so1 0 Hb rfl h1.one ?_
 refine en<|sr<|lq (ao xN rfl (fun w1 hw=>hw.rgO (i:=0) rfl 0 1 [v1] rfl) rfl) rfl<|soN 1 xK rfl ⟨h1.one,trivial⟩ rfl ?_
 refine en ?_
 exact rtg [0,0] hF (ay.one (bB xN rfl (fun w1 hw=>hw.rgO (i:=1) rfl 0 1 [v1] rfl) rfl)) rfl (by cases h; exact fun w1 hw=>⟨v1,D1,rfl,rfl,h1⟩)
theorem Ce (w0:af Ψ Φ []) (p0:(List aF)) (ph0:RSl fM 1 Ψ pG0 pv0 p0) {r:(List aF)} (h:rZ N p0=some r) :
  Calls prog 36 [pv0].toArray w0.w (aQ Φ w0.w [] (fun Φ' Fs v=>∃ (sr_0_0:Value) (Dr_0_0:List Nat),v=sr_0_0∧Fs=[ob sr_0_0,Dr_0_0]∧OSl aP 126 1 Φ' Dr_0_0 sr_0_0 r)):=by
 refine eN func36 rfl ntmps36 rfl w0 fun hF=>?_
 unfold rZ at h
 refine atr 7 [] rfl<|lnr ph0 rfl ?_
 obtain ⟨x1,hx1,h⟩:=bs h
 refine le' (kM (R:=aP) xO rG Ng rfl rfl rfl (fun _=>⟨.slice none 0 0,[],rfl,rfl,OSl.nil _ _ _ _⟩) rfl rfl (Int.le_refl _) hx1 (pL hx1)) rfl ?_
 rintro v1 Φ_1 D1 ⟨fr1,h1⟩
 refine wl0<|art 8 [] rfl ?_
 refine lin (σ:=Hp × (List aF) × List Nat × Int) (fun s=>[(0,pv0),(3,v1),(4,iV s.2.2.2)]) (fun s=>St w0 s.1 [] [s.2.2.1,ob v1]) (fun m s=>lg N p0 m s.2.1 s.2.2.2=some r∧(OSl aP 126 1 s.1 s.2.2.1 v1 s.2.1)) (Φ_1,x1,[],0) N ⟨h,h1⟩ (sx [0,0] []) (fun n1 ih1 s hm=>?_)
 obtain ⟨Φ_2,s1,D2,s2⟩:=s
 obtain ⟨h,k1⟩:=hm
 dsimp only at h k1 ⊢
 unfold lg at h
 refine atr 5 [] rfl<|lnr ph0 rfl<|la rfl<|en ?_
 refine ch h rfl ?_ ?_ <;> intro h
 ·refine atr 8 [] rfl ?_
  obtain ⟨x2,hx2,h⟩:=bs h
  obtain ⟨cs1,F1,-,g1,hb1,hs1,r1⟩:=ph0.el (a7 hx2).2.2
  obtain ⟨v2,G1,rfl,hq1,h2⟩:=r1
  obtain rfl:=hq1.symm
  refine lia ph0 hx2 rfl<|lhx 0 1 g1 rfl<|kab h rfl rfl rfl (fun b z q=>EF N b x2 (h2.y z) q) ?_
  rintro x3 h v3 Φ_3 F2 ⟨ap1,fr2,v4,D3,rfl,rfl,h3⟩
  replace k1:=k1.fr fr2 (ap1.q 1 rfl) (ap1.q 0 rfl)
  obtain ⟨x4,hx4,h⟩:=bs h
  obtain ⟨cs2,F3,-,g2,hb2,hs2,r2⟩:=k1.elS (a7 hx4).2.2
  obtain ⟨v5,D4,rfl,rfl,h4⟩:=r2
  have h5:=h4.rslG aK.gives
  refine lio k1 hx4 rfl ?_
  have r3:aP Φ_3 ((ob v4++D3)) [v4] x3:=⟨v4,D3,rfl,rfl,h3⟩
  refine lu (sM (js:=[3]) (Rr:=[ob v4,D3,D2]) (vs:=[v4]) (x':=x3) aP.lasts xK rfl rfl rfl rfl ⟨h3.one,trivial⟩ rfl k1 (hP hx4) r3 (aP.knows _ _ _ _ r3) (fun ap=>ap.q 2 rfl) (fun ap=>by simpa [bl] using (Dj.app (ap.q 0 rfl) (ap.q 1 rfl)))) rfl ?_
  rintro Φ_4 D5 ⟨⟨ap2,fr3⟩,sp1,h6⟩
  refine wlL [D5,ob v1] (smg [3,1,1] rfl (by simpa [List.append_assoc,bl] using sp1))<|art 7 [] rfl ?_
  exact lb [0,0] [] (ih1 (_,_,_,_) ⟨h,h6⟩)
 refine att 6 [] rfl ?_
 exact rtg [1,0] hF (ay.one rfl) rfl (by cases h; exact fun w1 hw=>⟨v1,D2,rfl,rfl,k1⟩)
theorem eT (w0:af Ψ Φ []) (p0:aA) (ph0_0:RSl dD 1 Ψ pG0_0 pv0_0 p0.Alphas) (ph0_1:RSl fM 1 Ψ pG0_1 pv0_1 p0.Rules) {r:aA} (h:lN N p0=some r) :
  Calls prog 11 [.agg [pv0_0,pv0_1].toArray].toArray w0.w (aQ Φ w0.w [] (fun Φ' Fs v=>∃ (sr_0_0:Value) (Dr_0_0:List Nat) (sr_0_1:Value) (Dr_0_1:List Nat),v = .agg [sr_0_0,sr_0_1].toArray∧Fs=[ob sr_0_0,Dr_0_0,ob sr_0_1,Dr_0_1]∧OSl aO 123 1 Φ' Dr_0_0 sr_0_0 r.Alphas∧OSl aP 126 1 Φ' Dr_0_1 sr_0_1 r.Rules)):=by
 refine eN func11 rfl ntmps11 rfl w0 fun hF=>?_
 unfold lN at h
 refine sr<|lbx rfl fun b_1=>lnz j6 rfl fun b_2=>en<|sr<|lnz j6 rfl fun b_3=>arr 5 [0,64] rfl<|kab h rfl rfl rfl (fun b z q=>BB N b p0.Alphas (ph0_0.y z) q) ?_
 rintro x1 h v1 Φ_1 F1 ⟨ap1,fr1,v2,D1,rfl,rfl,h1⟩
 refine lf to rfl rfl rfl<|so1 0 Jy rfl h1.one ?_
 refine arr 5 [1,64] rfl<|kab h rfl rfl rfl (fun b z q=>Ce N b p0.Rules (ph0_1.y z) q) ?_
 rintro x2 h v3 Φ_2 F2 ⟨ap2,fr2,v4,D2,rfl,rfl,h2⟩
 replace h1:=h1.fr fr2 (ap2.q 0 rfl) (ap2.q 1 rfl)
 refine lf wk rfl rfl rfl<|so1 0 IN rfl h2.one ?_
 refine arr 4 [2] rfl<|soN 1 kI rfl ⟨h1.one,h2.one,trivial⟩ rfl ?_
 refine en ?_
 exact rtg [2,2,0,0] hF (ay.one (bB Gl rfl (fun w1 hw=>hw.rgO (i:=1) rfl 0 2 [v1,v3] rfl) rfl)) rfl (by cases h; exact fun w1 hw=>⟨v1,D1,v3,D2,rfl,rfl,h1,h2⟩)
theorem CG (w0:af Ψ Φ []) (p0:aw) (ph0_0:RSl az 3 Ψ pG0_0 pv0_0 p0.Fields) {r:aw} (h:rM N p0=some r) :
  Calls prog 122 [.agg [.string p0.Kind,pv0_0].toArray].toArray w0.w (aQ Φ w0.w [] (fun Φ' Fs v=>∃ (sr_0_0:Value),v = .agg [.string r.Kind,sr_0_0].toArray∧Fs=[ob sr_0_0]∧OSl az 193 3 Φ' [] sr_0_0 r.Fields)):=by
 refine eN func122 rfl ntmps122 rfl w0 fun hF=>?_
 unfold rM at h
 refine sr<|lbx rfl fun b_1=>lnz kj rfl fun b_2=>en<|sr<|lnz kj rfl fun b_3=>arr 6 [0,64,0] rfl<|so1 0 nA rfl rfl ?_
 refine arr 5 [1,64] rfl<|kab h rfl rfl rfl (fun b z q=>vz N b p0.Fields (ph0_0.y z) q) ?_
 rintro x1 h v1 Φ_1 F1 ⟨ap1,fr1,v2,rfl,rfl,h1⟩
 refine lf Dc rfl rfl rfl<|so1 0 AG rfl h1.one ?_
 refine arr 4 [2] rfl<|soN 1 kL rfl ⟨rfl,h1.one,trivial⟩ rfl ?_
 refine en ?_
 exact rtg [0] hF (ay.one (bB pq rfl (fun w1 hw=>hw.rgO (i:=1) rfl 0 2 [.string p0.Kind,v1] rfl) rfl)) rfl (by cases h; exact fun w1 hw=>⟨v1,rfl,rfl,h1⟩)
theorem Bu (w0:af Ψ Φ []) (p0:aC) (ph0_0:RSl az 3 Ψ pG0_0 pv0_0 p0.F.Fields) {r:aC} (h:nK N p0=some r) :
  Calls prog 73 [.agg [iV p0.Id,.string p0.F.Kind,pv0_0].toArray].toArray w0.w (aQ Φ w0.w [] (fun Φ' Fs v=>∃ (sr_0_0:Value),v = .agg [iV r.Id,.string r.F.Kind,sr_0_0].toArray∧Fs=[ob sr_0_0]∧OSl az 193 3 Φ' [] sr_0_0 r.F.Fields)):=by
 refine eN func73 rfl ntmps73 rfl w0 fun hF=>?_
 unfold nK at h
 refine sr<|lbx rfl fun b_1=>lnz uM rfl fun b_2=>en<|sr<|lnz uM rfl fun b_3=>arr 6 [0,64,0] rfl<|so1 0 j5 rfl rfl ?_
 refine arr 5 [1,66] rfl<|kab h rfl rfl rfl (fun b z q=>CG N b p0.F (ph0_0.y z) q) ?_
 rintro x1 h v1 Φ_1 F1 ⟨ap1,fr1,v2,rfl,rfl,h1⟩
 refine lf xG rfl rfl rfl<|soN 0 kL rfl ⟨rfl,h1.one,trivial⟩ rfl ?_
 refine arr 4 [3] rfl<|soN 1 vP rfl ⟨rfl,rfl,h1.one,trivial⟩ rfl ?_
 refine en ?_
 exact rtg [0] hF (ay.one (bB GC rfl (fun w1 hw=>hw.rgO (i:=1) rfl 0 3 [iV p0.Id,.string x1.Kind,v2] rfl) rfl)) rfl (by cases h; exact fun w1 hw=>⟨v2,rfl,rfl,h1⟩)
theorem z9 (w0:af Ψ Φ []) (p0:(List aC)) (ph0:RSl bE 3 Ψ pG0 pv0 p0) {r:(List aC)} (h:pe N p0=some r) :
  Calls prog 37 [pv0].toArray w0.w (aQ Φ w0.w [] (fun Φ' Fs v=>∃ (sr_0_0:Value) (Dr_0_0:List Nat),v=sr_0_0∧Fs=[ob sr_0_0,Dr_0_0]∧OSl bG 156 3 Φ' Dr_0_0 sr_0_0 r)):=by
 refine eN func37 rfl ntmps37 rfl w0 fun hF=>?_
 unfold pe at h
 refine atr 7 [] rfl<|lnr ph0 rfl ?_
 obtain ⟨x1,hx1,h⟩:=bs h
 refine le' (kM (R:=bG) xR uM Lm rfl rfl rfl (fun _=>⟨.slice none 0 0,rfl,rfl,OSl.nil _ _ _ _⟩) rfl rfl (Int.le_refl _) hx1 (pL hx1)) rfl ?_
 rintro v1 Φ_1 D1 ⟨fr1,h1⟩
 refine wl0<|art 8 [] rfl ?_
 refine lin (σ:=Hp × (List aC) × List Nat × Int) (fun s=>[(0,pv0),(3,v1),(4,iV s.2.2.2)]) (fun s=>St w0 s.1 [] [s.2.2.1,ob v1]) (fun m s=>kg N p0 m s.2.1 s.2.2.2=some r∧(OSl bG 156 3 s.1 s.2.2.1 v1 s.2.1)) (Φ_1,x1,[],0) N ⟨h,h1⟩ (sx [0,0] []) (fun n1 ih1 s hm=>?_)
 obtain ⟨Φ_2,s1,D2,s2⟩:=s
 obtain ⟨h,k1⟩:=hm
 dsimp only at h k1 ⊢
 unfold kg at h
 refine atr 5 [] rfl<|lnr ph0 rfl<|la rfl<|en ?_
 refine ch h rfl ?_ ?_ <;> intro h
 ·refine atr 8 [] rfl ?_
  obtain ⟨x2,hx2,h⟩:=bs h
  obtain ⟨cs1,F1,-,g1,hb1,hs1,r1⟩:=ph0.el (a7 hx2).2.2
  obtain ⟨v2,G1,rfl,hq1,h2⟩:=r1
  obtain rfl:=hq1.symm
  refine lia ph0 hx2 rfl<|lhx 0 3 g1 rfl<|kab h rfl rfl rfl (fun b z q=>Bu N b x2 (h2.y z) q) ?_
  rintro x3 h v3 Φ_3 F2 ⟨ap1,fr2,v4,rfl,rfl,h3⟩
  replace k1:=k1.fr fr2 (ap1.q 1 rfl) (ap1.q 0 rfl)
  obtain ⟨x4,hx4,h⟩:=bs h
  obtain ⟨cs2,F3,-,g2,hb2,hs2,r2⟩:=k1.elS (a7 hx4).2.2
  obtain ⟨v5,rfl,rfl,h4⟩:=r2
  have h5:=h4.rsl
  refine lio k1 hx4 rfl ?_
  have r3:bG Φ_3 ((ob v4++[])) [iV x3.Id,.string x3.F.Kind,v4] x3:=⟨v4,rfl,rfl,h3⟩
  refine lu (sM (js:=[2]) (Rr:=[ob v4,D2]) (vs:=[iV x3.Id,.string x3.F.Kind,v4]) (x':=x3) bG.lasts vP rfl rfl rfl rfl ⟨rfl,rfl,h3.one,trivial⟩ rfl k1 (hP hx4) r3 (bG.knows _ _ _ _ r3) (fun ap=>ap.q 1 rfl) (fun ap=>by simpa [bl] using (ap.q 0 rfl))) rfl ?_
  rintro Φ_4 D3 ⟨⟨ap2,fr3⟩,sp1,h6⟩
  refine wlL [D3,ob v1] (smg [2,1] rfl (by simpa [List.append_assoc,bl] using sp1))<|art 7 [] rfl ?_
  exact lb [0,0] [] (ih1 (_,_,_,_) ⟨h,h6⟩)
 refine att 6 [] rfl ?_
 exact rtg [1,0] hF (ay.one rfl) rfl (by cases h; exact fun w1 hw=>⟨v1,D2,rfl,rfl,k1⟩)
theorem ci (w0:af Ψ Φ []) (p0:ah) (ph0_0:RSl bE 3 Ψ pG0_0 pv0_0 p0.Items) {r:ah} (h:iJ N p0=some r) :
  Calls prog 12 [.agg [pv0_0,iV p0.Next].toArray].toArray w0.w (aQ Φ w0.w [] (fun Φ' Fs v=>∃ (sr_0_0:Value) (Dr_0_0:List Nat),v = .agg [sr_0_0,iV r.Next].toArray∧Fs=[ob sr_0_0,Dr_0_0]∧OSl bG 156 3 Φ' Dr_0_0 sr_0_0 r.Items)):=by
 refine eN func12 rfl ntmps12 rfl w0 fun hF=>?_
 unfold iJ at h
 refine sr<|lbx rfl fun b_1=>lnz IZ rfl fun b_2=>en<|sr<|lnz IZ rfl fun b_3=>arr 5 [0,64] rfl<|kab h rfl rfl rfl (fun b z q=>z9 N b p0.Items (ph0_0.y z) q) ?_
 rintro x1 h v1 Φ_1 F1 ⟨ap1,fr1,v2,D1,rfl,rfl,h1⟩
 refine lf IE rfl rfl rfl<|so1 0 Oa rfl h1.one ?_
 refine arr 6 [1,64,1] rfl<|so1 0 j5 rfl rfl ?_
 refine arr 4 [2] rfl<|soN 1 KY rfl ⟨h1.one,rfl,trivial⟩ rfl ?_
 refine en ?_
 exact rtg [0,0] hF (ay.one (bB y6 rfl (fun w1 hw=>hw.rgO (i:=1) rfl 0 2 [v1,iV p0.Next] rfl) rfl)) rfl (by cases h; exact fun w1 hw=>⟨v1,D1,rfl,rfl,h1⟩)
theorem fU (w0:af Ψ Φ []) (p0:(List Int)) (ph0:RSl (RI .i64) 1 Ψ pG0 pv0 p0) {r:(List Int)} (h:bT N p0=some r) :
  Calls prog 74 [pv0].toArray w0.w (aQ Φ w0.w [] (fun Φ' Fs v=>∃ (sr_0_0:Value),v=sr_0_0∧Fs=[ob sr_0_0]∧OSl (RI .i64) 3 1 Φ' [] sr_0_0 r)):=by
 refine eN func74 rfl ntmps74 rfl w0 fun hF=>?_
 unfold bT at h
 refine att 6 [] rfl ?_
 rcases RSl.nilOr ph0 with ⟨hxs1,cc1,hv1⟩ | ⟨a1,cc1,hv1⟩
 ·replace h:some []=some r:=by simpa [hxs1,app] using h
  refine atr 2 [] rfl<|lq (oc aR (congrArg some hv1) rfl) rfl<|en ?_
  refine cd rfl (fun c=>?_) (fun c=>by simp at c)
  refine att 4 [] rfl ?_
  refine WT.ret hF (ay.one rfl) (fun w1 hw=>?_)
  cases h
  replace hw:=hw.addNil
  refine bZ (js:=[0]) hw rfl ⟨.slice none 0 0,rfl,rfl,OSl.nil _ _ _ _⟩
 refine atr 2 [] rfl<|lq (oc aR (congrArg some hv1) rfl) rfl<|en ?_
 refine cd rfl (fun c=>by simp at c) (fun c=>?_)
 refine atr 3 [] rfl<|le' (io (R:=RI .i64) RI.lasts aR o7 rfl rfl) rfl ?_
 rintro v1 Φ_1 D1 ⟨fr1,h1⟩
 refine la rfl<|lu0 ph0 fun h2=>?_
 obtain ⟨x1,hx1,h⟩:=bs h
 refine le' (cP RI.lasts RI.one RI.flat aR sP rfl rfl rfl rfl rfl (js:=[0]) (Rr:=[]) rfl h1 h2 hx1) rfl ?_
 rintro v2 Φ_2 D2 ⟨⟨ap1,fr2⟩,h3⟩
 refine la rfl<|en ?_
 exact rtg [0] hF (ay.one rfl) rfl (by cases h; exact fun w1 hw=>⟨v2,rfl,rfl,h3⟩)
theorem AB (w0:af Ψ Φ []) (p0:aA) (ph0_0:RSl dD 1 Ψ pG0_0 pv0_0 p0.Alphas) (ph0_1:RSl fM 1 Ψ pG0_1 pv0_1 p0.Rules) {r:aA} (h:oL N p0=some r) :
  Calls prog 38 [.agg [pv0_0,pv0_1].toArray].toArray w0.w (aQ Φ w0.w [] (fun Φ' Fs v=>∃ (sr_0_0:Value) (Dr_0_0:List Nat) (sr_0_1:Value) (Dr_0_1:List Nat),v = .agg [sr_0_0,sr_0_1].toArray∧Fs=[ob sr_0_0,Dr_0_0,ob sr_0_1,Dr_0_1]∧OSl aO 123 1 Φ' Dr_0_0 sr_0_0 r.Alphas∧OSl aP 126 1 Φ' Dr_0_1 sr_0_1 r.Rules)):=by
 refine eN func38 rfl ntmps38 rfl w0 fun hF=>?_
 unfold oL at h
 refine sr<|lbx rfl fun b_1=>lnz j6 rfl fun b_2=>en<|sr<|lnz j6 rfl fun b_3=>arr 6 [0,64] rfl<|lnr ph0_0 rfl<|art 3 [] rfl<|wtS<|wt0 ?_
 have k1:=OSl.nil aO 123 1 Φ
 refine lin (σ:=Hp × (List aS) × Value × List Nat × Int) (fun s=>[(1,pQ b_1),(2,pQ b_2),(3,pQ b_3),(15,pv0_0),(16,iV (p0.Alphas.length:Int)),(17,iV s.2.2.2.2)]) (fun s=>St w0 s.1 [(b_3,.cells #[s.2.2.1,.slice none 0 0] 43 (0,0)),(b_2,.cells #[.slice none 0 0,.slice none 0 0] 43 (0,0)),(b_1,.cells #[pv0_0,pv0_1] 43 (0,0))] [s.2.2.2.1,ob s.2.2.1]) (fun m s=>gw N p0 m s.2.1 s.2.2.2.2=some r∧(OSl aO 123 1 s.1 s.2.2.2.1 s.2.2.1 s.2.1)) (Φ,([]:List aS),(.slice none 0 0),[],0) N ⟨h,k1⟩ (sx [0,0] [0,0,0]) (fun n1 ih1 s hm=>?_)
 obtain ⟨Φ_1,s1,u1,D1,s2⟩:=s
 obtain ⟨h,k2⟩:=hm
 dsimp only at h k2 ⊢
 unfold gw at h
 refine att 5 [] rfl ?_
 refine ch h rfl ?_ ?_ <;> intro h
 ·refine atr 5 [] rfl ?_
  obtain ⟨x1,hx1,h⟩:=bs h
  obtain ⟨cs1,F1,-,g1,hb1,hs1,r1⟩:=ph0_0.el (a7 hx1).2.2
  obtain ⟨v1,G1,rfl,hq1,h1⟩:=r1
  obtain rfl:=hq1.symm
  refine lia ph0_0 hx1 rfl<|lhx 0 1 g1 rfl ?_
  refine ln (ig (C:=#[.slice none 0 0]) uN rfl) rfl (fun b_4=>?_)
  refine soN 0 GY rfl ⟨h1.one,trivial⟩ rfl ?_
  refine en<|wm [0,1,2,3] [9] rfl<|amm 4 [0,0,1,32,2,0,3,0] [0,1,2,3] rfl rfl ?_
  obtain ⟨x2,hx2,h⟩:=bs h
  refine WM.one 4 (by kernel_rfl) (mc rfl (fun _ v Φx D w1 hq hw=>Kn.of Kf.nil (am [0,1,2,3] rfl) hw) (aY (js:=[]) (R:=[D1,ob u1]) Gu rfl rfl (fun w1 hw ap hl=>fU N (ba hw.fro) x1.L (h1.y hw.up)  hx2)) rfl ?_)
  rintro v2 Φ_2 F2 ⟨ap1,fr1,v3,rfl,rfl,h2⟩
  replace k2:=k2.fr fr1 (ap1.q 1 rfl) (ap1.q 0 rfl)
  refine mq 5 rfl (by kernel_rfl) (kN [0,1,2,3]) (cw (vs:=[(0,v2)]) (C:=#[v2]) J9 uN rfl (ai (C':=[v2]) rfl (cm h2.one) rfl rfl rfl (ak))) rfl ?_
  have rc1:RC aO 1 Φ_2 ([(ob v2++[])]:List (List Nat)) [v2] ([(⟨x2⟩:aS)]:List aS):=RC.cons (c:=[v2]) (cells:=[]) ⟨v2,rfl,rfl,h2⟩ rfl (RC.nil _ _ _)
  refine WM.one 6 (by kernel_rfl) (me rfl (fun _ v Φx D w1 hq hw=>Kn.of Kf.nil (am [0,1,2,3] rfl) hw) (cu (vs:=[(0,.agg [v2].toArray)]) (C:=#[v2]) aO.lasts ss uN rfl rfl rfl rfl (aI FU (ai (C':=[v2]) rfl rfl rfl rfl rfl (ak))) rfl rc1 rfl (RC.kn aO.knows rc1)) rfl ?_)
  rintro v4 Φ_3 D2 ⟨fr2,h3⟩
  replace h3:OSl aO 123 1 Φ_3 ((ob v2++[])) v4 ([(⟨x2⟩:aS)]:List aS):=by simpa [List.append_assoc] using h3
  replace k2:=k2.f0 fr2
  refine WM.conv (S':=St w0 Φ_3 [(b_4,.cells #[v1] 123 (0,0)),(b_3,.cells #[u1,.slice none 0 0] 43 (0,0)),(b_2,.cells #[.slice none 0 0,.slice none 0 0] 43 (0,0)),(b_1,.cells #[pv0_0,pv0_1] 43 (0,0))] [((ob v2++[])),ob v4,D1,ob u1]) (fun w1 hw=>hw.merge (js:=[1]) rfl (SP.eq (by simp [List.append_assoc,bl]))) ?_
  obtain ⟨x3,hx3,h⟩:=bs h
  refine WM.one 7 (by kernel_rfl) (me rfl (fun _ v Φx D w1 hq hw=>Kn.of Kf.nil (am [0,1,2,3] rfl) hw) (gE aO.lasts aO.one ss Jf rfl rfl rfl rfl rfl (js:=[3]) (Rr:=[((ob v2++[])),ob v4,D1]) rfl k2 h3 (fun ap=>ap.q 2 rfl) (fun ap=>ap.q 0 rfl) hx3) rfl ?_)
  rintro v5 Φ_4 D3 ⟨⟨ap2,fr3⟩,h4⟩
  refine WM.conv (S':=St w0 Φ_4 [(b_4,.cells #[v1] 123 (0,0)),(b_3,.cells #[u1,.slice none 0 0] 43 (0,0)),(b_2,.cells #[.slice none 0 0,.slice none 0 0] 43 (0,0)),(b_1,.cells #[pv0_0,pv0_1] 43 (0,0))] [(D1++((ob v2++[]))),ob v5,ob v4]) (fun w1 hw=>hw.merge (js:=[3,1]) rfl (SP.eq (by simp)))<|amm 1 [8,0] [0,1,2,3] rfl rfl ?_
  refine on1 9 (ms1 1 rfl nk Jy rfl h4.one ?_)
  refine WM.nil (by kernel_rfl)<|att 5 [] rfl ?_
  exact lb [0,0] [1,1,1] (ih1 (_,_,_,_,_) ⟨h,h4⟩)
 refine atr 6 [1,64] rfl<|lnr ph0_1 rfl<|art 3 [] rfl<|wtS<|wt0 ?_
 have k3:=OSl.nil aP 126 1 Φ_1
 refine lin (σ:=Hp × (List aF) × Value × List Nat × Int) (fun s=>[(2,pQ b_2),(3,pQ b_3),(32,pv0_1),(33,iV (p0.Rules.length:Int)),(34,iV s.2.2.2.2)]) (fun s=>St w0 s.1 [(b_3,.cells #[u1,s.2.2.1] 43 (0,0)),(b_2,.cells #[.slice none 0 0,.slice none 0 0] 43 (0,0))] [s.2.2.2.1,ob s.2.2.1,D1,ob u1]) (fun m s=>df N p0 s1 m s.2.1 s.2.2.2.2=some r∧(OSl aO 123 1 s.1 D1 u1 s1)∧(OSl aP 126 1 s.1 s.2.2.2.1 s.2.2.1 s.2.1)) (Φ_1,([]:List aF),(.slice none 0 0),[],0) N ⟨h,k2,k3⟩ (sx [0,0,0,0] [0,0]) (fun n2 ih2 s hm=>?_)
 obtain ⟨Φ_5,s3,u2,D4,s4⟩:=s
 obtain ⟨h,k2,k4⟩:=hm
 dsimp only at h k2 k4 ⊢
 unfold df at h
 refine att 5 [] rfl ?_
 refine ch h rfl ?_ ?_ <;> intro h
 ·refine atr 5 [] rfl ?_
  obtain ⟨x4,hx4,h⟩:=bs h
  obtain ⟨cs2,F3,-,g2,hb2,hs2,r2⟩:=ph0_1.el (a7 hx4).2.2
  obtain ⟨v6,G2,rfl,hq2,h5⟩:=r2
  obtain rfl:=hq2.symm
  refine lia ph0_1 hx4 rfl<|lhx 0 1 g2 rfl ?_
  refine ln (ig (C:=#[.slice none 0 0]) rG rfl) rfl (fun b_5=>?_)
  refine soN 0 xK rfl ⟨h5.one,trivial⟩ rfl ?_
  refine en<|sr ?_
  refine ln (ig (C:=#[.slice none 0 0]) rG rfl) rfl (fun b_6=>?_)
  refine arr 6 [0,32] rfl<|lnr h5 rfl<|art 3 [] rfl<|wtS<|wt0 ?_
  have k5:=OSl.nil aK 130 1 Φ_5
  refine lin (σ:=Hp × (List aa) × Value × List Nat × Int) (fun s=>[(2,pQ b_2),(3,pQ b_3),(8,pQ b_6),(32,pv0_1),(33,iV (p0.Rules.length:Int)),(34,iV s4),(39,v6),(40,iV (x4.Levels.length:Int)),(41,iV s.2.2.2.2)]) (fun s=>St w0 s.1 [(b_6,.cells #[s.2.2.1] 126 (0,0)),(b_3,.cells #[u1,u2] 43 (0,0)),(b_2,.cells #[.slice none 0 0,.slice none 0 0] 43 (0,0))] [s.2.2.2.1,ob s.2.2.1,D4,ob u2,D1,ob u1]) (fun m s=>dY N s3 s4 (df N p0 s1 n2) x4 m s.2.1 s.2.2.2.2=some r∧(OSl aO 123 1 s.1 D1 u1 s1)∧(OSl aP 126 1 s.1 D4 u2 s3)∧(OSl aK 130 1 s.1 s.2.2.2.1 s.2.2.1 s.2.1)) (Φ_5,([]:List aa),(.slice none 0 0),[],0) N ⟨h,k2,k4,k5⟩ (sx [0,0,0,0,0,0] [0,1,1]) (fun n3 ih3 s hm=>?_)
  obtain ⟨Φ_6,s5,u3,D5,s6⟩:=s
  obtain ⟨h,k2,k4,k6⟩:=hm
  dsimp only at h k2 k4 k6 ⊢
  unfold dY at h
  refine att 5 [] rfl ?_
  refine ch h rfl ?_ ?_ <;> intro h
  ·refine atr 5 [] rfl ?_
   obtain ⟨x5,hx5,h⟩:=bs h
   obtain ⟨cs3,F4,-,g3,hb3,hs3,r3⟩:=h5.el (a7 hx5).2.2
   obtain ⟨v7,G3,rfl,hq3,h6⟩:=r3
   obtain rfl:=hq3.symm
   refine lia h5 hx5 rfl<|lhx 0 1 g3 rfl ?_
   refine ln (ig (C:=#[.slice none 0 0]) tI rfl) rfl (fun b_7=>?_)
   refine soN 0 EQ rfl ⟨h6.one,trivial⟩ rfl ?_
   refine en<|sr ?_
   refine ln (ig (C:=#[.slice none 0 0]) tI rfl) rfl (fun b_8=>?_)
   refine arr 6 [0,32] rfl<|lnr h6 rfl<|art 3 [] rfl<|wtS<|wt0 ?_
   have k7:=OSl.nil ax 160 2 Φ_6
   refine lin (σ:=Hp × (List ab) × Value × List Nat × Int) (fun s=>[(2,pQ b_2),(3,pQ b_3),(8,pQ b_6),(11,pQ b_8),(32,pv0_1),(33,iV (p0.Rules.length:Int)),(34,iV s4),(39,v6),(40,iV (x4.Levels.length:Int)),(41,iV s6),(46,v7),(47,iV (x5.Toks.length:Int)),(48,iV s.2.2.2.2)]) (fun s=>St w0 s.1 [(b_8,.cells #[s.2.2.1] 130 (0,0)),(b_6,.cells #[u3] 126 (0,0)),(b_3,.cells #[u1,u2] 43 (0,0)),(b_2,.cells #[.slice none 0 0,.slice none 0 0] 43 (0,0))] [s.2.2.2.1,ob s.2.2.1,D5,ob u3,D4,ob u2,D1,ob u1]) (fun m s=>fo N s5 s6 (dY N s3 s4 (df N p0 s1 n2) x4 n3) x5 m s.2.1 s.2.2.2.2=some r∧(OSl aO 123 1 s.1 D1 u1 s1)∧(OSl aP 126 1 s.1 D4 u2 s3)∧(OSl aK 130 1 s.1 D5 u3 s5)∧(OSl ax 160 2 s.1 s.2.2.2.1 s.2.2.1 s.2.1)) (Φ_6,([]:List ab),(.slice none 0 0),[],0) N ⟨h,k2,k4,k6,k7⟩ (sx [0,0,0,0,0,0,0,0] [0,1,1,1]) (fun n4 ih4 s hm=>?_)
   obtain ⟨Φ_7,s7,u4,D6,s8⟩:=s
   obtain ⟨h,k2,k4,k6,k8⟩:=hm
   dsimp only at h k2 k4 k6 k8 ⊢
   unfold fo at h
   refine att 5 [] rfl ?_
   refine ch h rfl ?_ ?_ <;> intro h
   ·refine atr 5 [] rfl ?_
    obtain ⟨x6,hx6,h⟩:=bs h
    obtain ⟨cs4,F5,-,g4,hb4,hs4,r4⟩:=h6.el (a7 hx6).2.2
    obtain ⟨v8,G4,v9,G5,rfl,rfl,h7,h8⟩:=r4
    refine lia h6 hx6 rfl<|lhx 0 2 g4 rfl<|lnz eD rfl fun b_9=>soN 0 sO rfl ⟨h7.one,h8.one,trivial⟩ rfl ?_
    refine en<|wm [0,1,2,3,4] [12] rfl<|amm 6 [0,0,1,32,2,0,3,0,5,1,6,0] [0,1,2,3,4] rfl rfl ?_
    obtain ⟨x7,hx7,h⟩:=bs h
    refine WM.one 4 (by kernel_rfl) (mc rfl (fun _ v Φx D w1 hq hw=>Kn.of Kf.nil (am [0,1,2,3,4] rfl) hw) (aY (js:=[]) (R:=[D6,ob u4,D5,ob u3,D4,ob u2,D1,ob u1]) Gu rfl rfl (fun w1 hw ap hl=>fU N (ba hw.fro) x6.Ids (h7.y hw.up)  hx7)) rfl ?_)
    rintro v10 Φ_8 F6 ⟨ap3,fr4,v11,rfl,rfl,h9⟩
    replace k2:=k2.fr fr4 (ap3.q 7 rfl) (ap3.q 6 rfl)
    replace k4:=k4.fr fr4 (ap3.q 5 rfl) (ap3.q 4 rfl)
    replace k6:=k6.fr fr4 (ap3.q 3 rfl) (ap3.q 2 rfl)
    replace k8:=k8.fr fr4 (ap3.q 1 rfl) (ap3.q 0 rfl)
    obtain ⟨x8,hx8,h⟩:=bs h
    refine WM.one 7 (by kernel_rfl) (mc rfl (fun _ v Φx D w1 hq hw=>Kn.of Kf.nil (am [0,1,2,3,4] rfl) hw) (aY (js:=[]) (R:=[ob v10,D6,ob u4,D5,ob u3,D4,ob u2,D1,ob u1]) Gu rfl rfl (fun w1 hw ap hl=>fU N (ba hw.fro) x6.Hits (h8.y hw.up)  hx8)) rfl ?_)
    rintro v12 Φ_9 F7 ⟨ap4,fr5,v13,rfl,rfl,h10⟩
    replace k2:=k2.fr fr5 (ap4.q 8 rfl) (ap4.q 7 rfl)
    replace k4:=k4.fr fr5 (ap4.q 6 rfl) (ap4.q 5 rfl)
    replace k6:=k6.fr fr5 (ap4.q 4 rfl) (ap4.q 3 rfl)
    replace k8:=k8.fr fr5 (ap4.q 2 rfl) (ap4.q 1 rfl)
    replace h9:=h9.fr fr5 (ap4.q 0 rfl) dN
    refine mq 8 rfl (by kernel_rfl) (kN [0,1,2,3,4]) (cw (vs:=[(0,v10),(1,v12)]) (C:=#[v10,v12]) xx eD rfl (ai (C':=[v10,.slice none 0 0]) rfl (cm h9.one) rfl rfl rfl (ai (C':=[v10,v12]) rfl (cm h10.one) rfl rfl rfl (ak)))) rfl ?_
    have rc2:RC ax 2 Φ_9 ([(ob v10++[])++((ob v12++[]))]:List (List Nat)) [v10,v12] ([(⟨x7,x8⟩:ab)]:List ab):=RC.cons (c:=[v10,v12]) (cells:=[]) ⟨v10,v12,rfl,rfl,h9,h10⟩ rfl (RC.nil _ _ _)
    refine WM.one 9 (by kernel_rfl) (me rfl (fun _ v Φx D w1 hq hw=>Kn.of Kf.nil (am [0,1,2,3,4] rfl) hw) (cu (vs:=[(0,.agg [v10,v12].toArray)]) (C:=#[v10,v12]) ax.lasts cg eD rfl rfl rfl rfl (aI tF (ai (C':=[v10,v12]) rfl rfl rfl rfl rfl (ak))) rfl rc2 rfl (RC.kn ax.knows rc2)) rfl ?_)
    rintro v14 Φ_10 D7 ⟨fr6,h11⟩
    replace h11:OSl ax 160 2 Φ_10 ((ob v10++[])++((ob v12++[]))) v14 ([(⟨x7,x8⟩:ab)]:List ab):=by simpa [List.append_assoc] using h11
    replace k2:=k2.f0 fr6
    replace k4:=k4.f0 fr6
    replace k6:=k6.f0 fr6
    replace k8:=k8.f0 fr6
    refine WM.conv (S':=St w0 Φ_10 [(b_9,.cells #[v8,v9] 160 (0,0)),(b_8,.cells #[u4] 130 (0,0)),(b_6,.cells #[u3] 126 (0,0)),(b_3,.cells #[u1,u2] 43 (0,0)),(b_2,.cells #[.slice none 0 0,.slice none 0 0] 43 (0,0))] [((ob v10++[])++((ob v12++[]))),ob v14,D6,ob u4,D5,ob u3,D4,ob u2,D1,ob u1]) (fun w1 hw=>hw.merge (js:=[2,1]) rfl (SP.eq (by simp [List.append_assoc,bl]))) ?_
    obtain ⟨x9,hx9,h⟩:=bs h
    refine WM.one 10 (by kernel_rfl) (me rfl (fun _ v Φx D w1 hq hw=>Kn.of Kf.nil (am [0,1,2,3,4] rfl) hw) (gE ax.lasts ax.one cg pC rfl rfl rfl rfl rfl (js:=[3]) (Rr:=[((ob v10++[])++((ob v12++[]))),ob v14,D6,D5,ob u3,D4,ob u2,D1,ob u1]) rfl k8 h11 (fun ap=>ap.q 2 rfl) (fun ap=>ap.q 0 rfl) hx9) rfl ?_)
    rintro v15 Φ_11 D8 ⟨⟨ap5,fr7⟩,h12⟩
    replace k2:=k2.fr fr7 (ap5.q 8 rfl) (ap5.q 7 rfl)
    replace k4:=k4.fr fr7 (ap5.q 6 rfl) (ap5.q 5 rfl)
    replace k6:=k6.fr fr7 (ap5.q 4 rfl) (ap5.q 3 rfl)
    refine WM.conv (S':=St w0 Φ_11 [(b_9,.cells #[v8,v9] 160 (0,0)),(b_8,.cells #[u4] 130 (0,0)),(b_6,.cells #[u3] 126 (0,0)),(b_3,.cells #[u1,u2] 43 (0,0)),(b_2,.cells #[.slice none 0 0,.slice none 0 0] 43 (0,0))] [(D6++((ob v10++[])++((ob v12++[])))),ob v15,ob v14,D5,ob u3,D4,ob u2,D1,ob u1]) (fun w1 hw=>hw.merge (js:=[3,1]) rfl (SP.eq (by simp)))<|amm 1 [11,0] [0,1,2,3,4] rfl rfl ?_
    refine on1 12 (ms1 1 rfl nk El rfl h12.one ?_)
    refine WM.nil (by kernel_rfl)<|att 5 [] rfl ?_
    exact lb [0,0,1,1,1,1,1,1] [1,1,1,1] (ih4 (_,_,_,_,_) ⟨h,k2,k4,k6,h12⟩)
   refine atr 4 [0,32] rfl<|lq (ao zo rfl (fun w1 hw=>hw.rgO (i:=0) rfl 0 1 [u4] rfl) rfl) rfl ?_
   have rc3:RC aK 1 Φ_7 ([(ob u4++D6)]:List (List Nat)) [u4] ([(⟨s7⟩:aa)]:List aa):=RC.cons (c:=[u4]) (cells:=[]) ⟨u4,D6,rfl,rfl,k8⟩ rfl (RC.nil _ _ _)
   refine le' (cu (vs:=[(0,.agg [u4].toArray)]) (C:=#[u4]) aK.lasts pw tI rfl rfl rfl rfl (aI FP (ai (C':=[u4]) rfl rfl rfl rfl rfl (ak))) rfl rc3 rfl (RC.kn aK.knows rc3)) rfl ?_
   rintro v16 Φ_12 D9 ⟨fr8,h13⟩
   replace h13:OSl aK 130 1 Φ_12 ((ob u4++D6)) v16 ([(⟨s7⟩:aa)]:List aa):=by simpa [List.append_assoc] using h13
   replace k2:=k2.f0 fr8
   replace k4:=k4.f0 fr8
   replace k6:=k6.f0 fr8
   refine wlL [((ob u4++D6)),ob v16,D5,ob u3,D4,ob u2,D1,ob u1] (smg [2,1] rfl (SP.eq (by simp [List.append_assoc,bl]))) ?_
   obtain ⟨x10,hx10,h⟩:=bs h
   refine le' (gE aK.lasts aK.one pw IH rfl rfl rfl rfl rfl (js:=[3]) (Rr:=[((ob u4++D6)),ob v16,D5,D4,ob u2,D1,ob u1]) rfl k6 h13 (fun ap=>ap.q 2 rfl) (fun ap=>ap.q 0 rfl) hx10) rfl ?_
   rintro v17 Φ_13 D10 ⟨⟨ap6,fr9⟩,h14⟩
   replace k2:=k2.fr fr9 (ap6.q 6 rfl) (ap6.q 5 rfl)
   replace k4:=k4.fr fr9 (ap6.q 4 rfl) (ap6.q 3 rfl)
   refine wlL [(D5++((ob u4++D6))),ob v17,ob v16,D4,ob u2,D1,ob u1] (smg [3,1] rfl (SP.eq (by simp)))<|lf jA rfl rfl rfl<|so1 1 Hb rfl h14.one ?_
   refine art 6 [] rfl ?_
   exact lb [0,0,1,1,1,1] [1,1,1] (ih3 (_,_,_,_,_) ⟨h,k2,k4,h14⟩)
  refine atr 4 [1,32] rfl<|lq (ao xN rfl (fun w1 hw=>hw.rgO (i:=0) rfl 0 1 [u3] rfl) rfl) rfl ?_
  have rc4:RC aP 1 Φ_6 ([(ob u3++D5)]:List (List Nat)) [u3] ([(⟨s5⟩:aF)]:List aF):=RC.cons (c:=[u3]) (cells:=[]) ⟨u3,D5,rfl,rfl,k6⟩ rfl (RC.nil _ _ _)
  refine le' (cu (vs:=[(0,.agg [u3].toArray)]) (C:=#[u3]) aP.lasts xO rG rfl rfl rfl rfl (aI Ft (ai (C':=[u3]) rfl rfl rfl rfl rfl (ak))) rfl rc4 rfl (RC.kn aP.knows rc4)) rfl ?_
  rintro v18 Φ_14 D11 ⟨fr10,h15⟩
  replace h15:OSl aP 126 1 Φ_14 ((ob u3++D5)) v18 ([(⟨s5⟩:aF)]:List aF):=by simpa [List.append_assoc] using h15
  replace k2:=k2.f0 fr10
  replace k4:=k4.f0 fr10
  refine wlL [((ob u3++D5)),ob v18,D4,ob u2,D1,ob u1] (smg [2,1] rfl (SP.eq (by simp [List.append_assoc,bl]))) ?_
  obtain ⟨x11,hx11,h⟩:=bs h
  refine le' (gE aP.lasts aP.one xO Jv rfl rfl rfl rfl rfl (js:=[3]) (Rr:=[((ob u3++D5)),ob v18,D4,D1,ob u1]) rfl k4 h15 (fun ap=>ap.q 2 rfl) (fun ap=>ap.q 0 rfl) hx11) rfl ?_
  rintro v19 Φ_15 D12 ⟨⟨ap7,fr11⟩,h16⟩
  replace k2:=k2.fr fr11 (ap7.q 4 rfl) (ap7.q 3 rfl)
  refine wlL [(D4++((ob u3++D5))),ob v19,ob v18,D1,ob u1] (smg [3,1] rfl (SP.eq (by simp)))<|lf wk rfl rfl rfl<|so1 1 IN rfl h16.one ?_
  refine art 6 [] rfl ?_
  exact lb [0,0,1,1] [1,1] (ih2 (_,_,_,_,_) ⟨h,k2,h16⟩)
 refine atr 4 [2] rfl<|soN 1 kI rfl ⟨k2.one,k4.one,trivial⟩ rfl ?_
 refine en ?_
 exact rtg [3,2,1,0] hF (ay.one (bB Gl rfl (fun w1 hw=>hw.rgO (i:=1) rfl 0 2 [u1,u2] rfl) rfl)) rfl (by cases h; exact fun w1 hw=>⟨u1,D1,u2,D4,rfl,rfl,k2,k4⟩)
theorem cM  (w0:af Ψ Φ []) (p0:Int) (p1:Int) (p2:Int)  {r:Bool} (h:cI N p0 p1 p2=some r) :
  CB w0 prog 129 [iV p0,iV p1,iV p2] (.bool r):=by
 refine eN func129 rfl ntmps129 rfl w0 fun hF=>?_
 unfold cI at h
 refine atr 10 [] rfl ?_
 obtain ⟨b1,hb_1,h⟩:=bs h
 refine WL.cutN 4 [(14,.bool b1),(6,.bool false)] ?_ (fun K=>?_)
 rotate_left
 ·refine sp 10 hb_1 rfl (fun hb_1=>?_) fun hb_1=>?_
  ·refine arr 4 [] rfl ?_
   cases hb_1
   exact ku K
  ·refine arr 4 [] rfl ?_
   cases hb_1
   exact ku K
 refine la rfl<|en ?_
 exact rt hF h
theorem ut  (w0:af Ψ Φ []) (p0:Int)  {r:Bool} (h:km N p0=some r) :
  CB w0 prog 203 [.int .u8 p0] (.bool r):=by
 refine eN func203 rfl ntmps203 rfl w0 fun hF=>?_
 unfold km at h
 refine atr 9 [] rfl ?_
 obtain ⟨b1,hb_1,h⟩:=bs h
 refine WL.cutN 3 [(8,.bool b1),(2,.bool false)] ?_ (fun K=>?_)
 rotate_left
 ·refine sp 5 hb_1 rfl (fun hb_1=>?_) fun hb_1=>?_
  ·refine arr 3 [] rfl ?_
   cases hb_1
   exact ku K
  ·refine arr 3 [] rfl ?_
   cases hb_1
   exact ku K
 refine la rfl<|en ?_
 exact rt hF h
theorem zN  (w0:af Ψ Φ []) (p0:Int)  {r:Bool} (h:sy N p0=some r) :
  CB w0 prog 242 [.int .u8 p0] (.bool r):=by
 refine eN func242 rfl ntmps242 rfl w0 fun hF=>?_
 unfold sy at h
 refine atr 9 [] rfl ?_
 obtain ⟨b1,hb_1,h⟩:=bs h
 refine WL.cutN 3 [(8,.bool b1),(2,.bool false)] ?_ (fun K=>?_)
 rotate_left
 ·refine sp 5 hb_1 rfl (fun hb_1=>?_) fun hb_1=>?_
  ·refine arr 3 [] rfl ?_
   cases hb_1
   exact ku K
  ·refine arr 3 [] rfl ?_
   cases hb_1
   exact ku K
 refine la rfl<|en ?_
 exact rt hF h
theorem sm  (w0:af Ψ Φ []) (p0:Int)  {r:Bool} (h:iw N p0=some r) :
  CB w0 prog 231 [.int .u8 p0] (.bool r):=by
 refine eN func231 rfl ntmps231 rfl w0 fun hF=>?_
 unfold iw at h
 refine atr 7 [] rfl<|qc h (ut N · p0 ·) rfl rfl rfl fun x1 h=>la rfl ?_
 obtain ⟨b1,hb_1,h⟩:=bs h
 refine WL.cutN 3 [(8,.bool b1),(0,.int .u8 p0),(2,.bool false)] ?_ (fun K=>?_)
 rotate_left
 ·refine sp 5 hb_1 rfl (fun hb_1=>?_) fun hb_1=>?_
  ·refine arr 3 [] rfl ?_
   cases hb_1
   exact ku K
  ·refine ly rfl rfl<|la rfl<|ly rfl rfl<|qc hb_1 (zN N · p0 ·) rfl rfl rfl fun x2 hb_1=>la rfl ?_
   cases hb_1
   exact ku K
 refine la rfl ?_
 obtain ⟨b2,hb_2,h⟩:=bs h
 refine WL.cutN 3 [(12,.bool b2),(2,.bool false)] ?_ (fun K=>?_)
 rotate_left
 ·refine sp 9 hb_2 rfl (fun hb_2=>?_) fun hb_2=>?_
  ·refine arr 3 [] rfl ?_
   cases hb_2
   exact ku K
  ·refine arr 3 [] rfl ?_
   cases hb_2
   exact ku K
 refine la rfl<|en ?_
 exact rt hF h
theorem vn  (w0:af Ψ Φ []) (p0:ByteArray) (p1:Int)  {r:Bool} (h:nM N p0 p1=some r) :
  CB w0 prog 204 [.string p0,iV p1] (.bool r):=by
 refine eN func204 rfl ntmps204 rfl w0 fun hF=>?_
 unfold nM at h
 refine atr 8 [] rfl<|lq (gC fL rfl rfl) rfl<|art 3 [] rfl ?_
 refine ch h rfl ?_ ?_ <;> intro h
 ·refine att 4 [] rfl ?_
  exact rt hF h
 refine att 7 [] rfl ?_
 refine lin (σ:=Int) (fun s=>[(0,.string p0),(5,iV s)]) (fun s=>St w0 Φ [] []) (fun m s=>eI N p0 m s=some r) (0) N h (sx [] []) (fun n1 ih1 s hm=>?_)
 revert hm; revert s; intro s1 hm
 have h:eI N p0 (n1+1) s1=some r:=hm
 show WT _ _ [(0,.string p0),(5,iV s1)] (St w0 Φ [] [])
 unfold eI at h
 refine atr 5 [] rfl<|lq (gC fL rfl rfl) rfl<|la rfl<|en ?_
 refine ch h rfl ?_ ?_ <;> intro h
 ·refine atr 7 [] rfl ?_
  obtain ⟨y1,hy1,h⟩:=bs h
  refine lq (l8 fL rfl rfl hy1) rfl<|qc h (sm N · (y1.toNat:Int) ·) rfl rfl rfl fun x1 h=>la rfl<|en ?_
  refine ch h rfl ?_ ?_ <;> intro h
  ·refine att 4 [] rfl ?_
   exact rt hF h
  refine att 7 [] rfl ?_
  exact lb [] [] (ih1 _ h)
 refine att 5 [] rfl ?_
 exact rt hF h
theorem jD  (w0:af Ψ Φ []) (p0:ByteArray)  {r:Bool} (h:gr N p0=some r) :
  CB w0 prog 171 [.string p0] (.bool r):=by
 refine eN func171 rfl ntmps171 rfl w0 fun hF=>?_
 unfold gr at h
 refine atr 7 [] rfl<|lq (gC fL rfl rfl) rfl<|arr 2 [] rfl ?_
 obtain ⟨b1,hb_1,h⟩:=bs h
 refine WL.cutN 4 [(10,.bool b1),(0,.string p0),(2,.bool false)] ?_ (fun K=>?_)
 rotate_left
 ·refine sp 6 hb_1 rfl (fun hb_1=>?_) fun hb_1=>?_
  ·refine ly rfl rfl<|la rfl<|ly rfl rfl ?_
   obtain ⟨y1,hy1,hb_1⟩:=bs hb_1
   refine lq (l8 fL rfl rfl hy1) rfl<|ly rfl rfl<|qc hb_1 (ut N · (y1.toNat:Int) ·) rfl rfl rfl fun x1 hb_1=>la rfl ?_
   cases hb_1
   exact ku K
  ·refine arr 4 [] rfl ?_
   cases hb_1
   exact ku K
 refine la rfl ?_
 obtain ⟨b2,hb_2,h⟩:=bs h
 refine WL.cutN 3 [(14,.bool b2),(2,.bool false)] ?_ (fun K=>?_)
 rotate_left
 ·refine sp 11 hb_2 rfl (fun hb_2=>?_) fun hb_2=>?_
  ·refine ly rfl rfl<|la rfl<|ly rfl rfl<|qc hb_2 (vn N · p0 12 ·) rfl rfl rfl fun x2 hb_2=>la rfl ?_
   cases hb_2
   exact ku K
  ·refine arr 3 [] rfl ?_
   cases hb_2
   exact ku K
 refine la rfl<|en ?_
 exact rt hF h
theorem pD (w0:af Ψ Φ []) (p0:ag) (ph0_0:RSl bJ 3 Ψ pG0_0 pv0_0 p0.Pats) (ph0_1:RSl bd 11 Ψ pG0_1 pv0_1 p0.Conds) (ph0_2:RSl dF 5 Ψ pG0_2 pv0_2 p0.Acts) {r:Int} (h:iU N p0=some r) :
  CB w0 prog 208 [.agg [.string p0.Name,iV p0.Sal,pv0_0,pv0_1,pv0_2].toArray] (iV r):=by
 refine eN func208 rfl ntmps208 rfl w0 fun hF=>?_
 unfold iU at h
 refine sr<|lbx rfl fun b_1=>arr 11 [2,0] rfl<|lnr ph0_0 rfl<|art 3 [] rfl ?_
 refine lin (σ:=Int × Int) (fun s=>[(3,iV s.1),(7,pv0_0),(8,iV (p0.Pats.length:Int)),(9,iV s.2)]) (fun s=>St w0 Φ [] []) (fun m s=>dt N p0 m s.1 s.2=some r) (0,0) N h (sx [] []) (fun n1 ih1 s hm=>?_)
 obtain ⟨s1,s2⟩:=s
 have h:dt N p0 (n1+1) s1 s2=some r:=hm
 show WT _ _ [(3,iV s1),(7,pv0_0),(8,iV (p0.Pats.length:Int)),(9,iV s2)] (St w0 Φ [] [])
 unfold dt at h
 refine att 5 [] rfl ?_
 refine ch h rfl ?_ ?_ <;> intro h
 ·refine atr 5 [] rfl ?_
  obtain ⟨x1,hx1,h⟩:=bs h
  obtain ⟨cs1,F1,-,g1,hb1,hs1,r1⟩:=ph0_0.el (a7 hx1).2.2
  obtain ⟨v1,G1,rfl,hq1,h1⟩:=r1
  obtain rfl:=hq1.symm
  refine lia ph0_0 hx1 rfl<|lhx 0 3 g1 rfl<|lnz pE rfl fun b_2=>soN 0 sN rfl ⟨rfl,h1.one,rfl,trivial⟩ rfl ?_
  refine art 7 [2,0] rfl ?_
  refine ch h rfl ?_ ?_ <;> intro h
  ·refine att 10 [] rfl ?_
   exact lb [] [] (ih1 (_,_) h)
  refine att 6 [] rfl ?_
  exact lb [] [] (ih1 (_,_) h)
 refine att 6 [] rfl ?_
 exact rt hF h
theorem wH  (w0:af Ψ Φ []) (p0:aL)  {r:Bool} (h:lL N p0=some r) :
  CB w0 prog 177 [.agg [iV p0.K,iV p0.N,.string p0.S].toArray] (.bool r):=by
 refine eN func177 rfl ntmps177 rfl w0 fun hF=>?_
 unfold lL at h
 refine sr<|lbx rfl fun b_1=>art 14 [0,0] rfl ?_
 refine ch h rfl ?_ ?_ <;> intro h
 ·refine atr 4 [1,0] rfl<|qc h (cM N · p0.N (-1000000000) 1000000000 ·) rfl rfl rfl fun x1 h=>la rfl ?_
  obtain ⟨b1,hb_1,h⟩:=bs h
  refine WL.cutN 4 [(14,.bool b1),(2,.bool false)] ?_ (fun K=>?_)
  rotate_left
  ·refine sp 10 hb_1 rfl (fun hb_1=>?_) fun hb_1=>?_
   ·refine arr 4 [2,0] rfl ?_
    cases hb_1
    exact ku K
   ·refine arr 4 [] rfl ?_
    cases hb_1
    exact ku K
  refine la rfl<|en ?_
  exact rt hF h
 refine att 5 [] rfl ?_
 refine ch h rfl ?_ ?_ <;> intro h
 ·refine atr 6 [1,0] rfl ?_
  obtain ⟨b2,hb_2,h⟩:=bs h
  refine WL.cutN 4 [(24,.bool b2),(2,.bool false)] ?_ (fun K=>?_)
  rotate_left
  ·refine sp 20 hb_2 rfl (fun hb_2=>?_) fun hb_2=>?_
   ·refine arr 2 [2,0] rfl<|ly rfl rfl<|qc hb_2 (vn N · p0.S 20 ·) rfl rfl rfl fun x2 hb_2=>la rfl ?_
    cases hb_2
    exact ku K
   ·refine arr 4 [] rfl ?_
    cases hb_2
    exact ku K
  refine la rfl<|en ?_
  exact rt hF h
 refine att 6 [] rfl ?_
 exact rt hF h
theorem uw  (w0:af Ψ Φ []) (p0:Int)  {r:Bool} (h:mj N p0=some r) :
  CB w0 prog 251 [.int .u8 p0] (.bool r):=by
 refine eN func251 rfl ntmps251 rfl w0 fun hF=>?_
 unfold mj at h
 refine atr 9 [] rfl ?_
 obtain ⟨b1,hb_1,h⟩:=bs h
 refine WL.cutN 3 [(8,.bool b1),(2,.bool false)] ?_ (fun K=>?_)
 rotate_left
 ·refine sp 5 hb_1 rfl (fun hb_1=>?_) fun hb_1=>?_
  ·refine arr 3 [] rfl ?_
   cases hb_1
   exact ku K
  ·refine arr 3 [] rfl ?_
   cases hb_1
   exact ku K
 refine la rfl<|en ?_
 exact rt hF h
theorem EL  (w0:af Ψ Φ []) (p0:ByteArray)  {r:Bool} (h:sZ N p0=some r) :
  CB w0 prog 248 [.string p0] (.bool r):=by
 refine eN func248 rfl ntmps248 rfl w0 fun hF=>?_
 unfold sZ at h
 refine atr 8 [] rfl<|lq (gC fL rfl rfl) rfl<|arr 2 [] rfl ?_
 obtain ⟨b1,hb_1,h⟩:=bs h
 refine WL.cutN 4 [(11,.bool b1),(0,.string p0)] ?_ (fun K=>?_)
 rotate_left
 ·refine sp 7 hb_1 rfl (fun hb_1=>?_) fun hb_1=>?_
  ·refine arr 4 [] rfl ?_
   cases hb_1
   exact ku K
  ·refine ly rfl rfl<|la rfl<|ly rfl rfl<|lq (gC fL rfl rfl) rfl<|arr 2 [] rfl ?_
   cases hb_1
   exact ku K
 refine la rfl ?_
 obtain ⟨b2,hb_2,h⟩:=bs h
 refine WL.cutN 5 [(17,.bool b2),(0,.string p0)] ?_ (fun K=>?_)
 rotate_left
 ·refine sp 12 hb_2 rfl (fun hb_2=>?_) fun hb_2=>?_
  ·refine arr 5 [] rfl ?_
   cases hb_2
   exact ku K
  ·refine ly rfl rfl<|la rfl<|ly rfl rfl ?_
   obtain ⟨y1,hy1,hb_2⟩:=bs hb_2
   refine lq (l8 fL rfl rfl hy1) rfl<|ly rfl rfl<|qc hb_2 (uw N · (y1.toNat:Int) ·) rfl rfl rfl fun x1 hb_2=>arr 2 [] rfl ?_
   cases hb_2
   exact ku K
 refine en ?_
 refine ch h rfl ?_ ?_ <;> intro h
 ·refine att 4 [] rfl ?_
  exact rt hF h
 refine att 7 [] rfl ?_
 refine lin (σ:=Int) (fun s=>[(0,.string p0),(3,iV s)]) (fun s=>St w0 Φ [] []) (fun m s=>gU N p0 m s=some r) (0) N h (sx [] []) (fun n1 ih1 s hm=>?_)
 revert hm; revert s; intro s1 hm
 have h:gU N p0 (n1+1) s1=some r:=hm
 show WT _ _ [(0,.string p0),(3,iV s1)] (St w0 Φ [] [])
 unfold gU at h
 refine atr 5 [] rfl<|lq (gC fL rfl rfl) rfl<|la rfl<|en ?_
 refine ch h rfl ?_ ?_ <;> intro h
 ·refine atr 7 [] rfl ?_
  obtain ⟨y2,hy2,h⟩:=bs h
  refine lq (l8 fL rfl rfl hy2) rfl<|qc h (sm N · (y2.toNat:Int) ·) rfl rfl rfl fun x2 h=>arr 2 [] rfl ?_
  obtain ⟨b3,hb_3,h⟩:=bs h
  refine WL.cutN 6 [(35,.bool b3),(0,.string p0),(3,iV s1)] ?_ (fun K=>?_)
  rotate_left
  ·refine sp 29 hb_3 rfl (fun hb_3=>?_) fun hb_3=>?_
   ·refine arr 2 [] rfl<|ly rfl rfl ?_
    obtain ⟨y3,hy3,hb_3⟩:=bs hb_3
    refine lq (l8 fL rfl rfl hy3) rfl<|ly rfl rfl<|qc hb_3 (uw N · (y3.toNat:Int) ·) rfl rfl rfl fun x3 hb_3=>arr 2 [] rfl ?_
    cases hb_3
    exact ku K
   ·refine arr 6 [] rfl ?_
    cases hb_3
    exact ku K
  refine en ?_
  refine ch h rfl ?_ ?_ <;> intro h
  ·refine att 4 [] rfl ?_
   exact rt hF h
  refine att 7 [] rfl ?_
  exact lb [] [] (ih1 _ h)
 refine att 5 [] rfl ?_
 exact rt hF h
theorem w8  (w0:af Ψ Φ []) (p0:be)  {r:Bool} (h:qv N p0=some r) :
  CB w0 prog 243 [.agg [iV p0.K,.string p0.S,iV p0.V.K,iV p0.V.N,.string p0.V.S].toArray] (.bool r):=by
 refine eN func243 rfl ntmps243 rfl w0 fun hF=>?_
 unfold qv at h
 refine sr<|lbx rfl fun b_1=>art 14 [0,0] rfl ?_
 refine ch h rfl ?_ ?_ <;> intro h
 ·refine atr 4 [1,0] rfl<|qc h (EL N · p0.S ·) rfl rfl rfl fun x1 h=>la rfl ?_
  obtain ⟨b1,hb_1,h⟩:=bs h
  refine WL.cutN 5 [(15,.bool b1),(2,.bool false)] ?_ (fun K=>?_)
  rotate_left
  ·refine sp 10 hb_1 rfl (fun hb_1=>?_) fun hb_1=>?_
   ·refine arr 2 [2,3] rfl<|ly rfl rfl<|lq (cw (vs:=[]) (C:=#[iV 0,iV 0,.string (⟨#[]⟩:ByteArray)]) za jI rfl (ak)) rfl<|ly rfl rfl<|lq (Fq mK rfl rfl rfl (r:=bp p0.V (⟨0,0,(⟨#[]⟩:ByteArray)⟩:aL)) rfl) rfl<|la rfl ?_
    cases hb_1
    exact ku K
   ·refine arr 5 [] rfl ?_
    cases hb_1
    exact ku K
  refine la rfl<|en ?_
  exact rt hF h
 refine att 5 [] rfl ?_
 refine ch h rfl ?_ ?_ <;> intro h
 ·refine atr 6 [1,0] rfl ?_
  obtain ⟨b2,hb_2,h⟩:=bs h
  refine WL.cutN 4 [(25,.bool b2),(2,.bool false)] ?_ (fun K=>?_)
  rotate_left
  ·refine sp 21 hb_2 rfl (fun hb_2=>?_) fun hb_2=>?_
   ·refine arr 2 [2,3] rfl<|ly rfl rfl<|qc hb_2 (wH N · p0.V ·) rfl rfl rfl fun x2 hb_2=>la rfl ?_
    cases hb_2
    exact ku K
   ·refine arr 4 [] rfl ?_
    cases hb_2
    exact ku K
  refine la rfl<|en ?_
  exact rt hF h
 refine att 5 [] rfl ?_
 refine ch h rfl ?_ ?_ <;> intro h
 ·refine atr 6 [1,0] rfl ?_
  obtain ⟨b3,hb_3,h⟩:=bs h
  refine WL.cutN 5 [(36,.bool b3),(2,.bool false)] ?_ (fun K=>?_)
  rotate_left
  ·refine sp 31 hb_3 rfl (fun hb_3=>?_) fun hb_3=>?_
   ·refine arr 2 [2,3] rfl<|ly rfl rfl<|lq (cw (vs:=[]) (C:=#[iV 0,iV 0,.string (⟨#[]⟩:ByteArray)]) za jI rfl (ak)) rfl<|ly rfl rfl<|lq (Fq mK rfl rfl rfl (r:=bp p0.V (⟨0,0,(⟨#[]⟩:ByteArray)⟩:aL)) rfl) rfl<|la rfl ?_
    cases hb_3
    exact ku K
   ·refine arr 5 [] rfl ?_
    cases hb_3
    exact ku K
  refine la rfl<|en ?_
  exact rt hF h
 refine att 6 [] rfl ?_
 exact rt hF h
theorem EH (w0:af Ψ Φ []) (p0:av) (ph0_0:RSl bQ 5 Ψ pG0_0 pv0_0 p0.Args) {r:Bool} (h:tn N p0=some r) :
  CB w0 prog 232 [.agg [.string p0.Kind,pv0_0,.bool p0.Not].toArray] (.bool r):=by
 refine eN func232 rfl ntmps232 rfl w0 fun hF=>?_
 unfold tn at h
 refine sr<|lbx rfl fun b_1=>arr 7 [0,0] rfl<|qc h (jD N · p0.Kind ·) rfl rfl rfl fun x1 h=>arr 2 [] rfl ?_
 obtain ⟨b1,hb_1,h⟩:=bs h
 refine WL.cutN 5 [(14,.bool b1),(1,pQ b_1)] ?_ (fun K=>?_)
 rotate_left
 ·refine sp 9 hb_1 rfl (fun hb_1=>?_) fun hb_1=>?_
  ·refine arr 5 [] rfl ?_
   cases hb_1
   exact ku K
  ·refine arr 2 [1,0] rfl<|ly rfl rfl<|lnr ph0_0 rfl<|arr 2 [] rfl ?_
   cases hb_1
   exact ku K
 refine en ?_
 refine ch h rfl ?_ ?_ <;> intro h
 ·refine att 4 [] rfl ?_
  exact rt hF h
 refine atr 6 [1,0] rfl<|lnr ph0_0 rfl<|art 3 [] rfl ?_
 refine lin (σ:=Int) (fun s=>[(16,pv0_0),(17,iV (p0.Args.length:Int)),(18,iV s)]) (fun s=>St w0 Φ [] []) (fun m s=>gW N p0 m s=some r) (0) N h (sx [] []) (fun n1 ih1 s hm=>?_)
 revert hm; revert s; intro s1 hm
 have h:gW N p0 (n1+1) s1=some r:=hm
 show WT _ _ [(16,pv0_0),(17,iV (p0.Args.length:Int)),(18,iV s1)] (St w0 Φ [] [])
 unfold gW at h
 refine att 5 [] rfl ?_
 refine ch h rfl ?_ ?_ <;> intro h
 ·refine atr 5 [] rfl ?_
  obtain ⟨x2,hx2,h⟩:=bs h
  obtain ⟨cs1,F1,-,g1,hb1,hs1,r1⟩:=ph0_0.el (a7 hx2).2.2
  obtain ⟨rfl,-⟩:=r1
  refine lia ph0_0 hx2 rfl<|lhx 0 5 g1 rfl<|lnz pG rfl fun b_2=>soN 0 qO rfl ⟨rfl,rfl,rfl,rfl,rfl,trivial⟩ rfl ?_
  refine arr 4 [5] rfl<|qc h (w8 N · x2 ·) rfl rfl rfl fun x3 h=>la rfl<|en ?_
  refine ch h rfl ?_ ?_ <;> intro h
  ·refine att 4 [] rfl ?_
   exact rt hF h
  refine att 6 [] rfl ?_
  exact lb [] [] (ih1 _ h)
 refine att 5 [] rfl ?_
 exact rt hF h
theorem BX (w0:af Ψ Φ []) (p0:ag) (ph0_0:RSl bJ 3 Ψ pG0_0 pv0_0 p0.Pats) (ph0_1:RSl bd 11 Ψ pG0_1 pv0_1 p0.Conds) (ph0_2:RSl dF 5 Ψ pG0_2 pv0_2 p0.Acts) {r:Bool} (h:rP N p0=some r) :
  CB w0 prog 205 [.agg [.string p0.Name,iV p0.Sal,pv0_0,pv0_1,pv0_2].toArray] (.bool r):=by
 refine eN func205 rfl ntmps205 rfl w0 fun hF=>?_
 unfold rP at h
 refine sr<|lbx rfl fun b_1=>arr 7 [2,0] rfl<|lnr ph0_0 rfl<|qc h (cM N · (p0.Pats.length:Int) 1 6 ·) rfl rfl rfl fun x1 h=>arr 2 [] rfl ?_
 obtain ⟨b1,hb_1,h⟩:=bs h
 refine WL.cutN 5 [(15,.bool b1),(1,pQ b_1)] ?_ (fun K=>?_)
 rotate_left
 ·refine sp 10 hb_1 rfl (fun hb_1=>?_) fun hb_1=>?_
  ·refine arr 5 [] rfl ?_
   cases hb_1
   exact ku K
  ·refine ly rfl rfl<|ld5 pn 0 rfl<|ly rfl rfl<|qd hb_1 (pD N · p0 ph0_0 ph0_1 ph0_2 ·) rfl rfl rfl fun x2 hb_1=>ly rfl rfl<|qc hb_1 (cM N · x2 1 3 ·) rfl rfl rfl fun x3 hb_1=>arr 2 [] rfl ?_
   cases hb_1
   exact ku K
 refine en ?_
 refine ch h rfl ?_ ?_ <;> intro h
 ·refine att 4 [] rfl ?_
  exact rt hF h
 refine atr 6 [2,0] rfl<|lnr ph0_0 rfl<|art 3 [] rfl ?_
 refine lin (σ:=Int) (fun s=>[(1,pQ b_1),(17,pv0_0),(18,iV (p0.Pats.length:Int)),(19,iV s)]) (fun s=>St w0 Φ [(b_1,.cells #[.string p0.Name,iV p0.Sal,pv0_0,pv0_1,pv0_2] 148 (0,0))] []) (fun m s=>eQ N p0 m s=some r) (0) N h (sx [] [0]) (fun n1 ih1 s hm=>?_)
 revert hm; revert s; intro s1 hm
 have h:eQ N p0 (n1+1) s1=some r:=hm
 show WT _ _ [(1,pQ b_1),(17,pv0_0),(18,iV (p0.Pats.length:Int)),(19,iV s1)] (St w0 Φ [(b_1,.cells #[.string p0.Name,iV p0.Sal,pv0_0,pv0_1,pv0_2] 148 (0,0))] [])
 unfold eQ at h
 refine att 5 [] rfl ?_
 refine ch h rfl ?_ ?_ <;> intro h
 ·refine atr 6 [] rfl ?_
  obtain ⟨x4,hx4,h⟩:=bs h
  obtain ⟨cs1,F1,-,g1,hb1,hs1,r1⟩:=ph0_0.el (a7 hx4).2.2
  obtain ⟨v1,G1,rfl,hq1,h1⟩:=r1
  obtain rfl:=hq1.symm
  refine lia ph0_0 hx4 rfl<|lhx 0 3 g1 rfl<|lnz pE rfl fun b_2=>la rfl<|soN 0 sN rfl ⟨rfl,h1.one,rfl,trivial⟩ rfl ?_
  refine en<|sq<|WT.draw co (by kernel_rfl) (fun _ h=>h.drew)<|qq (ao vU rfl (fun w1 hw=>hw.rgO (i:=0) rfl 0 3 [.string x4.Kind,v1,.bool x4.Not] rfl) rfl) rfl ?_
  obtain ⟨x5,hx5,h⟩:=bs h
  refine qp (bP Kt rfl (fun w1 hw=>EH N (ba hw.in0) x4 h1 hx5)) rfl<|aqq 2 [] rfl ?_
  obtain ⟨b2,hb_2,h⟩:=bs h
  refine WQ.cutN 8 [(35,.bool b2),(1,pQ b_1),(17,pv0_0),(18,iV (p0.Pats.length:Int)),(19,iV s1)] ?_ (fun K=>?_)
  rotate_left
  ·refine WQ.split (d:=27) rfl (fun c4=>?_) (fun c4=>?_)
   ·replace hb_2:=gV hb_2 c4
    refine aqq 8 [] rfl ?_
    cases hb_2
    exact kq K
   ·replace hb_2:=gZ hb_2 c4
    refine aqq 4 [2,0,37] rfl<|WQ.yes rfl rfl ?_
    obtain ⟨x6,hx6,hb_2⟩:=bs hb_2
    refine qp (bP Hr rfl (fun w1 hw=>pD N (ba hw.in0) p0 ph0_0 ph0_1 ph0_2 hx6)) rfl<|WQ.yes rfl rfl<|qq (Lb rfl rfl) rfl<|WQ.yes rfl rfl<|qq (Le MM rfl rfl) rfl<|WQ.q (sv rfl rfl) rfl rfl rfl ?_
    cases hb_2
    exact kq K
  refine WQ.nil ?_
  refine ch h rfl ?_ ?_ <;> intro h
  ·refine att 4 [] rfl ?_
   exact rt hF h
  refine att 6 [] rfl ?_
  exact lb [] [1] (ih1 _ h)
 refine att 5 [] rfl ?_
 exact rt hF h
theorem kV  (w0:af Ψ Φ []) (p0:be)  {r:Bool} (h:iX N p0=some r) :
  CB w0 prog 233 [.agg [iV p0.K,.string p0.S,iV p0.V.K,iV p0.V.N,.string p0.V.S].toArray] (.bool r):=by
 refine eN func233 rfl ntmps233 rfl w0 fun hF=>?_
 unfold iX at h
 refine sr<|lbx rfl fun b_1=>arr 8 [0,0] rfl ?_
 obtain ⟨b1,hb_1,h⟩:=bs h
 refine WL.cutN 3 [(9,.bool b1),(2,.bool false)] ?_ (fun K=>?_)
 rotate_left
 ·refine sp 6 hb_1 rfl (fun hb_1=>?_) fun hb_1=>?_
  ·refine ly rfl rfl<|ld5 DF 0 rfl<|ly rfl rfl<|qc hb_1 (w8 N · p0 ·) rfl rfl rfl fun x1 hb_1=>la rfl ?_
   cases hb_1
   exact ku K
  ·refine arr 3 [] rfl ?_
   cases hb_1
   exact ku K
 refine la rfl<|en ?_
 exact rt hF h
theorem Cp  (w0:af Ψ Φ []) (p0:bn)  {r:Bool} (h:rA N p0=some r) :
  CB w0 prog 206 [.agg [iV p0.Op,iV p0.L.K,.string p0.L.S,iV p0.L.V.K,iV p0.L.V.N,.string p0.L.V.S,iV p0.R.K,.string p0.R.S,iV p0.R.V.K,iV p0.R.V.N,.string p0.R.V.S].toArray] (.bool r):=by
 refine eN func206 rfl ntmps206 rfl w0 fun hF=>?_
 unfold rA at h
 refine sr<|lbx rfl fun b_1=>arr 6 [0,0] rfl<|qc h (cM N · p0.Op 1 3 ·) rfl rfl rfl fun x1 h=>la rfl ?_
 obtain ⟨b1,hb_1,h⟩:=bs h
 refine WL.cutN 4 [(10,.bool b1),(1,pQ b_1),(2,.bool false)] ?_ (fun K=>?_)
 rotate_left
 ·refine sp 6 hb_1 rfl (fun hb_1=>?_) fun hb_1=>?_
  ·refine arr 2 [1,5] rfl<|ly rfl rfl<|qc hb_1 (kV N · p0.L ·) rfl rfl rfl fun x2 hb_1=>la rfl ?_
   cases hb_1
   exact ku K
  ·refine arr 4 [] rfl ?_
   cases hb_1
   exact ku K
 refine la rfl ?_
 obtain ⟨b2,hb_2,h⟩:=bs h
 refine WL.cutN 4 [(15,.bool b2),(2,.bool false)] ?_ (fun K=>?_)
 rotate_left
 ·refine sp 11 hb_2 rfl (fun hb_2=>?_) fun hb_2=>?_
  ·refine arr 2 [6,5] rfl<|ly rfl rfl<|qc hb_2 (kV N · p0.R ·) rfl rfl rfl fun x3 hb_2=>la rfl ?_
   cases hb_2
   exact ku K
  ·refine arr 4 [] rfl ?_
   cases hb_2
   exact ku K
 refine la rfl<|en ?_
 exact rt hF h
theorem Bt  (w0:af Ψ Φ []) (p0:bk)  {r:Bool} (h:qF N p0=some r) :
  CB w0 prog 244 [.agg [.string p0.Op,iV p0.L.K,.string p0.L.S,iV p0.L.V.K,iV p0.L.V.N,.string p0.L.V.S,iV p0.R.K,.string p0.R.S,iV p0.R.V.K,iV p0.R.V.N,.string p0.R.V.S].toArray] (.bool r):=by
 refine eN func244 rfl ntmps244 rfl w0 fun hF=>?_
 unfold qF at h
 refine sr<|lbx rfl fun b_1=>art 14 [0,0] rfl ?_
 refine ch h rfl ?_ ?_ <;> intro h
 ·refine atr 4 [1,5] rfl<|qc h (kV N · p0.L ·) rfl rfl rfl fun x1 h=>la rfl ?_
  obtain ⟨b1,hb_1,h⟩:=bs h
  refine WL.cutN 5 [(15,.bool b1),(2,.bool false)] ?_ (fun K=>?_)
  rotate_left
  ·refine sp 10 hb_1 rfl (fun hb_1=>?_) fun hb_1=>?_
   ·refine arr 2 [6,5] rfl<|ly rfl rfl<|lq (cw (vs:=[]) (C:=#[iV 0,.string (⟨#[]⟩:ByteArray),iV 0,iV 0,.string (⟨#[]⟩:ByteArray)]) Jm pG rfl (ak)) rfl<|ly rfl rfl<|lq (Fq HL rfl rfl rfl (r:=sc p0.R (⟨0,(⟨#[]⟩:ByteArray),(⟨0,0,(⟨#[]⟩:ByteArray)⟩:aL)⟩:be)) rfl) rfl<|la rfl ?_
    cases hb_1
    exact ku K
   ·refine arr 5 [] rfl ?_
    cases hb_1
    exact ku K
  refine la rfl<|en ?_
  exact rt hF h
 refine att 6 [] rfl ?_
 refine cut (σ:=Bool) (fun s=>[(1,pQ b_1),(16,.bool s)]) (fun s=>St w0 Φ [(b_1,.cells #[.string p0.Op,iV p0.L.K,.string p0.L.S,iV p0.L.V.K,iV p0.L.V.N,.string p0.L.V.S,iV p0.R.K,.string p0.R.S,iV p0.R.V.K,iV p0.R.V.N,.string p0.R.V.S] 281 (0,0))] []) (fun s=>jh N p0 s=some r) (fun s hm=>?_) (fun K=>?_)
 ·clear h
  revert hm; revert s; intro s1 hm
  have h:jh N p0 s1=some r:=hm
  show WT _ _ [(1,pQ b_1),(16,.bool s1)] (St w0 Φ [(b_1,.cells #[.string p0.Op,iV p0.L.K,.string p0.L.S,iV p0.L.V.K,iV p0.L.V.N,.string p0.L.V.S,iV p0.R.K,.string p0.R.S,iV p0.R.V.K,iV p0.R.V.N,.string p0.R.V.S] 281 (0,0))] [])
  unfold jh at h
  refine ch h rfl ?_ ?_ <;> intro h
  ·refine atr 4 [1,5] rfl<|qc h (kV N · p0.L ·) rfl rfl rfl fun x2 h=>la rfl ?_
   obtain ⟨b2,hb_2,h⟩:=bs h
   refine WL.cutN 4 [(26,.bool b2)] ?_ (fun K=>?_)
   rotate_left
   ·refine sp 22 hb_2 rfl (fun hb_2=>?_) fun hb_2=>?_
    ·refine arr 2 [6,5] rfl<|ly rfl rfl<|qc hb_2 (kV N · p0.R ·) rfl rfl rfl fun x3 hb_2=>la rfl ?_
     cases hb_2
     exact ku K
    ·refine arr 4 [] rfl ?_
     cases hb_2
     exact ku K
   refine la rfl<|en ?_
   exact rt hF h
  refine att 6 [] rfl ?_
  exact rt hF h
 refine ch h rfl ?_ ?_ <;> intro h
 ·refine WT.skip ?_
  exact wo [] [0] (K _ h)
 refine att 4 [] rfl ?_
 exact wo [] [0] (K _ h)
theorem sJ (w0:af Ψ Φ []) (p0:bM) (ph0_0:RSl bu 11 Ψ pG0_0 pv0_0 p0.Args) {r:Bool} (h:lG N p0=some r) :
  CB w0 prog 234 [.agg [iV p0.Kind,.string p0.Name,pv0_0,iV p0.N,.string p0.Undo].toArray] (.bool r):=by
 refine eN func234 rfl ntmps234 rfl w0 fun hF=>?_
 unfold lG at h
 refine sr<|lbx rfl fun b_1=>arr 7 [1,0] rfl<|qc h (jD N · p0.Name ·) rfl rfl rfl fun x1 h=>arr 2 [] rfl ?_
 obtain ⟨b1,hb_1,h⟩:=bs h
 refine WL.cutN 5 [(14,.bool b1),(1,pQ b_1)] ?_ (fun K=>?_)
 rotate_left
 ·refine sp 9 hb_1 rfl (fun hb_1=>?_) fun hb_1=>?_
  ·refine arr 5 [] rfl ?_
   cases hb_1
   exact ku K
  ·refine arr 2 [2,0] rfl<|ly rfl rfl<|lnr ph0_0 rfl<|arr 2 [] rfl ?_
   cases hb_1
   exact ku K
 refine en ?_
 refine ch h rfl ?_ ?_ <;> intro h
 ·refine att 4 [] rfl ?_
  exact rt hF h
 refine atr 6 [2,0] rfl<|lnr ph0_0 rfl<|art 3 [] rfl ?_
 refine lin (σ:=Int) (fun s=>[(16,pv0_0),(17,iV (p0.Args.length:Int)),(18,iV s)]) (fun s=>St w0 Φ [] []) (fun m s=>eJ N p0 m s=some r) (0) N h (sx [] []) (fun n1 ih1 s hm=>?_)
 revert hm; revert s; intro s1 hm
 have h:eJ N p0 (n1+1) s1=some r:=hm
 show WT _ _ [(16,pv0_0),(17,iV (p0.Args.length:Int)),(18,iV s1)] (St w0 Φ [] [])
 unfold eJ at h
 refine att 5 [] rfl ?_
 refine ch h rfl ?_ ?_ <;> intro h
 ·refine atr 5 [] rfl ?_
  obtain ⟨x2,hx2,h⟩:=bs h
  obtain ⟨cs1,F1,-,g1,hb1,hs1,r1⟩:=ph0_0.el (a7 hx2).2.2
  obtain ⟨rfl,-⟩:=r1
  refine lia ph0_0 hx2 rfl<|lhx 0 11 g1 rfl<|lnz zY rfl fun b_2=>soN 0 E1 rfl ⟨rfl,rfl,rfl,rfl,rfl,rfl,rfl,rfl,rfl,rfl,rfl,trivial⟩ rfl ?_
  refine arr 4 [11] rfl<|qc h (Bt N · x2 ·) rfl rfl rfl fun x3 h=>la rfl<|en ?_
  refine ch h rfl ?_ ?_ <;> intro h
  ·refine att 4 [] rfl ?_
   exact rt hF h
  refine att 6 [] rfl ?_
  exact lb [] [] (ih1 _ h)
 refine att 5 [] rfl ?_
 exact rt hF h
theorem Be  (w0:af Ψ Φ []) (p0:ByteArray)  {r:Bool} (h:tR N p0=some r) :
  CB w0 prog 235 [.string p0] (.bool r):=by
 refine eN func235 rfl ntmps235 rfl w0 fun hF=>?_
 unfold tR at h
 refine atr 9 [] rfl ?_
 obtain ⟨b1,hb_1,h⟩:=bs h
 refine WL.cutN 3 [(8,.bool b1),(2,.bool false)] ?_ (fun K=>?_)
 rotate_left
 ·refine sp 5 hb_1 rfl (fun hb_1=>?_) fun hb_1=>?_
  ·refine arr 3 [] rfl ?_
   cases hb_1
   exact ku K
  ·refine ly rfl rfl<|la rfl<|ly rfl rfl<|qc hb_1 (jD N · p0 ·) rfl rfl rfl fun x1 hb_1=>la rfl ?_
   cases hb_1
   exact ku K
 refine la rfl<|en ?_
 exact rt hF h
theorem DX (w0:af Ψ Φ []) (p0:bM) (ph0_0:RSl bu 11 Ψ pG0_0 pv0_0 p0.Args) {r:Bool} (h:t8 N p0=some r) :
  CB w0 prog 207 [.agg [iV p0.Kind,.string p0.Name,pv0_0,iV p0.N,.string p0.Undo].toArray] (.bool r):=by
 refine eN func207 rfl ntmps207 rfl w0 fun hF=>?_
 unfold t8 at h
 refine sr<|lbx rfl fun b_1=>arr 8 [1,0] rfl ?_
 obtain ⟨b1,hb_1,h⟩:=bs h
 refine WL.cutN 5 [(12,.bool b1),(1,pQ b_1)] ?_ (fun K=>?_)
 rotate_left
 ·refine sp 7 hb_1 rfl (fun hb_1=>?_) fun hb_1=>?_
  ·refine arr 2 [2,0] rfl<|ly rfl rfl<|lnr ph0_0 rfl<|arr 2 [] rfl ?_
   cases hb_1
   exact ku K
  ·refine arr 5 [] rfl ?_
   cases hb_1
   exact ku K
 refine art 14 [0,0] rfl ?_
 refine ch h rfl ?_ ?_ <;> intro h
 ·refine atr 3 [5] rfl<|qd h (sJ N · p0 ph0_0 ·) rfl rfl rfl fun x1 h=>la rfl ?_
  obtain ⟨b2,hb_2,h⟩:=bs h
  refine WL.cutN 4 [(23,.bool b2),(1,pQ b_1)] ?_ (fun K=>?_)
  rotate_left
  ·refine sp 19 hb_2 rfl (fun hb_2=>?_) fun hb_2=>?_
   ·refine arr 4 [3,0] rfl ?_
    cases hb_2
    exact ku K
   ·refine arr 4 [] rfl ?_
    cases hb_2
    exact ku K
  refine la rfl ?_
  obtain ⟨b3,hb_3,h⟩:=bs h
  refine WL.cutN 4 [(28,.bool b3)] ?_ (fun K=>?_)
  rotate_left
  ·refine sp 24 hb_3 rfl (fun hb_3=>?_) fun hb_3=>?_
   ·refine arr 4 [4,0] rfl ?_
    cases hb_3
    exact ku K
   ·refine arr 4 [] rfl ?_
    cases hb_3
    exact ku K
  refine la rfl<|en ?_
  exact rt hF h
 refine att 5 [] rfl ?_
 refine ch h rfl ?_ ?_ <;> intro h
 ·refine atr 4 [] rfl ?_
  obtain ⟨b4,hb_4,h⟩:=bs h
  refine WL.cutN 4 [(36,.bool b4),(1,pQ b_1)] ?_ (fun K=>?_)
  rotate_left
  ·refine sp 32 hb_4 rfl (fun hb_4=>?_) fun hb_4=>?_
   ·refine arr 2 [3,0] rfl<|ly rfl rfl<|qc hb_4 (cM N · p0.N 0 7 ·) rfl rfl rfl fun x2 hb_4=>la rfl ?_
    cases hb_4
    exact ku K
   ·refine arr 4 [] rfl ?_
    cases hb_4
    exact ku K
  refine la rfl ?_
  obtain ⟨b5,hb_5,h⟩:=bs h
  refine WL.cutN 4 [(41,.bool b5)] ?_ (fun K=>?_)
  rotate_left
  ·refine sp 37 hb_5 rfl (fun hb_5=>?_) fun hb_5=>?_
   ·refine arr 4 [4,0] rfl ?_
    cases hb_5
    exact ku K
   ·refine arr 4 [] rfl ?_
    cases hb_5
    exact ku K
  refine la rfl<|en ?_
  exact rt hF h
 refine att 5 [] rfl ?_
 refine ch h rfl ?_ ?_ <;> intro h
 ·refine atr 3 [5] rfl<|qd h (sJ N · p0 ph0_0 ·) rfl rfl rfl fun x3 h=>la rfl ?_
  obtain ⟨b6,hb_6,h⟩:=bs h
  refine WL.cutN 4 [(50,.bool b6),(1,pQ b_1)] ?_ (fun K=>?_)
  rotate_left
  ·refine sp 46 hb_6 rfl (fun hb_6=>?_) fun hb_6=>?_
   ·refine arr 4 [3,0] rfl ?_
    cases hb_6
    exact ku K
   ·refine arr 4 [] rfl ?_
    cases hb_6
    exact ku K
  refine la rfl ?_
  obtain ⟨b7,hb_7,h⟩:=bs h
  refine WL.cutN 4 [(55,.bool b7)] ?_ (fun K=>?_)
  rotate_left
  ·refine sp 51 hb_7 rfl (fun hb_7=>?_) fun hb_7=>?_
   ·refine arr 2 [4,0] rfl<|ly rfl rfl<|qc hb_7 (Be N · p0.Undo ·) rfl rfl rfl fun x4 hb_7=>la rfl ?_
    cases hb_7
    exact ku K
   ·refine arr 4 [] rfl ?_
    cases hb_7
    exact ku K
  refine la rfl<|en ?_
  exact rt hF h
 refine att 5 [] rfl ?_
 refine ch h rfl ?_ ?_ <;> intro h
 ·refine atr 3 [5] rfl<|qd h (sJ N · p0 ph0_0 ·) rfl rfl rfl fun x5 h=>la rfl ?_
  obtain ⟨b8,hb_8,h⟩:=bs h
  refine WL.cutN 4 [(64,.bool b8),(1,pQ b_1)] ?_ (fun K=>?_)
  rotate_left
  ·refine sp 60 hb_8 rfl (fun hb_8=>?_) fun hb_8=>?_
   ·refine arr 2 [3,0] rfl<|ly rfl rfl<|qc hb_8 (cM N · p0.N 0 100000 ·) rfl rfl rfl fun x6 hb_8=>la rfl ?_
    cases hb_8
    exact ku K
   ·refine arr 4 [] rfl ?_
    cases hb_8
    exact ku K
  refine la rfl ?_
  obtain ⟨b9,hb_9,h⟩:=bs h
  refine WL.cutN 4 [(69,.bool b9)] ?_ (fun K=>?_)
  rotate_left
  ·refine sp 65 hb_9 rfl (fun hb_9=>?_) fun hb_9=>?_
   ·refine arr 4 [4,0] rfl ?_
    cases hb_9
    exact ku K
   ·refine arr 4 [] rfl ?_
    cases hb_9
    exact ku K
  refine la rfl<|en ?_
  exact rt hF h
 refine att 6 [] rfl ?_
 refine cut (σ:=Bool) (fun s=>[(1,pQ b_1),(3,.bool b1),(70,.bool s)]) (fun s=>St w0 Φ [(b_1,.cells #[iV p0.Kind,.string p0.Name,pv0_0,iV p0.N,.string p0.Undo] 229 (0,0))] []) (fun s=>kx N p0 b1 s=some r) (fun s hm=>?_) (fun K=>?_)
 ·clear h
  revert hm; revert s; intro s1 hm
  have h:kx N p0 b1 s1=some r:=hm
  show WT _ _ [(1,pQ b_1),(3,.bool b1),(70,.bool s1)] (St w0 Φ [(b_1,.cells #[iV p0.Kind,.string p0.Name,pv0_0,iV p0.N,.string p0.Undo] 229 (0,0))] [])
  unfold kx at h
  refine ch h rfl ?_ ?_ <;> intro h
  ·refine atr 4 [] rfl ?_
   obtain ⟨b10,hb_10,h⟩:=bs h
   refine WL.cutN 4 [(78,.bool b10),(1,pQ b_1)] ?_ (fun K=>?_)
   rotate_left
   ·refine sp 74 hb_10 rfl (fun hb_10=>?_) fun hb_10=>?_
    ·refine arr 4 [3,0] rfl ?_
     cases hb_10
     exact ku K
    ·refine arr 4 [] rfl ?_
     cases hb_10
     exact ku K
   refine la rfl ?_
   obtain ⟨b11,hb_11,h⟩:=bs h
   refine WL.cutN 4 [(83,.bool b11)] ?_ (fun K=>?_)
   rotate_left
   ·refine sp 79 hb_11 rfl (fun hb_11=>?_) fun hb_11=>?_
    ·refine arr 4 [4,0] rfl ?_
     cases hb_11
     exact ku K
    ·refine arr 4 [] rfl ?_
     cases hb_11
     exact ku K
   refine la rfl<|en ?_
   exact rt hF h
  refine att 6 [] rfl ?_
  exact rt hF h
 refine ch h rfl ?_ ?_ <;> intro h
 ·refine WT.skip ?_
  exact wo [] [0] (K _ h)
 refine att 4 [] rfl ?_
 exact wo [] [0] (K _ h)
theorem pB (w0:af Ψ Φ []) (p0:(List ByteArray)) (p1:ByteArray) (ph0:RSl RS 1 Ψ pG0 pv0 p0) {r:Int} (h:cX N p0 p1=some r) :
  CB w0 prog 237 [pv0,.string p1] (iV r):=by
 refine eN func237 rfl ntmps237 rfl w0 fun hF=>?_
 unfold cX at h
 refine atr 8 [] rfl<|lnr ph0 rfl<|art 3 [] rfl ?_
 refine lin (σ:=Int) (fun s=>[(0,pv0),(1,.string p1),(7,iV (p0.length:Int)),(8,iV s)]) (fun s=>St w0 Φ [] []) (fun m s=>bj N p0 p1 m s=some r) (0) N h (sx [] []) (fun n1 ih1 s hm=>?_)
 revert hm; revert s; intro s1 hm
 have h:bj N p0 p1 (n1+1) s1=some r:=hm
 show WT _ _ [(0,pv0),(1,.string p1),(7,iV (p0.length:Int)),(8,iV s1)] (St w0 Φ [] [])
 unfold bj at h
 refine att 5 [] rfl ?_
 refine ch h rfl ?_ ?_ <;> intro h
 ·refine atr 13 [] rfl ?_
  obtain ⟨x1,hx1,h⟩:=bs h
  obtain ⟨cs1,F1,-,g1,hb1,hs1,r1⟩:=ph0.el (a7 hx1).2.2
  obtain ⟨rfl,-⟩:=r1
  refine lia ph0 hx1 rfl<|lhx 0 0 g1 rfl<|la rfl<|en ?_
  refine ch h rfl ?_ ?_ <;> intro h
  ·refine att 5 [] rfl ?_
   exact rt hF h
  refine att 6 [] rfl ?_
  exact lb [] [] (ih1 _ h)
 refine att 5 [] rfl ?_
 exact rt hF h
theorem ie (w0:af Ψ Φ []) (p0:(List ByteArray)) (p1:ByteArray) (ph0:RSl RS 1 Ψ pG0 pv0 p0) {r:Bool} (h:bL N p0 p1=some r) :
  CB w0 prog 211 [pv0,.string p1] (.bool r):=by
 refine eN func211 rfl ntmps211 rfl w0 fun hF=>?_
 unfold bL at h
 refine atr 8 [] rfl<|qd h (pB N · p0 p1 ph0 ·) rfl rfl rfl fun x1 h=>art 3 [] rfl ?_
 exact rt hF h
theorem Ag (w0:af Ψ Φ [ob pv0].flatten) (p0:(List ByteArray)) (p1:ByteArray) (ph0:OSl RS 9 1 Φ [] pv0 p0) {r:(List ByteArray)} (h:oB N p0 p1=some r) :
  Calls prog 245 [pv0,.string p1].toArray w0.w (aQ Φ w0.w [ob pv0].flatten (fun Φ' Fs v=>∃ (sr_0_0:Value),v=sr_0_0∧Fs=[ob sr_0_0]∧OSl RS 9 1 Φ' [] sr_0_0 r)):=by
 refine eL func245 rfl ntmps245 rfl (L:=[ob pv0]) w0 (fun hF=>?_)
 unfold oB at h
 refine atr 9 [] rfl<|qc h (ie N · p0 p1 ph0.rsl ·) rfl rfl rfl fun x1 h=>en ?_
 refine ch h rfl ?_ ?_ <;> intro h
 ·refine att 5 [] rfl ?_
  exact rtg [0] hF (ay.one rfl) rfl (by cases h; exact fun w1 hw=>⟨pv0,rfl,rfl,ph0⟩)
 refine atr 5 [] rfl ?_
 have rc1:RC RS 1 Φ ([[]]:List (List Nat)) [.string p1] ([p1]:List ByteArray):=RC.cons (c:=[.string p1]) (cells:=[]) ⟨rfl,rfl⟩ rfl (RC.nil _ _ _)
 refine le' (cu (vs:=[(0,.string p1)]) (C:=#[.string p1]) RS.lasts uB ID rfl rfl rfl rfl (aI GI (ai (C':=[.string p1]) rfl rfl rfl rfl rfl (ak))) rfl rc1 rfl (by simpa using Kw.nil)) rfl ?_
 rintro v1 Φ_1 D1 ⟨fr1,h1⟩
 replace h1:OSl RS 9 1 Φ_1 [] v1 ([p1]:List ByteArray):=by simpa using h1
 replace ph0:=ph0.f0 fr1
 obtain ⟨x2,hx2,h⟩:=bs h
 refine le' (cP RS.lasts RS.one RS.flat uB MA rfl rfl rfl rfl rfl (js:=[1]) (Rr:=[ob v1]) rfl ph0 h1.rsl hx2) rfl ?_
 rintro v2 Φ_2 D2 ⟨⟨ap1,fr2⟩,h2⟩
 refine la rfl<|en ?_
 exact rtg [0] hF (ay.one rfl) rfl (by cases h; exact fun w1 hw=>⟨v2,rfl,rfl,h2⟩)
theorem qR (w0:af Ψ Φ [ob pv0].flatten) (p0:(List ByteArray)) (p1:(List be)) (ph0:OSl RS 9 1 Φ [] pv0 p0) (ph1:RSl bQ 5 Ψ pG1 pv1 p1) {r:(List ByteArray)} (h:kf N p0 p1=some r) :
  Calls prog 236 [pv0,pv1].toArray w0.w (aQ Φ w0.w [ob pv0].flatten (fun Φ' Fs v=>∃ (sr_0_0:Value),v=sr_0_0∧Fs=[ob sr_0_0]∧OSl RS 9 1 Φ' [] sr_0_0 r)):=by
 refine eL func236 rfl ntmps236 rfl (L:=[ob pv0]) w0 (fun hF=>?_)
 unfold kf at h
 refine atr 8 [] rfl<|lnr ph1 rfl<|art 3 [] rfl ?_
 refine lin (σ:=Hp × (List ByteArray) × Value × Int) (fun s=>[(0,s.2.2.1),(7,pv1),(8,iV (p1.length:Int)),(9,iV s.2.2.2)]) (fun s=>St w0 s.1 [] [ob s.2.2.1]) (fun m s=>fc N p1 m s.2.1 s.2.2.2=some r∧(OSl RS 9 1 s.1 [] s.2.2.1 s.2.1)) (Φ,p0,pv0,0) N ⟨h,ph0⟩ (sx [0] []) (fun n1 ih1 s hm=>?_)
 obtain ⟨Φ_1,s1,u1,s2⟩:=s
 obtain ⟨h,k1⟩:=hm
 dsimp only at h k1 ⊢
 unfold fc at h
 refine att 5 [] rfl ?_
 refine ch h rfl ?_ ?_ <;> intro h
 ·refine atr 5 [] rfl ?_
  obtain ⟨x1,hx1,h⟩:=bs h
  obtain ⟨cs1,F1,-,g1,hb1,hs1,r1⟩:=ph1.el (a7 hx1).2.2
  obtain ⟨rfl,-⟩:=r1
  refine lia ph1 hx1 rfl<|lhx 0 5 g1 rfl<|lnz pG rfl fun b_1=>soN 0 qO rfl ⟨rfl,rfl,rfl,rfl,rfl,trivial⟩ rfl ?_
  refine art 7 [0,0] rfl ?_
  refine ch h rfl ?_ ?_ <;> intro h
  ·refine atr 4 [1,0] rfl<|kcb [0] h rfl rfl rfl rfl (fun b ap z q=>Ag N b s1 x1.S k1 q) ?_
   rintro x2 h v1 Φ_2 F2 ⟨ap1,fr1,v2,rfl,rfl,h1⟩
   refine art 7 [] rfl ?_
   exact lb [0] [] (ih1 (_,_,_,_) ⟨h,h1⟩)
  refine att 6 [] rfl ?_
  exact lb [0] [] (ih1 (_,_,_,_) ⟨h,k1⟩)
 refine att 6 [] rfl ?_
 exact rtg [0] hF (ay.one rfl) rfl (by cases h; exact fun w1 hw=>⟨u1,rfl,rfl,k1⟩)
theorem A9 (w0:af Ψ Φ []) (p0:ag) (ph0_0:RSl bJ 3 Ψ pG0_0 pv0_0 p0.Pats) (ph0_1:RSl bd 11 Ψ pG0_1 pv0_1 p0.Conds) (ph0_2:RSl dF 5 Ψ pG0_2 pv0_2 p0.Acts) {r:(List ByteArray)} (h:lV N p0=some r) :
  Calls prog 209 [.agg [.string p0.Name,iV p0.Sal,pv0_0,pv0_1,pv0_2].toArray].toArray w0.w (aQ Φ w0.w [] (fun Φ' Fs v=>∃ (sr_0_0:Value),v=sr_0_0∧Fs=[ob sr_0_0]∧OSl RS 9 1 Φ' [] sr_0_0 r)):=by
 refine eN func209 rfl ntmps209 rfl w0 fun hF=>?_
 unfold lV at h
 refine sr<|lbx rfl fun b_1=>arr 11 [2,0] rfl<|lnr ph0_0 rfl<|art 3 [] rfl<|wtS ?_
 have k1:=OSl.nil RS 9 1 Φ
 refine lin (σ:=Hp × (List ByteArray) × Value × Int) (fun s=>[(3,s.2.2.1),(7,pv0_0),(8,iV (p0.Pats.length:Int)),(9,iV s.2.2.2)]) (fun s=>St w0 s.1 [] [ob s.2.2.1]) (fun m s=>fk N p0 m s.2.1 s.2.2.2=some r∧(OSl RS 9 1 s.1 [] s.2.2.1 s.2.1)) (Φ,([]:List ByteArray),(.slice none 0 0),0) N ⟨h,k1⟩ (sx [0] []) (fun n1 ih1 s hm=>?_)
 obtain ⟨Φ_1,s1,u1,s2⟩:=s
 obtain ⟨h,k2⟩:=hm
 dsimp only at h k2 ⊢
 unfold fk at h
 refine att 5 [] rfl ?_
 refine ch h rfl ?_ ?_ <;> intro h
 ·refine atr 5 [] rfl ?_
  obtain ⟨x1,hx1,h⟩:=bs h
  obtain ⟨cs1,F1,-,g1,hb1,hs1,r1⟩:=ph0_0.el (a7 hx1).2.2
  obtain ⟨v1,G1,rfl,hq1,h1⟩:=r1
  obtain rfl:=hq1.symm
  refine lia ph0_0 hx1 rfl<|lhx 0 3 g1 rfl<|lnz pE rfl fun b_2=>soN 0 sN rfl ⟨rfl,h1.one,rfl,trivial⟩ rfl ?_
  refine art 7 [2,0] rfl ?_
  refine ch h rfl ?_ ?_ <;> intro h
  ·refine atr 4 [1,0] rfl<|kcb [0] h rfl rfl rfl rfl (fun b ap z q=>qR N b s1 x1.Args k2 (h1.y z) q) ?_
   rintro x2 h v2 Φ_2 F2 ⟨ap1,fr1,v3,rfl,rfl,h2⟩
   refine art 7 [] rfl ?_
   exact lb [0] [] (ih1 (_,_,_,_) ⟨h,h2⟩)
  refine att 6 [] rfl ?_
  exact lb [0] [] (ih1 (_,_,_,_) ⟨h,k2⟩)
 refine att 6 [] rfl ?_
 exact rtg [0] hF (ay.one rfl) rfl (by cases h; exact fun w1 hw=>⟨u1,rfl,rfl,k2⟩)
theorem yK (w0:af Ψ Φ []) (p0:ag) (ph0_0:RSl bJ 3 Ψ pG0_0 pv0_0 p0.Pats) (ph0_1:RSl bd 11 Ψ pG0_1 pv0_1 p0.Conds) (ph0_2:RSl dF 5 Ψ pG0_2 pv0_2 p0.Acts) {r:(List ByteArray)} (h:ni N p0=some r) :
  Calls prog 210 [.agg [.string p0.Name,iV p0.Sal,pv0_0,pv0_1,pv0_2].toArray].toArray w0.w (aQ Φ w0.w [] (fun Φ' Fs v=>∃ (sr_0_0:Value),v=sr_0_0∧Fs=[ob sr_0_0]∧OSl RS 9 1 Φ' [] sr_0_0 r)):=by
 refine eN func210 rfl ntmps210 rfl w0 fun hF=>?_
 unfold ni at h
 refine sr<|lbx rfl fun b_1=>arr 11 [3,0] rfl<|lnr ph0_1 rfl<|art 3 [] rfl<|wtS ?_
 have k1:=OSl.nil RS 9 1 Φ
 refine lin (σ:=Hp × (List ByteArray) × Value × Int) (fun s=>[(1,pQ b_1),(3,s.2.2.1),(11,pv0_1),(12,iV (p0.Conds.length:Int)),(13,iV s.2.2.2)]) (fun s=>St w0 s.1 [(b_1,.cells #[.string p0.Name,iV p0.Sal,pv0_0,pv0_1,pv0_2] 148 (0,0))] [ob s.2.2.1]) (fun m s=>fD N p0 m s.2.1 s.2.2.2=some r∧(OSl RS 9 1 s.1 [] s.2.2.1 s.2.1)) (Φ,([]:List ByteArray),(.slice none 0 0),0) N ⟨h,k1⟩ (sx [0] [0]) (fun n1 ih1 s hm=>?_)
 obtain ⟨Φ_1,s1,u1,s2⟩:=s
 obtain ⟨h,k2⟩:=hm
 dsimp only at h k2 ⊢
 unfold fD at h
 refine att 5 [] rfl ?_
 refine ch h rfl ?_ ?_ <;> intro h
 ·refine atr 5 [] rfl ?_
  obtain ⟨x1,hx1,h⟩:=bs h
  obtain ⟨cs1,F1,-,g1,hb1,hs1,r1⟩:=ph0_1.el (a7 hx1).2.2
  obtain ⟨rfl,-⟩:=r1
  refine lia ph0_1 hx1 rfl<|lhx 0 11 g1 rfl<|lnz zr rfl fun b_2=>soN 0 DR rfl ⟨rfl,rfl,rfl,rfl,rfl,rfl,rfl,rfl,rfl,rfl,rfl,trivial⟩ rfl ?_
  refine arr 7 [1,5,6,5] rfl ?_
  have rc1:RC bQ 5 Φ_1 ([[],[]]:List (List Nat)) [iV x1.L.K,.string x1.L.S,iV x1.L.V.K,iV x1.L.V.N,.string x1.L.V.S,iV x1.R.K,.string x1.R.S,iV x1.R.V.K,iV x1.R.V.N,.string x1.R.V.S] ([x1.L,x1.R]:List be):=RC.cons (c:=[iV x1.L.K,.string x1.L.S,iV x1.L.V.K,iV x1.L.V.N,.string x1.L.V.S]) (cells:=[iV x1.R.K,.string x1.R.S,iV x1.R.V.K,iV x1.R.V.N,.string x1.R.V.S]) ⟨rfl,rfl⟩ rfl (RC.cons (c:=[iV x1.R.K,.string x1.R.S,iV x1.R.V.K,iV x1.R.V.N,.string x1.R.V.S]) (cells:=[]) ⟨rfl,rfl⟩ rfl (RC.nil _ _ _))
  refine le' (cu (vs:=[(0,.agg [iV x1.L.K,.string x1.L.S,iV x1.L.V.K,iV x1.L.V.N,.string x1.L.V.S].toArray),(1,.agg [iV x1.R.K,.string x1.R.S,iV x1.R.V.K,iV x1.R.V.N,.string x1.R.V.S].toArray)]) (C:=#[iV x1.L.K,.string x1.L.S,iV x1.L.V.K,iV x1.L.V.N,.string x1.L.V.S,iV x1.R.K,.string x1.R.S,iV x1.R.V.K,iV x1.R.V.N,.string x1.R.V.S]) bQ.lasts xf pG rfl rfl rfl rfl (aI FF (ai (C':=[iV x1.L.K,.string x1.L.S,iV x1.L.V.K,iV x1.L.V.N,.string x1.L.V.S,iV 0,.string ⟨#[]⟩,iV 0,iV 0,.string ⟨#[]⟩]) rfl rfl rfl rfl rfl (ai (C':=[iV x1.L.K,.string x1.L.S,iV x1.L.V.K,iV x1.L.V.N,.string x1.L.V.S,iV x1.R.K,.string x1.R.S,iV x1.R.V.K,iV x1.R.V.N,.string x1.R.V.S]) rfl rfl rfl rfl rfl (ak)))) rfl rc1 rfl (by simpa using Kw.nil)) rfl ?_
  rintro v1 Φ_2 D1 ⟨fr1,h1⟩
  replace h1:OSl bQ 224 5 Φ_2 [] v1 ([x1.L,x1.R]:List be):=by simpa using h1
  replace k2:=k2.f0 fr1
  refine kcb [1] h rfl rfl rfl rfl (fun b ap z q=>qR N b s1 ([x1.L,x1.R]:List be) k2 (h1.rsl.x (Dj.app (ap.q 0 rfl) dN)) q) ?_
  rintro x2 h v2 Φ_3 F2 ⟨ap1,fr2,v3,rfl,rfl,h2⟩
  refine art 7 [] rfl ?_
  exact lb [0] [1] (ih1 (_,_,_,_) ⟨h,h2⟩)
 refine atr 6 [4,0] rfl<|lnr ph0_2 rfl<|art 3 [] rfl ?_
 refine lin (σ:=Hp × (List ByteArray) × Value × Int) (fun s=>[(3,s.2.2.1),(26,pv0_2),(27,iV (p0.Acts.length:Int)),(28,iV s.2.2.2)]) (fun s=>St w0 s.1 [] [ob s.2.2.1]) (fun m s=>cO N p0 m s.2.1 s.2.2.2=some r∧(OSl RS 9 1 s.1 [] s.2.2.1 s.2.1)) (Φ_1,s1,u1,0) N ⟨h,k2⟩ (sx [0] []) (fun n2 ih2 s hm=>?_)
 obtain ⟨Φ_4,s3,u2,s4⟩:=s
 obtain ⟨h,k3⟩:=hm
 dsimp only at h k3 ⊢
 unfold cO at h
 refine att 5 [] rfl ?_
 refine ch h rfl ?_ ?_ <;> intro h
 ·refine atr 5 [] rfl ?_
  obtain ⟨x3,hx3,h⟩:=bs h
  obtain ⟨cs2,F3,-,g2,hb2,hs2,r2⟩:=ph0_2.el (a7 hx3).2.2
  obtain ⟨v4,G1,rfl,hq1,h3⟩:=r2
  obtain rfl:=hq1.symm
  refine lia ph0_2 hx3 rfl<|lhx 0 5 g2 rfl<|lnz AD rfl fun b_3=>soN 0 Fi rfl ⟨rfl,rfl,h3.one,rfl,rfl,trivial⟩ rfl ?_
  refine arr 5 [2,0] rfl<|lnr h3 rfl<|art 3 [] rfl ?_
  refine lin (σ:=Hp × (List ByteArray) × Value × Int) (fun s=>[(3,s.2.2.1),(26,pv0_2),(27,iV (p0.Acts.length:Int)),(28,iV s4),(33,v4),(34,iV (x3.Args.length:Int)),(35,iV s.2.2.2)]) (fun s=>St w0 s.1 [] [ob s.2.2.1]) (fun m s=>em N s4 (cO N p0 n2) x3 m s.2.1 s.2.2.2=some r∧(OSl RS 9 1 s.1 [] s.2.2.1 s.2.1)) (Φ_4,s3,u2,0) N ⟨h,k3⟩ (sx [0] []) (fun n3 ih3 s hm=>?_)
  obtain ⟨Φ_5,s5,u3,s6⟩:=s
  obtain ⟨h,k4⟩:=hm
  dsimp only at h k4 ⊢
  unfold em at h
  refine att 5 [] rfl ?_
  refine ch h rfl ?_ ?_ <;> intro h
  ·refine atr 5 [] rfl ?_
   obtain ⟨x4,hx4,h⟩:=bs h
   obtain ⟨cs3,F4,-,g3,hb3,hs3,r3⟩:=h3.el (a7 hx4).2.2
   obtain ⟨rfl,-⟩:=r3
   refine lia h3 hx4 rfl<|lhx 0 11 g3 rfl<|lnz zY rfl fun b_4=>soN 0 E1 rfl ⟨rfl,rfl,rfl,rfl,rfl,rfl,rfl,rfl,rfl,rfl,rfl,trivial⟩ rfl ?_
   refine arr 7 [1,5,6,5] rfl ?_
   have rc2:RC bQ 5 Φ_5 ([[],[]]:List (List Nat)) [iV x4.L.K,.string x4.L.S,iV x4.L.V.K,iV x4.L.V.N,.string x4.L.V.S,iV x4.R.K,.string x4.R.S,iV x4.R.V.K,iV x4.R.V.N,.string x4.R.V.S] ([x4.L,x4.R]:List be):=RC.cons (c:=[iV x4.L.K,.string x4.L.S,iV x4.L.V.K,iV x4.L.V.N,.string x4.L.V.S]) (cells:=[iV x4.R.K,.string x4.R.S,iV x4.R.V.K,iV x4.R.V.N,.string x4.R.V.S]) ⟨rfl,rfl⟩ rfl (RC.cons (c:=[iV x4.R.K,.string x4.R.S,iV x4.R.V.K,iV x4.R.V.N,.string x4.R.V.S]) (cells:=[]) ⟨rfl,rfl⟩ rfl (RC.nil _ _ _))
   refine le' (cu (vs:=[(0,.agg [iV x4.L.K,.string x4.L.S,iV x4.L.V.K,iV x4.L.V.N,.string x4.L.V.S].toArray),(1,.agg [iV x4.R.K,.string x4.R.S,iV x4.R.V.K,iV x4.R.V.N,.string x4.R.V.S].toArray)]) (C:=#[iV x4.L.K,.string x4.L.S,iV x4.L.V.K,iV x4.L.V.N,.string x4.L.V.S,iV x4.R.K,.string x4.R.S,iV x4.R.V.K,iV x4.R.V.N,.string x4.R.V.S]) bQ.lasts xf pG rfl rfl rfl rfl (aI FF (ai (C':=[iV x4.L.K,.string x4.L.S,iV x4.L.V.K,iV x4.L.V.N,.string x4.L.V.S,iV 0,.string ⟨#[]⟩,iV 0,iV 0,.string ⟨#[]⟩]) rfl rfl rfl rfl rfl (ai (C':=[iV x4.L.K,.string x4.L.S,iV x4.L.V.K,iV x4.L.V.N,.string x4.L.V.S,iV x4.R.K,.string x4.R.S,iV x4.R.V.K,iV x4.R.V.N,.string x4.R.V.S]) rfl rfl rfl rfl rfl (ak)))) rfl rc2 rfl (by simpa using Kw.nil)) rfl ?_
   rintro v5 Φ_6 D2 ⟨fr3,h4⟩
   replace h4:OSl bQ 224 5 Φ_6 [] v5 ([x4.L,x4.R]:List be):=by simpa using h4
   replace k4:=k4.f0 fr3
   refine kcb [1] h rfl rfl rfl rfl (fun b ap z q=>qR N b s5 ([x4.L,x4.R]:List be) k4 (h4.rsl.x (Dj.app (ap.q 0 rfl) dN)) q) ?_
   rintro x5 h v6 Φ_7 F5 ⟨ap2,fr4,v7,rfl,rfl,h5⟩
   refine art 7 [] rfl ?_
   exact lb [0] [] (ih3 (_,_,_,_) ⟨h,h5⟩)
  refine att 6 [] rfl ?_
  exact lb [0] [] (ih2 (_,_,_,_) ⟨h,k4⟩)
 refine att 6 [] rfl ?_
 exact rtg [0] hF (ay.one rfl) rfl (by cases h; exact fun w1 hw=>⟨u2,rfl,rfl,k3⟩)
end Go.Proofs.YtnnkgijdbebnaaaGreat
