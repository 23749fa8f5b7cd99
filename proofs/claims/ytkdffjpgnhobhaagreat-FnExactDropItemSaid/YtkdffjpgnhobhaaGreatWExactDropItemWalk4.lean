/- Printed by a program of ours: each Go function computes its Lean function. -/
import Derived.Test.YtkdffjpgnhobhaaGreatProg
import Derived.Test.YtkdffjpgnhobhaaGreatWExactDropItemWalk3
namespace Go.Proofs.YtkdffjpgnhobhaaGreat
open Eng Tryz
open Go.RowKit (Below)
set_option linter.unusedVariables false
set_option linter.unusedSimpArgs false

set_option maxRecDepth 100000
set_option maxHeartbeats 1000000
variable {Ψ Φ:Hp} {pv0 pv0_0 pv0_1 pv0_2:Value} {pG0 pG0_0 pG0_1 pG0_2:List Nat} (N:Nat)
theorem vQ  (w0:ab Ψ Φ []) (p0:aE)  {r:aE} (h:mZ N p0=some r) :
  CB w0 prog 171 [.agg [iV p0.K,iV p0.N,.string p0.S].toArray] (.agg [iV r.K,iV r.N,.string r.S].toArray):=by
 refine eN func171 rfl ntmps171 rfl w0 fun hF=>?_
 unfold mZ at h
 refine sr<|lbx rfl fun b_1=>lnz jk rfl fun b_2=>en<|sr<|lnz jk rfl fun b_3=>arr 6 [0,64,0] rfl<|so1 0 iE rfl rfl ?_
 refine arr 6 [1,64,1] rfl<|so1 0 iE rfl rfl ?_
 refine arr 6 [2,64,2] rfl<|so1 0 mT rfl rfl ?_
 refine arr 4 [3] rfl<|soN 1 qb rfl ⟨rfl,rfl,rfl,trivial⟩ rfl ?_
 refine en ?_
 refine WT.ret hF (ao.one (bB kT rfl (fun w1 hw=>hw.rgO (i:=1) rfl 0 3 [iV p0.K,iV p0.N,.string p0.S] rfl) rfl)) (fun w1 hw=>?_)
 cases h
 exact ip hw
theorem mr  (w0:ab Ψ Φ []) (p0:aW)  {r:aW} (h:j9 N p0=some r) :
  CB w0 prog 202 [.agg [iV p0.K,.string p0.S,iV p0.V.K,iV p0.V.N,.string p0.V.S].toArray] (.agg [iV r.K,.string r.S,iV r.V.K,iV r.V.N,.string r.V.S].toArray):=by
 refine eN func202 rfl ntmps202 rfl w0 fun hF=>?_
 unfold j9 at h
 refine sr<|lbx rfl fun b_1=>lnz oK rfl fun b_2=>en<|sr<|lnz oK rfl fun b_3=>arr 6 [0,64,0] rfl<|so1 0 iE rfl rfl ?_
 refine arr 6 [1,64,1] rfl<|so1 0 mT rfl rfl ?_
 refine arr 5 [2,67] rfl<|qc h (vQ N · p0.V ·) rfl rfl rfl fun x1 h=>lf Ht rfl rfl rfl<|soN 0 qb rfl ⟨rfl,rfl,rfl,trivial⟩ rfl ?_
 refine arr 4 [5] rfl<|soN 1 qP rfl ⟨rfl,rfl,rfl,rfl,rfl,trivial⟩ rfl ?_
 refine en ?_
 refine WT.ret hF (ao.one (bB Eh rfl (fun w1 hw=>hw.rgO (i:=1) rfl 0 5 [iV p0.K,.string p0.S,iV x1.K,iV x1.N,.string x1.S] rfl) rfl)) (fun w1 hw=>?_)
 cases h
 exact ip hw
theorem BX (w0:ab Ψ Φ []) (p0:(List aW)) (ph0:RSl bO 5 Ψ pG0 pv0 p0) {r:(List aW)} (h:rk N p0=some r) :
  Calls prog 201 [pv0].toArray w0.w (aL Φ w0.w [] (fun Φ' Fs v=>∃ (sr_0_0:Value),v=sr_0_0∧Fs=[ob sr_0_0]∧OSl bO 227 5 Φ' [] sr_0_0 r)):=by
 refine eN func201 rfl ntmps201 rfl w0 fun hF=>?_
 unfold rk at h
 refine atr 7 [] rfl<|lnr ph0 rfl ?_
 obtain ⟨x1,hx1,h⟩:=bs h
 refine le' (kO (R:=bO) wx oK K9 rfl rfl rfl (fun _=>⟨rfl,rfl⟩) rfl rfl (Int.le_refl _) hx1 (pU hx1)) rfl ?_
 rintro v1 Φ_1 D1 ⟨fr1,h1⟩
 refine art 8 [] rfl ?_
 refine lin (σ:=Hp × (List aW) × Int) (fun s=>[(0,pv0),(3,v1),(4,iV s.2.2)]) (fun s=>St w0 s.1 [] [ob v1]) (fun m s=>kC N p0 m s.2.1 s.2.2=some r∧(OSl bO 227 5 s.1 [] v1 s.2.1)) (Φ_1,x1,0) N ⟨h,h1⟩ (sx [0] []) (fun n1 ih1 s hm=>?_)
 obtain ⟨Φ_2,s1,s2⟩:=s
 obtain ⟨h,k1⟩:=hm
 dsimp only at h k1 ⊢
 unfold kC at h
 refine atr 5 [] rfl<|lnr ph0 rfl<|la rfl<|en ?_
 refine ch h rfl ?_ ?_ <;> intro h
 ·refine atr 8 [] rfl ?_
  obtain ⟨x2,hx2,h⟩:=bs h
  obtain ⟨cs1,F1,-,g1,hb1,hs1,r1⟩:=ph0.el (a7 hx2).2.2
  obtain ⟨rfl,-⟩:=r1
  refine lia ph0 hx2 rfl<|lhx 0 5 g1 rfl<|qc h (mr N · x2 ·) rfl rfl rfl fun x3 h=>?_
  obtain ⟨x4,hx4,h⟩:=bs h
  obtain ⟨cs2,F2,-,g2,hb2,hs2,r2⟩:=k1.elS (a7 hx4).2.2
  obtain ⟨rfl,-⟩:=r2
  refine lio k1 hx4 rfl<|lu (tM (js:=[0]) (Rr:=[]) (vs:=[iV x3.K,.string x3.S,iV x3.V.K,iV x3.V.N,.string x3.V.S]) (x':=x3) bO.lasts bO.flat qP rfl rfl rfl rfl ⟨rfl,rfl,rfl,rfl,rfl,trivial⟩ rfl k1 (fV hx4) ⟨rfl,rfl⟩) rfl ?_
  rintro Φ_3 D2 ⟨⟨ap1,fr2⟩,h2⟩
  refine art 7 [] rfl ?_
  exact lb [0] [] (ih1 (_,_,_) ⟨h,h2⟩)
 refine att 6 [] rfl ?_
 exact rtg [0] hF (ao.one rfl) rfl (by cases h; exact fun w1 hw=>⟨v1,rfl,rfl,k1⟩)
theorem DW (w0:ab Ψ Φ []) (p0:ax) (ph0_0:RSl bO 5 Ψ pG0_0 pv0_0 p0.Args) {r:ax} (h:pj N p0=some r) :
  Calls prog 168 [.agg [.string p0.Kind,pv0_0,.bool p0.Not].toArray].toArray w0.w (aL Φ w0.w [] (fun Φ' Fs v=>∃ (sr_0_0:Value),v = .agg [.string r.Kind,sr_0_0,.bool r.Not].toArray∧Fs=[ob sr_0_0]∧OSl bO 227 5 Φ' [] sr_0_0 r.Args)):=by
 refine eN func168 rfl ntmps168 rfl w0 fun hF=>?_
 unfold pj at h
 refine sr<|lbx rfl fun b_1=>lnz pP rfl fun b_2=>en<|sr<|lnz pP rfl fun b_3=>arr 6 [0,64,0] rfl<|so1 0 mT rfl rfl ?_
 refine arr 5 [1,64] rfl<|kab h rfl rfl rfl (fun b z q=>BX N b p0.Args (ph0_0.y z) q) ?_
 rintro x1 h v1 Φ_1 F1 ⟨ap1,fr1,v2,rfl,rfl,h1⟩
 refine lf Cg rfl rfl rfl<|so1 0 Mb rfl h1.one ?_
 refine arr 6 [2,64,2] rfl<|so1 0 Mu rfl rfl ?_
 refine arr 4 [3] rfl<|soN 1 sX rfl ⟨rfl,h1.one,rfl,trivial⟩ rfl ?_
 refine en ?_
 exact rtg [0] hF (ao.one (bB uW rfl (fun w1 hw=>hw.rgO (i:=1) rfl 0 3 [.string p0.Kind,v1,.bool p0.Not] rfl) rfl)) rfl (by cases h; exact fun w1 hw=>⟨v1,rfl,rfl,h1⟩)
theorem Bu (w0:ab Ψ Φ []) (p0:(List ax)) (ph0:RSl bR 3 Ψ pG0 pv0 p0) {r:(List ax)} (h:qD N p0=some r) :
  Calls prog 119 [pv0].toArray w0.w (aL Φ w0.w [] (fun Φ' Fs v=>∃ (sr_0_0:Value) (Dr_0_0:List Nat),v=sr_0_0∧Fs=[ob sr_0_0,Dr_0_0]∧OSl f7 214 3 Φ' Dr_0_0 sr_0_0 r)):=by
 refine eN func119 rfl ntmps119 rfl w0 fun hF=>?_
 unfold qD at h
 refine atr 7 [] rfl<|lnr ph0 rfl ?_
 obtain ⟨x1,hx1,h⟩:=bs h
 refine le' (kO (R:=f7) tC pP KB rfl rfl rfl (fun _=>⟨.slice none 0 0,rfl,rfl,OSl.nil _ _ _ _⟩) rfl rfl (Int.le_refl _) hx1 (pU hx1)) rfl ?_
 rintro v1 Φ_1 D1 ⟨fr1,h1⟩
 refine wl0<|art 8 [] rfl ?_
 refine lin (σ:=Hp × (List ax) × List Nat × Int) (fun s=>[(0,pv0),(3,v1),(4,iV s.2.2.2)]) (fun s=>St w0 s.1 [] [s.2.2.1,ob v1]) (fun m s=>kv N p0 m s.2.1 s.2.2.2=some r∧(OSl f7 214 3 s.1 s.2.2.1 v1 s.2.1)) (Φ_1,x1,[],0) N ⟨h,h1⟩ (sx [0,0] []) (fun n1 ih1 s hm=>?_)
 obtain ⟨Φ_2,s1,D2,s2⟩:=s
 obtain ⟨h,k1⟩:=hm
 dsimp only at h k1 ⊢
 unfold kv at h
 refine atr 5 [] rfl<|lnr ph0 rfl<|la rfl<|en ?_
 refine ch h rfl ?_ ?_ <;> intro h
 ·refine atr 8 [] rfl ?_
  obtain ⟨x2,hx2,h⟩:=bs h
  obtain ⟨cs1,F1,-,g1,hb1,hs1,r1⟩:=ph0.el (a7 hx2).2.2
  obtain ⟨v2,G1,rfl,hq1,h2⟩:=r1
  obtain rfl:=hq1.symm
  refine lia ph0 hx2 rfl<|lhx 0 3 g1 rfl<|kab h rfl rfl rfl (fun b z q=>DW N b x2 (h2.y z) q) ?_
  rintro x3 h v3 Φ_3 F2 ⟨ap1,fr2,v4,rfl,rfl,h3⟩
  replace k1:=k1.fr fr2 (ap1.q 1 rfl) (ap1.q 0 rfl)
  obtain ⟨x4,hx4,h⟩:=bs h
  obtain ⟨cs2,F3,-,g2,hb2,hs2,r2⟩:=k1.elS (a7 hx4).2.2
  obtain ⟨v5,rfl,rfl,h4⟩:=r2
  have h5:=h4.rsl
  refine lio k1 hx4 rfl ?_
  have r3:f7 Φ_3 ((ob v4++[])) [.string x3.Kind,v4,.bool x3.Not] x3:=⟨v4,rfl,rfl,h3⟩
  refine lu (rK (js:=[2]) (Rr:=[ob v4,D2]) (vs:=[.string x3.Kind,v4,.bool x3.Not]) (x':=x3) f7.lasts sX rfl rfl rfl rfl ⟨rfl,h3.one,rfl,trivial⟩ rfl k1 (fV hx4) r3 (f7.knows _ _ _ _ r3) (fun ap=>ap.q 1 rfl) (fun ap=>by simpa [bm] using (ap.q 0 rfl))) rfl ?_
  rintro Φ_4 D3 ⟨⟨ap2,fr3⟩,sp1,h6⟩
  refine wlL [D3,ob v1] (smg [2,1] rfl (by simpa [List.append_assoc,bm] using sp1))<|art 7 [] rfl ?_
  exact lb [0,0] [] (ih1 (_,_,_,_) ⟨h,h6⟩)
 refine att 6 [] rfl ?_
 exact rtg [1,0] hF (ao.one rfl) rfl (by cases h; exact fun w1 hw=>⟨v1,D2,rfl,rfl,k1⟩)
theorem AX  (w0:ab Ψ Φ []) (p0:bj)  {r:bj} (h:n7 N p0=some r) :
  CB w0 prog 169 [.agg [iV p0.Op,iV p0.L.K,.string p0.L.S,iV p0.L.V.K,iV p0.L.V.N,.string p0.L.V.S,iV p0.R.K,.string p0.R.S,iV p0.R.V.K,iV p0.R.V.N,.string p0.R.V.S].toArray] (.agg [iV r.Op,iV r.L.K,.string r.L.S,iV r.L.V.K,iV r.L.V.N,.string r.L.V.S,iV r.R.K,.string r.R.S,iV r.R.V.K,iV r.R.V.N,.string r.R.V.S].toArray):=by
 refine eN func169 rfl ntmps169 rfl w0 fun hF=>?_
 unfold n7 at h
 refine sr<|lbx rfl fun b_1=>lnz zY rfl fun b_2=>en<|sr<|lnz zY rfl fun b_3=>arr 6 [0,64,0] rfl<|so1 0 iE rfl rfl ?_
 refine arr 5 [1,69] rfl<|qc h (mr N · p0.L ·) rfl rfl rfl fun x1 h=>lf Ct rfl rfl rfl<|soN 0 qP rfl ⟨rfl,rfl,rfl,rfl,rfl,trivial⟩ rfl ?_
 refine arr 5 [6,69] rfl<|qc h (mr N · p0.R ·) rfl rfl rfl fun x2 h=>lf Cy rfl rfl rfl<|soN 0 qP rfl ⟨rfl,rfl,rfl,rfl,rfl,trivial⟩ rfl ?_
 refine arr 4 [11] rfl<|soN 1 CY rfl ⟨rfl,rfl,rfl,rfl,rfl,rfl,rfl,rfl,rfl,rfl,rfl,trivial⟩ rfl ?_
 refine en ?_
 refine WT.ret hF (ao.one (bB FR rfl (fun w1 hw=>hw.rgO (i:=1) rfl 0 11 [iV p0.Op,iV x1.K,.string x1.S,iV x1.V.K,iV x1.V.N,.string x1.V.S,iV x2.K,.string x2.S,iV x2.V.K,iV x2.V.N,.string x2.V.S] rfl) rfl)) (fun w1 hw=>?_)
 cases h
 exact ip hw
theorem zT (w0:ab Ψ Φ []) (p0:(List bj)) (ph0:RSl aZ 11 Ψ pG0 pv0 p0) {r:(List bj)} (h:nV N p0=some r) :
  Calls prog 120 [pv0].toArray w0.w (aL Φ w0.w [] (fun Φ' Fs v=>∃ (sr_0_0:Value),v=sr_0_0∧Fs=[ob sr_0_0]∧OSl aZ 229 11 Φ' [] sr_0_0 r)):=by
 refine eN func120 rfl ntmps120 rfl w0 fun hF=>?_
 unfold nV at h
 refine atr 7 [] rfl<|lnr ph0 rfl ?_
 obtain ⟨x1,hx1,h⟩:=bs h
 refine le' (kO (R:=aZ) FC zY LG rfl rfl rfl (fun _=>⟨rfl,rfl⟩) rfl rfl (Int.le_refl _) hx1 (pU hx1)) rfl ?_
 rintro v1 Φ_1 D1 ⟨fr1,h1⟩
 refine art 8 [] rfl ?_
 refine lin (σ:=Hp × (List bj) × Int) (fun s=>[(0,pv0),(3,v1),(4,iV s.2.2)]) (fun s=>St w0 s.1 [] [ob v1]) (fun m s=>jr N p0 m s.2.1 s.2.2=some r∧(OSl aZ 229 11 s.1 [] v1 s.2.1)) (Φ_1,x1,0) N ⟨h,h1⟩ (sx [0] []) (fun n1 ih1 s hm=>?_)
 obtain ⟨Φ_2,s1,s2⟩:=s
 obtain ⟨h,k1⟩:=hm
 dsimp only at h k1 ⊢
 unfold jr at h
 refine atr 5 [] rfl<|lnr ph0 rfl<|la rfl<|en ?_
 refine ch h rfl ?_ ?_ <;> intro h
 ·refine atr 8 [] rfl ?_
  obtain ⟨x2,hx2,h⟩:=bs h
  obtain ⟨cs1,F1,-,g1,hb1,hs1,r1⟩:=ph0.el (a7 hx2).2.2
  obtain ⟨rfl,-⟩:=r1
  refine lia ph0 hx2 rfl<|lhx 0 11 g1 rfl<|qc h (AX N · x2 ·) rfl rfl rfl fun x3 h=>?_
  obtain ⟨x4,hx4,h⟩:=bs h
  obtain ⟨cs2,F2,-,g2,hb2,hs2,r2⟩:=k1.elS (a7 hx4).2.2
  obtain ⟨rfl,-⟩:=r2
  refine lio k1 hx4 rfl<|lu (tM (js:=[0]) (Rr:=[]) (vs:=[iV x3.Op,iV x3.L.K,.string x3.L.S,iV x3.L.V.K,iV x3.L.V.N,.string x3.L.V.S,iV x3.R.K,.string x3.R.S,iV x3.R.V.K,iV x3.R.V.N,.string x3.R.V.S]) (x':=x3) aZ.lasts aZ.flat CY rfl rfl rfl rfl ⟨rfl,rfl,rfl,rfl,rfl,rfl,rfl,rfl,rfl,rfl,rfl,trivial⟩ rfl k1 (fV hx4) ⟨rfl,rfl⟩) rfl ?_
  rintro Φ_3 D2 ⟨⟨ap1,fr2⟩,h2⟩
  refine art 7 [] rfl ?_
  exact lb [0] [] (ih1 (_,_,_) ⟨h,h2⟩)
 refine att 6 [] rfl ?_
 exact rtg [0] hF (ao.one rfl) rfl (by cases h; exact fun w1 hw=>⟨v1,rfl,rfl,k1⟩)
theorem AS  (w0:ab Ψ Φ []) (p0:bh)  {r:bh} (h:ni N p0=some r) :
  CB w0 prog 230 [.agg [.string p0.Op,iV p0.L.K,.string p0.L.S,iV p0.L.V.K,iV p0.L.V.N,.string p0.L.V.S,iV p0.R.K,.string p0.R.S,iV p0.R.V.K,iV p0.R.V.N,.string p0.R.V.S].toArray] (.agg [.string r.Op,iV r.L.K,.string r.L.S,iV r.L.V.K,iV r.L.V.N,.string r.L.V.S,iV r.R.K,.string r.R.S,iV r.R.V.K,iV r.R.V.N,.string r.R.V.S].toArray):=by
 refine eN func230 rfl ntmps230 rfl w0 fun hF=>?_
 unfold ni at h
 refine sr<|lbx rfl fun b_1=>lnz yF rfl fun b_2=>en<|sr<|lnz yF rfl fun b_3=>arr 6 [0,64,0] rfl<|so1 0 mT rfl rfl ?_
 refine arr 5 [1,69] rfl<|qc h (mr N · p0.L ·) rfl rfl rfl fun x1 h=>lf C5 rfl rfl rfl<|soN 0 qP rfl ⟨rfl,rfl,rfl,rfl,rfl,trivial⟩ rfl ?_
 refine arr 5 [6,69] rfl<|qc h (mr N · p0.R ·) rfl rfl rfl fun x2 h=>lf Cx rfl rfl rfl<|soN 0 qP rfl ⟨rfl,rfl,rfl,rfl,rfl,trivial⟩ rfl ?_
 refine arr 4 [11] rfl<|soN 1 DB rfl ⟨rfl,rfl,rfl,rfl,rfl,rfl,rfl,rfl,rfl,rfl,rfl,trivial⟩ rfl ?_
 refine en ?_
 refine WT.ret hF (ao.one (bB Fz rfl (fun w1 hw=>hw.rgO (i:=1) rfl 0 11 [.string p0.Op,iV x1.K,.string x1.S,iV x1.V.K,iV x1.V.N,.string x1.V.S,iV x2.K,.string x2.S,iV x2.V.K,iV x2.V.N,.string x2.V.S] rfl) rfl)) (fun w1 hw=>?_)
 cases h
 exact ip hw
theorem zt (w0:ab Ψ Φ []) (p0:(List bh)) (ph0:RSl bq 11 Ψ pG0 pv0 p0) {r:(List bh)} (h:o2 N p0=some r) :
  Calls prog 203 [pv0].toArray w0.w (aL Φ w0.w [] (fun Φ' Fs v=>∃ (sr_0_0:Value),v=sr_0_0∧Fs=[ob sr_0_0]∧OSl bq 280 11 Φ' [] sr_0_0 r)):=by
 refine eN func203 rfl ntmps203 rfl w0 fun hF=>?_
 unfold o2 at h
 refine atr 7 [] rfl<|lnr ph0 rfl ?_
 obtain ⟨x1,hx1,h⟩:=bs h
 refine le' (kO (R:=bq) FI yF LC rfl rfl rfl (fun _=>⟨rfl,rfl⟩) rfl rfl (Int.le_refl _) hx1 (pU hx1)) rfl ?_
 rintro v1 Φ_1 D1 ⟨fr1,h1⟩
 refine art 8 [] rfl ?_
 refine lin (σ:=Hp × (List bh) × Int) (fun s=>[(0,pv0),(3,v1),(4,iV s.2.2)]) (fun s=>St w0 s.1 [] [ob v1]) (fun m s=>jE N p0 m s.2.1 s.2.2=some r∧(OSl bq 280 11 s.1 [] v1 s.2.1)) (Φ_1,x1,0) N ⟨h,h1⟩ (sx [0] []) (fun n1 ih1 s hm=>?_)
 obtain ⟨Φ_2,s1,s2⟩:=s
 obtain ⟨h,k1⟩:=hm
 dsimp only at h k1 ⊢
 unfold jE at h
 refine atr 5 [] rfl<|lnr ph0 rfl<|la rfl<|en ?_
 refine ch h rfl ?_ ?_ <;> intro h
 ·refine atr 8 [] rfl ?_
  obtain ⟨x2,hx2,h⟩:=bs h
  obtain ⟨cs1,F1,-,g1,hb1,hs1,r1⟩:=ph0.el (a7 hx2).2.2
  obtain ⟨rfl,-⟩:=r1
  refine lia ph0 hx2 rfl<|lhx 0 11 g1 rfl<|qc h (AS N · x2 ·) rfl rfl rfl fun x3 h=>?_
  obtain ⟨x4,hx4,h⟩:=bs h
  obtain ⟨cs2,F2,-,g2,hb2,hs2,r2⟩:=k1.elS (a7 hx4).2.2
  obtain ⟨rfl,-⟩:=r2
  refine lio k1 hx4 rfl<|lu (tM (js:=[0]) (Rr:=[]) (vs:=[.string x3.Op,iV x3.L.K,.string x3.L.S,iV x3.L.V.K,iV x3.L.V.N,.string x3.L.V.S,iV x3.R.K,.string x3.R.S,iV x3.R.V.K,iV x3.R.V.N,.string x3.R.V.S]) (x':=x3) bq.lasts bq.flat DB rfl rfl rfl rfl ⟨rfl,rfl,rfl,rfl,rfl,rfl,rfl,rfl,rfl,rfl,rfl,trivial⟩ rfl k1 (fV hx4) ⟨rfl,rfl⟩) rfl ?_
  rintro Φ_3 D2 ⟨⟨ap1,fr2⟩,h2⟩
  refine art 7 [] rfl ?_
  exact lb [0] [] (ih1 (_,_,_) ⟨h,h2⟩)
 refine att 6 [] rfl ?_
 exact rtg [0] hF (ao.one rfl) rfl (by cases h; exact fun w1 hw=>⟨v1,rfl,rfl,k1⟩)
theorem CW (w0:ab Ψ Φ []) (p0:bH) (ph0_0:RSl bq 11 Ψ pG0_0 pv0_0 p0.Args) {r:bH} (h:pn N p0=some r) :
  Calls prog 170 [.agg [iV p0.Kind,.string p0.Name,pv0_0,iV p0.N,.string p0.Undo].toArray].toArray w0.w (aL Φ w0.w [] (fun Φ' Fs v=>∃ (sr_0_0:Value),v = .agg [iV r.Kind,.string r.Name,sr_0_0,iV r.N,.string r.Undo].toArray∧Fs=[ob sr_0_0]∧OSl bq 280 11 Φ' [] sr_0_0 r.Args)):=by
 refine eN func170 rfl ntmps170 rfl w0 fun hF=>?_
 unfold pn at h
 refine sr<|lbx rfl fun b_1=>lnz yR rfl fun b_2=>en<|sr<|lnz yR rfl fun b_3=>arr 6 [0,64,0] rfl<|so1 0 iE rfl rfl ?_
 refine arr 6 [1,64,1] rfl<|so1 0 mT rfl rfl ?_
 refine arr 5 [2,64] rfl<|kab h rfl rfl rfl (fun b z q=>zt N b p0.Args (ph0_0.y z) q) ?_
 rintro x1 h v1 Φ_1 F1 ⟨ap1,fr1,v2,rfl,rfl,h1⟩
 refine lf sv rfl rfl rfl<|so1 0 Lb rfl h1.one ?_
 refine arr 6 [3,64,3] rfl<|so1 0 iE rfl rfl ?_
 refine arr 6 [4,64,4] rfl<|so1 0 mT rfl rfl ?_
 refine arr 4 [5] rfl<|soN 1 CI rfl ⟨rfl,rfl,h1.one,rfl,rfl,trivial⟩ rfl ?_
 refine en ?_
 exact rtg [0] hF (ao.one (bB CM rfl (fun w1 hw=>hw.rgO (i:=1) rfl 0 5 [iV p0.Kind,.string p0.Name,v1,iV p0.N,.string p0.Undo] rfl) rfl)) rfl (by cases h; exact fun w1 hw=>⟨v1,rfl,rfl,h1⟩)
theorem Ao (w0:ab Ψ Φ []) (p0:(List bH)) (ph0:RSl dZ 5 Ψ pG0 pv0 p0) {r:(List bH)} (h:pZ N p0=some r) :
  Calls prog 121 [pv0].toArray w0.w (aL Φ w0.w [] (fun Φ' Fs v=>∃ (sr_0_0:Value) (Dr_0_0:List Nat),v=sr_0_0∧Fs=[ob sr_0_0,Dr_0_0]∧OSl gi 232 5 Φ' Dr_0_0 sr_0_0 r)):=by
 refine eN func121 rfl ntmps121 rfl w0 fun hF=>?_
 unfold pZ at h
 refine atr 7 [] rfl<|lnr ph0 rfl ?_
 obtain ⟨x1,hx1,h⟩:=bs h
 refine le' (kO (R:=gi) FM yR K8 rfl rfl rfl (fun _=>⟨.slice none 0 0,rfl,rfl,OSl.nil _ _ _ _⟩) rfl rfl (Int.le_refl _) hx1 (pU hx1)) rfl ?_
 rintro v1 Φ_1 D1 ⟨fr1,h1⟩
 refine wl0<|art 8 [] rfl ?_
 refine lin (σ:=Hp × (List bH) × List Nat × Int) (fun s=>[(0,pv0),(3,v1),(4,iV s.2.2.2)]) (fun s=>St w0 s.1 [] [s.2.2.1,ob v1]) (fun m s=>kz N p0 m s.2.1 s.2.2.2=some r∧(OSl gi 232 5 s.1 s.2.2.1 v1 s.2.1)) (Φ_1,x1,[],0) N ⟨h,h1⟩ (sx [0,0] []) (fun n1 ih1 s hm=>?_)
 obtain ⟨Φ_2,s1,D2,s2⟩:=s
 obtain ⟨h,k1⟩:=hm
 dsimp only at h k1 ⊢
 unfold kz at h
 refine atr 5 [] rfl<|lnr ph0 rfl<|la rfl<|en ?_
 refine ch h rfl ?_ ?_ <;> intro h
 ·refine atr 8 [] rfl ?_
  obtain ⟨x2,hx2,h⟩:=bs h
  obtain ⟨cs1,F1,-,g1,hb1,hs1,r1⟩:=ph0.el (a7 hx2).2.2
  obtain ⟨v2,G1,rfl,hq1,h2⟩:=r1
  obtain rfl:=hq1.symm
  refine lia ph0 hx2 rfl<|lhx 0 5 g1 rfl<|kab h rfl rfl rfl (fun b z q=>CW N b x2 (h2.y z) q) ?_
  rintro x3 h v3 Φ_3 F2 ⟨ap1,fr2,v4,rfl,rfl,h3⟩
  replace k1:=k1.fr fr2 (ap1.q 1 rfl) (ap1.q 0 rfl)
  obtain ⟨x4,hx4,h⟩:=bs h
  obtain ⟨cs2,F3,-,g2,hb2,hs2,r2⟩:=k1.elS (a7 hx4).2.2
  obtain ⟨v5,rfl,rfl,h4⟩:=r2
  have h5:=h4.rsl
  refine lio k1 hx4 rfl ?_
  have r3:gi Φ_3 ((ob v4++[])) [iV x3.Kind,.string x3.Name,v4,iV x3.N,.string x3.Undo] x3:=⟨v4,rfl,rfl,h3⟩
  refine lu (rK (js:=[2]) (Rr:=[ob v4,D2]) (vs:=[iV x3.Kind,.string x3.Name,v4,iV x3.N,.string x3.Undo]) (x':=x3) gi.lasts CI rfl rfl rfl rfl ⟨rfl,rfl,h3.one,rfl,rfl,trivial⟩ rfl k1 (fV hx4) r3 (gi.knows _ _ _ _ r3) (fun ap=>ap.q 1 rfl) (fun ap=>by simpa [bm] using (ap.q 0 rfl))) rfl ?_
  rintro Φ_4 D3 ⟨⟨ap2,fr3⟩,sp1,h6⟩
  refine wlL [D3,ob v1] (smg [2,1] rfl (by simpa [List.append_assoc,bm] using sp1))<|art 7 [] rfl ?_
  exact lb [0,0] [] (ih1 (_,_,_,_) ⟨h,h6⟩)
 refine att 6 [] rfl ?_
 exact rtg [1,0] hF (ao.one rfl) rfl (by cases h; exact fun w1 hw=>⟨v1,D2,rfl,rfl,k1⟩)
theorem BU (w0:ab Ψ Φ []) (p0:af) (ph0_0:RSl bR 3 Ψ pG0_0 pv0_0 p0.Pats) (ph0_1:RSl aZ 11 Ψ pG0_1 pv0_1 p0.Conds) (ph0_2:RSl dZ 5 Ψ pG0_2 pv0_2 p0.Acts) {r:af} (h:nE N p0=some r) :
  Calls prog 68 [.agg [.string p0.Name,iV p0.Sal,pv0_0,pv0_1,pv0_2].toArray].toArray w0.w (aL Φ w0.w [] (fun Φ' Fs v=>∃ (sr_0_0:Value) (Dr_0_0:List Nat) (sr_0_1:Value) (sr_0_2:Value) (Dr_0_2:List Nat),v = .agg [.string r.Name,iV r.Sal,sr_0_0,sr_0_1,sr_0_2].toArray∧Fs=[ob sr_0_0,Dr_0_0,ob sr_0_1,ob sr_0_2,Dr_0_2]∧OSl f7 214 3 Φ' Dr_0_0 sr_0_0 r.Pats∧OSl aZ 229 11 Φ' [] sr_0_1 r.Conds∧OSl gi 232 5 Φ' Dr_0_2 sr_0_2 r.Acts)):=by
 refine eN func68 rfl ntmps68 rfl w0 fun hF=>?_
 unfold nE at h
 refine sr<|lbx rfl fun b_1=>lnz wy rfl fun b_2=>en<|sr<|lnz wy rfl fun b_3=>arr 6 [0,64,0] rfl<|so1 0 mT rfl rfl ?_
 refine arr 6 [1,64,1] rfl<|so1 0 iE rfl rfl ?_
 refine arr 5 [2,64] rfl<|kab h rfl rfl rfl (fun b z q=>Bu N b p0.Pats (ph0_0.y z) q) ?_
 rintro x1 h v1 Φ_1 F1 ⟨ap1,fr1,v2,D1,rfl,rfl,h1⟩
 refine lf ua rfl rfl rfl<|so1 0 Mm rfl h1.one ?_
 refine arr 5 [3,64] rfl<|kab h rfl rfl rfl (fun b z q=>zT N b p0.Conds (ph0_1.y z) q) ?_
 rintro x2 h v3 Φ_2 F2 ⟨ap2,fr2,v4,rfl,rfl,h2⟩
 replace h1:=h1.fr fr2 (ap2.q 0 rfl) (ap2.q 1 rfl)
 refine lf Ce rfl rfl rfl<|so1 0 KN rfl h2.one ?_
 refine arr 5 [4,64] rfl<|kab h rfl rfl rfl (fun b z q=>Ao N b p0.Acts (ph0_2.y z) q) ?_
 rintro x3 h v5 Φ_3 F3 ⟨ap3,fr3,v6,D2,rfl,rfl,h3⟩
 replace h1:=h1.fr fr3 (ap3.q 1 rfl) (ap3.q 2 rfl)
 replace h2:=h2.fr fr3 (ap3.q 0 rfl) dN
 refine lf Ck rfl rfl rfl<|so1 0 KU rfl h3.one ?_
 refine arr 4 [5] rfl<|soN 1 yN rfl ⟨rfl,rfl,h1.one,h2.one,h3.one,trivial⟩ rfl ?_
 refine en ?_
 exact rtg [3,3,2,0,0] hF (ao.one (bB tS rfl (fun w1 hw=>hw.rgO (i:=1) rfl 0 5 [.string p0.Name,iV p0.Sal,v1,v3,v5] rfl) rfl)) rfl (by cases h; exact fun w1 hw=>⟨v1,D1,v3,v5,D2,rfl,rfl,h1,h2,h3⟩)
theorem zM (w0:ab Ψ Φ []) (p0:(List af)) (ph0:RSl bU 5 Ψ pG0 pv0 p0) {r:(List af)} (h:o6 N p0=some r) :
  Calls prog 32 [pv0].toArray w0.w (aL Φ w0.w [] (fun Φ' Fs v=>∃ (sr_0_0:Value) (Dr_0_0:List Nat),v=sr_0_0∧Fs=[ob sr_0_0,Dr_0_0]∧OSl bJ 145 5 Φ' Dr_0_0 sr_0_0 r)):=by
 refine eN func32 rfl ntmps32 rfl w0 fun hF=>?_
 unfold o6 at h
 refine atr 7 [] rfl<|lnr ph0 rfl ?_
 obtain ⟨x1,hx1,h⟩:=bs h
 refine le' (kO (R:=bJ) C6 wy L7 rfl rfl rfl (fun _=>⟨.slice none 0 0,[],.slice none 0 0,.slice none 0 0,[],rfl,rfl,OSl.nil _ _ _ _,OSl.nil _ _ _ _,OSl.nil _ _ _ _⟩) rfl rfl (Int.le_refl _) hx1 (pU hx1)) rfl ?_
 rintro v1 Φ_1 D1 ⟨fr1,h1⟩
 refine wl0<|art 8 [] rfl ?_
 refine lin (σ:=Hp × (List af) × List Nat × Int) (fun s=>[(0,pv0),(3,v1),(4,iV s.2.2.2)]) (fun s=>St w0 s.1 [] [s.2.2.1,ob v1]) (fun m s=>jG N p0 m s.2.1 s.2.2.2=some r∧(OSl bJ 145 5 s.1 s.2.2.1 v1 s.2.1)) (Φ_1,x1,[],0) N ⟨h,h1⟩ (sx [0,0] []) (fun n1 ih1 s hm=>?_)
 obtain ⟨Φ_2,s1,D2,s2⟩:=s
 obtain ⟨h,k1⟩:=hm
 dsimp only at h k1 ⊢
 unfold jG at h
 refine atr 5 [] rfl<|lnr ph0 rfl<|la rfl<|en ?_
 refine ch h rfl ?_ ?_ <;> intro h
 ·refine atr 8 [] rfl ?_
  obtain ⟨x2,hx2,h⟩:=bs h
  obtain ⟨cs1,F1,-,g1,hb1,hs1,r1⟩:=ph0.el (a7 hx2).2.2
  obtain ⟨v2,G1,v3,G2,v4,G3,rfl,rfl,h2,h3,h4⟩:=r1
  refine lia ph0 hx2 rfl<|lhx 0 5 g1 rfl<|kab h rfl rfl rfl (fun b z q=>BU N b x2 (h2.y z) (h3.y z) (h4.y z) q) ?_
  rintro x3 h v5 Φ_3 F2 ⟨ap1,fr2,v6,D3,v7,v8,D4,rfl,rfl,h5,h6,h7⟩
  replace k1:=k1.fr fr2 (ap1.q 1 rfl) (ap1.q 0 rfl)
  obtain ⟨x4,hx4,h⟩:=bs h
  obtain ⟨cs2,F3,-,g2,hb2,hs2,r2⟩:=k1.elS (a7 hx4).2.2
  obtain ⟨v9,D5,v10,v11,D6,rfl,rfl,h8,h9,h10⟩:=r2
  have h11:=h8.rslG f7.gives
  have h12:=h9.rsl
  have h13:=h10.rslG gi.gives
  refine lio k1 hx4 rfl ?_
  have r3:bJ Φ_3 ((ob v6++D3)++((ob v7++[])++((ob v8++D4)))) [.string x3.Name,iV x3.Sal,v6,v7,v8] x3:=⟨v6,D3,v7,v8,D4,rfl,rfl,h5,h6,h7⟩
  refine lu (rK (js:=[6]) (Rr:=[ob v6,D3,ob v7,ob v8,D4,D2]) (vs:=[.string x3.Name,iV x3.Sal,v6,v7,v8]) (x':=x3) bJ.lasts yN rfl rfl rfl rfl ⟨rfl,rfl,h5.one,h6.one,h7.one,trivial⟩ rfl k1 (fV hx4) r3 (bJ.knows _ _ _ _ r3) (fun ap=>ap.q 5 rfl) (fun ap=>by simpa [bm] using (Dj.app (ap.q 0 rfl) (Dj.app (ap.q 1 rfl) (Dj.app (ap.q 2 rfl) (Dj.app (ap.q 3 rfl) (ap.q 4 rfl))))))) rfl ?_
  rintro Φ_4 D7 ⟨⟨ap2,fr3⟩,sp1,h14⟩
  refine wlL [D7,ob v1] (smg [6,1,1,1,1,1] rfl (by simpa [List.append_assoc,bm] using sp1))<|art 7 [] rfl ?_
  exact lb [0,0] [] (ih1 (_,_,_,_) ⟨h,h14⟩)
 refine att 6 [] rfl ?_
 exact rtg [1,0] hF (ao.one rfl) rfl (by cases h; exact fun w1 hw=>⟨v1,D2,rfl,rfl,k1⟩)
theorem jN (w0:ab Ψ Φ []) (p0:bl) (ph0_0:RSl bU 5 Ψ pG0_0 pv0_0 p0.Rules) {r:bl} (h:lJ N p0=some r) :
  Calls prog 9 [.agg [.string p0.Name,pv0_0].toArray].toArray w0.w (aL Φ w0.w [] (fun Φ' Fs v=>∃ (sr_0_0:Value) (Dr_0_0:List Nat),v = .agg [.string r.Name,sr_0_0].toArray∧Fs=[ob sr_0_0,Dr_0_0]∧OSl bJ 145 5 Φ' Dr_0_0 sr_0_0 r.Rules)):=by
 refine eN func9 rfl ntmps9 rfl w0 fun hF=>?_
 unfold lJ at h
 refine sr<|lbx rfl fun b_1=>lnz HN rfl fun b_2=>en<|sr<|lnz HN rfl fun b_3=>arr 6 [0,64,0] rfl<|so1 0 mT rfl rfl ?_
 refine arr 5 [1,64] rfl<|kab h rfl rfl rfl (fun b z q=>zM N b p0.Rules (ph0_0.y z) q) ?_
 rintro x1 h v1 Φ_1 F1 ⟨ap1,fr1,v2,D1,rfl,rfl,h1⟩
 refine lf Ft rfl rfl rfl<|so1 0 N9 rfl h1.one ?_
 refine arr 4 [2] rfl<|soN 1 JR rfl ⟨rfl,h1.one,trivial⟩ rfl ?_
 refine en ?_
 exact rtg [0,0] hF (ao.one (bB Ia rfl (fun w1 hw=>hw.rgO (i:=1) rfl 0 2 [.string p0.Name,v1] rfl) rfl)) rfl (by cases h; exact fun w1 hw=>⟨v1,D1,rfl,rfl,h1⟩)
theorem uu (w0:ab Ψ Φ []) (p0:(List aE)) (ph0:RSl av 3 Ψ pG0 pv0 p0) {r:(List aE)} (h:ng N p0=some r) :
  Calls prog 122 [pv0].toArray w0.w (aL Φ w0.w [] (fun Φ' Fs v=>∃ (sr_0_0:Value),v=sr_0_0∧Fs=[ob sr_0_0]∧OSl av 225 3 Φ' [] sr_0_0 r)):=by
 refine eN func122 rfl ntmps122 rfl w0 fun hF=>?_
 unfold ng at h
 refine atr 7 [] rfl<|lnr ph0 rfl ?_
 obtain ⟨x1,hx1,h⟩:=bs h
 refine le' (kO (R:=av) hU jk Mg rfl rfl rfl (fun _=>⟨rfl,rfl⟩) rfl rfl (Int.le_refl _) hx1 (pU hx1)) rfl ?_
 rintro v1 Φ_1 D1 ⟨fr1,h1⟩
 refine art 8 [] rfl ?_
 refine lin (σ:=Hp × (List aE) × Int) (fun s=>[(0,pv0),(3,v1),(4,iV s.2.2)]) (fun s=>St w0 s.1 [] [ob v1]) (fun m s=>kD N p0 m s.2.1 s.2.2=some r∧(OSl av 225 3 s.1 [] v1 s.2.1)) (Φ_1,x1,0) N ⟨h,h1⟩ (sx [0] []) (fun n1 ih1 s hm=>?_)
 obtain ⟨Φ_2,s1,s2⟩:=s
 obtain ⟨h,k1⟩:=hm
 dsimp only at h k1 ⊢
 unfold kD at h
 refine atr 5 [] rfl<|lnr ph0 rfl<|la rfl<|en ?_
 refine ch h rfl ?_ ?_ <;> intro h
 ·refine atr 8 [] rfl ?_
  obtain ⟨x2,hx2,h⟩:=bs h
  obtain ⟨cs1,F1,-,g1,hb1,hs1,r1⟩:=ph0.el (a7 hx2).2.2
  obtain ⟨rfl,-⟩:=r1
  refine lia ph0 hx2 rfl<|lhx 0 3 g1 rfl<|qc h (vQ N · x2 ·) rfl rfl rfl fun x3 h=>?_
  obtain ⟨x4,hx4,h⟩:=bs h
  obtain ⟨cs2,F2,-,g2,hb2,hs2,r2⟩:=k1.elS (a7 hx4).2.2
  obtain ⟨rfl,-⟩:=r2
  refine lio k1 hx4 rfl<|lu (tM (js:=[0]) (Rr:=[]) (vs:=[iV x3.K,iV x3.N,.string x3.S]) (x':=x3) av.lasts av.flat qb rfl rfl rfl rfl ⟨rfl,rfl,rfl,trivial⟩ rfl k1 (fV hx4) ⟨rfl,rfl⟩) rfl ?_
  rintro Φ_3 D2 ⟨⟨ap1,fr2⟩,h2⟩
  refine art 7 [] rfl ?_
  exact lb [0] [] (ih1 (_,_,_) ⟨h,h2⟩)
 refine att 6 [] rfl ?_
 exact rtg [0] hF (ao.one rfl) rfl (by cases h; exact fun w1 hw=>⟨v1,rfl,rfl,k1⟩)
theorem ja (w0:ab Ψ Φ []) (p0:(List Int)) (ph0:RSl (RI .i64) 1 Ψ pG0 pv0 p0) {r:(List Int)} (h:gO N p0=some r) :
  Calls prog 123 [pv0].toArray w0.w (aL Φ w0.w [] (fun Φ' Fs v=>∃ (sr_0_0:Value),v=sr_0_0∧Fs=[ob sr_0_0]∧OSl (RI .i64) 3 1 Φ' [] sr_0_0 r)):=by
 refine eN func123 rfl ntmps123 rfl w0 fun hF=>?_
 unfold gO at h
 refine atr 7 [] rfl<|lnr ph0 rfl ?_
 obtain ⟨x1,hx1,h⟩:=bs h
 refine le' (kO (R:=(RI .i64)) bg sW NK rfl rfl rfl (fun _=>⟨rfl,rfl⟩) rfl rfl (Int.le_refl _) hx1 (pU hx1)) rfl ?_
 rintro v1 Φ_1 D1 ⟨fr1,h1⟩
 refine art 8 [] rfl ?_
 refine lin (σ:=Hp × (List Int) × Int) (fun s=>[(0,pv0),(3,v1),(4,iV s.2.2)]) (fun s=>St w0 s.1 [] [ob v1]) (fun m s=>kt N p0 m s.2.1 s.2.2=some r∧(OSl (RI .i64) 3 1 s.1 [] v1 s.2.1)) (Φ_1,x1,0) N ⟨h,h1⟩ (sx [0] []) (fun n1 ih1 s hm=>?_)
 obtain ⟨Φ_2,s1,s2⟩:=s
 obtain ⟨h,k1⟩:=hm
 dsimp only at h k1 ⊢
 unfold kt at h
 refine atr 5 [] rfl<|lnr ph0 rfl<|la rfl<|en ?_
 refine ch h rfl ?_ ?_ <;> intro h
 ·refine atr 8 [] rfl ?_
  obtain ⟨x2,hx2,h⟩:=bs h
  obtain ⟨cs1,F1,-,g1,hb1,hs1,r1⟩:=ph0.el (a7 hx2).2.2
  obtain ⟨rfl,-⟩:=r1
  refine lia ph0 hx2 rfl<|lhx 0 0 g1 rfl ?_
  obtain ⟨x3,hx3,h⟩:=bs h
  obtain ⟨cs2,F2,-,g2,hb2,hs2,r2⟩:=k1.elS (a7 hx3).2.2
  obtain ⟨rfl,-⟩:=r2
  refine lio k1 hx3 rfl<|lu (tM (js:=[0]) (Rr:=[]) (vs:=[iV x2]) (x':=x2) RI.lasts RI.flat iE rfl rfl rfl rfl ⟨rfl,trivial⟩ rfl k1 (fV hx3) ⟨rfl,rfl⟩) rfl ?_
  rintro Φ_3 D2 ⟨⟨ap1,fr2⟩,h2⟩
  refine art 7 [] rfl ?_
  exact lb [0] [] (ih1 (_,_,_) ⟨h,h2⟩)
 refine att 6 [] rfl ?_
 exact rtg [0] hF (ao.one rfl) rfl (by cases h; exact fun w1 hw=>⟨v1,rfl,rfl,k1⟩)
theorem A7 (w0:ab Ψ Φ []) (p0:a8) (ph0_0:RSl av 3 Ψ pG0_0 pv0_0 p0.Consts) (ph0_1:RSl (RI .i64) 1 Ψ pG0_1 pv0_1 p0.At) {r:a8} (h:lw N p0=some r) :
  Calls prog 69 [.agg [.string p0.Kind,iV p0.N,pv0_0,pv0_1].toArray].toArray w0.w (aL Φ w0.w [] (fun Φ' Fs v=>∃ (sr_0_0:Value) (sr_0_1:Value),v = .agg [.string r.Kind,iV r.N,sr_0_0,sr_0_1].toArray∧Fs=[ob sr_0_0,ob sr_0_1]∧OSl av 225 3 Φ' [] sr_0_0 r.Consts∧OSl (RI .i64) 3 1 Φ' [] sr_0_1 r.At)):=by
 refine eN func69 rfl ntmps69 rfl w0 fun hF=>?_
 unfold lw at h
 refine sr<|lbx rfl fun b_1=>lnz kX rfl fun b_2=>en<|sr<|lnz kX rfl fun b_3=>arr 6 [0,64,0] rfl<|so1 0 mT rfl rfl ?_
 refine arr 6 [1,64,1] rfl<|so1 0 iE rfl rfl ?_
 refine arr 5 [2,64] rfl<|kab h rfl rfl rfl (fun b z q=>uu N b p0.Consts (ph0_0.y z) q) ?_
 rintro x1 h v1 Φ_1 F1 ⟨ap1,fr1,v2,rfl,rfl,h1⟩
 refine lf wg rfl rfl rfl<|so1 0 zO rfl h1.one ?_
 refine arr 5 [3,64] rfl<|kab h rfl rfl rfl (fun b z q=>ja N b p0.At (ph0_1.y z) q) ?_
 rintro x2 h v3 Φ_2 F2 ⟨ap2,fr2,v4,rfl,rfl,h2⟩
 replace h1:=h1.fr fr2 (ap2.q 0 rfl) dN
 refine lf ub rfl rfl rfl<|so1 0 mf rfl h2.one ?_
 refine arr 4 [4] rfl<|soN 1 rS rfl ⟨rfl,rfl,h1.one,h2.one,trivial⟩ rfl ?_
 refine en ?_
 exact rtg [1,0] hF (ao.one (bB qL rfl (fun w1 hw=>hw.rgO (i:=1) rfl 0 4 [.string p0.Kind,iV p0.N,v1,v3] rfl) rfl)) rfl (by cases h; exact fun w1 hw=>⟨v1,v3,rfl,rfl,h1,h2⟩)
theorem xk (w0:ab Ψ Φ []) (p0:(List a8)) (ph0:RSl be 4 Ψ pG0 pv0 p0) {r:(List a8)} (h:lP N p0=some r) :
  Calls prog 33 [pv0].toArray w0.w (aL Φ w0.w [] (fun Φ' Fs v=>∃ (sr_0_0:Value) (Dr_0_0:List Nat),v=sr_0_0∧Fs=[ob sr_0_0,Dr_0_0]∧OSl aK 148 4 Φ' Dr_0_0 sr_0_0 r)):=by
 refine eN func33 rfl ntmps33 rfl w0 fun hF=>?_
 unfold lP at h
 refine atr 7 [] rfl<|lnr ph0 rfl ?_
 obtain ⟨x1,hx1,h⟩:=bs h
 refine le' (kO (R:=aK) uA kX KC rfl rfl rfl (fun _=>⟨.slice none 0 0,.slice none 0 0,rfl,rfl,OSl.nil _ _ _ _,OSl.nil _ _ _ _⟩) rfl rfl (Int.le_refl _) hx1 (pU hx1)) rfl ?_
 rintro v1 Φ_1 D1 ⟨fr1,h1⟩
 refine wl0<|art 8 [] rfl ?_
 refine lin (σ:=Hp × (List a8) × List Nat × Int) (fun s=>[(0,pv0),(3,v1),(4,iV s.2.2.2)]) (fun s=>St w0 s.1 [] [s.2.2.1,ob v1]) (fun m s=>iC N p0 m s.2.1 s.2.2.2=some r∧(OSl aK 148 4 s.1 s.2.2.1 v1 s.2.1)) (Φ_1,x1,[],0) N ⟨h,h1⟩ (sx [0,0] []) (fun n1 ih1 s hm=>?_)
 obtain ⟨Φ_2,s1,D2,s2⟩:=s
 obtain ⟨h,k1⟩:=hm
 dsimp only at h k1 ⊢
 unfold iC at h
 refine atr 5 [] rfl<|lnr ph0 rfl<|la rfl<|en ?_
 refine ch h rfl ?_ ?_ <;> intro h
 ·refine atr 8 [] rfl ?_
  obtain ⟨x2,hx2,h⟩:=bs h
  obtain ⟨cs1,F1,-,g1,hb1,hs1,r1⟩:=ph0.el (a7 hx2).2.2
  obtain ⟨v2,G1,v3,G2,rfl,rfl,h2,h3⟩:=r1
  refine lia ph0 hx2 rfl<|lhx 0 4 g1 rfl<|kab h rfl rfl rfl (fun b z q=>A7 N b x2 (h2.y z) (h3.y z) q) ?_
  rintro x3 h v4 Φ_3 F2 ⟨ap1,fr2,v5,v6,rfl,rfl,h4,h5⟩
  replace k1:=k1.fr fr2 (ap1.q 1 rfl) (ap1.q 0 rfl)
  obtain ⟨x4,hx4,h⟩:=bs h
  obtain ⟨cs2,F3,-,g2,hb2,hs2,r2⟩:=k1.elS (a7 hx4).2.2
  obtain ⟨v7,v8,rfl,rfl,h6,h7⟩:=r2
  have h8:=h6.rsl
  have h9:=h7.rsl
  refine lio k1 hx4 rfl ?_
  have r3:aK Φ_3 ((ob v5++[])++((ob v6++[]))) [.string x3.Kind,iV x3.N,v5,v6] x3:=⟨v5,v6,rfl,rfl,h4,h5⟩
  refine lu (rK (js:=[3]) (Rr:=[ob v5,ob v6,D2]) (vs:=[.string x3.Kind,iV x3.N,v5,v6]) (x':=x3) aK.lasts rS rfl rfl rfl rfl ⟨rfl,rfl,h4.one,h5.one,trivial⟩ rfl k1 (fV hx4) r3 (aK.knows _ _ _ _ r3) (fun ap=>ap.q 2 rfl) (fun ap=>by simpa [bm] using (Dj.app (ap.q 0 rfl) (ap.q 1 rfl)))) rfl ?_
  rintro Φ_4 D3 ⟨⟨ap2,fr3⟩,sp1,h10⟩
  refine wlL [D3,ob v1] (smg [3,1,1] rfl (by simpa [List.append_assoc,bm] using sp1))<|art 7 [] rfl ?_
  exact lb [0,0] [] (ih1 (_,_,_,_) ⟨h,h10⟩)
 refine att 6 [] rfl ?_
 exact rtg [1,0] hF (ao.one rfl) rfl (by cases h; exact fun w1 hw=>⟨v1,D2,rfl,rfl,k1⟩)
theorem zU (w0:ab Ψ Φ []) (p0:ac) (ph0_0:RSl (RI .i64) 1 Ψ pG0_0 pv0_0 p0.Pos) (ph0_1:RSl (RI .i64) 1 Ψ pG0_1 pv0_1 p0.Neg) {r:ac} (h:l9 N p0=some r) :
  Calls prog 70 [.agg [pv0_0,pv0_1].toArray].toArray w0.w (aL Φ w0.w [] (fun Φ' Fs v=>∃ (sr_0_0:Value) (sr_0_1:Value),v = .agg [sr_0_0,sr_0_1].toArray∧Fs=[ob sr_0_0,ob sr_0_1]∧OSl (RI .i64) 3 1 Φ' [] sr_0_0 r.Pos∧OSl (RI .i64) 3 1 Φ' [] sr_0_1 r.Neg)):=by
 refine eN func70 rfl ntmps70 rfl w0 fun hF=>?_
 unfold l9 at h
 refine sr<|lbx rfl fun b_1=>lnz rc rfl fun b_2=>en<|sr<|lnz rc rfl fun b_3=>arr 5 [0,64] rfl<|kab h rfl rfl rfl (fun b z q=>ja N b p0.Pos (ph0_0.y z) q) ?_
 rintro x1 h v1 Φ_1 F1 ⟨ap1,fr1,v2,rfl,rfl,h1⟩
 refine lf nt rfl rfl rfl<|so1 0 mf rfl h1.one ?_
 refine arr 5 [1,64] rfl<|kab h rfl rfl rfl (fun b z q=>ja N b p0.Neg (ph0_1.y z) q) ?_
 rintro x2 h v3 Φ_2 F2 ⟨ap2,fr2,v4,rfl,rfl,h2⟩
 replace h1:=h1.fr fr2 (ap2.q 0 rfl) dN
 refine lf nq rfl rfl rfl<|so1 0 mf rfl h2.one ?_
 refine arr 4 [2] rfl<|soN 1 wk rfl ⟨h1.one,h2.one,trivial⟩ rfl ?_
 refine en ?_
 exact rtg [1,0] hF (ao.one (bB CP rfl (fun w1 hw=>hw.rgO (i:=1) rfl 0 2 [v1,v3] rfl) rfl)) rfl (by cases h; exact fun w1 hw=>⟨v1,v3,rfl,rfl,h1,h2⟩)
theorem xD (w0:ab Ψ Φ []) (p0:(List ac)) (ph0:RSl bv 2 Ψ pG0 pv0 p0) {r:(List ac)} (h:mN N p0=some r) :
  Calls prog 34 [pv0].toArray w0.w (aL Φ w0.w [] (fun Φ' Fs v=>∃ (sr_0_0:Value) (Dr_0_0:List Nat),v=sr_0_0∧Fs=[ob sr_0_0,Dr_0_0]∧OSl aD 150 2 Φ' Dr_0_0 sr_0_0 r)):=by
 refine eN func34 rfl ntmps34 rfl w0 fun hF=>?_
 unfold mN at h
 refine atr 7 [] rfl<|lnr ph0 rfl ?_
 obtain ⟨x1,hx1,h⟩:=bs h
 refine le' (kO (R:=aD) tq rc Lc rfl rfl rfl (fun _=>⟨.slice none 0 0,.slice none 0 0,rfl,rfl,OSl.nil _ _ _ _,OSl.nil _ _ _ _⟩) rfl rfl (Int.le_refl _) hx1 (pU hx1)) rfl ?_
 rintro v1 Φ_1 D1 ⟨fr1,h1⟩
 refine wl0<|art 8 [] rfl ?_
 refine lin (σ:=Hp × (List ac) × List Nat × Int) (fun s=>[(0,pv0),(3,v1),(4,iV s.2.2.2)]) (fun s=>St w0 s.1 [] [s.2.2.1,ob v1]) (fun m s=>iI N p0 m s.2.1 s.2.2.2=some r∧(OSl aD 150 2 s.1 s.2.2.1 v1 s.2.1)) (Φ_1,x1,[],0) N ⟨h,h1⟩ (sx [0,0] []) (fun n1 ih1 s hm=>?_)
 obtain ⟨Φ_2,s1,D2,s2⟩:=s
 obtain ⟨h,k1⟩:=hm
 dsimp only at h k1 ⊢
 unfold iI at h
 refine atr 5 [] rfl<|lnr ph0 rfl<|la rfl<|en ?_
 refine ch h rfl ?_ ?_ <;> intro h
 ·refine atr 8 [] rfl ?_
  obtain ⟨x2,hx2,h⟩:=bs h
  obtain ⟨cs1,F1,-,g1,hb1,hs1,r1⟩:=ph0.el (a7 hx2).2.2
  obtain ⟨v2,G1,v3,G2,rfl,rfl,h2,h3⟩:=r1
  refine lia ph0 hx2 rfl<|lhx 0 2 g1 rfl<|kab h rfl rfl rfl (fun b z q=>zU N b x2 (h2.y z) (h3.y z) q) ?_
  rintro x3 h v4 Φ_3 F2 ⟨ap1,fr2,v5,v6,rfl,rfl,h4,h5⟩
  replace k1:=k1.fr fr2 (ap1.q 1 rfl) (ap1.q 0 rfl)
  obtain ⟨x4,hx4,h⟩:=bs h
  obtain ⟨cs2,F3,-,g2,hb2,hs2,r2⟩:=k1.elS (a7 hx4).2.2
  obtain ⟨v7,v8,rfl,rfl,h6,h7⟩:=r2
  have h8:=h6.rsl
  have h9:=h7.rsl
  refine lio k1 hx4 rfl ?_
  have r3:aD Φ_3 ((ob v5++[])++((ob v6++[]))) [v5,v6] x3:=⟨v5,v6,rfl,rfl,h4,h5⟩
  refine lu (rK (js:=[3]) (Rr:=[ob v5,ob v6,D2]) (vs:=[v5,v6]) (x':=x3) aD.lasts wk rfl rfl rfl rfl ⟨h4.one,h5.one,trivial⟩ rfl k1 (fV hx4) r3 (aD.knows _ _ _ _ r3) (fun ap=>ap.q 2 rfl) (fun ap=>by simpa [bm] using (Dj.app (ap.q 0 rfl) (ap.q 1 rfl)))) rfl ?_
  rintro Φ_4 D3 ⟨⟨ap2,fr3⟩,sp1,h10⟩
  refine wlL [D3,ob v1] (smg [3,1,1] rfl (by simpa [List.append_assoc,bm] using sp1))<|art 7 [] rfl ?_
  exact lb [0,0] [] (ih1 (_,_,_,_) ⟨h,h10⟩)
 refine att 6 [] rfl ?_
 exact rtg [1,0] hF (ao.one rfl) rfl (by cases h; exact fun w1 hw=>⟨v1,D2,rfl,rfl,k1⟩)
theorem gG (w0:ab Ψ Φ []) (p0:bd) (ph0_0:RSl be 4 Ψ pG0_0 pv0_0 p0.Alphas) (ph0_1:RSl bv 2 Ψ pG0_1 pv0_1 p0.Chains) {r:bd} (h:lv N p0=some r) :
  Calls prog 10 [.agg [pv0_0,pv0_1].toArray].toArray w0.w (aL Φ w0.w [] (fun Φ' Fs v=>∃ (sr_0_0:Value) (Dr_0_0:List Nat) (sr_0_1:Value) (Dr_0_1:List Nat),v = .agg [sr_0_0,sr_0_1].toArray∧Fs=[ob sr_0_0,Dr_0_0,ob sr_0_1,Dr_0_1]∧OSl aK 148 4 Φ' Dr_0_0 sr_0_0 r.Alphas∧OSl aD 150 2 Φ' Dr_0_1 sr_0_1 r.Chains)):=by
 refine eN func10 rfl ntmps10 rfl w0 fun hF=>?_
 unfold lv at h
 refine sr<|lbx rfl fun b_1=>lnz w5 rfl fun b_2=>en<|sr<|lnz w5 rfl fun b_3=>arr 5 [0,64] rfl<|kab h rfl rfl rfl (fun b z q=>xk N b p0.Alphas (ph0_0.y z) q) ?_
 rintro x1 h v1 Φ_1 F1 ⟨ap1,fr1,v2,D1,rfl,rfl,h1⟩
 refine lf oe rfl rfl rfl<|so1 0 I8 rfl h1.one ?_
 refine arr 5 [1,64] rfl<|kab h rfl rfl rfl (fun b z q=>xD N b p0.Chains (ph0_1.y z) q) ?_
 rintro x2 h v3 Φ_2 F2 ⟨ap2,fr2,v4,D2,rfl,rfl,h2⟩
 replace h1:=h1.fr fr2 (ap2.q 0 rfl) (ap2.q 1 rfl)
 refine lf yw rfl rfl rfl<|so1 0 HT rfl h2.one ?_
 refine arr 4 [2] rfl<|soN 1 Cr rfl ⟨h1.one,h2.one,trivial⟩ rfl ?_
 refine en ?_
 exact rtg [2,2,0,0] hF (ao.one (bB ET rfl (fun w1 hw=>hw.rgO (i:=1) rfl 0 2 [v1,v3] rfl) rfl)) rfl (by cases h; exact fun w1 hw=>⟨v1,D1,v3,D2,rfl,rfl,h1,h2⟩)
theorem CQ (w0:ab Ψ Φ []) (p0:aP) (ph0_0:RSl (RI .i64) 1 Ψ pG0_0 pv0_0 p0.L) {r:aP} (h:pB N p0=some r) :
  Calls prog 71 [.agg [pv0_0].toArray].toArray w0.w (aL Φ w0.w [] (fun Φ' Fs v=>∃ (sr_0_0:Value),v = .agg [sr_0_0].toArray∧Fs=[ob sr_0_0]∧OSl (RI .i64) 3 1 Φ' [] sr_0_0 r.L)):=by
 refine eN func71 rfl ntmps71 rfl w0 fun hF=>?_
 unfold pB at h
 refine sr ?_
 refine ln (qY (C:=#[pv0_0]) rfl rfl) rfl (fun b_1=>?_)
 refine ln (gT (C:=#[.slice none 0 0]) tP rfl) rfl (fun b_2=>?_)
 refine en<|sr ?_
 refine ln (gT (C:=#[.slice none 0 0]) tP rfl) rfl (fun b_3=>?_)
 refine arr 5 [0,64] rfl<|kab h rfl rfl rfl (fun b z q=>ja N b p0.L (ph0_0.y z) q) ?_
 rintro x1 h v1 Φ_1 F1 ⟨ap1,fr1,v2,rfl,rfl,h1⟩
 refine lf jV rfl rfl rfl<|so1 0 mf rfl h1.one ?_
 refine en<|sr<|lq (aw Ds rfl (fun w1 hw=>hw.rgO (i:=0) rfl 0 1 [v1] rfl) rfl) rfl<|soN 1 Gi rfl ⟨h1.one,trivial⟩ rfl ?_
 refine en ?_
 exact rtg [0] hF (ao.one (bB Ds rfl (fun w1 hw=>hw.rgO (i:=1) rfl 0 1 [v1] rfl) rfl)) rfl (by cases h; exact fun w1 hw=>⟨v1,rfl,rfl,h1⟩)
theorem B9 (w0:ab Ψ Φ []) (p0:(List aP)) (ph0:RSl dP 1 Ψ pG0 pv0 p0) {r:(List aP)} (h:qE N p0=some r) :
  Calls prog 35 [pv0].toArray w0.w (aL Φ w0.w [] (fun Φ' Fs v=>∃ (sr_0_0:Value) (Dr_0_0:List Nat),v=sr_0_0∧Fs=[ob sr_0_0,Dr_0_0]∧OSl aF 123 1 Φ' Dr_0_0 sr_0_0 r)):=by
 refine eN func35 rfl ntmps35 rfl w0 fun hF=>?_
 unfold qE at h
 refine atr 7 [] rfl<|lnr ph0 rfl ?_
 obtain ⟨x1,hx1,h⟩:=bs h
 refine le' (kO (R:=aF) uJ tP Lq rfl rfl rfl (fun _=>⟨.slice none 0 0,rfl,rfl,OSl.nil _ _ _ _⟩) rfl rfl (Int.le_refl _) hx1 (pU hx1)) rfl ?_
 rintro v1 Φ_1 D1 ⟨fr1,h1⟩
 refine wl0<|art 8 [] rfl ?_
 refine lin (σ:=Hp × (List aP) × List Nat × Int) (fun s=>[(0,pv0),(3,v1),(4,iV s.2.2.2)]) (fun s=>St w0 s.1 [] [s.2.2.1,ob v1]) (fun m s=>kr N p0 m s.2.1 s.2.2.2=some r∧(OSl aF 123 1 s.1 s.2.2.1 v1 s.2.1)) (Φ_1,x1,[],0) N ⟨h,h1⟩ (sx [0,0] []) (fun n1 ih1 s hm=>?_)
 obtain ⟨Φ_2,s1,D2,s2⟩:=s
 obtain ⟨h,k1⟩:=hm
 dsimp only at h k1 ⊢
 unfold kr at h
 refine atr 5 [] rfl<|lnr ph0 rfl<|la rfl<|en ?_
 refine ch h rfl ?_ ?_ <;> intro h
 ·refine atr 8 [] rfl ?_
  obtain ⟨x2,hx2,h⟩:=bs h
  obtain ⟨cs1,F1,-,g1,hb1,hs1,r1⟩:=ph0.el (a7 hx2).2.2
  obtain ⟨v2,G1,rfl,hq1,h2⟩:=r1
  obtain rfl:=hq1.symm
  refine lia ph0 hx2 rfl<|lhx 0 1 g1 rfl<|kab h rfl rfl rfl (fun b z q=>CQ N b x2 (h2.y z) q) ?_
  rintro x3 h v3 Φ_3 F2 ⟨ap1,fr2,v4,rfl,rfl,h3⟩
  replace k1:=k1.fr fr2 (ap1.q 1 rfl) (ap1.q 0 rfl)
  obtain ⟨x4,hx4,h⟩:=bs h
  obtain ⟨cs2,F3,-,g2,hb2,hs2,r2⟩:=k1.elS (a7 hx4).2.2
  obtain ⟨v5,rfl,rfl,h4⟩:=r2
  have h5:=h4.rsl
  refine lio k1 hx4 rfl ?_
  have r3:aF Φ_3 ((ob v4++[])) [v4] x3:=⟨v4,rfl,rfl,h3⟩
  refine lu (rK (js:=[2]) (Rr:=[ob v4,D2]) (vs:=[v4]) (x':=x3) aF.lasts Gi rfl rfl rfl rfl ⟨h3.one,trivial⟩ rfl k1 (fV hx4) r3 (aF.knows _ _ _ _ r3) (fun ap=>ap.q 1 rfl) (fun ap=>by simpa [bm] using (ap.q 0 rfl))) rfl ?_
  rintro Φ_4 D3 ⟨⟨ap2,fr3⟩,sp1,h6⟩
  refine wlL [D3,ob v1] (smg [2,1] rfl (by simpa [List.append_assoc,bm] using sp1))<|art 7 [] rfl ?_
  exact lb [0,0] [] (ih1 (_,_,_,_) ⟨h,h6⟩)
 refine att 6 [] rfl ?_
 exact rtg [1,0] hF (ao.one rfl) rfl (by cases h; exact fun w1 hw=>⟨v1,D2,rfl,rfl,k1⟩)
theorem Dv (w0:ab Ψ Φ []) (p0:ak) (ph0_0:RSl (RI .i64) 1 Ψ pG0_0 pv0_0 p0.Ids) (ph0_1:RSl (RI .i64) 1 Ψ pG0_1 pv0_1 p0.Hits) {r:ak} (h:pF N p0=some r) :
  Calls prog 231 [.agg [pv0_0,pv0_1].toArray].toArray w0.w (aL Φ w0.w [] (fun Φ' Fs v=>∃ (sr_0_0:Value) (sr_0_1:Value),v = .agg [sr_0_0,sr_0_1].toArray∧Fs=[ob sr_0_0,ob sr_0_1]∧OSl (RI .i64) 3 1 Φ' [] sr_0_0 r.Ids∧OSl (RI .i64) 3 1 Φ' [] sr_0_1 r.Hits)):=by
 refine eN func231 rfl ntmps231 rfl w0 fun hF=>?_
 unfold pF at h
 refine sr<|lbx rfl fun b_1=>lnz iz rfl fun b_2=>en<|sr<|lnz iz rfl fun b_3=>arr 5 [0,64] rfl<|kab h rfl rfl rfl (fun b z q=>ja N b p0.Ids (ph0_0.y z) q) ?_
 rintro x1 h v1 Φ_1 F1 ⟨ap1,fr1,v2,rfl,rfl,h1⟩
 refine lf pC rfl rfl rfl<|so1 0 mf rfl h1.one ?_
 refine arr 5 [1,64] rfl<|kab h rfl rfl rfl (fun b z q=>ja N b p0.Hits (ph0_1.y z) q) ?_
 rintro x2 h v3 Φ_2 F2 ⟨ap2,fr2,v4,rfl,rfl,h2⟩
 replace h1:=h1.fr fr2 (ap2.q 0 rfl) dN
 refine lf po rfl rfl rfl<|so1 0 mf rfl h2.one ?_
 refine arr 4 [2] rfl<|soN 1 vc rfl ⟨h1.one,h2.one,trivial⟩ rfl ?_
 refine en ?_
 exact rtg [1,0] hF (ao.one (bB Gl rfl (fun w1 hw=>hw.rgO (i:=1) rfl 0 2 [v1,v3] rfl) rfl)) rfl (by cases h; exact fun w1 hw=>⟨v1,v3,rfl,rfl,h1,h2⟩)
theorem Ar (w0:ab Ψ Φ []) (p0:(List ak)) (ph0:RSl ic 2 Ψ pG0 pv0 p0) {r:(List ak)} (h:qn N p0=some r) :
  Calls prog 204 [pv0].toArray w0.w (aL Φ w0.w [] (fun Φ' Fs v=>∃ (sr_0_0:Value) (Dr_0_0:List Nat),v=sr_0_0∧Fs=[ob sr_0_0,Dr_0_0]∧OSl aO 159 2 Φ' Dr_0_0 sr_0_0 r)):=by
 refine eN func204 rfl ntmps204 rfl w0 fun hF=>?_
 unfold qn at h
 refine atr 7 [] rfl<|lnr ph0 rfl ?_
 obtain ⟨x1,hx1,h⟩:=bs h
 refine le' (kO (R:=aO) dU iz LB rfl rfl rfl (fun _=>⟨.slice none 0 0,.slice none 0 0,rfl,rfl,OSl.nil _ _ _ _,OSl.nil _ _ _ _⟩) rfl rfl (Int.le_refl _) hx1 (pU hx1)) rfl ?_
 rintro v1 Φ_1 D1 ⟨fr1,h1⟩
 refine wl0<|art 8 [] rfl ?_
 refine lin (σ:=Hp × (List ak) × List Nat × Int) (fun s=>[(0,pv0),(3,v1),(4,iV s.2.2.2)]) (fun s=>St w0 s.1 [] [s.2.2.1,ob v1]) (fun m s=>kl N p0 m s.2.1 s.2.2.2=some r∧(OSl aO 159 2 s.1 s.2.2.1 v1 s.2.1)) (Φ_1,x1,[],0) N ⟨h,h1⟩ (sx [0,0] []) (fun n1 ih1 s hm=>?_)
 obtain ⟨Φ_2,s1,D2,s2⟩:=s
 obtain ⟨h,k1⟩:=hm
 dsimp only at h k1 ⊢
 unfold kl at h
 refine atr 5 [] rfl<|lnr ph0 rfl<|la rfl<|en ?_
 refine ch h rfl ?_ ?_ <;> intro h
 ·refine atr 8 [] rfl ?_
  obtain ⟨x2,hx2,h⟩:=bs h
  obtain ⟨cs1,F1,-,g1,hb1,hs1,r1⟩:=ph0.el (a7 hx2).2.2
  obtain ⟨v2,G1,v3,G2,rfl,rfl,h2,h3⟩:=r1
  refine lia ph0 hx2 rfl<|lhx 0 2 g1 rfl<|kab h rfl rfl rfl (fun b z q=>Dv N b x2 (h2.y z) (h3.y z) q) ?_
  rintro x3 h v4 Φ_3 F2 ⟨ap1,fr2,v5,v6,rfl,rfl,h4,h5⟩
  replace k1:=k1.fr fr2 (ap1.q 1 rfl) (ap1.q 0 rfl)
  obtain ⟨x4,hx4,h⟩:=bs h
  obtain ⟨cs2,F3,-,g2,hb2,hs2,r2⟩:=k1.elS (a7 hx4).2.2
  obtain ⟨v7,v8,rfl,rfl,h6,h7⟩:=r2
  have h8:=h6.rsl
  have h9:=h7.rsl
  refine lio k1 hx4 rfl ?_
  have r3:aO Φ_3 ((ob v5++[])++((ob v6++[]))) [v5,v6] x3:=⟨v5,v6,rfl,rfl,h4,h5⟩
  refine lu (rK (js:=[3]) (Rr:=[ob v5,ob v6,D2]) (vs:=[v5,v6]) (x':=x3) aO.lasts vc rfl rfl rfl rfl ⟨h4.one,h5.one,trivial⟩ rfl k1 (fV hx4) r3 (aO.knows _ _ _ _ r3) (fun ap=>ap.q 2 rfl) (fun ap=>by simpa [bm] using (Dj.app (ap.q 0 rfl) (ap.q 1 rfl)))) rfl ?_
  rintro Φ_4 D3 ⟨⟨ap2,fr3⟩,sp1,h10⟩
  refine wlL [D3,ob v1] (smg [3,1,1] rfl (by simpa [List.append_assoc,bm] using sp1))<|art 7 [] rfl ?_
  exact lb [0,0] [] (ih1 (_,_,_,_) ⟨h,h10⟩)
 refine att 6 [] rfl ?_
 exact rtg [1,0] hF (ao.one rfl) rfl (by cases h; exact fun w1 hw=>⟨v1,D2,rfl,rfl,k1⟩)
theorem zk (w0:ab Ψ Φ []) (p0:ae) (ph0_0:RSl ic 2 Ψ pG0_0 pv0_0 p0.Toks) {r:ae} (h:l6 N p0=some r) :
  Calls prog 172 [.agg [pv0_0].toArray].toArray w0.w (aL Φ w0.w [] (fun Φ' Fs v=>∃ (sr_0_0:Value) (Dr_0_0:List Nat),v = .agg [sr_0_0].toArray∧Fs=[ob sr_0_0,Dr_0_0]∧OSl aO 159 2 Φ' Dr_0_0 sr_0_0 r.Toks)):=by
 refine eN func172 rfl ntmps172 rfl w0 fun hF=>?_
 unfold l6 at h
 refine sr ?_
 refine ln (qY (C:=#[pv0_0]) rfl rfl) rfl (fun b_1=>?_)
 refine ln (gT (C:=#[.slice none 0 0]) sP rfl) rfl (fun b_2=>?_)
 refine en<|sr ?_
 refine ln (gT (C:=#[.slice none 0 0]) sP rfl) rfl (fun b_3=>?_)
 refine arr 5 [0,64] rfl<|kab h rfl rfl rfl (fun b z q=>Ar N b p0.Toks (ph0_0.y z) q) ?_
 rintro x1 h v1 Φ_1 F1 ⟨ap1,fr1,v2,D1,rfl,rfl,h1⟩
 refine lf j8 rfl rfl rfl<|so1 0 Ef rfl h1.one ?_
 refine en<|sr<|lq (aw yT rfl (fun w1 hw=>hw.rgO (i:=0) rfl 0 1 [v1] rfl) rfl) rfl<|soN 1 CS rfl ⟨h1.one,trivial⟩ rfl ?_
 refine en ?_
 exact rtg [0,0] hF (ao.one (bB yT rfl (fun w1 hw=>hw.rgO (i:=1) rfl 0 1 [v1] rfl) rfl)) rfl (by cases h; exact fun w1 hw=>⟨v1,D1,rfl,rfl,h1⟩)
theorem xg (w0:ab Ψ Φ []) (p0:(List ae)) (ph0:RSl dI 1 Ψ pG0 pv0 p0) {r:(List ae)} (h:mb N p0=some r) :
  Calls prog 124 [pv0].toArray w0.w (aL Φ w0.w [] (fun Φ' Fs v=>∃ (sr_0_0:Value) (Dr_0_0:List Nat),v=sr_0_0∧Fs=[ob sr_0_0,Dr_0_0]∧OSl aJ 130 1 Φ' Dr_0_0 sr_0_0 r)):=by
 refine eN func124 rfl ntmps124 rfl w0 fun hF=>?_
 unfold mb at h
 refine atr 7 [] rfl<|lnr ph0 rfl ?_
 obtain ⟨x1,hx1,h⟩:=bs h
 refine le' (kO (R:=aJ) lW sP M4 rfl rfl rfl (fun _=>⟨.slice none 0 0,[],rfl,rfl,OSl.nil _ _ _ _⟩) rfl rfl (Int.le_refl _) hx1 (pU hx1)) rfl ?_
 rintro v1 Φ_1 D1 ⟨fr1,h1⟩
 refine wl0<|art 8 [] rfl ?_
 refine lin (σ:=Hp × (List ae) × List Nat × Int) (fun s=>[(0,pv0),(3,v1),(4,iV s.2.2.2)]) (fun s=>St w0 s.1 [] [s.2.2.1,ob v1]) (fun m s=>iJ N p0 m s.2.1 s.2.2.2=some r∧(OSl aJ 130 1 s.1 s.2.2.1 v1 s.2.1)) (Φ_1,x1,[],0) N ⟨h,h1⟩ (sx [0,0] []) (fun n1 ih1 s hm=>?_)
 obtain ⟨Φ_2,s1,D2,s2⟩:=s
 obtain ⟨h,k1⟩:=hm
 dsimp only at h k1 ⊢
 unfold iJ at h
 refine atr 5 [] rfl<|lnr ph0 rfl<|la rfl<|en ?_
 refine ch h rfl ?_ ?_ <;> intro h
 ·refine atr 8 [] rfl ?_
  obtain ⟨x2,hx2,h⟩:=bs h
  obtain ⟨cs1,F1,-,g1,hb1,hs1,r1⟩:=ph0.el (a7 hx2).2.2
  obtain ⟨v2,G1,rfl,hq1,h2⟩:=r1
  obtain rfl:=hq1.symm
  refine lia ph0 hx2 rfl<|lhx 0 1 g1 rfl<|kab h rfl rfl rfl (fun b z q=>zk N b x2 (h2.y z) q) ?_
  rintro x3 h v3 Φ_3 F2 ⟨ap1,fr2,v4,D3,rfl,rfl,h3⟩
  replace k1:=k1.fr fr2 (ap1.q 1 rfl) (ap1.q 0 rfl)
  obtain ⟨x4,hx4,h⟩:=bs h
  obtain ⟨cs2,F3,-,g2,hb2,hs2,r2⟩:=k1.elS (a7 hx4).2.2
  obtain ⟨v5,D4,rfl,rfl,h4⟩:=r2
  have h5:=h4.rslG aO.gives
  refine lio k1 hx4 rfl ?_
  have r3:aJ Φ_3 ((ob v4++D3)) [v4] x3:=⟨v4,D3,rfl,rfl,h3⟩
  refine lu (rK (js:=[3]) (Rr:=[ob v4,D3,D2]) (vs:=[v4]) (x':=x3) aJ.lasts CS rfl rfl rfl rfl ⟨h3.one,trivial⟩ rfl k1 (fV hx4) r3 (aJ.knows _ _ _ _ r3) (fun ap=>ap.q 2 rfl) (fun ap=>by simpa [bm] using (Dj.app (ap.q 0 rfl) (ap.q 1 rfl)))) rfl ?_
  rintro Φ_4 D5 ⟨⟨ap2,fr3⟩,sp1,h6⟩
  refine wlL [D5,ob v1] (smg [3,1,1] rfl (by simpa [List.append_assoc,bm] using sp1))<|art 7 [] rfl ?_
  exact lb [0,0] [] (ih1 (_,_,_,_) ⟨h,h6⟩)
 refine att 6 [] rfl ?_
 exact rtg [1,0] hF (ao.one rfl) rfl (by cases h; exact fun w1 hw=>⟨v1,D2,rfl,rfl,k1⟩)
theorem CK (w0:ab Ψ Φ []) (p0:aC) (ph0_0:RSl dI 1 Ψ pG0_0 pv0_0 p0.Levels) {r:aC} (h:pH N p0=some r) :
  Calls prog 72 [.agg [pv0_0].toArray].toArray w0.w (aL Φ w0.w [] (fun Φ' Fs v=>∃ (sr_0_0:Value) (Dr_0_0:List Nat),v = .agg [sr_0_0].toArray∧Fs=[ob sr_0_0,Dr_0_0]∧OSl aJ 130 1 Φ' Dr_0_0 sr_0_0 r.Levels)):=by
 refine eN func72 rfl ntmps72 rfl w0 fun hF=>?_
 unfold pH at h
 refine sr ?_
 refine ln (qY (C:=#[pv0_0]) rfl rfl) rfl (fun b_1=>?_)
 refine ln (gT (C:=#[.slice none 0 0]) rb rfl) rfl (fun b_2=>?_)
 refine en<|sr ?_
 refine ln (gT (C:=#[.slice none 0 0]) rb rfl) rfl (fun b_3=>?_)
 refine arr 5 [0,64] rfl<|kab h rfl rfl rfl (fun b z q=>xg N b p0.Levels (ph0_0.y z) q) ?_
 rintro x1 h v1 Φ_1 F1 ⟨ap1,fr1,v2,D1,rfl,rfl,h1⟩
 refine lf gq rfl rfl rfl<|so1 0 Fv rfl h1.one ?_
 refine en<|sr<|lq (aw wA rfl (fun w1 hw=>hw.rgO (i:=0) rfl 0 1 [v1] rfl) rfl) rfl<|soN 1 wK rfl ⟨h1.one,trivial⟩ rfl ?_
 refine en ?_
 exact rtg [0,0] hF (ao.one (bB wA rfl (fun w1 hw=>hw.rgO (i:=1) rfl 0 1 [v1] rfl) rfl)) rfl (by cases h; exact fun w1 hw=>⟨v1,D1,rfl,rfl,h1⟩)
theorem B7 (w0:ab Ψ Φ []) (p0:(List aC)) (ph0:RSl fx 1 Ψ pG0 pv0 p0) {r:(List aC)} (h:qj N p0=some r) :
  Calls prog 36 [pv0].toArray w0.w (aL Φ w0.w [] (fun Φ' Fs v=>∃ (sr_0_0:Value) (Dr_0_0:List Nat),v=sr_0_0∧Fs=[ob sr_0_0,Dr_0_0]∧OSl aM 126 1 Φ' Dr_0_0 sr_0_0 r)):=by
 refine eN func36 rfl ntmps36 rfl w0 fun hF=>?_
 unfold qj at h
 refine atr 7 [] rfl<|lnr ph0 rfl ?_
 obtain ⟨x1,hx1,h⟩:=bs h
 refine le' (kO (R:=aM) xd rb KJ rfl rfl rfl (fun _=>⟨.slice none 0 0,[],rfl,rfl,OSl.nil _ _ _ _⟩) rfl rfl (Int.le_refl _) hx1 (pU hx1)) rfl ?_
 rintro v1 Φ_1 D1 ⟨fr1,h1⟩
 refine wl0<|art 8 [] rfl ?_
 refine lin (σ:=Hp × (List aC) × List Nat × Int) (fun s=>[(0,pv0),(3,v1),(4,iV s.2.2.2)]) (fun s=>St w0 s.1 [] [s.2.2.1,ob v1]) (fun m s=>kA N p0 m s.2.1 s.2.2.2=some r∧(OSl aM 126 1 s.1 s.2.2.1 v1 s.2.1)) (Φ_1,x1,[],0) N ⟨h,h1⟩ (sx [0,0] []) (fun n1 ih1 s hm=>?_)
 obtain ⟨Φ_2,s1,D2,s2⟩:=s
 obtain ⟨h,k1⟩:=hm
 dsimp only at h k1 ⊢
 unfold kA at h
 refine atr 5 [] rfl<|lnr ph0 rfl<|la rfl<|en ?_
 refine ch h rfl ?_ ?_ <;> intro h
 ·refine atr 8 [] rfl ?_
  obtain ⟨x2,hx2,h⟩:=bs h
  obtain ⟨cs1,F1,-,g1,hb1,hs1,r1⟩:=ph0.el (a7 hx2).2.2
  obtain ⟨v2,G1,rfl,hq1,h2⟩:=r1
  obtain rfl:=hq1.symm
  refine lia ph0 hx2 rfl<|lhx 0 1 g1 rfl<|kab h rfl rfl rfl (fun b z q=>CK N b x2 (h2.y z) q) ?_
  rintro x3 h v3 Φ_3 F2 ⟨ap1,fr2,v4,D3,rfl,rfl,h3⟩
  replace k1:=k1.fr fr2 (ap1.q 1 rfl) (ap1.q 0 rfl)
  obtain ⟨x4,hx4,h⟩:=bs h
  obtain ⟨cs2,F3,-,g2,hb2,hs2,r2⟩:=k1.elS (a7 hx4).2.2
  obtain ⟨v5,D4,rfl,rfl,h4⟩:=r2
  have h5:=h4.rslG aJ.gives
  refine lio k1 hx4 rfl ?_
  have r3:aM Φ_3 ((ob v4++D3)) [v4] x3:=⟨v4,D3,rfl,rfl,h3⟩
  refine lu (rK (js:=[3]) (Rr:=[ob v4,D3,D2]) (vs:=[v4]) (x':=x3) aM.lasts wK rfl rfl rfl rfl ⟨h3.one,trivial⟩ rfl k1 (fV hx4) r3 (aM.knows _ _ _ _ r3) (fun ap=>ap.q 2 rfl) (fun ap=>by simpa [bm] using (Dj.app (ap.q 0 rfl) (ap.q 1 rfl)))) rfl ?_
  rintro Φ_4 D5 ⟨⟨ap2,fr3⟩,sp1,h6⟩
  refine wlL [D5,ob v1] (smg [3,1,1] rfl (by simpa [List.append_assoc,bm] using sp1))<|art 7 [] rfl ?_
  exact lb [0,0] [] (ih1 (_,_,_,_) ⟨h,h6⟩)
 refine att 6 [] rfl ?_
 exact rtg [1,0] hF (ao.one rfl) rfl (by cases h; exact fun w1 hw=>⟨v1,D2,rfl,rfl,k1⟩)
theorem eD (w0:ab Ψ Φ []) (p0:aG) (ph0_0:RSl dP 1 Ψ pG0_0 pv0_0 p0.Alphas) (ph0_1:RSl fx 1 Ψ pG0_1 pv0_1 p0.Rules) {r:aG} (h:lm N p0=some r) :
  Calls prog 11 [.agg [pv0_0,pv0_1].toArray].toArray w0.w (aL Φ w0.w [] (fun Φ' Fs v=>∃ (sr_0_0:Value) (Dr_0_0:List Nat) (sr_0_1:Value) (Dr_0_1:List Nat),v = .agg [sr_0_0,sr_0_1].toArray∧Fs=[ob sr_0_0,Dr_0_0,ob sr_0_1,Dr_0_1]∧OSl aF 123 1 Φ' Dr_0_0 sr_0_0 r.Alphas∧OSl aM 126 1 Φ' Dr_0_1 sr_0_1 r.Rules)):=by
 refine eN func11 rfl ntmps11 rfl w0 fun hF=>?_
 unfold lm at h
 refine sr<|lbx rfl fun b_1=>lnz iG rfl fun b_2=>en<|sr<|lnz iG rfl fun b_3=>arr 5 [0,64] rfl<|kab h rfl rfl rfl (fun b z q=>B9 N b p0.Alphas (ph0_0.y z) q) ?_
 rintro x1 h v1 Φ_1 F1 ⟨ap1,fr1,v2,D1,rfl,rfl,h1⟩
 refine lf o0 rfl rfl rfl<|so1 0 I9 rfl h1.one ?_
 refine arr 5 [1,64] rfl<|kab h rfl rfl rfl (fun b z q=>B7 N b p0.Rules (ph0_1.y z) q) ?_
 rintro x2 h v3 Φ_2 F2 ⟨ap2,fr2,v4,D2,rfl,rfl,h2⟩
 replace h1:=h1.fr fr2 (ap2.q 0 rfl) (ap2.q 1 rfl)
 refine lf vY rfl rfl rfl<|so1 0 Iv rfl h2.one ?_
 refine arr 4 [2] rfl<|soN 1 kg rfl ⟨h1.one,h2.one,trivial⟩ rfl ?_
 refine en ?_
 exact rtg [2,2,0,0] hF (ao.one (bB Cb rfl (fun w1 hw=>hw.rgO (i:=1) rfl 0 2 [v1,v3] rfl) rfl)) rfl (by cases h; exact fun w1 hw=>⟨v1,D1,v3,D2,rfl,rfl,h1,h2⟩)
theorem AC (w0:ab Ψ Φ []) (p0:aA) (ph0_0:RSl av 3 Ψ pG0_0 pv0_0 p0.Fields) {r:aA} (h:qN N p0=some r) :
  Calls prog 125 [.agg [.string p0.Kind,pv0_0].toArray].toArray w0.w (aL Φ w0.w [] (fun Φ' Fs v=>∃ (sr_0_0:Value),v = .agg [.string r.Kind,sr_0_0].toArray∧Fs=[ob sr_0_0]∧OSl av 225 3 Φ' [] sr_0_0 r.Fields)):=by
 refine eN func125 rfl ntmps125 rfl w0 fun hF=>?_
 unfold qN at h
 refine sr<|lbx rfl fun b_1=>lnz kh rfl fun b_2=>en<|sr<|lnz kh rfl fun b_3=>arr 6 [0,64,0] rfl<|so1 0 mT rfl rfl ?_
 refine arr 5 [1,64] rfl<|kab h rfl rfl rfl (fun b z q=>uu N b p0.Fields (ph0_0.y z) q) ?_
 rintro x1 h v1 Φ_1 F1 ⟨ap1,fr1,v2,rfl,rfl,h1⟩
 refine lf C4 rfl rfl rfl<|so1 0 zO rfl h1.one ?_
 refine arr 4 [2] rfl<|soN 1 kY rfl ⟨rfl,h1.one,trivial⟩ rfl ?_
 refine en ?_
 exact rtg [0] hF (ao.one (bB rM rfl (fun w1 hw=>hw.rgO (i:=1) rfl 0 2 [.string p0.Kind,v1] rfl) rfl)) rfl (by cases h; exact fun w1 hw=>⟨v1,rfl,rfl,h1⟩)
theorem Bq (w0:ab Ψ Φ []) (p0:aY) (ph0_0:RSl av 3 Ψ pG0_0 pv0_0 p0.F.Fields) {r:aY} (h:nr N p0=some r) :
  Calls prog 73 [.agg [iV p0.Id,.string p0.F.Kind,pv0_0].toArray].toArray w0.w (aL Φ w0.w [] (fun Φ' Fs v=>∃ (sr_0_0:Value),v = .agg [iV r.Id,.string r.F.Kind,sr_0_0].toArray∧Fs=[ob sr_0_0]∧OSl av 225 3 Φ' [] sr_0_0 r.F.Fields)):=by
 refine eN func73 rfl ntmps73 rfl w0 fun hF=>?_
 unfold nr at h
 refine sr<|lbx rfl fun b_1=>lnz vd rfl fun b_2=>en<|sr<|lnz vd rfl fun b_3=>arr 6 [0,64,0] rfl<|so1 0 iE rfl rfl ?_
 refine arr 5 [1,66] rfl<|kab h rfl rfl rfl (fun b z q=>AC N b p0.F (ph0_0.y z) q) ?_
 rintro x1 h v1 Φ_1 F1 ⟨ap1,fr1,v2,rfl,rfl,h1⟩
 refine lf wv rfl rfl rfl<|soN 0 kY rfl ⟨rfl,h1.one,trivial⟩ rfl ?_
 refine arr 4 [3] rfl<|soN 1 wS rfl ⟨rfl,rfl,h1.one,trivial⟩ rfl ?_
 refine en ?_
 exact rtg [0] hF (ao.one (bB Fu rfl (fun w1 hw=>hw.rgO (i:=1) rfl 0 3 [iV p0.Id,.string x1.Kind,v2] rfl) rfl)) rfl (by cases h; exact fun w1 hw=>⟨v2,rfl,rfl,h1⟩)
theorem zo (w0:ab Ψ Φ []) (p0:(List aY)) (ph0:RSl bN 3 Ψ pG0 pv0 p0) {r:(List aY)} (h:o4 N p0=some r) :
  Calls prog 37 [pv0].toArray w0.w (aL Φ w0.w [] (fun Φ' Fs v=>∃ (sr_0_0:Value) (Dr_0_0:List Nat),v=sr_0_0∧Fs=[ob sr_0_0,Dr_0_0]∧OSl bC 155 3 Φ' Dr_0_0 sr_0_0 r)):=by
 refine eN func37 rfl ntmps37 rfl w0 fun hF=>?_
 unfold o4 at h
 refine atr 7 [] rfl<|lnr ph0 rfl ?_
 obtain ⟨x1,hx1,h⟩:=bs h
 refine le' (kO (R:=bC) zq vd Mq rfl rfl rfl (fun _=>⟨.slice none 0 0,rfl,rfl,OSl.nil _ _ _ _⟩) rfl rfl (Int.le_refl _) hx1 (pU hx1)) rfl ?_
 rintro v1 Φ_1 D1 ⟨fr1,h1⟩
 refine wl0<|art 8 [] rfl ?_
 refine lin (σ:=Hp × (List aY) × List Nat × Int) (fun s=>[(0,pv0),(3,v1),(4,iV s.2.2.2)]) (fun s=>St w0 s.1 [] [s.2.2.1,ob v1]) (fun m s=>jI N p0 m s.2.1 s.2.2.2=some r∧(OSl bC 155 3 s.1 s.2.2.1 v1 s.2.1)) (Φ_1,x1,[],0) N ⟨h,h1⟩ (sx [0,0] []) (fun n1 ih1 s hm=>?_)
 obtain ⟨Φ_2,s1,D2,s2⟩:=s
 obtain ⟨h,k1⟩:=hm
 dsimp only at h k1 ⊢
 unfold jI at h
 refine atr 5 [] rfl<|lnr ph0 rfl<|la rfl<|en ?_
 refine ch h rfl ?_ ?_ <;> intro h
 ·refine atr 8 [] rfl ?_
  obtain ⟨x2,hx2,h⟩:=bs h
  obtain ⟨cs1,F1,-,g1,hb1,hs1,r1⟩:=ph0.el (a7 hx2).2.2
  obtain ⟨v2,G1,rfl,hq1,h2⟩:=r1
  obtain rfl:=hq1.symm
  refine lia ph0 hx2 rfl<|lhx 0 3 g1 rfl<|kab h rfl rfl rfl (fun b z q=>Bq N b x2 (h2.y z) q) ?_
  rintro x3 h v3 Φ_3 F2 ⟨ap1,fr2,v4,rfl,rfl,h3⟩
  replace k1:=k1.fr fr2 (ap1.q 1 rfl) (ap1.q 0 rfl)
  obtain ⟨x4,hx4,h⟩:=bs h
  obtain ⟨cs2,F3,-,g2,hb2,hs2,r2⟩:=k1.elS (a7 hx4).2.2
  obtain ⟨v5,rfl,rfl,h4⟩:=r2
  have h5:=h4.rsl
  refine lio k1 hx4 rfl ?_
  have r3:bC Φ_3 ((ob v4++[])) [iV x3.Id,.string x3.F.Kind,v4] x3:=⟨v4,rfl,rfl,h3⟩
  refine lu (rK (js:=[2]) (Rr:=[ob v4,D2]) (vs:=[iV x3.Id,.string x3.F.Kind,v4]) (x':=x3) bC.lasts wS rfl rfl rfl rfl ⟨rfl,rfl,h3.one,trivial⟩ rfl k1 (fV hx4) r3 (bC.knows _ _ _ _ r3) (fun ap=>ap.q 1 rfl) (fun ap=>by simpa [bm] using (ap.q 0 rfl))) rfl ?_
  rintro Φ_4 D3 ⟨⟨ap2,fr3⟩,sp1,h6⟩
  refine wlL [D3,ob v1] (smg [2,1] rfl (by simpa [List.append_assoc,bm] using sp1))<|art 7 [] rfl ?_
  exact lb [0,0] [] (ih1 (_,_,_,_) ⟨h,h6⟩)
 refine att 6 [] rfl ?_
 exact rtg [1,0] hF (ao.one rfl) rfl (by cases h; exact fun w1 hw=>⟨v1,D2,rfl,rfl,k1⟩)
theorem bV (w0:ab Ψ Φ []) (p0:ah) (ph0_0:RSl bN 3 Ψ pG0_0 pv0_0 p0.Items) {r:ah} (h:ig N p0=some r) :
  Calls prog 12 [.agg [pv0_0,iV p0.Next].toArray].toArray w0.w (aL Φ w0.w [] (fun Φ' Fs v=>∃ (sr_0_0:Value) (Dr_0_0:List Nat),v = .agg [sr_0_0,iV r.Next].toArray∧Fs=[ob sr_0_0,Dr_0_0]∧OSl bC 155 3 Φ' Dr_0_0 sr_0_0 r.Items)):=by
 refine eN func12 rfl ntmps12 rfl w0 fun hF=>?_
 unfold ig at h
 refine sr<|lbx rfl fun b_1=>lnz HF rfl fun b_2=>en<|sr<|lnz HF rfl fun b_3=>arr 5 [0,64] rfl<|kab h rfl rfl rfl (fun b z q=>zo N b p0.Items (ph0_0.y z) q) ?_
 rintro x1 h v1 Φ_1 F1 ⟨ap1,fr1,v2,D1,rfl,rfl,h1⟩
 refine lf Iw rfl rfl rfl<|so1 0 MC rfl h1.one ?_
 refine arr 6 [1,64,1] rfl<|so1 0 iE rfl rfl ?_
 refine arr 4 [2] rfl<|soN 1 K7 rfl ⟨h1.one,rfl,trivial⟩ rfl ?_
 refine en ?_
 exact rtg [0,0] hF (ao.one (bB Cp rfl (fun w1 hw=>hw.rgO (i:=1) rfl 0 2 [v1,iV p0.Next] rfl) rfl)) rfl (by cases h; exact fun w1 hw=>⟨v1,D1,rfl,rfl,h1⟩)
theorem iv (w0:ab Ψ Φ []) (p0:(List Int)) (ph0:RSl (RI .i64) 1 Ψ pG0 pv0 p0) {r:(List Int)} (h:cD N p0=some r) :
  Calls prog 74 [pv0].toArray w0.w (aL Φ w0.w [] (fun Φ' Fs v=>∃ (sr_0_0:Value),v=sr_0_0∧Fs=[ob sr_0_0]∧OSl (RI .i64) 3 1 Φ' [] sr_0_0 r)):=by
 refine eN func74 rfl ntmps74 rfl w0 fun hF=>?_
 unfold cD at h
 refine att 6 [] rfl ?_
 rcases RSl.nilOr ph0 with ⟨hxs1,cc1,hv1⟩ | ⟨a1,cc1,hv1⟩
 ·replace h:some []=some r:=by simpa [hxs1,app] using h
  refine atr 2 [] rfl<|lq (ud bg (congrArg some hv1) rfl) rfl<|en ?_
  refine cd rfl (fun c=>?_) (fun c=>by simp at c)
  refine att 4 [] rfl ?_
  refine WT.ret hF (ao.one rfl) (fun w1 hw=>?_)
  cases h
  replace hw:=hw.addNil
  refine ce (js:=[0]) hw rfl ⟨.slice none 0 0,rfl,rfl,OSl.nil _ _ _ _⟩
 refine atr 2 [] rfl<|lq (ud bg (congrArg some hv1) rfl) rfl<|en ?_
 refine cd rfl (fun c=>by simp at c) (fun c=>?_)
 refine atr 3 [] rfl<|le' (ju (R:=RI .i64) RI.lasts bg sW rfl rfl) rfl ?_
 rintro v1 Φ_1 D1 ⟨fr1,h1⟩
 refine la rfl<|lu0 ph0 fun h2=>?_
 obtain ⟨x1,hx1,h⟩:=bs h
 refine le' (dV RI.lasts RI.one RI.flat bg ui rfl rfl rfl rfl rfl (js:=[0]) (Rr:=[]) rfl h1 h2 hx1) rfl ?_
 rintro v2 Φ_2 D2 ⟨⟨ap1,fr2⟩,h3⟩
 refine la rfl<|en ?_
 exact rtg [0] hF (ao.one rfl) rfl (by cases h; exact fun w1 hw=>⟨v2,rfl,rfl,h3⟩)
theorem Ae (w0:ab Ψ Φ []) (p0:aG) (ph0_0:RSl dP 1 Ψ pG0_0 pv0_0 p0.Alphas) (ph0_1:RSl fx 1 Ψ pG0_1 pv0_1 p0.Rules) {r:aG} (h:oB N p0=some r) :
  Calls prog 38 [.agg [pv0_0,pv0_1].toArray].toArray w0.w (aL Φ w0.w [] (fun Φ' Fs v=>∃ (sr_0_0:Value) (Dr_0_0:List Nat) (sr_0_1:Value) (Dr_0_1:List Nat),v = .agg [sr_0_0,sr_0_1].toArray∧Fs=[ob sr_0_0,Dr_0_0,ob sr_0_1,Dr_0_1]∧OSl aF 123 1 Φ' Dr_0_0 sr_0_0 r.Alphas∧OSl aM 126 1 Φ' Dr_0_1 sr_0_1 r.Rules)):=by
 refine eN func38 rfl ntmps38 rfl w0 fun hF=>?_
 unfold oB at h
 refine sr<|lbx rfl fun b_1=>lnz iG rfl fun b_2=>en<|sr<|lnz iG rfl fun b_3=>arr 6 [0,64] rfl<|lnr ph0_0 rfl<|art 3 [] rfl<|wtS<|wt0 ?_
 have k1:=OSl.nil aF 123 1 Φ
 refine lin (σ:=Hp × (List aP) × Value × List Nat × Int) (fun s=>[(1,pQ b_1),(2,pQ b_2),(3,pQ b_3),(15,pv0_0),(16,iV (p0.Alphas.length:Int)),(17,iV s.2.2.2.2)]) (fun s=>St w0 s.1 [(b_3,.cells #[s.2.2.1,.slice none 0 0] 43 (0,0)),(b_2,.cells #[.slice none 0 0,.slice none 0 0] 43 (0,0)),(b_1,.cells #[pv0_0,pv0_1] 43 (0,0))] [s.2.2.2.1,ob s.2.2.1]) (fun m s=>fW N p0 m s.2.1 s.2.2.2.2=some r∧(OSl aF 123 1 s.1 s.2.2.2.1 s.2.2.1 s.2.1)) (Φ,([]:List aP),(.slice none 0 0),[],0) N ⟨h,k1⟩ (sx [0,0] [0,0,0]) (fun n1 ih1 s hm=>?_)
 obtain ⟨Φ_1,s1,u1,D1,s2⟩:=s
 obtain ⟨h,k2⟩:=hm
 dsimp only at h k2 ⊢
 unfold fW at h
 refine att 5 [] rfl ?_
 refine ch h rfl ?_ ?_ <;> intro h
 ·refine atr 5 [] rfl ?_
  obtain ⟨x1,hx1,h⟩:=bs h
  obtain ⟨cs1,F1,-,g1,hb1,hs1,r1⟩:=ph0_0.el (a7 hx1).2.2
  obtain ⟨v1,G1,rfl,hq1,h1⟩:=r1
  obtain rfl:=hq1.symm
  refine lia ph0_0 hx1 rfl<|lhx 0 1 g1 rfl ?_
  refine ln (gT (C:=#[.slice none 0 0]) tP rfl) rfl (fun b_4=>?_)
  refine soN 0 Gi rfl ⟨h1.one,trivial⟩ rfl ?_
  refine en<|wm [0,1,2,3] [9] rfl<|amm 4 [0,0,1,32,2,0,3,0] [0,1,2,3] rfl rfl ?_
  obtain ⟨x2,hx2,h⟩:=bs h
  refine WM.one 4 (by kernel_rfl) (mc rfl (fun _ v Φx D w1 hq hw=>Kn.of Kf.nil (am [0,1,2,3] rfl) hw) (aU (js:=[]) (R:=[D1,ob u1]) FJ rfl rfl (fun w1 hw ap hl=>iv N (ba hw.fro) x1.L (h1.y hw.up)  hx2)) rfl ?_)
  rintro v2 Φ_2 F2 ⟨ap1,fr1,v3,rfl,rfl,h2⟩
  replace k2:=k2.fr fr1 (ap1.q 1 rfl) (ap1.q 0 rfl)
  refine mq 5 rfl (by kernel_rfl) (kN [0,1,2,3]) (cG (vs:=[(0,v2)]) (C:=#[v2]) HW tP rfl (ag (C':=[v2]) rfl (cJ h2.one) rfl rfl rfl (aq))) rfl ?_
  have rc1:RC aF 1 Φ_2 ([(ob v2++[])]:List (List Nat)) [v2] ([(⟨x2⟩:aP)]:List aP):=RC.cons (c:=[v2]) (cells:=[]) ⟨v2,rfl,rfl,h2⟩ rfl (RC.nil _ _ _)
  refine WM.one 6 (by kernel_rfl) (me rfl (fun _ v Φx D w1 hq hw=>Kn.of Kf.nil (am [0,1,2,3] rfl) hw) (ed (vs:=[(0,.agg [v2].toArray)]) (C:=#[v2]) aF.lasts uJ tP rfl rfl rfl rfl (aV Fo (ag (C':=[v2]) rfl rfl rfl rfl rfl (aq))) rfl rc1 rfl (RC.kn aF.knows rc1)) rfl ?_)
  rintro v4 Φ_3 D2 ⟨fr2,h3⟩
  replace h3:OSl aF 123 1 Φ_3 ((ob v2++[])) v4 ([(⟨x2⟩:aP)]:List aP):=by simpa [List.append_assoc] using h3
  replace k2:=k2.f0 fr2
  refine WM.conv (S':=St w0 Φ_3 [(b_4,.cells #[v1] 123 (0,0)),(b_3,.cells #[u1,.slice none 0 0] 43 (0,0)),(b_2,.cells #[.slice none 0 0,.slice none 0 0] 43 (0,0)),(b_1,.cells #[pv0_0,pv0_1] 43 (0,0))] [((ob v2++[])),ob v4,D1,ob u1]) (fun w1 hw=>hw.merge (js:=[1]) rfl (SP.eq (by simp [List.append_assoc,bm]))) ?_
  obtain ⟨x3,hx3,h⟩:=bs h
  refine WM.one 7 (by kernel_rfl) (me rfl (fun _ v Φx D w1 hq hw=>Kn.of Kf.nil (am [0,1,2,3] rfl) hw) (kj aF.lasts aF.one uJ Iy rfl rfl rfl rfl rfl (js:=[3]) (Rr:=[((ob v2++[])),ob v4,D1]) rfl k2 h3 (fun ap=>ap.q 2 rfl) (fun ap=>ap.q 0 rfl) hx3) rfl ?_)
  rintro v5 Φ_4 D3 ⟨⟨ap2,fr3⟩,h4⟩
  refine WM.conv (S':=St w0 Φ_4 [(b_4,.cells #[v1] 123 (0,0)),(b_3,.cells #[u1,.slice none 0 0] 43 (0,0)),(b_2,.cells #[.slice none 0 0,.slice none 0 0] 43 (0,0)),(b_1,.cells #[pv0_0,pv0_1] 43 (0,0))] [(D1++((ob v2++[]))),ob v5,ob v4]) (fun w1 hw=>hw.merge (js:=[3,1]) rfl (SP.eq (by simp)))<|amm 1 [8,0] [0,1,2,3] rfl rfl ?_
  refine on1 9 (ms1 1 rfl nk I9 rfl h4.one ?_)
  refine WM.nil (by kernel_rfl)<|att 5 [] rfl ?_
  exact lb [0,0] [1,1,1] (ih1 (_,_,_,_,_) ⟨h,h4⟩)
 refine atr 6 [1,64] rfl<|lnr ph0_1 rfl<|art 3 [] rfl<|wtS<|wt0 ?_
 have k3:=OSl.nil aM 126 1 Φ_1
 refine lin (σ:=Hp × (List aC) × Value × List Nat × Int) (fun s=>[(2,pQ b_2),(3,pQ b_3),(32,pv0_1),(33,iV (p0.Rules.length:Int)),(34,iV s.2.2.2.2)]) (fun s=>St w0 s.1 [(b_3,.cells #[u1,s.2.2.1] 43 (0,0)),(b_2,.cells #[.slice none 0 0,.slice none 0 0] 43 (0,0))] [s.2.2.2.1,ob s.2.2.1,D1,ob u1]) (fun m s=>cR N p0 s1 m s.2.1 s.2.2.2.2=some r∧(OSl aF 123 1 s.1 D1 u1 s1)∧(OSl aM 126 1 s.1 s.2.2.2.1 s.2.2.1 s.2.1)) (Φ_1,([]:List aC),(.slice none 0 0),[],0) N ⟨h,k2,k3⟩ (sx [0,0,0,0] [0,0]) (fun n2 ih2 s hm=>?_)
 obtain ⟨Φ_5,s3,u2,D4,s4⟩:=s
 obtain ⟨h,k2,k4⟩:=hm
 dsimp only at h k2 k4 ⊢
 unfold cR at h
 refine att 5 [] rfl ?_
 refine ch h rfl ?_ ?_ <;> intro h
 ·refine atr 5 [] rfl ?_
  obtain ⟨x4,hx4,h⟩:=bs h
  obtain ⟨cs2,F3,-,g2,hb2,hs2,r2⟩:=ph0_1.el (a7 hx4).2.2
  obtain ⟨v6,G2,rfl,hq2,h5⟩:=r2
  obtain rfl:=hq2.symm
  refine lia ph0_1 hx4 rfl<|lhx 0 1 g2 rfl ?_
  refine ln (gT (C:=#[.slice none 0 0]) rb rfl) rfl (fun b_5=>?_)
  refine soN 0 wK rfl ⟨h5.one,trivial⟩ rfl ?_
  refine en<|sr ?_
  refine ln (gT (C:=#[.slice none 0 0]) rb rfl) rfl (fun b_6=>?_)
  refine arr 6 [0,32] rfl<|lnr h5 rfl<|art 3 [] rfl<|wtS<|wt0 ?_
  have k5:=OSl.nil aJ 130 1 Φ_5
  refine lin (σ:=Hp × (List ae) × Value × List Nat × Int) (fun s=>[(2,pQ b_2),(3,pQ b_3),(8,pQ b_6),(32,pv0_1),(33,iV (p0.Rules.length:Int)),(34,iV s4),(39,v6),(40,iV (x4.Levels.length:Int)),(41,iV s.2.2.2.2)]) (fun s=>St w0 s.1 [(b_6,.cells #[s.2.2.1] 126 (0,0)),(b_3,.cells #[u1,u2] 43 (0,0)),(b_2,.cells #[.slice none 0 0,.slice none 0 0] 43 (0,0))] [s.2.2.2.1,ob s.2.2.1,D4,ob u2,D1,ob u1]) (fun m s=>dB N s3 s4 (cR N p0 s1 n2) x4 m s.2.1 s.2.2.2.2=some r∧(OSl aF 123 1 s.1 D1 u1 s1)∧(OSl aM 126 1 s.1 D4 u2 s3)∧(OSl aJ 130 1 s.1 s.2.2.2.1 s.2.2.1 s.2.1)) (Φ_5,([]:List ae),(.slice none 0 0),[],0) N ⟨h,k2,k4,k5⟩ (sx [0,0,0,0,0,0] [0,1,1]) (fun n3 ih3 s hm=>?_)
  obtain ⟨Φ_6,s5,u3,D5,s6⟩:=s
  obtain ⟨h,k2,k4,k6⟩:=hm
  dsimp only at h k2 k4 k6 ⊢
  unfold dB at h
  refine att 5 [] rfl ?_
  refine ch h rfl ?_ ?_ <;> intro h
  ·refine atr 5 [] rfl ?_
   obtain ⟨x5,hx5,h⟩:=bs h
   obtain ⟨cs3,F4,-,g3,hb3,hs3,r3⟩:=h5.el (a7 hx5).2.2
   obtain ⟨v7,G3,rfl,hq3,h6⟩:=r3
   obtain rfl:=hq3.symm
   refine lia h5 hx5 rfl<|lhx 0 1 g3 rfl ?_
   refine ln (gT (C:=#[.slice none 0 0]) sP rfl) rfl (fun b_7=>?_)
   refine soN 0 CS rfl ⟨h6.one,trivial⟩ rfl ?_
   refine en<|sr ?_
   refine ln (gT (C:=#[.slice none 0 0]) sP rfl) rfl (fun b_8=>?_)
   refine arr 6 [0,32] rfl<|lnr h6 rfl<|art 3 [] rfl<|wtS<|wt0 ?_
   have k7:=OSl.nil aO 159 2 Φ_6
   refine lin (σ:=Hp × (List ak) × Value × List Nat × Int) (fun s=>[(2,pQ b_2),(3,pQ b_3),(8,pQ b_6),(11,pQ b_8),(32,pv0_1),(33,iV (p0.Rules.length:Int)),(34,iV s4),(39,v6),(40,iV (x4.Levels.length:Int)),(41,iV s6),(46,v7),(47,iV (x5.Toks.length:Int)),(48,iV s.2.2.2.2)]) (fun s=>St w0 s.1 [(b_8,.cells #[s.2.2.1] 130 (0,0)),(b_6,.cells #[u3] 126 (0,0)),(b_3,.cells #[u1,u2] 43 (0,0)),(b_2,.cells #[.slice none 0 0,.slice none 0 0] 43 (0,0))] [s.2.2.2.1,ob s.2.2.1,D5,ob u3,D4,ob u2,D1,ob u1]) (fun m s=>eT N s5 s6 (dB N s3 s4 (cR N p0 s1 n2) x4 n3) x5 m s.2.1 s.2.2.2.2=some r∧(OSl aF 123 1 s.1 D1 u1 s1)∧(OSl aM 126 1 s.1 D4 u2 s3)∧(OSl aJ 130 1 s.1 D5 u3 s5)∧(OSl aO 159 2 s.1 s.2.2.2.1 s.2.2.1 s.2.1)) (Φ_6,([]:List ak),(.slice none 0 0),[],0) N ⟨h,k2,k4,k6,k7⟩ (sx [0,0,0,0,0,0,0,0] [0,1,1,1]) (fun n4 ih4 s hm=>?_)
   obtain ⟨Φ_7,s7,u4,D6,s8⟩:=s
   obtain ⟨h,k2,k4,k6,k8⟩:=hm
   dsimp only at h k2 k4 k6 k8 ⊢
   unfold eT at h
   refine att 5 [] rfl ?_
   refine ch h rfl ?_ ?_ <;> intro h
   ·refine atr 5 [] rfl ?_
    obtain ⟨x6,hx6,h⟩:=bs h
    obtain ⟨cs4,F5,-,g4,hb4,hs4,r4⟩:=h6.el (a7 hx6).2.2
    obtain ⟨v8,G4,v9,G5,rfl,rfl,h7,h8⟩:=r4
    refine lia h6 hx6 rfl<|lhx 0 2 g4 rfl<|lnz iz rfl fun b_9=>soN 0 vc rfl ⟨h7.one,h8.one,trivial⟩ rfl ?_
    refine en<|wm [0,1,2,3,4] [12] rfl<|amm 6 [0,0,1,32,2,0,3,0,5,1,6,0] [0,1,2,3,4] rfl rfl ?_
    obtain ⟨x7,hx7,h⟩:=bs h
    refine WM.one 4 (by kernel_rfl) (mc rfl (fun _ v Φx D w1 hq hw=>Kn.of Kf.nil (am [0,1,2,3,4] rfl) hw) (aU (js:=[]) (R:=[D6,ob u4,D5,ob u3,D4,ob u2,D1,ob u1]) FJ rfl rfl (fun w1 hw ap hl=>iv N (ba hw.fro) x6.Ids (h7.y hw.up)  hx7)) rfl ?_)
    rintro v10 Φ_8 F6 ⟨ap3,fr4,v11,rfl,rfl,h9⟩
    replace k2:=k2.fr fr4 (ap3.q 7 rfl) (ap3.q 6 rfl)
    replace k4:=k4.fr fr4 (ap3.q 5 rfl) (ap3.q 4 rfl)
    replace k6:=k6.fr fr4 (ap3.q 3 rfl) (ap3.q 2 rfl)
    replace k8:=k8.fr fr4 (ap3.q 1 rfl) (ap3.q 0 rfl)
    obtain ⟨x8,hx8,h⟩:=bs h
    refine WM.one 7 (by kernel_rfl) (mc rfl (fun _ v Φx D w1 hq hw=>Kn.of Kf.nil (am [0,1,2,3,4] rfl) hw) (aU (js:=[]) (R:=[ob v10,D6,ob u4,D5,ob u3,D4,ob u2,D1,ob u1]) FJ rfl rfl (fun w1 hw ap hl=>iv N (ba hw.fro) x6.Hits (h8.y hw.up)  hx8)) rfl ?_)
    rintro v12 Φ_9 F7 ⟨ap4,fr5,v13,rfl,rfl,h10⟩
    replace k2:=k2.fr fr5 (ap4.q 8 rfl) (ap4.q 7 rfl)
    replace k4:=k4.fr fr5 (ap4.q 6 rfl) (ap4.q 5 rfl)
    replace k6:=k6.fr fr5 (ap4.q 4 rfl) (ap4.q 3 rfl)
    replace k8:=k8.fr fr5 (ap4.q 2 rfl) (ap4.q 1 rfl)
    replace h9:=h9.fr fr5 (ap4.q 0 rfl) dN
    refine mq 8 rfl (by kernel_rfl) (kN [0,1,2,3,4]) (cG (vs:=[(0,v10),(1,v12)]) (C:=#[v10,v12]) DY iz rfl (ag (C':=[v10,.slice none 0 0]) rfl (cJ h9.one) rfl rfl rfl (ag (C':=[v10,v12]) rfl (cJ h10.one) rfl rfl rfl (aq)))) rfl ?_
    have rc2:RC aO 2 Φ_9 ([(ob v10++[])++((ob v12++[]))]:List (List Nat)) [v10,v12] ([(⟨x7,x8⟩:ak)]:List ak):=RC.cons (c:=[v10,v12]) (cells:=[]) ⟨v10,v12,rfl,rfl,h9,h10⟩ rfl (RC.nil _ _ _)
    refine WM.one 9 (by kernel_rfl) (me rfl (fun _ v Φx D w1 hq hw=>Kn.of Kf.nil (am [0,1,2,3,4] rfl) hw) (ed (vs:=[(0,.agg [v10,v12].toArray)]) (C:=#[v10,v12]) aO.lasts dU iz rfl rfl rfl rfl (aV u6 (ag (C':=[v10,v12]) rfl rfl rfl rfl rfl (aq))) rfl rc2 rfl (RC.kn aO.knows rc2)) rfl ?_)
    rintro v14 Φ_10 D7 ⟨fr6,h11⟩
    replace h11:OSl aO 159 2 Φ_10 ((ob v10++[])++((ob v12++[]))) v14 ([(⟨x7,x8⟩:ak)]:List ak):=by simpa [List.append_assoc] using h11
    replace k2:=k2.f0 fr6
    replace k4:=k4.f0 fr6
    replace k6:=k6.f0 fr6
    replace k8:=k8.f0 fr6
    refine WM.conv (S':=St w0 Φ_10 [(b_9,.cells #[v8,v9] 159 (0,0)),(b_8,.cells #[u4] 130 (0,0)),(b_6,.cells #[u3] 126 (0,0)),(b_3,.cells #[u1,u2] 43 (0,0)),(b_2,.cells #[.slice none 0 0,.slice none 0 0] 43 (0,0))] [((ob v10++[])++((ob v12++[]))),ob v14,D6,ob u4,D5,ob u3,D4,ob u2,D1,ob u1]) (fun w1 hw=>hw.merge (js:=[2,1]) rfl (SP.eq (by simp [List.append_assoc,bm]))) ?_
    obtain ⟨x9,hx9,h⟩:=bs h
    refine WM.one 10 (by kernel_rfl) (me rfl (fun _ v Φx D w1 hq hw=>Kn.of Kf.nil (am [0,1,2,3,4] rfl) hw) (kj aO.lasts aO.one dU zN rfl rfl rfl rfl rfl (js:=[3]) (Rr:=[((ob v10++[])++((ob v12++[]))),ob v14,D6,D5,ob u3,D4,ob u2,D1,ob u1]) rfl k8 h11 (fun ap=>ap.q 2 rfl) (fun ap=>ap.q 0 rfl) hx9) rfl ?_)
    rintro v15 Φ_11 D8 ⟨⟨ap5,fr7⟩,h12⟩
    replace k2:=k2.fr fr7 (ap5.q 8 rfl) (ap5.q 7 rfl)
    replace k4:=k4.fr fr7 (ap5.q 6 rfl) (ap5.q 5 rfl)
    replace k6:=k6.fr fr7 (ap5.q 4 rfl) (ap5.q 3 rfl)
    refine WM.conv (S':=St w0 Φ_11 [(b_9,.cells #[v8,v9] 159 (0,0)),(b_8,.cells #[u4] 130 (0,0)),(b_6,.cells #[u3] 126 (0,0)),(b_3,.cells #[u1,u2] 43 (0,0)),(b_2,.cells #[.slice none 0 0,.slice none 0 0] 43 (0,0))] [(D6++((ob v10++[])++((ob v12++[])))),ob v15,ob v14,D5,ob u3,D4,ob u2,D1,ob u1]) (fun w1 hw=>hw.merge (js:=[3,1]) rfl (SP.eq (by simp)))<|amm 1 [11,0] [0,1,2,3,4] rfl rfl ?_
    refine on1 12 (ms1 1 rfl nk Ef rfl h12.one ?_)
    refine WM.nil (by kernel_rfl)<|att 5 [] rfl ?_
    exact lb [0,0,1,1,1,1,1,1] [1,1,1,1] (ih4 (_,_,_,_,_) ⟨h,k2,k4,k6,h12⟩)
   refine atr 4 [0,32] rfl<|lq (aw yT rfl (fun w1 hw=>hw.rgO (i:=0) rfl 0 1 [u4] rfl) rfl) rfl ?_
   have rc3:RC aJ 1 Φ_7 ([(ob u4++D6)]:List (List Nat)) [u4] ([(⟨s7⟩:ae)]:List ae):=RC.cons (c:=[u4]) (cells:=[]) ⟨u4,D6,rfl,rfl,k8⟩ rfl (RC.nil _ _ _)
   refine le' (ed (vs:=[(0,.agg [u4].toArray)]) (C:=#[u4]) aJ.lasts lW sP rfl rfl rfl rfl (aV Ez (ag (C':=[u4]) rfl rfl rfl rfl rfl (aq))) rfl rc3 rfl (RC.kn aJ.knows rc3)) rfl ?_
   rintro v16 Φ_12 D9 ⟨fr8,h13⟩
   replace h13:OSl aJ 130 1 Φ_12 ((ob u4++D6)) v16 ([(⟨s7⟩:ae)]:List ae):=by simpa [List.append_assoc] using h13
   replace k2:=k2.f0 fr8
   replace k4:=k4.f0 fr8
   replace k6:=k6.f0 fr8
   refine wlL [((ob u4++D6)),ob v16,D5,ob u3,D4,ob u2,D1,ob u1] (smg [2,1] rfl (SP.eq (by simp [List.append_assoc,bm]))) ?_
   obtain ⟨x10,hx10,h⟩:=bs h
   refine le' (kj aJ.lasts aJ.one lW Ig rfl rfl rfl rfl rfl (js:=[3]) (Rr:=[((ob u4++D6)),ob v16,D5,D4,ob u2,D1,ob u1]) rfl k6 h13 (fun ap=>ap.q 2 rfl) (fun ap=>ap.q 0 rfl) hx10) rfl ?_
   rintro v17 Φ_13 D10 ⟨⟨ap6,fr9⟩,h14⟩
   replace k2:=k2.fr fr9 (ap6.q 6 rfl) (ap6.q 5 rfl)
   replace k4:=k4.fr fr9 (ap6.q 4 rfl) (ap6.q 3 rfl)
   refine wlL [(D5++((ob u4++D6))),ob v17,ob v16,D4,ob u2,D1,ob u1] (smg [3,1] rfl (SP.eq (by simp)))<|lf gq rfl rfl rfl<|so1 1 Fv rfl h14.one ?_
   refine art 6 [] rfl ?_
   exact lb [0,0,1,1,1,1] [1,1,1] (ih3 (_,_,_,_,_) ⟨h,k2,k4,h14⟩)
  refine atr 4 [1,32] rfl<|lq (aw wA rfl (fun w1 hw=>hw.rgO (i:=0) rfl 0 1 [u3] rfl) rfl) rfl ?_
  have rc4:RC aM 1 Φ_6 ([(ob u3++D5)]:List (List Nat)) [u3] ([(⟨s5⟩:aC)]:List aC):=RC.cons (c:=[u3]) (cells:=[]) ⟨u3,D5,rfl,rfl,k6⟩ rfl (RC.nil _ _ _)
  refine le' (ed (vs:=[(0,.agg [u3].toArray)]) (C:=#[u3]) aM.lasts xd rb rfl rfl rfl rfl (aV Eu (ag (C':=[u3]) rfl rfl rfl rfl rfl (aq))) rfl rc4 rfl (RC.kn aM.knows rc4)) rfl ?_
  rintro v18 Φ_14 D11 ⟨fr10,h15⟩
  replace h15:OSl aM 126 1 Φ_14 ((ob u3++D5)) v18 ([(⟨s5⟩:aC)]:List aC):=by simpa [List.append_assoc] using h15
  replace k2:=k2.f0 fr10
  replace k4:=k4.f0 fr10
  refine wlL [((ob u3++D5)),ob v18,D4,ob u2,D1,ob u1] (smg [2,1] rfl (SP.eq (by simp [List.append_assoc,bm]))) ?_
  obtain ⟨x11,hx11,h⟩:=bs h
  refine le' (kj aM.lasts aM.one xd HY rfl rfl rfl rfl rfl (js:=[3]) (Rr:=[((ob u3++D5)),ob v18,D4,D1,ob u1]) rfl k4 h15 (fun ap=>ap.q 2 rfl) (fun ap=>ap.q 0 rfl) hx11) rfl ?_
  rintro v19 Φ_15 D12 ⟨⟨ap7,fr11⟩,h16⟩
  replace k2:=k2.fr fr11 (ap7.q 4 rfl) (ap7.q 3 rfl)
  refine wlL [(D4++((ob u3++D5))),ob v19,ob v18,D1,ob u1] (smg [3,1] rfl (SP.eq (by simp)))<|lf vY rfl rfl rfl<|so1 1 Iv rfl h16.one ?_
  refine art 6 [] rfl ?_
  exact lb [0,0,1,1] [1,1] (ih2 (_,_,_,_,_) ⟨h,k2,h16⟩)
 refine atr 4 [2] rfl<|soN 1 kg rfl ⟨k2.one,k4.one,trivial⟩ rfl ?_
 refine en ?_
 exact rtg [3,2,1,0] hF (ao.one (bB Cb rfl (fun w1 hw=>hw.rgO (i:=1) rfl 0 2 [u1,u2] rfl) rfl)) rfl (by cases h; exact fun w1 hw=>⟨u1,D1,u2,D4,rfl,rfl,k2,k4⟩)
theorem cm  (w0:ab Ψ Φ []) (p0:Int) (p1:Int) (p2:Int)  {r:Bool} (h:cl N p0 p1 p2=some r) :
  CB w0 prog 132 [iV p0,iV p1,iV p2] (.bool r):=by
 refine eN func132 rfl ntmps132 rfl w0 fun hF=>?_
 unfold cl at h
 refine atr 10 [] rfl ?_
 obtain ⟨b1,hb_1,h⟩:=bs h
 refine WL.cutN 4 [(14,.bool b1),(6,.bool false)] ?_ (fun K=>?_)
 rotate_left
 ·refine sp 10 hb_1 rfl (fun hb_1=>?_) fun hb_1=>?_
  ·refine arr 4 [] rfl ?_
   cases hb_1
   exact ku K
  ·refine arr 4 [] rfl ?_
   cases hb_1
   exact ku K
 refine la rfl<|en ?_
 exact rt hF h
theorem tV  (w0:ab Ψ Φ []) (p0:Int)  {r:Bool} (h:jJ N p0=some r) :
  CB w0 prog 205 [.int .u8 p0] (.bool r):=by
 refine eN func205 rfl ntmps205 rfl w0 fun hF=>?_
 unfold jJ at h
 refine atr 9 [] rfl ?_
 obtain ⟨b1,hb_1,h⟩:=bs h
 refine WL.cutN 3 [(8,.bool b1),(2,.bool false)] ?_ (fun K=>?_)
 rotate_left
 ·refine sp 5 hb_1 rfl (fun hb_1=>?_) fun hb_1=>?_
  ·refine arr 3 [] rfl ?_
   cases hb_1
   exact ku K
  ·refine arr 3 [] rfl ?_
   cases hb_1
   exact ku K
 refine la rfl<|en ?_
 exact rt hF h
theorem zW  (w0:ab Ψ Φ []) (p0:Int)  {r:Bool} (h:rB N p0=some r) :
  CB w0 prog 243 [.int .u8 p0] (.bool r):=by
 refine eN func243 rfl ntmps243 rfl w0 fun hF=>?_
 unfold rB at h
 refine atr 9 [] rfl ?_
 obtain ⟨b1,hb_1,h⟩:=bs h
 refine WL.cutN 3 [(8,.bool b1),(2,.bool false)] ?_ (fun K=>?_)
 rotate_left
 ·refine sp 5 hb_1 rfl (fun hb_1=>?_) fun hb_1=>?_
  ·refine arr 3 [] rfl ?_
   cases hb_1
   exact ku K
  ·refine arr 3 [] rfl ?_
   cases hb_1
   exact ku K
 refine la rfl<|en ?_
 exact rt hF h
theorem rp  (w0:ab Ψ Φ []) (p0:Int)  {r:Bool} (h:i9 N p0=some r) :
  CB w0 prog 232 [.int .u8 p0] (.bool r):=by
 refine eN func232 rfl ntmps232 rfl w0 fun hF=>?_
 unfold i9 at h
 refine atr 7 [] rfl<|qc h (tV N · p0 ·) rfl rfl rfl fun x1 h=>la rfl ?_
 obtain ⟨b1,hb_1,h⟩:=bs h
 refine WL.cutN 3 [(8,.bool b1),(0,.int .u8 p0),(2,.bool false)] ?_ (fun K=>?_)
 rotate_left
 ·refine sp 5 hb_1 rfl (fun hb_1=>?_) fun hb_1=>?_
  ·refine arr 3 [] rfl ?_
   cases hb_1
   exact ku K
  ·refine ly rfl rfl<|la rfl<|ly rfl rfl<|qc hb_1 (zW N · p0 ·) rfl rfl rfl fun x2 hb_1=>la rfl ?_
   cases hb_1
   exact ku K
 refine la rfl ?_
 obtain ⟨b2,hb_2,h⟩:=bs h
 refine WL.cutN 3 [(12,.bool b2),(2,.bool false)] ?_ (fun K=>?_)
 rotate_left
 ·refine sp 9 hb_2 rfl (fun hb_2=>?_) fun hb_2=>?_
  ·refine arr 3 [] rfl ?_
   cases hb_2
   exact ku K
  ·refine arr 3 [] rfl ?_
   cases hb_2
   exact ku K
 refine la rfl<|en ?_
 exact rt hF h
theorem uv  (w0:ab Ψ Φ []) (p0:ByteArray) (p1:Int)  {r:Bool} (h:mU N p0 p1=some r) :
  CB w0 prog 206 [.string p0,iV p1] (.bool r):=by
 refine eN func206 rfl ntmps206 rfl w0 fun hF=>?_
 unfold mU at h
 refine atr 8 [] rfl<|lq (gj fw rfl rfl) rfl<|art 3 [] rfl ?_
 refine ch h rfl ?_ ?_ <;> intro h
 ·refine att 4 [] rfl ?_
  exact rt hF h
 refine att 7 [] rfl ?_
 refine lin (σ:=Int) (fun s=>[(0,.string p0),(5,iV s)]) (fun s=>St w0 Φ [] []) (fun m s=>eB N p0 m s=some r) (0) N h (sx [] []) (fun n1 ih1 s hm=>?_)
 revert hm; revert s; intro s1 hm
 have h:eB N p0 (n1+1) s1=some r:=hm
 show WT _ _ [(0,.string p0),(5,iV s1)] (St w0 Φ [] [])
 unfold eB at h
 refine atr 5 [] rfl<|lq (gj fw rfl rfl) rfl<|la rfl<|en ?_
 refine ch h rfl ?_ ?_ <;> intro h
 ·refine atr 7 [] rfl ?_
  obtain ⟨y1,hy1,h⟩:=bs h
  refine lq (kx fw rfl rfl hy1) rfl<|qc h (rp N · (y1.toNat:Int) ·) rfl rfl rfl fun x1 h=>la rfl<|en ?_
  refine ch h rfl ?_ ?_ <;> intro h
  ·refine att 4 [] rfl ?_
   exact rt hF h
  refine att 7 [] rfl ?_
  exact lb [] [] (ih1 _ h)
 refine att 5 [] rfl ?_
 exact rt hF h
theorem jf  (w0:ab Ψ Φ []) (p0:ByteArray)  {r:Bool} (h:fZ N p0=some r) :
  CB w0 prog 173 [.string p0] (.bool r):=by
 refine eN func173 rfl ntmps173 rfl w0 fun hF=>?_
 unfold fZ at h
 refine atr 7 [] rfl<|lq (gj fw rfl rfl) rfl<|arr 2 [] rfl ?_
 obtain ⟨b1,hb_1,h⟩:=bs h
 refine WL.cutN 4 [(10,.bool b1),(0,.string p0),(2,.bool false)] ?_ (fun K=>?_)
 rotate_left
 ·refine sp 6 hb_1 rfl (fun hb_1=>?_) fun hb_1=>?_
  ·refine ly rfl rfl<|la rfl<|ly rfl rfl ?_
   obtain ⟨y1,hy1,hb_1⟩:=bs hb_1
   refine lq (kx fw rfl rfl hy1) rfl<|ly rfl rfl<|qc hb_1 (tV N · (y1.toNat:Int) ·) rfl rfl rfl fun x1 hb_1=>la rfl ?_
   cases hb_1
   exact ku K
  ·refine arr 4 [] rfl ?_
   cases hb_1
   exact ku K
 refine la rfl ?_
 obtain ⟨b2,hb_2,h⟩:=bs h
 refine WL.cutN 3 [(14,.bool b2),(2,.bool false)] ?_ (fun K=>?_)
 rotate_left
 ·refine sp 11 hb_2 rfl (fun hb_2=>?_) fun hb_2=>?_
  ·refine ly rfl rfl<|la rfl<|ly rfl rfl<|qc hb_2 (uv N · p0 12 ·) rfl rfl rfl fun x2 hb_2=>la rfl ?_
   cases hb_2
   exact ku K
  ·refine arr 3 [] rfl ?_
   cases hb_2
   exact ku K
 refine la rfl<|en ?_
 exact rt hF h
theorem oJ (w0:ab Ψ Φ []) (p0:af) (ph0_0:RSl bR 3 Ψ pG0_0 pv0_0 p0.Pats) (ph0_1:RSl aZ 11 Ψ pG0_1 pv0_1 p0.Conds) (ph0_2:RSl dZ 5 Ψ pG0_2 pv0_2 p0.Acts) {r:Int} (h:iq N p0=some r) :
  CB w0 prog 210 [.agg [.string p0.Name,iV p0.Sal,pv0_0,pv0_1,pv0_2].toArray] (iV r):=by
 refine eN func210 rfl ntmps210 rfl w0 fun hF=>?_
 unfold iq at h
 refine sr<|lbx rfl fun b_1=>arr 11 [2,0] rfl<|lnr ph0_0 rfl<|art 3 [] rfl ?_
 refine lin (σ:=Int × Int) (fun s=>[(3,iV s.1),(7,pv0_0),(8,iV (p0.Pats.length:Int)),(9,iV s.2)]) (fun s=>St w0 Φ [] []) (fun m s=>cU N p0 m s.1 s.2=some r) (0,0) N h (sx [] []) (fun n1 ih1 s hm=>?_)
 obtain ⟨s1,s2⟩:=s
 have h:cU N p0 (n1+1) s1 s2=some r:=hm
 show WT _ _ [(3,iV s1),(7,pv0_0),(8,iV (p0.Pats.length:Int)),(9,iV s2)] (St w0 Φ [] [])
 unfold cU at h
 refine att 5 [] rfl ?_
 refine ch h rfl ?_ ?_ <;> intro h
 ·refine atr 5 [] rfl ?_
  obtain ⟨x1,hx1,h⟩:=bs h
  obtain ⟨cs1,F1,-,g1,hb1,hs1,r1⟩:=ph0_0.el (a7 hx1).2.2
  obtain ⟨v1,G1,rfl,hq1,h1⟩:=r1
  obtain rfl:=hq1.symm
  refine lia ph0_0 hx1 rfl<|lhx 0 3 g1 rfl<|lnz pP rfl fun b_2=>soN 0 sX rfl ⟨rfl,h1.one,rfl,trivial⟩ rfl ?_
  refine art 7 [2,0] rfl ?_
  refine ch h rfl ?_ ?_ <;> intro h
  ·refine att 10 [] rfl ?_
   exact lb [] [] (ih1 (_,_) h)
  refine att 6 [] rfl ?_
  exact lb [] [] (ih1 (_,_) h)
 refine att 6 [] rfl ?_
 exact rt hF h
theorem vr  (w0:ab Ψ Φ []) (p0:aE)  {r:Bool} (h:lh N p0=some r) :
  CB w0 prog 179 [.agg [iV p0.K,iV p0.N,.string p0.S].toArray] (.bool r):=by
 refine eN func179 rfl ntmps179 rfl w0 fun hF=>?_
 unfold lh at h
 refine sr<|lbx rfl fun b_1=>art 14 [0,0] rfl ?_
 refine ch h rfl ?_ ?_ <;> intro h
 ·refine atr 4 [1,0] rfl<|qc h (cm N · p0.N (-1000000000) 1000000000 ·) rfl rfl rfl fun x1 h=>la rfl ?_
  obtain ⟨b1,hb_1,h⟩:=bs h
  refine WL.cutN 4 [(14,.bool b1),(2,.bool false)] ?_ (fun K=>?_)
  rotate_left
  ·refine sp 10 hb_1 rfl (fun hb_1=>?_) fun hb_1=>?_
   ·refine arr 4 [2,0] rfl ?_
    cases hb_1
    exact ku K
   ·refine arr 4 [] rfl ?_
    cases hb_1
    exact ku K
  refine la rfl<|en ?_
  exact rt hF h
 refine att 5 [] rfl ?_
 refine ch h rfl ?_ ?_ <;> intro h
 ·refine atr 6 [1,0] rfl ?_
  obtain ⟨b2,hb_2,h⟩:=bs h
  refine WL.cutN 4 [(24,.bool b2),(2,.bool false)] ?_ (fun K=>?_)
  rotate_left
  ·refine sp 20 hb_2 rfl (fun hb_2=>?_) fun hb_2=>?_
   ·refine arr 2 [2,0] rfl<|ly rfl rfl<|qc hb_2 (uv N · p0.S 20 ·) rfl rfl rfl fun x2 hb_2=>la rfl ?_
    cases hb_2
    exact ku K
   ·refine arr 4 [] rfl ?_
    cases hb_2
    exact ku K
  refine la rfl<|en ?_
  exact rt hF h
 refine att 6 [] rfl ?_
 exact rt hF h
theorem tE  (w0:ab Ψ Φ []) (p0:Int)  {r:Bool} (h:lL N p0=some r) :
  CB w0 prog 252 [.int .u8 p0] (.bool r):=by
 refine eN func252 rfl ntmps252 rfl w0 fun hF=>?_
 unfold lL at h
 refine atr 9 [] rfl ?_
 obtain ⟨b1,hb_1,h⟩:=bs h
 refine WL.cutN 3 [(8,.bool b1),(2,.bool false)] ?_ (fun K=>?_)
 rotate_left
 ·refine sp 5 hb_1 rfl (fun hb_1=>?_) fun hb_1=>?_
  ·refine arr 3 [] rfl ?_
   cases hb_1
   exact ku K
  ·refine arr 3 [] rfl ?_
   cases hb_1
   exact ku K
 refine la rfl<|en ?_
 exact rt hF h
end Go.Proofs.YtkdffjpgnhobhaaGreat
