/- Printed by a program of ours: each Go function computes its Lean function. -/
import Derived.Test.YtkdffjpgnhobhaaGreatProg
import Derived.Test.YtkdffjpgnhobhaaGreatWExactDropItemWalk7
import Derived.Test.YtkdffjpgnhobhaaGreatEV
namespace Go.Proofs.YtkdffjpgnhobhaaGreat
open Eng Tryz
open Go.RowKit (Below)
set_option linter.unusedVariables false
set_option linter.unusedSimpArgs false

set_option maxRecDepth 100000
set_option maxHeartbeats 8000000
variable {Ψ Φ:Hp} {pv0 pv0_0 pv0_1 pv1_0 pv1_1 pv2_0 pv2_1 pv3_0:Value} {pD0 pD0_0 pD0_1 pG0 pG0_0 pG0_1 pG1_0 pG1_1 pG2_0 pG2_1 pG3_0:List Nat} (N:Nat)
theorem vN (w0:ab Ψ Φ [ob pv0,pD0].flatten) (p0:(List a8)) (p1:Int) (ph0:OSl aK 148 4 Φ pD0 pv0 p0) {r:Int × (List a8)} (h:lU N p0 p1=some r) :
  Calls prog 48 [pv0,iV p1].toArray w0.w (aL Φ w0.w [ob pv0,pD0].flatten (fun Φ' Fs v=>∃ (Do_0_0:List Nat),v=iV r.1∧Fs=[ob pv0,Do_0_0]∧OSl aK 148 4 Φ' Do_0_0 pv0 r.2)):=by
 refine eL func48 rfl ntmps48 rfl (L:=[ob pv0,pD0]) w0 (fun hF=>?_)
 unfold lU at h
 refine att 10 [] rfl ?_
 refine lin (σ:=Hp × (List a8) × List Nat × Int × Int) (fun s=>[(0,pv0),(1,iV s.2.2.2.1),(5,iV s.2.2.2.2)]) (fun s=>St w0 s.1 [] [ob pv0,s.2.2.1]) (fun m s=>dA N m s.2.1 s.2.2.2.1 s.2.2.2.2=some r∧(OSl aK 148 4 s.1 s.2.2.1 pv0 s.2.1)) (Φ,p0,pD0,p1,0) N ⟨h,ph0⟩ (sx [0,0] []) (fun n1 ih1 s hm=>?_)
 obtain ⟨Φ_1,s1,D1,s2,s3⟩:=s
 obtain ⟨h,k1⟩:=hm
 dsimp only at h k1 ⊢
 unfold dA at h
 refine atr 5 [] rfl<|lno k1 rfl<|la rfl<|en ?_
 refine ch h rfl ?_ ?_ <;> intro h
 ·refine atr 8 [] rfl<|qc h (bc N · s2 ·) rfl rfl rfl fun x1 h=>?_
  obtain ⟨x2,hx2,h⟩:=bs h
  obtain ⟨cs1,F1,D2,h1,r1,kf1,sp1⟩:=k1.focus hx2
  obtain ⟨v1,v2,rfl,rfl,h2,h3⟩:=r1
  refine wlL [ob v1,ob v2,D2,ob pv0] (sre [1] [ob v1,ob v2,D2] rfl (by simpa [List.append_assoc] using sp1))<|lih h1 hx2 rfl<|lf H9 rfl rfl rfl<|lu (us [3] [ob v1,ob v2,D2] 0 aK.lasts mT rfl rfl rfl rfl h1 rfl (fun ap=>ap.q 2 rfl)) rfl ?_
  rintro Φ_2 D3 ⟨⟨ap1,fr1⟩,h4⟩
  replace h2:=h2.fr fr1 (ap1.q 0 rfl) dN
  replace h3:=h3.fr fr1 (ap1.q 1 rfl) dN
  refine arr 12 [] rfl<|lih h4 hx2 rfl<|lf Hl rfl rfl rfl<|lu (us [0] [ob v1,ob v2,D2] 1 aK.lasts iE rfl rfl rfl rfl h4 rfl (fun ap=>ap.q 2 rfl)) rfl ?_
  rintro Φ_3 D4 ⟨⟨ap2,fr2⟩,h5⟩
  replace h2:=h2.fr fr2 (ap2.q 0 rfl) dN
  replace h3:=h3.fr fr2 (ap2.q 1 rfl) dN
  refine arr 11 [] rfl<|lih h5 hx2 rfl<|lf wg rfl rfl rfl<|lgx 2 0 h5.rg rfl<|la rfl<|kcb [1] h rfl rfl rfl rfl (fun b ap z q=>te N b x2.Consts (wz ((wz (s2+1))+1)) h2 q) ?_
  rintro x3 h v3 Φ_4 F2 ⟨ap3,fr3,rfl,rfl,h6⟩
  replace h5:=h5.fr fr3 (ap3.q 0 rfl) (ap3.q 2 rfl)
  replace h3:=h3.fr fr3 (ap3.q 1 rfl) dN
  refine arr 5 [] rfl<|lih h5 hx2 rfl<|lf ub rfl rfl rfl<|lgx 3 0 h5.rg rfl<|la rfl<|kcb [2] h rfl rfl rfl rfl (fun b ap z q=>gy N b x2.At x3.1 h3 q) ?_
  rintro x4 h v4 Φ_5 F3 ⟨ap4,fr4,rfl,rfl,h7⟩
  replace h5:=h5.fr fr4 (ap4.q 1 rfl) (ap4.q 2 rfl)
  replace h6:=h6.fr fr4 (ap4.q 0 rfl) dN
  refine art 8 [] rfl ?_
  have r2:aK Φ_5 _ [.string x1,iV (wz (s2+1)),v1,v2] (⟨x1,wz (s2+1),x3.2,x4.2⟩:a8):=⟨v1,v2,rfl,rfl,h6,h7⟩
  obtain ⟨D5,h8,sp2⟩:=h5.unfocus r2 (aK.knows _ _ _ _ r2)
  refine wtL [D5,ob pv0] (smg [1,0,1] rfl (by simpa [List.append_assoc,bm] using sp2)) ?_
  exact lb [1,0] [] (ih1 (_,_,_,_,_) ⟨h,h8⟩)
 refine att 6 [] rfl ?_
 exact rtg [0,0] hF (ao.one rfl) rfl (by cases h; exact fun w1 hw=>⟨D1,rfl,rfl,k1⟩)
theorem w7 (w0:ab Ψ Φ [ob pv0,pD0].flatten) (p0:(List ac)) (p1:Int) (ph0:OSl aD 150 2 Φ pD0 pv0 p0) {r:Int × (List ac)} (h:mO N p0 p1=some r) :
  Calls prog 49 [pv0,iV p1].toArray w0.w (aL Φ w0.w [ob pv0,pD0].flatten (fun Φ' Fs v=>∃ (Do_0_0:List Nat),v=iV r.1∧Fs=[ob pv0,Do_0_0]∧OSl aD 150 2 Φ' Do_0_0 pv0 r.2)):=by
 refine eL func49 rfl ntmps49 rfl (L:=[ob pv0,pD0]) w0 (fun hF=>?_)
 unfold mO at h
 refine att 10 [] rfl ?_
 refine lin (σ:=Hp × (List ac) × List Nat × Int × Int) (fun s=>[(0,pv0),(1,iV s.2.2.2.1),(5,iV s.2.2.2.2)]) (fun s=>St w0 s.1 [] [ob pv0,s.2.2.1]) (fun m s=>df N m s.2.1 s.2.2.2.1 s.2.2.2.2=some r∧(OSl aD 150 2 s.1 s.2.2.1 pv0 s.2.1)) (Φ,p0,pD0,p1,0) N ⟨h,ph0⟩ (sx [0,0] []) (fun n1 ih1 s hm=>?_)
 obtain ⟨Φ_1,s1,D1,s2,s3⟩:=s
 obtain ⟨h,k1⟩:=hm
 dsimp only at h k1 ⊢
 unfold df at h
 refine atr 5 [] rfl<|lno k1 rfl<|la rfl<|en ?_
 refine ch h rfl ?_ ?_ <;> intro h
 ·refine atr 7 [] rfl ?_
  obtain ⟨x1,hx1,h⟩:=bs h
  obtain ⟨cs1,F1,D2,h1,r1,kf1,sp1⟩:=k1.focus hx1
  obtain ⟨v1,v2,rfl,rfl,h2,h3⟩:=r1
  refine wlL [ob v1,ob v2,D2,ob pv0] (sre [1] [ob v1,ob v2,D2] rfl (by simpa [List.append_assoc] using sp1))<|lih h1 hx1 rfl<|lf nt rfl rfl rfl<|lgx 0 0 h1.rg rfl<|la rfl<|kcb [0] h rfl rfl rfl rfl (fun b ap z q=>gy N b x1.Pos s2 h2 q) ?_
  rintro x2 h v3 Φ_2 F2 ⟨ap1,fr1,rfl,rfl,h4⟩
  replace h1:=h1.fr fr1 (ap1.q 2 rfl) (ap1.q 1 rfl)
  replace h3:=h3.fr fr1 (ap1.q 0 rfl) dN
  refine arr 5 [] rfl<|lih h1 hx1 rfl<|lf nq rfl rfl rfl<|lgx 1 0 h1.rg rfl<|la rfl<|kcb [1] h rfl rfl rfl rfl (fun b ap z q=>gy N b x1.Neg x2.1 h3 q) ?_
  rintro x3 h v4 Φ_3 F3 ⟨ap2,fr2,rfl,rfl,h5⟩
  replace h1:=h1.fr fr2 (ap2.q 2 rfl) (ap2.q 1 rfl)
  replace h4:=h4.fr fr2 (ap2.q 0 rfl) dN
  refine art 8 [] rfl ?_
  have r2:aD Φ_3 _ [v1,v2] (⟨x2.2,x3.2⟩:ac):=⟨v1,v2,rfl,rfl,h4,h5⟩
  obtain ⟨D3,h6,sp2⟩:=h1.unfocus r2 (aD.knows _ _ _ _ r2)
  refine wtL [D3,ob pv0] (smg [1,0,0] rfl (by simpa [List.append_assoc,bm] using sp2)) ?_
  exact lb [1,0] [] (ih1 (_,_,_,_,_) ⟨h,h6⟩)
 refine att 6 [] rfl ?_
 exact rtg [0,0] hF (ao.one rfl) rfl (by cases h; exact fun w1 hw=>⟨D1,rfl,rfl,k1⟩)
theorem yz (w0:ab Ψ Φ [ob pv0_0,pD0_0,ob pv0_1,pD0_1].flatten) (p0:bd) (p1:Int) (ph0_0:OSl aK 148 4 Φ pD0_0 pv0_0 p0.Alphas) (ph0_1:OSl aD 150 2 Φ pD0_1 pv0_1 p0.Chains) {r:Int × (List a8) × (List ac)} (h:nW N p0 p1=some r) :
  Calls prog 19 [.agg [pv0_0,pv0_1].toArray,iV p1].toArray w0.w (aL Φ w0.w [ob pv0_0,pD0_0,ob pv0_1,pD0_1].flatten (fun Φ' Fs v=>∃ (Do_0_0:List Nat) (Do_1_0:List Nat),v=iV r.1∧Fs=[ob pv0_0,Do_0_0,ob pv0_1,Do_1_0]∧OSl aK 148 4 Φ' Do_0_0 pv0_0 r.2.1∧OSl aD 150 2 Φ' Do_1_0 pv0_1 r.2.2)):=by
 refine eL func19 rfl ntmps19 rfl (L:=[ob pv0_0,pD0_0,ob pv0_1,pD0_1]) w0 (fun hF=>?_)
 unfold nW at h
 refine sr<|lbx rfl fun b_1=>arr 7 [0,0] rfl<|kcb [0,0] h rfl rfl rfl rfl (fun b ap z q=>vN N b p0.Alphas p1 ph0_0 q) ?_
 rintro x1 h v1 Φ_1 F1 ⟨ap1,fr1,D1,rfl,rfl,h1⟩
 replace ph0_1:=ph0_1.fr fr1 (ap1.q 0 rfl) (ap1.q 1 rfl)
 refine arr 7 [1,0] rfl<|kcb [2,2] h rfl rfl rfl rfl (fun b ap z q=>w7 N b p0.Chains x1.1 ph0_1 q) ?_
 rintro x2 h v2 Φ_2 F2 ⟨ap2,fr2,D2,rfl,rfl,h2⟩
 replace h1:=h1.fr fr2 (ap2.q 0 rfl) (ap2.q 1 rfl)
 refine art 7 [] rfl ?_
 exact rtg [2,2,0,0] hF (ao.one rfl) rfl (by cases h; exact fun w1 hw=>⟨D1,D2,rfl,rfl,h1,h2⟩)
theorem xW (w0:ab Ψ Φ [ob pv0,pD0].flatten) (p0:(List aP)) (p1:Int) (ph0:OSl aF 123 1 Φ pD0 pv0 p0) {r:Int × (List aP)} (h:p8 N p0 p1=some r) :
  Calls prog 50 [pv0,iV p1].toArray w0.w (aL Φ w0.w [ob pv0,pD0].flatten (fun Φ' Fs v=>∃ (Do_0_0:List Nat),v=iV r.1∧Fs=[ob pv0,Do_0_0]∧OSl aF 123 1 Φ' Do_0_0 pv0 r.2)):=by
 refine eL func50 rfl ntmps50 rfl (L:=[ob pv0,pD0]) w0 (fun hF=>?_)
 unfold p8 at h
 refine att 10 [] rfl ?_
 refine lin (σ:=Hp × (List aP) × List Nat × Int × Int) (fun s=>[(0,pv0),(1,iV s.2.2.2.1),(5,iV s.2.2.2.2)]) (fun s=>St w0 s.1 [] [ob pv0,s.2.2.1]) (fun m s=>fk N m s.2.1 s.2.2.2.1 s.2.2.2.2=some r∧(OSl aF 123 1 s.1 s.2.2.1 pv0 s.2.1)) (Φ,p0,pD0,p1,0) N ⟨h,ph0⟩ (sx [0,0] []) (fun n1 ih1 s hm=>?_)
 obtain ⟨Φ_1,s1,D1,s2,s3⟩:=s
 obtain ⟨h,k1⟩:=hm
 dsimp only at h k1 ⊢
 unfold fk at h
 refine atr 5 [] rfl<|lno k1 rfl<|la rfl<|en ?_
 refine ch h rfl ?_ ?_ <;> intro h
 ·refine atr 6 [] rfl ?_
  obtain ⟨x1,hx1,h⟩:=bs h
  obtain ⟨cs1,F1,D2,h1,r1,kf1,sp1⟩:=k1.focus hx1
  obtain ⟨v1,rfl,rfl,h2⟩:=r1
  refine wlL [ob v1,D2,ob pv0] (sre [1] [ob v1,D2] rfl (by simpa [List.append_assoc] using sp1))<|lih h1 hx1 rfl<|lf jV rfl rfl rfl<|lgx 0 0 h1.rg rfl<|la rfl<|kcb [0] h rfl rfl rfl rfl (fun b ap z q=>gy N b x1.L s2 h2 q) ?_
  rintro x2 h v2 Φ_2 F2 ⟨ap1,fr1,rfl,rfl,h3⟩
  replace h1:=h1.fr fr1 (ap1.q 1 rfl) (ap1.q 0 rfl)
  refine art 8 [] rfl ?_
  have r2:aF Φ_2 _ [v1] (⟨x2.2⟩:aP):=⟨v1,rfl,rfl,h3⟩
  obtain ⟨D3,h4,sp2⟩:=h1.unfocus r2 (aF.knows _ _ _ _ r2)
  refine wtL [D3,ob pv0] (smg [0,0] rfl (by simpa [List.append_assoc,bm] using sp2)) ?_
  exact lb [1,0] [] (ih1 (_,_,_,_,_) ⟨h,h4⟩)
 refine att 6 [] rfl ?_
 exact rtg [0,0] hF (ao.one rfl) rfl (by cases h; exact fun w1 hw=>⟨D1,rfl,rfl,k1⟩)
theorem xG (w0:ab Ψ Φ [ob pv0,pD0].flatten) (p0:(List ak)) (p1:Int) (ph0:OSl aO 159 2 Φ pD0 pv0 p0) {r:Int × (List ak)} (h:pi N p0 p1=some r) :
  Calls prog 151 [pv0,iV p1].toArray w0.w (aL Φ w0.w [ob pv0,pD0].flatten (fun Φ' Fs v=>∃ (Do_0_0:List Nat),v=iV r.1∧Fs=[ob pv0,Do_0_0]∧OSl aO 159 2 Φ' Do_0_0 pv0 r.2)):=by
 refine eL func151 rfl ntmps151 rfl (L:=[ob pv0,pD0]) w0 (fun hF=>?_)
 unfold pi at h
 refine att 10 [] rfl ?_
 refine lin (σ:=Hp × (List ak) × List Nat × Int × Int) (fun s=>[(0,pv0),(1,iV s.2.2.2.1),(5,iV s.2.2.2.2)]) (fun s=>St w0 s.1 [] [ob pv0,s.2.2.1]) (fun m s=>fc N m s.2.1 s.2.2.2.1 s.2.2.2.2=some r∧(OSl aO 159 2 s.1 s.2.2.1 pv0 s.2.1)) (Φ,p0,pD0,p1,0) N ⟨h,ph0⟩ (sx [0,0] []) (fun n1 ih1 s hm=>?_)
 obtain ⟨Φ_1,s1,D1,s2,s3⟩:=s
 obtain ⟨h,k1⟩:=hm
 dsimp only at h k1 ⊢
 unfold fc at h
 refine atr 5 [] rfl<|lno k1 rfl<|la rfl<|en ?_
 refine ch h rfl ?_ ?_ <;> intro h
 ·refine atr 7 [] rfl ?_
  obtain ⟨x1,hx1,h⟩:=bs h
  obtain ⟨cs1,F1,D2,h1,r1,kf1,sp1⟩:=k1.focus hx1
  obtain ⟨v1,v2,rfl,rfl,h2,h3⟩:=r1
  refine wlL [ob v1,ob v2,D2,ob pv0] (sre [1] [ob v1,ob v2,D2] rfl (by simpa [List.append_assoc] using sp1))<|lih h1 hx1 rfl<|lf pC rfl rfl rfl<|lgx 0 0 h1.rg rfl<|la rfl<|kcb [0] h rfl rfl rfl rfl (fun b ap z q=>gy N b x1.Ids s2 h2 q) ?_
  rintro x2 h v3 Φ_2 F2 ⟨ap1,fr1,rfl,rfl,h4⟩
  replace h1:=h1.fr fr1 (ap1.q 2 rfl) (ap1.q 1 rfl)
  replace h3:=h3.fr fr1 (ap1.q 0 rfl) dN
  refine arr 5 [] rfl<|lih h1 hx1 rfl<|lf po rfl rfl rfl<|lgx 1 0 h1.rg rfl<|la rfl<|kcb [1] h rfl rfl rfl rfl (fun b ap z q=>gy N b x1.Hits x2.1 h3 q) ?_
  rintro x3 h v4 Φ_3 F3 ⟨ap2,fr2,rfl,rfl,h5⟩
  replace h1:=h1.fr fr2 (ap2.q 2 rfl) (ap2.q 1 rfl)
  replace h4:=h4.fr fr2 (ap2.q 0 rfl) dN
  refine art 8 [] rfl ?_
  have r2:aO Φ_3 _ [v1,v2] (⟨x2.2,x3.2⟩:ak):=⟨v1,v2,rfl,rfl,h4,h5⟩
  obtain ⟨D3,h6,sp2⟩:=h1.unfocus r2 (aO.knows _ _ _ _ r2)
  refine wtL [D3,ob pv0] (smg [1,0,0] rfl (by simpa [List.append_assoc,bm] using sp2)) ?_
  exact lb [1,0] [] (ih1 (_,_,_,_,_) ⟨h,h6⟩)
 refine att 6 [] rfl ?_
 exact rtg [0,0] hF (ao.one rfl) rfl (by cases h; exact fun w1 hw=>⟨D1,rfl,rfl,k1⟩)
theorem vK (w0:ab Ψ Φ [ob pv0,pD0].flatten) (p0:(List ae)) (p1:Int) (ph0:OSl aJ 130 1 Φ pD0 pv0 p0) {r:Int × (List ae)} (h:lM N p0 p1=some r) :
  Calls prog 98 [pv0,iV p1].toArray w0.w (aL Φ w0.w [ob pv0,pD0].flatten (fun Φ' Fs v=>∃ (Do_0_0:List Nat),v=iV r.1∧Fs=[ob pv0,Do_0_0]∧OSl aJ 130 1 Φ' Do_0_0 pv0 r.2)):=by
 refine eL func98 rfl ntmps98 rfl (L:=[ob pv0,pD0]) w0 (fun hF=>?_)
 unfold lM at h
 refine att 10 [] rfl ?_
 refine lin (σ:=Hp × (List ae) × List Nat × Int × Int) (fun s=>[(0,pv0),(1,iV s.2.2.2.1),(5,iV s.2.2.2.2)]) (fun s=>St w0 s.1 [] [ob pv0,s.2.2.1]) (fun m s=>dm N m s.2.1 s.2.2.2.1 s.2.2.2.2=some r∧(OSl aJ 130 1 s.1 s.2.2.1 pv0 s.2.1)) (Φ,p0,pD0,p1,0) N ⟨h,ph0⟩ (sx [0,0] []) (fun n1 ih1 s hm=>?_)
 obtain ⟨Φ_1,s1,D1,s2,s3⟩:=s
 obtain ⟨h,k1⟩:=hm
 dsimp only at h k1 ⊢
 unfold dm at h
 refine atr 5 [] rfl<|lno k1 rfl<|la rfl<|en ?_
 refine ch h rfl ?_ ?_ <;> intro h
 ·refine atr 6 [] rfl ?_
  obtain ⟨x1,hx1,h⟩:=bs h
  obtain ⟨cs1,F1,D2,h1,r1,kf1,sp1⟩:=k1.focus hx1
  obtain ⟨v1,D3,rfl,rfl,h2⟩:=r1
  refine wlL [ob v1,D3,D2,ob pv0] (sre [1] [ob v1,D3,D2] rfl (by simpa [List.append_assoc] using sp1))<|lih h1 hx1 rfl<|lf j8 rfl rfl rfl<|lgx 0 0 h1.rg rfl<|la rfl<|kcb [0,0] h rfl rfl rfl rfl (fun b ap z q=>xG N b x1.Toks s2 h2 q) ?_
  rintro x2 h v2 Φ_2 F2 ⟨ap1,fr1,D4,rfl,rfl,h3⟩
  replace h1:=h1.fr fr1 (ap1.q 1 rfl) (ap1.q 0 rfl)
  refine art 8 [] rfl ?_
  have r2:aJ Φ_2 _ [v1] (⟨x2.2⟩:ae):=⟨v1,D4,rfl,rfl,h3⟩
  obtain ⟨D5,h4,sp2⟩:=h1.unfocus r2 (aJ.knows _ _ _ _ r2)
  refine wtL [D5,ob pv0] (smg [0,0,0] rfl (by simpa [List.append_assoc,bm] using sp2)) ?_
  exact lb [1,0] [] (ih1 (_,_,_,_,_) ⟨h,h4⟩)
 refine att 6 [] rfl ?_
 exact rtg [0,0] hF (ao.one rfl) rfl (by cases h; exact fun w1 hw=>⟨D1,rfl,rfl,k1⟩)
theorem xm (w0:ab Ψ Φ [ob pv0,pD0].flatten) (p0:(List aC)) (p1:Int) (ph0:OSl aM 126 1 Φ pD0 pv0 p0) {r:Int × (List aC)} (h:oY N p0 p1=some r) :
  Calls prog 51 [pv0,iV p1].toArray w0.w (aL Φ w0.w [ob pv0,pD0].flatten (fun Φ' Fs v=>∃ (Do_0_0:List Nat),v=iV r.1∧Fs=[ob pv0,Do_0_0]∧OSl aM 126 1 Φ' Do_0_0 pv0 r.2)):=by
 refine eL func51 rfl ntmps51 rfl (L:=[ob pv0,pD0]) w0 (fun hF=>?_)
 unfold oY at h
 refine att 10 [] rfl ?_
 refine lin (σ:=Hp × (List aC) × List Nat × Int × Int) (fun s=>[(0,pv0),(1,iV s.2.2.2.1),(5,iV s.2.2.2.2)]) (fun s=>St w0 s.1 [] [ob pv0,s.2.2.1]) (fun m s=>fm N m s.2.1 s.2.2.2.1 s.2.2.2.2=some r∧(OSl aM 126 1 s.1 s.2.2.1 pv0 s.2.1)) (Φ,p0,pD0,p1,0) N ⟨h,ph0⟩ (sx [0,0] []) (fun n1 ih1 s hm=>?_)
 obtain ⟨Φ_1,s1,D1,s2,s3⟩:=s
 obtain ⟨h,k1⟩:=hm
 dsimp only at h k1 ⊢
 unfold fm at h
 refine atr 5 [] rfl<|lno k1 rfl<|la rfl<|en ?_
 refine ch h rfl ?_ ?_ <;> intro h
 ·refine atr 6 [] rfl ?_
  obtain ⟨x1,hx1,h⟩:=bs h
  obtain ⟨cs1,F1,D2,h1,r1,kf1,sp1⟩:=k1.focus hx1
  obtain ⟨v1,D3,rfl,rfl,h2⟩:=r1
  refine wlL [ob v1,D3,D2,ob pv0] (sre [1] [ob v1,D3,D2] rfl (by simpa [List.append_assoc] using sp1))<|lih h1 hx1 rfl<|lf gq rfl rfl rfl<|lgx 0 0 h1.rg rfl<|la rfl<|kcb [0,0] h rfl rfl rfl rfl (fun b ap z q=>vK N b x1.Levels s2 h2 q) ?_
  rintro x2 h v2 Φ_2 F2 ⟨ap1,fr1,D4,rfl,rfl,h3⟩
  replace h1:=h1.fr fr1 (ap1.q 1 rfl) (ap1.q 0 rfl)
  refine art 8 [] rfl ?_
  have r2:aM Φ_2 _ [v1] (⟨x2.2⟩:aC):=⟨v1,D4,rfl,rfl,h3⟩
  obtain ⟨D5,h4,sp2⟩:=h1.unfocus r2 (aM.knows _ _ _ _ r2)
  refine wtL [D5,ob pv0] (smg [0,0,0] rfl (by simpa [List.append_assoc,bm] using sp2)) ?_
  exact lb [1,0] [] (ih1 (_,_,_,_,_) ⟨h,h4⟩)
 refine att 6 [] rfl ?_
 exact rtg [0,0] hF (ao.one rfl) rfl (by cases h; exact fun w1 hw=>⟨D1,rfl,rfl,k1⟩)
theorem tF (w0:ab Ψ Φ [ob pv0_0,pD0_0,ob pv0_1,pD0_1].flatten) (p0:aG) (p1:Int) (ph0_0:OSl aF 123 1 Φ pD0_0 pv0_0 p0.Alphas) (ph0_1:OSl aM 126 1 Φ pD0_1 pv0_1 p0.Rules) {r:Int × (List aP) × (List aC)} (h:l5 N p0 p1=some r) :
  Calls prog 20 [.agg [pv0_0,pv0_1].toArray,iV p1].toArray w0.w (aL Φ w0.w [ob pv0_0,pD0_0,ob pv0_1,pD0_1].flatten (fun Φ' Fs v=>∃ (Do_0_0:List Nat) (Do_1_0:List Nat),v=iV r.1∧Fs=[ob pv0_0,Do_0_0,ob pv0_1,Do_1_0]∧OSl aF 123 1 Φ' Do_0_0 pv0_0 r.2.1∧OSl aM 126 1 Φ' Do_1_0 pv0_1 r.2.2)):=by
 refine eL func20 rfl ntmps20 rfl (L:=[ob pv0_0,pD0_0,ob pv0_1,pD0_1]) w0 (fun hF=>?_)
 unfold l5 at h
 refine sr<|lbx rfl fun b_1=>arr 7 [0,0] rfl<|kcb [0,0] h rfl rfl rfl rfl (fun b ap z q=>xW N b p0.Alphas p1 ph0_0 q) ?_
 rintro x1 h v1 Φ_1 F1 ⟨ap1,fr1,D1,rfl,rfl,h1⟩
 replace ph0_1:=ph0_1.fr fr1 (ap1.q 0 rfl) (ap1.q 1 rfl)
 refine arr 7 [1,0] rfl<|kcb [2,2] h rfl rfl rfl rfl (fun b ap z q=>xm N b p0.Rules x1.1 ph0_1 q) ?_
 rintro x2 h v2 Φ_2 F2 ⟨ap2,fr2,D2,rfl,rfl,h2⟩
 replace h1:=h1.fr fr2 (ap2.q 0 rfl) (ap2.q 1 rfl)
 refine art 7 [] rfl ?_
 exact rtg [2,2,0,0] hF (ao.one rfl) rfl (by cases h; exact fun w1 hw=>⟨D1,D2,rfl,rfl,h1,h2⟩)
theorem wH (w0:ab Ψ Φ [ob pv0,pD0].flatten) (p0:(List aY)) (p1:Int) (ph0:OSl bC 155 3 Φ pD0 pv0 p0) {r:Int × (List aY)} (h:nK N p0 p1=some r) :
  Calls prog 52 [pv0,iV p1].toArray w0.w (aL Φ w0.w [ob pv0,pD0].flatten (fun Φ' Fs v=>∃ (Do_0_0:List Nat),v=iV r.1∧Fs=[ob pv0,Do_0_0]∧OSl bC 155 3 Φ' Do_0_0 pv0 r.2)):=by
 refine eL func52 rfl ntmps52 rfl (L:=[ob pv0,pD0]) w0 (fun hF=>?_)
 unfold nK at h
 refine att 10 [] rfl ?_
 refine lin (σ:=Hp × (List aY) × List Nat × Int × Int) (fun s=>[(0,pv0),(1,iV s.2.2.2.1),(5,iV s.2.2.2.2)]) (fun s=>St w0 s.1 [] [ob pv0,s.2.2.1]) (fun m s=>ee N m s.2.1 s.2.2.2.1 s.2.2.2.2=some r∧(OSl bC 155 3 s.1 s.2.2.1 pv0 s.2.1)) (Φ,p0,pD0,p1,0) N ⟨h,ph0⟩ (sx [0,0] []) (fun n1 ih1 s hm=>?_)
 obtain ⟨Φ_1,s1,D1,s2,s3⟩:=s
 obtain ⟨h,k1⟩:=hm
 dsimp only at h k1 ⊢
 unfold ee at h
 refine atr 5 [] rfl<|lno k1 rfl<|la rfl<|en ?_
 refine ch h rfl ?_ ?_ <;> intro h
 ·refine atr 8 [] rfl ?_
  obtain ⟨x1,hx1,h⟩:=bs h
  obtain ⟨cs1,F1,D2,h1,r1,kf1,sp1⟩:=k1.focus hx1
  obtain ⟨v1,rfl,rfl,h2⟩:=r1
  refine wlL [ob v1,D2,ob pv0] (sre [1] [ob v1,D2] rfl (by simpa [List.append_assoc] using sp1))<|lih h1 hx1 rfl<|lf sJ rfl rfl rfl<|lu (us [2] [ob v1,D2] 0 bC.lasts iE rfl rfl rfl rfl h1 rfl (fun ap=>ap.q 1 rfl)) rfl ?_
  rintro Φ_2 D3 ⟨⟨ap1,fr1⟩,h3⟩
  replace h2:=h2.fr fr1 (ap1.q 0 rfl) dN
  refine arr 12 [] rfl<|qc h (bc N · (wz (s2+1)) ·) rfl rfl rfl fun x2 h=>lih h3 hx1 rfl<|arr 2 [1,0] rfl<|lu (us [0] [ob v1,D2] 1 bC.lasts mT rfl rfl rfl rfl h3 rfl (fun ap=>ap.q 1 rfl)) rfl ?_
  rintro Φ_3 D4 ⟨⟨ap2,fr2⟩,h4⟩
  replace h2:=h2.fr fr2 (ap2.q 0 rfl) dN
  refine arr 10 [] rfl<|lih h4 hx1 rfl<|arr 2 [1,1] rfl<|lq (bk L4 rfl (fun w1 hw=>(h4.rg.of_eq 2 1 (by omega) rfl:rg _ _ _ [v1]).rangeAt hw.fro)) rfl<|la rfl<|kcb [1] h rfl rfl rfl rfl (fun b ap z q=>te N b x1.F.Fields (wz ((wz (s2+1))+1)) h2 q) ?_
  rintro x3 h v2 Φ_4 F2 ⟨ap3,fr3,rfl,rfl,h5⟩
  replace h4:=h4.fr fr3 (ap3.q 0 rfl) (ap3.q 1 rfl)
  refine art 8 [] rfl ?_
  have r2:bC Φ_4 _ [iV s2,.string x2,v1] (⟨s2,(⟨x2,x3.2⟩:aA)⟩:aY):=⟨v1,rfl,rfl,h5⟩
  obtain ⟨D5,h6,sp2⟩:=h4.unfocus r2 (bC.knows _ _ _ _ r2)
  refine wtL [D5,ob pv0] (smg [0,1] rfl (by simpa [List.append_assoc,bm] using sp2)) ?_
  exact lb [1,0] [] (ih1 (_,_,_,_,_) ⟨h,h6⟩)
 refine att 6 [] rfl ?_
 exact rtg [0,0] hF (ao.one rfl) rfl (by cases h; exact fun w1 hw=>⟨D1,rfl,rfl,k1⟩)
theorem we (w0:ab Ψ Φ [ob pv0_0,pD0_0].flatten) (p0:ah) (p1:Int) (ph0_0:OSl bC 155 3 Φ pD0_0 pv0_0 p0.Items) {r:Int × (List aY)} (h:km N p0 p1=some r) :
  Calls prog 21 [.agg [pv0_0,iV p0.Next].toArray,iV p1].toArray w0.w (aL Φ w0.w [ob pv0_0,pD0_0].flatten (fun Φ' Fs v=>∃ (Do_0_0:List Nat),v=iV r.1∧Fs=[ob pv0_0,Do_0_0]∧OSl bC 155 3 Φ' Do_0_0 pv0_0 r.2)):=by
 refine eL func21 rfl ntmps21 rfl (L:=[ob pv0_0,pD0_0]) w0 (fun hF=>?_)
 unfold km at h
 refine sr<|lbx rfl fun b_1=>arr 7 [0,0] rfl<|kcb [0,0] h rfl rfl rfl rfl (fun b ap z q=>wH N b p0.Items p1 ph0_0 q) ?_
 rintro x1 h v1 Φ_1 F1 ⟨ap1,fr1,D1,rfl,rfl,h1⟩
 refine art 7 [] rfl ?_
 exact rtg [0,0] hF (ao.one rfl) rfl (by cases h; exact fun w1 hw=>⟨D1,rfl,rfl,h1⟩)
theorem oF (w0:ab Ψ Φ []) (p0:(List Int)) (p1:Int) (ph0:RSl (RI .i64) 1 Ψ pG0 pv0 p0) {r:Int} (h:io N p0 p1=some r) :
  CB w0 prog 99 [pv0,iV p1] (iV r):=by
 refine eN func99 rfl ntmps99 rfl w0 fun hF=>?_
 unfold io at h
 refine att 10 [] rfl ?_
 refine lin (σ:=Int × Int) (fun s=>[(0,pv0),(1,iV s.1),(5,iV s.2)]) (fun s=>St w0 Φ [] []) (fun m s=>dQ N p0 m s.1 s.2=some r) (p1,0) N h (sx [] []) (fun n1 ih1 s hm=>?_)
 obtain ⟨s1,s2⟩:=s
 have h:dQ N p0 (n1+1) s1 s2=some r:=hm
 show WT _ _ [(0,pv0),(1,iV s1),(5,iV s2)] (St w0 Φ [] [])
 unfold dQ at h
 refine atr 5 [] rfl<|lnr ph0 rfl<|la rfl<|en ?_
 refine ch h rfl ?_ ?_ <;> intro h
 ·refine atr 8 [] rfl ?_
  obtain ⟨x1,hx1,h⟩:=bs h
  obtain ⟨cs1,F1,-,g1,hb1,hs1,r1⟩:=ph0.el (a7 hx1).2.2
  obtain ⟨rfl,-⟩:=r1
  refine lia ph0 hx1 rfl<|lhx 0 0 g1 rfl<|art 3 [] rfl ?_
  refine ch h rfl ?_ ?_ <;> intro h
  ·refine att 4 [] rfl ?_
   exact rt hF h
  refine att 12 [] rfl ?_
  exact lb [] [] (ih1 (_,_) h)
 refine att 6 [] rfl ?_
 exact rt hF h
theorem xi (w0:ab Ψ Φ []) (p0:(List aP)) (p1:Int) (ph0:RSl dP 1 Ψ pG0 pv0 p0) {r:Int} (h:mK N p0 p1=some r) :
  CB w0 prog 53 [pv0,iV p1] (iV r):=by
 refine eN func53 rfl ntmps53 rfl w0 fun hF=>?_
 unfold mK at h
 refine att 10 [] rfl ?_
 refine lin (σ:=Int × Int) (fun s=>[(0,pv0),(1,iV s.1),(5,iV s.2)]) (fun s=>St w0 Φ [] []) (fun m s=>dR N p0 m s.1 s.2=some r) (p1,0) N h (sx [] []) (fun n1 ih1 s hm=>?_)
 obtain ⟨s1,s2⟩:=s
 have h:dR N p0 (n1+1) s1 s2=some r:=hm
 show WT _ _ [(0,pv0),(1,iV s1),(5,iV s2)] (St w0 Φ [] [])
 unfold dR at h
 refine atr 5 [] rfl<|lnr ph0 rfl<|la rfl<|en ?_
 refine ch h rfl ?_ ?_ <;> intro h
 ·refine atr 7 [] rfl ?_
  obtain ⟨x1,hx1,h⟩:=bs h
  obtain ⟨cs1,F1,-,g1,hb1,hs1,r1⟩:=ph0.el (a7 hx1).2.2
  obtain ⟨v1,G1,rfl,hq1,h1⟩:=r1
  obtain rfl:=hq1.symm
  refine lia ph0 hx1 rfl<|lf jV rfl rfl rfl<|lhx 0 0 g1 rfl<|la rfl<|qd h (oF N · x1.L s1 h1 ·) rfl rfl rfl fun x2 h=>art 7 [] rfl ?_
  refine ch h rfl ?_ ?_ <;> intro h
  ·refine att 4 [] rfl ?_
   exact rt hF h
  refine att 7 [] rfl ?_
  exact lb [] [] (ih1 (_,_) h)
 refine att 6 [] rfl ?_
 exact rt hF h
theorem xR (w0:ab Ψ Φ []) (p0:(List ak)) (p1:Int) (ph0:RSl ic 2 Ψ pG0 pv0 p0) {r:Int} (h:mj N p0 p1=some r) :
  CB w0 prog 152 [pv0,iV p1] (iV r):=by
 refine eN func152 rfl ntmps152 rfl w0 fun hF=>?_
 unfold mj at h
 refine att 10 [] rfl ?_
 refine lin (σ:=Int × Int) (fun s=>[(0,pv0),(1,iV s.1),(5,iV s.2)]) (fun s=>St w0 Φ [] []) (fun m s=>dL N p0 m s.1 s.2=some r) (p1,0) N h (sx [] []) (fun n1 ih1 s hm=>?_)
 obtain ⟨s1,s2⟩:=s
 have h:dL N p0 (n1+1) s1 s2=some r:=hm
 show WT _ _ [(0,pv0),(1,iV s1),(5,iV s2)] (St w0 Φ [] [])
 unfold dL at h
 refine atr 5 [] rfl<|lnr ph0 rfl<|la rfl<|en ?_
 refine ch h rfl ?_ ?_ <;> intro h
 ·refine atr 7 [] rfl ?_
  obtain ⟨x1,hx1,h⟩:=bs h
  obtain ⟨cs1,F1,-,g1,hb1,hs1,r1⟩:=ph0.el (a7 hx1).2.2
  obtain ⟨v1,G1,v2,G2,rfl,rfl,h1,h2⟩:=r1
  refine lia ph0 hx1 rfl<|lf pC rfl rfl rfl<|lhx 0 0 g1 rfl<|la rfl<|qd h (oF N · x1.Ids s1 h1 ·) rfl rfl rfl fun x2 h=>art 8 [] rfl ?_
  refine ch h rfl ?_ ?_ <;> intro h
  ·refine att 4 [] rfl ?_
   exact rt hF h
  refine atr 5 [] rfl ?_
  obtain ⟨x3,hx3,h⟩:=bs h
  obtain ⟨cs2,F2,-,g2,hb2,hs2,r2⟩:=ph0.el (a7 hx3).2.2
  obtain ⟨v3,G3,v4,G4,rfl,rfl,h3,h4⟩:=r2
  refine lia ph0 hx3 rfl<|lf po rfl rfl rfl<|lhx 1 0 g2 rfl<|la rfl<|qd h (oF N · x3.Hits x2 h4 ·) rfl rfl rfl fun x4 h=>art 7 [] rfl ?_
  refine ch h rfl ?_ ?_ <;> intro h
  ·refine att 4 [] rfl ?_
   exact rt hF h
  refine att 7 [] rfl ?_
  exact lb [] [] (ih1 (_,_) h)
 refine att 6 [] rfl ?_
 exact rt hF h
theorem w6 (w0:ab Ψ Φ []) (p0:(List ae)) (p1:Int) (ph0:RSl dI 1 Ψ pG0 pv0 p0) {r:Int} (h:jK N p0 p1=some r) :
  CB w0 prog 100 [pv0,iV p1] (iV r):=by
 refine eN func100 rfl ntmps100 rfl w0 fun hF=>?_
 unfold jK at h
 refine att 10 [] rfl ?_
 refine lin (σ:=Int × Int) (fun s=>[(0,pv0),(1,iV s.1),(5,iV s.2)]) (fun s=>St w0 Φ [] []) (fun m s=>cH N p0 m s.1 s.2=some r) (p1,0) N h (sx [] []) (fun n1 ih1 s hm=>?_)
 obtain ⟨s1,s2⟩:=s
 have h:cH N p0 (n1+1) s1 s2=some r:=hm
 show WT _ _ [(0,pv0),(1,iV s1),(5,iV s2)] (St w0 Φ [] [])
 unfold cH at h
 refine atr 5 [] rfl<|lnr ph0 rfl<|la rfl<|en ?_
 refine ch h rfl ?_ ?_ <;> intro h
 ·refine atr 7 [] rfl ?_
  obtain ⟨x1,hx1,h⟩:=bs h
  obtain ⟨cs1,F1,-,g1,hb1,hs1,r1⟩:=ph0.el (a7 hx1).2.2
  obtain ⟨v1,G1,rfl,hq1,h1⟩:=r1
  obtain rfl:=hq1.symm
  refine lia ph0 hx1 rfl<|lf j8 rfl rfl rfl<|lhx 0 0 g1 rfl<|la rfl<|qd h (xR N · x1.Toks s1 h1 ·) rfl rfl rfl fun x2 h=>art 7 [] rfl ?_
  refine ch h rfl ?_ ?_ <;> intro h
  ·refine att 4 [] rfl ?_
   exact rt hF h
  refine att 7 [] rfl ?_
  exact lb [] [] (ih1 (_,_) h)
 refine att 6 [] rfl ?_
 exact rt hF h
theorem y7 (w0:ab Ψ Φ []) (p0:(List aC)) (p1:Int) (ph0:RSl fx 1 Ψ pG0 pv0 p0) {r:Int} (h:lT N p0 p1=some r) :
  CB w0 prog 54 [pv0,iV p1] (iV r):=by
 refine eN func54 rfl ntmps54 rfl w0 fun hF=>?_
 unfold lT at h
 refine att 10 [] rfl ?_
 refine lin (σ:=Int × Int) (fun s=>[(0,pv0),(1,iV s.1),(5,iV s.2)]) (fun s=>St w0 Φ [] []) (fun m s=>dS N p0 m s.1 s.2=some r) (p1,0) N h (sx [] []) (fun n1 ih1 s hm=>?_)
 obtain ⟨s1,s2⟩:=s
 have h:dS N p0 (n1+1) s1 s2=some r:=hm
 show WT _ _ [(0,pv0),(1,iV s1),(5,iV s2)] (St w0 Φ [] [])
 unfold dS at h
 refine atr 5 [] rfl<|lnr ph0 rfl<|la rfl<|en ?_
 refine ch h rfl ?_ ?_ <;> intro h
 ·refine atr 7 [] rfl ?_
  obtain ⟨x1,hx1,h⟩:=bs h
  obtain ⟨cs1,F1,-,g1,hb1,hs1,r1⟩:=ph0.el (a7 hx1).2.2
  obtain ⟨v1,G1,rfl,hq1,h1⟩:=r1
  obtain rfl:=hq1.symm
  refine lia ph0 hx1 rfl<|lf gq rfl rfl rfl<|lhx 0 0 g1 rfl<|la rfl<|qd h (w6 N · x1.Levels s1 h1 ·) rfl rfl rfl fun x2 h=>art 7 [] rfl ?_
  refine ch h rfl ?_ ?_ <;> intro h
  ·refine att 4 [] rfl ?_
   exact rt hF h
  refine att 7 [] rfl ?_
  exact lb [] [] (ih1 (_,_) h)
 refine att 6 [] rfl ?_
 exact rt hF h
theorem tK (w0:ab Ψ Φ []) (p0:aG) (p1:Int) (ph0_0:RSl dP 1 Ψ pG0_0 pv0_0 p0.Alphas) (ph0_1:RSl fx 1 Ψ pG0_1 pv0_1 p0.Rules) {r:Int} (h:lz N p0 p1=some r) :
  CB w0 prog 22 [.agg [pv0_0,pv0_1].toArray,iV p1] (iV r):=by
 refine eN func22 rfl ntmps22 rfl w0 fun hF=>?_
 unfold lz at h
 refine sr<|lbx rfl fun b_1=>arr 7 [0,0] rfl<|qd h (xi N · p0.Alphas p1 ph0_0 ·) rfl rfl rfl fun x1 h=>art 8 [] rfl ?_
 refine ch h rfl ?_ ?_ <;> intro h
 ·refine att 4 [] rfl ?_
  exact rt hF h
 refine atr 6 [1,0] rfl<|qd h (y7 N · p0.Rules x1 ph0_1 ·) rfl rfl rfl fun x2 h=>art 8 [] rfl ?_
 refine ch h rfl ?_ ?_ <;> intro h
 ·refine att 4 [] rfl ?_
  exact rt hF h
 refine att 6 [] rfl ?_
 exact rt hF h
theorem sY (w0:ab Ψ Φ []) (p0:bl) (p1:bd) (p2:aG) (p3:ah) (p4:Int) (ph0_0:RSl bU 5 Ψ pG0_0 pv0_0 p0.Rules) (ph1_0:RSl be 4 Ψ pG1_0 pv1_0 p1.Alphas) (ph1_1:RSl bv 2 Ψ pG1_1 pv1_1 p1.Chains) (ph2_0:RSl dP 1 Ψ pG2_0 pv2_0 p2.Alphas) (ph2_1:RSl fx 1 Ψ pG2_1 pv2_1 p2.Rules) (ph3_0:RSl bN 3 Ψ pG3_0 pv3_0 p3.Items) {r:Bool} (h:fy N p0 p1 p2 p3 p4=some r) :
  CB w0 prog 3 [.agg [.string p0.Name,pv0_0].toArray,.agg [pv1_0,pv1_1].toArray,.agg [pv2_0,pv2_1].toArray,.agg [pv3_0,iV p3.Next].toArray,iV p4] (.bool r):=by
 refine eN func3 rfl ntmps3 rfl w0 fun hF=>?_
 unfold fy at h
 refine sr<|lbx rfl fun b_1=>lbx rfl fun b_2=>lbx rfl fun b_3=>lbx rfl fun b_4=>arr 10 [98] rfl<|qd h (DX N · p0 1048576 ph0_0 ·) rfl rfl rfl fun x1 h=>art 8 [] rfl ?_
 refine ch h rfl ?_ ?_ <;> intro h
 ·refine att 4 [] rfl ?_
  exact rt hF h
 refine atr 5 [66] rfl<|qd h (DT N · p1 x1 ph1_0 ph1_1 ·) rfl rfl rfl fun x2 h=>art 8 [] rfl ?_
 refine ch h rfl ?_ ?_ <;> intro h
 ·refine att 4 [] rfl ?_
  exact rt hF h
 refine atr 5 [34] rfl<|qd h (E4 N · p2 x2 ph2_0 ph2_1 ·) rfl rfl rfl fun x3 h=>art 8 [] rfl ?_
 refine ch h rfl ?_ ?_ <;> intro h
 ·refine att 4 [] rfl ?_
  exact rt hF h
 refine atr 5 [2] rfl<|qd h (zA N · p3 x3 ph3_0 ·) rfl rfl rfl fun x4 h=>art 8 [] rfl ?_
 refine ch h rfl ?_ ?_ <;> intro h
 ·refine att 4 [] rfl ?_
  exact rt hF h
 refine att 2 [] rfl<|kEn [4,5,6,7,8] rfl ?_
 refine cut (σ:=Hp × Nat × (List aP) × Value × List Nat × (List aC) × Value × List Nat) (fun s=>[(4,iV p4),(5,pQ b_1),(6,pQ b_2),(7,pQ b_3),(8,pQ b_4),(12,.pointer (some ⟨s.2.1,0,none⟩))]) (fun s=>St w0 s.1 [(s.2.1,.cells #[s.2.2.2.1,s.2.2.2.2.2.2.1] 43 (0,0)),(b_4,.cells #[pv3_0,iV p3.Next] 35 (0,0)),(b_3,.cells #[pv2_0,pv2_1] 32 (0,0)),(b_2,.cells #[pv1_0,pv1_1] 28 (0,0)),(b_1,.cells #[.string p0.Name,pv0_0] 24 (0,0))] [ob s.2.2.2.1,s.2.2.2.2.1,ob s.2.2.2.2.2.2.1,s.2.2.2.2.2.2.2]) (fun s=>fE N p0 p1 p2 p3 p4 s.2.2.1 s.2.2.2.2.2.1=some r∧(OSl aF 123 1 s.1 s.2.2.2.2.1 s.2.2.2.1 s.2.2.1)∧(OSl aM 126 1 s.1 s.2.2.2.2.2.2.2 s.2.2.2.2.2.2.1 s.2.2.2.2.2.1)) (fun s hm=>?_) (fun K=>?_)
 ·clear h
  obtain ⟨Φ_6,b_6,s1,u1,D9,s2,u2,D10⟩:=s
  obtain ⟨h,k1,k2⟩:=hm
  dsimp only at h k1 k2 ⊢
  unfold fE at h
  refine atr 3 [130] rfl<|kab h rfl rfl rfl (fun b z q=>jN N b p0 (ph0_0.y z) q) ?_
  rintro x10 h v14 Φ_7 F6 ⟨ap6,fr6,v15,D11,rfl,rfl,h9⟩
  replace k1:=k1.fr fr6 (ap6.q 0 rfl) (ap6.q 1 rfl)
  replace k2:=k2.fr fr6 (ap6.q 2 rfl) (ap6.q 3 rfl)
  refine lnz HN rfl fun b_7=>soN 0 JR rfl ⟨rfl,h9.one,trivial⟩ rfl ?_
  refine arr 4 [130] rfl<|kab h rfl rfl rfl (fun b z q=>gG N b p1 (ph1_0.y z) (ph1_1.y z) q) ?_
  rintro x11 h v16 Φ_8 F7 ⟨ap7,fr7,v17,D12,v18,D13,rfl,rfl,h10,h11⟩
  replace k1:=k1.fr fr7 (ap7.q 2 rfl) (ap7.q 3 rfl)
  replace k2:=k2.fr fr7 (ap7.q 4 rfl) (ap7.q 5 rfl)
  replace h9:=h9.fr fr7 (ap7.q 0 rfl) (ap7.q 1 rfl)
  refine lnz w5 rfl fun b_8=>soN 0 Cr rfl ⟨h10.one,h11.one,trivial⟩ rfl ?_
  refine arr 4 [130] rfl<|kab h rfl rfl rfl (fun b z q=>eD N b p2 (ph2_0.y z) (ph2_1.y z) q) ?_
  rintro x12 h v19 Φ_9 F8 ⟨ap8,fr8,v20,D14,v21,D15,rfl,rfl,h12,h13⟩
  replace h10:=h10.fr fr8 (ap8.q 0 rfl) (ap8.q 1 rfl)
  replace h11:=h11.fr fr8 (ap8.q 2 rfl) (ap8.q 3 rfl)
  replace k1:=k1.fr fr8 (ap8.q 6 rfl) (ap8.q 7 rfl)
  replace k2:=k2.fr fr8 (ap8.q 8 rfl) (ap8.q 9 rfl)
  replace h9:=h9.fr fr8 (ap8.q 4 rfl) (ap8.q 5 rfl)
  refine lnz iG rfl fun b_9=>soN 0 kg rfl ⟨h12.one,h13.one,trivial⟩ rfl ?_
  refine en<|sq<|kEn [4,5,6,7,8,12,13,14,15] rfl<|kSt (St w0 Φ_9 [(b_9,.cells #[v20,v21] 43 (0,0)),(b_8,.cells #[v17,v18] 52 (0,0)),(b_7,.cells #[.string x10.Name,v15] 47 (0,0)),(b_6,.cells #[u1,u2] 43 (0,0)),(b_4,.cells #[pv3_0,iV p3.Next] 35 (0,0)),(b_3,.cells #[pv2_0,pv2_1] 32 (0,0)),(b_2,.cells #[pv1_0,pv1_1] 28 (0,0)),(b_1,.cells #[.string p0.Name,pv0_0] 24 (0,0))] [ob v20,D14,ob v21,D15,ob v17,D12,ob v18,D13,ob v15,D11,ob u1,D9,ob u2,D10])<|atr 2 [130] rfl ?_
  refine kab h rfl rfl rfl (fun b z q=>bV N b p3 (ph3_0.y z) q) ?_
  rintro x13 h v22 Φ_10 F9 ⟨ap9,fr9,v23,D16,rfl,rfl,h14⟩
  replace h10:=h10.fr fr9 (ap9.q 4 rfl) (ap9.q 5 rfl)
  replace h11:=h11.fr fr9 (ap9.q 6 rfl) (ap9.q 7 rfl)
  replace h12:=h12.fr fr9 (ap9.q 0 rfl) (ap9.q 1 rfl)
  replace h13:=h13.fr fr9 (ap9.q 2 rfl) (ap9.q 3 rfl)
  replace k1:=k1.fr fr9 (ap9.q 10 rfl) (ap9.q 11 rfl)
  replace k2:=k2.fr fr9 (ap9.q 12 rfl) (ap9.q 13 rfl)
  replace h9:=h9.fr fr9 (ap9.q 8 rfl) (ap9.q 9 rfl)
  refine lnz HF rfl fun b_10=>soN 0 K7 rfl ⟨h14.one,rfl,trivial⟩ rfl ?_
  refine arr 8 [98,66,34,2] rfl<|kab h rfl rfl rfl (fun b z q=>fj N b x10 x11 x12 x13 p4 (h9.rslG bJ.gives) (h10.rslG aK.gives) (h11.rslG aD.gives) (h12.rslG aF.gives) (h13.rslG aM.gives) (h14.rslG bC.gives) q) ?_
  rintro x14 h v24 Φ_11 F10 ⟨ap10,fr10,v25,D17,v26,D18,rfl,rfl,h15,h16⟩
  replace h10:=h10.fr fr10 (ap10.q 6 rfl) (ap10.q 7 rfl)
  replace h11:=h11.fr fr10 (ap10.q 8 rfl) (ap10.q 9 rfl)
  replace h12:=h12.fr fr10 (ap10.q 2 rfl) (ap10.q 3 rfl)
  replace h13:=h13.fr fr10 (ap10.q 4 rfl) (ap10.q 5 rfl)
  replace h14:=h14.fr fr10 (ap10.q 0 rfl) (ap10.q 1 rfl)
  replace k1:=k1.fr fr10 (ap10.q 12 rfl) (ap10.q 13 rfl)
  replace k2:=k2.fr fr10 (ap10.q 14 rfl) (ap10.q 15 rfl)
  replace h9:=h9.fr fr10 (ap10.q 10 rfl) (ap10.q 11 rfl)
  refine lnz iG rfl fun b_11=>soN 0 kg rfl ⟨h15.one,h16.one,trivial⟩ rfl ?_
  refine arr 6 [2,162] rfl<|qc h (p9 N · x14 (⟨s1,s2⟩:aG) (h15.rslG aF.gives) (h16.rslG aM.gives) (k1.rslG aF.gives) (k2.rslG aM.gives) ·) rfl rfl rfl fun x15 h=>la rfl<|en ?_
  refine ch h rfl ?_ ?_ <;> intro h
  ·refine att 4 [] rfl ?_
   exact rt hF h
  refine att 3 [] rfl<|kEn [4,5,6,7,8,12,13,14,15,16,17] rfl ?_
  refine kSt (St w0 Φ_11 [(b_11,.cells #[v25,v26] 43 (0,0)),(b_10,.cells #[v23,iV x13.Next] 57 (0,0)),(b_9,.cells #[v20,v21] 43 (0,0)),(b_8,.cells #[v17,v18] 52 (0,0)),(b_7,.cells #[.string x10.Name,v15] 47 (0,0)),(b_6,.cells #[u1,u2] 43 (0,0)),(b_4,.cells #[pv3_0,iV p3.Next] 35 (0,0)),(b_3,.cells #[pv2_0,pv2_1] 32 (0,0)),(b_2,.cells #[pv1_0,pv1_1] 28 (0,0)),(b_1,.cells #[.string p0.Name,pv0_0] 24 (0,0))] [ob v25,D17,ob v26,D18,ob v23,D16,ob v20,D14,ob v21,D15,ob v17,D12,ob v18,D13,ob v15,D11,ob u1,D9,ob u2,D10]) ?_
  refine wm [0,1,2,3,4,5,6,7,8,9] [] rfl<|amm 2 [0,130,1,290] [0,1,2,3,4,5,6,7,8,9] rfl rfl ?_
  obtain ⟨x16,hx16,h⟩:=bs h
  refine WM.one 2 (by kernel_rfl) (mc rfl (fun _ v Φx D w1 hq hw=>Kn.of Kf.nil (am [0,1,2,3,4,5,6,7,8,9] rfl) hw) (aU (js:=[]) (R:=[ob v25,D17,ob v26,D18,ob v23,D16,ob v20,D14,ob v21,D15,ob v17,D12,ob v18,D13,ob v15,D11,ob u1,D9,ob u2,D10]) EB rfl rfl (fun w1 hw ap hl=>jN N (ba hw.fro) p0 (ph0_0.y hw.up)  hx16)) rfl ?_)
  rintro v27 Φ_12 F11 ⟨ap11,fr11,v28,D19,rfl,rfl,h17⟩
  replace h10:=h10.fr fr11 (ap11.q 10 rfl) (ap11.q 11 rfl)
  replace h11:=h11.fr fr11 (ap11.q 12 rfl) (ap11.q 13 rfl)
  replace h12:=h12.fr fr11 (ap11.q 6 rfl) (ap11.q 7 rfl)
  replace h13:=h13.fr fr11 (ap11.q 8 rfl) (ap11.q 9 rfl)
  replace h14:=h14.fr fr11 (ap11.q 4 rfl) (ap11.q 5 rfl)
  replace h15:=h15.fr fr11 (ap11.q 0 rfl) (ap11.q 1 rfl)
  replace h16:=h16.fr fr11 (ap11.q 2 rfl) (ap11.q 3 rfl)
  replace k1:=k1.fr fr11 (ap11.q 16 rfl) (ap11.q 17 rfl)
  replace k2:=k2.fr fr11 (ap11.q 18 rfl) (ap11.q 19 rfl)
  replace h9:=h9.fr fr11 (ap11.q 14 rfl) (ap11.q 15 rfl)
  obtain ⟨x17,hx17,h⟩:=bs h
  refine on1 3 (mp rfl (kS [0,1,2,3,4,5,6,7,8,9]) (pcP rfl (DE N · x10 x16 (h9.rslG bJ.gives) (h17.rslG bJ.gives) hx17)) rfl ?_)
  refine amm 1 [4] [0,1,2,3,4,5,6,7,8,9] rfl rfl<|WM.nil (by kernel_rfl) ?_
  refine ch h rfl ?_ ?_ <;> intro h
  ·refine att 4 [] rfl ?_
   exact rt hF h
  refine att 3 [] rfl<|wm [0,1,2,3,4,5,6,7,8,9] [] rfl<|amm 2 [0,98,1,258] [0,1,2,3,4,5,6,7,8,9] rfl rfl ?_
  obtain ⟨x18,hx18,h⟩:=bs h
  refine WM.one 2 (by kernel_rfl) (mc rfl (fun _ v Φx D w1 hq hw=>Kn.of Kf.nil (am [0,1,2,3,4,5,6,7,8,9] rfl) hw) (aU (js:=[]) (R:=[ob v28,D19,ob v25,D17,ob v26,D18,ob v23,D16,ob v20,D14,ob v21,D15,ob v17,D12,ob v18,D13,ob v15,D11,ob u1,D9,ob u2,D10]) ve rfl rfl (fun w1 hw ap hl=>gG N (ba hw.fro) p1 (ph1_0.y hw.up) (ph1_1.y hw.up)  hx18)) rfl ?_)
  rintro v29 Φ_13 F12 ⟨ap12,fr12,v30,D20,v31,D21,rfl,rfl,h18,h19⟩
  replace h10:=h10.fr fr12 (ap12.q 12 rfl) (ap12.q 13 rfl)
  replace h11:=h11.fr fr12 (ap12.q 14 rfl) (ap12.q 15 rfl)
  replace h12:=h12.fr fr12 (ap12.q 8 rfl) (ap12.q 9 rfl)
  replace h13:=h13.fr fr12 (ap12.q 10 rfl) (ap12.q 11 rfl)
  replace h14:=h14.fr fr12 (ap12.q 6 rfl) (ap12.q 7 rfl)
  replace h15:=h15.fr fr12 (ap12.q 2 rfl) (ap12.q 3 rfl)
  replace h16:=h16.fr fr12 (ap12.q 4 rfl) (ap12.q 5 rfl)
  replace k1:=k1.fr fr12 (ap12.q 18 rfl) (ap12.q 19 rfl)
  replace k2:=k2.fr fr12 (ap12.q 20 rfl) (ap12.q 21 rfl)
  replace h9:=h9.fr fr12 (ap12.q 16 rfl) (ap12.q 17 rfl)
  obtain ⟨x19,hx19,h⟩:=bs h
  refine on1 3 (mp rfl (kS [0,1,2,3,4,5,6,7,8,9]) (pcP rfl (Dg N · x11 x18 (h10.rslG aK.gives) (h11.rslG aD.gives) (h18.rslG aK.gives) (h19.rslG aD.gives) hx19)) rfl ?_)
  refine amm 1 [4] [0,1,2,3,4,5,6,7,8,9] rfl rfl<|WM.nil (by kernel_rfl) ?_
  refine ch h rfl ?_ ?_ <;> intro h
  ·refine att 4 [] rfl ?_
   exact rt hF h
  refine att 3 [] rfl<|kEn [4,5,6,7,8,12,13,14,15,16,17] rfl ?_
  refine kSt (St w0 Φ_13 [(b_11,.cells #[v25,v26] 43 (0,0)),(b_10,.cells #[v23,iV x13.Next] 57 (0,0)),(b_9,.cells #[v20,v21] 43 (0,0)),(b_8,.cells #[v17,v18] 52 (0,0)),(b_7,.cells #[.string x10.Name,v15] 47 (0,0)),(b_6,.cells #[u1,u2] 43 (0,0)),(b_4,.cells #[pv3_0,iV p3.Next] 35 (0,0)),(b_3,.cells #[pv2_0,pv2_1] 32 (0,0)),(b_2,.cells #[pv1_0,pv1_1] 28 (0,0)),(b_1,.cells #[.string p0.Name,pv0_0] 24 (0,0))] [ob v30,D20,ob v31,D21,ob v28,D19,ob v25,D17,ob v26,D18,ob v23,D16,ob v20,D14,ob v21,D15,ob v17,D12,ob v18,D13,ob v15,D11,ob u1,D9,ob u2,D10]) ?_
  refine wm [0,1,2,3,4,5,6,7,8,9] [] rfl<|amm 2 [0,66,1,226] [0,1,2,3,4,5,6,7,8,9] rfl rfl ?_
  obtain ⟨x20,hx20,h⟩:=bs h
  refine WM.one 2 (by kernel_rfl) (mc rfl (fun _ v Φx D w1 hq hw=>Kn.of Kf.nil (am [0,1,2,3,4,5,6,7,8,9] rfl) hw) (aU (js:=[]) (R:=[ob v30,D20,ob v31,D21,ob v28,D19,ob v25,D17,ob v26,D18,ob v23,D16,ob v20,D14,ob v21,D15,ob v17,D12,ob v18,D13,ob v15,D11,ob u1,D9,ob u2,D10]) sQ rfl rfl (fun w1 hw ap hl=>eD N (ba hw.fro) p2 (ph2_0.y hw.up) (ph2_1.y hw.up)  hx20)) rfl ?_)
  rintro v32 Φ_14 F13 ⟨ap13,fr13,v33,D22,v34,D23,rfl,rfl,h20,h21⟩
  replace h10:=h10.fr fr13 (ap13.q 16 rfl) (ap13.q 17 rfl)
  replace h11:=h11.fr fr13 (ap13.q 18 rfl) (ap13.q 19 rfl)
  replace h12:=h12.fr fr13 (ap13.q 12 rfl) (ap13.q 13 rfl)
  replace h13:=h13.fr fr13 (ap13.q 14 rfl) (ap13.q 15 rfl)
  replace h14:=h14.fr fr13 (ap13.q 10 rfl) (ap13.q 11 rfl)
  replace h15:=h15.fr fr13 (ap13.q 6 rfl) (ap13.q 7 rfl)
  replace h16:=h16.fr fr13 (ap13.q 8 rfl) (ap13.q 9 rfl)
  replace k1:=k1.fr fr13 (ap13.q 22 rfl) (ap13.q 23 rfl)
  replace k2:=k2.fr fr13 (ap13.q 24 rfl) (ap13.q 25 rfl)
  replace h9:=h9.fr fr13 (ap13.q 20 rfl) (ap13.q 21 rfl)
  obtain ⟨x21,hx21,h⟩:=bs h
  refine on1 3 (mp rfl (kS [0,1,2,3,4,5,6,7,8,9]) (pcP rfl (p9 N · x12 x20 (h12.rslG aF.gives) (h13.rslG aM.gives) (h20.rslG aF.gives) (h21.rslG aM.gives) hx21)) rfl ?_)
  refine amm 1 [4] [0,1,2,3,4,5,6,7,8,9] rfl rfl<|WM.nil (by kernel_rfl) ?_
  refine ch h rfl ?_ ?_ <;> intro h
  ·refine att 4 [] rfl ?_
   exact rt hF h
  refine att 3 [] rfl<|wm [0,1,2,3,4,5,6,7,8,9] [] rfl<|amm 2 [0,34,1,194] [0,1,2,3,4,5,6,7,8,9] rfl rfl ?_
  obtain ⟨x22,hx22,h⟩:=bs h
  refine WM.one 2 (by kernel_rfl) (mc rfl (fun _ v Φx D w1 hq hw=>Kn.of Kf.nil (am [0,1,2,3,4,5,6,7,8,9] rfl) hw) (aU (js:=[]) (R:=[ob v33,D22,ob v34,D23,ob v30,D20,ob v31,D21,ob v28,D19,ob v25,D17,ob v26,D18,ob v23,D16,ob v20,D14,ob v21,D15,ob v17,D12,ob v18,D13,ob v15,D11,ob u1,D9,ob u2,D10]) qR rfl rfl (fun w1 hw ap hl=>bV N (ba hw.fro) p3 (ph3_0.y hw.up)  hx22)) rfl ?_)
  rintro v35 Φ_15 F14 ⟨ap14,fr14,v36,D24,rfl,rfl,h22⟩
  replace h10:=h10.fr fr14 (ap14.q 20 rfl) (ap14.q 21 rfl)
  replace h11:=h11.fr fr14 (ap14.q 22 rfl) (ap14.q 23 rfl)
  replace h12:=h12.fr fr14 (ap14.q 16 rfl) (ap14.q 17 rfl)
  replace h13:=h13.fr fr14 (ap14.q 18 rfl) (ap14.q 19 rfl)
  replace h14:=h14.fr fr14 (ap14.q 14 rfl) (ap14.q 15 rfl)
  replace h15:=h15.fr fr14 (ap14.q 10 rfl) (ap14.q 11 rfl)
  replace h16:=h16.fr fr14 (ap14.q 12 rfl) (ap14.q 13 rfl)
  replace k1:=k1.fr fr14 (ap14.q 26 rfl) (ap14.q 27 rfl)
  replace k2:=k2.fr fr14 (ap14.q 28 rfl) (ap14.q 29 rfl)
  replace h9:=h9.fr fr14 (ap14.q 24 rfl) (ap14.q 25 rfl)
  obtain ⟨x23,hx23,h⟩:=bs h
  refine on1 3 (mp rfl (kS [0,1,2,3,4,5,6,7,8,9]) (pcP rfl (zJ N · x13 x22 (h14.rslG bC.gives) (h22.rslG bC.gives) hx23)) rfl ?_)
  refine amm 1 [4] [0,1,2,3,4,5,6,7,8,9] rfl rfl<|WM.nil (by kernel_rfl) ?_
  refine ch h rfl ?_ ?_ <;> intro h
  ·refine att 4 [] rfl ?_
   exact rt hF h
  refine att 2 [] rfl<|kEn [4,5,6,7,8,12,13,14,15,16,17] rfl ?_
  refine kSt (St w0 Φ_15 [(b_11,.cells #[v25,v26] 43 (0,0)),(b_10,.cells #[v23,iV x13.Next] 57 (0,0)),(b_9,.cells #[v20,v21] 43 (0,0)),(b_8,.cells #[v17,v18] 52 (0,0)),(b_7,.cells #[.string x10.Name,v15] 47 (0,0)),(b_6,.cells #[u1,u2] 43 (0,0)),(b_4,.cells #[pv3_0,iV p3.Next] 35 (0,0)),(b_3,.cells #[pv2_0,pv2_1] 32 (0,0)),(b_2,.cells #[pv1_0,pv1_1] 28 (0,0)),(b_1,.cells #[.string p0.Name,pv0_0] 24 (0,0))] [ob v36,D24,ob v33,D22,ob v34,D23,ob v30,D20,ob v31,D21,ob v28,D19,ob v25,D17,ob v26,D18,ob v23,D16,ob v20,D14,ob v21,D15,ob v17,D12,ob v18,D13,ob v15,D11,ob u1,D9,ob u2,D10]) ?_
  refine atr 7 [130] rfl<|kcb [26,26] h rfl rfl rfl rfl (fun b ap z q=>yu N b x10 1 h9 q) ?_
  rintro x24 h v37 Φ_16 F15 ⟨ap15,fr15,D25,rfl,rfl,h23⟩
  replace h10:=h10.fr fr15 (ap15.q 22 rfl) (ap15.q 23 rfl)
  replace h11:=h11.fr fr15 (ap15.q 24 rfl) (ap15.q 25 rfl)
  replace h12:=h12.fr fr15 (ap15.q 18 rfl) (ap15.q 19 rfl)
  replace h13:=h13.fr fr15 (ap15.q 20 rfl) (ap15.q 21 rfl)
  replace h14:=h14.fr fr15 (ap15.q 16 rfl) (ap15.q 17 rfl)
  replace h15:=h15.fr fr15 (ap15.q 12 rfl) (ap15.q 13 rfl)
  replace h16:=h16.fr fr15 (ap15.q 14 rfl) (ap15.q 15 rfl)
  replace k1:=k1.fr fr15 (ap15.q 26 rfl) (ap15.q 27 rfl)
  replace k2:=k2.fr fr15 (ap15.q 28 rfl) (ap15.q 29 rfl)
  refine arr 6 [98] rfl<|kcb [24,24,24,24] h rfl rfl rfl rfl (fun b ap z q=>yz N b x11 x24.1 h10 h11 q) ?_
  rintro x25 h v38 Φ_17 F16 ⟨ap16,fr16,D26,D27,rfl,rfl,h24,h25⟩
  replace h12:=h12.fr fr16 (ap16.q 20 rfl) (ap16.q 21 rfl)
  replace h13:=h13.fr fr16 (ap16.q 22 rfl) (ap16.q 23 rfl)
  replace h14:=h14.fr fr16 (ap16.q 18 rfl) (ap16.q 19 rfl)
  replace h15:=h15.fr fr16 (ap16.q 14 rfl) (ap16.q 15 rfl)
  replace h16:=h16.fr fr16 (ap16.q 16 rfl) (ap16.q 17 rfl)
  replace k1:=k1.fr fr16 (ap16.q 24 rfl) (ap16.q 25 rfl)
  replace k2:=k2.fr fr16 (ap16.q 26 rfl) (ap16.q 27 rfl)
  refine arr 6 [66] rfl<|kcb [24,24,24,24] h rfl rfl rfl rfl (fun b ap z q=>tF N b x12 x25.1 h12 h13 q) ?_
  rintro x26 h v39 Φ_18 F17 ⟨ap17,fr17,D28,D29,rfl,rfl,h26,h27⟩
  replace h14:=h14.fr fr17 (ap17.q 22 rfl) (ap17.q 23 rfl)
  replace h15:=h15.fr fr17 (ap17.q 18 rfl) (ap17.q 19 rfl)
  replace h16:=h16.fr fr17 (ap17.q 20 rfl) (ap17.q 21 rfl)
  replace k1:=k1.fr fr17 (ap17.q 24 rfl) (ap17.q 25 rfl)
  replace k2:=k2.fr fr17 (ap17.q 26 rfl) (ap17.q 27 rfl)
  refine art 3 [] rfl<|kEn [4,5,6,7,8,12,16,17,18] rfl ?_
  refine kSt (St w0 Φ_18 [(b_11,.cells #[v25,v26] 43 (0,0)),(b_10,.cells #[v23,iV x13.Next] 57 (0,0)),(b_9,.cells #[v20,v21] 43 (0,0)),(b_8,.cells #[v17,v18] 52 (0,0)),(b_7,.cells #[.string x10.Name,v15] 47 (0,0)),(b_6,.cells #[u1,u2] 43 (0,0)),(b_4,.cells #[pv3_0,iV p3.Next] 35 (0,0)),(b_3,.cells #[pv2_0,pv2_1] 32 (0,0)),(b_2,.cells #[pv1_0,pv1_1] 28 (0,0)),(b_1,.cells #[.string p0.Name,pv0_0] 24 (0,0))] [ob v20,D28,ob v21,D29,ob v17,D26,ob v18,D27,ob v15,D25,ob v36,D24,ob v33,D22,ob v34,D23,ob v30,D20,ob v31,D21,ob v28,D19,ob v25,D17,ob v26,D18,ob v23,D16,ob u1,D9,ob u2,D10]) ?_
  refine atr 3 [34] rfl<|kcb [26,26] h rfl rfl rfl rfl (fun b ap z q=>we N b x13 x26.1 h14 q) ?_
  rintro x27 h v40 Φ_19 F18 ⟨ap18,fr18,D30,rfl,rfl,h28⟩
  replace h15:=h15.fr fr18 (ap18.q 22 rfl) (ap18.q 23 rfl)
  replace h16:=h16.fr fr18 (ap18.q 24 rfl) (ap18.q 25 rfl)
  replace k1:=k1.fr fr18 (ap18.q 26 rfl) (ap18.q 27 rfl)
  replace k2:=k2.fr fr18 (ap18.q 28 rfl) (ap18.q 29 rfl)
  refine arr 8 [] rfl ?_
  obtain ⟨b1,hb_1,h⟩:=bs h
  refine WL.cutN 5 [(109,.bool b1),(4,iV p4),(5,pQ b_1),(6,pQ b_2),(7,pQ b_3),(8,pQ b_4),(12,pQ b_6),(17,pQ b_11)] ?_ (fun K=>?_)
  rotate_left
  ·refine sp 104 hb_1 rfl (fun hb_1=>?_) fun hb_1=>?_
   ·refine arr 5 [] rfl ?_
    cases hb_1
    exact ku K
   ·refine arr 2 [2,162] rfl<|ly rfl rfl<|qc hb_1 (p9 N · x14 (⟨s1,s2⟩:aG) (h15.rslG aF.gives) (h16.rslG aM.gives) (k1.rslG aF.gives) (k2.rslG aM.gives) ·) rfl rfl rfl fun x28 hb_1=>arr 2 [] rfl ?_
    cases hb_1
    exact ku K
  refine en ?_
  refine ch h rfl ?_ ?_ <;> intro h
  ·refine att 4 [] rfl ?_
   exact rt hF h
  refine att 6 [] rfl<|kEn [4,5,6,7,8,12,17,19] rfl ?_
  refine kSt (St w0 Φ_19 [(b_11,.cells #[v25,v26] 43 (0,0)),(b_10,.cells #[v23,iV x13.Next] 57 (0,0)),(b_9,.cells #[v20,v21] 43 (0,0)),(b_8,.cells #[v17,v18] 52 (0,0)),(b_7,.cells #[.string x10.Name,v15] 47 (0,0)),(b_6,.cells #[u1,u2] 43 (0,0)),(b_4,.cells #[pv3_0,iV p3.Next] 35 (0,0)),(b_3,.cells #[pv2_0,pv2_1] 32 (0,0)),(b_2,.cells #[pv1_0,pv1_1] 28 (0,0)),(b_1,.cells #[.string p0.Name,pv0_0] 24 (0,0))] [ob v23,D30,ob v20,D28,ob v21,D29,ob v17,D26,ob v18,D27,ob v15,D25,ob v36,D24,ob v33,D22,ob v34,D23,ob v30,D20,ob v31,D21,ob v28,D19,ob v25,D17,ob v26,D18,ob u1,D9,ob u2,D10]) ?_
  refine atr 3 [2] rfl<|kcb [24,24,24,24] h rfl rfl rfl rfl (fun b ap z q=>tF N b x14 1 h15 h16 q) ?_
  rintro x29 h v41 Φ_20 F19 ⟨ap19,fr19,D31,D32,rfl,rfl,h29,h30⟩
  replace k1:=k1.fr fr19 (ap19.q 24 rfl) (ap19.q 25 rfl)
  replace k2:=k2.fr fr19 (ap19.q 26 rfl) (ap19.q 27 rfl)
  refine arr 10 [2] rfl<|qc h (tK N · (⟨x29.2.1,x29.2.2⟩:aG) 1 (h29.rslG aF.gives) (h30.rslG aM.gives) ·) rfl rfl rfl fun x30 h=>art 8 [] rfl ?_
  refine ch h rfl ?_ ?_ <;> intro h
  ·refine att 4 [] rfl ?_
   exact rt hF h
  refine att 3 [] rfl<|kEn [4,5,6,7,8,12,17,19,20] rfl ?_
  refine kSt (St w0 Φ_20 [(b_11,.cells #[v25,v26] 43 (0,0)),(b_10,.cells #[v23,iV x13.Next] 57 (0,0)),(b_9,.cells #[v20,v21] 43 (0,0)),(b_8,.cells #[v17,v18] 52 (0,0)),(b_7,.cells #[.string x10.Name,v15] 47 (0,0)),(b_6,.cells #[u1,u2] 43 (0,0)),(b_4,.cells #[pv3_0,iV p3.Next] 35 (0,0)),(b_3,.cells #[pv2_0,pv2_1] 32 (0,0)),(b_2,.cells #[pv1_0,pv1_1] 28 (0,0)),(b_1,.cells #[.string p0.Name,pv0_0] 24 (0,0))] [ob v25,D31,ob v26,D32,ob v23,D30,ob v20,D28,ob v21,D29,ob v17,D26,ob v18,D27,ob v15,D25,ob v36,D24,ob v33,D22,ob v34,D23,ob v30,D20,ob v31,D21,ob v28,D19,ob u1,D9,ob u2,D10]) ?_
  refine att 5 [] rfl ?_
  refine ch h rfl ?_ ?_ <;> intro h
  ·refine att 4 [] rfl ?_
   exact rt hF h
  refine att 2 [] rfl ?_
  refine cut (σ:=Hp × Nat × (List aP) × Value × List Nat × (List aC) × Value × List Nat) (fun s=>[(12,pQ b_6),(17,pQ b_11),(19,iV x29.1),(21,.pointer (some ⟨s.2.1,0,none⟩))]) (fun s=>St w0 s.1 [(s.2.1,.cells #[s.2.2.2.1,s.2.2.2.2.2.2.1] 43 (0,0)),(b_11,.cells #[v25,v26] 43 (0,0)),(b_6,.cells #[u1,u2] 43 (0,0))] [ob s.2.2.2.1,s.2.2.2.2.1,ob s.2.2.2.2.2.2.1,s.2.2.2.2.2.2.2,ob v25,D31,ob v26,D32,ob u1,D9,ob u2,D10]) (fun s=>fF N s1 s2 x29 s.2.2.1 s.2.2.2.2.2.1=some r∧(OSl aF 123 1 s.1 D31 v25 x29.2.1)∧(OSl aM 126 1 s.1 D32 v26 x29.2.2)∧(OSl aF 123 1 s.1 s.2.2.2.2.1 s.2.2.2.1 s.2.2.1)∧(OSl aM 126 1 s.1 s.2.2.2.2.2.2.2 s.2.2.2.2.2.2.1 s.2.2.2.2.2.1)∧(OSl aF 123 1 s.1 D9 u1 s1)∧(OSl aM 126 1 s.1 D10 u2 s2)) (fun s hm=>?_) (fun K=>?_)
  ·clear h
   obtain ⟨Φ_26,b_13,s3,u3,D41,s4,u4,D42⟩:=s
   obtain ⟨h,h29,h30,k3,k4,k1,k2⟩:=hm
   dsimp only at h h29 h30 k3 k4 k1 k2 ⊢
   unfold fF at h
   refine atr 5 [2,66] rfl<|qc h (p9 N · (⟨s3,s4⟩:aG) (⟨s1,s2⟩:aG) (k3.rslG aF.gives) (k4.rslG aM.gives) (k1.rslG aF.gives) (k2.rslG aM.gives) ·) rfl rfl rfl fun x36 h=>la rfl<|en ?_
   refine ch h rfl ?_ ?_ <;> intro h
   ·refine att 4 [] rfl ?_
    exact rt hF h
   refine atr 9 [34] rfl<|qc h (tK N · (⟨x29.2.1,x29.2.2⟩:aG) 1 (h29.rslG aF.gives) (h30.rslG aM.gives) ·) rfl rfl rfl fun x37 h=>art 8 [] rfl ?_
   refine ch h rfl ?_ ?_ <;> intro h
   ·refine att 4 [] rfl ?_
    exact rt hF h
   refine att 8 [] rfl ?_
   refine ch h rfl ?_ ?_ <;> intro h
   ·refine att 4 [] rfl ?_
    exact rt hF h
   refine att 5 [] rfl ?_
   exact rt hF h
  refine wm [0,1,2,3,4,5,6,7,8,9] [11] rfl<|amm 5 [0,290,2,258,4,226,6,194,8] [0,1,2,3,4,5,6,7,8,9] rfl rfl ?_
  refine WM.two 1 10 (by kernel_rfl) ?_ ?_
  ·obtain ⟨x38,hx38,h⟩:=bs h
   refine mc rfl (fun _ v Φx D w1 hq hw=>Kn.of Kf.nil (am [0,1,2,3,4,5,6,7,8,9] rfl) hw) (aU (js:=[]) (R:=[ob v25,D31,ob v26,D32,ob v23,D30,ob v20,D28,ob v21,D29,ob v17,D26,ob v18,D27,ob v15,D25,ob v36,D24,ob v33,D22,ob v34,D23,ob v30,D20,ob v31,D21,ob v28,D19,ob u1,D9,ob u2,D10]) EB rfl rfl (fun w1 hw ap hl=>jN N (ba hw.fro) p0 (ph0_0.y hw.up)  hx38)) rfl ?_
   rintro v55 Φ_27 F25 ⟨ap25,fr25,v56,D43,rfl,rfl,h39⟩
   replace h29:=h29.fr fr25 (ap25.q 0 rfl) (ap25.q 1 rfl)
   replace h30:=h30.fr fr25 (ap25.q 2 rfl) (ap25.q 3 rfl)
   replace k1:=k1.fr fr25 (ap25.q 28 rfl) (ap25.q 29 rfl)
   replace k2:=k2.fr fr25 (ap25.q 30 rfl) (ap25.q 31 rfl)
   refine WM.two 3 10 (by kernel_rfl) ?_ ?_
   ·obtain ⟨x39,hx39,h⟩:=bs h
    refine mc rfl (fun _ v Φx D w1 hq hw=>Kn.of Kf.nil (am [0,1,2,3,4,5,6,7,8,9] rfl) hw) (aU (js:=[]) (R:=[ob v56,D43,ob v25,D31,ob v26,D32,ob v23,D30,ob v20,D28,ob v21,D29,ob v17,D26,ob v18,D27,ob v15,D25,ob v36,D24,ob v33,D22,ob v34,D23,ob v30,D20,ob v31,D21,ob v28,D19,ob u1,D9,ob u2,D10]) ve rfl rfl (fun w1 hw ap hl=>gG N (ba hw.fro) p1 (ph1_0.y hw.up) (ph1_1.y hw.up)  hx39)) rfl ?_
    rintro v57 Φ_28 F26 ⟨ap26,fr26,v58,D44,v59,D45,rfl,rfl,h40,h41⟩
    replace h29:=h29.fr fr26 (ap26.q 2 rfl) (ap26.q 3 rfl)
    replace h30:=h30.fr fr26 (ap26.q 4 rfl) (ap26.q 5 rfl)
    replace h39:=h39.fr fr26 (ap26.q 0 rfl) (ap26.q 1 rfl)
    replace k1:=k1.fr fr26 (ap26.q 30 rfl) (ap26.q 31 rfl)
    replace k2:=k2.fr fr26 (ap26.q 32 rfl) (ap26.q 33 rfl)
    refine WM.two 5 10 (by kernel_rfl) ?_ ?_
    ·obtain ⟨x40,hx40,h⟩:=bs h
     refine mc rfl (fun _ v Φx D w1 hq hw=>Kn.of Kf.nil (am [0,1,2,3,4,5,6,7,8,9] rfl) hw) (aU (js:=[]) (R:=[ob v58,D44,ob v59,D45,ob v56,D43,ob v25,D31,ob v26,D32,ob v23,D30,ob v20,D28,ob v21,D29,ob v17,D26,ob v18,D27,ob v15,D25,ob v36,D24,ob v33,D22,ob v34,D23,ob v30,D20,ob v31,D21,ob v28,D19,ob u1,D9,ob u2,D10]) sQ rfl rfl (fun w1 hw ap hl=>eD N (ba hw.fro) p2 (ph2_0.y hw.up) (ph2_1.y hw.up)  hx40)) rfl ?_
     rintro v60 Φ_29 F27 ⟨ap27,fr27,v61,D46,v62,D47,rfl,rfl,h42,h43⟩
     replace h29:=h29.fr fr27 (ap27.q 6 rfl) (ap27.q 7 rfl)
     replace h30:=h30.fr fr27 (ap27.q 8 rfl) (ap27.q 9 rfl)
     replace h39:=h39.fr fr27 (ap27.q 4 rfl) (ap27.q 5 rfl)
     replace h40:=h40.fr fr27 (ap27.q 0 rfl) (ap27.q 1 rfl)
     replace h41:=h41.fr fr27 (ap27.q 2 rfl) (ap27.q 3 rfl)
     replace k1:=k1.fr fr27 (ap27.q 34 rfl) (ap27.q 35 rfl)
     replace k2:=k2.fr fr27 (ap27.q 36 rfl) (ap27.q 37 rfl)
     refine WM.two 7 10 (by kernel_rfl) ?_ ?_
     ·obtain ⟨x41,hx41,h⟩:=bs h
      refine mc rfl (fun _ v Φx D w1 hq hw=>Kn.of Kf.nil (am [0,1,2,3,4,5,6,7,8,9] rfl) hw) (aU (js:=[]) (R:=[ob v61,D46,ob v62,D47,ob v58,D44,ob v59,D45,ob v56,D43,ob v25,D31,ob v26,D32,ob v23,D30,ob v20,D28,ob v21,D29,ob v17,D26,ob v18,D27,ob v15,D25,ob v36,D24,ob v33,D22,ob v34,D23,ob v30,D20,ob v31,D21,ob v28,D19,ob u1,D9,ob u2,D10]) qR rfl rfl (fun w1 hw ap hl=>bV N (ba hw.fro) p3 (ph3_0.y hw.up)  hx41)) rfl ?_
      rintro v63 Φ_30 F28 ⟨ap28,fr28,v64,D48,rfl,rfl,h44⟩
      replace h29:=h29.fr fr28 (ap28.q 10 rfl) (ap28.q 11 rfl)
      replace h30:=h30.fr fr28 (ap28.q 12 rfl) (ap28.q 13 rfl)
      replace h39:=h39.fr fr28 (ap28.q 8 rfl) (ap28.q 9 rfl)
      replace h40:=h40.fr fr28 (ap28.q 4 rfl) (ap28.q 5 rfl)
      replace h41:=h41.fr fr28 (ap28.q 6 rfl) (ap28.q 7 rfl)
      replace h42:=h42.fr fr28 (ap28.q 0 rfl) (ap28.q 1 rfl)
      replace h43:=h43.fr fr28 (ap28.q 2 rfl) (ap28.q 3 rfl)
      replace k1:=k1.fr fr28 (ap28.q 38 rfl) (ap28.q 39 rfl)
      replace k2:=k2.fr fr28 (ap28.q 40 rfl) (ap28.q 41 rfl)
      refine WM.two 9 10 (by kernel_rfl) ?_ ?_
      ·obtain ⟨x42,hx42,h⟩:=bs h
       refine mc rfl (fun _ v Φx D w1 hq hw=>Kn.of Kf.nil (am [0,1,2,3,4,5,6,7,8,9] rfl) hw) (aU (js:=[]) (R:=[ob v64,D48,ob v61,D46,ob v62,D47,ob v58,D44,ob v59,D45,ob v56,D43,ob v25,D31,ob v26,D32,ob v23,D30,ob v20,D28,ob v21,D29,ob v17,D26,ob v18,D27,ob v15,D25,ob v36,D24,ob v33,D22,ob v34,D23,ob v30,D20,ob v31,D21,ob v28,D19,ob u1,D9,ob u2,D10]) wh rfl rfl (fun w1 hw ap hl=>fj N (ba hw.fro) x38 x39 x40 x41 p4 (h39.rslG bJ.gives) (h40.rslG aK.gives) (h41.rslG aD.gives) (h42.rslG aF.gives) (h43.rslG aM.gives) (h44.rslG bC.gives)  hx42)) rfl ?_
       rintro v65 Φ_31 F29 ⟨ap29,fr29,v66,D49,v67,D50,rfl,rfl,h45,h46⟩
       replace h29:=h29.fr fr29 (ap29.q 12 rfl) (ap29.q 13 rfl)
       replace h30:=h30.fr fr29 (ap29.q 14 rfl) (ap29.q 15 rfl)
       replace k1:=k1.fr fr29 (ap29.q 40 rfl) (ap29.q 41 rfl)
       replace k2:=k2.fr fr29 (ap29.q 42 rfl) (ap29.q 43 rfl)
       refine on1 10 (mn rfl (kB [1,2,3,4,5,6,7,8,9,10]) (nz iG) rfl (fun b_14=>?_))
       refine on1 11 (msN 0 rfl nk kg rfl ⟨h45.one,h46.one,trivial⟩ rfl rfl ?_)
       refine WM.nil (by kernel_rfl) ?_
       exact wo [0,0,0,0,12,12,12,12,36,36,36,36] [0,0,4] (K (_,_,_,_,_,_,_,_) ⟨h,h29,h30,h45,h46,k1,k2⟩)
      refine mn rfl (fun _ b w1 hw=>Kn.of Kf.nil (am [1,2,3,4,5,6,7,8,9,10] rfl) hw) (nz iG) rfl (fun b_15=>?_)
      obtain ⟨x43,hx43,h⟩:=bs h
      refine WM.one 9 (by kernel_rfl) (mc rfl (fun _ v Φx D w1 hq hw=>Kn.of Kf.nil (am [1,2,3,4,5,6,7,8,9,10] rfl) hw) (aU (js:=[]) (R:=[ob v64,D48,ob v61,D46,ob v62,D47,ob v58,D44,ob v59,D45,ob v56,D43,ob v25,D31,ob v26,D32,ob v23,D30,ob v20,D28,ob v21,D29,ob v17,D26,ob v18,D27,ob v15,D25,ob v36,D24,ob v33,D22,ob v34,D23,ob v30,D20,ob v31,D21,ob v28,D19,ob u1,D9,ob u2,D10]) wh rfl rfl (fun w1 hw ap hl=>fj N (ba hw.fro) x38 x39 x40 x41 p4 (h39.rslG bJ.gives) (h40.rslG aK.gives) (h41.rslG aD.gives) (h42.rslG aF.gives) (h43.rslG aM.gives) (h44.rslG bC.gives)  hx43)) rfl ?_)
      rintro v68 Φ_32 F30 ⟨ap30,fr30,v69,D51,v70,D52,rfl,rfl,h47,h48⟩
      replace h29:=h29.fr fr30 (ap30.q 12 rfl) (ap30.q 13 rfl)
      replace h30:=h30.fr fr30 (ap30.q 14 rfl) (ap30.q 15 rfl)
      replace k1:=k1.fr fr30 (ap30.q 40 rfl) (ap30.q 41 rfl)
      replace k2:=k2.fr fr30 (ap30.q 42 rfl) (ap30.q 43 rfl)
      refine on1 11 (msN 0 rfl nk kg rfl ⟨h47.one,h48.one,trivial⟩ rfl rfl ?_)
      refine WM.nil (by kernel_rfl) ?_
      exact wo [0,0,0,0,12,12,12,12,36,36,36,36] [0,0,4] (K (_,_,_,_,_,_,_,_) ⟨h,h29,h30,h47,h48,k1,k2⟩)
     refine mn rfl (fun _ b w1 hw=>Kn.of Kf.nil (am [1,2,3,4,5,6,7,8,9,10] rfl) hw) (nz iG) rfl (fun b_16=>?_)
     obtain ⟨x44,hx44,h⟩:=bs h
     refine WM.one 7 (by kernel_rfl) (mc rfl (fun _ v Φx D w1 hq hw=>Kn.of Kf.nil (am [1,2,3,4,5,6,7,8,9,10] rfl) hw) (aU (js:=[]) (R:=[ob v61,D46,ob v62,D47,ob v58,D44,ob v59,D45,ob v56,D43,ob v25,D31,ob v26,D32,ob v23,D30,ob v20,D28,ob v21,D29,ob v17,D26,ob v18,D27,ob v15,D25,ob v36,D24,ob v33,D22,ob v34,D23,ob v30,D20,ob v31,D21,ob v28,D19,ob u1,D9,ob u2,D10]) qR rfl rfl (fun w1 hw ap hl=>bV N (ba hw.fro) p3 (ph3_0.y hw.up)  hx44)) rfl ?_)
     rintro v71 Φ_33 F31 ⟨ap31,fr31,v72,D53,rfl,rfl,h49⟩
     replace h29:=h29.fr fr31 (ap31.q 10 rfl) (ap31.q 11 rfl)
     replace h30:=h30.fr fr31 (ap31.q 12 rfl) (ap31.q 13 rfl)
     replace h39:=h39.fr fr31 (ap31.q 8 rfl) (ap31.q 9 rfl)
     replace h40:=h40.fr fr31 (ap31.q 4 rfl) (ap31.q 5 rfl)
     replace h41:=h41.fr fr31 (ap31.q 6 rfl) (ap31.q 7 rfl)
     replace h42:=h42.fr fr31 (ap31.q 0 rfl) (ap31.q 1 rfl)
     replace h43:=h43.fr fr31 (ap31.q 2 rfl) (ap31.q 3 rfl)
     replace k1:=k1.fr fr31 (ap31.q 38 rfl) (ap31.q 39 rfl)
     replace k2:=k2.fr fr31 (ap31.q 40 rfl) (ap31.q 41 rfl)
     obtain ⟨x45,hx45,h⟩:=bs h
     refine WM.one 9 (by kernel_rfl) (mc rfl (fun _ v Φx D w1 hq hw=>Kn.of Kf.nil (am [1,2,3,4,5,6,7,8,9,10] rfl) hw) (aU (js:=[]) (R:=[ob v72,D53,ob v61,D46,ob v62,D47,ob v58,D44,ob v59,D45,ob v56,D43,ob v25,D31,ob v26,D32,ob v23,D30,ob v20,D28,ob v21,D29,ob v17,D26,ob v18,D27,ob v15,D25,ob v36,D24,ob v33,D22,ob v34,D23,ob v30,D20,ob v31,D21,ob v28,D19,ob u1,D9,ob u2,D10]) wh rfl rfl (fun w1 hw ap hl=>fj N (ba hw.fro) x38 x39 x40 x44 p4 (h39.rslG bJ.gives) (h40.rslG aK.gives) (h41.rslG aD.gives) (h42.rslG aF.gives) (h43.rslG aM.gives) (h49.rslG bC.gives)  hx45)) rfl ?_)
     rintro v73 Φ_34 F32 ⟨ap32,fr32,v74,D54,v75,D55,rfl,rfl,h50,h51⟩
     replace h29:=h29.fr fr32 (ap32.q 12 rfl) (ap32.q 13 rfl)
     replace h30:=h30.fr fr32 (ap32.q 14 rfl) (ap32.q 15 rfl)
     replace k1:=k1.fr fr32 (ap32.q 40 rfl) (ap32.q 41 rfl)
     replace k2:=k2.fr fr32 (ap32.q 42 rfl) (ap32.q 43 rfl)
     refine on1 11 (msN 0 rfl nk kg rfl ⟨h50.one,h51.one,trivial⟩ rfl rfl ?_)
     refine WM.nil (by kernel_rfl) ?_
     exact wo [0,0,0,0,12,12,12,12,36,36,36,36] [0,0,4] (K (_,_,_,_,_,_,_,_) ⟨h,h29,h30,h50,h51,k1,k2⟩)
    refine mn rfl (fun _ b w1 hw=>Kn.of Kf.nil (am [1,2,3,4,5,6,7,8,9,10] rfl) hw) (nz iG) rfl (fun b_17=>?_)
    obtain ⟨x46,hx46,h⟩:=bs h
    refine WM.one 5 (by kernel_rfl) (mc rfl (fun _ v Φx D w1 hq hw=>Kn.of Kf.nil (am [1,2,3,4,5,6,7,8,9,10] rfl) hw) (aU (js:=[]) (R:=[ob v58,D44,ob v59,D45,ob v56,D43,ob v25,D31,ob v26,D32,ob v23,D30,ob v20,D28,ob v21,D29,ob v17,D26,ob v18,D27,ob v15,D25,ob v36,D24,ob v33,D22,ob v34,D23,ob v30,D20,ob v31,D21,ob v28,D19,ob u1,D9,ob u2,D10]) sQ rfl rfl (fun w1 hw ap hl=>eD N (ba hw.fro) p2 (ph2_0.y hw.up) (ph2_1.y hw.up)  hx46)) rfl ?_)
    rintro v76 Φ_35 F33 ⟨ap33,fr33,v77,D56,v78,D57,rfl,rfl,h52,h53⟩
    replace h29:=h29.fr fr33 (ap33.q 6 rfl) (ap33.q 7 rfl)
    replace h30:=h30.fr fr33 (ap33.q 8 rfl) (ap33.q 9 rfl)
    replace h39:=h39.fr fr33 (ap33.q 4 rfl) (ap33.q 5 rfl)
    replace h40:=h40.fr fr33 (ap33.q 0 rfl) (ap33.q 1 rfl)
    replace h41:=h41.fr fr33 (ap33.q 2 rfl) (ap33.q 3 rfl)
    replace k1:=k1.fr fr33 (ap33.q 34 rfl) (ap33.q 35 rfl)
    replace k2:=k2.fr fr33 (ap33.q 36 rfl) (ap33.q 37 rfl)
    obtain ⟨x47,hx47,h⟩:=bs h
    refine WM.one 7 (by kernel_rfl) (mc rfl (fun _ v Φx D w1 hq hw=>Kn.of Kf.nil (am [1,2,3,4,5,6,7,8,9,10] rfl) hw) (aU (js:=[]) (R:=[ob v77,D56,ob v78,D57,ob v58,D44,ob v59,D45,ob v56,D43,ob v25,D31,ob v26,D32,ob v23,D30,ob v20,D28,ob v21,D29,ob v17,D26,ob v18,D27,ob v15,D25,ob v36,D24,ob v33,D22,ob v34,D23,ob v30,D20,ob v31,D21,ob v28,D19,ob u1,D9,ob u2,D10]) qR rfl rfl (fun w1 hw ap hl=>bV N (ba hw.fro) p3 (ph3_0.y hw.up)  hx47)) rfl ?_)
    rintro v79 Φ_36 F34 ⟨ap34,fr34,v80,D58,rfl,rfl,h54⟩
    replace h29:=h29.fr fr34 (ap34.q 10 rfl) (ap34.q 11 rfl)
    replace h30:=h30.fr fr34 (ap34.q 12 rfl) (ap34.q 13 rfl)
    replace h39:=h39.fr fr34 (ap34.q 8 rfl) (ap34.q 9 rfl)
    replace h40:=h40.fr fr34 (ap34.q 4 rfl) (ap34.q 5 rfl)
    replace h41:=h41.fr fr34 (ap34.q 6 rfl) (ap34.q 7 rfl)
    replace h52:=h52.fr fr34 (ap34.q 0 rfl) (ap34.q 1 rfl)
    replace h53:=h53.fr fr34 (ap34.q 2 rfl) (ap34.q 3 rfl)
    replace k1:=k1.fr fr34 (ap34.q 38 rfl) (ap34.q 39 rfl)
    replace k2:=k2.fr fr34 (ap34.q 40 rfl) (ap34.q 41 rfl)
    obtain ⟨x48,hx48,h⟩:=bs h
    refine WM.one 9 (by kernel_rfl) (mc rfl (fun _ v Φx D w1 hq hw=>Kn.of Kf.nil (am [1,2,3,4,5,6,7,8,9,10] rfl) hw) (aU (js:=[]) (R:=[ob v80,D58,ob v77,D56,ob v78,D57,ob v58,D44,ob v59,D45,ob v56,D43,ob v25,D31,ob v26,D32,ob v23,D30,ob v20,D28,ob v21,D29,ob v17,D26,ob v18,D27,ob v15,D25,ob v36,D24,ob v33,D22,ob v34,D23,ob v30,D20,ob v31,D21,ob v28,D19,ob u1,D9,ob u2,D10]) wh rfl rfl (fun w1 hw ap hl=>fj N (ba hw.fro) x38 x39 x46 x47 p4 (h39.rslG bJ.gives) (h40.rslG aK.gives) (h41.rslG aD.gives) (h52.rslG aF.gives) (h53.rslG aM.gives) (h54.rslG bC.gives)  hx48)) rfl ?_)
    rintro v81 Φ_37 F35 ⟨ap35,fr35,v82,D59,v83,D60,rfl,rfl,h55,h56⟩
    replace h29:=h29.fr fr35 (ap35.q 12 rfl) (ap35.q 13 rfl)
    replace h30:=h30.fr fr35 (ap35.q 14 rfl) (ap35.q 15 rfl)
    replace k1:=k1.fr fr35 (ap35.q 40 rfl) (ap35.q 41 rfl)
    replace k2:=k2.fr fr35 (ap35.q 42 rfl) (ap35.q 43 rfl)
    refine on1 11 (msN 0 rfl nk kg rfl ⟨h55.one,h56.one,trivial⟩ rfl rfl ?_)
    refine WM.nil (by kernel_rfl) ?_
    exact wo [0,0,0,0,12,12,12,12,36,36,36,36] [0,0,4] (K (_,_,_,_,_,_,_,_) ⟨h,h29,h30,h55,h56,k1,k2⟩)
   refine mn rfl (fun _ b w1 hw=>Kn.of Kf.nil (am [1,2,3,4,5,6,7,8,9,10] rfl) hw) (nz iG) rfl (fun b_18=>?_)
   obtain ⟨x49,hx49,h⟩:=bs h
   refine WM.one 3 (by kernel_rfl) (mc rfl (fun _ v Φx D w1 hq hw=>Kn.of Kf.nil (am [1,2,3,4,5,6,7,8,9,10] rfl) hw) (aU (js:=[]) (R:=[ob v56,D43,ob v25,D31,ob v26,D32,ob v23,D30,ob v20,D28,ob v21,D29,ob v17,D26,ob v18,D27,ob v15,D25,ob v36,D24,ob v33,D22,ob v34,D23,ob v30,D20,ob v31,D21,ob v28,D19,ob u1,D9,ob u2,D10]) ve rfl rfl (fun w1 hw ap hl=>gG N (ba hw.fro) p1 (ph1_0.y hw.up) (ph1_1.y hw.up)  hx49)) rfl ?_)
   rintro v84 Φ_38 F36 ⟨ap36,fr36,v85,D61,v86,D62,rfl,rfl,h57,h58⟩
   replace h29:=h29.fr fr36 (ap36.q 2 rfl) (ap36.q 3 rfl)
   replace h30:=h30.fr fr36 (ap36.q 4 rfl) (ap36.q 5 rfl)
   replace h39:=h39.fr fr36 (ap36.q 0 rfl) (ap36.q 1 rfl)
   replace k1:=k1.fr fr36 (ap36.q 30 rfl) (ap36.q 31 rfl)
   replace k2:=k2.fr fr36 (ap36.q 32 rfl) (ap36.q 33 rfl)
   obtain ⟨x50,hx50,h⟩:=bs h
   refine WM.one 5 (by kernel_rfl) (mc rfl (fun _ v Φx D w1 hq hw=>Kn.of Kf.nil (am [1,2,3,4,5,6,7,8,9,10] rfl) hw) (aU (js:=[]) (R:=[ob v85,D61,ob v86,D62,ob v56,D43,ob v25,D31,ob v26,D32,ob v23,D30,ob v20,D28,ob v21,D29,ob v17,D26,ob v18,D27,ob v15,D25,ob v36,D24,ob v33,D22,ob v34,D23,ob v30,D20,ob v31,D21,ob v28,D19,ob u1,D9,ob u2,D10]) sQ rfl rfl (fun w1 hw ap hl=>eD N (ba hw.fro) p2 (ph2_0.y hw.up) (ph2_1.y hw.up)  hx50)) rfl ?_)
   rintro v87 Φ_39 F37 ⟨ap37,fr37,v88,D63,v89,D64,rfl,rfl,h59,h60⟩
   replace h29:=h29.fr fr37 (ap37.q 6 rfl) (ap37.q 7 rfl)
   replace h30:=h30.fr fr37 (ap37.q 8 rfl) (ap37.q 9 rfl)
   replace h39:=h39.fr fr37 (ap37.q 4 rfl) (ap37.q 5 rfl)
   replace h57:=h57.fr fr37 (ap37.q 0 rfl) (ap37.q 1 rfl)
   replace h58:=h58.fr fr37 (ap37.q 2 rfl) (ap37.q 3 rfl)
   replace k1:=k1.fr fr37 (ap37.q 34 rfl) (ap37.q 35 rfl)
   replace k2:=k2.fr fr37 (ap37.q 36 rfl) (ap37.q 37 rfl)
   obtain ⟨x51,hx51,h⟩:=bs h
   refine WM.one 7 (by kernel_rfl) (mc rfl (fun _ v Φx D w1 hq hw=>Kn.of Kf.nil (am [1,2,3,4,5,6,7,8,9,10] rfl) hw) (aU (js:=[]) (R:=[ob v88,D63,ob v89,D64,ob v85,D61,ob v86,D62,ob v56,D43,ob v25,D31,ob v26,D32,ob v23,D30,ob v20,D28,ob v21,D29,ob v17,D26,ob v18,D27,ob v15,D25,ob v36,D24,ob v33,D22,ob v34,D23,ob v30,D20,ob v31,D21,ob v28,D19,ob u1,D9,ob u2,D10]) qR rfl rfl (fun w1 hw ap hl=>bV N (ba hw.fro) p3 (ph3_0.y hw.up)  hx51)) rfl ?_)
   rintro v90 Φ_40 F38 ⟨ap38,fr38,v91,D65,rfl,rfl,h61⟩
   replace h29:=h29.fr fr38 (ap38.q 10 rfl) (ap38.q 11 rfl)
   replace h30:=h30.fr fr38 (ap38.q 12 rfl) (ap38.q 13 rfl)
   replace h39:=h39.fr fr38 (ap38.q 8 rfl) (ap38.q 9 rfl)
   replace h57:=h57.fr fr38 (ap38.q 4 rfl) (ap38.q 5 rfl)
   replace h58:=h58.fr fr38 (ap38.q 6 rfl) (ap38.q 7 rfl)
   replace h59:=h59.fr fr38 (ap38.q 0 rfl) (ap38.q 1 rfl)
   replace h60:=h60.fr fr38 (ap38.q 2 rfl) (ap38.q 3 rfl)
   replace k1:=k1.fr fr38 (ap38.q 38 rfl) (ap38.q 39 rfl)
   replace k2:=k2.fr fr38 (ap38.q 40 rfl) (ap38.q 41 rfl)
   obtain ⟨x52,hx52,h⟩:=bs h
   refine WM.one 9 (by kernel_rfl) (mc rfl (fun _ v Φx D w1 hq hw=>Kn.of Kf.nil (am [1,2,3,4,5,6,7,8,9,10] rfl) hw) (aU (js:=[]) (R:=[ob v91,D65,ob v88,D63,ob v89,D64,ob v85,D61,ob v86,D62,ob v56,D43,ob v25,D31,ob v26,D32,ob v23,D30,ob v20,D28,ob v21,D29,ob v17,D26,ob v18,D27,ob v15,D25,ob v36,D24,ob v33,D22,ob v34,D23,ob v30,D20,ob v31,D21,ob v28,D19,ob u1,D9,ob u2,D10]) wh rfl rfl (fun w1 hw ap hl=>fj N (ba hw.fro) x38 x49 x50 x51 p4 (h39.rslG bJ.gives) (h57.rslG aK.gives) (h58.rslG aD.gives) (h59.rslG aF.gives) (h60.rslG aM.gives) (h61.rslG bC.gives)  hx52)) rfl ?_)
   rintro v92 Φ_41 F39 ⟨ap39,fr39,v93,D66,v94,D67,rfl,rfl,h62,h63⟩
   replace h29:=h29.fr fr39 (ap39.q 12 rfl) (ap39.q 13 rfl)
   replace h30:=h30.fr fr39 (ap39.q 14 rfl) (ap39.q 15 rfl)
   replace k1:=k1.fr fr39 (ap39.q 40 rfl) (ap39.q 41 rfl)
   replace k2:=k2.fr fr39 (ap39.q 42 rfl) (ap39.q 43 rfl)
   refine on1 11 (msN 0 rfl nk kg rfl ⟨h62.one,h63.one,trivial⟩ rfl rfl ?_)
   refine WM.nil (by kernel_rfl) ?_
   exact wo [0,0,0,0,12,12,12,12,36,36,36,36] [0,0,4] (K (_,_,_,_,_,_,_,_) ⟨h,h29,h30,h62,h63,k1,k2⟩)
  refine mn rfl (fun _ b w1 hw=>Kn.of Kf.nil (am [1,2,3,4,5,6,7,8,9,10] rfl) hw) (nz iG) rfl (fun b_19=>?_)
  obtain ⟨x53,hx53,h⟩:=bs h
  refine WM.one 1 (by kernel_rfl) (mc rfl (fun _ v Φx D w1 hq hw=>Kn.of Kf.nil (am [1,2,3,4,5,6,7,8,9,10] rfl) hw) (aU (js:=[]) (R:=[ob v25,D31,ob v26,D32,ob v23,D30,ob v20,D28,ob v21,D29,ob v17,D26,ob v18,D27,ob v15,D25,ob v36,D24,ob v33,D22,ob v34,D23,ob v30,D20,ob v31,D21,ob v28,D19,ob u1,D9,ob u2,D10]) EB rfl rfl (fun w1 hw ap hl=>jN N (ba hw.fro) p0 (ph0_0.y hw.up)  hx53)) rfl ?_)
  rintro v95 Φ_42 F40 ⟨ap40,fr40,v96,D68,rfl,rfl,h64⟩
  replace h29:=h29.fr fr40 (ap40.q 0 rfl) (ap40.q 1 rfl)
  replace h30:=h30.fr fr40 (ap40.q 2 rfl) (ap40.q 3 rfl)
  replace k1:=k1.fr fr40 (ap40.q 28 rfl) (ap40.q 29 rfl)
  replace k2:=k2.fr fr40 (ap40.q 30 rfl) (ap40.q 31 rfl)
  obtain ⟨x54,hx54,h⟩:=bs h
  refine WM.one 3 (by kernel_rfl) (mc rfl (fun _ v Φx D w1 hq hw=>Kn.of Kf.nil (am [1,2,3,4,5,6,7,8,9,10] rfl) hw) (aU (js:=[]) (R:=[ob v96,D68,ob v25,D31,ob v26,D32,ob v23,D30,ob v20,D28,ob v21,D29,ob v17,D26,ob v18,D27,ob v15,D25,ob v36,D24,ob v33,D22,ob v34,D23,ob v30,D20,ob v31,D21,ob v28,D19,ob u1,D9,ob u2,D10]) ve rfl rfl (fun w1 hw ap hl=>gG N (ba hw.fro) p1 (ph1_0.y hw.up) (ph1_1.y hw.up)  hx54)) rfl ?_)
  rintro v97 Φ_43 F41 ⟨ap41,fr41,v98,D69,v99,D70,rfl,rfl,h65,h66⟩
  replace h29:=h29.fr fr41 (ap41.q 2 rfl) (ap41.q 3 rfl)
  replace h30:=h30.fr fr41 (ap41.q 4 rfl) (ap41.q 5 rfl)
  replace h64:=h64.fr fr41 (ap41.q 0 rfl) (ap41.q 1 rfl)
  replace k1:=k1.fr fr41 (ap41.q 30 rfl) (ap41.q 31 rfl)
  replace k2:=k2.fr fr41 (ap41.q 32 rfl) (ap41.q 33 rfl)
  obtain ⟨x55,hx55,h⟩:=bs h
  refine WM.one 5 (by kernel_rfl) (mc rfl (fun _ v Φx D w1 hq hw=>Kn.of Kf.nil (am [1,2,3,4,5,6,7,8,9,10] rfl) hw) (aU (js:=[]) (R:=[ob v98,D69,ob v99,D70,ob v96,D68,ob v25,D31,ob v26,D32,ob v23,D30,ob v20,D28,ob v21,D29,ob v17,D26,ob v18,D27,ob v15,D25,ob v36,D24,ob v33,D22,ob v34,D23,ob v30,D20,ob v31,D21,ob v28,D19,ob u1,D9,ob u2,D10]) sQ rfl rfl (fun w1 hw ap hl=>eD N (ba hw.fro) p2 (ph2_0.y hw.up) (ph2_1.y hw.up)  hx55)) rfl ?_)
  rintro v100 Φ_44 F42 ⟨ap42,fr42,v101,D71,v102,D72,rfl,rfl,h67,h68⟩
  replace h29:=h29.fr fr42 (ap42.q 6 rfl) (ap42.q 7 rfl)
  replace h30:=h30.fr fr42 (ap42.q 8 rfl) (ap42.q 9 rfl)
  replace h64:=h64.fr fr42 (ap42.q 4 rfl) (ap42.q 5 rfl)
  replace h65:=h65.fr fr42 (ap42.q 0 rfl) (ap42.q 1 rfl)
  replace h66:=h66.fr fr42 (ap42.q 2 rfl) (ap42.q 3 rfl)
  replace k1:=k1.fr fr42 (ap42.q 34 rfl) (ap42.q 35 rfl)
  replace k2:=k2.fr fr42 (ap42.q 36 rfl) (ap42.q 37 rfl)
  obtain ⟨x56,hx56,h⟩:=bs h
  refine WM.one 7 (by kernel_rfl) (mc rfl (fun _ v Φx D w1 hq hw=>Kn.of Kf.nil (am [1,2,3,4,5,6,7,8,9,10] rfl) hw) (aU (js:=[]) (R:=[ob v101,D71,ob v102,D72,ob v98,D69,ob v99,D70,ob v96,D68,ob v25,D31,ob v26,D32,ob v23,D30,ob v20,D28,ob v21,D29,ob v17,D26,ob v18,D27,ob v15,D25,ob v36,D24,ob v33,D22,ob v34,D23,ob v30,D20,ob v31,D21,ob v28,D19,ob u1,D9,ob u2,D10]) qR rfl rfl (fun w1 hw ap hl=>bV N (ba hw.fro) p3 (ph3_0.y hw.up)  hx56)) rfl ?_)
  rintro v103 Φ_45 F43 ⟨ap43,fr43,v104,D73,rfl,rfl,h69⟩
  replace h29:=h29.fr fr43 (ap43.q 10 rfl) (ap43.q 11 rfl)
  replace h30:=h30.fr fr43 (ap43.q 12 rfl) (ap43.q 13 rfl)
  replace h64:=h64.fr fr43 (ap43.q 8 rfl) (ap43.q 9 rfl)
  replace h65:=h65.fr fr43 (ap43.q 4 rfl) (ap43.q 5 rfl)
  replace h66:=h66.fr fr43 (ap43.q 6 rfl) (ap43.q 7 rfl)
  replace h67:=h67.fr fr43 (ap43.q 0 rfl) (ap43.q 1 rfl)
  replace h68:=h68.fr fr43 (ap43.q 2 rfl) (ap43.q 3 rfl)
  replace k1:=k1.fr fr43 (ap43.q 38 rfl) (ap43.q 39 rfl)
  replace k2:=k2.fr fr43 (ap43.q 40 rfl) (ap43.q 41 rfl)
  obtain ⟨x57,hx57,h⟩:=bs h
  refine WM.one 9 (by kernel_rfl) (mc rfl (fun _ v Φx D w1 hq hw=>Kn.of Kf.nil (am [1,2,3,4,5,6,7,8,9,10] rfl) hw) (aU (js:=[]) (R:=[ob v104,D73,ob v101,D71,ob v102,D72,ob v98,D69,ob v99,D70,ob v96,D68,ob v25,D31,ob v26,D32,ob v23,D30,ob v20,D28,ob v21,D29,ob v17,D26,ob v18,D27,ob v15,D25,ob v36,D24,ob v33,D22,ob v34,D23,ob v30,D20,ob v31,D21,ob v28,D19,ob u1,D9,ob u2,D10]) wh rfl rfl (fun w1 hw ap hl=>fj N (ba hw.fro) x53 x54 x55 x56 p4 (h64.rslG bJ.gives) (h65.rslG aK.gives) (h66.rslG aD.gives) (h67.rslG aF.gives) (h68.rslG aM.gives) (h69.rslG bC.gives)  hx57)) rfl ?_)
  rintro v105 Φ_46 F44 ⟨ap44,fr44,v106,D74,v107,D75,rfl,rfl,h70,h71⟩
  replace h29:=h29.fr fr44 (ap44.q 12 rfl) (ap44.q 13 rfl)
  replace h30:=h30.fr fr44 (ap44.q 14 rfl) (ap44.q 15 rfl)
  replace k1:=k1.fr fr44 (ap44.q 40 rfl) (ap44.q 41 rfl)
  replace k2:=k2.fr fr44 (ap44.q 42 rfl) (ap44.q 43 rfl)
  refine on1 11 (msN 0 rfl nk kg rfl ⟨h70.one,h71.one,trivial⟩ rfl rfl ?_)
  refine WM.nil (by kernel_rfl) ?_
  exact wo [0,0,0,0,12,12,12,12,36,36,36,36] [0,0,4] (K (_,_,_,_,_,_,_,_) ⟨h,h29,h30,h70,h71,k1,k2⟩)
 refine wm [0,1,2,3] [11] rfl<|amm 5 [0,98,2,66,4,34,6,2,8] [0,1,2,3] rfl rfl ?_
 refine WM.two 1 10 (by kernel_rfl) ?_ ?_
 ·obtain ⟨x58,hx58,h⟩:=bs h
  refine mc rfl (fun _ v Φx D w1 hq hw=>Kn.of Kf.nil (am [0,1,2,3] rfl) hw) (aU (js:=[]) (R:=[]) EB rfl rfl (fun w1 hw ap hl=>jN N (ba hw.fro) p0 (ph0_0.y hw.up)  hx58)) rfl ?_
  rintro v108 Φ_47 F45 ⟨ap45,fr45,v109,D76,rfl,rfl,h72⟩
  refine WM.two 3 10 (by kernel_rfl) ?_ ?_
  ·obtain ⟨x59,hx59,h⟩:=bs h
   refine mc rfl (fun _ v Φx D w1 hq hw=>Kn.of Kf.nil (am [0,1,2,3] rfl) hw) (aU (js:=[]) (R:=[ob v109,D76]) ve rfl rfl (fun w1 hw ap hl=>gG N (ba hw.fro) p1 (ph1_0.y hw.up) (ph1_1.y hw.up)  hx59)) rfl ?_
   rintro v110 Φ_48 F46 ⟨ap46,fr46,v111,D77,v112,D78,rfl,rfl,h73,h74⟩
   replace h72:=h72.fr fr46 (ap46.q 0 rfl) (ap46.q 1 rfl)
   refine WM.two 5 10 (by kernel_rfl) ?_ ?_
   ·obtain ⟨x60,hx60,h⟩:=bs h
    refine mc rfl (fun _ v Φx D w1 hq hw=>Kn.of Kf.nil (am [0,1,2,3] rfl) hw) (aU (js:=[]) (R:=[ob v111,D77,ob v112,D78,ob v109,D76]) sQ rfl rfl (fun w1 hw ap hl=>eD N (ba hw.fro) p2 (ph2_0.y hw.up) (ph2_1.y hw.up)  hx60)) rfl ?_
    rintro v113 Φ_49 F47 ⟨ap47,fr47,v114,D79,v115,D80,rfl,rfl,h75,h76⟩
    replace h72:=h72.fr fr47 (ap47.q 4 rfl) (ap47.q 5 rfl)
    replace h73:=h73.fr fr47 (ap47.q 0 rfl) (ap47.q 1 rfl)
    replace h74:=h74.fr fr47 (ap47.q 2 rfl) (ap47.q 3 rfl)
    refine WM.two 7 10 (by kernel_rfl) ?_ ?_
    ·obtain ⟨x61,hx61,h⟩:=bs h
     refine mc rfl (fun _ v Φx D w1 hq hw=>Kn.of Kf.nil (am [0,1,2,3] rfl) hw) (aU (js:=[]) (R:=[ob v114,D79,ob v115,D80,ob v111,D77,ob v112,D78,ob v109,D76]) qR rfl rfl (fun w1 hw ap hl=>bV N (ba hw.fro) p3 (ph3_0.y hw.up)  hx61)) rfl ?_
     rintro v116 Φ_50 F48 ⟨ap48,fr48,v117,D81,rfl,rfl,h77⟩
     replace h72:=h72.fr fr48 (ap48.q 8 rfl) (ap48.q 9 rfl)
     replace h73:=h73.fr fr48 (ap48.q 4 rfl) (ap48.q 5 rfl)
     replace h74:=h74.fr fr48 (ap48.q 6 rfl) (ap48.q 7 rfl)
     replace h75:=h75.fr fr48 (ap48.q 0 rfl) (ap48.q 1 rfl)
     replace h76:=h76.fr fr48 (ap48.q 2 rfl) (ap48.q 3 rfl)
     refine WM.two 9 10 (by kernel_rfl) ?_ ?_
     ·obtain ⟨x62,hx62,h⟩:=bs h
      refine mc rfl (fun _ v Φx D w1 hq hw=>Kn.of Kf.nil (am [0,1,2,3] rfl) hw) (aU (js:=[]) (R:=[ob v117,D81,ob v114,D79,ob v115,D80,ob v111,D77,ob v112,D78,ob v109,D76]) Cf rfl rfl (fun w1 hw ap hl=>gu N (ba hw.fro) x58 x59 x60 x61 p4 (h72.rslG bJ.gives) (h73.rslG aK.gives) (h74.rslG aD.gives) (h75.rslG aF.gives) (h76.rslG aM.gives) (h77.rslG bC.gives)  hx62)) rfl ?_
      rintro v118 Φ_51 F49 ⟨ap49,fr49,v119,D82,v120,D83,rfl,rfl,h78,h79⟩
      refine on1 10 (mn rfl (kB [1,2,3,4]) (nz iG) rfl (fun b_20=>?_))
      refine on1 11 (msN 0 rfl nk kg rfl ⟨h78.one,h79.one,trivial⟩ rfl rfl ?_)
      refine WM.nil (by kernel_rfl) ?_
      exact wo [0,0,0,0] [0,0,0,0,0] (K (_,_,_,_,_,_,_,_) ⟨h,h78,h79⟩)
     refine mn rfl (fun _ b w1 hw=>Kn.of Kf.nil (am [1,2,3,4] rfl) hw) (nz iG) rfl (fun b_21=>?_)
     obtain ⟨x63,hx63,h⟩:=bs h
     refine WM.one 9 (by kernel_rfl) (mc rfl (fun _ v Φx D w1 hq hw=>Kn.of Kf.nil (am [1,2,3,4] rfl) hw) (aU (js:=[]) (R:=[ob v117,D81,ob v114,D79,ob v115,D80,ob v111,D77,ob v112,D78,ob v109,D76]) Cf rfl rfl (fun w1 hw ap hl=>gu N (ba hw.fro) x58 x59 x60 x61 p4 (h72.rslG bJ.gives) (h73.rslG aK.gives) (h74.rslG aD.gives) (h75.rslG aF.gives) (h76.rslG aM.gives) (h77.rslG bC.gives)  hx63)) rfl ?_)
     rintro v121 Φ_52 F50 ⟨ap50,fr50,v122,D84,v123,D85,rfl,rfl,h80,h81⟩
     refine on1 11 (msN 0 rfl nk kg rfl ⟨h80.one,h81.one,trivial⟩ rfl rfl ?_)
     refine WM.nil (by kernel_rfl) ?_
     exact wo [0,0,0,0] [0,0,0,0,0] (K (_,_,_,_,_,_,_,_) ⟨h,h80,h81⟩)
    refine mn rfl (fun _ b w1 hw=>Kn.of Kf.nil (am [1,2,3,4] rfl) hw) (nz iG) rfl (fun b_22=>?_)
    obtain ⟨x64,hx64,h⟩:=bs h
    refine WM.one 7 (by kernel_rfl) (mc rfl (fun _ v Φx D w1 hq hw=>Kn.of Kf.nil (am [1,2,3,4] rfl) hw) (aU (js:=[]) (R:=[ob v114,D79,ob v115,D80,ob v111,D77,ob v112,D78,ob v109,D76]) qR rfl rfl (fun w1 hw ap hl=>bV N (ba hw.fro) p3 (ph3_0.y hw.up)  hx64)) rfl ?_)
    rintro v124 Φ_53 F51 ⟨ap51,fr51,v125,D86,rfl,rfl,h82⟩
    replace h72:=h72.fr fr51 (ap51.q 8 rfl) (ap51.q 9 rfl)
    replace h73:=h73.fr fr51 (ap51.q 4 rfl) (ap51.q 5 rfl)
    replace h74:=h74.fr fr51 (ap51.q 6 rfl) (ap51.q 7 rfl)
    replace h75:=h75.fr fr51 (ap51.q 0 rfl) (ap51.q 1 rfl)
    replace h76:=h76.fr fr51 (ap51.q 2 rfl) (ap51.q 3 rfl)
    obtain ⟨x65,hx65,h⟩:=bs h
    refine WM.one 9 (by kernel_rfl) (mc rfl (fun _ v Φx D w1 hq hw=>Kn.of Kf.nil (am [1,2,3,4] rfl) hw) (aU (js:=[]) (R:=[ob v125,D86,ob v114,D79,ob v115,D80,ob v111,D77,ob v112,D78,ob v109,D76]) Cf rfl rfl (fun w1 hw ap hl=>gu N (ba hw.fro) x58 x59 x60 x64 p4 (h72.rslG bJ.gives) (h73.rslG aK.gives) (h74.rslG aD.gives) (h75.rslG aF.gives) (h76.rslG aM.gives) (h82.rslG bC.gives)  hx65)) rfl ?_)
    rintro v126 Φ_54 F52 ⟨ap52,fr52,v127,D87,v128,D88,rfl,rfl,h83,h84⟩
    refine on1 11 (msN 0 rfl nk kg rfl ⟨h83.one,h84.one,trivial⟩ rfl rfl ?_)
    refine WM.nil (by kernel_rfl) ?_
    exact wo [0,0,0,0] [0,0,0,0,0] (K (_,_,_,_,_,_,_,_) ⟨h,h83,h84⟩)
   refine mn rfl (fun _ b w1 hw=>Kn.of Kf.nil (am [1,2,3,4] rfl) hw) (nz iG) rfl (fun b_23=>?_)
   obtain ⟨x66,hx66,h⟩:=bs h
   refine WM.one 5 (by kernel_rfl) (mc rfl (fun _ v Φx D w1 hq hw=>Kn.of Kf.nil (am [1,2,3,4] rfl) hw) (aU (js:=[]) (R:=[ob v111,D77,ob v112,D78,ob v109,D76]) sQ rfl rfl (fun w1 hw ap hl=>eD N (ba hw.fro) p2 (ph2_0.y hw.up) (ph2_1.y hw.up)  hx66)) rfl ?_)
   rintro v129 Φ_55 F53 ⟨ap53,fr53,v130,D89,v131,D90,rfl,rfl,h85,h86⟩
   replace h72:=h72.fr fr53 (ap53.q 4 rfl) (ap53.q 5 rfl)
   replace h73:=h73.fr fr53 (ap53.q 0 rfl) (ap53.q 1 rfl)
   replace h74:=h74.fr fr53 (ap53.q 2 rfl) (ap53.q 3 rfl)
   obtain ⟨x67,hx67,h⟩:=bs h
   refine WM.one 7 (by kernel_rfl) (mc rfl (fun _ v Φx D w1 hq hw=>Kn.of Kf.nil (am [1,2,3,4] rfl) hw) (aU (js:=[]) (R:=[ob v130,D89,ob v131,D90,ob v111,D77,ob v112,D78,ob v109,D76]) qR rfl rfl (fun w1 hw ap hl=>bV N (ba hw.fro) p3 (ph3_0.y hw.up)  hx67)) rfl ?_)
   rintro v132 Φ_56 F54 ⟨ap54,fr54,v133,D91,rfl,rfl,h87⟩
   replace h72:=h72.fr fr54 (ap54.q 8 rfl) (ap54.q 9 rfl)
   replace h73:=h73.fr fr54 (ap54.q 4 rfl) (ap54.q 5 rfl)
   replace h74:=h74.fr fr54 (ap54.q 6 rfl) (ap54.q 7 rfl)
   replace h85:=h85.fr fr54 (ap54.q 0 rfl) (ap54.q 1 rfl)
   replace h86:=h86.fr fr54 (ap54.q 2 rfl) (ap54.q 3 rfl)
   obtain ⟨x68,hx68,h⟩:=bs h
   refine WM.one 9 (by kernel_rfl) (mc rfl (fun _ v Φx D w1 hq hw=>Kn.of Kf.nil (am [1,2,3,4] rfl) hw) (aU (js:=[]) (R:=[ob v133,D91,ob v130,D89,ob v131,D90,ob v111,D77,ob v112,D78,ob v109,D76]) Cf rfl rfl (fun w1 hw ap hl=>gu N (ba hw.fro) x58 x59 x66 x67 p4 (h72.rslG bJ.gives) (h73.rslG aK.gives) (h74.rslG aD.gives) (h85.rslG aF.gives) (h86.rslG aM.gives) (h87.rslG bC.gives)  hx68)) rfl ?_)
   rintro v134 Φ_57 F55 ⟨ap55,fr55,v135,D92,v136,D93,rfl,rfl,h88,h89⟩
   refine on1 11 (msN 0 rfl nk kg rfl ⟨h88.one,h89.one,trivial⟩ rfl rfl ?_)
   refine WM.nil (by kernel_rfl) ?_
   exact wo [0,0,0,0] [0,0,0,0,0] (K (_,_,_,_,_,_,_,_) ⟨h,h88,h89⟩)
  refine mn rfl (fun _ b w1 hw=>Kn.of Kf.nil (am [1,2,3,4] rfl) hw) (nz iG) rfl (fun b_24=>?_)
  obtain ⟨x69,hx69,h⟩:=bs h
  refine WM.one 3 (by kernel_rfl) (mc rfl (fun _ v Φx D w1 hq hw=>Kn.of Kf.nil (am [1,2,3,4] rfl) hw) (aU (js:=[]) (R:=[ob v109,D76]) ve rfl rfl (fun w1 hw ap hl=>gG N (ba hw.fro) p1 (ph1_0.y hw.up) (ph1_1.y hw.up)  hx69)) rfl ?_)
  rintro v137 Φ_58 F56 ⟨ap56,fr56,v138,D94,v139,D95,rfl,rfl,h90,h91⟩
  replace h72:=h72.fr fr56 (ap56.q 0 rfl) (ap56.q 1 rfl)
  obtain ⟨x70,hx70,h⟩:=bs h
  refine WM.one 5 (by kernel_rfl) (mc rfl (fun _ v Φx D w1 hq hw=>Kn.of Kf.nil (am [1,2,3,4] rfl) hw) (aU (js:=[]) (R:=[ob v138,D94,ob v139,D95,ob v109,D76]) sQ rfl rfl (fun w1 hw ap hl=>eD N (ba hw.fro) p2 (ph2_0.y hw.up) (ph2_1.y hw.up)  hx70)) rfl ?_)
  rintro v140 Φ_59 F57 ⟨ap57,fr57,v141,D96,v142,D97,rfl,rfl,h92,h93⟩
  replace h72:=h72.fr fr57 (ap57.q 4 rfl) (ap57.q 5 rfl)
  replace h90:=h90.fr fr57 (ap57.q 0 rfl) (ap57.q 1 rfl)
  replace h91:=h91.fr fr57 (ap57.q 2 rfl) (ap57.q 3 rfl)
  obtain ⟨x71,hx71,h⟩:=bs h
  refine WM.one 7 (by kernel_rfl) (mc rfl (fun _ v Φx D w1 hq hw=>Kn.of Kf.nil (am [1,2,3,4] rfl) hw) (aU (js:=[]) (R:=[ob v141,D96,ob v142,D97,ob v138,D94,ob v139,D95,ob v109,D76]) qR rfl rfl (fun w1 hw ap hl=>bV N (ba hw.fro) p3 (ph3_0.y hw.up)  hx71)) rfl ?_)
  rintro v143 Φ_60 F58 ⟨ap58,fr58,v144,D98,rfl,rfl,h94⟩
  replace h72:=h72.fr fr58 (ap58.q 8 rfl) (ap58.q 9 rfl)
  replace h90:=h90.fr fr58 (ap58.q 4 rfl) (ap58.q 5 rfl)
  replace h91:=h91.fr fr58 (ap58.q 6 rfl) (ap58.q 7 rfl)
  replace h92:=h92.fr fr58 (ap58.q 0 rfl) (ap58.q 1 rfl)
  replace h93:=h93.fr fr58 (ap58.q 2 rfl) (ap58.q 3 rfl)
  obtain ⟨x72,hx72,h⟩:=bs h
  refine WM.one 9 (by kernel_rfl) (mc rfl (fun _ v Φx D w1 hq hw=>Kn.of Kf.nil (am [1,2,3,4] rfl) hw) (aU (js:=[]) (R:=[ob v144,D98,ob v141,D96,ob v142,D97,ob v138,D94,ob v139,D95,ob v109,D76]) Cf rfl rfl (fun w1 hw ap hl=>gu N (ba hw.fro) x58 x69 x70 x71 p4 (h72.rslG bJ.gives) (h90.rslG aK.gives) (h91.rslG aD.gives) (h92.rslG aF.gives) (h93.rslG aM.gives) (h94.rslG bC.gives)  hx72)) rfl ?_)
  rintro v145 Φ_61 F59 ⟨ap59,fr59,v146,D99,v147,D100,rfl,rfl,h95,h96⟩
  refine on1 11 (msN 0 rfl nk kg rfl ⟨h95.one,h96.one,trivial⟩ rfl rfl ?_)
  refine WM.nil (by kernel_rfl) ?_
  exact wo [0,0,0,0] [0,0,0,0,0] (K (_,_,_,_,_,_,_,_) ⟨h,h95,h96⟩)
 refine mn rfl (fun _ b w1 hw=>Kn.of Kf.nil (am [1,2,3,4] rfl) hw) (nz iG) rfl (fun b_25=>?_)
 obtain ⟨x73,hx73,h⟩:=bs h
 refine WM.one 1 (by kernel_rfl) (mc rfl (fun _ v Φx D w1 hq hw=>Kn.of Kf.nil (am [1,2,3,4] rfl) hw) (aU (js:=[]) (R:=[]) EB rfl rfl (fun w1 hw ap hl=>jN N (ba hw.fro) p0 (ph0_0.y hw.up)  hx73)) rfl ?_)
 rintro v148 Φ_62 F60 ⟨ap60,fr60,v149,D101,rfl,rfl,h97⟩
 obtain ⟨x74,hx74,h⟩:=bs h
 refine WM.one 3 (by kernel_rfl) (mc rfl (fun _ v Φx D w1 hq hw=>Kn.of Kf.nil (am [1,2,3,4] rfl) hw) (aU (js:=[]) (R:=[ob v149,D101]) ve rfl rfl (fun w1 hw ap hl=>gG N (ba hw.fro) p1 (ph1_0.y hw.up) (ph1_1.y hw.up)  hx74)) rfl ?_)
 rintro v150 Φ_63 F61 ⟨ap61,fr61,v151,D102,v152,D103,rfl,rfl,h98,h99⟩
 replace h97:=h97.fr fr61 (ap61.q 0 rfl) (ap61.q 1 rfl)
 obtain ⟨x75,hx75,h⟩:=bs h
 refine WM.one 5 (by kernel_rfl) (mc rfl (fun _ v Φx D w1 hq hw=>Kn.of Kf.nil (am [1,2,3,4] rfl) hw) (aU (js:=[]) (R:=[ob v151,D102,ob v152,D103,ob v149,D101]) sQ rfl rfl (fun w1 hw ap hl=>eD N (ba hw.fro) p2 (ph2_0.y hw.up) (ph2_1.y hw.up)  hx75)) rfl ?_)
 rintro v153 Φ_64 F62 ⟨ap62,fr62,v154,D104,v155,D105,rfl,rfl,h100,h101⟩
 replace h97:=h97.fr fr62 (ap62.q 4 rfl) (ap62.q 5 rfl)
 replace h98:=h98.fr fr62 (ap62.q 0 rfl) (ap62.q 1 rfl)
 replace h99:=h99.fr fr62 (ap62.q 2 rfl) (ap62.q 3 rfl)
 obtain ⟨x76,hx76,h⟩:=bs h
 refine WM.one 7 (by kernel_rfl) (mc rfl (fun _ v Φx D w1 hq hw=>Kn.of Kf.nil (am [1,2,3,4] rfl) hw) (aU (js:=[]) (R:=[ob v154,D104,ob v155,D105,ob v151,D102,ob v152,D103,ob v149,D101]) qR rfl rfl (fun w1 hw ap hl=>bV N (ba hw.fro) p3 (ph3_0.y hw.up)  hx76)) rfl ?_)
 rintro v156 Φ_65 F63 ⟨ap63,fr63,v157,D106,rfl,rfl,h102⟩
 replace h100:=h100.fr fr63 (ap63.q 0 rfl) (ap63.q 1 rfl)
 replace h101:=h101.fr fr63 (ap63.q 2 rfl) (ap63.q 3 rfl)
 replace h97:=h97.fr fr63 (ap63.q 8 rfl) (ap63.q 9 rfl)
 replace h98:=h98.fr fr63 (ap63.q 4 rfl) (ap63.q 5 rfl)
 replace h99:=h99.fr fr63 (ap63.q 6 rfl) (ap63.q 7 rfl)
 obtain ⟨x77,hx77,h⟩:=bs h
 refine WM.one 9 (by kernel_rfl) (mc rfl (fun _ v Φx D w1 hq hw=>Kn.of Kf.nil (am [1,2,3,4] rfl) hw) (aU (js:=[]) (R:=[ob v157,D106,ob v154,D104,ob v155,D105,ob v151,D102,ob v152,D103,ob v149,D101]) Cf rfl rfl (fun w1 hw ap hl=>gu N (ba hw.fro) x73 x74 x75 x76 p4 (h97.rslG bJ.gives) (h98.rslG aK.gives) (h99.rslG aD.gives) (h100.rslG aF.gives) (h101.rslG aM.gives) (h102.rslG bC.gives)  hx77)) rfl ?_)
 rintro v158 Φ_66 F64 ⟨ap64,fr64,v159,D107,v160,D108,rfl,rfl,h103,h104⟩
 refine on1 11 (msN 0 rfl nk kg rfl ⟨h103.one,h104.one,trivial⟩ rfl rfl ?_)
 refine WM.nil (by kernel_rfl) ?_
 exact wo [0,0,0,0] [0,0,0,0,0] (K (_,_,_,_,_,_,_,_) ⟨h,h103,h104⟩)
end Go.Proofs.YtkdffjpgnhobhaaGreat
