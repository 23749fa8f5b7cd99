/- Printed by a program of ours: each Go function computes its Lean function. -/
import Derived.Test.YtinomobmcjnfjaaGreatProg
import Derived.Test.YtinomobmcjnfjaaGreatWKeptWalk7
namespace Go.Proofs.YtinomobmcjnfjaaGreat
open Eng Tryz
open Go.RowKit (Below)
set_option linter.unusedVariables false
set_option linter.unusedSimpArgs false

set_option maxRecDepth 100000
set_option maxHeartbeats 1000000
variable {Ψ Φ:Hp} {pv0_0 pv1_0 pv1_1 pv2_0 pv2_1 pv3_0 pv0 pv1 pv0_1 pv0_2:Value} {pG0_0 pG1_0 pG1_1 pD2_0 pD2_1 pG3_0 pG2_0 pG2_1 pG0 pG1 pG0_1 pG0_2:List Nat} (N:Nat)
theorem tN (w0:aw Ψ Φ [ob pv2_0,pD2_0,ob pv2_1,pD2_1].flatten) (p0:bm) (p1:aO) (p2:ax) (p3:ah) (p4:Int) (ph0_0:RSl dH 5 Ψ pG0_0 pv0_0 p0.Rules) (ph1_0:RSl bl 4 Ψ pG1_0 pv1_0 p1.Alphas) (ph1_1:RSl bV 2 Ψ pG1_1 pv1_1 p1.Chains) (ph2_0:OSl aR 44 1 Φ pD2_0 pv2_0 p2.Alphas) (ph2_1:OSl aM 98 1 Φ pD2_1 pv2_1 p2.Rules) (ph3_0:RSl bh 3 Ψ pG3_0 pv3_0 p3.Items) {r:(List bk) × (List aJ)} (h:lz N p0 p1 p2 p3 p4=some r) :
  Calls prog 22 [.agg [.string p0.Name,pv0_0].toArray,.agg [pv1_0,pv1_1].toArray,.agg [pv2_0,pv2_1].toArray,.agg [pv3_0,iV p3.Next].toArray,iV p4].toArray w0.w (bg Φ w0.w [ob pv2_0,pD2_0,ob pv2_1,pD2_1].flatten (fun Φ' Fs v=>∃ (Do_0_0:List Nat) (Do_1_0:List Nat),v = .tuple #[]∧Fs=[ob pv2_0,Do_0_0,ob pv2_1,Do_1_0]∧OSl aR 44 1 Φ' Do_0_0 pv2_0 r.1∧OSl aM 98 1 Φ' Do_1_0 pv2_1 r.2)):=by
 refine eL func22 rfl ntmps22 rfl (L:=[ob pv2_0,pD2_0,ob pv2_1,pD2_1]) w0 (fun hF=>?_)
 unfold lz at h
 refine sr<|lbx rfl fun b_1=>lbx rfl fun b_2=>lbx rfl fun b_3=>lbx rfl fun b_4=>arr 5 [2] rfl<|kab h rfl rfl rfl (fun b z q=>jl N b p3 p4 (ph3_0.y z) q) ?_
 rintro x1 h v1 Φ_1 F1 ⟨ap1,fr1,v2,rfl,rfl,h1⟩
 replace ph2_0:=ph2_0.fr fr1 (ap1.q 0 rfl) (ap1.q 1 rfl)
 replace ph2_1:=ph2_1.fr fr1 (ap1.q 2 rfl) (ap1.q 3 rfl)
 refine arr 3 [] rfl<|lnz j9 rfl fun b_5=>soN 0 jL rfl ⟨rfl,h1.one,trivial⟩ rfl ?_
 refine arr 7 [0,96] rfl<|lnr ph1_0 rfl<|art 3 [] rfl ?_
 refine lin (σ:=Hp × (List bk) × List Nat × Int) (fun s=>[(4,iV p4),(5,pQ b_1),(6,pQ b_2),(7,pQ b_3),(8,pQ b_4),(10,pQ b_5),(24,pv1_0),(25,iV (p1.Alphas.length:Int)),(26,iV s.2.2.2)]) (fun s=>St w0 s.1 [(b_5,.cells #[.string x1.1.Kind,v2] 47 (0,0)),(b_4,.cells #[pv3_0,iV p3.Next] 37 (0,0)),(b_3,.cells #[pv2_0,pv2_1] 34 (0,0)),(b_2,.cells #[pv1_0,pv1_1] 30 (0,0)),(b_1,.cells #[.string p0.Name,pv0_0] 26 (0,0))] [ob v2,ob pv2_0,s.2.2.1,ob pv2_1,pD2_1]) (fun m s=>dd N p0 p1 p2 p3 p4 x1 m s.2.1 s.2.2.2=some r∧(OSl aR 44 1 s.1 s.2.2.1 pv2_0 s.2.1)∧(OSl aM 98 1 s.1 pD2_1 pv2_1 p2.Rules)∧(OSl aH 91 3 s.1 [] v2 x1.1.Fields)) (Φ_1,p2.Alphas,pD2_0,0) N ⟨h,ph2_0,ph2_1,h1⟩ (sx [0,0,0,0,0] [0,0,0,0,0]) (fun n1 ih1 s hm=>?_)
 obtain ⟨Φ_2,s1,D1,s2⟩:=s
 obtain ⟨h,k1,ph2_1,h1⟩:=hm
 dsimp only at h k1 ph2_1 h1 ⊢
 unfold dd at h
 refine att 5 [] rfl ?_
 refine ch h rfl ?_ ?_ <;> intro h
 ·refine atr 6 [] rfl ?_
  obtain ⟨x2,hx2,h⟩:=bs h
  obtain ⟨cs1,F2,-,g1,hb1,hs1,r1⟩:=ph1_0.el (a9 hx2).2.2
  obtain ⟨v3,G1,v4,G2,rfl,rfl,h2,h3⟩:=r1
  refine lia ph1_0 hx2 rfl<|lhx 0 4 g1 rfl<|lnz lQ rfl fun b_6=>la rfl<|soN 0 qP rfl ⟨rfl,rfl,h2.one,h3.one,trivial⟩ rfl ?_
  refine arr 5 [4,34] rfl<|qz h (fun b z q=>vU N b x2 x1.1 (h2.y z) (h3.y z) h1.rsl q) rfl rfl rfl fun x3 h=>en ?_
  refine ch h rfl ?_ ?_ <;> intro h
  ·obtain ⟨x4,hx4,h⟩:=bs h
   obtain ⟨cs2,F3,D2,h4,r2,kf1,sp1⟩:=k1.focus hx4
   obtain ⟨v5,rfl,rfl,h5⟩:=r2
   refine wtL [ob v5,D2,ob v2,ob pv2_0,ob pv2_1,pD2_1] (sre [2] [ob v5,D2] rfl (by simpa [List.append_assoc] using sp1))<|WT.mix (Kn w0 Φ_2 (ob pv2_0) [(b_6,.cells #[.string x2.Kind,iV x2.N,v3,v4] 75 (0,0)),(b_5,.cells #[.string x1.1.Kind,v2] 47 (0,0)),(b_4,.cells #[pv3_0,iV p3.Next] 37 (0,0)),(b_3,.cells #[pv2_0,pv2_1] 34 (0,0)),(b_2,.cells #[pv1_0,pv1_1] 30 (0,0)),(b_1,.cells #[.string p0.Name,pv0_0] 26 (0,0))]) (fun i=>match i with | 14=>false | _=>true) cc (fun _ h=>h.drew) ?_
   refine mq 0 rfl (by kernel_rfl) (kn Kf.id (am [0,1,2,3,4,5] rfl)) (ab gr rfl) rfl<|mq 1 rfl (by kernel_rfl) (kn Kf.id (am [0,1,2,3,4,5] rfl)) (au uX rfl (fun w1 hw=>hw.rgO (i:=3) rfl 0 1 [pv2_0] rfl)) rfl<|ma 2 rfl (by kernel_rfl) (kn Kf.id (am [0,1,2,3,4,5] rfl)) rfl<|mq 3 rfl (by kernel_rfl) (kn Kf.id (am [0,1,2,3,4,5] rfl)) (ab gr rfl) rfl<|mq 4 rfl (by kernel_rfl) (kn Kf.id (am [0,1,2,3,4,5] rfl)) (au uX rfl (fun w1 hw=>hw.rgO (i:=3) rfl 0 1 [pv2_0] rfl)) rfl ?_
   refine ma 5 rfl (by kernel_rfl) (kn Kf.id (am [0,1,2,3,4,5] rfl)) rfl<|mq 6 rfl (by kernel_rfl) (kn Kf.id (am [0,1,2,3,4,5] rfl)) (aZ jR rfl rfl h4 hx4) rfl<|mq 7 rfl (by kernel_rfl) (kn Kf.id (am [0,1,2,3,4,5] rfl)) (ab fw rfl) rfl<|mq 8 rfl (by kernel_rfl) (kn Kf.id (am [0,1,2,3,4,5] rfl)) (au iz rfl (fun w1 hw=>hw.rg h4.hb (h4.rg.of_eq 0 1 rfl rfl:rg _ _ _ [v5]))) rfl<|ma 9 rfl (by kernel_rfl) (kn Kf.id (am [0,1,2,3,4,5] rfl)) rfl ?_
   have rc1:RC (RI .i64) 1 Φ_2 ([[]]:List (List Nat)) [iV p4] ([p4]:List Int):=RC.cons (c:=[iV p4]) (cells:=[]) ⟨rfl,rfl⟩ rfl (RC.nil _ _ _)
   refine WM.one 10 (by kernel_rfl) (me rfl (fun _ v Φx D w1 hq hw=>Kn.of (Kf.id.se hq.1) (am [0,1,2,3,4,5] rfl) hw) (aY (vs:=[(0,iV p4)]) (C:=#[iV p4]) RI.lasts aW gB rfl rfl rfl rfl (ag iy (a7 (C':=[iV p4]) rfl rfl rfl rfl rfl (aa))) rfl rc1 rfl (by simpa using Kw.nil)) rfl ?_)
   rintro v6 Φ_3 D3 ⟨fr2,h6⟩
   replace h6:OSl (RI .i64) 3 1 Φ_3 [] v6 ([p4]:List Int):=by simpa using h6
   replace h4:=h4.f0 fr2
   replace ph2_1:=ph2_1.f0 fr2
   replace h1:=h1.f0 fr2
   replace h5:=h5.f0 fr2
   obtain ⟨x5,hx5,h⟩:=bs h
   have kf1:=(Kf.id (F:=(ob pv2_0)):Kf Φ_2 _ _).se fr2
   refine WM.one 11 (by kernel_rfl) (me rfl (fun _ v Φx D w1 hq hw=>Kn.of (kf1.st hq.1.2 (hq.1.1.r (i:=3) rfl)) (am [0,1,2,3,4,5] rfl) hw) (bB RI.lasts RI.one RI.flat aW jw rfl rfl rfl rfl rfl (js:=[1]) (Rr:=[ob v6,D2,ob v2,ob pv2_0,ob pv2_1,pD2_1]) rfl h5 h6.rsl hx5) rfl ?_)
   rintro v7 Φ_4 D4 ⟨⟨ap2,fr3⟩,h7⟩
   replace h4:=h4.fr fr3 (ap2.q 3 rfl) (ap2.q 1 rfl)
   replace ph2_1:=ph2_1.fr fr3 (ap2.q 4 rfl) (ap2.q 5 rfl)
   replace h1:=h1.fr fr3 (ap2.q 2 rfl) dN
   have kf2:=kf1.st fr3 (ap2.q 3 rfl)
   refine mqT 12 [13,14] rfl (by kernel_rfl) (kn kf2 (am [0,1,2,3,4,5] rfl)) (aZ jR rfl rfl h4 hx4) rfl<|mq 13 rfl (by kernel_rfl) (kn kf2 (am [0,1,2,3,4,5] rfl)) (ab fw rfl) rfl ?_
   refine WM.one 14 (by kernel_rfl) (mu rfl (fun hc=>by cases hc) (us [4] [ob v7,ob v6,D2,ob v2,ob pv2_1,pD2_1] 0 aR.lasts nU rfl rfl h7.one rfl h4 rfl (fun ap=>ap.q 2 rfl)) rfl ?_)
   rintro Φ_5 D5 ⟨⟨ap3,fr4⟩,h8⟩
   replace ph2_1:=ph2_1.fr fr4 (ap3.q 4 rfl) (ap3.q 5 rfl)
   replace h1:=h1.fr fr4 (ap3.q 3 rfl) dN
   replace h7:=h7.fr fr4 (ap3.q 0 rfl) dN
   refine WM.nil (by kernel_rfl)<|att 5 [] rfl ?_
   have r3:aR Φ_5 _ [v7] (⟨x5⟩:bk):=⟨v7,rfl,rfl,h7⟩
   obtain ⟨D6,h9,sp2⟩:=h8.unfocus r3 (aR.knows _ _ _ _ r3)
   refine wtL [D6,ob pv2_0,ob v6,ob v2,ob pv2_1,pD2_1] (smg [1,2] rfl (by simpa [List.append_assoc,bv] using sp2)) ?_
   exact lb [3,1,0,1,1] [1,1,1,1,1] (ih1 (_,_,_,_) ⟨h,h9,ph2_1,h1⟩)
  refine att 6 [] rfl ?_
  exact lb [0,0,0,0,0] [1,1,1,1,1] (ih1 (_,_,_,_) ⟨h,k1,ph2_1,h1⟩)
 refine atr 5 [1,64] rfl<|lno ph2_1 rfl<|art 3 [] rfl ?_
 refine lin (σ:=Hp × (List aJ) × List Nat × Int) (fun s=>[(4,iV p4),(5,pQ b_1),(6,pQ b_2),(7,pQ b_3),(8,pQ b_4),(50,pv2_1),(51,iV (p2.Rules.length:Int)),(52,iV s.2.2.2)]) (fun s=>St w0 s.1 [(b_4,.cells #[pv3_0,iV p3.Next] 37 (0,0)),(b_3,.cells #[pv2_0,pv2_1] 34 (0,0)),(b_2,.cells #[pv1_0,pv1_1] 30 (0,0)),(b_1,.cells #[.string p0.Name,pv0_0] 26 (0,0))] [ob pv2_0,D1,ob pv2_1,s.2.2.1]) (fun m s=>dA N p0 p1 p2 p3 p4 s1 m s.2.1 s.2.2.2=some r∧(OSl aR 44 1 s.1 D1 pv2_0 s1)∧(OSl aM 98 1 s.1 s.2.2.1 pv2_1 s.2.1)) (Φ_2,p2.Rules,pD2_1,0) N ⟨h,k1,ph2_1⟩ (sx [1,1,1,1] [1,1,1,1]) (fun n2 ih2 s hm=>?_)
 obtain ⟨Φ_6,s3,D7,s4⟩:=s
 obtain ⟨h,k1,k2⟩:=hm
 dsimp only at h k1 k2 ⊢
 unfold dA at h
 refine att 5 [] rfl ?_
 refine ch h rfl ?_ ?_ <;> intro h
 ·refine atr 6 [] rfl ?_
  obtain ⟨x6,hx6,h⟩:=bs h
  obtain ⟨cs3,F4,D8,h10,r4,kf2,sp3⟩:=k2.focus hx6
  obtain ⟨v8,D9,rfl,rfl,h11⟩:=r4
  refine wlL [ob v8,D9,D8,ob pv2_0,D1,ob pv2_1] (sre [3] [ob v8,D9,D8] rfl (by simpa [List.append_assoc] using sp3))<|lih h10 hx6 rfl<|lgx 0 1 h10.rg rfl ?_
  refine ln (jP (C:=#[.slice none 0 0]) oD rfl) rfl (fun b_7=>?_)
  refine la rfl<|soN 0 yk rfl ⟨h11.one,trivial⟩ rfl ?_
  refine arr 9 [130,98,66,34] rfl<|kab h rfl rfl rfl (fun b z q=>tC N b p0 p1 (⟨s1,s3⟩:ax) p3 p4 s4 (ph0_0.y z) (ph1_1.y z) (k1.rslG aR.gives) (ph3_0.y z) q) ?_
  rintro x7 h v9 Φ_7 F5 ⟨ap4,fr5,v10,D10,v11,D11,v12,G3,v13,G4,v14,G5,v15,G6,rfl,rfl,h12,i1,h13,i2,h14,i3,h15,i4,h16,i5,h17,i6⟩
  replace k1:=k1.fr fr5 (ap4.q 3 rfl) (ap4.q 4 rfl)
  replace h10:=h10.fr fr5 (ap4.q 5 rfl) (ap4.q 2 rfl)
  replace h11:=h11.fr fr5 (ap4.q 0 rfl) (ap4.q 1 rfl)
  refine lnz yH rfl fun b_8=>soN 0 BO rfl ⟨h12.one,h13.one,h14.one,h15.one,h16.one,h17.one,rfl,rfl,trivial⟩ rfl ?_
  refine en<|sq<|WT.mix (Kn w0 Φ_7 (ob v8) [(b_8,.cells #[v10,v11,v12,v13,v14,v15,iV x7.s.Next,iV x7.id] 110 (0,0)),(b_7,.cells #[v8] 98 (0,0)),(b_4,.cells #[pv3_0,iV p3.Next] 37 (0,0)),(b_3,.cells #[pv2_0,pv2_1] 34 (0,0)),(b_2,.cells #[pv1_0,pv1_1] 30 (0,0)),(b_1,.cells #[.string p0.Name,pv0_0] 26 (0,0))]) (fun i=>match i with | 10=>false | _=>true) cc (fun _ h=>h.drew) ?_
  refine mq 0 rfl (by kernel_rfl) (kn Kf.id (am [0,1,2,3,4,5] rfl)) (aI BW rfl (fun w1 hw=>hw.rgO (i:=0) rfl 0 8 [v10,v11,v12,v13,v14,v15,iV x7.s.Next,iV x7.id] rfl) rfl) rfl<|mqT 1 [2,7,8,9,10] rfl (by kernel_rfl) (kn Kf.id (am [0,1,2,3,4,5] rfl)) (ab gZ rfl) rfl<|mqT 2 [7,8,9,10] rfl (by kernel_rfl) (kn Kf.id (am [0,1,2,3,4,5] rfl)) (au yu rfl (fun w1 hw=>hw.rgO (i:=1) rfl 0 1 [v8] rfl)) rfl ?_
  refine mqT 3 [4,5,6,7,8,9,10] rfl (by kernel_rfl) (kn Kf.id (am [0,1,2,3,4,5] rfl)) (ab gZ rfl) rfl<|mqT 4 [5,6,7,8,9,10] rfl (by kernel_rfl) (kn Kf.id (am [0,1,2,3,4,5] rfl)) (au yu rfl (fun w1 hw=>hw.rgO (i:=1) rfl 0 1 [v8] rfl)) rfl<|mqT 5 [6,7,8,9,10] rfl (by kernel_rfl) (kn Kf.id (am [0,1,2,3,4,5] rfl)) (o5 mD rfl rfl (h11.rslG aB.gives)) rfl<|mqT 6 [7,8,9,10] rfl (by kernel_rfl) (kn Kf.id (am [0,1,2,3,4,5] rfl)) (za rfl rfl) rfl ?_
  obtain ⟨x8,hx8,h⟩:=bs h
  obtain ⟨cs4,F6,D12,h18,r5,kf3,sp4⟩:=h11.focus hx8
  obtain ⟨v16,D13,rfl,rfl,h19⟩:=r5
  refine WM.conv (S':=St w0 Φ_7 [(b_8,.cells #[v10,v11,v12,v13,v14,v15,iV x7.s.Next,iV x7.id] 110 (0,0)),(b_7,.cells #[v8] 98 (0,0)),(b_4,.cells #[pv3_0,iV p3.Next] 37 (0,0)),(b_3,.cells #[pv2_0,pv2_1] 34 (0,0)),(b_2,.cells #[pv1_0,pv1_1] 30 (0,0)),(b_1,.cells #[.string p0.Name,pv0_0] 26 (0,0))] [ob v16,D13,D12,ob v10,ob v11,ob v8,D8,ob pv2_0,D1,ob pv2_1]) (fun w1 hw=>hw.re (js:=[3]) (Bs:=[ob v16,D13,D12]) rfl (by simpa [List.append_assoc] using sp4)) ?_
  refine mqT 7 [8,9,10] rfl (by kernel_rfl) (kn Kf.id (am [0,1,2,3,4,5] rfl)) (aZ mD rfl rfl h18 hx8) rfl<|mqT 8 [9,10] rfl (by kernel_rfl) (kn Kf.id (am [0,1,2,3,4,5] rfl)) (ab dP rfl) rfl<|mq 9 rfl (by kernel_rfl) (kn Kf.id (am [0,1,2,3,4,5] rfl)) (au vV rfl (fun w1 hw=>hw.rg h18.hb (h18.rg.of_eq 0 1 rfl rfl:rg _ _ _ [v16]))) rfl ?_
  obtain ⟨x9,hx9,h⟩:=bs h
  refine WM.one 10 (by kernel_rfl) (mc rfl (fun hc=>by cases hc) (bZ (js:=[0,0]) (R:=[D12,ob v10,ob v11,ob v8,D8,ob pv2_0,D1,ob pv2_1]) EQ rfl rfl (fun w1 hw ap hl=>qM N (bx hw ap hl) x7 x8.Toks 1 (h12.rsl.x (Dj.app (ap.q 1 rfl) (Dj.sub (ap.o ph0_0.old) i1))) (h13.rsl.x (Dj.app (ap.q 2 rfl) (Dj.sub (ap.o ph0_0.old) i2))) (h14.x (Dj.sub (ap.o ph1_1.old) i3)) (h15.x (Dj.sub (ap.o ph1_1.old) i4)) (h16.x (Dj.sub (Dj.app (ap.q 5 rfl) (ap.q 6 rfl)) i5)) (h17.x (Dj.sub (ap.o ph3_0.old) i6)) h19  hx9)) rfl ?_)
  rintro v17 Φ_8 F7 ⟨ap5,fr6,D14,rfl,rfl,h20⟩
  replace h14:=h14.fr fr6 (Dj.sub (ap5.o ph1_1.old) i3)
  replace h15:=h15.fr fr6 (Dj.sub (ap5.o ph1_1.old) i4)
  replace h16:=h16.fr fr6 (Dj.sub (Dj.app (ap5.q 5 rfl) (ap5.q 6 rfl)) i5)
  replace h17:=h17.fr fr6 (Dj.sub (ap5.o ph3_0.old) i6)
  replace k1:=k1.fr fr6 (ap5.q 5 rfl) (ap5.q 6 rfl)
  replace h10:=h10.fr fr6 (ap5.q 7 rfl) (ap5.q 4 rfl)
  replace h18:=h18.fr fr6 (ap5.q 3 rfl) (ap5.q 0 rfl)
  replace h12:=h12.fr fr6 (ap5.q 1 rfl) (Dj.sub (ap5.o ph0_0.old) i1)
  replace h13:=h13.fr fr6 (ap5.q 2 rfl) (Dj.sub (ap5.o ph0_0.old) i2)
  refine WM.nil (by kernel_rfl)<|atr 4 [8,0,32] rfl ?_
  have r6:aB Φ_8 _ [v16] (⟨x9⟩:aj):=⟨v16,D14,rfl,rfl,h20⟩
  obtain ⟨D15,h21,sp5⟩:=h18.unfocus r6 (aB.knows _ _ _ _ r6)
  refine wlL [D15,ob v10,ob v11,ob v8,D8,ob pv2_0,D1,ob pv2_1] (smg [0,0,0] rfl (by simpa [List.append_assoc,bv] using sp5))<|kcb [3,0] h rfl rfl rfl rfl (fun b ap z q=>ru N b x7 (x6.Levels.set (wz ((x6.Levels.length:Int) - 1)).toNat (⟨x9⟩:aj)) (h12.rsl.x (Dj.app (ap.q 0 rfl) (Dj.sub (ap.o ph0_0.old) i1))) (h13.rsl.x (Dj.app (ap.q 1 rfl) (Dj.sub (ap.o ph0_0.old) i2))) (h14.x (Dj.sub (ap.o ph1_1.old) i3)) (h15.x (Dj.sub (ap.o ph1_1.old) i4)) (h16.x (Dj.sub (Dj.app (ap.q 3 rfl) (ap.q 4 rfl)) i5)) (h17.x (Dj.sub (ap.o ph3_0.old) i6)) h21 q) ?_
  rintro x10 h v18 Φ_9 F8 ⟨ap6,fr7,D16,rfl,rfl,h22⟩
  replace k1:=k1.fr fr7 (ap6.q 3 rfl) (ap6.q 4 rfl)
  replace h10:=h10.fr fr7 (ap6.q 5 rfl) (ap6.q 2 rfl)
  refine art 6 [] rfl ?_
  have r7:aM Φ_9 _ [v8] (⟨x10⟩:aJ):=⟨v8,D16,rfl,rfl,h22⟩
  obtain ⟨D17,h23,sp6⟩:=h10.unfocus r7 (aM.knows _ _ _ _ r7)
  refine wtL [D17,ob v10,ob v11,ob pv2_0,D1,ob pv2_1] (smg [0,0,2] rfl (by simpa [List.append_assoc,bv] using sp6)) ?_
  exact lb [3,3,3,0] [2,2,2,2] (ih2 (_,_,_,_) ⟨h,k1,h23⟩)
 refine xt rfl ?_
 refine WT.fin hF az.none (fun w1 hw=>?_)
 cases h
 refine bc (js:=[0,0,0,0]) hw rfl ⟨D1,D7,rfl,rfl,k1,k2⟩
theorem uN (w0:aw Ψ Φ []) (p0:bm) (p1:aO) (p2:ax) (p3:ah) (p4:Int) (ph0_0:RSl dH 5 Ψ pG0_0 pv0_0 p0.Rules) (ph1_0:RSl bl 4 Ψ pG1_0 pv1_0 p1.Alphas) (ph1_1:RSl bV 2 Ψ pG1_1 pv1_1 p1.Chains) (ph2_0:RSl gp 1 Ψ pG2_0 pv2_0 p2.Alphas) (ph2_1:RSl jx 1 Ψ pG2_1 pv2_1 p2.Rules) (ph3_0:RSl bh 3 Ψ pG3_0 pv3_0 p3.Items) {r:ax} (h:lB N p0 p1 p2 p3 p4=some r) :
  Calls prog 6 [.agg [.string p0.Name,pv0_0].toArray,.agg [pv1_0,pv1_1].toArray,.agg [pv2_0,pv2_1].toArray,.agg [pv3_0,iV p3.Next].toArray,iV p4].toArray w0.w (bg Φ w0.w [] (fun Φ' Fs v=>∃ (sr_0_0:Value) (Dr_0_0:List Nat) (sr_0_1:Value) (Dr_0_1:List Nat),v = .agg [sr_0_0,sr_0_1].toArray∧Fs=[ob sr_0_0,Dr_0_0,ob sr_0_1,Dr_0_1]∧OSl aR 44 1 Φ' Dr_0_0 sr_0_0 r.Alphas∧OSl aM 98 1 Φ' Dr_0_1 sr_0_1 r.Rules)):=by
 refine eN func6 rfl ntmps6 rfl w0 fun hF=>?_
 unfold lB at h
 refine sr<|lbx rfl fun b_1=>lbx rfl fun b_2=>lbx rfl fun b_3=>lbx rfl fun b_4=>lnz jE rfl fun b_5=>arr 4 [66] rfl<|kab h rfl rfl rfl (fun b z q=>uG N b p2 (ph2_0.y z) (ph2_1.y z) q) ?_
 rintro x1 h v1 Φ_1 F1 ⟨ap1,fr1,v2,D1,v3,D2,rfl,rfl,h1,h2⟩
 refine lnz jE rfl fun b_6=>soN 0 kj rfl ⟨h1.one,h2.one,trivial⟩ rfl ?_
 refine arr 9 [162,130,98,66] rfl<|qd h (vN N · p0 p1 p2 p3 p4 ph0_0 ph1_0 ph1_1 ph2_0 ph2_1 ph3_0 ·) rfl rfl rfl fun x2 h=>en ?_
 refine cut (σ:=Hp × (List bk) × List Nat × (List aJ) × List Nat) (fun s=>[(10,pQ b_5),(11,pQ b_6)]) (fun s=>St w0 s.1 [(b_6,.cells #[v2,v3] 34 (0,0)),(b_5,.cells #[.slice none 0 0,.slice none 0 0] 34 (0,0))] [ob v2,s.2.2.1,ob v3,s.2.2.2.2]) (fun s=>jU N s.2.1 s.2.2.2.1=some r∧(OSl aR 44 1 s.1 s.2.2.1 v2 s.2.1)∧(OSl aM 98 1 s.1 s.2.2.2.2 v3 s.2.2.2.1)) (fun s hm=>?_) (fun K=>?_)
 ·clear h
  obtain ⟨Φ_2,s1,D3,s2,D4⟩:=s
  obtain ⟨h,k1,k2⟩:=hm
  dsimp only at h k1 k2 ⊢
  unfold jU at h
  refine atr 3 [2] rfl<|soN 1 kj rfl ⟨k1.one,k2.one,trivial⟩ rfl ?_
  refine en ?_
  exact rtg [0,0,0,0] hF (az.one (aX tc rfl (fun w1 hw=>hw.rgO (i:=1) rfl 0 2 [v2,v3] rfl) rfl)) rfl (by cases h; exact fun w1 hw=>⟨v2,D3,v3,D4,rfl,rfl,k1,k2⟩)
 refine ch h rfl ?_ ?_ <;> intro h
 ·refine atr 6 [162,130,2,66] rfl<|kcb [0,0,0,0] h rfl rfl rfl rfl (fun b ap z q=>tN N b p0 p1 x1 p3 p4 (ph0_0.y z) (ph1_0.y z) (ph1_1.y z) h1 h2 (ph3_0.y z) q) ?_
  rintro x3 h v4 Φ_3 F2 ⟨ap2,fr2,D5,D6,rfl,rfl,h3,h4⟩
  refine en ?_
  exact wo [0,0,0,0] [0,0] (K (_,_,_,_,_) ⟨h,h3,h4⟩)
 refine WT.skip ?_
 exact wo [0,0,0,0] [0,0] (K (_,_,_,_,_) ⟨h,h1,h2⟩)
theorem lY  (w0:aw Ψ Φ []) (p0:Int)  {r:Bool} (h:gO N p0=some r) :
  CB w0 prog 135 [.int .u8 p0] (.bool r):=by
 refine eN func135 rfl ntmps135 rfl w0 fun hF=>?_
 unfold gO at h
 refine atr 7 [] rfl<|lq (qF Aa Av rfl) rfl<|qc h (ce N · (wz p0) 97 122 ·) rfl rfl rfl fun x1 h=>la rfl ?_
 obtain ⟨b1,hb_1,h⟩:=bs h
 refine WL.cutN 4 [(10,.bool b1),(0,.int .u8 p0),(2,.bool false)] ?_ (fun K=>?_)
 rotate_left
 ·refine sp 6 hb_1 rfl (fun hb_1=>?_) fun hb_1=>?_
  ·refine arr 4 [] rfl ?_
   cases hb_1
   exact ku K
  ·refine ly rfl rfl<|la rfl<|ly rfl rfl<|lq (qF Aa Av rfl) rfl<|ly rfl rfl<|qc hb_1 (ce N · (wz p0) 48 57 ·) rfl rfl rfl fun x2 hb_1=>la rfl ?_
   cases hb_1
   exact ku K
 refine la rfl ?_
 obtain ⟨b2,hb_2,h⟩:=bs h
 refine WL.cutN 3 [(14,.bool b2),(2,.bool false)] ?_ (fun K=>?_)
 rotate_left
 ·refine sp 11 hb_2 rfl (fun hb_2=>?_) fun hb_2=>?_
  ·refine arr 3 [] rfl ?_
   cases hb_2
   exact ku K
  ·refine arr 3 [] rfl ?_
   cases hb_2
   exact ku K
 refine la rfl<|en ?_
 exact rt hF h
theorem fd  (w0:aw Ψ Φ []) (p0:ByteArray)  {r:Bool} (h:dO N p0=some r) :
  CB w0 prog 114 [.string p0] (.bool r):=by
 refine eN func114 rfl ntmps114 rfl w0 fun hF=>?_
 unfold dO at h
 refine att 10 [] rfl ?_
 refine lin (σ:=Int) (fun s=>[(0,.string p0),(3,iV s)]) (fun s=>St w0 Φ [] []) (fun m s=>dR N p0 m s=some r) (0) N h (sx [] []) (fun n1 ih1 s hm=>?_)
 revert hm; revert s; intro s1 hm
 have h:dR N p0 (n1+1) s1=some r:=hm
 show WT _ _ [(0,.string p0),(3,iV s1)] (St w0 Φ [] [])
 unfold dR at h
 refine atr 5 [] rfl<|lq (lX j7 rfl rfl) rfl<|la rfl<|en ?_
 refine ch h rfl ?_ ?_ <;> intro h
 ·refine atr 7 [] rfl ?_
  obtain ⟨y1,hy1,h⟩:=bs h
  refine lq (jh j7 rfl rfl hy1) rfl<|qc h (lY N · (y1.toNat:Int) ·) rfl rfl rfl fun x1 h=>arr 2 [] rfl ?_
  obtain ⟨b1,hb_1,h⟩:=bs h
  refine WL.cutN 11 [(26,.bool b1),(0,.string p0),(3,iV s1)] ?_ (fun K=>?_)
  rotate_left
  ·refine sp 15 hb_1 rfl (fun hb_1=>?_) fun hb_1=>?_
   ·refine arr 11 [] rfl ?_
    cases hb_1
    exact ku K
   ·refine arr 3 [] rfl ?_
    obtain ⟨b2,hb_2,hb_1⟩:=bs hb_1
    refine WL.cutN 7 [(25,.bool b2),(0,.string p0),(3,iV s1),(15,.bool false)] ?_ (fun K=>?_)
    rotate_left
    ·refine sp 18 hb_2 rfl (fun hb_2=>?_) fun hb_2=>?_
     ·refine arr 2 [] rfl<|ly rfl rfl ?_
      obtain ⟨y2,hy2,hb_2⟩:=bs hb_2
      refine lq (jh j7 rfl rfl hy2) rfl<|ly rfl rfl<|lq (qF Aa Av rfl) rfl<|ly rfl rfl<|qc hb_2 (ce N · (wz (y2.toNat:Int)) 97 122 ·) rfl rfl rfl fun x2 hb_2=>arr 2 [] rfl ?_
      cases hb_2
      exact ku K
     ·refine arr 7 [] rfl ?_
      cases hb_2
      exact ku K
    refine la rfl ?_
    cases hb_1
    exact ku K
  refine en ?_
  refine ch h rfl ?_ ?_ <;> intro h
  ·refine att 4 [] rfl ?_
   exact rt hF h
  refine att 7 [] rfl ?_
  exact lb [] [] (ih1 _ h)
 refine atr 4 [] rfl<|lq (lX j7 rfl rfl) rfl<|qc h (ce N · (p0.size:Int) 1 12 ·) rfl rfl rfl fun x3 h=>la rfl<|en ?_
 exact rt hF h
theorem uy  (w0:aw Ψ Φ []) (p0:ByteArray)  {r:Bool} (h:lw N p0=some r) :
  CB w0 prog 145 [.string p0] (.bool r):=by
 refine eN func145 rfl ntmps145 rfl w0 fun hF=>?_
 unfold lw at h
 refine att 10 [] rfl ?_
 refine lin (σ:=Int) (fun s=>[(0,.string p0),(3,iV s)]) (fun s=>St w0 Φ [] []) (fun m s=>eo N p0 m s=some r) (0) N h (sx [] []) (fun n1 ih1 s hm=>?_)
 revert hm; revert s; intro s1 hm
 have h:eo N p0 (n1+1) s1=some r:=hm
 show WT _ _ [(0,.string p0),(3,iV s1)] (St w0 Φ [] [])
 unfold eo at h
 refine atr 5 [] rfl<|lq (lX j7 rfl rfl) rfl<|la rfl<|en ?_
 refine ch h rfl ?_ ?_ <;> intro h
 ·refine atr 7 [] rfl ?_
  obtain ⟨y1,hy1,h⟩:=bs h
  refine lq (jh j7 rfl rfl hy1) rfl<|qc h (lY N · (y1.toNat:Int) ·) rfl rfl rfl fun x1 h=>la rfl<|en ?_
  refine ch h rfl ?_ ?_ <;> intro h
  ·refine att 4 [] rfl ?_
   exact rt hF h
  refine att 7 [] rfl ?_
  exact lb [] [] (ih1 _ h)
 refine atr 4 [] rfl<|lq (lX j7 rfl rfl) rfl<|art 3 [] rfl ?_
 exact rt hF h
theorem sf  (w0:aw Ψ Φ []) (p0:bn)  {r:Bool} (h:mz N p0=some r) :
  CB w0 prog 136 [.agg [iV p0.K,iV p0.N,.string p0.S].toArray] (.bool r):=by
 refine eN func136 rfl ntmps136 rfl w0 fun hF=>?_
 unfold mz at h
 refine sr<|lbx rfl fun b_1=>art 14 [0,0] rfl ?_
 refine ch h rfl ?_ ?_ <;> intro h
 ·refine atr 4 [1,0] rfl<|qc h (ce N · p0.N (-1000000000) 1000000000 ·) rfl rfl rfl fun x1 h=>la rfl ?_
  obtain ⟨b1,hb_1,h⟩:=bs h
  refine WL.cutN 4 [(14,.bool b1),(2,.bool false)] ?_ (fun K=>?_)
  rotate_left
  ·refine sp 10 hb_1 rfl (fun hb_1=>?_) fun hb_1=>?_
   ·refine arr 4 [2,0] rfl ?_
    cases hb_1
    exact ku K
   ·refine arr 4 [] rfl ?_
    cases hb_1
    exact ku K
  refine la rfl<|en ?_
  exact rt hF h
 refine att 5 [] rfl ?_
 refine ch h rfl ?_ ?_ <;> intro h
 ·refine atr 4 [2,0] rfl<|qc h (uy N · p0.S ·) rfl rfl rfl fun x2 h=>la rfl ?_
  obtain ⟨b2,hb_2,h⟩:=bs h
  refine WL.cutN 4 [(24,.bool b2),(2,.bool false)] ?_ (fun K=>?_)
  rotate_left
  ·refine sp 20 hb_2 rfl (fun hb_2=>?_) fun hb_2=>?_
   ·refine arr 4 [1,0] rfl ?_
    cases hb_2
    exact ku K
   ·refine arr 4 [] rfl ?_
    cases hb_2
    exact ku K
  refine la rfl<|en ?_
  exact rt hF h
 refine att 6 [] rfl ?_
 exact rt hF h
theorem vG (w0:aw Ψ Φ []) (p0:(List bn)) (ph0:RSl aH 3 Ψ pG0 pv0 p0) {r:Bool} (h:pB N p0=some r) :
  CB w0 prog 115 [pv0] (.bool r):=by
 refine eN func115 rfl ntmps115 rfl w0 fun hF=>?_
 unfold pB at h
 refine att 10 [] rfl ?_
 refine lin (σ:=Int) (fun s=>[(0,pv0),(3,iV s)]) (fun s=>St w0 Φ [] []) (fun m s=>dY N p0 m s=some r) (0) N h (sx [] []) (fun n1 ih1 s hm=>?_)
 revert hm; revert s; intro s1 hm
 have h:dY N p0 (n1+1) s1=some r:=hm
 show WT _ _ [(0,pv0),(3,iV s1)] (St w0 Φ [] [])
 unfold dY at h
 refine atr 5 [] rfl<|lnr ph0 rfl<|la rfl<|en ?_
 refine ch h rfl ?_ ?_ <;> intro h
 ·refine atr 7 [] rfl ?_
  obtain ⟨x1,hx1,h⟩:=bs h
  obtain ⟨cs1,F1,-,g1,hb1,hs1,r1⟩:=ph0.el (a9 hx1).2.2
  obtain ⟨rfl,-⟩:=r1
  refine lia ph0 hx1 rfl<|lhx 0 3 g1 rfl<|qc h (sf N · x1 ·) rfl rfl rfl fun x2 h=>la rfl<|en ?_
  refine ch h rfl ?_ ?_ <;> intro h
  ·refine att 4 [] rfl ?_
   exact rt hF h
  refine att 7 [] rfl ?_
  exact lb [] [] (ih1 _ h)
 refine atr 4 [] rfl<|lnr ph0 rfl<|art 3 [] rfl ?_
 exact rt hF h
theorem vI (w0:aw Ψ Φ []) (p0:aA) (ph0_0:RSl aH 3 Ψ pG0_0 pv0_0 p0.Fields) {r:Bool} (h:mN N p0=some r) :
  CB w0 prog 81 [.agg [.string p0.Kind,pv0_0].toArray] (.bool r):=by
 refine eN func81 rfl ntmps81 rfl w0 fun hF=>?_
 unfold mN at h
 refine sr<|lbx rfl fun b_1=>arr 6 [0,0] rfl<|qc h (fd N · p0.Kind ·) rfl rfl rfl fun x1 h=>la rfl ?_
 obtain ⟨b1,hb_1,h⟩:=bs h
 refine WL.cutN 4 [(10,.bool b1),(2,.bool false)] ?_ (fun K=>?_)
 rotate_left
 ·refine sp 6 hb_1 rfl (fun hb_1=>?_) fun hb_1=>?_
  ·refine arr 2 [1,0] rfl<|ly rfl rfl<|qd hb_1 (vG N · p0.Fields ph0_0 ·) rfl rfl rfl fun x2 hb_1=>la rfl ?_
   cases hb_1
   exact ku K
  ·refine arr 4 [] rfl ?_
   cases hb_1
   exact ku K
 refine la rfl<|en ?_
 exact rt hF h
theorem ux (w0:aw Ψ Φ []) (p0:ah) (ph0_0:RSl bh 3 Ψ pG0_0 pv0_0 p0.Items) {r:Bool} (h:lD N p0=some r) :
  CB w0 prog 54 [.agg [pv0_0,iV p0.Next].toArray] (.bool r):=by
 refine eN func54 rfl ntmps54 rfl w0 fun hF=>?_
 unfold lD at h
 refine sr<|lbx rfl fun b_1=>arr 7 [1,0] rfl<|qc h (ce N · p0.Next 1 1000000 ·) rfl rfl rfl fun x1 h=>arr 2 [] rfl ?_
 obtain ⟨b1,hb_1,h⟩:=bs h
 refine WL.cutN 5 [(14,.bool b1),(1,pQ b_1)] ?_ (fun K=>?_)
 rotate_left
 ·refine sp 9 hb_1 rfl (fun hb_1=>?_) fun hb_1=>?_
  ·refine arr 5 [] rfl ?_
   cases hb_1
   exact ku K
  ·refine arr 2 [0,0] rfl<|ly rfl rfl<|lnr ph0_0 rfl<|arr 2 [] rfl ?_
   cases hb_1
   exact ku K
 refine en ?_
 refine ch h rfl ?_ ?_ <;> intro h
 ·refine att 4 [] rfl ?_
  exact rt hF h
 refine att 7 [] rfl ?_
 refine lin (σ:=Int) (fun s=>[(1,pQ b_1),(3,iV s)]) (fun s=>St w0 Φ [(b_1,.cells #[pv0_0,iV p0.Next] 37 (0,0))] []) (fun m s=>fA N p0 m s=some r) (0) N h (sx [] [0]) (fun n1 ih1 s hm=>?_)
 revert hm; revert s; intro s1 hm
 have h:fA N p0 (n1+1) s1=some r:=hm
 show WT _ _ [(1,pQ b_1),(3,iV s1)] (St w0 Φ [(b_1,.cells #[pv0_0,iV p0.Next] 37 (0,0))] [])
 unfold fA at h
 refine atr 6 [0,0] rfl<|lnr ph0_0 rfl<|la rfl<|en ?_
 refine ch h rfl ?_ ?_ <;> intro h
 ·refine atr 8 [0,0] rfl ?_
  obtain ⟨x2,hx2,h⟩:=bs h
  obtain ⟨cs1,F1,-,g1,hb1,hs1,r1⟩:=ph0_0.el (a9 hx2).2.2
  obtain ⟨v1,G1,rfl,hq1,h1⟩:=r1
  obtain rfl:=hq1.symm
  refine lia ph0_0 hx2 rfl<|lhx 0 3 g1 rfl<|lnz sm rfl fun b_2=>soN 0 xZ rfl ⟨rfl,rfl,h1.one,trivial⟩ rfl ?_
  refine en<|sq<|WT.draw cc (by kernel_rfl) (fun _ h=>h.drew)<|aqq 2 [1,2] rfl ?_
  obtain ⟨x3,hx3,h⟩:=bs h
  refine qp (cQ EY rfl (fun w1 hw=>vI N (ba hw.in0) x2.F h1 hx3)) rfl<|aqq 2 [] rfl ?_
  obtain ⟨b2,hb_2,h⟩:=bs h
  refine WQ.cutN 4 [(35,.bool b2),(1,pQ b_1),(3,iV s1),(4,pQ b_2)] ?_ (fun K=>?_)
  rotate_left
  ·refine WQ.split (d:=31) rfl (fun c4=>?_) (fun c4=>?_)
   ·replace hb_2:=fN hb_2 c4
    refine aqq 4 [] rfl ?_
    cases hb_2
    exact kq K
   ·replace hb_2:=fO hb_2 c4
    refine aqq 4 [0,0] rfl ?_
    cases hb_2
    exact kq K
  refine qq (ep rfl) rfl ?_
  obtain ⟨b3,hb_3,h⟩:=bs h
  refine WQ.cutN 6 [(42,.bool b3),(1,pQ b_1),(3,iV s1),(4,pQ b_2)] ?_ (fun K=>?_)
  rotate_left
  ·refine WQ.split (d:=36) rfl (fun c5=>?_) (fun c5=>?_)
   ·replace hb_3:=fN hb_3 c5
    refine aqq 6 [] rfl ?_
    cases hb_3
    exact kq K
   ·replace hb_3:=fO hb_3 c5
    refine aqq 6 [0,0,1,32] rfl ?_
    cases hb_3
    exact kq K
  refine qq (ep rfl) rfl ?_
  obtain ⟨b4,hb_4,h⟩:=bs h
  refine WQ.cutN 15 [(58,.bool b4),(1,pQ b_1),(3,iV s1),(4,pQ b_2)] ?_ (fun K=>?_)
  rotate_left
  ·refine WQ.split (d:=43) rfl (fun c6=>?_) (fun c6=>?_)
   ·replace hb_4:=fN hb_4 c6
    refine aqq 15 [] rfl ?_
    cases hb_4
    exact kq K
   ·replace hb_4:=fO hb_4 c6
    refine aqq 3 [] rfl ?_
    obtain ⟨b5,hb_5,hb_4⟩:=bs hb_4
    refine WQ.cutN 11 [(57,.bool b5),(1,pQ b_1),(3,iV s1),(4,pQ b_2),(43,.bool false)] ?_ (fun K=>?_)
    rotate_left
    ·refine WQ.split (d:=46) rfl (fun c7=>?_) (fun c7=>?_)
     ·replace hb_5:=fN hb_5 c7
      refine aqq 4 [0,32] rfl<|WQ.yes rfl rfl ?_
      obtain ⟨x4,hx4,hb_5⟩:=bs hb_5
      obtain ⟨cs2,F2,-,g2,hb2,hs2,r2⟩:=ph0_0.el (a9 hx4).2.2
      obtain ⟨v2,G2,rfl,hq2,h2⟩:=r2
      obtain rfl:=hq2.symm
      refine qq (ac nX rfl rfl ph0_0 hx4) rfl<|WQ.yes rfl rfl<|qq (ab pT rfl) rfl<|WQ.yes rfl rfl<|qq (au pt rfl (fun w1 hw=>(g2.of_eq 0 1 rfl rfl:rg _ _ _ [iV x4.Id]).rangeAt hw.in0)) rfl<|aqq 4 [0,0] rfl ?_
      cases hb_5
      exact kq K
     ·replace hb_5:=fO hb_5 c7
      refine aqq 11 [] rfl ?_
      cases hb_5
      exact kq K
    refine WQ.q (nT rfl rfl) rfl rfl rfl ?_
    cases hb_4
    exact kq K
  refine qq (ep rfl) rfl ?_
  obtain ⟨b6,hb_6,h⟩:=bs h
  refine WQ.cutN 8 [(67,.bool b6),(1,pQ b_1),(3,iV s1)] ?_ (fun K=>?_)
  rotate_left
  ·refine WQ.split (d:=59) rfl (fun c8=>?_) (fun c8=>?_)
   ·replace hb_6:=fN hb_6 c8
    refine aqq 8 [] rfl ?_
    cases hb_6
    exact kq K
   ·replace hb_6:=fO hb_6 c8
    refine aqq 3 [34,1,2] rfl<|WQ.yes rfl rfl ?_
    obtain ⟨x5,hx5,hb_6⟩:=bs hb_6
    refine qp (cQ C7 rfl (fun w1 hw=>nV N (ba hw.in0) p0 x2.F ph0_0 h1 hx5)) rfl<|aqq 4 [0,0] rfl ?_
    cases hb_6
    exact kq K
  refine WQ.nil ?_
  refine ch h rfl ?_ ?_ <;> intro h
  ·refine att 4 [] rfl ?_
   exact rt hF h
  refine att 7 [] rfl ?_
  exact lb [] [1] (ih1 _ h)
 refine att 5 [] rfl ?_
 exact rt hF h
theorem uh  (w0:aw Ψ Φ []) (p0:Int)  {r:Bool} (h:lR N p0=some r) :
  CB w0 prog 155 [.int .u8 p0] (.bool r):=by
 refine eN func155 rfl ntmps155 rfl w0 fun hF=>?_
 unfold lR at h
 refine atr 7 [] rfl<|lq (qF Aa Av rfl) rfl<|qc h (ce N · (wz p0) 65 90 ·) rfl rfl rfl fun x1 h=>la rfl<|en ?_
 exact rt hF h
theorem uC  (w0:aw Ψ Φ []) (p0:ByteArray)  {r:Bool} (h:lP N p0=some r) :
  CB w0 prog 153 [.string p0] (.bool r):=by
 refine eN func153 rfl ntmps153 rfl w0 fun hF=>?_
 unfold lP at h
 refine att 10 [] rfl ?_
 refine lin (σ:=Int) (fun s=>[(0,.string p0),(3,iV s)]) (fun s=>St w0 Φ [] []) (fun m s=>cK N p0 m s=some r) (0) N h (sx [] []) (fun n1 ih1 s hm=>?_)
 revert hm; revert s; intro s1 hm
 have h:cK N p0 (n1+1) s1=some r:=hm
 show WT _ _ [(0,.string p0),(3,iV s1)] (St w0 Φ [] [])
 unfold cK at h
 refine atr 5 [] rfl<|lq (lX j7 rfl rfl) rfl<|la rfl<|en ?_
 refine ch h rfl ?_ ?_ <;> intro h
 ·refine atr 7 [] rfl ?_
  obtain ⟨y1,hy1,h⟩:=bs h
  refine lq (jh j7 rfl rfl hy1) rfl<|qc h (uh N · (y1.toNat:Int) ·) rfl rfl rfl fun x1 h=>arr 2 [] rfl ?_
  obtain ⟨b1,hb_1,h⟩:=bs h
  refine WL.cutN 10 [(25,.bool b1),(0,.string p0),(3,iV s1)] ?_ (fun K=>?_)
  rotate_left
  ·refine sp 15 hb_1 rfl (fun hb_1=>?_) fun hb_1=>?_
   ·refine arr 3 [] rfl ?_
    obtain ⟨b2,hb_2,hb_1⟩:=bs hb_1
    refine WL.cutN 6 [(24,.bool b2),(0,.string p0),(3,iV s1),(15,.bool true)] ?_ (fun K=>?_)
    rotate_left
    ·refine sp 18 hb_2 rfl (fun hb_2=>?_) fun hb_2=>?_
     ·refine arr 6 [] rfl ?_
      cases hb_2
      exact ku K
     ·refine arr 2 [] rfl<|ly rfl rfl ?_
      obtain ⟨y2,hy2,hb_2⟩:=bs hb_2
      refine lq (jh j7 rfl rfl hy2) rfl<|ly rfl rfl<|qc hb_2 (lY N · (y2.toNat:Int) ·) rfl rfl rfl fun x2 hb_2=>arr 2 [] rfl ?_
      cases hb_2
      exact ku K
    refine la rfl ?_
    cases hb_1
    exact ku K
   ·refine arr 10 [] rfl ?_
    cases hb_1
    exact ku K
  refine en ?_
  refine ch h rfl ?_ ?_ <;> intro h
  ·refine att 4 [] rfl ?_
   exact rt hF h
  refine att 7 [] rfl ?_
  exact lb [] [] (ih1 _ h)
 refine atr 4 [] rfl<|lq (lX j7 rfl rfl) rfl<|qc h (ce N · (p0.size:Int) 1 12 ·) rfl rfl rfl fun x3 h=>la rfl<|en ?_
 exact rt hF h
theorem mm  (w0:aw Ψ Φ []) (p0:bD)  {r:Bool} (h:jz N p0=some r) :
  CB w0 prog 150 [.agg [iV p0.K,.string p0.S,iV p0.V.K,iV p0.V.N,.string p0.V.S].toArray] (.bool r):=by
 refine eN func150 rfl ntmps150 rfl w0 fun hF=>?_
 unfold jz at h
 refine sr<|lbx rfl fun b_1=>arr 6 [2,3] rfl<|lq (aQ (vs:=[]) (C:=#[iV 0,iV 0,.string (⟨#[]⟩:ByteArray)]) tl jk rfl (aa)) rfl<|lq (xE mK rfl rfl rfl (r:=bo p0.V (⟨0,0,(⟨#[]⟩:ByteArray)⟩:bn)) rfl) rfl<|art 14 [0,0] rfl ?_
 refine ch h rfl ?_ ?_ <;> intro h
 ·refine atr 4 [1,0] rfl<|qc h (uC N · p0.S ·) rfl rfl rfl fun x1 h=>la rfl ?_
  obtain ⟨b1,hb_1,h⟩:=bs h
  refine WL.cutN 2 [(17,.bool b1),(2,.bool false)] ?_ (fun K=>?_)
  rotate_left
  ·refine sp 15 hb_1 rfl (fun hb_1=>?_) fun hb_1=>?_
   ·refine arr 2 [] rfl ?_
    cases hb_1
    exact ku K
   ·refine arr 2 [] rfl ?_
    cases hb_1
    exact ku K
  refine la rfl<|en ?_
  exact rt hF h
 refine att 5 [] rfl ?_
 refine ch h rfl ?_ ?_ <;> intro h
 ·refine atr 4 [2,3] rfl<|qc h (sf N · p0.V ·) rfl rfl rfl fun x2 h=>la rfl ?_
  obtain ⟨b2,hb_2,h⟩:=bs h
  refine WL.cutN 4 [(27,.bool b2),(2,.bool false)] ?_ (fun K=>?_)
  rotate_left
  ·refine sp 23 hb_2 rfl (fun hb_2=>?_) fun hb_2=>?_
   ·refine arr 4 [1,0] rfl ?_
    cases hb_2
    exact ku K
   ·refine arr 4 [] rfl ?_
    cases hb_2
    exact ku K
  refine la rfl<|en ?_
  exact rt hF h
 refine att 5 [] rfl ?_
 refine ch h rfl ?_ ?_ <;> intro h
 ·refine atr 6 [1,0] rfl ?_
  obtain ⟨b3,hb_3,h⟩:=bs h
  refine WL.cutN 2 [(35,.bool b3),(2,.bool false)] ?_ (fun K=>?_)
  rotate_left
  ·refine sp 33 hb_3 rfl (fun hb_3=>?_) fun hb_3=>?_
   ·refine arr 2 [] rfl ?_
    cases hb_3
    exact ku K
   ·refine arr 2 [] rfl ?_
    cases hb_3
    exact ku K
  refine la rfl<|en ?_
  exact rt hF h
 refine att 6 [] rfl ?_
 exact rt hF h
theorem wL (w0:aw Ψ Φ []) (p0:av) (ph0_0:RSl du 5 Ψ pG0_0 pv0_0 p0.Args) {r:Bool} (h:oI N p0=some r) :
  CB w0 prog 146 [.agg [.string p0.Kind,pv0_0,.bool p0.Not].toArray] (.bool r):=by
 refine eN func146 rfl ntmps146 rfl w0 fun hF=>?_
 unfold oI at h
 refine sr<|lbx rfl fun b_1=>art 8 [] rfl ?_
 refine lin (σ:=Int) (fun s=>[(1,pQ b_1),(3,iV s)]) (fun s=>St w0 Φ [(b_1,.cells #[.string p0.Kind,pv0_0,.bool p0.Not] 128 (0,0))] []) (fun m s=>fP N p0 m s=some r) (0) N h (sx [] [0]) (fun n1 ih1 s hm=>?_)
 revert hm; revert s; intro s1 hm
 have h:fP N p0 (n1+1) s1=some r:=hm
 show WT _ _ [(1,pQ b_1),(3,iV s1)] (St w0 Φ [(b_1,.cells #[.string p0.Kind,pv0_0,.bool p0.Not] 128 (0,0))] [])
 unfold fP at h
 refine atr 6 [1,0] rfl<|lnr ph0_0 rfl<|la rfl<|en ?_
 refine ch h rfl ?_ ?_ <;> intro h
 ·refine atr 8 [1,0] rfl ?_
  obtain ⟨x1,hx1,h⟩:=bs h
  obtain ⟨cs1,F1,-,g1,hb1,hs1,r1⟩:=ph0_0.el (a9 hx1).2.2
  obtain ⟨rfl,-⟩:=r1
  refine lia ph0_0 hx1 rfl<|lhx 0 5 g1 rfl<|qc h (mm N · x1 ·) rfl rfl rfl fun x2 h=>la rfl<|en ?_
  refine ch h rfl ?_ ?_ <;> intro h
  ·refine att 4 [] rfl ?_
   exact rt hF h
  refine att 7 [] rfl ?_
  exact lb [] [0] (ih1 _ h)
 refine atr 5 [0,0] rfl<|qc h (fd N · p0.Kind ·) rfl rfl rfl fun x3 h=>la rfl ?_
 obtain ⟨b1,hb_1,h⟩:=bs h
 refine WL.cutN 5 [(26,.bool b1)] ?_ (fun K=>?_)
 rotate_left
 ·refine sp 21 hb_1 rfl (fun hb_1=>?_) fun hb_1=>?_
  ·refine arr 2 [1,0] rfl<|ly rfl rfl<|lnr ph0_0 rfl<|arr 2 [] rfl ?_
   cases hb_1
   exact ku K
  ·refine arr 5 [] rfl ?_
   cases hb_1
   exact ku K
 refine la rfl<|en ?_
 exact rt hF h
theorem vv (w0:aw Ψ Φ []) (p0:(List av)) (ph0:RSl bW 3 Ψ pG0 pv0 p0) {r:Bool} (h:nM N p0=some r) :
  CB w0 prog 137 [pv0] (.bool r):=by
 refine eN func137 rfl ntmps137 rfl w0 fun hF=>?_
 unfold nM at h
 refine att 10 [] rfl ?_
 refine lin (σ:=Int) (fun s=>[(0,pv0),(3,iV s)]) (fun s=>St w0 Φ [] []) (fun m s=>dQ N p0 m s=some r) (0) N h (sx [] []) (fun n1 ih1 s hm=>?_)
 revert hm; revert s; intro s1 hm
 have h:dQ N p0 (n1+1) s1=some r:=hm
 show WT _ _ [(0,pv0),(3,iV s1)] (St w0 Φ [] [])
 unfold dQ at h
 refine atr 5 [] rfl<|lnr ph0 rfl<|la rfl<|en ?_
 refine ch h rfl ?_ ?_ <;> intro h
 ·refine atr 9 [] rfl ?_
  obtain ⟨b1,hb_1,h⟩:=bs h
  refine WL.cutN 7 [(19,.bool b1),(0,pv0),(3,iV s1)] ?_ (fun K=>?_)
  rotate_left
  ·refine sp 12 hb_1 rfl (fun hb_1=>?_) fun hb_1=>?_
   ·refine arr 2 [] rfl<|ly rfl rfl ?_
    obtain ⟨x1,hx1,hb_1⟩:=bs hb_1
    obtain ⟨cs1,F1,-,g1,hb1,hs1,r1⟩:=ph0.el (a9 hx1).2.2
    obtain ⟨v1,G1,rfl,hq1,h1⟩:=r1
    obtain rfl:=hq1.symm
    refine lia ph0 hx1 rfl<|ly rfl rfl<|lf kF rfl rfl rfl<|ly rfl rfl<|lhx 2 0 g1 rfl<|arr 2 [] rfl ?_
    cases hb_1
    exact ku K
   ·refine arr 7 [] rfl ?_
    cases hb_1
    exact ku K
  refine en ?_
  refine ch h rfl ?_ ?_ <;> intro h
  ·refine att 4 [] rfl ?_
   exact rt hF h
  refine atr 5 [] rfl ?_
  obtain ⟨x2,hx2,h⟩:=bs h
  obtain ⟨cs2,F2,-,g2,hb2,hs2,r2⟩:=ph0.el (a9 hx2).2.2
  obtain ⟨v2,G2,rfl,hq2,h2⟩:=r2
  obtain rfl:=hq2.symm
  refine lia ph0 hx2 rfl<|lhx 0 3 g2 rfl<|qd h (wL N · x2 h2 ·) rfl rfl rfl fun x3 h=>arr 2 [] rfl ?_
  obtain ⟨b2,hb_2,h⟩:=bs h
  refine WL.cutN 10 [(36,.bool b2),(0,pv0),(3,iV s1)] ?_ (fun K=>?_)
  rotate_left
  ·refine sp 26 hb_2 rfl (fun hb_2=>?_) fun hb_2=>?_
   ·refine arr 10 [] rfl ?_
    cases hb_2
    exact ku K
   ·refine arr 3 [] rfl ?_
    obtain ⟨b3,hb_3,hb_2⟩:=bs hb_2
    refine WL.cutN 6 [(35,.bool b3),(0,pv0),(3,iV s1),(26,.bool false)] ?_ (fun K=>?_)
    rotate_left
    ·refine sp 29 hb_3 rfl (fun hb_3=>?_) fun hb_3=>?_
     ·refine arr 2 [] rfl<|ly rfl rfl ?_
      obtain ⟨x4,hx4,hb_3⟩:=bs hb_3
      obtain ⟨cs3,F3,-,g3,hb3,hs3,r3⟩:=ph0.el (a9 hx4).2.2
      obtain ⟨v3,G3,rfl,hq3,h3⟩:=r3
      obtain rfl:=hq3.symm
      refine lia ph0 hx4 rfl<|ly rfl rfl<|lf kF rfl rfl rfl<|ly rfl rfl<|lhx 2 0 g3 rfl<|ly rfl rfl<|la rfl ?_
      cases hb_3
      exact ku K
     ·refine arr 6 [] rfl ?_
      cases hb_3
      exact ku K
    refine la rfl ?_
    cases hb_2
    exact ku K
  refine la rfl ?_
  obtain ⟨b4,hb_4,h⟩:=bs h
  refine WL.cutN 19 [(56,.bool b4),(0,pv0),(3,iV s1)] ?_ (fun K=>?_)
  rotate_left
  ·refine sp 37 hb_4 rfl (fun hb_4=>?_) fun hb_4=>?_
   ·refine arr 19 [] rfl ?_
    cases hb_4
    exact ku K
   ·refine arr 3 [] rfl ?_
    obtain ⟨b5,hb_5,hb_4⟩:=bs hb_4
    refine WL.cutN 7 [(47,.bool b5),(0,pv0),(3,iV s1),(37,.bool false)] ?_ (fun K=>?_)
    rotate_left
    ·refine sp 40 hb_5 rfl (fun hb_5=>?_) fun hb_5=>?_
     ·refine arr 3 [] rfl<|ly rfl rfl ?_
      obtain ⟨x5,hx5,hb_5⟩:=bs hb_5
      obtain ⟨cs4,F4,-,g4,hb4,hs4,r4⟩:=ph0.el (a9 hx5).2.2
      obtain ⟨v4,G4,rfl,hq4,h4⟩:=r4
      obtain rfl:=hq4.symm
      refine lia ph0 hx5 rfl<|ly rfl rfl<|lf kF rfl rfl rfl<|ly rfl rfl<|lhx 2 0 g4 rfl<|ly rfl rfl<|la rfl ?_
      cases hb_5
      exact ku K
     ·refine arr 7 [] rfl ?_
      cases hb_5
      exact ku K
    refine ly rfl rfl<|la rfl ?_
    obtain ⟨b6,hb_6,hb_4⟩:=bs hb_4
    refine WL.cutN 7 [(55,.bool b6),(0,pv0),(3,iV s1),(37,.bool false)] ?_ (fun K=>?_)
    rotate_left
    ·refine sp 48 hb_6 rfl (fun hb_6=>?_) fun hb_6=>?_
     ·refine arr 2 [] rfl<|ly rfl rfl ?_
      obtain ⟨x6,hx6,hb_6⟩:=bs hb_6
      obtain ⟨cs5,F5,-,g5,hb5,hs5,r5⟩:=ph0.el (a9 hx6).2.2
      obtain ⟨v5,G5,rfl,hq5,h5⟩:=r5
      obtain rfl:=hq5.symm
      refine lia ph0 hx6 rfl<|ly rfl rfl<|lf kF rfl rfl rfl<|ly rfl rfl<|lhx 2 0 g5 rfl<|arr 2 [] rfl ?_
      cases hb_6
      exact ku K
     ·refine arr 7 [] rfl ?_
      cases hb_6
      exact ku K
    refine la rfl ?_
    cases hb_4
    exact ku K
  refine en ?_
  refine ch h rfl ?_ ?_ <;> intro h
  ·refine att 4 [] rfl ?_
   exact rt hF h
  refine att 7 [] rfl ?_
  exact lb [] [] (ih1 _ h)
 refine atr 4 [] rfl<|lnr ph0 rfl<|qc h (ce N · (p0.length:Int) 1 6 ·) rfl rfl rfl fun x7 h=>la rfl<|en ?_
 exact rt hF h
theorem vo  (w0:aw Ψ Φ []) (p0:dK)  {r:Bool} (h:mG N p0=some r) :
  CB w0 prog 147 [.agg [iV p0.Op,iV p0.L.K,.string p0.L.S,iV p0.L.V.K,iV p0.L.V.N,.string p0.L.V.S,iV p0.R.K,.string p0.R.S,iV p0.R.V.K,iV p0.R.V.N,.string p0.R.V.S].toArray] (.bool r):=by
 refine eN func147 rfl ntmps147 rfl w0 fun hF=>?_
 unfold mG at h
 refine sr<|lbx rfl fun b_1=>arr 6 [0,0] rfl<|qc h (ce N · p0.Op 1 3 ·) rfl rfl rfl fun x1 h=>la rfl ?_
 obtain ⟨b1,hb_1,h⟩:=bs h
 refine WL.cutN 4 [(10,.bool b1),(1,pQ b_1),(2,.bool false)] ?_ (fun K=>?_)
 rotate_left
 ·refine sp 6 hb_1 rfl (fun hb_1=>?_) fun hb_1=>?_
  ·refine arr 2 [1,5] rfl<|ly rfl rfl<|qc hb_1 (mm N · p0.L ·) rfl rfl rfl fun x2 hb_1=>la rfl ?_
   cases hb_1
   exact ku K
  ·refine arr 4 [] rfl ?_
   cases hb_1
   exact ku K
 refine la rfl ?_
 obtain ⟨b2,hb_2,h⟩:=bs h
 refine WL.cutN 4 [(15,.bool b2),(1,pQ b_1),(2,.bool false)] ?_ (fun K=>?_)
 rotate_left
 ·refine sp 11 hb_2 rfl (fun hb_2=>?_) fun hb_2=>?_
  ·refine arr 2 [6,5] rfl<|ly rfl rfl<|qc hb_2 (mm N · p0.R ·) rfl rfl rfl fun x3 hb_2=>la rfl ?_
   cases hb_2
   exact ku K
  ·refine arr 4 [] rfl ?_
   cases hb_2
   exact ku K
 refine la rfl ?_
 obtain ⟨b3,hb_3,h⟩:=bs h
 refine WL.cutN 5 [(21,.bool b3),(1,pQ b_1),(2,.bool false)] ?_ (fun K=>?_)
 rotate_left
 ·refine sp 16 hb_3 rfl (fun hb_3=>?_) fun hb_3=>?_
  ·refine arr 5 [1,0,0] rfl ?_
   cases hb_3
   exact ku K
  ·refine arr 5 [] rfl ?_
   cases hb_3
   exact ku K
 refine la rfl ?_
 obtain ⟨b4,hb_4,h⟩:=bs h
 refine WL.cutN 5 [(27,.bool b4),(2,.bool false)] ?_ (fun K=>?_)
 rotate_left
 ·refine sp 22 hb_4 rfl (fun hb_4=>?_) fun hb_4=>?_
  ·refine arr 5 [6,0,0] rfl ?_
   cases hb_4
   exact ku K
  ·refine arr 5 [] rfl ?_
   cases hb_4
   exact ku K
 refine la rfl<|en ?_
 exact rt hF h
theorem uA (w0:aw Ψ Φ []) (p0:(List dK)) (p1:(List ByteArray)) (ph0:RSl bL 11 Ψ pG0 pv0 p0) (ph1:RSl RS 1 Ψ pG1 pv1 p1) {r:Bool} (h:lL N p0 p1=some r) :
  CB w0 prog 138 [pv0,pv1] (.bool r):=by
 refine eN func138 rfl ntmps138 rfl w0 fun hF=>?_
 unfold lL at h
 refine att 10 [] rfl ?_
 refine lin (σ:=Int) (fun s=>[(0,pv0),(1,pv1),(5,iV s)]) (fun s=>St w0 Φ [] []) (fun m s=>eE N p0 p1 m s=some r) (0) N h (sx [] []) (fun n1 ih1 s hm=>?_)
 revert hm; revert s; intro s1 hm
 have h:eE N p0 p1 (n1+1) s1=some r:=hm
 show WT _ _ [(0,pv0),(1,pv1),(5,iV s1)] (St w0 Φ [] [])
 unfold eE at h
 refine atr 5 [] rfl<|lnr ph0 rfl<|la rfl<|en ?_
 refine ch h rfl ?_ ?_ <;> intro h
 ·refine atr 7 [] rfl ?_
  obtain ⟨x1,hx1,h⟩:=bs h
  obtain ⟨cs1,F1,-,g1,hb1,hs1,r1⟩:=ph0.el (a9 hx1).2.2
  obtain ⟨rfl,-⟩:=r1
  refine lia ph0 hx1 rfl<|lhx 0 11 g1 rfl<|qc h (vo N · x1 ·) rfl rfl rfl fun x2 h=>arr 2 [] rfl ?_
  obtain ⟨b1,hb_1,h⟩:=bs h
  refine WL.cutN 9 [(27,.bool b1),(0,pv0),(1,pv1),(5,iV s1)] ?_ (fun K=>?_)
  rotate_left
  ·refine sp 18 hb_1 rfl (fun hb_1=>?_) fun hb_1=>?_
   ·refine arr 9 [] rfl ?_
    cases hb_1
    exact ku K
   ·refine arr 2 [] rfl<|ly rfl rfl ?_
    obtain ⟨x3,hx3,hb_1⟩:=bs hb_1
    obtain ⟨cs2,F2,-,g2,hb2,hs2,r2⟩:=ph0.el (a9 hx3).2.2
    obtain ⟨rfl,-⟩:=r2
    refine lia ph0 hx3 rfl<|ly rfl rfl<|lf w9 rfl rfl rfl<|ly rfl rfl<|lhx 1 5 g2 rfl<|ly rfl rfl<|la rfl<|ly rfl rfl<|qd hb_1 (iJ N · x3.L p1 ph1 ·) rfl rfl rfl fun x4 hb_1=>arr 2 [] rfl ?_
    cases hb_1
    exact ku K
  refine la rfl ?_
  obtain ⟨b2,hb_2,h⟩:=bs h
  refine WL.cutN 9 [(37,.bool b2),(0,pv0),(1,pv1),(5,iV s1)] ?_ (fun K=>?_)
  rotate_left
  ·refine sp 28 hb_2 rfl (fun hb_2=>?_) fun hb_2=>?_
   ·refine arr 9 [] rfl ?_
    cases hb_2
    exact ku K
   ·refine arr 2 [] rfl<|ly rfl rfl ?_
    obtain ⟨x5,hx5,hb_2⟩:=bs hb_2
    obtain ⟨cs3,F3,-,g3,hb3,hs3,r3⟩:=ph0.el (a9 hx5).2.2
    obtain ⟨rfl,-⟩:=r3
    refine lia ph0 hx5 rfl<|ly rfl rfl<|lf w5 rfl rfl rfl<|ly rfl rfl<|lhx 6 5 g3 rfl<|ly rfl rfl<|la rfl<|ly rfl rfl<|qd hb_2 (iJ N · x5.R p1 ph1 ·) rfl rfl rfl fun x6 hb_2=>arr 2 [] rfl ?_
    cases hb_2
    exact ku K
  refine en ?_
  refine ch h rfl ?_ ?_ <;> intro h
  ·refine att 4 [] rfl ?_
   exact rt hF h
  refine att 7 [] rfl ?_
  exact lb [] [] (ih1 _ h)
 refine atr 4 [] rfl<|lnr ph0 rfl<|art 3 [] rfl ?_
 exact rt hF h
theorem mI  (w0:aw Ψ Φ []) (p0:bD)  {r:Bool} (h:iS N p0=some r) :
  CB w0 prog 156 [.agg [iV p0.K,.string p0.S,iV p0.V.K,iV p0.V.N,.string p0.V.S].toArray] (.bool r):=by
 refine eN func156 rfl ntmps156 rfl w0 fun hF=>?_
 unfold iS at h
 refine sr<|lbx rfl fun b_1=>arr 5 [5] rfl<|qc h (mm N · p0 ·) rfl rfl rfl fun x1 h=>la rfl ?_
 obtain ⟨b1,hb_1,h⟩:=bs h
 refine WL.cutN 4 [(9,.bool b1),(2,.bool false)] ?_ (fun K=>?_)
 rotate_left
 ·refine sp 5 hb_1 rfl (fun hb_1=>?_) fun hb_1=>?_
  ·refine arr 4 [0,0] rfl ?_
   cases hb_1
   exact ku K
  ·refine arr 4 [] rfl ?_
   cases hb_1
   exact ku K
 refine la rfl<|en ?_
 exact rt hF h
theorem vk  (w0:aw Ψ Φ []) (p0:bX)  {r:Bool} (h:mV N p0=some r) :
  CB w0 prog 154 [.agg [.string p0.Op,iV p0.L.K,.string p0.L.S,iV p0.L.V.K,iV p0.L.V.N,.string p0.L.V.S,iV p0.R.K,.string p0.R.S,iV p0.R.V.K,iV p0.R.V.N,.string p0.R.V.S].toArray] (.bool r):=by
 refine eN func154 rfl ntmps154 rfl w0 fun hF=>?_
 unfold mV at h
 refine sr<|lbx rfl fun b_1=>art 14 [0,0] rfl ?_
 refine ch h rfl ?_ ?_ <;> intro h
 ·refine atr 4 [1,5] rfl<|qc h (mI N · p0.L ·) rfl rfl rfl fun x1 h=>la rfl ?_
  obtain ⟨b1,hb_1,h⟩:=bs h
  refine WL.cutN 5 [(15,.bool b1),(2,.bool false)] ?_ (fun K=>?_)
  rotate_left
  ·refine sp 10 hb_1 rfl (fun hb_1=>?_) fun hb_1=>?_
   ·refine arr 2 [6,5] rfl<|ly rfl rfl<|lq (aQ (vs:=[]) (C:=#[iV 0,.string (⟨#[]⟩:ByteArray),iV 0,iV 0,.string (⟨#[]⟩:ByteArray)]) uL iu rfl (aa)) rfl<|ly rfl rfl<|lq (xE zd rfl rfl rfl (r:=lF p0.R (⟨0,(⟨#[]⟩:ByteArray),(⟨0,0,(⟨#[]⟩:ByteArray)⟩:bn)⟩:bD)) rfl) rfl<|la rfl ?_
    cases hb_1
    exact ku K
   ·refine arr 5 [] rfl ?_
    cases hb_1
    exact ku K
  refine la rfl<|en ?_
  exact rt hF h
 refine att 6 [] rfl ?_
 refine cut (σ:=Bool) (fun s=>[(1,pQ b_1),(16,.bool s)]) (fun s=>St w0 Φ [(b_1,.cells #[.string p0.Op,iV p0.L.K,.string p0.L.S,iV p0.L.V.K,iV p0.L.V.N,.string p0.L.V.S,iV p0.R.K,.string p0.R.S,iV p0.R.V.K,iV p0.R.V.N,.string p0.R.V.S] 170 (0,0))] []) (fun s=>i7 N p0 s=some r) (fun s hm=>?_) (fun K=>?_)
 ·clear h
  revert hm; revert s; intro s1 hm
  have h:i7 N p0 s1=some r:=hm
  show WT _ _ [(1,pQ b_1),(16,.bool s1)] (St w0 Φ [(b_1,.cells #[.string p0.Op,iV p0.L.K,.string p0.L.S,iV p0.L.V.K,iV p0.L.V.N,.string p0.L.V.S,iV p0.R.K,.string p0.R.S,iV p0.R.V.K,iV p0.R.V.N,.string p0.R.V.S] 170 (0,0))] [])
  unfold i7 at h
  refine ch h rfl ?_ ?_ <;> intro h
  ·refine atr 4 [1,5] rfl<|qc h (mI N · p0.L ·) rfl rfl rfl fun x2 h=>la rfl ?_
   obtain ⟨b2,hb_2,h⟩:=bs h
   refine WL.cutN 4 [(26,.bool b2)] ?_ (fun K=>?_)
   rotate_left
   ·refine sp 22 hb_2 rfl (fun hb_2=>?_) fun hb_2=>?_
    ·refine arr 2 [6,5] rfl<|ly rfl rfl<|qc hb_2 (mI N · p0.R ·) rfl rfl rfl fun x3 hb_2=>la rfl ?_
     cases hb_2
     exact ku K
    ·refine arr 4 [] rfl ?_
     cases hb_2
     exact ku K
   refine la rfl<|en ?_
   exact rt hF h
  refine att 6 [] rfl ?_
  exact rt hF h
 refine ch h rfl ?_ ?_ <;> intro h
 ·refine WT.skip ?_
  exact wo [] [0] (K _ h)
 refine att 4 [] rfl ?_
 exact wo [] [0] (K _ h)
theorem oh (w0:aw Ψ Φ []) (p0:(List bX)) (ph0:RSl cf 11 Ψ pG0 pv0 p0) {r:Bool} (h:jq N p0=some r) :
  CB w0 prog 151 [pv0] (.bool r):=by
 refine eN func151 rfl ntmps151 rfl w0 fun hF=>?_
 unfold jq at h
 refine att 10 [] rfl ?_
 refine lin (σ:=Int) (fun s=>[(0,pv0),(3,iV s)]) (fun s=>St w0 Φ [] []) (fun m s=>f8 N p0 m s=some r) (0) N h (sx [] []) (fun n1 ih1 s hm=>?_)
 revert hm; revert s; intro s1 hm
 have h:f8 N p0 (n1+1) s1=some r:=hm
 show WT _ _ [(0,pv0),(3,iV s1)] (St w0 Φ [] [])
 unfold f8 at h
 refine atr 5 [] rfl<|lnr ph0 rfl<|la rfl<|en ?_
 refine ch h rfl ?_ ?_ <;> intro h
 ·refine atr 7 [] rfl ?_
  obtain ⟨x1,hx1,h⟩:=bs h
  obtain ⟨cs1,F1,-,g1,hb1,hs1,r1⟩:=ph0.el (a9 hx1).2.2
  obtain ⟨rfl,-⟩:=r1
  refine lia ph0 hx1 rfl<|lhx 0 11 g1 rfl<|qc h (vk N · x1 ·) rfl rfl rfl fun x2 h=>la rfl<|en ?_
  refine ch h rfl ?_ ?_ <;> intro h
  ·refine att 4 [] rfl ?_
   exact rt hF h
  refine att 7 [] rfl ?_
  exact lb [] [] (ih1 _ h)
 refine atr 4 [] rfl<|lnr ph0 rfl<|art 3 [] rfl ?_
 exact rt hF h
theorem xf (w0:aw Ψ Φ []) (p0:cU) (ph0_0:RSl cf 11 Ψ pG0_0 pv0_0 p0.Args) {r:Bool} (h:oV N p0=some r) :
  CB w0 prog 148 [.agg [iV p0.Kind,.string p0.Name,pv0_0,iV p0.N,.string p0.Undo].toArray] (.bool r):=by
 refine eN func148 rfl ntmps148 rfl w0 fun hF=>?_
 unfold oV at h
 refine sr<|lbx rfl fun b_1=>arr 8 [1,0] rfl ?_
 obtain ⟨b1,hb_1,h⟩:=bs h
 refine WL.cutN 5 [(12,.bool b1),(1,pQ b_1)] ?_ (fun K=>?_)
 rotate_left
 ·refine sp 7 hb_1 rfl (fun hb_1=>?_) fun hb_1=>?_
  ·refine arr 2 [2,0] rfl<|ly rfl rfl<|lnr ph0_0 rfl<|arr 2 [] rfl ?_
   cases hb_1
   exact ku K
  ·refine arr 5 [] rfl ?_
   cases hb_1
   exact ku K
 refine la rfl ?_
 obtain ⟨b2,hb_2,h⟩:=bs h
 refine WL.cutN 4 [(17,.bool b2),(1,pQ b_1)] ?_ (fun K=>?_)
 rotate_left
 ·refine sp 13 hb_2 rfl (fun hb_2=>?_) fun hb_2=>?_
  ·refine arr 4 [4,0] rfl ?_
   cases hb_2
   exact ku K
  ·refine arr 4 [] rfl ?_
   cases hb_2
   exact ku K
 refine art 14 [0,0] rfl ?_
 refine ch h rfl ?_ ?_ <;> intro h
 ·refine atr 4 [1,0] rfl<|qc h (fd N · p0.Name ·) rfl rfl rfl fun x1 h=>la rfl ?_
  obtain ⟨b3,hb_3,h⟩:=bs h
  refine WL.cutN 4 [(29,.bool b3),(1,pQ b_1)] ?_ (fun K=>?_)
  rotate_left
  ·refine sp 25 hb_3 rfl (fun hb_3=>?_) fun hb_3=>?_
   ·refine arr 2 [2,0] rfl<|ly rfl rfl<|qd hb_3 (oh N · p0.Args ph0_0 ·) rfl rfl rfl fun x2 hb_3=>la rfl ?_
    cases hb_3
    exact ku K
   ·refine arr 4 [] rfl ?_
    cases hb_3
    exact ku K
  refine la rfl ?_
  obtain ⟨b4,hb_4,h⟩:=bs h
  refine WL.cutN 4 [(34,.bool b4),(1,pQ b_1)] ?_ (fun K=>?_)
  rotate_left
  ·refine sp 30 hb_4 rfl (fun hb_4=>?_) fun hb_4=>?_
   ·refine arr 4 [3,0] rfl ?_
    cases hb_4
    exact ku K
   ·refine arr 4 [] rfl ?_
    cases hb_4
    exact ku K
  refine la rfl ?_
  obtain ⟨b5,hb_5,h⟩:=bs h
  refine WL.cutN 4 [(39,.bool b5)] ?_ (fun K=>?_)
  rotate_left
  ·refine sp 35 hb_5 rfl (fun hb_5=>?_) fun hb_5=>?_
   ·refine arr 4 [4,0] rfl ?_
    cases hb_5
    exact ku K
   ·refine arr 4 [] rfl ?_
    cases hb_5
    exact ku K
  refine la rfl<|en ?_
  exact rt hF h
 refine att 5 [] rfl ?_
 refine ch h rfl ?_ ?_ <;> intro h
 ·refine atr 4 [1,0] rfl<|qc h (fd N · p0.Name ·) rfl rfl rfl fun x3 h=>la rfl ?_
  obtain ⟨b6,hb_6,h⟩:=bs h
  refine WL.cutN 4 [(49,.bool b6),(1,pQ b_1)] ?_ (fun K=>?_)
  rotate_left
  ·refine sp 45 hb_6 rfl (fun hb_6=>?_) fun hb_6=>?_
   ·refine arr 2 [2,0] rfl<|ly rfl rfl<|qd hb_6 (oh N · p0.Args ph0_0 ·) rfl rfl rfl fun x4 hb_6=>la rfl ?_
    cases hb_6
    exact ku K
   ·refine arr 4 [] rfl ?_
    cases hb_6
    exact ku K
  refine la rfl ?_
  obtain ⟨b7,hb_7,h⟩:=bs h
  refine WL.cutN 4 [(54,.bool b7),(1,pQ b_1)] ?_ (fun K=>?_)
  rotate_left
  ·refine sp 50 hb_7 rfl (fun hb_7=>?_) fun hb_7=>?_
   ·refine arr 4 [3,0] rfl ?_
    cases hb_7
    exact ku K
   ·refine arr 4 [] rfl ?_
    cases hb_7
    exact ku K
  refine la rfl ?_
  obtain ⟨b8,hb_8,h⟩:=bs h
  refine WL.cutN 9 [(64,.bool b8)] ?_ (fun K=>?_)
  rotate_left
  ·refine sp 55 hb_8 rfl (fun hb_8=>?_) fun hb_8=>?_
   ·refine arr 4 [4,0] rfl ?_
    obtain ⟨b9,hb_9,hb_8⟩:=bs hb_8
    refine WL.cutN 4 [(63,.bool b9),(55,.bool true)] ?_ (fun K=>?_)
    rotate_left
    ·refine sp 59 hb_9 rfl (fun hb_9=>?_) fun hb_9=>?_
     ·refine arr 4 [] rfl ?_
      cases hb_9
      exact ku K
     ·refine arr 2 [4,0] rfl<|ly rfl rfl<|qc hb_9 (fd N · p0.Undo ·) rfl rfl rfl fun x5 hb_9=>ly rfl rfl<|la rfl ?_
      cases hb_9
      exact ku K
    refine la rfl ?_
    cases hb_8
    exact ku K
   ·refine arr 9 [] rfl ?_
    cases hb_8
    exact ku K
  refine la rfl<|en ?_
  exact rt hF h
 refine att 5 [] rfl ?_
 refine ch h rfl ?_ ?_ <;> intro h
 ·refine atr 4 [1,0] rfl<|qc h (fd N · p0.Name ·) rfl rfl rfl fun x6 h=>la rfl ?_
  obtain ⟨b10,hb_10,h⟩:=bs h
  refine WL.cutN 4 [(74,.bool b10),(1,pQ b_1)] ?_ (fun K=>?_)
  rotate_left
  ·refine sp 70 hb_10 rfl (fun hb_10=>?_) fun hb_10=>?_
   ·refine arr 2 [2,0] rfl<|ly rfl rfl<|qd hb_10 (oh N · p0.Args ph0_0 ·) rfl rfl rfl fun x7 hb_10=>la rfl ?_
    cases hb_10
    exact ku K
   ·refine arr 4 [] rfl ?_
    cases hb_10
    exact ku K
  refine la rfl ?_
  obtain ⟨b11,hb_11,h⟩:=bs h
  refine WL.cutN 4 [(79,.bool b11),(1,pQ b_1)] ?_ (fun K=>?_)
  rotate_left
  ·refine sp 75 hb_11 rfl (fun hb_11=>?_) fun hb_11=>?_
   ·refine arr 2 [3,0] rfl<|ly rfl rfl<|qc hb_11 (ce N · p0.N 0 100000 ·) rfl rfl rfl fun x8 hb_11=>la rfl ?_
    cases hb_11
    exact ku K
   ·refine arr 4 [] rfl ?_
    cases hb_11
    exact ku K
  refine la rfl ?_
  obtain ⟨b12,hb_12,h⟩:=bs h
  refine WL.cutN 4 [(84,.bool b12)] ?_ (fun K=>?_)
  rotate_left
  ·refine sp 80 hb_12 rfl (fun hb_12=>?_) fun hb_12=>?_
   ·refine arr 4 [4,0] rfl ?_
    cases hb_12
    exact ku K
   ·refine arr 4 [] rfl ?_
    cases hb_12
    exact ku K
  refine la rfl<|en ?_
  exact rt hF h
 refine att 5 [] rfl ?_
 refine ch h rfl ?_ ?_ <;> intro h
 ·refine atr 4 [] rfl ?_
  obtain ⟨b13,hb_13,h⟩:=bs h
  refine WL.cutN 4 [(92,.bool b13)] ?_ (fun K=>?_)
  rotate_left
  ·refine sp 88 hb_13 rfl (fun hb_13=>?_) fun hb_13=>?_
   ·refine arr 2 [3,0] rfl<|ly rfl rfl<|qc hb_13 (ce N · p0.N 0 7 ·) rfl rfl rfl fun x9 hb_13=>la rfl ?_
    cases hb_13
    exact ku K
   ·refine arr 4 [] rfl ?_
    cases hb_13
    exact ku K
  refine la rfl<|en ?_
  exact rt hF h
 refine att 6 [] rfl ?_
 refine cut (σ:=Bool) (fun s=>[(1,pQ b_1),(3,.bool b2),(93,.bool s)]) (fun s=>St w0 Φ [(b_1,.cells #[iV p0.Kind,.string p0.Name,pv0_0,iV p0.N,.string p0.Undo] 158 (0,0))] []) (fun s=>j0 N p0 b2 s=some r) (fun s hm=>?_) (fun K=>?_)
 ·clear h
  revert hm; revert s; intro s1 hm
  have h:j0 N p0 b2 s1=some r:=hm
  show WT _ _ [(1,pQ b_1),(3,.bool b2),(93,.bool s1)] (St w0 Φ [(b_1,.cells #[iV p0.Kind,.string p0.Name,pv0_0,iV p0.N,.string p0.Undo] 158 (0,0))] [])
  unfold j0 at h
  refine ch h rfl ?_ ?_ <;> intro h
  ·refine atr 4 [] rfl ?_
   obtain ⟨b14,hb_14,h⟩:=bs h
   refine WL.cutN 4 [(101,.bool b14)] ?_ (fun K=>?_)
   rotate_left
   ·refine sp 97 hb_14 rfl (fun hb_14=>?_) fun hb_14=>?_
    ·refine arr 4 [3,0] rfl ?_
     cases hb_14
     exact ku K
    ·refine arr 4 [] rfl ?_
     cases hb_14
     exact ku K
   refine la rfl<|en ?_
   exact rt hF h
  refine att 6 [] rfl ?_
  exact rt hF h
 refine ch h rfl ?_ ?_ <;> intro h
 ·refine WT.skip ?_
  exact wo [] [0] (K _ h)
 refine att 4 [] rfl ?_
 exact wo [] [0] (K _ h)
theorem vq (w0:aw Ψ Φ []) (p0:(List cU)) (p1:(List ByteArray)) (p2:Int) (ph0:RSl fS 5 Ψ pG0 pv0 p0) (ph1:RSl RS 1 Ψ pG1 pv1 p1) {r:Bool} (h:nH N p0 p1 p2=some r) :
  CB w0 prog 139 [pv0,pv1,iV p2] (.bool r):=by
 refine eN func139 rfl ntmps139 rfl w0 fun hF=>?_
 unfold nH at h
 refine att 10 [] rfl ?_
 refine lin (σ:=Int) (fun s=>[(0,pv0),(1,pv1),(2,iV p2),(7,iV s)]) (fun s=>St w0 Φ [] []) (fun m s=>cJ N p0 p1 p2 m s=some r) (0) N h (sx [] []) (fun n1 ih1 s hm=>?_)
 revert hm; revert s; intro s1 hm
 have h:cJ N p0 p1 p2 (n1+1) s1=some r:=hm
 show WT _ _ [(0,pv0),(1,pv1),(2,iV p2),(7,iV s1)] (St w0 Φ [] [])
 unfold cJ at h
 refine atr 5 [] rfl<|lnr ph0 rfl<|la rfl<|en ?_
 refine ch h rfl ?_ ?_ <;> intro h
 ·refine atr 8 [] rfl ?_
  obtain ⟨x1,hx1,h⟩:=bs h
  obtain ⟨cs1,F1,-,g1,hb1,hs1,r1⟩:=ph0.el (a9 hx1).2.2
  obtain ⟨v1,G1,rfl,hq1,h1⟩:=r1
  obtain rfl:=hq1.symm
  refine lia ph0 hx1 rfl<|lhx 0 5 g1 rfl<|qd h (xf N · x1 h1 ·) rfl rfl rfl fun x2 h=>arr 2 [] rfl ?_
  obtain ⟨b1,hb_1,h⟩:=bs h
  refine WL.cutN 16 [(37,.bool b1),(0,pv0),(1,pv1),(2,iV p2),(7,iV s1)] ?_ (fun K=>?_)
  rotate_left
  ·refine sp 21 hb_1 rfl (fun hb_1=>?_) fun hb_1=>?_
   ·refine arr 16 [] rfl ?_
    cases hb_1
    exact ku K
   ·refine arr 2 [] rfl<|ly rfl rfl ?_
    obtain ⟨x3,hx3,hb_1⟩:=bs hb_1
    obtain ⟨cs2,F2,-,g2,hb2,hs2,r2⟩:=ph0.el (a9 hx3).2.2
    obtain ⟨v2,G2,rfl,hq2,h2⟩:=r2
    obtain rfl:=hq2.symm
    refine lia ph0 hx3 rfl<|ly rfl rfl<|lf A7 rfl rfl rfl<|ly rfl rfl<|lhx 0 0 g2 rfl<|arr 2 [] rfl ?_
    obtain ⟨b2,hb_2,hb_1⟩:=bs hb_1
    refine WL.cutN 8 [(36,.bool b2),(0,pv0),(1,pv1),(2,iV p2),(7,iV s1),(21,.bool false)] ?_ (fun K=>?_)
    rotate_left
    ·refine sp 28 hb_2 rfl (fun hb_2=>?_) fun hb_2=>?_
     ·refine arr 2 [] rfl<|ly rfl rfl ?_
      obtain ⟨x4,hx4,hb_2⟩:=bs hb_2
      obtain ⟨cs3,F3,-,g3,hb3,hs3,r3⟩:=ph0.el (a9 hx4).2.2
      obtain ⟨v3,G3,rfl,hq3,h3⟩:=r3
      obtain rfl:=hq3.symm
      refine lia ph0 hx4 rfl<|ly rfl rfl<|lf sL rfl rfl rfl<|ly rfl rfl<|lhx 3 0 g3 rfl<|arr 3 [] rfl ?_
      cases hb_2
      exact ku K
     ·refine arr 8 [] rfl ?_
      cases hb_2
      exact ku K
    refine la rfl ?_
    cases hb_1
    exact ku K
  refine en ?_
  refine ch h rfl ?_ ?_ <;> intro h
  ·refine att 4 [] rfl ?_
   exact rt hF h
  refine att 6 [] rfl ?_
  refine lin (σ:=Int) (fun s=>[(0,pv0),(1,pv1),(2,iV p2),(7,iV s1),(8,iV s)]) (fun s=>St w0 Φ [] []) (fun m s=>f9 N p0 p1 s1 (cJ N p0 p1 p2 n1) m s=some r) (0) N h (sx [] []) (fun n2 ih2 s hm=>?_)
  revert hm; revert s; intro s2 hm
  have h:f9 N p0 p1 s1 (cJ N p0 p1 p2 n1) (n2+1) s2=some r:=hm
  show WT _ _ [(0,pv0),(1,pv1),(2,iV p2),(7,iV s1),(8,iV s2)] (St w0 Φ [] [])
  unfold f9 at h
  refine atr 6 [] rfl ?_
  obtain ⟨x5,hx5,h⟩:=bs h
  obtain ⟨cs4,F4,-,g4,hb4,hs4,r4⟩:=ph0.el (a9 hx5).2.2
  obtain ⟨v4,G4,rfl,hq4,h4⟩:=r4
  obtain rfl:=hq4.symm
  refine lia ph0 hx5 rfl<|lf kE rfl rfl rfl<|lhx 2 0 g4 rfl<|lnr h4 rfl<|la rfl<|en ?_
  refine ch h rfl ?_ ?_ <;> intro h
  ·refine atr 7 [] rfl ?_
   obtain ⟨x6,hx6,h⟩:=bs h
   obtain ⟨cs5,F5,-,g5,hb5,hs5,r5⟩:=ph0.el (a9 hx6).2.2
   obtain ⟨v5,G5,rfl,hq5,h5⟩:=r5
   obtain rfl:=hq5.symm
   refine lia ph0 hx6 rfl<|lf kE rfl rfl rfl<|lhx 2 0 g5 rfl<|la rfl ?_
   obtain ⟨x7,hx7,h⟩:=bs h
   obtain ⟨cs6,F6,-,g6,hb6,hs6,r6⟩:=h5.el (a9 hx7).2.2
   obtain ⟨rfl,-⟩:=r6
   refine lia h5 hx7 rfl<|lf sM rfl rfl rfl<|lhx 1 5 g6 rfl<|la rfl<|qd h (iJ N · x7.L p1 ph1 ·) rfl rfl rfl fun x8 h=>arr 2 [] rfl ?_
   obtain ⟨b3,hb_3,h⟩:=bs h
   refine WL.cutN 13 [(73,.bool b3),(0,pv0),(1,pv1),(2,iV p2),(7,iV s1),(8,iV s2)] ?_ (fun K=>?_)
   rotate_left
   ·refine sp 60 hb_3 rfl (fun hb_3=>?_) fun hb_3=>?_
    ·refine arr 13 [] rfl ?_
     cases hb_3
     exact ku K
    ·refine arr 2 [] rfl<|ly rfl rfl ?_
     obtain ⟨x9,hx9,hb_3⟩:=bs hb_3
     obtain ⟨cs7,F7,-,g7,hb7,hs7,r7⟩:=ph0.el (a9 hx9).2.2
     obtain ⟨v6,G6,rfl,hq6,h6⟩:=r7
     obtain rfl:=hq6.symm
     refine lia ph0 hx9 rfl<|ly rfl rfl<|lf kE rfl rfl rfl<|ly rfl rfl<|lhx 2 0 g7 rfl<|ly rfl rfl<|la rfl<|ly rfl rfl ?_
     obtain ⟨x10,hx10,hb_3⟩:=bs hb_3
     obtain ⟨cs8,F8,-,g8,hb8,hs8,r8⟩:=h6.el (a9 hx10).2.2
     obtain ⟨rfl,-⟩:=r8
     refine lia h6 hx10 rfl<|ly rfl rfl<|lf qH rfl rfl rfl<|ly rfl rfl<|lhx 6 5 g8 rfl<|ly rfl rfl<|la rfl<|ly rfl rfl<|qd hb_3 (iJ N · x10.R p1 ph1 ·) rfl rfl rfl fun x11 hb_3=>arr 2 [] rfl ?_
     cases hb_3
     exact ku K
   refine en ?_
   refine ch h rfl ?_ ?_ <;> intro h
   ·refine att 4 [] rfl ?_
    exact rt hF h
   refine att 7 [] rfl ?_
   exact lb [] [] (ih2 _ h)
  refine att 7 [] rfl ?_
  exact lb [] [] (ih1 _ h)
 refine atr 4 [] rfl<|lnr ph0 rfl<|qc h (ce N · (p0.length:Int) 1 6 ·) rfl rfl rfl fun x12 h=>la rfl<|en ?_
 exact rt hF h
theorem vJ (w0:aw Ψ Φ []) (p0:an) (ph0_0:RSl bW 3 Ψ pG0_0 pv0_0 p0.Pats) (ph0_1:RSl bL 11 Ψ pG0_1 pv0_1 p0.Conds) (ph0_2:RSl fS 5 Ψ pG0_2 pv0_2 p0.Acts) {r:Bool} (h:mM N p0=some r) :
  CB w0 prog 116 [.agg [.string p0.Name,iV p0.Sal,pv0_0,pv0_1,pv0_2].toArray] (.bool r):=by
 refine eN func116 rfl ntmps116 rfl w0 fun hF=>?_
 unfold mM at h
 refine sr<|lbx rfl fun b_1=>arr 5 [5] rfl<|kab h rfl rfl rfl (fun b z q=>pU N b p0 (ph0_0.y z) (ph0_1.y z) (ph0_2.y z) q) ?_
 rintro x1 h v1 Φ_1 F1 ⟨ap1,fr1,v2,rfl,rfl,h1⟩
 refine art 3 [] rfl<|WT.draw cc (by kernel_rfl) (fun _ h=>h.drew)<|aqq 2 [0,0] rfl ?_
 obtain ⟨x2,hx2,h⟩:=bs h
 refine qp (cQ CH rfl (fun w1 hw=>fd N (ba hw.fro) p0.Name hx2)) rfl<|qq (ep rfl) rfl ?_
 obtain ⟨b1,hb_1,h⟩:=bs h
 refine WQ.cutN 4 [(13,.bool b1),(1,pQ b_1),(3,v1)] ?_ (fun K=>?_)
 rotate_left
 ·refine WQ.split (d:=9) rfl (fun c1=>?_) (fun c1=>?_)
  ·replace hb_1:=fN hb_1 c1
   refine aqq 2 [1,0] rfl<|WQ.yes rfl rfl ?_
   obtain ⟨x3,hx3,hb_1⟩:=bs hb_1
   refine qp (cQ AS rfl (fun w1 hw=>ce N (ba hw.fro) p0.Sal (-100) 100 hx3)) rfl<|WQ.q (ph rfl rfl) rfl rfl rfl ?_
   cases hb_1
   exact kq K
  ·replace hb_1:=fO hb_1 c1
   refine aqq 4 [] rfl ?_
   cases hb_1
   exact kq K
 refine qq (ep rfl) rfl ?_
 obtain ⟨b2,hb_2,h⟩:=bs h
 refine WQ.cutN 4 [(18,.bool b2),(1,pQ b_1),(3,v1)] ?_ (fun K=>?_)
 rotate_left
 ·refine WQ.split (d:=14) rfl (fun c2=>?_) (fun c2=>?_)
  ·replace hb_2:=fN hb_2 c2
   refine aqq 2 [2,0] rfl<|WQ.yes rfl rfl ?_
   obtain ⟨x4,hx4,hb_2⟩:=bs hb_2
   refine qp (cQ Di rfl (fun w1 hw=>vv N (ba hw.in0) p0.Pats ph0_0 hx4)) rfl<|WQ.q (ph rfl rfl) rfl rfl rfl ?_
   cases hb_2
   exact kq K
  ·replace hb_2:=fO hb_2 c2
   refine aqq 4 [] rfl ?_
   cases hb_2
   exact kq K
 refine qq (ep rfl) rfl ?_
 obtain ⟨b3,hb_3,h⟩:=bs h
 refine WQ.cutN 5 [(24,.bool b3),(1,pQ b_1),(3,v1)] ?_ (fun K=>?_)
 rotate_left
 ·refine WQ.split (d:=19) rfl (fun c3=>?_) (fun c3=>?_)
  ·replace hb_3:=fN hb_3 c3
   refine aqq 3 [3,0] rfl<|WQ.yes rfl rfl ?_
   obtain ⟨x5,hx5,hb_3⟩:=bs hb_3
   refine qp (cQ CZ rfl (fun w1 hw=>uA N (ba hw.fro) p0.Conds x1 (ph0_1.y hw.up) h1.rsl hx5)) rfl<|WQ.q (ph rfl rfl) rfl rfl rfl ?_
   cases hb_3
   exact kq K
  ·replace hb_3:=fO hb_3 c3
   refine aqq 5 [] rfl ?_
   cases hb_3
   exact kq K
 refine qq (ep rfl) rfl ?_
 obtain ⟨b4,hb_4,h⟩:=bs h
 refine WQ.cutN 7 [(32,.bool b4)] ?_ (fun K=>?_)
 rotate_left
 ·refine WQ.split (d:=25) rfl (fun c4=>?_) (fun c4=>?_)
  ·replace hb_4:=fN hb_4 c4
   refine aqq 4 [4,0,5] rfl<|WQ.yes rfl rfl ?_
   obtain ⟨x6,hx6,hb_4⟩:=bs hb_4
   refine qp (cQ CU rfl (fun w1 hw=>m5 N (ba hw.in0) p0 ph0_0 ph0_1 ph0_2 hx6)) rfl<|WQ.yes rfl rfl ?_
   obtain ⟨x7,hx7,hb_4⟩:=bs hb_4
   refine qp (cQ Ds rfl (fun w1 hw=>vq N (ba hw.fro) p0.Acts x1 x6 (ph0_2.y hw.up) h1.rsl hx7)) rfl<|WQ.q (ph rfl rfl) rfl rfl rfl ?_
   cases hb_4
   exact kq K
  ·replace hb_4:=fO hb_4 c4
   refine aqq 7 [] rfl ?_
   cases hb_4
   exact kq K
 refine aqt 2 [] rfl ?_
 exact rt hF h
theorem vr (w0:aw Ψ Φ []) (p0:bm) (p1:ByteArray) (ph0_0:RSl dH 5 Ψ pG0_0 pv0_0 p0.Rules) {r:Int} (h:nF N p0 p1=some r) :
  CB w0 prog 117 [.agg [.string p0.Name,pv0_0].toArray,.string p1] (iV r):=by
 refine eN func117 rfl ntmps117 rfl w0 fun hF=>?_
 unfold nF at h
 refine sr<|lbx rfl fun b_1=>art 8 [] rfl ?_
 refine lin (σ:=Int) (fun s=>[(1,.string p1),(2,pQ b_1),(5,iV s)]) (fun s=>St w0 Φ [(b_1,.cells #[.string p0.Name,pv0_0] 26 (0,0))] []) (fun m s=>ff N p0 p1 m s=some r) (0) N h (sx [] [0]) (fun n1 ih1 s hm=>?_)
 revert hm; revert s; intro s1 hm
 have h:ff N p0 p1 (n1+1) s1=some r:=hm
 show WT _ _ [(1,.string p1),(2,pQ b_1),(5,iV s1)] (St w0 Φ [(b_1,.cells #[.string p0.Name,pv0_0] 26 (0,0))] [])
 unfold ff at h
 refine atr 6 [1,0] rfl<|lnr ph0_0 rfl<|la rfl<|en ?_
 refine ch h rfl ?_ ?_ <;> intro h
 ·refine atr 8 [1,0] rfl ?_
  obtain ⟨x1,hx1,h⟩:=bs h
  obtain ⟨cs1,F1,-,g1,hb1,hs1,r1⟩:=ph0_0.el (a9 hx1).2.2
  obtain ⟨v1,G1,v2,G2,v3,G3,rfl,rfl,h1,h2,h3⟩:=r1
  refine lia ph0_0 hx1 rfl<|lf wj rfl rfl rfl<|lhx 0 0 g1 rfl<|art 3 [] rfl ?_
  refine ch h rfl ?_ ?_ <;> intro h
  ·refine att 5 [] rfl ?_
   exact rt hF h
  refine att 7 [] rfl ?_
  exact lb [] [0] (ih1 _ h)
 refine att 5 [] rfl ?_
 exact rt hF h
theorem wT (w0:aw Ψ Φ []) (p0:bm) (ph0_0:RSl dH 5 Ψ pG0_0 pv0_0 p0.Rules) {r:Bool} (h:oS N p0=some r) :
  CB w0 prog 82 [.agg [.string p0.Name,pv0_0].toArray] (.bool r):=by
 refine eN func82 rfl ntmps82 rfl w0 fun hF=>?_
 unfold oS at h
 refine sr<|lbx rfl fun b_1=>art 8 [] rfl ?_
 refine lin (σ:=Int) (fun s=>[(1,pQ b_1),(3,iV s)]) (fun s=>St w0 Φ [(b_1,.cells #[.string p0.Name,pv0_0] 26 (0,0))] []) (fun m s=>eZ N p0 m s=some r) (0) N h (sx [] [0]) (fun n1 ih1 s hm=>?_)
 revert hm; revert s; intro s1 hm
 have h:eZ N p0 (n1+1) s1=some r:=hm
 show WT _ _ [(1,pQ b_1),(3,iV s1)] (St w0 Φ [(b_1,.cells #[.string p0.Name,pv0_0] 26 (0,0))] [])
 unfold eZ at h
 refine atr 6 [1,0] rfl<|lnr ph0_0 rfl<|la rfl<|en ?_
 refine ch h rfl ?_ ?_ <;> intro h
 ·refine att 4 [] rfl<|WT.draw cc (by kernel_rfl) (fun _ h=>h.drew)<|aqq 3 [1,0] rfl ?_
  obtain ⟨x1,hx1,h⟩:=bs h
  obtain ⟨cs1,F1,-,g1,hb1,hs1,r1⟩:=ph0_0.el (a9 hx1).2.2
  obtain ⟨v1,G1,v2,G2,v3,G3,rfl,rfl,h1,h2,h3⟩:=r1
  refine qq (ac wx rfl rfl ph0_0 hx1) rfl<|qq (aI mF rfl (fun w1 hw=>(g1.of_eq 0 5 rfl rfl:rg _ _ _ [.string x1.Name,iV x1.Sal,v1,v2,v3]).rangeAt hw.in0) rfl) rfl ?_
  obtain ⟨x2,hx2,h⟩:=bs h
  refine qp (cQ Dw rfl (fun w1 hw=>vJ N (ba hw.in0) x1 h1 h2 h3 hx2)) rfl<|aqq 2 [] rfl ?_
  obtain ⟨b1,hb_1,h⟩:=bs h
  refine WQ.cutN 11 [(29,.bool b1),(1,pQ b_1),(3,iV s1)] ?_ (fun K=>?_)
  rotate_left
  ·refine WQ.split (d:=18) rfl (fun c2=>?_) (fun c2=>?_)
   ·replace hb_1:=fN hb_1 c2
    refine aqq 11 [] rfl ?_
    cases hb_1
    exact kq K
   ·replace hb_1:=fO hb_1 c2
    refine aqq 4 [2,1,0] rfl<|WQ.yes rfl rfl ?_
    obtain ⟨x3,hx3,hb_1⟩:=bs hb_1
    obtain ⟨cs2,F2,-,g2,hb2,hs2,r2⟩:=ph0_0.el (a9 hx3).2.2
    obtain ⟨v4,G4,v5,G5,v6,G6,rfl,rfl,h4,h5,h6⟩:=r2
    refine qq (ac wx rfl rfl ph0_0 hx3) rfl<|WQ.yes rfl rfl<|qq (ab wj rfl) rfl<|WQ.yes rfl rfl<|qq (au FO rfl (fun w1 hw=>(g2.of_eq 0 1 rfl rfl:rg _ _ _ [.string x3.Name]).rangeAt hw.in0)) rfl<|WQ.yes rfl rfl ?_
    obtain ⟨x4,hx4,hb_1⟩:=bs hb_1
    refine qp (cQ Dn rfl (fun w1 hw=>vr N (ba hw.in0) p0 x3.Name ph0_0 hx4)) rfl<|aqq 3 [] rfl ?_
    cases hb_1
    exact kq K
  refine WQ.nil ?_
  refine ch h rfl ?_ ?_ <;> intro h
  ·refine att 4 [] rfl ?_
   exact rt hF h
  refine att 7 [] rfl ?_
  exact lb [] [0] (ih1 _ h)
 refine atr 5 [0,0] rfl<|qc h (fd N · p0.Name ·) rfl rfl rfl fun x5 h=>la rfl ?_
 obtain ⟨b2,hb_2,h⟩:=bs h
 refine WL.cutN 5 [(38,.bool b2)] ?_ (fun K=>?_)
 rotate_left
 ·refine sp 33 hb_2 rfl (fun hb_2=>?_) fun hb_2=>?_
  ·refine arr 2 [1,0] rfl<|ly rfl rfl<|lnr ph0_0 rfl<|ly rfl rfl<|qc hb_2 (ce N · (p0.Rules.length:Int) 1 12 ·) rfl rfl rfl fun x6 hb_2=>la rfl ?_
   cases hb_2
   exact ku K
  ·refine arr 5 [] rfl ?_
   cases hb_2
   exact ku K
 refine la rfl<|en ?_
 exact rt hF h
theorem tT (w0:aw Ψ Φ []) (p0:aO) (p1:aO) (ph0_0:RSl bl 4 Ψ pG0_0 pv0_0 p0.Alphas) (ph0_1:RSl bV 2 Ψ pG0_1 pv0_1 p0.Chains) (ph1_0:RSl bl 4 Ψ pG1_0 pv1_0 p1.Alphas) (ph1_1:RSl bV 2 Ψ pG1_1 pv1_1 p1.Chains) {r:Bool} (h:l9 N p0 p1=some r) :
  CB w0 prog 83 [.agg [pv0_0,pv0_1].toArray,.agg [pv1_0,pv1_1].toArray] (.bool r):=by
 refine eN func83 rfl ntmps83 rfl w0 fun hF=>?_
 unfold l9 at h
 refine sr<|lbx rfl fun b_1=>lbx rfl fun b_2=>arr 7 [0,32] rfl<|lnr ph0_0 rfl<|arr 2 [0,0] rfl<|lnr ph1_0 rfl<|arr 2 [] rfl ?_
 obtain ⟨b1,hb_1,h⟩:=bs h
 refine WL.cutN 8 [(22,.bool b1),(2,pQ b_1),(3,pQ b_2)] ?_ (fun K=>?_)
 rotate_left
 ·refine sp 14 hb_1 rfl (fun hb_1=>?_) fun hb_1=>?_
  ·refine arr 8 [] rfl ?_
   cases hb_1
   exact ku K
  ·refine arr 2 [1,32] rfl<|ly rfl rfl<|lnr ph0_1 rfl<|arr 2 [1,0] rfl<|ly rfl rfl<|lnr ph1_1 rfl<|arr 2 [] rfl ?_
   cases hb_1
   exact ku K
 refine en ?_
 refine ch h rfl ?_ ?_ <;> intro h
 ·refine att 4 [] rfl ?_
  exact rt hF h
 refine att 7 [] rfl ?_
 refine lin (σ:=Int) (fun s=>[(2,pQ b_1),(3,pQ b_2),(5,iV s)]) (fun s=>St w0 Φ [(b_2,.cells #[pv1_0,pv1_1] 30 (0,0)),(b_1,.cells #[pv0_0,pv0_1] 30 (0,0))] []) (fun m s=>dv N p0 p1 m s=some r) (0) N h (sx [] [0,0]) (fun n1 ih1 s hm=>?_)
 revert hm; revert s; intro s1 hm
 have h:dv N p0 p1 (n1+1) s1=some r:=hm
 show WT _ _ [(2,pQ b_1),(3,pQ b_2),(5,iV s1)] (St w0 Φ [(b_2,.cells #[pv1_0,pv1_1] 30 (0,0)),(b_1,.cells #[pv0_0,pv0_1] 30 (0,0))] [])
 unfold dv at h
 refine atr 6 [0,32] rfl<|lnr ph0_0 rfl<|la rfl<|en ?_
 refine ch h rfl ?_ ?_ <;> intro h
 ·refine att 4 [] rfl<|WT.draw cc (by kernel_rfl) (fun _ h=>h.drew)<|aqq 3 [0,32] rfl ?_
  obtain ⟨x1,hx1,h⟩:=bs h
  obtain ⟨cs1,F1,-,g1,hb1,hs1,r1⟩:=ph0_0.el (a9 hx1).2.2
  obtain ⟨v1,G1,v2,G2,rfl,rfl,h1,h2⟩:=r1
  refine qq (ac oG rfl rfl ph0_0 hx1) rfl<|qq (aI rQ rfl (fun w1 hw=>(g1.of_eq 0 4 rfl rfl:rg _ _ _ [.string x1.Kind,iV x1.N,v1,v2]).rangeAt hw.in0) rfl) rfl<|aqq 3 [0,0] rfl ?_
  obtain ⟨x2,hx2,h⟩:=bs h
  obtain ⟨cs2,F2,-,g2,hb2,hs2,r2⟩:=ph1_0.el (a9 hx2).2.2
  obtain ⟨v3,G3,v4,G4,rfl,rfl,h3,h4⟩:=r2
  refine qq (ac oG rfl rfl ph1_0 hx2) rfl<|qq (aI rQ rfl (fun w1 hw=>(g2.of_eq 0 4 rfl rfl:rg _ _ _ [.string x2.Kind,iV x2.N,v3,v4]).rangeAt hw.in0) rfl) rfl ?_
  obtain ⟨x3,hx3,h⟩:=bs h
  refine qp (cQ zk rfl (fun w1 hw=>oB N (ba hw.in0) x1 x2 h1 h2 h3 h4 hx3)) rfl<|aqt 2 [] rfl ?_
  refine ch h rfl ?_ ?_ <;> intro h
  ·refine att 4 [] rfl ?_
   exact rt hF h
  refine att 7 [] rfl ?_
  exact lb [] [0,0] (ih1 _ h)
 refine att 7 [] rfl ?_
 refine lin (σ:=Int) (fun s=>[(2,pQ b_1),(3,pQ b_2),(6,iV s)]) (fun s=>St w0 Φ [(b_2,.cells #[pv1_0,pv1_1] 30 (0,0)),(b_1,.cells #[pv0_0,pv0_1] 30 (0,0))] []) (fun m s=>eM N p0 p1 m s=some r) (0) N h (sx [] [0,0]) (fun n2 ih2 s hm=>?_)
 revert hm; revert s; intro s2 hm
 have h:eM N p0 p1 (n2+1) s2=some r:=hm
 show WT _ _ [(2,pQ b_1),(3,pQ b_2),(6,iV s2)] (St w0 Φ [(b_2,.cells #[pv1_0,pv1_1] 30 (0,0)),(b_1,.cells #[pv0_0,pv0_1] 30 (0,0))] [])
 unfold eM at h
 refine atr 6 [1,32] rfl<|lnr ph0_1 rfl<|la rfl<|en ?_
 refine ch h rfl ?_ ?_ <;> intro h
 ·refine att 4 [] rfl<|WT.draw cc (by kernel_rfl) (fun _ h=>h.drew)<|aqq 3 [1,32] rfl ?_
  obtain ⟨x4,hx4,h⟩:=bs h
  obtain ⟨cs3,F3,-,g3,hb3,hs3,r3⟩:=ph0_1.el (a9 hx4).2.2
  obtain ⟨v5,G5,v6,G6,rfl,rfl,h5,h6⟩:=r3
  refine qq (ac ky rfl rfl ph0_1 hx4) rfl<|qq (ab lg rfl) rfl<|qq (au iz rfl (fun w1 hw=>(g3.of_eq 0 1 rfl rfl:rg _ _ _ [v5]).rangeAt hw.in0)) rfl<|aqq 3 [1,0] rfl ?_
  obtain ⟨x5,hx5,h⟩:=bs h
  obtain ⟨cs4,F4,-,g4,hb4,hs4,r4⟩:=ph1_1.el (a9 hx5).2.2
  obtain ⟨v7,G7,v8,G8,rfl,rfl,h7,h8⟩:=r4
  refine qq (ac ky rfl rfl ph1_1 hx5) rfl<|qq (ab lg rfl) rfl<|qq (au iz rfl (fun w1 hw=>(g4.of_eq 0 1 rfl rfl:rg _ _ _ [v7]).rangeAt hw.in0)) rfl ?_
  obtain ⟨x6,hx6,h⟩:=bs h
  refine qp (cQ zu rfl (fun w1 hw=>nC N (ba hw.in0) x4.Pos x5.Pos h5 h7 hx6)) rfl<|aqq 2 [] rfl ?_
  obtain ⟨b2,hb_2,h⟩:=bs h
  refine WQ.cutN 15 [(78,.bool b2),(2,pQ b_1),(3,pQ b_2),(6,iV s2)] ?_ (fun K=>?_)
  rotate_left
  ·refine WQ.split (d:=63) rfl (fun c6=>?_) (fun c6=>?_)
   ·replace hb_2:=fN hb_2 c6
    refine aqq 15 [] rfl ?_
    cases hb_2
    exact kq K
   ·replace hb_2:=fO hb_2 c6
    refine aqq 3 [1,32] rfl<|WQ.yes rfl rfl ?_
    obtain ⟨x7,hx7,hb_2⟩:=bs hb_2
    obtain ⟨cs5,F5,-,g5,hb5,hs5,r5⟩:=ph0_1.el (a9 hx7).2.2
    obtain ⟨v9,G9,v10,G10,rfl,rfl,h9,h10⟩:=r5
    refine qq (ac ky rfl rfl ph0_1 hx7) rfl<|WQ.yes rfl rfl<|qq (ab qf rfl) rfl<|WQ.yes rfl rfl<|qq (au iz rfl (fun w1 hw=>(g5.of_eq 1 1 rfl rfl:rg _ _ _ [v10]).rangeAt hw.in0)) rfl<|aqq 3 [1,0] rfl<|WQ.yes rfl rfl ?_
    obtain ⟨x8,hx8,hb_2⟩:=bs hb_2
    obtain ⟨cs6,F6,-,g6,hb6,hs6,r6⟩:=ph1_1.el (a9 hx8).2.2
    obtain ⟨v11,G11,v12,G12,rfl,rfl,h11,h12⟩:=r6
    refine qq (ac ky rfl rfl ph1_1 hx8) rfl<|WQ.yes rfl rfl<|qq (ab qf rfl) rfl<|WQ.yes rfl rfl<|qq (au iz rfl (fun w1 hw=>(g6.of_eq 1 1 rfl rfl:rg _ _ _ [v12]).rangeAt hw.in0)) rfl<|WQ.yes rfl rfl ?_
    obtain ⟨x9,hx9,hb_2⟩:=bs hb_2
    refine qp (cQ zu rfl (fun w1 hw=>nC N (ba hw.in0) x7.Neg x8.Neg h10 h12 hx9)) rfl<|aqq 2 [] rfl ?_
    cases hb_2
    exact kq K
  refine WQ.nil ?_
  refine ch h rfl ?_ ?_ <;> intro h
  ·refine att 4 [] rfl ?_
   exact rt hF h
  refine att 7 [] rfl ?_
  exact lb [] [0,0] (ih2 _ h)
 refine att 5 [] rfl ?_
 exact rt hF h
theorem wW (w0:aw Ψ Φ []) (p0:aO) (p1:bm) (ph0_0:RSl bl 4 Ψ pG0_0 pv0_0 p0.Alphas) (ph0_1:RSl bV 2 Ψ pG0_1 pv0_1 p0.Chains) (ph1_0:RSl dH 5 Ψ pG1_0 pv1_0 p1.Rules) {r:Bool} (h:oM N p0 p1=some r) :
  CB w0 prog 55 [.agg [pv0_0,pv0_1].toArray,.agg [.string p1.Name,pv1_0].toArray] (.bool r):=by
 refine eN func55 rfl ntmps55 rfl w0 fun hF=>?_
 unfold oM at h
 refine sr<|lbx rfl fun b_1=>lbx rfl fun b_2=>art 3 [] rfl<|wm [0,1] [] rfl<|amm 1 [0,2] [0,1] rfl rfl ?_
 obtain ⟨x1,hx1,h⟩:=bs h
 refine on1 1 (mp rfl (kS [0,1]) (pdP rfl (wT N · p1 ph1_0 hx1)) rfl ?_)
 refine amm 1 [2] [0,1] rfl rfl ?_
 refine WM.split (d:=7) rfl (fun c1=>?_) (fun c1=>?_)
 ·replace h:=fN h c1
  refine mqG 3 [6,7,8] rfl (by kernel_rfl) (kN [0,1]) (aI uU rfl (fun w1 hw=>hw.rgO (i:=1) rfl 0 2 [pv0_0,pv0_1] rfl) rfl) rfl<|mqG 4 [5,6,7,8] rfl (by kernel_rfl) (kN [0,1]) (aI zh rfl (fun w1 hw=>hw.rgO (i:=0) rfl 0 2 [.string p1.Name,pv1_0] rfl) rfl) rfl ?_
  obtain ⟨x2,hx2,h⟩:=bs h
  refine WM.one 5 (by kernel_rfl) (mcG rfl (fun _ v Φx D w1 hq hw=>Kn.of Kf.nil (ai2 0 1 rfl rfl) hw) (bZ (js:=[]) (R:=[]) Er rfl rfl (fun w1 hw ap hl=>qQ N (ba hw.fro) p1 (ph1_0.y hw.up)  hx2)) rfl ?_)
  rintro v1 Φ_1 F1 ⟨ap1,fr1,v2,D1,v3,D2,X1,rfl,rfl,h1,i1,h2⟩
  obtain ⟨x4,hx3,h⟩:=bs h
  refine on1 6 (mpG rfl (kS [0,1]) (pzP rfl (fun b z=>tT N b p0 x2 (ph0_0.y z) (ph0_1.y z) h1.rsl (h2.rslG ay.gives) hx3)) rfl ?_)
  refine amm 2 [7,8] [0,1] rfl rfl<|WM.nil (by kernel_rfl) ?_
  exact rt hF h
 replace h:=fO h c1
 refine mno 3 [6,7,8] rfl (by kernel_rfl) (kn Kf.nil (ai2 0 1 rfl rfl)) rfl (.inl rfl) rfl rfl<|mno 4 [5,6,7,8] rfl (by kernel_rfl) (kn Kf.nil (ai2 0 1 rfl rfl)) rfl (.inl rfl) rfl rfl<|mno 5 [6,7,8] rfl (by kernel_rfl) (kn Kf.nil (ai2 0 1 rfl rfl)) rfl (.inl rfl) rfl rfl<|mno 6 [7,8] rfl (by kernel_rfl) (kn Kf.nil (ai2 0 1 rfl rfl)) rfl (.inl rfl) rfl rfl<|amm 2 [7,8] [0,1] rfl rfl<|WM.nil (by kernel_rfl) ?_
 exact rt hF h
theorem vg (w0:aw Ψ Φ []) (p0:(List af)) (p1:Int) (p2:Int) (ph0:RSl eF 2 Ψ pG0 pv0 p0) {r:Bool} (h:lx N p0 p1 p2=some r) :
  CB w0 prog 84 [pv0,iV p1,iV p2] (.bool r):=by
 refine eN func84 rfl ntmps84 rfl w0 fun hF=>?_
 unfold lx at h
 refine att 10 [] rfl ?_
 refine lin (σ:=Int) (fun s=>[(0,pv0),(1,iV p1),(2,iV p2),(7,iV s)]) (fun s=>St w0 Φ [] []) (fun m s=>eu N p0 p1 p2 m s=some r) (0) N h (sx [] []) (fun n1 ih1 s hm=>?_)
 revert hm; revert s; intro s1 hm
 have h:eu N p0 p1 p2 (n1+1) s1=some r:=hm
 show WT _ _ [(0,pv0),(1,iV p1),(2,iV p2),(7,iV s1)] (St w0 Φ [] [])
 unfold eu at h
 refine atr 5 [] rfl<|lnr ph0 rfl<|la rfl<|en ?_
 refine ch h rfl ?_ ?_ <;> intro h
 ·refine atr 7 [] rfl ?_
  obtain ⟨x1,hx1,h⟩:=bs h
  obtain ⟨cs1,F1,-,g1,hb1,hs1,r1⟩:=ph0.el (a9 hx1).2.2
  obtain ⟨v1,G1,v2,G2,rfl,rfl,h1,h2⟩:=r1
  refine lia ph0 hx1 rfl<|lf oW rfl rfl rfl<|lhx 0 0 g1 rfl<|lnr h1 rfl<|arr 3 [] rfl ?_
  obtain ⟨b1,hb_1,h⟩:=bs h
  refine WL.cutN 9 [(31,.bool b1),(0,pv0),(1,iV p1),(2,iV p2),(7,iV s1)] ?_ (fun K=>?_)
  rotate_left
  ·refine sp 22 hb_1 rfl (fun hb_1=>?_) fun hb_1=>?_
   ·refine arr 9 [] rfl ?_
    cases hb_1
    exact ku K
   ·refine arr 2 [] rfl<|ly rfl rfl ?_
    obtain ⟨x2,hx2,hb_1⟩:=bs hb_1
    obtain ⟨cs2,F2,-,g2,hb2,hs2,r2⟩:=ph0.el (a9 hx2).2.2
    obtain ⟨v3,G3,v4,G4,rfl,rfl,h3,h4⟩:=r2
    refine lia ph0 hx2 rfl<|ly rfl rfl<|lf oK rfl rfl rfl<|ly rfl rfl<|lhx 1 0 g2 rfl<|ly rfl rfl<|lnr h4 rfl<|arr 3 [] rfl ?_
    cases hb_1
    exact ku K
  refine en ?_
  refine ch h rfl ?_ ?_ <;> intro h
  ·refine att 4 [] rfl ?_
   exact rt hF h
  refine att 7 [] rfl ?_
  exact lb [] [] (ih1 _ h)
 refine att 5 [] rfl ?_
 exact rt hF h
end Go.Proofs.YtinomobmcjnfjaaGreat
