/- Printed by a program of ours: each Go function computes its Lean function. -/
import Derived.Test.YtedmfnmbjglmbaaGreatProg
import Derived.Test.YtedmfnmbjglmbaaGreatWBuiltUpWalk1
namespace Go.Proofs.YtedmfnmbjglmbaaGreat
open Eng Tryz
open Go.RowKit (Below)
set_option linter.unusedVariables false
set_option linter.unusedSimpArgs false

set_option maxRecDepth 100000
set_option maxHeartbeats 1000000
variable {Ψ Φ:Hp} {pv0_0 pv0 pv1 pv1_0:Value} {pG0_0 pG0 pG1 pG1_0 pD0_0:List Nat} {pb0:Nat} (N:Nat)
theorem sj (w0:av Ψ Φ [[pb0]].flatten) (p0:a7) (p1:ByteArray) (ph0_0:RSl (RI .u8) 1 Ψ pG0_0 pv0_0 p0.b) (pp0:Φ pb0=some (.cells #[pv0_0,iV p0.i,iV p0.h] 144 (0,0))) {r:af × a7} (h:lZ N p0 p1=some r) :
  Calls prog 89 [pQ pb0,.string p1].toArray w0.w (be Φ w0.w [[pb0]].flatten (fun Φ' Fs v=>∃ (sr_0_0:Value) (Dr_0_0:List Nat) (sr_0_1:Value) (sr_0_2:Value) (Dr_0_2:List Nat),v = .agg [.string r.1.Name,iV r.1.Sal,sr_0_0,sr_0_1,sr_0_2].toArray∧Fs=[ob sr_0_0,Dr_0_0,ob sr_0_1,ob sr_0_2,Dr_0_2,[pb0]]∧OSl cL 201 3 Φ' Dr_0_0 sr_0_0 r.1.Pats∧OSl bq 173 11 Φ' [] sr_0_1 r.1.Conds∧OSl fd 213 5 Φ' Dr_0_2 sr_0_2 r.1.Acts∧r.2.b=p0.b∧Φ' pb0=some (.cells #[pv0_0,iV r.2.i,iV r.2.h] 144 (0,0)))):=by
 refine eL func89 rfl ntmps89 rfl (L:=[[pb0]]) w0 (fun hF=>?_)
 unfold lZ at h
 refine sr<|lnz p8 rfl fun b_1=>arr 5 [] rfl ?_
 have rc1:RC (RI .i64) 1 Φ ([[],[],[],[],[]]:List (List Nat)) [iV 0,iV 0,iV 5,iV (-5),iV 100] ([0,0,5,(-5),100]:List Int):=RC.cons (c:=[iV 0]) (cells:=[iV 0,iV 5,iV (-5),iV 100]) ⟨rfl,rfl⟩ rfl (RC.cons (c:=[iV 0]) (cells:=[iV 5,iV (-5),iV 100]) ⟨rfl,rfl⟩ rfl (RC.cons (c:=[iV 5]) (cells:=[iV (-5),iV 100]) ⟨rfl,rfl⟩ rfl (RC.cons (c:=[iV (-5)]) (cells:=[iV 100]) ⟨rfl,rfl⟩ rfl (RC.cons (c:=[iV 100]) (cells:=[]) ⟨rfl,rfl⟩ rfl (RC.nil _ _ _)))))
 refine le' (aV (vs:=[(0,iV 0),(1,iV 0),(2,iV 5),(3,iV (-5)),(4,iV 100)]) (C:=#[iV 0,iV 0,iV 5,iV (-5),iV 100]) RI.lasts dQ ou rfl rfl rfl rfl (ag JI (a8 (C':=[iV 0,iV 0,iV 0,iV 0,iV 0]) rfl rfl rfl rfl rfl (a8 (C':=[iV 0,iV 0,iV 0,iV 0,iV 0]) rfl rfl rfl rfl rfl (a8 (C':=[iV 0,iV 0,iV 5,iV 0,iV 0]) rfl rfl rfl rfl rfl (a8 (C':=[iV 0,iV 0,iV 5,iV (-5),iV 0]) rfl rfl rfl rfl rfl (a8 (C':=[iV 0,iV 0,iV 5,iV (-5),iV 100]) rfl rfl rfl rfl rfl (ac))))))) rfl rc1 rfl (by simpa using Kw.nil)) rfl ?_
 rintro v1 Φ_1 D1 ⟨fr1,h1⟩
 replace h1:OSl (RI .i64) 3 1 Φ_1 [] v1 ([0,0,5,(-5),100]:List Int):=by simpa using h1
 replace pp0:=fr1 _ _ (by simp) pp0
 refine kcb [1] h rfl rfl rfl rfl (fun b ap z q=>gA N b p0 ([0,0,5,(-5),100]:List Int) (ph0_0.y z) pp0 (h1.rsl.x (Dj.app (ap.q 0 rfl) dN)) q) ?_
 rintro x1 h v2 Φ_2 F1 ⟨ap1,fr2,rfl,rfl,e1,h2⟩
 refine lq (bz (vs:=[(0,.string p1),(1,iV x1.1)]) (C:=#[.string p1,iV x1.1,.slice none 0 0,.slice none 0 0,.slice none 0 0]) Kz p8 rfl (a8 (C':=[.string p1,iV 0,.slice none 0 0,.slice none 0 0,.slice none 0 0]) rfl rfl rfl rfl rfl (a8 (C':=[.string p1,iV x1.1,.slice none 0 0,.slice none 0 0,.slice none 0 0]) rfl rfl rfl rfl rfl (ac)))) rfl<|lnz p8 rfl fun b_2=>soN 0 qG rfl ⟨rfl,rfl,rfl,rfl,rfl,trivial⟩ rfl ?_
 refine arr 5 [] rfl<|kcb [0] h rfl rfl rfl rfl (fun b ap z q=>az N b (⟨p0.b,x1.2.i,x1.2.h⟩:a7) 3 (ph0_0.y z) h2 q) ?_
 rintro x2 h v3 Φ_3 F2 ⟨ap2,fr3,rfl,rfl,e2,h3⟩
 refine art 4 [] rfl<|wtS<|wt0 ?_
 have k1:=OSl.nil cL 201 3 Φ_3
 refine lin (σ:=Hp × (List au) × Value × List Nat × Int × Int × Int) (fun s=>[(0,pQ pb0),(4,pQ b_1),(5,pQ b_2),(6,iV s.2.2.2.2.1)]) (fun s=>St w0 s.1 [(b_2,.cells #[.string p1,iV x1.1,s.2.2.1,.slice none 0 0,.slice none 0 0] 87 (0,0)),(b_1,.cells #[.string (⟨#[]⟩:ByteArray),iV 0,.slice none 0 0,.slice none 0 0,.slice none 0 0] 87 (0,0))] [s.2.2.2.1,ob s.2.2.1,[pb0]]) (fun m s=>iM N p0 p1 x1 m s.2.1 s.2.2.2.2.1 s.2.2.2.2.2.1 s.2.2.2.2.2.2=some r∧(OSl cL 201 3 s.1 s.2.2.2.1 s.2.2.1 s.2.1)∧(s.1 pb0=some (.cells #[pv0_0,iV s.2.2.2.2.2.1,iV s.2.2.2.2.2.2] 144 (0,0)))) (Φ_3,([]:List au),(.slice none 0 0),[],wz (1+x2.1),x2.2.i,x2.2.h) N ⟨h,k1,h3⟩ (sx [0,0,0] [0,0]) (fun n1 ih1 s hm=>?_)
 obtain ⟨Φ_4,s1,u1,D2,s2,s3,s4⟩:=s
 obtain ⟨h,k2,k3⟩:=hm
 dsimp only at h k2 k3 ⊢
 unfold iM at h
 refine att 6 [] rfl ?_
 refine ch h rfl ?_ ?_ <;> intro h
 ·refine att 3 [] rfl<|wm [0,1] [7] rfl<|amm 3 [0,2,1,0,2] [0,1] rfl rfl ?_
  obtain ⟨x3,hx3,h⟩:=bs h
  refine WM.one 3 (by kernel_rfl) (mc rfl (fun _ v Φx D w1 hq hw=>Kn.of Kf.nil (ai2 0 1 rfl rfl) hw) (bo (js:=[2]) (R:=[D2,ob u1]) Cp rfl rfl (fun w1 hw ap hl=>oQ N (bx hw ap hl) (⟨p0.b,s3,s4⟩:a7) false (ph0_0.y (hw.uo ap)) k3  hx3)) rfl ?_)
  rintro v4 Φ_5 F3 ⟨ap3,fr4,v5,rfl,rfl,h4,e3,h5⟩
  replace k2:=k2.fr fr4 (ap3.q 1 rfl) (ap3.q 0 rfl)
  have rc2:RC cL 3 Φ_5 ([(ob v5++[])]:List (List Nat)) [.string x3.1.Kind,v5,.bool x3.1.Not] ([x3.1]:List au):=RC.cons (c:=[.string x3.1.Kind,v5,.bool x3.1.Not]) (cells:=[]) ⟨v5,rfl,rfl,h4⟩ rfl (RC.nil _ _ _)
  refine WM.one 4 (by kernel_rfl) (me rfl (fun _ v Φx D w1 hq hw=>Kn.of Kf.nil (ai2 0 1 rfl rfl) hw) (aV (vs:=[(0,.agg [.string x3.1.Kind,v5,.bool x3.1.Not].toArray)]) (C:=#[.string x3.1.Kind,v5,.bool x3.1.Not]) cL.lasts qF iU rfl rfl rfl rfl (ag tB (a8 (C':=[.string x3.1.Kind,v5,.bool x3.1.Not]) rfl rfl rfl rfl rfl (ac))) rfl rc2 rfl (RC.kn cL.knows rc2)) rfl ?_)
  rintro v6 Φ_6 D3 ⟨fr5,h6⟩
  replace h6:OSl cL 201 3 Φ_6 ((ob v5++[])) v6 ([x3.1]:List au):=by simpa [List.append_assoc] using h6
  replace k2:=k2.f0 fr5
  replace h5:=fr5 _ _ (by simp) h5
  refine WM.conv (S':=St w0 Φ_6 [(b_2,.cells #[.string p1,iV x1.1,u1,.slice none 0 0,.slice none 0 0] 87 (0,0)),(b_1,.cells #[.string (⟨#[]⟩:ByteArray),iV 0,.slice none 0 0,.slice none 0 0,.slice none 0 0] 87 (0,0))] [((ob v5++[])),ob v6,[pb0],D2,ob u1]) (fun w1 hw=>hw.merge (js:=[1]) rfl (SP.eq (by simp [List.append_assoc,fu]))) ?_
  obtain ⟨x4,hx4,h⟩:=bs h
  refine WM.one 5 (by kernel_rfl) (me rfl (fun _ v Φx D w1 hq hw=>Kn.of Kf.nil (ai2 0 1 rfl rfl) hw) (fY cL.lasts cL.one qF wi rfl rfl rfl rfl rfl (js:=[4]) (Rr:=[((ob v5++[])),ob v6,[pb0],D2]) rfl k2 h6 (fun ap=>ap.q 3 rfl) (fun ap=>ap.q 0 rfl) hx4) rfl ?_)
  rintro v7 Φ_7 D4 ⟨⟨ap4,fr6⟩,h7⟩
  replace h5:=fr6 _ _ ((ap4.q 2 rfl) _ (by simp)) h5
  refine WM.conv (S':=St w0 Φ_7 [(b_2,.cells #[.string p1,iV x1.1,u1,.slice none 0 0,.slice none 0 0] 87 (0,0)),(b_1,.cells #[.string (⟨#[]⟩:ByteArray),iV 0,.slice none 0 0,.slice none 0 0,.slice none 0 0] 87 (0,0))] [(D2++((ob v5++[]))),ob v7,ob v6,[pb0]]) (fun w1 hw=>hw.merge (js:=[4,1]) rfl (SP.eq (by simp)))<|amm 1 [6,2] [0,1] rfl rfl ?_
  refine on1 7 (ms1 0 rfl nk Cx rfl h7.one ?_)
  refine WM.nil (by kernel_rfl)<|att 6 [] rfl ?_
  exact lb [0,0,1] [0,0] (ih1 (_,_,_,_,_,_,_) ⟨h,h7,h5⟩)
 refine atr 5 [] rfl<|kcb [2] h rfl rfl rfl rfl (fun b ap z q=>cJ N b (⟨p0.b,s3,s4⟩:a7) 3 (ph0_0.y z) k3 q) ?_
 rintro x5 h v8 Φ_8 F4 ⟨ap5,fr7,rfl,rfl,e4,h8⟩
 replace k2:=k2.fr fr7 (ap5.q 1 rfl) (ap5.q 0 rfl)
 refine en ?_
 refine cut (σ:=Hp × (List au) × Value × List Nat × Int × Int) (fun s=>[(0,pQ pb0),(4,pQ b_1),(5,pQ b_2)]) (fun s=>St w0 s.1 [(b_2,.cells #[.string p1,iV x1.1,s.2.2.1,.slice none 0 0,.slice none 0 0] 87 (0,0)),(b_1,.cells #[.string (⟨#[]⟩:ByteArray),iV 0,.slice none 0 0,.slice none 0 0,.slice none 0 0] 87 (0,0))] [[pb0],s.2.2.2.1,ob s.2.2.1]) (fun s=>iQ N p0 p1 x1 s.2.1 s.2.2.2.2.1 s.2.2.2.2.2=some r∧(OSl cL 201 3 s.1 s.2.2.2.1 s.2.2.1 s.2.1)∧(s.1 pb0=some (.cells #[pv0_0,iV s.2.2.2.2.1,iV s.2.2.2.2.2] 144 (0,0)))) (fun s hm=>?_) (fun K=>?_)
 ·clear h
  obtain ⟨Φ_9,s5,u2,D5,s6,s7⟩:=s
  obtain ⟨h,k4,k5⟩:=hm
  dsimp only at h k4 k5 ⊢
  unfold iQ at h
  refine atr 3 [5] rfl<|kab h rfl rfl rfl (fun b z q=>qZ N b (⟨p1,x1.1,s5,[],[]⟩:af) (k4.rslG cL.gives) (RSl.nil _ _ _) (RSl.nil _ _ _) q) ?_
  rintro x6 h v9 Φ_10 F5 ⟨ap6,fr8,v10,rfl,rfl,h9⟩
  replace k4:=k4.fr fr8 (ap6.q 2 rfl) (ap6.q 1 rfl)
  replace k5:=fr8 _ _ ((ap6.q 0 rfl) _ (by simp)) k5
  refine arr 6 [] rfl<|kcb [1] h rfl rfl rfl rfl (fun b ap z q=>cJ N b (⟨p0.b,s6,s7⟩:a7) 3 (ph0_0.y z) k5 q) ?_
  rintro x7 h v11 Φ_11 F6 ⟨ap7,fr9,rfl,rfl,e5,h10⟩
  replace k4:=k4.fr fr9 (ap7.q 2 rfl) (ap7.q 1 rfl)
  replace h9:=h9.fr fr9 (ap7.q 0 rfl) dN
  refine en<|wtS ?_
  have k6:=OSl.nil bq 173 11 Φ_11
  refine cut (σ:=Hp × (List cm) × Value × Int × Int) (fun s=>[(0,pQ pb0),(4,pQ b_1),(5,pQ b_2),(7,v9)]) (fun s=>St w0 s.1 [(b_2,.cells #[.string p1,iV x1.1,u2,s.2.2.1,.slice none 0 0] 87 (0,0)),(b_1,.cells #[.string (⟨#[]⟩:ByteArray),iV 0,.slice none 0 0,.slice none 0 0,.slice none 0 0] 87 (0,0))] [ob s.2.2.1,[pb0],ob v9,D5,ob u2]) (fun s=>iR N p0 p1 x1 s5 x6 s.2.1 s.2.2.2.1 s.2.2.2.2=some r∧(OSl cL 201 3 s.1 D5 u2 s5)∧(OSl RS 9 1 s.1 [] v9 x6)∧(OSl bq 173 11 s.1 [] s.2.2.1 s.2.1)∧(s.1 pb0=some (.cells #[pv0_0,iV s.2.2.2.1,iV s.2.2.2.2] 144 (0,0)))) (fun s hm=>?_) (fun K=>?_)
  ·clear h
   obtain ⟨Φ_12,s8,u3,s9,s10⟩:=s
   obtain ⟨h,k4,h9,k7,k8⟩:=hm
   dsimp only at h k4 h9 k7 k8 ⊢
   unfold iR at h
   refine atr 4 [] rfl<|kcb [1] h rfl rfl rfl rfl (fun b ap z q=>az N b (⟨p0.b,s9,s10⟩:a7) 3 (ph0_0.y z) k8 q) ?_
   rintro x8 h v12 Φ_13 F7 ⟨ap8,fr10,rfl,rfl,e6,h11⟩
   replace k4:=k4.fr fr10 (ap8.q 3 rfl) (ap8.q 2 rfl)
   replace h9:=h9.fr fr10 (ap8.q 1 rfl) dN
   replace k7:=k7.fr fr10 (ap8.q 0 rfl) dN
   refine art 4 [] rfl<|wtS<|wt0 ?_
   have k9:=OSl.nil fd 213 5 Φ_13
   refine lin (σ:=Hp × (List cI) × Value × List Nat × Int × Int × Int) (fun s=>[(0,pQ pb0),(4,pQ b_1),(5,pQ b_2),(7,v9),(9,iV s.2.2.2.2.1)]) (fun s=>St w0 s.1 [(b_2,.cells #[.string p1,iV x1.1,u2,u3,s.2.2.1] 87 (0,0)),(b_1,.cells #[.string (⟨#[]⟩:ByteArray),iV 0,.slice none 0 0,.slice none 0 0,.slice none 0 0] 87 (0,0))] [s.2.2.2.1,ob s.2.2.1,[pb0],ob u3,ob v9,D5,ob u2]) (fun m s=>fD N p0 p1 x1 s5 x6 s8 m s.2.1 s.2.2.2.2.1 s.2.2.2.2.2.1 s.2.2.2.2.2.2=some r∧(OSl cL 201 3 s.1 D5 u2 s5)∧(OSl RS 9 1 s.1 [] v9 x6)∧(OSl bq 173 11 s.1 [] u3 s8)∧(OSl fd 213 5 s.1 s.2.2.2.1 s.2.2.1 s.2.1)∧(s.1 pb0=some (.cells #[pv0_0,iV s.2.2.2.2.2.1,iV s.2.2.2.2.2.2] 144 (0,0)))) (Φ_13,([]:List cI),(.slice none 0 0),[],wz (1+x8.1),x8.2.i,x8.2.h) N ⟨h,k4,h9,k7,k9,h11⟩ (sx [0,0,0,0,0,0,0] [0,0]) (fun n4 ih4 s hm=>?_)
   obtain ⟨Φ_14,s11,u4,D6,s12,s13,s14⟩:=s
   obtain ⟨h,k4,h9,k7,k10,k11⟩:=hm
   dsimp only at h k4 h9 k7 k10 k11 ⊢
   unfold fD at h
   refine att 6 [] rfl ?_
   refine ch h rfl ?_ ?_ <;> intro h
   ·refine atr 7 [5] rfl<|qc h (qI N · (⟨p1,x1.1,s5,s8,s11⟩:af) (k4.rslG cL.gives) k7.rsl (k10.rslG fd.gives) ·) rfl rfl rfl fun x9 h=>kcb [2] h rfl rfl rfl rfl (fun b ap z q=>sF N b (⟨p0.b,s13,s14⟩:a7) x9 (ph0_0.y z) k11 q) ?_
    rintro x10 h v13 Φ_15 F8 ⟨ap9,fr11,v14,rfl,rfl,h12,e7,h13⟩
    replace k4:=k4.fr fr11 (ap9.q 5 rfl) (ap9.q 4 rfl)
    replace h9:=h9.fr fr11 (ap9.q 3 rfl) dN
    replace k7:=k7.fr fr11 (ap9.q 2 rfl) dN
    replace k10:=k10.fr fr11 (ap9.q 1 rfl) (ap9.q 0 rfl)
    refine lnz ot rfl fun b_3=>soN 0 qy rfl ⟨rfl,rfl,h12.one,rfl,rfl,trivial⟩ rfl ?_
    refine art 7 [] rfl ?_
    refine lin (σ:=Hp × (List cn) × Int) (fun s=>[(0,pQ pb0),(4,pQ b_1),(5,pQ b_2),(7,v9),(9,iV s12),(10,pQ b_3),(11,iV s.2.2)]) (fun s=>St w0 s.1 [(b_3,.cells #[iV x10.1.Kind,.string x10.1.Name,v14,iV x10.1.N,.string x10.1.Undo] 213 (0,0)),(b_2,.cells #[.string p1,iV x1.1,u2,u3,u4] 87 (0,0)),(b_1,.cells #[.string (⟨#[]⟩:ByteArray),iV 0,.slice none 0 0,.slice none 0 0,.slice none 0 0] 87 (0,0))] [ob v14,[pb0],D6,ob u4,ob u3,ob v9,D5,ob u2]) (fun m s=>fH N x6 s11 s12 (fD N p0 p1 x1 s5 x6 s8 n4) x10 m s.2.1 s.2.2=some r∧(OSl cL 201 3 s.1 D5 u2 s5)∧(OSl RS 9 1 s.1 [] v9 x6)∧(OSl bq 173 11 s.1 [] u3 s8)∧(OSl fd 213 5 s.1 D6 u4 s11)∧(OSl ce 216 11 s.1 [] v14 s.2.1)∧(s.1 pb0=some (.cells #[pv0_0,iV x10.2.i,iV x10.2.h] 144 (0,0)))) (Φ_15,x10.1.Args,0) N ⟨h,k4,h9,k7,k10,h12,h13⟩ (sx [0,0,0,0,0,0,0,0] [0,0,0]) (fun n5 ih5 s hm=>?_)
    obtain ⟨Φ_16,s15,s16⟩:=s
    obtain ⟨h,k4,h9,k7,k10,k12,k13⟩:=hm
    dsimp only at h k4 h9 k7 k10 k12 k13 ⊢
    unfold fH at h
    refine atr 6 [2,0] rfl<|lno k12 rfl<|la rfl<|en ?_
    refine ch h rfl ?_ ?_ <;> intro h
    ·refine att 4 [] rfl ?_
     obtain ⟨x11,hx11,h⟩:=bs h
     obtain ⟨cs1,F9,h14,r1⟩:=k12.focusF ce.flat hx11
     obtain ⟨rfl,-⟩:=r1
     refine WT.mix (Kn w0 Φ_16 (ob u3++(ob u4++ob v14)) [(b_3,.cells #[iV x10.1.Kind,.string x10.1.Name,v14,iV x10.1.N,.string x10.1.Undo] 213 (0,0)),(b_2,.cells #[.string p1,iV x1.1,u2,u3,u4] 87 (0,0)),(b_1,.cells #[.string (⟨#[]⟩:ByteArray),iV 0,.slice none 0 0,.slice none 0 0,.slice none 0 0] 87 (0,0))]) (fun i=>match i with | 13=>false | _=>true) mixed (fun _ h=>h.drew)<|mq 0 rfl (by kernel_rfl) (kn Kf.id (ai3 0 1 2 rfl rfl rfl)) (aK lG rfl) rfl ?_
     refine mq 1 rfl (by kernel_rfl) (kn Kf.id (ai3 0 1 2 rfl rfl rfl)) (cz ze rfl (fun w1 hw=>hw.rgO (i:=0) rfl 2 1 [v14] rfl)) rfl<|ma 2 rfl (by kernel_rfl) (kn Kf.id (ai3 0 1 2 rfl rfl rfl)) rfl<|mq 3 rfl (by kernel_rfl) (kn Kf.id (ai3 0 1 2 rfl rfl rfl)) (aK lG rfl) rfl<|mq 4 rfl (by kernel_rfl) (kn Kf.id (ai3 0 1 2 rfl rfl rfl)) (cz ze rfl (fun w1 hw=>hw.rgO (i:=0) rfl 2 1 [v14] rfl)) rfl<|ma 5 rfl (by kernel_rfl) (kn Kf.id (ai3 0 1 2 rfl rfl rfl)) rfl ?_
     refine mq 6 rfl (by kernel_rfl) (kn Kf.id (ai3 0 1 2 rfl rfl rfl)) (gG rc rfl rfl h14 hx11) rfl<|mq 7 rfl (by kernel_rfl) (kn Kf.id (ai3 0 1 2 rfl rfl rfl)) (aK ud rfl) rfl<|mq 8 rfl (by kernel_rfl) (kn Kf.id (ai3 0 1 2 rfl rfl rfl)) (aG lT rfl (fun w1 hw=>hw.rg (List.mem_append.2 (.inr (List.mem_append.2 (.inr h14.hb)))) (h14.rg.of_eq 1 5 rfl rfl:rg _ _ _ [iV x11.L.K,.string x11.L.S,iV x11.L.V.K,iV x11.L.V.N,.string x11.L.V.S])) rfl) rfl<|ma 9 rfl (by kernel_rfl) (kn Kf.id (ai3 0 1 2 rfl rfl rfl)) rfl ?_
     obtain ⟨x12,hx12,h⟩:=bs h
     refine on1 10 (mp rfl (fun _ w1 hw=>Kn.of Kf.id (ai3 0 1 2 rfl rfl rfl) hw) (pcP rfl (mX N · x11.L x6 h9.rsl hx12)) rfl ?_)
     refine mqT 11 [12,13] rfl (by kernel_rfl) (kn Kf.id (ai3 0 1 2 rfl rfl rfl)) (gG rc rfl rfl h14 hx11) rfl<|mq 12 rfl (by kernel_rfl) (kn Kf.id (ai3 0 1 2 rfl rfl rfl)) (aK ud rfl) rfl ?_
     refine WM.one 13 (by kernel_rfl) (mu rfl (fun hc=>by cases hc) (BA (js:=[0]) (Rr:=[[pb0],D6,ob u4,ob u3,ob v9,D5,ob u2]) (o:=1) (vs:=[iV x12.K,.string x12.S,iV x12.V.K,iV x12.V.N,.string x12.V.S]) (cs':=[.string x11.Op,iV x12.K,.string x12.S,iV x12.V.K,iV x12.V.N,.string x12.V.S,iV x11.R.K,.string x11.R.S,iV x11.R.V.K,iV x11.R.V.N,.string x11.R.V.S]) ce.lasts gV rfl rfl rfl rfl ⟨rfl,rfl,rfl,rfl,rfl,trivial⟩ rfl h14 rfl rfl (fun ap=>dN)) rfl ?_)
     rintro Φ_17 D8 ⟨⟨ap10,fr12⟩,h15⟩
     replace k4:=k4.fr fr12 (ap10.q 6 rfl) (ap10.q 5 rfl)
     replace h9:=h9.fr fr12 (ap10.q 4 rfl) dN
     replace k7:=k7.fr fr12 (ap10.q 3 rfl) dN
     replace k10:=k10.fr fr12 (ap10.q 2 rfl) (ap10.q 1 rfl)
     replace k13:=fr12 _ _ ((ap10.q 0 rfl) _ (by simp)) k13
     refine WM.nil (by kernel_rfl)<|atr 5 [2,0] rfl<|lih h15 hx11 rfl<|lf yI rfl rfl rfl<|lgx 0 0 h15.rg rfl<|la rfl<|en ?_
     refine ch h rfl ?_ ?_ <;> intro h
     ·refine WT.mix (Kn w0 Φ_17 (ob u3++(ob u4++ob v14)) [(b_3,.cells #[iV x10.1.Kind,.string x10.1.Name,v14,iV x10.1.N,.string x10.1.Undo] 213 (0,0)),(b_2,.cells #[.string p1,iV x1.1,u2,u3,u4] 87 (0,0)),(b_1,.cells #[.string (⟨#[]⟩:ByteArray),iV 0,.slice none 0 0,.slice none 0 0,.slice none 0 0] 87 (0,0))]) (fun i=>match i with | 13=>false | _=>true) mixed (fun _ h=>h.drew)<|mq 0 rfl (by kernel_rfl) (kn Kf.id (ai3 0 1 2 rfl rfl rfl)) (aK lG rfl) rfl ?_
      refine mq 1 rfl (by kernel_rfl) (kn Kf.id (ai3 0 1 2 rfl rfl rfl)) (cz ze rfl (fun w1 hw=>hw.rgO (i:=0) rfl 2 1 [v14] rfl)) rfl<|ma 2 rfl (by kernel_rfl) (kn Kf.id (ai3 0 1 2 rfl rfl rfl)) rfl<|mq 3 rfl (by kernel_rfl) (kn Kf.id (ai3 0 1 2 rfl rfl rfl)) (aK lG rfl) rfl<|mq 4 rfl (by kernel_rfl) (kn Kf.id (ai3 0 1 2 rfl rfl rfl)) (cz ze rfl (fun w1 hw=>hw.rgO (i:=0) rfl 2 1 [v14] rfl)) rfl<|ma 5 rfl (by kernel_rfl) (kn Kf.id (ai3 0 1 2 rfl rfl rfl)) rfl ?_
      refine mq 6 rfl (by kernel_rfl) (kn Kf.id (ai3 0 1 2 rfl rfl rfl)) (gG rc rfl rfl h15 hx11) rfl<|mq 7 rfl (by kernel_rfl) (kn Kf.id (ai3 0 1 2 rfl rfl rfl)) (aK rF rfl) rfl<|mq 8 rfl (by kernel_rfl) (kn Kf.id (ai3 0 1 2 rfl rfl rfl)) (aG lT rfl (fun w1 hw=>hw.rg (List.mem_append.2 (.inr (List.mem_append.2 (.inr h15.hb)))) (h15.rg.of_eq 6 5 rfl rfl:rg _ _ _ [iV x11.R.K,.string x11.R.S,iV x11.R.V.K,iV x11.R.V.N,.string x11.R.V.S])) rfl) rfl<|ma 9 rfl (by kernel_rfl) (kn Kf.id (ai3 0 1 2 rfl rfl rfl)) rfl ?_
      obtain ⟨x13,hx13,h⟩:=bs h
      refine on1 10 (mp rfl (fun _ w1 hw=>Kn.of Kf.id (ai3 0 1 2 rfl rfl rfl) hw) (pcP rfl (mX N · x11.R x6 h9.rsl hx13)) rfl ?_)
      refine mqT 11 [12,13] rfl (by kernel_rfl) (kn Kf.id (ai3 0 1 2 rfl rfl rfl)) (gG rc rfl rfl h15 hx11) rfl<|mq 12 rfl (by kernel_rfl) (kn Kf.id (ai3 0 1 2 rfl rfl rfl)) (aK rF rfl) rfl ?_
      refine WM.one 13 (by kernel_rfl) (mu rfl (fun hc=>by cases hc) (BA (js:=[0]) (Rr:=[[pb0],D6,ob u4,ob u3,ob v9,D5,ob u2]) (o:=6) (vs:=[iV x13.K,.string x13.S,iV x13.V.K,iV x13.V.N,.string x13.V.S]) (cs':=[.string x11.Op,iV x12.K,.string x12.S,iV x12.V.K,iV x12.V.N,.string x12.V.S,iV x13.K,.string x13.S,iV x13.V.K,iV x13.V.N,.string x13.V.S]) ce.lasts gV rfl rfl rfl rfl ⟨rfl,rfl,rfl,rfl,rfl,trivial⟩ rfl h15 rfl rfl (fun ap=>dN)) rfl ?_)
      rintro Φ_18 D9 ⟨⟨ap11,fr13⟩,h16⟩
      replace k4:=k4.fr fr13 (ap11.q 6 rfl) (ap11.q 5 rfl)
      replace h9:=h9.fr fr13 (ap11.q 4 rfl) dN
      replace k7:=k7.fr fr13 (ap11.q 3 rfl) dN
      replace k10:=k10.fr fr13 (ap11.q 2 rfl) (ap11.q 1 rfl)
      replace k13:=fr13 _ _ ((ap11.q 0 rfl) _ (by simp)) k13
      refine WM.nil (by kernel_rfl)<|att 6 [] rfl ?_
      have h17:=h16.unfocusF ce.flat (x':=(⟨x11.Op,x12,x13⟩:cn)) ⟨rfl,rfl⟩
      exact lb [0,0,0,0,0,0,0,0] [0,0,0] (ih5 (_,_,_) ⟨h,k4,h9,k7,k10,h17,k13⟩)
     refine att 7 [] rfl ?_
     have h18:=h15.unfocusF ce.flat (x':=(⟨x11.Op,x12,x11.R⟩:cn)) ⟨rfl,rfl⟩
     exact lb [0,0,0,0,0,0,0,0] [0,0,0] (ih5 (_,_,_) ⟨h,k4,h9,k7,k10,h18,k13⟩)
    refine atr 5 [4,32,5] rfl ?_
    have rc3:RC fd 5 Φ_16 ([(ob v14++[])]:List (List Nat)) [iV x10.1.Kind,.string x10.1.Name,v14,iV x10.1.N,.string x10.1.Undo] ([(⟨x10.1.Kind,x10.1.Name,s15,x10.1.N,x10.1.Undo⟩:cI)]:List cI):=RC.cons (c:=[iV x10.1.Kind,.string x10.1.Name,v14,iV x10.1.N,.string x10.1.Undo]) (cells:=[]) ⟨v14,rfl,rfl,k12⟩ rfl (RC.nil _ _ _)
    refine le' (aV (vs:=[(0,.agg [iV x10.1.Kind,.string x10.1.Name,v14,iV x10.1.N,.string x10.1.Undo].toArray)]) (C:=#[iV x10.1.Kind,.string x10.1.Name,v14,iV x10.1.N,.string x10.1.Undo]) fd.lasts xc ot rfl rfl rfl rfl (ag B4 (a8 (C':=[iV x10.1.Kind,.string x10.1.Name,v14,iV x10.1.N,.string x10.1.Undo]) rfl rfl rfl rfl rfl (ac))) rfl rc3 rfl (RC.kn fd.knows rc3)) rfl ?_
    rintro v15 Φ_19 D10 ⟨fr14,h19⟩
    replace h19:OSl fd 213 5 Φ_19 ((ob v14++[])) v15 ([(⟨x10.1.Kind,x10.1.Name,s15,x10.1.N,x10.1.Undo⟩:cI)]:List cI):=by simpa [List.append_assoc] using h19
    replace k4:=k4.f0 fr14
    replace h9:=h9.f0 fr14
    replace k7:=k7.f0 fr14
    replace k10:=k10.f0 fr14
    replace k13:=fr14 _ _ (by simp) k13
    refine wlL [((ob v14++[])),ob v15,[pb0],D6,ob u4,ob u3,ob v9,D5,ob u2] (smg [1] rfl (SP.eq (by simp [List.append_assoc,fu]))) ?_
    obtain ⟨x14,hx14,h⟩:=bs h
    refine le' (fY fd.lasts fd.one xc BH rfl rfl rfl rfl rfl (js:=[4]) (Rr:=[((ob v14++[])),ob v15,[pb0],D6,ob u3,ob v9,D5,ob u2]) rfl k10 h19 (fun ap=>ap.q 3 rfl) (fun ap=>ap.q 0 rfl) hx14) rfl ?_
    rintro v16 Φ_20 D11 ⟨⟨ap12,fr15⟩,h20⟩
    replace k4:=k4.fr fr15 (ap12.q 7 rfl) (ap12.q 6 rfl)
    replace h9:=h9.fr fr15 (ap12.q 5 rfl) dN
    replace k7:=k7.fr fr15 (ap12.q 4 rfl) dN
    replace k13:=fr15 _ _ ((ap12.q 2 rfl) _ (by simp)) k13
    refine wlL [(D6++((ob v14++[]))),ob v16,ob v15,[pb0],ob u3,ob v9,D5,ob u2] (smg [4,1] rfl (SP.eq (by simp)))<|lf wk rfl rfl rfl<|so1 1 Fw rfl h20.one ?_
    refine art 7 [] rfl ?_
    exact lb [0,0,1,1,1,1,1] [1,1] (ih4 (_,_,_,_,_,_,_) ⟨h,k4,h9,k7,h20,k13⟩)
   refine atr 4 [5] rfl<|soN 1 qG rfl ⟨rfl,rfl,k4.one,k7.one,k10.one,trivial⟩ rfl ?_
   refine en ?_
   exact rtg [6,5,3,1,0,0] hF (ay.one (bb wW rfl (fun w1 hw=>hw.rgO (i:=1) rfl 0 5 [.string p1,iV x1.1,u2,u3,u4] rfl) rfl)) rfl (by cases h; exact fun w1 hw=>⟨u2,D5,u3,u4,D6,rfl,rfl,k4,k7,k10,rfl,k11⟩)
  refine ch h rfl ?_ ?_ <;> intro h
  ·refine sr<|la rfl<|kcb [1] h rfl rfl rfl rfl (fun b ap z q=>sd N b (⟨p0.b,x7.2.i,x7.2.h⟩:a7) (ph0_0.y z) h10 q) ?_
   rintro x15 h v17 Φ_21 F10 ⟨ap13,fr16,rfl,rfl,e8,h21⟩
   replace k4:=k4.fr fr16 (ap13.q 3 rfl) (ap13.q 2 rfl)
   replace h9:=h9.fr fr16 (ap13.q 1 rfl) dN
   replace k6:=k6.fr fr16 (ap13.q 0 rfl) dN
   refine lnz nI rfl fun b_4=>soN 0 sQ rfl ⟨rfl,rfl,rfl,rfl,rfl,rfl,rfl,rfl,rfl,rfl,rfl,trivial⟩ rfl ?_
   refine arr 6 [1,5] rfl<|qc h (mX N · x15.1.L x6 h9.rsl ·) rfl rfl rfl fun x16 h=>lf uh rfl rfl rfl<|soN 0 gV rfl ⟨rfl,rfl,rfl,rfl,rfl,trivial⟩ rfl ?_
   refine arr 6 [6,5] rfl<|qc h (mX N · x15.1.R x6 h9.rsl ·) rfl rfl rfl fun x17 h=>lf uf rfl rfl rfl<|soN 0 gV rfl ⟨rfl,rfl,rfl,rfl,rfl,trivial⟩ rfl ?_
   refine arr 5 [3,32,11] rfl ?_
   have rc4:RC bq 11 Φ_21 ([[]]:List (List Nat)) [iV x15.1.Op,iV x16.K,.string x16.S,iV x16.V.K,iV x16.V.N,.string x16.V.S,iV x17.K,.string x17.S,iV x17.V.K,iV x17.V.N,.string x17.V.S] ([(⟨x15.1.Op,x16,x17⟩:cm)]:List cm):=RC.cons (c:=[iV x15.1.Op,iV x16.K,.string x16.S,iV x16.V.K,iV x16.V.N,.string x16.V.S,iV x17.K,.string x17.S,iV x17.V.K,iV x17.V.N,.string x17.V.S]) (cells:=[]) ⟨rfl,rfl⟩ rfl (RC.nil _ _ _)
   refine le' (aV (vs:=[(0,.agg [iV x15.1.Op,iV x16.K,.string x16.S,iV x16.V.K,iV x16.V.N,.string x16.V.S,iV x17.K,.string x17.S,iV x17.V.K,iV x17.V.N,.string x17.V.S].toArray)]) (C:=#[iV x15.1.Op,iV x16.K,.string x16.S,iV x16.V.K,iV x16.V.N,.string x16.V.S,iV x17.K,.string x17.S,iV x17.V.K,iV x17.V.N,.string x17.V.S]) bq.lasts yA nI rfl rfl rfl rfl (ag A0 (a8 (C':=[iV x15.1.Op,iV x16.K,.string x16.S,iV x16.V.K,iV x16.V.N,.string x16.V.S,iV x17.K,.string x17.S,iV x17.V.K,iV x17.V.N,.string x17.V.S]) rfl rfl rfl rfl rfl (ac))) rfl rc4 rfl (by simpa using Kw.nil)) rfl ?_
   rintro v18 Φ_22 D12 ⟨fr17,h22⟩
   replace h22:OSl bq 173 11 Φ_22 [] v18 ([(⟨x15.1.Op,x16,x17⟩:cm)]:List cm):=by simpa using h22
   replace k4:=k4.f0 fr17
   replace h9:=h9.f0 fr17
   replace k6:=k6.f0 fr17
   replace h21:=fr17 _ _ (by simp) h21
   obtain ⟨x18,hx18,h⟩:=bs h
   refine le' (ee bq.lasts bq.one bq.flat yA B8 rfl rfl rfl rfl rfl (js:=[2]) (Rr:=[ob v18,[pb0],ob v9,D5,ob u2]) rfl k6 h22.rsl hx18) rfl ?_
   rintro v19 Φ_23 D13 ⟨⟨ap14,fr18⟩,h23⟩
   replace k4:=k4.fr fr18 (ap14.q 4 rfl) (ap14.q 3 rfl)
   replace h9:=h9.fr fr18 (ap14.q 2 rfl) dN
   replace h21:=fr18 _ _ ((ap14.q 1 rfl) _ (by simp)) h21
   refine lf Al rfl rfl rfl<|so1 1 I5 rfl h23.one ?_
   refine en ?_
   exact wo [0,1,1,1,1] [1,1] (K (_,_,_,_,_) ⟨h,k4,h9,h23,h21⟩)
  refine WT.skip ?_
  exact wo [0,0,0,0,0] [0,0] (K (_,_,_,_,_) ⟨h,k4,h9,k6,h10⟩)
 refine ch h rfl ?_ ?_ <;> intro h
 ·refine wm [0,1] [7] rfl<|amm 3 [0,2,1,0,2] [0,1] rfl rfl ?_
  obtain ⟨x19,hx19,h⟩:=bs h
  refine WM.one 3 (by kernel_rfl) (mc rfl (fun _ v Φx D w1 hq hw=>Kn.of Kf.nil (ai2 0 1 rfl rfl) hw) (bo (js:=[0]) (R:=[D2,ob u1]) Cp rfl rfl (fun w1 hw ap hl=>oQ N (bx hw ap hl) (⟨p0.b,x5.2.i,x5.2.h⟩:a7) true (ph0_0.y (hw.uo ap)) h8  hx19)) rfl ?_)
  rintro v20 Φ_24 F11 ⟨ap15,fr19,v21,rfl,rfl,h24,e9,h25⟩
  replace k2:=k2.fr fr19 (ap15.q 1 rfl) (ap15.q 0 rfl)
  have rc5:RC cL 3 Φ_24 ([(ob v21++[])]:List (List Nat)) [.string x19.1.Kind,v21,.bool x19.1.Not] ([x19.1]:List au):=RC.cons (c:=[.string x19.1.Kind,v21,.bool x19.1.Not]) (cells:=[]) ⟨v21,rfl,rfl,h24⟩ rfl (RC.nil _ _ _)
  refine WM.one 4 (by kernel_rfl) (me rfl (fun _ v Φx D w1 hq hw=>Kn.of Kf.nil (ai2 0 1 rfl rfl) hw) (aV (vs:=[(0,.agg [.string x19.1.Kind,v21,.bool x19.1.Not].toArray)]) (C:=#[.string x19.1.Kind,v21,.bool x19.1.Not]) cL.lasts qF iU rfl rfl rfl rfl (ag tB (a8 (C':=[.string x19.1.Kind,v21,.bool x19.1.Not]) rfl rfl rfl rfl rfl (ac))) rfl rc5 rfl (RC.kn cL.knows rc5)) rfl ?_)
  rintro v22 Φ_25 D14 ⟨fr20,h26⟩
  replace h26:OSl cL 201 3 Φ_25 ((ob v21++[])) v22 ([x19.1]:List au):=by simpa [List.append_assoc] using h26
  replace k2:=k2.f0 fr20
  replace h25:=fr20 _ _ (by simp) h25
  refine WM.conv (S':=St w0 Φ_25 [(b_2,.cells #[.string p1,iV x1.1,u1,.slice none 0 0,.slice none 0 0] 87 (0,0)),(b_1,.cells #[.string (⟨#[]⟩:ByteArray),iV 0,.slice none 0 0,.slice none 0 0,.slice none 0 0] 87 (0,0))] [((ob v21++[])),ob v22,[pb0],D2,ob u1]) (fun w1 hw=>hw.merge (js:=[1]) rfl (SP.eq (by simp [List.append_assoc,fu]))) ?_
  obtain ⟨x20,hx20,h⟩:=bs h
  refine WM.one 5 (by kernel_rfl) (me rfl (fun _ v Φx D w1 hq hw=>Kn.of Kf.nil (ai2 0 1 rfl rfl) hw) (fY cL.lasts cL.one qF wi rfl rfl rfl rfl rfl (js:=[4]) (Rr:=[((ob v21++[])),ob v22,[pb0],D2]) rfl k2 h26 (fun ap=>ap.q 3 rfl) (fun ap=>ap.q 0 rfl) hx20) rfl ?_)
  rintro v23 Φ_26 D15 ⟨⟨ap16,fr21⟩,h27⟩
  replace h25:=fr21 _ _ ((ap16.q 2 rfl) _ (by simp)) h25
  refine WM.conv (S':=St w0 Φ_26 [(b_2,.cells #[.string p1,iV x1.1,u1,.slice none 0 0,.slice none 0 0] 87 (0,0)),(b_1,.cells #[.string (⟨#[]⟩:ByteArray),iV 0,.slice none 0 0,.slice none 0 0,.slice none 0 0] 87 (0,0))] [(D2++((ob v21++[]))),ob v23,ob v22,[pb0]]) (fun w1 hw=>hw.merge (js:=[4,1]) rfl (SP.eq (by simp)))<|amm 1 [6,2] [0,1] rfl rfl ?_
  refine on1 7 (ms1 0 rfl nk Cx rfl h27.one ?_)
  refine WM.nil (by kernel_rfl) ?_
  exact wo [3,0,0] [0,0] (K (_,_,_,_,_,_) ⟨h,h27,h25⟩)
 refine WT.skip ?_
 exact wo [0,0,0] [0,0] (K (_,_,_,_,_,_) ⟨h,k2,h8⟩)
theorem rB (w0:av Ψ Φ [[pb0]].flatten) (p0:a7) (ph0_0:RSl (RI .u8) 1 Ψ pG0_0 pv0_0 p0.b) (pp0:Φ pb0=some (.cells #[pv0_0,iV p0.i,iV p0.h] 144 (0,0))) {r:bP × a7} (h:kx N p0=some r) :
  Calls prog 35 [pQ pb0].toArray w0.w (be Φ w0.w [[pb0]].flatten (fun Φ' Fs v=>∃ (sr_0_0:Value) (Dr_0_0:List Nat),v = .agg [.string r.1.Name,sr_0_0].toArray∧Fs=[ob sr_0_0,Dr_0_0,[pb0]]∧OSl fA 87 5 Φ' Dr_0_0 sr_0_0 r.1.Rules∧r.2.b=p0.b∧Φ' pb0=some (.cells #[pv0_0,iV r.2.i,iV r.2.h] 144 (0,0)))):=by
 refine eL func35 rfl ntmps35 rfl (L:=[[pb0]]) w0 (fun hF=>?_)
 unfold kx at h
 refine sr<|lnz uO rfl fun b_1=>arr 4 [] rfl ?_
 have rc1:RC RS 1 Φ ([[],[],[]]:List (List Nat)) [.string (⟨#[102,108,111,119]⟩:ByteArray),.string (⟨#[115,104,105,112]⟩:ByteArray),.string (⟨#[120]⟩:ByteArray)] ([(⟨#[102,108,111,119]⟩:ByteArray),(⟨#[115,104,105,112]⟩:ByteArray),(⟨#[120]⟩:ByteArray)]:List ByteArray):=RC.cons (c:=[.string (⟨#[102,108,111,119]⟩:ByteArray)]) (cells:=[.string (⟨#[115,104,105,112]⟩:ByteArray),.string (⟨#[120]⟩:ByteArray)]) ⟨rfl,rfl⟩ rfl (RC.cons (c:=[.string (⟨#[115,104,105,112]⟩:ByteArray)]) (cells:=[.string (⟨#[120]⟩:ByteArray)]) ⟨rfl,rfl⟩ rfl (RC.cons (c:=[.string (⟨#[120]⟩:ByteArray)]) (cells:=[]) ⟨rfl,rfl⟩ rfl (RC.nil _ _ _)))
 refine le' (aV (vs:=[(0,.string (⟨#[102,108,111,119]⟩:ByteArray)),(1,.string (⟨#[115,104,105,112]⟩:ByteArray)),(2,.string (⟨#[120]⟩:ByteArray))]) (C:=#[.string (⟨#[102,108,111,119]⟩:ByteArray),.string (⟨#[115,104,105,112]⟩:ByteArray),.string (⟨#[120]⟩:ByteArray)]) RS.lasts dF lQ rfl rfl rfl rfl (ag rk (a8 (C':=[.string (⟨#[102,108,111,119]⟩:ByteArray),.string ⟨#[]⟩,.string ⟨#[]⟩]) rfl rfl rfl rfl rfl (a8 (C':=[.string (⟨#[102,108,111,119]⟩:ByteArray),.string (⟨#[115,104,105,112]⟩:ByteArray),.string ⟨#[]⟩]) rfl rfl rfl rfl rfl (a8 (C':=[.string (⟨#[102,108,111,119]⟩:ByteArray),.string (⟨#[115,104,105,112]⟩:ByteArray),.string (⟨#[120]⟩:ByteArray)]) rfl rfl rfl rfl rfl (ac))))) rfl rc1 rfl (by simpa using Kw.nil)) rfl ?_
 rintro v1 Φ_1 D1 ⟨fr1,h1⟩
 replace h1:OSl RS 9 1 Φ_1 [] v1 ([(⟨#[102,108,111,119]⟩:ByteArray),(⟨#[115,104,105,112]⟩:ByteArray),(⟨#[120]⟩:ByteArray)]:List ByteArray):=by simpa using h1
 replace pp0:=fr1 _ _ (by simp) pp0
 refine kcb [1] h rfl rfl rfl rfl (fun b ap z q=>bA N b p0 ([(⟨#[102,108,111,119]⟩:ByteArray),(⟨#[115,104,105,112]⟩:ByteArray),(⟨#[120]⟩:ByteArray)]:List ByteArray) (ph0_0.y z) pp0 (h1.rsl.x (Dj.app (ap.q 0 rfl) dN)) q) ?_
 rintro x1 h v2 Φ_2 F1 ⟨ap1,fr2,rfl,rfl,e1,h2⟩
 refine lq (bz (vs:=[(0,.string x1.1)]) (C:=#[.string x1.1,.slice none 0 0]) Ku uO rfl (a8 (C':=[.string x1.1,.slice none 0 0]) rfl rfl rfl rfl rfl (ac))) rfl<|lnz uO rfl fun b_2=>soN 0 vd rfl ⟨rfl,rfl,trivial⟩ rfl ?_
 refine en<|sr ?_
 have rc2:RC RS 1 Φ_2 ([[],[],[],[]]:List (List Nat)) [.string (⟨#[114,49]⟩:ByteArray),.string (⟨#[114,50]⟩:ByteArray),.string (⟨#[114,51]⟩:ByteArray),.string (⟨#[114,52]⟩:ByteArray)] ([(⟨#[114,49]⟩:ByteArray),(⟨#[114,50]⟩:ByteArray),(⟨#[114,51]⟩:ByteArray),(⟨#[114,52]⟩:ByteArray)]:List ByteArray):=RC.cons (c:=[.string (⟨#[114,49]⟩:ByteArray)]) (cells:=[.string (⟨#[114,50]⟩:ByteArray),.string (⟨#[114,51]⟩:ByteArray),.string (⟨#[114,52]⟩:ByteArray)]) ⟨rfl,rfl⟩ rfl (RC.cons (c:=[.string (⟨#[114,50]⟩:ByteArray)]) (cells:=[.string (⟨#[114,51]⟩:ByteArray),.string (⟨#[114,52]⟩:ByteArray)]) ⟨rfl,rfl⟩ rfl (RC.cons (c:=[.string (⟨#[114,51]⟩:ByteArray)]) (cells:=[.string (⟨#[114,52]⟩:ByteArray)]) ⟨rfl,rfl⟩ rfl (RC.cons (c:=[.string (⟨#[114,52]⟩:ByteArray)]) (cells:=[]) ⟨rfl,rfl⟩ rfl (RC.nil _ _ _))))
 refine le' (aV (vs:=[(0,.string (⟨#[114,49]⟩:ByteArray)),(1,.string (⟨#[114,50]⟩:ByteArray)),(2,.string (⟨#[114,51]⟩:ByteArray)),(3,.string (⟨#[114,52]⟩:ByteArray))]) (C:=#[.string (⟨#[114,49]⟩:ByteArray),.string (⟨#[114,50]⟩:ByteArray),.string (⟨#[114,51]⟩:ByteArray),.string (⟨#[114,52]⟩:ByteArray)]) RS.lasts dF lQ rfl rfl rfl rfl (ag ut (a8 (C':=[.string (⟨#[114,49]⟩:ByteArray),.string ⟨#[]⟩,.string ⟨#[]⟩,.string ⟨#[]⟩]) rfl rfl rfl rfl rfl (a8 (C':=[.string (⟨#[114,49]⟩:ByteArray),.string (⟨#[114,50]⟩:ByteArray),.string ⟨#[]⟩,.string ⟨#[]⟩]) rfl rfl rfl rfl rfl (a8 (C':=[.string (⟨#[114,49]⟩:ByteArray),.string (⟨#[114,50]⟩:ByteArray),.string (⟨#[114,51]⟩:ByteArray),.string ⟨#[]⟩]) rfl rfl rfl rfl rfl (a8 (C':=[.string (⟨#[114,49]⟩:ByteArray),.string (⟨#[114,50]⟩:ByteArray),.string (⟨#[114,51]⟩:ByteArray),.string (⟨#[114,52]⟩:ByteArray)]) rfl rfl rfl rfl rfl (ac)))))) rfl rc2 rfl (by simpa using Kw.nil)) rfl ?_
 rintro v3 Φ_3 D2 ⟨fr3,h3⟩
 replace h3:OSl RS 9 1 Φ_3 [] v3 ([(⟨#[114,49]⟩:ByteArray),(⟨#[114,50]⟩:ByteArray),(⟨#[114,51]⟩:ByteArray),(⟨#[114,52]⟩:ByteArray)]:List ByteArray):=by simpa using h3
 replace h2:=fr3 _ _ (by simp) h2
 refine art 8 [] rfl<|wtS<|wt0 ?_
 have k1:=OSl.nil fA 87 5 Φ_3
 refine lin (σ:=Hp × (List af) × Value × List Nat × Int × Int × Int) (fun s=>[(0,pQ pb0),(2,pQ b_1),(3,pQ b_2),(4,v3),(5,iV s.2.2.2.2.1)]) (fun s=>St w0 s.1 [(b_2,.cells #[.string x1.1,s.2.2.1] 26 (0,0)),(b_1,.cells #[.string (⟨#[]⟩:ByteArray),.slice none 0 0] 26 (0,0))] [s.2.2.2.1,ob s.2.2.1,ob v3,[pb0]]) (fun m s=>hJ N p0 x1 m s.2.1 s.2.2.2.2.1 s.2.2.2.2.2.1 s.2.2.2.2.2.2=some r∧(OSl RS 9 1 s.1 [] v3 ([(⟨#[114,49]⟩:ByteArray),(⟨#[114,50]⟩:ByteArray),(⟨#[114,51]⟩:ByteArray),(⟨#[114,52]⟩:ByteArray)]:List ByteArray))∧(OSl fA 87 5 s.1 s.2.2.2.1 s.2.2.1 s.2.1)∧(s.1 pb0=some (.cells #[pv0_0,iV s.2.2.2.2.2.1,iV s.2.2.2.2.2.2] 144 (0,0)))) (Φ_3,([]:List af),(.slice none 0 0),[],0,x1.2.i,x1.2.h) N ⟨h,h3,k1,h2⟩ (sx [0,0,0,0] [0,0]) (fun n1 ih1 s hm=>?_)
 obtain ⟨Φ_4,s1,u1,D3,s2,s3,s4⟩:=s
 obtain ⟨h,h3,k2,k3⟩:=hm
 dsimp only at h h3 k2 k3 ⊢
 unfold hJ at h
 refine atr 5 [] rfl<|kcb [3] h rfl rfl rfl rfl (fun b ap z q=>az N b (⟨p0.b,s3,s4⟩:a7) 4 (ph0_0.y z) k3 q) ?_
 rintro x2 h v4 Φ_5 F2 ⟨ap2,fr4,rfl,rfl,e2,h4⟩
 replace h3:=h3.fr fr4 (ap2.q 2 rfl) dN
 replace k2:=k2.fr fr4 (ap2.q 1 rfl) (ap2.q 0 rfl)
 refine arr 3 [] rfl ?_
 obtain ⟨b3,hb_1,h⟩:=bs h
 refine WL.cutN 3 [(19,.bool b3),(0,pQ pb0),(2,pQ b_1),(3,pQ b_2),(4,v3),(5,iV s2)] ?_ (fun K=>?_)
 rotate_left
 ·refine sp 16 hb_1 rfl (fun hb_1=>?_) fun hb_1=>?_
  ·refine arr 3 [] rfl ?_
   cases hb_1
   exact ku K
  ·refine arr 3 [] rfl ?_
   cases hb_1
   exact ku K
 refine en ?_
 refine ch h rfl ?_ ?_ <;> intro h
 ·refine att 3 [] rfl<|WT.mix (Kn w0 Φ_5 (ob v3) [(b_2,.cells #[.string x1.1,u1] 26 (0,0)),(b_1,.cells #[.string (⟨#[]⟩:ByteArray),.slice none 0 0] 26 (0,0))]) (fun i=>match i with | 11=>false | _=>true) mixed (fun _ h=>h.drew)<|mq 0 rfl (by kernel_rfl) (kn Kf.id (ai2 0 1 rfl rfl)) (aK pI rfl) rfl<|mq 1 rfl (by kernel_rfl) (kn Kf.id (ai2 0 1 rfl rfl)) (cz CE rfl (fun w1 hw=>hw.rgO (i:=0) rfl 1 1 [u1] rfl)) rfl<|ma 2 rfl (by kernel_rfl) (kn Kf.id (ai2 0 1 rfl rfl)) rfl<|ma 3 rfl (by kernel_rfl) (kn Kf.id (ai2 0 1 rfl rfl)) rfl ?_
  refine ma 4 rfl (by kernel_rfl) (kn Kf.id (ai2 0 1 rfl rfl)) rfl ?_
  obtain ⟨x3,hx3,h⟩:=bs h
  obtain ⟨cs1,F3,-,g1,hb1,hs1,r1⟩:=h3.elS (ab hx3).2.2
  obtain ⟨rfl,-⟩:=r1
  refine mq 5 rfl (by kernel_rfl) (kn Kf.id (ai2 0 1 rfl rfl)) (aw dF rfl rfl h3.rsl hx3) rfl<|mq 6 rfl (by kernel_rfl) (kn Kf.id (ai2 0 1 rfl rfl)) (cz K8 rfl (fun w1 hw=>hw.rg hb1 (g1.of_eq 0 1 rfl rfl:rg _ _ _ [.string x3]))) rfl ?_
  obtain ⟨x4,hx4,h⟩:=bs h
  refine WM.one 7 (by kernel_rfl) (mc rfl (fun _ v Φx D w1 hq hw=>Kn.of (Kf.id.st hq.2.1 (hq.1.r (i:=2) rfl)) (ai2 0 1 rfl rfl) hw) (bo (js:=[0]) (R:=[D3,ob u1,ob v3]) IN rfl rfl (fun w1 hw ap hl=>sj N (bx hw ap hl) (⟨p0.b,x2.2.i,x2.2.h⟩:a7) x3 (ph0_0.y (hw.uo ap)) h4  hx4)) rfl ?_)
  rintro v5 Φ_6 F4 ⟨ap3,fr5,v6,D4,v7,v8,D5,rfl,rfl,h5,h6,h7,e3,h8⟩
  replace h3:=h3.fr fr5 (ap3.q 2 rfl) dN
  replace k2:=k2.fr fr5 (ap3.q 1 rfl) (ap3.q 0 rfl)
  have rc3:RC fA 5 Φ_6 ([(ob v6++D4)++((ob v7++[])++((ob v8++D5)))]:List (List Nat)) [.string x4.1.Name,iV x4.1.Sal,v6,v7,v8] ([x4.1]:List af):=RC.cons (c:=[.string x4.1.Name,iV x4.1.Sal,v6,v7,v8]) (cells:=[]) ⟨v6,D4,v7,v8,D5,rfl,rfl,h5,h6,h7⟩ rfl (RC.nil _ _ _)
  have kf1:=(Kf.id (F:=(ob v3)):Kf Φ_5 _ _).st fr5 (ap3.q 2 rfl)
  refine WM.one 8 (by kernel_rfl) (me rfl (fun _ v Φx D w1 hq hw=>Kn.of (kf1.se hq.1) (ai2 0 1 rfl rfl) hw) (aV (vs:=[(0,.agg [.string x4.1.Name,iV x4.1.Sal,v6,v7,v8].toArray)]) (C:=#[.string x4.1.Name,iV x4.1.Sal,v6,v7,v8]) fA.lasts sH p8 rfl rfl rfl rfl (ag Cd (a8 (C':=[.string x4.1.Name,iV x4.1.Sal,v6,v7,v8]) rfl rfl rfl rfl rfl (ac))) rfl rc3 rfl (RC.kn fA.knows rc3)) rfl ?_)
  rintro v9 Φ_7 D6 ⟨fr6,h9⟩
  replace h9:OSl fA 87 5 Φ_7 ((ob v6++D4)++((ob v7++[])++((ob v8++D5)))) v9 ([x4.1]:List af):=by simpa [List.append_assoc] using h9
  replace h3:=h3.f0 fr6
  replace k2:=k2.f0 fr6
  replace h8:=fr6 _ _ (by simp) h8
  refine WM.conv (S':=St w0 Φ_7 [(b_2,.cells #[.string x1.1,u1] 26 (0,0)),(b_1,.cells #[.string (⟨#[]⟩:ByteArray),.slice none 0 0] 26 (0,0))] [((ob v6++D4)++((ob v7++[])++((ob v8++D5)))),ob v9,[pb0],D3,ob u1,ob v3]) (fun w1 hw=>hw.merge (js:=[1,1,1,1,1]) rfl (SP.eq (by simp [List.append_assoc,fu]))) ?_
  obtain ⟨x5,hx5,h⟩:=bs h
  have kf2:=kf1.se fr6
  refine WM.one 9 (by kernel_rfl) (me rfl (fun _ v Φx D w1 hq hw=>Kn.of (kf2.st hq.1.2 (hq.1.1.r (i:=4) rfl)) (ai2 0 1 rfl rfl) hw) (fY fA.lasts fA.one sH Ig rfl rfl rfl rfl rfl (js:=[4]) (Rr:=[((ob v6++D4)++((ob v7++[])++((ob v8++D5)))),ob v9,[pb0],D3,ob v3]) rfl k2 h9 (fun ap=>ap.q 3 rfl) (fun ap=>ap.q 0 rfl) hx5) rfl ?_)
  rintro v10 Φ_8 D7 ⟨⟨ap4,fr7⟩,h10⟩
  replace h3:=h3.fr fr7 (ap4.q 4 rfl) dN
  replace h8:=fr7 _ _ ((ap4.q 2 rfl) _ (by simp)) h8
  refine WM.conv (S':=St w0 Φ_8 [(b_2,.cells #[.string x1.1,u1] 26 (0,0)),(b_1,.cells #[.string (⟨#[]⟩:ByteArray),.slice none 0 0] 26 (0,0))] [(D3++((ob v6++D4)++((ob v7++[])++((ob v8++D5))))),ob v10,ob v9,[pb0],ob v3]) (fun w1 hw=>hw.merge (js:=[4,1]) rfl (SP.eq (by simp))) ?_
  have kf3:=kf2.st fr7 (ap4.q 4 rfl)
  refine mq 10 rfl (by kernel_rfl) (kn kf3 (ai2 0 1 rfl rfl)) (aK pI rfl) rfl ?_
  refine on1 11 (ms1 0 rfl nk FD rfl h10.one ?_)
  refine WM.nil (by kernel_rfl)<|att 6 [] rfl ?_
  exact lb [0,0,2,1] [0,0] (ih1 (_,_,_,_,_,_,_) ⟨h,h3,h10,h8⟩)
 refine atr 4 [2] rfl<|soN 1 vd rfl ⟨rfl,k2.one,trivial⟩ rfl ?_
 refine en ?_
 exact rtg [2,1,0] hF (ay.one (bb y5 rfl (fun w1 hw=>hw.rgO (i:=1) rfl 0 2 [.string x1.1,u1] rfl) rfl)) rfl (by cases h; exact fun w1 hw=>⟨u1,D3,rfl,rfl,k2,rfl,h4⟩)
theorem rV (w0:av Ψ Φ [[pb0]].flatten) (p0:a7) (ph0_0:RSl (RI .u8) 1 Ψ pG0_0 pv0_0 p0.b) (pp0:Φ pb0=some (.cells #[pv0_0,iV p0.i,iV p0.h] 144 (0,0))) {r:aL × a7} (h:kg N p0=some r) :
  Calls prog 61 [pQ pb0].toArray w0.w (be Φ w0.w [[pb0]].flatten (fun Φ' Fs v=>∃ (sr_0_0:Value),v = .agg [.string r.1.Kind,sr_0_0].toArray∧Fs=[ob sr_0_0,[pb0]]∧OSl aP 95 3 Φ' [] sr_0_0 r.1.Fields∧r.2.b=p0.b∧Φ' pb0=some (.cells #[pv0_0,iV r.2.i,iV r.2.h] 144 (0,0)))):=by
 refine eL func61 rfl ntmps61 rfl (L:=[[pb0]]) w0 (fun hF=>?_)
 unfold kg at h
 refine sr<|lnz ox rfl fun b_1=>arr 4 [] rfl ?_
 have rc1:RC RS 1 Φ ([[],[],[],[]]:List (List Nat)) [.string (⟨#[111,114,100,101,114]⟩:ByteArray),.string (⟨#[112,97,105,100]⟩:ByteArray),.string (⟨#[105,116,101,109]⟩:ByteArray),.string (⟨#[111,114,100,101,114]⟩:ByteArray)] ([(⟨#[111,114,100,101,114]⟩:ByteArray),(⟨#[112,97,105,100]⟩:ByteArray),(⟨#[105,116,101,109]⟩:ByteArray),(⟨#[111,114,100,101,114]⟩:ByteArray)]:List ByteArray):=RC.cons (c:=[.string (⟨#[111,114,100,101,114]⟩:ByteArray)]) (cells:=[.string (⟨#[112,97,105,100]⟩:ByteArray),.string (⟨#[105,116,101,109]⟩:ByteArray),.string (⟨#[111,114,100,101,114]⟩:ByteArray)]) ⟨rfl,rfl⟩ rfl (RC.cons (c:=[.string (⟨#[112,97,105,100]⟩:ByteArray)]) (cells:=[.string (⟨#[105,116,101,109]⟩:ByteArray),.string (⟨#[111,114,100,101,114]⟩:ByteArray)]) ⟨rfl,rfl⟩ rfl (RC.cons (c:=[.string (⟨#[105,116,101,109]⟩:ByteArray)]) (cells:=[.string (⟨#[111,114,100,101,114]⟩:ByteArray)]) ⟨rfl,rfl⟩ rfl (RC.cons (c:=[.string (⟨#[111,114,100,101,114]⟩:ByteArray)]) (cells:=[]) ⟨rfl,rfl⟩ rfl (RC.nil _ _ _))))
 refine le' (aV (vs:=[(0,.string (⟨#[111,114,100,101,114]⟩:ByteArray)),(1,.string (⟨#[112,97,105,100]⟩:ByteArray)),(2,.string (⟨#[105,116,101,109]⟩:ByteArray)),(3,.string (⟨#[111,114,100,101,114]⟩:ByteArray))]) (C:=#[.string (⟨#[111,114,100,101,114]⟩:ByteArray),.string (⟨#[112,97,105,100]⟩:ByteArray),.string (⟨#[105,116,101,109]⟩:ByteArray),.string (⟨#[111,114,100,101,114]⟩:ByteArray)]) RS.lasts dF lQ rfl rfl rfl rfl (ag ut (a8 (C':=[.string (⟨#[111,114,100,101,114]⟩:ByteArray),.string ⟨#[]⟩,.string ⟨#[]⟩,.string ⟨#[]⟩]) rfl rfl rfl rfl rfl (a8 (C':=[.string (⟨#[111,114,100,101,114]⟩:ByteArray),.string (⟨#[112,97,105,100]⟩:ByteArray),.string ⟨#[]⟩,.string ⟨#[]⟩]) rfl rfl rfl rfl rfl (a8 (C':=[.string (⟨#[111,114,100,101,114]⟩:ByteArray),.string (⟨#[112,97,105,100]⟩:ByteArray),.string (⟨#[105,116,101,109]⟩:ByteArray),.string ⟨#[]⟩]) rfl rfl rfl rfl rfl (a8 (C':=[.string (⟨#[111,114,100,101,114]⟩:ByteArray),.string (⟨#[112,97,105,100]⟩:ByteArray),.string (⟨#[105,116,101,109]⟩:ByteArray),.string (⟨#[111,114,100,101,114]⟩:ByteArray)]) rfl rfl rfl rfl rfl (ac)))))) rfl rc1 rfl (by simpa using Kw.nil)) rfl ?_
 rintro v1 Φ_1 D1 ⟨fr1,h1⟩
 replace h1:OSl RS 9 1 Φ_1 [] v1 ([(⟨#[111,114,100,101,114]⟩:ByteArray),(⟨#[112,97,105,100]⟩:ByteArray),(⟨#[105,116,101,109]⟩:ByteArray),(⟨#[111,114,100,101,114]⟩:ByteArray)]:List ByteArray):=by simpa using h1
 replace pp0:=fr1 _ _ (by simp) pp0
 refine kcb [1] h rfl rfl rfl rfl (fun b ap z q=>bA N b p0 ([(⟨#[111,114,100,101,114]⟩:ByteArray),(⟨#[112,97,105,100]⟩:ByteArray),(⟨#[105,116,101,109]⟩:ByteArray),(⟨#[111,114,100,101,114]⟩:ByteArray)]:List ByteArray) (ph0_0.y z) pp0 (h1.rsl.x (Dj.app (ap.q 0 rfl) dN)) q) ?_
 rintro x1 h v2 Φ_2 F1 ⟨ap1,fr2,rfl,rfl,e1,h2⟩
 refine lq (bz (vs:=[(0,.string x1.1)]) (C:=#[.string x1.1,.slice none 0 0]) CW ox rfl (a8 (C':=[.string x1.1,.slice none 0 0]) rfl rfl rfl rfl rfl (ac))) rfl<|lnz ox rfl fun b_2=>soN 0 qO rfl ⟨rfl,rfl,trivial⟩ rfl ?_
 refine art 12 [0,0] rfl ?_
 refine cut (σ:=Int) (fun s=>[(0,pQ pb0),(2,pQ b_1),(3,pQ b_2),(4,iV s)]) (fun s=>St w0 Φ_2 [(b_2,.cells #[.string x1.1,.slice none 0 0] 52 (0,0)),(b_1,.cells #[.string (⟨#[]⟩:ByteArray),.slice none 0 0] 52 (0,0))] [[pb0]]) (fun s=>gP N p0 x1 s=some r) (fun s hm=>?_) (fun K=>?_)
 ·clear h
  revert hm; revert s; intro s1 hm
  have h:gP N p0 x1 s1=some r:=hm
  show WT _ _ [(0,pQ pb0),(2,pQ b_1),(3,pQ b_2),(4,iV s1)] (St w0 Φ_2 [(b_2,.cells #[.string x1.1,.slice none 0 0] 52 (0,0)),(b_1,.cells #[.string (⟨#[]⟩:ByteArray),.slice none 0 0] 52 (0,0))] [[pb0]])
  unfold gP at h
  refine atr 4 [] rfl<|kcb [0] h rfl rfl rfl rfl (fun b ap z q=>cJ N b (⟨p0.b,x1.2.i,x1.2.h⟩:a7) 12 (ph0_0.y z) h2 q) ?_
  rintro x2 h v3 Φ_3 F2 ⟨ap2,fr3,rfl,rfl,e2,h3⟩
  refine en ?_
  refine cut (σ:=Hp × Int × Int × Int) (fun s=>[(0,pQ pb0),(2,pQ b_1),(3,pQ b_2),(4,iV s.2.1)]) (fun s=>St w0 s.1 [(b_2,.cells #[.string x1.1,.slice none 0 0] 52 (0,0)),(b_1,.cells #[.string (⟨#[]⟩:ByteArray),.slice none 0 0] 52 (0,0))] [[pb0]]) (fun s=>jV N p0 x1 s.2.1 s.2.2.1 s.2.2.2=some r∧(s.1 pb0=some (.cells #[pv0_0,iV s.2.2.1,iV s.2.2.2] 144 (0,0)))) (fun s hm=>?_) (fun K=>?_)
  ·clear h
   obtain ⟨Φ_4,s2,s3,s4⟩:=s
   obtain ⟨h,k1⟩:=hm
   dsimp only at h k1 ⊢
   unfold jV at h
   refine att 6 [] rfl<|wtS ?_
   have k2:=OSl.nil aP 95 3 Φ_4
   refine lin (σ:=Hp × (List aN) × Value × Int × Int × Int) (fun s=>[(0,pQ pb0),(2,pQ b_1),(3,pQ b_2),(4,iV s2),(5,iV s.2.2.2.1)]) (fun s=>St w0 s.1 [(b_2,.cells #[.string x1.1,s.2.2.1] 52 (0,0)),(b_1,.cells #[.string (⟨#[]⟩:ByteArray),.slice none 0 0] 52 (0,0))] [ob s.2.2.1,[pb0]]) (fun m s=>iG N p0 x1 s2 m s.2.1 s.2.2.2.1 s.2.2.2.2.1 s.2.2.2.2.2=some r∧(OSl aP 95 3 s.1 [] s.2.2.1 s.2.1)∧(s.1 pb0=some (.cells #[pv0_0,iV s.2.2.2.2.1,iV s.2.2.2.2.2] 144 (0,0)))) (Φ_4,([]:List aN),(.slice none 0 0),0,s3,s4) N ⟨h,k2,k1⟩ (sx [0,0] [0,0]) (fun n3 ih3 s hm=>?_)
   obtain ⟨Φ_5,s5,u1,s6,s7,s8⟩:=s
   obtain ⟨h,k3,k4⟩:=hm
   dsimp only at h k3 k4 ⊢
   unfold iG at h
   refine att 7 [] rfl ?_
   refine ch h rfl ?_ ?_ <;> intro h
   ·refine att 3 [] rfl<|wm [0,1] [7] rfl<|amm 3 [0,1,1,0,2] [0,1] rfl rfl ?_
    obtain ⟨x3,hx3,h⟩:=bs h
    refine WM.one 3 (by kernel_rfl) (mc rfl (fun _ v Φx D w1 hq hw=>Kn.of Kf.nil (ai2 0 1 rfl rfl) hw) (bo (js:=[1]) (R:=[ob u1]) GW rfl rfl (fun w1 hw ap hl=>nQ N (bx hw ap hl) (⟨p0.b,s7,s8⟩:a7) (ph0_0.y (hw.uo ap)) k4  hx3)) rfl ?_)
    rintro v4 Φ_6 F3 ⟨ap3,fr4,rfl,rfl,e3,h4⟩
    replace k3:=k3.fr fr4 (ap3.q 0 rfl) dN
    have rc2:RC aP 3 Φ_6 ([[]]:List (List Nat)) [iV x3.1.K,iV x3.1.N,.string x3.1.S] ([x3.1]:List aN):=RC.cons (c:=[iV x3.1.K,iV x3.1.N,.string x3.1.S]) (cells:=[]) ⟨rfl,rfl⟩ rfl (RC.nil _ _ _)
    refine WM.one 4 (by kernel_rfl) (me rfl (fun _ v Φx D w1 hq hw=>Kn.of Kf.nil (ai2 0 1 rfl rfl) hw) (aV (vs:=[(0,.agg [iV x3.1.K,iV x3.1.N,.string x3.1.S].toArray)]) (C:=#[iV x3.1.K,iV x3.1.N,.string x3.1.S]) aP.lasts iZ gF rfl rfl rfl rfl (ag tv (a8 (C':=[iV x3.1.K,iV x3.1.N,.string x3.1.S]) rfl rfl rfl rfl rfl (ac))) rfl rc2 rfl (by simpa using Kw.nil)) rfl ?_)
    rintro v5 Φ_7 D2 ⟨fr5,h5⟩
    replace h5:OSl aP 95 3 Φ_7 [] v5 ([x3.1]:List aN):=by simpa using h5
    replace k3:=k3.f0 fr5
    replace h4:=fr5 _ _ (by simp) h4
    obtain ⟨x4,hx4,h⟩:=bs h
    refine WM.one 5 (by kernel_rfl) (me rfl (fun _ v Φx D w1 hq hw=>Kn.of Kf.nil (ai2 0 1 rfl rfl) hw) (ee aP.lasts aP.one aP.flat iZ yx rfl rfl rfl rfl rfl (js:=[2]) (Rr:=[ob v5,[pb0]]) rfl k3 h5.rsl hx4) rfl ?_)
    rintro v6 Φ_8 D3 ⟨⟨ap4,fr6⟩,h6⟩
    replace h4:=fr6 _ _ ((ap4.q 1 rfl) _ (by simp)) h4
    refine amm 1 [6,1] [0,1] rfl rfl ?_
    refine on1 7 (ms1 0 rfl nk Ag rfl h6.one ?_)
    refine WM.nil (by kernel_rfl)<|att 6 [] rfl ?_
    exact lb [0,1] [0,0] (ih3 (_,_,_,_,_,_) ⟨h,h6,h4⟩)
   refine atr 4 [2] rfl<|soN 1 qO rfl ⟨rfl,k3.one,trivial⟩ rfl ?_
   refine en ?_
   exact rtg [0,0] hF (ay.one (bb rq rfl (fun w1 hw=>hw.rgO (i:=1) rfl 0 2 [.string x1.1,u1] rfl) rfl)) rfl (by cases h; exact fun w1 hw=>⟨u1,rfl,rfl,k3,rfl,k4⟩)
  refine ch h rfl ?_ ?_ <;> intro h
  ·refine atr 2 [] rfl<|kcb [0] h rfl rfl rfl rfl (fun b ap z q=>az N b (⟨p0.b,x2.2.i,x2.2.h⟩:a7) 6 (ph0_0.y z) h3 q) ?_
   rintro x5 h v7 Φ_9 F4 ⟨ap5,fr7,rfl,rfl,e4,h7⟩
   refine la rfl<|en ?_
   exact wo [0] [0,0] (K (_,_,_,_) ⟨h,h7⟩)
  refine WT.skip ?_
  exact wo [0] [0,0] (K (_,_,_,_) ⟨h,h3⟩)
 refine ch h rfl ?_ ?_ <;> intro h
 ·refine att 3 [] rfl ?_
  exact wo [0] [0,0] (K _ h)
 refine WT.skip ?_
 exact wo [0] [0,0] (K _ h)
theorem xU (w0:av Ψ Φ [[pb0]].flatten) (p0:ah) (p1:Int) (ph0_0:RSl bm 3 Ψ pG0_0 pv0_0 p0.Items) (pp0:Φ pb0=some (.cells #[pv0_0,iV p0.Next] 29 (0,0))) {r:Bool × ah} (h:nE N p0 p1=some r) :
  Calls prog 90 [pQ pb0,iV p1].toArray w0.w (be Φ w0.w [[pb0]].flatten (fun Φ' Fs v=>∃ (so_0_0:Value) (Do_0_0:List Nat),v = .bool r.1∧Fs=[[pb0],ob so_0_0]∧OSl bm 66 3 Φ' Do_0_0 so_0_0 r.2.Items∧(∀ k∈Do_0_0,k∈pG0_0)∧Φ' pb0=some (.cells #[so_0_0,iV r.2.Next] 29 (0,0)))):=by
 refine eL func90 rfl ntmps90 rfl (L:=[[pb0]]) w0 (fun hF=>?_)
 unfold nE at h
 refine atr 6 [] rfl ?_
 have rc1:RC dP 3 Φ ([]:List (List Nat)) [] ([]:List ak):=RC.nil _ _ _
 refine le' (aV (vs:=[]) (C:=#[]) dP.lasts nS pA rfl rfl rfl rfl (ag GA (ac)) rfl rc1 rfl (by simpa using Kw.nil)) rfl ?_
 rintro v1 Φ_1 D1 ⟨fr1,h1⟩
 replace h1:OSl dP 66 3 Φ_1 [] v1 ([]:List ak):=by simpa [List.append_assoc] using h1
 replace pp0:=fr1 _ _ (by simp) pp0
 refine WL.conv (S':=St w0 Φ_1 [] [[],ob v1,[pb0]]) (fun w1 hw=>hw.addNil)<|art 8 [] rfl ?_
 replace h1:=h1.gives dP.gives
 refine lin (σ:=Hp × (List ak) × Value × List Nat × Int) (fun s=>[(0,pQ pb0),(1,iV p1),(5,s.2.2.1),(6,iV s.2.2.2.2)]) (fun s=>St w0 s.1 [] [ob s.2.2.1,[pb0]]) (fun m s=>eD N p0 p1 m s.2.1 s.2.2.2.2=some r∧(OSl bm 66 3 s.1 s.2.2.2.1 s.2.2.1 s.2.1)∧(∀ k∈s.2.2.2.1,k∈pG0_0)∧(s.1 pb0=some (.cells #[pv0_0,iV p0.Next] 29 (0,0)))) (Φ_1,([]:List ak),v1,[],0) N ⟨h,h1,(by simp),pp0⟩ (sx [1,1] []) (fun n1 ih1 s hm=>?_)
 obtain ⟨Φ_2,s1,u1,D2,s2⟩:=s
 obtain ⟨h,k1,i1,k2⟩:=hm
 dsimp only at h k1 i1 k2 ⊢
 unfold eD at h
 refine atr 5 [] rfl<|lq (bf rfl) rfl<|lf kO rfl rfl rfl<|lgx 0 0 (fX k2) rfl<|lnr ph0_0 rfl<|la rfl<|en ?_
 refine ch h rfl ?_ ?_ <;> intro h
 ·refine atr 6 [] rfl<|lq (bf rfl) rfl<|lf kO rfl rfl rfl<|lgx 0 0 (fX k2) rfl<|la rfl ?_
  obtain ⟨x1,hx1,h⟩:=bs h
  obtain ⟨cs1,F1,-,g1,hb1,hs1,r1⟩:=ph0_0.el (ab hx1).2.2
  obtain ⟨v2,G1,rfl,hq1,h2⟩:=r1
  obtain rfl:=hq1.symm
  refine lia ph0_0 hx1 rfl<|lf tx rfl rfl rfl<|lhx 0 0 g1 rfl<|art 3 [] rfl ?_
  refine ch h rfl ?_ ?_ <;> intro h
  ·refine atr 3 [] rfl<|lq (bf rfl) rfl<|lf kO rfl rfl rfl<|lgx 0 0 (fX k2) rfl<|la rfl ?_
   obtain ⟨x2,hx2,h⟩:=bs h
   obtain ⟨cs2,F2,-,g2,hb2,hs2,r2⟩:=ph0_0.el (ab hx2).2.2
   obtain ⟨v3,G2,rfl,hq2,h3⟩:=r2
   obtain rfl:=hq2.symm
   refine lia ph0_0 hx2 rfl<|lhx 0 3 g2 rfl<|lu0 h3 fun h4=>?_
   have rc2:RC bm 3 Φ_2 ([G2]:List (List Nat)) [iV x2.Id,.string x2.F.Kind,v3] ([x2]:List ak):=RC.cons (c:=[iV x2.Id,.string x2.F.Kind,v3]) (cells:=[]) ⟨v3,G2,rfl,rfl,h4⟩ rfl (RC.nil _ _ _)
   refine le' (aV (vs:=[(0,.agg [iV x2.Id,.string x2.F.Kind,v3].toArray)]) (C:=#[iV x2.Id,.string x2.F.Kind,v3]) bm.lasts nS pA rfl rfl rfl rfl (ag yX (a8 (C':=[iV x2.Id,.string x2.F.Kind,v3]) rfl rfl rfl rfl rfl (ac))) rfl rc2 rfl (RC.kn bm.knows rc2)) rfl ?_
   rintro v4 Φ_3 D3 ⟨fr2,h5⟩
   replace h5:OSl bm 66 3 Φ_3 (G2) v4 ([x2]:List ak):=by simpa [List.append_assoc] using h5
   replace k1:=k1.f0 fr2
   replace k2:=fr2 _ _ (by simp) k2
   obtain ⟨x3,hx3,h⟩:=bs h
   refine le' (fY bm.lasts bm.one nS Gg rfl rfl rfl rfl rfl (js:=[1]) (Rr:=[ob v4,[pb0]]) rfl k1 h5 (fun ap=>(Dj.sub (ap.o ph0_0.old) i1)) (fun ap=>(Dj.sub (Dj.sub (ap.o ph0_0.old) (fun k h=>hs2 k h)) (fun k hk=>(by simpa [List.append_assoc] using hk:k∈G2)))) hx3) rfl ?_
   rintro v5 Φ_4 D4 ⟨⟨ap1,fr3⟩,h6⟩
   replace k2:=fr3 _ _ ((ap1.q 1 rfl) _ (by simp)) k2
   refine art 8 [] rfl ?_
   exact lb [0,1] [] (ih1 (_,_,_,_,_) ⟨h,h6,(fun k hk=>((List.mem_append.1 hk).elim (fun h=>(i1 k h)) (fun h=>((fun k h=>hs2 k h) k ((fun k hk=>(by simpa [List.append_assoc] using hk:k∈G2)) k h))))),k2⟩)
  refine att 7 [] rfl ?_
  exact lb [0,0] [] (ih1 (_,_,_,_,_) ⟨h,k1,(fun k hk=>(i1 k hk)),k2⟩)
 refine atr 4 [] rfl<|lno k1 rfl<|la rfl<|lq (bf rfl) rfl<|lf kO rfl rfl rfl<|lgx 0 0 (fX k2) rfl<|lnr ph0_0 rfl<|arr 7 [] rfl<|lq (bf rfl) rfl<|lf kO rfl rfl rfl ?_
 refine WL.thw (js:=[1]) (R:=[ob u1]) rfl k2 (fun Φ_5 ap2 fr4=>?_)
 replace k1:=k1.fr fr4 (ap2.q 0 rfl) (Dj.sub (ap2.o ph0_0.old) i1)
 refine so1 0 Ck rfl k1.one ?_
 refine art 6 [] rfl ?_
 refine WT.frz (js:=[0]) (R:=[]) rfl (fun Φ_6 fr5 k3=>?_)
 replace k1:=k1.f0 fr5
 exact rtg [0,0] hF (ay.one rfl) rfl (by cases h; exact fun w1 hw=>⟨u1,D2,rfl,rfl,k1,(fun k hk=>(i1 k hk)),k3⟩)
theorem u6 (w0:av Ψ Φ []) (p0:(List aN)) (p1:(List aN)) (ph0:RSl aP 3 Ψ pG0 pv0 p0) (ph1:RSl aP 3 Ψ pG1 pv1 p1) {r:Bool} (h:jp N p0 p1=some r) :
  CB w0 prog 178 [pv0,pv1] (.bool r):=by
 refine eN func178 rfl ntmps178 rfl w0 fun hF=>?_
 unfold jp at h
 refine atr 8 [] rfl<|lnr ph0 rfl<|la rfl<|lnr ph1 rfl<|la rfl<|en ?_
 refine ch h rfl ?_ ?_ <;> intro h
 ·refine att 4 [] rfl ?_
  exact rt hF h
 refine att 7 [] rfl ?_
 refine lin (σ:=Int) (fun s=>[(0,pv0),(1,pv1),(5,iV s)]) (fun s=>St w0 Φ [] []) (fun m s=>dW N p0 p1 m s=some r) (0) N h (sx [] []) (fun n1 ih1 s hm=>?_)
 revert hm; revert s; intro s1 hm
 have h:dW N p0 p1 (n1+1) s1=some r:=hm
 show WT _ _ [(0,pv0),(1,pv1),(5,iV s1)] (St w0 Φ [] [])
 unfold dW at h
 refine atr 5 [] rfl<|lnr ph0 rfl<|la rfl<|en ?_
 refine ch h rfl ?_ ?_ <;> intro h
 ·refine att 4 [] rfl<|WT.draw mixed (by kernel_rfl) (fun _ h=>h.drew)<|aqq 2 [] rfl ?_
  obtain ⟨x1,hx1,h⟩:=bs h
  obtain ⟨cs1,F1,-,g1,hb1,hs1,r1⟩:=ph0.el (ab hx1).2.2
  obtain ⟨rfl,-⟩:=r1
  refine qq (aw iZ rfl rfl ph0 hx1) rfl<|qq (aG mV rfl (fun w1 hw=>(g1.of_eq 0 3 rfl rfl:rg _ _ _ [iV x1.K,iV x1.N,.string x1.S]).rangeAt hw.in0) rfl) rfl<|aqq 2 [] rfl ?_
  obtain ⟨x2,hx2,h⟩:=bs h
  obtain ⟨cs2,F2,-,g2,hb2,hs2,r2⟩:=ph1.el (ab hx2).2.2
  obtain ⟨rfl,-⟩:=r2
  refine qq (aw iZ rfl rfl ph1 hx2) rfl<|qq (aG mV rfl (fun w1 hw=>(g2.of_eq 0 3 rfl rfl:rg _ _ _ [iV x2.K,iV x2.N,.string x2.S]).rangeAt hw.in0) rfl) rfl<|qq (wc oU rfl rfl rfl (r:=bT x1 x2) rfl) rfl<|WQ.nil ?_
  refine ch h rfl ?_ ?_ <;> intro h
  ·refine att 4 [] rfl ?_
   exact rt hF h
  refine att 7 [] rfl ?_
  exact lb [] [] (ih1 _ h)
 refine att 5 [] rfl ?_
 exact rt hF h
theorem vq (w0:av Ψ Φ []) (p0:aL) (p1:aL) (ph0_0:RSl aP 3 Ψ pG0_0 pv0_0 p0.Fields) (ph1_0:RSl aP 3 Ψ pG1_0 pv1_0 p1.Fields) {r:Bool} (h:kK N p0 p1=some r) :
  CB w0 prog 108 [.agg [.string p0.Kind,pv0_0].toArray,.agg [.string p1.Kind,pv1_0].toArray] (.bool r):=by
 refine eN func108 rfl ntmps108 rfl w0 fun hF=>?_
 unfold kK at h
 refine sr<|lbx rfl fun b_1=>lbx rfl fun b_2=>arr 10 [0,32,0,0] rfl ?_
 obtain ⟨b1,hb_1,h⟩:=bs h
 refine WL.cutN 6 [(16,.bool b1),(4,.bool false)] ?_ (fun K=>?_)
 rotate_left
 ·refine sp 10 hb_1 rfl (fun hb_1=>?_) fun hb_1=>?_
  ·refine arr 4 [1,32,1,0] rfl<|ly rfl rfl<|qd hb_1 (u6 N · p0.Fields p1.Fields ph0_0 ph1_0 ·) rfl rfl rfl fun x1 hb_1=>la rfl ?_
   cases hb_1
   exact ku K
  ·refine arr 6 [] rfl ?_
   cases hb_1
   exact ku K
 refine la rfl<|en ?_
 exact rt hF h
theorem uP (w0:av Ψ Φ []) (p0:ah) (p1:aL) (ph0_0:RSl bm 3 Ψ pG0_0 pv0_0 p0.Items) (ph1_0:RSl aP 3 Ψ pG1_0 pv1_0 p1.Fields) {r:Int} (h:p9 N p0 p1=some r) :
  CB w0 prog 48 [.agg [pv0_0,iV p0.Next].toArray,.agg [.string p1.Kind,pv1_0].toArray] (iV r):=by
 refine eN func48 rfl ntmps48 rfl w0 fun hF=>?_
 unfold p9 at h
 refine sr<|lbx rfl fun b_1=>lbx rfl fun b_2=>art 8 [] rfl ?_
 refine lin (σ:=Int) (fun s=>[(2,pQ b_1),(3,pQ b_2),(5,iV s)]) (fun s=>St w0 Φ [(b_2,.cells #[.string p1.Kind,pv1_0] 52 (0,0)),(b_1,.cells #[pv0_0,iV p0.Next] 29 (0,0))] []) (fun m s=>iu N p0 p1 m s=some r) (0) N h (sx [] [0,0]) (fun n1 ih1 s hm=>?_)
 revert hm; revert s; intro s1 hm
 have h:iu N p0 p1 (n1+1) s1=some r:=hm
 show WT _ _ [(2,pQ b_1),(3,pQ b_2),(5,iV s1)] (St w0 Φ [(b_2,.cells #[.string p1.Kind,pv1_0] 52 (0,0)),(b_1,.cells #[pv0_0,iV p0.Next] 29 (0,0))] [])
 unfold iu at h
 refine atr 6 [0,32] rfl<|lnr ph0_0 rfl<|la rfl<|en ?_
 refine ch h rfl ?_ ?_ <;> intro h
 ·refine att 4 [] rfl<|WT.draw mixed (by kernel_rfl) (fun _ h=>h.drew)<|aqq 3 [0,32] rfl ?_
  obtain ⟨x1,hx1,h⟩:=bs h
  obtain ⟨cs1,F1,-,g1,hb1,hs1,r1⟩:=ph0_0.el (ab hx1).2.2
  obtain ⟨v1,G1,rfl,hq1,h1⟩:=r1
  obtain rfl:=hq1.symm
  refine qq (aw nS rfl rfl ph0_0 hx1) rfl<|qq (aK AF rfl) rfl<|qq (aG rq rfl (fun w1 hw=>(g1.of_eq 1 2 rfl rfl:rg _ _ _ [.string x1.F.Kind,v1]).rangeAt hw.in0) rfl) rfl<|qq (aG rq rfl (fun w1 hw=>hw.rgO (i:=0) rfl 0 2 [.string p1.Kind,pv1_0] rfl) rfl) rfl ?_
  obtain ⟨x2,hx2,h⟩:=bs h
  refine qp (fx GV rfl (fun w1 hw=>vq N (ba hw.in0) x1.F p1 h1 ph1_0 hx2)) rfl<|WQ.nil ?_
  refine ch h rfl ?_ ?_ <;> intro h
  ·refine atr 5 [0,32] rfl ?_
   obtain ⟨x3,hx3,h⟩:=bs h
   obtain ⟨cs2,F2,-,g2,hb2,hs2,r2⟩:=ph0_0.el (ab hx3).2.2
   obtain ⟨v2,G2,rfl,hq2,h2⟩:=r2
   obtain rfl:=hq2.symm
   refine lia ph0_0 hx3 rfl<|lf tx rfl rfl rfl<|lhx 0 0 g2 rfl<|la rfl<|en ?_
   exact rt hF h
  refine att 7 [] rfl ?_
  exact lb [] [0,0] (ih1 _ h)
 refine att 5 [] rfl ?_
 exact rt hF h
theorem xV (w0:av Ψ Φ []) (p0:aL) (ph0_0:RSl aP 3 Ψ pG0_0 pv0_0 p0.Fields) {r:aL} (h:jZ N p0=some r) :
  Calls prog 154 [.agg [.string p0.Kind,pv0_0].toArray].toArray w0.w (be Φ w0.w [] (fun Φ' Fs v=>∃ (sr_0_0:Value),v = .agg [.string r.Kind,sr_0_0].toArray∧Fs=[ob sr_0_0]∧OSl aP 95 3 Φ' [] sr_0_0 r.Fields)):=by
 refine eN func154 rfl ntmps154 rfl w0 fun hF=>?_
 unfold jZ at h
 refine sr<|lbx rfl fun b_1=>lnz ox rfl fun b_2=>en<|sr<|le' (sL aP.lasts iZ gF rfl rfl) rfl ?_
 rintro v1 Φ_1 D1 ⟨fr1,h1⟩
 refine arr 2 [1,32] rfl<|lu0 ph0_0 fun h2=>?_
 obtain ⟨x1,hx1,h⟩:=bs h
 refine le' (ee aP.lasts aP.one aP.flat iZ yx rfl rfl rfl rfl rfl (js:=[0]) (Rr:=[]) rfl h1 h2 hx1) rfl ?_
 rintro v2 Φ_2 D2 ⟨⟨ap1,fr2⟩,h3⟩
 refine lf EP rfl rfl rfl<|so1 1 Ag rfl h3.one ?_
 refine arr 4 [34] rfl<|soN 0 qO rfl ⟨rfl,h3.one,trivial⟩ rfl ?_
 refine en ?_
 exact rtg [0] hF (ay.one (bb rq rfl (fun w1 hw=>hw.rgO (i:=0) rfl 0 2 [.string p0.Kind,v2] rfl) rfl)) rfl (by cases h; exact fun w1 hw=>⟨v2,rfl,rfl,h3⟩)
theorem qK (w0:av Ψ Φ [[pb0],ob pv0_0].flatten) (p0:ah) (p1:aL) (ph0_0:OSl bm 66 3 Φ pD0_0 pv0_0 p0.Items) (pp0:Φ pb0=some (.cells #[pv0_0,iV p0.Next] 29 (0,0))) (ph1_0:RSl aP 3 Ψ pG1_0 pv1_0 p1.Fields) (pd0_0:Dj pD0_0 [[pb0],ob pv0_0].flatten) {r:Int × ah} (h:fo N p0 p1=some r) :
  Calls prog 91 [pQ pb0,.agg [.string p1.Kind,pv1_0].toArray].toArray w0.w (be Φ w0.w [[pb0],ob pv0_0].flatten (fun Φ' Fs v=>∃ (so_0_0:Value) (Do_0_0:List Nat) (X:List Nat),v=iV r.1∧Fs=[[pb0],ob so_0_0,X]∧OSl bm 66 3 Φ' Do_0_0 so_0_0 r.2.Items∧(∀ k∈Do_0_0,k∈(X++pD0_0))∧Φ' pb0=some (.cells #[so_0_0,iV r.2.Next] 29 (0,0)))):=by
 refine eL func91 rfl ntmps91 rfl (L:=[[pb0],ob pv0_0]) w0 (fun hF=>?_)
 have pa0_0:=Old.mk w0 ph0_0.kn pd0_0
 unfold fo at h
 refine sr<|lbx rfl fun b_1=>art 3 [] rfl<|WT.draw mixed (by kernel_rfl) (fun _ h=>h.drew)<|qq (ke rfl) rfl<|qq (bf rfl) rfl<|qq (aG rz rfl (fun w1 hw=>((fX pp0).of_eq 0 2 rfl rfl:rg _ _ _ [pv0_0,iV p0.Next]).rangeAt hw.fro) rfl) rfl<|qq (aG rq rfl (fun w1 hw=>hw.rgO (i:=0) rfl 0 2 [.string p1.Kind,pv1_0] rfl) rfl) rfl ?_
 obtain ⟨x1,hx1,h⟩:=bs h
 refine qp (fx Ff rfl (fun w1 hw=>uP N (ba hw.fro) p0 p1 ph0_0.rsl (ph1_0.y hw.up) hx1)) rfl<|aqt 8 [] rfl ?_
 refine ch h rfl ?_ ?_ <;> intro h
 ·refine att 5 [] rfl ?_
  refine WT.ret hF (ay.one rfl) (fun w1 hw=>?_)
  cases h
  replace hw:=hw.addNil
  refine aI (js:=[1,1,0]) hw rfl ⟨pv0_0,pD0_0,[],rfl,rfl,ph0_0,(fun k hk=>(List.mem_append.2 (.inr hk))),pp0⟩
 refine atr 5 [] rfl<|lq (bf rfl) rfl<|lf kO rfl rfl rfl<|lgx 0 0 (fX pp0) rfl<|lno ph0_0 rfl<|arr 2 [] rfl ?_
 obtain ⟨b1,hb_1,h⟩:=bs h
 refine WL.cutN 6 [(26,.bool b1),(0,pQ pb0),(3,pQ b_1)] ?_ (fun K=>?_)
 rotate_left
 ·refine sp 20 hb_1 rfl (fun hb_1=>?_) fun hb_1=>?_
  ·refine arr 6 [] rfl ?_
   cases hb_1
   exact ku K
  ·refine ly rfl rfl<|la rfl<|ly rfl rfl<|lq (bf rfl) rfl<|ly rfl rfl<|lf tH rfl rfl rfl<|ly rfl rfl<|lgx 1 0 (fX pp0) rfl<|arr 2 [] rfl ?_
   cases hb_1
   exact ku K
 refine en ?_
 refine ch h rfl ?_ ?_ <;> intro h
 ·refine att 4 [] rfl ?_
  refine WT.ret hF (ay.one rfl) (fun w1 hw=>?_)
  cases h
  replace hw:=hw.addNil
  refine aI (js:=[1,1,0]) hw rfl ⟨pv0_0,pD0_0,[],rfl,rfl,ph0_0,(fun k hk=>(List.mem_append.2 (.inr hk))),pp0⟩
 refine att 2 [] rfl<|WT.mix (Kn w0 Φ [pb0] [(b_1,.cells #[.string p1.Kind,pv1_0] 52 (0,0))]) (fun i=>match i with | 16=>false | _=>true) mixed (fun _ h=>h.drew)<|ma 0 rfl (by kernel_rfl) (kn Kf.id (am [0] rfl)) rfl<|ma 1 rfl (by kernel_rfl) (kn Kf.id (am [0] rfl)) rfl<|mq 2 rfl (by kernel_rfl) (kn Kf.id (am [0] rfl)) (bf rfl) rfl<|mq 3 rfl (by kernel_rfl) (kn Kf.id (am [0] rfl)) (aK kO rfl) rfl<|mq 4 rfl (by kernel_rfl) (kn Kf.id (am [0] rfl)) (cz KD rfl (fun w1 hw=>hw.rg (by simp) ((fX pp0).of_eq 0 1 rfl rfl:rg _ _ _ [pv0_0]))) rfl ?_
 refine ma 5 rfl (by kernel_rfl) (kn Kf.id (am [0] rfl)) rfl<|mq 6 rfl (by kernel_rfl) (kn Kf.id (am [0] rfl)) (bf rfl) rfl<|mq 7 rfl (by kernel_rfl) (kn Kf.id (am [0] rfl)) (aK tH rfl) rfl<|mq 8 rfl (by kernel_rfl) (kn Kf.id (am [0] rfl)) (cz BU rfl (fun w1 hw=>hw.rg (by simp) ((fX pp0).of_eq 1 1 rfl rfl:rg _ _ _ [iV p0.Next]))) rfl<|mq 9 rfl (by kernel_rfl) (kn Kf.id (am [0] rfl)) (aG rq rfl (fun w1 hw=>hw.rgO (i:=0) rfl 0 2 [.string p1.Kind,pv1_0] rfl) rfl) rfl ?_
 obtain ⟨x2,hx2,h⟩:=bs h
 refine WM.one 10 (by kernel_rfl) (mc rfl (fun _ v Φx D w1 hq hw=>Kn.of (Kf.id.st hq.2.1 (hq.1.r (i:=0) rfl)) (am [0] rfl) hw) (bo (js:=[]) (R:=[[pb0],ob pv0_0]) Hc rfl rfl (fun w1 hw ap hl=>xV N (ba hw.fro) p1 (ph1_0.y hw.up)  hx2)) rfl ?_)
 rintro v1 Φ_1 F1 ⟨ap1,fr1,v2,rfl,rfl,h1⟩
 replace ph0_0:=ph0_0.fr fr1 (ap1.q 1 rfl) (ap1.o pa0_0)
 replace pp0:=fr1 _ _ ((ap1.q 0 rfl) _ (by simp)) pp0
 have kf1:=(Kf.id (F:=[pb0]):Kf Φ _ _).st fr1 (ap1.q 0 rfl)
 refine mq 11 rfl (by kernel_rfl) (kn kf1 (am [0] rfl)) (bz (vs:=[(0,iV p0.Next),(1,.agg [.string x2.Kind,v2].toArray)]) (C:=#[iV p0.Next,.string x2.Kind,v2]) I0 pA rfl (a8 (C':=[iV p0.Next,.string ⟨#[]⟩,.slice none 0 0]) rfl rfl rfl rfl rfl (a8 (C':=[iV p0.Next,.string x2.Kind,v2]) rfl rfl rfl rfl rfl (ac)))) rfl ?_
 have rc1:RC dP 3 Φ_1 ([(ob v2++[])]:List (List Nat)) [iV p0.Next,.string x2.Kind,v2] ([(⟨p0.Next,x2⟩:ak)]:List ak):=RC.cons (c:=[iV p0.Next,.string x2.Kind,v2]) (cells:=[]) ⟨v2,rfl,rfl,h1⟩ rfl (RC.nil _ _ _)
 refine WM.one 12 (by kernel_rfl) (me rfl (fun _ v Φx D w1 hq hw=>Kn.of (kf1.se hq.1) (am [0] rfl) hw) (aV (vs:=[(0,.agg [iV p0.Next,.string x2.Kind,v2].toArray)]) (C:=#[iV p0.Next,.string x2.Kind,v2]) dP.lasts nS pA rfl rfl rfl rfl (ag yX (a8 (C':=[iV p0.Next,.string x2.Kind,v2]) rfl rfl rfl rfl rfl (ac))) rfl rc1 rfl (RC.kn dP.knows rc1)) rfl ?_)
 rintro v3 Φ_2 D1 ⟨fr2,h2⟩
 replace h2:OSl dP 66 3 Φ_2 ((ob v2++[])) v3 ([(⟨p0.Next,x2⟩:ak)]:List ak):=by simpa [List.append_assoc] using h2
 replace ph0_0:=ph0_0.f0 fr2
 replace pp0:=fr2 _ _ (by simp) pp0
 refine WM.conv (S':=St w0 Φ_2 [(b_1,.cells #[.string p1.Kind,pv1_0] 52 (0,0))] [((ob v2++[])),ob v3,[pb0],ob pv0_0]) (fun w1 hw=>hw.merge (js:=[1]) rfl (SP.eq (by simp [List.append_assoc,fu]))) ?_
 obtain ⟨x3,hx3,h⟩:=bs h
 have kf2:=kf1.se fr2
 refine WM.one 13 (by kernel_rfl) (me rfl (fun _ v Φx D w1 hq hw=>Kn.of (kf2.st hq.1.2 (hq.1.1.r (i:=2) rfl)) (am [0] rfl) hw) (fY bm.lasts bm.one nS Gg rfl rfl rfl rfl rfl (js:=[3]) (Rr:=[((ob v2++[])),ob v3,[pb0]]) rfl ph0_0 (h2.gives dP.gives) (fun ap=>(ap.o pa0_0)) (fun ap=>ap.q 0 rfl) hx3) rfl ?_)
 rintro v4 Φ_3 D2 ⟨⟨ap2,fr3⟩,h3⟩
 replace pp0:=fr3 _ _ ((ap2.q 2 rfl) _ (by simp)) pp0
 have kf3:=kf2.st fr3 (ap2.q 2 rfl)
 refine mqT 14 [15,16] rfl (by kernel_rfl) (kn kf3 (am [0] rfl)) (bf rfl) rfl<|mq 15 rfl (by kernel_rfl) (kn kf3 (am [0] rfl)) (aK kO rfl) rfl ?_
 refine WM.thw (js:=[3]) (R:=[ob v4,((ob v2++[])),ob v3]) rfl pp0 (fun Φ_4 ap3 fr4=>?_)
 replace h3:=h3.fr fr4 (ap3.q 0 rfl) (Dj.app (ap3.o pa0_0) (ap3.q 1 rfl))
 refine on1 16 (ms1 0 rfl nk Ck rfl h3.one ?_)
 refine WM.nil (by kernel_rfl)<|atr 4 [] rfl<|lq (bf rfl) rfl<|arr 3 [1,0] rfl<|lq (bf rfl) rfl<|lf tH rfl rfl rfl<|so1 0 tV rfl rfl ?_
 refine arr 4 [] rfl<|lq (bf rfl) rfl<|art 5 [1,0] rfl ?_
 refine WT.frz (js:=[0]) (R:=[(b_1,.cells #[.string p1.Kind,pv1_0] 52 (0,0))]) rfl (fun Φ_5 fr5 k1=>?_)
 replace h3:=h3.f0 fr5
 refine WT.ret hF (ay.one rfl) (fun w1 hw=>?_)
 cases h
 replace hw:=hw.merge (js:=[2]) (F:=[((ob v2++[]))].flatten) rfl (SP.eq (by simp))
 refine aI (js:=[1,1,0]) hw rfl ⟨v4,(pD0_0++((ob v2++[]))),[((ob v2++[]))].flatten,rfl,rfl,h3,(fun k hk=>((List.mem_append.1 hk).elim (fun h=>(List.mem_append.2 (.inr h))) (fun h=>(List.mem_append.2 (.inl (List.mem_flatten.2 ⟨((ob v2++[])),by simp,h⟩)))))),k1⟩
theorem sD (w0:av Ψ Φ [[pb0]].flatten) (p0:a7) (ph0_0:RSl (RI .u8) 1 Ψ pG0_0 pv0_0 p0.b) (pp0:Φ pb0=some (.cells #[pv0_0,iV p0.i,iV p0.h] 144 (0,0))) {r:ah × a7} (h:lP N p0=some r) :
  Calls prog 36 [pQ pb0].toArray w0.w (be Φ w0.w [[pb0]].flatten (fun Φ' Fs v=>∃ (sr_0_0:Value) (Dr_0_0:List Nat) (X:List Nat),v = .agg [sr_0_0,iV r.1.Next].toArray∧Fs=[ob sr_0_0,[pb0],X]∧OSl bm 66 3 Φ' Dr_0_0 sr_0_0 r.1.Items∧(∀ k∈Dr_0_0,k∈X)∧r.2.b=p0.b∧Φ' pb0=some (.cells #[pv0_0,iV r.2.i,iV r.2.h] 144 (0,0)))):=by
 refine eL func36 rfl ntmps36 rfl (L:=[[pb0]]) w0 (fun hF=>?_)
 unfold lP at h
 refine sr<|lnz tD rfl fun b_1=>en<|sr<|lq (bz (vs:=[(1,iV 1)]) (C:=#[.slice none 0 0,iV 1]) Ic tD rfl (a8 (C':=[.slice none 0 0,iV 1]) rfl rfl rfl rfl rfl (ac))) rfl<|lnz tD rfl fun b_2=>soN 0 vk rfl ⟨rfl,rfl,trivial⟩ rfl ?_
 refine arr 5 [] rfl<|kcb [0] h rfl rfl rfl rfl (fun b ap z q=>az N b p0 9 (ph0_0.y z) pp0 q) ?_
 rintro x1 h v1 Φ_1 F1 ⟨ap1,fr1,rfl,rfl,e1,h1⟩
 refine art 3 [] rfl<|wt0<|wtS ?_
 have k1:=OSl.nil bm 66 3 Φ_1
 refine lin (σ:=Hp × List Nat × (List ak) × Value × List Nat × Int × Int × Int × Int) (fun s=>[(0,pQ pb0),(2,pQ b_1),(3,pQ b_2),(4,iV s.2.2.2.2.2.1)]) (fun s=>St w0 s.1 [(b_2,.cells #[s.2.2.2.1,iV s.2.2.2.2.2.2.2.2] 29 (0,0)),(b_1,.cells #[.slice none 0 0,iV 0] 29 (0,0))] [ob s.2.2.2.1,s.2.1,[pb0]]) (fun m s=>fJ N p0 m s.2.2.1 s.2.2.2.2.2.1 s.2.2.2.2.2.2.1 s.2.2.2.2.2.2.2.1 s.2.2.2.2.2.2.2.2=some r∧(OSl bm 66 3 s.1 s.2.2.2.2.1 s.2.2.2.1 s.2.2.1)∧(∀ k∈s.2.2.2.2.1,k∈s.2.1)∧(s.1 pb0=some (.cells #[pv0_0,iV s.2.2.2.2.2.2.1,iV s.2.2.2.2.2.2.2.1] 144 (0,0)))) (Φ_1,[],([]:List ak),(.slice none 0 0),[],x1.1,x1.2.i,x1.2.h,1) N ⟨h,k1,(by simp),h1⟩ (sx [0,0,0] [0,0]) (fun n1 ih1 s hm=>?_)
 obtain ⟨Φ_2,X1,s1,u1,D1,s2,s3,s4,s5⟩:=s
 obtain ⟨h,k2,i1,k3⟩:=hm
 dsimp only at h k2 i1 k3 ⊢
 unfold fJ at h
 refine att 6 [] rfl ?_
 refine ch h rfl ?_ ?_ <;> intro h
 ·refine atr 7 [] rfl<|kcb [2] h rfl rfl rfl rfl (fun b ap z q=>cJ N b (⟨p0.b,s3,s4⟩:a7) 5 (ph0_0.y z) k3 q) ?_
  rintro x2 h v2 Φ_3 F2 ⟨ap2,fr2,rfl,rfl,e2,h2⟩
  replace k2:=k2.fr fr2 (ap2.q 0 rfl) (Dj.sub (ap2.q 1 rfl) i1)
  refine la rfl ?_
  obtain ⟨b3,hb_1,h⟩:=bs h
  refine WL.cutN 5 [(19,.bool b3),(0,pQ pb0),(2,pQ b_1),(3,pQ b_2),(4,iV s2)] ?_ (fun K=>?_)
  rotate_left
  ·refine sp 14 hb_1 rfl (fun hb_1=>?_) fun hb_1=>?_
   ·refine arr 2 [0,0] rfl<|ly rfl rfl<|lno k2 rfl<|arr 2 [] rfl ?_
    cases hb_1
    exact ku K
   ·refine arr 5 [] rfl ?_
    cases hb_1
    exact ku K
  refine en ?_
  refine ch h rfl ?_ ?_ <;> intro h
  ·refine sq<|wm [0,1] [10] rfl<|amm 5 [0,0,1,0,2,3,0,4,0] [0,1] rfl rfl<|mqT 5 [6,7,8,9,10] rfl (by kernel_rfl) (kN [0,1]) (lM nS rfl rfl k2.rsl) rfl ?_
   obtain ⟨x3,hx3,h⟩:=bs h
   refine WM.one 6 (by kernel_rfl) (mc rfl (fun _ v Φx D w1 hq hw=>Kn.of Kf.nil (ai2 0 1 rfl rfl) hw) (bo (js:=[0]) (R:=[ob u1,X1]) ub rfl rfl (fun w1 hw ap hl=>az N (bx hw ap hl) (⟨p0.b,x2.2.i,x2.2.h⟩:a7) (s1.length:Int) (ph0_0.y (hw.uo ap)) h2  hx3)) rfl ?_)
   rintro v3 Φ_4 F3 ⟨ap3,fr3,rfl,rfl,e3,h3⟩
   replace k2:=k2.fr fr3 (ap3.q 0 rfl) (Dj.sub (ap3.q 1 rfl) i1)
   obtain ⟨x4,hx4,h⟩:=bs h
   obtain ⟨cs1,F4,-,g1,hb1,hs1,r1⟩:=k2.elS (ab hx4).2.2
   obtain ⟨v4,G1,rfl,hq1,h4⟩:=r1
   obtain rfl:=hq1.symm
   refine mqT 7 [8,9,10] rfl (by kernel_rfl) (kN [0,1]) (aw nS rfl rfl k2.rsl hx4) rfl<|amm 1 [8,0] [0,1] rfl rfl ?_
   refine on1 9 (mv rfl (kS [0,1]) (cz BU rfl (fun w1 hw=>(g1.of_eq 0 1 rfl rfl:rg _ _ _ [iV x4.Id]).rangeAt hw.fro)) rfl ?_)
   refine WM.frz (js:=[0]) (R:=[(b_1,.cells #[.slice none 0 0,iV 0] 29 (0,0))]) rfl (fun Φ_5 fr4 k4=>?_)
   replace k2:=k2.f0 fr4
   replace h3:=fr4 _ _ (by simp) h3
   obtain ⟨x5,hx5,h⟩:=bs h
   refine WM.one 10 (by kernel_rfl) (mc rfl (fun hc=>by cases hc) (bo (js:=[0]) (R:=[[pb0],ob u1,X1]) IY rfl rfl (fun w1 hw ap hl=>xU N (bx hw ap hl) (⟨s1,s5⟩:ah) x4.Id (k2.rsl.x (Dj.app (ap.q 1 rfl) (Dj.sub (ap.q 2 rfl) i1))) k4  hx5)) rfl ?_)
   rintro v5 Φ_6 F5 ⟨ap4,fr5,v6,D2,rfl,rfl,h5,i2,h6⟩
   replace h3:=fr5 _ _ ((ap4.q 0 rfl) _ (by simp)) h3
   refine WM.nil (by kernel_rfl)<|att 6 [] rfl ?_
   refine WT.thw (js:=[0]) (R:=[ob v6,[pb0],ob u1,X1]) rfl h6 (fun Φ_7 ap5 fr6=>?_)
   replace h5:=h5.fr fr6 (ap5.q 0 rfl) (Dj.sub (Dj.app (ap5.q 2 rfl) (Dj.sub (ap5.q 3 rfl) i1)) i2)
   replace h3:=fr6 _ _ ((ap5.q 1 rfl) _ (by simp)) h3
   refine wtL [(X1++(ob u1)),ob v6,[pb0]] (smg [3,2] rfl (SP.eq (by simp [List.append_assoc]))) ?_
   exact lb [1,0,0] [0,0] (ih1 (_,_,_,_,_,_,_,_,_) ⟨h,h5,(fun k hk=>((List.mem_append.1 (i2 k hk)).elim (fun h=>((fun k hk=>(List.mem_append.2 (.inr hk))) k h)) (fun h=>((fun k hk=>(List.mem_append.2 (.inl hk))) k (i1 k h))))),h3⟩)
  refine atr 3 [] rfl<|kcb [0] h rfl rfl rfl rfl (fun b ap z q=>rV N b (⟨p0.b,x2.2.i,x2.2.h⟩:a7) (ph0_0.y z) h2 q) ?_
  rintro x6 h v7 Φ_8 F6 ⟨ap6,fr7,v8,rfl,rfl,h7,e4,h8⟩
  replace k2:=k2.fr fr7 (ap6.q 0 rfl) (Dj.sub (ap6.q 1 rfl) i1)
  refine WL.frz (js:=[0]) (R:=[(b_1,.cells #[.slice none 0 0,iV 0] 29 (0,0))]) rfl (fun Φ_9 fr8 k5=>?_)
  replace k2:=k2.f0 fr8
  replace h7:=h7.f0 fr8
  replace h8:=fr8 _ _ (by simp) h8
  refine kcb [0,2] h rfl rfl rfl rfl (fun b ap z q=>qK N b (⟨s1,s5⟩:ah) x6.1 k2 k5 (h7.rsl.x (Dj.app (ap.q 0 rfl) dN)) (Dj.sub (ap.q 2 rfl) i1) q) ?_
  rintro x7 h v9 Φ_10 F7 ⟨ap7,fr9,v10,D3,X2,rfl,rfl,h9,i3,h10⟩
  replace h8:=fr9 _ _ ((ap7.q 1 rfl) _ (by simp)) h8
  refine art 7 [] rfl ?_
  refine WT.thw (js:=[0]) (R:=[ob v10,X2,ob v8,[pb0],X1]) rfl h10 (fun Φ_11 ap8 fr10=>?_)
  replace h9:=h9.fr fr10 (ap8.q 0 rfl) (Dj.sub (Dj.app (ap8.q 1 rfl) (Dj.sub (ap8.q 4 rfl) i1)) i3)
  replace h8:=fr10 _ _ ((ap8.q 3 rfl) _ (by simp)) h8
  refine wtL [(X1++(X2)),ob v10,ob v8,[pb0]] (smg [4,1] rfl (SP.eq (by simp [List.append_assoc]))) ?_
  exact lb [1,0,1] [0,0] (ih1 (_,_,_,_,_,_,_,_,_) ⟨h,h9,(fun k hk=>((List.mem_append.1 (i3 k hk)).elim (fun h=>((fun k hk=>(List.mem_append.2 (.inr hk))) k h)) (fun h=>((fun k hk=>(List.mem_append.2 (.inl hk))) k (i1 k h))))),h8⟩)
 refine atr 4 [2] rfl<|soN 1 vk rfl ⟨k2.one,rfl,trivial⟩ rfl ?_
 refine en ?_
 refine WT.ret hF (ay.one (bb rz rfl (fun w1 hw=>hw.rgO (i:=1) rfl 0 2 [u1,iV s5] rfl) rfl)) (fun w1 hw=>?_)
 cases h
 replace hw:=hw.merge (js:=[1]) (F:=[X1].flatten) rfl (SP.eq (by simp))
 refine aI (js:=[1,1,0]) hw rfl ⟨u1,D1,[X1].flatten,rfl,rfl,k2,(fun k hk=>(List.mem_flatten.2 ⟨X1,by simp,(i1 k hk)⟩)),rfl,k3⟩
theorem zC (w0:av Ψ Φ [[pb0]].flatten) (p0:a7) (ph0_0:RSl (RI .u8) 1 Ψ pG0_0 pv0_0 p0.b) (pp0:Φ pb0=some (.cells #[pv0_0,iV p0.i,iV p0.h] 144 (0,0))) {r:au × a7} (h:pF N p0=some r) :
  Calls prog 155 [pQ pb0].toArray w0.w (be Φ w0.w [[pb0]].flatten (fun Φ' Fs v=>∃ (sr_0_0:Value),v = .agg [.string r.1.Kind,sr_0_0,.bool r.1.Not].toArray∧Fs=[ob sr_0_0,[pb0]]∧OSl ck 171 5 Φ' [] sr_0_0 r.1.Args∧r.2.b=p0.b∧Φ' pb0=some (.cells #[pv0_0,iV r.2.i,iV r.2.h] 144 (0,0)))):=by
 refine eL func155 rfl ntmps155 rfl (L:=[[pb0]]) w0 (fun hF=>?_)
 unfold pF at h
 refine sr<|lnz iU rfl fun b_1=>arr 5 [] rfl<|kcb [0] h rfl rfl rfl rfl (fun b ap z q=>cJ N b p0 3 (ph0_0.y z) pp0 q) ?_
 rintro x1 h v1 Φ_1 F1 ⟨ap1,fr1,rfl,rfl,e1,h1⟩
 refine kcb [0] h rfl rfl rfl rfl (fun b ap z q=>oQ N b (⟨p0.b,x1.2.i,x1.2.h⟩:a7) x1.1 (ph0_0.y z) h1 q) ?_
 rintro x2 h v2 Φ_2 F2 ⟨ap2,fr2,v3,rfl,rfl,h2,e2,h3⟩
 refine lnz iU rfl fun b_2=>soN 0 mP rfl ⟨rfl,h2.one,rfl,trivial⟩ rfl ?_
 refine arr 5 [] rfl<|kcb [1] h rfl rfl rfl rfl (fun b ap z q=>az N b (⟨p0.b,x2.2.i,x2.2.h⟩:a7) 10 (ph0_0.y z) h3 q) ?_
 rintro x3 h v4 Φ_3 F3 ⟨ap3,fr3,rfl,rfl,e3,h4⟩
 replace h2:=h2.fr fr3 (ap3.q 0 rfl) dN
 refine art 7 [] rfl ?_
 refine cut (σ:=Hp × (List bh) × Value × Int × Int × ByteArray) (fun s=>[(2,pQ b_1),(3,pQ b_2)]) (fun s=>St w0 s.1 [(b_2,.cells #[.string s.2.2.2.2.2,s.2.2.1,.bool x2.1.Not] 201 (0,0)),(b_1,.cells #[.string (⟨#[]⟩:ByteArray),.slice none 0 0,.bool false] 201 (0,0))] [[pb0],ob s.2.2.1]) (fun s=>jF N p0 x2 s.2.1 s.2.2.2.1 s.2.2.2.2.1 s.2.2.2.2.2=some r∧(OSl ck 171 5 s.1 [] s.2.2.1 s.2.1)∧(s.1 pb0=some (.cells #[pv0_0,iV s.2.2.2.1,iV s.2.2.2.2.1] 144 (0,0)))) (fun s hm=>?_) (fun K=>?_)
 ·clear h
  obtain ⟨Φ_4,s1,u1,s2,s3,s4⟩:=s
  obtain ⟨h,k1,k2⟩:=hm
  dsimp only at h k1 k2 ⊢
  unfold jF at h
  refine atr 4 [3] rfl<|soN 1 mP rfl ⟨rfl,k1.one,rfl,trivial⟩ rfl ?_
  refine en ?_
  exact rtg [1,0] hF (ay.one (bb w7 rfl (fun w1 hw=>hw.rgO (i:=1) rfl 0 3 [.string s4,u1,.bool x2.1.Not] rfl) rfl)) rfl (by cases h; exact fun w1 hw=>⟨u1,rfl,rfl,k1,rfl,k2⟩)
 refine ch h rfl ?_ ?_ <;> intro h
 ·refine atr 2 [] rfl ?_
  have rc1:RC RS 1 Φ_3 ([[],[],[]]:List (List Nat)) [.string (⟨#[]⟩:ByteArray),.string (⟨#[65]⟩:ByteArray),.string (⟨#[120]⟩:ByteArray)] ([(⟨#[]⟩:ByteArray),(⟨#[65]⟩:ByteArray),(⟨#[120]⟩:ByteArray)]:List ByteArray):=RC.cons (c:=[.string (⟨#[]⟩:ByteArray)]) (cells:=[.string (⟨#[65]⟩:ByteArray),.string (⟨#[120]⟩:ByteArray)]) ⟨rfl,rfl⟩ rfl (RC.cons (c:=[.string (⟨#[65]⟩:ByteArray)]) (cells:=[.string (⟨#[120]⟩:ByteArray)]) ⟨rfl,rfl⟩ rfl (RC.cons (c:=[.string (⟨#[120]⟩:ByteArray)]) (cells:=[]) ⟨rfl,rfl⟩ rfl (RC.nil _ _ _)))
  refine le' (aV (vs:=[(0,.string (⟨#[]⟩:ByteArray)),(1,.string (⟨#[65]⟩:ByteArray)),(2,.string (⟨#[120]⟩:ByteArray))]) (C:=#[.string (⟨#[]⟩:ByteArray),.string (⟨#[65]⟩:ByteArray),.string (⟨#[120]⟩:ByteArray)]) RS.lasts dF lQ rfl rfl rfl rfl (ag rk (a8 (C':=[.string (⟨#[]⟩:ByteArray),.string ⟨#[]⟩,.string ⟨#[]⟩]) rfl rfl rfl rfl rfl (a8 (C':=[.string (⟨#[]⟩:ByteArray),.string (⟨#[65]⟩:ByteArray),.string ⟨#[]⟩]) rfl rfl rfl rfl rfl (a8 (C':=[.string (⟨#[]⟩:ByteArray),.string (⟨#[65]⟩:ByteArray),.string (⟨#[120]⟩:ByteArray)]) rfl rfl rfl rfl rfl (ac))))) rfl rc1 rfl (by simpa using Kw.nil)) rfl ?_
  rintro v5 Φ_5 D1 ⟨fr4,h5⟩
  replace h5:OSl RS 9 1 Φ_5 [] v5 ([(⟨#[]⟩:ByteArray),(⟨#[65]⟩:ByteArray),(⟨#[120]⟩:ByteArray)]:List ByteArray):=by simpa using h5
  replace h2:=h2.f0 fr4
  replace h4:=fr4 _ _ (by simp) h4
  refine kcb [1] h rfl rfl rfl rfl (fun b ap z q=>bA N b (⟨p0.b,x3.2.i,x3.2.h⟩:a7) ([(⟨#[]⟩:ByteArray),(⟨#[65]⟩:ByteArray),(⟨#[120]⟩:ByteArray)]:List ByteArray) (ph0_0.y z) h4 (h5.rsl.x (Dj.app (ap.q 0 rfl) dN)) q) ?_
  rintro x4 h v6 Φ_6 F4 ⟨ap4,fr5,rfl,rfl,e4,h6⟩
  replace h2:=h2.fr fr5 (ap4.q 1 rfl) dN
  refine lf Dw rfl rfl rfl<|so1 0 xQ rfl rfl ?_
  refine en ?_
  exact wo [0,1] [0,0] (K (_,_,_,_,_,_) ⟨h,h2,h6⟩)
 refine att 5 [] rfl ?_
 refine ch h rfl ?_ ?_ <;> intro h
 ·refine cut (σ:=Hp × (List bh) × Value × Int × Int) (fun s=>[(2,pQ b_1),(3,pQ b_2)]) (fun s=>St w0 s.1 [(b_2,.cells #[.string x2.1.Kind,s.2.2.1,.bool x2.1.Not] 201 (0,0)),(b_1,.cells #[.string (⟨#[]⟩:ByteArray),.slice none 0 0,.bool false] 201 (0,0))] [ob s.2.2.1,[pb0]]) (fun s=>pZ N p0 x2 s.2.1 s.2.2.2.1 s.2.2.2.2=some r∧(OSl ck 171 5 s.1 [] s.2.2.1 s.2.1)∧(s.1 pb0=some (.cells #[pv0_0,iV s.2.2.2.1,iV s.2.2.2.2] 144 (0,0)))) (fun s hm=>?_) (fun K=>?_)
  ·clear h
   obtain ⟨Φ_12,s5,u2,s6,s7⟩:=s
   obtain ⟨h,k3,k4⟩:=hm
   dsimp only at h k3 k4 ⊢
   unfold pZ at h
   exact wo [1,0] [0,0] (K (_,_,_,_,_,_) ⟨h,k3,k4⟩)
  refine wm [0,1] [11] rfl<|amm 4 [0,1,1,0,2,4] [0,1] rfl rfl ?_
  refine WM.two 3 5 (by kernel_rfl) ?_ ?_
  ·obtain ⟨x8,hx8,h⟩:=bs h
   refine mc rfl (fun _ v Φx D w1 hq hw=>Kn.of Kf.nil (ai2 0 1 rfl rfl) hw) (bo (js:=[0]) (R:=[ob v3]) ub rfl rfl (fun w1 hw ap hl=>az N (bx hw ap hl) (⟨p0.b,x3.2.i,x3.2.h⟩:a7) 5 (ph0_0.y (hw.uo ap)) h4  hx8)) rfl ?_
   rintro v12 Φ_13 F7 ⟨ap8,fr11,rfl,rfl,e7,h12⟩
   replace h2:=h2.fr fr11 (ap8.q 0 rfl) dN
   have rc4:RC RS 1 Φ_13 ([[],[],[]]:List (List Nat)) [.string (⟨#[]⟩:ByteArray),.string (⟨#[120]⟩:ByteArray),.string (⟨#[88]⟩:ByteArray)] ([(⟨#[]⟩:ByteArray),(⟨#[120]⟩:ByteArray),(⟨#[88]⟩:ByteArray)]:List ByteArray):=RC.cons (c:=[.string (⟨#[]⟩:ByteArray)]) (cells:=[.string (⟨#[120]⟩:ByteArray),.string (⟨#[88]⟩:ByteArray)]) ⟨rfl,rfl⟩ rfl (RC.cons (c:=[.string (⟨#[120]⟩:ByteArray)]) (cells:=[.string (⟨#[88]⟩:ByteArray)]) ⟨rfl,rfl⟩ rfl (RC.cons (c:=[.string (⟨#[88]⟩:ByteArray)]) (cells:=[]) ⟨rfl,rfl⟩ rfl (RC.nil _ _ _)))
   refine WM.one 5 (by kernel_rfl) (me rfl (fun _ v Φx D w1 hq hw=>Kn.of Kf.nil (ai2 0 1 rfl rfl) hw) (aV (vs:=[(0,.string (⟨#[]⟩:ByteArray)),(1,.string (⟨#[120]⟩:ByteArray)),(2,.string (⟨#[88]⟩:ByteArray))]) (C:=#[.string (⟨#[]⟩:ByteArray),.string (⟨#[120]⟩:ByteArray),.string (⟨#[88]⟩:ByteArray)]) RS.lasts dF lQ rfl rfl rfl rfl (ag rk (a8 (C':=[.string (⟨#[]⟩:ByteArray),.string ⟨#[]⟩,.string ⟨#[]⟩]) rfl rfl rfl rfl rfl (a8 (C':=[.string (⟨#[]⟩:ByteArray),.string (⟨#[120]⟩:ByteArray),.string ⟨#[]⟩]) rfl rfl rfl rfl rfl (a8 (C':=[.string (⟨#[]⟩:ByteArray),.string (⟨#[120]⟩:ByteArray),.string (⟨#[88]⟩:ByteArray)]) rfl rfl rfl rfl rfl (ac))))) rfl rc4 rfl (by simpa using Kw.nil)) rfl ?_)
   rintro v13 Φ_14 D5 ⟨fr12,h13⟩
   replace h13:OSl RS 9 1 Φ_14 [] v13 ([(⟨#[]⟩:ByteArray),(⟨#[120]⟩:ByteArray),(⟨#[88]⟩:ByteArray)]:List ByteArray):=by simpa using h13
   replace h2:=h2.f0 fr12
   replace h12:=fr12 _ _ (by simp) h12
   obtain ⟨x9,hx9,h⟩:=bs h
   refine WM.one 6 (by kernel_rfl) (mc rfl (fun _ v Φx D w1 hq hw=>Kn.of Kf.nil (ai2 0 1 rfl rfl) hw) (bo (js:=[1]) (R:=[ob v13,ob v3]) B9 rfl rfl (fun w1 hw ap hl=>bA N (bx hw ap hl) (⟨p0.b,x8.2.i,x8.2.h⟩:a7) ([(⟨#[]⟩:ByteArray),(⟨#[120]⟩:ByteArray),(⟨#[88]⟩:ByteArray)]:List ByteArray) (ph0_0.y (hw.uo ap)) h12 (h13.rsl.x (Dj.app (ap.q 0 rfl) dN))  hx9)) rfl ?_)
   rintro v14 Φ_15 F8 ⟨ap9,fr13,rfl,rfl,e8,h14⟩
   replace h2:=h2.fr fr13 (ap9.q 1 rfl) dN
   refine mq 7 rfl (by kernel_rfl) (kN [0,1]) (bz (vs:=[(0,iV x8.1),(1,.string x9.1)]) (C:=#[iV x8.1,.string x9.1,iV 0,iV 0,.string (⟨#[]⟩:ByteArray)]) qM gl rfl (a8 (C':=[iV x8.1,.string ⟨#[]⟩,iV 0,iV 0,.string ⟨#[]⟩]) rfl rfl rfl rfl rfl (a8 (C':=[iV x8.1,.string x9.1,iV 0,iV 0,.string ⟨#[]⟩]) rfl rfl rfl rfl rfl (ac)))) rfl ?_
   have rc5:RC ck 5 Φ_15 ([[]]:List (List Nat)) [iV x8.1,.string x9.1,iV 0,iV 0,.string (⟨#[]⟩:ByteArray)] ([(⟨x8.1,x9.1,(⟨0,0,(⟨#[]⟩:ByteArray)⟩:aN)⟩:bh)]:List bh):=RC.cons (c:=[iV x8.1,.string x9.1,iV 0,iV 0,.string (⟨#[]⟩:ByteArray)]) (cells:=[]) ⟨rfl,rfl⟩ rfl (RC.nil _ _ _)
   refine WM.one 8 (by kernel_rfl) (me rfl (fun _ v Φx D w1 hq hw=>Kn.of Kf.nil (ai2 0 1 rfl rfl) hw) (aV (vs:=[(0,.agg [iV x8.1,.string x9.1,iV 0,iV 0,.string (⟨#[]⟩:ByteArray)].toArray)]) (C:=#[iV x8.1,.string x9.1,iV 0,iV 0,.string (⟨#[]⟩:ByteArray)]) ck.lasts nK gl rfl rfl rfl rfl (ag tX (a8 (C':=[iV x8.1,.string x9.1,iV 0,iV 0,.string (⟨#[]⟩:ByteArray)]) rfl rfl rfl rfl rfl (ac))) rfl rc5 rfl (by simpa using Kw.nil)) rfl ?_)
   rintro v15 Φ_16 D6 ⟨fr14,h15⟩
   replace h15:OSl ck 171 5 Φ_16 [] v15 ([(⟨x8.1,x9.1,(⟨0,0,(⟨#[]⟩:ByteArray)⟩:aN)⟩:bh)]:List bh):=by simpa using h15
   replace h2:=h2.f0 fr14
   replace h14:=fr14 _ _ (by simp) h14
   obtain ⟨x10,hx10,h⟩:=bs h
   refine WM.one 9 (by kernel_rfl) (me rfl (fun _ v Φx D w1 hq hw=>Kn.of Kf.nil (ai2 0 1 rfl rfl) hw) (ee ck.lasts ck.one ck.flat nK yM rfl rfl rfl rfl rfl (js:=[3]) (Rr:=[ob v15,[pb0],ob v13]) rfl h2 h15.rsl hx10) rfl ?_)
   rintro v16 Φ_17 D7 ⟨⟨ap10,fr15⟩,h16⟩
   replace h14:=fr15 _ _ ((ap10.q 1 rfl) _ (by simp)) h14
   refine amm 1 [10,1] [0,1] rfl rfl ?_
   refine on1 11 (ms1 0 rfl nk zH rfl h16.one ?_)
   refine WM.nil (by kernel_rfl) ?_
   exact wo [0,1] [0,0] (K (_,_,_,_,_) ⟨h,h16,h14⟩)
  have rc6:RC RS 1 Φ_3 ([[],[],[]]:List (List Nat)) [.string (⟨#[]⟩:ByteArray),.string (⟨#[120]⟩:ByteArray),.string (⟨#[88]⟩:ByteArray)] ([(⟨#[]⟩:ByteArray),(⟨#[120]⟩:ByteArray),(⟨#[88]⟩:ByteArray)]:List ByteArray):=RC.cons (c:=[.string (⟨#[]⟩:ByteArray)]) (cells:=[.string (⟨#[120]⟩:ByteArray),.string (⟨#[88]⟩:ByteArray)]) ⟨rfl,rfl⟩ rfl (RC.cons (c:=[.string (⟨#[120]⟩:ByteArray)]) (cells:=[.string (⟨#[88]⟩:ByteArray)]) ⟨rfl,rfl⟩ rfl (RC.cons (c:=[.string (⟨#[88]⟩:ByteArray)]) (cells:=[]) ⟨rfl,rfl⟩ rfl (RC.nil _ _ _)))
  refine me rfl (fun _ v Φx D w1 hq hw=>Kn.of Kf.nil (ai2 0 1 rfl rfl) hw) (aV (vs:=[(0,.string (⟨#[]⟩:ByteArray)),(1,.string (⟨#[120]⟩:ByteArray)),(2,.string (⟨#[88]⟩:ByteArray))]) (C:=#[.string (⟨#[]⟩:ByteArray),.string (⟨#[120]⟩:ByteArray),.string (⟨#[88]⟩:ByteArray)]) RS.lasts dF lQ rfl rfl rfl rfl (ag rk (a8 (C':=[.string (⟨#[]⟩:ByteArray),.string ⟨#[]⟩,.string ⟨#[]⟩]) rfl rfl rfl rfl rfl (a8 (C':=[.string (⟨#[]⟩:ByteArray),.string (⟨#[120]⟩:ByteArray),.string ⟨#[]⟩]) rfl rfl rfl rfl rfl (a8 (C':=[.string (⟨#[]⟩:ByteArray),.string (⟨#[120]⟩:ByteArray),.string (⟨#[88]⟩:ByteArray)]) rfl rfl rfl rfl rfl (ac))))) rfl rc6 rfl (by simpa using Kw.nil)) rfl ?_
  rintro v17 Φ_18 D8 ⟨fr16,h17⟩
  replace h17:OSl RS 9 1 Φ_18 [] v17 ([(⟨#[]⟩:ByteArray),(⟨#[120]⟩:ByteArray),(⟨#[88]⟩:ByteArray)]:List ByteArray):=by simpa using h17
  replace h2:=h2.f0 fr16
  replace h4:=fr16 _ _ (by simp) h4
  obtain ⟨x11,hx11,h⟩:=bs h
  refine WM.one 3 (by kernel_rfl) (mc rfl (fun _ v Φx D w1 hq hw=>Kn.of Kf.nil (ai2 0 1 rfl rfl) hw) (bo (js:=[1]) (R:=[ob v17,ob v3]) ub rfl rfl (fun w1 hw ap hl=>az N (bx hw ap hl) (⟨p0.b,x3.2.i,x3.2.h⟩:a7) 5 (ph0_0.y (hw.uo ap)) h4  hx11)) rfl ?_)
  rintro v18 Φ_19 F9 ⟨ap11,fr17,rfl,rfl,e9,h18⟩
  replace h2:=h2.fr fr17 (ap11.q 1 rfl) dN
  replace h17:=h17.fr fr17 (ap11.q 0 rfl) dN
  obtain ⟨x12,hx12,h⟩:=bs h
  refine WM.one 6 (by kernel_rfl) (mc rfl (fun _ v Φx D w1 hq hw=>Kn.of Kf.nil (ai2 0 1 rfl rfl) hw) (bo (js:=[0]) (R:=[ob v17,ob v3]) B9 rfl rfl (fun w1 hw ap hl=>bA N (bx hw ap hl) (⟨p0.b,x11.2.i,x11.2.h⟩:a7) ([(⟨#[]⟩:ByteArray),(⟨#[120]⟩:ByteArray),(⟨#[88]⟩:ByteArray)]:List ByteArray) (ph0_0.y (hw.uo ap)) h18 (h17.rsl.x (Dj.app (ap.q 0 rfl) dN))  hx12)) rfl ?_)
  rintro v19 Φ_20 F10 ⟨ap12,fr18,rfl,rfl,e10,h19⟩
  replace h2:=h2.fr fr18 (ap12.q 1 rfl) dN
  refine mq 7 rfl (by kernel_rfl) (kN [0,1]) (bz (vs:=[(0,iV x11.1),(1,.string x12.1)]) (C:=#[iV x11.1,.string x12.1,iV 0,iV 0,.string (⟨#[]⟩:ByteArray)]) qM gl rfl (a8 (C':=[iV x11.1,.string ⟨#[]⟩,iV 0,iV 0,.string ⟨#[]⟩]) rfl rfl rfl rfl rfl (a8 (C':=[iV x11.1,.string x12.1,iV 0,iV 0,.string ⟨#[]⟩]) rfl rfl rfl rfl rfl (ac)))) rfl ?_
  have rc7:RC ck 5 Φ_20 ([[]]:List (List Nat)) [iV x11.1,.string x12.1,iV 0,iV 0,.string (⟨#[]⟩:ByteArray)] ([(⟨x11.1,x12.1,(⟨0,0,(⟨#[]⟩:ByteArray)⟩:aN)⟩:bh)]:List bh):=RC.cons (c:=[iV x11.1,.string x12.1,iV 0,iV 0,.string (⟨#[]⟩:ByteArray)]) (cells:=[]) ⟨rfl,rfl⟩ rfl (RC.nil _ _ _)
  refine WM.one 8 (by kernel_rfl) (me rfl (fun _ v Φx D w1 hq hw=>Kn.of Kf.nil (ai2 0 1 rfl rfl) hw) (aV (vs:=[(0,.agg [iV x11.1,.string x12.1,iV 0,iV 0,.string (⟨#[]⟩:ByteArray)].toArray)]) (C:=#[iV x11.1,.string x12.1,iV 0,iV 0,.string (⟨#[]⟩:ByteArray)]) ck.lasts nK gl rfl rfl rfl rfl (ag tX (a8 (C':=[iV x11.1,.string x12.1,iV 0,iV 0,.string (⟨#[]⟩:ByteArray)]) rfl rfl rfl rfl rfl (ac))) rfl rc7 rfl (by simpa using Kw.nil)) rfl ?_)
  rintro v20 Φ_21 D9 ⟨fr19,h20⟩
  replace h20:OSl ck 171 5 Φ_21 [] v20 ([(⟨x11.1,x12.1,(⟨0,0,(⟨#[]⟩:ByteArray)⟩:aN)⟩:bh)]:List bh):=by simpa using h20
  replace h2:=h2.f0 fr19
  replace h19:=fr19 _ _ (by simp) h19
  obtain ⟨x13,hx13,h⟩:=bs h
  refine WM.one 9 (by kernel_rfl) (me rfl (fun _ v Φx D w1 hq hw=>Kn.of Kf.nil (ai2 0 1 rfl rfl) hw) (ee ck.lasts ck.one ck.flat nK yM rfl rfl rfl rfl rfl (js:=[3]) (Rr:=[ob v20,[pb0],ob v17]) rfl h2 h20.rsl hx13) rfl ?_)
  rintro v21 Φ_22 D10 ⟨⟨ap13,fr20⟩,h21⟩
  replace h19:=fr20 _ _ ((ap13.q 1 rfl) _ (by simp)) h19
  refine amm 1 [10,1] [0,1] rfl rfl ?_
  refine on1 11 (ms1 0 rfl nk zH rfl h21.one ?_)
  refine WM.nil (by kernel_rfl) ?_
  exact wo [0,1] [0,0] (K (_,_,_,_,_) ⟨h,h21,h19⟩)
 refine att 5 [] rfl ?_
 refine ch h rfl ?_ ?_ <;> intro h
 ·refine blk ?_
  refine lin (σ:=Hp × (List bh) × Value × Int × Int) (fun s=>[(0,pQ pb0),(2,pQ b_1),(3,pQ b_2)]) (fun s=>St w0 s.1 [(b_2,.cells #[.string x2.1.Kind,s.2.2.1,.bool x2.1.Not] 201 (0,0)),(b_1,.cells #[.string (⟨#[]⟩:ByteArray),.slice none 0 0,.bool false] 201 (0,0))] [[pb0],ob s.2.2.1]) (fun m s=>jv N p0 x2 m s.2.1 s.2.2.2.1 s.2.2.2.2=some r∧(OSl ck 171 5 s.1 [] s.2.2.1 s.2.1)∧(s.1 pb0=some (.cells #[pv0_0,iV s.2.2.2.1,iV s.2.2.2.2] 144 (0,0)))) (Φ_3,x2.1.Args,v3,x3.2.i,x3.2.h) N ⟨h,h2,h4⟩ (sx [0,0] [0,0]) (fun n3 ih3 s hm=>?_)
  obtain ⟨Φ_23,s8,u3,s9,s10⟩:=s
  obtain ⟨h,k5,k6⟩:=hm
  dsimp only at h k5 k6 ⊢
  unfold jv at h
  refine sq<|sq<|wm [0,1] [] rfl<|amm 2 [0,1,1,0] [0,1] rfl rfl<|mq 2 rfl (by kernel_rfl) (kN [0,1]) (lM nK rfl rfl k5.rsl) rfl<|amm 1 [3] [0,1] rfl rfl ?_
  obtain ⟨x14,hx14,h⟩:=bs h
  refine WM.one 4 (by kernel_rfl) (mc rfl (fun _ v Φx D w1 hq hw=>Kn.of Kf.nil (ai2 0 1 rfl rfl) hw) (bo (js:=[0]) (R:=[ob u3]) ub rfl rfl (fun w1 hw ap hl=>az N (bx hw ap hl) (⟨p0.b,s9,s10⟩:a7) 2 (ph0_0.y (hw.uo ap)) k6  hx14)) rfl ?_)
  rintro v22 Φ_24 F11 ⟨ap14,fr21,rfl,rfl,e11,h22⟩
  replace k5:=k5.fr fr21 (ap14.q 0 rfl) dN
  refine amm 2 [5,6] [0,1] rfl rfl<|WM.nil (by kernel_rfl) ?_
  refine ch h rfl ?_ ?_ <;> intro h
  ·refine att 2 [] rfl<|wm [0,1] [7] rfl<|amm 3 [0,1,1,0,2] [0,1] rfl rfl ?_
   obtain ⟨x15,hx15,h⟩:=bs h
   refine WM.one 3 (by kernel_rfl) (mc rfl (fun _ v Φx D w1 hq hw=>Kn.of Kf.nil (ai2 0 1 rfl rfl) hw) (bo (js:=[0]) (R:=[ob u3]) vH rfl rfl (fun w1 hw ap hl=>kI N (bx hw ap hl) (⟨p0.b,x14.2.i,x14.2.h⟩:a7) (ph0_0.y (hw.uo ap)) h22  hx15)) rfl ?_)
   rintro v23 Φ_25 F12 ⟨ap15,fr22,rfl,rfl,e12,h23⟩
   replace k5:=k5.fr fr22 (ap15.q 0 rfl) dN
   have rc8:RC ck 5 Φ_25 ([[]]:List (List Nat)) [iV x15.1.K,.string x15.1.S,iV x15.1.V.K,iV x15.1.V.N,.string x15.1.V.S] ([x15.1]:List bh):=RC.cons (c:=[iV x15.1.K,.string x15.1.S,iV x15.1.V.K,iV x15.1.V.N,.string x15.1.V.S]) (cells:=[]) ⟨rfl,rfl⟩ rfl (RC.nil _ _ _)
   refine WM.one 4 (by kernel_rfl) (me rfl (fun _ v Φx D w1 hq hw=>Kn.of Kf.nil (ai2 0 1 rfl rfl) hw) (aV (vs:=[(0,.agg [iV x15.1.K,.string x15.1.S,iV x15.1.V.K,iV x15.1.V.N,.string x15.1.V.S].toArray)]) (C:=#[iV x15.1.K,.string x15.1.S,iV x15.1.V.K,iV x15.1.V.N,.string x15.1.V.S]) ck.lasts nK gl rfl rfl rfl rfl (ag tX (a8 (C':=[iV x15.1.K,.string x15.1.S,iV x15.1.V.K,iV x15.1.V.N,.string x15.1.V.S]) rfl rfl rfl rfl rfl (ac))) rfl rc8 rfl (by simpa using Kw.nil)) rfl ?_)
   rintro v24 Φ_26 D11 ⟨fr23,h24⟩
   replace h24:OSl ck 171 5 Φ_26 [] v24 ([x15.1]:List bh):=by simpa using h24
   replace k5:=k5.f0 fr23
   replace h23:=fr23 _ _ (by simp) h23
   obtain ⟨x16,hx16,h⟩:=bs h
   refine WM.one 5 (by kernel_rfl) (me rfl (fun _ v Φx D w1 hq hw=>Kn.of Kf.nil (ai2 0 1 rfl rfl) hw) (ee ck.lasts ck.one ck.flat nK yM rfl rfl rfl rfl rfl (js:=[2]) (Rr:=[ob v24,[pb0]]) rfl k5 h24.rsl hx16) rfl ?_)
   rintro v25 Φ_27 D12 ⟨⟨ap16,fr24⟩,h25⟩
   replace h23:=fr24 _ _ ((ap16.q 1 rfl) _ (by simp)) h23
   refine amm 1 [6,1] [0,1] rfl rfl ?_
   refine on1 7 (ms1 0 rfl nk zH rfl h25.one ?_)
   refine WM.nil (by kernel_rfl)<|ib ?_
   exact lb [2,0] [0,0] (ih3 (_,_,_,_,_) ⟨h,h25,h23⟩)
  refine xt rfl ?_
  exact wo [0,0] [0,0] (K (_,_,_,_,_,_) ⟨h,k5,h22⟩)
 refine WT.skip ?_
 exact wo [0,0] [0,0] (K (_,_,_,_,_,_) ⟨h,h2,h4⟩)
theorem yT (w0:av Ψ Φ [[pb0]].flatten) (p0:a7) (ph0_0:RSl (RI .u8) 1 Ψ pG0_0 pv0_0 p0.b) (pp0:Φ pb0=some (.cells #[pv0_0,iV p0.i,iV p0.h] 144 (0,0))) {r:cm × a7} (h:pu N p0=some r) :
  Calls prog 156 [pQ pb0].toArray w0.w (be Φ w0.w [[pb0]].flatten (fun Φ' Fs v=>v = .agg [iV r.1.Op,iV r.1.L.K,.string r.1.L.S,iV r.1.L.V.K,iV r.1.L.V.N,.string r.1.L.V.S,iV r.1.R.K,.string r.1.R.S,iV r.1.R.V.K,iV r.1.R.V.N,.string r.1.R.V.S].toArray∧Fs=[[pb0]]∧r.2.b=p0.b∧Φ' pb0=some (.cells #[pv0_0,iV r.2.i,iV r.2.h] 144 (0,0)))):=by
 refine eL func156 rfl ntmps156 rfl (L:=[[pb0]]) w0 (fun hF=>?_)
 unfold pu at h
 refine sr<|lnz nI rfl fun b_1=>arr 4 [] rfl<|kcb [0] h rfl rfl rfl rfl (fun b ap z q=>sd N b p0 (ph0_0.y z) pp0 q) ?_
 rintro x1 h v1 Φ_1 F1 ⟨ap1,fr1,rfl,rfl,e1,h1⟩
 refine lnz nI rfl fun b_2=>soN 0 sQ rfl ⟨rfl,rfl,rfl,rfl,rfl,rfl,rfl,rfl,rfl,rfl,rfl,trivial⟩ rfl ?_
 refine arr 5 [] rfl<|kcb [0] h rfl rfl rfl rfl (fun b ap z q=>az N b (⟨p0.b,x1.2.i,x1.2.h⟩:a7) 8 (ph0_0.y z) h1 q) ?_
 rintro x2 h v2 Φ_2 F2 ⟨ap2,fr2,rfl,rfl,e2,h2⟩
 refine art 7 [] rfl ?_
 refine cut (σ:=Hp × Int × Int × Int × Int × ByteArray × Int × Int × ByteArray × Int × ByteArray × Int × Int × ByteArray) (fun s=>[(2,pQ b_1),(3,pQ b_2)]) (fun s=>St w0 s.1 [(b_2,.cells #[iV s.2.2.2.1,iV s.2.2.2.2.1,.string s.2.2.2.2.2.1,iV s.2.2.2.2.2.2.1,iV s.2.2.2.2.2.2.2.1,.string s.2.2.2.2.2.2.2.2.1,iV s.2.2.2.2.2.2.2.2.2.1,.string s.2.2.2.2.2.2.2.2.2.2.1,iV s.2.2.2.2.2.2.2.2.2.2.2.1,iV s.2.2.2.2.2.2.2.2.2.2.2.2.1,.string s.2.2.2.2.2.2.2.2.2.2.2.2.2] 173 (0,0)),(b_1,.cells #[iV 0,iV 0,.string (⟨#[]⟩:ByteArray),iV 0,iV 0,.string (⟨#[]⟩:ByteArray),iV 0,.string (⟨#[]⟩:ByteArray),iV 0,iV 0,.string (⟨#[]⟩:ByteArray)] 173 (0,0))] [[pb0]]) (fun s=>jx N p0 s.2.1 s.2.2.1 s.2.2.2.1 s.2.2.2.2.1 s.2.2.2.2.2.1 s.2.2.2.2.2.2.1 s.2.2.2.2.2.2.2.1 s.2.2.2.2.2.2.2.2.1 s.2.2.2.2.2.2.2.2.2.1 s.2.2.2.2.2.2.2.2.2.2.1 s.2.2.2.2.2.2.2.2.2.2.2.1 s.2.2.2.2.2.2.2.2.2.2.2.2.1 s.2.2.2.2.2.2.2.2.2.2.2.2.2=some r∧(s.1 pb0=some (.cells #[pv0_0,iV s.2.1,iV s.2.2.1] 144 (0,0)))) (fun s hm=>?_) (fun K=>?_)
 ·clear h
  obtain ⟨Φ_3,s1,s2,s3,s4,s5,s6,s7,s8,s9,s10,s11,s12,s13⟩:=s
  obtain ⟨h,k1⟩:=hm
  dsimp only at h k1 ⊢
  unfold jx at h
  refine atr 4 [11] rfl<|soN 1 sQ rfl ⟨rfl,rfl,rfl,rfl,rfl,rfl,rfl,rfl,rfl,rfl,rfl,trivial⟩ rfl ?_
  refine en ?_
  exact rtg [0] hF (ay.one (bb Gf rfl (fun w1 hw=>hw.rgO (i:=1) rfl 0 11 [iV s3,iV s4,.string s5,iV s6,iV s7,.string s8,iV s9,.string s10,iV s11,iV s12,.string s13] rfl) rfl)) rfl (by cases h; exact fun w1 hw=>⟨rfl,rfl,rfl,k1⟩)
 refine ch h rfl ?_ ?_ <;> intro h
 ·refine atr 2 [] rfl<|kcb [0] h rfl rfl rfl rfl (fun b ap z q=>az N b (⟨p0.b,x2.2.i,x2.2.h⟩:a7) 6 (ph0_0.y z) h2 q) ?_
  rintro x3 h v3 Φ_4 F3 ⟨ap3,fr3,rfl,rfl,e3,h3⟩
  refine lf E3 rfl rfl rfl<|so1 0 tV rfl rfl ?_
  refine en ?_
  exact wo [0] [0,0] (K (_,_,_,_,_,_,_,_,_,_,_,_,_,_) ⟨h,h3⟩)
 refine att 5 [] rfl ?_
 refine ch h rfl ?_ ?_ <;> intro h
 ·refine atr 2 [] rfl<|kcb [0] h rfl rfl rfl rfl (fun b ap z q=>kI N b (⟨p0.b,x2.2.i,x2.2.h⟩:a7) (ph0_0.y z) h2 q) ?_
  rintro x4 h v4 Φ_5 F4 ⟨ap4,fr4,rfl,rfl,e4,h4⟩
  refine lf uh rfl rfl rfl<|soN 0 gV rfl ⟨rfl,rfl,rfl,rfl,rfl,trivial⟩ rfl ?_
  refine en ?_
  exact wo [0] [0,0] (K (_,_,_,_,_,_,_,_,_,_,_,_,_,_) ⟨h,h4⟩)
 refine att 5 [] rfl ?_
 refine ch h rfl ?_ ?_ <;> intro h
 ·refine atr 2 [] rfl<|kcb [0] h rfl rfl rfl rfl (fun b ap z q=>az N b (⟨p0.b,x2.2.i,x2.2.h⟩:a7) 5 (ph0_0.y z) h2 q) ?_
  rintro x5 h v5 Φ_6 F5 ⟨ap5,fr5,rfl,rfl,e5,h5⟩
  refine lq (bz (vs:=[(0,iV x5.1)]) (C:=#[iV x5.1,.string (⟨#[]⟩:ByteArray),iV 0,iV 0,.string (⟨#[]⟩:ByteArray)]) qM gl rfl (a8 (C':=[iV x5.1,.string ⟨#[]⟩,iV 0,iV 0,.string ⟨#[]⟩]) rfl rfl rfl rfl rfl (ac))) rfl<|lf uf rfl rfl rfl<|soN 0 gV rfl ⟨rfl,rfl,rfl,rfl,rfl,trivial⟩ rfl ?_
  refine en ?_
  exact wo [0] [0,0] (K (_,_,_,_,_,_,_,_,_,_,_,_,_,_) ⟨h,h5⟩)
 refine WT.skip ?_
 exact wo [0] [0,0] (K (_,_,_,_,_,_,_,_,_,_,_,_,_,_) ⟨h,h2⟩)
end Go.Proofs.YtedmfnmbjglmbaaGreat
