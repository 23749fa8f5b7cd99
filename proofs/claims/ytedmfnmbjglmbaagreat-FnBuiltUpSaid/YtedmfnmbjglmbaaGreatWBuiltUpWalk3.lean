/- Printed by a program of ours: each Go function computes its Lean function. -/
import Derived.Test.YtedmfnmbjglmbaaGreatProg
import Derived.Test.YtedmfnmbjglmbaaGreatWBuiltUpWalk2
namespace Go.Proofs.YtedmfnmbjglmbaaGreat
open Eng Tryz
open Go.RowKit (Below)
set_option linter.unusedVariables false
set_option linter.unusedSimpArgs false

set_option maxRecDepth 100000
set_option maxHeartbeats 1000000
variable {Ψ Φ:Hp} {pv0_0 pv1_0 pv1_1 pv1_2 pv0 pv0_1 pv0_2:Value} {pG0_0 pG1_0 pG1_1 pG1_2 pG0 pG0_1 pG0_2:List Nat} {pb0:Nat} (N:Nat)
theorem zq (w0:av Ψ Φ [[pb0]].flatten) (p0:a7) (ph0_0:RSl (RI .u8) 1 Ψ pG0_0 pv0_0 p0.b) (pp0:Φ pb0=some (.cells #[pv0_0,iV p0.i,iV p0.h] 144 (0,0))) {r:cI × a7} (h:pj N p0=some r) :
  Calls prog 157 [pQ pb0].toArray w0.w (be Φ w0.w [[pb0]].flatten (fun Φ' Fs v=>∃ (sr_0_0:Value),v = .agg [iV r.1.Kind,.string r.1.Name,sr_0_0,iV r.1.N,.string r.1.Undo].toArray∧Fs=[ob sr_0_0,[pb0]]∧OSl ce 216 11 Φ' [] sr_0_0 r.1.Args∧r.2.b=p0.b∧Φ' pb0=some (.cells #[pv0_0,iV r.2.i,iV r.2.h] 144 (0,0)))):=by
 refine eL func157 rfl ntmps157 rfl (L:=[[pb0]]) w0 (fun hF=>?_)
 unfold pj at h
 refine sr<|lnz ot rfl fun b_1=>arr 4 [] rfl<|kcb [0] h rfl rfl rfl rfl (fun b ap z q=>sF N b p0 2 (ph0_0.y z) pp0 q) ?_
 rintro x1 h v1 Φ_1 F1 ⟨ap1,fr1,v2,rfl,rfl,h1,e1,h2⟩
 refine lnz ot rfl fun b_2=>soN 0 qy rfl ⟨rfl,rfl,h1.one,rfl,rfl,trivial⟩ rfl ?_
 refine arr 5 [] rfl<|kcb [1] h rfl rfl rfl rfl (fun b ap z q=>az N b (⟨p0.b,x1.2.i,x1.2.h⟩:a7) 10 (ph0_0.y z) h2 q) ?_
 rintro x2 h v3 Φ_2 F2 ⟨ap2,fr2,rfl,rfl,e2,h3⟩
 replace h1:=h1.fr fr2 (ap2.q 0 rfl) dN
 refine art 7 [] rfl ?_
 refine cut (σ:=Hp × (List cn) × Value × Int × Int × Int × ByteArray × Int × ByteArray) (fun s=>[(2,pQ b_1),(3,pQ b_2)]) (fun s=>St w0 s.1 [(b_2,.cells #[iV s.2.2.2.2.2.1,.string s.2.2.2.2.2.2.1,s.2.2.1,iV s.2.2.2.2.2.2.2.1,.string s.2.2.2.2.2.2.2.2] 213 (0,0)),(b_1,.cells #[iV 0,.string (⟨#[]⟩:ByteArray),.slice none 0 0,iV 0,.string (⟨#[]⟩:ByteArray)] 213 (0,0))] [[pb0],ob s.2.2.1]) (fun s=>gB N p0 s.2.1 s.2.2.2.1 s.2.2.2.2.1 s.2.2.2.2.2.1 s.2.2.2.2.2.2.1 s.2.2.2.2.2.2.2.1 s.2.2.2.2.2.2.2.2=some r∧(OSl ce 216 11 s.1 [] s.2.2.1 s.2.1)∧(s.1 pb0=some (.cells #[pv0_0,iV s.2.2.2.1,iV s.2.2.2.2.1] 144 (0,0)))) (fun s hm=>?_) (fun K=>?_)
 ·clear h
  obtain ⟨Φ_3,s1,u1,s2,s3,s4,s5,s6,s7⟩:=s
  obtain ⟨h,k1,k2⟩:=hm
  dsimp only at h k1 k2 ⊢
  unfold gB at h
  refine atr 4 [5] rfl<|soN 1 qy rfl ⟨rfl,rfl,k1.one,rfl,rfl,trivial⟩ rfl ?_
  refine en ?_
  exact rtg [1,0] hF (ay.one (bb xh rfl (fun w1 hw=>hw.rgO (i:=1) rfl 0 5 [iV s4,.string s5,u1,iV s6,.string s7] rfl) rfl)) rfl (by cases h; exact fun w1 hw=>⟨u1,rfl,rfl,k1,rfl,k2⟩)
 refine ch h rfl ?_ ?_ <;> intro h
 ·refine atr 2 [] rfl<|kcb [0] h rfl rfl rfl rfl (fun b ap z q=>az N b (⟨p0.b,x2.2.i,x2.2.h⟩:a7) 8 (ph0_0.y z) h3 q) ?_
  rintro x3 h v4 Φ_4 F3 ⟨ap3,fr3,rfl,rfl,e3,h4⟩
  replace h1:=h1.fr fr3 (ap3.q 0 rfl) dN
  refine lf yv rfl rfl rfl<|so1 0 tV rfl rfl ?_
  refine en ?_
  exact wo [0,0] [0,0] (K (_,_,_,_,_,_,_,_,_) ⟨h,h1,h4⟩)
 refine att 5 [] rfl ?_
 refine ch h rfl ?_ ?_ <;> intro h
 ·refine atr 2 [] rfl ?_
  have rc1:RC RS 1 Φ_2 ([[],[],[]]:List (List Nat)) [.string (⟨#[]⟩:ByteArray),.string (⟨#[65]⟩:ByteArray),.string (⟨#[120]⟩:ByteArray)] ([(⟨#[]⟩:ByteArray),(⟨#[65]⟩:ByteArray),(⟨#[120]⟩:ByteArray)]:List ByteArray):=RC.cons (c:=[.string (⟨#[]⟩:ByteArray)]) (cells:=[.string (⟨#[65]⟩:ByteArray),.string (⟨#[120]⟩:ByteArray)]) ⟨rfl,rfl⟩ rfl (RC.cons (c:=[.string (⟨#[65]⟩:ByteArray)]) (cells:=[.string (⟨#[120]⟩:ByteArray)]) ⟨rfl,rfl⟩ rfl (RC.cons (c:=[.string (⟨#[120]⟩:ByteArray)]) (cells:=[]) ⟨rfl,rfl⟩ rfl (RC.nil _ _ _)))
  refine le' (aV (vs:=[(0,.string (⟨#[]⟩:ByteArray)),(1,.string (⟨#[65]⟩:ByteArray)),(2,.string (⟨#[120]⟩:ByteArray))]) (C:=#[.string (⟨#[]⟩:ByteArray),.string (⟨#[65]⟩:ByteArray),.string (⟨#[120]⟩:ByteArray)]) RS.lasts dF lQ rfl rfl rfl rfl (ag rk (a8 (C':=[.string (⟨#[]⟩:ByteArray),.string ⟨#[]⟩,.string ⟨#[]⟩]) rfl rfl rfl rfl rfl (a8 (C':=[.string (⟨#[]⟩:ByteArray),.string (⟨#[65]⟩:ByteArray),.string ⟨#[]⟩]) rfl rfl rfl rfl rfl (a8 (C':=[.string (⟨#[]⟩:ByteArray),.string (⟨#[65]⟩:ByteArray),.string (⟨#[120]⟩:ByteArray)]) rfl rfl rfl rfl rfl (ac))))) rfl rc1 rfl (by simpa using Kw.nil)) rfl ?_
  rintro v5 Φ_5 D1 ⟨fr4,h5⟩
  replace h5:OSl RS 9 1 Φ_5 [] v5 ([(⟨#[]⟩:ByteArray),(⟨#[65]⟩:ByteArray),(⟨#[120]⟩:ByteArray)]:List ByteArray):=by simpa using h5
  replace h1:=h1.f0 fr4
  replace h3:=fr4 _ _ (by simp) h3
  refine kcb [1] h rfl rfl rfl rfl (fun b ap z q=>bA N b (⟨p0.b,x2.2.i,x2.2.h⟩:a7) ([(⟨#[]⟩:ByteArray),(⟨#[65]⟩:ByteArray),(⟨#[120]⟩:ByteArray)]:List ByteArray) (ph0_0.y z) h3 (h5.rsl.x (Dj.app (ap.q 0 rfl) dN)) q) ?_
  rintro x4 h v6 Φ_6 F4 ⟨ap4,fr5,rfl,rfl,e4,h6⟩
  replace h1:=h1.fr fr5 (ap4.q 1 rfl) dN
  refine lf yy rfl rfl rfl<|so1 0 xQ rfl rfl ?_
  refine en ?_
  exact wo [0,1] [0,0] (K (_,_,_,_,_,_,_,_,_) ⟨h,h1,h6⟩)
 refine att 5 [] rfl ?_
 refine ch h rfl ?_ ?_ <;> intro h
 ·refine atr 2 [] rfl ?_
  have rc2:RC (RI .i64) 1 Φ_2 ([[],[],[],[]]:List (List Nat)) [iV (-1),iV 7,iV 8,iV 100001] ([(-1),7,8,100001]:List Int):=RC.cons (c:=[iV (-1)]) (cells:=[iV 7,iV 8,iV 100001]) ⟨rfl,rfl⟩ rfl (RC.cons (c:=[iV 7]) (cells:=[iV 8,iV 100001]) ⟨rfl,rfl⟩ rfl (RC.cons (c:=[iV 8]) (cells:=[iV 100001]) ⟨rfl,rfl⟩ rfl (RC.cons (c:=[iV 100001]) (cells:=[]) ⟨rfl,rfl⟩ rfl (RC.nil _ _ _))))
  refine le' (aV (vs:=[(0,iV (-1)),(1,iV 7),(2,iV 8),(3,iV 100001)]) (C:=#[iV (-1),iV 7,iV 8,iV 100001]) RI.lasts dQ ou rfl rfl rfl rfl (ag Bu (a8 (C':=[iV (-1),iV 0,iV 0,iV 0]) rfl rfl rfl rfl rfl (a8 (C':=[iV (-1),iV 7,iV 0,iV 0]) rfl rfl rfl rfl rfl (a8 (C':=[iV (-1),iV 7,iV 8,iV 0]) rfl rfl rfl rfl rfl (a8 (C':=[iV (-1),iV 7,iV 8,iV 100001]) rfl rfl rfl rfl rfl (ac)))))) rfl rc2 rfl (by simpa using Kw.nil)) rfl ?_
  rintro v7 Φ_7 D2 ⟨fr6,h7⟩
  replace h7:OSl (RI .i64) 3 1 Φ_7 [] v7 ([(-1),7,8,100001]:List Int):=by simpa using h7
  replace h1:=h1.f0 fr6
  replace h3:=fr6 _ _ (by simp) h3
  refine kcb [1] h rfl rfl rfl rfl (fun b ap z q=>gA N b (⟨p0.b,x2.2.i,x2.2.h⟩:a7) ([(-1),7,8,100001]:List Int) (ph0_0.y z) h3 (h7.rsl.x (Dj.app (ap.q 0 rfl) dN)) q) ?_
  rintro x5 h v8 Φ_8 F5 ⟨ap5,fr7,rfl,rfl,e5,h8⟩
  replace h1:=h1.fr fr7 (ap5.q 1 rfl) dN
  refine lf rN rfl rfl rfl<|so1 0 tV rfl rfl ?_
  refine en ?_
  exact wo [0,1] [0,0] (K (_,_,_,_,_,_,_,_,_) ⟨h,h1,h8⟩)
 refine att 5 [] rfl ?_
 refine ch h rfl ?_ ?_ <;> intro h
 ·refine atr 2 [] rfl ?_
  have rc3:RC RS 1 Φ_2 ([[],[],[]]:List (List Nat)) [.string (⟨#[]⟩:ByteArray),.string (⟨#[65]⟩:ByteArray),.string (⟨#[120]⟩:ByteArray)] ([(⟨#[]⟩:ByteArray),(⟨#[65]⟩:ByteArray),(⟨#[120]⟩:ByteArray)]:List ByteArray):=RC.cons (c:=[.string (⟨#[]⟩:ByteArray)]) (cells:=[.string (⟨#[65]⟩:ByteArray),.string (⟨#[120]⟩:ByteArray)]) ⟨rfl,rfl⟩ rfl (RC.cons (c:=[.string (⟨#[65]⟩:ByteArray)]) (cells:=[.string (⟨#[120]⟩:ByteArray)]) ⟨rfl,rfl⟩ rfl (RC.cons (c:=[.string (⟨#[120]⟩:ByteArray)]) (cells:=[]) ⟨rfl,rfl⟩ rfl (RC.nil _ _ _)))
  refine le' (aV (vs:=[(0,.string (⟨#[]⟩:ByteArray)),(1,.string (⟨#[65]⟩:ByteArray)),(2,.string (⟨#[120]⟩:ByteArray))]) (C:=#[.string (⟨#[]⟩:ByteArray),.string (⟨#[65]⟩:ByteArray),.string (⟨#[120]⟩:ByteArray)]) RS.lasts dF lQ rfl rfl rfl rfl (ag rk (a8 (C':=[.string (⟨#[]⟩:ByteArray),.string ⟨#[]⟩,.string ⟨#[]⟩]) rfl rfl rfl rfl rfl (a8 (C':=[.string (⟨#[]⟩:ByteArray),.string (⟨#[65]⟩:ByteArray),.string ⟨#[]⟩]) rfl rfl rfl rfl rfl (a8 (C':=[.string (⟨#[]⟩:ByteArray),.string (⟨#[65]⟩:ByteArray),.string (⟨#[120]⟩:ByteArray)]) rfl rfl rfl rfl rfl (ac))))) rfl rc3 rfl (by simpa using Kw.nil)) rfl ?_
  rintro v9 Φ_9 D3 ⟨fr8,h9⟩
  replace h9:OSl RS 9 1 Φ_9 [] v9 ([(⟨#[]⟩:ByteArray),(⟨#[65]⟩:ByteArray),(⟨#[120]⟩:ByteArray)]:List ByteArray):=by simpa using h9
  replace h1:=h1.f0 fr8
  replace h3:=fr8 _ _ (by simp) h3
  refine kcb [1] h rfl rfl rfl rfl (fun b ap z q=>bA N b (⟨p0.b,x2.2.i,x2.2.h⟩:a7) ([(⟨#[]⟩:ByteArray),(⟨#[65]⟩:ByteArray),(⟨#[120]⟩:ByteArray)]:List ByteArray) (ph0_0.y z) h3 (h9.rsl.x (Dj.app (ap.q 0 rfl) dN)) q) ?_
  rintro x6 h v10 Φ_10 F6 ⟨ap6,fr9,rfl,rfl,e6,h10⟩
  replace h1:=h1.fr fr9 (ap6.q 1 rfl) dN
  refine lf y8 rfl rfl rfl<|so1 0 xQ rfl rfl ?_
  refine en ?_
  exact wo [0,1] [0,0] (K (_,_,_,_,_,_,_,_,_) ⟨h,h1,h10⟩)
 refine att 5 [] rfl ?_
 refine ch h rfl ?_ ?_ <;> intro h
 ·refine wm [0,1] [13] rfl<|amm 5 [0,2,1,0,2,5,7] [0,1] rfl rfl ?_
  have rc4:RC RS 1 Φ_2 ([[],[]]:List (List Nat)) [.string (⟨#[]⟩:ByteArray),.string (⟨#[42]⟩:ByteArray)] ([(⟨#[]⟩:ByteArray),(⟨#[42]⟩:ByteArray)]:List ByteArray):=RC.cons (c:=[.string (⟨#[]⟩:ByteArray)]) (cells:=[.string (⟨#[42]⟩:ByteArray)]) ⟨rfl,rfl⟩ rfl (RC.cons (c:=[.string (⟨#[42]⟩:ByteArray)]) (cells:=[]) ⟨rfl,rfl⟩ rfl (RC.nil _ _ _))
  refine WM.one 3 (by kernel_rfl) (me rfl (fun _ v Φx D w1 hq hw=>Kn.of Kf.nil (ai2 0 1 rfl rfl) hw) (aV (vs:=[(0,.string (⟨#[]⟩:ByteArray)),(1,.string (⟨#[42]⟩:ByteArray))]) (C:=#[.string (⟨#[]⟩:ByteArray),.string (⟨#[42]⟩:ByteArray)]) RS.lasts dF lQ rfl rfl rfl rfl (ag ux (a8 (C':=[.string (⟨#[]⟩:ByteArray),.string ⟨#[]⟩]) rfl rfl rfl rfl rfl (a8 (C':=[.string (⟨#[]⟩:ByteArray),.string (⟨#[42]⟩:ByteArray)]) rfl rfl rfl rfl rfl (ac)))) rfl rc4 rfl (by simpa using Kw.nil)) rfl ?_)
  rintro v11 Φ_11 D4 ⟨fr10,h11⟩
  replace h11:OSl RS 9 1 Φ_11 [] v11 ([(⟨#[]⟩:ByteArray),(⟨#[42]⟩:ByteArray)]:List ByteArray):=by simpa using h11
  replace h1:=h1.f0 fr10
  replace h3:=fr10 _ _ (by simp) h3
  obtain ⟨x7,hx7,h⟩:=bs h
  refine WM.one 4 (by kernel_rfl) (mc rfl (fun _ v Φx D w1 hq hw=>Kn.of Kf.nil (ai2 0 1 rfl rfl) hw) (bo (js:=[1]) (R:=[ob v11,ob v2]) B9 rfl rfl (fun w1 hw ap hl=>bA N (bx hw ap hl) (⟨p0.b,x2.2.i,x2.2.h⟩:a7) ([(⟨#[]⟩:ByteArray),(⟨#[42]⟩:ByteArray)]:List ByteArray) (ph0_0.y (hw.uo ap)) h3 (h11.rsl.x (Dj.app (ap.q 0 rfl) dN))  hx7)) rfl ?_)
  rintro v12 Φ_12 F7 ⟨ap7,fr11,rfl,rfl,e7,h12⟩
  replace h1:=h1.fr fr11 (ap7.q 1 rfl) dN
  obtain ⟨x8,hx8,h⟩:=bs h
  refine WM.one 6 (by kernel_rfl) (mc rfl (fun _ v Φx D w1 hq hw=>Kn.of Kf.nil (ai2 0 1 rfl rfl) hw) (bo (js:=[0]) (R:=[ob v11,ob v2]) vH rfl rfl (fun w1 hw ap hl=>kI N (bx hw ap hl) (⟨p0.b,x7.2.i,x7.2.h⟩:a7) (ph0_0.y (hw.uo ap)) h12  hx8)) rfl ?_)
  rintro v13 Φ_13 F8 ⟨ap8,fr12,rfl,rfl,e8,h13⟩
  replace h1:=h1.fr fr12 (ap8.q 1 rfl) dN
  obtain ⟨x9,hx9,h⟩:=bs h
  refine WM.one 8 (by kernel_rfl) (mc rfl (fun _ v Φx D w1 hq hw=>Kn.of Kf.nil (ai2 0 1 rfl rfl) hw) (bo (js:=[0]) (R:=[ob v11,ob v2]) vH rfl rfl (fun w1 hw ap hl=>kI N (bx hw ap hl) (⟨p0.b,x8.2.i,x8.2.h⟩:a7) (ph0_0.y (hw.uo ap)) h13  hx9)) rfl ?_)
  rintro v14 Φ_14 F9 ⟨ap9,fr13,rfl,rfl,e9,h14⟩
  replace h1:=h1.fr fr13 (ap9.q 1 rfl) dN
  refine mq 9 rfl (by kernel_rfl) (kN [0,1]) (bz (vs:=[(0,.string x7.1),(1,.agg [iV x8.1.K,.string x8.1.S,iV x8.1.V.K,iV x8.1.V.N,.string x8.1.V.S].toArray),(2,.agg [iV x9.1.K,.string x9.1.S,iV x9.1.V.K,iV x9.1.V.N,.string x9.1.V.S].toArray)]) (C:=#[.string x7.1,iV x8.1.K,.string x8.1.S,iV x8.1.V.K,iV x8.1.V.N,.string x8.1.V.S,iV x9.1.K,.string x9.1.S,iV x9.1.V.K,iV x9.1.V.N,.string x9.1.V.S]) FF qU rfl (a8 (C':=[.string x7.1,iV 0,.string ⟨#[]⟩,iV 0,iV 0,.string ⟨#[]⟩,iV 0,.string ⟨#[]⟩,iV 0,iV 0,.string ⟨#[]⟩]) rfl rfl rfl rfl rfl (a8 (C':=[.string x7.1,iV x8.1.K,.string x8.1.S,iV x8.1.V.K,iV x8.1.V.N,.string x8.1.V.S,iV 0,.string ⟨#[]⟩,iV 0,iV 0,.string ⟨#[]⟩]) rfl rfl rfl rfl rfl (a8 (C':=[.string x7.1,iV x8.1.K,.string x8.1.S,iV x8.1.V.K,iV x8.1.V.N,.string x8.1.V.S,iV x9.1.K,.string x9.1.S,iV x9.1.V.K,iV x9.1.V.N,.string x9.1.V.S]) rfl rfl rfl rfl rfl (ac))))) rfl ?_
  have rc5:RC ce 11 Φ_14 ([[]]:List (List Nat)) [.string x7.1,iV x8.1.K,.string x8.1.S,iV x8.1.V.K,iV x8.1.V.N,.string x8.1.V.S,iV x9.1.K,.string x9.1.S,iV x9.1.V.K,iV x9.1.V.N,.string x9.1.V.S] ([(⟨x7.1,x8.1,x9.1⟩:cn)]:List cn):=RC.cons (c:=[.string x7.1,iV x8.1.K,.string x8.1.S,iV x8.1.V.K,iV x8.1.V.N,.string x8.1.V.S,iV x9.1.K,.string x9.1.S,iV x9.1.V.K,iV x9.1.V.N,.string x9.1.V.S]) (cells:=[]) ⟨rfl,rfl⟩ rfl (RC.nil _ _ _)
  refine WM.one 10 (by kernel_rfl) (me rfl (fun _ v Φx D w1 hq hw=>Kn.of Kf.nil (ai2 0 1 rfl rfl) hw) (aV (vs:=[(0,.agg [.string x7.1,iV x8.1.K,.string x8.1.S,iV x8.1.V.K,iV x8.1.V.N,.string x8.1.V.S,iV x9.1.K,.string x9.1.S,iV x9.1.V.K,iV x9.1.V.N,.string x9.1.V.S].toArray)]) (C:=#[.string x7.1,iV x8.1.K,.string x8.1.S,iV x8.1.V.K,iV x8.1.V.N,.string x8.1.V.S,iV x9.1.K,.string x9.1.S,iV x9.1.V.K,iV x9.1.V.N,.string x9.1.V.S]) ce.lasts rc qU rfl rfl rfl rfl (ag zX (a8 (C':=[.string x7.1,iV x8.1.K,.string x8.1.S,iV x8.1.V.K,iV x8.1.V.N,.string x8.1.V.S,iV x9.1.K,.string x9.1.S,iV x9.1.V.K,iV x9.1.V.N,.string x9.1.V.S]) rfl rfl rfl rfl rfl (ac))) rfl rc5 rfl (by simpa using Kw.nil)) rfl ?_)
  rintro v15 Φ_15 D5 ⟨fr14,h15⟩
  replace h15:OSl ce 216 11 Φ_15 [] v15 ([(⟨x7.1,x8.1,x9.1⟩:cn)]:List cn):=by simpa using h15
  replace h1:=h1.f0 fr14
  replace h14:=fr14 _ _ (by simp) h14
  obtain ⟨x10,hx10,h⟩:=bs h
  refine WM.one 11 (by kernel_rfl) (me rfl (fun _ v Φx D w1 hq hw=>Kn.of Kf.nil (ai2 0 1 rfl rfl) hw) (ee ce.lasts ce.one ce.flat rc Eq rfl rfl rfl rfl rfl (js:=[3]) (Rr:=[ob v15,[pb0],ob v11]) rfl h1 h15.rsl hx10) rfl ?_)
  rintro v16 Φ_16 D6 ⟨⟨ap10,fr15⟩,h16⟩
  replace h14:=fr15 _ _ ((ap10.q 1 rfl) _ (by simp)) h14
  refine amm 1 [12,2] [0,1] rfl rfl ?_
  refine on1 13 (ms1 0 rfl nk EL rfl h16.one ?_)
  refine WM.nil (by kernel_rfl) ?_
  exact wo [2,0] [0,0] (K (_,_,_,_,_,_,_,_,_) ⟨h,h16,h14⟩)
 refine WT.skip ?_
 exact wo [0,0] [0,0] (K (_,_,_,_,_,_,_,_,_) ⟨h,h1,h3⟩)
theorem sg (w0:av Ψ Φ [[pb0]].flatten) (p0:a7) (p1:af) (ph0_0:RSl (RI .u8) 1 Ψ pG0_0 pv0_0 p0.b) (pp0:Φ pb0=some (.cells #[pv0_0,iV p0.i,iV p0.h] 144 (0,0))) (ph1_0:RSl bS 3 Ψ pG1_0 pv1_0 p1.Pats) (ph1_1:RSl bq 11 Ψ pG1_1 pv1_1 p1.Conds) (ph1_2:RSl ep 5 Ψ pG1_2 pv1_2 p1.Acts) {r:af × a7} (h:lH N p0 p1=some r) :
  Calls prog 93 [pQ pb0,.agg [.string p1.Name,iV p1.Sal,pv1_0,pv1_1,pv1_2].toArray].toArray w0.w (be Φ w0.w [[pb0]].flatten (fun Φ' Fs v=>∃ (sr_0_0:Value) (Dr_0_0:List Nat) (sr_0_1:Value) (Gr_0_1:List Nat) (sr_0_2:Value) (Gr_0_2:List Nat) (X:List Nat),v = .agg [.string r.1.Name,iV r.1.Sal,sr_0_0,sr_0_1,sr_0_2].toArray∧Fs=[ob sr_0_0,[pb0],X]∧OSl bS 201 3 Φ' Dr_0_0 sr_0_0 r.1.Pats∧(∀ k∈Dr_0_0,k∈(X++pG1_0))∧RSl bq 11 Φ' Gr_0_1 sr_0_1 r.1.Conds∧(∀ k∈Gr_0_1,k∈(X++pG1_1))∧RSl ep 5 Φ' Gr_0_2 sr_0_2 r.1.Acts∧(∀ k∈Gr_0_2,k∈(X++pG1_2))∧r.2.b=p0.b∧Φ' pb0=some (.cells #[pv0_0,iV r.2.i,iV r.2.h] 144 (0,0)))):=by
 refine eL func93 rfl ntmps93 rfl (L:=[[pb0]]) w0 (fun hF=>?_)
 unfold lH at h
 refine sr<|lbx rfl fun b_1=>lnz p8 rfl fun b_2=>en<|sr ?_
 have rc1:RC cL 3 Φ ([]:List (List Nat)) [] ([]:List au):=RC.nil _ _ _
 refine le' (aV (vs:=[]) (C:=#[]) cL.lasts qF iU rfl rfl rfl rfl (ag Fx (ac)) rfl rc1 rfl (by simpa using Kw.nil)) rfl ?_
 rintro v1 Φ_1 D1 ⟨fr1,h1⟩
 replace h1:OSl cL 201 3 Φ_1 [] v1 ([]:List au):=by simpa [List.append_assoc] using h1
 replace pp0:=fr1 _ _ (by simp) pp0
 refine WL.conv (S':=St w0 Φ_1 [(b_2,.cells #[.string (⟨#[]⟩:ByteArray),iV 0,.slice none 0 0,.slice none 0 0,.slice none 0 0] 87 (0,0)),(b_1,.cells #[.string p1.Name,iV p1.Sal,pv1_0,pv1_1,pv1_2] 87 (0,0))] [[],ob v1,[pb0]]) (fun w1 hw=>hw.addNil)<|arr 2 [2,32] rfl<|lu0 ph1_0 fun h2=>?_
 obtain ⟨x1,hx1,h⟩:=bs h
 replace h1:=h1.gives cL.gives
 refine le' (Ba bS.lasts bS.knows bS.one qF wi rfl rfl rfl rfl rfl (js:=[1]) (Rr:=[[],[pb0]]) rfl h1 h2 (fun ap=>dN) (fun ap=>(ap.o ph1_0.old)) hx1) rfl ?_
 rintro v2 Φ_2 D2 ⟨⟨ap1,fr2⟩,hin1,h3⟩
 replace pp0:=fr2 _ _ ((ap1.q 1 rfl) _ (by simp)) pp0
 refine lf FR rfl rfl rfl<|so1 1 Cx rfl h3.one ?_
 refine arr 5 [] rfl<|kcb [2] h rfl rfl rfl rfl (fun b ap z q=>az N b p0 10 (ph0_0.y z) pp0 q) ?_
 rintro x2 h v3 Φ_3 F1 ⟨ap2,fr3,rfl,rfl,e1,h4⟩
 replace h3:=h3.fr fr3 (ap2.q 0 rfl) (Dj.sub (ap2.o ph1_0.old) (fun k hk=>(by simpa using hin1 k hk:k∈pG1_0)))
 refine art 7 [] rfl<|wt0<|tu ph1_1 fun h5=>tu ph1_2 fun h6=>?_
 refine cut (σ:=Hp × List Nat × (List au) × Value × List Nat × Int × Int × ByteArray × Int × (List cm) × Value × List Nat × (List cI) × Value × List Nat) (fun s=>[(3,pQ b_1),(4,pQ b_2)]) (fun s=>St w0 s.1 [(b_2,.cells #[.string (⟨#[]⟩:ByteArray),iV 0,.slice none 0 0,.slice none 0 0,.slice none 0 0] 87 (0,0)),(b_1,.cells #[.string s.2.2.2.2.2.2.2.1,iV s.2.2.2.2.2.2.2.2.1,s.2.2.2.1,s.2.2.2.2.2.2.2.2.2.2.1,s.2.2.2.2.2.2.2.2.2.2.2.2.2.1] 87 (0,0))] [s.2.1,[pb0],ob s.2.2.2.1]) (fun s=>dR N p0 s.2.2.1 s.2.2.2.2.2.1 s.2.2.2.2.2.2.1 s.2.2.2.2.2.2.2.1 s.2.2.2.2.2.2.2.2.1 s.2.2.2.2.2.2.2.2.2.1 s.2.2.2.2.2.2.2.2.2.2.2.2.1=some r∧(OSl bS 201 3 s.1 s.2.2.2.2.1 s.2.2.2.1 s.2.2.1)∧(∀ k∈s.2.2.2.2.1,k∈(pG1_0++s.2.1))∧(s.1 pb0=some (.cells #[pv0_0,iV s.2.2.2.2.2.1,iV s.2.2.2.2.2.2.1] 144 (0,0)))∧(RSl bq 11 s.1 s.2.2.2.2.2.2.2.2.2.2.2.1 s.2.2.2.2.2.2.2.2.2.2.1 s.2.2.2.2.2.2.2.2.2.1)∧(∀ k∈s.2.2.2.2.2.2.2.2.2.2.2.1,k∈(pG1_1++s.2.1))∧(RSl ep 5 s.1 s.2.2.2.2.2.2.2.2.2.2.2.2.2.2 s.2.2.2.2.2.2.2.2.2.2.2.2.2.1 s.2.2.2.2.2.2.2.2.2.2.2.2.1)∧(∀ k∈s.2.2.2.2.2.2.2.2.2.2.2.2.2.2,k∈(pG1_2++s.2.1))) (fun s hm=>?_) (fun K=>?_)
 ·clear h
  obtain ⟨Φ_4,X1,s1,u1,D4,s2,s3,s4,s5,s6,u2,H1,s7,u3,H2⟩:=s
  obtain ⟨h,k1,i1,k2,k3,i2,k4,i3⟩:=hm
  dsimp only at h k1 i1 k2 k3 i2 k4 i3 ⊢
  unfold dR at h
  refine atr 4 [37] rfl<|soN 0 qG rfl ⟨rfl,rfl,k1.one,k3.one,k4.one,trivial⟩ rfl ?_
  refine en ?_
  refine WT.ret hF (ay.one (bb wW rfl (fun w1 hw=>hw.rgO (i:=0) rfl 0 5 [.string s4,iV s5,u1,u2,u3] rfl) rfl)) (fun w1 hw=>?_)
  cases h
  replace hw:=hw.merge (js:=[0]) (F:=[X1].flatten) rfl (SP.eq (by simp))
  refine aI (js:=[2,1,0]) hw rfl ⟨u1,D4,u2,H1,u3,H2,[X1].flatten,rfl,rfl,k1,(fun k hk=>((List.mem_append.1 (i1 k hk)).elim (fun h=>(List.mem_append.2 (.inr h))) (fun h=>(List.mem_append.2 (.inl (List.mem_flatten.2 ⟨X1,by simp,h⟩)))))),k3,(fun k hk=>((List.mem_append.1 (i2 k hk)).elim (fun h=>(List.mem_append.2 (.inr h))) (fun h=>(List.mem_append.2 (.inl (List.mem_flatten.2 ⟨X1,by simp,h⟩)))))),k4,(fun k hk=>((List.mem_append.1 (i3 k hk)).elim (fun h=>(List.mem_append.2 (.inr h))) (fun h=>(List.mem_append.2 (.inl (List.mem_flatten.2 ⟨X1,by simp,h⟩)))))),rfl,k2⟩
 refine ch h rfl ?_ ?_ <;> intro h
 ·refine atr 2 [] rfl ?_
  have rc2:RC RS 1 Φ_3 ([[],[],[]]:List (List Nat)) [.string (⟨#[]⟩:ByteArray),.string (⟨#[65]⟩:ByteArray),.string (⟨#[120]⟩:ByteArray)] ([(⟨#[]⟩:ByteArray),(⟨#[65]⟩:ByteArray),(⟨#[120]⟩:ByteArray)]:List ByteArray):=RC.cons (c:=[.string (⟨#[]⟩:ByteArray)]) (cells:=[.string (⟨#[65]⟩:ByteArray),.string (⟨#[120]⟩:ByteArray)]) ⟨rfl,rfl⟩ rfl (RC.cons (c:=[.string (⟨#[65]⟩:ByteArray)]) (cells:=[.string (⟨#[120]⟩:ByteArray)]) ⟨rfl,rfl⟩ rfl (RC.cons (c:=[.string (⟨#[120]⟩:ByteArray)]) (cells:=[]) ⟨rfl,rfl⟩ rfl (RC.nil _ _ _)))
  refine le' (aV (vs:=[(0,.string (⟨#[]⟩:ByteArray)),(1,.string (⟨#[65]⟩:ByteArray)),(2,.string (⟨#[120]⟩:ByteArray))]) (C:=#[.string (⟨#[]⟩:ByteArray),.string (⟨#[65]⟩:ByteArray),.string (⟨#[120]⟩:ByteArray)]) RS.lasts dF lQ rfl rfl rfl rfl (ag rk (a8 (C':=[.string (⟨#[]⟩:ByteArray),.string ⟨#[]⟩,.string ⟨#[]⟩]) rfl rfl rfl rfl rfl (a8 (C':=[.string (⟨#[]⟩:ByteArray),.string (⟨#[65]⟩:ByteArray),.string ⟨#[]⟩]) rfl rfl rfl rfl rfl (a8 (C':=[.string (⟨#[]⟩:ByteArray),.string (⟨#[65]⟩:ByteArray),.string (⟨#[120]⟩:ByteArray)]) rfl rfl rfl rfl rfl (ac))))) rfl rc2 rfl (by simpa using Kw.nil)) rfl ?_
  rintro v4 Φ_5 D5 ⟨fr4,h7⟩
  replace h7:OSl RS 9 1 Φ_5 [] v4 ([(⟨#[]⟩:ByteArray),(⟨#[65]⟩:ByteArray),(⟨#[120]⟩:ByteArray)]:List ByteArray):=by simpa using h7
  replace h5:=h5.f0 fr4
  replace h6:=h6.f0 fr4
  replace h3:=h3.f0 fr4
  replace h4:=fr4 _ _ (by simp) h4
  refine kcb [2] h rfl rfl rfl rfl (fun b ap z q=>bA N b (⟨p0.b,x2.2.i,x2.2.h⟩:a7) ([(⟨#[]⟩:ByteArray),(⟨#[65]⟩:ByteArray),(⟨#[120]⟩:ByteArray)]:List ByteArray) (ph0_0.y z) h4 (h7.rsl.x (Dj.app (ap.q 0 rfl) dN)) q) ?_
  rintro x3 h v5 Φ_6 F2 ⟨ap3,fr5,rfl,rfl,e2,h8⟩
  replace h5:=h5.fr fr5 (ap3.o ph1_1.old)
  replace h6:=h6.fr fr5 (ap3.o ph1_2.old)
  replace h3:=h3.fr fr5 (ap3.q 2 rfl) (Dj.sub (ap3.o ph1_0.old) (fun k hk=>(by simpa using hin1 k hk:k∈pG1_0)))
  refine lf xi rfl rfl rfl<|so1 1 xQ rfl rfl ?_
  refine en ?_
  exact wo [2,0,1] [0,0] (K (_,_,_,_,_,_,_,_,_,_,_,_,_,_,_) ⟨h,h3,(fun k hk=>(List.mem_append.2 (.inl ((fun k hk=>(by simpa using hin1 k hk:k∈pG1_0)) k hk)))),h8,h5,(fun k hk=>(List.mem_append.2 (.inl hk))),h6,(fun k hk=>(List.mem_append.2 (.inl hk)))⟩)
 refine att 5 [] rfl ?_
 refine ch h rfl ?_ ?_ <;> intro h
 ·refine atr 2 [] rfl ?_
  have rc3:RC (RI .i64) 1 Φ_3 ([[],[],[]]:List (List Nat)) [iV (-101),iV 101,iV 100] ([(-101),101,100]:List Int):=RC.cons (c:=[iV (-101)]) (cells:=[iV 101,iV 100]) ⟨rfl,rfl⟩ rfl (RC.cons (c:=[iV 101]) (cells:=[iV 100]) ⟨rfl,rfl⟩ rfl (RC.cons (c:=[iV 100]) (cells:=[]) ⟨rfl,rfl⟩ rfl (RC.nil _ _ _)))
  refine le' (aV (vs:=[(0,iV (-101)),(1,iV 101),(2,iV 100)]) (C:=#[iV (-101),iV 101,iV 100]) RI.lasts dQ ou rfl rfl rfl rfl (ag Ee (a8 (C':=[iV (-101),iV 0,iV 0]) rfl rfl rfl rfl rfl (a8 (C':=[iV (-101),iV 101,iV 0]) rfl rfl rfl rfl rfl (a8 (C':=[iV (-101),iV 101,iV 100]) rfl rfl rfl rfl rfl (ac))))) rfl rc3 rfl (by simpa using Kw.nil)) rfl ?_
  rintro v6 Φ_7 D6 ⟨fr6,h9⟩
  replace h9:OSl (RI .i64) 3 1 Φ_7 [] v6 ([(-101),101,100]:List Int):=by simpa using h9
  replace h5:=h5.f0 fr6
  replace h6:=h6.f0 fr6
  replace h3:=h3.f0 fr6
  replace h4:=fr6 _ _ (by simp) h4
  refine kcb [2] h rfl rfl rfl rfl (fun b ap z q=>gA N b (⟨p0.b,x2.2.i,x2.2.h⟩:a7) ([(-101),101,100]:List Int) (ph0_0.y z) h4 (h9.rsl.x (Dj.app (ap.q 0 rfl) dN)) q) ?_
  rintro x4 h v7 Φ_8 F3 ⟨ap4,fr7,rfl,rfl,e3,h10⟩
  replace h5:=h5.fr fr7 (ap4.o ph1_1.old)
  replace h6:=h6.fr fr7 (ap4.o ph1_2.old)
  replace h3:=h3.fr fr7 (ap4.q 2 rfl) (Dj.sub (ap4.o ph1_0.old) (fun k hk=>(by simpa using hin1 k hk:k∈pG1_0)))
  refine lf Ft rfl rfl rfl<|so1 1 tV rfl rfl ?_
  refine en ?_
  exact wo [2,0,1] [0,0] (K (_,_,_,_,_,_,_,_,_,_,_,_,_,_,_) ⟨h,h3,(fun k hk=>(List.mem_append.2 (.inl ((fun k hk=>(by simpa using hin1 k hk:k∈pG1_0)) k hk)))),h10,h5,(fun k hk=>(List.mem_append.2 (.inl hk))),h6,(fun k hk=>(List.mem_append.2 (.inl hk)))⟩)
 refine att 5 [] rfl ?_
 refine ch h rfl ?_ ?_ <;> intro h
 ·refine wm [0,1] [7] rfl<|amm 3 [0,2,1,32,2] [0,1] rfl rfl ?_
  obtain ⟨x5,hx5,h⟩:=bs h
  refine WM.one 3 (by kernel_rfl) (mc rfl (fun _ v Φx D w1 hq hw=>Kn.of Kf.nil (ai2 0 1 rfl rfl) hw) (bo (js:=[1]) (R:=[[],ob v2,[]]) GM rfl rfl (fun w1 hw ap hl=>zC N (bx hw ap hl) (⟨p0.b,x2.2.i,x2.2.h⟩:a7) (ph0_0.y (hw.uo ap)) h4  hx5)) rfl ?_)
  rintro v8 Φ_9 F4 ⟨ap5,fr8,v9,rfl,rfl,h11,e4,h12⟩
  replace h5:=h5.fr fr8 (ap5.o ph1_1.old)
  replace h6:=h6.fr fr8 (ap5.o ph1_2.old)
  replace h3:=h3.fr fr8 (ap5.q 1 rfl) (Dj.sub (ap5.o ph1_0.old) (fun k hk=>(by simpa using hin1 k hk:k∈pG1_0)))
  have rc4:RC cL 3 Φ_9 ([(ob v9++[])]:List (List Nat)) [.string x5.1.Kind,v9,.bool x5.1.Not] ([x5.1]:List au):=RC.cons (c:=[.string x5.1.Kind,v9,.bool x5.1.Not]) (cells:=[]) ⟨v9,rfl,rfl,h11⟩ rfl (RC.nil _ _ _)
  refine WM.one 4 (by kernel_rfl) (me rfl (fun _ v Φx D w1 hq hw=>Kn.of Kf.nil (ai2 0 1 rfl rfl) hw) (aV (vs:=[(0,.agg [.string x5.1.Kind,v9,.bool x5.1.Not].toArray)]) (C:=#[.string x5.1.Kind,v9,.bool x5.1.Not]) cL.lasts qF iU rfl rfl rfl rfl (ag tB (a8 (C':=[.string x5.1.Kind,v9,.bool x5.1.Not]) rfl rfl rfl rfl rfl (ac))) rfl rc4 rfl (RC.kn cL.knows rc4)) rfl ?_)
  rintro v10 Φ_10 D7 ⟨fr9,h13⟩
  replace h13:OSl cL 201 3 Φ_10 ((ob v9++[])) v10 ([x5.1]:List au):=by simpa [List.append_assoc] using h13
  replace h5:=h5.f0 fr9
  replace h6:=h6.f0 fr9
  replace h3:=h3.f0 fr9
  replace h12:=fr9 _ _ (by simp) h12
  refine WM.conv (S':=St w0 Φ_10 [(b_2,.cells #[.string (⟨#[]⟩:ByteArray),iV 0,.slice none 0 0,.slice none 0 0,.slice none 0 0] 87 (0,0)),(b_1,.cells #[.string p1.Name,iV p1.Sal,v2,pv1_1,pv1_2] 87 (0,0))] [((ob v9++[])),ob v10,[pb0],[],ob v2,[]]) (fun w1 hw=>hw.merge (js:=[1]) rfl (SP.eq (by simp [List.append_assoc,fu]))) ?_
  obtain ⟨x6,hx6,h⟩:=bs h
  refine WM.one 5 (by kernel_rfl) (me rfl (fun _ v Φx D w1 hq hw=>Kn.of Kf.nil (ai2 0 1 rfl rfl) hw) (fY bS.lasts bS.one qF wi rfl rfl rfl rfl rfl (js:=[4]) (Rr:=[((ob v9++[])),ob v10,[pb0],[],[]]) rfl h3 (h13.gives cL.gives) (fun ap=>(Dj.sub (ap.o ph1_0.old) (fun k hk=>(by simpa using hin1 k hk:k∈pG1_0)))) (fun ap=>ap.q 0 rfl) hx6) rfl ?_)
  rintro v11 Φ_11 D8 ⟨⟨ap6,fr10⟩,h14⟩
  replace h5:=h5.fr fr10 (ap6.o ph1_1.old)
  replace h6:=h6.fr fr10 (ap6.o ph1_2.old)
  replace h12:=fr10 _ _ ((ap6.q 2 rfl) _ (by simp)) h12
  refine amm 1 [6,2] [0,1] rfl rfl ?_
  refine on1 7 (ms1 1 rfl nk Cx rfl h14.one ?_)
  refine WM.nil (by kernel_rfl)<|wtL [([]++(((ob v9++[])))),ob v11,ob v10,[pb0],[]] (smg [4,1] rfl (SP.eq (by simp [List.append_assoc]))) ?_
  exact wo [0,2,0] [0,0] (K (_,_,_,_,_,_,_,_,_,_,_,_,_,_,_) ⟨h,h14,(fun k hk=>((List.mem_append.1 hk).elim (fun h=>(List.mem_append.2 (.inl ((fun k hk=>(by simpa using hin1 k hk:k∈pG1_0)) k h)))) (fun h=>(List.mem_append.2 (.inr ((fun k hk=>(List.mem_append.2 (.inr hk))) k h)))))),h12,h5,(fun k hk=>(List.mem_append.2 (.inl hk))),h6,(fun k hk=>(List.mem_append.2 (.inl hk)))⟩)
 refine att 5 [] rfl ?_
 refine ch h rfl ?_ ?_ <;> intro h
 ·refine rgn<|le' (sL bq.lasts yA nI rfl rfl) rfl ?_
  rintro v12 Φ_12 D9 ⟨fr11,h15⟩
  replace h5:=h5.f0 fr11
  replace h6:=h6.f0 fr11
  replace h3:=h3.f0 fr11
  replace h4:=fr11 _ _ (by simp) h4
  refine arr 2 [3,32] rfl ?_
  obtain ⟨x7,hx7,h⟩:=bs h
  refine le' (ee bq.lasts bq.one bq.flat yA B8 rfl rfl rfl rfl rfl (js:=[0]) (Rr:=[[],[pb0],ob v2,[]]) rfl h15 h5 hx7) rfl ?_
  rintro v13 Φ_13 D10 ⟨⟨ap7,fr12⟩,h16⟩
  replace h5:=h5.fr fr12 (ap7.o ph1_1.old)
  replace h6:=h6.fr fr12 (ap7.o ph1_2.old)
  replace h3:=h3.fr fr12 (ap7.q 2 rfl) (Dj.sub (ap7.o ph1_0.old) (fun k hk=>(by simpa using hin1 k hk:k∈pG1_0)))
  replace h4:=fr12 _ _ ((ap7.q 1 rfl) _ (by simp)) h4
  refine la rfl<|kcb [2] h rfl rfl rfl rfl (fun b ap z q=>yT N b (⟨p0.b,x2.2.i,x2.2.h⟩:a7) (ph0_0.y z) h4 q) ?_
  rintro x8 h v14 Φ_14 F5 ⟨ap8,fr13,rfl,rfl,e5,h17⟩
  replace h5:=h5.fr fr13 (ap8.o ph1_1.old)
  replace h6:=h6.fr fr13 (ap8.o ph1_2.old)
  replace h3:=h3.fr fr13 (ap8.q 2 rfl) (Dj.sub (ap8.o ph1_0.old) (fun k hk=>(by simpa using hin1 k hk:k∈pG1_0)))
  replace h16:=h16.fr fr13 (ap8.q 0 rfl) dN
  have rc6:RC bq 11 Φ_14 ([[]]:List (List Nat)) [iV x8.1.Op,iV x8.1.L.K,.string x8.1.L.S,iV x8.1.L.V.K,iV x8.1.L.V.N,.string x8.1.L.V.S,iV x8.1.R.K,.string x8.1.R.S,iV x8.1.R.V.K,iV x8.1.R.V.N,.string x8.1.R.V.S] ([x8.1]:List cm):=RC.cons (c:=[iV x8.1.Op,iV x8.1.L.K,.string x8.1.L.S,iV x8.1.L.V.K,iV x8.1.L.V.N,.string x8.1.L.V.S,iV x8.1.R.K,.string x8.1.R.S,iV x8.1.R.V.K,iV x8.1.R.V.N,.string x8.1.R.V.S]) (cells:=[]) ⟨rfl,rfl⟩ rfl (RC.nil _ _ _)
  refine le' (aV (vs:=[(0,.agg [iV x8.1.Op,iV x8.1.L.K,.string x8.1.L.S,iV x8.1.L.V.K,iV x8.1.L.V.N,.string x8.1.L.V.S,iV x8.1.R.K,.string x8.1.R.S,iV x8.1.R.V.K,iV x8.1.R.V.N,.string x8.1.R.V.S].toArray)]) (C:=#[iV x8.1.Op,iV x8.1.L.K,.string x8.1.L.S,iV x8.1.L.V.K,iV x8.1.L.V.N,.string x8.1.L.V.S,iV x8.1.R.K,.string x8.1.R.S,iV x8.1.R.V.K,iV x8.1.R.V.N,.string x8.1.R.V.S]) bq.lasts yA nI rfl rfl rfl rfl (ag A0 (a8 (C':=[iV x8.1.Op,iV x8.1.L.K,.string x8.1.L.S,iV x8.1.L.V.K,iV x8.1.L.V.N,.string x8.1.L.V.S,iV x8.1.R.K,.string x8.1.R.S,iV x8.1.R.V.K,iV x8.1.R.V.N,.string x8.1.R.V.S]) rfl rfl rfl rfl rfl (ac))) rfl rc6 rfl (by simpa using Kw.nil)) rfl ?_
  rintro v15 Φ_15 D11 ⟨fr14,h18⟩
  replace h18:OSl bq 173 11 Φ_15 [] v15 ([x8.1]:List cm):=by simpa using h18
  replace h5:=h5.f0 fr14
  replace h6:=h6.f0 fr14
  replace h3:=h3.f0 fr14
  replace h16:=h16.f0 fr14
  replace h17:=fr14 _ _ (by simp) h17
  obtain ⟨x9,hx9,h⟩:=bs h
  refine le' (ee bq.lasts bq.one bq.flat yA B8 rfl rfl rfl rfl rfl (js:=[2]) (Rr:=[ob v15,[pb0],[],ob v2,[]]) rfl h16 h18.rsl hx9) rfl ?_
  rintro v16 Φ_16 D12 ⟨⟨ap9,fr15⟩,h19⟩
  replace h5:=h5.fr fr15 (ap9.o ph1_1.old)
  replace h6:=h6.fr fr15 (ap9.o ph1_2.old)
  replace h3:=h3.fr fr15 (ap9.q 3 rfl) (Dj.sub (ap9.o ph1_0.old) (fun k hk=>(by simpa using hin1 k hk:k∈pG1_0)))
  replace h17:=fr15 _ _ ((ap9.q 1 rfl) _ (by simp)) h17
  refine lf Al rfl rfl rfl<|so1 1 I5 rfl h19.one ?_
  refine en ?_
  have h20:=h19.rsl
  refine wtL [([]++(ob v16)),ob v15,[pb0],ob v2,[]] (smg [3,0] rfl (SP.eq (by simp [List.append_assoc]))) ?_
  exact wo [0,1,1] [0,0] (K (_,_,_,_,_,_,_,_,_,_,_,_,_,_,_) ⟨h,h3,(fun k hk=>(List.mem_append.2 (.inl ((fun k hk=>(by simpa using hin1 k hk:k∈pG1_0)) k hk)))),h17,h20,(fun k hk=>(List.mem_append.2 (.inr ((fun k hk=>(List.mem_append.2 (.inr hk))) k (zV k hk))))),h6,(fun k hk=>(List.mem_append.2 (.inl hk)))⟩)
 refine att 5 [] rfl ?_
 refine ch h rfl ?_ ?_ <;> intro h
 ·refine rgn ?_
  have rc7:RC fd 5 Φ_3 ([]:List (List Nat)) [] ([]:List cI):=RC.nil _ _ _
  refine le' (aV (vs:=[]) (C:=#[]) fd.lasts xc ot rfl rfl rfl rfl (ag Fk (ac)) rfl rc7 rfl (by simpa using Kw.nil)) rfl ?_
  rintro v17 Φ_17 D13 ⟨fr16,h21⟩
  replace h21:OSl fd 213 5 Φ_17 [] v17 ([]:List cI):=by simpa [List.append_assoc] using h21
  replace h5:=h5.f0 fr16
  replace h6:=h6.f0 fr16
  replace h3:=h3.f0 fr16
  replace h4:=fr16 _ _ (by simp) h4
  refine WL.conv (S':=St w0 Φ_17 [(b_2,.cells #[.string (⟨#[]⟩:ByteArray),iV 0,.slice none 0 0,.slice none 0 0,.slice none 0 0] 87 (0,0)),(b_1,.cells #[.string p1.Name,iV p1.Sal,v2,pv1_1,pv1_2] 87 (0,0))] [[],ob v17,[],[pb0],ob v2,[]]) (fun w1 hw=>hw.addNil)<|arr 2 [4,32] rfl ?_
  obtain ⟨x10,hx10,h⟩:=bs h
  replace h21:=h21.gives fd.gives
  refine le' (Ba ep.lasts ep.knows ep.one xc BH rfl rfl rfl rfl rfl (js:=[1]) (Rr:=[[],[],[pb0],ob v2,[]]) rfl h21 h6 (fun ap=>dN) (fun ap=>(ap.o ph1_2.old)) hx10) rfl ?_
  rintro v18 Φ_18 D14 ⟨⟨ap10,fr17⟩,hin3,h22⟩
  replace h5:=h5.fr fr17 (ap10.o ph1_1.old)
  replace h6:=h6.fr fr17 (ap10.o ph1_2.old)
  replace h3:=h3.fr fr17 (ap10.q 3 rfl) (Dj.sub (ap10.o ph1_0.old) (fun k hk=>(by simpa using hin1 k hk:k∈pG1_0)))
  replace h4:=fr17 _ _ ((ap10.q 2 rfl) _ (by simp)) h4
  refine la rfl<|kcb [3] h rfl rfl rfl rfl (fun b ap z q=>zq N b (⟨p0.b,x2.2.i,x2.2.h⟩:a7) (ph0_0.y z) h4 q) ?_
  rintro x11 h v19 Φ_19 F7 ⟨ap11,fr18,v20,rfl,rfl,h23,e7,h24⟩
  replace h5:=h5.fr fr18 (ap11.o ph1_1.old)
  replace h6:=h6.fr fr18 (ap11.o ph1_2.old)
  replace h3:=h3.fr fr18 (ap11.q 3 rfl) (Dj.sub (ap11.o ph1_0.old) (fun k hk=>(by simpa using hin1 k hk:k∈pG1_0)))
  replace h22:=h22.fr fr18 (ap11.q 0 rfl) (Dj.sub (ap11.o ph1_2.old) (fun k hk=>(by simpa using hin3 k hk:k∈pG1_2)))
  have rc8:RC fd 5 Φ_19 ([(ob v20++[])]:List (List Nat)) [iV x11.1.Kind,.string x11.1.Name,v20,iV x11.1.N,.string x11.1.Undo] ([x11.1]:List cI):=RC.cons (c:=[iV x11.1.Kind,.string x11.1.Name,v20,iV x11.1.N,.string x11.1.Undo]) (cells:=[]) ⟨v20,rfl,rfl,h23⟩ rfl (RC.nil _ _ _)
  refine le' (aV (vs:=[(0,.agg [iV x11.1.Kind,.string x11.1.Name,v20,iV x11.1.N,.string x11.1.Undo].toArray)]) (C:=#[iV x11.1.Kind,.string x11.1.Name,v20,iV x11.1.N,.string x11.1.Undo]) fd.lasts xc ot rfl rfl rfl rfl (ag B4 (a8 (C':=[iV x11.1.Kind,.string x11.1.Name,v20,iV x11.1.N,.string x11.1.Undo]) rfl rfl rfl rfl rfl (ac))) rfl rc8 rfl (RC.kn fd.knows rc8)) rfl ?_
  rintro v21 Φ_20 D16 ⟨fr19,h25⟩
  replace h25:OSl fd 213 5 Φ_20 ((ob v20++[])) v21 ([x11.1]:List cI):=by simpa [List.append_assoc] using h25
  replace h5:=h5.f0 fr19
  replace h6:=h6.f0 fr19
  replace h3:=h3.f0 fr19
  replace h22:=h22.f0 fr19
  replace h24:=fr19 _ _ (by simp) h24
  refine wlL [((ob v20++[])),ob v21,[pb0],ob v18,[],[],ob v2,[]] (smg [1] rfl (SP.eq (by simp [List.append_assoc,fu]))) ?_
  obtain ⟨x12,hx12,h⟩:=bs h
  refine le' (fY ep.lasts ep.one xc BH rfl rfl rfl rfl rfl (js:=[3]) (Rr:=[((ob v20++[])),ob v21,[pb0],[],[],ob v2,[]]) rfl h22 (h25.gives fd.gives) (fun ap=>(Dj.sub (ap.o ph1_2.old) (fun k hk=>(by simpa using hin3 k hk:k∈pG1_2)))) (fun ap=>ap.q 0 rfl) hx12) rfl ?_
  rintro v22 Φ_21 D17 ⟨⟨ap12,fr20⟩,h26⟩
  replace h5:=h5.fr fr20 (ap12.o ph1_1.old)
  replace h6:=h6.fr fr20 (ap12.o ph1_2.old)
  replace h3:=h3.fr fr20 (ap12.q 5 rfl) (Dj.sub (ap12.o ph1_0.old) (fun k hk=>(by simpa using hin1 k hk:k∈pG1_0)))
  replace h24:=fr20 _ _ ((ap12.q 2 rfl) _ (by simp)) h24
  refine lf wk rfl rfl rfl<|so1 1 Fw rfl h26.one ?_
  refine en ?_
  have h27:=h26.rsl
  refine wtL [([]++(ob v22++(((ob v20++[]))))),ob v21,[pb0],[],ob v2,[]] (smg [5,0,0] rfl (SP.eq (by simp [List.append_assoc]))) ?_
  exact wo [0,1,2] [0,0] (K (_,_,_,_,_,_,_,_,_,_,_,_,_,_,_) ⟨h,h3,(fun k hk=>(List.mem_append.2 (.inl ((fun k hk=>(by simpa using hin1 k hk:k∈pG1_0)) k hk)))),h24,h5,(fun k hk=>(List.mem_append.2 (.inl hk))),h27,(fun k hk=>((List.mem_append.1 hk).elim (fun h=>(List.mem_append.2 (.inr ((fun k hk=>(List.mem_append.2 (.inr (List.mem_append.2 (.inl hk))))) k h)))) (fun h=>((List.mem_append.1 h).elim (fun h=>(List.mem_append.2 (.inl ((fun k hk=>(by simpa using hin3 k hk:k∈pG1_2)) k h)))) (fun h=>(List.mem_append.2 (.inr ((fun k hk=>(List.mem_append.2 (.inr (List.mem_append.2 (.inr hk))))) k h))))))))⟩)
 refine att 5 [] rfl ?_
 refine ch h rfl ?_ ?_ <;> intro h
 ·refine atr 3 [2,32] rfl ?_
  obtain ⟨x13,hx13,h⟩:=bs h
  obtain ⟨cs1,F9,D18,h28,r1,kf1,sp1⟩:=h3.focus hx13
  obtain ⟨v23,G1,rfl,hq1,h29⟩:=r1
  obtain rfl:=hq1.symm
  refine lih h28 hx13 rfl<|lf lz rfl rfl rfl<|lu (us [2] [[],[pb0],[]] 2 bS.lasts Ll rfl rfl rfl rfl h28 rfl (fun ap=>(Dj.sub (Dj.sub (ap.o ph1_0.old) (fun k hk=>(by simpa using hin1 k hk:k∈pG1_0))) (fun k hk=>sp1.mem (List.mem_append.2 (.inr hk)))))) rfl ?_
  rintro Φ_22 D19 ⟨⟨ap13,fr21⟩,h30⟩
  replace h29:=h29.fr fr21 (Dj.sub (ap13.o ph1_0.old) (fun k h=>(fun k hk=>(by simpa using hin1 k hk:k∈pG1_0)) k (sp1.mem (List.mem_append.2 (.inl h)))))
  replace h5:=h5.fr fr21 (ap13.o ph1_1.old)
  replace h6:=h6.fr fr21 (ap13.o ph1_2.old)
  replace h4:=fr21 _ _ ((ap13.q 1 rfl) _ (by simp)) h4
  refine en ?_
  have r2:bS Φ_22 _ [.string x13.Kind,v23,.bool true] (⟨x13.Kind,x13.Args,true⟩:au):=⟨v23,G1,rfl,rfl,h29⟩
  obtain ⟨D20,h31,sp2⟩:=h30.unfocus r2 (bS.knows _ _ _ _ r2)
  exact wo [1,1,0] [0,0] (K (_,_,_,_,_,_,_,_,_,_,_,_,_,_,_) ⟨h,h31,(fun k hk=>((List.mem_append.1 ((fun k hk=>(by simpa [List.append_assoc] using sp2.mem hk:k∈(G1++D18))) k hk)).elim (fun h=>(List.mem_append.2 (.inl ((fun k h=>(fun k hk=>(by simpa using hin1 k hk:k∈pG1_0)) k (sp1.mem (List.mem_append.2 (.inl h)))) k h)))) (fun h=>(List.mem_append.2 (.inl ((fun k hk=>(fun k hk=>(by simpa using hin1 k hk:k∈pG1_0)) k (sp1.mem (List.mem_append.2 (.inr hk)))) k h)))))),h4,h5,(fun k hk=>(List.mem_append.2 (.inl hk))),h6,(fun k hk=>(List.mem_append.2 (.inl hk)))⟩)
 refine att 5 [] rfl ?_
 refine ch h rfl ?_ ?_ <;> intro h
 ·refine atr 3 [4,32] rfl ?_
  obtain ⟨x14,hx14,h⟩:=bs h
  refine lq (AH xc rfl rfl h6 hx14) rfl ?_
  obtain ⟨F10,h32,hs1⟩:=h6.sub hx14
  refine lf wk rfl rfl rfl<|so1 1 Fw rfl h32.one ?_
  refine en ?_
  exact wo [0,0,0] [0,0] (K (_,_,_,_,_,_,_,_,_,_,_,_,_,_,_) ⟨h,h3,(fun k hk=>(List.mem_append.2 (.inl ((fun k hk=>(by simpa using hin1 k hk:k∈pG1_0)) k hk)))),h4,h5,(fun k hk=>(List.mem_append.2 (.inl hk))),h32,(fun k hk=>(List.mem_append.2 (.inl (hs1 k hk))))⟩)
 refine WT.skip ?_
 exact wo [0,0,0] [0,0] (K (_,_,_,_,_,_,_,_,_,_,_,_,_,_,_) ⟨h,h3,(fun k hk=>(List.mem_append.2 (.inl ((fun k hk=>(by simpa using hin1 k hk:k∈pG1_0)) k hk)))),h4,h5,(fun k hk=>(List.mem_append.2 (.inl hk))),h6,(fun k hk=>(List.mem_append.2 (.inl hk)))⟩)
theorem zB (w0:av Ψ Φ [[pb0]].flatten) (p0:a7) (ph0_0:RSl (RI .u8) 1 Ψ pG0_0 pv0_0 p0.b) (pp0:Φ pb0=some (.cells #[pv0_0,iV p0.i,iV p0.h] 144 (0,0))) {r:af × a7} (h:pi N p0=some r) :
  Calls prog 92 [pQ pb0].toArray w0.w (be Φ w0.w [[pb0]].flatten (fun Φ' Fs v=>∃ (sr_0_0:Value) (Dr_0_0:List Nat) (sr_0_1:Value) (Gr_0_1:List Nat) (sr_0_2:Value) (Gr_0_2:List Nat) (X:List Nat),v = .agg [.string r.1.Name,iV r.1.Sal,sr_0_0,sr_0_1,sr_0_2].toArray∧Fs=[ob sr_0_0,[pb0],X]∧OSl bS 201 3 Φ' Dr_0_0 sr_0_0 r.1.Pats∧(∀ k∈Dr_0_0,k∈X)∧RSl bq 11 Φ' Gr_0_1 sr_0_1 r.1.Conds∧(∀ k∈Gr_0_1,k∈X)∧RSl ep 5 Φ' Gr_0_2 sr_0_2 r.1.Acts∧(∀ k∈Gr_0_2,k∈X)∧r.2.b=p0.b∧Φ' pb0=some (.cells #[pv0_0,iV r.2.i,iV r.2.h] 144 (0,0)))):=by
 refine eL func92 rfl ntmps92 rfl (L:=[[pb0]]) w0 (fun hF=>?_)
 unfold pi at h
 refine sr<|lnz p8 rfl fun b_1=>arr 5 [] rfl ?_
 have rc1:RC RS 1 Φ ([[],[],[]]:List (List Nat)) [.string (⟨#[114,49]⟩:ByteArray),.string (⟨#[114,50]⟩:ByteArray),.string (⟨#[115,104,105,112]⟩:ByteArray)] ([(⟨#[114,49]⟩:ByteArray),(⟨#[114,50]⟩:ByteArray),(⟨#[115,104,105,112]⟩:ByteArray)]:List ByteArray):=RC.cons (c:=[.string (⟨#[114,49]⟩:ByteArray)]) (cells:=[.string (⟨#[114,50]⟩:ByteArray),.string (⟨#[115,104,105,112]⟩:ByteArray)]) ⟨rfl,rfl⟩ rfl (RC.cons (c:=[.string (⟨#[114,50]⟩:ByteArray)]) (cells:=[.string (⟨#[115,104,105,112]⟩:ByteArray)]) ⟨rfl,rfl⟩ rfl (RC.cons (c:=[.string (⟨#[115,104,105,112]⟩:ByteArray)]) (cells:=[]) ⟨rfl,rfl⟩ rfl (RC.nil _ _ _)))
 refine le' (aV (vs:=[(0,.string (⟨#[114,49]⟩:ByteArray)),(1,.string (⟨#[114,50]⟩:ByteArray)),(2,.string (⟨#[115,104,105,112]⟩:ByteArray))]) (C:=#[.string (⟨#[114,49]⟩:ByteArray),.string (⟨#[114,50]⟩:ByteArray),.string (⟨#[115,104,105,112]⟩:ByteArray)]) RS.lasts dF lQ rfl rfl rfl rfl (ag rk (a8 (C':=[.string (⟨#[114,49]⟩:ByteArray),.string ⟨#[]⟩,.string ⟨#[]⟩]) rfl rfl rfl rfl rfl (a8 (C':=[.string (⟨#[114,49]⟩:ByteArray),.string (⟨#[114,50]⟩:ByteArray),.string ⟨#[]⟩]) rfl rfl rfl rfl rfl (a8 (C':=[.string (⟨#[114,49]⟩:ByteArray),.string (⟨#[114,50]⟩:ByteArray),.string (⟨#[115,104,105,112]⟩:ByteArray)]) rfl rfl rfl rfl rfl (ac))))) rfl rc1 rfl (by simpa using Kw.nil)) rfl ?_
 rintro v1 Φ_1 D1 ⟨fr1,h1⟩
 replace h1:OSl RS 9 1 Φ_1 [] v1 ([(⟨#[114,49]⟩:ByteArray),(⟨#[114,50]⟩:ByteArray),(⟨#[115,104,105,112]⟩:ByteArray)]:List ByteArray):=by simpa using h1
 replace pp0:=fr1 _ _ (by simp) pp0
 refine kcb [1] h rfl rfl rfl rfl (fun b ap z q=>bA N b p0 ([(⟨#[114,49]⟩:ByteArray),(⟨#[114,50]⟩:ByteArray),(⟨#[115,104,105,112]⟩:ByteArray)]:List ByteArray) (ph0_0.y z) pp0 (h1.rsl.x (Dj.app (ap.q 0 rfl) dN)) q) ?_
 rintro x1 h v2 Φ_2 F1 ⟨ap1,fr2,rfl,rfl,e1,h2⟩
 refine kcb [0] h rfl rfl rfl rfl (fun b ap z q=>sj N b (⟨p0.b,x1.2.i,x1.2.h⟩:a7) x1.1 (ph0_0.y z) h2 q) ?_
 rintro x2 h v3 Φ_3 F2 ⟨ap2,fr3,v4,D2,v5,v6,D3,rfl,rfl,h3,h4,h5,e2,h6⟩
 refine lnz p8 rfl fun b_2=>soN 0 qG rfl ⟨rfl,rfl,h3.one,h4.one,h5.one,trivial⟩ rfl ?_
 refine arr 5 [] rfl<|kcb [5] h rfl rfl rfl rfl (fun b ap z q=>cJ N b (⟨p0.b,x2.2.i,x2.2.h⟩:a7) 3 (ph0_0.y z) h6 q) ?_
 rintro x3 h v7 Φ_4 F3 ⟨ap3,fr4,rfl,rfl,e3,h7⟩
 replace h3:=h3.fr fr4 (ap3.q 0 rfl) (ap3.q 1 rfl)
 replace h4:=h4.fr fr4 (ap3.q 2 rfl) dN
 replace h5:=h5.fr fr4 (ap3.q 3 rfl) (ap3.q 4 rfl)
 refine en<|wt0 ?_
 have h8:=h4.rsl
 have h9:=(h5.rslG fd.gives)
 replace h3:=h3.gives cL.gives
 refine cut (σ:=Hp × List Nat × (List au) × Value × List Nat × Int × Int × ByteArray × Int × (List cm) × Value × List Nat × (List cI) × Value × List Nat) (fun s=>[(2,pQ b_1),(3,pQ b_2)]) (fun s=>St w0 s.1 [(b_2,.cells #[.string s.2.2.2.2.2.2.2.1,iV s.2.2.2.2.2.2.2.2.1,s.2.2.2.1,s.2.2.2.2.2.2.2.2.2.2.1,s.2.2.2.2.2.2.2.2.2.2.2.2.2.1] 87 (0,0)),(b_1,.cells #[.string (⟨#[]⟩:ByteArray),iV 0,.slice none 0 0,.slice none 0 0,.slice none 0 0] 87 (0,0))] [s.2.1,[pb0],ob s.2.2.2.1,D2,ob v5,ob v6,D3]) (fun s=>nh N p0 s.2.2.1 s.2.2.2.2.2.1 s.2.2.2.2.2.2.1 s.2.2.2.2.2.2.2.1 s.2.2.2.2.2.2.2.2.1 s.2.2.2.2.2.2.2.2.2.1 s.2.2.2.2.2.2.2.2.2.2.2.2.1=some r∧(OSl bS 201 3 s.1 s.2.2.2.2.1 s.2.2.2.1 s.2.2.1)∧(∀ k∈s.2.2.2.2.1,k∈(D2++s.2.1))∧(s.1 pb0=some (.cells #[pv0_0,iV s.2.2.2.2.2.1,iV s.2.2.2.2.2.2.1] 144 (0,0)))∧(RSl bq 11 s.1 s.2.2.2.2.2.2.2.2.2.2.2.1 s.2.2.2.2.2.2.2.2.2.2.1 s.2.2.2.2.2.2.2.2.2.1)∧(∀ k∈s.2.2.2.2.2.2.2.2.2.2.2.1,k∈(ob v5++s.2.1))∧(RSl ep 5 s.1 s.2.2.2.2.2.2.2.2.2.2.2.2.2.2 s.2.2.2.2.2.2.2.2.2.2.2.2.2.1 s.2.2.2.2.2.2.2.2.2.2.2.2.1)∧(∀ k∈s.2.2.2.2.2.2.2.2.2.2.2.2.2.2,k∈(ob v6++(D3++s.2.1)))) (fun s hm=>?_) (fun K=>?_)
 ·clear h
  obtain ⟨Φ_5,X1,s1,u1,D4,s2,s3,s4,s5,s6,u2,H1,s7,u3,H2⟩:=s
  obtain ⟨h,k1,i1,k2,k3,i2,k4,i3⟩:=hm
  dsimp only at h k1 i1 k2 k3 i2 k4 i3 ⊢
  unfold nh at h
  refine atr 3 [5] rfl<|soN 1 qG rfl ⟨rfl,rfl,k1.one,k3.one,k4.one,trivial⟩ rfl ?_
  refine en ?_
  refine WT.ret hF (ay.one (bb wW rfl (fun w1 hw=>hw.rgO (i:=1) rfl 0 5 [.string s4,iV s5,u1,u2,u3] rfl) rfl)) (fun w1 hw=>?_)
  cases h
  replace hw:=hw.merge (js:=[3,0,2,2,2]) (F:=[D2,X1,ob v5,ob v6,D3].flatten) rfl (SP.eq (by simp))
  refine aI (js:=[2,1,0]) hw rfl ⟨u1,D4,u2,H1,u3,H2,[D2,X1,ob v5,ob v6,D3].flatten,rfl,rfl,k1,(fun k hk=>((List.mem_append.1 (i1 k hk)).elim (fun h=>(List.mem_flatten.2 ⟨D2,by simp,h⟩)) (fun h=>(List.mem_flatten.2 ⟨X1,by simp,h⟩)))),k3,(fun k hk=>((List.mem_append.1 (i2 k hk)).elim (fun h=>(List.mem_flatten.2 ⟨ob v5,by simp,h⟩)) (fun h=>(List.mem_flatten.2 ⟨X1,by simp,h⟩)))),k4,(fun k hk=>((List.mem_append.1 (i3 k hk)).elim (fun h=>(List.mem_flatten.2 ⟨ob v6,by simp,h⟩)) (fun h=>((List.mem_append.1 h).elim (fun h=>(List.mem_flatten.2 ⟨D3,by simp,h⟩)) (fun h=>(List.mem_flatten.2 ⟨X1,by simp,h⟩)))))),rfl,k2⟩
 refine ch h rfl ?_ ?_ <;> intro h
 ·refine atr 3 [5] rfl<|kcb [1] h rfl rfl rfl rfl (fun b ap z q=>sg N b (⟨p0.b,x3.2.i,x3.2.h⟩:a7) x2.1 (ph0_0.y z) h7 (h3.rsl.x (Dj.app (ap.q 1 rfl) (ap.q 2 rfl))) (h8.x (Dj.sub (ap.q 3 rfl) zV)) (h9.x (Dj.app (ap.q 4 rfl) (ap.q 5 rfl))) q) ?_
  rintro x4 h v8 Φ_6 F6 ⟨ap4,fr5,v9,D5,v10,G1,v11,G2,X2,rfl,rfl,h10,i4,h11,i5,h12,i6,e6,h13⟩
  replace h8:=h8.fr fr5 (Dj.sub (ap4.q 3 rfl) zV)
  replace h9:=h9.fr fr5 (Dj.app (ap4.q 4 rfl) (ap4.q 5 rfl))
  replace h3:=h3.fr fr5 (ap4.q 1 rfl) (ap4.q 2 rfl)
  refine soN 0 qG rfl ⟨rfl,rfl,h10.one,h11.one,h12.one,trivial⟩ rfl ?_
  refine en<|wtL [([]++(X2++(ob v4))),ob v9,[pb0],D2,ob v5,ob v6,D3,ob v1] (smg [3,2,2] rfl (SP.eq (by simp [List.append_assoc]))) ?_
  exact wo [0,1,0,0,0,0,0] [0,0] (K (_,_,_,_,_,_,_,_,_,_,_,_,_,_,_) ⟨h,h10,(fun k hk=>((List.mem_append.1 (i4 k hk)).elim (fun h=>(List.mem_append.2 (.inr ((fun k hk=>(List.mem_append.2 (.inr (List.mem_append.2 (.inl hk))))) k h)))) (fun h=>((List.mem_append.1 h).elim (fun h=>(List.mem_append.2 (.inr ((fun k hk=>(List.mem_append.2 (.inr (List.mem_append.2 (.inr hk))))) k h)))) (fun h=>(List.mem_append.2 (.inl h))))))),h13,h11,(fun k hk=>((List.mem_append.1 (i5 k hk)).elim (fun h=>(List.mem_append.2 (.inr ((fun k hk=>(List.mem_append.2 (.inr (List.mem_append.2 (.inl hk))))) k h)))) (fun h=>(List.mem_append.2 (.inl (zV k h)))))),h12,(fun k hk=>((List.mem_append.1 (i6 k hk)).elim (fun h=>(List.mem_append.2 (.inr (List.mem_append.2 (.inr ((fun k hk=>(List.mem_append.2 (.inr (List.mem_append.2 (.inl hk))))) k h)))))) (fun h=>((List.mem_append.1 h).elim (fun h=>(List.mem_append.2 (.inl h))) (fun h=>(List.mem_append.2 (.inr (List.mem_append.2 (.inl h)))))))))⟩)
 refine WT.skip ?_
 exact wo [0,0,0,0,0,0,0] [0,0] (K (_,_,_,_,_,_,_,_,_,_,_,_,_,_,_) ⟨h,h3,(fun k hk=>(List.mem_append.2 (.inl hk))),h7,h8,(fun k hk=>(List.mem_append.2 (.inl (zV k hk)))),h9,(fun k hk=>((List.mem_append.1 hk).elim (fun h=>(List.mem_append.2 (.inl h))) (fun h=>(List.mem_append.2 (.inr (List.mem_append.2 (.inl h)))))))⟩)
theorem xp (w0:av Ψ Φ [[pb0]].flatten) (p0:a7) (ph0_0:RSl (RI .u8) 1 Ψ pG0_0 pv0_0 p0.b) (pp0:Φ pb0=some (.cells #[pv0_0,iV p0.i,iV p0.h] 144 (0,0))) {r:bP × a7} (h:nT N p0=some r) :
  Calls prog 38 [pQ pb0].toArray w0.w (be Φ w0.w [[pb0]].flatten (fun Φ' Fs v=>∃ (sr_0_0:Value) (Dr_0_0:List Nat) (X:List Nat),v = .agg [.string r.1.Name,sr_0_0].toArray∧Fs=[ob sr_0_0,[pb0],X]∧OSl cD 87 5 Φ' Dr_0_0 sr_0_0 r.1.Rules∧(∀ k∈Dr_0_0,k∈X)∧r.2.b=p0.b∧Φ' pb0=some (.cells #[pv0_0,iV r.2.i,iV r.2.h] 144 (0,0)))):=by
 refine eL func38 rfl ntmps38 rfl (L:=[[pb0]]) w0 (fun hF=>?_)
 unfold nT at h
 refine sr<|lnz uO rfl fun b_1=>arr 4 [] rfl<|kcb [0] h rfl rfl rfl rfl (fun b ap z q=>rB N b p0 (ph0_0.y z) pp0 q) ?_
 rintro x1 h v1 Φ_1 F1 ⟨ap1,fr1,v2,D1,rfl,rfl,h1,e1,h2⟩
 refine lnz uO rfl fun b_2=>soN 0 vd rfl ⟨rfl,h1.one,trivial⟩ rfl ?_
 refine arr 5 [] rfl<|kcb [2] h rfl rfl rfl rfl (fun b ap z q=>az N b (⟨p0.b,x1.2.i,x1.2.h⟩:a7) 10 (ph0_0.y z) h2 q) ?_
 rintro x2 h v3 Φ_2 F2 ⟨ap2,fr2,rfl,rfl,e2,h3⟩
 replace h1:=h1.fr fr2 (ap2.q 0 rfl) (ap2.q 1 rfl)
 refine art 7 [] rfl<|wt0 ?_
 replace h1:=h1.gives fA.gives
 refine cut (σ:=Hp × List Nat × (List af) × Value × List Nat × Int × Int × ByteArray) (fun s=>[(2,pQ b_1),(3,pQ b_2)]) (fun s=>St w0 s.1 [(b_2,.cells #[.string s.2.2.2.2.2.2.2,s.2.2.2.1] 26 (0,0)),(b_1,.cells #[.string (⟨#[]⟩:ByteArray),.slice none 0 0] 26 (0,0))] [s.2.1,[pb0],ob s.2.2.2.1,D1]) (fun s=>gN N p0 s.2.2.1 s.2.2.2.2.2.1 s.2.2.2.2.2.2.1 s.2.2.2.2.2.2.2=some r∧(OSl cD 87 5 s.1 s.2.2.2.2.1 s.2.2.2.1 s.2.2.1)∧(∀ k∈s.2.2.2.2.1,k∈(D1++s.2.1))∧(s.1 pb0=some (.cells #[pv0_0,iV s.2.2.2.2.2.1,iV s.2.2.2.2.2.2.1] 144 (0,0)))) (fun s hm=>?_) (fun K=>?_)
 ·clear h
  obtain ⟨Φ_3,X1,s1,u1,D2,s2,s3,s4⟩:=s
  obtain ⟨h,k1,i1,k2⟩:=hm
  dsimp only at h k1 i1 k2 ⊢
  unfold gN at h
  refine atr 4 [2] rfl<|soN 1 vd rfl ⟨rfl,k1.one,trivial⟩ rfl ?_
  refine en ?_
  refine WT.ret hF (ay.one (bb y5 rfl (fun w1 hw=>hw.rgO (i:=1) rfl 0 2 [.string s4,u1] rfl) rfl)) (fun w1 hw=>?_)
  cases h
  replace hw:=hw.merge (js:=[3,0]) (F:=[D1,X1].flatten) rfl (SP.eq (by simp))
  refine aI (js:=[2,1,0]) hw rfl ⟨u1,D2,[D1,X1].flatten,rfl,rfl,k1,(fun k hk=>((List.mem_append.1 (i1 k hk)).elim (fun h=>(List.mem_flatten.2 ⟨D1,by simp,h⟩)) (fun h=>(List.mem_flatten.2 ⟨X1,by simp,h⟩)))),rfl,k2⟩
 refine ch h rfl ?_ ?_ <;> intro h
 ·refine atr 2 [] rfl ?_
  have rc1:RC RS 1 Φ_2 ([[],[]]:List (List Nat)) [.string (⟨#[]⟩:ByteArray),.string (⟨#[65]⟩:ByteArray)] ([(⟨#[]⟩:ByteArray),(⟨#[65]⟩:ByteArray)]:List ByteArray):=RC.cons (c:=[.string (⟨#[]⟩:ByteArray)]) (cells:=[.string (⟨#[65]⟩:ByteArray)]) ⟨rfl,rfl⟩ rfl (RC.cons (c:=[.string (⟨#[65]⟩:ByteArray)]) (cells:=[]) ⟨rfl,rfl⟩ rfl (RC.nil _ _ _))
  refine le' (aV (vs:=[(0,.string (⟨#[]⟩:ByteArray)),(1,.string (⟨#[65]⟩:ByteArray))]) (C:=#[.string (⟨#[]⟩:ByteArray),.string (⟨#[65]⟩:ByteArray)]) RS.lasts dF lQ rfl rfl rfl rfl (ag ux (a8 (C':=[.string (⟨#[]⟩:ByteArray),.string ⟨#[]⟩]) rfl rfl rfl rfl rfl (a8 (C':=[.string (⟨#[]⟩:ByteArray),.string (⟨#[65]⟩:ByteArray)]) rfl rfl rfl rfl rfl (ac)))) rfl rc1 rfl (by simpa using Kw.nil)) rfl ?_
  rintro v4 Φ_4 D3 ⟨fr3,h4⟩
  replace h4:OSl RS 9 1 Φ_4 [] v4 ([(⟨#[]⟩:ByteArray),(⟨#[65]⟩:ByteArray)]:List ByteArray):=by simpa using h4
  replace h1:=h1.f0 fr3
  replace h3:=fr3 _ _ (by simp) h3
  refine kcb [2] h rfl rfl rfl rfl (fun b ap z q=>bA N b (⟨p0.b,x2.2.i,x2.2.h⟩:a7) ([(⟨#[]⟩:ByteArray),(⟨#[65]⟩:ByteArray)]:List ByteArray) (ph0_0.y z) h3 (h4.rsl.x (Dj.app (ap.q 0 rfl) dN)) q) ?_
  rintro x3 h v5 Φ_5 F3 ⟨ap3,fr4,rfl,rfl,e3,h5⟩
  replace h1:=h1.fr fr4 (ap3.q 2 rfl) (ap3.q 3 rfl)
  refine lf EJ rfl rfl rfl<|so1 0 xQ rfl rfl ?_
  refine en ?_
  exact wo [2,0,1,1] [0,0] (K (_,_,_,_,_,_,_,_) ⟨h,h1,(fun k hk=>(List.mem_append.2 (.inl hk))),h5⟩)
 refine att 5 [] rfl ?_
 refine ch h rfl ?_ ?_ <;> intro h
 ·refine wm [0,1] [7] rfl<|amm 3 [0,1,1,0,2] [0,1] rfl rfl ?_
  obtain ⟨x4,hx4,h⟩:=bs h
  refine WM.one 3 (by kernel_rfl) (mc rfl (fun _ v Φx D w1 hq hw=>Kn.of Kf.nil (ai2 0 1 rfl rfl) hw) (bo (js:=[1]) (R:=[[],ob v2,D1]) IF rfl rfl (fun w1 hw ap hl=>zB N (bx hw ap hl) (⟨p0.b,x2.2.i,x2.2.h⟩:a7) (ph0_0.y (hw.uo ap)) h3  hx4)) rfl ?_)
  rintro v6 Φ_6 F4 ⟨ap4,fr5,v7,D4,v8,G1,v9,G2,X2,rfl,rfl,h6,i2,h7,i3,h8,i4,e4,h9⟩
  replace h1:=h1.fr fr5 (ap4.q 1 rfl) (ap4.q 2 rfl)
  have rc2:RC cD 5 Φ_6 ([(ob v7++D4)++(G1++(G2))]:List (List Nat)) [.string x4.1.Name,iV x4.1.Sal,v7,v8,v9] ([x4.1]:List af):=RC.cons (c:=[.string x4.1.Name,iV x4.1.Sal,v7,v8,v9]) (cells:=[]) ⟨v7,(ob v7++D4),v8,G1,v9,G2,rfl,rfl,h6.rsl,h7,h8⟩ rfl (RC.nil _ _ _)
  refine WM.one 4 (by kernel_rfl) (me rfl (fun _ v Φx D w1 hq hw=>Kn.of Kf.nil (ai2 0 1 rfl rfl) hw) (aV (vs:=[(0,.agg [.string x4.1.Name,iV x4.1.Sal,v7,v8,v9].toArray)]) (C:=#[.string x4.1.Name,iV x4.1.Sal,v7,v8,v9]) cD.lasts sH p8 rfl rfl rfl rfl (ag Cd (a8 (C':=[.string x4.1.Name,iV x4.1.Sal,v7,v8,v9]) rfl rfl rfl rfl rfl (ac))) rfl rc2 rfl (RC.kn cD.knows rc2)) rfl ?_)
  rintro v10 Φ_7 D5 ⟨fr6,h10⟩
  replace h10:OSl cD 87 5 Φ_7 ((ob v7++D4)++(G1++(G2))) v10 ([x4.1]:List af):=by simpa [List.append_assoc] using h10
  replace h1:=h1.f0 fr6
  replace h9:=fr6 _ _ (by simp) h9
  obtain ⟨x6,hx5,h⟩:=bs h
  refine WM.one 5 (by kernel_rfl) (me rfl (fun _ v Φx D w1 hq hw=>Kn.of Kf.nil (ai2 0 1 rfl rfl) hw) (fY cD.lasts cD.one sH Ig rfl rfl rfl rfl rfl (js:=[5]) (Rr:=[ob v10,ob v7,[pb0],X2,[],D1]) rfl h1 h10 (fun ap=>ap.q 5 rfl) (fun ap=>(Dj.sub (Dj.app (Dj.app (ap.q 1 rfl) (Dj.sub (ap.q 3 rfl) i2)) (Dj.app (Dj.sub (ap.q 3 rfl) i3) (Dj.sub (ap.q 3 rfl) i4))) (fun k hk=>(by simpa [List.append_assoc] using hk:k∈((ob v7++D4)++(G1++G2)))))) hx5) rfl ?_)
  rintro v11 Φ_8 D6 ⟨⟨ap5,fr7⟩,h11⟩
  replace h9:=fr7 _ _ ((ap5.q 2 rfl) _ (by simp)) h9
  refine amm 1 [6,1] [0,1] rfl rfl ?_
  refine on1 7 (ms1 0 rfl nk FD rfl h11.one ?_)
  refine WM.nil (by kernel_rfl)<|wtL [([]++(ob v7++(X2))),ob v11,ob v10,[pb0],D1] (smg [5,2,3] rfl (SP.eq (by simp [List.append_assoc]))) ?_
  exact wo [0,2,0,1] [0,0] (K (_,_,_,_,_,_,_,_) ⟨h,h11,(fun k hk=>((List.mem_append.1 hk).elim (fun h=>(List.mem_append.2 (.inl h))) (fun h=>((List.mem_append.1 ((fun k hk=>(by simpa [List.append_assoc] using hk:k∈((ob v7++D4)++(G1++G2)))) k h)).elim (fun h=>((List.mem_append.1 h).elim (fun h=>(List.mem_append.2 (.inr ((fun k hk=>(List.mem_append.2 (.inr (List.mem_append.2 (.inl hk))))) k h)))) (fun h=>(List.mem_append.2 (.inr ((fun k hk=>(List.mem_append.2 (.inr (List.mem_append.2 (.inr hk))))) k (i2 k h))))))) (fun h=>((List.mem_append.1 h).elim (fun h=>(List.mem_append.2 (.inr ((fun k hk=>(List.mem_append.2 (.inr (List.mem_append.2 (.inr hk))))) k (i3 k h))))) (fun h=>(List.mem_append.2 (.inr ((fun k hk=>(List.mem_append.2 (.inr (List.mem_append.2 (.inr hk))))) k (i4 k h))))))))))),h9⟩)
 refine att 5 [] rfl ?_
 refine ch h rfl ?_ ?_ <;> intro h
 ·refine WT.mix (Kn w0 Φ_2 (ob v2) [(b_2,.cells #[.string x1.1.Name,v2] 26 (0,0)),(b_1,.cells #[.string (⟨#[]⟩:ByteArray),.slice none 0 0] 26 (0,0))]) (fun i=>match i with | 9=>false | _=>true) mixed (fun _ h=>h.drew)<|mq 0 rfl (by kernel_rfl) (kn Kf.id (ai2 0 1 rfl rfl)) (aK pI rfl) rfl<|mq 1 rfl (by kernel_rfl) (kn Kf.id (ai2 0 1 rfl rfl)) (cz CE rfl (fun w1 hw=>hw.rgO (i:=0) rfl 1 1 [v2] rfl)) rfl<|ma 2 rfl (by kernel_rfl) (kn Kf.id (ai2 0 1 rfl rfl)) rfl<|mq 3 rfl (by kernel_rfl) (kn Kf.id (ai2 0 1 rfl rfl)) (aK pI rfl) rfl ?_
  refine mq 4 rfl (by kernel_rfl) (kn Kf.id (ai2 0 1 rfl rfl)) (cz CE rfl (fun w1 hw=>hw.rgO (i:=0) rfl 1 1 [v2] rfl)) rfl ?_
  obtain ⟨x7,hx6,h⟩:=bs h
  obtain ⟨cs1,F5,-,g1,hb1,hs1,r1⟩:=h1.elS (ab hx6).2.2
  obtain ⟨v12,G3,v13,G4,v14,G5,rfl,rfl,h12,h13,h14⟩:=r1
  refine mq 5 rfl (by kernel_rfl) (kn Kf.id (ai2 0 1 rfl rfl)) (aw sH rfl rfl h1.rsl hx6) rfl<|mq 6 rfl (by kernel_rfl) (kn Kf.id (ai2 0 1 rfl rfl)) (aG wW rfl (fun w1 hw=>hw.rg hb1 (g1.of_eq 0 5 rfl rfl:rg _ _ _ [.string x7.Name,iV x7.Sal,v12,v13,v14])) rfl) rfl ?_
  obtain ⟨x8,hx7,h⟩:=bs h
  refine WM.one 7 (by kernel_rfl) (mc rfl (fun _ v Φx D w1 hq hw=>Kn.of (Kf.id.st hq.2.1 (hq.1.r (i:=1) rfl)) (ai2 0 1 rfl rfl) hw) (bo (js:=[1]) (R:=[[],ob v2,D1]) JO rfl rfl (fun w1 hw ap hl=>sg N (bx hw ap hl) (⟨p0.b,x2.2.i,x2.2.h⟩:a7) x7 (ph0_0.y (hw.uo ap)) h3 (h12.x (Dj.sub (ap.q 2 rfl) (fun k h=>hs1 k (List.mem_append.2 (.inl h))))) (h13.x (Dj.sub (ap.q 2 rfl) (fun k h=>hs1 k (List.mem_append.2 (.inr (List.mem_append.2 (.inl h))))))) (h14.x (Dj.sub (ap.q 2 rfl) (fun k h=>hs1 k (List.mem_append.2 (.inr (List.mem_append.2 (.inr h)))))))  hx7)) rfl ?_)
  rintro v15 Φ_9 F6 ⟨ap6,fr8,v16,D7,v17,G6,v18,G7,X3,rfl,rfl,h15,i5,h16,i6,h17,i7,e5,h18⟩
  replace h1:=h1.fr fr8 (ap6.q 1 rfl) (ap6.q 2 rfl)
  obtain ⟨x10,hx8,h⟩:=bs h
  obtain ⟨cs2,F7,-,g2,hb2,hs2,r2⟩:=h1.elS (ab hx8).2.2
  obtain ⟨v19,G8,v20,G9,v21,G10,rfl,rfl,h19,h20,h21⟩:=r2
  have kf1:=(Kf.id (F:=(ob v2)):Kf Φ_2 _ _).st fr8 (ap6.q 1 rfl)
  refine mq 8 rfl (by kernel_rfl) (kn kf1 (ai2 0 1 rfl rfl)) (aw sH rfl rfl h1.rsl hx8) rfl ?_
  have h23:=h15.rsl
  have r3:cD Φ_9 ((ob v16++D7)++(G6++(G7))) [.string x8.1.Name,iV x8.1.Sal,v16,v17,v18] x8.1:=⟨v16,(ob v16++D7),v17,G6,v18,G7,rfl,rfl,h23,h16,h17⟩
  refine WM.one 9 (by kernel_rfl) (mu rfl (fun hc=>by cases hc) (IU (js:=[4]) (Rr:=[ob v16,[pb0],X3,[],D1]) (vs:=[.string x8.1.Name,iV x8.1.Sal,v16,v17,v18]) (x':=x8.1) cD.lasts qG rfl rfl rfl rfl ⟨rfl,rfl,h23.one,h16.one,h17.one,trivial⟩ rfl h1 (xd hx8) r3 (cD.knows _ _ _ _ r3) (fun ap=>ap.q 4 rfl) (fun ap=>by simpa using (Dj.app (Dj.app (ap.q 0 rfl) (Dj.sub (Dj.app (ap.q 2 rfl) (Dj.sub (ap.q 4 rfl) (fun k h=>hs1 k (List.mem_append.2 (.inl h))))) i5)) (Dj.app (Dj.sub (Dj.app (ap.q 2 rfl) (Dj.sub (ap.q 4 rfl) (fun k h=>hs1 k (List.mem_append.2 (.inr (List.mem_append.2 (.inl h))))))) i6) (Dj.sub (Dj.app (ap.q 2 rfl) (Dj.sub (ap.q 4 rfl) (fun k h=>hs1 k (List.mem_append.2 (.inr (List.mem_append.2 (.inr h))))))) i7))))) rfl ?_)
  rintro Φ_10 D8 ⟨⟨ap7,fr9⟩,sp1,h22⟩
  replace h18:=fr9 _ _ ((ap7.q 1 rfl) _ (by simp)) h18
  refine WM.nil (by kernel_rfl)<|wtL [([]++(ob v16++(X3))),ob v2,[pb0],D1] (smg [4,1,2] rfl (SP.eq (by simp [List.append_assoc]))) ?_
  exact wo [0,1,0,0] [0,0] (K (_,_,_,_,_,_,_,_) ⟨h,h22,(fun k hk=>((List.mem_append.1 ((fun k hk=>(by simpa [List.append_assoc] using sp1.mem hk:k∈(D1++((ob v16++D7)++(G6++G7))))) k hk)).elim (fun h=>(List.mem_append.2 (.inl h))) (fun h=>((List.mem_append.1 h).elim (fun h=>((List.mem_append.1 h).elim (fun h=>(List.mem_append.2 (.inr ((fun k hk=>(List.mem_append.2 (.inr (List.mem_append.2 (.inl hk))))) k h)))) (fun h=>((List.mem_append.1 (i5 k h)).elim (fun h=>(List.mem_append.2 (.inr ((fun k hk=>(List.mem_append.2 (.inr (List.mem_append.2 (.inr hk))))) k h)))) (fun h=>(List.mem_append.2 (.inl ((fun k h=>hs1 k (List.mem_append.2 (.inl h))) k h)))))))) (fun h=>((List.mem_append.1 h).elim (fun h=>((List.mem_append.1 (i6 k h)).elim (fun h=>(List.mem_append.2 (.inr ((fun k hk=>(List.mem_append.2 (.inr (List.mem_append.2 (.inr hk))))) k h)))) (fun h=>(List.mem_append.2 (.inl ((fun k h=>hs1 k (List.mem_append.2 (.inr (List.mem_append.2 (.inl h))))) k h)))))) (fun h=>((List.mem_append.1 (i7 k h)).elim (fun h=>(List.mem_append.2 (.inr ((fun k hk=>(List.mem_append.2 (.inr (List.mem_append.2 (.inr hk))))) k h)))) (fun h=>(List.mem_append.2 (.inl ((fun k h=>hs1 k (List.mem_append.2 (.inr (List.mem_append.2 (.inr h))))) k h)))))))))))),h18⟩)
 refine att 5 [] rfl ?_
 refine ch h rfl ?_ ?_ <;> intro h
 ·refine atr 3 [1,0] rfl ?_
  obtain ⟨x11,hx9,h⟩:=bs h
  refine lq (AH sH rfl rfl h1.rsl hx9) rfl ?_
  obtain ⟨D9,h24,sp2,e7⟩:=h1.pre hx9
  refine WL.conv (S':=St w0 Φ_2 [(b_2,.cells #[.string x1.1.Name,v2] 26 (0,0)),(b_1,.cells #[.string (⟨#[]⟩:ByteArray),.slice none 0 0] 26 (0,0))] [[],[pb0],ob (slc v2 0 (0:Int).toNat 5),D1]) (fun w1 hw=>by first | simpa only [e7,List.cons_append,List.nil_append] using hw | (simp only [e7]; exact hw))<|lf pI rfl rfl rfl<|so1 0 FD rfl h24.one ?_
  refine en ?_
  exact wo [0,0,0,0] [0,0] (K (_,_,_,_,_,_,_,_) ⟨h,h24,(fun k hk=>(List.mem_append.2 (.inl ((fun k h=>sp2.mem h) k hk)))),h3⟩)
 refine WT.skip ?_
 exact wo [0,0,0,0] [0,0] (K (_,_,_,_,_,_,_,_) ⟨h,h1,(fun k hk=>(List.mem_append.2 (.inl hk))),h3⟩)
theorem rZ (w0:av Ψ Φ [[pb0]].flatten) (p0:a7) (ph0_0:RSl (RI .u8) 1 Ψ pG0_0 pv0_0 p0.b) (pp0:Φ pb0=some (.cells #[pv0_0,iV p0.i,iV p0.h] 144 (0,0))) {r:aN × a7} (h:lK N p0=some r) :
  Calls prog 159 [pQ pb0].toArray w0.w (be Φ w0.w [[pb0]].flatten (fun Φ' Fs v=>v = .agg [iV r.1.K,iV r.1.N,.string r.1.S].toArray∧Fs=[[pb0]]∧r.2.b=p0.b∧Φ' pb0=some (.cells #[pv0_0,iV r.2.i,iV r.2.h] 144 (0,0)))):=by
 refine eL func159 rfl ntmps159 rfl (L:=[[pb0]]) w0 (fun hF=>?_)
 unfold lK at h
 refine sr<|lnz gF rfl fun b_1=>arr 5 [] rfl<|kcb [0] h rfl rfl rfl rfl (fun b ap z q=>cJ N b p0 2 (ph0_0.y z) pp0 q) ?_
 rintro x1 h v1 Φ_1 F1 ⟨ap1,fr1,rfl,rfl,e1,h1⟩
 refine en ?_
 refine ch h rfl ?_ ?_ <;> intro h
 ·refine sr<|la rfl ?_
  have rc1:RC (RI .i64) 1 Φ_1 ([[],[],[],[],[],[],[]]:List (List Nat)) [iV 0,iV 1,iV 2,iV 3,iV (-1),iV 1000000000,iV (-1000000000)] ([0,1,2,3,(-1),1000000000,(-1000000000)]:List Int):=RC.cons (c:=[iV 0]) (cells:=[iV 1,iV 2,iV 3,iV (-1),iV 1000000000,iV (-1000000000)]) ⟨rfl,rfl⟩ rfl (RC.cons (c:=[iV 1]) (cells:=[iV 2,iV 3,iV (-1),iV 1000000000,iV (-1000000000)]) ⟨rfl,rfl⟩ rfl (RC.cons (c:=[iV 2]) (cells:=[iV 3,iV (-1),iV 1000000000,iV (-1000000000)]) ⟨rfl,rfl⟩ rfl (RC.cons (c:=[iV 3]) (cells:=[iV (-1),iV 1000000000,iV (-1000000000)]) ⟨rfl,rfl⟩ rfl (RC.cons (c:=[iV (-1)]) (cells:=[iV 1000000000,iV (-1000000000)]) ⟨rfl,rfl⟩ rfl (RC.cons (c:=[iV 1000000000]) (cells:=[iV (-1000000000)]) ⟨rfl,rfl⟩ rfl (RC.cons (c:=[iV (-1000000000)]) (cells:=[]) ⟨rfl,rfl⟩ rfl (RC.nil _ _ _)))))))
  refine le' (aV (vs:=[(0,iV 0),(1,iV 1),(2,iV 2),(3,iV 3),(4,iV (-1)),(5,iV 1000000000),(6,iV (-1000000000))]) (C:=#[iV 0,iV 1,iV 2,iV 3,iV (-1),iV 1000000000,iV (-1000000000)]) RI.lasts dQ ou rfl rfl rfl rfl (ag IT (a8 (C':=[iV 0,iV 0,iV 0,iV 0,iV 0,iV 0,iV 0]) rfl rfl rfl rfl rfl (a8 (C':=[iV 0,iV 1,iV 0,iV 0,iV 0,iV 0,iV 0]) rfl rfl rfl rfl rfl (a8 (C':=[iV 0,iV 1,iV 2,iV 0,iV 0,iV 0,iV 0]) rfl rfl rfl rfl rfl (a8 (C':=[iV 0,iV 1,iV 2,iV 3,iV 0,iV 0,iV 0]) rfl rfl rfl rfl rfl (a8 (C':=[iV 0,iV 1,iV 2,iV 3,iV (-1),iV 0,iV 0]) rfl rfl rfl rfl rfl (a8 (C':=[iV 0,iV 1,iV 2,iV 3,iV (-1),iV 1000000000,iV 0]) rfl rfl rfl rfl rfl (a8 (C':=[iV 0,iV 1,iV 2,iV 3,iV (-1),iV 1000000000,iV (-1000000000)]) rfl rfl rfl rfl rfl (ac))))))))) rfl rc1 rfl (by simpa using Kw.nil)) rfl ?_
  rintro v2 Φ_2 D1 ⟨fr2,h2⟩
  replace h2:OSl (RI .i64) 3 1 Φ_2 [] v2 ([0,1,2,3,(-1),1000000000,(-1000000000)]:List Int):=by simpa using h2
  replace h1:=fr2 _ _ (by simp) h1
  refine kcb [1] h rfl rfl rfl rfl (fun b ap z q=>gA N b (⟨p0.b,x1.2.i,x1.2.h⟩:a7) ([0,1,2,3,(-1),1000000000,(-1000000000)]:List Int) (ph0_0.y z) h1 (h2.rsl.x (Dj.app (ap.q 0 rfl) dN)) q) ?_
  rintro x2 h v3 Φ_3 F2 ⟨ap2,fr3,rfl,rfl,e2,h3⟩
  refine lq (bz (vs:=[(0,iV 1),(1,iV x2.1)]) (C:=#[iV 1,iV x2.1,.string (⟨#[]⟩:ByteArray)]) qY gF rfl (a8 (C':=[iV 1,iV 0,.string ⟨#[]⟩]) rfl rfl rfl rfl rfl (a8 (C':=[iV 1,iV x2.1,.string ⟨#[]⟩]) rfl rfl rfl rfl rfl (ac)))) rfl<|soN 0 mW rfl ⟨rfl,rfl,rfl,trivial⟩ rfl ?_
  refine en ?_
  exact rtg [0] hF (ay.one (bb mV rfl (fun w1 hw=>hw.rgO (i:=0) rfl 0 3 [iV 1,iV x2.1,.string (⟨#[]⟩:ByteArray)] rfl) rfl)) rfl (by cases h; exact fun w1 hw=>⟨rfl,rfl,rfl,h3⟩)
 refine atr 4 [] rfl ?_
 have rc2:RC RS 1 Φ_1 ([[],[],[],[],[]]:List (List Nat)) [.string (⟨#[]⟩:ByteArray),.string (⟨#[97]⟩:ByteArray),.string (⟨#[98]⟩:ByteArray),.string (⟨#[112,97,105,100]⟩:ByteArray),.string (⟨#[120,95,49]⟩:ByteArray)] ([(⟨#[]⟩:ByteArray),(⟨#[97]⟩:ByteArray),(⟨#[98]⟩:ByteArray),(⟨#[112,97,105,100]⟩:ByteArray),(⟨#[120,95,49]⟩:ByteArray)]:List ByteArray):=RC.cons (c:=[.string (⟨#[]⟩:ByteArray)]) (cells:=[.string (⟨#[97]⟩:ByteArray),.string (⟨#[98]⟩:ByteArray),.string (⟨#[112,97,105,100]⟩:ByteArray),.string (⟨#[120,95,49]⟩:ByteArray)]) ⟨rfl,rfl⟩ rfl (RC.cons (c:=[.string (⟨#[97]⟩:ByteArray)]) (cells:=[.string (⟨#[98]⟩:ByteArray),.string (⟨#[112,97,105,100]⟩:ByteArray),.string (⟨#[120,95,49]⟩:ByteArray)]) ⟨rfl,rfl⟩ rfl (RC.cons (c:=[.string (⟨#[98]⟩:ByteArray)]) (cells:=[.string (⟨#[112,97,105,100]⟩:ByteArray),.string (⟨#[120,95,49]⟩:ByteArray)]) ⟨rfl,rfl⟩ rfl (RC.cons (c:=[.string (⟨#[112,97,105,100]⟩:ByteArray)]) (cells:=[.string (⟨#[120,95,49]⟩:ByteArray)]) ⟨rfl,rfl⟩ rfl (RC.cons (c:=[.string (⟨#[120,95,49]⟩:ByteArray)]) (cells:=[]) ⟨rfl,rfl⟩ rfl (RC.nil _ _ _)))))
 refine le' (aV (vs:=[(0,.string (⟨#[]⟩:ByteArray)),(1,.string (⟨#[97]⟩:ByteArray)),(2,.string (⟨#[98]⟩:ByteArray)),(3,.string (⟨#[112,97,105,100]⟩:ByteArray)),(4,.string (⟨#[120,95,49]⟩:ByteArray))]) (C:=#[.string (⟨#[]⟩:ByteArray),.string (⟨#[97]⟩:ByteArray),.string (⟨#[98]⟩:ByteArray),.string (⟨#[112,97,105,100]⟩:ByteArray),.string (⟨#[120,95,49]⟩:ByteArray)]) RS.lasts dF lQ rfl rfl rfl rfl (ag FG (a8 (C':=[.string (⟨#[]⟩:ByteArray),.string ⟨#[]⟩,.string ⟨#[]⟩,.string ⟨#[]⟩,.string ⟨#[]⟩]) rfl rfl rfl rfl rfl (a8 (C':=[.string (⟨#[]⟩:ByteArray),.string (⟨#[97]⟩:ByteArray),.string ⟨#[]⟩,.string ⟨#[]⟩,.string ⟨#[]⟩]) rfl rfl rfl rfl rfl (a8 (C':=[.string (⟨#[]⟩:ByteArray),.string (⟨#[97]⟩:ByteArray),.string (⟨#[98]⟩:ByteArray),.string ⟨#[]⟩,.string ⟨#[]⟩]) rfl rfl rfl rfl rfl (a8 (C':=[.string (⟨#[]⟩:ByteArray),.string (⟨#[97]⟩:ByteArray),.string (⟨#[98]⟩:ByteArray),.string (⟨#[112,97,105,100]⟩:ByteArray),.string ⟨#[]⟩]) rfl rfl rfl rfl rfl (a8 (C':=[.string (⟨#[]⟩:ByteArray),.string (⟨#[97]⟩:ByteArray),.string (⟨#[98]⟩:ByteArray),.string (⟨#[112,97,105,100]⟩:ByteArray),.string (⟨#[120,95,49]⟩:ByteArray)]) rfl rfl rfl rfl rfl (ac))))))) rfl rc2 rfl (by simpa using Kw.nil)) rfl ?_
 rintro v4 Φ_4 D2 ⟨fr4,h4⟩
 replace h4:OSl RS 9 1 Φ_4 [] v4 ([(⟨#[]⟩:ByteArray),(⟨#[97]⟩:ByteArray),(⟨#[98]⟩:ByteArray),(⟨#[112,97,105,100]⟩:ByteArray),(⟨#[120,95,49]⟩:ByteArray)]:List ByteArray):=by simpa using h4
 replace h1:=fr4 _ _ (by simp) h1
 refine kcb [1] h rfl rfl rfl rfl (fun b ap z q=>bA N b (⟨p0.b,x1.2.i,x1.2.h⟩:a7) ([(⟨#[]⟩:ByteArray),(⟨#[97]⟩:ByteArray),(⟨#[98]⟩:ByteArray),(⟨#[112,97,105,100]⟩:ByteArray),(⟨#[120,95,49]⟩:ByteArray)]:List ByteArray) (ph0_0.y z) h1 (h4.rsl.x (Dj.app (ap.q 0 rfl) dN)) q) ?_
 rintro x3 h v5 Φ_5 F3 ⟨ap3,fr5,rfl,rfl,e3,h5⟩
 refine lq (bz (vs:=[(0,iV 2),(2,.string x3.1)]) (C:=#[iV 2,iV 0,.string x3.1]) qY gF rfl (a8 (C':=[iV 2,iV 0,.string ⟨#[]⟩]) rfl rfl rfl rfl rfl (a8 (C':=[iV 2,iV 0,.string x3.1]) rfl rfl rfl rfl rfl (ac)))) rfl<|soN 0 mW rfl ⟨rfl,rfl,rfl,trivial⟩ rfl ?_
 refine en ?_
 exact rtg [0] hF (ay.one (bb mV rfl (fun w1 hw=>hw.rgO (i:=0) rfl 0 3 [iV 2,iV 0,.string x3.1] rfl) rfl)) rfl (by cases h; exact fun w1 hw=>⟨rfl,rfl,rfl,h5⟩)
theorem zt (w0:av Ψ Φ [[pb0]].flatten) (p0:a7) (ph0_0:RSl (RI .u8) 1 Ψ pG0_0 pv0_0 p0.b) (pp0:Φ pb0=some (.cells #[pv0_0,iV p0.i,iV p0.h] 144 (0,0))) {r:aN × a7} (h:p7 N p0=some r) :
  Calls prog 158 [pQ pb0].toArray w0.w (be Φ w0.w [[pb0]].flatten (fun Φ' Fs v=>v = .agg [iV r.1.K,iV r.1.N,.string r.1.S].toArray∧Fs=[[pb0]]∧r.2.b=p0.b∧Φ' pb0=some (.cells #[pv0_0,iV r.2.i,iV r.2.h] 144 (0,0)))):=by
 refine eL func158 rfl ntmps158 rfl (L:=[[pb0]]) w0 (fun hF=>?_)
 unfold p7 at h
 refine sr<|lnz gF rfl fun b_1=>arr 4 [] rfl<|kcb [0] h rfl rfl rfl rfl (fun b ap z q=>rZ N b p0 (ph0_0.y z) pp0 q) ?_
 rintro x1 h v1 Φ_1 F1 ⟨ap1,fr1,rfl,rfl,e1,h1⟩
 refine lnz gF rfl fun b_2=>soN 0 mW rfl ⟨rfl,rfl,rfl,trivial⟩ rfl ?_
 refine arr 5 [] rfl<|kcb [0] h rfl rfl rfl rfl (fun b ap z q=>az N b (⟨p0.b,x1.2.i,x1.2.h⟩:a7) 10 (ph0_0.y z) h1 q) ?_
 rintro x2 h v2 Φ_2 F2 ⟨ap2,fr2,rfl,rfl,e2,h2⟩
 refine art 7 [] rfl ?_
 refine cut (σ:=Hp × Int × Int × Int × Int × ByteArray) (fun s=>[(2,pQ b_1),(3,pQ b_2)]) (fun s=>St w0 s.1 [(b_2,.cells #[iV s.2.2.2.1,iV s.2.2.2.2.1,.string s.2.2.2.2.2] 95 (0,0)),(b_1,.cells #[iV 0,iV 0,.string (⟨#[]⟩:ByteArray)] 95 (0,0))] [[pb0]]) (fun s=>jq N p0 s.2.1 s.2.2.1 s.2.2.2.1 s.2.2.2.2.1 s.2.2.2.2.2=some r∧(s.1 pb0=some (.cells #[pv0_0,iV s.2.1,iV s.2.2.1] 144 (0,0)))) (fun s hm=>?_) (fun K=>?_)
 ·clear h
  obtain ⟨Φ_3,s1,s2,s3,s4,s5⟩:=s
  obtain ⟨h,k1⟩:=hm
  dsimp only at h k1 ⊢
  unfold jq at h
  refine atr 4 [3] rfl<|soN 1 mW rfl ⟨rfl,rfl,rfl,trivial⟩ rfl ?_
  refine en ?_
  exact rtg [0] hF (ay.one (bb mV rfl (fun w1 hw=>hw.rgO (i:=1) rfl 0 3 [iV s3,iV s4,.string s5] rfl) rfl)) rfl (by cases h; exact fun w1 hw=>⟨rfl,rfl,rfl,k1⟩)
 refine ch h rfl ?_ ?_ <;> intro h
 ·refine atr 2 [] rfl<|kcb [0] h rfl rfl rfl rfl (fun b ap z q=>az N b (⟨p0.b,x2.2.i,x2.2.h⟩:a7) 4 (ph0_0.y z) h2 q) ?_
  rintro x3 h v3 Φ_4 F3 ⟨ap3,fr3,rfl,rfl,e3,h3⟩
  refine lf FY rfl rfl rfl<|so1 0 tV rfl rfl ?_
  refine en ?_
  exact wo [0] [0,0] (K (_,_,_,_,_,_) ⟨h,h3⟩)
 refine att 5 [] rfl ?_
 refine ch h rfl ?_ ?_ <;> intro h
 ·refine atr 2 [] rfl ?_
  have rc1:RC (RI .i64) 1 Φ_2 ([[],[]]:List (List Nat)) [iV 1000000001,iV 5] ([1000000001,5]:List Int):=RC.cons (c:=[iV 1000000001]) (cells:=[iV 5]) ⟨rfl,rfl⟩ rfl (RC.cons (c:=[iV 5]) (cells:=[]) ⟨rfl,rfl⟩ rfl (RC.nil _ _ _))
  refine le' (aV (vs:=[(0,iV 1000000001),(1,iV 5)]) (C:=#[iV 1000000001,iV 5]) RI.lasts dQ ou rfl rfl rfl rfl (ag BZ (a8 (C':=[iV 1000000001,iV 0]) rfl rfl rfl rfl rfl (a8 (C':=[iV 1000000001,iV 5]) rfl rfl rfl rfl rfl (ac)))) rfl rc1 rfl (by simpa using Kw.nil)) rfl ?_
  rintro v4 Φ_5 D1 ⟨fr4,h4⟩
  replace h4:OSl (RI .i64) 3 1 Φ_5 [] v4 ([1000000001,5]:List Int):=by simpa using h4
  replace h2:=fr4 _ _ (by simp) h2
  refine kcb [1] h rfl rfl rfl rfl (fun b ap z q=>gA N b (⟨p0.b,x2.2.i,x2.2.h⟩:a7) ([1000000001,5]:List Int) (ph0_0.y z) h2 (h4.rsl.x (Dj.app (ap.q 0 rfl) dN)) q) ?_
  rintro x4 h v5 Φ_6 F4 ⟨ap4,fr5,rfl,rfl,e4,h5⟩
  refine lf Er rfl rfl rfl<|so1 0 tV rfl rfl ?_
  refine en ?_
  exact wo [0] [0,0] (K (_,_,_,_,_,_) ⟨h,h5⟩)
 refine att 5 [] rfl ?_
 refine ch h rfl ?_ ?_ <;> intro h
 ·refine atr 2 [] rfl ?_
  have rc2:RC RS 1 Φ_2 ([[],[],[],[]]:List (List Nat)) [.string (⟨#[65]⟩:ByteArray),.string (⟨#[97,32,98]⟩:ByteArray),.string (⟨#[116,119,101,110,116,121,111,110,101,98,121,116,101,115,116,119,101,110,116,121,111]⟩:ByteArray),.string (⟨#[120]⟩:ByteArray)] ([(⟨#[65]⟩:ByteArray),(⟨#[97,32,98]⟩:ByteArray),(⟨#[116,119,101,110,116,121,111,110,101,98,121,116,101,115,116,119,101,110,116,121,111]⟩:ByteArray),(⟨#[120]⟩:ByteArray)]:List ByteArray):=RC.cons (c:=[.string (⟨#[65]⟩:ByteArray)]) (cells:=[.string (⟨#[97,32,98]⟩:ByteArray),.string (⟨#[116,119,101,110,116,121,111,110,101,98,121,116,101,115,116,119,101,110,116,121,111]⟩:ByteArray),.string (⟨#[120]⟩:ByteArray)]) ⟨rfl,rfl⟩ rfl (RC.cons (c:=[.string (⟨#[97,32,98]⟩:ByteArray)]) (cells:=[.string (⟨#[116,119,101,110,116,121,111,110,101,98,121,116,101,115,116,119,101,110,116,121,111]⟩:ByteArray),.string (⟨#[120]⟩:ByteArray)]) ⟨rfl,rfl⟩ rfl (RC.cons (c:=[.string (⟨#[116,119,101,110,116,121,111,110,101,98,121,116,101,115,116,119,101,110,116,121,111]⟩:ByteArray)]) (cells:=[.string (⟨#[120]⟩:ByteArray)]) ⟨rfl,rfl⟩ rfl (RC.cons (c:=[.string (⟨#[120]⟩:ByteArray)]) (cells:=[]) ⟨rfl,rfl⟩ rfl (RC.nil _ _ _))))
  refine le' (aV (vs:=[(0,.string (⟨#[65]⟩:ByteArray)),(1,.string (⟨#[97,32,98]⟩:ByteArray)),(2,.string (⟨#[116,119,101,110,116,121,111,110,101,98,121,116,101,115,116,119,101,110,116,121,111]⟩:ByteArray)),(3,.string (⟨#[120]⟩:ByteArray))]) (C:=#[.string (⟨#[65]⟩:ByteArray),.string (⟨#[97,32,98]⟩:ByteArray),.string (⟨#[116,119,101,110,116,121,111,110,101,98,121,116,101,115,116,119,101,110,116,121,111]⟩:ByteArray),.string (⟨#[120]⟩:ByteArray)]) RS.lasts dF lQ rfl rfl rfl rfl (ag ut (a8 (C':=[.string (⟨#[65]⟩:ByteArray),.string ⟨#[]⟩,.string ⟨#[]⟩,.string ⟨#[]⟩]) rfl rfl rfl rfl rfl (a8 (C':=[.string (⟨#[65]⟩:ByteArray),.string (⟨#[97,32,98]⟩:ByteArray),.string ⟨#[]⟩,.string ⟨#[]⟩]) rfl rfl rfl rfl rfl (a8 (C':=[.string (⟨#[65]⟩:ByteArray),.string (⟨#[97,32,98]⟩:ByteArray),.string (⟨#[116,119,101,110,116,121,111,110,101,98,121,116,101,115,116,119,101,110,116,121,111]⟩:ByteArray),.string ⟨#[]⟩]) rfl rfl rfl rfl rfl (a8 (C':=[.string (⟨#[65]⟩:ByteArray),.string (⟨#[97,32,98]⟩:ByteArray),.string (⟨#[116,119,101,110,116,121,111,110,101,98,121,116,101,115,116,119,101,110,116,121,111]⟩:ByteArray),.string (⟨#[120]⟩:ByteArray)]) rfl rfl rfl rfl rfl (ac)))))) rfl rc2 rfl (by simpa using Kw.nil)) rfl ?_
  rintro v6 Φ_7 D2 ⟨fr6,h6⟩
  replace h6:OSl RS 9 1 Φ_7 [] v6 ([(⟨#[65]⟩:ByteArray),(⟨#[97,32,98]⟩:ByteArray),(⟨#[116,119,101,110,116,121,111,110,101,98,121,116,101,115,116,119,101,110,116,121,111]⟩:ByteArray),(⟨#[120]⟩:ByteArray)]:List ByteArray):=by simpa using h6
  replace h2:=fr6 _ _ (by simp) h2
  refine kcb [1] h rfl rfl rfl rfl (fun b ap z q=>bA N b (⟨p0.b,x2.2.i,x2.2.h⟩:a7) ([(⟨#[65]⟩:ByteArray),(⟨#[97,32,98]⟩:ByteArray),(⟨#[116,119,101,110,116,121,111,110,101,98,121,116,101,115,116,119,101,110,116,121,111]⟩:ByteArray),(⟨#[120]⟩:ByteArray)]:List ByteArray) (ph0_0.y z) h2 (h6.rsl.x (Dj.app (ap.q 0 rfl) dN)) q) ?_
  rintro x5 h v7 Φ_8 F5 ⟨ap5,fr7,rfl,rfl,e5,h7⟩
  refine lf Eb rfl rfl rfl<|so1 0 xQ rfl rfl ?_
  refine en ?_
  exact wo [0] [0,0] (K (_,_,_,_,_,_) ⟨h,h7⟩)
 refine WT.skip ?_
 exact wo [0] [0,0] (K (_,_,_,_,_,_) ⟨h,h2⟩)
theorem yV (w0:av Ψ Φ [[pb0]].flatten) (p0:a7) (ph0_0:RSl (RI .u8) 1 Ψ pG0_0 pv0_0 p0.b) (pp0:Φ pb0=some (.cells #[pv0_0,iV p0.i,iV p0.h] 144 (0,0))) {r:aL × a7} (h:pC N p0=some r) :
  Calls prog 95 [pQ pb0].toArray w0.w (be Φ w0.w [[pb0]].flatten (fun Φ' Fs v=>∃ (sr_0_0:Value),v = .agg [.string r.1.Kind,sr_0_0].toArray∧Fs=[ob sr_0_0,[pb0]]∧OSl aP 95 3 Φ' [] sr_0_0 r.1.Fields∧r.2.b=p0.b∧Φ' pb0=some (.cells #[pv0_0,iV r.2.i,iV r.2.h] 144 (0,0)))):=by
 refine eL func95 rfl ntmps95 rfl (L:=[[pb0]]) w0 (fun hF=>?_)
 unfold pC at h
 refine sr<|lnz ox rfl fun b_1=>arr 4 [] rfl<|kcb [0] h rfl rfl rfl rfl (fun b ap z q=>rV N b p0 (ph0_0.y z) pp0 q) ?_
 rintro x1 h v1 Φ_1 F1 ⟨ap1,fr1,v2,rfl,rfl,h1,e1,h2⟩
 refine lnz ox rfl fun b_2=>soN 0 qO rfl ⟨rfl,h1.one,trivial⟩ rfl ?_
 refine arr 5 [] rfl<|kcb [1] h rfl rfl rfl rfl (fun b ap z q=>az N b (⟨p0.b,x1.2.i,x1.2.h⟩:a7) 10 (ph0_0.y z) h2 q) ?_
 rintro x2 h v3 Φ_2 F2 ⟨ap2,fr2,rfl,rfl,e2,h3⟩
 replace h1:=h1.fr fr2 (ap2.q 0 rfl) dN
 refine art 7 [] rfl ?_
 refine cut (σ:=Hp × (List aN) × Value × Int × Int × ByteArray) (fun s=>[(2,pQ b_1),(3,pQ b_2)]) (fun s=>St w0 s.1 [(b_2,.cells #[.string s.2.2.2.2.2,s.2.2.1] 52 (0,0)),(b_1,.cells #[.string (⟨#[]⟩:ByteArray),.slice none 0 0] 52 (0,0))] [[pb0],ob s.2.2.1]) (fun s=>jz N p0 s.2.1 s.2.2.2.1 s.2.2.2.2.1 s.2.2.2.2.2=some r∧(OSl aP 95 3 s.1 [] s.2.2.1 s.2.1)∧(s.1 pb0=some (.cells #[pv0_0,iV s.2.2.2.1,iV s.2.2.2.2.1] 144 (0,0)))) (fun s hm=>?_) (fun K=>?_)
 ·clear h
  obtain ⟨Φ_3,s1,u1,s2,s3,s4⟩:=s
  obtain ⟨h,k1,k2⟩:=hm
  dsimp only at h k1 k2 ⊢
  unfold jz at h
  refine atr 4 [2] rfl<|soN 1 qO rfl ⟨rfl,k1.one,trivial⟩ rfl ?_
  refine en ?_
  exact rtg [1,0] hF (ay.one (bb rq rfl (fun w1 hw=>hw.rgO (i:=1) rfl 0 2 [.string s4,u1] rfl) rfl)) rfl (by cases h; exact fun w1 hw=>⟨u1,rfl,rfl,k1,rfl,k2⟩)
 refine ch h rfl ?_ ?_ <;> intro h
 ·refine atr 2 [] rfl ?_
  have rc1:RC RS 1 Φ_2 ([[],[],[],[]]:List (List Nat)) [.string (⟨#[]⟩:ByteArray),.string (⟨#[65]⟩:ByteArray),.string (⟨#[116,104,105,114,116,101,101,110,98,121,116,101,115]⟩:ByteArray),.string (⟨#[120]⟩:ByteArray)] ([(⟨#[]⟩:ByteArray),(⟨#[65]⟩:ByteArray),(⟨#[116,104,105,114,116,101,101,110,98,121,116,101,115]⟩:ByteArray),(⟨#[120]⟩:ByteArray)]:List ByteArray):=RC.cons (c:=[.string (⟨#[]⟩:ByteArray)]) (cells:=[.string (⟨#[65]⟩:ByteArray),.string (⟨#[116,104,105,114,116,101,101,110,98,121,116,101,115]⟩:ByteArray),.string (⟨#[120]⟩:ByteArray)]) ⟨rfl,rfl⟩ rfl (RC.cons (c:=[.string (⟨#[65]⟩:ByteArray)]) (cells:=[.string (⟨#[116,104,105,114,116,101,101,110,98,121,116,101,115]⟩:ByteArray),.string (⟨#[120]⟩:ByteArray)]) ⟨rfl,rfl⟩ rfl (RC.cons (c:=[.string (⟨#[116,104,105,114,116,101,101,110,98,121,116,101,115]⟩:ByteArray)]) (cells:=[.string (⟨#[120]⟩:ByteArray)]) ⟨rfl,rfl⟩ rfl (RC.cons (c:=[.string (⟨#[120]⟩:ByteArray)]) (cells:=[]) ⟨rfl,rfl⟩ rfl (RC.nil _ _ _))))
  refine le' (aV (vs:=[(0,.string (⟨#[]⟩:ByteArray)),(1,.string (⟨#[65]⟩:ByteArray)),(2,.string (⟨#[116,104,105,114,116,101,101,110,98,121,116,101,115]⟩:ByteArray)),(3,.string (⟨#[120]⟩:ByteArray))]) (C:=#[.string (⟨#[]⟩:ByteArray),.string (⟨#[65]⟩:ByteArray),.string (⟨#[116,104,105,114,116,101,101,110,98,121,116,101,115]⟩:ByteArray),.string (⟨#[120]⟩:ByteArray)]) RS.lasts dF lQ rfl rfl rfl rfl (ag ut (a8 (C':=[.string (⟨#[]⟩:ByteArray),.string ⟨#[]⟩,.string ⟨#[]⟩,.string ⟨#[]⟩]) rfl rfl rfl rfl rfl (a8 (C':=[.string (⟨#[]⟩:ByteArray),.string (⟨#[65]⟩:ByteArray),.string ⟨#[]⟩,.string ⟨#[]⟩]) rfl rfl rfl rfl rfl (a8 (C':=[.string (⟨#[]⟩:ByteArray),.string (⟨#[65]⟩:ByteArray),.string (⟨#[116,104,105,114,116,101,101,110,98,121,116,101,115]⟩:ByteArray),.string ⟨#[]⟩]) rfl rfl rfl rfl rfl (a8 (C':=[.string (⟨#[]⟩:ByteArray),.string (⟨#[65]⟩:ByteArray),.string (⟨#[116,104,105,114,116,101,101,110,98,121,116,101,115]⟩:ByteArray),.string (⟨#[120]⟩:ByteArray)]) rfl rfl rfl rfl rfl (ac)))))) rfl rc1 rfl (by simpa using Kw.nil)) rfl ?_
  rintro v4 Φ_4 D1 ⟨fr3,h4⟩
  replace h4:OSl RS 9 1 Φ_4 [] v4 ([(⟨#[]⟩:ByteArray),(⟨#[65]⟩:ByteArray),(⟨#[116,104,105,114,116,101,101,110,98,121,116,101,115]⟩:ByteArray),(⟨#[120]⟩:ByteArray)]:List ByteArray):=by simpa using h4
  replace h1:=h1.f0 fr3
  replace h3:=fr3 _ _ (by simp) h3
  refine kcb [1] h rfl rfl rfl rfl (fun b ap z q=>bA N b (⟨p0.b,x2.2.i,x2.2.h⟩:a7) ([(⟨#[]⟩:ByteArray),(⟨#[65]⟩:ByteArray),(⟨#[116,104,105,114,116,101,101,110,98,121,116,101,115]⟩:ByteArray),(⟨#[120]⟩:ByteArray)]:List ByteArray) (ph0_0.y z) h3 (h4.rsl.x (Dj.app (ap.q 0 rfl) dN)) q) ?_
  rintro x3 h v5 Φ_5 F3 ⟨ap3,fr4,rfl,rfl,e3,h5⟩
  replace h1:=h1.fr fr4 (ap3.q 1 rfl) dN
  refine lf Em rfl rfl rfl<|so1 0 xQ rfl rfl ?_
  refine en ?_
  exact wo [0,1] [0,0] (K (_,_,_,_,_,_) ⟨h,h1,h5⟩)
 refine att 5 [] rfl ?_
 refine ch h rfl ?_ ?_ <;> intro h
 ·refine wm [0,1] [7] rfl<|amm 3 [0,1,1,0,2] [0,1] rfl rfl ?_
  obtain ⟨x4,hx4,h⟩:=bs h
  refine WM.one 3 (by kernel_rfl) (mc rfl (fun _ v Φx D w1 hq hw=>Kn.of Kf.nil (ai2 0 1 rfl rfl) hw) (bo (js:=[0]) (R:=[ob v2]) GF rfl rfl (fun w1 hw ap hl=>zt N (bx hw ap hl) (⟨p0.b,x2.2.i,x2.2.h⟩:a7) (ph0_0.y (hw.uo ap)) h3  hx4)) rfl ?_)
  rintro v6 Φ_6 F4 ⟨ap4,fr5,rfl,rfl,e4,h6⟩
  replace h1:=h1.fr fr5 (ap4.q 0 rfl) dN
  have rc2:RC aP 3 Φ_6 ([[]]:List (List Nat)) [iV x4.1.K,iV x4.1.N,.string x4.1.S] ([x4.1]:List aN):=RC.cons (c:=[iV x4.1.K,iV x4.1.N,.string x4.1.S]) (cells:=[]) ⟨rfl,rfl⟩ rfl (RC.nil _ _ _)
  refine WM.one 4 (by kernel_rfl) (me rfl (fun _ v Φx D w1 hq hw=>Kn.of Kf.nil (ai2 0 1 rfl rfl) hw) (aV (vs:=[(0,.agg [iV x4.1.K,iV x4.1.N,.string x4.1.S].toArray)]) (C:=#[iV x4.1.K,iV x4.1.N,.string x4.1.S]) aP.lasts iZ gF rfl rfl rfl rfl (ag tv (a8 (C':=[iV x4.1.K,iV x4.1.N,.string x4.1.S]) rfl rfl rfl rfl rfl (ac))) rfl rc2 rfl (by simpa using Kw.nil)) rfl ?_)
  rintro v7 Φ_7 D2 ⟨fr6,h7⟩
  replace h7:OSl aP 95 3 Φ_7 [] v7 ([x4.1]:List aN):=by simpa using h7
  replace h1:=h1.f0 fr6
  replace h6:=fr6 _ _ (by simp) h6
  obtain ⟨x5,hx5,h⟩:=bs h
  refine WM.one 5 (by kernel_rfl) (me rfl (fun _ v Φx D w1 hq hw=>Kn.of Kf.nil (ai2 0 1 rfl rfl) hw) (ee aP.lasts aP.one aP.flat iZ yx rfl rfl rfl rfl rfl (js:=[2]) (Rr:=[ob v7,[pb0]]) rfl h1 h7.rsl hx5) rfl ?_)
  rintro v8 Φ_8 D3 ⟨⟨ap5,fr7⟩,h8⟩
  replace h6:=fr7 _ _ ((ap5.q 1 rfl) _ (by simp)) h6
  refine amm 1 [6,1] [0,1] rfl rfl ?_
  refine on1 7 (ms1 0 rfl nk Ag rfl h8.one ?_)
  refine WM.nil (by kernel_rfl) ?_
  exact wo [2,0] [0,0] (K (_,_,_,_,_,_) ⟨h,h8,h6⟩)
 refine att 5 [] rfl ?_
 refine ch h rfl ?_ ?_ <;> intro h
 ·refine blk ?_
  refine lin (σ:=Hp × (List aN) × Value × Int × Int) (fun s=>[(0,pQ pb0),(2,pQ b_1),(3,pQ b_2)]) (fun s=>St w0 s.1 [(b_2,.cells #[.string x1.1.Kind,s.2.2.1] 52 (0,0)),(b_1,.cells #[.string (⟨#[]⟩:ByteArray),.slice none 0 0] 52 (0,0))] [[pb0],ob s.2.2.1]) (fun m s=>ju N p0 x1 m s.2.1 s.2.2.2.1 s.2.2.2.2=some r∧(OSl aP 95 3 s.1 [] s.2.2.1 s.2.1)∧(s.1 pb0=some (.cells #[pv0_0,iV s.2.2.2.1,iV s.2.2.2.2] 144 (0,0)))) (Φ_2,x1.1.Fields,v2,x2.2.i,x2.2.h) N ⟨h,h1,h3⟩ (sx [0,0] [0,0]) (fun n2 ih2 s hm=>?_)
  obtain ⟨Φ_9,s5,u2,s6,s7⟩:=s
  obtain ⟨h,k3,k4⟩:=hm
  dsimp only at h k3 k4 ⊢
  unfold ju at h
  refine sq<|sq<|wm [0,1] [] rfl<|amm 2 [0,1,1,0] [0,1] rfl rfl<|mq 2 rfl (by kernel_rfl) (kN [0,1]) (lM iZ rfl rfl k3.rsl) rfl<|amm 1 [3] [0,1] rfl rfl ?_
  obtain ⟨x6,hx6,h⟩:=bs h
  refine WM.one 4 (by kernel_rfl) (mc rfl (fun _ v Φx D w1 hq hw=>Kn.of Kf.nil (ai2 0 1 rfl rfl) hw) (bo (js:=[0]) (R:=[ob u2]) ub rfl rfl (fun w1 hw ap hl=>az N (bx hw ap hl) (⟨p0.b,s6,s7⟩:a7) 2 (ph0_0.y (hw.uo ap)) k4  hx6)) rfl ?_)
  rintro v9 Φ_10 F5 ⟨ap6,fr8,rfl,rfl,e5,h9⟩
  replace k3:=k3.fr fr8 (ap6.q 0 rfl) dN
  refine amm 2 [5,6] [0,1] rfl rfl<|WM.nil (by kernel_rfl) ?_
  refine ch h rfl ?_ ?_ <;> intro h
  ·refine att 2 [] rfl<|wm [0,1] [7] rfl<|amm 3 [0,1,1,0,2] [0,1] rfl rfl ?_
   obtain ⟨x7,hx7,h⟩:=bs h
   refine WM.one 3 (by kernel_rfl) (mc rfl (fun _ v Φx D w1 hq hw=>Kn.of Kf.nil (ai2 0 1 rfl rfl) hw) (bo (js:=[0]) (R:=[ob u2]) GQ rfl rfl (fun w1 hw ap hl=>rZ N (bx hw ap hl) (⟨p0.b,x6.2.i,x6.2.h⟩:a7) (ph0_0.y (hw.uo ap)) h9  hx7)) rfl ?_)
   rintro v10 Φ_11 F6 ⟨ap7,fr9,rfl,rfl,e6,h10⟩
   replace k3:=k3.fr fr9 (ap7.q 0 rfl) dN
   have rc3:RC aP 3 Φ_11 ([[]]:List (List Nat)) [iV x7.1.K,iV x7.1.N,.string x7.1.S] ([x7.1]:List aN):=RC.cons (c:=[iV x7.1.K,iV x7.1.N,.string x7.1.S]) (cells:=[]) ⟨rfl,rfl⟩ rfl (RC.nil _ _ _)
   refine WM.one 4 (by kernel_rfl) (me rfl (fun _ v Φx D w1 hq hw=>Kn.of Kf.nil (ai2 0 1 rfl rfl) hw) (aV (vs:=[(0,.agg [iV x7.1.K,iV x7.1.N,.string x7.1.S].toArray)]) (C:=#[iV x7.1.K,iV x7.1.N,.string x7.1.S]) aP.lasts iZ gF rfl rfl rfl rfl (ag tv (a8 (C':=[iV x7.1.K,iV x7.1.N,.string x7.1.S]) rfl rfl rfl rfl rfl (ac))) rfl rc3 rfl (by simpa using Kw.nil)) rfl ?_)
   rintro v11 Φ_12 D4 ⟨fr10,h11⟩
   replace h11:OSl aP 95 3 Φ_12 [] v11 ([x7.1]:List aN):=by simpa using h11
   replace k3:=k3.f0 fr10
   replace h10:=fr10 _ _ (by simp) h10
   obtain ⟨x8,hx8,h⟩:=bs h
   refine WM.one 5 (by kernel_rfl) (me rfl (fun _ v Φx D w1 hq hw=>Kn.of Kf.nil (ai2 0 1 rfl rfl) hw) (ee aP.lasts aP.one aP.flat iZ yx rfl rfl rfl rfl rfl (js:=[2]) (Rr:=[ob v11,[pb0]]) rfl k3 h11.rsl hx8) rfl ?_)
   rintro v12 Φ_13 D5 ⟨⟨ap8,fr11⟩,h12⟩
   replace h10:=fr11 _ _ ((ap8.q 1 rfl) _ (by simp)) h10
   refine amm 1 [6,1] [0,1] rfl rfl ?_
   refine on1 7 (ms1 0 rfl nk Ag rfl h12.one ?_)
   refine WM.nil (by kernel_rfl)<|ib ?_
   exact lb [2,0] [0,0] (ih2 (_,_,_,_,_) ⟨h,h12,h10⟩)
  refine xt rfl ?_
  exact wo [0,0] [0,0] (K (_,_,_,_,_,_) ⟨h,k3,h9⟩)
 refine WT.skip ?_
 exact wo [0,0] [0,0] (K (_,_,_,_,_,_) ⟨h,h1,h3⟩)
theorem zJ (w0:av Ψ Φ [[pb0]].flatten) (p0:a7) (ph0_0:RSl (RI .u8) 1 Ψ pG0_0 pv0_0 p0.b) (pp0:Φ pb0=some (.cells #[pv0_0,iV p0.i,iV p0.h] 144 (0,0))) {r:ah × a7} (h:pw N p0=some r) :
  Calls prog 39 [pQ pb0].toArray w0.w (be Φ w0.w [[pb0]].flatten (fun Φ' Fs v=>∃ (sr_0_0:Value) (Dr_0_0:List Nat) (X:List Nat),v = .agg [sr_0_0,iV r.1.Next].toArray∧Fs=[ob sr_0_0,[pb0],X]∧OSl bm 66 3 Φ' Dr_0_0 sr_0_0 r.1.Items∧(∀ k∈Dr_0_0,k∈X)∧r.2.b=p0.b∧Φ' pb0=some (.cells #[pv0_0,iV r.2.i,iV r.2.h] 144 (0,0)))):=by
 refine eL func39 rfl ntmps39 rfl (L:=[[pb0]]) w0 (fun hF=>?_)
 unfold pw at h
 refine sr<|lnz tD rfl fun b_1=>arr 4 [] rfl<|kcb [0] h rfl rfl rfl rfl (fun b ap z q=>sD N b p0 (ph0_0.y z) pp0 q) ?_
 rintro x1 h v1 Φ_1 F1 ⟨ap1,fr1,v2,D1,X1,rfl,rfl,h1,i1,e1,h2⟩
 refine lnz tD rfl fun b_2=>soN 0 vk rfl ⟨h1.one,rfl,trivial⟩ rfl ?_
 refine arr 5 [] rfl<|kcb [1] h rfl rfl rfl rfl (fun b ap z q=>az N b (⟨p0.b,x1.2.i,x1.2.h⟩:a7) 12 (ph0_0.y z) h2 q) ?_
 rintro x3 h v3 Φ_2 F2 ⟨ap2,fr2,rfl,rfl,e2,h3⟩
 replace h1:=h1.fr fr2 (ap2.q 0 rfl) (Dj.sub (ap2.q 1 rfl) i1)
 refine art 7 [] rfl<|wt0 ?_
 refine cut (σ:=Hp × List Nat × (List ak) × Value × List Nat × Int × Int × Int) (fun s=>[(2,pQ b_1),(3,pQ b_2)]) (fun s=>St w0 s.1 [(b_2,.cells #[s.2.2.2.1,iV s.2.2.2.2.2.2.2] 29 (0,0)),(b_1,.cells #[.slice none 0 0,iV 0] 29 (0,0))] [s.2.1,[pb0],ob s.2.2.2.1,X1]) (fun s=>jw N p0 s.2.2.1 s.2.2.2.2.2.1 s.2.2.2.2.2.2.1 s.2.2.2.2.2.2.2=some r∧(OSl bm 66 3 s.1 s.2.2.2.2.1 s.2.2.2.1 s.2.2.1)∧(∀ k∈s.2.2.2.2.1,k∈(X1++s.2.1))∧(s.1 pb0=some (.cells #[pv0_0,iV s.2.2.2.2.2.1,iV s.2.2.2.2.2.2.1] 144 (0,0)))) (fun s hm=>?_) (fun K=>?_)
 ·clear h
  obtain ⟨Φ_3,X2,s1,u1,D2,s2,s3,s4⟩:=s
  obtain ⟨h,k1,i2,k2⟩:=hm
  dsimp only at h k1 i2 k2 ⊢
  unfold jw at h
  refine atr 4 [2] rfl<|soN 1 vk rfl ⟨k1.one,rfl,trivial⟩ rfl ?_
  refine en ?_
  refine WT.ret hF (ay.one (bb rz rfl (fun w1 hw=>hw.rgO (i:=1) rfl 0 2 [u1,iV s4] rfl) rfl)) (fun w1 hw=>?_)
  cases h
  replace hw:=hw.merge (js:=[3,0]) (F:=[X1,X2].flatten) rfl (SP.eq (by simp))
  refine aI (js:=[2,1,0]) hw rfl ⟨u1,D2,[X1,X2].flatten,rfl,rfl,k1,(fun k hk=>((List.mem_append.1 (i2 k hk)).elim (fun h=>(List.mem_flatten.2 ⟨X1,by simp,h⟩)) (fun h=>(List.mem_flatten.2 ⟨X2,by simp,h⟩)))),rfl,k2⟩
 refine ch h rfl ?_ ?_ <;> intro h
 ·refine atr 2 [] rfl ?_
  have rc1:RC (RI .i64) 1 Φ_2 ([[],[],[],[]]:List (List Nat)) [iV 0,iV 1,iV 1000000,iV 1000001] ([0,1,1000000,1000001]:List Int):=RC.cons (c:=[iV 0]) (cells:=[iV 1,iV 1000000,iV 1000001]) ⟨rfl,rfl⟩ rfl (RC.cons (c:=[iV 1]) (cells:=[iV 1000000,iV 1000001]) ⟨rfl,rfl⟩ rfl (RC.cons (c:=[iV 1000000]) (cells:=[iV 1000001]) ⟨rfl,rfl⟩ rfl (RC.cons (c:=[iV 1000001]) (cells:=[]) ⟨rfl,rfl⟩ rfl (RC.nil _ _ _))))
  refine le' (aV (vs:=[(0,iV 0),(1,iV 1),(2,iV 1000000),(3,iV 1000001)]) (C:=#[iV 0,iV 1,iV 1000000,iV 1000001]) RI.lasts dQ ou rfl rfl rfl rfl (ag Bu (a8 (C':=[iV 0,iV 0,iV 0,iV 0]) rfl rfl rfl rfl rfl (a8 (C':=[iV 0,iV 1,iV 0,iV 0]) rfl rfl rfl rfl rfl (a8 (C':=[iV 0,iV 1,iV 1000000,iV 0]) rfl rfl rfl rfl rfl (a8 (C':=[iV 0,iV 1,iV 1000000,iV 1000001]) rfl rfl rfl rfl rfl (ac)))))) rfl rc1 rfl (by simpa using Kw.nil)) rfl ?_
  rintro v4 Φ_4 D3 ⟨fr3,h4⟩
  replace h4:OSl (RI .i64) 3 1 Φ_4 [] v4 ([0,1,1000000,1000001]:List Int):=by simpa using h4
  replace h1:=h1.f0 fr3
  replace h3:=fr3 _ _ (by simp) h3
  refine kcb [2] h rfl rfl rfl rfl (fun b ap z q=>gA N b (⟨p0.b,x3.2.i,x3.2.h⟩:a7) ([0,1,1000000,1000001]:List Int) (ph0_0.y z) h3 (h4.rsl.x (Dj.app (ap.q 0 rfl) dN)) q) ?_
  rintro x4 h v5 Φ_5 F3 ⟨ap3,fr4,rfl,rfl,e3,h5⟩
  replace h1:=h1.fr fr4 (ap3.q 2 rfl) (Dj.sub (ap3.q 3 rfl) i1)
  refine lf tH rfl rfl rfl<|so1 0 tV rfl rfl ?_
  refine en ?_
  exact wo [2,0,1,1] [0,0] (K (_,_,_,_,_,_,_,_) ⟨h,h1,(fun k hk=>(List.mem_append.2 (.inl (i1 k hk)))),h5⟩)
 refine att 5 [] rfl ?_
 refine ch h rfl ?_ ?_ <;> intro h
 ·refine wm [0,1] [10] rfl<|amm 4 [0,0,1,0,2,4] [0,1] rfl rfl ?_
  obtain ⟨x5,hx4,h⟩:=bs h
  refine WM.one 3 (by kernel_rfl) (mc rfl (fun _ v Φx D w1 hq hw=>Kn.of Kf.nil (ai2 0 1 rfl rfl) hw) (bo (js:=[1]) (R:=[[],ob v2,X1]) ub rfl rfl (fun w1 hw ap hl=>az N (bx hw ap hl) (⟨p0.b,x3.2.i,x3.2.h⟩:a7) 9 (ph0_0.y (hw.uo ap)) h3  hx4)) rfl ?_)
  rintro v6 Φ_6 F4 ⟨ap4,fr5,rfl,rfl,e4,h6⟩
  replace h1:=h1.fr fr5 (ap4.q 1 rfl) (Dj.sub (ap4.q 2 rfl) i1)
  obtain ⟨x6,hx5,h⟩:=bs h
  refine WM.one 5 (by kernel_rfl) (mc rfl (fun _ v Φx D w1 hq hw=>Kn.of Kf.nil (ai2 0 1 rfl rfl) hw) (bo (js:=[0]) (R:=[[],ob v2,X1]) IK rfl rfl (fun w1 hw ap hl=>yV N (bx hw ap hl) (⟨p0.b,x5.2.i,x5.2.h⟩:a7) (ph0_0.y (hw.uo ap)) h6  hx5)) rfl ?_)
  rintro v7 Φ_7 F5 ⟨ap5,fr6,v8,rfl,rfl,h7,e5,h8⟩
  replace h1:=h1.fr fr6 (ap5.q 1 rfl) (Dj.sub (ap5.q 2 rfl) i1)
  refine mq 6 rfl (by kernel_rfl) (kN [0,1]) (bz (vs:=[(0,iV x5.1),(1,.agg [.string x6.1.Kind,v8].toArray)]) (C:=#[iV x5.1,.string x6.1.Kind,v8]) I0 pA rfl (a8 (C':=[iV x5.1,.string ⟨#[]⟩,.slice none 0 0]) rfl rfl rfl rfl rfl (a8 (C':=[iV x5.1,.string x6.1.Kind,v8]) rfl rfl rfl rfl rfl (ac)))) rfl ?_
  have rc2:RC dP 3 Φ_7 ([(ob v8++[])]:List (List Nat)) [iV x5.1,.string x6.1.Kind,v8] ([(⟨x5.1,x6.1⟩:ak)]:List ak):=RC.cons (c:=[iV x5.1,.string x6.1.Kind,v8]) (cells:=[]) ⟨v8,rfl,rfl,h7⟩ rfl (RC.nil _ _ _)
  refine WM.one 7 (by kernel_rfl) (me rfl (fun _ v Φx D w1 hq hw=>Kn.of Kf.nil (ai2 0 1 rfl rfl) hw) (aV (vs:=[(0,.agg [iV x5.1,.string x6.1.Kind,v8].toArray)]) (C:=#[iV x5.1,.string x6.1.Kind,v8]) dP.lasts nS pA rfl rfl rfl rfl (ag yX (a8 (C':=[iV x5.1,.string x6.1.Kind,v8]) rfl rfl rfl rfl rfl (ac))) rfl rc2 rfl (RC.kn dP.knows rc2)) rfl ?_)
  rintro v9 Φ_8 D4 ⟨fr7,h9⟩
  replace h9:OSl dP 66 3 Φ_8 ((ob v8++[])) v9 ([(⟨x5.1,x6.1⟩:ak)]:List ak):=by simpa [List.append_assoc] using h9
  replace h1:=h1.f0 fr7
  replace h8:=fr7 _ _ (by simp) h8
  refine WM.conv (S':=St w0 Φ_8 [(b_2,.cells #[v2,iV x1.1.Next] 29 (0,0)),(b_1,.cells #[.slice none 0 0,iV 0] 29 (0,0))] [((ob v8++[])),ob v9,[pb0],[],ob v2,X1]) (fun w1 hw=>hw.merge (js:=[1]) rfl (SP.eq (by simp [List.append_assoc,fu]))) ?_
  obtain ⟨x7,hx6,h⟩:=bs h
  refine WM.one 8 (by kernel_rfl) (me rfl (fun _ v Φx D w1 hq hw=>Kn.of Kf.nil (ai2 0 1 rfl rfl) hw) (fY bm.lasts bm.one nS Gg rfl rfl rfl rfl rfl (js:=[4]) (Rr:=[((ob v8++[])),ob v9,[pb0],[],X1]) rfl h1 (h9.gives dP.gives) (fun ap=>(Dj.sub (ap.q 4 rfl) i1)) (fun ap=>ap.q 0 rfl) hx6) rfl ?_)
  rintro v10 Φ_9 D5 ⟨⟨ap6,fr8⟩,h10⟩
  replace h8:=fr8 _ _ ((ap6.q 2 rfl) _ (by simp)) h8
  refine amm 1 [9,0] [0,1] rfl rfl ?_
  refine on1 10 (ms1 0 rfl nk Ck rfl h10.one ?_)
  refine WM.nil (by kernel_rfl)<|wtL [([]++(((ob v8++[])))),ob v10,ob v9,[pb0],X1] (smg [4,1] rfl (SP.eq (by simp [List.append_assoc]))) ?_
  exact wo [0,2,0,1] [0,0] (K (_,_,_,_,_,_,_,_) ⟨h,h10,(fun k hk=>((List.mem_append.1 hk).elim (fun h=>(List.mem_append.2 (.inl (i1 k h)))) (fun h=>(List.mem_append.2 (.inr ((fun k hk=>(List.mem_append.2 (.inr hk))) k h)))))),h8⟩)
 refine att 5 [] rfl ?_
 refine ch h rfl ?_ ?_ <;> intro h
 ·refine blk<|wt0 ?_
  refine lin (σ:=Hp × List Nat × (List ak) × Value × List Nat × Int) (fun s=>[(2,pQ b_1),(3,pQ b_2)]) (fun s=>St w0 s.1 [(b_2,.cells #[s.2.2.2.1,iV s.2.2.2.2.2] 29 (0,0)),(b_1,.cells #[.slice none 0 0,iV 0] 29 (0,0))] [s.2.1,[],[pb0],ob s.2.2.2.1,X1]) (fun m s=>jC N p0 x3 m s.2.2.1 s.2.2.2.2.2=some r∧(OSl bm 66 3 s.1 s.2.2.2.2.1 s.2.2.2.1 s.2.2.1)∧(∀ k∈s.2.2.2.2.1,k∈(X1++s.2.1))∧(s.1 pb0=some (.cells #[pv0_0,iV x3.2.i,iV x3.2.h] 144 (0,0)))) (Φ_2,[],x1.1.Items,v2,D1,x1.1.Next) N ⟨h,h1,(fun k hk=>(List.mem_append.2 (.inl (i1 k hk)))),h3⟩ (sx [0,0,0,0,0] [0,0]) (fun n2 ih2 s hm=>?_)
  obtain ⟨Φ_10,X3,s5,u2,D6,s6⟩:=s
  obtain ⟨h,k3,i3,k4⟩:=hm
  dsimp only at h k3 i3 k4 ⊢
  unfold jC at h
  refine atr 5 [0,0] rfl<|lno k3 rfl<|la rfl<|en ?_
  refine ch h rfl ?_ ?_ <;> intro h
  ·refine atr 5 [0,0] rfl<|lno k3 rfl<|lq (bz (vs:=[(0,iV 1),(1,iV (s5.length:Int))]) (C:=#[iV 1,iV (s5.length:Int),.string (⟨#[]⟩:ByteArray)]) qY gF rfl (a8 (C':=[iV 1,iV 0,.string ⟨#[]⟩]) rfl rfl rfl rfl rfl (a8 (C':=[iV 1,iV (s5.length:Int),.string ⟨#[]⟩]) rfl rfl rfl rfl rfl (ac)))) rfl ?_
   have rc3:RC aP 3 Φ_10 ([[]]:List (List Nat)) [iV 1,iV (s5.length:Int),.string (⟨#[]⟩:ByteArray)] ([(⟨1,(s5.length:Int),(⟨#[]⟩:ByteArray)⟩:aN)]:List aN):=RC.cons (c:=[iV 1,iV (s5.length:Int),.string (⟨#[]⟩:ByteArray)]) (cells:=[]) ⟨rfl,rfl⟩ rfl (RC.nil _ _ _)
   refine le' (aV (vs:=[(0,.agg [iV 1,iV (s5.length:Int),.string (⟨#[]⟩:ByteArray)].toArray)]) (C:=#[iV 1,iV (s5.length:Int),.string (⟨#[]⟩:ByteArray)]) aP.lasts iZ gF rfl rfl rfl rfl (ag tv (a8 (C':=[iV 1,iV (s5.length:Int),.string (⟨#[]⟩:ByteArray)]) rfl rfl rfl rfl rfl (ac))) rfl rc3 rfl (by simpa using Kw.nil)) rfl ?_
   rintro v11 Φ_11 D7 ⟨fr9,h11⟩
   replace h11:OSl aP 95 3 Φ_11 [] v11 ([(⟨1,(s5.length:Int),(⟨#[]⟩:ByteArray)⟩:aN)]:List aN):=by simpa using h11
   replace k3:=k3.f0 fr9
   replace k4:=fr9 _ _ (by simp) k4
   refine lq (bz (vs:=[(0,.string (⟨#[102,117,108,108]⟩:ByteArray)),(1,v11)]) (C:=#[.string (⟨#[102,117,108,108]⟩:ByteArray),v11]) CW ox rfl (a8 (C':=[.string (⟨#[102,117,108,108]⟩:ByteArray),.slice none 0 0]) rfl rfl rfl rfl rfl (a8 (C':=[.string (⟨#[102,117,108,108]⟩:ByteArray),v11]) rfl (dK h11.one) rfl rfl rfl (ac)))) rfl ?_
   refine WL.frz (js:=[0]) (R:=[(b_1,.cells #[.slice none 0 0,iV 0] 29 (0,0))]) rfl (fun Φ_12 fr10 k5=>?_)
   replace k3:=k3.f0 fr10
   replace h11:=h11.f0 fr10
   replace k4:=fr10 _ _ (by simp) k4
   refine kcb [0,4] h rfl rfl rfl rfl (fun b ap z q=>qK N b (⟨s5,s6⟩:ah) (⟨(⟨#[102,117,108,108]⟩:ByteArray),([(⟨1,(s5.length:Int),(⟨#[]⟩:ByteArray)⟩:aN)]:List aN)⟩:aL) k3 k5 (h11.rsl.x (Dj.app (ap.q 0 rfl) dN)) (Dj.sub (Dj.app (ap.q 4 rfl) (ap.q 1 rfl)) i3) q) ?_
   rintro x8 h v12 Φ_13 F6 ⟨ap7,fr11,v13,D8,X4,rfl,rfl,h12,i4,h13⟩
   replace k4:=fr11 _ _ ((ap7.q 3 rfl) _ (by simp)) k4
   refine en<|ib ?_
   refine WT.thw (js:=[0]) (R:=[ob v13,X4,ob v11,X3,[],[pb0],X1]) rfl h13 (fun Φ_14 ap8 fr12=>?_)
   replace h12:=h12.fr fr12 (ap8.q 0 rfl) (Dj.sub (Dj.app (ap8.q 1 rfl) (Dj.sub (Dj.app (ap8.q 6 rfl) (ap8.q 3 rfl)) i3)) i4)
   replace k4:=fr12 _ _ ((ap8.q 5 rfl) _ (by simp)) k4
   refine wtL [(X3++(X4)),ob v13,ob v11,[],[pb0],X1] (smg [3,1] rfl (SP.eq (by simp [List.append_assoc]))) ?_
   exact lb [0,2,2,0,1] [0,0] (ih2 (_,_,_,_,_,_) ⟨h,h12,(fun k hk=>((List.mem_append.1 (i4 k hk)).elim (fun h=>(List.mem_append.2 (.inr ((fun k hk=>(List.mem_append.2 (.inr hk))) k h)))) (fun h=>((List.mem_append.1 (i3 k h)).elim (fun h=>(List.mem_append.2 (.inl h))) (fun h=>(List.mem_append.2 (.inr ((fun k hk=>(List.mem_append.2 (.inl hk))) k h)))))))),k4⟩)
  refine xt rfl<|wtL [([]++(X3)),[pb0],ob u2,X1] (smg [1,0] rfl (SP.eq (by simp [List.append_assoc]))) ?_
  exact wo [0,0,0,0] [0,0] (K (_,_,_,_,_,_,_,_) ⟨h,k3,(fun k hk=>((List.mem_append.1 (i3 k hk)).elim (fun h=>(List.mem_append.2 (.inl h))) (fun h=>(List.mem_append.2 (.inr ((fun k hk=>(List.mem_append.2 (.inr hk))) k h)))))),k4⟩)
 refine WT.skip ?_
 exact wo [0,0,0,0] [0,0] (K (_,_,_,_,_,_,_,_) ⟨h,h1,(fun k hk=>(List.mem_append.2 (.inl (i1 k hk)))),h3⟩)
theorem uJ (w0:av Ψ Φ []) (p0:(List Int)) (ph0:RSl (RI .u8) 1 Ψ pG0 pv0 p0) {r:bP × ah} (h:jR N p0=some r) :
  Calls prog 9 [pv0].toArray w0.w (be Φ w0.w [] (fun Φ' Fs v=>∃ (sr_0_0:Value) (Dr_0_0:List Nat) (sr_1_0:Value) (Dr_1_0:List Nat) (X:List Nat),v = .tuple #[.agg [.string r.1.Name,sr_0_0].toArray,.agg [sr_1_0,iV r.2.Next].toArray]∧Fs=[ob sr_0_0,ob sr_1_0,X]∧OSl cD 87 5 Φ' Dr_0_0 sr_0_0 r.1.Rules∧(∀ k∈Dr_0_0,k∈X)∧OSl bm 66 3 Φ' Dr_1_0 sr_1_0 r.2.Items∧(∀ k∈Dr_1_0,k∈X))):=by
 refine eN func9 rfl ntmps9 rfl w0 fun hF=>?_
 unfold jR at h
 refine sr<|lnz uO rfl fun b_1=>lnz tD rfl fun b_2=>arr 4 [] rfl<|kab h rfl rfl rfl (fun b z q=>zf N b p0 (ph0.y z) q) ?_
 rintro x1 h v1 Φ_1 F1 ⟨ap1,fr1,b_3,v2,G1,rfl,rfl,h1,i1,h2⟩
 refine arr 5 [] rfl<|kcb [0] h rfl rfl rfl rfl (fun b ap z q=>rB N b x1 (h1.x (Dj.sub (ap.o ph0.old) i1)) h2 q) ?_
 rintro x2 h v3 Φ_2 F2 ⟨ap2,fr2,v4,D1,rfl,rfl,h3,e1,h4⟩
 replace h1:=h1.fr fr2 (Dj.sub (ap2.o ph0.old) i1)
 refine lnz uO rfl fun b_4=>soN 0 vd rfl ⟨rfl,h3.one,trivial⟩ rfl ?_
 refine arr 4 [] rfl<|kcb [2] h rfl rfl rfl rfl (fun b ap z q=>sD N b (⟨x1.b,x2.2.i,x2.2.h⟩:a7) (h1.x (Dj.sub (ap.o ph0.old) i1)) h4 q) ?_
 rintro x3 h v5 Φ_3 F3 ⟨ap3,fr3,v6,D2,X1,rfl,rfl,h5,i2,e2,h6⟩
 replace h1:=h1.fr fr3 (Dj.sub (ap3.o ph0.old) i1)
 replace h3:=h3.fr fr3 (ap3.q 0 rfl) (ap3.q 1 rfl)
 refine lnz tD rfl fun b_5=>soN 0 vk rfl ⟨h5.one,rfl,trivial⟩ rfl ?_
 refine arr 5 [] rfl<|kcb [1] h rfl rfl rfl rfl (fun b ap z q=>cJ N b (⟨x1.b,x3.2.i,x3.2.h⟩:a7) 6 (h1.x (Dj.sub (ap.o ph0.old) i1)) h6 q) ?_
 rintro x5 h v7 Φ_4 F4 ⟨ap4,fr4,rfl,rfl,e3,h7⟩
 replace h1:=h1.fr fr4 (Dj.sub (ap4.o ph0.old) i1)
 replace h3:=h3.fr fr4 (ap4.q 2 rfl) (ap4.q 3 rfl)
 replace h5:=h5.fr fr4 (ap4.q 0 rfl) (Dj.sub (ap4.q 1 rfl) i2)
 refine en<|wt0 ?_
 replace h3:=h3.gives fA.gives
 refine cut (σ:=Hp × List Nat × (List af) × Value × List Nat × Int × Int × ByteArray) (fun s=>[(2,pQ b_1),(3,pQ b_2),(4,pQ b_3),(5,pQ b_4),(6,pQ b_5)]) (fun s=>St w0 s.1 [(b_5,.cells #[v6,iV x3.1.Next] 29 (0,0)),(b_4,.cells #[.string s.2.2.2.2.2.2.2,s.2.2.2.1] 26 (0,0)),(b_2,.cells #[.slice none 0 0,iV 0] 29 (0,0)),(b_1,.cells #[.string (⟨#[]⟩:ByteArray),.slice none 0 0] 26 (0,0))] [s.2.1,[b_3],ob v6,X1,ob s.2.2.2.1,D1]) (fun s=>fQ N x1 x3 s.2.2.1 s.2.2.2.2.2.1 s.2.2.2.2.2.2.1 s.2.2.2.2.2.2.2=some r∧(OSl cD 87 5 s.1 s.2.2.2.2.1 s.2.2.2.1 s.2.2.1)∧(∀ k∈s.2.2.2.2.1,k∈(D1++s.2.1))∧(OSl bm 66 3 s.1 D2 v6 x3.1.Items)∧(s.1 b_3=some (.cells #[v2,iV s.2.2.2.2.2.1,iV s.2.2.2.2.2.2.1] 144 (0,0)))∧(RSl (RI .u8) 1 s.1 G1 v2 x1.b)) (fun s hm=>?_) (fun K=>?_)
 ·clear h
  obtain ⟨Φ_5,X2,s1,u1,D3,s2,s3,s4⟩:=s
  obtain ⟨h,k1,i3,h5,k2,h1⟩:=hm
  dsimp only at h k1 i3 h5 k2 h1 ⊢
  unfold fQ at h
  refine atr 4 [] rfl<|kcb [1] h rfl rfl rfl rfl (fun b ap z q=>cJ N b (⟨x1.b,s2,s3⟩:a7) 6 (h1.x (Dj.sub (ap.o ph0.old) i1)) k2 q) ?_
  rintro x6 h v8 Φ_6 F5 ⟨ap5,fr5,rfl,rfl,e4,h8⟩
  replace h1:=h1.fr fr5 (Dj.sub (ap5.o ph0.old) i1)
  replace k1:=k1.fr fr5 (ap5.q 3 rfl) (Dj.sub (Dj.app (ap5.q 4 rfl) (ap5.q 0 rfl)) i3)
  replace h5:=h5.fr fr5 (ap5.q 1 rfl) (Dj.sub (ap5.q 2 rfl) i2)
  refine en<|wt0 ?_
  refine cut (σ:=Hp × List Nat × (List ak) × Value × List Nat × Int) (fun s=>[(2,pQ b_1),(3,pQ b_2),(5,pQ b_4),(6,pQ b_5)]) (fun s=>St w0 s.1 [(b_5,.cells #[s.2.2.2.1,iV s.2.2.2.2.2] 29 (0,0)),(b_4,.cells #[.string s4,u1] 26 (0,0)),(b_2,.cells #[.slice none 0 0,iV 0] 29 (0,0)),(b_1,.cells #[.string (⟨#[]⟩:ByteArray),.slice none 0 0] 26 (0,0))] [s.2.1,X2,ob s.2.2.2.1,X1,ob u1,D1]) (fun s=>fR N s1 s4 s.2.2.1 s.2.2.2.2.2=some r∧(OSl cD 87 5 s.1 D3 u1 s1)∧(OSl bm 66 3 s.1 s.2.2.2.2.1 s.2.2.2.1 s.2.2.1)∧(∀ k∈s.2.2.2.2.1,k∈(X1++s.2.1))) (fun s hm=>?_) (fun K=>?_)
  ·clear h
   obtain ⟨Φ_7,X3,s5,u2,D4,s6⟩:=s
   obtain ⟨h,k1,k3,i4⟩:=hm
   dsimp only at h k1 k3 i4 ⊢
   unfold fR at h
   refine sq<|wm [0,1,2] [3] rfl<|amm 2 [0,34,1,2] [0,1,2] rfl rfl ?_
   refine on1 2 (msK 3 [0,1,2] rfl vd rfl ⟨rfl,k1.one,trivial⟩ rfl rfl ?_)
   refine on1 3 (msN 2 rfl nk vk rfl ⟨k3.one,rfl,trivial⟩ rfl rfl ?_)
   refine WM.nil (by kernel_rfl) ?_
   refine WT.ret hF (ay.two (bb y5 rfl (fun w1 hw=>hw.rgO (i:=3) rfl 0 2 [.string s4,u1] rfl) rfl) (bb rz rfl (fun w1 hw=>hw.rgO (i:=2) rfl 0 2 [u2,iV s6] rfl) rfl)) (fun w1 hw=>?_)
   cases h
   replace hw:=hw.merge (js:=[5,1,2,0]) (F:=[D1,X2,X1,X3].flatten) rfl (SP.eq (by simp))
   refine aI (js:=[2,1,0]) hw rfl ⟨u1,D3,u2,D4,[D1,X2,X1,X3].flatten,rfl,rfl,k1,(fun k hk=>((List.mem_append.1 (i3 k hk)).elim (fun h=>(List.mem_flatten.2 ⟨D1,by simp,h⟩)) (fun h=>(List.mem_flatten.2 ⟨X2,by simp,h⟩)))),k3,(fun k hk=>((List.mem_append.1 (i4 k hk)).elim (fun h=>(List.mem_flatten.2 ⟨X1,by simp,h⟩)) (fun h=>(List.mem_flatten.2 ⟨X3,by simp,h⟩))))⟩
  refine ch h rfl ?_ ?_ <;> intro h
  ·refine sr<|la rfl<|kcb [1] h rfl rfl rfl rfl (fun b ap z q=>zJ N b (⟨x1.b,x6.2.i,x6.2.h⟩:a7) (h1.x (Dj.sub (ap.o ph0.old) i1)) h8 q) ?_
   rintro x7 h v9 Φ_8 F6 ⟨ap6,fr6,v10,D5,X4,rfl,rfl,h9,i5,e5,h10⟩
   replace k1:=k1.fr fr6 (ap6.q 4 rfl) (Dj.sub (Dj.app (ap6.q 5 rfl) (ap6.q 1 rfl)) i3)
   replace h5:=h5.fr fr6 (ap6.q 2 rfl) (Dj.sub (ap6.q 3 rfl) i2)
   refine soN 0 vk rfl ⟨h9.one,rfl,trivial⟩ rfl ?_
   refine arr 5 [0,0] rfl<|lno h9 rfl<|la rfl<|en ?_
   refine ch h rfl ?_ ?_ <;> intro h
   ·refine atr 3 [0,0] rfl ?_
    obtain ⟨x9,hx7,h⟩:=bs h
    refine lq (AH nS rfl rfl h9.rsl hx7) rfl ?_
    obtain ⟨D6,h11,sp1,e6⟩:=h9.pre hx7
    refine WL.conv (S':=St w0 Φ_8 [(b_5,.cells #[v10,iV x7.1.Next] 29 (0,0)),(b_4,.cells #[.string s4,u1] 26 (0,0)),(b_2,.cells #[.slice none 0 0,iV 0] 29 (0,0)),(b_1,.cells #[.string (⟨#[]⟩:ByteArray),.slice none 0 0] 26 (0,0))] [ob (slc v10 0 (12:Int).toNat 3),[b_3],X4,[],X2,ob v6,X1,ob u1,D1]) (fun w1 hw=>by first | simpa only [e6,List.cons_append,List.nil_append] using hw | (simp only [e6]; exact hw))<|lf kO rfl rfl rfl<|so1 0 Ck rfl h11.one ?_
    refine en<|wtL [([]++(X4)),ob (slc v10 0 (12:Int).toNat 3),[b_3],X2,ob v6,X1,ob u1,D1] (smg [3,2] rfl (SP.eq (by simp [List.append_assoc]))) ?_
    exact wo [0,2,0,2,2,2] [0,0,0,0] (K (_,_,_,_,_,_) ⟨h,k1,h11,(fun k hk=>(List.mem_append.2 (.inr ((fun k hk=>(List.mem_append.2 (.inr hk))) k ((fun k h=>i5 k (sp1.mem h)) k hk)))))⟩)
   refine WT.skip<|wtL [([]++(X4)),ob v10,[b_3],X2,ob v6,X1,ob u1,D1] (smg [3,2] rfl (SP.eq (by simp [List.append_assoc]))) ?_
   exact wo [0,2,0,2,2,2] [0,0,0,0] (K (_,_,_,_,_,_) ⟨h,k1,h9,(fun k hk=>(List.mem_append.2 (.inr ((fun k hk=>(List.mem_append.2 (.inr hk))) k (i5 k hk)))))⟩)
  refine WT.skip ?_
  exact wo [0,1,1,1,1,1] [0,0,0,0] (K (_,_,_,_,_,_) ⟨h,k1,h5,(fun k hk=>(List.mem_append.2 (.inl (i2 k hk))))⟩)
 refine ch h rfl ?_ ?_ <;> intro h
 ·refine atr 2 [] rfl<|kcb [1] h rfl rfl rfl rfl (fun b ap z q=>xp N b (⟨x1.b,x5.2.i,x5.2.h⟩:a7) (h1.x (Dj.sub (ap.o ph0.old) i1)) h7 q) ?_
  rintro x10 h v11 Φ_9 F7 ⟨ap7,fr7,v12,D7,X5,rfl,rfl,h12,i6,e7,h13⟩
  replace h1:=h1.fr fr7 (Dj.sub (ap7.o ph0.old) i1)
  replace h3:=h3.fr fr7 (ap7.q 3 rfl) (ap7.q 4 rfl)
  replace h5:=h5.fr fr7 (ap7.q 1 rfl) (Dj.sub (ap7.q 2 rfl) i2)
  refine soN 1 vd rfl ⟨rfl,h12.one,trivial⟩ rfl ?_
  refine en<|wtL [([]++(X5)),ob v12,[b_3],ob v6,X1,ob v4,D1] (smg [3,2] rfl (SP.eq (by simp [List.append_assoc]))) ?_
  exact wo [0,1,1,1,0,1] [0,0,0,0] (K (_,_,_,_,_,_,_,_) ⟨h,h12,(fun k hk=>(List.mem_append.2 (.inr ((fun k hk=>(List.mem_append.2 (.inr hk))) k (i6 k hk))))),h5,h13,h1⟩)
 refine WT.skip ?_
 exact wo [0,0,0,0,0,0] [0,0,0,0] (K (_,_,_,_,_,_,_,_) ⟨h,h3,(fun k hk=>(List.mem_append.2 (.inl hk))),h5,h7,h1⟩)
theorem qN  (w0:av Ψ Φ []) (p0:Int)  {r:Bool} (h:ja N p0=some r) :
  CB w0 prog 160 [.int .u8 p0] (.bool r):=by
 refine eN func160 rfl ntmps160 rfl w0 fun hF=>?_
 unfold ja at h
 refine atr 9 [] rfl ?_
 obtain ⟨b1,hb_1,h⟩:=bs h
 refine WL.cutN 3 [(8,.bool b1),(2,.bool false)] ?_ (fun K=>?_)
 rotate_left
 ·refine sp 5 hb_1 rfl (fun hb_1=>?_) fun hb_1=>?_
  ·refine arr 3 [] rfl ?_
   cases hb_1
   exact ku K
  ·refine arr 3 [] rfl ?_
   cases hb_1
   exact ku K
 refine la rfl<|en ?_
 exact rt hF h
theorem wg  (w0:av Ψ Φ []) (p0:Int)  {r:Bool} (h:oE N p0=some r) :
  CB w0 prog 236 [.int .u8 p0] (.bool r):=by
 refine eN func236 rfl ntmps236 rfl w0 fun hF=>?_
 unfold oE at h
 refine atr 9 [] rfl ?_
 obtain ⟨b1,hb_1,h⟩:=bs h
 refine WL.cutN 3 [(8,.bool b1),(2,.bool false)] ?_ (fun K=>?_)
 rotate_left
 ·refine sp 5 hb_1 rfl (fun hb_1=>?_) fun hb_1=>?_
  ·refine arr 3 [] rfl ?_
   cases hb_1
   exact ku K
  ·refine arr 3 [] rfl ?_
   cases hb_1
   exact ku K
 refine la rfl<|en ?_
 exact rt hF h
theorem oI  (w0:av Ψ Φ []) (p0:Int)  {r:Bool} (h:i8 N p0=some r) :
  CB w0 prog 210 [.int .u8 p0] (.bool r):=by
 refine eN func210 rfl ntmps210 rfl w0 fun hF=>?_
 unfold i8 at h
 refine atr 7 [] rfl<|qc h (qN N · p0 ·) rfl rfl rfl fun x1 h=>la rfl ?_
 obtain ⟨b1,hb_1,h⟩:=bs h
 refine WL.cutN 3 [(8,.bool b1),(0,.int .u8 p0),(2,.bool false)] ?_ (fun K=>?_)
 rotate_left
 ·refine sp 5 hb_1 rfl (fun hb_1=>?_) fun hb_1=>?_
  ·refine arr 3 [] rfl ?_
   cases hb_1
   exact ku K
  ·refine ly rfl rfl<|la rfl<|ly rfl rfl<|qc hb_1 (wg N · p0 ·) rfl rfl rfl fun x2 hb_1=>la rfl ?_
   cases hb_1
   exact ku K
 refine la rfl ?_
 obtain ⟨b2,hb_2,h⟩:=bs h
 refine WL.cutN 3 [(12,.bool b2),(2,.bool false)] ?_ (fun K=>?_)
 rotate_left
 ·refine sp 9 hb_2 rfl (fun hb_2=>?_) fun hb_2=>?_
  ·refine arr 3 [] rfl ?_
   cases hb_2
   exact ku K
  ·refine arr 3 [] rfl ?_
   cases hb_2
   exact ku K
 refine la rfl<|en ?_
 exact rt hF h
theorem sB  (w0:av Ψ Φ []) (p0:ByteArray) (p1:Int)  {r:Bool} (h:lS N p0 p1=some r) :
  CB w0 prog 161 [.string p0,iV p1] (.bool r):=by
 refine eN func161 rfl ntmps161 rfl w0 fun hF=>?_
 unfold lS at h
 refine atr 8 [] rfl<|lq (mL jG rfl rfl) rfl<|art 3 [] rfl ?_
 refine ch h rfl ?_ ?_ <;> intro h
 ·refine att 4 [] rfl ?_
  exact rt hF h
 refine att 7 [] rfl ?_
 refine lin (σ:=Int) (fun s=>[(0,.string p0),(5,iV s)]) (fun s=>St w0 Φ [] []) (fun m s=>eJ N p0 m s=some r) (0) N h (sx [] []) (fun n1 ih1 s hm=>?_)
 revert hm; revert s; intro s1 hm
 have h:eJ N p0 (n1+1) s1=some r:=hm
 show WT _ _ [(0,.string p0),(5,iV s1)] (St w0 Φ [] [])
 unfold eJ at h
 refine atr 5 [] rfl<|lq (mL jG rfl rfl) rfl<|la rfl<|en ?_
 refine ch h rfl ?_ ?_ <;> intro h
 ·refine atr 7 [] rfl ?_
  obtain ⟨y1,hy1,h⟩:=bs h
  refine lq (jK jG rfl rfl hy1) rfl<|qc h (oI N · (y1.toNat:Int) ·) rfl rfl rfl fun x1 h=>la rfl<|en ?_
  refine ch h rfl ?_ ?_ <;> intro h
  ·refine att 4 [] rfl ?_
   exact rt hF h
  refine att 7 [] rfl ?_
  exact lb [] [] (ih1 _ h)
 refine att 5 [] rfl ?_
 exact rt hF h
theorem iI  (w0:av Ψ Φ []) (p0:ByteArray)  {r:Bool} (h:fV N p0=some r) :
  CB w0 prog 96 [.string p0] (.bool r):=by
 refine eN func96 rfl ntmps96 rfl w0 fun hF=>?_
 unfold fV at h
 refine atr 7 [] rfl<|lq (mL jG rfl rfl) rfl<|arr 2 [] rfl ?_
 obtain ⟨b1,hb_1,h⟩:=bs h
 refine WL.cutN 4 [(10,.bool b1),(0,.string p0),(2,.bool false)] ?_ (fun K=>?_)
 rotate_left
 ·refine sp 6 hb_1 rfl (fun hb_1=>?_) fun hb_1=>?_
  ·refine ly rfl rfl<|la rfl<|ly rfl rfl ?_
   obtain ⟨y1,hy1,hb_1⟩:=bs hb_1
   refine lq (jK jG rfl rfl hy1) rfl<|ly rfl rfl<|qc hb_1 (qN N · (y1.toNat:Int) ·) rfl rfl rfl fun x1 hb_1=>la rfl ?_
   cases hb_1
   exact ku K
  ·refine arr 4 [] rfl ?_
   cases hb_1
   exact ku K
 refine la rfl ?_
 obtain ⟨b2,hb_2,h⟩:=bs h
 refine WL.cutN 3 [(14,.bool b2),(2,.bool false)] ?_ (fun K=>?_)
 rotate_left
 ·refine sp 11 hb_2 rfl (fun hb_2=>?_) fun hb_2=>?_
  ·refine ly rfl rfl<|la rfl<|ly rfl rfl<|qc hb_2 (sB N · p0 12 ·) rfl rfl rfl fun x2 hb_2=>la rfl ?_
   cases hb_2
   exact ku K
  ·refine arr 3 [] rfl ?_
   cases hb_2
   exact ku K
 refine la rfl<|en ?_
 exact rt hF h
theorem d7  (w0:av Ψ Φ []) (p0:Int) (p1:Int) (p2:Int)  {r:Bool} (h:cT N p0 p1 p2=some r) :
  CB w0 prog 97 [iV p0,iV p1,iV p2] (.bool r):=by
 refine eN func97 rfl ntmps97 rfl w0 fun hF=>?_
 unfold cT at h
 refine atr 10 [] rfl ?_
 obtain ⟨b1,hb_1,h⟩:=bs h
 refine WL.cutN 4 [(14,.bool b1),(6,.bool false)] ?_ (fun K=>?_)
 rotate_left
 ·refine sp 10 hb_1 rfl (fun hb_1=>?_) fun hb_1=>?_
  ·refine arr 4 [] rfl ?_
   cases hb_1
   exact ku K
  ·refine arr 4 [] rfl ?_
   cases hb_1
   exact ku K
 refine la rfl<|en ?_
 exact rt hF h
theorem mO (w0:av Ψ Φ []) (p0:af) (ph0_0:RSl bS 3 Ψ pG0_0 pv0_0 p0.Pats) (ph0_1:RSl bq 11 Ψ pG0_1 pv0_1 p0.Conds) (ph0_2:RSl ep 5 Ψ pG0_2 pv0_2 p0.Acts) {r:Int} (h:iA N p0=some r) :
  CB w0 prog 165 [.agg [.string p0.Name,iV p0.Sal,pv0_0,pv0_1,pv0_2].toArray] (iV r):=by
 refine eN func165 rfl ntmps165 rfl w0 fun hF=>?_
 unfold iA at h
 refine sr<|lbx rfl fun b_1=>arr 11 [2,0] rfl<|lnr ph0_0 rfl<|art 3 [] rfl ?_
 refine lin (σ:=Int × Int) (fun s=>[(3,iV s.1),(7,pv0_0),(8,iV (p0.Pats.length:Int)),(9,iV s.2)]) (fun s=>St w0 Φ [] []) (fun m s=>dD N p0 m s.1 s.2=some r) (0,0) N h (sx [] []) (fun n1 ih1 s hm=>?_)
 obtain ⟨s1,s2⟩:=s
 have h:dD N p0 (n1+1) s1 s2=some r:=hm
 show WT _ _ [(3,iV s1),(7,pv0_0),(8,iV (p0.Pats.length:Int)),(9,iV s2)] (St w0 Φ [] [])
 unfold dD at h
 refine att 5 [] rfl ?_
 refine ch h rfl ?_ ?_ <;> intro h
 ·refine atr 5 [] rfl ?_
  obtain ⟨x1,hx1,h⟩:=bs h
  obtain ⟨cs1,F1,-,g1,hb1,hs1,r1⟩:=ph0_0.el (ab hx1).2.2
  obtain ⟨v1,G1,rfl,hq1,h1⟩:=r1
  obtain rfl:=hq1.symm
  refine lia ph0_0 hx1 rfl<|lhx 0 3 g1 rfl<|lnz iU rfl fun b_2=>soN 0 mP rfl ⟨rfl,h1.one,rfl,trivial⟩ rfl ?_
  refine art 7 [2,0] rfl ?_
  refine ch h rfl ?_ ?_ <;> intro h
  ·refine att 10 [] rfl ?_
   exact lb [] [] (ih1 (_,_) h)
  refine att 6 [] rfl ?_
  exact lb [] [] (ih1 (_,_) h)
 refine att 6 [] rfl ?_
 exact rt hF h
end Go.Proofs.YtedmfnmbjglmbaaGreat
