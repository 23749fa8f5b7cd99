/- Printed by a program of ours: each Go function computes its Lean function. -/
import Derived.Test.YtinomobmcjnfjaaGreatProg
import Derived.Test.YtinomobmcjnfjaaGreatWKeptWalk2
namespace Go.Proofs.YtinomobmcjnfjaaGreat
open Eng Tryz
open Go.RowKit (Below)
set_option linter.unusedVariables false
set_option linter.unusedSimpArgs false

set_option maxRecDepth 100000
set_option maxHeartbeats 1000000
variable {Ψ Φ:Hp} {pv0_0 pv0 pv1 pv0_1 pv1_0 pv1_1:Value} {pG0_0 pG0 pG1 pG0_1 pG1_0 pG1_1 pD0_0:List Nat} {pb0:Nat} (N:Nat)
theorem vK (w0:aw Ψ Φ [[pb0]].flatten) (p0:a8) (p1:Int) (ph0_0:RSl (RI .u8) 1 Ψ pG0_0 pv0_0 p0.b) (pp0:Φ pb0=some (.cells #[pv0_0,iV p0.i,iV p0.h] 82 (0,0))) {r:cU × a8} (h:nJ N p0 p1=some r) :
  Calls prog 104 [pQ pb0,iV p1].toArray w0.w (bg Φ w0.w [[pb0]].flatten (fun Φ' Fs v=>∃ (sr_0_0:Value),v = .agg [iV r.1.Kind,.string r.1.Name,sr_0_0,iV r.1.N,.string r.1.Undo].toArray∧Fs=[ob sr_0_0,[pb0]]∧OSl cf 170 11 Φ' [] sr_0_0 r.1.Args∧r.2.b=p0.b∧Φ' pb0=some (.cells #[pv0_0,iV r.2.i,iV r.2.h] 82 (0,0)))):=by
 refine eL func104 rfl ntmps104 rfl (L:=[[pb0]]) w0 (fun hF=>?_)
 unfold nJ at h
 refine sr<|lnz rq rfl fun b_1=>arr 4 [] rfl ?_
 have rc1:RC (RI .i64) 1 Φ ([[],[],[],[],[],[],[],[]]:List (List Nat)) [iV 1,iV 1,iV 2,iV 3,iV 3,iV 4,iV 5,iV 6] ([1,1,2,3,3,4,5,6]:List Int):=RC.cons (c:=[iV 1]) (cells:=[iV 1,iV 2,iV 3,iV 3,iV 4,iV 5,iV 6]) ⟨rfl,rfl⟩ rfl (RC.cons (c:=[iV 1]) (cells:=[iV 2,iV 3,iV 3,iV 4,iV 5,iV 6]) ⟨rfl,rfl⟩ rfl (RC.cons (c:=[iV 2]) (cells:=[iV 3,iV 3,iV 4,iV 5,iV 6]) ⟨rfl,rfl⟩ rfl (RC.cons (c:=[iV 3]) (cells:=[iV 3,iV 4,iV 5,iV 6]) ⟨rfl,rfl⟩ rfl (RC.cons (c:=[iV 3]) (cells:=[iV 4,iV 5,iV 6]) ⟨rfl,rfl⟩ rfl (RC.cons (c:=[iV 4]) (cells:=[iV 5,iV 6]) ⟨rfl,rfl⟩ rfl (RC.cons (c:=[iV 5]) (cells:=[iV 6]) ⟨rfl,rfl⟩ rfl (RC.cons (c:=[iV 6]) (cells:=[]) ⟨rfl,rfl⟩ rfl (RC.nil _ _ _))))))))
 refine le' (aY (vs:=[(0,iV 1),(1,iV 1),(2,iV 2),(3,iV 3),(4,iV 3),(5,iV 4),(6,iV 5),(7,iV 6)]) (C:=#[iV 1,iV 1,iV 2,iV 3,iV 3,iV 4,iV 5,iV 6]) RI.lasts aW gB rfl rfl rfl rfl (ag EC (a7 (C':=[iV 1,iV 0,iV 0,iV 0,iV 0,iV 0,iV 0,iV 0]) rfl rfl rfl rfl rfl (a7 (C':=[iV 1,iV 1,iV 0,iV 0,iV 0,iV 0,iV 0,iV 0]) rfl rfl rfl rfl rfl (a7 (C':=[iV 1,iV 1,iV 2,iV 0,iV 0,iV 0,iV 0,iV 0]) rfl rfl rfl rfl rfl (a7 (C':=[iV 1,iV 1,iV 2,iV 3,iV 0,iV 0,iV 0,iV 0]) rfl rfl rfl rfl rfl (a7 (C':=[iV 1,iV 1,iV 2,iV 3,iV 3,iV 0,iV 0,iV 0]) rfl rfl rfl rfl rfl (a7 (C':=[iV 1,iV 1,iV 2,iV 3,iV 3,iV 4,iV 0,iV 0]) rfl rfl rfl rfl rfl (a7 (C':=[iV 1,iV 1,iV 2,iV 3,iV 3,iV 4,iV 5,iV 0]) rfl rfl rfl rfl rfl (a7 (C':=[iV 1,iV 1,iV 2,iV 3,iV 3,iV 4,iV 5,iV 6]) rfl rfl rfl rfl rfl (aa)))))))))) rfl rc1 rfl (by simpa using Kw.nil)) rfl ?_
 rintro v1 Φ_1 D1 ⟨fr1,h1⟩
 replace h1:OSl (RI .i64) 3 1 Φ_1 [] v1 ([1,1,2,3,3,4,5,6]:List Int):=by simpa using h1
 replace pp0:=fr1 _ _ (by simp) pp0
 refine kcb [1] h rfl rfl rfl rfl (fun b ap z q=>pw N b p0 ([1,1,2,3,3,4,5,6]:List Int) (ph0_0.y z) pp0 (h1.rsl.x (Dj.app (ap.q 0 rfl) dN)) q) ?_
 rintro x1 h v2 Φ_2 F1 ⟨ap1,fr2,rfl,rfl,e1,h2⟩
 refine lq (aQ (vs:=[(0,iV x1.1)]) (C:=#[iV x1.1,.string (⟨#[]⟩:ByteArray),.slice none 0 0,iV 0,.string (⟨#[]⟩:ByteArray)]) Eo rq rfl (a7 (C':=[iV x1.1,.string ⟨#[]⟩,.slice none 0 0,iV 0,.string ⟨#[]⟩]) rfl rfl rfl rfl rfl (aa))) rfl<|lnz rq rfl fun b_2=>soN 0 rI rfl ⟨rfl,rfl,rfl,rfl,rfl,trivial⟩ rfl ?_
 refine art 13 [0,0] rfl ?_
 refine ch h rfl ?_ ?_ <;> intro h
 ·refine atr 4 [] rfl<|kcb [0] h rfl rfl rfl rfl (fun b ap z q=>aL N b (⟨p0.b,x1.2.i,x1.2.h⟩:a8) p1 (ph0_0.y z) h2 q) ?_
  rintro x2 h v3 Φ_3 F2 ⟨ap2,fr3,rfl,rfl,e2,h3⟩
  refine lf sL rfl rfl rfl<|so1 0 wQ rfl rfl ?_
  refine arr 4 [5] rfl<|soN 1 rI rfl ⟨rfl,rfl,rfl,rfl,rfl,trivial⟩ rfl ?_
  refine en ?_
  refine WT.ret hF (az.one (aX xn rfl (fun w1 hw=>hw.rgO (i:=1) rfl 0 5 [iV x1.1,.string (⟨#[]⟩:ByteArray),.slice none 0 0,iV x2.1,.string (⟨#[]⟩:ByteArray)] rfl) rfl)) (fun w1 hw=>?_)
  cases h
  replace hw:=hw.addNil
  refine bc (js:=[0,0]) hw rfl ⟨.slice none 0 0,rfl,rfl,OSl.nil _ _ _ _,rfl,h3⟩
 refine att 6 [] rfl ?_
 refine cut (σ:=Bool) (fun s=>[(0,pQ pb0),(4,pQ b_1),(5,pQ b_2),(21,.bool s)]) (fun s=>St w0 Φ_2 [(b_2,.cells #[iV x1.1,.string (⟨#[]⟩:ByteArray),.slice none 0 0,iV 0,.string (⟨#[]⟩:ByteArray)] 158 (0,0)),(b_1,.cells #[iV 0,.string (⟨#[]⟩:ByteArray),.slice none 0 0,iV 0,.string (⟨#[]⟩:ByteArray)] 158 (0,0))] [[pb0]]) (fun s=>cO N p0 x1 s=some r) (fun s hm=>?_) (fun K=>?_)
 ·clear h
  revert hm; revert s; intro s1 hm
  have h:cO N p0 x1 s1=some r:=hm
  show WT _ _ [(0,pQ pb0),(4,pQ b_1),(5,pQ b_2),(21,.bool s1)] (St w0 Φ_2 [(b_2,.cells #[iV x1.1,.string (⟨#[]⟩:ByteArray),.slice none 0 0,iV 0,.string (⟨#[]⟩:ByteArray)] 158 (0,0)),(b_1,.cells #[iV 0,.string (⟨#[]⟩:ByteArray),.slice none 0 0,iV 0,.string (⟨#[]⟩:ByteArray)] 158 (0,0))] [[pb0]])
  unfold cO at h
  refine ch h rfl ?_ ?_ <;> intro h
  ·refine atr 3 [5] rfl<|soN 1 rI rfl ⟨rfl,rfl,rfl,rfl,rfl,trivial⟩ rfl ?_
   refine en ?_
   refine WT.ret hF (az.one (aX xn rfl (fun w1 hw=>hw.rgO (i:=1) rfl 0 5 [iV x1.1,.string (⟨#[]⟩:ByteArray),.slice none 0 0,iV 0,.string (⟨#[]⟩:ByteArray)] rfl) rfl)) (fun w1 hw=>?_)
   cases h
   replace hw:=hw.addNil
   refine bc (js:=[0,0]) hw rfl ⟨.slice none 0 0,rfl,rfl,OSl.nil _ _ _ _,rfl,h2⟩
  refine atr 5 [] rfl ?_
  have rc2:RC RS 1 Φ_2 ([[],[],[],[],[]]:List (List Nat)) [.string (⟨#[111,114,100,101,114]⟩:ByteArray),.string (⟨#[112,97,105,100]⟩:ByteArray),.string (⟨#[105,116,101,109]⟩:ByteArray),.string (⟨#[115,104,105,112]⟩:ByteArray),.string (⟨#[99,104,97,114,103,101]⟩:ByteArray)] ([(⟨#[111,114,100,101,114]⟩:ByteArray),(⟨#[112,97,105,100]⟩:ByteArray),(⟨#[105,116,101,109]⟩:ByteArray),(⟨#[115,104,105,112]⟩:ByteArray),(⟨#[99,104,97,114,103,101]⟩:ByteArray)]:List ByteArray):=RC.cons (c:=[.string (⟨#[111,114,100,101,114]⟩:ByteArray)]) (cells:=[.string (⟨#[112,97,105,100]⟩:ByteArray),.string (⟨#[105,116,101,109]⟩:ByteArray),.string (⟨#[115,104,105,112]⟩:ByteArray),.string (⟨#[99,104,97,114,103,101]⟩:ByteArray)]) ⟨rfl,rfl⟩ rfl (RC.cons (c:=[.string (⟨#[112,97,105,100]⟩:ByteArray)]) (cells:=[.string (⟨#[105,116,101,109]⟩:ByteArray),.string (⟨#[115,104,105,112]⟩:ByteArray),.string (⟨#[99,104,97,114,103,101]⟩:ByteArray)]) ⟨rfl,rfl⟩ rfl (RC.cons (c:=[.string (⟨#[105,116,101,109]⟩:ByteArray)]) (cells:=[.string (⟨#[115,104,105,112]⟩:ByteArray),.string (⟨#[99,104,97,114,103,101]⟩:ByteArray)]) ⟨rfl,rfl⟩ rfl (RC.cons (c:=[.string (⟨#[115,104,105,112]⟩:ByteArray)]) (cells:=[.string (⟨#[99,104,97,114,103,101]⟩:ByteArray)]) ⟨rfl,rfl⟩ rfl (RC.cons (c:=[.string (⟨#[99,104,97,114,103,101]⟩:ByteArray)]) (cells:=[]) ⟨rfl,rfl⟩ rfl (RC.nil _ _ _)))))
  refine le' (aY (vs:=[(0,.string (⟨#[111,114,100,101,114]⟩:ByteArray)),(1,.string (⟨#[112,97,105,100]⟩:ByteArray)),(2,.string (⟨#[105,116,101,109]⟩:ByteArray)),(3,.string (⟨#[115,104,105,112]⟩:ByteArray)),(4,.string (⟨#[99,104,97,114,103,101]⟩:ByteArray))]) (C:=#[.string (⟨#[111,114,100,101,114]⟩:ByteArray),.string (⟨#[112,97,105,100]⟩:ByteArray),.string (⟨#[105,116,101,109]⟩:ByteArray),.string (⟨#[115,104,105,112]⟩:ByteArray),.string (⟨#[99,104,97,114,103,101]⟩:ByteArray)]) RS.lasts ke rp rfl rfl rfl rfl (ag EZ (a7 (C':=[.string (⟨#[111,114,100,101,114]⟩:ByteArray),.string ⟨#[]⟩,.string ⟨#[]⟩,.string ⟨#[]⟩,.string ⟨#[]⟩]) rfl rfl rfl rfl rfl (a7 (C':=[.string (⟨#[111,114,100,101,114]⟩:ByteArray),.string (⟨#[112,97,105,100]⟩:ByteArray),.string ⟨#[]⟩,.string ⟨#[]⟩,.string ⟨#[]⟩]) rfl rfl rfl rfl rfl (a7 (C':=[.string (⟨#[111,114,100,101,114]⟩:ByteArray),.string (⟨#[112,97,105,100]⟩:ByteArray),.string (⟨#[105,116,101,109]⟩:ByteArray),.string ⟨#[]⟩,.string ⟨#[]⟩]) rfl rfl rfl rfl rfl (a7 (C':=[.string (⟨#[111,114,100,101,114]⟩:ByteArray),.string (⟨#[112,97,105,100]⟩:ByteArray),.string (⟨#[105,116,101,109]⟩:ByteArray),.string (⟨#[115,104,105,112]⟩:ByteArray),.string ⟨#[]⟩]) rfl rfl rfl rfl rfl (a7 (C':=[.string (⟨#[111,114,100,101,114]⟩:ByteArray),.string (⟨#[112,97,105,100]⟩:ByteArray),.string (⟨#[105,116,101,109]⟩:ByteArray),.string (⟨#[115,104,105,112]⟩:ByteArray),.string (⟨#[99,104,97,114,103,101]⟩:ByteArray)]) rfl rfl rfl rfl rfl (aa))))))) rfl rc2 rfl (by simpa using Kw.nil)) rfl ?_
  rintro v4 Φ_4 D2 ⟨fr4,h4⟩
  replace h4:OSl RS 9 1 Φ_4 [] v4 ([(⟨#[111,114,100,101,114]⟩:ByteArray),(⟨#[112,97,105,100]⟩:ByteArray),(⟨#[105,116,101,109]⟩:ByteArray),(⟨#[115,104,105,112]⟩:ByteArray),(⟨#[99,104,97,114,103,101]⟩:ByteArray)]:List ByteArray):=by simpa using h4
  replace h2:=fr4 _ _ (by simp) h2
  refine kcb [1] h rfl rfl rfl rfl (fun b ap z q=>eY N b (⟨p0.b,x1.2.i,x1.2.h⟩:a8) ([(⟨#[111,114,100,101,114]⟩:ByteArray),(⟨#[112,97,105,100]⟩:ByteArray),(⟨#[105,116,101,109]⟩:ByteArray),(⟨#[115,104,105,112]⟩:ByteArray),(⟨#[99,104,97,114,103,101]⟩:ByteArray)]:List ByteArray) (ph0_0.y z) h2 (h4.rsl.x (Dj.app (ap.q 0 rfl) dN)) q) ?_
  rintro x3 h v5 Φ_5 F3 ⟨ap3,fr5,rfl,rfl,e3,h5⟩
  refine lf AG rfl rfl rfl<|so1 0 Fv rfl rfl ?_
  refine art 12 [1,0] rfl ?_
  refine cut (σ:=Int) (fun s=>[(0,pQ pb0),(4,pQ b_1),(5,pQ b_2),(6,iV s)]) (fun s=>St w0 Φ_5 [(b_2,.cells #[iV x1.1,.string x3.1,.slice none 0 0,iV 0,.string (⟨#[]⟩:ByteArray)] 158 (0,0)),(b_1,.cells #[iV 0,.string (⟨#[]⟩:ByteArray),.slice none 0 0,iV 0,.string (⟨#[]⟩:ByteArray)] 158 (0,0))] [[pb0]]) (fun s=>hY N p0 x1 x3 s=some r) (fun s hm=>?_) (fun K=>?_)
  ·clear h
   revert hm; revert s; intro s2 hm
   have h:hY N p0 x1 x3 s2=some r:=hm
   show WT _ _ [(0,pQ pb0),(4,pQ b_1),(5,pQ b_2),(6,iV s2)] (St w0 Φ_5 [(b_2,.cells #[iV x1.1,.string x3.1,.slice none 0 0,iV 0,.string (⟨#[]⟩:ByteArray)] 158 (0,0)),(b_1,.cells #[iV 0,.string (⟨#[]⟩:ByteArray),.slice none 0 0,iV 0,.string (⟨#[]⟩:ByteArray)] 158 (0,0))] [[pb0]])
   unfold hY at h
   refine att 6 [] rfl<|wtS ?_
   have k1:=OSl.nil cf 170 11 Φ_5
   refine lin (σ:=Hp × (List bX) × Value × Int × Int × Int) (fun s=>[(0,pQ pb0),(4,pQ b_1),(5,pQ b_2),(6,iV s2),(7,iV s.2.2.2.1)]) (fun s=>St w0 s.1 [(b_2,.cells #[iV x1.1,.string x3.1,s.2.2.1,iV 0,.string (⟨#[]⟩:ByteArray)] 158 (0,0)),(b_1,.cells #[iV 0,.string (⟨#[]⟩:ByteArray),.slice none 0 0,iV 0,.string (⟨#[]⟩:ByteArray)] 158 (0,0))] [ob s.2.2.1,[pb0]]) (fun m s=>im N p0 x1 x3 s2 m s.2.1 s.2.2.2.1 s.2.2.2.2.1 s.2.2.2.2.2=some r∧(OSl cf 170 11 s.1 [] s.2.2.1 s.2.1)∧(s.1 pb0=some (.cells #[pv0_0,iV s.2.2.2.2.1,iV s.2.2.2.2.2] 82 (0,0)))) (Φ_5,([]:List bX),(.slice none 0 0),0,x3.2.i,x3.2.h) N ⟨h,k1,h5⟩ (sx [0,0] [0,0]) (fun n3 ih3 s hm=>?_)
   obtain ⟨Φ_6,s3,u1,s4,s5,s6⟩:=s
   obtain ⟨h,k2,k3⟩:=hm
   dsimp only at h k2 k3 ⊢
   unfold im at h
   refine att 7 [] rfl ?_
   refine ch h rfl ?_ ?_ <;> intro h
   ·refine att 3 [] rfl<|wm [0,1] [7] rfl<|amm 3 [0,2,1,0,2] [0,1] rfl rfl ?_
    obtain ⟨x4,hx4,h⟩:=bs h
    refine WM.one 3 (by kernel_rfl) (mc rfl (fun _ v Φx D w1 hq hw=>Kn.of Kf.nil (ai2 0 1 rfl rfl) hw) (bZ (js:=[1]) (R:=[ob u1]) CE rfl rfl (fun w1 hw ap hl=>vB N (bx hw ap hl) (⟨p0.b,s5,s6⟩:a8) (ph0_0.y (hw.uo ap)) k3  hx4)) rfl ?_)
    rintro v6 Φ_7 F4 ⟨ap4,fr6,rfl,rfl,e4,h6⟩
    replace k2:=k2.fr fr6 (ap4.q 0 rfl) dN
    have rc3:RC cf 11 Φ_7 ([[]]:List (List Nat)) [.string x4.1.Op,iV x4.1.L.K,.string x4.1.L.S,iV x4.1.L.V.K,iV x4.1.L.V.N,.string x4.1.L.V.S,iV x4.1.R.K,.string x4.1.R.S,iV x4.1.R.V.K,iV x4.1.R.V.N,.string x4.1.R.V.S] ([x4.1]:List bX):=RC.cons (c:=[.string x4.1.Op,iV x4.1.L.K,.string x4.1.L.S,iV x4.1.L.V.K,iV x4.1.L.V.N,.string x4.1.L.V.S,iV x4.1.R.K,.string x4.1.R.S,iV x4.1.R.V.K,iV x4.1.R.V.N,.string x4.1.R.V.S]) (cells:=[]) ⟨rfl,rfl⟩ rfl (RC.nil _ _ _)
    refine WM.one 4 (by kernel_rfl) (me rfl (fun _ v Φx D w1 hq hw=>Kn.of Kf.nil (ai2 0 1 rfl rfl) hw) (aY (vs:=[(0,.agg [.string x4.1.Op,iV x4.1.L.K,.string x4.1.L.S,iV x4.1.L.V.K,iV x4.1.L.V.N,.string x4.1.L.V.S,iV x4.1.R.K,.string x4.1.R.S,iV x4.1.R.V.K,iV x4.1.R.V.N,.string x4.1.R.V.S].toArray)]) (C:=#[.string x4.1.Op,iV x4.1.L.K,.string x4.1.L.S,iV x4.1.L.V.K,iV x4.1.L.V.N,.string x4.1.L.V.S,iV x4.1.R.K,.string x4.1.R.S,iV x4.1.R.V.K,iV x4.1.R.V.N,.string x4.1.R.V.S]) cf.lasts ta t4 rfl rfl rfl rfl (ag Bg (a7 (C':=[.string x4.1.Op,iV x4.1.L.K,.string x4.1.L.S,iV x4.1.L.V.K,iV x4.1.L.V.N,.string x4.1.L.V.S,iV x4.1.R.K,.string x4.1.R.S,iV x4.1.R.V.K,iV x4.1.R.V.N,.string x4.1.R.V.S]) rfl rfl rfl rfl rfl (aa))) rfl rc3 rfl (by simpa using Kw.nil)) rfl ?_)
    rintro v7 Φ_8 D3 ⟨fr7,h7⟩
    replace h7:OSl cf 170 11 Φ_8 [] v7 ([x4.1]:List bX):=by simpa using h7
    replace k2:=k2.f0 fr7
    replace h6:=fr7 _ _ (by simp) h6
    obtain ⟨x5,hx5,h⟩:=bs h
    refine WM.one 5 (by kernel_rfl) (me rfl (fun _ v Φx D w1 hq hw=>Kn.of Kf.nil (ai2 0 1 rfl rfl) hw) (bB cf.lasts cf.one cf.flat ta EP rfl rfl rfl rfl rfl (js:=[2]) (Rr:=[ob v7,[pb0]]) rfl k2 h7.rsl hx5) rfl ?_)
    rintro v8 Φ_9 D4 ⟨⟨ap5,fr8⟩,h8⟩
    replace h6:=fr8 _ _ ((ap5.q 1 rfl) _ (by simp)) h6
    refine amm 1 [6,2] [0,1] rfl rfl ?_
    refine on1 7 (ms1 0 rfl nk EM rfl h8.one ?_)
    refine WM.nil (by kernel_rfl)<|att 6 [] rfl ?_
    exact lb [0,1] [0,0] (ih3 (_,_,_,_,_,_) ⟨h,h8,h6⟩)
   refine att 8 [0,0] rfl ?_
   refine cut (σ:=Hp × Int × Int × Int) (fun s=>[(0,pQ pb0),(4,pQ b_1),(5,pQ b_2)]) (fun s=>St w0 s.1 [(b_2,.cells #[iV x1.1,.string x3.1,u1,iV s.2.2.2,.string (⟨#[]⟩:ByteArray)] 158 (0,0)),(b_1,.cells #[iV 0,.string (⟨#[]⟩:ByteArray),.slice none 0 0,iV 0,.string (⟨#[]⟩:ByteArray)] 158 (0,0))] [ob u1,[pb0]]) (fun s=>ip N p0 x1 x3 s3 s.2.1 s.2.2.1 s.2.2.2=some r∧(OSl cf 170 11 s.1 [] u1 s3)∧(s.1 pb0=some (.cells #[pv0_0,iV s.2.1,iV s.2.2.1] 82 (0,0)))) (fun s hm=>?_) (fun K=>?_)
   ·clear h
    obtain ⟨Φ_10,s7,s8,s9⟩:=s
    obtain ⟨h,k2,k4⟩:=hm
    dsimp only at h k2 k4 ⊢
    unfold ip at h
    refine atr 7 [0,0] rfl ?_
    refine WL.cutS 3 (σ:=Hp × Bool × Int × Int) (fun s=>[(0,pQ pb0),(4,pQ b_1),(5,pQ b_2),(57,.bool s.2.1)]) (fun s=>St w0 s.1 [(b_2,.cells #[iV x1.1,.string x3.1,u1,iV s9,.string (⟨#[]⟩:ByteArray)] 158 (0,0)),(b_1,.cells #[iV 0,.string (⟨#[]⟩:ByteArray),.slice none 0 0,iV 0,.string (⟨#[]⟩:ByteArray)] 158 (0,0))] [ob u1,[pb0]]) (fun s=>fZ N p0 x1 x3 s3 s9 s.2.1 s.2.2.1 s.2.2.2=some r∧(OSl cf 170 11 s.1 [] u1 s3)∧(s.1 pb0=some (.cells #[pv0_0,iV s.2.2.1,iV s.2.2.2] 82 (0,0)))) (fun s hm=>?_) (fun K=>?_)
    ·clear h
     obtain ⟨Φ_11,s10,s11,s12⟩:=s
     obtain ⟨h,k2,k5⟩:=hm
     replace h:fZ N p0 x1 x3 s3 s9 s10 s11 s12=some r:=h
     replace k2:OSl cf 170 11 Φ_11 [] u1 s3:=k2
     replace k5:Φ_11 pb0=some (.cells #[pv0_0,iV s11,iV s12] 82 (0,0)):=k5
     show WL _ _ _ _ [(0,pQ pb0),(4,pQ b_1),(5,pQ b_2),(57,.bool s10)] (St w0 Φ_11 [(b_2,.cells #[iV x1.1,.string x3.1,u1,iV s9,.string (⟨#[]⟩:ByteArray)] 158 (0,0)),(b_1,.cells #[iV 0,.string (⟨#[]⟩:ByteArray),.slice none 0 0,iV 0,.string (⟨#[]⟩:ByteArray)] 158 (0,0))] [ob u1,[pb0]])
     unfold fZ at h
     refine en ?_
     refine cut (σ:=Hp × Int × Int × ByteArray) (fun s=>[(4,pQ b_1),(5,pQ b_2)]) (fun s=>St w0 s.1 [(b_2,.cells #[iV x1.1,.string x3.1,u1,iV s9,.string s.2.2.2] 158 (0,0)),(b_1,.cells #[iV 0,.string (⟨#[]⟩:ByteArray),.slice none 0 0,iV 0,.string (⟨#[]⟩:ByteArray)] 158 (0,0))] [ob u1,[pb0]]) (fun s=>kV N p0 x1 x3 s3 s9 s.2.1 s.2.2.1 s.2.2.2=some r∧(OSl cf 170 11 s.1 [] u1 s3)∧(s.1 pb0=some (.cells #[pv0_0,iV s.2.1,iV s.2.2.1] 82 (0,0)))) (fun s hm=>?_) (fun K=>?_)
     ·clear h
      obtain ⟨Φ_12,s13,s14,s15⟩:=s
      obtain ⟨h,k2,k6⟩:=hm
      dsimp only at h k2 k6 ⊢
      unfold kV at h
      refine atr 3 [5] rfl<|soN 1 rI rfl ⟨rfl,rfl,k2.one,rfl,rfl,trivial⟩ rfl ?_
      refine en ?_
      exact rtg [0,0] hF (az.one (aX xn rfl (fun w1 hw=>hw.rgO (i:=1) rfl 0 5 [iV x1.1,.string x3.1,u1,iV s9,.string s15] rfl) rfl)) rfl (by cases h; exact fun w1 hw=>⟨u1,rfl,rfl,k2,rfl,k6⟩)
     refine ch h rfl ?_ ?_ <;> intro h
     ·refine atr 2 [] rfl ?_
      have rc4:RC RS 1 Φ_11 ([[],[]]:List (List Nat)) [.string (⟨#[114,101,102,117,110,100]⟩:ByteArray),.string (⟨#[99,97,110,99,101,108]⟩:ByteArray)] ([(⟨#[114,101,102,117,110,100]⟩:ByteArray),(⟨#[99,97,110,99,101,108]⟩:ByteArray)]:List ByteArray):=RC.cons (c:=[.string (⟨#[114,101,102,117,110,100]⟩:ByteArray)]) (cells:=[.string (⟨#[99,97,110,99,101,108]⟩:ByteArray)]) ⟨rfl,rfl⟩ rfl (RC.cons (c:=[.string (⟨#[99,97,110,99,101,108]⟩:ByteArray)]) (cells:=[]) ⟨rfl,rfl⟩ rfl (RC.nil _ _ _))
      refine le' (aY (vs:=[(0,.string (⟨#[114,101,102,117,110,100]⟩:ByteArray)),(1,.string (⟨#[99,97,110,99,101,108]⟩:ByteArray))]) (C:=#[.string (⟨#[114,101,102,117,110,100]⟩:ByteArray),.string (⟨#[99,97,110,99,101,108]⟩:ByteArray)]) RS.lasts ke rp rfl rfl rfl rfl (ag xp (a7 (C':=[.string (⟨#[114,101,102,117,110,100]⟩:ByteArray),.string ⟨#[]⟩]) rfl rfl rfl rfl rfl (a7 (C':=[.string (⟨#[114,101,102,117,110,100]⟩:ByteArray),.string (⟨#[99,97,110,99,101,108]⟩:ByteArray)]) rfl rfl rfl rfl rfl (aa)))) rfl rc4 rfl (by simpa using Kw.nil)) rfl ?_
      rintro v9 Φ_13 D5 ⟨fr9,h9⟩
      replace h9:OSl RS 9 1 Φ_13 [] v9 ([(⟨#[114,101,102,117,110,100]⟩:ByteArray),(⟨#[99,97,110,99,101,108]⟩:ByteArray)]:List ByteArray):=by simpa using h9
      replace k2:=k2.f0 fr9
      replace k5:=fr9 _ _ (by simp) k5
      refine kcb [2] h rfl rfl rfl rfl (fun b ap z q=>eY N b (⟨p0.b,s11,s12⟩:a8) ([(⟨#[114,101,102,117,110,100]⟩:ByteArray),(⟨#[99,97,110,99,101,108]⟩:ByteArray)]:List ByteArray) (ph0_0.y z) k5 (h9.rsl.x (Dj.app (ap.q 0 rfl) dN)) q) ?_
      rintro x6 h v10 Φ_14 F5 ⟨ap6,fr10,rfl,rfl,e5,h10⟩
      replace k2:=k2.fr fr10 (ap6.q 1 rfl) dN
      refine lf Am rfl rfl rfl<|so1 0 Fv rfl rfl ?_
      refine en ?_
      exact wo [2,0] [0,0] (K (_,_,_,_) ⟨h,k2,h10⟩)
     refine WT.skip ?_
     exact wo [0,0] [0,0] (K (_,_,_,_) ⟨h,k2,k5⟩)
    refine sp 54 h rfl (fun h=>?_) fun h=>?_
    ·refine ly rfl rfl<|la rfl<|ly rfl rfl<|kcb [1] h rfl rfl rfl rfl (fun b ap z q=>em N b (⟨p0.b,s7,s8⟩:a8) 2 (ph0_0.y z) k4 q) ?_
     rintro x7 h v11 Φ_15 F6 ⟨ap7,fr11,rfl,rfl,e6,h11⟩
     replace k2:=k2.fr fr11 (ap7.q 0 rfl) dN
     refine la rfl<|WL.mono (l':=[(0,pQ pb0),(4,pQ b_1),(5,pQ b_2),(57,.bool x7.1)]) (S':=St w0 Φ_15 [(b_2,.cells #[iV x1.1,.string x3.1,u1,iV s9,.string (⟨#[]⟩:ByteArray)] 158 (0,0)),(b_1,.cells #[iV 0,.string (⟨#[]⟩:ByteArray),.slice none 0 0,iV 0,.string (⟨#[]⟩:ByteArray)] 158 (0,0))] [ob u1,[pb0]]) (by exact ⟨rfl,rfl,rfl,rfl,trivial⟩) (sx [1,0] [0,0]) ?_
     exact K (Φ_15,x7.1,x7.2.i,x7.2.h) ⟨h,k2,h11⟩
    refine arr 3 [] rfl<|WL.mono (l':=[(0,pQ pb0),(4,pQ b_1),(5,pQ b_2),(57,.bool false)]) (S':=St w0 Φ_10 [(b_2,.cells #[iV x1.1,.string x3.1,u1,iV s9,.string (⟨#[]⟩:ByteArray)] 158 (0,0)),(b_1,.cells #[iV 0,.string (⟨#[]⟩:ByteArray),.slice none 0 0,iV 0,.string (⟨#[]⟩:ByteArray)] 158 (0,0))] [ob u1,[pb0]]) (by exact ⟨rfl,rfl,rfl,rfl,trivial⟩) (sx [0,0] [0,0]) ?_
    exact K (Φ_10,false,s7,s8) ⟨h,k2,k4⟩
   refine ch h rfl ?_ ?_ <;> intro h
   ·refine atr 2 [] rfl ?_
    have rc5:RC (RI .i64) 1 Φ_6 ([[],[],[],[]]:List (List Nat)) [iV 0,iV 1,iV 5,iV 100000] ([0,1,5,100000]:List Int):=RC.cons (c:=[iV 0]) (cells:=[iV 1,iV 5,iV 100000]) ⟨rfl,rfl⟩ rfl (RC.cons (c:=[iV 1]) (cells:=[iV 5,iV 100000]) ⟨rfl,rfl⟩ rfl (RC.cons (c:=[iV 5]) (cells:=[iV 100000]) ⟨rfl,rfl⟩ rfl (RC.cons (c:=[iV 100000]) (cells:=[]) ⟨rfl,rfl⟩ rfl (RC.nil _ _ _))))
    refine le' (aY (vs:=[(0,iV 0),(1,iV 1),(2,iV 5),(3,iV 100000)]) (C:=#[iV 0,iV 1,iV 5,iV 100000]) RI.lasts aW gB rfl rfl rfl rfl (ag Fl (a7 (C':=[iV 0,iV 0,iV 0,iV 0]) rfl rfl rfl rfl rfl (a7 (C':=[iV 0,iV 1,iV 0,iV 0]) rfl rfl rfl rfl rfl (a7 (C':=[iV 0,iV 1,iV 5,iV 0]) rfl rfl rfl rfl rfl (a7 (C':=[iV 0,iV 1,iV 5,iV 100000]) rfl rfl rfl rfl rfl (aa)))))) rfl rc5 rfl (by simpa using Kw.nil)) rfl ?_
    rintro v12 Φ_16 D6 ⟨fr12,h12⟩
    replace h12:OSl (RI .i64) 3 1 Φ_16 [] v12 ([0,1,5,100000]:List Int):=by simpa using h12
    replace k2:=k2.f0 fr12
    replace k3:=fr12 _ _ (by simp) k3
    refine kcb [2] h rfl rfl rfl rfl (fun b ap z q=>pw N b (⟨p0.b,s5,s6⟩:a8) ([0,1,5,100000]:List Int) (ph0_0.y z) k3 (h12.rsl.x (Dj.app (ap.q 0 rfl) dN)) q) ?_
    rintro x8 h v13 Φ_17 F7 ⟨ap8,fr13,rfl,rfl,e7,h13⟩
    replace k2:=k2.fr fr13 (ap8.q 1 rfl) dN
    refine lf sL rfl rfl rfl<|so1 0 wQ rfl rfl ?_
    refine en ?_
    exact wo [2,0] [0,0] (K (_,_,_,_) ⟨h,k2,h13⟩)
   refine WT.skip ?_
   exact wo [0,0] [0,0] (K (_,_,_,_) ⟨h,k2,k3⟩)
  refine ch h rfl ?_ ?_ <;> intro h
  ·refine att 3 [] rfl ?_
   exact wo [0] [0,0] (K _ h)
  refine WT.skip ?_
  exact wo [0] [0,0] (K _ h)
 refine ch h rfl ?_ ?_ <;> intro h
 ·refine WT.skip ?_
  exact wo [0] [0,0] (K _ h)
 refine att 4 [] rfl ?_
 exact wo [0] [0,0] (K _ h)
theorem vQ (w0:aw Ψ Φ [[pb0]].flatten) (p0:a8) (p1:ByteArray) (ph0_0:RSl (RI .u8) 1 Ψ pG0_0 pv0_0 p0.b) (pp0:Φ pb0=some (.cells #[pv0_0,iV p0.i,iV p0.h] 82 (0,0))) {r:an × a8} (h:nw N p0 p1=some r) :
  Calls prog 67 [pQ pb0,.string p1].toArray w0.w (bg Φ w0.w [[pb0]].flatten (fun Φ' Fs v=>∃ (sr_0_0:Value) (Dr_0_0:List Nat) (sr_0_1:Value) (sr_0_2:Value) (Dr_0_2:List Nat),v = .agg [.string r.1.Name,iV r.1.Sal,sr_0_0,sr_0_1,sr_0_2].toArray∧Fs=[ob sr_0_0,Dr_0_0,ob sr_0_1,ob sr_0_2,Dr_0_2,[pb0]]∧OSl d5 128 3 Φ' Dr_0_0 sr_0_0 r.1.Pats∧OSl bL 154 11 Φ' [] sr_0_1 r.1.Conds∧OSl iB 158 5 Φ' Dr_0_2 sr_0_2 r.1.Acts∧r.2.b=p0.b∧Φ' pb0=some (.cells #[pv0_0,iV r.2.i,iV r.2.h] 82 (0,0)))):=by
 refine eL func67 rfl ntmps67 rfl (L:=[[pb0]]) w0 (fun hF=>?_)
 unfold nw at h
 refine sr<|lnz rB rfl fun b_1=>arr 5 [] rfl ?_
 have rc1:RC (RI .i64) 1 Φ ([[],[],[],[],[]]:List (List Nat)) [iV 0,iV 0,iV 5,iV (-5),iV 100] ([0,0,5,(-5),100]:List Int):=RC.cons (c:=[iV 0]) (cells:=[iV 0,iV 5,iV (-5),iV 100]) ⟨rfl,rfl⟩ rfl (RC.cons (c:=[iV 0]) (cells:=[iV 5,iV (-5),iV 100]) ⟨rfl,rfl⟩ rfl (RC.cons (c:=[iV 5]) (cells:=[iV (-5),iV 100]) ⟨rfl,rfl⟩ rfl (RC.cons (c:=[iV (-5)]) (cells:=[iV 100]) ⟨rfl,rfl⟩ rfl (RC.cons (c:=[iV 100]) (cells:=[]) ⟨rfl,rfl⟩ rfl (RC.nil _ _ _)))))
 refine le' (aY (vs:=[(0,iV 0),(1,iV 0),(2,iV 5),(3,iV (-5)),(4,iV 100)]) (C:=#[iV 0,iV 0,iV 5,iV (-5),iV 100]) RI.lasts aW gB rfl rfl rfl rfl (ag Fy (a7 (C':=[iV 0,iV 0,iV 0,iV 0,iV 0]) rfl rfl rfl rfl rfl (a7 (C':=[iV 0,iV 0,iV 0,iV 0,iV 0]) rfl rfl rfl rfl rfl (a7 (C':=[iV 0,iV 0,iV 5,iV 0,iV 0]) rfl rfl rfl rfl rfl (a7 (C':=[iV 0,iV 0,iV 5,iV (-5),iV 0]) rfl rfl rfl rfl rfl (a7 (C':=[iV 0,iV 0,iV 5,iV (-5),iV 100]) rfl rfl rfl rfl rfl (aa))))))) rfl rc1 rfl (by simpa using Kw.nil)) rfl ?_
 rintro v1 Φ_1 D1 ⟨fr1,h1⟩
 replace h1:OSl (RI .i64) 3 1 Φ_1 [] v1 ([0,0,5,(-5),100]:List Int):=by simpa using h1
 replace pp0:=fr1 _ _ (by simp) pp0
 refine kcb [1] h rfl rfl rfl rfl (fun b ap z q=>pw N b p0 ([0,0,5,(-5),100]:List Int) (ph0_0.y z) pp0 (h1.rsl.x (Dj.app (ap.q 0 rfl) dN)) q) ?_
 rintro x1 h v2 Φ_2 F1 ⟨ap1,fr2,rfl,rfl,e1,h2⟩
 refine lq (aQ (vs:=[(0,.string p1),(1,iV x1.1)]) (C:=#[.string p1,iV x1.1,.slice none 0 0,.slice none 0 0,.slice none 0 0]) En rB rfl (a7 (C':=[.string p1,iV 0,.slice none 0 0,.slice none 0 0,.slice none 0 0]) rfl rfl rfl rfl rfl (a7 (C':=[.string p1,iV x1.1,.slice none 0 0,.slice none 0 0,.slice none 0 0]) rfl rfl rfl rfl rfl (aa)))) rfl<|lnz rB rfl fun b_2=>soN 0 uZ rfl ⟨rfl,rfl,rfl,rfl,rfl,trivial⟩ rfl ?_
 refine arr 5 [] rfl<|kcb [0] h rfl rfl rfl rfl (fun b ap z q=>aL N b (⟨p0.b,x1.2.i,x1.2.h⟩:a8) 3 (ph0_0.y z) h2 q) ?_
 rintro x2 h v3 Φ_3 F2 ⟨ap2,fr3,rfl,rfl,e2,h3⟩
 refine art 4 [] rfl<|wtS<|wt0 ?_
 have k1:=OSl.nil d5 128 3 Φ_3
 refine lin (σ:=Hp × (List av) × Value × List Nat × Int × Int × Int) (fun s=>[(0,pQ pb0),(4,pQ b_1),(5,pQ b_2),(6,iV s.2.2.2.2.1)]) (fun s=>St w0 s.1 [(b_2,.cells #[.string p1,iV x1.1,s.2.2.1,.slice none 0 0,.slice none 0 0] 120 (0,0)),(b_1,.cells #[.string (⟨#[]⟩:ByteArray),iV 0,.slice none 0 0,.slice none 0 0,.slice none 0 0] 120 (0,0))] [s.2.2.2.1,ob s.2.2.1,[pb0]]) (fun m s=>io N p0 p1 x1 m s.2.1 s.2.2.2.2.1 s.2.2.2.2.2.1 s.2.2.2.2.2.2=some r∧(OSl d5 128 3 s.1 s.2.2.2.1 s.2.2.1 s.2.1)∧(s.1 pb0=some (.cells #[pv0_0,iV s.2.2.2.2.2.1,iV s.2.2.2.2.2.2] 82 (0,0)))) (Φ_3,([]:List av),(.slice none 0 0),[],wz (1+x2.1),x2.2.i,x2.2.h) N ⟨h,k1,h3⟩ (sx [0,0,0] [0,0]) (fun n1 ih1 s hm=>?_)
 obtain ⟨Φ_4,s1,u1,D2,s2,s3,s4⟩:=s
 obtain ⟨h,k2,k3⟩:=hm
 dsimp only at h k2 k3 ⊢
 unfold io at h
 refine att 6 [] rfl ?_
 refine ch h rfl ?_ ?_ <;> intro h
 ·refine att 3 [] rfl<|wm [0,1] [7] rfl<|amm 3 [0,2,1,0,2] [0,1] rfl rfl ?_
  obtain ⟨x3,hx3,h⟩:=bs h
  refine WM.one 3 (by kernel_rfl) (mc rfl (fun _ v Φx D w1 hq hw=>Kn.of Kf.nil (ai2 0 1 rfl rfl) hw) (bZ (js:=[2]) (R:=[D2,ob u1]) zK rfl rfl (fun w1 hw ap hl=>qU N (bx hw ap hl) (⟨p0.b,s3,s4⟩:a8) false (ph0_0.y (hw.uo ap)) k3  hx3)) rfl ?_)
  rintro v4 Φ_5 F3 ⟨ap3,fr4,v5,rfl,rfl,h4,e3,h5⟩
  replace k2:=k2.fr fr4 (ap3.q 1 rfl) (ap3.q 0 rfl)
  have rc2:RC d5 3 Φ_5 ([(ob v5++[])]:List (List Nat)) [.string x3.1.Kind,v5,.bool x3.1.Not] ([x3.1]:List av):=RC.cons (c:=[.string x3.1.Kind,v5,.bool x3.1.Not]) (cells:=[]) ⟨v5,rfl,rfl,h4⟩ rfl (RC.nil _ _ _)
  refine WM.one 4 (by kernel_rfl) (me rfl (fun _ v Φx D w1 hq hw=>Kn.of Kf.nil (ai2 0 1 rfl rfl) hw) (aY (vs:=[(0,.agg [.string x3.1.Kind,v5,.bool x3.1.Not].toArray)]) (C:=#[.string x3.1.Kind,v5,.bool x3.1.Not]) d5.lasts o7 jY rfl rfl rfl rfl (ag tS (a7 (C':=[.string x3.1.Kind,v5,.bool x3.1.Not]) rfl rfl rfl rfl rfl (aa))) rfl rc2 rfl (RC.kn d5.knows rc2)) rfl ?_)
  rintro v6 Φ_6 D3 ⟨fr5,h6⟩
  replace h6:OSl d5 128 3 Φ_6 ((ob v5++[])) v6 ([x3.1]:List av):=by simpa [List.append_assoc] using h6
  replace k2:=k2.f0 fr5
  replace h5:=fr5 _ _ (by simp) h5
  refine WM.conv (S':=St w0 Φ_6 [(b_2,.cells #[.string p1,iV x1.1,u1,.slice none 0 0,.slice none 0 0] 120 (0,0)),(b_1,.cells #[.string (⟨#[]⟩:ByteArray),iV 0,.slice none 0 0,.slice none 0 0,.slice none 0 0] 120 (0,0))] [((ob v5++[])),ob v6,[pb0],D2,ob u1]) (fun w1 hw=>hw.merge (js:=[1]) rfl (SP.eq (by simp [List.append_assoc,bv]))) ?_
  obtain ⟨x4,hx4,h⟩:=bs h
  refine WM.one 5 (by kernel_rfl) (me rfl (fun _ v Φx D w1 hq hw=>Kn.of Kf.nil (ai2 0 1 rfl rfl) hw) (bU d5.lasts d5.one o7 yz rfl rfl rfl rfl rfl (js:=[4]) (Rr:=[((ob v5++[])),ob v6,[pb0],D2]) rfl k2 h6 (fun ap=>ap.q 3 rfl) (fun ap=>ap.q 0 rfl) hx4) rfl ?_)
  rintro v7 Φ_7 D4 ⟨⟨ap4,fr6⟩,h7⟩
  replace h5:=fr6 _ _ ((ap4.q 2 rfl) _ (by simp)) h5
  refine WM.conv (S':=St w0 Φ_7 [(b_2,.cells #[.string p1,iV x1.1,u1,.slice none 0 0,.slice none 0 0] 120 (0,0)),(b_1,.cells #[.string (⟨#[]⟩:ByteArray),iV 0,.slice none 0 0,.slice none 0 0,.slice none 0 0] 120 (0,0))] [(D2++((ob v5++[]))),ob v7,ob v6,[pb0]]) (fun w1 hw=>hw.merge (js:=[4,1]) rfl (SP.eq (by simp)))<|amm 1 [6,2] [0,1] rfl rfl ?_
  refine on1 7 (ms1 0 rfl nk BR rfl h7.one ?_)
  refine WM.nil (by kernel_rfl)<|att 6 [] rfl ?_
  exact lb [0,0,1] [0,0] (ih1 (_,_,_,_,_,_,_) ⟨h,h7,h5⟩)
 refine atr 5 [] rfl<|kcb [2] h rfl rfl rfl rfl (fun b ap z q=>em N b (⟨p0.b,s3,s4⟩:a8) 3 (ph0_0.y z) k3 q) ?_
 rintro x5 h v8 Φ_8 F4 ⟨ap5,fr7,rfl,rfl,e4,h8⟩
 replace k2:=k2.fr fr7 (ap5.q 1 rfl) (ap5.q 0 rfl)
 refine en ?_
 refine cut (σ:=Hp × (List av) × Value × List Nat × Int × Int) (fun s=>[(0,pQ pb0),(4,pQ b_1),(5,pQ b_2)]) (fun s=>St w0 s.1 [(b_2,.cells #[.string p1,iV x1.1,s.2.2.1,.slice none 0 0,.slice none 0 0] 120 (0,0)),(b_1,.cells #[.string (⟨#[]⟩:ByteArray),iV 0,.slice none 0 0,.slice none 0 0,.slice none 0 0] 120 (0,0))] [[pb0],s.2.2.2.1,ob s.2.2.1]) (fun s=>ik N p0 p1 x1 s.2.1 s.2.2.2.2.1 s.2.2.2.2.2=some r∧(OSl d5 128 3 s.1 s.2.2.2.1 s.2.2.1 s.2.1)∧(s.1 pb0=some (.cells #[pv0_0,iV s.2.2.2.2.1,iV s.2.2.2.2.2] 82 (0,0)))) (fun s hm=>?_) (fun K=>?_)
 ·clear h
  obtain ⟨Φ_9,s5,u2,D5,s6,s7⟩:=s
  obtain ⟨h,k4,k5⟩:=hm
  dsimp only at h k4 k5 ⊢
  unfold ik at h
  refine atr 3 [5] rfl<|kab h rfl rfl rfl (fun b z q=>pU N b (⟨p1,x1.1,s5,[],[]⟩:an) (k4.rslG d5.gives) (RSl.nil _ _ _) (RSl.nil _ _ _) q) ?_
  rintro x6 h v9 Φ_10 F5 ⟨ap6,fr8,v10,rfl,rfl,h9⟩
  replace k4:=k4.fr fr8 (ap6.q 2 rfl) (ap6.q 1 rfl)
  replace k5:=fr8 _ _ ((ap6.q 0 rfl) _ (by simp)) k5
  refine arr 6 [] rfl<|kcb [1] h rfl rfl rfl rfl (fun b ap z q=>em N b (⟨p0.b,s6,s7⟩:a8) 3 (ph0_0.y z) k5 q) ?_
  rintro x7 h v11 Φ_11 F6 ⟨ap7,fr9,rfl,rfl,e5,h10⟩
  replace k4:=k4.fr fr9 (ap7.q 2 rfl) (ap7.q 1 rfl)
  replace h9:=h9.fr fr9 (ap7.q 0 rfl) dN
  refine en<|wtS ?_
  have k6:=OSl.nil bL 154 11 Φ_11
  refine cut (σ:=Hp × (List dK) × Value × Int × Int) (fun s=>[(0,pQ pb0),(4,pQ b_1),(5,pQ b_2),(7,v9)]) (fun s=>St w0 s.1 [(b_2,.cells #[.string p1,iV x1.1,u2,s.2.2.1,.slice none 0 0] 120 (0,0)),(b_1,.cells #[.string (⟨#[]⟩:ByteArray),iV 0,.slice none 0 0,.slice none 0 0,.slice none 0 0] 120 (0,0))] [ob s.2.2.1,[pb0],ob v9,D5,ob u2]) (fun s=>hU N p0 p1 x1 s5 x6 s.2.1 s.2.2.2.1 s.2.2.2.2=some r∧(OSl d5 128 3 s.1 D5 u2 s5)∧(OSl RS 9 1 s.1 [] v9 x6)∧(OSl bL 154 11 s.1 [] s.2.2.1 s.2.1)∧(s.1 pb0=some (.cells #[pv0_0,iV s.2.2.2.1,iV s.2.2.2.2] 82 (0,0)))) (fun s hm=>?_) (fun K=>?_)
  ·clear h
   obtain ⟨Φ_12,s8,u3,s9,s10⟩:=s
   obtain ⟨h,k4,h9,k7,k8⟩:=hm
   dsimp only at h k4 h9 k7 k8 ⊢
   unfold hU at h
   refine atr 4 [] rfl<|kcb [1] h rfl rfl rfl rfl (fun b ap z q=>aL N b (⟨p0.b,s9,s10⟩:a8) 3 (ph0_0.y z) k8 q) ?_
   rintro x8 h v12 Φ_13 F7 ⟨ap8,fr10,rfl,rfl,e6,h11⟩
   replace k4:=k4.fr fr10 (ap8.q 3 rfl) (ap8.q 2 rfl)
   replace h9:=h9.fr fr10 (ap8.q 1 rfl) dN
   replace k7:=k7.fr fr10 (ap8.q 0 rfl) dN
   refine art 4 [] rfl<|wtS<|wt0 ?_
   have k9:=OSl.nil iB 158 5 Φ_13
   refine lin (σ:=Hp × (List cU) × Value × List Nat × Int × Int × Int) (fun s=>[(0,pQ pb0),(4,pQ b_1),(5,pQ b_2),(7,v9),(9,iV s.2.2.2.2.1)]) (fun s=>St w0 s.1 [(b_2,.cells #[.string p1,iV x1.1,u2,u3,s.2.2.1] 120 (0,0)),(b_1,.cells #[.string (⟨#[]⟩:ByteArray),iV 0,.slice none 0 0,.slice none 0 0,.slice none 0 0] 120 (0,0))] [s.2.2.2.1,ob s.2.2.1,[pb0],ob u3,ob v9,D5,ob u2]) (fun m s=>fm N p0 p1 x1 s5 x6 s8 m s.2.1 s.2.2.2.2.1 s.2.2.2.2.2.1 s.2.2.2.2.2.2=some r∧(OSl d5 128 3 s.1 D5 u2 s5)∧(OSl RS 9 1 s.1 [] v9 x6)∧(OSl bL 154 11 s.1 [] u3 s8)∧(OSl iB 158 5 s.1 s.2.2.2.1 s.2.2.1 s.2.1)∧(s.1 pb0=some (.cells #[pv0_0,iV s.2.2.2.2.2.1,iV s.2.2.2.2.2.2] 82 (0,0)))) (Φ_13,([]:List cU),(.slice none 0 0),[],wz (1+x8.1),x8.2.i,x8.2.h) N ⟨h,k4,h9,k7,k9,h11⟩ (sx [0,0,0,0,0,0,0] [0,0]) (fun n4 ih4 s hm=>?_)
   obtain ⟨Φ_14,s11,u4,D6,s12,s13,s14⟩:=s
   obtain ⟨h,k4,h9,k7,k10,k11⟩:=hm
   dsimp only at h k4 h9 k7 k10 k11 ⊢
   unfold fm at h
   refine att 6 [] rfl ?_
   refine ch h rfl ?_ ?_ <;> intro h
   ·refine atr 7 [5] rfl<|qc h (m5 N · (⟨p1,x1.1,s5,s8,s11⟩:an) (k4.rslG d5.gives) k7.rsl (k10.rslG iB.gives) ·) rfl rfl rfl fun x9 h=>kcb [2] h rfl rfl rfl rfl (fun b ap z q=>vK N b (⟨p0.b,s13,s14⟩:a8) x9 (ph0_0.y z) k11 q) ?_
    rintro x10 h v13 Φ_15 F8 ⟨ap9,fr11,v14,rfl,rfl,h12,e7,h13⟩
    replace k4:=k4.fr fr11 (ap9.q 5 rfl) (ap9.q 4 rfl)
    replace h9:=h9.fr fr11 (ap9.q 3 rfl) dN
    replace k7:=k7.fr fr11 (ap9.q 2 rfl) dN
    replace k10:=k10.fr fr11 (ap9.q 1 rfl) (ap9.q 0 rfl)
    refine lnz rq rfl fun b_3=>soN 0 rI rfl ⟨rfl,rfl,h12.one,rfl,rfl,trivial⟩ rfl ?_
    refine art 7 [] rfl ?_
    refine lin (σ:=Hp × (List bX) × Int) (fun s=>[(0,pQ pb0),(4,pQ b_1),(5,pQ b_2),(7,v9),(9,iV s12),(10,pQ b_3),(11,iV s.2.2)]) (fun s=>St w0 s.1 [(b_3,.cells #[iV x10.1.Kind,.string x10.1.Name,v14,iV x10.1.N,.string x10.1.Undo] 158 (0,0)),(b_2,.cells #[.string p1,iV x1.1,u2,u3,u4] 120 (0,0)),(b_1,.cells #[.string (⟨#[]⟩:ByteArray),iV 0,.slice none 0 0,.slice none 0 0,.slice none 0 0] 120 (0,0))] [ob v14,[pb0],D6,ob u4,ob u3,ob v9,D5,ob u2]) (fun m s=>fj N x6 s11 s12 (fm N p0 p1 x1 s5 x6 s8 n4) x10 m s.2.1 s.2.2=some r∧(OSl d5 128 3 s.1 D5 u2 s5)∧(OSl RS 9 1 s.1 [] v9 x6)∧(OSl bL 154 11 s.1 [] u3 s8)∧(OSl iB 158 5 s.1 D6 u4 s11)∧(OSl cf 170 11 s.1 [] v14 s.2.1)∧(s.1 pb0=some (.cells #[pv0_0,iV x10.2.i,iV x10.2.h] 82 (0,0)))) (Φ_15,x10.1.Args,0) N ⟨h,k4,h9,k7,k10,h12,h13⟩ (sx [0,0,0,0,0,0,0,0] [0,0,0]) (fun n5 ih5 s hm=>?_)
    obtain ⟨Φ_16,s15,s16⟩:=s
    obtain ⟨h,k4,h9,k7,k10,k12,k13⟩:=hm
    dsimp only at h k4 h9 k7 k10 k12 k13 ⊢
    unfold fj at h
    refine atr 6 [2,0] rfl<|lno k12 rfl<|la rfl<|en ?_
    refine ch h rfl ?_ ?_ <;> intro h
    ·refine att 4 [] rfl ?_
     obtain ⟨x11,hx11,h⟩:=bs h
     obtain ⟨cs1,F9,h14,r1⟩:=k12.focusF cf.flat hx11
     obtain ⟨rfl,-⟩:=r1
     refine WT.mix (Kn w0 Φ_16 (ob u3++(ob u4++ob v14)) [(b_3,.cells #[iV x10.1.Kind,.string x10.1.Name,v14,iV x10.1.N,.string x10.1.Undo] 158 (0,0)),(b_2,.cells #[.string p1,iV x1.1,u2,u3,u4] 120 (0,0)),(b_1,.cells #[.string (⟨#[]⟩:ByteArray),iV 0,.slice none 0 0,.slice none 0 0,.slice none 0 0] 120 (0,0))]) (fun i=>match i with | 13=>false | _=>true) cc (fun _ h=>h.drew)<|mq 0 rfl (by kernel_rfl) (kn Kf.id (ai3 0 1 2 rfl rfl rfl)) (ab kE rfl) rfl ?_
     refine mq 1 rfl (by kernel_rfl) (kn Kf.id (ai3 0 1 2 rfl rfl rfl)) (au xg rfl (fun w1 hw=>hw.rgO (i:=0) rfl 2 1 [v14] rfl)) rfl<|ma 2 rfl (by kernel_rfl) (kn Kf.id (ai3 0 1 2 rfl rfl rfl)) rfl<|mq 3 rfl (by kernel_rfl) (kn Kf.id (ai3 0 1 2 rfl rfl rfl)) (ab kE rfl) rfl<|mq 4 rfl (by kernel_rfl) (kn Kf.id (ai3 0 1 2 rfl rfl rfl)) (au xg rfl (fun w1 hw=>hw.rgO (i:=0) rfl 2 1 [v14] rfl)) rfl<|ma 5 rfl (by kernel_rfl) (kn Kf.id (ai3 0 1 2 rfl rfl rfl)) rfl ?_
     refine mq 6 rfl (by kernel_rfl) (kn Kf.id (ai3 0 1 2 rfl rfl rfl)) (aZ ta rfl rfl h14 hx11) rfl<|mq 7 rfl (by kernel_rfl) (kn Kf.id (ai3 0 1 2 rfl rfl rfl)) (ab sM rfl) rfl<|mq 8 rfl (by kernel_rfl) (kn Kf.id (ai3 0 1 2 rfl rfl rfl)) (aI kM rfl (fun w1 hw=>hw.rg (List.mem_append.2 (.inr (List.mem_append.2 (.inr h14.hb)))) (h14.rg.of_eq 1 5 rfl rfl:rg _ _ _ [iV x11.L.K,.string x11.L.S,iV x11.L.V.K,iV x11.L.V.N,.string x11.L.V.S])) rfl) rfl<|ma 9 rfl (by kernel_rfl) (kn Kf.id (ai3 0 1 2 rfl rfl rfl)) rfl ?_
     obtain ⟨x12,hx12,h⟩:=bs h
     refine on1 10 (mp rfl (fun _ w1 hw=>Kn.of Kf.id (ai3 0 1 2 rfl rfl rfl) hw) (pcP rfl (mt N · x11.L x6 h9.rsl hx12)) rfl ?_)
     refine mqT 11 [12,13] rfl (by kernel_rfl) (kn Kf.id (ai3 0 1 2 rfl rfl rfl)) (aZ ta rfl rfl h14 hx11) rfl<|mq 12 rfl (by kernel_rfl) (kn Kf.id (ai3 0 1 2 rfl rfl rfl)) (ab sM rfl) rfl ?_
     refine WM.one 13 (by kernel_rfl) (mu rfl (fun hc=>by cases hc) (wF (js:=[0]) (Rr:=[[pb0],D6,ob u4,ob u3,ob v9,D5,ob u2]) (o:=1) (vs:=[iV x12.K,.string x12.S,iV x12.V.K,iV x12.V.N,.string x12.V.S]) (cs':=[.string x11.Op,iV x12.K,.string x12.S,iV x12.V.K,iV x12.V.N,.string x12.V.S,iV x11.R.K,.string x11.R.S,iV x11.R.V.K,iV x11.R.V.N,.string x11.R.V.S]) cf.lasts gy rfl rfl rfl rfl ⟨rfl,rfl,rfl,rfl,rfl,trivial⟩ rfl h14 rfl rfl (fun ap=>dN)) rfl ?_)
     rintro Φ_17 D8 ⟨⟨ap10,fr12⟩,h15⟩
     replace k4:=k4.fr fr12 (ap10.q 6 rfl) (ap10.q 5 rfl)
     replace h9:=h9.fr fr12 (ap10.q 4 rfl) dN
     replace k7:=k7.fr fr12 (ap10.q 3 rfl) dN
     replace k10:=k10.fr fr12 (ap10.q 2 rfl) (ap10.q 1 rfl)
     replace k13:=fr12 _ _ ((ap10.q 0 rfl) _ (by simp)) k13
     refine WM.nil (by kernel_rfl)<|atr 5 [2,0] rfl<|lih h15 hx11 rfl<|lf wa rfl rfl rfl<|lgx 0 0 h15.rg rfl<|la rfl<|en ?_
     refine ch h rfl ?_ ?_ <;> intro h
     ·refine WT.mix (Kn w0 Φ_17 (ob u3++(ob u4++ob v14)) [(b_3,.cells #[iV x10.1.Kind,.string x10.1.Name,v14,iV x10.1.N,.string x10.1.Undo] 158 (0,0)),(b_2,.cells #[.string p1,iV x1.1,u2,u3,u4] 120 (0,0)),(b_1,.cells #[.string (⟨#[]⟩:ByteArray),iV 0,.slice none 0 0,.slice none 0 0,.slice none 0 0] 120 (0,0))]) (fun i=>match i with | 13=>false | _=>true) cc (fun _ h=>h.drew)<|mq 0 rfl (by kernel_rfl) (kn Kf.id (ai3 0 1 2 rfl rfl rfl)) (ab kE rfl) rfl ?_
      refine mq 1 rfl (by kernel_rfl) (kn Kf.id (ai3 0 1 2 rfl rfl rfl)) (au xg rfl (fun w1 hw=>hw.rgO (i:=0) rfl 2 1 [v14] rfl)) rfl<|ma 2 rfl (by kernel_rfl) (kn Kf.id (ai3 0 1 2 rfl rfl rfl)) rfl<|mq 3 rfl (by kernel_rfl) (kn Kf.id (ai3 0 1 2 rfl rfl rfl)) (ab kE rfl) rfl<|mq 4 rfl (by kernel_rfl) (kn Kf.id (ai3 0 1 2 rfl rfl rfl)) (au xg rfl (fun w1 hw=>hw.rgO (i:=0) rfl 2 1 [v14] rfl)) rfl<|ma 5 rfl (by kernel_rfl) (kn Kf.id (ai3 0 1 2 rfl rfl rfl)) rfl ?_
      refine mq 6 rfl (by kernel_rfl) (kn Kf.id (ai3 0 1 2 rfl rfl rfl)) (aZ ta rfl rfl h15 hx11) rfl<|mq 7 rfl (by kernel_rfl) (kn Kf.id (ai3 0 1 2 rfl rfl rfl)) (ab qH rfl) rfl<|mq 8 rfl (by kernel_rfl) (kn Kf.id (ai3 0 1 2 rfl rfl rfl)) (aI kM rfl (fun w1 hw=>hw.rg (List.mem_append.2 (.inr (List.mem_append.2 (.inr h15.hb)))) (h15.rg.of_eq 6 5 rfl rfl:rg _ _ _ [iV x11.R.K,.string x11.R.S,iV x11.R.V.K,iV x11.R.V.N,.string x11.R.V.S])) rfl) rfl<|ma 9 rfl (by kernel_rfl) (kn Kf.id (ai3 0 1 2 rfl rfl rfl)) rfl ?_
      obtain ⟨x13,hx13,h⟩:=bs h
      refine on1 10 (mp rfl (fun _ w1 hw=>Kn.of Kf.id (ai3 0 1 2 rfl rfl rfl) hw) (pcP rfl (mt N · x11.R x6 h9.rsl hx13)) rfl ?_)
      refine mqT 11 [12,13] rfl (by kernel_rfl) (kn Kf.id (ai3 0 1 2 rfl rfl rfl)) (aZ ta rfl rfl h15 hx11) rfl<|mq 12 rfl (by kernel_rfl) (kn Kf.id (ai3 0 1 2 rfl rfl rfl)) (ab qH rfl) rfl ?_
      refine WM.one 13 (by kernel_rfl) (mu rfl (fun hc=>by cases hc) (wF (js:=[0]) (Rr:=[[pb0],D6,ob u4,ob u3,ob v9,D5,ob u2]) (o:=6) (vs:=[iV x13.K,.string x13.S,iV x13.V.K,iV x13.V.N,.string x13.V.S]) (cs':=[.string x11.Op,iV x12.K,.string x12.S,iV x12.V.K,iV x12.V.N,.string x12.V.S,iV x13.K,.string x13.S,iV x13.V.K,iV x13.V.N,.string x13.V.S]) cf.lasts gy rfl rfl rfl rfl ⟨rfl,rfl,rfl,rfl,rfl,trivial⟩ rfl h15 rfl rfl (fun ap=>dN)) rfl ?_)
      rintro Φ_18 D9 ⟨⟨ap11,fr13⟩,h16⟩
      replace k4:=k4.fr fr13 (ap11.q 6 rfl) (ap11.q 5 rfl)
      replace h9:=h9.fr fr13 (ap11.q 4 rfl) dN
      replace k7:=k7.fr fr13 (ap11.q 3 rfl) dN
      replace k10:=k10.fr fr13 (ap11.q 2 rfl) (ap11.q 1 rfl)
      replace k13:=fr13 _ _ ((ap11.q 0 rfl) _ (by simp)) k13
      refine WM.nil (by kernel_rfl)<|att 6 [] rfl ?_
      have h17:=h16.unfocusF cf.flat (x':=(⟨x11.Op,x12,x13⟩:bX)) ⟨rfl,rfl⟩
      exact lb [0,0,0,0,0,0,0,0] [0,0,0] (ih5 (_,_,_) ⟨h,k4,h9,k7,k10,h17,k13⟩)
     refine att 7 [] rfl ?_
     have h18:=h15.unfocusF cf.flat (x':=(⟨x11.Op,x12,x11.R⟩:bX)) ⟨rfl,rfl⟩
     exact lb [0,0,0,0,0,0,0,0] [0,0,0] (ih5 (_,_,_) ⟨h,k4,h9,k7,k10,h18,k13⟩)
    refine atr 5 [4,32,5] rfl ?_
    have rc3:RC iB 5 Φ_16 ([(ob v14++[])]:List (List Nat)) [iV x10.1.Kind,.string x10.1.Name,v14,iV x10.1.N,.string x10.1.Undo] ([(⟨x10.1.Kind,x10.1.Name,s15,x10.1.N,x10.1.Undo⟩:cU)]:List cU):=RC.cons (c:=[iV x10.1.Kind,.string x10.1.Name,v14,iV x10.1.N,.string x10.1.Undo]) (cells:=[]) ⟨v14,rfl,rfl,k12⟩ rfl (RC.nil _ _ _)
    refine le' (aY (vs:=[(0,.agg [iV x10.1.Kind,.string x10.1.Name,v14,iV x10.1.N,.string x10.1.Undo].toArray)]) (C:=#[iV x10.1.Kind,.string x10.1.Name,v14,iV x10.1.N,.string x10.1.Undo]) iB.lasts AZ rq rfl rfl rfl rfl (ag Bv (a7 (C':=[iV x10.1.Kind,.string x10.1.Name,v14,iV x10.1.N,.string x10.1.Undo]) rfl rfl rfl rfl rfl (aa))) rfl rc3 rfl (RC.kn iB.knows rc3)) rfl ?_
    rintro v15 Φ_19 D10 ⟨fr14,h19⟩
    replace h19:OSl iB 158 5 Φ_19 ((ob v14++[])) v15 ([(⟨x10.1.Kind,x10.1.Name,s15,x10.1.N,x10.1.Undo⟩:cU)]:List cU):=by simpa [List.append_assoc] using h19
    replace k4:=k4.f0 fr14
    replace h9:=h9.f0 fr14
    replace k7:=k7.f0 fr14
    replace k10:=k10.f0 fr14
    replace k13:=fr14 _ _ (by simp) k13
    refine wlL [((ob v14++[])),ob v15,[pb0],D6,ob u4,ob u3,ob v9,D5,ob u2] (smg [1] rfl (SP.eq (by simp [List.append_assoc,bv]))) ?_
    obtain ⟨x14,hx14,h⟩:=bs h
    refine le' (bU iB.lasts iB.one AZ DV rfl rfl rfl rfl rfl (js:=[4]) (Rr:=[((ob v14++[])),ob v15,[pb0],D6,ob u3,ob v9,D5,ob u2]) rfl k10 h19 (fun ap=>ap.q 3 rfl) (fun ap=>ap.q 0 rfl) hx14) rfl ?_
    rintro v16 Φ_20 D11 ⟨⟨ap12,fr15⟩,h20⟩
    replace k4:=k4.fr fr15 (ap12.q 7 rfl) (ap12.q 6 rfl)
    replace h9:=h9.fr fr15 (ap12.q 5 rfl) dN
    replace k7:=k7.fr fr15 (ap12.q 4 rfl) dN
    replace k13:=fr15 _ _ ((ap12.q 2 rfl) _ (by simp)) k13
    refine wlL [(D6++((ob v14++[]))),ob v16,ob v15,[pb0],ob u3,ob v9,D5,ob u2] (smg [4,1] rfl (SP.eq (by simp)))<|lf A5 rfl rfl rfl<|so1 1 E7 rfl h20.one ?_
    refine art 7 [] rfl ?_
    exact lb [0,0,1,1,1,1,1] [1,1] (ih4 (_,_,_,_,_,_,_) ⟨h,k4,h9,k7,h20,k13⟩)
   refine atr 4 [5] rfl<|soN 1 uZ rfl ⟨rfl,rfl,k4.one,k7.one,k10.one,trivial⟩ rfl ?_
   refine en ?_
   exact rtg [6,5,3,1,0,0] hF (az.one (aX mF rfl (fun w1 hw=>hw.rgO (i:=1) rfl 0 5 [.string p1,iV x1.1,u2,u3,u4] rfl) rfl)) rfl (by cases h; exact fun w1 hw=>⟨u2,D5,u3,u4,D6,rfl,rfl,k4,k7,k10,rfl,k11⟩)
  refine ch h rfl ?_ ?_ <;> intro h
  ·refine sr<|la rfl<|kcb [1] h rfl rfl rfl rfl (fun b ap z q=>vp N b (⟨p0.b,x7.2.i,x7.2.h⟩:a8) (ph0_0.y z) h10 q) ?_
   rintro x15 h v17 Φ_21 F10 ⟨ap13,fr16,rfl,rfl,e8,h21⟩
   replace k4:=k4.fr fr16 (ap13.q 3 rfl) (ap13.q 2 rfl)
   replace h9:=h9.fr fr16 (ap13.q 1 rfl) dN
   replace k6:=k6.fr fr16 (ap13.q 0 rfl) dN
   refine lnz sQ rfl fun b_4=>soN 0 xl rfl ⟨rfl,rfl,rfl,rfl,rfl,rfl,rfl,rfl,rfl,rfl,rfl,trivial⟩ rfl ?_
   refine arr 6 [1,5] rfl<|qc h (mt N · x15.1.L x6 h9.rsl ·) rfl rfl rfl fun x16 h=>lf w9 rfl rfl rfl<|soN 0 gy rfl ⟨rfl,rfl,rfl,rfl,rfl,trivial⟩ rfl ?_
   refine arr 6 [6,5] rfl<|qc h (mt N · x15.1.R x6 h9.rsl ·) rfl rfl rfl fun x17 h=>lf w5 rfl rfl rfl<|soN 0 gy rfl ⟨rfl,rfl,rfl,rfl,rfl,trivial⟩ rfl ?_
   refine arr 5 [3,32,11] rfl ?_
   have rc4:RC bL 11 Φ_21 ([[]]:List (List Nat)) [iV x15.1.Op,iV x16.K,.string x16.S,iV x16.V.K,iV x16.V.N,.string x16.V.S,iV x17.K,.string x17.S,iV x17.V.K,iV x17.V.N,.string x17.V.S] ([(⟨x15.1.Op,x16,x17⟩:dK)]:List dK):=RC.cons (c:=[iV x15.1.Op,iV x16.K,.string x16.S,iV x16.V.K,iV x16.V.N,.string x16.V.S,iV x17.K,.string x17.S,iV x17.V.K,iV x17.V.N,.string x17.V.S]) (cells:=[]) ⟨rfl,rfl⟩ rfl (RC.nil _ _ _)
   refine le' (aY (vs:=[(0,.agg [iV x15.1.Op,iV x16.K,.string x16.S,iV x16.V.K,iV x16.V.N,.string x16.V.S,iV x17.K,.string x17.S,iV x17.V.K,iV x17.V.N,.string x17.V.S].toArray)]) (C:=#[iV x15.1.Op,iV x16.K,.string x16.S,iV x16.V.K,iV x16.V.N,.string x16.V.S,iV x17.K,.string x17.S,iV x17.V.K,iV x17.V.N,.string x17.V.S]) bL.lasts Cc sQ rfl rfl rfl rfl (ag Bt (a7 (C':=[iV x15.1.Op,iV x16.K,.string x16.S,iV x16.V.K,iV x16.V.N,.string x16.V.S,iV x17.K,.string x17.S,iV x17.V.K,iV x17.V.N,.string x17.V.S]) rfl rfl rfl rfl rfl (aa))) rfl rc4 rfl (by simpa using Kw.nil)) rfl ?_
   rintro v18 Φ_22 D12 ⟨fr17,h22⟩
   replace h22:OSl bL 154 11 Φ_22 [] v18 ([(⟨x15.1.Op,x16,x17⟩:dK)]:List dK):=by simpa using h22
   replace k4:=k4.f0 fr17
   replace h9:=h9.f0 fr17
   replace k6:=k6.f0 fr17
   replace h21:=fr17 _ _ (by simp) h21
   obtain ⟨x18,hx18,h⟩:=bs h
   refine le' (bB bL.lasts bL.one bL.flat Cc Ef rfl rfl rfl rfl rfl (js:=[2]) (Rr:=[ob v18,[pb0],ob v9,D5,ob u2]) rfl k6 h22.rsl hx18) rfl ?_
   rintro v19 Φ_23 D13 ⟨⟨ap14,fr18⟩,h23⟩
   replace k4:=k4.fr fr18 (ap14.q 4 rfl) (ap14.q 3 rfl)
   replace h9:=h9.fr fr18 (ap14.q 2 rfl) dN
   replace h21:=fr18 _ _ ((ap14.q 1 rfl) _ (by simp)) h21
   refine lf Au rfl rfl rfl<|so1 1 Fm rfl h23.one ?_
   refine en ?_
   exact wo [0,1,1,1,1] [1,1] (K (_,_,_,_,_) ⟨h,k4,h9,h23,h21⟩)
  refine WT.skip ?_
  exact wo [0,0,0,0,0] [0,0] (K (_,_,_,_,_) ⟨h,k4,h9,k6,h10⟩)
 refine ch h rfl ?_ ?_ <;> intro h
 ·refine wm [0,1] [7] rfl<|amm 3 [0,2,1,0,2] [0,1] rfl rfl ?_
  obtain ⟨x19,hx19,h⟩:=bs h
  refine WM.one 3 (by kernel_rfl) (mc rfl (fun _ v Φx D w1 hq hw=>Kn.of Kf.nil (ai2 0 1 rfl rfl) hw) (bZ (js:=[0]) (R:=[D2,ob u1]) zK rfl rfl (fun w1 hw ap hl=>qU N (bx hw ap hl) (⟨p0.b,x5.2.i,x5.2.h⟩:a8) true (ph0_0.y (hw.uo ap)) h8  hx19)) rfl ?_)
  rintro v20 Φ_24 F11 ⟨ap15,fr19,v21,rfl,rfl,h24,e9,h25⟩
  replace k2:=k2.fr fr19 (ap15.q 1 rfl) (ap15.q 0 rfl)
  have rc5:RC d5 3 Φ_24 ([(ob v21++[])]:List (List Nat)) [.string x19.1.Kind,v21,.bool x19.1.Not] ([x19.1]:List av):=RC.cons (c:=[.string x19.1.Kind,v21,.bool x19.1.Not]) (cells:=[]) ⟨v21,rfl,rfl,h24⟩ rfl (RC.nil _ _ _)
  refine WM.one 4 (by kernel_rfl) (me rfl (fun _ v Φx D w1 hq hw=>Kn.of Kf.nil (ai2 0 1 rfl rfl) hw) (aY (vs:=[(0,.agg [.string x19.1.Kind,v21,.bool x19.1.Not].toArray)]) (C:=#[.string x19.1.Kind,v21,.bool x19.1.Not]) d5.lasts o7 jY rfl rfl rfl rfl (ag tS (a7 (C':=[.string x19.1.Kind,v21,.bool x19.1.Not]) rfl rfl rfl rfl rfl (aa))) rfl rc5 rfl (RC.kn d5.knows rc5)) rfl ?_)
  rintro v22 Φ_25 D14 ⟨fr20,h26⟩
  replace h26:OSl d5 128 3 Φ_25 ((ob v21++[])) v22 ([x19.1]:List av):=by simpa [List.append_assoc] using h26
  replace k2:=k2.f0 fr20
  replace h25:=fr20 _ _ (by simp) h25
  refine WM.conv (S':=St w0 Φ_25 [(b_2,.cells #[.string p1,iV x1.1,u1,.slice none 0 0,.slice none 0 0] 120 (0,0)),(b_1,.cells #[.string (⟨#[]⟩:ByteArray),iV 0,.slice none 0 0,.slice none 0 0,.slice none 0 0] 120 (0,0))] [((ob v21++[])),ob v22,[pb0],D2,ob u1]) (fun w1 hw=>hw.merge (js:=[1]) rfl (SP.eq (by simp [List.append_assoc,bv]))) ?_
  obtain ⟨x20,hx20,h⟩:=bs h
  refine WM.one 5 (by kernel_rfl) (me rfl (fun _ v Φx D w1 hq hw=>Kn.of Kf.nil (ai2 0 1 rfl rfl) hw) (bU d5.lasts d5.one o7 yz rfl rfl rfl rfl rfl (js:=[4]) (Rr:=[((ob v21++[])),ob v22,[pb0],D2]) rfl k2 h26 (fun ap=>ap.q 3 rfl) (fun ap=>ap.q 0 rfl) hx20) rfl ?_)
  rintro v23 Φ_26 D15 ⟨⟨ap16,fr21⟩,h27⟩
  replace h25:=fr21 _ _ ((ap16.q 2 rfl) _ (by simp)) h25
  refine WM.conv (S':=St w0 Φ_26 [(b_2,.cells #[.string p1,iV x1.1,u1,.slice none 0 0,.slice none 0 0] 120 (0,0)),(b_1,.cells #[.string (⟨#[]⟩:ByteArray),iV 0,.slice none 0 0,.slice none 0 0,.slice none 0 0] 120 (0,0))] [(D2++((ob v21++[]))),ob v23,ob v22,[pb0]]) (fun w1 hw=>hw.merge (js:=[4,1]) rfl (SP.eq (by simp)))<|amm 1 [6,2] [0,1] rfl rfl ?_
  refine on1 7 (ms1 0 rfl nk BR rfl h27.one ?_)
  refine WM.nil (by kernel_rfl) ?_
  exact wo [3,0,0] [0,0] (K (_,_,_,_,_,_) ⟨h,h27,h25⟩)
 refine WT.skip ?_
 exact wo [0,0,0] [0,0] (K (_,_,_,_,_,_) ⟨h,k2,h8⟩)
theorem uY (w0:aw Ψ Φ [[pb0]].flatten) (p0:a8) (ph0_0:RSl (RI .u8) 1 Ψ pG0_0 pv0_0 p0.b) (pp0:Φ pb0=some (.cells #[pv0_0,iV p0.i,iV p0.h] 82 (0,0))) {r:bm × a8} (h:lU N p0=some r) :
  Calls prog 33 [pQ pb0].toArray w0.w (bg Φ w0.w [[pb0]].flatten (fun Φ' Fs v=>∃ (sr_0_0:Value) (Dr_0_0:List Nat),v = .agg [.string r.1.Name,sr_0_0].toArray∧Fs=[ob sr_0_0,Dr_0_0,[pb0]]∧OSl cG 120 5 Φ' Dr_0_0 sr_0_0 r.1.Rules∧r.2.b=p0.b∧Φ' pb0=some (.cells #[pv0_0,iV r.2.i,iV r.2.h] 82 (0,0)))):=by
 refine eL func33 rfl ntmps33 rfl (L:=[[pb0]]) w0 (fun hF=>?_)
 unfold lU at h
 refine sr<|lnz tj rfl fun b_1=>arr 4 [] rfl ?_
 have rc1:RC RS 1 Φ ([[],[],[]]:List (List Nat)) [.string (⟨#[102,108,111,119]⟩:ByteArray),.string (⟨#[115,104,105,112]⟩:ByteArray),.string (⟨#[120]⟩:ByteArray)] ([(⟨#[102,108,111,119]⟩:ByteArray),(⟨#[115,104,105,112]⟩:ByteArray),(⟨#[120]⟩:ByteArray)]:List ByteArray):=RC.cons (c:=[.string (⟨#[102,108,111,119]⟩:ByteArray)]) (cells:=[.string (⟨#[115,104,105,112]⟩:ByteArray),.string (⟨#[120]⟩:ByteArray)]) ⟨rfl,rfl⟩ rfl (RC.cons (c:=[.string (⟨#[115,104,105,112]⟩:ByteArray)]) (cells:=[.string (⟨#[120]⟩:ByteArray)]) ⟨rfl,rfl⟩ rfl (RC.cons (c:=[.string (⟨#[120]⟩:ByteArray)]) (cells:=[]) ⟨rfl,rfl⟩ rfl (RC.nil _ _ _)))
 refine le' (aY (vs:=[(0,.string (⟨#[102,108,111,119]⟩:ByteArray)),(1,.string (⟨#[115,104,105,112]⟩:ByteArray)),(2,.string (⟨#[120]⟩:ByteArray))]) (C:=#[.string (⟨#[102,108,111,119]⟩:ByteArray),.string (⟨#[115,104,105,112]⟩:ByteArray),.string (⟨#[120]⟩:ByteArray)]) RS.lasts ke rp rfl rfl rfl rfl (ag E1 (a7 (C':=[.string (⟨#[102,108,111,119]⟩:ByteArray),.string ⟨#[]⟩,.string ⟨#[]⟩]) rfl rfl rfl rfl rfl (a7 (C':=[.string (⟨#[102,108,111,119]⟩:ByteArray),.string (⟨#[115,104,105,112]⟩:ByteArray),.string ⟨#[]⟩]) rfl rfl rfl rfl rfl (a7 (C':=[.string (⟨#[102,108,111,119]⟩:ByteArray),.string (⟨#[115,104,105,112]⟩:ByteArray),.string (⟨#[120]⟩:ByteArray)]) rfl rfl rfl rfl rfl (aa))))) rfl rc1 rfl (by simpa using Kw.nil)) rfl ?_
 rintro v1 Φ_1 D1 ⟨fr1,h1⟩
 replace h1:OSl RS 9 1 Φ_1 [] v1 ([(⟨#[102,108,111,119]⟩:ByteArray),(⟨#[115,104,105,112]⟩:ByteArray),(⟨#[120]⟩:ByteArray)]:List ByteArray):=by simpa using h1
 replace pp0:=fr1 _ _ (by simp) pp0
 refine kcb [1] h rfl rfl rfl rfl (fun b ap z q=>eY N b p0 ([(⟨#[102,108,111,119]⟩:ByteArray),(⟨#[115,104,105,112]⟩:ByteArray),(⟨#[120]⟩:ByteArray)]:List ByteArray) (ph0_0.y z) pp0 (h1.rsl.x (Dj.app (ap.q 0 rfl) dN)) q) ?_
 rintro x1 h v2 Φ_2 F1 ⟨ap1,fr2,rfl,rfl,e1,h2⟩
 refine lq (aQ (vs:=[(0,.string x1.1)]) (C:=#[.string x1.1,.slice none 0 0]) Gz tj rfl (a7 (C':=[.string x1.1,.slice none 0 0]) rfl rfl rfl rfl rfl (aa))) rfl<|lnz tj rfl fun b_2=>soN 0 u6 rfl ⟨rfl,rfl,trivial⟩ rfl ?_
 refine en<|sr ?_
 have rc2:RC RS 1 Φ_2 ([[],[],[],[]]:List (List Nat)) [.string (⟨#[114,49]⟩:ByteArray),.string (⟨#[114,50]⟩:ByteArray),.string (⟨#[114,51]⟩:ByteArray),.string (⟨#[114,52]⟩:ByteArray)] ([(⟨#[114,49]⟩:ByteArray),(⟨#[114,50]⟩:ByteArray),(⟨#[114,51]⟩:ByteArray),(⟨#[114,52]⟩:ByteArray)]:List ByteArray):=RC.cons (c:=[.string (⟨#[114,49]⟩:ByteArray)]) (cells:=[.string (⟨#[114,50]⟩:ByteArray),.string (⟨#[114,51]⟩:ByteArray),.string (⟨#[114,52]⟩:ByteArray)]) ⟨rfl,rfl⟩ rfl (RC.cons (c:=[.string (⟨#[114,50]⟩:ByteArray)]) (cells:=[.string (⟨#[114,51]⟩:ByteArray),.string (⟨#[114,52]⟩:ByteArray)]) ⟨rfl,rfl⟩ rfl (RC.cons (c:=[.string (⟨#[114,51]⟩:ByteArray)]) (cells:=[.string (⟨#[114,52]⟩:ByteArray)]) ⟨rfl,rfl⟩ rfl (RC.cons (c:=[.string (⟨#[114,52]⟩:ByteArray)]) (cells:=[]) ⟨rfl,rfl⟩ rfl (RC.nil _ _ _))))
 refine le' (aY (vs:=[(0,.string (⟨#[114,49]⟩:ByteArray)),(1,.string (⟨#[114,50]⟩:ByteArray)),(2,.string (⟨#[114,51]⟩:ByteArray)),(3,.string (⟨#[114,52]⟩:ByteArray))]) (C:=#[.string (⟨#[114,49]⟩:ByteArray),.string (⟨#[114,50]⟩:ByteArray),.string (⟨#[114,51]⟩:ByteArray),.string (⟨#[114,52]⟩:ByteArray)]) RS.lasts ke rp rfl rfl rfl rfl (ag xw (a7 (C':=[.string (⟨#[114,49]⟩:ByteArray),.string ⟨#[]⟩,.string ⟨#[]⟩,.string ⟨#[]⟩]) rfl rfl rfl rfl rfl (a7 (C':=[.string (⟨#[114,49]⟩:ByteArray),.string (⟨#[114,50]⟩:ByteArray),.string ⟨#[]⟩,.string ⟨#[]⟩]) rfl rfl rfl rfl rfl (a7 (C':=[.string (⟨#[114,49]⟩:ByteArray),.string (⟨#[114,50]⟩:ByteArray),.string (⟨#[114,51]⟩:ByteArray),.string ⟨#[]⟩]) rfl rfl rfl rfl rfl (a7 (C':=[.string (⟨#[114,49]⟩:ByteArray),.string (⟨#[114,50]⟩:ByteArray),.string (⟨#[114,51]⟩:ByteArray),.string (⟨#[114,52]⟩:ByteArray)]) rfl rfl rfl rfl rfl (aa)))))) rfl rc2 rfl (by simpa using Kw.nil)) rfl ?_
 rintro v3 Φ_3 D2 ⟨fr3,h3⟩
 replace h3:OSl RS 9 1 Φ_3 [] v3 ([(⟨#[114,49]⟩:ByteArray),(⟨#[114,50]⟩:ByteArray),(⟨#[114,51]⟩:ByteArray),(⟨#[114,52]⟩:ByteArray)]:List ByteArray):=by simpa using h3
 replace h2:=fr3 _ _ (by simp) h2
 refine art 8 [] rfl<|wtS<|wt0 ?_
 have k1:=OSl.nil cG 120 5 Φ_3
 refine lin (σ:=Hp × (List an) × Value × List Nat × Int × Int × Int) (fun s=>[(0,pQ pb0),(2,pQ b_1),(3,pQ b_2),(4,v3),(5,iV s.2.2.2.2.1)]) (fun s=>St w0 s.1 [(b_2,.cells #[.string x1.1,s.2.2.1] 26 (0,0)),(b_1,.cells #[.string (⟨#[]⟩:ByteArray),.slice none 0 0] 26 (0,0))] [s.2.2.2.1,ob s.2.2.1,ob v3,[pb0]]) (fun m s=>gv N p0 x1 m s.2.1 s.2.2.2.2.1 s.2.2.2.2.2.1 s.2.2.2.2.2.2=some r∧(OSl RS 9 1 s.1 [] v3 ([(⟨#[114,49]⟩:ByteArray),(⟨#[114,50]⟩:ByteArray),(⟨#[114,51]⟩:ByteArray),(⟨#[114,52]⟩:ByteArray)]:List ByteArray))∧(OSl cG 120 5 s.1 s.2.2.2.1 s.2.2.1 s.2.1)∧(s.1 pb0=some (.cells #[pv0_0,iV s.2.2.2.2.2.1,iV s.2.2.2.2.2.2] 82 (0,0)))) (Φ_3,([]:List an),(.slice none 0 0),[],0,x1.2.i,x1.2.h) N ⟨h,h3,k1,h2⟩ (sx [0,0,0,0] [0,0]) (fun n1 ih1 s hm=>?_)
 obtain ⟨Φ_4,s1,u1,D3,s2,s3,s4⟩:=s
 obtain ⟨h,h3,k2,k3⟩:=hm
 dsimp only at h h3 k2 k3 ⊢
 unfold gv at h
 refine atr 5 [] rfl<|kcb [3] h rfl rfl rfl rfl (fun b ap z q=>aL N b (⟨p0.b,s3,s4⟩:a8) 4 (ph0_0.y z) k3 q) ?_
 rintro x2 h v4 Φ_5 F2 ⟨ap2,fr4,rfl,rfl,e2,h4⟩
 replace h3:=h3.fr fr4 (ap2.q 2 rfl) dN
 replace k2:=k2.fr fr4 (ap2.q 1 rfl) (ap2.q 0 rfl)
 refine arr 3 [] rfl ?_
 obtain ⟨b3,hb_1,h⟩:=bs h
 refine WL.cutN 3 [(19,.bool b3),(0,pQ pb0),(2,pQ b_1),(3,pQ b_2),(4,v3),(5,iV s2)] ?_ (fun K=>?_)
 rotate_left
 ·refine sp 16 hb_1 rfl (fun hb_1=>?_) fun hb_1=>?_
  ·refine arr 3 [] rfl ?_
   cases hb_1
   exact ku K
  ·refine arr 3 [] rfl ?_
   cases hb_1
   exact ku K
 refine en ?_
 refine ch h rfl ?_ ?_ <;> intro h
 ·refine att 3 [] rfl<|WT.mix (Kn w0 Φ_5 (ob v3) [(b_2,.cells #[.string x1.1,u1] 26 (0,0)),(b_1,.cells #[.string (⟨#[]⟩:ByteArray),.slice none 0 0] 26 (0,0))]) (fun i=>match i with | 11=>false | _=>true) cc (fun _ h=>h.drew)<|mq 0 rfl (by kernel_rfl) (kn Kf.id (ai2 0 1 rfl rfl)) (ab tP rfl) rfl<|mq 1 rfl (by kernel_rfl) (kn Kf.id (ai2 0 1 rfl rfl)) (au DN rfl (fun w1 hw=>hw.rgO (i:=0) rfl 1 1 [u1] rfl)) rfl<|ma 2 rfl (by kernel_rfl) (kn Kf.id (ai2 0 1 rfl rfl)) rfl<|ma 3 rfl (by kernel_rfl) (kn Kf.id (ai2 0 1 rfl rfl)) rfl ?_
  refine ma 4 rfl (by kernel_rfl) (kn Kf.id (ai2 0 1 rfl rfl)) rfl ?_
  obtain ⟨x3,hx3,h⟩:=bs h
  obtain ⟨cs1,F3,-,g1,hb1,hs1,r1⟩:=h3.elS (a9 hx3).2.2
  obtain ⟨rfl,-⟩:=r1
  refine mq 5 rfl (by kernel_rfl) (kn Kf.id (ai2 0 1 rfl rfl)) (ac ke rfl rfl h3.rsl hx3) rfl<|mq 6 rfl (by kernel_rfl) (kn Kf.id (ai2 0 1 rfl rfl)) (au FO rfl (fun w1 hw=>hw.rg hb1 (g1.of_eq 0 1 rfl rfl:rg _ _ _ [.string x3]))) rfl ?_
  obtain ⟨x4,hx4,h⟩:=bs h
  refine WM.one 7 (by kernel_rfl) (mc rfl (fun _ v Φx D w1 hq hw=>Kn.of (Kf.id.st hq.2.1 (hq.1.r (i:=2) rfl)) (ai2 0 1 rfl rfl) hw) (bZ (js:=[0]) (R:=[D3,ob u1,ob v3]) EJ rfl rfl (fun w1 hw ap hl=>vQ N (bx hw ap hl) (⟨p0.b,x2.2.i,x2.2.h⟩:a8) x3 (ph0_0.y (hw.uo ap)) h4  hx4)) rfl ?_)
  rintro v5 Φ_6 F4 ⟨ap3,fr5,v6,D4,v7,v8,D5,rfl,rfl,h5,h6,h7,e3,h8⟩
  replace h3:=h3.fr fr5 (ap3.q 2 rfl) dN
  replace k2:=k2.fr fr5 (ap3.q 1 rfl) (ap3.q 0 rfl)
  have rc3:RC cG 5 Φ_6 ([(ob v6++D4)++((ob v7++[])++((ob v8++D5)))]:List (List Nat)) [.string x4.1.Name,iV x4.1.Sal,v6,v7,v8] ([x4.1]:List an):=RC.cons (c:=[.string x4.1.Name,iV x4.1.Sal,v6,v7,v8]) (cells:=[]) ⟨v6,D4,v7,v8,D5,rfl,rfl,h5,h6,h7⟩ rfl (RC.nil _ _ _)
  have kf1:=(Kf.id (F:=(ob v3)):Kf Φ_5 _ _).st fr5 (ap3.q 2 rfl)
  refine WM.one 8 (by kernel_rfl) (me rfl (fun _ v Φx D w1 hq hw=>Kn.of (kf1.se hq.1) (ai2 0 1 rfl rfl) hw) (aY (vs:=[(0,.agg [.string x4.1.Name,iV x4.1.Sal,v6,v7,v8].toArray)]) (C:=#[.string x4.1.Name,iV x4.1.Sal,v6,v7,v8]) cG.lasts wx rB rfl rfl rfl rfl (ag BJ (a7 (C':=[.string x4.1.Name,iV x4.1.Sal,v6,v7,v8]) rfl rfl rfl rfl rfl (aa))) rfl rc3 rfl (RC.kn cG.knows rc3)) rfl ?_)
  rintro v9 Φ_7 D6 ⟨fr6,h9⟩
  replace h9:OSl cG 120 5 Φ_7 ((ob v6++D4)++((ob v7++[])++((ob v8++D5)))) v9 ([x4.1]:List an):=by simpa [List.append_assoc] using h9
  replace h3:=h3.f0 fr6
  replace k2:=k2.f0 fr6
  replace h8:=fr6 _ _ (by simp) h8
  refine WM.conv (S':=St w0 Φ_7 [(b_2,.cells #[.string x1.1,u1] 26 (0,0)),(b_1,.cells #[.string (⟨#[]⟩:ByteArray),.slice none 0 0] 26 (0,0))] [((ob v6++D4)++((ob v7++[])++((ob v8++D5)))),ob v9,[pb0],D3,ob u1,ob v3]) (fun w1 hw=>hw.merge (js:=[1,1,1,1,1]) rfl (SP.eq (by simp [List.append_assoc,bv]))) ?_
  obtain ⟨x5,hx5,h⟩:=bs h
  have kf2:=kf1.se fr6
  refine WM.one 9 (by kernel_rfl) (me rfl (fun _ v Φx D w1 hq hw=>Kn.of (kf2.st hq.1.2 (hq.1.1.r (i:=4) rfl)) (ai2 0 1 rfl rfl) hw) (bU cG.lasts cG.one wx Eq rfl rfl rfl rfl rfl (js:=[4]) (Rr:=[((ob v6++D4)++((ob v7++[])++((ob v8++D5)))),ob v9,[pb0],D3,ob v3]) rfl k2 h9 (fun ap=>ap.q 3 rfl) (fun ap=>ap.q 0 rfl) hx5) rfl ?_)
  rintro v10 Φ_8 D7 ⟨⟨ap4,fr7⟩,h10⟩
  replace h3:=h3.fr fr7 (ap4.q 4 rfl) dN
  replace h8:=fr7 _ _ ((ap4.q 2 rfl) _ (by simp)) h8
  refine WM.conv (S':=St w0 Φ_8 [(b_2,.cells #[.string x1.1,u1] 26 (0,0)),(b_1,.cells #[.string (⟨#[]⟩:ByteArray),.slice none 0 0] 26 (0,0))] [(D3++((ob v6++D4)++((ob v7++[])++((ob v8++D5))))),ob v10,ob v9,[pb0],ob v3]) (fun w1 hw=>hw.merge (js:=[4,1]) rfl (SP.eq (by simp))) ?_
  have kf3:=kf2.st fr7 (ap4.q 4 rfl)
  refine mq 10 rfl (by kernel_rfl) (kn kf3 (ai2 0 1 rfl rfl)) (ab tP rfl) rfl ?_
  refine on1 11 (ms1 0 rfl nk Gc rfl h10.one ?_)
  refine WM.nil (by kernel_rfl)<|att 6 [] rfl ?_
  exact lb [0,0,2,1] [0,0] (ih1 (_,_,_,_,_,_,_) ⟨h,h3,h10,h8⟩)
 refine atr 4 [2] rfl<|soN 1 u6 rfl ⟨rfl,k2.one,trivial⟩ rfl ?_
 refine en ?_
 exact rtg [2,1,0] hF (az.one (aX zh rfl (fun w1 hw=>hw.rgO (i:=1) rfl 0 2 [.string x1.1,u1] rfl) rfl)) rfl (by cases h; exact fun w1 hw=>⟨u1,D3,rfl,rfl,k2,rfl,h4⟩)
theorem nC (w0:aw Ψ Φ []) (p0:(List Int)) (p1:(List Int)) (ph0:RSl (RI .i64) 1 Ψ pG0 pv0 p0) (ph1:RSl (RI .i64) 1 Ψ pG1 pv1 p1) {r:Bool} (h:iH N p0 p1=some r) :
  CB w0 prog 118 [pv0,pv1] (.bool r):=by
 refine eN func118 rfl ntmps118 rfl w0 fun hF=>?_
 unfold iH at h
 refine atr 8 [] rfl<|lnr ph0 rfl<|la rfl<|lnr ph1 rfl<|la rfl<|en ?_
 refine ch h rfl ?_ ?_ <;> intro h
 ·refine att 4 [] rfl ?_
  exact rt hF h
 refine att 7 [] rfl ?_
 refine lin (σ:=Int) (fun s=>[(0,pv0),(1,pv1),(5,iV s)]) (fun s=>St w0 Φ [] []) (fun m s=>gu N p0 p1 m s=some r) (0) N h (sx [] []) (fun n1 ih1 s hm=>?_)
 revert hm; revert s; intro s1 hm
 have h:gu N p0 p1 (n1+1) s1=some r:=hm
 show WT _ _ [(0,pv0),(1,pv1),(5,iV s1)] (St w0 Φ [] [])
 unfold gu at h
 refine atr 5 [] rfl<|lnr ph0 rfl<|la rfl<|en ?_
 refine ch h rfl ?_ ?_ <;> intro h
 ·refine att 4 [] rfl<|WT.draw cc (by kernel_rfl) (fun _ h=>h.drew)<|aqq 2 [] rfl ?_
  obtain ⟨x1,hx1,h⟩:=bs h
  obtain ⟨cs1,F1,-,g1,hb1,hs1,r1⟩:=ph0.el (a9 hx1).2.2
  obtain ⟨rfl,-⟩:=r1
  refine qq (ac aW rfl rfl ph0 hx1) rfl<|qq (au pt rfl (fun w1 hw=>(g1.of_eq 0 1 rfl rfl:rg _ _ _ [iV x1]).rangeAt hw.in0)) rfl<|aqq 2 [] rfl ?_
  obtain ⟨x2,hx2,h⟩:=bs h
  obtain ⟨cs2,F2,-,g2,hb2,hs2,r2⟩:=ph1.el (a9 hx2).2.2
  obtain ⟨rfl,-⟩:=r2
  refine qq (ac aW rfl rfl ph1 hx2) rfl<|qq (au pt rfl (fun w1 hw=>(g2.of_eq 0 1 rfl rfl:rg _ _ _ [iV x2]).rangeAt hw.in0)) rfl<|aqt 2 [] rfl ?_
  refine ch h rfl ?_ ?_ <;> intro h
  ·refine att 4 [] rfl ?_
   exact rt hF h
  refine att 7 [] rfl ?_
  exact lb [] [] (ih1 _ h)
 refine att 5 [] rfl ?_
 exact rt hF h
theorem oB (w0:aw Ψ Φ []) (p0:ai) (p1:ai) (ph0_0:RSl aH 3 Ψ pG0_0 pv0_0 p0.Consts) (ph0_1:RSl (RI .i64) 1 Ψ pG0_1 pv0_1 p0.At) (ph1_0:RSl aH 3 Ψ pG1_0 pv1_0 p1.Consts) (ph1_1:RSl (RI .i64) 1 Ψ pG1_1 pv1_1 p1.At) {r:Bool} (h:i9 N p0 p1=some r) :
  CB w0 prog 106 [.agg [.string p0.Kind,iV p0.N,pv0_0,pv0_1].toArray,.agg [.string p1.Kind,iV p1.N,pv1_0,pv1_1].toArray] (.bool r):=by
 refine eN func106 rfl ntmps106 rfl w0 fun hF=>?_
 unfold i9 at h
 refine sr<|lbx rfl fun b_1=>lbx rfl fun b_2=>arr 10 [0,32,0,0] rfl ?_
 obtain ⟨b1,hb_1,h⟩:=bs h
 refine WL.cutN 6 [(16,.bool b1),(2,pQ b_1),(3,pQ b_2),(4,.bool false)] ?_ (fun K=>?_)
 rotate_left
 ·refine sp 10 hb_1 rfl (fun hb_1=>?_) fun hb_1=>?_
  ·refine arr 6 [1,32,1,0] rfl ?_
   cases hb_1
   exact ku K
  ·refine arr 6 [] rfl ?_
   cases hb_1
   exact ku K
 refine la rfl ?_
 obtain ⟨b2,hb_2,h⟩:=bs h
 refine WL.cutN 6 [(23,.bool b2),(2,pQ b_1),(3,pQ b_2),(4,.bool false)] ?_ (fun K=>?_)
 rotate_left
 ·refine sp 17 hb_2 rfl (fun hb_2=>?_) fun hb_2=>?_
  ·refine arr 4 [3,32,3,0] rfl<|ly rfl rfl<|qd hb_2 (nC N · p0.At p1.At ph0_1 ph1_1 ·) rfl rfl rfl fun x1 hb_2=>la rfl ?_
   cases hb_2
   exact ku K
  ·refine arr 6 [] rfl ?_
   cases hb_2
   exact ku K
 refine la rfl ?_
 obtain ⟨b3,hb_3,h⟩:=bs h
 refine WL.cutN 6 [(30,.bool b3),(4,.bool false)] ?_ (fun K=>?_)
 rotate_left
 ·refine sp 24 hb_3 rfl (fun hb_3=>?_) fun hb_3=>?_
  ·refine arr 4 [2,32,2,0] rfl<|ly rfl rfl<|qd hb_3 (nZ N · p0.Consts p1.Consts ph0_0 ph1_0 ·) rfl rfl rfl fun x2 hb_3=>la rfl ?_
   cases hb_3
   exact ku K
  ·refine arr 6 [] rfl ?_
   cases hb_3
   exact ku K
 refine la rfl<|en ?_
 exact rt hF h
theorem tY (w0:aw Ψ Φ [[pb0],ob pv0_0].flatten) (p0:aO) (p1:ai) (ph0_0:OSl bl 75 4 Φ pD0_0 pv0_0 p0.Alphas) (ph0_1:RSl bV 2 Ψ pG0_1 pv0_1 p0.Chains) (pp0:Φ pb0=some (.cells #[pv0_0,pv0_1] 30 (0,0))) (ph1_0:RSl aH 3 Ψ pG1_0 pv1_0 p1.Consts) (ph1_1:RSl (RI .i64) 1 Ψ pG1_1 pv1_1 p1.At) (pd0_0:Dj pD0_0 [[pb0],ob pv0_0].flatten) {r:Int × aO} (h:lA N p0 p1=some r) :
  Calls prog 68 [pQ pb0,.agg [.string p1.Kind,iV p1.N,pv1_0,pv1_1].toArray].toArray w0.w (bg Φ w0.w [[pb0],ob pv0_0].flatten (fun Φ' Fs v=>∃ (so_0_0:Value) (Do_0_0:List Nat),v=iV r.1∧Fs=[[pb0],ob so_0_0]∧OSl bl 75 4 Φ' Do_0_0 so_0_0 r.2.Alphas∧(∀ k∈Do_0_0,k∈(pD0_0++(pG1_0++pG1_1)))∧r.2.Chains=p0.Chains∧Φ' pb0=some (.cells #[so_0_0,pv0_1] 30 (0,0)))):=by
 refine eL func68 rfl ntmps68 rfl (L:=[[pb0],ob pv0_0]) w0 (fun hF=>?_)
 have pa0_0:=Old.mk w0 ph0_0.kn pd0_0
 unfold lA at h
 refine sr<|lbx rfl fun b_1=>art 8 [] rfl ?_
 refine lin (σ:=Int) (fun s=>[(0,pQ pb0),(3,pQ b_1),(5,iV s)]) (fun s=>St w0 Φ [(b_1,.cells #[.string p1.Kind,iV p1.N,pv1_0,pv1_1] 75 (0,0))] [[pb0],ob pv0_0]) (fun m s=>eI N p0 p1 m s=some r) (0) N h (sx [0,0] [0]) (fun n1 ih1 s hm=>?_)
 revert hm; revert s; intro s1 hm
 have h:eI N p0 p1 (n1+1) s1=some r:=hm
 show WT _ _ [(0,pQ pb0),(3,pQ b_1),(5,iV s1)] (St w0 Φ [(b_1,.cells #[.string p1.Kind,iV p1.N,pv1_0,pv1_1] 75 (0,0))] [[pb0],ob pv0_0])
 unfold eI at h
 refine atr 5 [] rfl<|lq (aC rfl) rfl<|lf kg rfl rfl rfl<|lgx 0 0 (bP pp0) rfl<|lno ph0_0 rfl<|la rfl<|en ?_
 refine ch h rfl ?_ ?_ <;> intro h
 ·refine att 4 [] rfl<|WT.draw cc (by kernel_rfl) (fun _ h=>h.drew)<|qq (ep rfl) rfl<|qq (aC rfl) rfl<|qq (ab kg rfl) rfl<|qq (au Ca rfl (fun w1 hw=>((bP pp0).of_eq 0 1 rfl rfl:rg _ _ _ [pv0_0]).rangeAt hw.fro)) rfl<|qq (ep rfl) rfl ?_
  obtain ⟨x1,hx1,h⟩:=bs h
  obtain ⟨cs1,F1,-,g1,hb1,hs1,r1⟩:=ph0_0.elS (a9 hx1).2.2
  obtain ⟨v1,G1,v2,G2,rfl,rfl,h1,h2⟩:=r1
  refine qq (ac oG rfl rfl ph0_0.rsl hx1) rfl<|qq (aI rQ rfl (fun w1 hw=>(g1.of_eq 0 4 rfl rfl:rg _ _ _ [.string x1.Kind,iV x1.N,v1,v2]).rangeAt hw.fro) rfl) rfl<|qq (aI rQ rfl (fun w1 hw=>hw.rgO (i:=0) rfl 0 4 [.string p1.Kind,iV p1.N,pv1_0,pv1_1] rfl) rfl) rfl ?_
  obtain ⟨x2,hx2,h⟩:=bs h
  refine qp (cQ zk rfl (fun w1 hw=>oB N (ba hw.fro) x1 p1 h1 h2 (ph1_0.y hw.up) (ph1_1.y hw.up) hx2)) rfl<|WQ.nil ?_
  refine ch h rfl ?_ ?_ <;> intro h
  ·refine att 5 [] rfl ?_
   exact rtg [0,0] hF (az.one rfl) rfl (by cases h; exact fun w1 hw=>⟨pv0_0,pD0_0,rfl,rfl,ph0_0,(fun k hk=>(List.mem_append.2 (.inl hk))),rfl,pp0⟩)
  refine att 7 [] rfl ?_
  exact lb [0,0] [0] (ih1 _ h)
 refine xt rfl<|sq<|WT.mix (Kn w0 Φ [pb0] [(b_1,.cells #[.string p1.Kind,iV p1.N,pv1_0,pv1_1] 75 (0,0))]) (fun i=>match i with | 10=>false | _=>true) cc (fun _ h=>h.drew)<|ma 0 rfl (by kernel_rfl) (kn Kf.id (am [0] rfl)) rfl<|ma 1 rfl (by kernel_rfl) (kn Kf.id (am [0] rfl)) rfl<|mq 2 rfl (by kernel_rfl) (kn Kf.id (am [0] rfl)) (aC rfl) rfl<|mq 3 rfl (by kernel_rfl) (kn Kf.id (am [0] rfl)) (ab kg rfl) rfl ?_
 refine mq 4 rfl (by kernel_rfl) (kn Kf.id (am [0] rfl)) (au Ca rfl (fun w1 hw=>hw.rg (by simp) ((bP pp0).of_eq 0 1 rfl rfl:rg _ _ _ [pv0_0]))) rfl<|mq 5 rfl (by kernel_rfl) (kn Kf.id (am [0] rfl)) (aI rQ rfl (fun w1 hw=>hw.rgO (i:=0) rfl 0 4 [.string p1.Kind,iV p1.N,pv1_0,pv1_1] rfl) rfl) rfl ?_
 first | refine mu0 ph1_0 fun h3=>?_ | refine iu0 ph1_0 fun h3=>?_
 first | refine mu0 ph1_1 fun h4=>?_ | refine iu0 ph1_1 fun h4=>?_
 have rc1:RC bl 4 Φ ([pG1_0++(pG1_1)]:List (List Nat)) [.string p1.Kind,iV p1.N,pv1_0,pv1_1] ([p1]:List ai):=RC.cons (c:=[.string p1.Kind,iV p1.N,pv1_0,pv1_1]) (cells:=[]) ⟨pv1_0,pG1_0,pv1_1,pG1_1,rfl,rfl,h3,h4⟩ rfl (RC.nil _ _ _)
 refine WM.one 6 (by kernel_rfl) (me rfl (fun _ v Φx D w1 hq hw=>Kn.of (Kf.id.se hq.1) (am [0] rfl) hw) (aY (vs:=[(0,.agg [.string p1.Kind,iV p1.N,pv1_0,pv1_1].toArray)]) (C:=#[.string p1.Kind,iV p1.N,pv1_0,pv1_1]) bl.lasts oG lQ rfl rfl rfl rfl (ag tH (a7 (C':=[.string p1.Kind,iV p1.N,pv1_0,pv1_1]) rfl rfl rfl rfl rfl (aa))) rfl rc1 rfl (RC.kn bl.knows rc1)) rfl ?_)
 rintro v3 Φ_1 D1 ⟨fr1,h5⟩
 replace h5:OSl bl 75 4 Φ_1 (pG1_0++(pG1_1)) v3 ([p1]:List ai):=by simpa [List.append_assoc] using h5
 replace ph0_0:=ph0_0.f0 fr1
 replace pp0:=fr1 _ _ (by simp) pp0
 obtain ⟨x3,hx3,h⟩:=bs h
 have kf1:=(Kf.id (F:=[pb0]):Kf Φ _ _).se fr1
 refine WM.one 7 (by kernel_rfl) (me rfl (fun _ v Φx D w1 hq hw=>Kn.of (kf1.st hq.1.2 (hq.1.1.r (i:=1) rfl)) (am [0] rfl) hw) (bU bl.lasts bl.one oG zD rfl rfl rfl rfl rfl (js:=[2]) (Rr:=[ob v3,[pb0]]) rfl ph0_0 h5 (fun ap=>(ap.o pa0_0)) (fun ap=>(Dj.sub (Dj.app (ap.o ph1_0.old) (ap.o ph1_1.old)) (fun k hk=>(by simpa [List.append_assoc] using hk:k∈(pG1_0++pG1_1))))) hx3) rfl ?_)
 rintro v4 Φ_2 D2 ⟨⟨ap1,fr2⟩,h6⟩
 replace pp0:=fr2 _ _ ((ap1.q 1 rfl) _ (by simp)) pp0
 have kf2:=kf1.st fr2 (ap1.q 1 rfl)
 refine mqT 8 [9,10] rfl (by kernel_rfl) (kn kf2 (am [0] rfl)) (aC rfl) rfl<|mq 9 rfl (by kernel_rfl) (kn kf2 (am [0] rfl)) (ab kg rfl) rfl ?_
 refine WM.thw (js:=[2]) (R:=[ob v4,ob v3]) rfl pp0 (fun Φ_3 ap2 fr3=>?_)
 replace h6:=h6.fr fr3 (ap2.q 0 rfl) (Dj.app (ap2.o pa0_0) (Dj.sub (Dj.app (ap2.o ph1_0.old) (ap2.o ph1_1.old)) (fun k hk=>(by simpa [List.append_assoc] using hk:k∈(pG1_0++pG1_1)))))
 refine on1 10 (ms1 0 rfl nk zc rfl h6.one ?_)
 refine WM.nil (by kernel_rfl)<|sr<|la rfl<|lq (aC rfl) rfl<|arr 2 [0,0] rfl<|lno h6 rfl<|art 3 [] rfl ?_
 refine WT.frz (js:=[0]) (R:=[(b_1,.cells #[.string p1.Kind,iV p1.N,pv1_0,pv1_1] 75 (0,0))]) rfl (fun Φ_4 fr4 k1=>?_)
 replace h6:=h6.f0 fr4
 exact rtg [0,0] hF (az.one rfl) rfl (by cases h; exact fun w1 hw=>⟨v4,(pD0_0++(pG1_0++(pG1_1))),rfl,rfl,h6,(fun k hk=>((List.mem_append.1 hk).elim (fun h=>(List.mem_append.2 (.inl h))) (fun h=>((List.mem_append.1 ((fun k hk=>(by simpa [List.append_assoc] using hk:k∈(pG1_0++pG1_1))) k h)).elim (fun h=>(List.mem_append.2 (.inr (List.mem_append.2 (.inl h))))) (fun h=>(List.mem_append.2 (.inr (List.mem_append.2 (.inr h))))))))),rfl,k1⟩)
theorem u7 (w0:aw Ψ Φ []) (p0:av) (ph0_0:RSl du 5 Ψ pG0_0 pv0_0 p0.Args) {r:ai} (h:lS N p0=some r) :
  Calls prog 69 [.agg [.string p0.Kind,pv0_0,.bool p0.Not].toArray].toArray w0.w (bg Φ w0.w [] (fun Φ' Fs v=>∃ (sr_0_0:Value) (sr_0_1:Value),v = .agg [.string r.Kind,iV r.N,sr_0_0,sr_0_1].toArray∧Fs=[ob sr_0_0,ob sr_0_1]∧OSl aH 91 3 Φ' [] sr_0_0 r.Consts∧OSl (RI .i64) 3 1 Φ' [] sr_0_1 r.At)):=by
 refine eN func69 rfl ntmps69 rfl w0 fun hF=>?_
 unfold lS at h
 refine sr<|lbx rfl fun b_1=>lnz lQ rfl fun b_2=>arr 7 [0,32,1,32] rfl<|lnr ph0_0 rfl<|lq (aQ (vs:=[(0,.string p0.Kind),(1,iV (p0.Args.length:Int))]) (C:=#[.string p0.Kind,iV (p0.Args.length:Int),.slice none 0 0,.slice none 0 0]) Ba lQ rfl (a7 (C':=[.string p0.Kind,iV 0,.slice none 0 0,.slice none 0 0]) rfl rfl rfl rfl rfl (a7 (C':=[.string p0.Kind,iV (p0.Args.length:Int),.slice none 0 0,.slice none 0 0]) rfl rfl rfl rfl rfl (aa)))) rfl<|lnz lQ rfl fun b_3=>?_
 refine soN 0 qP rfl ⟨rfl,rfl,rfl,rfl,trivial⟩ rfl ?_
 refine art 7 [] rfl<|wtS ?_
 have k1:=OSl.nil aH 91 3 Φ
 refine wtS ?_
 have k2:=OSl.nil (RI .i64) 3 1 Φ
 refine lin (σ:=Hp × (List bn) × Value × (List Int) × Value × Int) (fun s=>[(1,pQ b_1),(2,pQ b_2),(3,pQ b_3),(4,iV s.2.2.2.2.2)]) (fun s=>St w0 s.1 [(b_3,.cells #[.string p0.Kind,iV (p0.Args.length:Int),s.2.2.1,s.2.2.2.2.1] 75 (0,0)),(b_2,.cells #[.string (⟨#[]⟩:ByteArray),iV 0,.slice none 0 0,.slice none 0 0] 75 (0,0)),(b_1,.cells #[.string p0.Kind,pv0_0,.bool p0.Not] 128 (0,0))] [ob s.2.2.2.2.1,ob s.2.2.1]) (fun m s=>eC N p0 m s.2.1 s.2.2.2.1 s.2.2.2.2.2=some r∧(OSl aH 91 3 s.1 [] s.2.2.1 s.2.1)∧(OSl (RI .i64) 3 1 s.1 [] s.2.2.2.2.1 s.2.2.2.1)) (Φ,([]:List bn),(.slice none 0 0),([]:List Int),(.slice none 0 0),0) N ⟨h,k1,k2⟩ (sx [0,0] [0,0,0]) (fun n1 ih1 s hm=>?_)
 obtain ⟨Φ_1,s1,u1,s2,u2,s3⟩:=s
 obtain ⟨h,k3,k4⟩:=hm
 dsimp only at h k3 k4 ⊢
 unfold eC at h
 refine atr 6 [1,64] rfl<|lnr ph0_0 rfl<|la rfl<|en ?_
 refine ch h rfl ?_ ?_ <;> intro h
 ·refine atr 8 [1,64] rfl ?_
  obtain ⟨x1,hx1,h⟩:=bs h
  obtain ⟨cs1,F1,-,g1,hb1,hs1,r1⟩:=ph0_0.el (a9 hx1).2.2
  obtain ⟨rfl,-⟩:=r1
  refine lia ph0_0 hx1 rfl<|lf ww rfl rfl rfl<|lhx 0 0 g1 rfl<|la rfl<|en ?_
  refine ch h rfl ?_ ?_ <;> intro h
  ·refine sq<|wm [0,1,2] [11] rfl<|amm 5 [0,2,1,0,2,1,3,64,4] [0,1,2] rfl rfl ?_
   obtain ⟨x2,hx2,h⟩:=bs h
   obtain ⟨cs2,F2,-,g2,hb2,hs2,r2⟩:=ph0_0.el (a9 hx2).2.2
   obtain ⟨rfl,-⟩:=r2
   refine mq 5 rfl (by kernel_rfl) (kN [0,1,2]) (ac un rfl rfl ph0_0 hx2) rfl<|amm 1 [6,2] [0,1,2] rfl rfl<|mq 7 rfl (by kernel_rfl) (kN [0,1,2]) (aI kz rfl (fun w1 hw=>(g2.of_eq 2 3 rfl rfl:rg _ _ _ [iV x2.V.K,iV x2.V.N,.string x2.V.S]).rangeAt hw.1) rfl) rfl ?_
   have rc1:RC aH 3 Φ_1 ([[]]:List (List Nat)) [iV x2.V.K,iV x2.V.N,.string x2.V.S] ([x2.V]:List bn):=RC.cons (c:=[iV x2.V.K,iV x2.V.N,.string x2.V.S]) (cells:=[]) ⟨rfl,rfl⟩ rfl (RC.nil _ _ _)
   refine WM.one 8 (by kernel_rfl) (me rfl (fun _ v Φx D w1 hq hw=>Kn.of Kf.nil (ai3 0 1 2 rfl rfl rfl) hw) (aY (vs:=[(0,.agg [iV x2.V.K,iV x2.V.N,.string x2.V.S].toArray)]) (C:=#[iV x2.V.K,iV x2.V.N,.string x2.V.S]) aH.lasts fT jk rfl rfl rfl rfl (ag wH (a7 (C':=[iV x2.V.K,iV x2.V.N,.string x2.V.S]) rfl rfl rfl rfl rfl (aa))) rfl rc1 rfl (by simpa using Kw.nil)) rfl ?_)
   rintro v1 Φ_2 D1 ⟨fr1,h1⟩
   replace h1:OSl aH 91 3 Φ_2 [] v1 ([x2.V]:List bn):=by simpa using h1
   replace k3:=k3.f0 fr1
   replace k4:=k4.f0 fr1
   obtain ⟨x3,hx3,h⟩:=bs h
   refine WM.one 9 (by kernel_rfl) (me rfl (fun _ v Φx D w1 hq hw=>Kn.of Kf.nil (ai3 0 1 2 rfl rfl rfl) hw) (bB aH.lasts aH.one aH.flat fT vY rfl rfl rfl rfl rfl (js:=[2]) (Rr:=[ob v1,ob u2]) rfl k3 h1.rsl hx3) rfl ?_)
   rintro v2 Φ_3 D2 ⟨⟨ap1,fr2⟩,h2⟩
   replace k4:=k4.fr fr2 (ap1.q 1 rfl) dN
   refine amm 1 [10,2] [0,1,2] rfl rfl ?_
   refine on1 11 (ms1 0 rfl nk yb rfl h2.one ?_)
   refine WM.nil (by kernel_rfl)<|atr 4 [3,0] rfl ?_
   have rc2:RC (RI .i64) 1 Φ_3 ([[]]:List (List Nat)) [iV s3] ([s3]:List Int):=RC.cons (c:=[iV s3]) (cells:=[]) ⟨rfl,rfl⟩ rfl (RC.nil _ _ _)
   refine le' (aY (vs:=[(0,iV s3)]) (C:=#[iV s3]) RI.lasts aW gB rfl rfl rfl rfl (ag iy (a7 (C':=[iV s3]) rfl rfl rfl rfl rfl (aa))) rfl rc2 rfl (by simpa using Kw.nil)) rfl ?_
   rintro v3 Φ_4 D3 ⟨fr3,h3⟩
   replace h3:OSl (RI .i64) 3 1 Φ_4 [] v3 ([s3]:List Int):=by simpa using h3
   replace h2:=h2.f0 fr3
   replace k4:=k4.f0 fr3
   obtain ⟨x4,hx4,h⟩:=bs h
   refine le' (bB RI.lasts RI.one RI.flat aW jw rfl rfl rfl rfl rfl (js:=[3]) (Rr:=[ob v3,ob v2,ob v1]) rfl k4 h3.rsl hx4) rfl ?_
   rintro v4 Φ_5 D4 ⟨⟨ap2,fr4⟩,h4⟩
   replace h2:=h2.fr fr4 (ap2.q 1 rfl) dN
   refine lf uI rfl rfl rfl<|so1 0 nU rfl h4.one ?_
   refine art 7 [] rfl ?_
   exact lb [0,1] [0,0,0] (ih1 (_,_,_,_,_,_) ⟨h,h2,h4⟩)
  refine att 7 [] rfl ?_
  exact lb [0,0] [0,0,0] (ih1 (_,_,_,_,_,_) ⟨h,k3,k4⟩)
 refine atr 4 [4] rfl<|soN 1 qP rfl ⟨rfl,rfl,k3.one,k4.one,trivial⟩ rfl ?_
 refine en ?_
 exact rtg [1,0] hF (az.one (aX rQ rfl (fun w1 hw=>hw.rgO (i:=1) rfl 0 4 [.string p0.Kind,iV (p0.Args.length:Int),u1,u2] rfl) rfl)) rfl (by cases h; exact fun w1 hw=>⟨u1,u2,rfl,rfl,k3,k4⟩)
theorem qQ (w0:aw Ψ Φ []) (p0:bm) (ph0_0:RSl dH 5 Ψ pG0_0 pv0_0 p0.Rules) {r:aO} (h:kI N p0=some r) :
  Calls prog 34 [.agg [.string p0.Name,pv0_0].toArray].toArray w0.w (bg Φ w0.w [] (fun Φ' Fs v=>∃ (sr_0_0:Value) (Dr_0_0:List Nat) (sr_0_1:Value) (Dr_0_1:List Nat) (X:List Nat),v = .agg [sr_0_0,sr_0_1].toArray∧Fs=[ob sr_0_0,ob sr_0_1,Dr_0_1,X]∧OSl bl 75 4 Φ' Dr_0_0 sr_0_0 r.Alphas∧(∀ k∈Dr_0_0,k∈X)∧OSl ay 79 2 Φ' Dr_0_1 sr_0_1 r.Chains)):=by
 refine eN func34 rfl ntmps34 rfl w0 fun hF=>?_
 unfold kI at h
 refine sr<|lbx rfl fun b_1=>lnz nj rfl fun b_2=>en<|sr<|lq (aQ (vs:=[]) (C:=#[.slice none 0 0,.slice none 0 0]) DL nj rfl (aa)) rfl<|lnz nj rfl fun b_3=>soN 0 o0 rfl ⟨rfl,rfl,trivial⟩ rfl ?_
 refine art 7 [] rfl<|wt0<|wtS ?_
 have k1:=OSl.nil bl 75 4 Φ
 refine wtS<|wt0 ?_
 have k2:=OSl.nil ay 79 2 Φ
 refine lin (σ:=Hp × List Nat × (List ai) × Value × List Nat × (List ao) × Value × List Nat × Int) (fun s=>[(1,pQ b_1),(2,pQ b_2),(3,pQ b_3),(4,iV s.2.2.2.2.2.2.2.2)]) (fun s=>St w0 s.1 [(b_3,.cells #[s.2.2.2.1,s.2.2.2.2.2.2.1] 30 (0,0)),(b_2,.cells #[.slice none 0 0,.slice none 0 0] 30 (0,0)),(b_1,.cells #[.string p0.Name,pv0_0] 26 (0,0))] [s.2.2.2.2.2.2.2.1,ob s.2.2.2.2.2.2.1,ob s.2.2.2.1,s.2.1]) (fun m s=>d6 N p0 m s.2.2.1 s.2.2.2.2.2.1 s.2.2.2.2.2.2.2.2=some r∧(OSl bl 75 4 s.1 s.2.2.2.2.1 s.2.2.2.1 s.2.2.1)∧(∀ k∈s.2.2.2.2.1,k∈s.2.1)∧(OSl ay 79 2 s.1 s.2.2.2.2.2.2.2.1 s.2.2.2.2.2.2.1 s.2.2.2.2.2.1)) (Φ,[],([]:List ai),(.slice none 0 0),[],([]:List ao),(.slice none 0 0),[],0) N ⟨h,k1,(by simp),k2⟩ (sx [0,0,0,0] [0,0,0]) (fun n1 ih1 s hm=>?_)
 obtain ⟨Φ_1,X1,s1,u1,D1,s2,u2,D2,s3⟩:=s
 obtain ⟨h,k3,i1,k4⟩:=hm
 dsimp only at h k3 i1 k4 ⊢
 unfold d6 at h
 refine atr 6 [1,64] rfl<|lnr ph0_0 rfl<|la rfl<|en ?_
 refine ch h rfl ?_ ?_ <;> intro h
 ·refine atr 5 [] rfl<|lq (aQ (vs:=[]) (C:=#[.slice none 0 0,.slice none 0 0]) zq nG rfl (aa)) rfl<|lnz nG rfl fun b_4=>soN 0 yd rfl ⟨rfl,rfl,trivial⟩ rfl ?_
  refine art 7 [] rfl<|wt0<|wtS ?_
  have k5:=OSl.nil (RI .i64) 3 1 Φ_1
  refine wtS ?_
  have k6:=OSl.nil (RI .i64) 3 1 Φ_1
  refine lin (σ:=Hp × List Nat × (List ai) × Value × List Nat × (List Int) × Value × (List Int) × Value × Int) (fun s=>[(1,pQ b_1),(2,pQ b_2),(3,pQ b_3),(4,iV s3),(5,pQ b_4),(6,iV s.2.2.2.2.2.2.2.2.2)]) (fun s=>St w0 s.1 [(b_4,.cells #[s.2.2.2.2.2.2.2.2.1,s.2.2.2.2.2.2.1] 79 (0,0)),(b_3,.cells #[s.2.2.2.1,u2] 30 (0,0)),(b_2,.cells #[.slice none 0 0,.slice none 0 0] 30 (0,0)),(b_1,.cells #[.string p0.Name,pv0_0] 26 (0,0))] [ob s.2.2.2.2.2.2.2.2.1,ob s.2.2.2.2.2.2.1,s.2.1,D2,ob u2,ob s.2.2.2.1,X1]) (fun m s=>ei N p0 s2 s3 (d6 N p0 n1) m s.2.2.1 s.2.2.2.2.2.1 s.2.2.2.2.2.2.2.1 s.2.2.2.2.2.2.2.2.2=some r∧(OSl bl 75 4 s.1 s.2.2.2.2.1 s.2.2.2.1 s.2.2.1)∧(∀ k∈s.2.2.2.2.1,k∈(X1++s.2.1))∧(OSl ay 79 2 s.1 D2 u2 s2)∧(OSl (RI .i64) 3 1 s.1 [] s.2.2.2.2.2.2.1 s.2.2.2.2.2.1)∧(OSl (RI .i64) 3 1 s.1 [] s.2.2.2.2.2.2.2.2.1 s.2.2.2.2.2.2.2.1)) (Φ_1,[],s1,u1,D1,([]:List Int),(.slice none 0 0),([]:List Int),(.slice none 0 0),0) N ⟨h,k3,(fun k hk=>(List.mem_append.2 (.inl (i1 k hk)))),k4,k5,k6⟩ (sx [0,0,0,0,0,0,0] [0,0,0,0]) (fun n2 ih2 s hm=>?_)
  obtain ⟨Φ_2,X2,s4,u3,D3,s5,u4,s6,u5,s7⟩:=s
  obtain ⟨h,k7,i2,k4,k8,k9⟩:=hm
  dsimp only at h k7 i2 k4 k8 k9 ⊢
  unfold ei at h
  refine atr 7 [1,96] rfl ?_
  obtain ⟨x1,hx1,h⟩:=bs h
  obtain ⟨cs1,F1,-,g1,hb1,hs1,r1⟩:=ph0_0.el (a9 hx1).2.2
  obtain ⟨v1,G1,v2,G2,v3,G3,rfl,rfl,h1,h2,h3⟩:=r1
  refine lia ph0_0 hx1 rfl<|lf wy rfl rfl rfl<|lhx 2 0 g1 rfl<|lnr h1 rfl<|la rfl<|en ?_
  refine ch h rfl ?_ ?_ <;> intro h
  ·refine atr 8 [1,96] rfl ?_
   obtain ⟨x2,hx2,h⟩:=bs h
   obtain ⟨cs2,F2,-,g2,hb2,hs2,r2⟩:=ph0_0.el (a9 hx2).2.2
   obtain ⟨v4,G4,v5,G5,v6,G6,rfl,rfl,h4,h5,h6⟩:=r2
   refine lia ph0_0 hx2 rfl<|lf wy rfl rfl rfl<|lhx 2 0 g2 rfl<|la rfl ?_
   obtain ⟨x3,hx3,h⟩:=bs h
   obtain ⟨cs3,F3,-,g3,hb3,hs3,r3⟩:=h4.el (a9 hx3).2.2
   obtain ⟨v7,G7,rfl,hq1,h7⟩:=r3
   obtain rfl:=hq1.symm
   refine lia h4 hx3 rfl<|lhx 0 3 g3 rfl<|lnz jY rfl fun b_5=>soN 0 od rfl ⟨rfl,h7.one,rfl,trivial⟩ rfl ?_
   refine arr 4 [3] rfl<|kab h rfl rfl rfl (fun b z q=>u7 N b x3 (h7.y z) q) ?_
   rintro x4 h v8 Φ_3 F4 ⟨ap1,fr1,v9,v10,rfl,rfl,h8,h9⟩
   replace k7:=k7.fr fr1 (ap1.q 5 rfl) (Dj.sub (Dj.app (ap1.q 6 rfl) (ap1.q 2 rfl)) i2)
   replace k4:=k4.fr fr1 (ap1.q 4 rfl) (ap1.q 3 rfl)
   replace k8:=k8.fr fr1 (ap1.q 1 rfl) dN
   replace k9:=k9.fr fr1 (ap1.q 0 rfl) dN
   refine WL.frz (js:=[2]) (R:=[(b_5,.cells #[.string x3.Kind,v7,.bool x3.Not] 128 (0,0)),(b_4,.cells #[u5,u4] 79 (0,0)),(b_2,.cells #[.slice none 0 0,.slice none 0 0] 30 (0,0)),(b_1,.cells #[.string p0.Name,pv0_0] 26 (0,0))]) rfl (fun Φ_4 fr2 k10=>?_)
   replace k7:=k7.f0 fr2
   replace k4:=k4.f0 fr2
   replace k8:=k8.f0 fr2
   replace k9:=k9.f0 fr2
   replace h8:=h8.f0 fr2
   replace h9:=h9.f0 fr2
   refine kcb [0,7] h rfl rfl rfl rfl (fun b ap z q=>tY N b (⟨s4,s2⟩:aO) x4 k7 ((k4.rslG ay.gives).x (Dj.app (ap.q 6 rfl) (ap.q 5 rfl))) k10 (h8.rsl.x (Dj.app (ap.q 0 rfl) dN)) (h9.rsl.x (Dj.app (ap.q 1 rfl) dN)) (Dj.sub (Dj.app (ap.q 7 rfl) (ap.q 4 rfl)) i2) q) ?_
   rintro x5 h v11 Φ_5 F5 ⟨ap2,fr3,v12,D4,rfl,rfl,h10,i3,e1,h11⟩
   replace k4:=k4.fr fr3 (ap2.q 6 rfl) (ap2.q 5 rfl)
   replace k8:=k8.fr fr3 (ap2.q 3 rfl) dN
   replace k9:=k9.fr fr3 (ap2.q 2 rfl) dN
   refine art 7 [2,0] rfl ?_
   refine ch h rfl ?_ ?_ <;> intro h
   ·refine atr 4 [1,32] rfl ?_
    have rc1:RC (RI .i64) 1 Φ_5 ([[]]:List (List Nat)) [iV x5.1] ([x5.1]:List Int):=RC.cons (c:=[iV x5.1]) (cells:=[]) ⟨rfl,rfl⟩ rfl (RC.nil _ _ _)
    refine le' (aY (vs:=[(0,iV x5.1)]) (C:=#[iV x5.1]) RI.lasts aW gB rfl rfl rfl rfl (ag iy (a7 (C':=[iV x5.1]) rfl rfl rfl rfl rfl (aa))) rfl rc1 rfl (by simpa using Kw.nil)) rfl ?_
    rintro v13 Φ_6 D5 ⟨fr4,h12⟩
    replace h12:OSl (RI .i64) 3 1 Φ_6 [] v13 ([x5.1]:List Int):=by simpa using h12
    replace k4:=k4.f0 fr4
    replace k8:=k8.f0 fr4
    replace k9:=k9.f0 fr4
    replace h10:=h10.f0 fr4
    replace h11:=fr4 _ _ (by simp) h11
    obtain ⟨x6,hx6,h⟩:=bs h
    refine le' (bB RI.lasts RI.one RI.flat aW jw rfl rfl rfl rfl rfl (js:=[6]) (Rr:=[ob v13,[b_3],ob v12,ob v9,ob v10,ob u5,X2,D2,ob u2,X1]) rfl k8 h12.rsl hx6) rfl ?_
    rintro v14 Φ_7 D6 ⟨⟨ap3,fr5⟩,h13⟩
    replace k4:=k4.fr fr5 (ap3.q 8 rfl) (ap3.q 7 rfl)
    replace k9:=k9.fr fr5 (ap3.q 5 rfl) dN
    replace h10:=h10.fr fr5 (ap3.q 2 rfl) (Dj.sub (Dj.app (Dj.sub (Dj.app (ap3.q 9 rfl) (ap3.q 6 rfl)) i2) (Dj.app (Dj.sub (ap3.q 3 rfl) pI) (Dj.sub (ap3.q 4 rfl) pI))) i3)
    replace h11:=fr5 _ _ ((ap3.q 1 rfl) _ (by simp)) h11
    refine lf qf rfl rfl rfl<|so1 1 nU rfl h13.one ?_
    refine art 7 [] rfl ?_
    refine WT.thw (js:=[2]) (R:=[ob v14,ob v13,ob v12,ob v9,ob v10,ob u5,X2,D2,ob u2,X1]) rfl h11 (fun Φ_8 ap4 fr6=>?_)
    replace k4:=k4.fr fr6 (ap4.q 8 rfl) (ap4.q 7 rfl)
    replace h13:=h13.fr fr6 (ap4.q 0 rfl) dN
    replace k9:=k9.fr fr6 (ap4.q 5 rfl) dN
    replace h10:=h10.fr fr6 (ap4.q 2 rfl) (Dj.sub (Dj.app (Dj.sub (Dj.app (ap4.q 9 rfl) (ap4.q 6 rfl)) i2) (Dj.app (Dj.sub (ap4.q 3 rfl) pI) (Dj.sub (ap4.q 4 rfl) pI))) i3)
    refine wtL [(X2++(ob v9++(ob v10))),ob v14,ob v13,ob v12,ob u5,D2,ob u2,X1] (smg [6,3,3] rfl (SP.eq (by simp [List.append_assoc]))) ?_
    exact lb [4,1,0,2,2,1,1] [2,0,1,1] (ih2 (_,_,_,_,_,_,_,_,_,_) ⟨h,h10,(fun k hk=>((List.mem_append.1 (i3 k hk)).elim (fun h=>((List.mem_append.1 (i2 k h)).elim (fun h=>(List.mem_append.2 (.inl h))) (fun h=>(List.mem_append.2 (.inr ((fun k hk=>(List.mem_append.2 (.inl hk))) k h)))))) (fun h=>((List.mem_append.1 h).elim (fun h=>(List.mem_append.2 (.inr ((fun k hk=>(List.mem_append.2 (.inr (List.mem_append.2 (.inl hk))))) k (pI k h))))) (fun h=>(List.mem_append.2 (.inr ((fun k hk=>(List.mem_append.2 (.inr (List.mem_append.2 (.inr hk))))) k (pI k h))))))))),k4,h13,k9⟩)
   refine atr 4 [0,32] rfl ?_
   have rc2:RC (RI .i64) 1 Φ_5 ([[]]:List (List Nat)) [iV x5.1] ([x5.1]:List Int):=RC.cons (c:=[iV x5.1]) (cells:=[]) ⟨rfl,rfl⟩ rfl (RC.nil _ _ _)
   refine le' (aY (vs:=[(0,iV x5.1)]) (C:=#[iV x5.1]) RI.lasts aW gB rfl rfl rfl rfl (ag iy (a7 (C':=[iV x5.1]) rfl rfl rfl rfl rfl (aa))) rfl rc2 rfl (by simpa using Kw.nil)) rfl ?_
   rintro v15 Φ_9 D7 ⟨fr7,h14⟩
   replace h14:OSl (RI .i64) 3 1 Φ_9 [] v15 ([x5.1]:List Int):=by simpa using h14
   replace k4:=k4.f0 fr7
   replace k8:=k8.f0 fr7
   replace k9:=k9.f0 fr7
   replace h10:=h10.f0 fr7
   replace h11:=fr7 _ _ (by simp) h11
   obtain ⟨x7,hx7,h⟩:=bs h
   refine le' (bB RI.lasts RI.one RI.flat aW jw rfl rfl rfl rfl rfl (js:=[5]) (Rr:=[ob v15,[b_3],ob v12,ob v9,ob v10,ob u4,X2,D2,ob u2,X1]) rfl k9 h14.rsl hx7) rfl ?_
   rintro v16 Φ_10 D8 ⟨⟨ap5,fr8⟩,h15⟩
   replace k4:=k4.fr fr8 (ap5.q 8 rfl) (ap5.q 7 rfl)
   replace k8:=k8.fr fr8 (ap5.q 5 rfl) dN
   replace h10:=h10.fr fr8 (ap5.q 2 rfl) (Dj.sub (Dj.app (Dj.sub (Dj.app (ap5.q 9 rfl) (ap5.q 6 rfl)) i2) (Dj.app (Dj.sub (ap5.q 3 rfl) pI) (Dj.sub (ap5.q 4 rfl) pI))) i3)
   replace h11:=fr8 _ _ ((ap5.q 1 rfl) _ (by simp)) h11
   refine lf lg rfl rfl rfl<|so1 1 nU rfl h15.one ?_
   refine art 7 [] rfl ?_
   refine WT.thw (js:=[2]) (R:=[ob v16,ob v15,ob v12,ob v9,ob v10,ob u4,X2,D2,ob u2,X1]) rfl h11 (fun Φ_11 ap6 fr9=>?_)
   replace k4:=k4.fr fr9 (ap6.q 8 rfl) (ap6.q 7 rfl)
   replace k8:=k8.fr fr9 (ap6.q 5 rfl) dN
   replace h15:=h15.fr fr9 (ap6.q 0 rfl) dN
   replace h10:=h10.fr fr9 (ap6.q 2 rfl) (Dj.sub (Dj.app (Dj.sub (Dj.app (ap6.q 9 rfl) (ap6.q 6 rfl)) i2) (Dj.app (Dj.sub (ap6.q 3 rfl) pI) (Dj.sub (ap6.q 4 rfl) pI))) i3)
   refine wtL [(X2++(ob v9++(ob v10))),ob v16,ob v15,ob v12,ob u4,D2,ob u2,X1] (smg [6,3,3] rfl (SP.eq (by simp [List.append_assoc]))) ?_
   exact lb [1,3,0,2,2,1,1] [2,0,1,1] (ih2 (_,_,_,_,_,_,_,_,_,_) ⟨h,h10,(fun k hk=>((List.mem_append.1 (i3 k hk)).elim (fun h=>((List.mem_append.1 (i2 k h)).elim (fun h=>(List.mem_append.2 (.inl h))) (fun h=>(List.mem_append.2 (.inr ((fun k hk=>(List.mem_append.2 (.inl hk))) k h)))))) (fun h=>((List.mem_append.1 h).elim (fun h=>(List.mem_append.2 (.inr ((fun k hk=>(List.mem_append.2 (.inr (List.mem_append.2 (.inl hk))))) k (pI k h))))) (fun h=>(List.mem_append.2 (.inr ((fun k hk=>(List.mem_append.2 (.inr (List.mem_append.2 (.inr hk))))) k (pI k h))))))))),k4,k8,h15⟩)
  refine atr 5 [1,32,2] rfl ?_
  have rc3:RC ay 2 Φ_2 ([(ob u5++[])++((ob u4++[]))]:List (List Nat)) [u5,u4] ([(⟨s6,s5⟩:ao)]:List ao):=RC.cons (c:=[u5,u4]) (cells:=[]) ⟨u5,u4,rfl,rfl,k9,k8⟩ rfl (RC.nil _ _ _)
  refine le' (aY (vs:=[(0,.agg [u5,u4].toArray)]) (C:=#[u5,u4]) ay.lasts ky nG rfl rfl rfl rfl (ag rS (a7 (C':=[u5,u4]) rfl rfl rfl rfl rfl (aa))) rfl rc3 rfl (RC.kn ay.knows rc3)) rfl ?_
  rintro v17 Φ_12 D9 ⟨fr10,h16⟩
  replace h16:OSl ay 79 2 Φ_12 ((ob u5++[])++((ob u4++[]))) v17 ([(⟨s6,s5⟩:ao)]:List ao):=by simpa [List.append_assoc] using h16
  replace k7:=k7.f0 fr10
  replace k4:=k4.f0 fr10
  refine wlL [((ob u5++[])++((ob u4++[]))),ob v17,X2,D2,ob u2,ob u3,X1] (smg [1,1] rfl (SP.eq (by simp [List.append_assoc,bv]))) ?_
  obtain ⟨x8,hx8,h⟩:=bs h
  refine le' (bU ay.lasts ay.one ky xX rfl rfl rfl rfl rfl (js:=[4]) (Rr:=[((ob u5++[])++((ob u4++[]))),ob v17,X2,D2,ob u3,X1]) rfl k4 h16 (fun ap=>ap.q 3 rfl) (fun ap=>ap.q 0 rfl) hx8) rfl ?_
  rintro v18 Φ_13 D10 ⟨⟨ap7,fr11⟩,h17⟩
  replace k7:=k7.fr fr11 (ap7.q 4 rfl) (Dj.sub (Dj.app (ap7.q 5 rfl) (ap7.q 2 rfl)) i2)
  refine wlL [(D2++((ob u5++[])++((ob u4++[])))),ob v18,ob v17,X2,ob u3,X1] (smg [4,1] rfl (SP.eq (by simp)))<|lf sd rfl rfl rfl<|so1 1 yj rfl h17.one ?_
  refine art 7 [] rfl<|wtL [(X1++(X2)),(D2++((ob u5++[])++((ob u4++[])))),ob v18,ob v17,ob u3] (smg [5,3] rfl (SP.eq (by simp [List.append_assoc]))) ?_
  exact lb [1,1,2,0] [1,1,1] (ih1 (_,_,_,_,_,_,_,_,_) ⟨h,k7,(fun k hk=>((List.mem_append.1 (i2 k hk)).elim (fun h=>((fun k hk=>(List.mem_append.2 (.inl hk))) k h)) (fun h=>((fun k hk=>(List.mem_append.2 (.inr hk))) k h)))),h17⟩)
 refine atr 4 [2] rfl<|soN 1 o0 rfl ⟨k3.one,k4.one,trivial⟩ rfl ?_
 refine en ?_
 refine WT.ret hF (az.one (aX uU rfl (fun w1 hw=>hw.rgO (i:=1) rfl 0 2 [u1,u2] rfl) rfl)) (fun w1 hw=>?_)
 cases h
 replace hw:=hw.merge (js:=[3]) (F:=[X1].flatten) rfl (SP.eq (by simp))
 refine bc (js:=[3,2,1,0]) hw rfl ⟨u1,D1,u2,D2,[X1].flatten,rfl,rfl,k3,(fun k hk=>(List.mem_flatten.2 ⟨X1,by simp,(i1 k hk)⟩)),k4⟩
end Go.Proofs.YtinomobmcjnfjaaGreat
