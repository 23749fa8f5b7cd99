/- Printed by a program of ours: each Go function computes its Lean function. -/
import Derived.Test.YtkdffjpgnhobhaaGreatProg
import Derived.Test.YtkdffjpgnhobhaaGreatWExactDropItemWalk2
namespace Go.Proofs.YtkdffjpgnhobhaaGreat
open Eng Tryz
open Go.RowKit (Below)
set_option linter.unusedVariables false
set_option linter.unusedSimpArgs false

set_option maxRecDepth 100000
set_option maxHeartbeats 1000000
variable {Ψ Φ:Hp} {pv0_0 pv0_1 pv1_0 pv0 pv1_1 pv2_0 pv2_1 pv3_0 pv2 pv0_2:Value} {pG0_0 pG0_1 pG1_0 pG0 pG1_1 pG2_0 pG2_1 pG3_0 pD0 pG2 pG0_2 pD2 pD1_0 pD1_1:List Nat} {pb1:Nat} (N:Nat)
theorem yH (w0:ab Ψ Φ []) (p0:ax) (ph0_0:RSl bO 5 Ψ pG0_0 pv0_0 p0.Args) {r:a8} (h:og N p0=some r) :
  Calls prog 166 [.agg [.string p0.Kind,pv0_0,.bool p0.Not].toArray].toArray w0.w (aL Φ w0.w [] (fun Φ' Fs v=>∃ (sr_0_0:Value) (sr_0_1:Value),v = .agg [.string r.Kind,iV r.N,sr_0_0,sr_0_1].toArray∧Fs=[ob sr_0_0,ob sr_0_1]∧OSl av 225 3 Φ' [] sr_0_0 r.Consts∧OSl (RI .i64) 3 1 Φ' [] sr_0_1 r.At)):=by
 refine eN func166 rfl ntmps166 rfl w0 fun hF=>?_
 unfold og at h
 refine sr<|lbx rfl fun b_1=>lnz kX rfl fun b_2=>arr 7 [0,32,1,32] rfl<|lnr ph0_0 rfl<|lq (cG (vs:=[(0,.string p0.Kind),(1,iV (p0.Args.length:Int))]) (C:=#[.string p0.Kind,iV (p0.Args.length:Int),.slice none 0 0,.slice none 0 0]) I5 kX rfl (ag (C':=[.string p0.Kind,iV 0,.slice none 0 0,.slice none 0 0]) rfl rfl rfl rfl rfl (ag (C':=[.string p0.Kind,iV (p0.Args.length:Int),.slice none 0 0,.slice none 0 0]) rfl rfl rfl rfl rfl (aq)))) rfl<|lnz kX rfl fun b_3=>?_
 refine soN 0 rS rfl ⟨rfl,rfl,rfl,rfl,trivial⟩ rfl ?_
 refine art 7 [] rfl<|wtS ?_
 have k1:=OSl.nil av 225 3 Φ
 refine wtS ?_
 have k2:=OSl.nil (RI .i64) 3 1 Φ
 refine lin (σ:=Hp × (List aE) × Value × (List Int) × Value × Int) (fun s=>[(1,pQ b_1),(2,pQ b_2),(3,pQ b_3),(4,iV s.2.2.2.2.2)]) (fun s=>St w0 s.1 [(b_3,.cells #[.string p0.Kind,iV (p0.Args.length:Int),s.2.2.1,s.2.2.2.2.1] 148 (0,0)),(b_2,.cells #[.string (⟨#[]⟩:ByteArray),iV 0,.slice none 0 0,.slice none 0 0] 148 (0,0)),(b_1,.cells #[.string p0.Kind,pv0_0,.bool p0.Not] 214 (0,0))] [ob s.2.2.2.2.1,ob s.2.2.1]) (fun m s=>eU N p0 m s.2.1 s.2.2.2.1 s.2.2.2.2.2=some r∧(OSl av 225 3 s.1 [] s.2.2.1 s.2.1)∧(OSl (RI .i64) 3 1 s.1 [] s.2.2.2.2.1 s.2.2.2.1)) (Φ,([]:List aE),(.slice none 0 0),([]:List Int),(.slice none 0 0),0) N ⟨h,k1,k2⟩ (sx [0,0] [0,0,0]) (fun n1 ih1 s hm=>?_)
 obtain ⟨Φ_1,s1,u1,s2,u2,s3⟩:=s
 obtain ⟨h,k3,k4⟩:=hm
 dsimp only at h k3 k4 ⊢
 unfold eU at h
 refine atr 6 [1,64] rfl<|lnr ph0_0 rfl<|la rfl<|en ?_
 refine ch h rfl ?_ ?_ <;> intro h
 ·refine atr 8 [1,64] rfl ?_
  obtain ⟨x1,hx1,h⟩:=bs h
  obtain ⟨cs1,F1,-,g1,hb1,hs1,r1⟩:=ph0_0.el (a7 hx1).2.2
  obtain ⟨rfl,-⟩:=r1
  refine lia ph0_0 hx1 rfl<|lf wn rfl rfl rfl<|lhx 0 0 g1 rfl<|la rfl<|en ?_
  refine ch h rfl ?_ ?_ <;> intro h
  ·refine sq<|wm [0,1,2] [11] rfl<|amm 5 [0,2,1,0,2,1,3,64,4] [0,1,2] rfl rfl ?_
   obtain ⟨x2,hx2,h⟩:=bs h
   obtain ⟨cs2,F2,-,g2,hb2,hs2,r2⟩:=ph0_0.el (a7 hx2).2.2
   obtain ⟨rfl,-⟩:=r2
   refine mq 5 rfl (by kernel_rfl) (kN [0,1,2]) (aa wx rfl rfl ph0_0 hx2) rfl<|amm 1 [6,2] [0,1,2] rfl rfl<|mq 7 rfl (by kernel_rfl) (kN [0,1,2]) (aw kT rfl (fun w1 hw=>(g2.of_eq 2 3 rfl rfl:rg _ _ _ [iV x2.V.K,iV x2.V.N,.string x2.V.S]).rangeAt hw.1) rfl) rfl ?_
   have rc1:RC av 3 Φ_1 ([[]]:List (List Nat)) [iV x2.V.K,iV x2.V.N,.string x2.V.S] ([x2.V]:List aE):=RC.cons (c:=[iV x2.V.K,iV x2.V.N,.string x2.V.S]) (cells:=[]) ⟨rfl,rfl⟩ rfl (RC.nil _ _ _)
   refine WM.one 8 (by kernel_rfl) (me rfl (fun _ v Φx D w1 hq hw=>Kn.of Kf.nil (ai3 0 1 2 rfl rfl rfl) hw) (ed (vs:=[(0,.agg [iV x2.V.K,iV x2.V.N,.string x2.V.S].toArray)]) (C:=#[iV x2.V.K,iV x2.V.N,.string x2.V.S]) av.lasts hU jk rfl rfl rfl rfl (aV Et (ag (C':=[iV x2.V.K,iV x2.V.N,.string x2.V.S]) rfl rfl rfl rfl rfl (aq))) rfl rc1 rfl (by simpa using Kw.nil)) rfl ?_)
   rintro v1 Φ_2 D1 ⟨fr1,h1⟩
   replace h1:OSl av 225 3 Φ_2 [] v1 ([x2.V]:List aE):=by simpa using h1
   replace k3:=k3.f0 fr1
   replace k4:=k4.f0 fr1
   obtain ⟨x3,hx3,h⟩:=bs h
   refine WM.one 9 (by kernel_rfl) (me rfl (fun _ v Φx D w1 hq hw=>Kn.of Kf.nil (ai3 0 1 2 rfl rfl rfl) hw) (dV av.lasts av.one av.flat hU De rfl rfl rfl rfl rfl (js:=[2]) (Rr:=[ob v1,ob u2]) rfl k3 h1.rsl hx3) rfl ?_)
   rintro v2 Φ_3 D2 ⟨⟨ap1,fr2⟩,h2⟩
   replace k4:=k4.fr fr2 (ap1.q 1 rfl) dN
   refine amm 1 [10,2] [0,1,2] rfl rfl ?_
   refine on1 11 (ms1 0 rfl nk zO rfl h2.one ?_)
   refine WM.nil (by kernel_rfl)<|atr 4 [3,0] rfl ?_
   have rc2:RC (RI .i64) 1 Φ_3 ([[]]:List (List Nat)) [iV s3] ([s3]:List Int):=RC.cons (c:=[iV s3]) (cells:=[]) ⟨rfl,rfl⟩ rfl (RC.nil _ _ _)
   refine le' (ed (vs:=[(0,iV s3)]) (C:=#[iV s3]) RI.lasts bg sW rfl rfl rfl rfl (aV tL (ag (C':=[iV s3]) rfl rfl rfl rfl rfl (aq))) rfl rc2 rfl (by simpa using Kw.nil)) rfl ?_
   rintro v3 Φ_4 D3 ⟨fr3,h3⟩
   replace h3:OSl (RI .i64) 3 1 Φ_4 [] v3 ([s3]:List Int):=by simpa using h3
   replace h2:=h2.f0 fr3
   replace k4:=k4.f0 fr3
   obtain ⟨x4,hx4,h⟩:=bs h
   refine le' (dV RI.lasts RI.one RI.flat bg ui rfl rfl rfl rfl rfl (js:=[3]) (Rr:=[ob v3,ob v2,ob v1]) rfl k4 h3.rsl hx4) rfl ?_
   rintro v4 Φ_5 D4 ⟨⟨ap2,fr4⟩,h4⟩
   replace h2:=h2.fr fr4 (ap2.q 1 rfl) dN
   refine lf ub rfl rfl rfl<|so1 0 mf rfl h4.one ?_
   refine art 7 [] rfl ?_
   exact lb [0,1] [0,0,0] (ih1 (_,_,_,_,_,_) ⟨h,h2,h4⟩)
  refine att 7 [] rfl ?_
  exact lb [0,0] [0,0,0] (ih1 (_,_,_,_,_,_) ⟨h,k3,k4⟩)
 refine atr 4 [4] rfl<|soN 1 rS rfl ⟨rfl,rfl,k3.one,k4.one,trivial⟩ rfl ?_
 refine en ?_
 exact rtg [1,0] hF (ao.one (bB qL rfl (fun w1 hw=>hw.rgO (i:=1) rfl 0 4 [.string p0.Kind,iV (p0.Args.length:Int),u1,u2] rfl) rfl)) rfl (by cases h; exact fun w1 hw=>⟨u1,u2,rfl,rfl,k3,k4⟩)
theorem B5 (w0:ab Ψ Φ []) (p0:bl) (ph0_0:RSl bU 5 Ψ pG0_0 pv0_0 p0.Rules) {r:bd} (h:qo N p0=some r) :
  Calls prog 114 [.agg [.string p0.Name,pv0_0].toArray].toArray w0.w (aL Φ w0.w [] (fun Φ' Fs v=>∃ (sr_0_0:Value) (Dr_0_0:List Nat) (sr_0_1:Value) (Dr_0_1:List Nat) (X:List Nat),v = .agg [sr_0_0,sr_0_1].toArray∧Fs=[ob sr_0_0,ob sr_0_1,Dr_0_1,X]∧OSl be 148 4 Φ' Dr_0_0 sr_0_0 r.Alphas∧(∀ k∈Dr_0_0,k∈X)∧OSl aD 150 2 Φ' Dr_0_1 sr_0_1 r.Chains)):=by
 refine eN func114 rfl ntmps114 rfl w0 fun hF=>?_
 unfold qo at h
 refine sr<|lbx rfl fun b_1=>lnz w5 rfl fun b_2=>en<|sr<|lq (cG (vs:=[]) (C:=#[.slice none 0 0,.slice none 0 0]) Nd w5 rfl (aq)) rfl<|lnz w5 rfl fun b_3=>soN 0 Cr rfl ⟨rfl,rfl,trivial⟩ rfl ?_
 refine art 7 [] rfl<|wt0<|wtS ?_
 have k1:=OSl.nil be 148 4 Φ
 refine wtS<|wt0 ?_
 have k2:=OSl.nil aD 150 2 Φ
 refine lin (σ:=Hp × List Nat × (List a8) × Value × List Nat × (List ac) × Value × List Nat × Int) (fun s=>[(1,pQ b_1),(2,pQ b_2),(3,pQ b_3),(4,iV s.2.2.2.2.2.2.2.2)]) (fun s=>St w0 s.1 [(b_3,.cells #[s.2.2.2.1,s.2.2.2.2.2.2.1] 52 (0,0)),(b_2,.cells #[.slice none 0 0,.slice none 0 0] 52 (0,0)),(b_1,.cells #[.string p0.Name,pv0_0] 47 (0,0))] [s.2.2.2.2.2.2.2.1,ob s.2.2.2.2.2.2.1,ob s.2.2.2.1,s.2.1]) (fun m s=>dd N p0 m s.2.2.1 s.2.2.2.2.2.1 s.2.2.2.2.2.2.2.2=some r∧(OSl be 148 4 s.1 s.2.2.2.2.1 s.2.2.2.1 s.2.2.1)∧(∀ k∈s.2.2.2.2.1,k∈s.2.1)∧(OSl aD 150 2 s.1 s.2.2.2.2.2.2.2.1 s.2.2.2.2.2.2.1 s.2.2.2.2.2.1)) (Φ,[],([]:List a8),(.slice none 0 0),[],([]:List ac),(.slice none 0 0),[],0) N ⟨h,k1,(by simp),k2⟩ (sx [0,0,0,0] [0,0,0]) (fun n1 ih1 s hm=>?_)
 obtain ⟨Φ_1,X1,s1,u1,D1,s2,u2,D2,s3⟩:=s
 obtain ⟨h,k3,i1,k4⟩:=hm
 dsimp only at h k3 i1 k4 ⊢
 unfold dd at h
 refine atr 6 [1,64] rfl<|lnr ph0_0 rfl<|la rfl<|en ?_
 refine ch h rfl ?_ ?_ <;> intro h
 ·refine atr 5 [] rfl<|lq (cG (vs:=[]) (C:=#[.slice none 0 0,.slice none 0 0]) LU rc rfl (aq)) rfl<|lnz rc rfl fun b_4=>soN 0 wk rfl ⟨rfl,rfl,trivial⟩ rfl ?_
  refine art 7 [] rfl<|wt0<|wtS ?_
  have k5:=OSl.nil (RI .i64) 3 1 Φ_1
  refine wtS ?_
  have k6:=OSl.nil (RI .i64) 3 1 Φ_1
  refine lin (σ:=Hp × List Nat × (List a8) × Value × List Nat × (List Int) × Value × (List Int) × Value × Int) (fun s=>[(1,pQ b_1),(2,pQ b_2),(3,pQ b_3),(4,iV s3),(5,pQ b_4),(6,iV s.2.2.2.2.2.2.2.2.2)]) (fun s=>St w0 s.1 [(b_4,.cells #[s.2.2.2.2.2.2.2.2.1,s.2.2.2.2.2.2.1] 150 (0,0)),(b_3,.cells #[s.2.2.2.1,u2] 52 (0,0)),(b_2,.cells #[.slice none 0 0,.slice none 0 0] 52 (0,0)),(b_1,.cells #[.string p0.Name,pv0_0] 47 (0,0))] [ob s.2.2.2.2.2.2.2.2.1,ob s.2.2.2.2.2.2.1,s.2.1,D2,ob u2,ob s.2.2.2.1,X1]) (fun m s=>ez N p0 s2 s3 (dd N p0 n1) m s.2.2.1 s.2.2.2.2.2.1 s.2.2.2.2.2.2.2.1 s.2.2.2.2.2.2.2.2.2=some r∧(OSl be 148 4 s.1 s.2.2.2.2.1 s.2.2.2.1 s.2.2.1)∧(∀ k∈s.2.2.2.2.1,k∈(X1++s.2.1))∧(OSl aD 150 2 s.1 D2 u2 s2)∧(OSl (RI .i64) 3 1 s.1 [] s.2.2.2.2.2.2.1 s.2.2.2.2.2.1)∧(OSl (RI .i64) 3 1 s.1 [] s.2.2.2.2.2.2.2.2.1 s.2.2.2.2.2.2.2.1)) (Φ_1,[],s1,u1,D1,([]:List Int),(.slice none 0 0),([]:List Int),(.slice none 0 0),0) N ⟨h,k3,(fun k hk=>(List.mem_append.2 (.inl (i1 k hk)))),k4,k5,k6⟩ (sx [0,0,0,0,0,0,0] [0,0,0,0]) (fun n2 ih2 s hm=>?_)
  obtain ⟨Φ_2,X2,s4,u3,D3,s5,u4,s6,u5,s7⟩:=s
  obtain ⟨h,k7,i2,k4,k8,k9⟩:=hm
  dsimp only at h k7 i2 k4 k8 k9 ⊢
  unfold ez at h
  refine atr 7 [1,96] rfl ?_
  obtain ⟨x1,hx1,h⟩:=bs h
  obtain ⟨cs1,F1,-,g1,hb1,hs1,r1⟩:=ph0_0.el (a7 hx1).2.2
  obtain ⟨v1,G1,v2,G2,v3,G3,rfl,rfl,h1,h2,h3⟩:=r1
  refine lia ph0_0 hx1 rfl<|lf ua rfl rfl rfl<|lhx 2 0 g1 rfl<|lnr h1 rfl<|la rfl<|en ?_
  refine ch h rfl ?_ ?_ <;> intro h
  ·refine atr 8 [1,96] rfl ?_
   obtain ⟨x2,hx2,h⟩:=bs h
   obtain ⟨cs2,F2,-,g2,hb2,hs2,r2⟩:=ph0_0.el (a7 hx2).2.2
   obtain ⟨v4,G4,v5,G5,v6,G6,rfl,rfl,h4,h5,h6⟩:=r2
   refine lia ph0_0 hx2 rfl<|lf ua rfl rfl rfl<|lhx 2 0 g2 rfl<|la rfl ?_
   obtain ⟨x3,hx3,h⟩:=bs h
   obtain ⟨cs3,F3,-,g3,hb3,hs3,r3⟩:=h4.el (a7 hx3).2.2
   obtain ⟨v7,G7,rfl,hq1,h7⟩:=r3
   obtain rfl:=hq1.symm
   refine lia h4 hx3 rfl<|lhx 0 3 g3 rfl<|lnz pP rfl fun b_5=>soN 0 sX rfl ⟨rfl,h7.one,rfl,trivial⟩ rfl ?_
   refine arr 4 [3] rfl<|kab h rfl rfl rfl (fun b z q=>yH N b x3 (h7.y z) q) ?_
   rintro x4 h v8 Φ_3 F4 ⟨ap1,fr1,v9,v10,rfl,rfl,h8,h9⟩
   replace k7:=k7.fr fr1 (ap1.q 5 rfl) (Dj.sub (Dj.app (ap1.q 6 rfl) (ap1.q 2 rfl)) i2)
   replace k4:=k4.fr fr1 (ap1.q 4 rfl) (ap1.q 3 rfl)
   replace k8:=k8.fr fr1 (ap1.q 1 rfl) dN
   replace k9:=k9.fr fr1 (ap1.q 0 rfl) dN
   refine WL.frz (js:=[2]) (R:=[(b_5,.cells #[.string x3.Kind,v7,.bool x3.Not] 214 (0,0)),(b_4,.cells #[u5,u4] 150 (0,0)),(b_2,.cells #[.slice none 0 0,.slice none 0 0] 52 (0,0)),(b_1,.cells #[.string p0.Name,pv0_0] 47 (0,0))]) rfl (fun Φ_4 fr2 k10=>?_)
   replace k7:=k7.f0 fr2
   replace k4:=k4.f0 fr2
   replace k8:=k8.f0 fr2
   replace k9:=k9.f0 fr2
   replace h8:=h8.f0 fr2
   replace h9:=h9.f0 fr2
   refine kcb [0,7] h rfl rfl rfl rfl (fun b ap z q=>Ag N b (⟨s4,s2⟩:bd) x4 k7 ((k4.rslG aD.gives).x (Dj.app (ap.q 6 rfl) (ap.q 5 rfl))) k10 (h8.rsl.x (Dj.app (ap.q 0 rfl) dN)) (h9.rsl.x (Dj.app (ap.q 1 rfl) dN)) (Dj.sub (Dj.app (ap.q 7 rfl) (ap.q 4 rfl)) i2) q) ?_
   rintro x5 h v11 Φ_5 F5 ⟨ap2,fr3,v12,D4,rfl,rfl,h10,i3,e1,h11⟩
   replace k4:=k4.fr fr3 (ap2.q 6 rfl) (ap2.q 5 rfl)
   replace k8:=k8.fr fr3 (ap2.q 3 rfl) dN
   replace k9:=k9.fr fr3 (ap2.q 2 rfl) dN
   refine art 7 [2,0] rfl ?_
   refine ch h rfl ?_ ?_ <;> intro h
   ·refine atr 4 [1,32] rfl ?_
    have rc1:RC (RI .i64) 1 Φ_5 ([[]]:List (List Nat)) [iV x5.1] ([x5.1]:List Int):=RC.cons (c:=[iV x5.1]) (cells:=[]) ⟨rfl,rfl⟩ rfl (RC.nil _ _ _)
    refine le' (ed (vs:=[(0,iV x5.1)]) (C:=#[iV x5.1]) RI.lasts bg sW rfl rfl rfl rfl (aV tL (ag (C':=[iV x5.1]) rfl rfl rfl rfl rfl (aq))) rfl rc1 rfl (by simpa using Kw.nil)) rfl ?_
    rintro v13 Φ_6 D5 ⟨fr4,h12⟩
    replace h12:OSl (RI .i64) 3 1 Φ_6 [] v13 ([x5.1]:List Int):=by simpa using h12
    replace k4:=k4.f0 fr4
    replace k8:=k8.f0 fr4
    replace k9:=k9.f0 fr4
    replace h10:=h10.f0 fr4
    replace h11:=fr4 _ _ (by simp) h11
    obtain ⟨x6,hx6,h⟩:=bs h
    refine le' (dV RI.lasts RI.one RI.flat bg ui rfl rfl rfl rfl rfl (js:=[6]) (Rr:=[ob v13,[b_3],ob v12,ob v9,ob v10,ob u5,X2,D2,ob u2,X1]) rfl k8 h12.rsl hx6) rfl ?_
    rintro v14 Φ_7 D6 ⟨⟨ap3,fr5⟩,h13⟩
    replace k4:=k4.fr fr5 (ap3.q 8 rfl) (ap3.q 7 rfl)
    replace k9:=k9.fr fr5 (ap3.q 5 rfl) dN
    replace h10:=h10.fr fr5 (ap3.q 2 rfl) (Dj.sub (Dj.app (Dj.sub (Dj.app (ap3.q 9 rfl) (ap3.q 6 rfl)) i2) (Dj.app (Dj.sub (ap3.q 3 rfl) tm) (Dj.sub (ap3.q 4 rfl) tm))) i3)
    replace h11:=fr5 _ _ ((ap3.q 1 rfl) _ (by simp)) h11
    refine lf nq rfl rfl rfl<|so1 1 mf rfl h13.one ?_
    refine art 7 [] rfl ?_
    refine WT.thw (js:=[2]) (R:=[ob v14,ob v13,ob v12,ob v9,ob v10,ob u5,X2,D2,ob u2,X1]) rfl h11 (fun Φ_8 ap4 fr6=>?_)
    replace k4:=k4.fr fr6 (ap4.q 8 rfl) (ap4.q 7 rfl)
    replace h13:=h13.fr fr6 (ap4.q 0 rfl) dN
    replace k9:=k9.fr fr6 (ap4.q 5 rfl) dN
    replace h10:=h10.fr fr6 (ap4.q 2 rfl) (Dj.sub (Dj.app (Dj.sub (Dj.app (ap4.q 9 rfl) (ap4.q 6 rfl)) i2) (Dj.app (Dj.sub (ap4.q 3 rfl) tm) (Dj.sub (ap4.q 4 rfl) tm))) i3)
    refine wtL [(X2++(ob v9++(ob v10))),ob v14,ob v13,ob v12,ob u5,D2,ob u2,X1] (smg [6,3,3] rfl (SP.eq (by simp [List.append_assoc]))) ?_
    exact lb [4,1,0,2,2,1,1] [2,0,1,1] (ih2 (_,_,_,_,_,_,_,_,_,_) ⟨h,h10,(fun k hk=>((List.mem_append.1 (i3 k hk)).elim (fun h=>((List.mem_append.1 (i2 k h)).elim (fun h=>(List.mem_append.2 (.inl h))) (fun h=>(List.mem_append.2 (.inr ((fun k hk=>(List.mem_append.2 (.inl hk))) k h)))))) (fun h=>((List.mem_append.1 h).elim (fun h=>(List.mem_append.2 (.inr ((fun k hk=>(List.mem_append.2 (.inr (List.mem_append.2 (.inl hk))))) k (tm k h))))) (fun h=>(List.mem_append.2 (.inr ((fun k hk=>(List.mem_append.2 (.inr (List.mem_append.2 (.inr hk))))) k (tm k h))))))))),k4,h13,k9⟩)
   refine atr 4 [0,32] rfl ?_
   have rc2:RC (RI .i64) 1 Φ_5 ([[]]:List (List Nat)) [iV x5.1] ([x5.1]:List Int):=RC.cons (c:=[iV x5.1]) (cells:=[]) ⟨rfl,rfl⟩ rfl (RC.nil _ _ _)
   refine le' (ed (vs:=[(0,iV x5.1)]) (C:=#[iV x5.1]) RI.lasts bg sW rfl rfl rfl rfl (aV tL (ag (C':=[iV x5.1]) rfl rfl rfl rfl rfl (aq))) rfl rc2 rfl (by simpa using Kw.nil)) rfl ?_
   rintro v15 Φ_9 D7 ⟨fr7,h14⟩
   replace h14:OSl (RI .i64) 3 1 Φ_9 [] v15 ([x5.1]:List Int):=by simpa using h14
   replace k4:=k4.f0 fr7
   replace k8:=k8.f0 fr7
   replace k9:=k9.f0 fr7
   replace h10:=h10.f0 fr7
   replace h11:=fr7 _ _ (by simp) h11
   obtain ⟨x7,hx7,h⟩:=bs h
   refine le' (dV RI.lasts RI.one RI.flat bg ui rfl rfl rfl rfl rfl (js:=[5]) (Rr:=[ob v15,[b_3],ob v12,ob v9,ob v10,ob u4,X2,D2,ob u2,X1]) rfl k9 h14.rsl hx7) rfl ?_
   rintro v16 Φ_10 D8 ⟨⟨ap5,fr8⟩,h15⟩
   replace k4:=k4.fr fr8 (ap5.q 8 rfl) (ap5.q 7 rfl)
   replace k8:=k8.fr fr8 (ap5.q 5 rfl) dN
   replace h10:=h10.fr fr8 (ap5.q 2 rfl) (Dj.sub (Dj.app (Dj.sub (Dj.app (ap5.q 9 rfl) (ap5.q 6 rfl)) i2) (Dj.app (Dj.sub (ap5.q 3 rfl) tm) (Dj.sub (ap5.q 4 rfl) tm))) i3)
   replace h11:=fr8 _ _ ((ap5.q 1 rfl) _ (by simp)) h11
   refine lf nt rfl rfl rfl<|so1 1 mf rfl h15.one ?_
   refine art 7 [] rfl ?_
   refine WT.thw (js:=[2]) (R:=[ob v16,ob v15,ob v12,ob v9,ob v10,ob u4,X2,D2,ob u2,X1]) rfl h11 (fun Φ_11 ap6 fr9=>?_)
   replace k4:=k4.fr fr9 (ap6.q 8 rfl) (ap6.q 7 rfl)
   replace k8:=k8.fr fr9 (ap6.q 5 rfl) dN
   replace h15:=h15.fr fr9 (ap6.q 0 rfl) dN
   replace h10:=h10.fr fr9 (ap6.q 2 rfl) (Dj.sub (Dj.app (Dj.sub (Dj.app (ap6.q 9 rfl) (ap6.q 6 rfl)) i2) (Dj.app (Dj.sub (ap6.q 3 rfl) tm) (Dj.sub (ap6.q 4 rfl) tm))) i3)
   refine wtL [(X2++(ob v9++(ob v10))),ob v16,ob v15,ob v12,ob u4,D2,ob u2,X1] (smg [6,3,3] rfl (SP.eq (by simp [List.append_assoc]))) ?_
   exact lb [1,3,0,2,2,1,1] [2,0,1,1] (ih2 (_,_,_,_,_,_,_,_,_,_) ⟨h,h10,(fun k hk=>((List.mem_append.1 (i3 k hk)).elim (fun h=>((List.mem_append.1 (i2 k h)).elim (fun h=>(List.mem_append.2 (.inl h))) (fun h=>(List.mem_append.2 (.inr ((fun k hk=>(List.mem_append.2 (.inl hk))) k h)))))) (fun h=>((List.mem_append.1 h).elim (fun h=>(List.mem_append.2 (.inr ((fun k hk=>(List.mem_append.2 (.inr (List.mem_append.2 (.inl hk))))) k (tm k h))))) (fun h=>(List.mem_append.2 (.inr ((fun k hk=>(List.mem_append.2 (.inr (List.mem_append.2 (.inr hk))))) k (tm k h))))))))),k4,k8,h15⟩)
  refine atr 5 [1,32,2] rfl ?_
  have rc3:RC aD 2 Φ_2 ([(ob u5++[])++((ob u4++[]))]:List (List Nat)) [u5,u4] ([(⟨s6,s5⟩:ac)]:List ac):=RC.cons (c:=[u5,u4]) (cells:=[]) ⟨u5,u4,rfl,rfl,k9,k8⟩ rfl (RC.nil _ _ _)
  refine le' (ed (vs:=[(0,.agg [u5,u4].toArray)]) (C:=#[u5,u4]) aD.lasts tq rc rfl rfl rfl rfl (aV Fm (ag (C':=[u5,u4]) rfl rfl rfl rfl rfl (aq))) rfl rc3 rfl (RC.kn aD.knows rc3)) rfl ?_
  rintro v17 Φ_12 D9 ⟨fr10,h16⟩
  replace h16:OSl aD 150 2 Φ_12 ((ob u5++[])++((ob u4++[]))) v17 ([(⟨s6,s5⟩:ac)]:List ac):=by simpa [List.append_assoc] using h16
  replace k7:=k7.f0 fr10
  replace k4:=k4.f0 fr10
  refine wlL [((ob u5++[])++((ob u4++[]))),ob v17,X2,D2,ob u2,ob u3,X1] (smg [1,1] rfl (SP.eq (by simp [List.append_assoc,bm]))) ?_
  obtain ⟨x8,hx8,h⟩:=bs h
  refine le' (kj aD.lasts aD.one tq I2 rfl rfl rfl rfl rfl (js:=[4]) (Rr:=[((ob u5++[])++((ob u4++[]))),ob v17,X2,D2,ob u3,X1]) rfl k4 h16 (fun ap=>ap.q 3 rfl) (fun ap=>ap.q 0 rfl) hx8) rfl ?_
  rintro v18 Φ_13 D10 ⟨⟨ap7,fr11⟩,h17⟩
  replace k7:=k7.fr fr11 (ap7.q 4 rfl) (Dj.sub (Dj.app (ap7.q 5 rfl) (ap7.q 2 rfl)) i2)
  refine wlL [(D2++((ob u5++[])++((ob u4++[])))),ob v18,ob v17,X2,ob u3,X1] (smg [4,1] rfl (SP.eq (by simp)))<|lf yw rfl rfl rfl<|so1 1 HT rfl h17.one ?_
  refine art 7 [] rfl<|wtL [(X1++(X2)),(D2++((ob u5++[])++((ob u4++[])))),ob v18,ob v17,ob u3] (smg [5,3] rfl (SP.eq (by simp [List.append_assoc]))) ?_
  exact lb [1,1,2,0] [1,1,1] (ih1 (_,_,_,_,_,_,_,_,_) ⟨h,k7,(fun k hk=>((List.mem_append.1 (i2 k hk)).elim (fun h=>((fun k hk=>(List.mem_append.2 (.inl hk))) k h)) (fun h=>((fun k hk=>(List.mem_append.2 (.inr hk))) k h)))),h17⟩)
 refine atr 4 [2] rfl<|soN 1 Cr rfl ⟨k3.one,k4.one,trivial⟩ rfl ?_
 refine en ?_
 refine WT.ret hF (ao.one (bB ET rfl (fun w1 hw=>hw.rgO (i:=1) rfl 0 2 [u1,u2] rfl) rfl)) (fun w1 hw=>?_)
 cases h
 replace hw:=hw.merge (js:=[3]) (F:=[X1].flatten) rfl (SP.eq (by simp))
 refine ce (js:=[3,2,1,0]) hw rfl ⟨u1,D1,u2,D2,[X1].flatten,rfl,rfl,k3,(fun k hk=>(List.mem_flatten.2 ⟨X1,by simp,(i1 k hk)⟩)),k4⟩
theorem CN (w0:ab Ψ Φ []) (p0:bd) (p1:bl) (ph0_0:RSl be 4 Ψ pG0_0 pv0_0 p0.Alphas) (ph0_1:RSl bv 2 Ψ pG0_1 pv0_1 p0.Chains) (ph1_0:RSl bU 5 Ψ pG1_0 pv1_0 p1.Rules) {r:Bool} (h:ss N p0 p1=some r) :
  CB w0 prog 64 [.agg [pv0_0,pv0_1].toArray,.agg [.string p1.Name,pv1_0].toArray] (.bool r):=by
 refine eN func64 rfl ntmps64 rfl w0 fun hF=>?_
 unfold ss at h
 refine sr<|lbx rfl fun b_1=>lbx rfl fun b_2=>art 3 [] rfl<|wm [0,1] [] rfl<|amm 1 [0,2] [0,1] rfl rfl ?_
 obtain ⟨x1,hx1,h⟩:=bs h
 refine on1 1 (mp rfl (kS [0,1]) (pdP rfl (DO N · p1 ph1_0 hx1)) rfl ?_)
 refine amm 1 [2] [0,1] rfl rfl ?_
 refine WM.split (d:=7) rfl (fun c1=>?_) (fun c1=>?_)
 ·replace h:=jl h c1
  refine mqG 3 [6,7,8] rfl (by kernel_rfl) (kN [0,1]) (aw ET rfl (fun w1 hw=>hw.rgO (i:=1) rfl 0 2 [pv0_0,pv0_1] rfl) rfl) rfl<|mqG 4 [5,6,7,8] rfl (by kernel_rfl) (kN [0,1]) (aw Ia rfl (fun w1 hw=>hw.rgO (i:=0) rfl 0 2 [.string p1.Name,pv1_0] rfl) rfl) rfl ?_
  obtain ⟨x2,hx2,h⟩:=bs h
  refine WM.one 5 (by kernel_rfl) (mcG rfl (fun _ v Φx D w1 hq hw=>Kn.of Kf.nil (ai2 0 1 rfl rfl) hw) (aU (js:=[]) (R:=[]) IV rfl rfl (fun w1 hw ap hl=>B5 N (ba hw.fro) p1 (ph1_0.y hw.up)  hx2)) rfl ?_)
  rintro v1 Φ_1 F1 ⟨ap1,fr1,v2,D1,v3,D2,X1,rfl,rfl,h1,i1,h2⟩
  obtain ⟨x4,hx3,h⟩:=bs h
  refine on1 6 (mpG rfl (kS [0,1]) (pzP rfl (fun b z=>yv N b p0 x2 (ph0_0.y z) (ph0_1.y z) h1.rsl (h2.rslG aD.gives) hx3)) rfl ?_)
  refine amm 2 [7,8] [0,1] rfl rfl<|WM.nil (by kernel_rfl) ?_
  exact rt hF h
 replace h:=jn h c1
 refine mno 3 [6,7,8] rfl (by kernel_rfl) (kn Kf.nil (ai2 0 1 rfl rfl)) rfl (.inl rfl) rfl rfl<|mno 4 [5,6,7,8] rfl (by kernel_rfl) (kn Kf.nil (ai2 0 1 rfl rfl)) rfl (.inl rfl) rfl rfl<|mno 5 [6,7,8] rfl (by kernel_rfl) (kn Kf.nil (ai2 0 1 rfl rfl)) rfl (.inl rfl) rfl rfl<|mno 6 [7,8] rfl (by kernel_rfl) (kn Kf.nil (ai2 0 1 rfl rfl)) rfl (.inl rfl) rfl rfl<|amm 2 [7,8] [0,1] rfl rfl<|WM.nil (by kernel_rfl) ?_
 exact rt hF h
theorem yx (w0:ab Ψ Φ []) (p0:(List ak)) (p1:Int) (p2:Int) (ph0:RSl ic 2 Ψ pG0 pv0 p0) {r:Bool} (h:nX N p0 p1 p2=some r) :
  CB w0 prog 115 [pv0,iV p1,iV p2] (.bool r):=by
 refine eN func115 rfl ntmps115 rfl w0 fun hF=>?_
 unfold nX at h
 refine att 10 [] rfl ?_
 refine lin (σ:=Int) (fun s=>[(0,pv0),(1,iV p1),(2,iV p2),(7,iV s)]) (fun s=>St w0 Φ [] []) (fun m s=>eI N p0 p1 p2 m s=some r) (0) N h (sx [] []) (fun n1 ih1 s hm=>?_)
 revert hm; revert s; intro s1 hm
 have h:eI N p0 p1 p2 (n1+1) s1=some r:=hm
 show WT _ _ [(0,pv0),(1,iV p1),(2,iV p2),(7,iV s1)] (St w0 Φ [] [])
 unfold eI at h
 refine atr 5 [] rfl<|lnr ph0 rfl<|la rfl<|en ?_
 refine ch h rfl ?_ ?_ <;> intro h
 ·refine atr 7 [] rfl ?_
  obtain ⟨x1,hx1,h⟩:=bs h
  obtain ⟨cs1,F1,-,g1,hb1,hs1,r1⟩:=ph0.el (a7 hx1).2.2
  obtain ⟨v1,G1,v2,G2,rfl,rfl,h1,h2⟩:=r1
  refine lia ph0 hx1 rfl<|lf pC rfl rfl rfl<|lhx 0 0 g1 rfl<|lnr h1 rfl<|arr 3 [] rfl ?_
  obtain ⟨b1,hb_1,h⟩:=bs h
  refine WL.cutN 9 [(31,.bool b1),(0,pv0),(1,iV p1),(2,iV p2),(7,iV s1)] ?_ (fun K=>?_)
  rotate_left
  ·refine sp 22 hb_1 rfl (fun hb_1=>?_) fun hb_1=>?_
   ·refine arr 9 [] rfl ?_
    cases hb_1
    exact ku K
   ·refine arr 2 [] rfl<|ly rfl rfl ?_
    obtain ⟨x2,hx2,hb_1⟩:=bs hb_1
    obtain ⟨cs2,F2,-,g2,hb2,hs2,r2⟩:=ph0.el (a7 hx2).2.2
    obtain ⟨v3,G3,v4,G4,rfl,rfl,h3,h4⟩:=r2
    refine lia ph0 hx2 rfl<|ly rfl rfl<|lf po rfl rfl rfl<|ly rfl rfl<|lhx 1 0 g2 rfl<|ly rfl rfl<|lnr h4 rfl<|arr 3 [] rfl ?_
    cases hb_1
    exact ku K
  refine en ?_
  refine ch h rfl ?_ ?_ <;> intro h
  ·refine att 4 [] rfl ?_
   exact rt hF h
  refine att 7 [] rfl ?_
  exact lb [] [] (ih1 _ h)
 refine att 5 [] rfl ?_
 exact rt hF h
theorem xS (w0:ab Ψ Φ []) (p0:bd) (p1:aG) (ph0_0:RSl be 4 Ψ pG0_0 pv0_0 p0.Alphas) (ph0_1:RSl bv 2 Ψ pG0_1 pv0_1 p0.Chains) (ph1_0:RSl dP 1 Ψ pG1_0 pv1_0 p1.Alphas) (ph1_1:RSl fx 1 Ψ pG1_1 pv1_1 p1.Rules) {r:Bool} (h:mC N p0 p1=some r) :
  CB w0 prog 65 [.agg [pv0_0,pv0_1].toArray,.agg [pv1_0,pv1_1].toArray] (.bool r):=by
 refine eN func65 rfl ntmps65 rfl w0 fun hF=>?_
 unfold mC at h
 refine sr<|lbx rfl fun b_1=>lbx rfl fun b_2=>arr 7 [0,0] rfl<|lnr ph1_0 rfl<|arr 2 [0,32] rfl<|lnr ph0_0 rfl<|arr 2 [] rfl ?_
 obtain ⟨b1,hb_1,h⟩:=bs h
 refine WL.cutN 8 [(24,.bool b1),(2,pQ b_1),(3,pQ b_2)] ?_ (fun K=>?_)
 rotate_left
 ·refine sp 16 hb_1 rfl (fun hb_1=>?_) fun hb_1=>?_
  ·refine arr 8 [] rfl ?_
   cases hb_1
   exact ku K
  ·refine arr 2 [1,0] rfl<|ly rfl rfl<|lnr ph1_1 rfl<|arr 2 [1,32] rfl<|ly rfl rfl<|lnr ph0_1 rfl<|arr 2 [] rfl ?_
   cases hb_1
   exact ku K
 refine en ?_
 refine ch h rfl ?_ ?_ <;> intro h
 ·refine att 4 [] rfl ?_
  exact rt hF h
 refine att 7 [] rfl ?_
 refine lin (σ:=Int) (fun s=>[(2,pQ b_1),(3,pQ b_2),(5,iV s)]) (fun s=>St w0 Φ [(b_2,.cells #[pv1_0,pv1_1] 43 (0,0)),(b_1,.cells #[pv0_0,pv0_1] 52 (0,0))] []) (fun m s=>bA N p0 p1 m s=some r) (0) N h (sx [] [0,0]) (fun n1 ih1 s hm=>?_)
 revert hm; revert s; intro s1 hm
 have h:bA N p0 p1 (n1+1) s1=some r:=hm
 show WT _ _ [(2,pQ b_1),(3,pQ b_2),(5,iV s1)] (St w0 Φ [(b_2,.cells #[pv1_0,pv1_1] 43 (0,0)),(b_1,.cells #[pv0_0,pv0_1] 52 (0,0))] [])
 unfold bA at h
 refine atr 6 [1,0] rfl<|lnr ph1_1 rfl<|la rfl<|en ?_
 refine ch h rfl ?_ ?_ <;> intro h
 ·refine atr 8 [1,32] rfl ?_
  obtain ⟨x1,hx1,h⟩:=bs h
  obtain ⟨cs1,F1,-,g1,hb1,hs1,r1⟩:=ph0_1.el (a7 hx1).2.2
  obtain ⟨v1,G1,v2,G2,rfl,rfl,h1,h2⟩:=r1
  refine lia ph0_1 hx1 rfl<|lf nt rfl rfl rfl<|lhx 0 0 g1 rfl<|lnr h1 rfl<|arr 8 [1,0] rfl ?_
  obtain ⟨x2,hx2,h⟩:=bs h
  obtain ⟨cs2,F2,-,g2,hb2,hs2,r2⟩:=ph1_1.el (a7 hx2).2.2
  obtain ⟨v3,G3,rfl,hq1,h3⟩:=r2
  obtain rfl:=hq1.symm
  refine lia ph1_1 hx2 rfl<|lf gq rfl rfl rfl<|lhx 0 0 g2 rfl<|lnr h3 rfl<|art 3 [] rfl ?_
  refine ch h rfl ?_ ?_ <;> intro h
  ·refine att 4 [] rfl ?_
   exact rt hF h
  refine att 6 [] rfl ?_
  refine lin (σ:=Int) (fun s=>[(2,pQ b_1),(3,pQ b_2),(5,iV s1),(6,iV (x1.Pos.length:Int)),(7,iV s)]) (fun s=>St w0 Φ [(b_2,.cells #[pv1_0,pv1_1] 43 (0,0)),(b_1,.cells #[pv0_0,pv0_1] 52 (0,0))] []) (fun m s=>bQ N p0 p1 s1 (bA N p0 p1 n1) x1 m s=some r) (0) N h (sx [] [0,0]) (fun n2 ih2 s hm=>?_)
  revert hm; revert s; intro s2 hm
  have h:bQ N p0 p1 s1 (bA N p0 p1 n1) x1 (n2+1) s2=some r:=hm
  show WT _ _ [(2,pQ b_1),(3,pQ b_2),(5,iV s1),(6,iV (x1.Pos.length:Int)),(7,iV s2)] (St w0 Φ [(b_2,.cells #[pv1_0,pv1_1] 43 (0,0)),(b_1,.cells #[pv0_0,pv0_1] 52 (0,0))] [])
  unfold bQ at h
  refine att 7 [] rfl ?_
  refine ch h rfl ?_ ?_ <;> intro h
  ·refine att 15 [] rfl ?_
   refine cut (σ:=Int) (fun s=>[(2,pQ b_1),(3,pQ b_2),(5,iV s1),(6,iV (x1.Pos.length:Int)),(7,iV s2),(8,iV s)]) (fun s=>St w0 Φ [(b_2,.cells #[pv1_0,pv1_1] 43 (0,0)),(b_1,.cells #[pv0_0,pv0_1] 52 (0,0))] []) (fun s=>fd N p1 s1 s2 (bQ N p0 p1 s1 (bA N p0 p1 n1) x1 n2) s=some r) (fun s hm=>?_) (fun K=>?_)
   ·clear h
    revert hm; revert s; intro s3 hm
    have h:fd N p1 s1 s2 (bQ N p0 p1 s1 (bA N p0 p1 n1) x1 n2) s3=some r:=hm
    show WT _ _ [(2,pQ b_1),(3,pQ b_2),(5,iV s1),(6,iV (x1.Pos.length:Int)),(7,iV s2),(8,iV s3)] (St w0 Φ [(b_2,.cells #[pv1_0,pv1_1] 43 (0,0)),(b_1,.cells #[pv0_0,pv0_1] 52 (0,0))] [])
    unfold fd at h
    refine atr 5 [1,0] rfl ?_
    obtain ⟨x3,hx3,h⟩:=bs h
    obtain ⟨cs3,F3,-,g3,hb3,hs3,r3⟩:=ph1_1.el (a7 hx3).2.2
    obtain ⟨v4,G4,rfl,hq2,h4⟩:=r3
    obtain rfl:=hq2.symm
    refine lia ph1_1 hx3 rfl<|lf gq rfl rfl rfl<|lhx 0 0 g3 rfl<|la rfl ?_
    obtain ⟨x4,hx4,h⟩:=bs h
    obtain ⟨cs4,F4,-,g4,hb4,hs4,r4⟩:=h4.el (a7 hx4).2.2
    obtain ⟨v5,G5,rfl,hq3,h5⟩:=r4
    obtain rfl:=hq3.symm
    refine lia h4 hx4 rfl<|lf j8 rfl rfl rfl<|lhx 0 0 g4 rfl<|arr 3 [] rfl<|qd h (yx N · x4.Toks (wz (s2+1)) s3 h5 ·) rfl rfl rfl fun x5 h=>la rfl<|en ?_
    refine ch h rfl ?_ ?_ <;> intro h
    ·refine att 4 [] rfl ?_
     exact rt hF h
    refine att 7 [] rfl ?_
    exact lb [] [0,0] (ih2 _ h)
   refine ch h rfl ?_ ?_ <;> intro h
   ·refine atr 4 [1,32] rfl ?_
    obtain ⟨x6,hx6,h⟩:=bs h
    obtain ⟨cs5,F5,-,g5,hb5,hs5,r5⟩:=ph0_1.el (a7 hx6).2.2
    obtain ⟨v6,G6,v7,G7,rfl,rfl,h6,h7⟩:=r5
    refine lia ph0_1 hx6 rfl<|lf nq rfl rfl rfl<|lhx 1 0 g5 rfl<|lnr h7 rfl<|la rfl<|en ?_
    exact wo [] [0,0] (K _ h)
   refine WT.skip ?_
   exact wo [] [0,0] (K _ h)
  refine att 7 [] rfl ?_
  exact lb [] [0,0] (ih1 _ h)
 refine att 5 [] rfl ?_
 exact rt hF h
theorem AR (w0:ab Ψ Φ []) (p0:bl) (p1:bd) (p2:aG) (p3:ah) (p4:Int) (ph0_0:RSl bU 5 Ψ pG0_0 pv0_0 p0.Rules) (ph1_0:RSl be 4 Ψ pG1_0 pv1_0 p1.Alphas) (ph1_1:RSl bv 2 Ψ pG1_1 pv1_1 p1.Chains) (ph2_0:RSl dP 1 Ψ pG2_0 pv2_0 p2.Alphas) (ph2_1:RSl fx 1 Ψ pG2_1 pv2_1 p2.Rules) (ph3_0:RSl bN 3 Ψ pG3_0 pv3_0 p3.Items) {r:Bool} (h:rd N p0 p1 p2 p3 p4=some r) :
  CB w0 prog 30 [.agg [.string p0.Name,pv0_0].toArray,.agg [pv1_0,pv1_1].toArray,.agg [pv2_0,pv2_1].toArray,.agg [pv3_0,iV p3.Next].toArray,iV p4] (.bool r):=by
 refine eN func30 rfl ntmps30 rfl w0 fun hF=>?_
 unfold rd at h
 refine sr<|lbx rfl fun b_1=>lbx rfl fun b_2=>lbx rfl fun b_3=>lbx rfl fun b_4=>arr 6 [2] rfl<|kab h rfl rfl rfl (fun b z q=>nT N b p3 p4 (ph3_0.y z) q) ?_
 rintro x1 h v1 Φ_1 F1 ⟨ap1,fr1,v2,rfl,rfl,h1⟩
 refine arr 3 [] rfl<|lnz kh rfl fun b_5=>soN 0 kY rfl ⟨rfl,h1.one,trivial⟩ rfl ?_
 refine arr 6 [] rfl ?_
 obtain ⟨b1,hb_1,h⟩:=bs h
 refine WL.cutN 3 [(23,.bool b1),(5,pQ b_1),(6,pQ b_2),(7,pQ b_3)] ?_ (fun K=>?_)
 rotate_left
 ·refine sp 20 hb_1 rfl (fun hb_1=>?_) fun hb_1=>?_
  ·refine ly rfl rfl<|ld2 Cp 1 rfl<|ly rfl rfl<|qd hb_1 (yV N · p3 ph3_0 ·) rfl rfl rfl fun x2 hb_1=>la rfl ?_
   cases hb_1
   exact ku K
  ·refine arr 3 [] rfl ?_
   cases hb_1
   exact ku K
 refine la rfl ?_
 obtain ⟨b2,hb_2,h⟩:=bs h
 refine WL.cutN 4 [(28,.bool b2),(6,pQ b_2),(7,pQ b_3)] ?_ (fun K=>?_)
 rotate_left
 ·refine sp 24 hb_2 rfl (fun hb_2=>?_) fun hb_2=>?_
  ·refine arr 2 [98,130] rfl<|ly rfl rfl<|qd hb_2 (CN N · p1 p0 ph1_0 ph1_1 ph0_0 ·) rfl rfl rfl fun x3 hb_2=>la rfl ?_
   cases hb_2
   exact ku K
  ·refine arr 4 [] rfl ?_
   cases hb_2
   exact ku K
 refine la rfl ?_
 obtain ⟨b3,hb_3,h⟩:=bs h
 refine WL.cutN 4 [(33,.bool b3)] ?_ (fun K=>?_)
 rotate_left
 ·refine sp 29 hb_3 rfl (fun hb_3=>?_) fun hb_3=>?_
  ·refine arr 2 [98,66] rfl<|ly rfl rfl<|qd hb_3 (xS N · p1 p2 ph1_0 ph1_1 ph2_0 ph2_1 ·) rfl rfl rfl fun x4 hb_3=>la rfl ?_
   cases hb_3
   exact ku K
  ·refine arr 4 [] rfl ?_
   cases hb_3
   exact ku K
 refine la rfl<|en ?_
 exact rt hF h
theorem Bh (w0:ab Ψ Φ []) (p0:(List Int)) (p1:Int) (ph0:RSl (RI .i64) 1 Ψ pG0 pv0 p0) {r:Bool} (h:qS N p0 p1=some r) :
  CB w0 prog 116 [pv0,iV p1] (.bool r):=by
 refine eN func116 rfl ntmps116 rfl w0 fun hF=>?_
 unfold qS at h
 refine att 10 [] rfl ?_
 refine lin (σ:=Int) (fun s=>[(0,pv0),(1,iV p1),(5,iV s)]) (fun s=>St w0 Φ [] []) (fun m s=>fL N p0 p1 m s=some r) (0) N h (sx [] []) (fun n1 ih1 s hm=>?_)
 revert hm; revert s; intro s1 hm
 have h:fL N p0 p1 (n1+1) s1=some r:=hm
 show WT _ _ [(0,pv0),(1,iV p1),(5,iV s1)] (St w0 Φ [] [])
 unfold fL at h
 refine atr 5 [] rfl<|lnr ph0 rfl<|la rfl<|en ?_
 refine ch h rfl ?_ ?_ <;> intro h
 ·refine atr 7 [] rfl ?_
  obtain ⟨x1,hx1,h⟩:=bs h
  obtain ⟨cs1,F1,-,g1,hb1,hs1,r1⟩:=ph0.el (a7 hx1).2.2
  obtain ⟨rfl,-⟩:=r1
  refine lia ph0 hx1 rfl<|lhx 0 0 g1 rfl<|art 3 [] rfl ?_
  refine ch h rfl ?_ ?_ <;> intro h
  ·refine att 4 [] rfl ?_
   exact rt hF h
  refine att 7 [] rfl ?_
  exact lb [] [] (ih1 _ h)
 refine att 5 [] rfl ?_
 exact rt hF h
theorem w9 (w0:ab Ψ Φ [ob pv0,pD0].flatten) (p0:(List ak)) (p1:Int) (ph0:OSl aO 159 2 Φ pD0 pv0 p0) {r:(List ak)} (h:jz N p0 p1=some r) :
  Calls prog 66 [pv0,iV p1].toArray w0.w (aL Φ w0.w [ob pv0,pD0].flatten (fun Φ' Fs v=>∃ (sr_0_0:Value) (Dr_0_0:List Nat),v=sr_0_0∧Fs=[ob sr_0_0,Dr_0_0]∧OSl aO 159 2 Φ' Dr_0_0 sr_0_0 r)):=by
 refine eL func66 rfl ntmps66 rfl (L:=[ob pv0,pD0]) w0 (fun hF=>?_)
 unfold jz at h
 obtain ⟨_,hlen,h⟩:=bs h
 have t0:=ph0.tail (zz hlen)
 refine atr 6 [] rfl ?_
 have rc1:RC aO 2 Φ ([]:List (List Nat)) [] ([]:List ak):=RC.nil _ _ _
 refine le' (ed (vs:=[]) (C:=#[]) aO.lasts dU iz rfl rfl rfl rfl (aV EG (aq)) rfl rc1 rfl (by simpa using Kw.nil)) rfl ?_
 rintro v1 Φ_1 D1 ⟨fr1,h1⟩
 replace h1:OSl aO 159 2 Φ_1 [] v1 ([]:List ak):=by simpa [List.append_assoc] using h1
 replace t0:=t0.f0 fr1
 refine art 8 [] rfl ?_
 refine lin (σ:=Hp × (List ak) × Value × List Nat × Int × List Nat) (fun s=>[(0,pv0),(1,iV p1),(5,s.2.2.1),(6,iV s.2.2.2.2.1)]) (fun s=>St w0 s.1 [] [ob s.2.2.1,pD0,ob pv0]) (fun m s=>cF N p0 p1 m s.2.1 s.2.2.2.2.1=some r∧(OSl aO 159 2 s.1 s.2.2.2.1 s.2.2.1 s.2.1)∧(SP (s.2.2.2.1++s.2.2.2.2.2) pD0)∧(TSl aO 2 s.1 s.2.2.2.2.2 pv0 p0 s.2.2.2.2.1)) (Φ_1,([]:List ak),v1,[],0,pD0) N ⟨h,h1,SP.refl _,t0⟩ (sx [0,1,0] []) (fun n1 ih1 s hm=>?_)
 obtain ⟨Φ_2,s1,u1,D2,s2,Dt⟩:=s
 obtain ⟨h,k1,i1,t1⟩:=hm
 dsimp only at h k1 i1 t1 ⊢
 unfold cF at h
 refine atr 5 [] rfl<|lno ph0 rfl<|la rfl<|en ?_
 refine ch h rfl ?_ ?_ <;> intro h
 ·refine atr 7 [] rfl ?_
  obtain ⟨x1,hx1,h⟩:=bs h
  obtain ⟨cs1,F1,D9,-,g1,hb1,r1,hD9,t9⟩:=t1.step aO.knows hx1
  obtain ⟨v2,v3,rfl,rfl,h2,h3⟩:=r1
  refine lq (vt dU rfl rfl t1 hx1) rfl<|lf pC rfl rfl rfl<|lgx 0 0 g1 rfl<|la rfl<|qc h (Bh N · x1.Ids p1 h2.rsl ·) rfl rfl rfl fun x2 h=>la rfl<|en ?_
  refine ch h rfl ?_ ?_ <;> intro h
  ·refine atr 4 [] rfl ?_
   obtain ⟨x3,hx3,h⟩:=bs h
   obtain rfl:x1=x3:=by rw [hx1] at hx3; exact Option.some.inj hx3
   refine lq (vt dU rfl rfl t1 hx3) rfl<|lgx 0 2 g1 rfl ?_
   have rc2:RC aO 2 Φ_2 ([(ob v2++[])++((ob v3++[]))]:List (List Nat)) [v2,v3] ([x1]:List ak):=RC.cons (c:=[v2,v3]) (cells:=[]) ⟨v2,v3,rfl,rfl,h2,h3⟩ rfl (RC.nil _ _ _)
   refine le' (ed (vs:=[(0,.agg [v2,v3].toArray)]) (C:=#[v2,v3]) aO.lasts dU iz rfl rfl rfl rfl (aV u6 (ag (C':=[v2,v3]) rfl rfl rfl rfl rfl (aq))) rfl rc2 rfl (RC.kn aO.knows rc2)) rfl ?_
   rintro v6 Φ_3 D3 ⟨fr2,h8⟩
   replace h8:OSl aO 159 2 Φ_3 ((ob v2++[])++((ob v3++[]))) v6 ([x1]:List ak):=by simpa [List.append_assoc] using h8
   replace k1:=k1.f0 fr2
   replace t9:=t9.f0 fr2
   obtain ⟨x4,hx4,h⟩:=bs h
   refine le' (kj aO.lasts aO.one dU zN rfl rfl rfl rfl rfl (js:=[1]) (Rr:=[ob v6,pD0,ob pv0]) rfl k1 h8 (fun ap=>Dj.sub (ap.q 1 rfl) i1.inl) (fun ap=>Dj.sub (ap.q 1 rfl) (fun k hk=>i1.inr k (by rw [hD9]; exact List.mem_append.2 (.inl hk)))) hx4) rfl ?_
   rintro v7 Φ_4 D4 ⟨⟨ap1,fr3⟩,h9⟩
   replace t9:=t9.fr fr3 (ap1.q 2 rfl) (Dj.sub (ap1.q 1 rfl) (fun k hk=>i1.inr k (by rw [hD9]; exact List.mem_append.2 (.inr hk))))
   refine art 8 [] rfl ?_
   exact lb [0,1,1] [] (ih1 (_,_,_,_,_,_) ⟨h,h9,i1.next hD9,t9⟩)
  refine att 7 [] rfl ?_
  exact lb [0,0,0] [] (ih1 (_,_,_,_,_,_) ⟨h,k1,i1.skip hD9,t9⟩)
 refine att 6 [] rfl ?_
 refine WT.ret hF (ao.one rfl) (fun w1 hw=>?_)
 cases h
 replace hw:=hw.merge (js:=[1]) (F:=D2) rfl (by simpa using i1.out)
 refine ce (js:=[1,0]) hw rfl ⟨u1,D2,rfl,rfl,k1⟩

theorem An (w0:ab Ψ Φ []) (p0:(List aI)) (p1:ByteArray) (ph0:RSl bn 4 Ψ pG0 pv0 p0) {r:aE × Bool} (h:qu N p0 p1=some r) :
  CB w0 prog 200 [pv0,.string p1] (.tuple #[.agg [iV r.1.K,iV r.1.N,.string r.1.S].toArray,.bool r.2]):=by
 refine eN func200 rfl ntmps200 rfl w0 fun hF=>?_
 unfold qu at h
 refine sr<|lnz jk rfl fun b_1=>art 8 [] rfl ?_
 refine lin (σ:=Int) (fun s=>[(0,pv0),(1,.string p1),(4,pQ b_1),(6,iV s)]) (fun s=>St w0 Φ [(b_1,.cells #[iV 0,iV 0,.string (⟨#[]⟩:ByteArray)] 225 (0,0))] []) (fun m s=>gQ N p0 p1 m s=some r) (0) N h (sx [] [0]) (fun n1 ih1 s hm=>?_)
 revert hm; revert s; intro s1 hm
 have h:gQ N p0 p1 (n1+1) s1=some r:=hm
 show WT _ _ [(0,pv0),(1,.string p1),(4,pQ b_1),(6,iV s1)] (St w0 Φ [(b_1,.cells #[iV 0,iV 0,.string (⟨#[]⟩:ByteArray)] 225 (0,0))] [])
 unfold gQ at h
 refine atr 5 [] rfl<|lnr ph0 rfl<|la rfl<|en ?_
 refine ch h rfl ?_ ?_ <;> intro h
 ·refine atr 7 [] rfl ?_
  obtain ⟨x1,hx1,h⟩:=bs h
  obtain ⟨cs1,F1,-,g1,hb1,hs1,r1⟩:=ph0.el (a7 hx1).2.2
  obtain ⟨rfl,-⟩:=r1
  refine lia ph0 hx1 rfl<|lf Hj rfl rfl rfl<|lhx 0 0 g1 rfl<|art 3 [] rfl ?_
  refine ch h rfl ?_ ?_ <;> intro h
  ·refine atr 4 [] rfl ?_
   obtain ⟨x2,hx2,h⟩:=bs h
   obtain ⟨cs2,F2,-,g2,hb2,hs2,r2⟩:=ph0.el (a7 hx2).2.2
   obtain ⟨rfl,-⟩:=r2
   refine lia ph0 hx2 rfl<|lf Hm rfl rfl rfl<|lhx 1 3 g2 rfl<|soN 0 qb rfl ⟨rfl,rfl,rfl,trivial⟩ rfl ?_
   refine la rfl<|en ?_
   refine WT.ret hF (ao.two (bB kT rfl (fun w1 hw=>hw.rgO (i:=0) rfl 0 3 [iV x2.V.K,iV x2.V.N,.string x2.V.S] rfl) rfl) rfl) (fun w1 hw=>?_)
   cases h
   exact ip hw
  refine att 7 [] rfl ?_
  exact lb [] [0] (ih1 _ h)
 refine xt rfl<|sr<|lq (cG (vs:=[]) (C:=#[iV 0,iV 0,.string (⟨#[]⟩:ByteArray)]) Ad jk rfl (aq)) rfl<|soN 0 qb rfl ⟨rfl,rfl,rfl,trivial⟩ rfl ?_
 refine la rfl<|en ?_
 refine WT.ret hF (ao.two (bB kT rfl (fun w1 hw=>hw.rgO (i:=0) rfl 0 3 [iV 0,iV 0,.string (⟨#[]⟩:ByteArray)] rfl) rfl) rfl) (fun w1 hw=>?_)
 cases h
 exact ip hw
theorem to (w0:ab Ψ Φ []) (p0:ax) (p1:aA) (p2:(List aI)) (ph0_0:RSl bO 5 Ψ pG0_0 pv0_0 p0.Args) (ph1_0:RSl av 3 Ψ pG1_0 pv1_0 p1.Fields) (ph2:RSl bn 4 Ψ pG2 pv2 p2) {r:(List aI) × Bool} (h:jU N p0 p1 p2=some r) :
  Calls prog 167 [.agg [.string p0.Kind,pv0_0,.bool p0.Not].toArray,.agg [.string p1.Kind,pv1_0].toArray,pv2].toArray w0.w (aL Φ w0.w [] (fun Φ' Fs v=>∃ (sr_0_0:Value),v = .tuple #[sr_0_0,.bool r.2]∧Fs=[ob sr_0_0]∧OSl bn 271 4 Φ' [] sr_0_0 r.1)):=by
 refine eN func167 rfl ntmps167 rfl w0 fun hF=>?_
 unfold jU at h
 refine sr<|lbx rfl fun b_1=>lbx rfl fun b_2=>arr 5 [] rfl<|le' (ju bn.lasts nm tb rfl rfl) rfl ?_
 rintro v1 Φ_1 D1 ⟨fr1,h1⟩
 refine la rfl<|lu0 ph2 fun h2=>?_
 obtain ⟨x1,hx1,h⟩:=bs h
 refine le' (dV bn.lasts bn.one bn.flat nm zP rfl rfl rfl rfl rfl (js:=[0]) (Rr:=[]) rfl h1 h2 hx1) rfl ?_
 rintro v2 Φ_2 D2 ⟨⟨ap1,fr2⟩,h3⟩
 refine arr 11 [0,32,0,0] rfl ?_
 obtain ⟨b1,hb_1,h⟩:=bs h
 refine WL.cutN 8 [(29,.bool b1),(2,pv2),(3,pQ b_1),(4,pQ b_2),(8,v2)] ?_ (fun K=>?_)
 rotate_left
 ·refine sp 21 hb_1 rfl (fun hb_1=>?_) fun hb_1=>?_
  ·refine arr 8 [] rfl ?_
   cases hb_1
   exact ku K
  ·refine arr 2 [1,32] rfl<|ly rfl rfl<|lnr ph0_0 rfl<|arr 2 [1,0] rfl<|ly rfl rfl<|lnr ph1_0 rfl<|arr 2 [] rfl ?_
   cases hb_1
   exact ku K
 refine en ?_
 refine ch h rfl ?_ ?_ <;> intro h
 ·refine att 6 [] rfl ?_
  exact rtg [0] hF (ao.two rfl rfl) rfl (by cases h; exact fun w1 hw=>⟨v2,rfl,rfl,h3⟩)
 refine att 7 [] rfl ?_
 refine lin (σ:=Hp × (List aI) × Value × Int) (fun s=>[(2,pv2),(3,pQ b_1),(4,pQ b_2),(8,s.2.2.1),(9,iV s.2.2.2)]) (fun s=>St w0 s.1 [(b_2,.cells #[.string p1.Kind,pv1_0] 133 (0,0)),(b_1,.cells #[.string p0.Kind,pv0_0,.bool p0.Not] 214 (0,0))] [ob s.2.2.1]) (fun m s=>ft N p0 p1 p2 m s.2.1 s.2.2.2=some r∧(OSl bn 271 4 s.1 [] s.2.2.1 s.2.1)) (Φ_2,x1,v2,0) N ⟨h,h3⟩ (sx [0] [0,0]) (fun n1 ih1 s hm=>?_)
 obtain ⟨Φ_3,s1,u1,s2⟩:=s
 obtain ⟨h,k1⟩:=hm
 dsimp only at h k1 ⊢
 unfold ft at h
 refine atr 6 [1,32] rfl<|lnr ph0_0 rfl<|la rfl<|en ?_
 refine ch h rfl ?_ ?_ <;> intro h
 ·refine atr 8 [1,32] rfl ?_
  obtain ⟨x2,hx2,h⟩:=bs h
  obtain ⟨cs1,F1,-,g1,hb1,hs1,r1⟩:=ph0_0.el (a7 hx2).2.2
  obtain ⟨rfl,-⟩:=r1
  refine lia ph0_0 hx2 rfl<|lhx 0 5 g1 rfl<|lnz oK rfl fun b_3=>soN 0 qP rfl ⟨rfl,rfl,rfl,rfl,rfl,trivial⟩ rfl ?_
  refine arr 6 [1,0] rfl<|qc h (An N · s1 x2.S k1.rsl ·) rfl rfl rfl fun x3 h=>arr 3 [] rfl<|lnz jk rfl fun b_4=>soN 0 qb rfl ⟨rfl,rfl,rfl,trivial⟩ rfl ?_
  refine art 4 [] rfl<|WT.draw d7 (by kernel_rfl) (fun _ h=>h.drew)<|aqq 4 [0,32] rfl ?_
  obtain ⟨b2,hb_2,h⟩:=bs h
  refine WQ.cutN 9 [(62,.bool b2),(2,pv2),(3,pQ b_1),(4,pQ b_2),(8,u1),(9,iV s2),(10,pQ b_3),(11,pQ b_4),(12,.bool x3.2)] ?_ (fun K=>?_)
  rotate_left
  ·refine WQ.split (d:=53) rfl (fun c4=>?_) (fun c4=>?_)
   ·replace hb_2:=jl hb_2 c4
    refine aqq 5 [2,35,1,64] rfl<|WQ.yes rfl rfl ?_
    obtain ⟨x4,hx4,hb_2⟩:=bs hb_2
    obtain ⟨cs2,F2,-,g2,hb2,hs2,r2⟩:=ph1_0.el (a7 hx4).2.2
    obtain ⟨rfl,-⟩:=r2
    refine qq (aa hU rfl rfl ph1_0 hx4) rfl<|WQ.yes rfl rfl<|qq (aw kT rfl (fun w1 hw=>(g2.of_eq 0 3 rfl rfl:rg _ _ _ [iV x4.K,iV x4.N,.string x4.S]).rangeAt hw.in0) rfl) rfl<|WQ.yes rfl rfl<|qq (Cj p6 rfl rfl rfl (r:=bF x2.V x4) rfl) rfl<|WQ.q (sT rfl rfl) rfl rfl rfl ?_
    cases hb_2
    exact kq K
   ·replace hb_2:=jn hb_2 c4
    refine aqq 9 [] rfl ?_
    cases hb_2
    exact kq K
  refine qq (jD rfl) rfl ?_
  obtain ⟨b3,hb_3,h⟩:=bs h
  refine WQ.cutN 16 [(79,.bool b3),(2,pv2),(3,pQ b_1),(4,pQ b_2),(8,u1),(9,iV s2),(10,pQ b_3),(12,.bool x3.2)] ?_ (fun K=>?_)
  rotate_left
  ·refine WQ.split (d:=63) rfl (fun c5=>?_) (fun c5=>?_)
   ·replace hb_3:=jl hb_3 c5
    refine aqq 16 [] rfl ?_
    cases hb_3
    exact kq K
   ·replace hb_3:=jn hb_3 c5
    refine aqq 4 [0,32] rfl ?_
    obtain ⟨b4,hb_4,hb_3⟩:=bs hb_3
    refine WQ.cutN 2 [(69,.bool b4),(2,pv2),(3,pQ b_1),(4,pQ b_2),(8,u1),(9,iV s2),(10,pQ b_3),(11,pQ b_4),(12,.bool x3.2),(63,.bool false)] ?_ (fun K=>?_)
    rotate_left
    ·refine WQ.split (d:=67) rfl (fun c6=>?_) (fun c6=>?_)
     ·replace hb_4:=jl hb_4 c6
      refine aqq 2 [] rfl ?_
      cases hb_4
      exact kq K
     ·replace hb_4:=jn hb_4 c6
      refine aqq 2 [] rfl ?_
      cases hb_4
      exact kq K
    refine WQ.yes rfl rfl<|qq (jD rfl) rfl ?_
    obtain ⟨b5,hb_5,hb_3⟩:=bs hb_3
    refine WQ.cutN 8 [(78,.bool b5),(2,pv2),(3,pQ b_1),(4,pQ b_2),(8,u1),(9,iV s2),(10,pQ b_3),(12,.bool x3.2),(63,.bool false)] ?_ (fun K=>?_)
    rotate_left
    ·refine WQ.split (d:=70) rfl (fun c7=>?_) (fun c7=>?_)
     ·replace hb_5:=jl hb_5 c7
      refine aqq 4 [3,1,64] rfl<|WQ.yes rfl rfl ?_
      obtain ⟨x5,hx5,hb_5⟩:=bs hb_5
      obtain ⟨cs3,F3,-,g3,hb3,hs3,r3⟩:=ph1_0.el (a7 hx5).2.2
      obtain ⟨rfl,-⟩:=r3
      refine qq (aa hU rfl rfl ph1_0 hx5) rfl<|WQ.yes rfl rfl<|qq (aw kT rfl (fun w1 hw=>(g3.of_eq 0 3 rfl rfl:rg _ _ _ [iV x5.K,iV x5.N,.string x5.S]).rangeAt hw.in0) rfl) rfl<|WQ.yes rfl rfl<|qq (Cj p6 rfl rfl rfl (r:=bF x3.1 x5) rfl) rfl<|WQ.yes rfl rfl<|WQ.q (sT rfl rfl) rfl rfl rfl ?_
      cases hb_5
      exact kq K
     ·replace hb_5:=jn hb_5 c7
      refine aqq 8 [] rfl ?_
      cases hb_5
      exact kq K
    refine WQ.q (uf rfl rfl) rfl rfl rfl ?_
    cases hb_3
    exact kq K
  refine WQ.nil ?_
  refine ch h rfl ?_ ?_ <;> intro h
  ·refine sr<|le' (ju bn.lasts nm tb rfl rfl) rfl ?_
   rintro v3 Φ_4 D3 ⟨fr3,h4⟩
   refine la rfl<|lu0 ph2 fun h5=>?_
   obtain ⟨x6,hx6,h⟩:=bs h
   refine le' (dV bn.lasts bn.one bn.flat nm zP rfl rfl rfl rfl rfl (js:=[0]) (Rr:=[ob u1]) rfl h4 h5 hx6) rfl ?_
   rintro v4 Φ_5 D4 ⟨⟨ap2,fr4⟩,h6⟩
   refine art 3 [] rfl ?_
   exact rtg [0] hF (ao.two rfl rfl) rfl (by cases h; exact fun w1 hw=>⟨v4,rfl,rfl,h6⟩)
  refine atr 7 [0,32] rfl ?_
  obtain ⟨b6,hb_6,h⟩:=bs h
  refine WL.cutN 3 [(89,.bool b6),(2,pv2),(3,pQ b_1),(4,pQ b_2),(8,u1),(9,iV s2),(10,pQ b_3)] ?_ (fun K=>?_)
  rotate_left
  ·refine sp 86 hb_6 rfl (fun hb_6=>?_) fun hb_6=>?_
   ·refine arr 3 [] rfl ?_
    cases hb_6
    exact ku K
   ·refine arr 3 [] rfl ?_
    cases hb_6
    exact ku K
  refine en ?_
  refine ch h rfl ?_ ?_ <;> intro h
  ·refine wm [0,1,2,3] [] rfl<|amm 6 [0,1,1,2,32,3,1,4,64,5] [0,1,2,3] rfl rfl ?_
   obtain ⟨x7,hx7,h⟩:=bs h
   obtain ⟨cs4,F4,-,g4,hb4,hs4,r4⟩:=ph1_0.el (a7 hx7).2.2
   obtain ⟨rfl,-⟩:=r4
   refine mq 6 rfl (by kernel_rfl) (kN [0,1,2,3]) (aa hU rfl rfl ph1_0 hx7) rfl<|mq 7 rfl (by kernel_rfl) (kN [0,1,2,3]) (aw kT rfl (fun w1 hw=>(g4.of_eq 0 3 rfl rfl:rg _ _ _ [iV x7.K,iV x7.N,.string x7.S]).rangeAt hw.1) rfl) rfl ?_
   refine mq 8 rfl (by kernel_rfl) (kN [0,1,2,3]) (cG (vs:=[(0,.string x2.S),(1,.agg [iV x7.K,iV x7.N,.string x7.S].toArray)]) (C:=#[.string x2.S,iV x7.K,iV x7.N,.string x7.S]) IC tb rfl (ag (C':=[.string x2.S,iV 0,iV 0,.string ⟨#[]⟩]) rfl rfl rfl rfl rfl (ag (C':=[.string x2.S,iV x7.K,iV x7.N,.string x7.S]) rfl rfl rfl rfl rfl (aq)))) rfl ?_
   have rc3:RC bn 4 Φ_3 ([[]]:List (List Nat)) [.string x2.S,iV x7.K,iV x7.N,.string x7.S] ([(⟨x2.S,x7⟩:aI)]:List aI):=RC.cons (c:=[.string x2.S,iV x7.K,iV x7.N,.string x7.S]) (cells:=[]) ⟨rfl,rfl⟩ rfl (RC.nil _ _ _)
   refine WM.one 9 (by kernel_rfl) (me rfl (fun _ v Φx D w1 hq hw=>Kn.of Kf.nil (am [0,1,2,3] rfl) hw) (ed (vs:=[(0,.agg [.string x2.S,iV x7.K,iV x7.N,.string x7.S].toArray)]) (C:=#[.string x2.S,iV x7.K,iV x7.N,.string x7.S]) bn.lasts nm tb rfl rfl rfl rfl (aV ED (ag (C':=[.string x2.S,iV x7.K,iV x7.N,.string x7.S]) rfl rfl rfl rfl rfl (aq))) rfl rc3 rfl (by simpa using Kw.nil)) rfl ?_)
   rintro v5 Φ_6 D5 ⟨fr5,h7⟩
   replace h7:OSl bn 271 4 Φ_6 [] v5 ([(⟨x2.S,x7⟩:aI)]:List aI):=by simpa using h7
   replace k1:=k1.f0 fr5
   obtain ⟨x8,hx8,h⟩:=bs h
   refine WM.one 10 (by kernel_rfl) (me rfl (fun _ v Φx D w1 hq hw=>Kn.of Kf.nil (am [0,1,2,3] rfl) hw) (dV bn.lasts bn.one bn.flat nm zP rfl rfl rfl rfl rfl (js:=[1]) (Rr:=[ob v5]) rfl k1 h7.rsl hx8) rfl ?_)
   rintro v6 Φ_7 D6 ⟨⟨ap3,fr6⟩,h8⟩
   refine amm 1 [11] [0,1,2,3] rfl rfl<|WM.nil (by kernel_rfl)<|att 6 [] rfl ?_
   exact lb [0] [2,2] (ih1 (_,_,_,_) ⟨h,h8⟩)
  refine att 7 [] rfl ?_
  exact lb [0] [2,2] (ih1 (_,_,_,_) ⟨h,k1⟩)
 refine att 7 [] rfl ?_
 exact rtg [0] hF (ao.two rfl rfl) rfl (by cases h; exact fun w1 hw=>⟨u1,rfl,rfl,k1⟩)
theorem xo (w0:ab Ψ Φ []) (p0:af) (p1:ah) (p2:(List Int)) (ph0_0:RSl bR 3 Ψ pG0_0 pv0_0 p0.Pats) (ph0_1:RSl aZ 11 Ψ pG0_1 pv0_1 p0.Conds) (ph0_2:RSl dZ 5 Ψ pG0_2 pv0_2 p0.Acts) (ph1_0:RSl bN 3 Ψ pG1_0 pv1_0 p1.Items) (ph2:RSl (RI .i64) 1 Ψ pG2 pv2 p2) {r:(List aI) × Bool} (h:mL N p0 p1 p2=some r) :
  Calls prog 117 [.agg [.string p0.Name,iV p0.Sal,pv0_0,pv0_1,pv0_2].toArray,.agg [pv1_0,iV p1.Next].toArray,pv2].toArray w0.w (aL Φ w0.w [] (fun Φ' Fs v=>∃ (sr_0_0:Value),v = .tuple #[sr_0_0,.bool r.2]∧Fs=[ob sr_0_0]∧OSl bn 271 4 Φ' [] sr_0_0 r.1)):=by
 refine eN func117 rfl ntmps117 rfl w0 fun hF=>?_
 unfold mL at h
 refine sr<|lbx rfl fun b_1=>lbx rfl fun b_2=>arr 5 [] rfl<|le' (ju bn.lasts nm tb rfl rfl) rfl ?_
 rintro v1 Φ_1 D1 ⟨fr1,h1⟩
 refine art 8 [] rfl ?_
 refine lin (σ:=Hp × (List aI) × Value × Int) (fun s=>[(2,pv2),(3,pQ b_1),(4,pQ b_2),(8,s.2.2.1),(9,iV s.2.2.2)]) (fun s=>St w0 s.1 [(b_2,.cells #[pv1_0,iV p1.Next] 57 (0,0)),(b_1,.cells #[.string p0.Name,iV p0.Sal,pv0_0,pv0_1,pv0_2] 145 (0,0))] [ob s.2.2.1]) (fun m s=>dO N p0 p1 p2 m s.2.1 s.2.2.2=some r∧(OSl bn 271 4 s.1 [] s.2.2.1 s.2.1)) (Φ_1,([]:List aI),v1,0) N ⟨h,h1⟩ (sx [0] [0,0]) (fun n1 ih1 s hm=>?_)
 obtain ⟨Φ_2,s1,u1,s2⟩:=s
 obtain ⟨h,k1⟩:=hm
 dsimp only at h k1 ⊢
 unfold dO at h
 refine atr 5 [] rfl<|lnr ph2 rfl<|la rfl<|en ?_
 refine ch h rfl ?_ ?_ <;> intro h
 ·refine att 4 [] rfl ?_
  refine cut (σ:=Hp × Nat × (List aE) × Value × Bool × ByteArray) (fun s=>[(2,pv2),(3,pQ b_1),(4,pQ b_2),(8,u1),(9,iV s2),(10,.pointer (some ⟨s.2.1,0,none⟩)),(11,.bool s.2.2.2.2.1)]) (fun s=>St w0 s.1 [(s.2.1,.cells #[.string s.2.2.2.2.2,s.2.2.2.1] 133 (0,0)),(b_2,.cells #[pv1_0,iV p1.Next] 57 (0,0)),(b_1,.cells #[.string p0.Name,iV p0.Sal,pv0_0,pv0_1,pv0_2] 145 (0,0))] [ob s.2.2.2.1,ob u1]) (fun s=>kE N p0 s1 s2 (dO N p0 p1 p2 n1) s.2.2.1 s.2.2.2.2.1 s.2.2.2.2.2=some r∧(OSl bn 271 4 s.1 [] u1 s1)∧(OSl av 225 3 s.1 [] s.2.2.2.1 s.2.2.1)) (fun s hm=>?_) (fun K=>?_)
  ·clear h
   obtain ⟨Φ_4,b_4,s3,u2,s4,s5⟩:=s
   obtain ⟨h,k1,k2⟩:=hm
   dsimp only at h k1 k2 ⊢
   unfold kE at h
   refine sq<|wm [0,1,2] [] rfl<|amm 3 [0,2,1,64,2] [0,1,2] rfl rfl ?_
   obtain ⟨x3,hx3,h⟩:=bs h
   obtain ⟨cs2,F3,-,g2,hb2,hs2,r2⟩:=ph0_0.el (a7 hx3).2.2
   obtain ⟨v4,G1,rfl,hq1,h3⟩:=r2
   obtain rfl:=hq1.symm
   refine mq 3 rfl (by kernel_rfl) (kN [0,1,2]) (aa tC rfl rfl ph0_0 hx3) rfl<|mq 4 rfl (by kernel_rfl) (kN [0,1,2]) (aw uW rfl (fun w1 hw=>(g2.of_eq 0 3 rfl rfl:rg _ _ _ [.string x3.Kind,v4,.bool x3.Not]).rangeAt hw.1) rfl) rfl<|amm 2 [5,2,6] [0,1,2] rfl rfl ?_
   obtain ⟨x4,hx4,h⟩:=bs h
   refine WM.one 7 (by kernel_rfl) (mc rfl (fun _ v Φx D w1 hq hw=>Kn.of Kf.nil (ai3 0 1 2 rfl rfl rfl) hw) (aU (js:=[]) (R:=[ob u2,ob u1]) GM rfl rfl (fun w1 hw ap hl=>to N (ba hw.fro) x3 (⟨s5,s3⟩:aA) s1 (h3.y hw.up) k2.rsl k1.rsl  hx4)) rfl ?_)
   rintro v5 Φ_5 F4 ⟨ap2,fr3,v6,rfl,rfl,h4⟩
   replace k1:=k1.fr fr3 (ap2.q 1 rfl) dN
   refine amm 5 [8,9,10,11,12] [0,1,2] rfl rfl<|WM.nil (by kernel_rfl)<|atr 6 [] rfl ?_
   obtain ⟨b1,hb_1,h⟩:=bs h
   refine WL.cutN 3 [(46,.bool b1),(2,pv2),(3,pQ b_1),(4,pQ b_2),(8,u1),(9,iV s2),(12,v6)] ?_ (fun K=>?_)
   rotate_left
   ·refine sp 43 hb_1 rfl (fun hb_1=>?_) fun hb_1=>?_
    ·refine arr 3 [] rfl ?_
     cases hb_1
     exact ku K
    ·refine arr 3 [] rfl ?_
     cases hb_1
     exact ku K
   refine en ?_
   refine ch h rfl ?_ ?_ <;> intro h
   ·refine att 6 [] rfl ?_
    exact rtg [2] hF (ao.two rfl rfl) rfl (by cases h; exact fun w1 hw=>⟨u1,rfl,rfl,k1⟩)
   refine att 11 [] rfl ?_
   exact lb [0] [1,1] (ih1 (_,_,_,_) ⟨h,h4⟩)
  refine wm [0,1] [] rfl<|amm 3 [0,2,1,2] [0,1] rfl rfl ?_
  obtain ⟨x5,hx5,h⟩:=bs h
  obtain ⟨cs3,F5,-,g3,hb3,hs3,r3⟩:=ph2.el (a7 hx5).2.2
  obtain ⟨rfl,-⟩:=r3
  refine mq 3 rfl (by kernel_rfl) (kN [0,1]) (aa bg rfl rfl ph2 hx5) rfl<|mq 4 rfl (by kernel_rfl) (kN [0,1]) (bk xI rfl (fun w1 hw=>(g3.of_eq 0 1 rfl rfl:rg _ _ _ [iV x5]).rangeAt hw.1)) rfl ?_
  refine WM.two 5 9 (by kernel_rfl) ?_ ?_
  ·obtain ⟨x6,hx6,h⟩:=bs h
   refine mc rfl (fun _ v Φx D w1 hq hw=>Kn.of Kf.nil (ai2 0 1 rfl rfl) hw) (aU (js:=[]) (R:=[ob u1]) HU rfl rfl (fun w1 hw ap hl=>nT N (ba hw.fro) p1 x5 (ph1_0.y hw.up)  hx6)) rfl ?_
   rintro v7 Φ_6 F6 ⟨ap3,fr4,v8,rfl,rfl,h5⟩
   replace k1:=k1.fr fr4 (ap3.q 0 rfl) dN
   refine amm 3 [6,7,8] [0,1] rfl rfl ?_
   refine on1 9 (mn rfl (kB [1,2]) (nz kh) rfl (fun b_5=>?_))
   refine on1 10 (msK 0 [1,2] rfl kY rfl ⟨rfl,h5.one,trivial⟩ rfl rfl ?_)
   refine amm 1 [11] [1,2] rfl rfl<|WM.nil (by kernel_rfl) ?_
   exact wo [0,0] [0,0,0] (K (_,_,_,_,_,_) ⟨h,k1,h5⟩)
  refine mn rfl (fun _ b w1 hw=>Kn.of Kf.nil (ai2 1 2 rfl rfl) hw) (nz kh) rfl (fun b_6=>?_)
  obtain ⟨x7,hx7,h⟩:=bs h
  refine WM.one 5 (by kernel_rfl) (mc rfl (fun _ v Φx D w1 hq hw=>Kn.of Kf.nil (ai2 1 2 rfl rfl) hw) (aU (js:=[]) (R:=[ob u1]) HU rfl rfl (fun w1 hw ap hl=>nT N (ba hw.fro) p1 x5 (ph1_0.y hw.up)  hx7)) rfl ?_)
  rintro v9 Φ_7 F7 ⟨ap4,fr5,v10,rfl,rfl,h6⟩
  replace k1:=k1.fr fr5 (ap4.q 0 rfl) dN
  refine amm 3 [6,7,8] [1,2] rfl rfl ?_
  refine on1 10 (msK 0 [1,2] rfl kY rfl ⟨rfl,h6.one,trivial⟩ rfl rfl ?_)
  refine amm 1 [11] [1,2] rfl rfl<|WM.nil (by kernel_rfl) ?_
  exact wo [0,0] [0,0,0] (K (_,_,_,_,_,_) ⟨h,k1,h6⟩)
 refine att 7 [] rfl ?_
 exact rtg [0] hF (ao.two rfl rfl) rfl (by cases h; exact fun w1 hw=>⟨u1,rfl,rfl,k1⟩)
theorem AD (w0:ab Ψ Φ []) (p0:af) (p1:aA) (p2:(List aI)) (ph0_0:RSl bR 3 Ψ pG0_0 pv0_0 p0.Pats) (ph0_1:RSl aZ 11 Ψ pG0_1 pv0_1 p0.Conds) (ph0_2:RSl dZ 5 Ψ pG0_2 pv0_2 p0.Acts) (ph1_0:RSl av 3 Ψ pG1_0 pv1_0 p1.Fields) (ph2:RSl bn 4 Ψ pG2 pv2 p2) {r:(List Int)} (h:qT N p0 p1 p2=some r) :
  Calls prog 118 [.agg [.string p0.Name,iV p0.Sal,pv0_0,pv0_1,pv0_2].toArray,.agg [.string p1.Kind,pv1_0].toArray,pv2].toArray w0.w (aL Φ w0.w [] (fun Φ' Fs v=>∃ (sr_0_0:Value),v=sr_0_0∧Fs=[ob sr_0_0]∧OSl (RI .i64) 3 1 Φ' [] sr_0_0 r)):=by
 refine eN func118 rfl ntmps118 rfl w0 fun hF=>?_
 unfold qT at h
 refine sr<|lbx rfl fun b_1=>lbx rfl fun b_2=>arr 4 [] rfl<|le' (ju (R:=RI .i64) RI.lasts bg sW rfl rfl) rfl ?_
 rintro v1 Φ_1 D1 ⟨fr1,h1⟩
 refine art 8 [] rfl ?_
 refine lin (σ:=Hp × (List Int) × Value × Int) (fun s=>[(2,pv2),(3,pQ b_1),(4,pQ b_2),(7,s.2.2.1),(8,iV s.2.2.2)]) (fun s=>St w0 s.1 [(b_2,.cells #[.string p1.Kind,pv1_0] 133 (0,0)),(b_1,.cells #[.string p0.Name,iV p0.Sal,pv0_0,pv0_1,pv0_2] 145 (0,0))] [ob s.2.2.1]) (fun m s=>cP N p0 p1 p2 m s.2.1 s.2.2.2=some r∧(OSl (RI .i64) 3 1 s.1 [] s.2.2.1 s.2.1)) (Φ_1,([]:List Int),v1,0) N ⟨h,h1⟩ (sx [0] [0,0]) (fun n1 ih1 s hm=>?_)
 obtain ⟨Φ_2,s1,u1,s2⟩:=s
 obtain ⟨h,k1⟩:=hm
 dsimp only at h k1 ⊢
 unfold cP at h
 refine atr 6 [2,32] rfl<|lnr ph0_0 rfl<|la rfl<|en ?_
 refine ch h rfl ?_ ?_ <;> intro h
 ·refine atr 8 [2,32] rfl ?_
  obtain ⟨x1,hx1,h⟩:=bs h
  obtain ⟨cs1,F1,-,g1,hb1,hs1,r1⟩:=ph0_0.el (a7 hx1).2.2
  obtain ⟨v2,G1,rfl,hq1,h2⟩:=r1
  obtain rfl:=hq1.symm
  refine lia ph0_0 hx1 rfl<|lf lr rfl rfl rfl<|lhx 2 0 g1 rfl<|en ?_
  refine ch h rfl ?_ ?_ <;> intro h
  ·refine sq<|wm [0,1] [] rfl<|amm 3 [0,2,1,32,2] [0,1] rfl rfl ?_
   obtain ⟨x2,hx2,h⟩:=bs h
   obtain ⟨cs2,F2,-,g2,hb2,hs2,r2⟩:=ph0_0.el (a7 hx2).2.2
   obtain ⟨v3,G2,rfl,hq2,h3⟩:=r2
   obtain rfl:=hq2.symm
   refine mq 3 rfl (by kernel_rfl) (kN [0,1]) (aa tC rfl rfl ph0_0 hx2) rfl<|mq 4 rfl (by kernel_rfl) (kN [0,1]) (aw uW rfl (fun w1 hw=>(g2.of_eq 0 3 rfl rfl:rg _ _ _ [.string x2.Kind,v3,.bool x2.Not]).rangeAt hw.1) rfl) rfl<|amm 2 [5,2,6] [0,1] rfl rfl ?_
   obtain ⟨x3,hx3,h⟩:=bs h
   refine WM.one 7 (by kernel_rfl) (mc rfl (fun _ v Φx D w1 hq hw=>Kn.of Kf.nil (ai2 0 1 rfl rfl) hw) (aU (js:=[]) (R:=[ob u1]) GM rfl rfl (fun w1 hw ap hl=>to N (ba hw.fro) x2 p1 p2 (h3.y hw.up) (ph1_0.y hw.up) (ph2.y hw.up)  hx3)) rfl ?_)
   rintro v4 Φ_3 F3 ⟨ap1,fr2,v5,rfl,rfl,h4⟩
   replace k1:=k1.fr fr2 (ap1.q 0 rfl) dN
   refine amm 5 [8,9,10,11,12] [0,1] rfl rfl<|WM.nil (by kernel_rfl)<|att 9 [] rfl ?_
   refine cut (σ:=Int) (fun s=>[(2,pv2),(3,pQ b_1),(4,pQ b_2),(7,u1),(8,iV s2),(11,iV s)]) (fun s=>St w0 Φ_3 [(b_2,.cells #[.string p1.Kind,pv1_0] 133 (0,0)),(b_1,.cells #[.string p0.Name,iV p0.Sal,pv0_0,pv0_1,pv0_2] 145 (0,0))] [ob u1]) (fun s=>gN N s1 s2 (cP N p0 p1 p2 n1) s=some r) (fun s hm=>?_) (fun K=>?_)
   ·clear h
    revert hm; revert s; intro s3 hm
    have h:gN N s1 s2 (cP N p0 p1 p2 n1) s3=some r:=hm
    show WT _ _ [(2,pv2),(3,pQ b_1),(4,pQ b_2),(7,u1),(8,iV s2),(11,iV s3)] (St w0 Φ_3 [(b_2,.cells #[.string p1.Kind,pv1_0] 133 (0,0)),(b_1,.cells #[.string p0.Name,iV p0.Sal,pv0_0,pv0_1,pv0_2] 145 (0,0))] [ob u1])
    unfold gN at h
    refine atr 3 [] rfl ?_
    have rc2:RC (RI .i64) 1 Φ_3 ([[]]:List (List Nat)) [iV s3] ([s3]:List Int):=RC.cons (c:=[iV s3]) (cells:=[]) ⟨rfl,rfl⟩ rfl (RC.nil _ _ _)
    refine le' (ed (vs:=[(0,iV s3)]) (C:=#[iV s3]) RI.lasts bg sW rfl rfl rfl rfl (aV tL (ag (C':=[iV s3]) rfl rfl rfl rfl rfl (aq))) rfl rc2 rfl (by simpa using Kw.nil)) rfl ?_
    rintro v6 Φ_4 D2 ⟨fr3,h5⟩
    replace h5:OSl (RI .i64) 3 1 Φ_4 [] v6 ([s3]:List Int):=by simpa using h5
    replace k1:=k1.f0 fr3
    obtain ⟨x4,hx4,h⟩:=bs h
    refine le' (dV RI.lasts RI.one RI.flat bg ui rfl rfl rfl rfl rfl (js:=[1]) (Rr:=[ob v6]) rfl k1 h5.rsl hx4) rfl ?_
    rintro v7 Φ_5 D3 ⟨⟨ap2,fr4⟩,h6⟩
    refine art 8 [] rfl ?_
    exact lb [0] [0,0] (ih1 (_,_,_,_) ⟨h,h6⟩)
   refine ch h rfl ?_ ?_ <;> intro h
   ·refine att 3 [] rfl ?_
    exact wo [1] [0,0] (K _ h)
   refine WT.skip ?_
   exact wo [1] [0,0] (K _ h)
  refine att 7 [] rfl ?_
  exact lb [0] [0,0] (ih1 (_,_,_,_) ⟨h,k1⟩)
 refine att 6 [] rfl ?_
 exact rtg [0] hF (ao.one rfl) rfl (by cases h; exact fun w1 hw=>⟨u1,rfl,rfl,k1⟩)
theorem zf (w0:ab Ψ Φ [ob pv2,pD2].flatten) (p0:af) (p1:ah) (p2:(List ak)) (p3:aA) (p4:Int) (ph0_0:RSl bR 3 Ψ pG0_0 pv0_0 p0.Pats) (ph0_1:RSl aZ 11 Ψ pG0_1 pv0_1 p0.Conds) (ph0_2:RSl dZ 5 Ψ pG0_2 pv0_2 p0.Acts) (ph1_0:RSl bN 3 Ψ pG1_0 pv1_0 p1.Items) (ph2:OSl aO 159 2 Φ pD2 pv2 p2) (ph3_0:RSl av 3 Ψ pG3_0 pv3_0 p3.Fields) {r:(List ak)} (h:o1 N p0 p1 p2 p3 p4=some r) :
  Calls prog 67 [.agg [.string p0.Name,iV p0.Sal,pv0_0,pv0_1,pv0_2].toArray,.agg [pv1_0,iV p1.Next].toArray,pv2,.agg [.string p3.Kind,pv3_0].toArray,iV p4].toArray w0.w (aL Φ w0.w [ob pv2,pD2].flatten (fun Φ' Fs v=>∃ (Do_0_0:List Nat),v = .tuple #[]∧Fs=[ob pv2,Do_0_0]∧OSl aO 159 2 Φ' Do_0_0 pv2 r)):=by
 refine eL func67 rfl ntmps67 rfl (L:=[ob pv2,pD2]) w0 (fun hF=>?_)
 unfold o1 at h
 refine sr<|lbx rfl fun b_1=>lbx rfl fun b_2=>lbx rfl fun b_3=>art 6 [] rfl ?_
 refine lin (σ:=Hp × (List ak) × List Nat × Int) (fun s=>[(2,pv2),(4,iV p4),(5,pQ b_1),(6,pQ b_2),(8,pQ b_3),(10,iV s.2.2.2)]) (fun s=>St w0 s.1 [(b_3,.cells #[.string p3.Kind,pv3_0] 133 (0,0)),(b_2,.cells #[pv1_0,iV p1.Next] 57 (0,0)),(b_1,.cells #[.string p0.Name,iV p0.Sal,pv0_0,pv0_1,pv0_2] 145 (0,0))] [ob pv2,s.2.2.1]) (fun m s=>bW N p0 p1 p3 p4 m s.2.1 s.2.2.2=some r∧(OSl aO 159 2 s.1 s.2.2.1 pv2 s.2.1)) (Φ,p2,pD2,0) N ⟨h,ph2⟩ (sx [0,0] [0,0,0]) (fun n1 ih1 s hm=>?_)
 obtain ⟨Φ_1,s1,D1,s2⟩:=s
 obtain ⟨h,k1⟩:=hm
 dsimp only at h k1 ⊢
 unfold bW at h
 refine atr 5 [] rfl<|lno k1 rfl<|la rfl<|en ?_
 refine ch h rfl ?_ ?_ <;> intro h
 ·refine att 4 [] rfl<|WT.mix (Kn w0 Φ_1 (ob pv2) [(b_3,.cells #[.string p3.Kind,pv3_0] 133 (0,0)),(b_2,.cells #[pv1_0,iV p1.Next] 57 (0,0)),(b_1,.cells #[.string p0.Name,iV p0.Sal,pv0_0,pv0_1,pv0_2] 145 (0,0))]) (fun _=>true) d7 (fun _ h=>h.drew)<|mq 0 rfl (by kernel_rfl) (kn Kf.id (ai3 0 1 2 rfl rfl rfl)) (aw tS rfl (fun w1 hw=>hw.rgO (i:=2) rfl 0 5 [.string p0.Name,iV p0.Sal,pv0_0,pv0_1,pv0_2] rfl) rfl) rfl ?_
  refine mq 1 rfl (by kernel_rfl) (kn Kf.id (ai3 0 1 2 rfl rfl rfl)) (aw Cp rfl (fun w1 hw=>hw.rgO (i:=1) rfl 0 2 [pv1_0,iV p1.Next] rfl) rfl) rfl<|ma 2 rfl (by kernel_rfl) (kn Kf.id (ai3 0 1 2 rfl rfl rfl)) rfl<|ma 3 rfl (by kernel_rfl) (kn Kf.id (ai3 0 1 2 rfl rfl rfl)) rfl ?_
  obtain ⟨x1,hx1,h⟩:=bs h
  obtain ⟨cs1,F1,-,g1,hb1,hs1,r1⟩:=k1.elS (a7 hx1).2.2
  obtain ⟨v1,v2,rfl,rfl,h1,h2⟩:=r1
  have h3:=h1.rsl
  have h4:=h2.rsl
  refine mq 4 rfl (by kernel_rfl) (kn Kf.id (ai3 0 1 2 rfl rfl rfl)) (aa dU rfl rfl k1.rsl hx1) rfl<|mq 5 rfl (by kernel_rfl) (kn Kf.id (ai3 0 1 2 rfl rfl rfl)) (aH pC rfl) rfl<|mq 6 rfl (by kernel_rfl) (kn Kf.id (ai3 0 1 2 rfl rfl rfl)) (bk pX rfl (fun w1 hw=>hw.rg hb1 (g1.of_eq 0 1 rfl rfl:rg _ _ _ [v1]))) rfl ?_
  obtain ⟨x2,hx2,h⟩:=bs h
  refine WM.one 7 (by kernel_rfl) (mc rfl (fun _ v Φx D w1 hq hw=>Kn.of (Kf.id.st hq.2.1 (hq.1.r (i:=0) rfl)) (ai3 0 1 2 rfl rfl rfl) hw) (aU (js:=[]) (R:=[ob pv2,D1]) Jn rfl rfl (fun w1 hw ap hl=>xo N (ba hw.fro) p0 p1 x1.Ids (ph0_0.y hw.up) (ph0_1.y hw.up) (ph0_2.y hw.up) (ph1_0.y hw.up) h3  hx2)) rfl ?_)
  rintro v3 Φ_2 F2 ⟨ap1,fr1,v4,rfl,rfl,h5⟩
  replace k1:=k1.fr fr1 (ap1.q 0 rfl) (ap1.q 1 rfl)
  have kf1:=(Kf.id (F:=(ob pv2)):Kf Φ_1 _ _).st fr1 (ap1.q 0 rfl)
  refine ma 8 rfl (by kernel_rfl) (kn kf1 (ai3 0 1 2 rfl rfl rfl)) rfl<|ma 9 rfl (by kernel_rfl) (kn kf1 (ai3 0 1 2 rfl rfl rfl)) rfl<|ma 10 rfl (by kernel_rfl) (kn kf1 (ai3 0 1 2 rfl rfl rfl)) rfl<|ma 11 rfl (by kernel_rfl) (kn kf1 (ai3 0 1 2 rfl rfl rfl)) rfl<|ma 12 rfl (by kernel_rfl) (kn kf1 (ai3 0 1 2 rfl rfl rfl)) rfl<|WM.nil (by kernel_rfl)<|atr 5 [69,2] rfl<|kab h rfl rfl rfl (fun b z q=>AD N b p0 p3 x2.1 (ph0_0.y z) (ph0_1.y z) (ph0_2.y z) (ph3_0.y z) h5.rsl q) ?_
  rintro x3 h v5 Φ_3 F3 ⟨ap2,fr2,v6,rfl,rfl,h6⟩
  replace k1:=k1.fr fr2 (ap2.q 1 rfl) (ap2.q 2 rfl)
  refine art 7 [] rfl ?_
  refine lin (σ:=Hp × (List ak) × List Nat × Int) (fun s=>[(2,pv2),(4,iV p4),(5,pQ b_1),(6,pQ b_2),(8,pQ b_3),(10,iV s2),(12,.bool x2.2),(13,v5),(14,iV s.2.2.2)]) (fun s=>St w0 s.1 [(b_3,.cells #[.string p3.Kind,pv3_0] 133 (0,0)),(b_2,.cells #[pv1_0,iV p1.Next] 57 (0,0)),(b_1,.cells #[.string p0.Name,iV p0.Sal,pv0_0,pv0_1,pv0_2] 145 (0,0))] [ob v5,ob pv2,s.2.2.1]) (fun m s=>cL N p4 s2 (bW N p0 p1 p3 p4 n1) x2 x3 m s.2.1 s.2.2.2=some r∧(OSl aO 159 2 s.1 s.2.2.1 pv2 s.2.1)∧(OSl (RI .i64) 3 1 s.1 [] v5 x3)) (Φ_3,s1,D1,0) N ⟨h,k1,h6⟩ (sx [0,1,1] [0,0,0]) (fun n2 ih2 s hm=>?_)
  obtain ⟨Φ_4,s3,D2,s4⟩:=s
  obtain ⟨h,k2,h6⟩:=hm
  dsimp only at h k2 h6 ⊢
  unfold cL at h
  refine atr 5 [] rfl<|lno h6 rfl<|arr 2 [] rfl ?_
  obtain ⟨b1,hb_1,h⟩:=bs h
  refine WL.cutN 2 [(42,.bool b1),(2,pv2),(4,iV p4),(5,pQ b_1),(6,pQ b_2),(8,pQ b_3),(10,iV s2),(12,.bool x2.2),(13,v5),(14,iV s4)] ?_ (fun K=>?_)
  rotate_left
  ·refine sp 40 hb_1 rfl (fun hb_1=>?_) fun hb_1=>?_
   ·refine arr 2 [] rfl ?_
    cases hb_1
    exact ku K
   ·refine arr 2 [] rfl ?_
    cases hb_1
    exact ku K
  refine en ?_
  refine ch h rfl ?_ ?_ <;> intro h
  ·refine att 3 [] rfl ?_
   obtain ⟨x4,hx4,h⟩:=bs h
   obtain ⟨cs2,F4,D3,h7,r2,kf1,sp1⟩:=k2.focus hx4
   obtain ⟨v7,v8,rfl,rfl,h8,h9⟩:=r2
   refine wtL [ob v7,ob v8,D3,ob v5,ob pv2] (sre [2] [ob v7,ob v8,D3] rfl (by simpa [List.append_assoc] using sp1))<|WT.mix (Kn w0 Φ_4 (ob pv2++(ob v8++ob v5)) [(b_3,.cells #[.string p3.Kind,pv3_0] 133 (0,0)),(b_2,.cells #[pv1_0,iV p1.Next] 57 (0,0)),(b_1,.cells #[.string p0.Name,iV p0.Sal,pv0_0,pv0_1,pv0_2] 145 (0,0))]) (fun i=>match i with | 22=>false | _=>true) d7 (fun _ h=>h.drew)<|ma 0 rfl (by kernel_rfl) (kn Kf.id (ai3 0 1 2 rfl rfl rfl)) rfl<|ma 1 rfl (by kernel_rfl) (kn Kf.id (ai3 0 1 2 rfl rfl rfl)) rfl ?_
   refine mq 2 rfl (by kernel_rfl) (kn Kf.id (ai3 0 1 2 rfl rfl rfl)) (fH dU rfl rfl h7 hx4) rfl<|mq 3 rfl (by kernel_rfl) (kn Kf.id (ai3 0 1 2 rfl rfl rfl)) (aH po rfl) rfl<|mq 4 rfl (by kernel_rfl) (kn Kf.id (ai3 0 1 2 rfl rfl rfl)) (bk pX rfl (fun w1 hw=>hw.rg (List.mem_append.2 (.inl h7.hb)) (h7.rg.of_eq 1 1 rfl rfl:rg _ _ _ [v8]))) rfl<|ma 5 rfl (by kernel_rfl) (kn Kf.id (ai3 0 1 2 rfl rfl rfl)) rfl<|ma 6 rfl (by kernel_rfl) (kn Kf.id (ai3 0 1 2 rfl rfl rfl)) rfl<|ma 7 rfl (by kernel_rfl) (kn Kf.id (ai3 0 1 2 rfl rfl rfl)) rfl ?_
   refine mq 8 rfl (by kernel_rfl) (kn Kf.id (ai3 0 1 2 rfl rfl rfl)) (fH dU rfl rfl h7 hx4) rfl<|mq 9 rfl (by kernel_rfl) (kn Kf.id (ai3 0 1 2 rfl rfl rfl)) (aH po rfl) rfl<|mq 10 rfl (by kernel_rfl) (kn Kf.id (ai3 0 1 2 rfl rfl rfl)) (bk pX rfl (fun w1 hw=>hw.rg (List.mem_append.2 (.inl h7.hb)) (h7.rg.of_eq 1 1 rfl rfl:rg _ _ _ [v8]))) rfl<|ma 11 rfl (by kernel_rfl) (kn Kf.id (ai3 0 1 2 rfl rfl rfl)) rfl ?_
   obtain ⟨x5,hx5,h⟩:=bs h
   obtain ⟨cs3,F5,-,g2,hb3,hs2,r3⟩:=h9.elS (a7 hx5).2.2
   obtain ⟨rfl,-⟩:=r3
   refine mq 12 rfl (by kernel_rfl) (kn Kf.id (ai3 0 1 2 rfl rfl rfl)) (aa bg rfl rfl h9.rsl hx5) rfl<|mq 13 rfl (by kernel_rfl) (kn Kf.id (ai3 0 1 2 rfl rfl rfl)) (bk xI rfl (fun w1 hw=>hw.rg (List.mem_append.2 (.inr (List.mem_append.2 (.inl hb3)))) (g2.of_eq 0 1 rfl rfl:rg _ _ _ [iV x5]))) rfl<|ma 14 rfl (by kernel_rfl) (kn Kf.id (ai3 0 1 2 rfl rfl rfl)) rfl<|ma 15 rfl (by kernel_rfl) (kn Kf.id (ai3 0 1 2 rfl rfl rfl)) rfl<|ma 16 rfl (by kernel_rfl) (kn Kf.id (ai3 0 1 2 rfl rfl rfl)) rfl ?_
   obtain ⟨x6,hx6,h⟩:=bs h
   obtain ⟨cs4,F6,-,g3,hb4,hs3,r4⟩:=h6.elS (a7 hx6).2.2
   obtain ⟨rfl,-⟩:=r4
   refine mq 17 rfl (by kernel_rfl) (kn Kf.id (ai3 0 1 2 rfl rfl rfl)) (aa bg rfl rfl h6.rsl hx6) rfl<|mq 18 rfl (by kernel_rfl) (kn Kf.id (ai3 0 1 2 rfl rfl rfl)) (bk xI rfl (fun w1 hw=>hw.rg (List.mem_append.2 (.inr (List.mem_append.2 (.inr hb4)))) (g3.of_eq 0 1 rfl rfl:rg _ _ _ [iV x6]))) rfl<|ma 19 rfl (by kernel_rfl) (kn Kf.id (ai3 0 1 2 rfl rfl rfl)) rfl<|ma 20 rfl (by kernel_rfl) (kn Kf.id (ai3 0 1 2 rfl rfl rfl)) rfl ?_
   obtain ⟨x7,hx7,h⟩:=bs h
   obtain ⟨cs5,F7,-,g4,hb5,hs4,r5⟩:=h9.elS (a7 hx7).2.2
   obtain ⟨rfl,-⟩:=r5
   refine mq 21 rfl (by kernel_rfl) (kn Kf.id (ai3 0 1 2 rfl rfl rfl)) (aa bg rfl rfl h9.rsl hx7) rfl ?_
   refine WM.one 22 (by kernel_rfl) (mu rfl (fun hc=>by cases hc) (tM (js:=[1]) (Rr:=[ob v7,D3,ob v5,ob pv2]) (vs:=[iV (wz (x5+(wz (p4*x6))))]) (x':=wz (x5+(wz (p4*x6)))) RI.lasts RI.flat iE rfl rfl rfl rfl ⟨rfl,trivial⟩ rfl h9 (fV hx7) ⟨rfl,rfl⟩) rfl ?_)
   rintro Φ_5 D4 ⟨⟨ap3,fr3⟩,h10⟩
   replace h7:=h7.fr fr3 (ap3.q 3 rfl) (ap3.q 1 rfl)
   replace h6:=h6.fr fr3 (ap3.q 2 rfl) dN
   replace h8:=h8.fr fr3 (ap3.q 0 rfl) dN
   refine WM.nil (by kernel_rfl)<|att 6 [] rfl ?_
   have r6:aO Φ_5 _ [v7,v8] (⟨x4.Ids,(x4.Hits.set s4.toNat (wz (x5+(wz (p4*x6)))))⟩:ak):=⟨v7,v8,rfl,rfl,h8,h10⟩
   obtain ⟨D5,h11,sp2⟩:=h7.unfocus r6 (aO.knows _ _ _ _ r6)
   refine wtL [D5,ob v5,ob pv2] (smg [1,0,0] rfl (by simpa [List.append_assoc,bm] using sp2)) ?_
   exact lb [1,1,0] [0,0,0] (ih2 (_,_,_,_) ⟨h,h11,h6⟩)
  refine att 7 [] rfl ?_
  exact lb [1,1] [0,0,0] (ih1 (_,_,_,_) ⟨h,k2⟩)
 refine xt rfl ?_
 refine WT.fin hF ao.none (fun w1 hw=>?_)
 cases h
 refine ce (js:=[0,0]) hw rfl ⟨D1,rfl,rfl,k1⟩
theorem A0 (w0:ab Ψ Φ [[pb1],ob pv1_0,pD1_0,ob pv1_1,pD1_1].flatten) (p0:bl) (p1:aG) (p2:ah) (p3:Int) (ph0_0:RSl bU 5 Ψ pG0_0 pv0_0 p0.Rules) (ph1_0:OSl aF 123 1 Φ pD1_0 pv1_0 p1.Alphas) (ph1_1:OSl aM 126 1 Φ pD1_1 pv1_1 p1.Rules) (pp1:Φ pb1=some (.cells #[pv1_0,pv1_1] 43 (0,0))) (ph2_0:RSl bN 3 Ψ pG2_0 pv2_0 p2.Items) {r:aG} (h:oc N p0 p1 p2 p3=some r) :
  Calls prog 31 [.agg [.string p0.Name,pv0_0].toArray,pQ pb1,.agg [pv2_0,iV p2.Next].toArray,iV p3].toArray w0.w (aL Φ w0.w [[pb1],ob pv1_0,pD1_0,ob pv1_1,pD1_1].flatten (fun Φ' Fs v=>∃ (so_0_0:Value) (Do_0_0:List Nat) (so_0_1:Value) (Do_0_1:List Nat),v = .tuple #[]∧Fs=[[pb1],ob so_0_0,Do_0_0,ob so_0_1,Do_0_1]∧OSl aF 123 1 Φ' Do_0_0 so_0_0 r.Alphas∧OSl aM 126 1 Φ' Do_0_1 so_0_1 r.Rules∧Φ' pb1=some (.cells #[so_0_0,so_0_1] 43 (0,0)))):=by
 refine eL func31 rfl ntmps31 rfl (L:=[[pb1],ob pv1_0,pD1_0,ob pv1_1,pD1_1]) w0 (fun hF=>?_)
 unfold oc at h
 refine sr<|lbx rfl fun b_1=>lbx rfl fun b_2=>arr 5 [2] rfl<|kab h rfl rfl rfl (fun b z q=>nT N b p2 p3 (ph2_0.y z) q) ?_
 rintro x1 h v1 Φ_1 F1 ⟨ap1,fr1,v2,rfl,rfl,h1⟩
 replace ph1_0:=ph1_0.fr fr1 (ap1.q 1 rfl) (ap1.q 2 rfl)
 replace ph1_1:=ph1_1.fr fr1 (ap1.q 3 rfl) (ap1.q 4 rfl)
 replace pp1:=fr1 _ _ ((ap1.q 0 rfl) _ (by simp)) pp1
 refine arr 3 [] rfl<|lnz kh rfl fun b_3=>soN 0 kY rfl ⟨rfl,h1.one,trivial⟩ rfl ?_
 refine art 8 [] rfl ?_
 refine lin (σ:=Hp × (List aP) × List Nat × Int) (fun s=>[(1,pQ pb1),(3,iV p3),(4,pQ b_1),(6,pQ b_2),(8,pQ b_3),(10,iV s.2.2.2)]) (fun s=>St w0 s.1 [(b_3,.cells #[.string x1.1.Kind,v2] 133 (0,0)),(b_2,.cells #[pv2_0,iV p2.Next] 57 (0,0)),(b_1,.cells #[.string p0.Name,pv0_0] 47 (0,0))] [ob v2,[pb1],ob pv1_0,s.2.2.1,ob pv1_1,pD1_1]) (fun m s=>dt N p0 p1 p2 p3 x1 m s.2.1 s.2.2.2=some r∧(OSl aF 123 1 s.1 s.2.2.1 pv1_0 s.2.1)∧(OSl aM 126 1 s.1 pD1_1 pv1_1 p1.Rules)∧(OSl av 225 3 s.1 [] v2 x1.1.Fields)∧(s.1 pb1=some (.cells #[pv1_0,pv1_1] 43 (0,0)))) (Φ_1,p1.Alphas,pD1_0,0) N ⟨h,ph1_0,ph1_1,h1,pp1⟩ (sx [0,0,0,0,0,0] [0,0,0]) (fun n1 ih1 s hm=>?_)
 obtain ⟨Φ_2,s1,D1,s2⟩:=s
 obtain ⟨h,k1,ph1_1,h1,k2⟩:=hm
 dsimp only at h k1 ph1_1 h1 k2 ⊢
 unfold dt at h
 refine atr 5 [] rfl<|lq (d9 rfl) rfl<|lf o0 rfl rfl rfl<|lgx 0 0 (g9 k2) rfl<|lno k1 rfl<|la rfl<|en ?_
 refine ch h rfl ?_ ?_ <;> intro h
 ·refine atr 5 [] rfl<|le' (ju (R:=RI .i64) RI.lasts bg sW rfl rfl) rfl ?_
  rintro v3 Φ_3 D2 ⟨fr2,h2⟩
  replace k1:=k1.f0 fr2
  replace ph1_1:=ph1_1.f0 fr2
  replace h1:=h1.f0 fr2
  replace k2:=fr2 _ _ (by simp) k2
  refine art 8 [] rfl ?_
  refine lin (σ:=Hp × (List Int) × Value × Int) (fun s=>[(1,pQ pb1),(3,iV p3),(4,pQ b_1),(6,pQ b_2),(8,pQ b_3),(10,iV s2),(11,s.2.2.1),(12,iV s.2.2.2)]) (fun s=>St w0 s.1 [(b_3,.cells #[.string x1.1.Kind,v2] 133 (0,0)),(b_2,.cells #[pv2_0,iV p2.Next] 57 (0,0)),(b_1,.cells #[.string p0.Name,pv0_0] 47 (0,0))] [ob s.2.2.1,ob v2,[pb1],ob pv1_0,D1,ob pv1_1,pD1_1]) (fun m s=>dC N p3 s1 s2 (dt N p0 p1 p2 p3 x1 n1) m s.2.1 s.2.2.2=some r∧(OSl aF 123 1 s.1 D1 pv1_0 s1)∧(OSl aM 126 1 s.1 pD1_1 pv1_1 p1.Rules)∧(OSl av 225 3 s.1 [] v2 x1.1.Fields)∧(OSl (RI .i64) 3 1 s.1 [] s.2.2.1 s.2.1)∧(s.1 pb1=some (.cells #[pv1_0,pv1_1] 43 (0,0)))) (Φ_3,([]:List Int),v3,0) N ⟨h,k1,ph1_1,h1,h2,k2⟩ (sx [0,0,0,0,0,0,0] [0,0,0]) (fun n2 ih2 s hm=>?_)
  obtain ⟨Φ_4,s3,u1,s4⟩:=s
  obtain ⟨h,k1,ph1_1,h1,k3,k4⟩:=hm
  dsimp only at h k1 ph1_1 h1 k3 k4 ⊢
  unfold dC at h
  refine atr 5 [] rfl<|lq (d9 rfl) rfl<|lf o0 rfl rfl rfl<|lgx 0 0 (g9 k4) rfl<|la rfl ?_
  obtain ⟨x2,hx2,h⟩:=bs h
  obtain ⟨cs1,F2,-,g1,hb1,hs1,r1⟩:=k1.elS (a7 hx2).2.2
  obtain ⟨v4,rfl,rfl,h3⟩:=r1
  have h4:=h3.rsl
  refine lio k1 hx2 rfl<|lf jV rfl rfl rfl<|lgx 0 0 g1 rfl<|lnr h4 rfl<|la rfl<|en ?_
  refine ch h rfl ?_ ?_ <;> intro h
  ·refine atr 6 [] rfl<|lq (d9 rfl) rfl<|lf o0 rfl rfl rfl<|lgx 0 0 (g9 k4) rfl<|la rfl ?_
   obtain ⟨x3,hx3,h⟩:=bs h
   obtain ⟨cs2,F3,-,g2,hb2,hs2,r2⟩:=k1.elS (a7 hx3).2.2
   obtain ⟨v5,rfl,rfl,h5⟩:=r2
   have h6:=h5.rsl
   refine lio k1 hx3 rfl<|lf jV rfl rfl rfl<|lgx 0 0 g2 rfl<|la rfl ?_
   obtain ⟨x4,hx4,h⟩:=bs h
   obtain ⟨cs3,F4,-,g3,hb3,hs3,r3⟩:=h6.el (a7 hx4).2.2
   obtain ⟨rfl,-⟩:=r3
   refine lia h6 hx4 rfl<|lgx 0 0 g3 rfl<|art 3 [] rfl ?_
   refine ch h rfl ?_ ?_ <;> intro h
   ·refine atr 3 [] rfl<|lq (d9 rfl) rfl<|lf o0 rfl rfl rfl<|lgx 0 0 (g9 k4) rfl<|la rfl ?_
    obtain ⟨x5,hx5,h⟩:=bs h
    obtain ⟨cs4,F5,-,g4,hb4,hs4,r4⟩:=k1.elS (a7 hx5).2.2
    obtain ⟨v6,rfl,rfl,h7⟩:=r4
    have h8:=h7.rsl
    refine lio k1 hx5 rfl<|lf jV rfl rfl rfl<|lgx 0 0 g4 rfl<|la rfl ?_
    obtain ⟨x6,hx6,h⟩:=bs h
    obtain ⟨cs5,F6,-,g5,hb5,hs5,r5⟩:=h8.el (a7 hx6).2.2
    obtain ⟨rfl,-⟩:=r5
    refine lia h8 hx6 rfl<|lgx 0 0 g5 rfl ?_
    have rc2:RC (RI .i64) 1 Φ_4 ([[]]:List (List Nat)) [iV x6] ([x6]:List Int):=RC.cons (c:=[iV x6]) (cells:=[]) ⟨rfl,rfl⟩ rfl (RC.nil _ _ _)
    refine le' (ed (vs:=[(0,iV x6)]) (C:=#[iV x6]) RI.lasts bg sW rfl rfl rfl rfl (aV tL (ag (C':=[iV x6]) rfl rfl rfl rfl rfl (aq))) rfl rc2 rfl (by simpa using Kw.nil)) rfl ?_
    rintro v7 Φ_5 D3 ⟨fr3,h9⟩
    replace h9:OSl (RI .i64) 3 1 Φ_5 [] v7 ([x6]:List Int):=by simpa using h9
    replace k1:=k1.f0 fr3
    replace ph1_1:=ph1_1.f0 fr3
    replace h1:=h1.f0 fr3
    replace k3:=k3.f0 fr3
    replace k4:=fr3 _ _ (by simp) k4
    obtain ⟨x7,hx7,h⟩:=bs h
    refine le' (dV RI.lasts RI.one RI.flat bg ui rfl rfl rfl rfl rfl (js:=[1]) (Rr:=[ob v7,ob v2,[pb1],ob pv1_0,D1,ob pv1_1,pD1_1]) rfl k3 h9.rsl hx7) rfl ?_
    rintro v8 Φ_6 D4 ⟨⟨ap2,fr4⟩,h10⟩
    replace k1:=k1.fr fr4 (ap2.q 3 rfl) (ap2.q 4 rfl)
    replace ph1_1:=ph1_1.fr fr4 (ap2.q 5 rfl) (ap2.q 6 rfl)
    replace h1:=h1.fr fr4 (ap2.q 1 rfl) dN
    replace k4:=fr4 _ _ ((ap2.q 2 rfl) _ (by simp)) k4
    refine art 8 [] rfl ?_
    exact lb [0,1,1,1,1,1,1] [0,0,0] (ih2 (_,_,_,_) ⟨h,k1,ph1_1,h1,h10,k4⟩)
   refine att 7 [] rfl ?_
   exact lb [0,0,0,0,0,0,0] [0,0,0] (ih2 (_,_,_,_) ⟨h,k1,ph1_1,h1,k3,k4⟩)
  refine atr 3 [] rfl<|lq (d9 rfl) rfl<|lf o0 rfl rfl rfl<|lgx 0 0 (g9 k4) rfl<|arr 2 [] rfl ?_
  obtain ⟨x8,hx8,h⟩:=bs h
  obtain ⟨cs6,F7,D5,h11,r6,kf1,sp1,mM1⟩:=k1.focusM hx8
  obtain ⟨v9,rfl,rfl,h12⟩:=r6
  refine wlL [ob v9,D5,ob u1,ob v2,[pb1],ob pv1_0,ob pv1_1,pD1_1] (sre [4] [ob v9,D5] rfl (by simpa [List.append_assoc] using sp1))<|lih h11 hx8 rfl<|lf jV rfl rfl rfl<|lu (us [5] [ob v9,D5,ob u1,ob v2,[pb1],ob pv1_1,pD1_1] 0 aF.lasts mf rfl rfl k3.one rfl h11 rfl (fun ap=>ap.q 1 rfl)) rfl ?_
  rintro Φ_7 D6 ⟨⟨ap3,fr5⟩,h13⟩
  replace ph1_1:=ph1_1.fr fr5 (ap3.q 5 rfl) (ap3.q 6 rfl)
  replace h1:=h1.fr fr5 (ap3.q 3 rfl) dN
  replace k3:=k3.fr fr5 (ap3.q 2 rfl) dN
  replace k4:=fr5 _ _ ((ap3.q 4 rfl) _ (by simp)) k4
  refine art 7 [] rfl ?_
  have r7:aF Φ_7 _ [u1] (⟨s3⟩:aP):=⟨u1,rfl,rfl,k3⟩
  obtain ⟨D7,h14,sp2⟩:=h13.unfocus r7 (aF.knows _ _ _ _ r7)
  refine wtL [D7,ob pv1_0,ob v9,ob v2,[pb1],ob pv1_1,pD1_1] (smg [3,2] rfl (by simpa [List.append_assoc,bm] using sp2)) ?_
  exact lb [3,3,1,0,1,1] [0,0,0] (ih1 (_,_,_,_) ⟨h,h14,ph1_1,h1,k4⟩)
 refine att 6 [] rfl ?_
 refine lin (σ:=Hp × (List aC) × List Nat × Int) (fun s=>[(1,pQ pb1),(3,iV p3),(4,pQ b_1),(6,pQ b_2),(8,pQ b_3),(13,iV s.2.2.2)]) (fun s=>St w0 s.1 [(b_3,.cells #[.string x1.1.Kind,v2] 133 (0,0)),(b_2,.cells #[pv2_0,iV p2.Next] 57 (0,0)),(b_1,.cells #[.string p0.Name,pv0_0] 47 (0,0))] [ob v2,[pb1],ob pv1_0,D1,ob pv1_1,s.2.2.1]) (fun m s=>dj N p0 p2 p3 x1 s1 m s.2.1 s.2.2.2=some r∧(OSl aF 123 1 s.1 D1 pv1_0 s1)∧(OSl aM 126 1 s.1 s.2.2.1 pv1_1 s.2.1)∧(OSl av 225 3 s.1 [] v2 x1.1.Fields)∧(s.1 pb1=some (.cells #[pv1_0,pv1_1] 43 (0,0)))) (Φ_2,p1.Rules,pD1_1,0) N ⟨h,k1,ph1_1,h1,k2⟩ (sx [0,0,0,0,0,0] [0,0,0]) (fun n3 ih3 s hm=>?_)
 obtain ⟨Φ_8,s5,D8,s6⟩:=s
 obtain ⟨h,k1,k5,h1,k6⟩:=hm
 dsimp only at h k1 k5 h1 k6 ⊢
 unfold dj at h
 refine atr 6 [1,64] rfl<|lnr ph0_0 rfl<|la rfl<|en ?_
 refine ch h rfl ?_ ?_ <;> intro h
 ·refine atr 6 [] rfl<|lq (d9 rfl) rfl<|lf vY rfl rfl rfl<|lgx 1 0 (g9 k6) rfl<|la rfl ?_
  obtain ⟨x9,hx9,h⟩:=bs h
  obtain ⟨cs7,F8,D9,h15,r8,kf2,sp3⟩:=k5.focus hx9
  obtain ⟨v10,D10,rfl,rfl,h16⟩:=r8
  refine wlL [ob v10,D10,D9,ob v2,[pb1],ob pv1_0,D1,ob pv1_1] (sre [5] [ob v10,D10,D9] rfl (by simpa [List.append_assoc] using sp3))<|lih h15 hx9 rfl<|lf gq rfl rfl rfl<|lgx 0 0 h15.rg rfl<|art 8 [] rfl ?_
  refine lin (σ:=Hp × (List ae) × List Nat × Int) (fun s=>[(1,pQ pb1),(3,iV p3),(4,pQ b_1),(6,pQ b_2),(8,pQ b_3),(13,iV s6),(14,v10),(15,iV s.2.2.2)]) (fun s=>St w0 s.1 [(b_3,.cells #[.string x1.1.Kind,v2] 133 (0,0)),(b_2,.cells #[pv2_0,iV p2.Next] 57 (0,0)),(b_1,.cells #[.string p0.Name,pv0_0] 47 (0,0))] [ob v10,s.2.2.1,D9,ob v2,[pb1],ob pv1_0,D1,ob pv1_1]) (fun m s=>eM N p0 p2 p3 x1 s5 s6 (dj N p0 p2 p3 x1 s1 n3) m s.2.1 s.2.2.2=some r∧(OSl aF 123 1 s.1 D1 pv1_0 s1)∧(OSl av 225 3 s.1 [] v2 x1.1.Fields)∧(OSl aJ 130 1 s.1 s.2.2.1 v10 s.2.1)∧(s.1 pb1=some (.cells #[pv1_0,pv1_1] 43 (0,0)))∧(HSl aM 126 1 s.1 D9 pv1_1 s5 s6.toNat [v10])) (Φ_8,x9.Levels,D10,0) N ⟨h,k1,h1,h16,k6,h15⟩ (sx [0,0,0,0,0,0,0,0] [0,0,0]) (fun n4 ih4 s hm=>?_)
  obtain ⟨Φ_9,s7,D11,s8⟩:=s
  obtain ⟨h,k1,h1,k8,k9,k7⟩:=hm
  dsimp only at h k1 h1 k8 k9 k7 ⊢
  unfold eM at h
  refine atr 5 [] rfl<|lno k8 rfl<|la rfl<|en ?_
  refine ch h rfl ?_ ?_ <;> intro h
  ·refine atr 8 [] rfl ?_
   obtain ⟨x10,hx10,h⟩:=bs h
   obtain ⟨cs8,F9,D12,h17,r9,kf3,sp4⟩:=k8.focus hx10
   obtain ⟨v11,D13,rfl,rfl,h18⟩:=r9
   refine wlL [ob v11,D13,D12,ob v10,D9,ob v2,[pb1],ob pv1_0,D1,ob pv1_1] (sre [1] [ob v11,D13,D12] rfl (by simpa [List.append_assoc] using sp4))<|lih h17 hx10 rfl<|lf j8 rfl rfl rfl<|lgx 0 0 h17.rg rfl<|la rfl<|kcb [0,0] h rfl rfl rfl rfl (fun b ap z q=>w9 N b x10.Toks p3 h18 q) ?_
   rintro x11 h v12 Φ_10 F10 ⟨ap4,fr6,v13,D14,rfl,rfl,h19⟩
   replace k1:=k1.fr fr6 (ap4.q 5 rfl) (ap4.q 6 rfl)
   replace k7:=k7.fr fr6 (ap4.q 7 rfl) (ap4.q 2 rfl)
   replace h1:=h1.fr fr6 (ap4.q 3 rfl) dN
   replace h17:=h17.fr fr6 (ap4.q 1 rfl) (ap4.q 0 rfl)
   replace k9:=fr6 _ _ ((ap4.q 4 rfl) _ (by simp)) k9
   refine lih h17 hx10 rfl<|lf j8 rfl rfl rfl<|lu (us [3] [ob v12,D14,D12,D9,ob v2,[pb1],ob pv1_0,D1,ob pv1_1] 0 aJ.lasts Ef rfl rfl h19.one rfl h17 rfl (fun ap=>ap.q 2 rfl)) rfl ?_
   rintro Φ_11 D15 ⟨⟨ap5,fr7⟩,h20⟩
   replace k1:=k1.fr fr7 (ap5.q 6 rfl) (ap5.q 7 rfl)
   replace k7:=k7.fr fr7 (ap5.q 8 rfl) (ap5.q 3 rfl)
   replace h1:=h1.fr fr7 (ap5.q 4 rfl) dN
   replace h19:=h19.fr fr7 (ap5.q 0 rfl) (ap5.q 1 rfl)
   replace k9:=fr7 _ _ ((ap5.q 5 rfl) _ (by simp)) k9
   refine art 7 [] rfl ?_
   have r10:aJ Φ_11 _ [v12] (⟨x11⟩:ae):=⟨v12,D14,rfl,rfl,h19⟩
   obtain ⟨D16,h21,sp5⟩:=h20.unfocus r10 (aJ.knows _ _ _ _ r10)
   refine wtL [D16,ob v10,D9,ob v2,[pb1],ob pv1_0,D1,ob pv1_1] (smg [1,1,1] rfl (by simpa [List.append_assoc,bm] using sp5)) ?_
   exact lb [1,0,0,0,0,0,0,0] [0,0,0] (ih4 (_,_,_,_) ⟨h,k1,h1,h21,k9,k7⟩)
  refine xt rfl<|WT.mix (Kn w0 Φ_9 (ob v10) [(b_3,.cells #[.string x1.1.Kind,v2] 133 (0,0)),(b_2,.cells #[pv2_0,iV p2.Next] 57 (0,0)),(b_1,.cells #[.string p0.Name,pv0_0] 47 (0,0))]) (fun i=>match i with | 14=>false | _=>true) d7 (fun _ h=>h.drew)<|mq 5 rfl (by kernel_rfl) (kn Kf.id (ai3 0 1 2 rfl rfl rfl)) (aw Cp rfl (fun w1 hw=>hw.rgO (i:=1) rfl 0 2 [pv2_0,iV p2.Next] rfl) rfl) rfl<|mq 13 rfl (by kernel_rfl) (kn Kf.id (ai3 0 1 2 rfl rfl rfl)) (aw rM rfl (fun w1 hw=>hw.rgO (i:=0) rfl 0 2 [.string x1.1.Kind,v2] rfl) rfl) rfl ?_
  refine mqT 0 [1,3,4,14] rfl (by kernel_rfl) (kn Kf.id (ai3 0 1 2 rfl rfl rfl)) (aH Ft rfl) rfl<|mqT 1 [3,4,14] rfl (by kernel_rfl) (kn Kf.id (ai3 0 1 2 rfl rfl rfl)) (bk ML rfl (fun w1 hw=>hw.rgO (i:=2) rfl 1 1 [pv0_0] rfl)) rfl<|mqT 2 [3,4,14] rfl (by kernel_rfl) (kn Kf.id (ai3 0 1 2 rfl rfl rfl)) (jD rfl) rfl ?_
  obtain ⟨x12,hx12,h⟩:=bs h
  obtain ⟨cs9,F11,-,g6,hb9,hs6,r11⟩:=ph0_0.el (a7 hx12).2.2
  obtain ⟨v14,G1,v15,G2,v16,G3,rfl,rfl,h22,h23,h24⟩:=r11
  refine mqT 3 [4,14] rfl (by kernel_rfl) (kn Kf.id (ai3 0 1 2 rfl rfl rfl)) (aa C6 rfl rfl ph0_0 hx12) rfl<|mq 4 rfl (by kernel_rfl) (kn Kf.id (ai3 0 1 2 rfl rfl rfl)) (aw tS rfl (fun w1 hw=>(g6.of_eq 0 5 rfl rfl:rg _ _ _ [.string x12.Name,iV x12.Sal,v14,v15,v16]).rangeAt hw.1) rfl) rfl<|mqT 6 [10,11,12,14] rfl (by kernel_rfl) (kn Kf.id (ai3 0 1 2 rfl rfl rfl)) (jD rfl) rfl<|mqT 7 [8,9,10,11,12,14] rfl (by kernel_rfl) (kn Kf.id (ai3 0 1 2 rfl rfl rfl)) (jD rfl) rfl ?_
  refine mqT 8 [9,10,11,12,14] rfl (by kernel_rfl) (kn Kf.id (ai3 0 1 2 rfl rfl rfl)) (Ip lW rfl rfl (k8.rslG aJ.gives)) rfl<|mqT 9 [10,11,12,14] rfl (by kernel_rfl) (kn Kf.id (ai3 0 1 2 rfl rfl rfl)) (Ie rfl rfl) rfl ?_
  obtain ⟨x13,hx13,h⟩:=bs h
  obtain ⟨cs10,F12,D17,h25,r12,kf4,sp6⟩:=k8.focus hx13
  obtain ⟨v17,D18,rfl,rfl,h26⟩:=r12
  refine WM.conv (S':=St w0 Φ_9 [(b_3,.cells #[.string x1.1.Kind,v2] 133 (0,0)),(b_2,.cells #[pv2_0,iV p2.Next] 57 (0,0)),(b_1,.cells #[.string p0.Name,pv0_0] 47 (0,0))] [ob v17,D18,D17,ob v10,D9,ob v2,[pb1],ob pv1_0,D1,ob pv1_1]) (fun w1 hw=>hw.re (js:=[1]) (Bs:=[ob v17,D18,D17]) rfl (by simpa [List.append_assoc] using sp6))<|mqT 10 [11,12,14] rfl (by kernel_rfl) (kn Kf.id (ai3 0 1 2 rfl rfl rfl)) (fH lW rfl rfl h25 hx13) rfl<|mqT 11 [12,14] rfl (by kernel_rfl) (kn Kf.id (ai3 0 1 2 rfl rfl rfl)) (aH j8 rfl) rfl ?_
  refine mq 12 rfl (by kernel_rfl) (kn Kf.id (ai3 0 1 2 rfl rfl rfl)) (bk CC rfl (fun w1 hw=>hw.rg h25.hb (h25.rg.of_eq 0 1 rfl rfl:rg _ _ _ [v17]))) rfl ?_
  obtain ⟨x14,hx14,h⟩:=bs h
  refine WM.one 14 (by kernel_rfl) (mc rfl (fun hc=>by cases hc) (aU (js:=[0,0]) (R:=[D17,ob v10,D9,ob v2,[pb1],ob pv1_0,D1,ob pv1_1]) L8 rfl rfl (fun w1 hw ap hl=>zf N (bx hw ap hl) x12 p2 x13.Toks x1.1 (-1) (h22.y (hw.uo ap)) (h23.y (hw.uo ap)) (h24.y (hw.uo ap)) (ph2_0.y (hw.uo ap)) h26 (h1.rsl.x (Dj.app (ap.q 3 rfl) dN))  hx14)) rfl ?_)
  rintro v18 Φ_12 F13 ⟨ap6,fr8,D19,rfl,rfl,h27⟩
  replace k1:=k1.fr fr8 (ap6.q 5 rfl) (ap6.q 6 rfl)
  replace k7:=k7.fr fr8 (ap6.q 7 rfl) (ap6.q 2 rfl)
  replace h1:=h1.fr fr8 (ap6.q 3 rfl) dN
  replace h25:=h25.fr fr8 (ap6.q 1 rfl) (ap6.q 0 rfl)
  replace k9:=fr8 _ _ ((ap6.q 4 rfl) _ (by simp)) k9
  refine WM.nil (by kernel_rfl)<|att 6 [] rfl ?_
  have r13:aJ Φ_12 _ [v17] (⟨x14⟩:ae):=⟨v17,D19,rfl,rfl,h27⟩
  obtain ⟨D20,h28,sp7⟩:=h25.unfocus r13 (aJ.knows _ _ _ _ r13)
  refine wtL [D20,ob v10,D9,ob v2,[pb1],ob pv1_0,D1,ob pv1_1] (smg [0,0,0] rfl (by simpa [List.append_assoc,bm] using sp7)) ?_
  have r14:aM Φ_12 _ [v10] (⟨(s7.set (wz ((s7.length:Int) - 1)).toNat (⟨x14⟩:ae))⟩:aC):=⟨v10,D20,rfl,rfl,h28⟩
  obtain ⟨D21,h29,sp8⟩:=k7.unfocus r14 (aM.knows _ _ _ _ r14)
  refine wtL [D21,ob v2,[pb1],ob pv1_0,D1,ob pv1_1] (smg [1,0,0] rfl (by simpa [List.append_assoc,bm] using sp8)) ?_
  exact lb [1,1,1,1,1,0] [0,0,0] (ih3 (_,_,_,_) ⟨h,k1,h29,h1,k9⟩)
 refine xt rfl ?_
 refine WT.fin hF ao.none (fun w1 hw=>?_)
 cases h
 refine ce (js:=[1,1,1,1,1]) hw rfl ⟨pv1_0,D1,pv1_1,D8,rfl,rfl,k1,k5,k6⟩
theorem gu (w0:ab Ψ Φ []) (p0:bl) (p1:bd) (p2:aG) (p3:ah) (p4:Int) (ph0_0:RSl bU 5 Ψ pG0_0 pv0_0 p0.Rules) (ph1_0:RSl be 4 Ψ pG1_0 pv1_0 p1.Alphas) (ph1_1:RSl bv 2 Ψ pG1_1 pv1_1 p1.Chains) (ph2_0:RSl dP 1 Ψ pG2_0 pv2_0 p2.Alphas) (ph2_1:RSl fx 1 Ψ pG2_1 pv2_1 p2.Rules) (ph3_0:RSl bN 3 Ψ pG3_0 pv3_0 p3.Items) {r:aG} (h:mB N p0 p1 p2 p3 p4=some r) :
  Calls prog 8 [.agg [.string p0.Name,pv0_0].toArray,.agg [pv1_0,pv1_1].toArray,.agg [pv2_0,pv2_1].toArray,.agg [pv3_0,iV p3.Next].toArray,iV p4].toArray w0.w (aL Φ w0.w [] (fun Φ' Fs v=>∃ (sr_0_0:Value) (Dr_0_0:List Nat) (sr_0_1:Value) (Dr_0_1:List Nat),v = .agg [sr_0_0,sr_0_1].toArray∧Fs=[ob sr_0_0,Dr_0_0,ob sr_0_1,Dr_0_1]∧OSl aF 123 1 Φ' Dr_0_0 sr_0_0 r.Alphas∧OSl aM 126 1 Φ' Dr_0_1 sr_0_1 r.Rules)):=by
 refine eN func8 rfl ntmps8 rfl w0 fun hF=>?_
 unfold mB at h
 refine sr<|lbx rfl fun b_1=>lbx rfl fun b_2=>lbx rfl fun b_3=>lbx rfl fun b_4=>lnz iG rfl fun b_5=>arr 4 [66] rfl<|kab h rfl rfl rfl (fun b z q=>yW N b p2 (ph2_0.y z) (ph2_1.y z) q) ?_
 rintro x1 h v1 Φ_1 F1 ⟨ap1,fr1,v2,D1,v3,D2,rfl,rfl,h1,h2⟩
 refine lnz iG rfl fun b_6=>soN 0 kg rfl ⟨h1.one,h2.one,trivial⟩ rfl ?_
 refine arr 9 [162,130,98,66] rfl<|qd h (AR N · p0 p1 p2 p3 p4 ph0_0 ph1_0 ph1_1 ph2_0 ph2_1 ph3_0 ·) rfl rfl rfl fun x2 h=>en ?_
 refine cut (σ:=Hp × (List aP) × Value × List Nat × (List aC) × Value × List Nat) (fun s=>[(10,pQ b_5),(11,pQ b_6)]) (fun s=>St w0 s.1 [(b_6,.cells #[s.2.2.1,s.2.2.2.2.2.1] 43 (0,0)),(b_5,.cells #[.slice none 0 0,.slice none 0 0] 43 (0,0))] [ob s.2.2.1,s.2.2.2.1,ob s.2.2.2.2.2.1,s.2.2.2.2.2.2]) (fun s=>gA N s.2.1 s.2.2.2.2.1=some r∧(OSl aF 123 1 s.1 s.2.2.2.1 s.2.2.1 s.2.1)∧(OSl aM 126 1 s.1 s.2.2.2.2.2.2 s.2.2.2.2.2.1 s.2.2.2.2.1)) (fun s hm=>?_) (fun K=>?_)
 ·clear h
  obtain ⟨Φ_2,s1,u1,D3,s2,u2,D4⟩:=s
  obtain ⟨h,k1,k2⟩:=hm
  dsimp only at h k1 k2 ⊢
  unfold gA at h
  refine atr 3 [2] rfl<|soN 1 kg rfl ⟨k1.one,k2.one,trivial⟩ rfl ?_
  refine en ?_
  exact rtg [0,0,0,0] hF (ao.one (bB Cb rfl (fun w1 hw=>hw.rgO (i:=1) rfl 0 2 [u1,u2] rfl) rfl)) rfl (by cases h; exact fun w1 hw=>⟨u1,D3,u2,D4,rfl,rfl,k1,k2⟩)
 refine ch h rfl ?_ ?_ <;> intro h
 ·refine atr 4 [162,66] rfl ?_
  refine WL.frz (js:=[0]) (R:=[(b_5,.cells #[.slice none 0 0,.slice none 0 0] 43 (0,0)),(b_4,.cells #[pv3_0,iV p3.Next] 57 (0,0)),(b_3,.cells #[pv2_0,pv2_1] 43 (0,0)),(b_2,.cells #[pv1_0,pv1_1] 52 (0,0)),(b_1,.cells #[.string p0.Name,pv0_0] 47 (0,0))]) rfl (fun Φ_3 fr2 k3=>?_)
  replace h1:=h1.f0 fr2
  replace h2:=h2.f0 fr2
  refine kcb [0,0,0,0,0] h rfl rfl rfl rfl (fun b ap z q=>A0 N b p0 x1 p3 p4 (ph0_0.y z) h1 h2 k3 (ph3_0.y z) q) ?_
  rintro x3 h v4 Φ_4 F2 ⟨ap2,fr3,v5,D5,v6,D6,rfl,rfl,h3,h4,h5⟩
  refine en ?_
  refine WT.thw (js:=[0]) (R:=[ob v5,D5,ob v6,D6]) rfl h5 (fun Φ_5 ap3 fr4=>?_)
  replace h3:=h3.fr fr4 (ap3.q 0 rfl) (ap3.q 1 rfl)
  replace h4:=h4.fr fr4 (ap3.q 2 rfl) (ap3.q 3 rfl)
  exact wo [0,0,0,0] [0,0] (K (_,_,_,_,_,_,_) ⟨h,h3,h4⟩)
 refine WT.skip ?_
 exact wo [0,0,0,0] [0,0] (K (_,_,_,_,_,_,_) ⟨h,h1,h2⟩)
end Go.Proofs.YtkdffjpgnhobhaaGreat
