/- Printed by a program of ours: each Go function computes its Lean function. -/
import Derived.Test.YtinomobmcjnfjaaGreatProg
import Derived.Test.YtinomobmcjnfjaaGreatWKeptWalk3
namespace Go.Proofs.YtinomobmcjnfjaaGreat
open Eng Tryz
open Go.RowKit (Below)
set_option linter.unusedVariables false
set_option linter.unusedSimpArgs false

set_option maxRecDepth 100000
set_option maxHeartbeats 1000000
variable {Ψ Φ:Hp} {pv0_0 pv0_1 pv0 pv1_0 pv1_1 pv2_0:Value} {pG0_0 pG0_1 pG0 pD0 pD1_0 pD1_1 pG2_0 pG1_0 pG1_1:List Nat} {pb1 pb0:Nat} (N:Nat)
theorem vH (w0:aw Ψ Φ []) (p0:aO) (ph0_0:RSl bl 4 Ψ pG0_0 pv0_0 p0.Alphas) (ph0_1:RSl bV 2 Ψ pG0_1 pv0_1 p0.Chains) {r:ax} (h:mL N p0=some r) :
  Calls prog 35 [.agg [pv0_0,pv0_1].toArray].toArray w0.w (bg Φ w0.w [] (fun Φ' Fs v=>∃ (sr_0_0:Value) (Dr_0_0:List Nat) (sr_0_1:Value) (Dr_0_1:List Nat),v = .agg [sr_0_0,sr_0_1].toArray∧Fs=[ob sr_0_0,Dr_0_0,ob sr_0_1,Dr_0_1]∧OSl aR 44 1 Φ' Dr_0_0 sr_0_0 r.Alphas∧OSl aM 98 1 Φ' Dr_0_1 sr_0_1 r.Rules)):=by
 refine eN func35 rfl ntmps35 rfl w0 fun hF=>?_
 unfold mL at h
 refine sr<|lbx rfl fun b_1=>lnz jE rfl fun b_2=>en<|sr<|lq (aQ (vs:=[]) (C:=#[.slice none 0 0,.slice none 0 0]) DA jE rfl (aa)) rfl<|lnz jE rfl fun b_3=>soN 0 kj rfl ⟨rfl,rfl,trivial⟩ rfl ?_
 refine art 7 [] rfl<|wtS<|wt0 ?_
 have k1:=OSl.nil aR 44 1 Φ
 refine lin (σ:=Hp × (List bk) × Value × List Nat × Int) (fun s=>[(1,pQ b_1),(2,pQ b_2),(3,pQ b_3),(4,iV s.2.2.2.2)]) (fun s=>St w0 s.1 [(b_3,.cells #[s.2.2.1,.slice none 0 0] 34 (0,0)),(b_2,.cells #[.slice none 0 0,.slice none 0 0] 34 (0,0)),(b_1,.cells #[pv0_0,pv0_1] 30 (0,0))] [s.2.2.2.1,ob s.2.2.1]) (fun m s=>iq N p0 m s.2.1 s.2.2.2.2=some r∧(OSl aR 44 1 s.1 s.2.2.2.1 s.2.2.1 s.2.1)) (Φ,([]:List bk),(.slice none 0 0),[],0) N ⟨h,k1⟩ (sx [0,0] [0,0,0]) (fun n1 ih1 s hm=>?_)
 obtain ⟨Φ_1,s1,u1,D1,s2⟩:=s
 obtain ⟨h,k2⟩:=hm
 dsimp only at h k2 ⊢
 unfold iq at h
 refine atr 6 [0,64] rfl<|lnr ph0_0 rfl<|la rfl<|en ?_
 refine ch h rfl ?_ ?_ <;> intro h
 ·refine atr 6 [0,0] rfl<|lq (aQ (vs:=[]) (C:=#[.slice none 0 0]) B9 uc rfl (aa)) rfl ?_
  have rc1:RC aR 1 Φ_1 ([(ob (.slice none 0 0)++[])]:List (List Nat)) [.slice none 0 0] ([(⟨[]⟩:bk)]:List bk):=RC.cons (c:=[.slice none 0 0]) (cells:=[]) ⟨.slice none 0 0,rfl,rfl,OSl.nil _ _ _ _⟩ rfl (RC.nil _ _ _)
  refine le' (aY (vs:=[(0,.agg [.slice none 0 0].toArray)]) (C:=#[.slice none 0 0]) aR.lasts jR uc rfl rfl rfl rfl (ag xh (a7 (C':=[.slice none 0 0]) rfl rfl rfl rfl rfl (aa))) rfl rc1 rfl (RC.kn aR.knows rc1)) rfl ?_
  rintro v1 Φ_2 D2 ⟨fr1,h1⟩
  replace h1:OSl aR 44 1 Φ_2 ((ob (.slice none 0 0)++[])) v1 ([(⟨[]⟩:bk)]:List bk):=by simpa [List.append_assoc] using h1
  replace k2:=k2.f0 fr1
  refine wlL [((ob (.slice none 0 0)++[])),ob v1,D1,ob u1] (smg [] rfl (SP.eq (by simp [List.append_assoc,bv]))) ?_
  obtain ⟨x1,hx1,h⟩:=bs h
  refine le' (bU aR.lasts aR.one jR C8 rfl rfl rfl rfl rfl (js:=[3]) (Rr:=[((ob (.slice none 0 0)++[])),ob v1,D1]) rfl k2 h1 (fun ap=>ap.q 2 rfl) (fun ap=>ap.q 0 rfl) hx1) rfl ?_
  rintro v2 Φ_3 D3 ⟨⟨ap1,fr2⟩,h2⟩
  refine wlL [(D1++((ob (.slice none 0 0)++[]))),ob v2,ob v1] (smg [3,1] rfl (SP.eq (by simp)))<|lf gr rfl rfl rfl<|so1 0 AP rfl h2.one ?_
  refine art 7 [] rfl ?_
  exact lb [0,0] [0,0,0] (ih1 (_,_,_,_,_) ⟨h,h2⟩)
 refine att 7 [] rfl<|wtS<|wt0 ?_
 have k3:=OSl.nil aM 98 1 Φ_1
 refine lin (σ:=Hp × (List aJ) × Value × List Nat × Int) (fun s=>[(1,pQ b_1),(2,pQ b_2),(3,pQ b_3),(5,iV s.2.2.2.2)]) (fun s=>St w0 s.1 [(b_3,.cells #[u1,s.2.2.1] 34 (0,0)),(b_2,.cells #[.slice none 0 0,.slice none 0 0] 34 (0,0)),(b_1,.cells #[pv0_0,pv0_1] 30 (0,0))] [s.2.2.2.1,ob s.2.2.1,D1,ob u1]) (fun m s=>ee N p0 s1 m s.2.1 s.2.2.2.2=some r∧(OSl aR 44 1 s.1 D1 u1 s1)∧(OSl aM 98 1 s.1 s.2.2.2.1 s.2.2.1 s.2.1)) (Φ_1,([]:List aJ),(.slice none 0 0),[],0) N ⟨h,k2,k3⟩ (sx [0,0,0,0] [0,0,0]) (fun n2 ih2 s hm=>?_)
 obtain ⟨Φ_4,s3,u2,D4,s4⟩:=s
 obtain ⟨h,k2,k4⟩:=hm
 dsimp only at h k2 k4 ⊢
 unfold ee at h
 refine atr 6 [1,64] rfl<|lnr ph0_1 rfl<|la rfl<|en ?_
 refine ch h rfl ?_ ?_ <;> intro h
 ·refine atr 5 [] rfl<|lq (aQ (vs:=[]) (C:=#[.slice none 0 0]) Bx oD rfl (aa)) rfl ?_
  refine ln (jP (C:=#[.slice none 0 0]) oD rfl) rfl (fun b_4=>?_)
  refine soN 0 yk rfl ⟨rfl,trivial⟩ rfl ?_
  refine art 7 [] rfl<|wtS<|wt0 ?_
  have k5:=OSl.nil aB 101 1 Φ_4
  refine lin (σ:=Hp × (List aj) × Value × List Nat × Int) (fun s=>[(1,pQ b_1),(2,pQ b_2),(3,pQ b_3),(5,iV s4),(6,pQ b_4),(7,iV s.2.2.2.2)]) (fun s=>St w0 s.1 [(b_4,.cells #[s.2.2.1] 98 (0,0)),(b_3,.cells #[u1,u2] 34 (0,0)),(b_2,.cells #[.slice none 0 0,.slice none 0 0] 34 (0,0)),(b_1,.cells #[pv0_0,pv0_1] 30 (0,0))] [s.2.2.2.1,ob s.2.2.1,D4,ob u2,D1,ob u1]) (fun m s=>ie N p0 s3 s4 (ee N p0 s1 n2) m s.2.1 s.2.2.2.2=some r∧(OSl aR 44 1 s.1 D1 u1 s1)∧(OSl aM 98 1 s.1 D4 u2 s3)∧(OSl aB 101 1 s.1 s.2.2.2.1 s.2.2.1 s.2.1)) (Φ_4,([]:List aj),(.slice none 0 0),[],0) N ⟨h,k2,k4,k5⟩ (sx [0,0,0,0,0,0] [0,0,0,0]) (fun n3 ih3 s hm=>?_)
  obtain ⟨Φ_5,s5,u3,D5,s6⟩:=s
  obtain ⟨h,k2,k4,k6⟩:=hm
  dsimp only at h k2 k4 k6 ⊢
  unfold ie at h
  refine atr 7 [1,96] rfl ?_
  obtain ⟨x2,hx2,h⟩:=bs h
  obtain ⟨cs1,F1,-,g1,hb1,hs1,r1⟩:=ph0_1.el (a9 hx2).2.2
  obtain ⟨v3,G1,v4,G2,rfl,rfl,h3,h4⟩:=r1
  refine lia ph0_1 hx2 rfl<|lf lg rfl rfl rfl<|lhx 0 0 g1 rfl<|lnr h3 rfl<|la rfl<|en ?_
  refine ch h rfl ?_ ?_ <;> intro h
  ·refine atr 6 [0,0] rfl<|lq (aQ (vs:=[]) (C:=#[.slice none 0 0]) BK qe rfl (aa)) rfl ?_
   have rc2:RC aB 1 Φ_5 ([(ob (.slice none 0 0)++[])]:List (List Nat)) [.slice none 0 0] ([(⟨[]⟩:aj)]:List aj):=RC.cons (c:=[.slice none 0 0]) (cells:=[]) ⟨.slice none 0 0,[],rfl,rfl,OSl.nil _ _ _ _⟩ rfl (RC.nil _ _ _)
   refine le' (aY (vs:=[(0,.agg [.slice none 0 0].toArray)]) (C:=#[.slice none 0 0]) aB.lasts mD qe rfl rfl rfl rfl (ag ur (a7 (C':=[.slice none 0 0]) rfl rfl rfl rfl rfl (aa))) rfl rc2 rfl (RC.kn aB.knows rc2)) rfl ?_
   rintro v5 Φ_6 D6 ⟨fr3,h5⟩
   replace h5:OSl aB 101 1 Φ_6 ((ob (.slice none 0 0)++[])) v5 ([(⟨[]⟩:aj)]:List aj):=by simpa [List.append_assoc] using h5
   replace k2:=k2.f0 fr3
   replace k4:=k4.f0 fr3
   replace k6:=k6.f0 fr3
   refine wlL [((ob (.slice none 0 0)++[])),ob v5,D5,ob u3,D4,ob u2,D1,ob u1] (smg [] rfl (SP.eq (by simp [List.append_assoc,bv]))) ?_
   obtain ⟨x3,hx3,h⟩:=bs h
   refine le' (bU aB.lasts aB.one mD yL rfl rfl rfl rfl rfl (js:=[3]) (Rr:=[((ob (.slice none 0 0)++[])),ob v5,D5,D4,ob u2,D1,ob u1]) rfl k6 h5 (fun ap=>ap.q 2 rfl) (fun ap=>ap.q 0 rfl) hx3) rfl ?_
   rintro v6 Φ_7 D7 ⟨⟨ap2,fr4⟩,h6⟩
   replace k2:=k2.fr fr4 (ap2.q 6 rfl) (ap2.q 5 rfl)
   replace k4:=k4.fr fr4 (ap2.q 4 rfl) (ap2.q 3 rfl)
   refine wlL [(D5++((ob (.slice none 0 0)++[]))),ob v6,ob v5,D4,ob u2,D1,ob u1] (smg [3,1] rfl (SP.eq (by simp)))<|lf gZ rfl rfl rfl<|so1 0 AR rfl h6.one ?_
   refine art 7 [] rfl ?_
   exact lb [0,0,1,1,1,1] [0,0,0,0] (ih3 (_,_,_,_,_) ⟨h,k2,k4,h6⟩)
  refine atr 4 [1,32] rfl<|lq (aI BF rfl (fun w1 hw=>hw.rgO (i:=0) rfl 0 1 [u3] rfl) rfl) rfl ?_
  have rc3:RC aM 1 Φ_5 ([(ob u3++D5)]:List (List Nat)) [u3] ([(⟨s5⟩:aJ)]:List aJ):=RC.cons (c:=[u3]) (cells:=[]) ⟨u3,D5,rfl,rfl,k6⟩ rfl (RC.nil _ _ _)
  refine le' (aY (vs:=[(0,.agg [u3].toArray)]) (C:=#[u3]) aM.lasts pZ oD rfl rfl rfl rfl (ag tK (a7 (C':=[u3]) rfl rfl rfl rfl rfl (aa))) rfl rc3 rfl (RC.kn aM.knows rc3)) rfl ?_
  rintro v7 Φ_8 D8 ⟨fr5,h7⟩
  replace h7:OSl aM 98 1 Φ_8 ((ob u3++D5)) v7 ([(⟨s5⟩:aJ)]:List aJ):=by simpa [List.append_assoc] using h7
  replace k2:=k2.f0 fr5
  replace k4:=k4.f0 fr5
  refine wlL [((ob u3++D5)),ob v7,D4,ob u2,D1,ob u1] (smg [2,1] rfl (SP.eq (by simp [List.append_assoc,bv]))) ?_
  obtain ⟨x4,hx4,h⟩:=bs h
  refine le' (bU aM.lasts aM.one pZ zI rfl rfl rfl rfl rfl (js:=[3]) (Rr:=[((ob u3++D5)),ob v7,D4,D1,ob u1]) rfl k4 h7 (fun ap=>ap.q 2 rfl) (fun ap=>ap.q 0 rfl) hx4) rfl ?_
  rintro v8 Φ_9 D9 ⟨⟨ap3,fr6⟩,h8⟩
  replace k2:=k2.fr fr6 (ap3.q 4 rfl) (ap3.q 3 rfl)
  refine wlL [(D4++((ob u3++D5))),ob v8,ob v7,D1,ob u1] (smg [3,1] rfl (SP.eq (by simp)))<|lf lE rfl rfl rfl<|so1 1 zR rfl h8.one ?_
  refine art 7 [] rfl ?_
  exact lb [0,0,1,1] [1,1,1] (ih2 (_,_,_,_,_) ⟨h,k2,h8⟩)
 refine atr 4 [2] rfl<|soN 1 kj rfl ⟨k2.one,k4.one,trivial⟩ rfl ?_
 refine en ?_
 exact rtg [3,2,1,0] hF (az.one (aX tc rfl (fun w1 hw=>hw.rgO (i:=1) rfl 0 2 [u1,u2] rfl) rfl)) rfl (by cases h; exact fun w1 hw=>⟨u1,D1,u2,D4,rfl,rfl,k2,k4⟩)
theorem vP (w0:aw Ψ Φ []) (p0:(List Int)) (p1:Int) (ph0:RSl (RI .i64) 1 Ψ pG0 pv0 p0) {r:Bool} (h:nL N p0 p1=some r) :
  CB w0 prog 107 [pv0,iV p1] (.bool r):=by
 refine eN func107 rfl ntmps107 rfl w0 fun hF=>?_
 unfold nL at h
 refine att 10 [] rfl ?_
 refine lin (σ:=Int) (fun s=>[(0,pv0),(1,iV p1),(5,iV s)]) (fun s=>St w0 Φ [] []) (fun m s=>fc N p0 p1 m s=some r) (0) N h (sx [] []) (fun n1 ih1 s hm=>?_)
 revert hm; revert s; intro s1 hm
 have h:fc N p0 p1 (n1+1) s1=some r:=hm
 show WT _ _ [(0,pv0),(1,iV p1),(5,iV s1)] (St w0 Φ [] [])
 unfold fc at h
 refine atr 5 [] rfl<|lnr ph0 rfl<|la rfl<|en ?_
 refine ch h rfl ?_ ?_ <;> intro h
 ·refine atr 7 [] rfl ?_
  obtain ⟨x1,hx1,h⟩:=bs h
  obtain ⟨cs1,F1,-,g1,hb1,hs1,r1⟩:=ph0.el (a9 hx1).2.2
  obtain ⟨rfl,-⟩:=r1
  refine lia ph0 hx1 rfl<|lhx 0 0 g1 rfl<|art 3 [] rfl ?_
  refine ch h rfl ?_ ?_ <;> intro h
  ·refine att 4 [] rfl ?_
   exact rt hF h
  refine att 7 [] rfl ?_
  exact lb [] [] (ih1 _ h)
 refine att 5 [] rfl ?_
 exact rt hF h
theorem rN (w0:aw Ψ Φ [ob pv0,pD0].flatten) (p0:(List af)) (p1:Int) (ph0:OSl aq 103 2 Φ pD0 pv0 p0) {r:(List af)} (h:iK N p0 p1=some r) :
  Calls prog 70 [pv0,iV p1].toArray w0.w (bg Φ w0.w [ob pv0,pD0].flatten (fun Φ' Fs v=>∃ (sr_0_0:Value) (Dr_0_0:List Nat),v=sr_0_0∧Fs=[ob sr_0_0,Dr_0_0]∧OSl aq 103 2 Φ' Dr_0_0 sr_0_0 r)):=by
 refine eL func70 rfl ntmps70 rfl (L:=[ob pv0,pD0]) w0 (fun hF=>?_)
 unfold iK at h
 obtain ⟨_,hlen,h⟩:=bs h
 have t0:=ph0.tail (Bw hlen)
 refine atr 6 [] rfl ?_
 have rc1:RC aq 2 Φ ([]:List (List Nat)) [] ([]:List af):=RC.nil _ _ _
 refine le' (aY (vs:=[]) (C:=#[]) aq.lasts cM dJ rfl rfl rfl rfl (ag oA (aa)) rfl rc1 rfl (by simpa using Kw.nil)) rfl ?_
 rintro v1 Φ_1 D1 ⟨fr1,h1⟩
 replace h1:OSl aq 103 2 Φ_1 [] v1 ([]:List af):=by simpa [List.append_assoc] using h1
 replace t0:=t0.f0 fr1
 refine art 8 [] rfl ?_
 refine lin (σ:=Hp × (List af) × Value × List Nat × Int × List Nat) (fun s=>[(0,pv0),(1,iV p1),(5,s.2.2.1),(6,iV s.2.2.2.2.1)]) (fun s=>St w0 s.1 [] [ob s.2.2.1,pD0,ob pv0]) (fun m s=>cI N p0 p1 m s.2.1 s.2.2.2.2.1=some r∧(OSl aq 103 2 s.1 s.2.2.2.1 s.2.2.1 s.2.1)∧(SP (s.2.2.2.1++s.2.2.2.2.2) pD0)∧(TSl aq 2 s.1 s.2.2.2.2.2 pv0 p0 s.2.2.2.2.1)) (Φ_1,([]:List af),v1,[],0,pD0) N ⟨h,h1,SP.refl _,t0⟩ (sx [0,1,0] []) (fun n1 ih1 s hm=>?_)
 obtain ⟨Φ_2,s1,u1,D2,s2,Dt⟩:=s
 obtain ⟨h,k1,i1,t1⟩:=hm
 dsimp only at h k1 i1 t1 ⊢
 unfold cI at h
 refine atr 5 [] rfl<|lno ph0 rfl<|la rfl<|en ?_
 refine ch h rfl ?_ ?_ <;> intro h
 ·refine atr 7 [] rfl ?_
  obtain ⟨x1,hx1,h⟩:=bs h
  obtain ⟨cs1,F1,D9,-,g1,hb1,r1,hD9,t9⟩:=t1.step aq.knows hx1
  obtain ⟨v2,v3,rfl,rfl,h2,h3⟩:=r1
  refine lq (sw cM rfl rfl t1 hx1) rfl<|lf oW rfl rfl rfl<|lgx 0 0 g1 rfl<|la rfl<|qc h (vP N · x1.Ids p1 h2.rsl ·) rfl rfl rfl fun x2 h=>la rfl<|en ?_
  refine ch h rfl ?_ ?_ <;> intro h
  ·refine atr 4 [] rfl ?_
   obtain ⟨x3,hx3,h⟩:=bs h
   obtain rfl:x1=x3:=by rw [hx1] at hx3; exact Option.some.inj hx3
   refine lq (sw cM rfl rfl t1 hx3) rfl<|lgx 0 2 g1 rfl ?_
   have rc2:RC aq 2 Φ_2 ([(ob v2++[])++((ob v3++[]))]:List (List Nat)) [v2,v3] ([x1]:List af):=RC.cons (c:=[v2,v3]) (cells:=[]) ⟨v2,v3,rfl,rfl,h2,h3⟩ rfl (RC.nil _ _ _)
   refine le' (aY (vs:=[(0,.agg [v2,v3].toArray)]) (C:=#[v2,v3]) aq.lasts cM dJ rfl rfl rfl rfl (ag lT (a7 (C':=[v2,v3]) rfl rfl rfl rfl rfl (aa))) rfl rc2 rfl (RC.kn aq.knows rc2)) rfl ?_
   rintro v6 Φ_3 D3 ⟨fr2,h8⟩
   replace h8:OSl aq 103 2 Φ_3 ((ob v2++[])++((ob v3++[]))) v6 ([x1]:List af):=by simpa [List.append_assoc] using h8
   replace k1:=k1.f0 fr2
   replace t9:=t9.f0 fr2
   obtain ⟨x4,hx4,h⟩:=bs h
   refine le' (bU aq.lasts aq.one cM km rfl rfl rfl rfl rfl (js:=[1]) (Rr:=[ob v6,pD0,ob pv0]) rfl k1 h8 (fun ap=>Dj.sub (ap.q 1 rfl) i1.inl) (fun ap=>Dj.sub (ap.q 1 rfl) (fun k hk=>i1.inr k (by rw [hD9]; exact List.mem_append.2 (.inl hk)))) hx4) rfl ?_
   rintro v7 Φ_4 D4 ⟨⟨ap1,fr3⟩,h9⟩
   replace t9:=t9.fr fr3 (ap1.q 2 rfl) (Dj.sub (ap1.q 1 rfl) (fun k hk=>i1.inr k (by rw [hD9]; exact List.mem_append.2 (.inr hk))))
   refine art 8 [] rfl ?_
   exact lb [0,1,1] [] (ih1 (_,_,_,_,_,_) ⟨h,h9,i1.next hD9,t9⟩)
  refine att 7 [] rfl ?_
  exact lb [0,0,0] [] (ih1 (_,_,_,_,_,_) ⟨h,k1,i1.skip hD9,t9⟩)
 refine att 6 [] rfl ?_
 refine WT.ret hF (az.one rfl) (fun w1 hw=>?_)
 cases h
 replace hw:=hw.merge (js:=[1]) (F:=D2) rfl (by simpa using i1.out)
 refine bc (js:=[1,0]) hw rfl ⟨u1,D2,rfl,rfl,k1⟩

theorem uJ (w0:aw Ψ Φ [[pb1],ob pv1_0,pD1_0,ob pv1_1,pD1_1].flatten) (p0:bm) (p1:ax) (p2:ah) (p3:Int) (ph0_0:RSl dH 5 Ψ pG0_0 pv0_0 p0.Rules) (ph1_0:OSl aR 44 1 Φ pD1_0 pv1_0 p1.Alphas) (ph1_1:OSl aM 98 1 Φ pD1_1 pv1_1 p1.Rules) (pp1:Φ pb1=some (.cells #[pv1_0,pv1_1] 34 (0,0))) (ph2_0:RSl bh 3 Ψ pG2_0 pv2_0 p2.Items) {r:ax} (h:lj N p0 p1 p2 p3=some r) :
  Calls prog 37 [.agg [.string p0.Name,pv0_0].toArray,pQ pb1,.agg [pv2_0,iV p2.Next].toArray,iV p3].toArray w0.w (bg Φ w0.w [[pb1],ob pv1_0,pD1_0,ob pv1_1,pD1_1].flatten (fun Φ' Fs v=>∃ (so_0_0:Value) (Do_0_0:List Nat) (so_0_1:Value) (Do_0_1:List Nat),v = .tuple #[]∧Fs=[[pb1],ob so_0_0,Do_0_0,ob so_0_1,Do_0_1]∧OSl aR 44 1 Φ' Do_0_0 so_0_0 r.Alphas∧OSl aM 98 1 Φ' Do_0_1 so_0_1 r.Rules∧Φ' pb1=some (.cells #[so_0_0,so_0_1] 34 (0,0)))):=by
 refine eL func37 rfl ntmps37 rfl (L:=[[pb1],ob pv1_0,pD1_0,ob pv1_1,pD1_1]) w0 (fun hF=>?_)
 unfold lj at h
 refine sr<|lbx rfl fun b_1=>lbx rfl fun b_2=>arr 5 [2] rfl<|kab h rfl rfl rfl (fun b z q=>jg N b p2 p3 (ph2_0.y z) q) ?_
 rintro x1 h v1 Φ_1 F1 ⟨ap1,fr1,v2,rfl,rfl,h1⟩
 replace ph1_0:=ph1_0.fr fr1 (ap1.q 1 rfl) (ap1.q 2 rfl)
 replace ph1_1:=ph1_1.fr fr1 (ap1.q 3 rfl) (ap1.q 4 rfl)
 replace pp1:=fr1 _ _ ((ap1.q 0 rfl) _ (by simp)) pp1
 refine arr 3 [] rfl<|lnz j9 rfl fun b_3=>soN 0 jL rfl ⟨rfl,h1.one,trivial⟩ rfl ?_
 refine art 8 [] rfl ?_
 refine lin (σ:=Hp × (List bk) × List Nat × Int) (fun s=>[(1,pQ pb1),(3,iV p3),(4,pQ b_1),(6,pQ b_2),(8,pQ b_3),(10,iV s.2.2.2)]) (fun s=>St w0 s.1 [(b_3,.cells #[.string x1.1.Kind,v2] 47 (0,0)),(b_2,.cells #[pv2_0,iV p2.Next] 37 (0,0)),(b_1,.cells #[.string p0.Name,pv0_0] 26 (0,0))] [ob v2,[pb1],ob pv1_0,s.2.2.1,ob pv1_1,pD1_1]) (fun m s=>d9 N p0 p1 p2 p3 x1 m s.2.1 s.2.2.2=some r∧(OSl aR 44 1 s.1 s.2.2.1 pv1_0 s.2.1)∧(OSl aM 98 1 s.1 pD1_1 pv1_1 p1.Rules)∧(OSl aH 91 3 s.1 [] v2 x1.1.Fields)∧(s.1 pb1=some (.cells #[pv1_0,pv1_1] 34 (0,0)))) (Φ_1,p1.Alphas,pD1_0,0) N ⟨h,ph1_0,ph1_1,h1,pp1⟩ (sx [0,0,0,0,0,0] [0,0,0]) (fun n1 ih1 s hm=>?_)
 obtain ⟨Φ_2,s1,D1,s2⟩:=s
 obtain ⟨h,k1,ph1_1,h1,k2⟩:=hm
 dsimp only at h k1 ph1_1 h1 k2 ⊢
 unfold d9 at h
 refine atr 5 [] rfl<|lq (aC rfl) rfl<|lf gr rfl rfl rfl<|lgx 0 0 (bP k2) rfl<|lno k1 rfl<|la rfl<|en ?_
 refine ch h rfl ?_ ?_ <;> intro h
 ·refine atr 5 [] rfl<|le' (dI (R:=RI .i64) RI.lasts aW gB rfl rfl) rfl ?_
  rintro v3 Φ_3 D2 ⟨fr2,h2⟩
  replace k1:=k1.f0 fr2
  replace ph1_1:=ph1_1.f0 fr2
  replace h1:=h1.f0 fr2
  replace k2:=fr2 _ _ (by simp) k2
  refine art 8 [] rfl ?_
  refine lin (σ:=Hp × (List Int) × Value × Int) (fun s=>[(1,pQ pb1),(3,iV p3),(4,pQ b_1),(6,pQ b_2),(8,pQ b_3),(10,iV s2),(11,s.2.2.1),(12,iV s.2.2.2)]) (fun s=>St w0 s.1 [(b_3,.cells #[.string x1.1.Kind,v2] 47 (0,0)),(b_2,.cells #[pv2_0,iV p2.Next] 37 (0,0)),(b_1,.cells #[.string p0.Name,pv0_0] 26 (0,0))] [ob s.2.2.1,ob v2,[pb1],ob pv1_0,D1,ob pv1_1,pD1_1]) (fun m s=>dy N p3 s1 s2 (d9 N p0 p1 p2 p3 x1 n1) m s.2.1 s.2.2.2=some r∧(OSl aR 44 1 s.1 D1 pv1_0 s1)∧(OSl aM 98 1 s.1 pD1_1 pv1_1 p1.Rules)∧(OSl aH 91 3 s.1 [] v2 x1.1.Fields)∧(OSl (RI .i64) 3 1 s.1 [] s.2.2.1 s.2.1)∧(s.1 pb1=some (.cells #[pv1_0,pv1_1] 34 (0,0)))) (Φ_3,([]:List Int),v3,0) N ⟨h,k1,ph1_1,h1,h2,k2⟩ (sx [0,0,0,0,0,0,0] [0,0,0]) (fun n2 ih2 s hm=>?_)
  obtain ⟨Φ_4,s3,u1,s4⟩:=s
  obtain ⟨h,k1,ph1_1,h1,k3,k4⟩:=hm
  dsimp only at h k1 ph1_1 h1 k3 k4 ⊢
  unfold dy at h
  refine atr 5 [] rfl<|lq (aC rfl) rfl<|lf gr rfl rfl rfl<|lgx 0 0 (bP k4) rfl<|la rfl ?_
  obtain ⟨x2,hx2,h⟩:=bs h
  obtain ⟨cs1,F2,-,g1,hb1,hs1,r1⟩:=k1.elS (a9 hx2).2.2
  obtain ⟨v4,rfl,rfl,h3⟩:=r1
  have h4:=h3.rsl
  refine lio k1 hx2 rfl<|lf fw rfl rfl rfl<|lgx 0 0 g1 rfl<|lnr h4 rfl<|la rfl<|en ?_
  refine ch h rfl ?_ ?_ <;> intro h
  ·refine atr 6 [] rfl<|lq (aC rfl) rfl<|lf gr rfl rfl rfl<|lgx 0 0 (bP k4) rfl<|la rfl ?_
   obtain ⟨x3,hx3,h⟩:=bs h
   obtain ⟨cs2,F3,-,g2,hb2,hs2,r2⟩:=k1.elS (a9 hx3).2.2
   obtain ⟨v5,rfl,rfl,h5⟩:=r2
   have h6:=h5.rsl
   refine lio k1 hx3 rfl<|lf fw rfl rfl rfl<|lgx 0 0 g2 rfl<|la rfl ?_
   obtain ⟨x4,hx4,h⟩:=bs h
   obtain ⟨cs3,F4,-,g3,hb3,hs3,r3⟩:=h6.el (a9 hx4).2.2
   obtain ⟨rfl,-⟩:=r3
   refine lia h6 hx4 rfl<|lgx 0 0 g3 rfl<|art 3 [] rfl ?_
   refine ch h rfl ?_ ?_ <;> intro h
   ·refine atr 3 [] rfl<|lq (aC rfl) rfl<|lf gr rfl rfl rfl<|lgx 0 0 (bP k4) rfl<|la rfl ?_
    obtain ⟨x5,hx5,h⟩:=bs h
    obtain ⟨cs4,F5,-,g4,hb4,hs4,r4⟩:=k1.elS (a9 hx5).2.2
    obtain ⟨v6,rfl,rfl,h7⟩:=r4
    have h8:=h7.rsl
    refine lio k1 hx5 rfl<|lf fw rfl rfl rfl<|lgx 0 0 g4 rfl<|la rfl ?_
    obtain ⟨x6,hx6,h⟩:=bs h
    obtain ⟨cs5,F6,-,g5,hb5,hs5,r5⟩:=h8.el (a9 hx6).2.2
    obtain ⟨rfl,-⟩:=r5
    refine lia h8 hx6 rfl<|lgx 0 0 g5 rfl ?_
    have rc2:RC (RI .i64) 1 Φ_4 ([[]]:List (List Nat)) [iV x6] ([x6]:List Int):=RC.cons (c:=[iV x6]) (cells:=[]) ⟨rfl,rfl⟩ rfl (RC.nil _ _ _)
    refine le' (aY (vs:=[(0,iV x6)]) (C:=#[iV x6]) RI.lasts aW gB rfl rfl rfl rfl (ag iy (a7 (C':=[iV x6]) rfl rfl rfl rfl rfl (aa))) rfl rc2 rfl (by simpa using Kw.nil)) rfl ?_
    rintro v7 Φ_5 D3 ⟨fr3,h9⟩
    replace h9:OSl (RI .i64) 3 1 Φ_5 [] v7 ([x6]:List Int):=by simpa using h9
    replace k1:=k1.f0 fr3
    replace ph1_1:=ph1_1.f0 fr3
    replace h1:=h1.f0 fr3
    replace k3:=k3.f0 fr3
    replace k4:=fr3 _ _ (by simp) k4
    obtain ⟨x7,hx7,h⟩:=bs h
    refine le' (bB RI.lasts RI.one RI.flat aW jw rfl rfl rfl rfl rfl (js:=[1]) (Rr:=[ob v7,ob v2,[pb1],ob pv1_0,D1,ob pv1_1,pD1_1]) rfl k3 h9.rsl hx7) rfl ?_
    rintro v8 Φ_6 D4 ⟨⟨ap2,fr4⟩,h10⟩
    replace k1:=k1.fr fr4 (ap2.q 3 rfl) (ap2.q 4 rfl)
    replace ph1_1:=ph1_1.fr fr4 (ap2.q 5 rfl) (ap2.q 6 rfl)
    replace h1:=h1.fr fr4 (ap2.q 1 rfl) dN
    replace k4:=fr4 _ _ ((ap2.q 2 rfl) _ (by simp)) k4
    refine art 8 [] rfl ?_
    exact lb [0,1,1,1,1,1,1] [0,0,0] (ih2 (_,_,_,_) ⟨h,k1,ph1_1,h1,h10,k4⟩)
   refine att 7 [] rfl ?_
   exact lb [0,0,0,0,0,0,0] [0,0,0] (ih2 (_,_,_,_) ⟨h,k1,ph1_1,h1,k3,k4⟩)
  refine atr 3 [] rfl<|lq (aC rfl) rfl<|lf gr rfl rfl rfl<|lgx 0 0 (bP k4) rfl<|arr 2 [] rfl ?_
  obtain ⟨x8,hx8,h⟩:=bs h
  obtain ⟨cs6,F7,D5,h11,r6,kf1,sp1,mM1⟩:=k1.focusM hx8
  obtain ⟨v9,rfl,rfl,h12⟩:=r6
  refine wlL [ob v9,D5,ob u1,ob v2,[pb1],ob pv1_0,ob pv1_1,pD1_1] (sre [4] [ob v9,D5] rfl (by simpa [List.append_assoc] using sp1))<|lih h11 hx8 rfl<|lf fw rfl rfl rfl<|lu (us [5] [ob v9,D5,ob u1,ob v2,[pb1],ob pv1_1,pD1_1] 0 aR.lasts nU rfl rfl k3.one rfl h11 rfl (fun ap=>ap.q 1 rfl)) rfl ?_
  rintro Φ_7 D6 ⟨⟨ap3,fr5⟩,h13⟩
  replace ph1_1:=ph1_1.fr fr5 (ap3.q 5 rfl) (ap3.q 6 rfl)
  replace h1:=h1.fr fr5 (ap3.q 3 rfl) dN
  replace k3:=k3.fr fr5 (ap3.q 2 rfl) dN
  replace k4:=fr5 _ _ ((ap3.q 4 rfl) _ (by simp)) k4
  refine art 7 [] rfl ?_
  have r7:aR Φ_7 _ [u1] (⟨s3⟩:bk):=⟨u1,rfl,rfl,k3⟩
  obtain ⟨D7,h14,sp2⟩:=h13.unfocus r7 (aR.knows _ _ _ _ r7)
  refine wtL [D7,ob pv1_0,ob v9,ob v2,[pb1],ob pv1_1,pD1_1] (smg [3,2] rfl (by simpa [List.append_assoc,bv] using sp2)) ?_
  exact lb [3,3,1,0,1,1] [0,0,0] (ih1 (_,_,_,_) ⟨h,h14,ph1_1,h1,k4⟩)
 refine att 6 [] rfl ?_
 refine lin (σ:=Hp × (List aJ) × List Nat × Int) (fun s=>[(1,pQ pb1),(3,iV p3),(4,pQ b_1),(6,pQ b_2),(8,pQ b_3),(13,iV s.2.2.2)]) (fun s=>St w0 s.1 [(b_3,.cells #[.string x1.1.Kind,v2] 47 (0,0)),(b_2,.cells #[pv2_0,iV p2.Next] 37 (0,0)),(b_1,.cells #[.string p0.Name,pv0_0] 26 (0,0))] [ob v2,[pb1],ob pv1_0,D1,ob pv1_1,s.2.2.1]) (fun m s=>dC N p0 p2 p3 x1 s1 m s.2.1 s.2.2.2=some r∧(OSl aR 44 1 s.1 D1 pv1_0 s1)∧(OSl aM 98 1 s.1 s.2.2.1 pv1_1 s.2.1)∧(OSl aH 91 3 s.1 [] v2 x1.1.Fields)∧(s.1 pb1=some (.cells #[pv1_0,pv1_1] 34 (0,0)))) (Φ_2,p1.Rules,pD1_1,0) N ⟨h,k1,ph1_1,h1,k2⟩ (sx [0,0,0,0,0,0] [0,0,0]) (fun n3 ih3 s hm=>?_)
 obtain ⟨Φ_8,s5,D8,s6⟩:=s
 obtain ⟨h,k1,k5,h1,k6⟩:=hm
 dsimp only at h k1 k5 h1 k6 ⊢
 unfold dC at h
 refine atr 6 [1,64] rfl<|lnr ph0_0 rfl<|la rfl<|en ?_
 refine ch h rfl ?_ ?_ <;> intro h
 ·refine atr 6 [] rfl<|lq (aC rfl) rfl<|lf lE rfl rfl rfl<|lgx 1 0 (bP k6) rfl<|la rfl ?_
  obtain ⟨x9,hx9,h⟩:=bs h
  obtain ⟨cs7,F8,D9,h15,r8,kf2,sp3⟩:=k5.focus hx9
  obtain ⟨v10,D10,rfl,rfl,h16⟩:=r8
  refine wlL [ob v10,D10,D9,ob v2,[pb1],ob pv1_0,D1,ob pv1_1] (sre [5] [ob v10,D10,D9] rfl (by simpa [List.append_assoc] using sp3))<|lih h15 hx9 rfl<|lf gZ rfl rfl rfl<|lgx 0 0 h15.rg rfl<|art 8 [] rfl ?_
  refine lin (σ:=Hp × (List aj) × List Nat × Int) (fun s=>[(1,pQ pb1),(3,iV p3),(4,pQ b_1),(6,pQ b_2),(8,pQ b_3),(13,iV s6),(14,v10),(15,iV s.2.2.2)]) (fun s=>St w0 s.1 [(b_3,.cells #[.string x1.1.Kind,v2] 47 (0,0)),(b_2,.cells #[pv2_0,iV p2.Next] 37 (0,0)),(b_1,.cells #[.string p0.Name,pv0_0] 26 (0,0))] [ob v10,s.2.2.1,D9,ob v2,[pb1],ob pv1_0,D1,ob pv1_1]) (fun m s=>ev N p0 p2 p3 x1 s5 s6 (dC N p0 p2 p3 x1 s1 n3) m s.2.1 s.2.2.2=some r∧(OSl aR 44 1 s.1 D1 pv1_0 s1)∧(OSl aH 91 3 s.1 [] v2 x1.1.Fields)∧(OSl aB 101 1 s.1 s.2.2.1 v10 s.2.1)∧(s.1 pb1=some (.cells #[pv1_0,pv1_1] 34 (0,0)))∧(HSl aM 98 1 s.1 D9 pv1_1 s5 s6.toNat [v10])) (Φ_8,x9.Levels,D10,0) N ⟨h,k1,h1,h16,k6,h15⟩ (sx [0,0,0,0,0,0,0,0] [0,0,0]) (fun n4 ih4 s hm=>?_)
  obtain ⟨Φ_9,s7,D11,s8⟩:=s
  obtain ⟨h,k1,h1,k8,k9,k7⟩:=hm
  dsimp only at h k1 h1 k8 k9 k7 ⊢
  unfold ev at h
  refine atr 5 [] rfl<|lno k8 rfl<|la rfl<|en ?_
  refine ch h rfl ?_ ?_ <;> intro h
  ·refine atr 8 [] rfl ?_
   obtain ⟨x10,hx10,h⟩:=bs h
   obtain ⟨cs8,F9,D12,h17,r9,kf3,sp4⟩:=k8.focus hx10
   obtain ⟨v11,D13,rfl,rfl,h18⟩:=r9
   refine wlL [ob v11,D13,D12,ob v10,D9,ob v2,[pb1],ob pv1_0,D1,ob pv1_1] (sre [1] [ob v11,D13,D12] rfl (by simpa [List.append_assoc] using sp4))<|lih h17 hx10 rfl<|lf dP rfl rfl rfl<|lgx 0 0 h17.rg rfl<|la rfl<|kcb [0,0] h rfl rfl rfl rfl (fun b ap z q=>rN N b x10.Toks p3 h18 q) ?_
   rintro x11 h v12 Φ_10 F10 ⟨ap4,fr6,v13,D14,rfl,rfl,h19⟩
   replace k1:=k1.fr fr6 (ap4.q 5 rfl) (ap4.q 6 rfl)
   replace k7:=k7.fr fr6 (ap4.q 7 rfl) (ap4.q 2 rfl)
   replace h1:=h1.fr fr6 (ap4.q 3 rfl) dN
   replace h17:=h17.fr fr6 (ap4.q 1 rfl) (ap4.q 0 rfl)
   replace k9:=fr6 _ _ ((ap4.q 4 rfl) _ (by simp)) k9
   refine lih h17 hx10 rfl<|lf dP rfl rfl rfl<|lu (us [3] [ob v12,D14,D12,D9,ob v2,[pb1],ob pv1_0,D1,ob pv1_1] 0 aB.lasts y9 rfl rfl h19.one rfl h17 rfl (fun ap=>ap.q 2 rfl)) rfl ?_
   rintro Φ_11 D15 ⟨⟨ap5,fr7⟩,h20⟩
   replace k1:=k1.fr fr7 (ap5.q 6 rfl) (ap5.q 7 rfl)
   replace k7:=k7.fr fr7 (ap5.q 8 rfl) (ap5.q 3 rfl)
   replace h1:=h1.fr fr7 (ap5.q 4 rfl) dN
   replace h19:=h19.fr fr7 (ap5.q 0 rfl) (ap5.q 1 rfl)
   replace k9:=fr7 _ _ ((ap5.q 5 rfl) _ (by simp)) k9
   refine art 7 [] rfl ?_
   have r10:aB Φ_11 _ [v12] (⟨x11⟩:aj):=⟨v12,D14,rfl,rfl,h19⟩
   obtain ⟨D16,h21,sp5⟩:=h20.unfocus r10 (aB.knows _ _ _ _ r10)
   refine wtL [D16,ob v10,D9,ob v2,[pb1],ob pv1_0,D1,ob pv1_1] (smg [1,1,1] rfl (by simpa [List.append_assoc,bv] using sp5)) ?_
   exact lb [1,0,0,0,0,0,0,0] [0,0,0] (ih4 (_,_,_,_) ⟨h,k1,h1,h21,k9,k7⟩)
  refine xt rfl<|WT.mix (Kn w0 Φ_9 (ob v10) [(b_3,.cells #[.string x1.1.Kind,v2] 47 (0,0)),(b_2,.cells #[pv2_0,iV p2.Next] 37 (0,0)),(b_1,.cells #[.string p0.Name,pv0_0] 26 (0,0))]) (fun i=>match i with | 14=>false | _=>true) cc (fun _ h=>h.drew)<|mq 5 rfl (by kernel_rfl) (kn Kf.id (ai3 0 1 2 rfl rfl rfl)) (aI pV rfl (fun w1 hw=>hw.rgO (i:=1) rfl 0 2 [pv2_0,iV p2.Next] rfl) rfl) rfl<|mq 13 rfl (by kernel_rfl) (kn Kf.id (ai3 0 1 2 rfl rfl rfl)) (aI ni rfl (fun w1 hw=>hw.rgO (i:=0) rfl 0 2 [.string x1.1.Kind,v2] rfl) rfl) rfl ?_
  refine mqT 0 [1,3,4,14] rfl (by kernel_rfl) (kn Kf.id (ai3 0 1 2 rfl rfl rfl)) (ab tP rfl) rfl<|mqT 1 [3,4,14] rfl (by kernel_rfl) (kn Kf.id (ai3 0 1 2 rfl rfl rfl)) (au DN rfl (fun w1 hw=>hw.rgO (i:=2) rfl 1 1 [pv0_0] rfl)) rfl<|mqT 2 [3,4,14] rfl (by kernel_rfl) (kn Kf.id (ai3 0 1 2 rfl rfl rfl)) (ep rfl) rfl ?_
  obtain ⟨x12,hx12,h⟩:=bs h
  obtain ⟨cs9,F11,-,g6,hb9,hs6,r11⟩:=ph0_0.el (a9 hx12).2.2
  obtain ⟨v14,G1,v15,G2,v16,G3,rfl,rfl,h22,h23,h24⟩:=r11
  refine mqT 3 [4,14] rfl (by kernel_rfl) (kn Kf.id (ai3 0 1 2 rfl rfl rfl)) (ac wx rfl rfl ph0_0 hx12) rfl<|mq 4 rfl (by kernel_rfl) (kn Kf.id (ai3 0 1 2 rfl rfl rfl)) (aI mF rfl (fun w1 hw=>(g6.of_eq 0 5 rfl rfl:rg _ _ _ [.string x12.Name,iV x12.Sal,v14,v15,v16]).rangeAt hw.1) rfl) rfl<|mqT 6 [10,11,12,14] rfl (by kernel_rfl) (kn Kf.id (ai3 0 1 2 rfl rfl rfl)) (ep rfl) rfl<|mqT 7 [8,9,10,11,12,14] rfl (by kernel_rfl) (kn Kf.id (ai3 0 1 2 rfl rfl rfl)) (ep rfl) rfl ?_
  refine mqT 8 [9,10,11,12,14] rfl (by kernel_rfl) (kn Kf.id (ai3 0 1 2 rfl rfl rfl)) (o5 mD rfl rfl (k8.rslG aB.gives)) rfl<|mqT 9 [10,11,12,14] rfl (by kernel_rfl) (kn Kf.id (ai3 0 1 2 rfl rfl rfl)) (za rfl rfl) rfl ?_
  obtain ⟨x13,hx13,h⟩:=bs h
  obtain ⟨cs10,F12,D17,h25,r12,kf4,sp6⟩:=k8.focus hx13
  obtain ⟨v17,D18,rfl,rfl,h26⟩:=r12
  refine WM.conv (S':=St w0 Φ_9 [(b_3,.cells #[.string x1.1.Kind,v2] 47 (0,0)),(b_2,.cells #[pv2_0,iV p2.Next] 37 (0,0)),(b_1,.cells #[.string p0.Name,pv0_0] 26 (0,0))] [ob v17,D18,D17,ob v10,D9,ob v2,[pb1],ob pv1_0,D1,ob pv1_1]) (fun w1 hw=>hw.re (js:=[1]) (Bs:=[ob v17,D18,D17]) rfl (by simpa [List.append_assoc] using sp6))<|mqT 10 [11,12,14] rfl (by kernel_rfl) (kn Kf.id (ai3 0 1 2 rfl rfl rfl)) (aZ mD rfl rfl h25 hx13) rfl<|mqT 11 [12,14] rfl (by kernel_rfl) (kn Kf.id (ai3 0 1 2 rfl rfl rfl)) (ab dP rfl) rfl ?_
  refine mq 12 rfl (by kernel_rfl) (kn Kf.id (ai3 0 1 2 rfl rfl rfl)) (au vV rfl (fun w1 hw=>hw.rg h25.hb (h25.rg.of_eq 0 1 rfl rfl:rg _ _ _ [v17]))) rfl ?_
  obtain ⟨x14,hx14,h⟩:=bs h
  refine WM.one 14 (by kernel_rfl) (mc rfl (fun hc=>by cases hc) (bZ (js:=[0,0]) (R:=[D17,ob v10,D9,ob v2,[pb1],ob pv1_0,D1,ob pv1_1]) Ch rfl rfl (fun w1 hw ap hl=>pP N (bx hw ap hl) x12 p2 x13.Toks x1.1 (-1) (h22.y (hw.uo ap)) (h23.y (hw.uo ap)) (h24.y (hw.uo ap)) (ph2_0.y (hw.uo ap)) h26 (h1.rsl.x (Dj.app (ap.q 3 rfl) dN))  hx14)) rfl ?_)
  rintro v18 Φ_12 F13 ⟨ap6,fr8,D19,rfl,rfl,h27⟩
  replace k1:=k1.fr fr8 (ap6.q 5 rfl) (ap6.q 6 rfl)
  replace k7:=k7.fr fr8 (ap6.q 7 rfl) (ap6.q 2 rfl)
  replace h1:=h1.fr fr8 (ap6.q 3 rfl) dN
  replace h25:=h25.fr fr8 (ap6.q 1 rfl) (ap6.q 0 rfl)
  replace k9:=fr8 _ _ ((ap6.q 4 rfl) _ (by simp)) k9
  refine WM.nil (by kernel_rfl)<|att 6 [] rfl ?_
  have r13:aB Φ_12 _ [v17] (⟨x14⟩:aj):=⟨v17,D19,rfl,rfl,h27⟩
  obtain ⟨D20,h28,sp7⟩:=h25.unfocus r13 (aB.knows _ _ _ _ r13)
  refine wtL [D20,ob v10,D9,ob v2,[pb1],ob pv1_0,D1,ob pv1_1] (smg [0,0,0] rfl (by simpa [List.append_assoc,bv] using sp7)) ?_
  have r14:aM Φ_12 _ [v10] (⟨(s7.set (wz ((s7.length:Int) - 1)).toNat (⟨x14⟩:aj))⟩:aJ):=⟨v10,D20,rfl,rfl,h28⟩
  obtain ⟨D21,h29,sp8⟩:=k7.unfocus r14 (aM.knows _ _ _ _ r14)
  refine wtL [D21,ob v2,[pb1],ob pv1_0,D1,ob pv1_1] (smg [1,0,0] rfl (by simpa [List.append_assoc,bv] using sp8)) ?_
  exact lb [1,1,1,1,1,0] [0,0,0] (ih3 (_,_,_,_) ⟨h,k1,h29,h1,k9⟩)
 refine xt rfl ?_
 refine WT.fin hF az.none (fun w1 hw=>?_)
 cases h
 refine bc (js:=[1,1,1,1,1]) hw rfl ⟨pv1_0,D1,pv1_1,D8,rfl,rfl,k1,k5,k6⟩
theorem vA (w0:aw Ψ Φ [[pb0]].flatten) (p0:ah) (p1:Int) (ph0_0:RSl bh 3 Ψ pG0_0 pv0_0 p0.Items) (pp0:Φ pb0=some (.cells #[pv0_0,iV p0.Next] 37 (0,0))) {r:Bool × ah} (h:mJ N p0 p1=some r) :
  Calls prog 38 [pQ pb0,iV p1].toArray w0.w (bg Φ w0.w [[pb0]].flatten (fun Φ' Fs v=>∃ (so_0_0:Value) (Do_0_0:List Nat),v = .bool r.1∧Fs=[[pb0],ob so_0_0]∧OSl bh 69 3 Φ' Do_0_0 so_0_0 r.2.Items∧(∀ k∈Do_0_0,k∈pG0_0)∧Φ' pb0=some (.cells #[so_0_0,iV r.2.Next] 37 (0,0)))):=by
 refine eL func38 rfl ntmps38 rfl (L:=[[pb0]]) w0 (fun hF=>?_)
 unfold mJ at h
 refine atr 6 [] rfl ?_
 have rc1:RC eQ 3 Φ ([]:List (List Nat)) [] ([]:List aP):=RC.nil _ _ _
 refine le' (aY (vs:=[]) (C:=#[]) eQ.lasts nX sm rfl rfl rfl rfl (ag Cs (aa)) rfl rc1 rfl (by simpa using Kw.nil)) rfl ?_
 rintro v1 Φ_1 D1 ⟨fr1,h1⟩
 replace h1:OSl eQ 69 3 Φ_1 [] v1 ([]:List aP):=by simpa [List.append_assoc] using h1
 replace pp0:=fr1 _ _ (by simp) pp0
 refine WL.conv (S':=St w0 Φ_1 [] [[],ob v1,[pb0]]) (fun w1 hw=>hw.addNil)<|art 8 [] rfl ?_
 replace h1:=h1.gives eQ.gives
 refine lin (σ:=Hp × (List aP) × Value × List Nat × Int) (fun s=>[(0,pQ pb0),(1,iV p1),(5,s.2.2.1),(6,iV s.2.2.2.2)]) (fun s=>St w0 s.1 [] [ob s.2.2.1,[pb0]]) (fun m s=>eh N p0 p1 m s.2.1 s.2.2.2.2=some r∧(OSl bh 69 3 s.1 s.2.2.2.1 s.2.2.1 s.2.1)∧(∀ k∈s.2.2.2.1,k∈pG0_0)∧(s.1 pb0=some (.cells #[pv0_0,iV p0.Next] 37 (0,0)))) (Φ_1,([]:List aP),v1,[],0) N ⟨h,h1,(by simp),pp0⟩ (sx [1,1] []) (fun n1 ih1 s hm=>?_)
 obtain ⟨Φ_2,s1,u1,D2,s2⟩:=s
 obtain ⟨h,k1,i1,k2⟩:=hm
 dsimp only at h k1 i1 k2 ⊢
 unfold eh at h
 refine atr 5 [] rfl<|lq (aC rfl) rfl<|lf lC rfl rfl rfl<|lgx 0 0 (bP k2) rfl<|lnr ph0_0 rfl<|la rfl<|en ?_
 refine ch h rfl ?_ ?_ <;> intro h
 ·refine atr 6 [] rfl<|lq (aC rfl) rfl<|lf lC rfl rfl rfl<|lgx 0 0 (bP k2) rfl<|la rfl ?_
  obtain ⟨x1,hx1,h⟩:=bs h
  obtain ⟨cs1,F1,-,g1,hb1,hs1,r1⟩:=ph0_0.el (a9 hx1).2.2
  obtain ⟨v2,G1,rfl,hq1,h2⟩:=r1
  obtain rfl:=hq1.symm
  refine lia ph0_0 hx1 rfl<|lf pT rfl rfl rfl<|lhx 0 0 g1 rfl<|art 3 [] rfl ?_
  refine ch h rfl ?_ ?_ <;> intro h
  ·refine atr 3 [] rfl<|lq (aC rfl) rfl<|lf lC rfl rfl rfl<|lgx 0 0 (bP k2) rfl<|la rfl ?_
   obtain ⟨x2,hx2,h⟩:=bs h
   obtain ⟨cs2,F2,-,g2,hb2,hs2,r2⟩:=ph0_0.el (a9 hx2).2.2
   obtain ⟨v3,G2,rfl,hq2,h3⟩:=r2
   obtain rfl:=hq2.symm
   refine lia ph0_0 hx2 rfl<|lhx 0 3 g2 rfl<|lu0 h3 fun h4=>?_
   have rc2:RC bh 3 Φ_2 ([G2]:List (List Nat)) [iV x2.Id,.string x2.F.Kind,v3] ([x2]:List aP):=RC.cons (c:=[iV x2.Id,.string x2.F.Kind,v3]) (cells:=[]) ⟨v3,G2,rfl,rfl,h4⟩ rfl (RC.nil _ _ _)
   refine le' (aY (vs:=[(0,.agg [iV x2.Id,.string x2.F.Kind,v3].toArray)]) (C:=#[iV x2.Id,.string x2.F.Kind,v3]) bh.lasts nX sm rfl rfl rfl rfl (ag zA (a7 (C':=[iV x2.Id,.string x2.F.Kind,v3]) rfl rfl rfl rfl rfl (aa))) rfl rc2 rfl (RC.kn bh.knows rc2)) rfl ?_
   rintro v4 Φ_3 D3 ⟨fr2,h5⟩
   replace h5:OSl bh 69 3 Φ_3 (G2) v4 ([x2]:List aP):=by simpa [List.append_assoc] using h5
   replace k1:=k1.f0 fr2
   replace k2:=fr2 _ _ (by simp) k2
   obtain ⟨x3,hx3,h⟩:=bs h
   refine le' (bU bh.lasts bh.one nX DF rfl rfl rfl rfl rfl (js:=[1]) (Rr:=[ob v4,[pb0]]) rfl k1 h5 (fun ap=>(Dj.sub (ap.o ph0_0.old) i1)) (fun ap=>(Dj.sub (Dj.sub (ap.o ph0_0.old) (fun k h=>hs2 k h)) (fun k hk=>(by simpa [List.append_assoc] using hk:k∈G2)))) hx3) rfl ?_
   rintro v5 Φ_4 D4 ⟨⟨ap1,fr3⟩,h6⟩
   replace k2:=fr3 _ _ ((ap1.q 1 rfl) _ (by simp)) k2
   refine art 8 [] rfl ?_
   exact lb [0,1] [] (ih1 (_,_,_,_,_) ⟨h,h6,(fun k hk=>((List.mem_append.1 hk).elim (fun h=>(i1 k h)) (fun h=>((fun k h=>hs2 k h) k ((fun k hk=>(by simpa [List.append_assoc] using hk:k∈G2)) k h))))),k2⟩)
  refine att 7 [] rfl ?_
  exact lb [0,0] [] (ih1 (_,_,_,_,_) ⟨h,k1,(fun k hk=>(i1 k hk)),k2⟩)
 refine atr 4 [] rfl<|lno k1 rfl<|la rfl<|lq (aC rfl) rfl<|lf lC rfl rfl rfl<|lgx 0 0 (bP k2) rfl<|lnr ph0_0 rfl<|arr 7 [] rfl<|lq (aC rfl) rfl<|lf lC rfl rfl rfl ?_
 refine WL.thw (js:=[1]) (R:=[ob u1]) rfl k2 (fun Φ_5 ap2 fr4=>?_)
 replace k1:=k1.fr fr4 (ap2.q 0 rfl) (Dj.sub (ap2.o ph0_0.old) i1)
 refine so1 0 DQ rfl k1.one ?_
 refine art 6 [] rfl ?_
 refine WT.frz (js:=[0]) (R:=[]) rfl (fun Φ_6 fr5 k3=>?_)
 replace k1:=k1.f0 fr5
 exact rtg [0,0] hF (az.one rfl) rfl (by cases h; exact fun w1 hw=>⟨u1,D2,rfl,rfl,k1,(fun k hk=>(i1 k hk)),k3⟩)
theorem uk (w0:aw Ψ Φ [[pb0]].flatten) (p0:a8) (ph0_0:RSl (RI .u8) 1 Ψ pG0_0 pv0_0 p0.b) (pp0:Φ pb0=some (.cells #[pv0_0,iV p0.i,iV p0.h] 82 (0,0))) {r:bm × aO × ax × ah × a8} (h:l7 N p0=some r) :
  Calls prog 12 [pQ pb0].toArray w0.w (bg Φ w0.w [[pb0]].flatten (fun Φ' Fs v=>∃ (sr_0_0:Value) (Dr_0_0:List Nat) (sr_1_0:Value) (Dr_1_0:List Nat) (sr_1_1:Value) (Dr_1_1:List Nat) (sr_2_0:Value) (Dr_2_0:List Nat) (sr_2_1:Value) (Dr_2_1:List Nat) (sr_3_0:Value) (Dr_3_0:List Nat) (X:List Nat),v = .tuple #[.agg [.string r.1.Name,sr_0_0].toArray,.agg [sr_1_0,sr_1_1].toArray,.agg [sr_2_0,sr_2_1].toArray,.agg [sr_3_0,iV r.2.2.2.1.Next].toArray]∧Fs=[ob sr_0_0,Dr_0_0,ob sr_1_0,ob sr_1_1,Dr_1_1,ob sr_2_0,Dr_2_0,ob sr_2_1,Dr_2_1,ob sr_3_0,[pb0],X]∧OSl cG 120 5 Φ' Dr_0_0 sr_0_0 r.1.Rules∧OSl bl 75 4 Φ' Dr_1_0 sr_1_0 r.2.1.Alphas∧(∀ k∈Dr_1_0,k∈X)∧OSl ay 79 2 Φ' Dr_1_1 sr_1_1 r.2.1.Chains∧OSl aR 44 1 Φ' Dr_2_0 sr_2_0 r.2.2.1.Alphas∧OSl aM 98 1 Φ' Dr_2_1 sr_2_1 r.2.2.1.Rules∧OSl bh 69 3 Φ' Dr_3_0 sr_3_0 r.2.2.2.1.Items∧(∀ k∈Dr_3_0,k∈X)∧r.2.2.2.2.b=p0.b∧Φ' pb0=some (.cells #[pv0_0,iV r.2.2.2.2.i,iV r.2.2.2.2.h] 82 (0,0)))):=by
 refine eL func12 rfl ntmps12 rfl (L:=[[pb0]]) w0 (fun hF=>?_)
 unfold l7 at h
 refine sr<|lnz tj rfl fun b_1=>lnz nj rfl fun b_2=>lnz jE rfl fun b_3=>lnz w8 rfl fun b_4=>arr 4 [] rfl<|kcb [0] h rfl rfl rfl rfl (fun b ap z q=>uY N b p0 (ph0_0.y z) pp0 q) ?_
 rintro x1 h v1 Φ_1 F1 ⟨ap1,fr1,v2,D1,rfl,rfl,h1,e1,h2⟩
 refine lnz tj rfl fun b_5=>soN 0 u6 rfl ⟨rfl,h1.one,trivial⟩ rfl ?_
 refine arr 4 [2] rfl<|kab h rfl rfl rfl (fun b z q=>qQ N b x1.1 (h1.rslG cG.gives) q) ?_
 rintro x2 h v3 Φ_2 F2 ⟨ap2,fr2,v4,D2,v5,D3,X1,rfl,rfl,h3,i1,h4⟩
 replace h1:=h1.fr fr2 (ap2.q 0 rfl) (ap2.q 1 rfl)
 replace h2:=fr2 _ _ ((ap2.q 2 rfl) _ (by simp)) h2
 refine lnz nj rfl fun b_6=>soN 0 o0 rfl ⟨h3.one,h4.one,trivial⟩ rfl ?_
 refine arr 4 [2] rfl<|kab h rfl rfl rfl (fun b z q=>vH N b x2 h3.rsl (h4.rslG ay.gives) q) ?_
 rintro x4 h v6 Φ_3 F3 ⟨ap3,fr3,v7,D4,v8,D5,rfl,rfl,h5,h6⟩
 replace h1:=h1.fr fr3 (ap3.q 4 rfl) (ap3.q 5 rfl)
 replace h3:=h3.fr fr3 (ap3.q 0 rfl) (Dj.sub (ap3.q 3 rfl) i1)
 replace h4:=h4.fr fr3 (ap3.q 1 rfl) (ap3.q 2 rfl)
 replace h2:=fr3 _ _ ((ap3.q 6 rfl) _ (by simp)) h2
 refine lnz jE rfl fun b_7=>soN 0 kj rfl ⟨h5.one,h6.one,trivial⟩ rfl ?_
 refine en<|sr<|lq (aQ (vs:=[(1,iV 1)]) (C:=#[.slice none 0 0,iV 1]) FW w8 rfl (a7 (C':=[.slice none 0 0,iV 1]) rfl rfl rfl rfl rfl (aa))) rfl<|lnz w8 rfl fun b_8=>soN 0 xV rfl ⟨rfl,rfl,trivial⟩ rfl ?_
 refine arr 5 [] rfl<|kcb [10] h rfl rfl rfl rfl (fun b ap z q=>aL N b (⟨p0.b,x1.2.i,x1.2.h⟩:a8) 10 (ph0_0.y z) h2 q) ?_
 rintro x5 h v9 Φ_4 F4 ⟨ap4,fr4,rfl,rfl,e2,h7⟩
 replace h1:=h1.fr fr4 (ap4.q 8 rfl) (ap4.q 9 rfl)
 replace h3:=h3.fr fr4 (ap4.q 4 rfl) (Dj.sub (ap4.q 7 rfl) i1)
 replace h4:=h4.fr fr4 (ap4.q 5 rfl) (ap4.q 6 rfl)
 replace h5:=h5.fr fr4 (ap4.q 0 rfl) (ap4.q 1 rfl)
 replace h6:=h6.fr fr4 (ap4.q 2 rfl) (ap4.q 3 rfl)
 refine art 3 [] rfl<|wt0<|wtS ?_
 have k1:=OSl.nil bh 69 3 Φ_4
 refine lin (σ:=Hp × List Nat × (List bk) × Value × List Nat × (List aJ) × Value × List Nat × (List aP) × Value × List Nat × Int × Int × Int × Int) (fun s=>[(0,pQ pb0),(2,pQ b_1),(3,pQ b_2),(4,pQ b_3),(5,pQ b_4),(6,pQ b_5),(7,pQ b_6),(8,pQ b_7),(9,pQ b_8),(10,iV s.2.2.2.2.2.2.2.2.2.2.2.1)]) (fun s=>St w0 s.1 [(b_8,.cells #[s.2.2.2.2.2.2.2.2.2.1,iV s.2.2.2.2.2.2.2.2.2.2.2.2.2.2] 37 (0,0)),(b_7,.cells #[s.2.2.2.1,s.2.2.2.2.2.2.1] 34 (0,0)),(b_6,.cells #[v4,v5] 30 (0,0)),(b_5,.cells #[.string x1.1.Name,v2] 26 (0,0)),(b_4,.cells #[.slice none 0 0,iV 0] 37 (0,0)),(b_3,.cells #[.slice none 0 0,.slice none 0 0] 34 (0,0)),(b_2,.cells #[.slice none 0 0,.slice none 0 0] 30 (0,0)),(b_1,.cells #[.string (⟨#[]⟩:ByteArray),.slice none 0 0] 26 (0,0))] [ob s.2.2.2.2.2.2.2.2.2.1,s.2.1,[pb0],ob s.2.2.2.1,s.2.2.2.2.1,ob s.2.2.2.2.2.2.1,s.2.2.2.2.2.2.2.1,ob v4,ob v5,D3,X1,ob v2,D1]) (fun m s=>eD N p0 x1 x2 m s.2.2.1 s.2.2.2.2.2.1 s.2.2.2.2.2.2.2.2.1 s.2.2.2.2.2.2.2.2.2.2.2.1 s.2.2.2.2.2.2.2.2.2.2.2.2.1 s.2.2.2.2.2.2.2.2.2.2.2.2.2.1 s.2.2.2.2.2.2.2.2.2.2.2.2.2.2=some r∧(OSl cG 120 5 s.1 D1 v2 x1.1.Rules)∧(OSl bl 75 4 s.1 D2 v4 x2.Alphas)∧(OSl ay 79 2 s.1 D3 v5 x2.Chains)∧(OSl aR 44 1 s.1 s.2.2.2.2.1 s.2.2.2.1 s.2.2.1)∧(OSl aM 98 1 s.1 s.2.2.2.2.2.2.2.1 s.2.2.2.2.2.2.1 s.2.2.2.2.2.1)∧(OSl bh 69 3 s.1 s.2.2.2.2.2.2.2.2.2.2.1 s.2.2.2.2.2.2.2.2.2.1 s.2.2.2.2.2.2.2.2.1)∧(∀ k∈s.2.2.2.2.2.2.2.2.2.2.1,k∈s.2.1)∧(s.1 pb0=some (.cells #[pv0_0,iV s.2.2.2.2.2.2.2.2.2.2.2.2.1,iV s.2.2.2.2.2.2.2.2.2.2.2.2.2.1] 82 (0,0)))) (Φ_4,[],x4.Alphas,v7,D4,x4.Rules,v8,D5,([]:List aP),(.slice none 0 0),[],x5.1,x5.2.i,x5.2.h,1) N ⟨h,h1,h3,h4,h5,h6,k1,(by simp),h7⟩ (sx [0,0,0,0,0,0,0,0,0,0,0,0,0] [0,0,0,0,0,0,0,0]) (fun n1 ih1 s hm=>?_)
 obtain ⟨Φ_5,X2,s1,u1,D6,s2,u2,D7,s3,u3,D8,s4,s5,s6,s7⟩:=s
 obtain ⟨h,h1,h3,h4,k2,k3,k4,i2,k5⟩:=hm
 dsimp only at h h1 h3 h4 k2 k3 k4 i2 k5 ⊢
 unfold eD at h
 refine att 6 [] rfl ?_
 refine ch h rfl ?_ ?_ <;> intro h
 ·refine atr 7 [] rfl<|kcb [2] h rfl rfl rfl rfl (fun b ap z q=>em N b (⟨p0.b,s5,s6⟩:a8) 4 (ph0_0.y z) k5 q) ?_
  rintro x6 h v10 Φ_6 F5 ⟨ap5,fr5,rfl,rfl,e3,h8⟩
  replace h1:=h1.fr fr5 (ap5.q 10 rfl) (ap5.q 11 rfl)
  replace h3:=h3.fr fr5 (ap5.q 6 rfl) (Dj.sub (ap5.q 9 rfl) i1)
  replace h4:=h4.fr fr5 (ap5.q 7 rfl) (ap5.q 8 rfl)
  replace k2:=k2.fr fr5 (ap5.q 2 rfl) (ap5.q 3 rfl)
  replace k3:=k3.fr fr5 (ap5.q 4 rfl) (ap5.q 5 rfl)
  replace k4:=k4.fr fr5 (ap5.q 0 rfl) (Dj.sub (ap5.q 1 rfl) i2)
  refine la rfl ?_
  obtain ⟨b4,hb_1,h⟩:=bs h
  refine WL.cutN 5 [(34,.bool b4),(0,pQ pb0),(2,pQ b_1),(3,pQ b_2),(4,pQ b_3),(5,pQ b_4),(6,pQ b_5),(7,pQ b_6),(8,pQ b_7),(9,pQ b_8),(10,iV s4)] ?_ (fun K=>?_)
  rotate_left
  ·refine sp 29 hb_1 rfl (fun hb_1=>?_) fun hb_1=>?_
   ·refine arr 2 [0,0] rfl<|ly rfl rfl<|lno k4 rfl<|arr 2 [] rfl ?_
    cases hb_1
    exact ku K
   ·refine arr 5 [] rfl ?_
    cases hb_1
    exact ku K
  refine en ?_
  refine ch h rfl ?_ ?_ <;> intro h
  ·refine sq<|wm [0,1,2,3,4,5,6,7] [] rfl<|amm 5 [0,0,1,0,2,3,0,4,0] [0,1,2,3,4,5,6,7] rfl rfl<|mq 5 rfl (by kernel_rfl) (kN [0,1,2,3,4,5,6,7]) (o5 nX rfl rfl k4.rsl) rfl ?_
   obtain ⟨x7,hx6,h⟩:=bs h
   refine WM.one 6 (by kernel_rfl) (mc rfl (fun _ v Φx D w1 hq hw=>Kn.of Kf.nil (am [0,1,2,3,4,5,6,7] rfl) hw) (bZ (js:=[0]) (R:=[ob u3,X2,ob u1,D6,ob u2,D7,ob v4,ob v5,D3,X1,ob v2,D1]) sN rfl rfl (fun w1 hw ap hl=>aL N (bx hw ap hl) (⟨p0.b,x6.2.i,x6.2.h⟩:a8) (s3.length:Int) (ph0_0.y (hw.uo ap)) h8  hx6)) rfl ?_)
   rintro v11 Φ_7 F6 ⟨ap6,fr6,rfl,rfl,e4,h9⟩
   replace h1:=h1.fr fr6 (ap6.q 10 rfl) (ap6.q 11 rfl)
   replace h3:=h3.fr fr6 (ap6.q 6 rfl) (Dj.sub (ap6.q 9 rfl) i1)
   replace h4:=h4.fr fr6 (ap6.q 7 rfl) (ap6.q 8 rfl)
   replace k2:=k2.fr fr6 (ap6.q 2 rfl) (ap6.q 3 rfl)
   replace k3:=k3.fr fr6 (ap6.q 4 rfl) (ap6.q 5 rfl)
   replace k4:=k4.fr fr6 (ap6.q 0 rfl) (Dj.sub (ap6.q 1 rfl) i2)
   obtain ⟨x8,hx7,h⟩:=bs h
   obtain ⟨cs1,F7,-,g1,hb1,hs1,r1⟩:=k4.elS (a9 hx7).2.2
   obtain ⟨v12,G1,rfl,hq1,h10⟩:=r1
   obtain rfl:=hq1.symm
   refine mq 7 rfl (by kernel_rfl) (kN [0,1,2,3,4,5,6,7]) (ac nX rfl rfl k4.rsl hx7) rfl<|amm 1 [8,0] [0,1,2,3,4,5,6,7] rfl rfl ?_
   refine on1 9 (mv rfl (kS [0,1,2,3,4,5,6,7]) (au pt rfl (fun w1 hw=>(g1.of_eq 0 1 rfl rfl:rg _ _ _ [iV x8.Id]).rangeAt hw.fro)) rfl ?_)
   refine amm 1 [10] [0,1,2,3,4,5,6,7] rfl rfl<|WM.nil (by kernel_rfl)<|atr 5 [98,2] rfl ?_
   refine WL.frz (js:=[1]) (R:=[(b_8,.cells #[u3,iV s7] 37 (0,0)),(b_6,.cells #[v4,v5] 30 (0,0)),(b_5,.cells #[.string x1.1.Name,v2] 26 (0,0)),(b_4,.cells #[.slice none 0 0,iV 0] 37 (0,0)),(b_3,.cells #[.slice none 0 0,.slice none 0 0] 34 (0,0)),(b_2,.cells #[.slice none 0 0,.slice none 0 0] 30 (0,0)),(b_1,.cells #[.string (⟨#[]⟩:ByteArray),.slice none 0 0] 26 (0,0))]) rfl (fun Φ_8 fr7 k6=>?_)
   replace h1:=h1.f0 fr7
   replace h3:=h3.f0 fr7
   replace h4:=h4.f0 fr7
   replace k2:=k2.f0 fr7
   replace k3:=k3.f0 fr7
   replace k4:=k4.f0 fr7
   replace h9:=fr7 _ _ (by simp) h9
   refine kcb [0,3,3,3,3] h rfl rfl rfl rfl (fun b ap z q=>uJ N b x1.1 (⟨s1,s2⟩:ax) (⟨s3,s7⟩:ah) x8.Id ((h1.rslG cG.gives).x (Dj.app (ap.q 7 rfl) (ap.q 8 rfl))) k2 k3 k6 (k4.rsl.x (Dj.app (ap.q 1 rfl) (Dj.sub (ap.q 2 rfl) i2))) q) ?_
   rintro x9 h v13 Φ_9 F8 ⟨ap7,fr8,v14,D9,v15,D10,rfl,rfl,h11,h12,h13⟩
   replace h1:=h1.fr fr8 (ap7.q 7 rfl) (ap7.q 8 rfl)
   replace h3:=h3.fr fr8 (ap7.q 3 rfl) (Dj.sub (ap7.q 6 rfl) i1)
   replace h4:=h4.fr fr8 (ap7.q 4 rfl) (ap7.q 5 rfl)
   replace k4:=k4.fr fr8 (ap7.q 1 rfl) (Dj.sub (ap7.q 2 rfl) i2)
   replace h9:=fr8 _ _ ((ap7.q 0 rfl) _ (by simp)) h9
   refine arr 4 [] rfl ?_
   refine WL.frz (js:=[0]) (R:=[(b_6,.cells #[v4,v5] 30 (0,0)),(b_5,.cells #[.string x1.1.Name,v2] 26 (0,0)),(b_4,.cells #[.slice none 0 0,iV 0] 37 (0,0)),(b_3,.cells #[.slice none 0 0,.slice none 0 0] 34 (0,0)),(b_2,.cells #[.slice none 0 0,.slice none 0 0] 30 (0,0)),(b_1,.cells #[.string (⟨#[]⟩:ByteArray),.slice none 0 0] 26 (0,0))]) rfl (fun Φ_10 fr9 k7=>?_)
   replace h1:=h1.f0 fr9
   replace h3:=h3.f0 fr9
   replace h4:=h4.f0 fr9
   replace k4:=k4.f0 fr9
   replace h11:=h11.f0 fr9
   replace h12:=h12.f0 fr9
   replace h13:=fr9 _ _ (by simp) h13
   replace h9:=fr9 _ _ (by simp) h9
   refine kcb [0] h rfl rfl rfl rfl (fun b ap z q=>vA N b (⟨s3,s7⟩:ah) x8.Id (k4.rsl.x (Dj.app (ap.q 6 rfl) (Dj.sub (ap.q 7 rfl) i2))) k7 q) ?_
   rintro x10 h v16 Φ_11 F9 ⟨ap8,fr10,v17,D11,rfl,rfl,h14,i3,h15⟩
   replace h1:=h1.fr fr10 (ap8.q 12 rfl) (ap8.q 13 rfl)
   replace h3:=h3.fr fr10 (ap8.q 8 rfl) (Dj.sub (ap8.q 11 rfl) i1)
   replace h4:=h4.fr fr10 (ap8.q 9 rfl) (ap8.q 10 rfl)
   replace h11:=h11.fr fr10 (ap8.q 1 rfl) (ap8.q 2 rfl)
   replace h12:=h12.fr fr10 (ap8.q 3 rfl) (ap8.q 4 rfl)
   replace h13:=fr10 _ _ ((ap8.q 0 rfl) _ (by simp)) h13
   replace h9:=fr10 _ _ ((ap8.q 5 rfl) _ (by simp)) h9
   refine art 7 [] rfl ?_
   refine WT.thw (js:=[2]) (R:=[[b_8],ob v17,ob v14,D9,ob v15,D10,[pb0],ob u3,X2,ob v4,ob v5,D3,X1,ob v2,D1]) rfl h13 (fun Φ_12 ap9 fr11=>?_)
   replace h1:=h1.fr fr11 (ap9.q 13 rfl) (ap9.q 14 rfl)
   replace h3:=h3.fr fr11 (ap9.q 9 rfl) (Dj.sub (ap9.q 12 rfl) i1)
   replace h4:=h4.fr fr11 (ap9.q 10 rfl) (ap9.q 11 rfl)
   replace h11:=h11.fr fr11 (ap9.q 2 rfl) (ap9.q 3 rfl)
   replace h12:=h12.fr fr11 (ap9.q 4 rfl) (ap9.q 5 rfl)
   replace h14:=h14.fr fr11 (ap9.q 1 rfl) (Dj.sub (Dj.app (ap9.q 7 rfl) (Dj.sub (ap9.q 8 rfl) i2)) i3)
   replace h15:=fr11 _ _ ((ap9.q 0 rfl) _ (by simp)) h15
   replace h9:=fr11 _ _ ((ap9.q 6 rfl) _ (by simp)) h9
   refine WT.thw (js:=[0]) (R:=[ob v17,ob v14,D9,ob v15,D10,[pb0],ob u3,X2,ob v4,ob v5,D3,X1,ob v2,D1]) rfl h15 (fun Φ_13 ap10 fr12=>?_)
   replace h1:=h1.fr fr12 (ap10.q 12 rfl) (ap10.q 13 rfl)
   replace h3:=h3.fr fr12 (ap10.q 8 rfl) (Dj.sub (ap10.q 11 rfl) i1)
   replace h4:=h4.fr fr12 (ap10.q 9 rfl) (ap10.q 10 rfl)
   replace h11:=h11.fr fr12 (ap10.q 1 rfl) (ap10.q 2 rfl)
   replace h12:=h12.fr fr12 (ap10.q 3 rfl) (ap10.q 4 rfl)
   replace h14:=h14.fr fr12 (ap10.q 0 rfl) (Dj.sub (Dj.app (ap10.q 6 rfl) (Dj.sub (ap10.q 7 rfl) i2)) i3)
   replace h9:=fr12 _ _ ((ap10.q 5 rfl) _ (by simp)) h9
   refine wtL [(X2++(ob u3)),ob v17,ob v14,D9,ob v15,D10,[pb0],ob v4,ob v5,D3,X1,ob v2,D1] (smg [7,6] rfl (SP.eq (by simp [List.append_assoc]))) ?_
   exact lb [1,0,4,0,0,0,0,0,0,0,0,0,0] [0,0,0,0,0,0,0,0] (ih1 (_,_,_,_,_,_,_,_,_,_,_,_,_,_,_) ⟨h,h1,h3,h4,h11,h12,h14,(fun k hk=>((List.mem_append.1 (i3 k hk)).elim (fun h=>((fun k hk=>(List.mem_append.2 (.inr hk))) k h)) (fun h=>((fun k hk=>(List.mem_append.2 (.inl hk))) k (i2 k h))))),h9⟩)
  refine atr 4 [] rfl<|kcb [0] h rfl rfl rfl rfl (fun b ap z q=>qX N b (⟨p0.b,x6.2.i,x6.2.h⟩:a8) (ph0_0.y z) h8 q) ?_
  rintro x11 h v18 Φ_14 F10 ⟨ap11,fr13,v19,rfl,rfl,h16,e5,h17⟩
  replace h1:=h1.fr fr13 (ap11.q 10 rfl) (ap11.q 11 rfl)
  replace h3:=h3.fr fr13 (ap11.q 6 rfl) (Dj.sub (ap11.q 9 rfl) i1)
  replace h4:=h4.fr fr13 (ap11.q 7 rfl) (ap11.q 8 rfl)
  replace k2:=k2.fr fr13 (ap11.q 2 rfl) (ap11.q 3 rfl)
  replace k3:=k3.fr fr13 (ap11.q 4 rfl) (ap11.q 5 rfl)
  replace k4:=k4.fr fr13 (ap11.q 0 rfl) (Dj.sub (ap11.q 1 rfl) i2)
  refine lnz j9 rfl fun b_9=>soN 0 jL rfl ⟨rfl,h16.one,trivial⟩ rfl ?_
  refine arr 5 [34,2] rfl<|qc h (nV N · (⟨s3,s7⟩:ah) x11.1 k4.rsl h16.rsl ·) rfl rfl rfl fun x12 h=>la rfl<|en ?_
  refine ch h rfl ?_ ?_ <;> intro h
  ·refine atr 3 [2] rfl ?_
   refine WL.frz (js:=[1]) (R:=[(b_9,.cells #[.string x11.1.Kind,v19] 47 (0,0)),(b_7,.cells #[u1,u2] 34 (0,0)),(b_6,.cells #[v4,v5] 30 (0,0)),(b_5,.cells #[.string x1.1.Name,v2] 26 (0,0)),(b_4,.cells #[.slice none 0 0,iV 0] 37 (0,0)),(b_3,.cells #[.slice none 0 0,.slice none 0 0] 34 (0,0)),(b_2,.cells #[.slice none 0 0,.slice none 0 0] 30 (0,0)),(b_1,.cells #[.string (⟨#[]⟩:ByteArray),.slice none 0 0] 26 (0,0))]) rfl (fun Φ_15 fr14 k8=>?_)
   replace h1:=h1.f0 fr14
   replace h16:=h16.f0 fr14
   replace h3:=h3.f0 fr14
   replace h4:=h4.f0 fr14
   replace k2:=k2.f0 fr14
   replace k3:=k3.f0 fr14
   replace k4:=k4.f0 fr14
   replace h17:=fr14 _ _ (by simp) h17
   refine kcb [0,2] h rfl rfl rfl rfl (fun b ap z q=>pO N b (⟨s3,s7⟩:ah) x11.1 k4 k8 (h16.rsl.x (Dj.app (ap.q 0 rfl) dN)) (Dj.sub (ap.q 2 rfl) i2) q) ?_
   rintro x13 h v20 Φ_16 F11 ⟨ap12,fr15,v21,D12,X3,rfl,rfl,h18,i4,h19⟩
   replace h1:=h1.fr fr15 (ap12.q 11 rfl) (ap12.q 12 rfl)
   replace h3:=h3.fr fr15 (ap12.q 7 rfl) (Dj.sub (ap12.q 10 rfl) i1)
   replace h4:=h4.fr fr15 (ap12.q 8 rfl) (ap12.q 9 rfl)
   replace k2:=k2.fr fr15 (ap12.q 3 rfl) (ap12.q 4 rfl)
   replace k3:=k3.fr fr15 (ap12.q 5 rfl) (ap12.q 6 rfl)
   replace h17:=fr15 _ _ ((ap12.q 1 rfl) _ (by simp)) h17
   refine arr 5 [98,66] rfl<|lgx 0 2 (bP h19) rfl<|la rfl ?_
   refine WL.frz (js:=[1]) (R:=[(b_9,.cells #[.string x11.1.Kind,v19] 47 (0,0)),(b_6,.cells #[v4,v5] 30 (0,0)),(b_5,.cells #[.string x1.1.Name,v2] 26 (0,0)),(b_4,.cells #[.slice none 0 0,iV 0] 37 (0,0)),(b_3,.cells #[.slice none 0 0,.slice none 0 0] 34 (0,0)),(b_2,.cells #[.slice none 0 0,.slice none 0 0] 30 (0,0)),(b_1,.cells #[.string (⟨#[]⟩:ByteArray),.slice none 0 0] 26 (0,0))]) rfl (fun Φ_17 fr16 k9=>?_)
   replace h1:=h1.f0 fr16
   replace h18:=h18.f0 fr16
   replace h3:=h3.f0 fr16
   replace h4:=h4.f0 fr16
   replace k2:=k2.f0 fr16
   replace k3:=k3.f0 fr16
   replace h19:=fr16 _ _ (by simp) h19
   replace h17:=fr16 _ _ (by simp) h17
   refine kcb [0,6,6,6,6] h rfl rfl rfl rfl (fun b ap z q=>qR N b x1.1 x2 (⟨s1,s2⟩:ax) x13.2 x13.1 ((h1.rslG cG.gives).x (Dj.app (ap.q 10 rfl) (ap.q 11 rfl))) (h3.rsl.x (Dj.app (ap.q 6 rfl) (Dj.sub (ap.q 9 rfl) i1))) ((h4.rslG ay.gives).x (Dj.app (ap.q 7 rfl) (ap.q 8 rfl))) k2 k3 k9 (h18.rsl.x (Dj.app (ap.q 1 rfl) (Dj.sub (Dj.app (ap.q 2 rfl) (Dj.sub (ap.q 5 rfl) i2)) i4))) q) ?_
   rintro x15 h v22 Φ_18 F12 ⟨ap13,fr17,v23,D13,v24,D14,rfl,rfl,h20,h21,h22⟩
   replace h1:=h1.fr fr17 (ap13.q 10 rfl) (ap13.q 11 rfl)
   replace h18:=h18.fr fr17 (ap13.q 1 rfl) (Dj.sub (Dj.app (ap13.q 2 rfl) (Dj.sub (ap13.q 5 rfl) i2)) i4)
   replace h3:=h3.fr fr17 (ap13.q 6 rfl) (Dj.sub (ap13.q 9 rfl) i1)
   replace h4:=h4.fr fr17 (ap13.q 7 rfl) (ap13.q 8 rfl)
   replace h19:=fr17 _ _ ((ap13.q 0 rfl) _ (by simp)) h19
   replace h17:=fr17 _ _ ((ap13.q 4 rfl) _ (by simp)) h17
   refine art 7 [] rfl ?_
   refine WT.thw (js:=[0]) (R:=[ob v23,D13,ob v24,D14,[b_8],ob v21,X3,ob v19,[pb0],X2,ob v4,ob v5,D3,X1,ob v2,D1]) rfl h22 (fun Φ_19 ap14 fr18=>?_)
   replace h1:=h1.fr fr18 (ap14.q 14 rfl) (ap14.q 15 rfl)
   replace h18:=h18.fr fr18 (ap14.q 5 rfl) (Dj.sub (Dj.app (ap14.q 6 rfl) (Dj.sub (ap14.q 9 rfl) i2)) i4)
   replace h20:=h20.fr fr18 (ap14.q 0 rfl) (ap14.q 1 rfl)
   replace h21:=h21.fr fr18 (ap14.q 2 rfl) (ap14.q 3 rfl)
   replace h3:=h3.fr fr18 (ap14.q 10 rfl) (Dj.sub (ap14.q 13 rfl) i1)
   replace h4:=h4.fr fr18 (ap14.q 11 rfl) (ap14.q 12 rfl)
   replace h19:=fr18 _ _ ((ap14.q 4 rfl) _ (by simp)) h19
   replace h17:=fr18 _ _ ((ap14.q 8 rfl) _ (by simp)) h17
   refine WT.thw (js:=[4]) (R:=[ob v23,D13,ob v24,D14,ob v21,X3,ob v19,[pb0],X2,ob v4,ob v5,D3,X1,ob v2,D1]) rfl h19 (fun Φ_20 ap15 fr19=>?_)
   replace h1:=h1.fr fr19 (ap15.q 13 rfl) (ap15.q 14 rfl)
   replace h18:=h18.fr fr19 (ap15.q 4 rfl) (Dj.sub (Dj.app (ap15.q 5 rfl) (Dj.sub (ap15.q 8 rfl) i2)) i4)
   replace h20:=h20.fr fr19 (ap15.q 0 rfl) (ap15.q 1 rfl)
   replace h21:=h21.fr fr19 (ap15.q 2 rfl) (ap15.q 3 rfl)
   replace h3:=h3.fr fr19 (ap15.q 9 rfl) (Dj.sub (ap15.q 12 rfl) i1)
   replace h4:=h4.fr fr19 (ap15.q 10 rfl) (ap15.q 11 rfl)
   replace h17:=fr19 _ _ ((ap15.q 7 rfl) _ (by simp)) h17
   refine wtL [(X2++(X3)),ob v23,D13,ob v24,D14,ob v21,ob v19,[pb0],ob v4,ob v5,D3,X1,ob v2,D1] (smg [8,5] rfl (SP.eq (by simp [List.append_assoc]))) ?_
   exact lb [5,0,5,0,0,0,0,1,1,1,1,1,1] [0,0,1,1,1,1,1,1] (ih1 (_,_,_,_,_,_,_,_,_,_,_,_,_,_,_) ⟨h,h1,h3,h4,h20,h21,h18,(fun k hk=>((List.mem_append.1 (i4 k hk)).elim (fun h=>((fun k hk=>(List.mem_append.2 (.inr hk))) k h)) (fun h=>((fun k hk=>(List.mem_append.2 (.inl hk))) k (i2 k h))))),h17⟩)
  refine att 7 [] rfl ?_
  exact lb [2,2,1,1,1,1,1,1,1,1,1,1,1] [1,1,1,1,1,1,1,1] (ih1 (_,_,_,_,_,_,_,_,_,_,_,_,_,_,_) ⟨h,h1,h3,h4,k2,k3,k4,(fun k hk=>(i2 k hk)),h17⟩)
 refine xt rfl<|sq<|wm [0,1,2,3,4] [7] rfl<|amm 4 [0,98,1,66,2,34,3,2] [0,1,2,3,4] rfl rfl ?_
 refine on1 4 (msK 7 [0,1,2,3,4] rfl u6 rfl ⟨rfl,h1.one,trivial⟩ rfl rfl ?_)
 refine on1 5 (msK 6 [0,1,2,3,4] rfl o0 rfl ⟨h3.one,h4.one,trivial⟩ rfl rfl ?_)
 refine on1 6 (msK 5 [0,1,2,3,4] rfl kj rfl ⟨k2.one,k3.one,trivial⟩ rfl rfl ?_)
 refine on1 7 (msN 4 rfl nk xV rfl ⟨k4.one,rfl,trivial⟩ rfl rfl ?_)
 refine WM.nil (by kernel_rfl) ?_
 refine WT.ret hF (az.four (aX zh rfl (fun w1 hw=>hw.rgO (i:=7) rfl 0 2 [.string x1.1.Name,v2] rfl) rfl) (aX uU rfl (fun w1 hw=>hw.rgO (i:=6) rfl 0 2 [v4,v5] rfl) rfl) (aX tc rfl (fun w1 hw=>hw.rgO (i:=5) rfl 0 2 [u1,u2] rfl) rfl) (aX pV rfl (fun w1 hw=>hw.rgO (i:=4) rfl 0 2 [u3,iV s7] rfl) rfl)) (fun w1 hw=>?_)
 cases h
 replace hw:=hw.merge (js:=[10,1]) (F:=[X1,X2].flatten) rfl (SP.eq (by simp))
 refine bc (js:=[10,10,7,7,7,3,3,3,3,1,1,0]) hw rfl ⟨v2,D1,v4,D2,v5,D3,u1,D6,u2,D7,u3,D8,[X1,X2].flatten,rfl,rfl,h1,h3,(fun k hk=>(List.mem_flatten.2 ⟨X1,by simp,(i1 k hk)⟩)),h4,k2,k3,k4,(fun k hk=>(List.mem_flatten.2 ⟨X2,by simp,(i2 k hk)⟩)),rfl,k5⟩
theorem xI (w0:aw Ψ Φ [[pb0]].flatten) (p0:a8) (p1:ah) (ph0_0:RSl (RI .u8) 1 Ψ pG0_0 pv0_0 p0.b) (pp0:Φ pb0=some (.cells #[pv0_0,iV p0.i,iV p0.h] 82 (0,0))) (ph1_0:RSl bh 3 Ψ pG1_0 pv1_0 p1.Items) {r:Int × a8} (h:qm N p0 p1=some r) :
  Calls prog 14 [pQ pb0,.agg [pv1_0,iV p1.Next].toArray].toArray w0.w (bg Φ w0.w [[pb0]].flatten (fun Φ' Fs v=>v=iV r.1∧Fs=[[pb0]]∧r.2.b=p0.b∧Φ' pb0=some (.cells #[pv0_0,iV r.2.i,iV r.2.h] 82 (0,0)))):=by
 refine eL func14 rfl ntmps14 rfl (L:=[[pb0]]) w0 (fun hF=>?_)
 unfold qm at h
 refine sr<|lbx rfl fun b_1=>arr 7 [0,0] rfl<|lnr ph1_0 rfl<|arr 2 [] rfl ?_
 refine WL.cutS 4 (σ:=Hp × Bool × Int × Int) (fun s=>[(0,pQ pb0),(3,pQ b_1),(13,.bool s.2.1)]) (fun s=>St w0 s.1 [(b_1,.cells #[pv1_0,iV p1.Next] 37 (0,0))] [[pb0]]) (fun s=>iU N p0 p1 s.2.1 s.2.2.1 s.2.2.2=some r∧(s.1 pb0=some (.cells #[pv0_0,iV s.2.2.1,iV s.2.2.2] 82 (0,0)))) (fun s hm=>?_) (fun K=>?_)
 ·clear h
  obtain ⟨Φ_1,s1,s2,s3⟩:=s
  obtain ⟨h,k1⟩:=hm
  replace h:iU N p0 p1 s1 s2 s3=some r:=h
  replace k1:Φ_1 pb0=some (.cells #[pv0_0,iV s2,iV s3] 82 (0,0)):=k1
  show WL _ _ _ _ [(0,pQ pb0),(3,pQ b_1),(13,.bool s1)] (St w0 Φ_1 [(b_1,.cells #[pv1_0,iV p1.Next] 37 (0,0))] [[pb0]])
  unfold iU at h
  refine en ?_
  refine ch h rfl ?_ ?_ <;> intro h
  ·refine sq<|wm [0] [] rfl<|amm 5 [0,0,1,0,2,3,0,4,0] [0] rfl rfl<|mq 5 rfl (by kernel_rfl) (kN [0]) (o5 nX rfl rfl ph1_0) rfl ?_
   obtain ⟨x1,hx1,h⟩:=bs h
   refine WM.one 6 (by kernel_rfl) (mc rfl (fun _ v Φx D w1 hq hw=>Kn.of Kf.nil (am [0] rfl) hw) (bZ (js:=[0]) (R:=[]) sN rfl rfl (fun w1 hw ap hl=>aL N (bx hw ap hl) (⟨p0.b,s2,s3⟩:a8) (p1.Items.length:Int) (ph0_0.y (hw.uo ap)) k1  hx1)) rfl ?_)
   rintro v1 Φ_2 F1 ⟨ap1,fr1,rfl,rfl,e1,h1⟩
   obtain ⟨x2,hx2,h⟩:=bs h
   obtain ⟨cs1,F2,-,g1,hb1,hs1,r1⟩:=ph1_0.el (a9 hx2).2.2
   obtain ⟨v2,G1,rfl,hq1,h2⟩:=r1
   obtain rfl:=hq1.symm
   refine mq 7 rfl (by kernel_rfl) (kN [0]) (ac nX rfl rfl ph1_0 hx2) rfl<|amm 1 [8,0] [0] rfl rfl<|mq 9 rfl (by kernel_rfl) (kN [0]) (au pt rfl (fun w1 hw=>(g1.of_eq 0 1 rfl rfl:rg _ _ _ [iV x2.Id]).rangeAt hw.1)) rfl<|amm 1 [10] [0] rfl rfl<|WM.nil (by kernel_rfl) ?_
   exact rtg [0] hF (az.one rfl) rfl (by cases h; exact fun w1 hw=>⟨rfl,rfl,rfl,h1⟩)
  refine atr 4 [] rfl<|kcb [0] h rfl rfl rfl rfl (fun b ap z q=>aL N b (⟨p0.b,s2,s3⟩:a8) 9 (ph0_0.y z) k1 q) ?_
  rintro x3 h v3 Φ_3 F3 ⟨ap2,fr2,rfl,rfl,e2,h3⟩
  refine la rfl<|en ?_
  exact rtg [0] hF (az.one rfl) rfl (by cases h; exact fun w1 hw=>⟨rfl,rfl,rfl,h3⟩)
 refine sp 9 h rfl (fun h=>?_) fun h=>?_
 ·refine ly rfl rfl<|la rfl<|ly rfl rfl<|kcb [0] h rfl rfl rfl rfl (fun b ap z q=>em N b p0 4 (ph0_0.y z) pp0 q) ?_
  rintro x4 h v4 Φ_4 F4 ⟨ap3,fr3,rfl,rfl,e3,h4⟩
  refine arr 2 [] rfl<|WL.mono (l':=[(0,pQ pb0),(3,pQ b_1),(13,.bool (!x4.1))]) (S':=St w0 Φ_4 [(b_1,.cells #[pv1_0,iV p1.Next] 37 (0,0))] [[pb0]]) (by exact ⟨rfl,rfl,rfl,trivial⟩) (sx [0] [0]) ?_
  exact K (Φ_4,!x4.1,x4.2.i,x4.2.h) ⟨h,h4⟩
 refine arr 4 [] rfl<|WL.mono (l':=[(0,pQ pb0),(3,pQ b_1),(13,.bool false)]) (S':=St w0 Φ [(b_1,.cells #[pv1_0,iV p1.Next] 37 (0,0))] [[pb0]]) (by exact ⟨rfl,rfl,rfl,trivial⟩) (sx [0] [0]) ?_
 exact K (Φ,false,p0.i,p0.h) ⟨h,pp0⟩
theorem tU (w0:aw Ψ Φ []) (p0:aO) (ph0_0:RSl bl 4 Ψ pG0_0 pv0_0 p0.Alphas) (ph0_1:RSl bV 2 Ψ pG0_1 pv0_1 p0.Chains) {r:aO} (h:lI N p0=some r) :
  Calls prog 44 [.agg [pv0_0,pv0_1].toArray].toArray w0.w (bg Φ w0.w [] (fun Φ' Fs v=>∃ (sr_0_0:Value) (Dr_0_0:List Nat) (sr_0_1:Value) (Dr_0_1:List Nat),v = .agg [sr_0_0,sr_0_1].toArray∧Fs=[ob sr_0_0,Dr_0_0,ob sr_0_1,Dr_0_1]∧OSl bb 75 4 Φ' Dr_0_0 sr_0_0 r.Alphas∧OSl ay 79 2 Φ' Dr_0_1 sr_0_1 r.Chains)):=by
 refine eN func44 rfl ntmps44 rfl w0 fun hF=>?_
 unfold lI at h
 refine sr<|lbx rfl fun b_1=>lnz nj rfl fun b_2=>en<|sr<|lq (aQ (vs:=[]) (C:=#[.slice none 0 0,.slice none 0 0]) DL nj rfl (aa)) rfl<|lnz nj rfl fun b_3=>soN 0 o0 rfl ⟨rfl,rfl,trivial⟩ rfl ?_
 refine art 7 [] rfl<|wtS<|wt0 ?_
 have k1:=OSl.nil bb 75 4 Φ
 refine lin (σ:=Hp × (List ai) × Value × List Nat × Int) (fun s=>[(1,pQ b_1),(2,pQ b_2),(3,pQ b_3),(4,iV s.2.2.2.2)]) (fun s=>St w0 s.1 [(b_3,.cells #[s.2.2.1,.slice none 0 0] 30 (0,0)),(b_2,.cells #[.slice none 0 0,.slice none 0 0] 30 (0,0)),(b_1,.cells #[pv0_0,pv0_1] 30 (0,0))] [s.2.2.2.1,ob s.2.2.1]) (fun m s=>fC N p0 m s.2.1 s.2.2.2.2=some r∧(OSl bb 75 4 s.1 s.2.2.2.1 s.2.2.1 s.2.1)) (Φ,([]:List ai),(.slice none 0 0),[],0) N ⟨h,k1⟩ (sx [0,0] [0,0,0]) (fun n1 ih1 s hm=>?_)
 obtain ⟨Φ_1,s1,u1,D1,s2⟩:=s
 obtain ⟨h,k2⟩:=hm
 dsimp only at h k2 ⊢
 unfold fC at h
 refine atr 6 [0,64] rfl<|lnr ph0_0 rfl<|la rfl<|en ?_
 refine ch h rfl ?_ ?_ <;> intro h
 ·refine atr 8 [0,64] rfl ?_
  obtain ⟨x1,hx1,h⟩:=bs h
  obtain ⟨cs1,F1,-,g1,hb1,hs1,r1⟩:=ph0_0.el (a9 hx1).2.2
  obtain ⟨v1,G1,v2,G2,rfl,rfl,h1,h2⟩:=r1
  refine lia ph0_0 hx1 rfl<|lhx 0 4 g1 rfl<|lnz lQ rfl fun b_4=>soN 0 qP rfl ⟨rfl,rfl,h1.one,h2.one,trivial⟩ rfl ?_
  refine en<|sr<|le' (dI aH.lasts fT jk rfl rfl) rfl ?_
  rintro v3 Φ_2 D2 ⟨fr1,h3⟩
  replace k2:=k2.f0 fr1
  refine arr 2 [2,0] rfl<|lu0 h1 fun h4=>?_
  obtain ⟨x2,hx2,h⟩:=bs h
  refine le' (bB aH.lasts aH.one aH.flat fT vY rfl rfl rfl rfl rfl (js:=[0]) (Rr:=[D1,ob u1]) rfl h3 h4 hx2) rfl ?_
  rintro v4 Φ_3 D3 ⟨⟨ap1,fr2⟩,h5⟩
  replace k2:=k2.fr fr2 (ap1.q 1 rfl) (ap1.q 0 rfl)
  refine lf xS rfl rfl rfl<|so1 0 yb rfl h5.one ?_
  refine en<|sr<|le' (dI (R:=RI .i64) RI.lasts aW gB rfl rfl) rfl ?_
  rintro v5 Φ_4 D4 ⟨fr3,h6⟩
  replace k2:=k2.f0 fr3
  replace h5:=h5.f0 fr3
  refine arr 2 [3,0] rfl<|lu0 h2 fun h7=>?_
  obtain ⟨x3,hx3,h⟩:=bs h
  refine le' (bB RI.lasts RI.one RI.flat aW jw rfl rfl rfl rfl rfl (js:=[0]) (Rr:=[ob v4,D1,ob u1]) rfl h6 h7 hx3) rfl ?_
  rintro v6 Φ_5 D5 ⟨⟨ap2,fr4⟩,h8⟩
  replace k2:=k2.fr fr4 (ap2.q 2 rfl) (ap2.q 1 rfl)
  replace h5:=h5.fr fr4 (ap2.q 0 rfl) dN
  refine lf uI rfl rfl rfl<|so1 0 nU rfl h8.one ?_
  refine arr 5 [0,32,4] rfl ?_
  have rc3:RC bb 4 Φ_5 ([(ob v4++[])++((ob v6++[]))]:List (List Nat)) [.string x1.Kind,iV x1.N,v4,v6] ([(⟨x1.Kind,x1.N,x2,x3⟩:ai)]:List ai):=RC.cons (c:=[.string x1.Kind,iV x1.N,v4,v6]) (cells:=[]) ⟨v4,v6,rfl,rfl,h5,h8⟩ rfl (RC.nil _ _ _)
  refine le' (aY (vs:=[(0,.agg [.string x1.Kind,iV x1.N,v4,v6].toArray)]) (C:=#[.string x1.Kind,iV x1.N,v4,v6]) bb.lasts oG lQ rfl rfl rfl rfl (ag tH (a7 (C':=[.string x1.Kind,iV x1.N,v4,v6]) rfl rfl rfl rfl rfl (aa))) rfl rc3 rfl (RC.kn bb.knows rc3)) rfl ?_
  rintro v7 Φ_6 D6 ⟨fr5,h9⟩
  replace h9:OSl bb 75 4 Φ_6 ((ob v4++[])++((ob v6++[]))) v7 ([(⟨x1.Kind,x1.N,x2,x3⟩:ai)]:List ai):=by simpa [List.append_assoc] using h9
  replace k2:=k2.f0 fr5
  refine wlL [((ob v4++[])++((ob v6++[]))),ob v7,D1,ob u1] (smg [2,1] rfl (SP.eq (by simp [List.append_assoc,bv]))) ?_
  obtain ⟨x4,hx4,h⟩:=bs h
  refine le' (bU bb.lasts bb.one oG zD rfl rfl rfl rfl rfl (js:=[3]) (Rr:=[((ob v4++[])++((ob v6++[]))),ob v7,D1]) rfl k2 h9 (fun ap=>ap.q 2 rfl) (fun ap=>ap.q 0 rfl) hx4) rfl ?_
  rintro v8 Φ_7 D7 ⟨⟨ap3,fr6⟩,h10⟩
  refine wlL [(D1++((ob v4++[])++((ob v6++[])))),ob v8,ob v7] (smg [3,1] rfl (SP.eq (by simp)))<|lf kg rfl rfl rfl<|so1 1 zc rfl h10.one ?_
  refine art 7 [] rfl ?_
  exact lb [0,0] [1,1,1] (ih1 (_,_,_,_,_) ⟨h,h10⟩)
 refine att 7 [] rfl<|wtS<|wt0 ?_
 have k3:=OSl.nil ay 79 2 Φ_1
 refine lin (σ:=Hp × (List ao) × Value × List Nat × Int) (fun s=>[(1,pQ b_1),(2,pQ b_2),(3,pQ b_3),(6,iV s.2.2.2.2)]) (fun s=>St w0 s.1 [(b_3,.cells #[u1,s.2.2.1] 30 (0,0)),(b_2,.cells #[.slice none 0 0,.slice none 0 0] 30 (0,0)),(b_1,.cells #[pv0_0,pv0_1] 30 (0,0))] [s.2.2.2.1,ob s.2.2.1,D1,ob u1]) (fun m s=>d8 N p0 s1 m s.2.1 s.2.2.2.2=some r∧(OSl bb 75 4 s.1 D1 u1 s1)∧(OSl ay 79 2 s.1 s.2.2.2.1 s.2.2.1 s.2.1)) (Φ_1,([]:List ao),(.slice none 0 0),[],0) N ⟨h,k2,k3⟩ (sx [0,0,0,0] [0,0,0]) (fun n2 ih2 s hm=>?_)
 obtain ⟨Φ_8,s3,u2,D8,s4⟩:=s
 obtain ⟨h,k2,k4⟩:=hm
 dsimp only at h k2 k4 ⊢
 unfold d8 at h
 refine atr 6 [1,64] rfl<|lnr ph0_1 rfl<|la rfl<|en ?_
 refine ch h rfl ?_ ?_ <;> intro h
 ·refine atr 8 [1,64] rfl ?_
  obtain ⟨x5,hx5,h⟩:=bs h
  obtain ⟨cs2,F2,-,g2,hb2,hs2,r2⟩:=ph0_1.el (a9 hx5).2.2
  obtain ⟨v9,G3,v10,G4,rfl,rfl,h11,h12⟩:=r2
  refine lia ph0_1 hx5 rfl<|lhx 0 2 g2 rfl<|lnz nG rfl fun b_5=>soN 0 yd rfl ⟨h11.one,h12.one,trivial⟩ rfl ?_
  refine en ?_
  refine cut (σ:=Hp × (List ao) × Value × List Nat) (fun s=>[(1,pQ b_1),(2,pQ b_2),(3,pQ b_3),(6,iV s4)]) (fun s=>St w0 s.1 [(b_3,.cells #[u1,s.2.2.1] 30 (0,0)),(b_2,.cells #[.slice none 0 0,.slice none 0 0] 30 (0,0)),(b_1,.cells #[pv0_0,pv0_1] 30 (0,0))] [s.2.2.2,ob s.2.2.1,D1,ob u1]) (fun s=>ko N s4 (d8 N p0 s1 n2) s.2.1=some r∧(OSl bb 75 4 s.1 D1 u1 s1)∧(OSl ay 79 2 s.1 s.2.2.2 s.2.2.1 s.2.1)) (fun s hm=>?_) (fun K=>?_)
  ·clear h
   obtain ⟨Φ_15,s5,u3,D15⟩:=s
   obtain ⟨h,k2,k5⟩:=hm
   dsimp only at h k2 k5 ⊢
   unfold ko at h
   refine att 6 [] rfl ?_
   exact lb [0,0,0,0] [0,0,0] (ih2 (_,_,_,_,_) ⟨h,k2,k5⟩)
  refine wm [0,1,2,3] [14] rfl<|amm 6 [0,1,1,32,3,0,4,0,7,1,8,0] [0,1,2,3] rfl rfl ?_
  refine WM.two 2 6 (by kernel_rfl) ?_ ?_
  ·refine me rfl (fun _ v Φx D w1 hq hw=>Kn.of Kf.nil (am [0,1,2,3] rfl) hw) (dI (R:=RI .i64) RI.lasts aW gB rfl rfl) rfl ?_
   rintro v17 Φ_16 D16 ⟨fr13,h21⟩
   replace k2:=k2.f0 fr13
   replace k4:=k4.f0 fr13
   refine WM.two 5 6 (by kernel_rfl) ?_ ?_
   ·first | refine mu0 h11 fun h22=>?_ | refine iu0 h11 fun h22=>?_
    obtain ⟨x9,hx9,h⟩:=bs h
    refine me rfl (fun _ v Φx D w1 hq hw=>Kn.of Kf.nil (am [0,1,2,3] rfl) hw) (bB RI.lasts RI.one RI.flat aW jw rfl rfl rfl rfl rfl (js:=[0]) (Rr:=[D8,ob u2,D1,ob u1]) rfl h21 h22 hx9) rfl ?_
    rintro v18 Φ_17 D17 ⟨⟨ap7,fr14⟩,h23⟩
    replace k2:=k2.fr fr14 (ap7.q 3 rfl) (ap7.q 2 rfl)
    replace k4:=k4.fr fr14 (ap7.q 1 rfl) (ap7.q 0 rfl)
    refine WM.one 6 (by kernel_rfl) (me rfl (fun _ v Φx D w1 hq hw=>Kn.of Kf.nil (am [0,1,2,3] rfl) hw) (dI (R:=RI .i64) RI.lasts aW gB rfl rfl) rfl ?_)
    rintro v19 Φ_18 D18 ⟨fr15,h24⟩
    replace k2:=k2.f0 fr15
    replace k4:=k4.f0 fr15
    replace h23:=h23.f0 fr15
    first | refine mu0 h12 fun h25=>?_ | refine iu0 h12 fun h25=>?_
    obtain ⟨x10,hx10,h⟩:=bs h
    refine WM.one 9 (by kernel_rfl) (me rfl (fun _ v Φx D w1 hq hw=>Kn.of Kf.nil (am [0,1,2,3] rfl) hw) (bB RI.lasts RI.one RI.flat aW jw rfl rfl rfl rfl rfl (js:=[0]) (Rr:=[ob v18,D8,ob u2,D1,ob u1]) rfl h24 h25 hx10) rfl ?_)
    rintro v20 Φ_19 D19 ⟨⟨ap8,fr16⟩,h26⟩
    replace k2:=k2.fr fr16 (ap8.q 4 rfl) (ap8.q 3 rfl)
    replace k4:=k4.fr fr16 (ap8.q 2 rfl) (ap8.q 1 rfl)
    replace h23:=h23.fr fr16 (ap8.q 0 rfl) dN
    refine mq 10 rfl (by kernel_rfl) (kN [0,1,2,3]) (aQ (vs:=[(0,v18),(1,v20)]) (C:=#[v18,v20]) zq nG rfl (a7 (C':=[v18,.slice none 0 0]) rfl (bt h23.one) rfl rfl rfl (a7 (C':=[v18,v20]) rfl (bt h26.one) rfl rfl rfl (aa)))) rfl ?_
    have rc9:RC ay 2 Φ_19 ([(ob v18++[])++((ob v20++[]))]:List (List Nat)) [v18,v20] ([(⟨x9,x10⟩:ao)]:List ao):=RC.cons (c:=[v18,v20]) (cells:=[]) ⟨v18,v20,rfl,rfl,h23,h26⟩ rfl (RC.nil _ _ _)
    refine WM.one 11 (by kernel_rfl) (me rfl (fun _ v Φx D w1 hq hw=>Kn.of Kf.nil (am [0,1,2,3] rfl) hw) (aY (vs:=[(0,.agg [v18,v20].toArray)]) (C:=#[v18,v20]) ay.lasts ky nG rfl rfl rfl rfl (ag rS (a7 (C':=[v18,v20]) rfl rfl rfl rfl rfl (aa))) rfl rc9 rfl (RC.kn ay.knows rc9)) rfl ?_)
    rintro v21 Φ_20 D20 ⟨fr17,h27⟩
    replace h27:OSl ay 79 2 Φ_20 ((ob v18++[])++((ob v20++[]))) v21 ([(⟨x9,x10⟩:ao)]:List ao):=by simpa [List.append_assoc] using h27
    replace k2:=k2.f0 fr17
    replace k4:=k4.f0 fr17
    refine WM.conv (S':=St w0 Φ_20 [(b_5,.cells #[v9,v10] 79 (0,0)),(b_3,.cells #[u1,u2] 30 (0,0)),(b_2,.cells #[.slice none 0 0,.slice none 0 0] 30 (0,0)),(b_1,.cells #[pv0_0,pv0_1] 30 (0,0))] [((ob v18++[])++((ob v20++[]))),ob v21,D8,ob u2,D1,ob u1]) (fun w1 hw=>hw.merge (js:=[2,1]) rfl (SP.eq (by simp [List.append_assoc,bv]))) ?_
    obtain ⟨x11,hx11,h⟩:=bs h
    refine WM.one 12 (by kernel_rfl) (me rfl (fun _ v Φx D w1 hq hw=>Kn.of Kf.nil (am [0,1,2,3] rfl) hw) (bU ay.lasts ay.one ky xX rfl rfl rfl rfl rfl (js:=[3]) (Rr:=[((ob v18++[])++((ob v20++[]))),ob v21,D8,D1,ob u1]) rfl k4 h27 (fun ap=>ap.q 2 rfl) (fun ap=>ap.q 0 rfl) hx11) rfl ?_)
    rintro v22 Φ_21 D21 ⟨⟨ap9,fr18⟩,h28⟩
    replace k2:=k2.fr fr18 (ap9.q 4 rfl) (ap9.q 3 rfl)
    refine WM.conv (S':=St w0 Φ_21 [(b_5,.cells #[v9,v10] 79 (0,0)),(b_3,.cells #[u1,u2] 30 (0,0)),(b_2,.cells #[.slice none 0 0,.slice none 0 0] 30 (0,0)),(b_1,.cells #[pv0_0,pv0_1] 30 (0,0))] [(D8++((ob v18++[])++((ob v20++[])))),ob v22,ob v21,D1,ob u1]) (fun w1 hw=>hw.merge (js:=[3,1]) rfl (SP.eq (by simp)))<|amm 1 [13,1] [0,1,2,3] rfl rfl ?_
    refine on1 14 (ms1 1 rfl nk yj rfl h28.one ?_)
    refine WM.nil (by kernel_rfl) ?_
    exact wo [0,0,1,1] [1,1,1] (K (_,_,_,_) ⟨h,k2,h28⟩)
   refine me rfl (fun _ v Φx D w1 hq hw=>Kn.of Kf.nil (am [0,1,2,3] rfl) hw) (dI (R:=RI .i64) RI.lasts aW gB rfl rfl) rfl ?_
   rintro v23 Φ_22 D22 ⟨fr19,h29⟩
   replace k2:=k2.f0 fr19
   replace k4:=k4.f0 fr19
   replace h21:=h21.f0 fr19
   first | refine mu0 h11 fun h30=>?_ | refine iu0 h11 fun h30=>?_
   obtain ⟨x12,hx12,h⟩:=bs h
   refine WM.one 5 (by kernel_rfl) (me rfl (fun _ v Φx D w1 hq hw=>Kn.of Kf.nil (am [0,1,2,3] rfl) hw) (bB RI.lasts RI.one RI.flat aW jw rfl rfl rfl rfl rfl (js:=[1]) (Rr:=[ob v23,D8,ob u2,D1,ob u1]) rfl h21 h30 hx12) rfl ?_)
   rintro v24 Φ_23 D23 ⟨⟨ap10,fr20⟩,h31⟩
   replace k2:=k2.fr fr20 (ap10.q 4 rfl) (ap10.q 3 rfl)
   replace h29:=h29.fr fr20 (ap10.q 0 rfl) dN
   replace k4:=k4.fr fr20 (ap10.q 2 rfl) (ap10.q 1 rfl)
   first | refine mu0 h12 fun h32=>?_ | refine iu0 h12 fun h32=>?_
   obtain ⟨x13,hx13,h⟩:=bs h
   refine WM.one 9 (by kernel_rfl) (me rfl (fun _ v Φx D w1 hq hw=>Kn.of Kf.nil (am [0,1,2,3] rfl) hw) (bB RI.lasts RI.one RI.flat aW jw rfl rfl rfl rfl rfl (js:=[1]) (Rr:=[ob v24,D8,ob u2,D1,ob u1]) rfl h29 h32 hx13) rfl ?_)
   rintro v25 Φ_24 D24 ⟨⟨ap11,fr21⟩,h33⟩
   replace k2:=k2.fr fr21 (ap11.q 4 rfl) (ap11.q 3 rfl)
   replace k4:=k4.fr fr21 (ap11.q 2 rfl) (ap11.q 1 rfl)
   replace h31:=h31.fr fr21 (ap11.q 0 rfl) dN
   refine mq 10 rfl (by kernel_rfl) (kN [0,1,2,3]) (aQ (vs:=[(0,v24),(1,v25)]) (C:=#[v24,v25]) zq nG rfl (a7 (C':=[v24,.slice none 0 0]) rfl (bt h31.one) rfl rfl rfl (a7 (C':=[v24,v25]) rfl (bt h33.one) rfl rfl rfl (aa)))) rfl ?_
   have rc11:RC ay 2 Φ_24 ([(ob v24++[])++((ob v25++[]))]:List (List Nat)) [v24,v25] ([(⟨x12,x13⟩:ao)]:List ao):=RC.cons (c:=[v24,v25]) (cells:=[]) ⟨v24,v25,rfl,rfl,h31,h33⟩ rfl (RC.nil _ _ _)
   refine WM.one 11 (by kernel_rfl) (me rfl (fun _ v Φx D w1 hq hw=>Kn.of Kf.nil (am [0,1,2,3] rfl) hw) (aY (vs:=[(0,.agg [v24,v25].toArray)]) (C:=#[v24,v25]) ay.lasts ky nG rfl rfl rfl rfl (ag rS (a7 (C':=[v24,v25]) rfl rfl rfl rfl rfl (aa))) rfl rc11 rfl (RC.kn ay.knows rc11)) rfl ?_)
   rintro v26 Φ_25 D25 ⟨fr22,h34⟩
   replace h34:OSl ay 79 2 Φ_25 ((ob v24++[])++((ob v25++[]))) v26 ([(⟨x12,x13⟩:ao)]:List ao):=by simpa [List.append_assoc] using h34
   replace k2:=k2.f0 fr22
   replace k4:=k4.f0 fr22
   refine WM.conv (S':=St w0 Φ_25 [(b_5,.cells #[v9,v10] 79 (0,0)),(b_3,.cells #[u1,u2] 30 (0,0)),(b_2,.cells #[.slice none 0 0,.slice none 0 0] 30 (0,0)),(b_1,.cells #[pv0_0,pv0_1] 30 (0,0))] [((ob v24++[])++((ob v25++[]))),ob v26,D8,ob u2,D1,ob u1]) (fun w1 hw=>hw.merge (js:=[2,1]) rfl (SP.eq (by simp [List.append_assoc,bv]))) ?_
   obtain ⟨x14,hx14,h⟩:=bs h
   refine WM.one 12 (by kernel_rfl) (me rfl (fun _ v Φx D w1 hq hw=>Kn.of Kf.nil (am [0,1,2,3] rfl) hw) (bU ay.lasts ay.one ky xX rfl rfl rfl rfl rfl (js:=[3]) (Rr:=[((ob v24++[])++((ob v25++[]))),ob v26,D8,D1,ob u1]) rfl k4 h34 (fun ap=>ap.q 2 rfl) (fun ap=>ap.q 0 rfl) hx14) rfl ?_)
   rintro v27 Φ_26 D26 ⟨⟨ap12,fr23⟩,h35⟩
   replace k2:=k2.fr fr23 (ap12.q 4 rfl) (ap12.q 3 rfl)
   refine WM.conv (S':=St w0 Φ_26 [(b_5,.cells #[v9,v10] 79 (0,0)),(b_3,.cells #[u1,u2] 30 (0,0)),(b_2,.cells #[.slice none 0 0,.slice none 0 0] 30 (0,0)),(b_1,.cells #[pv0_0,pv0_1] 30 (0,0))] [(D8++((ob v24++[])++((ob v25++[])))),ob v27,ob v26,D1,ob u1]) (fun w1 hw=>hw.merge (js:=[3,1]) rfl (SP.eq (by simp)))<|amm 1 [13,1] [0,1,2,3] rfl rfl ?_
   refine on1 14 (ms1 1 rfl nk yj rfl h35.one ?_)
   refine WM.nil (by kernel_rfl) ?_
   exact wo [0,0,1,1] [1,1,1] (K (_,_,_,_) ⟨h,k2,h35⟩)
  refine me rfl (fun _ v Φx D w1 hq hw=>Kn.of Kf.nil (am [0,1,2,3] rfl) hw) (dI (R:=RI .i64) RI.lasts aW gB rfl rfl) rfl ?_
  rintro v28 Φ_27 D27 ⟨fr24,h36⟩
  replace k2:=k2.f0 fr24
  replace k4:=k4.f0 fr24
  refine WM.one 2 (by kernel_rfl) (me rfl (fun _ v Φx D w1 hq hw=>Kn.of Kf.nil (am [0,1,2,3] rfl) hw) (dI (R:=RI .i64) RI.lasts aW gB rfl rfl) rfl ?_)
  rintro v29 Φ_28 D28 ⟨fr25,h37⟩
  replace k2:=k2.f0 fr25
  replace h36:=h36.f0 fr25
  replace k4:=k4.f0 fr25
  first | refine mu0 h11 fun h38=>?_ | refine iu0 h11 fun h38=>?_
  obtain ⟨x15,hx15,h⟩:=bs h
  refine WM.one 5 (by kernel_rfl) (me rfl (fun _ v Φx D w1 hq hw=>Kn.of Kf.nil (am [0,1,2,3] rfl) hw) (bB RI.lasts RI.one RI.flat aW jw rfl rfl rfl rfl rfl (js:=[0]) (Rr:=[ob v28,D8,ob u2,D1,ob u1]) rfl h37 h38 hx15) rfl ?_)
  rintro v30 Φ_29 D29 ⟨⟨ap13,fr26⟩,h39⟩
  replace k2:=k2.fr fr26 (ap13.q 4 rfl) (ap13.q 3 rfl)
  replace h36:=h36.fr fr26 (ap13.q 0 rfl) dN
  replace k4:=k4.fr fr26 (ap13.q 2 rfl) (ap13.q 1 rfl)
  first | refine mu0 h12 fun h40=>?_ | refine iu0 h12 fun h40=>?_
  obtain ⟨x16,hx16,h⟩:=bs h
  refine WM.one 9 (by kernel_rfl) (me rfl (fun _ v Φx D w1 hq hw=>Kn.of Kf.nil (am [0,1,2,3] rfl) hw) (bB RI.lasts RI.one RI.flat aW jw rfl rfl rfl rfl rfl (js:=[1]) (Rr:=[ob v30,D8,ob u2,D1,ob u1]) rfl h36 h40 hx16) rfl ?_)
  rintro v31 Φ_30 D30 ⟨⟨ap14,fr27⟩,h41⟩
  replace k2:=k2.fr fr27 (ap14.q 4 rfl) (ap14.q 3 rfl)
  replace h39:=h39.fr fr27 (ap14.q 0 rfl) dN
  replace k4:=k4.fr fr27 (ap14.q 2 rfl) (ap14.q 1 rfl)
  refine mq 10 rfl (by kernel_rfl) (kN [0,1,2,3]) (aQ (vs:=[(0,v30),(1,v31)]) (C:=#[v30,v31]) zq nG rfl (a7 (C':=[v30,.slice none 0 0]) rfl (bt h39.one) rfl rfl rfl (a7 (C':=[v30,v31]) rfl (bt h41.one) rfl rfl rfl (aa)))) rfl ?_
  have rc14:RC ay 2 Φ_30 ([(ob v30++[])++((ob v31++[]))]:List (List Nat)) [v30,v31] ([(⟨x15,x16⟩:ao)]:List ao):=RC.cons (c:=[v30,v31]) (cells:=[]) ⟨v30,v31,rfl,rfl,h39,h41⟩ rfl (RC.nil _ _ _)
  refine WM.one 11 (by kernel_rfl) (me rfl (fun _ v Φx D w1 hq hw=>Kn.of Kf.nil (am [0,1,2,3] rfl) hw) (aY (vs:=[(0,.agg [v30,v31].toArray)]) (C:=#[v30,v31]) ay.lasts ky nG rfl rfl rfl rfl (ag rS (a7 (C':=[v30,v31]) rfl rfl rfl rfl rfl (aa))) rfl rc14 rfl (RC.kn ay.knows rc14)) rfl ?_)
  rintro v32 Φ_31 D31 ⟨fr28,h42⟩
  replace h42:OSl ay 79 2 Φ_31 ((ob v30++[])++((ob v31++[]))) v32 ([(⟨x15,x16⟩:ao)]:List ao):=by simpa [List.append_assoc] using h42
  replace k2:=k2.f0 fr28
  replace k4:=k4.f0 fr28
  refine WM.conv (S':=St w0 Φ_31 [(b_5,.cells #[v9,v10] 79 (0,0)),(b_3,.cells #[u1,u2] 30 (0,0)),(b_2,.cells #[.slice none 0 0,.slice none 0 0] 30 (0,0)),(b_1,.cells #[pv0_0,pv0_1] 30 (0,0))] [((ob v30++[])++((ob v31++[]))),ob v32,D8,ob u2,D1,ob u1]) (fun w1 hw=>hw.merge (js:=[2,1]) rfl (SP.eq (by simp [List.append_assoc,bv]))) ?_
  obtain ⟨x17,hx17,h⟩:=bs h
  refine WM.one 12 (by kernel_rfl) (me rfl (fun _ v Φx D w1 hq hw=>Kn.of Kf.nil (am [0,1,2,3] rfl) hw) (bU ay.lasts ay.one ky xX rfl rfl rfl rfl rfl (js:=[3]) (Rr:=[((ob v30++[])++((ob v31++[]))),ob v32,D8,D1,ob u1]) rfl k4 h42 (fun ap=>ap.q 2 rfl) (fun ap=>ap.q 0 rfl) hx17) rfl ?_)
  rintro v33 Φ_32 D32 ⟨⟨ap15,fr29⟩,h43⟩
  replace k2:=k2.fr fr29 (ap15.q 4 rfl) (ap15.q 3 rfl)
  refine WM.conv (S':=St w0 Φ_32 [(b_5,.cells #[v9,v10] 79 (0,0)),(b_3,.cells #[u1,u2] 30 (0,0)),(b_2,.cells #[.slice none 0 0,.slice none 0 0] 30 (0,0)),(b_1,.cells #[pv0_0,pv0_1] 30 (0,0))] [(D8++((ob v30++[])++((ob v31++[])))),ob v33,ob v32,D1,ob u1]) (fun w1 hw=>hw.merge (js:=[3,1]) rfl (SP.eq (by simp)))<|amm 1 [13,1] [0,1,2,3] rfl rfl ?_
  refine on1 14 (ms1 1 rfl nk yj rfl h43.one ?_)
  refine WM.nil (by kernel_rfl) ?_
  exact wo [0,0,1,1] [1,1,1] (K (_,_,_,_) ⟨h,k2,h43⟩)
 refine atr 4 [2] rfl<|soN 1 o0 rfl ⟨k2.one,k4.one,trivial⟩ rfl ?_
 refine en ?_
 exact rtg [3,2,1,0] hF (az.one (aX uU rfl (fun w1 hw=>hw.rgO (i:=1) rfl 0 2 [u1,u2] rfl) rfl)) rfl (by cases h; exact fun w1 hw=>⟨u1,D1,u2,D8,rfl,rfl,k2,k4⟩)
theorem uO (w0:aw Ψ Φ [[pb0]].flatten) (p0:a8) (p1:aO) (ph0_0:RSl (RI .u8) 1 Ψ pG0_0 pv0_0 p0.b) (pp0:Φ pb0=some (.cells #[pv0_0,iV p0.i,iV p0.h] 82 (0,0))) (ph1_0:RSl bl 4 Ψ pG1_0 pv1_0 p1.Alphas) (ph1_1:RSl bV 2 Ψ pG1_1 pv1_1 p1.Chains) {r:aO × a8} (h:lG N p0 p1=some r) :
  Calls prog 18 [pQ pb0,.agg [pv1_0,pv1_1].toArray].toArray w0.w (bg Φ w0.w [[pb0]].flatten (fun Φ' Fs v=>∃ (sr_0_0:Value) (Dr_0_0:List Nat) (sr_0_1:Value) (Dr_0_1:List Nat),v = .agg [sr_0_0,sr_0_1].toArray∧Fs=[ob sr_0_0,Dr_0_0,ob sr_0_1,Dr_0_1,[pb0]]∧OSl bb 75 4 Φ' Dr_0_0 sr_0_0 r.1.Alphas∧OSl ay 79 2 Φ' Dr_0_1 sr_0_1 r.1.Chains∧r.2.b=p0.b∧Φ' pb0=some (.cells #[pv0_0,iV r.2.i,iV r.2.h] 82 (0,0)))):=by
 refine eL func18 rfl ntmps18 rfl (L:=[[pb0]]) w0 (fun hF=>?_)
 unfold lG at h
 refine sr<|lbx rfl fun b_1=>lnz nj rfl fun b_2=>arr 4 [34] rfl<|kab h rfl rfl rfl (fun b z q=>tU N b p1 (ph1_0.y z) (ph1_1.y z) q) ?_
 rintro x1 h v1 Φ_1 F1 ⟨ap1,fr1,v2,D1,v3,D2,rfl,rfl,h1,h2⟩
 replace pp0:=fr1 _ _ ((ap1.q 0 rfl) _ (by simp)) pp0
 refine soN 1 o0 rfl ⟨h1.one,h2.one,trivial⟩ rfl ?_
 refine arr 5 [] rfl<|kcb [4] h rfl rfl rfl rfl (fun b ap z q=>aL N b p0 6 (ph0_0.y z) pp0 q) ?_
 rintro x2 h v4 Φ_2 F2 ⟨ap2,fr2,rfl,rfl,e1,h3⟩
 replace h1:=h1.fr fr2 (ap2.q 0 rfl) (ap2.q 1 rfl)
 replace h2:=h2.fr fr2 (ap2.q 2 rfl) (ap2.q 3 rfl)
 refine art 7 [] rfl ?_
 refine cut (σ:=Hp × (List ai) × Value × List Nat × (List ao) × List Nat × Int × Int) (fun s=>[(3,pQ b_1),(4,pQ b_2)]) (fun s=>St w0 s.1 [(b_2,.cells #[.slice none 0 0,.slice none 0 0] 30 (0,0)),(b_1,.cells #[s.2.2.1,v3] 30 (0,0))] [[pb0],ob s.2.2.1,s.2.2.2.1,ob v3,s.2.2.2.2.2.1]) (fun s=>ez N p0 s.2.1 s.2.2.2.2.1 s.2.2.2.2.2.2.1 s.2.2.2.2.2.2.2=some r∧(OSl bb 75 4 s.1 s.2.2.2.1 s.2.2.1 s.2.1)∧(OSl ay 79 2 s.1 s.2.2.2.2.2.1 v3 s.2.2.2.2.1)∧(s.1 pb0=some (.cells #[pv0_0,iV s.2.2.2.2.2.2.1,iV s.2.2.2.2.2.2.2] 82 (0,0)))) (fun s hm=>?_) (fun K=>?_)
 ·clear h
  obtain ⟨Φ_3,s1,u1,D3,s2,D4,s3,s4⟩:=s
  obtain ⟨h,k1,k2,k3⟩:=hm
  dsimp only at h k1 k2 k3 ⊢
  unfold ez at h
  refine atr 4 [34] rfl<|soN 0 o0 rfl ⟨k1.one,k2.one,trivial⟩ rfl ?_
  refine en ?_
  exact rtg [1,1,1,1,0] hF (az.one (aX uU rfl (fun w1 hw=>hw.rgO (i:=0) rfl 0 2 [u1,v3] rfl) rfl)) rfl (by cases h; exact fun w1 hw=>⟨u1,D3,v3,D4,rfl,rfl,k1,k2,rfl,k3⟩)
 refine ch h rfl ?_ ?_ <;> intro h
 ·refine atr 4 [0,32] rfl<|lno h1 rfl<|la rfl<|en ?_
  refine ch h rfl ?_ ?_ <;> intro h
  ·obtain ⟨x3,hx3,h⟩:=bs h
   obtain ⟨cs1,F3,D5,h4,r1,kf1,sp1⟩:=h1.focus hx3
   obtain ⟨v5,v6,rfl,rfl,h5,h6⟩:=r1
   refine wtL [ob v5,ob v6,D5,[pb0],ob v2,ob v3,D2] (sre [2] [ob v5,ob v6,D5] rfl (by simpa [List.append_assoc] using sp1))<|wm [0,1] [6] rfl<|amm 3 [0,0,1,32,2] [0,1] rfl rfl ?_
   obtain ⟨x4,hx4,h⟩:=bs h
   refine WM.one 3 (by kernel_rfl) (mc rfl (fun _ v Φx D w1 hq hw=>Kn.of Kf.nil (ai2 0 1 rfl rfl) hw) (bZ (js:=[3]) (R:=[ob v5,ob v6,D5,ob v2,ob v3,D2]) sN rfl rfl (fun w1 hw ap hl=>aL N (bx hw ap hl) (⟨p0.b,x2.2.i,x2.2.h⟩:a8) 6 (ph0_0.y (hw.uo ap)) h3  hx4)) rfl ?_)
   rintro v7 Φ_4 F4 ⟨ap3,fr3,rfl,rfl,e2,h7⟩
   replace h4:=h4.fr fr3 (ap3.q 3 rfl) (ap3.q 2 rfl)
   replace h2:=h2.fr fr3 (ap3.q 4 rfl) (ap3.q 5 rfl)
   replace h5:=h5.fr fr3 (ap3.q 0 rfl) dN
   replace h6:=h6.fr fr3 (ap3.q 1 rfl) dN
   refine mqT 4 [5,6] rfl (by kernel_rfl) (kN [0,1]) (aZ oG rfl rfl h4 hx3) rfl<|amm 1 [5,1] [0,1] rfl rfl ?_
   refine WM.one 6 (by kernel_rfl) (mu rfl (fun hc=>by cases hc) (us [4] [[pb0],ob v5,ob v6,D5,ob v3,D2] 1 bb.lasts wQ rfl rfl rfl rfl h4 rfl (fun ap=>ap.q 3 rfl)) rfl ?_)
   rintro Φ_5 D6 ⟨⟨ap4,fr4⟩,h8⟩
   replace h2:=h2.fr fr4 (ap4.q 4 rfl) (ap4.q 5 rfl)
   replace h5:=h5.fr fr4 (ap4.q 1 rfl) dN
   replace h6:=h6.fr fr4 (ap4.q 2 rfl) dN
   replace h7:=fr4 _ _ ((ap4.q 0 rfl) _ (by simp)) h7
   refine WM.nil (by kernel_rfl) ?_
   have r2:bb Φ_5 _ [.string x3.Kind,iV x4.1,v5,v6] (⟨x3.Kind,x4.1,x3.Consts,x3.At⟩:ai):=⟨v5,v6,rfl,rfl,h5,h6⟩
   obtain ⟨D7,h9,sp2⟩:=h8.unfocus r2 (bb.knows _ _ _ _ r2)
   refine wtL [D7,ob v2,[pb0],ob v3,D2] (smg [2,2,2] rfl (by simpa [List.append_assoc,bv] using sp2)) ?_
   exact wo [2,1,0,0,0] [0,0] (K (_,_,_,_,_,_,_,_) ⟨h,h9,h2,h7⟩)
  refine WT.skip ?_
  exact wo [0,0,0,0,0] [0,0] (K (_,_,_,_,_,_,_,_) ⟨h,h1,h2,h3⟩)
 refine att 5 [] rfl ?_
 refine ch h rfl ?_ ?_ <;> intro h
 ·refine atr 4 [1,32] rfl<|lno h2 rfl<|la rfl<|en ?_
  refine ch h rfl ?_ ?_ <;> intro h
  ·obtain ⟨x5,hx5,h⟩:=bs h
   obtain ⟨cs2,F5,D8,h10,r3,kf2,sp3⟩:=h2.focus hx5
   obtain ⟨v8,v9,rfl,rfl,h11,h12⟩:=r3
   refine wtL [ob v8,ob v9,D8,[pb0],ob v2,D1,ob v3] (sre [4] [ob v8,ob v9,D8] rfl (by simpa [List.append_assoc] using sp3))<|WT.mix (Kn w0 Φ_2 (ob v3) [(b_2,.cells #[.slice none 0 0,.slice none 0 0] 30 (0,0)),(b_1,.cells #[v2,v3] 30 (0,0))]) (fun i=>match i with | 14=>false | _=>true) cc (fun _ h=>h.drew)<|mq 0 rfl (by kernel_rfl) (kn Kf.id (ai2 0 1 rfl rfl)) (ab sd rfl) rfl<|mq 1 rfl (by kernel_rfl) (kn Kf.id (ai2 0 1 rfl rfl)) (au DC rfl (fun w1 hw=>hw.rgO (i:=1) rfl 1 1 [v3] rfl)) rfl ?_
   refine mq 2 rfl (by kernel_rfl) (kn Kf.id (ai2 0 1 rfl rfl)) (ab sd rfl) rfl<|mq 3 rfl (by kernel_rfl) (kn Kf.id (ai2 0 1 rfl rfl)) (au DC rfl (fun w1 hw=>hw.rgO (i:=1) rfl 1 1 [v3] rfl)) rfl<|mq 4 rfl (by kernel_rfl) (kn Kf.id (ai2 0 1 rfl rfl)) (aZ ky rfl rfl h10 hx5) rfl<|mq 5 rfl (by kernel_rfl) (kn Kf.id (ai2 0 1 rfl rfl)) (ab lg rfl) rfl<|mq 6 rfl (by kernel_rfl) (kn Kf.id (ai2 0 1 rfl rfl)) (au iz rfl (fun w1 hw=>hw.rg h10.hb (h10.rg.of_eq 0 1 rfl rfl:rg _ _ _ [v8]))) rfl ?_
   refine ma 7 rfl (by kernel_rfl) (kn Kf.id (ai2 0 1 rfl rfl)) rfl ?_
   obtain ⟨x6,hx6,h⟩:=bs h
   refine WM.one 8 (by kernel_rfl) (mc rfl (fun _ v Φx D w1 hq hw=>Kn.of (Kf.id.st hq.2.1 (hq.1.r (i:=5) rfl)) (ai2 0 1 rfl rfl) hw) (bZ (js:=[3]) (R:=[ob v8,ob v9,D8,ob v2,D1,ob v3]) sN rfl rfl (fun w1 hw ap hl=>aL N (bx hw ap hl) (⟨p0.b,x2.2.i,x2.2.h⟩:a8) 5 (ph0_0.y (hw.uo ap)) h3  hx6)) rfl ?_)
   rintro v10 Φ_6 F6 ⟨ap5,fr5,rfl,rfl,e3,h13⟩
   replace h1:=h1.fr fr5 (ap5.q 3 rfl) (ap5.q 4 rfl)
   replace h10:=h10.fr fr5 (ap5.q 5 rfl) (ap5.q 2 rfl)
   replace h11:=h11.fr fr5 (ap5.q 0 rfl) dN
   replace h12:=h12.fr fr5 (ap5.q 1 rfl) dN
   have kf1:=(Kf.id (F:=(ob v3)):Kf Φ_2 _ _).st fr5 (ap5.q 5 rfl)
   refine ma 9 rfl (by kernel_rfl) (kn kf1 (ai2 0 1 rfl rfl)) rfl ?_
   have rc1:RC (RI .i64) 1 Φ_6 ([[]]:List (List Nat)) [iV (wz (x6.1 - 1))] ([wz (x6.1 - 1)]:List Int):=RC.cons (c:=[iV (wz (x6.1 - 1))]) (cells:=[]) ⟨rfl,rfl⟩ rfl (RC.nil _ _ _)
   refine WM.one 10 (by kernel_rfl) (me rfl (fun _ v Φx D w1 hq hw=>Kn.of (kf1.se hq.1) (ai2 0 1 rfl rfl) hw) (aY (vs:=[(0,iV (wz (x6.1 - 1)))]) (C:=#[iV (wz (x6.1 - 1))]) RI.lasts aW gB rfl rfl rfl rfl (ag iy (a7 (C':=[iV (wz (x6.1 - 1))]) rfl rfl rfl rfl rfl (aa))) rfl rc1 rfl (by simpa using Kw.nil)) rfl ?_)
   rintro v11 Φ_7 D9 ⟨fr6,h14⟩
   replace h14:OSl (RI .i64) 3 1 Φ_7 [] v11 ([wz (x6.1 - 1)]:List Int):=by simpa using h14
   replace h1:=h1.f0 fr6
   replace h10:=h10.f0 fr6
   replace h11:=h11.f0 fr6
   replace h12:=h12.f0 fr6
   replace h13:=fr6 _ _ (by simp) h13
   obtain ⟨x7,hx7,h⟩:=bs h
   have kf2:=kf1.se fr6
   refine WM.one 11 (by kernel_rfl) (me rfl (fun _ v Φx D w1 hq hw=>Kn.of (kf2.st hq.1.2 (hq.1.1.r (i:=6) rfl)) (ai2 0 1 rfl rfl) hw) (bB RI.lasts RI.one RI.flat aW jw rfl rfl rfl rfl rfl (js:=[2]) (Rr:=[ob v11,[pb0],ob v9,D8,ob v2,D1,ob v3]) rfl h11 h14.rsl hx7) rfl ?_)
   rintro v12 Φ_8 D10 ⟨⟨ap6,fr7⟩,h15⟩
   replace h1:=h1.fr fr7 (ap6.q 4 rfl) (ap6.q 5 rfl)
   replace h10:=h10.fr fr7 (ap6.q 6 rfl) (ap6.q 3 rfl)
   replace h12:=h12.fr fr7 (ap6.q 2 rfl) dN
   replace h13:=fr7 _ _ ((ap6.q 1 rfl) _ (by simp)) h13
   have kf3:=kf2.st fr7 (ap6.q 6 rfl)
   refine mqT 12 [13,14] rfl (by kernel_rfl) (kn kf3 (ai2 0 1 rfl rfl)) (aZ ky rfl rfl h10 hx5) rfl<|mq 13 rfl (by kernel_rfl) (kn kf3 (ai2 0 1 rfl rfl)) (ab lg rfl) rfl ?_
   refine WM.one 14 (by kernel_rfl) (mu rfl (fun hc=>by cases hc) (us [7] [ob v12,ob v11,[pb0],ob v9,D8,ob v2,D1] 0 ay.lasts nU rfl rfl h15.one rfl h10 rfl (fun ap=>ap.q 4 rfl)) rfl ?_)
   rintro Φ_9 D11 ⟨⟨ap7,fr8⟩,h16⟩
   replace h1:=h1.fr fr8 (ap7.q 5 rfl) (ap7.q 6 rfl)
   replace h15:=h15.fr fr8 (ap7.q 0 rfl) dN
   replace h12:=h12.fr fr8 (ap7.q 3 rfl) dN
   replace h13:=fr8 _ _ ((ap7.q 2 rfl) _ (by simp)) h13
   refine WM.nil (by kernel_rfl) ?_
   have r4:ay Φ_9 _ [v12,v9] (⟨x7,x5.Neg⟩:ao):=⟨v12,v9,rfl,rfl,h15,h12⟩
   obtain ⟨D12,h17,sp4⟩:=h16.unfocus r4 (ay.knows _ _ _ _ r4)
   refine wtL [D12,ob v3,ob v11,[pb0],ob v2,D1] (smg [1,3,3] rfl (by simpa [List.append_assoc,bv] using sp4)) ?_
   exact wo [3,3,3,1,0] [0,0] (K (_,_,_,_,_,_,_,_) ⟨h,h1,h17,h13⟩)
  refine WT.skip ?_
  exact wo [0,0,0,0,0] [0,0] (K (_,_,_,_,_,_,_,_) ⟨h,h1,h2,h3⟩)
 refine att 5 [] rfl ?_
 refine ch h rfl ?_ ?_ <;> intro h
 ·refine atr 3 [0,32] rfl<|lq (aQ (vs:=[(0,.string (⟨#[120]⟩:ByteArray))]) (C:=#[.string (⟨#[120]⟩:ByteArray),iV 0,.slice none 0 0,.slice none 0 0]) Ba lQ rfl (a7 (C':=[.string (⟨#[120]⟩:ByteArray),iV 0,.slice none 0 0,.slice none 0 0]) rfl rfl rfl rfl rfl (aa))) rfl ?_
  have rc2:RC bb 4 Φ_2 ([(ob (.slice none 0 0)++[])++((ob (.slice none 0 0)++[]))]:List (List Nat)) [.string (⟨#[120]⟩:ByteArray),iV 0,.slice none 0 0,.slice none 0 0] ([(⟨(⟨#[120]⟩:ByteArray),0,[],[]⟩:ai)]:List ai):=RC.cons (c:=[.string (⟨#[120]⟩:ByteArray),iV 0,.slice none 0 0,.slice none 0 0]) (cells:=[]) ⟨.slice none 0 0,.slice none 0 0,rfl,rfl,OSl.nil _ _ _ _,OSl.nil _ _ _ _⟩ rfl (RC.nil _ _ _)
  refine le' (aY (vs:=[(0,.agg [.string (⟨#[120]⟩:ByteArray),iV 0,.slice none 0 0,.slice none 0 0].toArray)]) (C:=#[.string (⟨#[120]⟩:ByteArray),iV 0,.slice none 0 0,.slice none 0 0]) bb.lasts oG lQ rfl rfl rfl rfl (ag tH (a7 (C':=[.string (⟨#[120]⟩:ByteArray),iV 0,.slice none 0 0,.slice none 0 0]) rfl rfl rfl rfl rfl (aa))) rfl rc2 rfl (RC.kn bb.knows rc2)) rfl ?_
  rintro v13 Φ_10 D13 ⟨fr9,h18⟩
  replace h18:OSl bb 75 4 Φ_10 ((ob (.slice none 0 0)++[])++((ob (.slice none 0 0)++[]))) v13 ([(⟨(⟨#[120]⟩:ByteArray),0,[],[]⟩:ai)]:List ai):=by simpa [List.append_assoc] using h18
  replace h1:=h1.f0 fr9
  replace h2:=h2.f0 fr9
  replace h3:=fr9 _ _ (by simp) h3
  refine wlL [((ob (.slice none 0 0)++[])++((ob (.slice none 0 0)++[]))),ob v13,[pb0],ob v2,D1,ob v3,D2] (smg [] rfl (SP.eq (by simp [List.append_assoc,bv]))) ?_
  obtain ⟨x8,hx8,h⟩:=bs h
  refine le' (bU bb.lasts bb.one oG zD rfl rfl rfl rfl rfl (js:=[3]) (Rr:=[((ob (.slice none 0 0)++[])++((ob (.slice none 0 0)++[]))),ob v13,[pb0],D1,ob v3,D2]) rfl h1 h18 (fun ap=>ap.q 3 rfl) (fun ap=>ap.q 0 rfl) hx8) rfl ?_
  rintro v14 Φ_11 D14 ⟨⟨ap8,fr10⟩,h19⟩
  replace h2:=h2.fr fr10 (ap8.q 4 rfl) (ap8.q 5 rfl)
  replace h3:=fr10 _ _ ((ap8.q 2 rfl) _ (by simp)) h3
  refine wlL [(D1++((ob (.slice none 0 0)++[])++((ob (.slice none 0 0)++[])))),ob v14,ob v13,[pb0],ob v3,D2] (smg [4,1] rfl (SP.eq (by simp)))<|lf kg rfl rfl rfl<|so1 1 zc rfl h19.one ?_
  refine en ?_
  exact wo [3,1,0,1,1] [0,0] (K (_,_,_,_,_,_,_,_) ⟨h,h19,h2,h3⟩)
 refine WT.skip ?_
 exact wo [0,0,0,0,0] [0,0] (K (_,_,_,_,_,_,_,_) ⟨h,h1,h2,h3⟩)
end Go.Proofs.YtinomobmcjnfjaaGreat
