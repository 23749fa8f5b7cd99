/- Printed by a program of ours: each Go function computes its Lean function. -/
import Derived.Test.YtedmfnmbjglmbaaGreatProg
import Derived.Test.YtedmfnmbjglmbaaGreatWCameWalk9
namespace Go.Proofs.YtedmfnmbjglmbaaGreat
open Eng Tryz
open Go.RowKit (Below)
set_option linter.unusedVariables false
set_option linter.unusedSimpArgs false

set_option maxRecDepth 100000
set_option maxHeartbeats 8000000
variable {a d:Hp} {e f g l k j aj aE b0 b9 bY:Value} {n ai o b8 a6 ad bX bj b6 pGc0_0 pGc0_1:List Nat} {b7:Nat} (N:Nat)
theorem yR (w0:aD a d []) (G:aN) (al:RSl im 1 a n e G.Alphas) (an:RSl l7 1 a ai f G.Rules) {r:aN} (h:o0 N G=some r) :
  Calls prog 66 [.agg [e,f].toArray].toArray w0.w (bc d w0.w [] (fun aG Fs v=>∃ (au:Value) (aH:List Nat) (av:Value) (aI:List Nat),v = .agg [au,av].toArray∧Fs=[ob au,aH,ob av,aI]∧OSl bA 133 1 aG aH au r.Alphas∧OSl br 100 1 aG aI av r.Rules)):=by
 refine eN func66 J ntmps66 J w0 fun hF=>?_
 unfold o0 at h
 refine sr<|lbx J fun T=>lnz o8 J fun E=>en<|sr<|lnz o8 J fun F=>arr 6 [0,64] J<|lnr al J<|art 3 [] J<|wtS<|wt0 ?_
 have k1:=OSl.nil bA 133 1 d
 refine lin (σ:=Hp × (List bF) × Value × List Nat × Int) (fun s=>[(1,pQ T),(2,pQ E),(3,pQ F),(15,e),(16,iV (G.Alphas.length:Int)),(17,iV s.2.2.2.2)]) (fun s=>St w0 s.1 [(F,.cells #[s.2.2.1,.slice none 0 0] 35 (0,0)),(E,.cells #[.slice none 0 0,.slice none 0 0] 35 (0,0)),(T,.cells #[e,f] 35 (0,0))] [s.2.2.2.1,ob s.2.2.1]) (fun m s=>i8 N G m s.2.1 s.2.2.2.2=some r∧(OSl bA 133 1 s.1 s.2.2.2.1 s.2.2.1 s.2.1)) (d,([]:List bF),(.slice none 0 0),[],0) N ⟨h,k1⟩ (sx [0,0] [0,0,0]) (fun n1 bh s hm=>?_)
 obtain⟨aJ,s1,p,u,s2⟩:=s
 obtain⟨h,b⟩:=hm
 dsimp only at h b ⊢
 unfold i8 at h
 refine att 5 [] J ?_
 refine ch h J ?_ ?_ <;> intro h
 ·refine atr 5 [] J ?_
  obtain⟨x1,aK,h⟩:=bs h
  obtain⟨bS,F1,-,g1,bT,bU,r1⟩:=al.el (a8 aK).2.2
  obtain⟨v1,G1,rfl,bk,h1⟩:=r1
  obtain rfl:=bk.symm
  refine lia al aK J<|lhx 0 1 g1 J ?_
  refine ln (ip (C:=#[.slice none 0 0]) ta J) J (fun aL=>?_)
  refine soN 0 DC J ⟨h1.one,trivial⟩ J ?_
  refine en<|wm [0,1,2,3] [9] J<|amm 4 [0,0,1,32,2,0,3,0] [0,1,2,3] J J ?_
  obtain⟨x2,bl,h⟩:=bs h
  refine WM.one 4 NQ (mc J (fun _ v M D x O hw=>Kn.of Kf.nil (am [0,1,2,3] J) hw) (bH (js:=[]) (R:=[u,ob p]) vU J J (fun x hw ap hl=>cM N (ba hw.fro) x1.L (h1.y hw.up)  bl)) J ?_)
  rintro v2 bm F2 ⟨aM,bn,v3,rfl,rfl,h2⟩
  replace b:=b.fr bn (aM.q 1 J) (aM.q 0 J)
  refine mq 5 J NQ (kN [0,1,2,3]) (bu (vs:=[(0,v2)]) (C:=#[v2]) GI ta J (aa (C':=[v2]) J (d6 h2.one) J J J (ae))) J ?_
  have aO:RC bA 1 bm ([(ob v2++[])]:List (List Nat)) [v2] ([(⟨x2⟩:bF)]:List bF):=RC.cons (c:=[v2]) (cells:=[]) ⟨v2,J,J,h2⟩ J (RC.nil _ _ _)
  refine WM.one 6 NQ (me J (fun _ v M D x O hw=>Kn.of Kf.nil (am [0,1,2,3] J) hw) (bz (vs:=[(0,.agg [v2].toArray)]) (C:=#[v2]) bA.lasts sQ ta J J J J (ar Bk (aa (C':=[v2]) J J J J J (ae))) J aO J (RC.kn bA.knows aO)) J ?_)
  rintro v4 aQ D2 ⟨bo,h3⟩
  replace h3:OSl bA 133 1 aQ ((ob v2++[])) v4 ([(⟨x2⟩:bF)]:List bF):=by simpa[gf] using h3
  replace b:=b.f0 bo
  refine WM.conv (S':=St w0 aQ [(aL,.cells #[v1] 133 (0,0)),(F,.cells #[p,.slice none 0 0] 35 (0,0)),(E,.cells #[.slice none 0 0,.slice none 0 0] 35 (0,0)),(T,.cells #[e,f] 35 (0,0))] [((ob v2++[])),ob v4,u,ob p]) (fun x hw=>hw.merge (js:=[1]) J (SP.eq (by simp[gf,cO]))) ?_
  obtain⟨x3,bp,h⟩:=bs h
  refine WM.one 7 NQ (me J (fun _ v M D x O hw=>Kn.of Kf.nil (am [0,1,2,3] J) hw) (dS bA.lasts bA.one sQ GF J J J J J (js:=[3]) (Rr:=[((ob v2++[])),ob v4,u]) J b h3 (fun ap=>ap.q 2 J) (fun ap=>ap.q 0 J) bp) J ?_)
  rintro v5 bq D3 ⟨⟨bV,bW⟩,h4⟩
  refine WM.conv (S':=St w0 bq [(aL,.cells #[v1] 133 (0,0)),(F,.cells #[p,.slice none 0 0] 35 (0,0)),(E,.cells #[.slice none 0 0,.slice none 0 0] 35 (0,0)),(T,.cells #[e,f] 35 (0,0))] [(u++((ob v2++[]))),ob v5,ob v4]) (fun x hw=>hw.merge (js:=[3,1]) J (SP.eq NS))<|amm 1 [8,0] [0,1,2,3] J J ?_
  refine on1 9 (ms1 1 J nk JT J h4.one ?_)
  refine WM.nil NQ<|att 5 [] J ?_
  exact lb [0,0] [1,1,1] (bh (_,_,_,_,_) ⟨h,h4⟩)
 refine atr 6 [1,64] J<|lnr an J<|art 3 [] J<|wtS<|wt0 ?_
 have k3:=OSl.nil br 100 1 aJ
 refine lin (σ:=Hp × (List aP) × Value × List Nat × Int) (fun s=>[(2,pQ E),(3,pQ F),(32,f),(33,iV (G.Rules.length:Int)),(34,iV s.2.2.2.2)]) (fun s=>St w0 s.1 [(F,.cells #[p,s.2.2.1] 35 (0,0)),(E,.cells #[.slice none 0 0,.slice none 0 0] 35 (0,0))] [s.2.2.2.1,ob s.2.2.1,u,ob p]) (fun m s=>dZ N G s1 m s.2.1 s.2.2.2.2=some r∧(OSl bA 133 1 s.1 u p s1)∧(OSl br 100 1 s.1 s.2.2.2.1 s.2.2.1 s.2.1)) (aJ,([]:List aP),(.slice none 0 0),[],0) N ⟨h,b,k3⟩ (sx [0,0,0,0] [0,0]) (fun n2 bt s hm=>?_)
 obtain⟨aR,U,w,A,V⟩:=s
 obtain⟨h,b,q⟩:=hm
 dsimp only at h b q ⊢
 unfold dZ at h
 refine att 5 [] J ?_
 refine ch h J ?_ ?_ <;> intro h
 ·refine atr 5 [] J ?_
  obtain⟨W,aS,h⟩:=bs h
  obtain⟨bZ,F3,-,g2,c0,c3,r2⟩:=an.el (a8 aS).2.2
  obtain⟨v6,G2,rfl,bw,X⟩:=r2
  obtain rfl:=bw.symm
  refine lia an aS J<|lhx 0 1 g2 J ?_
  refine ln (ip (C:=#[.slice none 0 0]) od J) J (fun c4=>?_)
  refine soN 0 wx J ⟨X.one,trivial⟩ J ?_
  refine en<|sr ?_
  refine ln (ip (C:=#[.slice none 0 0]) od J) J (fun P=>?_)
  refine arr 6 [0,32] J<|lnr X J<|art 3 [] J<|wtS<|wt0 ?_
  have k5:=OSl.nil aV 103 1 aR
  refine lin (σ:=Hp × (List aq) × Value × List Nat × Int) (fun s=>[(2,pQ E),(3,pQ F),(8,pQ P),(32,f),(33,iV (G.Rules.length:Int)),(34,iV V),(39,v6),(40,iV (W.Levels.length:Int)),(41,iV s.2.2.2.2)]) (fun s=>St w0 s.1 [(P,.cells #[s.2.2.1] 100 (0,0)),(F,.cells #[p,w] 35 (0,0)),(E,.cells #[.slice none 0 0,.slice none 0 0] 35 (0,0))] [s.2.2.2.1,ob s.2.2.1,A,ob w,u,ob p]) (fun m s=>eV N U V (dZ N G s1 n2) W m s.2.1 s.2.2.2.2=some r∧(OSl bA 133 1 s.1 u p s1)∧(OSl br 100 1 s.1 A w U)∧(OSl aV 103 1 s.1 s.2.2.2.1 s.2.2.1 s.2.1)) (aR,([]:List aq),(.slice none 0 0),[],0) N ⟨h,b,q,k5⟩ (sx [0,0,0,0,0,0] [0,1,1]) (fun n3 bx s hm=>?_)
  obtain⟨ax,Y,t,B,s6⟩:=s
  obtain⟨h,b,q,y⟩:=hm
  dsimp only at h b q y ⊢
  unfold eV at h
  refine att 5 [] J ?_
  refine ch h J ?_ ?_ <;> intro h
  ·refine atr 5 [] J ?_
   obtain⟨x5,aU,h⟩:=bs h
   obtain⟨c5,F4,-,g3,c6,c7,r3⟩:=X.el (a8 aU).2.2
   obtain⟨v7,G3,rfl,bB,Z⟩:=r3
   obtain rfl:=bB.symm
   refine lia X aU J<|lhx 0 1 g3 J ?_
   refine ln (ip (C:=#[.slice none 0 0]) rG J) J (fun c8=>?_)
   refine soN 0 Ar J ⟨Z.one,trivial⟩ J ?_
   refine en<|sr ?_
   refine ln (ip (C:=#[.slice none 0 0]) rG J) J (fun a1=>?_)
   refine arr 6 [0,32] J<|lnr Z J<|art 3 [] J<|wtS<|wt0 ?_
   have k7:=OSl.nil aT 105 2 ax
   refine lin (σ:=Hp × (List ao) × Value × List Nat × Int) (fun s=>[(2,pQ E),(3,pQ F),(8,pQ P),(11,pQ a1),(32,f),(33,iV (G.Rules.length:Int)),(34,iV V),(39,v6),(40,iV (W.Levels.length:Int)),(41,iV s6),(46,v7),(47,iV (x5.Toks.length:Int)),(48,iV s.2.2.2.2)]) (fun s=>St w0 s.1 [(a1,.cells #[s.2.2.1] 103 (0,0)),(P,.cells #[t] 100 (0,0)),(F,.cells #[p,w] 35 (0,0)),(E,.cells #[.slice none 0 0,.slice none 0 0] 35 (0,0))] [s.2.2.2.1,ob s.2.2.1,B,ob t,A,ob w,u,ob p]) (fun m s=>fU N Y s6 (eV N U V (dZ N G s1 n2) W n3) x5 m s.2.1 s.2.2.2.2=some r∧(OSl bA 133 1 s.1 u p s1)∧(OSl br 100 1 s.1 A w U)∧(OSl aV 103 1 s.1 B t Y)∧(OSl aT 105 2 s.1 s.2.2.2.1 s.2.2.1 s.2.1)) (ax,([]:List ao),(.slice none 0 0),[],0) N ⟨h,b,q,y,k7⟩ (sx [0,0,0,0,0,0,0,0] [0,1,1,1]) (fun n4 bC s hm=>?_)
   obtain⟨bD,s7,z,H,s8⟩:=s
   obtain⟨h,b,q,y,I⟩:=hm
   dsimp only at h b q y I ⊢
   unfold fU at h
   refine att 5 [] J ?_
   refine ch h J ?_ ?_ <;> intro h
   ·refine atr 5 [] J ?_
    obtain⟨x6,aW,h⟩:=bs h
    obtain⟨c9,F5,-,g4,ca,cb,r4⟩:=Z.el (a8 aW).2.2
    obtain⟨v8,G4,v9,G5,rfl,rfl,h7,h8⟩:=r4
    refine lia Z aW J<|lhx 0 2 g4 J<|lnz ib J fun aY=>soN 0 oX J ⟨h7.one,h8.one,trivial⟩ J ?_
    refine en<|wm [0,1,2,3,4] [12] J<|amm 6 [0,0,1,32,2,0,3,0,5,1,6,0] [0,1,2,3,4] J J ?_
    obtain⟨x7,bE,h⟩:=bs h
    refine WM.one 4 NQ (mc J (fun _ v M D x O hw=>Kn.of Kf.nil (am [0,1,2,3,4] J) hw) (bH (js:=[]) (R:=[H,ob z,B,ob t,A,ob w,u,ob p]) vU J J (fun x hw ap hl=>cM N (ba hw.fro) x6.Ids (h7.y hw.up)  bE)) J ?_)
    rintro v10 cc F6 ⟨L,a7,v11,rfl,rfl,h9⟩
    replace b:=b.fr a7 (L.q 7 J) (L.q 6 J)
    replace q:=q.fr a7 (L.q 5 J) (L.q 4 J)
    replace y:=y.fr a7 (L.q 3 J) (L.q 2 J)
    replace I:=I.fr a7 (L.q 1 J) (L.q 0 J)
    obtain⟨x8,bG,h⟩:=bs h
    refine WM.one 7 NQ (mc J (fun _ v M D x O hw=>Kn.of Kf.nil (am [0,1,2,3,4] J) hw) (bH (js:=[]) (R:=[ob v10,H,ob z,B,ob t,A,ob w,u,ob p]) vU J J (fun x hw ap hl=>cM N (ba hw.fro) x6.Hits (h8.y hw.up)  bG)) J ?_)
    rintro v12 bI F7 ⟨K,S,cd,rfl,rfl,aZ⟩
    replace b:=b.fr S (K.q 8 J) (K.q 7 J)
    replace q:=q.fr S (K.q 6 J) (K.q 5 J)
    replace y:=y.fr S (K.q 4 J) (K.q 3 J)
    replace I:=I.fr S (K.q 2 J) (K.q 1 J)
    replace h9:=h9.fr S (K.q 0 J) dN
    refine mq 8 J NQ (kN [0,1,2,3,4]) (bu (vs:=[(0,v10),(1,v12)]) (C:=#[v10,v12]) Di ib J (aa (C':=[v10,.slice none 0 0]) J (d6 h9.one) J J J (aa (C':=[v10,v12]) J (d6 aZ.one) J J J (ae)))) J ?_
    have b1:RC aT 2 bI ([(ob v10++[])++((ob v12++[]))]:List (List Nat)) [v10,v12] ([(⟨x7,x8⟩:ao)]:List ao):=RC.cons (c:=[v10,v12]) (cells:=[]) ⟨v10,v12,J,J,h9,aZ⟩ J (RC.nil _ _ _)
    refine WM.one 9 NQ (me J (fun _ v M D x O hw=>Kn.of Kf.nil (am [0,1,2,3,4] J) hw) (bz (vs:=[(0,.agg [v10,v12].toArray)]) (C:=#[v10,v12]) aT.lasts eh ib J J J J (ar ve (aa (C':=[v10,v12]) J J J J J (ae))) J b1 J (RC.kn aT.knows b1)) J ?_)
    rintro ab b2 D7 ⟨af,ay⟩
    replace ay:OSl aT 105 2 b2 ((ob v10++[])++((ob v12++[]))) ab ([(⟨x7,x8⟩:ao)]:List ao):=by simpa[gf] using ay
    replace b:=b.f0 af
    replace q:=q.f0 af
    replace y:=y.f0 af
    replace I:=I.f0 af
    refine WM.conv (S':=St w0 b2 [(aY,.cells #[v8,v9] 105 (0,0)),(a1,.cells #[z] 103 (0,0)),(P,.cells #[t] 100 (0,0)),(F,.cells #[p,w] 35 (0,0)),(E,.cells #[.slice none 0 0,.slice none 0 0] 35 (0,0))] [((ob v10++[])++((ob v12++[]))),ob ab,H,ob z,B,ob t,A,ob w,u,ob p]) (fun x hw=>hw.merge (js:=[2,1]) J (SP.eq (by simp[gf,cO]))) ?_
    obtain⟨x9,bJ,h⟩:=bs h
    refine WM.one 10 NQ (me J (fun _ v M D x O hw=>Kn.of Kf.nil (am [0,1,2,3,4] J) hw) (dS aT.lasts aT.one eh qw J J J J J (js:=[3]) (Rr:=[((ob v10++[])++((ob v12++[]))),ob ab,H,B,ob t,A,ob w,u,ob p]) J I ay (fun ap=>ap.q 2 J) (fun ap=>ap.q 0 J) bJ) J ?_)
    rintro bK bL D8 ⟨⟨Q,aA⟩,b3⟩
    replace b:=b.fr aA (Q.q 8 J) (Q.q 7 J)
    replace q:=q.fr aA (Q.q 6 J) (Q.q 5 J)
    replace y:=y.fr aA (Q.q 4 J) (Q.q 3 J)
    refine WM.conv (S':=St w0 bL [(aY,.cells #[v8,v9] 105 (0,0)),(a1,.cells #[z] 103 (0,0)),(P,.cells #[t] 100 (0,0)),(F,.cells #[p,w] 35 (0,0)),(E,.cells #[.slice none 0 0,.slice none 0 0] 35 (0,0))] [(H++((ob v10++[])++((ob v12++[])))),ob bK,ob ab,B,ob t,A,ob w,u,ob p]) (fun x hw=>hw.merge (js:=[3,1]) J (SP.eq NS))<|amm 1 [11,0] [0,1,2,3,4] J J ?_
    refine on1 12 (ms1 1 J nk Aw J b3.one ?_)
    refine WM.nil NQ<|att 5 [] J ?_
    exact lb [0,0,1,1,1,1,1,1] [1,1,1,1] (bC (_,_,_,_,_) ⟨h,b,q,y,b3⟩)
   refine atr 4 [0,32] J<|lq (aw CC J (fun x hw=>hw.rgO (i:=0) J 0 1 [z] J) J) J ?_
   have b4:RC aV 1 bD ([(ob z++H)]:List (List Nat)) [z] ([(⟨s7⟩:aq)]:List aq):=RC.cons (c:=[z]) (cells:=[]) ⟨z,H,J,J,I⟩ J (RC.nil _ _ _)
   refine le' (bz (vs:=[(0,.agg [z].toArray)]) (C:=#[z]) aV.lasts sP rG J J J J (ar C6 (aa (C':=[z]) J J J J J (ae))) J b4 J (RC.kn aV.knows b4)) J ?_
   rintro ag bM D9 ⟨aB,aC⟩
   replace aC:OSl aV 103 1 bM ((ob z++H)) ag ([(⟨s7⟩:aq)]:List aq):=by simpa[gf] using aC
   replace b:=b.f0 aB
   replace q:=q.f0 aB
   replace y:=y.f0 aB
   refine wlL [((ob z++H)),ob ag,B,ob t,A,ob w,u,ob p] (smg [2,1] J (SP.eq (by simp[gf,cO]))) ?_
   obtain⟨cf,bN,h⟩:=bs h
   refine le' (dS aV.lasts aV.one sP Ib J J J J J (js:=[3]) (Rr:=[((ob z++H)),ob ag,B,A,ob w,u,ob p]) J y aC (fun ap=>ap.q 2 J) (fun ap=>ap.q 0 J) bN) J ?_
   rintro v17 cg cj ⟨⟨ah,b5⟩,bb⟩
   replace b:=b.fr b5 (ah.q 6 J) (ah.q 5 J)
   replace q:=q.fr b5 (ah.q 4 J) (ah.q 3 J)
   refine wlL [(B++((ob z++H))),ob v17,ob ag,A,ob w,u,ob p] (smg [3,1] J (SP.eq NS))<|lf lQ J J J<|so1 1 Kh J bb.one ?_
   refine art 6 [] J ?_
   exact lb [0,0,1,1,1,1] [1,1,1] (bx (_,_,_,_,_) ⟨h,b,q,bb⟩)
  refine atr 4 [1,32] J<|lq (aw AS J (fun x hw=>hw.rgO (i:=0) J 0 1 [t] J) J) J ?_
  have bd:RC br 1 ax ([(ob t++B)]:List (List Nat)) [t] ([(⟨Y⟩:aP)]:List aP):=RC.cons (c:=[t]) (cells:=[]) ⟨t,B,J,J,y⟩ J (RC.nil _ _ _)
  refine le' (bz (vs:=[(0,.agg [t].toArray)]) (C:=#[t]) br.lasts Ac od J J J J (ar y8 (aa (C':=[t]) J J J J J (ae))) J bd J (RC.kn br.knows bd)) J ?_
  rintro ak bO ck ⟨be,aF⟩
  replace aF:OSl br 100 1 bO ((ob t++B)) ak ([(⟨Y⟩:aP)]:List aP):=by simpa[gf] using aF
  replace b:=b.f0 be
  replace q:=q.f0 be
  refine wlL [((ob t++B)),ob ak,A,ob w,u,ob p] (smg [2,1] J (SP.eq (by simp[gf,cO]))) ?_
  obtain⟨cm,bP,h⟩:=bs h
  refine le' (dS br.lasts br.one Ac CR J J J J J (js:=[3]) (Rr:=[((ob t++B)),ob ak,A,u,ob p]) J q aF (fun ap=>ap.q 2 J) (fun ap=>ap.q 0 J) bP) J ?_
  rintro bQ cn cp ⟨⟨bf,bR⟩,bg⟩
  replace b:=b.fr bR (bf.q 4 J) (bf.q 3 J)
  refine wlL [(A++((ob t++B))),ob bQ,ob ak,u,ob p] (smg [3,1] J (SP.eq NS))<|lf uT J J J<|so1 1 Gz J bg.one ?_
  refine art 6 [] J ?_
  exact lb [0,0,1,1] [1,1] (bt (_,_,_,_,_) ⟨h,b,bg⟩)
 refine atr 4 [2] J<|soN 1 pZ J ⟨b.one,q.one,trivial⟩ J ?_
 refine en ?_
 exact rtg [3,2,1,0] hF (az.one (aX wK J (fun x hw=>hw.rgO (i:=1) J 0 2 [p,w] J) J)) J (by cases h;exact fun x hw=>⟨p,u,w,A,rfl,rfl,b,q⟩)
theorem gW {i:Nat} {t:List Value} (w0:aD a d []) (b:(List av)) (u:(List av)) (v:av→av→Option (Bool)) (w:RSl cK 4 a o g b) (x:RSl cK 4 a b8 l u) (I:Fun prog i=true) (K:∀ {c:Hp} {w':World},FrH [] d c→In c w'→∀ (p:av) (q:av) {z:Value} {L:List Nat} {A:Value} {M:List Nat} {B:Value} {O:List Nat} {C:Value} {P:List Nat} (_:RSl aU 3 c L z p.Consts) (_:RSl (RI .i64) 1 c M A p.At) (_:RSl aU 3 c O B q.Consts) (_:RSl (RI .i64) 1 c P C q.At) {r:Bool},v p q=some r→Calls prog i (([.agg [.string p.Kind,iV p.N,z,A].toArray,.agg [.string q.Kind,iV q.N,B,C].toArray]:List Value)++t).toArray w' (lw (.bool r) w')) {r:Bool} (h:bf N b u v=some r) :
  CB w0 prog 84 [g,l,.func (.func i) #[] t.toArray] (.bool r):=by
 refine eN func84 J ntmps84 J w0 fun y=>?_
 unfold bf at h
 refine atr 8 [] J<|lnr w J<|la J<|lnr x J<|la J<|en ?_
 refine ch h J ?_ ?_ <;> intro h
 ·refine att 4 [] J ?_
  exact rt y h
 refine atr 5 [] J<|lnr w J<|art 3 [] J ?_
 refine lin (σ:=Int) (fun s=>[(1,l),(2,.func (.func i) #[] t.toArray),(15,g),(16,iV (b.length:Int)),(17,iV s)]) (fun s=>St w0 d [] []) (fun m s=>aQ N b u v m s=some r) (0) N h (sx [] []) (fun Q R s hm=>?_)
 revert hm;revert s;intro s1 hm
 have h:aQ N b u v (Q+1) s1=some r:=hm
 show WT _ _ [(1,l),(2,.func (.func i) #[] t.toArray),(15,g),(16,iV (b.length:Int)),(17,iV s1)] (St w0 d [] [])
 unfold aQ at h
 refine att 5 [] J ?_
 refine ch h J ?_ ?_ <;> intro h
 ·refine atr 6 [] J ?_
  obtain⟨S,D,h⟩:=bs h
  obtain⟨X,Y,-,g1,Z,a1,T⟩:=w.el (a8 D).2.2
  obtain⟨v1,G1,v2,G2,rfl,rfl,h1,E⟩:=T
  refine lia w D J<|lhx 0 4 g1 J<|lnz nc J fun a7=>la J<|soN 0 rP J ⟨J,J,h1.one,E.one,trivial⟩ J ?_
  refine arr 5 [] J ?_
  obtain⟨U,F,h⟩:=bs h
  obtain⟨aa,F2,-,g2,ab,ae,V⟩:=x.el (a8 F).2.2
  obtain⟨v3,G3,v4,G4,rfl,rfl,G,H⟩:=V
  refine lia x F J<|lhx 0 4 g2 J<|lnz nc J fun af=>soN 0 rP J ⟨J,J,G.one,H.one,trivial⟩ J ?_
  refine arr 6 [36,4] J ?_
  obtain⟨x3,W,h⟩:=bs h
  refine lp (kK I J J (fun w1 hw=>K hw.frB hw.fro S U (h1.y hw.up) (E.y hw.up) (G.y hw.up) (H.y hw.up) W)) J<|la J<|en ?_
  refine ch h J ?_ ?_ <;> intro h
  ·refine att 4 [] J ?_
   exact rt y h
  refine att 6 [] J ?_
  exact lb [] [] (R _ h)
 refine att 5 [] J ?_
 exact rt y h
theorem gS {i:Nat} {p:List Value} (w0:aD a d []) (b:(List aG)) (q:(List aG)) (t:aG→aG→Option (Bool)) (u:RSl eA 2 a o g b) (v:RSl eA 2 a b8 l q) (I:Fun prog i=true) (K:∀ {c:Hp} {w':World},FrH [] d c→In c w'→∀ (w:aG) (x:aG) {z:Value} {L:List Nat} {A:Value} {M:List Nat} {B:Value} {O:List Nat} {C:Value} {P:List Nat} (_:RSl (RI .i64) 1 c L z w.Pos) (_:RSl (RI .i64) 1 c M A w.Neg) (_:RSl (RI .i64) 1 c O B x.Pos) (_:RSl (RI .i64) 1 c P C x.Neg) {r:Bool},t w x=some r→Calls prog i (([.agg [z,A].toArray,.agg [B,C].toArray]:List Value)++p).toArray w' (lw (.bool r) w')) {r:Bool} (h:be N b q t=some r) :
  CB w0 prog 86 [g,l,.func (.func i) #[] p.toArray] (.bool r):=by
 refine eN func86 J ntmps86 J w0 fun y=>?_
 unfold be at h
 refine atr 8 [] J<|lnr u J<|la J<|lnr v J<|la J<|en ?_
 refine ch h J ?_ ?_ <;> intro h
 ·refine att 4 [] J ?_
  exact rt y h
 refine atr 5 [] J<|lnr u J<|art 3 [] J ?_
 refine lin (σ:=Int) (fun s=>[(1,l),(2,.func (.func i) #[] p.toArray),(15,g),(16,iV (b.length:Int)),(17,iV s)]) (fun s=>St w0 d [] []) (fun m s=>aR N b q t m s=some r) (0) N h (sx [] []) (fun Q R s hm=>?_)
 revert hm;revert s;intro s1 hm
 have h:aR N b q t (Q+1) s1=some r:=hm
 show WT _ _ [(1,l),(2,.func (.func i) #[] p.toArray),(15,g),(16,iV (b.length:Int)),(17,iV s1)] (St w0 d [] [])
 unfold aR at h
 refine att 5 [] J ?_
 refine ch h J ?_ ?_ <;> intro h
 ·refine atr 6 [] J ?_
  obtain⟨S,D,h⟩:=bs h
  obtain⟨X,Y,-,g1,Z,a1,T⟩:=u.el (a8 D).2.2
  obtain⟨v1,G1,v2,G2,rfl,rfl,h1,E⟩:=T
  refine lia u D J<|lhx 0 2 g1 J<|lnz rE J fun a7=>la J<|soN 0 yH J ⟨h1.one,E.one,trivial⟩ J ?_
  refine arr 5 [] J ?_
  obtain⟨U,F,h⟩:=bs h
  obtain⟨aa,F2,-,g2,ab,ae,V⟩:=v.el (a8 F).2.2
  obtain⟨v3,G3,v4,G4,rfl,rfl,G,H⟩:=V
  refine lia v F J<|lhx 0 2 g2 J<|lnz rE J fun af=>soN 0 yH J ⟨G.one,H.one,trivial⟩ J ?_
  refine arr 6 [34,2] J ?_
  obtain⟨x3,W,h⟩:=bs h
  refine lp (kK I J J (fun w1 hw=>K hw.frB hw.fro S U (h1.y hw.up) (E.y hw.up) (G.y hw.up) (H.y hw.up) W)) J<|la J<|en ?_
  refine ch h J ?_ ?_ <;> intro h
  ·refine att 4 [] J ?_
   exact rt y h
  refine att 6 [] J ?_
  exact lb [] [] (R _ h)
 refine att 5 [] J ?_
 exact rt y h
theorem w9 (w0:aD a d []) (c:aG) (i:aG) (m:RSl (RI .i64) 1 a n e c.Pos) (p:RSl (RI .i64) 1 a ai f c.Neg) (q:RSl (RI .i64) 1 a a6 k i.Pos) (s:RSl (RI .i64) 1 a ad j i.Neg) {r:Bool} (h:fD N c i=some r) :
  CB w0 prog 87 [.agg [e,f].toArray,.agg [k,j].toArray] (.bool r):=by
 refine eN func87 J ntmps87 J w0 fun t=>?_
 unfold fD at h
 refine sr<|lbx J fun v=>lbx J fun w=>arr 8 [0,32,0,0] J<|qd h (eQ N · c.Pos i.Pos m q ·) J J J fun x h=>la J ?_
 obtain⟨u,b,h⟩:=bs h
 refine WL.cutN 6 [(16,.bool u),(4,.bool false)] ?_ (fun K=>?_)
 rotate_left
 ·refine sp 10 b J (fun b=>?_) fun b=>?_
  ·refine arr 4 [1,32,1,0] J<|ly J J<|qd b (eQ N · c.Neg i.Neg p s ·) J J J fun y b=>la J ?_
   cases b
   exact ku K
  ·refine arr 6 [] J ?_
   cases b
   exact ku K
 refine la J<|en ?_
 exact rt t h
theorem AV (w0:aD a d []) (i:ce) (m:bv) (y:RSl cK 4 a n e i.Alphas) (A:RSl eA 2 a ai f i.Chains) (u:RSl fb 5 a a6 k m.Rules) {r:Bool} (h:qO N i m=some r) :
  CB w0 prog 32 [.agg [e,f].toArray,.agg [.string m.Name,k].toArray] (.bool r):=by
 refine eN func32 J ntmps32 J w0 fun v=>?_
 unfold qO at h
 refine sr<|lbx J fun D=>lbx J fun E=>arr 6 [2] J<|qd h (rH N · m u ·) J J J fun F h=>la J<|en ?_
 refine ch h J ?_ ?_ <;> intro h
 ·refine att 4 [] J ?_
  exact rt v h
 refine atr 4 [2] J<|kab h J J J (fun b z q=>vo N b m (u.y z) q) ?_
 rintro w h v1 G H ⟨I,L,v2,M,v3,O,rfl,rfl,h1,x⟩
 refine lnz sI J fun P=>soN 0 uO J ⟨h1.one,x.one,trivial⟩ J ?_
 refine arr 7 [0,64,0,0] J<|qz h (fun b z q=>gW N b i.Alphas w.Alphas (eD N) (y.y z) (h1.rslG de.gives) LC (fun B p a0 s=>fun f0 f1 f2 f3=>fun t=>ra N (ba p) a0 s f0 f1 f2 f3 t) q) J J J fun Q h=>la J ?_
 obtain⟨C,c,h⟩:=bs h
 refine WL.cutN 6 [(22,.bool C)] ?_ (fun K=>?_)
 rotate_left
 ·refine sp 16 c J (fun c=>?_) fun c=>?_
  ·refine arr 4 [1,64,1,0] J<|ly J J<|qz c (fun b z q=>gS N b i.Chains w.Chains (fD N) (A.y z) (x.rslG bJ.gives) KV (fun B p a0 s=>fun f0 f1 f2 f3=>fun t=>w9 N (ba p) a0 s f0 f1 f2 f3 t) q) J J J fun R c=>la J ?_
   cases c
   exact ku K
  ·refine arr 6 [] J ?_
   cases c
   exact ku K
 refine la J<|en ?_
 exact rt v h
theorem zr (w0:aD a d []) (q:ce) (b:aN) (S:RSl cK 4 a n e q.Alphas) (F:RSl eA 2 a ai f q.Chains) (T:RSl im 1 a a6 k b.Alphas) (A:RSl l7 1 a ad j b.Rules) {r:Bool} (h:pn N q b=some r) :
  CB w0 prog 130 [.agg [e,f].toArray,.agg [k,j].toArray] (.bool r):=by
 refine eN func130 J ntmps130 J w0 fun B=>?_
 unfold pn at h
 refine sr<|lbx J fun c=>lbx J fun U=>arr 7 [0,0] J<|lnr T J<|arr 2 [0,32] J<|lnr S J<|arr 2 [] J ?_
 obtain⟨V,x,h⟩:=bs h
 refine WL.cutN 8 [(28,.bool V),(2,pQ c),(3,pQ U)] ?_ (fun K=>?_)
 rotate_left
 ·refine sp 20 x J (fun x=>?_) fun x=>?_
  ·refine arr 8 [] J ?_
   cases x
   exact ku K
  ·refine arr 2 [1,0] J<|ly J J<|lnr A J<|arr 2 [1,32] J<|ly J J<|lnr F J<|arr 2 [] J ?_
   cases x
   exact ku K
 refine en ?_
 refine ch h J ?_ ?_ <;> intro h
 ·refine att 4 [] J ?_
  exact rt B h
 refine atr 6 [1,0] J<|lnr A J<|art 3 [] J ?_
 refine lin (σ:=Int) (fun s=>[(2,pQ c),(30,j),(31,iV (b.Rules.length:Int)),(32,iV s)]) (fun s=>St w0 d [(c,.cells #[e,f] 47 (0,0))] []) (fun m s=>cI N q b m s=some r) (0) N h (sx [] [1]) (fun t W s hm=>?_)
 revert hm;revert s;intro s1 hm
 have h:cI N q b (t+1) s1=some r:=hm
 show WT _ _ [(2,pQ c),(30,j),(31,iV (b.Rules.length:Int)),(32,iV s1)] (St w0 d [(c,.cells #[e,f] 47 (0,0))] [])
 unfold cI at h
 refine att 5 [] J ?_
 refine ch h J ?_ ?_ <;> intro h
 ·refine atr 6 [] J ?_
  obtain⟨i,I,h⟩:=bs h
  obtain⟨ab,F1,-,g1,ae,af,X⟩:=A.el (a8 I).2.2
  obtain⟨v1,G1,rfl,Y,h1⟩:=X
  obtain rfl:=Y.symm
  refine lia A I J<|lhx 0 1 g1 J ?_
  refine ln (ip (C:=#[.slice none 0 0]) od J) J (fun ag=>?_)
  refine la J<|soN 0 wx J ⟨h1.one,trivial⟩ J ?_
  refine arr 6 [1,32] J ?_
  obtain⟨w,L,h⟩:=bs h
  obtain⟨ah,F2,-,g2,ak,al,Z⟩:=F.el (a8 L).2.2
  obtain⟨v2,G2,v3,G3,rfl,rfl,G,M⟩:=Z
  refine lia F L J<|lhx 0 2 g2 J<|lnz rE J fun p=>soN 0 yH J ⟨G.one,M.one,trivial⟩ J ?_
  refine arr 6 [0,32] J<|lnr h1 J<|arr 2 [0,0] J<|lnr G J<|la J<|en ?_
  refine ch h J ?_ ?_ <;> intro h
  ·refine att 4 [] J ?_
   exact rt B h
  refine atr 5 [0,32] J<|lnr h1 J<|art 3 [] J ?_
  refine lin (σ:=Int) (fun s=>[(2,pQ c),(7,pQ p),(30,j),(31,iV (b.Rules.length:Int)),(32,iV s1),(50,v1),(51,iV (i.Levels.length:Int)),(52,iV s)]) (fun s=>St w0 d [(p,.cells #[v2,v3] 141 (0,0)),(c,.cells #[e,f] 47 (0,0))] []) (fun m s=>cT N s1 (cI N q b t) i w m s=some r) (0) N h (sx [] [0,1]) (fun y a1 s hm=>?_)
  revert hm;revert s;intro s2 hm
  have h:cT N s1 (cI N q b t) i w (y+1) s2=some r:=hm
  show WT _ _ [(2,pQ c),(7,pQ p),(30,j),(31,iV (b.Rules.length:Int)),(32,iV s1),(50,v1),(51,iV (i.Levels.length:Int)),(52,iV s2)] (St w0 d [(p,.cells #[v2,v3] 141 (0,0)),(c,.cells #[e,f] 47 (0,0))] [])
  unfold cT at h
  refine att 5 [] J ?_
  refine ch h J ?_ ?_ <;> intro h
  ·refine atr 6 [] J ?_
   obtain⟨u,O,h⟩:=bs h
   obtain⟨an,F3,-,g3,ao,aq,r3⟩:=h1.el (a8 O).2.2
   obtain⟨v4,G4,rfl,a7,D⟩:=r3
   obtain rfl:=a7.symm
   refine lia h1 O J<|lhx 0 1 g3 J ?_
   refine ln (ip (C:=#[.slice none 0 0]) rG J) J (fun E=>?_)
   refine la J<|soN 0 Ar J ⟨D.one,trivial⟩ J ?_
   refine arr 11 [0,32] J<|lnr G J<|art 3 [] J ?_
   refine cut (σ:=Int) (fun s=>[(2,pQ c),(7,pQ p),(8,iV s2),(9,pQ E),(10,iV s),(30,j),(31,iV (b.Rules.length:Int)),(32,iV s1),(50,v1),(51,iV (i.Levels.length:Int)),(52,iV s2)]) (fun s=>St w0 d [(E,.cells #[v4] 103 (0,0)),(p,.cells #[v2,v3] 141 (0,0)),(c,.cells #[e,f] 47 (0,0))] []) (fun s=>iE N s2 (cT N s1 (cI N q b t) i w y) u s=some r) (fun s hm=>?_) (fun K=>?_)
   ·clear h
    revert hm;revert s;intro v hm
    have h:iE N s2 (cT N s1 (cI N q b t) i w y) u v=some r:=hm
    show WT _ _ [(2,pQ c),(7,pQ p),(8,iV s2),(9,pQ E),(10,iV v),(30,j),(31,iV (b.Rules.length:Int)),(32,iV s1),(50,v1),(51,iV (i.Levels.length:Int)),(52,iV s2)] (St w0 d [(E,.cells #[v4] 103 (0,0)),(p,.cells #[v2,v3] 141 (0,0)),(c,.cells #[e,f] 47 (0,0))] [])
    unfold iE at h
    refine atr 4 [0,0] J<|lnr D J<|art 3 [] J ?_
    refine lin (σ:=Int) (fun s=>[(2,pQ c),(7,pQ p),(8,iV s2),(10,iV v),(30,j),(31,iV (b.Rules.length:Int)),(32,iV s1),(50,v1),(51,iV (i.Levels.length:Int)),(52,iV s2),(67,v4),(68,iV (u.Toks.length:Int)),(69,iV s)]) (fun s=>St w0 d [(p,.cells #[v2,v3] 141 (0,0)),(c,.cells #[e,f] 47 (0,0))] []) (fun m s=>fq N s2 (cT N s1 (cI N q b t) i w y) u v m s=some r) (0) N h (sx [] [1,1]) (fun n4 aa s hm=>?_)
    revert hm;revert s;intro H hm
    have h:fq N s2 (cT N s1 (cI N q b t) i w y) u v (n4+1) H=some r:=hm
    show WT _ _ [(2,pQ c),(7,pQ p),(8,iV s2),(10,iV v),(30,j),(31,iV (b.Rules.length:Int)),(32,iV s1),(50,v1),(51,iV (i.Levels.length:Int)),(52,iV s2),(67,v4),(68,iV (u.Toks.length:Int)),(69,iV H)] (St w0 d [(p,.cells #[v2,v3] 141 (0,0)),(c,.cells #[e,f] 47 (0,0))] [])
    unfold fq at h
    refine att 5 [] J ?_
    refine ch h J ?_ ?_ <;> intro h
    ·refine atr 5 [] J ?_
     obtain⟨x4,P,h⟩:=bs h
     obtain⟨ar,F4,-,g4,au,av,r4⟩:=D.el (a8 P).2.2
     obtain⟨v5,G5,v6,G6,rfl,rfl,Q,R⟩:=r4
     refine lia D P J<|lhx 0 2 g4 J<|lnz ib J fun aw=>soN 0 oX J ⟨Q.one,R.one,trivial⟩ J ?_
     refine arr 5 [0,0] J<|lnr Q J<|arr 4 [] J ?_
     obtain⟨b2,z,h⟩:=bs h
     refine WL.cutN 6 [(85,.bool b2),(2,pQ c),(7,pQ p),(8,iV s2),(10,iV v),(30,j),(31,iV (b.Rules.length:Int)),(32,iV s1),(50,v1),(51,iV (i.Levels.length:Int)),(52,iV s2),(67,v4),(68,iV (u.Toks.length:Int)),(69,iV H)] ?_ (fun K=>?_)
     rotate_left
     ·refine sp 79 z J (fun z=>?_) fun z=>?_
      ·refine arr 6 [] J ?_
       cases z
       exact ku K
      ·refine arr 2 [1,0] J<|ly J J<|lnr R J<|arr 3 [] J ?_
       cases z
       exact ku K
     refine en ?_
     refine ch h J ?_ ?_ <;> intro h
     ·refine att 4 [] J ?_
      exact rt B h
     refine att 6 [] J ?_
     exact lb [] [1,1] (aa _ h)
    refine att 6 [] J ?_
    exact lb [] [0,0] (a1 _ h)
   refine ch h J ?_ ?_ <;> intro h
   ·refine atr 3 [1,32] J<|lnr M J<|la J<|en ?_
    exact wo [] [0,0,0] (K _ h)
   refine WT.skip ?_
   exact wo [] [0,0,0] (K _ h)
  refine att 6 [] J ?_
  exact lb [] [1] (W _ h)
 refine att 5 [] J ?_
 exact rt B h
theorem zo (w0:aD a d []) (t:bv) (m:ce) (u:aN) (p:ac) (s:Int) (B:RSl fb 5 a n e t.Rules) (v:RSl cK 4 a a6 k m.Alphas) (w:RSl eA 2 a ad j m.Chains) (C:RSl im 1 a bX aj u.Alphas) (D:RSl l7 1 a bj aE u.Rules) (x:RSl aY 3 a b6 b0 p.Items) {r:Bool} (h:pu N t m u p s=some r) :
  CB w0 prog 67 [.agg [.string t.Name,e].toArray,.agg [k,j].toArray,.agg [aj,aE].toArray,.agg [b0,iV p.Next].toArray,iV s] (.bool r):=by
 refine eN func67 J ntmps67 J w0 fun y=>?_
 unfold pu at h
 refine sr<|lbx J fun I=>lbx J fun E=>lbx J fun F=>lbx J fun A=>arr 7 [66,98] J<|qd h (AV N · m t v w B ·) J J J fun L h=>arr 2 [] J ?_
 obtain⟨G,c,h⟩:=bs h
 refine WL.cutN 4 [(21,.bool G),(4,iV s),(6,pQ E),(7,pQ F),(8,pQ A)] ?_ (fun K=>?_)
 rotate_left
 ·refine sp 17 c J (fun c=>?_) fun c=>?_
  ·refine arr 4 [] J ?_
   cases c
   exact ku K
  ·refine ly J J<|ld2 mD 0 J<|ly J J<|qd c (mr N · p x ·) J J J fun M c=>arr 2 [] J ?_
   cases c
   exact ku K
 refine la J ?_
 obtain⟨H,i,h⟩:=bs h
 refine WL.cutN 5 [(27,.bool H),(4,iV s),(8,pQ A)] ?_ (fun K=>?_)
 rotate_left
 ·refine sp 22 i J (fun i=>?_) fun i=>?_
  ·refine arr 5 [] J ?_
   cases i
   exact ku K
  ·refine arr 2 [66,34] J<|ly J J<|qd i (zr N · m u v w C D ·) J J J fun O i=>arr 2 [] J ?_
   cases i
   exact ku K
 refine en ?_
 refine ch h J ?_ ?_ <;> intro h
 ·refine att 4 [] J ?_
  exact rt y h
 refine atr 5 [2] J<|kab h J J J (fun b z q=>nv N b p s (x.y z) q) ?_
 rintro P h v1 Q R ⟨S,T,v2,rfl,rfl,h1⟩
 refine arr 3 [] J<|lnz lz J fun U=>soN 0 mC J ⟨J,h1.one,trivial⟩ J ?_
 refine art 7 [] J ?_
 exact rt y h
theorem xT (w0:aD a d []) (c:bv) (m:ce) (p:aN) (t:ac) (u:Int) (C:RSl fb 5 a n e c.Rules) (D:RSl cK 4 a a6 k m.Alphas) (E:RSl eA 2 a ad j m.Chains) (F:RSl im 1 a bX aj p.Alphas) (G:RSl l7 1 a bj aE p.Rules) (H:RSl aY 3 a b6 b0 t.Items) {r:aN} (h:nR N c m p t u=some r) :
  Calls prog 21 [.agg [.string c.Name,e].toArray,.agg [k,j].toArray,.agg [aj,aE].toArray,.agg [b0,iV t.Next].toArray,iV u].toArray w0.w (bc d w0.w [] (fun I Fs v=>∃ (w:Value) (L:List Nat) (x:Value) (M:List Nat),v = .agg [w,x].toArray∧Fs=[ob w,L,ob x,M]∧OSl bA 133 1 I L w r.Alphas∧OSl br 100 1 I M x r.Rules)):=by
 refine eN func21 J ntmps21 J w0 fun Q=>?_
 unfold nR at h
 refine sr<|lbx J fun X=>lbx J fun Y=>lbx J fun Z=>lbx J fun a1=>lnz o8 J fun O=>arr 4 [66] J<|kab h J J J (fun b z q=>yR N b p (F.y z) (G.y z) q) ?_
 rintro R h v1 a7 F1 ⟨a8,aa,v2,D1,v3,D2,rfl,rfl,h1,y⟩
 refine lnz o8 J fun P=>soN 0 pZ J ⟨h1.one,y.one,trivial⟩ J ?_
 refine arr 9 [162,130,98,66] J<|qd h (zo N · c m p t u C D E F G H ·) J J J fun x2 h=>en ?_
 refine cut (σ:=Hp × (List bF) × List Nat × (List aP) × List Nat) (fun s=>[(10,pQ O),(11,pQ P)]) (fun s=>St w0 s.1 [(P,.cells #[v2,v3] 35 (0,0)),(O,.cells #[.slice none 0 0,.slice none 0 0] 35 (0,0))] [ob v2,s.2.2.1,ob v3,s.2.2.2.2]) (fun s=>jZ N s.2.1 s.2.2.2.1=some r∧(OSl bA 133 1 s.1 s.2.2.1 v2 s.2.1)∧(OSl br 100 1 s.1 s.2.2.2.2 v3 s.2.2.2.1)) (fun s hm=>?_) (fun K=>?_)
 ·clear h
  obtain⟨ab,s1,S,s2,T⟩:=s
  obtain⟨h,A,B⟩:=hm
  dsimp only at h A B ⊢
  unfold jZ at h
  refine atr 3 [2] J<|soN 1 pZ J ⟨A.one,B.one,trivial⟩ J ?_
  refine en ?_
  exact rtg [0,0,0,0] Q (az.one (aX wK J (fun U hw=>hw.rgO (i:=1) J 0 2 [v2,v3] J) J)) J (by cases h;exact fun U hw=>⟨v2,S,v3,T,rfl,rfl,A,B⟩)
 refine ch h J ?_ ?_ <;> intro h
 ·refine atr 6 [162,130,2,66] J<|kcb [0,0,0,0] h J J J J (fun b ap z q=>tg N b c m R t u (C.y z) (D.y z) (E.y z) h1 y (H.y z) q) ?_
  rintro x3 h v4 ae F2 ⟨af,ag,D5,D6,rfl,rfl,V,W⟩
  refine en ?_
  exact wo [0,0,0,0] [0,0] (K (_,_,_,_,_) ⟨h,V,W⟩)
 refine WT.skip ?_
 exact wo [0,0,0,0] [0,0] (K (_,_,_,_,_) ⟨h,h1,y⟩)
theorem lK {c:Nat} {i:List Value} (w0:aD a d []) (b:(List a7)) (p:a7→Option (Bool)) (u:RSl dO 3 a o g b) (z:Fun prog c=true) (A:∀ {q:Hp} {w':World},FrH [] d q→In q w'→∀ (t:a7) {v:Value} {B:List Nat} {w:Value} {C:List Nat} (_:RSl (RI .i64) 1 q B v t.Ids) (_:RSl aJ 4 q C w t.Binds) {r:Bool},p t=some r→Calls prog c (([.agg [iV t.Rule,v,w].toArray]:List Value)++i).toArray w' (lw (.bool r) w')) {r:Int} (h:dp N b p=some r) :
  CB w0 prog 136 [g,.func (.func c) #[] i.toArray] (iV r):=by
 refine eN func136 J ntmps136 J w0 fun x=>?_
 unfold dp at h
 refine atr 8 [] J<|lnr u J<|art 3 [] J ?_
 refine lin (σ:=Int) (fun s=>[(0,g),(1,.func (.func c) #[] i.toArray),(7,iV (b.length:Int)),(8,iV s)]) (fun s=>St w0 d [] []) (fun m s=>bb N b p m s=some r) (0) N h (sx [] []) (fun D E s hm=>?_)
 revert hm;revert s;intro s1 hm
 have h:bb N b p (D+1) s1=some r:=hm
 show WT _ _ [(0,g),(1,.func (.func c) #[] i.toArray),(7,iV (b.length:Int)),(8,iV s1)] (St w0 d [] [])
 unfold bb at h
 refine att 5 [] J ?_
 refine ch h J ?_ ?_ <;> intro h
 ·refine atr 13 [] J ?_
  obtain⟨F,y,h⟩:=bs h
  obtain⟨K,L,-,g1,M,O,G⟩:=u.el (a8 y).2.2
  obtain⟨v1,P,v2,Q,rfl,rfl,h1,H⟩:=G
  refine lia u y J<|lhx 0 3 g1 J ?_
  obtain⟨R,I,h⟩:=bs h
  refine lp (kK z J J (fun S hw=>A hw.frB hw.fro F (h1.y hw.up) (H.y hw.up) I)) J<|en ?_
  refine ch h J ?_ ?_ <;> intro h
  ·refine att 5 [] J ?_
   exact rt x h
  refine att 6 [] J ?_
  exact lb [] [] (E _ h)
 refine att 5 [] J ?_
 exact rt x h
theorem kP {i:Nat} {q:List Value} (w0:aD a d []) (m:(List a7)) (p:a7→Option (Bool)) (u:RSl dO 3 a o g m) (v:Fun prog i=true) (w:∀ {b:Hp} {w':World},FrH [] d b→In b w'→∀ (c:a7) {s:Value} {x:List Nat} {t:Value} {y:List Nat} (_:RSl (RI .i64) 1 b x s c.Ids) (_:RSl aJ 4 b y t c.Binds) {r:Bool},p c=some r→Calls prog i (([.agg [iV c.Rule,s,t].toArray]:List Value)++q).toArray w' (lw (.bool r) w')) {r:Bool} (h:cW N m p=some r) :
  CB w0 prog 69 [g,.func (.func i) #[] q.toArray] (.bool r):=by
 refine eN func69 J ntmps69 J w0 fun z=>?_
 unfold cW at h
 refine atr 8 [] J ?_
 obtain⟨C,A,h⟩:=bs h
 refine lp (jk IU J (fun D hw=>lK N (ba hw.fro) m p (u.y hw.up) v (fun B=>w (hw.frX (Ap.none _ _ []) B)) A)) J<|art 3 [] J ?_
 exact rt z h
theorem uy (w0:aD a d []) (b:a7) (c:a7) (i:RSl (RI .i64) 1 a n e b.Ids) (m:RSl aJ 4 a ai f b.Binds) (p:RSl (RI .i64) 1 a pGc0_0 b9 c.Ids) (q:RSl aJ 4 a pGc0_1 bY c.Binds) (s:a b7=some (.cells #[iV c.Rule,b9,bY] 63 (0,0))) {r:Bool} (h:ic N b c=some r) :
  CB w0 prog 70 [.agg [iV b.Rule,e,f].toArray,pQ b7] (.bool r):=by
 refine eN func70 J ntmps70 J w0 fun t=>?_
 unfold ic at h
 refine sr<|lbx J fun u=>arr 5 [3] J<|lhx 0 3 (bP s) J<|qd h (rj N · b c i m p q ·) J J J fun v h=>la J<|en ?_
 exact rt t h
theorem xj (w0:aD a d []) (i:(List a7)) (c:a7) (p:RSl dO 3 a o g i) (s:RSl (RI .i64) 1 a a6 k c.Ids) (t:RSl aJ 4 a ad j c.Binds) {r:Bool} (h:ml N i c=some r) :
  CB w0 prog 22 [g,.agg [iV c.Rule,k,j].toArray] (.bool r):=by
 refine eN func22 J ntmps22 J w0 fun u=>?_
 unfold ml at h
 refine sr<|lbx J fun y=>arr 5 [] J ?_
 refine WL.frz (js:=[0]) (R:=[]) J (fun A B v=>?_)
 refine lq (xV J) J<|qz h (fun b z q=>kP N b i (fun a0=>ic N a0 c) (p.y z) KQ (fun m w a0=>fun f0 f1=>fun x=>uy N (ba w) a0 c f0 f1 ((s.y z).frame RI.lasts m dE) ((t.y z).frame aJ.lasts m dE) (m _ _ NS v) x) q) J J J fun C h=>la J<|en ?_
 exact rt u h
theorem CV (w0:aD a d []) (c:(List Int)) (b:Int) (i:RSl (RI .i64) 1 a o g c) {r:Bool} (h:va N c b=some r) :
  CB w0 prog 23 [g,iV b] (.bool r):=by
 refine eN func23 J ntmps23 J w0 fun p=>?_
 unfold va at h
 refine att 10 [] J ?_
 refine lin (σ:=Int) (fun s=>[(0,g),(1,iV b),(5,iV s)]) (fun s=>St w0 d [] []) (fun m s=>kr N c b m s=some r) (0) N h (sx [] []) (fun t u s hm=>?_)
 revert hm;revert s;intro s1 hm
 have h:kr N c b (t+1) s1=some r:=hm
 show WT _ _ [(0,g),(1,iV b),(5,iV s1)] (St w0 d [] [])
 unfold kr at h
 refine atr 5 [] J<|lnr i J<|la J<|en ?_
 refine ch h J ?_ ?_ <;> intro h
 ·refine atr 7 [] J ?_
  obtain⟨w,q,h⟩:=bs h
  obtain⟨x,y,-,g1,z,A,v⟩:=i.el (a8 q).2.2
  obtain⟨rfl,-⟩:=v
  refine lia i q J<|lhx 0 0 g1 J<|art 3 [] J ?_
  refine ch h J ?_ ?_ <;> intro h
  ·refine att 4 [] J ?_
   exact rt p h
  refine att 7 [] J ?_
  exact lb [] [] (u _ h)
 refine att 5 [] J ?_
 exact rt p h
theorem zH (w0:aD a d []) (S:(List Int)) (ae:RSl (RI .u8) 1 a o g S) {r:Bool} (h:pG N S=some r) :
  CB w0 prog 4 [g] (.bool r):=by
 refine eN func4 J ntmps4 J w0 fun hF=>?_
 unfold pG at h
 refine atr 8 [] J<|qd h (CF N · S ae ·) J J J fun x1 h=>en ?_
 refine ch h J ?_ ?_ <;> intro h
 ·refine att 4 [] J ?_
  exact rt hF h
 refine atr 4 [] J<|kab h J J J (fun b z q=>xO N b S (ae.y z) q) ?_
 rintro i h v1 aQ F1 ⟨aR,aS,v2,D1,v3,D2,v4,D3,v5,D4,v6,D5,v7,D6,X1,rfl,rfl,h1,C,i1,D,y,A,u,i2⟩
 refine arr 5 [] J<|lnz yW J fun O=>lnz sI J fun ax=>lnz o8 J fun ay=>lnz o3 J fun ah=>soN 3 Ak J ⟨J,h1.one,trivial⟩ J ?_
 refine soN 2 uO J ⟨C.one,D.one,trivial⟩ J ?_
 refine soN 1 pZ J ⟨y.one,A.one,trivial⟩ J ?_
 refine soN 0 qb J ⟨u.one,J,trivial⟩ J ?_
 refine arr 4 [] J<|kab h J J J (fun b z q=>wg N b S (ae.y z) q) ?_
 rintro x4 h v8 aT F2 ⟨v,P,v9,D7,v10,X2,rfl,rfl,h7,i3,G⟩
 replace h1:=h1.fr P (v.q 0 J) (v.q 1 J)
 replace C:=C.fr P (v.q 2 J) (Dj.sub (v.q 10 J) i1)
 replace D:=D.fr P (v.q 3 J) (v.q 4 J)
 replace y:=y.fr P (v.q 5 J) (v.q 6 J)
 replace A:=A.fr P (v.q 7 J) (v.q 8 J)
 replace u:=u.fr P (v.q 9 J) (Dj.sub (v.q 10 J) i2)
 refine arr 3 [] J<|lnz o3 J fun aU=>lnz lz J fun ak=>soN 1 qb J ⟨h7.one,J,trivial⟩ J ?_
 refine soN 0 mC J ⟨J,G.one,trivial⟩ J ?_
 refine arr 6 [162,98,66] J<|kab h J J J (fun b z q=>vD N b i.1 i.2.2.1 i.2.2.2 (h1.rslG dT.gives) (y.rslG bA.gives) (A.rslG br.gives) u.rsl q) ?_
 rintro x6 h v11 aV F3 ⟨t,H,v12,D8,rfl,rfl,I⟩
 replace h1:=h1.fr H (t.q 3 J) (t.q 4 J)
 replace C:=C.fr H (t.q 5 J) (Dj.sub (t.q 13 J) i1)
 replace D:=D.fr H (t.q 6 J) (t.q 7 J)
 replace y:=y.fr H (t.q 8 J) (t.q 9 J)
 replace A:=A.fr H (t.q 10 J) (t.q 11 J)
 replace u:=u.fr H (t.q 12 J) (Dj.sub (t.q 13 J) i2)
 replace G:=G.fr H (t.q 1 J) dN
 refine arr 6 [66,2] J<|kab h J J J (fun b z q=>zg N b i.2.2.2 x4.2 u.rsl G.rsl q) ?_
 rintro c h aW aX F4 ⟨p,E,a1,D9,X3,rfl,rfl,w,i4⟩
 replace h1:=h1.fr E (p.q 5 J) (p.q 6 J)
 replace C:=C.fr E (p.q 7 J) (Dj.sub (p.q 15 J) i1)
 replace D:=D.fr E (p.q 8 J) (p.q 9 J)
 replace y:=y.fr E (p.q 10 J) (p.q 11 J)
 replace A:=A.fr E (p.q 12 J) (p.q 13 J)
 replace u:=u.fr E (p.q 14 J) (Dj.sub (p.q 15 J) i2)
 replace G:=G.fr E (p.q 3 J) dN
 replace I:=I.fr E (p.q 0 J) (p.q 1 J)
 refine arr 4 [] J<|lnz o3 J fun Q=>soN 0 qb J ⟨w.one,J,trivial⟩ J ?_
 refine arr 9 [] J ?_
 obtain⟨b1,T,h⟩:=bs h
 refine WL.cutN 8 [(52,.bool b1),(3,pQ O),(4,pQ ax),(5,pQ ay),(6,pQ ah),(8,pQ ak),(9,v11),(10,pQ Q),(11,iV c.2.1),(12,.bool c.2.2)] ?_ (fun K=>?_)
 rotate_left
 ·refine sp 44 T J (fun T=>?_) fun T=>?_
  ·refine arr 8 [] J ?_
   cases T
   exact ku K
  ·refine arr 2 [0,0] J<|ly J J<|lno w J<|arr 2 [0,96] J<|ly J J<|lno u J<|arr 2 [] J ?_
   cases T
   exact ku K
 refine en ?_
 refine ch h J ?_ ?_ <;> intro h
 ·refine atr 5 [] J ?_
  obtain⟨b2,U,h⟩:=bs h
  refine WL.cutN 5 [(60,.bool b2),(6,pQ ah),(8,pQ ak),(11,iV c.2.1),(12,.bool c.2.2)] ?_ (fun K=>?_)
  rotate_left
  ·refine sp 55 U J (fun U=>?_) fun U=>?_
   ·refine arr 2 [0,96] J<|ly J J<|lno u J<|arr 2 [] J ?_
    cases U
    exact ku K
   ·refine arr 5 [] J ?_
    cases U
    exact ku K
  refine la J ?_
  obtain⟨b3,L,h⟩:=bs h
  refine WL.cutN 9 [(70,.bool b3)] ?_ (fun K=>?_)
  rotate_left
  ·refine sp 61 L J (fun L=>?_) fun L=>?_
   ·refine arr 9 [] J ?_
    cases L
    exact ku K
   ·refine arr 2 [] J ?_
    obtain⟨b4,M,L⟩:=bs L
    refine WL.cutN 6 [(69,.bool b4),(61,.bool false)] ?_ (fun K=>?_)
    rotate_left
    ·refine sp 63 M J (fun M=>?_) fun M=>?_
     ·refine arr 2 [98,34] J<|ly J J<|qc M (wH N · i.2.2.2 x4.2 u.rsl G.rsl ·) J J J fun x9 M=>arr 3 [] J ?_
      cases M
      exact ku K
     ·refine arr 6 [] J ?_
      cases M
      exact ku K
    refine la J ?_
    cases L
    exact ku K
  refine la J<|en ?_
  exact rt hF h
 refine atr 8 [194,162,130,2] J<|kab h J J J (fun b z q=>xT N b i.1 i.2.1 i.2.2.1 c.1 c.2.1 (h1.rslG dT.gives) C.rsl (D.rslG bJ.gives) (y.rslG bA.gives) (A.rslG br.gives) w.rsl q) ?_
 rintro a7 h aY aZ F5 ⟨R,af,aa,al,v17,an,rfl,rfl,V,W⟩
 replace h1:=h1.fr af (R.q 7 J) (R.q 8 J)
 replace w:=w.fr af (R.q 0 J) (Dj.sub (R.q 1 J) i4)
 replace I:=I.fr af (R.q 2 J) (R.q 3 J)
 refine lnz o8 J fun X=>soN 0 pZ J ⟨V.one,W.one,trivial⟩ J ?_
 refine arr 6 [226,2,34] J<|kab h J J J (fun b z q=>vD N b i.1 a7 c.1 (h1.rslG dT.gives) (V.rslG bA.gives) (W.rslG br.gives) w.rsl q) ?_
 rintro ag h Y ab F6 ⟨x,Z,ba,ao,rfl,rfl,F⟩
 replace h1:=h1.fr Z (x.q 11 J) (x.q 12 J)
 replace w:=w.fr Z (x.q 4 J) (Dj.sub (x.q 5 J) i4)
 replace V:=V.fr Z (x.q 0 J) (x.q 1 J)
 replace W:=W.fr Z (x.q 2 J) (x.q 3 J)
 replace I:=I.fr Z (x.q 6 J) (x.q 7 J)
 refine art 8 [] J ?_
 refine lin (σ:=Int) (fun s=>[(3,pQ O),(9,v11),(10,pQ Q),(11,iV c.2.1),(13,pQ X),(14,Y),(15,iV s)]) (fun s=>St w0 ab [(X,.cells #[aa,v17] 35 (0,0)),(Q,.cells #[a1,iV c.1.Next] 29 (0,0)),(O,.cells #[.string i.1.Name,v2] 26 (0,0))] [ob Y,ao,ob aa,al,ob v17,an,ob a1,X3,ob v11,D8,ob v2,D1]) (fun m s=>gO N i x6 c a7 ag m s=some r) (0) N h (sx [0,0,0,0,0,0,0,0,0,0,3,3] [0,0,5]) (fun n1 az s hm=>?_)
 revert hm;revert s;intro s1 hm
 have h:gO N i x6 c a7 ag (n1+1) s1=some r:=hm
 show WT _ _ [(3,pQ O),(9,v11),(10,pQ Q),(11,iV c.2.1),(13,pQ X),(14,Y),(15,iV s1)] (St w0 ab [(X,.cells #[aa,v17] 35 (0,0)),(Q,.cells #[a1,iV c.1.Next] 29 (0,0)),(O,.cells #[.string i.1.Name,v2] 26 (0,0))] [ob Y,ao,ob aa,al,ob v17,an,ob a1,X3,ob v11,D8,ob v2,D1])
 unfold gO at h
 refine atr 5 [] J<|lno F J<|la J<|en ?_
 refine ch h J ?_ ?_ <;> intro h
 ·refine atr 8 [] J ?_
  obtain⟨aA,aq,h⟩:=bs h
  obtain⟨bb,F7,-,g1,bc,bd,r1⟩:=F.elS (a8 aq).2.2
  obtain⟨v20,v21,rfl,rfl,aB,aC⟩:=r1
  have aF:=aB.rsl
  have aG:=aC.rsl
  refine lio F aq J<|lgx 0 3 g1 J<|qc h (xj N · x6 aA (I.rslG aO.gives) aF aG ·) J J J fun be h=>arr 7 [] J ?_
  obtain⟨b5,B,h⟩:=bs h
  refine WL.cutN 9 [(104,.bool b5),(3,pQ O),(9,v11),(10,pQ Q),(11,iV c.2.1),(13,pQ X),(14,Y),(15,iV s1)] ?_ (fun K=>?_)
  rotate_left
  ·refine sp 95 B J (fun B=>?_) fun B=>?_
   ·refine arr 2 [] J<|ly J J ?_
    obtain⟨aH,ar,B⟩:=bs B
    obtain⟨bf,F8,-,g2,bg,bh,r2⟩:=F.elS (a8 ar).2.2
    obtain⟨v22,v23,rfl,rfl,aI,aJ⟩:=r2
    have aK:=aI.rsl
    have bk:=aJ.rsl
    refine lio F ar J<|ly J J<|lf GY J J J<|ly J J<|lgx 1 0 g2 J<|ly J J<|la J<|ly J J<|qc B (CV N · aH.Ids c.2.1 aK ·) J J J fun bl B=>arr 2 [] J ?_
    cases B
    exact ku K
   ·refine arr 9 [] J ?_
    cases B
    exact ku K
  refine en ?_
  refine ch h J ?_ ?_ <;> intro h
  ·refine att 4 [] J ?_
   exact rt hF h
  refine att 7 [] J ?_
  exact lb [0,0,0,0,0,0,0,0,0,0,0,0] [0,0,0] (az _ h)
 refine atr 6 [66,2,34] J<|qc h (xd N · i.1 a7 c.1 (h1.rslG dT.gives) (V.rslG bA.gives) (W.rslG br.gives) w.rsl ·) J J J fun bm h=>la J ?_
 refine WL.cutS 6 (σ:=Hp × Bool) (fun s=>[(115,.bool s.2)]) (fun s=>St w0 s.1 [] []) (fun s=>jx N s.2=some r) (fun s hm=>?_) (fun K=>?_)
 ·clear h
  obtain⟨aL,s2⟩:=s
  have h:jx N s2=some r:=hm
  show WL _ _ _ _ [(115,.bool s2)] (St w0 aL [] [])
  unfold jx at h
  refine la J<|en ?_
  exact rt hF h
 refine sp 109 h J (fun h=>?_) fun h=>?_
 ·refine arr 3 [66,34] J<|ly J J<|kab h J J J (fun b z q=>uR N b i.1 c.1 (h1.rslG dT.gives) w.rsl q) ?_
  rintro aM h v24 au F9 ⟨av,aN,v25,bn,X4,rfl,rfl,aP,i5⟩
  replace F:=F.fr aN (av.q 0 J) (av.q 1 J)
  refine ly J J<|qc h (yQ N · ag aM (F.rslG aO.gives) aP.rsl ·) J J J fun aw h=>la J<|WL.mono (l':=[(115,.bool aw)]) (S':=St w0 au [] []) (by exact⟨rfl,trivial⟩) (sx [] []) ?_
  exact K (au,aw) h
 refine arr 6 [] J<|WL.mono (l':=[(115,.bool false)]) (S':=St w0 ab [] []) (by exact⟨rfl,trivial⟩) (sx [] []) ?_
 exact K (ab,false) h
end Go.Proofs.YtedmfnmbjglmbaaGreat
