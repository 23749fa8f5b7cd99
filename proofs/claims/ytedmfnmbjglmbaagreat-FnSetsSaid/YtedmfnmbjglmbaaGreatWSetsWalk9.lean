/- Printed by a program of ours: each Go function computes its Lean function. -/
import Derived.Test.YtedmfnmbjglmbaaGreatProg
import Derived.Test.YtedmfnmbjglmbaaGreatWSetsWalk8
namespace Go.Proofs.YtedmfnmbjglmbaaGreat
open Eng Tryz
open Go.RowKit (Below)
set_option linter.unusedVariables false
set_option linter.unusedSimpArgs false

set_option maxRecDepth 100000
set_option maxHeartbeats 1000000
variable {n Φ:Hp} {l p u e a1 b0 j g b5 ca cf f a6 b8 aE:Value} {b6 c6 c9 b7 c3 cb b9 ar c8 b4 c7 pG1_2 pG3 pG2_1 ad pG4_0 pG6_0 pG7 c0:List Nat} {t a:Nat} (N:Nat)
theorem t7 (w0:av n Φ [ob a1,c3].flatten) (c:ai) (d:ag) (U:(List ah)) (o:aH) (k:Int) (ab:RSl bN 3 n b6 l c.Pats) (af:RSl bl 11 n c6 p c.Conds) (aj:RSl dK 5 n c9 u c.Acts) (ay:RSl bj 3 n b7 e d.Items) (aB:OSl aF 105 2 Φ c3 a1 U) (aD:RSl aX 3 n cb b0 o.Fields) {r:(List ah)} (h:lx N c d U o k=some r) :
  Calls prog 193 [.agg [.string c.Name,iV c.Sal,l,p,u].toArray,.agg [e,iV d.Next].toArray,a1,.agg [.string o.Kind,b0].toArray,iV k].toArray w0.w (be Φ w0.w [ob a1,c3].flatten (fun aG Fs v=>∃ (al:List Nat),v = .tuple #[]∧Fs=[ob a1,al]∧OSl aF 105 2 aG al a1 r)):=by
 refine eL func193 J ntmps193 J (L:=[ob a1,c3]) w0 (fun hF=>?_)
 unfold lx at h
 refine sr<|lbx J fun B=>lbx J fun C=>lbx J fun E=>art 6 [] J ?_
 refine lin (σ:=Hp × (List ah) × List Nat × Int) (fun s=>[(2,a1),(4,iV k),(5,pQ B),(6,pQ C),(8,pQ E),(10,iV s.2.2.2)]) (fun s=>St w0 s.1 [(E,.cells #[.string o.Kind,b0] 52 (0,0)),(C,.cells #[e,iV d.Next] 29 (0,0)),(B,.cells #[.string c.Name,iV c.Sal,l,p,u] 87 (0,0))] [ob a1,s.2.2.1]) (fun m s=>cD N c d o k m s.2.1 s.2.2.2=some r∧(OSl aF 105 2 s.1 s.2.2.1 a1 s.2.1)) (Φ,U,c3,0) N ⟨h,aB⟩ (sx [0,0] [0,0,0]) (fun n1 aI s hm=>?_)
 obtain⟨an,s1,V,s2⟩:=s
 obtain⟨h,w⟩:=hm
 dsimp only at h w ⊢
 unfold cD at h
 refine atr 5 [] J<|lno w J<|la J<|en ?_
 refine ch h J ?_ ?_ <;> intro h
 ·refine att 4 [] J<|WT.mix (Kn w0 an (ob a1) [(E,.cells #[.string o.Kind,b0] 52 (0,0)),(C,.cells #[e,iV d.Next] 29 (0,0)),(B,.cells #[.string c.Name,iV c.Sal,l,p,u] 87 (0,0))]) (fun _=>true) mixed (fun _ h=>h.drew)<|mq 0 J MA (kn Kf.id (ai3 0 1 2 J J J)) (aC o7 J (fun x hw=>hw.rgO (i:=2) J 0 5 [.string c.Name,iV c.Sal,l,p,u] J) J) J ?_
  refine mq 1 J MA (kn Kf.id (ai3 0 1 2 J J J)) (aC rm J (fun x hw=>hw.rgO (i:=1) J 0 2 [e,iV d.Next] J) J) J<|ma 2 J MA (kn Kf.id (ai3 0 1 2 J J J)) J<|ma 3 J MA (kn Kf.id (ai3 0 1 2 J J J)) J ?_
  obtain⟨x1,ao,h⟩:=bs h
  obtain⟨aZ,F1,-,g1,aJ,b2,r1⟩:=w.elS (aa ao).2.2
  obtain⟨v1,v2,rfl,rfl,h1,h2⟩:=r1
  have h3:=h1.rsl
  have h4:=h2.rsl
  refine mq 4 J MA (kn Kf.id (ai3 0 1 2 J J J)) (ae ci J J w.rsl ao) J<|mq 5 J MA (kn Kf.id (ai3 0 1 2 J J J)) (ak oD J) J<|mq 6 J MA (kn Kf.id (ai3 0 1 2 J J J)) (az lz J (fun x hw=>hw.rg aJ (g1.of_eq 0 1 J J:rg _ _ _ [v1]))) J ?_
  obtain⟨P,aK,h⟩:=bs h
  refine WM.one 7 MA (mc J (fun _ v b3 D x hq hw=>Kn.of (Kf.id.st hq.2.1 (hq.1.r (i:=0) J)) (ai3 0 1 2 J J J) hw) (bt (js:=[]) (R:=[ob a1,V]) Ic J J (fun x hw ap hl=>o6 N (ba hw.fro) c d x1.Ids (ab.y hw.up) (af.y hw.up) (aj.y hw.up) (ay.y hw.up) h3  aK)) J ?_)
  rintro v3 bb F2 ⟨W,aq,v4,rfl,rfl,h5⟩
  replace w:=w.fr aq (W.q 0 J) (W.q 1 J)
  have H:=(Kf.id (F:=(ob a1)):Kf an _ _).st aq (W.q 0 J)
  refine ma 8 J MA (kn H (ai3 0 1 2 J J J)) J<|ma 9 J MA (kn H (ai3 0 1 2 J J J)) J<|ma 10 J MA (kn H (ai3 0 1 2 J J J)) J<|ma 11 J MA (kn H (ai3 0 1 2 J J J)) J<|ma 12 J MA (kn H (ai3 0 1 2 J J J)) J<|WM.nil MA<|atr 5 [69,2] J<|kab h J J J (fun b z q=>tS N b c o P.1 (ab.y z) (af.y z) (aj.y z) (aD.y z) h5.rsl q) ?_
  rintro x3 h v5 aL F3 ⟨au,aM,v6,rfl,rfl,y⟩
  replace w:=w.fr aM (au.q 1 J) (au.q 2 J)
  refine art 7 [] J ?_
  refine lin (σ:=Hp × (List ah) × List Nat × Int) (fun s=>[(2,a1),(4,iV k),(5,pQ B),(6,pQ C),(8,pQ E),(10,iV s2),(12,.bool P.2),(13,v5),(14,iV s.2.2.2)]) (fun s=>St w0 s.1 [(E,.cells #[.string o.Kind,b0] 52 (0,0)),(C,.cells #[e,iV d.Next] 29 (0,0)),(B,.cells #[.string c.Name,iV c.Sal,l,p,u] 87 (0,0))] [ob v5,ob a1,s.2.2.1]) (fun m s=>dy N k s2 (cD N c d o k n1) P x3 m s.2.1 s.2.2.2=some r∧(OSl aF 105 2 s.1 s.2.2.1 a1 s.2.1)∧(OSl (RI .i64) 3 1 s.1 [] v5 x3)) (aL,s1,V,0) N ⟨h,w,y⟩ (sx [0,1,1] [0,0,0]) (fun n2 aN s hm=>?_)
  obtain⟨aO,s3,D2,s4⟩:=s
  obtain⟨h,X,y⟩:=hm
  dsimp only at h X y ⊢
  unfold dy at h
  refine atr 5 [] J<|lno y J<|arr 2 [] J ?_
  obtain⟨b1,I,h⟩:=bs h
  refine WL.cutN 2 [(42,.bool b1),(2,a1),(4,iV k),(5,pQ B),(6,pQ C),(8,pQ E),(10,iV s2),(12,.bool P.2),(13,v5),(14,iV s4)] ?_ (fun K=>?_)
  rotate_left
  ·refine sp 40 I J (fun I=>?_) fun I=>?_
   ·refine arr 2 [] J ?_
    cases I
    exact ku K
   ·refine arr 2 [] J ?_
    cases I
    exact ku K
  refine en ?_
  refine ch h J ?_ ?_ <;> intro h
  ·refine att 3 [] J ?_
   obtain⟨x4,Y,h⟩:=bs h
   obtain⟨bc,F4,Z,A,r2,H,aP⟩:=X.focus Y
   obtain⟨M,G,rfl,rfl,h8,O⟩:=r2
   refine wtL [ob M,ob G,Z,ob v5,ob a1] (sre [2] [ob M,ob G,Z] J (by simpa[gk] using aP))<|WT.mix (Kn w0 aO (ob a1++(ob G++ob v5)) [(E,.cells #[.string o.Kind,b0] 52 (0,0)),(C,.cells #[e,iV d.Next] 29 (0,0)),(B,.cells #[.string c.Name,iV c.Sal,l,p,u] 87 (0,0))]) (fun i=>match i with | 22=>false | _=>true) mixed (fun _ h=>h.drew)<|ma 0 J MA (kn Kf.id (ai3 0 1 2 J J J)) J<|ma 1 J MA (kn Kf.id (ai3 0 1 2 J J J)) J ?_
   refine mq 2 J MA (kn Kf.id (ai3 0 1 2 J J J)) (bw ci J J A Y) J<|mq 3 J MA (kn Kf.id (ai3 0 1 2 J J J)) (ak oH J) J<|mq 4 J MA (kn Kf.id (ai3 0 1 2 J J J)) (az lz J (fun x hw=>hw.rg (gb.2 (.inl A.hb)) (A.rg.of_eq 1 1 J J:rg _ _ _ [G]))) J<|ma 5 J MA (kn Kf.id (ai3 0 1 2 J J J)) J<|ma 6 J MA (kn Kf.id (ai3 0 1 2 J J J)) J<|ma 7 J MA (kn Kf.id (ai3 0 1 2 J J J)) J ?_
   refine mq 8 J MA (kn Kf.id (ai3 0 1 2 J J J)) (bw ci J J A Y) J<|mq 9 J MA (kn Kf.id (ai3 0 1 2 J J J)) (ak oH J) J<|mq 10 J MA (kn Kf.id (ai3 0 1 2 J J J)) (az lz J (fun x hw=>hw.rg (gb.2 (.inl A.hb)) (A.rg.of_eq 1 1 J J:rg _ _ _ [G]))) J<|ma 11 J MA (kn Kf.id (ai3 0 1 2 J J J)) J ?_
   obtain⟨Q,aw,h⟩:=bs h
   obtain⟨bd,F5,-,g2,aQ,bf,r3⟩:=O.elS (aa aw).2.2
   obtain⟨rfl,-⟩:=r3
   refine mq 12 J MA (kn Kf.id (ai3 0 1 2 J J J)) (ae aY J J O.rsl aw) J<|mq 13 J MA (kn Kf.id (ai3 0 1 2 J J J)) (az rd J (fun x hw=>hw.rg (gb.2 (.inr (gb.2 (.inl aQ)))) (g2.of_eq 0 1 J J:rg _ _ _ [iV Q]))) J<|ma 14 J MA (kn Kf.id (ai3 0 1 2 J J J)) J<|ma 15 J MA (kn Kf.id (ai3 0 1 2 J J J)) J<|ma 16 J MA (kn Kf.id (ai3 0 1 2 J J J)) J ?_
   obtain⟨S,ax,h⟩:=bs h
   obtain⟨bg,F6,-,g3,aR,bh,r4⟩:=y.elS (aa ax).2.2
   obtain⟨rfl,-⟩:=r4
   refine mq 17 J MA (kn Kf.id (ai3 0 1 2 J J J)) (ae aY J J y.rsl ax) J<|mq 18 J MA (kn Kf.id (ai3 0 1 2 J J J)) (az rd J (fun x hw=>hw.rg (gb.2 (.inr (gb.2 (.inr aR)))) (g3.of_eq 0 1 J J:rg _ _ _ [iV S]))) J<|ma 19 J MA (kn Kf.id (ai3 0 1 2 J J J)) J<|ma 20 J MA (kn Kf.id (ai3 0 1 2 J J J)) J ?_
   obtain⟨x7,a7,h⟩:=bs h
   obtain⟨bk,F7,-,g4,bm,bn,r5⟩:=O.elS (aa a7).2.2
   obtain⟨rfl,-⟩:=r5
   refine mq 21 J MA (kn Kf.id (ai3 0 1 2 J J J)) (ae aY J J O.rsl a7) J ?_
   refine WM.one 22 MA (mu J (fun hc=>by cases hc) (Ch (js:=[1]) (Rr:=[ob M,Z,ob v5,ob a1]) (vs:=[iV (wz (Q+(wz (k*S))))]) (x':=wz (Q+(wz (k*S)))) RI.lasts RI.flat vv J J J J ⟨J,trivial⟩ J O (sv a7) ⟨J,J⟩) J ?_)
   rintro aS D4 ⟨⟨T,a8⟩,aT⟩
   replace A:=A.fr a8 (T.q 3 J) (T.q 1 J)
   replace y:=y.fr a8 (T.q 2 J) dN
   replace h8:=h8.fr a8 (T.q 0 J) dN
   refine WM.nil MA<|att 6 [] J ?_
   have r6:aF aS _ [M,G] (⟨x4.Ids,(x4.Hits.set s4.toNat (wz (Q+(wz (k*S)))))⟩:ah):=⟨M,G,J,J,h8,aT⟩
   obtain⟨D5,aU,aV⟩:=A.unfocus r6 (aF.knows _ _ _ _ r6)
   refine wtL [D5,ob v5,ob a1] (smg [1,0,0] J (by simpa[gk,bH] using aV)) ?_
   exact lb [1,1,0] [0,0,0] (aN (_,_,_,_) ⟨h,aU,y⟩)
  refine att 7 [] J ?_
  exact lb [1,1] [0,0,0] (aI (_,_,_,_) ⟨h,X⟩)
 refine xt J ?_
 refine WT.fin hF aA.none (fun x hw=>?_)
 cases h
 refine aW (js:=[0,0]) hw J ⟨V,J,J,w⟩
theorem wY (w0:av n Φ [[t],ob e,b9,ob j,ar].flatten) (y:bo) (H:aI) (o:ag) (A:Int) (au:RSl cr 5 n b6 l y.Rules) (aw:OSl bk 133 1 Φ b9 e H.Alphas) (k:OSl bc 100 1 Φ ar j H.Rules) (ax:Φ t=some (.cells #[e,j] 35 (0,0))) (aO:RSl bj 3 n c8 g o.Items) {r:aI} (h:nI N y H o A=some r) :
  Calls prog 124 [.agg [.string y.Name,l].toArray,pQ t,.agg [g,iV o.Next].toArray,iV A].toArray w0.w (be Φ w0.w [[t],ob e,b9,ob j,ar].flatten (fun ay Fs v=>∃ (aB:Value) (aR:List Nat) (aD:Value) (aS:List Nat),v = .tuple #[]∧Fs=[[t],ob aB,aR,ob aD,aS]∧OSl bk 133 1 ay aR aB r.Alphas∧OSl bc 100 1 ay aS aD r.Rules∧ay t=some (.cells #[aB,aD] 35 (0,0)))):=by
 refine eL func124 J ntmps124 J (L:=[[t],ob e,b9,ob j,ar]) w0 (fun hF=>?_)
 unfold nI at h
 refine sr<|lbx J fun D=>lbx J fun E=>arr 5 [2] J<|kab h J J J (fun b z q=>n9 N b o A (aO.y z) q) ?_
 rintro w h v1 bD F1 ⟨Y,aF,v2,rfl,rfl,h1⟩
 replace aw:=aw.fr aF (Y.q 1 J) (Y.q 2 J)
 replace k:=k.fr aF (Y.q 3 J) (Y.q 4 J)
 replace ax:=aF _ _ ((Y.q 0 J) _ MC) ax
 refine arr 3 [] J<|lnz mr J fun F=>soN 0 o9 J ⟨J,h1.one,trivial⟩ J ?_
 refine art 8 [] J ?_
 refine lin (σ:=Hp × (List bm) × List Nat × Int) (fun s=>[(1,pQ t),(3,iV A),(4,pQ D),(6,pQ E),(8,pQ F),(10,iV s.2.2.2)]) (fun s=>St w0 s.1 [(F,.cells #[.string w.1.Kind,v2] 52 (0,0)),(E,.cells #[g,iV o.Next] 29 (0,0)),(D,.cells #[.string y.Name,l] 26 (0,0))] [ob v2,[t],ob e,s.2.2.1,ob j,ar]) (fun m s=>em N y H o A w m s.2.1 s.2.2.2=some r∧(OSl bk 133 1 s.1 s.2.2.1 e s.2.1)∧(OSl bc 100 1 s.1 ar j H.Rules)∧(OSl aX 95 3 s.1 [] v2 w.1.Fields)∧(s.1 t=some (.cells #[e,j] 35 (0,0)))) (bD,H.Alphas,b9,0) N ⟨h,aw,k,h1,ax⟩ (sx [0,0,0,0,0,0] [0,0,0]) (fun n1 bE s hm=>?_)
 obtain⟨bF,s1,x,s2⟩:=s
 obtain⟨h,d,k,h1,U⟩:=hm
 dsimp only at h d k h1 U ⊢
 unfold em at h
 refine atr 5 [] J<|lq (aG J) J<|lf iG J J J<|lgx 0 0 (bZ U) J<|lno d J<|la J<|en ?_
 refine ch h J ?_ ?_ <;> intro h
 ·refine atr 5 [] J<|le' (cO (R:=RI .i64) RI.lasts aY gF J J) J ?_
  rintro v3 bG D2 ⟨aj,h2⟩
  replace d:=d.f0 aj
  replace k:=k.f0 aj
  replace h1:=h1.f0 aj
  replace U:=aj _ _ MC U
  refine art 8 [] J ?_
  refine lin (σ:=Hp × (List Int) × Value × Int) (fun s=>[(1,pQ t),(3,iV A),(4,pQ D),(6,pQ E),(8,pQ F),(10,iV s2),(11,s.2.2.1),(12,iV s.2.2.2)]) (fun s=>St w0 s.1 [(F,.cells #[.string w.1.Kind,v2] 52 (0,0)),(E,.cells #[g,iV o.Next] 29 (0,0)),(D,.cells #[.string y.Name,l] 26 (0,0))] [ob s.2.2.1,ob v2,[t],ob e,x,ob j,ar]) (fun m s=>ef N A s1 s2 (em N y H o A w n1) m s.2.1 s.2.2.2=some r∧(OSl bk 133 1 s.1 x e s1)∧(OSl bc 100 1 s.1 ar j H.Rules)∧(OSl aX 95 3 s.1 [] v2 w.1.Fields)∧(OSl (RI .i64) 3 1 s.1 [] s.2.2.1 s.2.1)∧(s.1 t=some (.cells #[e,j] 35 (0,0)))) (bG,([]:List Int),v3,0) N ⟨h,d,k,h1,h2,U⟩ (sx [0,0,0,0,0,0,0] [0,0,0]) (fun n2 aU s hm=>?_)
  obtain⟨bI,s3,u1,s4⟩:=s
  obtain⟨h,d,k,h1,I,B⟩:=hm
  dsimp only at h d k h1 I B ⊢
  unfold ef at h
  refine atr 5 [] J<|lq (aG J) J<|lf iG J J J<|lgx 0 0 (bZ B) J<|la J ?_
  obtain⟨x2,aV,h⟩:=bs h
  obtain⟨cI,F2,-,g1,cJ,cK,r1⟩:=d.elS (aa aV).2.2
  obtain⟨v4,rfl,rfl,h3⟩:=r1
  have h4:=h3.rsl
  refine lio d aV J<|lf gw J J J<|lgx 0 0 g1 J<|lnr h4 J<|la J<|en ?_
  refine ch h J ?_ ?_ <;> intro h
  ·refine atr 6 [] J<|lq (aG J) J<|lf iG J J J<|lgx 0 0 (bZ B) J<|la J ?_
   obtain⟨x3,aZ,h⟩:=bs h
   obtain⟨cL,F3,-,g2,cM,cN,r2⟩:=d.elS (aa aZ).2.2
   obtain⟨v5,rfl,rfl,h5⟩:=r2
   have h6:=h5.rsl
   refine lio d aZ J<|lf gw J J J<|lgx 0 0 g2 J<|la J ?_
   obtain⟨x4,b1,h⟩:=bs h
   obtain⟨cP,F4,-,g3,cQ,cR,r3⟩:=h6.el (aa b1).2.2
   obtain⟨rfl,-⟩:=r3
   refine lia h6 b1 J<|lgx 0 0 g3 J<|art 3 [] J ?_
   refine ch h J ?_ ?_ <;> intro h
   ·refine atr 3 [] J<|lq (aG J) J<|lf iG J J J<|lgx 0 0 (bZ B) J<|la J ?_
    obtain⟨x5,b2,h⟩:=bs h
    obtain⟨cS,F5,-,g4,cT,cU,r4⟩:=d.elS (aa b2).2.2
    obtain⟨v6,rfl,rfl,h7⟩:=r4
    have h8:=h7.rsl
    refine lio d b2 J<|lf gw J J J<|lgx 0 0 g4 J<|la J ?_
    obtain⟨S,b3,h⟩:=bs h
    obtain⟨cV,F6,-,g5,cW,cX,r5⟩:=h8.el (aa b3).2.2
    obtain⟨rfl,-⟩:=r5
    refine lia h8 b3 J<|lgx 0 0 g5 J ?_
    have bJ:RC (RI .i64) 1 bI ([[]]:List (List Nat)) [iV S] ([S]:List Int):=RC.cons (c:=[iV S]) (cells:=[]) ⟨J,J⟩ J (RC.nil _ _ _)
    refine le' (aQ (vs:=[(0,iV S)]) (C:=#[iV S]) RI.lasts aY gF J J J J (ac ij (a7 (C':=[iV S]) J J J J J (ab))) J bJ J (by simpa using Kw.nil)) J ?_
    rintro v7 bK D3 ⟨Z,h9⟩
    replace h9:OSl (RI .i64) 3 1 bK [] v7 ([S]:List Int):=by simpa using h9
    replace d:=d.f0 Z
    replace k:=k.f0 Z
    replace h1:=h1.f0 Z
    replace I:=I.f0 Z
    replace B:=Z _ _ MC B
    obtain⟨x7,bL,h⟩:=bs h
    refine le' (bg RI.lasts RI.one RI.flat aY jH J J J J J (js:=[1]) (Rr:=[ob v7,ob v2,[t],ob e,x,ob j,ar]) J I h9.rsl bL) J ?_
    rintro v8 cY D4 ⟨⟨V,al⟩,bM⟩
    replace d:=d.fr al (V.q 3 J) (V.q 4 J)
    replace k:=k.fr al (V.q 5 J) (V.q 6 J)
    replace h1:=h1.fr al (V.q 1 J) dN
    replace B:=al _ _ ((V.q 2 J) _ MC) B
    refine art 8 [] J ?_
    exact lb [0,1,1,1,1,1,1] [0,0,0] (aU (_,_,_,_) ⟨h,d,k,h1,bM,B⟩)
   refine att 7 [] J ?_
   exact lb [0,0,0,0,0,0,0] [0,0,0] (aU (_,_,_,_) ⟨h,d,k,h1,I,B⟩)
  refine atr 3 [] J<|lq (aG J) J<|lf iG J J J<|lgx 0 0 (bZ B) J<|arr 2 [] J ?_
  obtain⟨x8,ba,h⟩:=bs h
  obtain⟨cZ,F7,D5,bb,r6,da,bN,db⟩:=d.focusM ba
  obtain⟨v9,rfl,rfl,dc⟩:=r6
  refine wlL [ob v9,D5,ob u1,ob v2,[t],ob e,ob j,ar] (sre [4] [ob v9,D5] J (by simpa[gk] using bN))<|lih bb ba J<|lf gw J J J<|lu (us [5] [ob v9,D5,ob u1,ob v2,[t],ob j,ar] 0 bk.lasts qU J J I.one J bb J (fun ap=>ap.q 1 J)) J ?_
  rintro bO D6 ⟨⟨a8,an⟩,bP⟩
  replace k:=k.fr an (a8.q 5 J) (a8.q 6 J)
  replace h1:=h1.fr an (a8.q 3 J) dN
  replace I:=I.fr an (a8.q 2 J) dN
  replace B:=an _ _ ((a8.q 4 J) _ MC) B
  refine art 7 [] J ?_
  have r7:bk bO _ [u1] (⟨s3⟩:bm):=⟨u1,J,J,I⟩
  obtain⟨D7,bQ,bR⟩:=bP.unfocus r7 (bk.knows _ _ _ _ r7)
  refine wtL [D7,ob e,ob v9,ob v2,[t],ob j,ar] (smg [3,2] J (by simpa[gk,bH] using bR)) ?_
  exact lb [3,3,1,0,1,1] [0,0,0] (bE (_,_,_,_) ⟨h,bQ,k,h1,B⟩)
 refine att 6 [] J ?_
 refine lin (σ:=Hp × (List aP) × List Nat × Int) (fun s=>[(1,pQ t),(3,iV A),(4,pQ D),(6,pQ E),(8,pQ F),(13,iV s.2.2.2)]) (fun s=>St w0 s.1 [(F,.cells #[.string w.1.Kind,v2] 52 (0,0)),(E,.cells #[g,iV o.Next] 29 (0,0)),(D,.cells #[.string y.Name,l] 26 (0,0))] [ob v2,[t],ob e,x,ob j,s.2.2.1]) (fun m s=>ej N y o A w s1 m s.2.1 s.2.2.2=some r∧(OSl bk 133 1 s.1 x e s1)∧(OSl bc 100 1 s.1 s.2.2.1 j s.2.1)∧(OSl aX 95 3 s.1 [] v2 w.1.Fields)∧(s.1 t=some (.cells #[e,j] 35 (0,0)))) (bF,H.Rules,ar,0) N ⟨h,d,k,h1,U⟩ (sx [0,0,0,0,0,0] [0,0,0]) (fun n3 bS s hm=>?_)
 obtain⟨bT,s5,D8,s6⟩:=s
 obtain⟨h,d,k5,h1,k6⟩:=hm
 dsimp only at h d k5 h1 k6 ⊢
 unfold ej at h
 refine atr 6 [1,64] J<|lnr au J<|la J<|en ?_
 refine ch h J ?_ ?_ <;> intro h
 ·refine atr 6 [] J<|lq (aG J) J<|lf pO J J J<|lgx 1 0 (bZ k6) J<|la J ?_
  obtain⟨x9,bd,h⟩:=bs h
  obtain⟨dd,F8,G,aH,r8,df,bU⟩:=k5.focus bd
  obtain⟨v10,aJ,rfl,rfl,bV⟩:=r8
  refine wlL [ob v10,aJ,G,ob v2,[t],ob e,x,ob j] (sre [5] [ob v10,aJ,G] J (by simpa[gk] using bU))<|lih aH bd J<|lf fD J J J<|lgx 0 0 aH.rg J<|art 8 [] J ?_
  refine lin (σ:=Hp × (List ao) × List Nat × Int) (fun s=>[(1,pQ t),(3,iV A),(4,pQ D),(6,pQ E),(8,pQ F),(13,iV s6),(14,v10),(15,iV s.2.2.2)]) (fun s=>St w0 s.1 [(F,.cells #[.string w.1.Kind,v2] 52 (0,0)),(E,.cells #[g,iV o.Next] 29 (0,0)),(D,.cells #[.string y.Name,l] 26 (0,0))] [ob v10,s.2.2.1,G,ob v2,[t],ob e,x,ob j]) (fun m s=>fj N y o A w s5 s6 (ej N y o A w s1 n3) m s.2.1 s.2.2.2=some r∧(OSl bk 133 1 s.1 x e s1)∧(OSl aX 95 3 s.1 [] v2 w.1.Fields)∧(OSl aT 103 1 s.1 s.2.2.1 v10 s.2.1)∧(s.1 t=some (.cells #[e,j] 35 (0,0)))∧(HSl bc 100 1 s.1 G j s5 s6.toNat [v10])) (bT,x9.Levels,aJ,0) N ⟨h,d,h1,bV,k6,aH⟩ (sx [0,0,0,0,0,0,0,0] [0,0,0]) (fun n4 bW s hm=>?_)
  obtain⟨bf,s7,dg,s8⟩:=s
  obtain⟨h,d,h1,k8,K,M⟩:=hm
  dsimp only at h d h1 k8 K M ⊢
  unfold fj at h
  refine atr 5 [] J<|lno k8 J<|la J<|en ?_
  refine ch h J ?_ ?_ <;> intro h
  ·refine atr 8 [] J ?_
   obtain⟨bX,aK,h⟩:=bs h
   obtain⟨dh,F9,aL,W,r9,di,bY⟩:=k8.focus aK
   obtain⟨v11,bh,rfl,rfl,c4⟩:=r9
   refine wlL [ob v11,bh,aL,ob v10,G,ob v2,[t],ob e,x,ob j] (sre [1] [ob v11,bh,aL] J (by simpa[gk] using bY))<|lih W aK J<|lf dR J J J<|lgx 0 0 W.rg J<|la J<|kcb [0,0] h J J J J (fun b ap z q=>uW N b bX.Toks A c4 q) ?_
   rintro c5 h v12 dj dk ⟨O,af,dm,bl,rfl,rfl,aq⟩
   replace d:=d.fr af (O.q 5 J) (O.q 6 J)
   replace M:=M.fr af (O.q 7 J) (O.q 2 J)
   replace h1:=h1.fr af (O.q 3 J) dN
   replace W:=W.fr af (O.q 1 J) (O.q 0 J)
   replace K:=af _ _ ((O.q 4 J) _ MC) K
   refine lih W aK J<|lf dR J J J<|lu (us [3] [ob v12,bl,aL,G,ob v2,[t],ob e,x,ob j] 0 aT.lasts AG J J aq.one J W J (fun ap=>ap.q 2 J)) J ?_
   rintro cc dn ⟨⟨P,ah⟩,cd⟩
   replace d:=d.fr ah (P.q 6 J) (P.q 7 J)
   replace M:=M.fr ah (P.q 8 J) (P.q 3 J)
   replace h1:=h1.fr ah (P.q 4 J) dN
   replace aq:=aq.fr ah (P.q 0 J) (P.q 1 J)
   replace K:=ah _ _ ((P.q 5 J) _ MC) K
   refine art 7 [] J ?_
   have bn:aT cc _ [v12] (⟨c5⟩:ao):=⟨v12,bl,J,J,aq⟩
   obtain⟨cg,cj,ck⟩:=cd.unfocus bn (aT.knows _ _ _ _ bn)
   refine wtL [cg,ob v10,G,ob v2,[t],ob e,x,ob j] (smg [1,1,1] J (by simpa[gk,bH] using ck)) ?_
   exact lb [1,0,0,0,0,0,0,0] [0,0,0] (bW (_,_,_,_) ⟨h,d,h1,cj,K,M⟩)
  refine xt J<|WT.mix (Kn w0 bf (ob v10) [(F,.cells #[.string w.1.Kind,v2] 52 (0,0)),(E,.cells #[g,iV o.Next] 29 (0,0)),(D,.cells #[.string y.Name,l] 26 (0,0))]) (fun i=>match i with | 14=>false | _=>true) mixed (fun _ h=>h.drew)<|mq 5 J MA (kn Kf.id (ai3 0 1 2 J J J)) (aC rm J (fun T hw=>hw.rgO (i:=1) J 0 2 [g,iV o.Next] J) J) J<|mq 13 J MA (kn Kf.id (ai3 0 1 2 J J J)) (aC nT J (fun T hw=>hw.rgO (i:=0) J 0 2 [.string w.1.Kind,v2] J) J) J ?_
  refine mqT 0 [1,3,4,14] J MA (kn Kf.id (ai3 0 1 2 J J J)) (ak qN J) J<|mqT 1 [3,4,14] J MA (kn Kf.id (ai3 0 1 2 J J J)) (az E8 J (fun T hw=>hw.rgO (i:=2) J 1 1 [l] J)) J<|mqT 2 [3,4,14] J MA (kn Kf.id (ai3 0 1 2 J J J)) (de J) J ?_
  obtain⟨aM,bp,h⟩:=bs h
  obtain⟨dp,dq,-,g6,dr,ds,cm⟩:=au.el (aa bp).2.2
  obtain⟨cn,G1,cp,G2,cq,G3,rfl,rfl,ct,cu,cv⟩:=cm
  refine mqT 3 [4,14] J MA (kn Kf.id (ai3 0 1 2 J J J)) (ae si J J au bp) J<|mq 4 J MA (kn Kf.id (ai3 0 1 2 J J J)) (aC o7 J (fun T hw=>(g6.of_eq 0 5 J J:rg _ _ _ [.string aM.Name,iV aM.Sal,cn,cp,cq]).rangeAt hw.1) J) J<|mqT 6 [10,11,12,14] J MA (kn Kf.id (ai3 0 1 2 J J J)) (de J) J<|mqT 7 [8,9,10,11,12,14] J MA (kn Kf.id (ai3 0 1 2 J J J)) (de J) J ?_
  refine mqT 8 [9,10,11,12,14] J MA (kn Kf.id (ai3 0 1 2 J J J)) (mF o8 J J (k8.rslG aT.gives)) J<|mqT 9 [10,11,12,14] J MA (kn Kf.id (ai3 0 1 2 J J J)) (E6 J J) J ?_
  obtain⟨cw,bq,h⟩:=bs h
  obtain⟨dt,du,aN,X,cx,dv,cy⟩:=k8.focus bq
  obtain⟨v17,br,rfl,rfl,cz⟩:=cx
  refine WM.conv (S':=St w0 bf [(F,.cells #[.string w.1.Kind,v2] 52 (0,0)),(E,.cells #[g,iV o.Next] 29 (0,0)),(D,.cells #[.string y.Name,l] 26 (0,0))] [ob v17,br,aN,ob v10,G,ob v2,[t],ob e,x,ob j]) (fun T hw=>hw.re (js:=[1]) (Bs:=[ob v17,br,aN]) J (by simpa[gk] using cy))<|mqT 10 [11,12,14] J MA (kn Kf.id (ai3 0 1 2 J J J)) (bw o8 J J X bq) J<|mqT 11 [12,14] J MA (kn Kf.id (ai3 0 1 2 J J J)) (ak dR J) J ?_
  refine mq 12 J MA (kn Kf.id (ai3 0 1 2 J J J)) (az sk J (fun T hw=>hw.rg X.hb (X.rg.of_eq 0 1 J J:rg _ _ _ [v17]))) J ?_
  obtain⟨bu,cA,h⟩:=bs h
  refine WM.one 14 MA (mc J (fun hc=>by cases hc) (bt (js:=[0,0]) (R:=[aN,ob v10,G,ob v2,[t],ob e,x,ob j]) DX J J (fun T hw ap hl=>t7 N (bx hw ap hl) aM o cw.Toks w.1 (-1) (ct.y (hw.uo ap)) (cu.y (hw.uo ap)) (cv.y (hw.uo ap)) (aO.y (hw.uo ap)) cz (h1.rsl.x (Dj.app (ap.q 3 J) dN))  cA)) J ?_)
  rintro dw bz dx ⟨Q,ai,cB,rfl,rfl,cC⟩
  replace d:=d.fr ai (Q.q 5 J) (Q.q 6 J)
  replace M:=M.fr ai (Q.q 7 J) (Q.q 2 J)
  replace h1:=h1.fr ai (Q.q 3 J) dN
  replace X:=X.fr ai (Q.q 1 J) (Q.q 0 J)
  replace K:=ai _ _ ((Q.q 4 J) _ MC) K
  refine WM.nil MA<|att 6 [] J ?_
  have bA:aT bz _ [v17] (⟨bu⟩:ao):=⟨v17,cB,J,J,cC⟩
  obtain⟨bB,cD,cE⟩:=X.unfocus bA (aT.knows _ _ _ _ bA)
  refine wtL [bB,ob v10,G,ob v2,[t],ob e,x,ob j] (smg [0,0,0] J (by simpa[gk,bH] using cE)) ?_
  have bC:bc bz _ [v10] (⟨(s7.set (wz ((s7.length:Int) - 1)).toNat (⟨bu⟩:ao))⟩:aP):=⟨v10,bB,J,J,cD⟩
  obtain⟨cF,cG,cH⟩:=M.unfocus bC (bc.knows _ _ _ _ bC)
  refine wtL [cF,ob v2,[t],ob e,x,ob j] (smg [1,0,0] J (by simpa[gk,bH] using cH)) ?_
  exact lb [1,1,1,1,1,0] [0,0,0] (bS (_,_,_,_) ⟨h,d,cG,h1,K⟩)
 refine xt J ?_
 refine WT.fin hF aA.none (fun T hw=>?_)
 cases h
 refine aW (js:=[1,1,1,1,1]) hw J ⟨e,x,j,D8,J,J,d,k5,k6⟩
theorem cI  (w0:av n Φ []) (c:Int) (d:Int) (i:Int)  {r:Bool} (h:dO N c d i=some r) :
  CB w0 prog 46 [iV c,iV d,iV i] (.bool r):=by
 refine eN func46 J ntmps46 J w0 fun k=>?_
 unfold dO at h
 refine atr 10 [] J ?_
 obtain⟨m,b,h⟩:=bs h
 refine WL.cutN 4 [(14,.bool m),(6,.bool false)] ?_ (fun K=>?_)
 rotate_left
 ·refine sp 10 b J (fun b=>?_) fun b=>?_
  ·refine arr 4 [] J ?_
   cases b
   exact ku K
  ·refine arr 4 [] J ?_
   cases b
   exact ku K
 refine la J<|en ?_
 exact rt k h
theorem yT (w0:av n Φ []) (b:ax) (i:aH) (z:RSl aX 3 n b6 l b.Consts) (A:RSl (RI .i64) 1 n c6 p b.At) (w:RSl aX 3 n b7 e i.Fields) {r:Bool} (h:oR N b i=some r) :
  CB w0 prog 194 [.agg [.string b.Kind,iV b.N,l,p].toArray,.agg [.string i.Kind,e].toArray] (.bool r):=by
 refine eN func194 J ntmps194 J w0 fun B=>?_
 unfold oR at h
 refine sr<|lbx J fun o=>lbx J fun q=>arr 11 [0,32,0,0] J ?_
 obtain⟨L,v,h⟩:=bs h
 refine WL.cutN 7 [(19,.bool L),(2,pQ o),(3,pQ q)] ?_ (fun K=>?_)
 rotate_left
 ·refine sp 12 v J (fun v=>?_) fun v=>?_
  ·refine arr 7 [] J ?_
   cases v
   exact ku K
  ·refine arr 4 [1,32,1,0] J<|ly J J<|lnr w J<|arr 2 [] J ?_
   cases v
   exact ku K
 refine en ?_
 refine ch h J ?_ ?_ <;> intro h
 ·refine att 4 [] J ?_
  exact rt B h
 refine att 7 [] J ?_
 refine lin (σ:=Int) (fun s=>[(2,pQ o),(3,pQ q),(5,iV s)]) (fun s=>St w0 Φ [(q,.cells #[.string i.Kind,e] 52 (0,0)),(o,.cells #[.string b.Kind,iV b.N,l,p] 137 (0,0))] []) (fun m s=>ie N b i m s=some r) (0) N h (sx [] [0,0]) (fun M O s hm=>?_)
 revert hm;revert s;intro s1 hm
 have h:ie N b i (M+1) s1=some r:=hm
 show WT _ _ [(2,pQ o),(3,pQ q),(5,iV s1)] (St w0 Φ [(q,.cells #[.string i.Kind,e] 52 (0,0)),(o,.cells #[.string b.Kind,iV b.N,l,p] 137 (0,0))] [])
 unfold ie at h
 refine atr 6 [3,32] J<|lnr A J<|la J<|en ?_
 refine ch h J ?_ ?_ <;> intro h
 ·refine atr 8 [3,32] J ?_
  obtain⟨E,F,h⟩:=bs h
  obtain⟨V,W,-,g1,X,Y,P⟩:=A.el (aa F).2.2
  obtain⟨rfl,-⟩:=P
  refine lia A F J<|lhx 0 0 g1 J<|art 3 [] J<|WT.draw mixed MA (fun _ h=>h.drew)<|aqq 3 [2,32] J<|qq (mF iB J J z) J<|aqq 2 [] J ?_
  obtain⟨Q,k,h⟩:=bs h
  refine WQ.cutN 8 [(45,.bool Q),(2,pQ o),(3,pQ q),(5,iV s1),(6,iV E)] ?_ (fun K=>?_)
  rotate_left
  ·refine WQ.split (d:=37) J (fun C=>?_) (fun C=>?_)
   ·replace k:=fR k C
    refine aqq 8 [] J ?_
    cases k
    exact kq K
   ·replace k:=fO k C
    refine aqq 3 [1,0] J<|WQ.yes J J<|qq (mF iB J J w) J<|WQ.yes J J<|qq (E6 J J) J<|WQ.yes J J ?_
    obtain⟨Z,R,k⟩:=bs k
    refine qp (cK Hq J (fun G hw=>cI N (ba hw.fro) E 0 (wz ((i.Fields.length:Int) - 1)) R)) J<|aqq 2 [] J ?_
    cases k
    exact kq K
  refine qq (de J) J ?_
  obtain⟨S,c,h⟩:=bs h
  refine WQ.cutN 12 [(58,.bool S),(2,pQ o),(3,pQ q),(5,iV s1)] ?_ (fun K=>?_)
  rotate_left
  ·refine WQ.split (d:=46) J (fun D=>?_) (fun D=>?_)
   ·replace c:=fR c D
    refine aqq 12 [] J ?_
    cases c
    exact kq K
   ·replace c:=fO c D
    refine aqq 3 [1,0] J<|WQ.yes J J ?_
    obtain⟨x,H,c⟩:=bs c
    obtain⟨a7,F2,-,g2,a8,ab,T⟩:=w.el (aa H).2.2
    obtain⟨rfl,-⟩:=T
    refine qq (ae iB J J w H) J<|WQ.yes J J<|qq (aC kM J (fun G hw=>(g2.of_eq 0 3 J J:rg _ _ _ [iV x.K,iV x.N,.string x.S]).rangeAt hw.in0) J) J<|aqq 3 [2,32] J<|WQ.yes J J ?_
    obtain⟨y,I,c⟩:=bs c
    obtain⟨af,F3,-,g3,ag,ah,U⟩:=z.el (aa I).2.2
    obtain⟨rfl,-⟩:=U
    refine qq (ae iB J J z I) J<|WQ.yes J J<|qq (aC kM J (fun G hw=>(g3.of_eq 0 3 J J:rg _ _ _ [iV y.K,iV y.N,.string y.S]).rangeAt hw.in0) J) J<|WQ.yes J J<|qq (sW mT J J J (r:=bq x y) J) J<|WQ.q (qh J J) J J J ?_
    cases c
    exact kq K
  refine WQ.nil ?_
  refine ch h J ?_ ?_ <;> intro h
  ·refine att 4 [] J ?_
   exact rt B h
  refine att 7 [] J ?_
  exact lb [] [0,0] (O _ h)
 refine att 5 [] J ?_
 exact rt B h
theorem pr (w0:av n Φ [ob b5,b4].flatten) (F:(List ah)) (m:ai) (s:ag) (G:(List Int)) (k:Int) (d:OSl aF 105 2 Φ b4 b5 F) (U:RSl bN 3 n b7 e m.Pats) (V:RSl bl 11 n c7 j m.Conds) (W:RSl dK 5 n pG1_2 ca m.Acts) (X:RSl bj 3 n c8 g s.Items) (Y:RSl (RI .i64) 1 n pG3 cf G) {r:(List ah)} (h:jO N F m s G k=some r) :
  Calls prog 230 [b5,.agg [.string m.Name,iV m.Sal,e,j,ca].toArray,.agg [g,iV s.Next].toArray,cf,iV k].toArray w0.w (be Φ w0.w [ob b5,b4].flatten (fun Z Fs v=>∃ (x:Value) (H:List Nat),v=x∧Fs=[ob x,H]∧OSl aF 105 2 Z H x r)):=by
 refine eL func230 J ntmps230 J (L:=[ob b5,b4]) w0 (fun I=>?_)
 unfold jO at h
 refine sr<|lbx J fun ax=>lbx J fun ay=>arr 4 [] J<|le' (cO (R:=RI .i64) RI.lasts aY gF J J) J ?_
 rintro v1 az D1 ⟨a8,h1⟩
 replace d:=d.f0 a8
 refine la J<|lu0 Y fun h2=>?_
 obtain⟨x1,aa,h⟩:=bs h
 refine le' (bg RI.lasts RI.one RI.flat aY jH J J J J J (js:=[0]) (Rr:=[ob b5,b4]) J h1 h2 aa) J ?_
 rintro v2 ae D2 ⟨⟨K,af⟩,y⟩
 replace d:=d.fr af (K.q 0 J) (K.q 1 J)
 refine la J ?_
 have aj:RC (RI .i64) 1 ae ([[]]:List (List Nat)) [iV k] ([k]:List Int):=RC.cons (c:=[iV k]) (cells:=[]) ⟨J,J⟩ J (RC.nil _ _ _)
 refine le' (aQ (vs:=[(0,iV k)]) (C:=#[iV k]) RI.lasts aY gF J J J J (ac ij (a7 (C':=[iV k]) J J J J J (ab))) J aj J (by simpa using Kw.nil)) J ?_
 rintro v3 ak D3 ⟨M,A⟩
 replace A:OSl (RI .i64) 3 1 ak [] v3 ([k]:List Int):=by simpa using A
 replace d:=d.f0 M
 replace y:=y.f0 M
 obtain⟨B,al,h⟩:=bs h
 refine le' (bg RI.lasts RI.one RI.flat aY jH J J J J J (js:=[1]) (Rr:=[ob v3,ob b5,b4]) J y A.rsl al) J ?_
 rintro v4 aB D4 ⟨⟨O,an⟩,o⟩
 replace d:=d.fr an (O.q 1 J) (O.q 2 J)
 refine arr 7 [37,2] J<|kab h J J J (fun b z q=>o6 N b m s B (U.y z) (V.y z) (W.y z) (X.y z) o.rsl q) ?_
 rintro x3 h v5 aC F1 ⟨D,P,v6,rfl,rfl,h6⟩
 replace d:=d.fr P (D.q 2 J) (D.q 3 J)
 replace o:=o.fr P (D.q 0 J) dN
 refine art 12 [] J ?_
 refine ch h J ?_ ?_ <;> intro h
 ·refine att 5 [] J ?_
  exact rtg [3,3] I (aA.one J) J (by cases h;exact fun w1 hw=>⟨b5,b4,rfl,rfl,d⟩)
 refine atr 5 [] J<|le' (cO (R:=RI .i64) RI.lasts aY gF J J) J ?_
 rintro i ao D5 ⟨Q,S⟩
 replace d:=d.f0 Q
 replace o:=o.f0 Q
 refine lq (aU (vs:=[(0,v4),(1,i)]) (C:=#[v4,i]) vB fa J (a7 (C':=[v4,.slice none 0 0]) J (bh o.one) J J J (a7 (C':=[v4,i]) J (bh S.one) J J J (ab)))) J ?_
 have T:RC aF 2 ao ([(ob v4++[])++((ob i++[]))]:List (List Nat)) [v4,i] ([(⟨B,([]:List Int)⟩:ah)]:List ah):=RC.cons (c:=[v4,i]) (cells:=[]) ⟨v4,i,J,J,o,S⟩ J (RC.nil _ _ _)
 refine le' (aQ (vs:=[(0,.agg [v4,i].toArray)]) (C:=#[v4,i]) aF.lasts ci fa J J J J (ac pA (a7 (C':=[v4,i]) J J J J J (ab))) J T J (RC.kn aF.knows T)) J ?_
 rintro w aq D6 ⟨au,E⟩
 replace E:OSl aF 105 2 aq ((ob v4++[])++((ob i++[]))) w ([(⟨B,([]:List Int)⟩:ah)]:List ah):=by simpa[gk] using E
 replace d:=d.f0 au
 refine wlL [((ob v4++[])++((ob i++[]))),ob w,ob v6,ob v3,ob b5,b4] (smg [3,1] J (SP.eq (by simp[gk,bH]))) ?_
 obtain⟨x4,aw,h⟩:=bs h
 refine le' (cq aF.lasts aF.one ci mQ J J J J J (js:=[4]) (Rr:=[((ob v4++[])++((ob i++[]))),ob w,ob v6,ob v3,b4]) J d E (fun ap=>ap.q 4 J) (fun ap=>ap.q 0 J) aw) J ?_
 rintro v9 aD D7 ⟨⟨aG,aH⟩,h9⟩
 refine wlL [(b4++((ob v4++[])++((ob i++[])))),ob v9,ob w,ob v6,ob v3] (smg [5,1] J (SP.eq MC))<|la J<|en ?_
 exact rtg [1,0] I (aA.one J) J (by cases h;exact fun w1 hw=>⟨v9,(b4++((ob v4++[])++((ob i++[])))),J,J,h9⟩)
theorem ww (w0:av n Φ [ob g].flatten) (d:ai) (k:ag) (x:ah) (H:RSl bN 3 n b6 l d.Pats) (K:RSl bl 11 n c6 p d.Conds) (M:RSl dK 5 n c9 u d.Acts) (I:RSl bj 3 n b7 e k.Items) (c:OSl (RI .i64) 3 1 Φ [] g x.Ids) (aI:RSl (RI .i64) 1 n pG2_1 f x.Hits) {r:ah} (h:lP N d k x=some r) :
  Calls prog 231 [.agg [.string d.Name,iV d.Sal,l,p,u].toArray,.agg [e,iV k.Next].toArray,.agg [g,f].toArray].toArray w0.w (be Φ w0.w [ob g].flatten (fun Y Fs v=>∃ (O:Value) (P:Value),v = .agg [O,P].toArray∧Fs=[ob O,ob P]∧OSl (RI .i64) 3 1 Y [] O r.Ids∧OSl (RI .i64) 3 1 Y [] P r.Hits)):=by
 refine eL func231 J ntmps231 J (L:=[ob g]) w0 (fun hF=>?_)
 unfold lP at h
 refine sr<|lbx J fun B=>lbx J fun C=>lbx J fun E=>lnz fa J fun F=>arr 7 [101,66,0,32] J<|kab h J J J (fun b z q=>o6 N b d k x.Ids (H.y z) (K.y z) (M.y z) (I.y z) c.rsl q) ?_
 rintro G h v1 aJ F1 ⟨aj,al,v2,rfl,rfl,h1⟩
 replace c:=c.fr al (aj.q 0 J) dN
 refine art 7 [] J<|wm [0,1,2,3] [8] J<|amm 2 [0,2,1,96] [0,1,2,3] J J<|mq 2 J MA (kN [0,1,2,3]) (mF og J J H) J<|amm 1 [3,101] [0,1,2,3] J J ?_
 obtain⟨x2,an,h⟩:=bs h
 refine on1 4 (mp J (kS [0,1,2,3]) (pdP J (kQ N · d H K M an)) J ?_)
 refine amm 1 [5] [0,1,2,3] J J ?_
 obtain⟨x3,Z,h⟩:=bs h
 refine WM.one 6 MA (me J (fun _ v ao D o hq hw=>Kn.of Kf.nil (am [0,1,2,3] J) hw) (CJ (R:=(RI .i64)) aY gF Mo J J J (fun _=>⟨J,J⟩) J J (Int.le_refl _) Z (Hg Z)) J ?_)
 rintro v3 aq D1 ⟨a7,h2⟩
 replace c:=c.f0 a7
 replace h1:=h1.f0 a7
 refine amm 1 [7,1] [0,1,2,3] J J ?_
 refine on1 8 (ms1 1 J nk qU J h2.one ?_)
 refine WM.nil MA<|att 6 [] J ?_
 refine lin (σ:=Hp × (List Int) × Int) (fun s=>[(3,pQ B),(4,pQ C),(5,pQ E),(6,pQ F),(7,v2),(9,iV s.2.2)]) (fun s=>St w0 s.1 [(F,.cells #[.slice none 0 0,.slice none 0 0] 105 (0,0)),(E,.cells #[g,v3] 105 (0,0)),(C,.cells #[e,iV k.Next] 29 (0,0)),(B,.cells #[.string d.Name,iV d.Sal,l,p,u] 87 (0,0))] [ob v3,ob v2,ob g]) (fun m s=>d6 N d k x G m s.2.1 s.2.2=some r∧(OSl (RI .i64) 3 1 s.1 [] g x.Ids)∧(OSl aB 97 4 s.1 [] v2 G.1)∧(OSl (RI .i64) 3 1 s.1 [] v3 s.2.1)) (aq,x3,0) N ⟨h,c,h1,h2⟩ (sx [0,0,0] [0,0,0,0]) (fun n1 au s hm=>?_)
 obtain⟨aK,s1,s2⟩:=s
 obtain⟨h,c,h1,A⟩:=hm
 dsimp only at h c h1 A ⊢
 unfold d6 at h
 refine atr 6 [0,64] J<|lnr I J<|la J<|en ?_
 refine ch h J ?_ ?_ <;> intro h
 ·refine att 4 [] J<|wm [0,1,2,3] [] J<|amm 4 [0,101,1,0,2,64,3] [0,1,2,3] J J ?_
  obtain⟨x4,a8,h⟩:=bs h
  obtain⟨aL,F2,-,g1,aM,aN,r1⟩:=I.el (aa a8).2.2
  obtain⟨v4,G1,rfl,aw,h3⟩:=r1
  obtain rfl:=aw.symm
  refine mq 4 J MA (kN [0,1,2,3]) (ae lL J J I a8) J<|amm 1 [5,1] [0,1,2,3] J J<|mq 6 J MA (kN [0,1,2,3]) (aC nT J (fun o hw=>(g1.of_eq 1 2 J J:rg _ _ _ [.string x4.F.Kind,v4]).rangeAt hw.1) J) J<|amm 1 [7] [0,1,2,3] J J ?_
  obtain⟨x5,ax,h⟩:=bs h
  refine WM.one 8 MA (mc J (fun _ v ao D o hq hw=>Kn.of Kf.nil (am [0,1,2,3] J) hw) (bt (js:=[]) (R:=[ob v3,ob v2,ob g]) HP J J (fun o hw ap hl=>tS N (ba hw.fro) d x4.F G.1 (H.y hw.up) (K.y hw.up) (M.y hw.up) (h3.y hw.up) h1.rsl  ax)) J ?_)
  rintro v5 ay F3 ⟨Q,S,v6,rfl,rfl,w⟩
  replace c:=c.fr S (Q.q 2 J) dN
  replace h1:=h1.fr S (Q.q 1 J) dN
  replace A:=A.fr S (Q.q 0 J) dN
  refine amm 1 [9] [0,1,2,3] J J<|WM.nil MA<|att 5 [] J ?_
  refine lin (σ:=Hp × (List Int) × Int) (fun s=>[(3,pQ B),(4,pQ C),(5,pQ E),(6,pQ F),(7,v2),(9,iV s2),(10,v5),(11,iV s.2.2)]) (fun s=>St w0 s.1 [(F,.cells #[.slice none 0 0,.slice none 0 0] 105 (0,0)),(E,.cells #[g,v3] 105 (0,0)),(C,.cells #[e,iV k.Next] 29 (0,0)),(B,.cells #[.string d.Name,iV d.Sal,l,p,u] 87 (0,0))] [ob v5,ob v3,ob v2,ob g]) (fun m s=>eD N s2 (d6 N d k x G n1) x5 m s.2.1 s.2.2=some r∧(OSl (RI .i64) 3 1 s.1 [] g x.Ids)∧(OSl aB 97 4 s.1 [] v2 G.1)∧(OSl (RI .i64) 3 1 s.1 [] v3 s.2.1)∧(OSl (RI .i64) 3 1 s.1 [] v5 x5)) (ay,s1,0) N ⟨h,c,h1,A,w⟩ (sx [0,0,0,0] [0,0,0,0]) (fun n2 aD s hm=>?_)
  obtain⟨aF,s3,s4⟩:=s
  obtain⟨h,c,h1,y,w⟩:=hm
  dsimp only at h c h1 y w ⊢
  unfold eD at h
  refine atr 5 [] J<|lno w J<|la J<|en ?_
  refine ch h J ?_ ?_ <;> intro h
  ·refine att 3 [] J<|WT.mix (Kn w0 aF (ob v3++ob v5) [(F,.cells #[.slice none 0 0,.slice none 0 0] 105 (0,0)),(E,.cells #[g,v3] 105 (0,0)),(C,.cells #[e,iV k.Next] 29 (0,0)),(B,.cells #[.string d.Name,iV d.Sal,l,p,u] 87 (0,0))]) (fun i=>match i with | 14=>false | _=>true) mixed (fun _ h=>h.drew)<|mq 0 J MA (kn Kf.id (am [0,1,2,3] J)) (ak oH J) J<|mq 1 J MA (kn Kf.id (am [0,1,2,3] J)) (az lz J (fun o hw=>hw.rgO (i:=1) J 1 1 [v3] J)) J ?_
   refine ma 2 J MA (kn Kf.id (am [0,1,2,3] J)) J<|mq 3 J MA (kn Kf.id (am [0,1,2,3] J)) (ak oH J) J<|mq 4 J MA (kn Kf.id (am [0,1,2,3] J)) (az lz J (fun o hw=>hw.rgO (i:=1) J 1 1 [v3] J)) J<|ma 5 J MA (kn Kf.id (am [0,1,2,3] J)) J ?_
   obtain⟨T,ab,h⟩:=bs h
   obtain⟨aO,F4,-,g2,aG,aP,r2⟩:=y.elS (aa ab).2.2
   obtain⟨rfl,-⟩:=r2
   refine mq 6 J MA (kn Kf.id (am [0,1,2,3] J)) (ae aY J J y.rsl ab) J<|mq 7 J MA (kn Kf.id (am [0,1,2,3] J)) (az rd J (fun o hw=>hw.rg (gb.2 (.inl aG)) (g2.of_eq 0 1 J J:rg _ _ _ [iV T]))) J<|ma 8 J MA (kn Kf.id (am [0,1,2,3] J)) J<|ma 9 J MA (kn Kf.id (am [0,1,2,3] J)) J ?_
   obtain⟨U,af,h⟩:=bs h
   obtain⟨aQ,F5,-,g3,aH,aR,r3⟩:=w.elS (aa af).2.2
   obtain⟨rfl,-⟩:=r3
   refine mq 10 J MA (kn Kf.id (am [0,1,2,3] J)) (ae aY J J w.rsl af) J<|mq 11 J MA (kn Kf.id (am [0,1,2,3] J)) (az rd J (fun o hw=>hw.rg (gb.2 (.inr aH)) (g3.of_eq 0 1 J J:rg _ _ _ [iV U]))) J<|ma 12 J MA (kn Kf.id (am [0,1,2,3] J)) J ?_
   obtain⟨x8,V,h⟩:=bs h
   obtain⟨aS,F6,-,g4,aT,aU,r4⟩:=y.elS (aa V).2.2
   obtain⟨rfl,-⟩:=r4
   refine mq 13 J MA (kn Kf.id (am [0,1,2,3] J)) (ae aY J J y.rsl V) J ?_
   refine WM.one 14 MA (mu J (fun hc=>by cases hc) (Ch (js:=[1]) (Rr:=[ob v5,ob v2,ob g]) (vs:=[iV (wz (T+U))]) (x':=wz (T+U)) RI.lasts RI.flat vv J J J J ⟨J,trivial⟩ J y (sv V) ⟨J,J⟩) J ?_)
   rintro aV D2 ⟨⟨W,X⟩,h5⟩
   replace c:=c.fr X (W.q 2 J) dN
   replace h1:=h1.fr X (W.q 1 J) dN
   replace w:=w.fr X (W.q 0 J) dN
   refine WM.nil MA<|att 6 [] J ?_
   exact lb [1,0,0,0] [0,0,0,0] (aD (_,_,_) ⟨h,c,h1,h5,w⟩)
  refine att 7 [] J ?_
  exact lb [1,1,1] [0,0,0,0] (au (_,_,_) ⟨h,c,h1,y⟩)
 refine atr 4 [34] J<|soN 0 sC J ⟨c.one,A.one,trivial⟩ J ?_
 refine en ?_
 exact rtg [2,0] hF (aA.one (aZ Gk J (fun o hw=>hw.rgO (i:=0) J 0 2 [g,v3] J) J)) J (by cases h;exact fun o hw=>⟨g,v3,rfl,rfl,c,A⟩)
theorem xc (w0:av n Φ [[a],ob f,ad].flatten) (c:ai) (U:aR) (O:aI) (Q:Int) (w:ag) (E:Int) (p6:aH) (V:(List Bool)) (aM:RSl bN 3 n b6 l c.Pats) (aN:RSl bl 11 n c6 p c.Conds) (aO:RSl dK 5 n c9 u c.Acts) (ay:RSl (RI .i64) 1 n b7 e U.Pos) (ec:RSl (RI .i64) 1 n c7 j U.Neg) (c4:RSl iv 1 n c8 g O.Alphas) (cT:OSl bc 100 1 Φ ad f O.Rules) (aB:Φ a=some (.cells #[g,f] 35 (0,0))) (aS:RSl bj 3 n pG4_0 a6 w.Items) (cU:RSl aX 3 n pG6_0 b8 p6.Fields) (bp:RSl RB 1 n pG7 aE V) {r:aI} (h:ng N c U O Q w E p6 V=some r) :
  Calls prog 195 [.agg [.string c.Name,iV c.Sal,l,p,u].toArray,.agg [e,j].toArray,pQ a,iV Q,.agg [a6,iV w.Next].toArray,iV E,.agg [.string p6.Kind,b8].toArray,aE].toArray w0.w (be Φ w0.w [[a],ob f,ad].flatten (fun c5 Fs v=>∃ (bI:Value) (cc:List Nat),v = .tuple #[]∧Fs=[[a],ob bI,cc]∧r.Alphas=O.Alphas∧OSl bc 100 1 c5 cc bI r.Rules∧c5 a=some (.cells #[g,bI] 35 (0,0)))):=by
 refine eL func195 J ntmps195 J (L:=[[a],ob f,ad]) w0 (fun hF=>?_)
 unfold ng at h
 refine sr<|lbx J fun G=>lbx J fun H=>lbx J fun I=>lbx J fun cd=>arr 4 [] J<|lq (aG J) J<|lf pO J J J<|lgx 1 0 (bZ aB) J<|la J ?_
 obtain⟨B,cg,h⟩:=bs h
 obtain⟨ee,F1,x,h1,r1,cj,cV⟩:=cT.focus cg
 obtain⟨v1,D2,rfl,rfl,h2⟩:=r1
 refine wlL [ob v1,D2,x,[a],ob f] (sre [2] [ob v1,D2,x] J (by simpa[gk] using cV))<|lih h1 cg J<|lf fD J J J<|lgx 0 0 h1.rg J<|arr 5 [] J<|lno h2 J<|art 4 [] J ?_
 obtain⟨x2,ck,h⟩:=bs h
 obtain⟨ef,F2,D3,h3,r2,cm,cW⟩:=h2.focus ck
 obtain⟨v2,D4,rfl,rfl,h4⟩:=r2
 refine wtL [ob v2,D4,D3,ob v1,x,[a],ob f] (sre [1] [ob v2,D4,D3] J (by simpa[gk] using cW))<|WT.mix (Kn w0 Φ (ob v1) [(cd,.cells #[.string p6.Kind,b8] 52 (0,0)),(I,.cells #[a6,iV w.Next] 29 (0,0)),(H,.cells #[e,j] 141 (0,0)),(G,.cells #[.string c.Name,iV c.Sal,l,p,u] 87 (0,0))]) (fun i=>match i with | 8=>false | _=>true) mixed (fun _ h=>h.drew) ?_
 refine mq 0 J MA (kn Kf.id (am [0,1,2,3] J)) (aC o7 J (fun A hw=>hw.rgO (i:=3) J 0 5 [.string c.Name,iV c.Sal,l,p,u] J) J) J<|mq 1 J MA (kn Kf.id (am [0,1,2,3] J)) (aC rm J (fun A hw=>hw.rgO (i:=1) J 0 2 [a6,iV w.Next] J) J) J<|mq 7 J MA (kn Kf.id (am [0,1,2,3] J)) (aC nT J (fun A hw=>hw.rgO (i:=0) J 0 2 [.string p6.Kind,b8] J) J) J<|mqT 2 [4,5,6,8] J MA (kn Kf.id (am [0,1,2,3] J)) (de J) J ?_
 refine mqT 3 [4,5,6,8] J MA (kn Kf.id (am [0,1,2,3] J)) (de J) J<|mqT 4 [5,6,8] J MA (kn Kf.id (am [0,1,2,3] J)) (bw o8 J J h3 ck) J<|mqT 5 [6,8] J MA (kn Kf.id (am [0,1,2,3] J)) (ak dR J) J<|mq 6 J MA (kn Kf.id (am [0,1,2,3] J)) (az sk J (fun A hw=>hw.rg h3.hb (h3.rg.of_eq 0 1 J J:rg _ _ _ [v2]))) J ?_
 obtain⟨x3,cX,h⟩:=bs h
 refine WM.one 8 MA (mc J (fun hc=>by cases hc) (bt (js:=[0,0]) (R:=[D3,ob v1,x,[a],ob f]) DX J J (fun A hw ap hl=>t7 N (bx hw ap hl) c w x2.Toks p6 1 (aM.y (hw.uo ap)) (aN.y (hw.uo ap)) (aO.y (hw.uo ap)) (aS.y (hw.uo ap)) h4 (cU.y (hw.uo ap))  cX)) J ?_)
 rintro v3 cY F3 ⟨aU,bJ,D5,rfl,rfl,h5⟩
 replace h1:=h1.fr bJ (aU.q 4 J) (aU.q 2 J)
 replace h3:=h3.fr bJ (aU.q 1 J) (aU.q 0 J)
 replace aB:=bJ _ _ ((aU.q 3 J) _ MC) aB
 refine WM.nil MA<|sr ?_
 have cZ:RC aF 2 cY ([]:List (List Nat)) [] ([]:List ah):=RC.nil _ _ _
 refine le' (aQ (vs:=[]) (C:=#[]) aF.lasts ci fa J J J J (ac qX (ab)) J cZ J (by simpa using Kw.nil)) J ?_
 rintro v4 bq D6 ⟨bu,h6⟩
 replace h6:OSl aF 105 2 bq [] v4 ([]:List ah):=by simpa[gk] using h6
 replace h1:=h1.f0 bu
 replace h3:=h3.f0 bu
 replace h5:=h5.f0 bu
 replace aB:=bu _ _ MC aB
 refine WL.conv (S':=St w0 bq [(cd,.cells #[.string p6.Kind,b8] 52 (0,0)),(I,.cells #[a6,iV w.Next] 29 (0,0)),(H,.cells #[e,j] 141 (0,0)),(G,.cells #[.string c.Name,iV c.Sal,l,p,u] 87 (0,0))] [[],ob v4,ob v2,D5,D3,ob v1,x,[a],ob f]) (fun A hw=>hw.addNil)<|art 7 [] J ?_
 have r3:aT bq _ [v2] (⟨x3⟩:ao):=⟨v2,D5,J,J,h5⟩
 obtain⟨D7,h7,da⟩:=h3.unfocus r3 (aT.knows _ _ _ _ r3)
 refine wtL [D7,[],ob v4,ob v1,x,[a],ob f] (smg [2,2,2] J (by simpa[gk,bH] using da)) ?_
 replace h6:=h6.gives aF.gives
 refine lin (σ:=Hp × (List ao) × List Nat × (List ah) × Value × List Nat × Int) (fun s=>[(2,pQ a),(5,iV E),(7,aE),(8,pQ G),(9,pQ H),(12,pQ I),(16,v1),(17,iV (wz ((B.Levels.length:Int) - 1))),(18,s.2.2.2.2.1),(19,iV s.2.2.2.2.2.2)]) (fun s=>St w0 s.1 [(I,.cells #[a6,iV w.Next] 29 (0,0)),(H,.cells #[e,j] 141 (0,0)),(G,.cells #[.string c.Name,iV c.Sal,l,p,u] 87 (0,0))] [s.2.2.1,ob s.2.2.2.2.1,ob v1,x,[a],ob f]) (fun m s=>br N c U O Q w E V B m s.2.1 s.2.2.2.1 s.2.2.2.2.2.2=some r∧(OSl aT 103 1 s.1 s.2.2.1 v1 s.2.1)∧(OSl cL 105 2 s.1 s.2.2.2.2.2.1 s.2.2.2.2.1 s.2.2.2.1)∧(∀ k∈s.2.2.2.2.2.1,k∈s.2.2.1)∧(s.1 a=some (.cells #[g,f] 35 (0,0)))∧(HSl bc 100 1 s.1 x f O.Rules Q.toNat [v1])) (bq,(B.Levels.set (wz ((B.Levels.length:Int) - 1)).toNat (⟨x3⟩:ao)),D7,([]:List ah),v4,[],0) N ⟨h,h7,h6,MC,aB,h1⟩ (sx [0,1,1,1,1,1] [1,1,1]) (fun n1 db s hm=>?_)
 obtain⟨cn,s1,P,s2,M,D9,S⟩:=s
 obtain⟨h,d,y,i1,Y,Z⟩:=hm
 dsimp only at h d y i1 Y Z ⊢
 unfold br at h
 refine att 7 [] J ?_
 refine ch h J ?_ ?_ <;> intro h
 ·refine atr 5 [] J ?_
  have dc:RC aF 2 cn ([]:List (List Nat)) [] ([]:List ah):=RC.nil _ _ _
  refine le' (aQ (vs:=[]) (C:=#[]) aF.lasts ci fa J J J J (ac qX (ab)) J dc J (by simpa using Kw.nil)) J ?_
  rintro v5 cp eg ⟨bz,h8⟩
  replace h8:OSl aF 105 2 cp [] v5 ([]:List ah):=by simpa[gk] using h8
  replace Z:=Z.f0 bz
  replace d:=d.f0 bz
  replace y:=y.f0 bz
  replace Y:=bz _ _ MC Y
  refine WL.conv (S':=St w0 cp [(I,.cells #[a6,iV w.Next] 29 (0,0)),(H,.cells #[e,j] 141 (0,0)),(G,.cells #[.string c.Name,iV c.Sal,l,p,u] 87 (0,0))] [[],ob v5,P,ob M,ob v1,x,[a],ob f]) (fun A hw=>hw.addNil)<|arr 8 [] J ?_
  obtain⟨b1,a7,h⟩:=bs h
  refine WL.cutN 8 [(64,.bool b1),(2,pQ a),(5,iV E),(7,aE),(8,pQ G),(9,pQ H),(12,pQ I),(16,v1),(17,iV (wz ((B.Levels.length:Int) - 1))),(18,M),(19,iV S),(20,v5)] ?_ (fun K=>?_)
  rotate_left
  ·refine sp 56 a7 J (fun a7=>?_) fun a7=>?_
   ·refine arr 3 [0,32] J<|ly J J ?_
    obtain⟨x4,cr,a7⟩:=bs a7
    obtain⟨eh,F4,-,g1,ei,ej,r4⟩:=ay.el (aa cr).2.2
    obtain⟨rfl,-⟩:=r4
    refine lia ay cr J<|ly J J<|lhx 0 0 g1 J<|ly J J ?_
    obtain⟨x5,ct,a7⟩:=bs a7
    obtain⟨ek,F5,-,g2,el,eo,r5⟩:=bp.el (aa ct).2.2
    obtain⟨rfl,-⟩:=r5
    refine lia bp ct J<|ly J J<|lhx 0 0 g2 J<|la J ?_
    cases a7
    exact ku K
   ·refine arr 8 [] J ?_
    cases a7
    exact ku K
  refine en ?_
  refine cut (σ:=Hp × (List ah) × Value × List Nat) (fun s=>[(2,pQ a),(5,iV E),(7,aE),(8,pQ G),(9,pQ H),(12,pQ I),(16,v1),(17,iV (wz ((B.Levels.length:Int) - 1))),(18,M),(19,iV S),(20,s.2.2.1)]) (fun s=>St w0 s.1 [(I,.cells #[a6,iV w.Next] 29 (0,0)),(H,.cells #[e,j] 141 (0,0)),(G,.cells #[.string c.Name,iV c.Sal,l,p,u] 87 (0,0))] [s.2.2.2,ob s.2.2.1,P,ob M,ob v1,x,[a],ob f]) (fun s=>gH N c U O w E V B s1 s2 S (br N c U O Q w E V B n1) s.2.1=some r∧(OSl aT 103 1 s.1 P v1 s1)∧(OSl cL 105 2 s.1 D9 M s2)∧(OSl aF 105 2 s.1 s.2.2.2 s.2.2.1 s.2.1)∧(s.1 a=some (.cells #[g,f] 35 (0,0)))∧(HSl bc 100 1 s.1 x f O.Rules Q.toNat [v1])) (fun s hm=>?_) (fun K=>?_)
  ·clear h
   obtain⟨bK,s4,u2,cu⟩:=s
   obtain⟨h,d,y,k6,k7,k5⟩:=hm
   dsimp only at h d y k6 k7 k5 ⊢
   unfold gH at h
   refine att 10 [] J ?_
   refine cut (σ:=Int) (fun s=>[(2,pQ a),(5,iV E),(7,aE),(8,pQ G),(9,pQ H),(12,pQ I),(16,v1),(17,iV (wz ((B.Levels.length:Int) - 1))),(18,M),(19,iV S),(20,u2),(21,iV s)]) (fun s=>St w0 bK [(I,.cells #[a6,iV w.Next] 29 (0,0)),(H,.cells #[e,j] 141 (0,0)),(G,.cells #[.string c.Name,iV c.Sal,l,p,u] 87 (0,0))] [cu,ob u2,P,ob M,ob v1,x,[a],ob f]) (fun s=>iH N c U O w E V B s1 s2 S (br N c U O Q w E V B n1) s4 s=some r∧(HSl bc 100 1 bK x f O.Rules Q.toNat [v1])) (fun s hm=>?_) (fun K=>?_)
   ·clear h
    revert hm;revert s;intro s5 hm
    obtain⟨h,k8⟩:=hm
    try dsimp only at h k8 ⊢
    unfold iH at h
    refine att 6 [] J ?_
    refine lin (σ:=Hp × (List ah) × Value × List Nat × Int) (fun s=>[(2,pQ a),(5,iV E),(7,aE),(8,pQ G),(9,pQ H),(12,pQ I),(16,v1),(17,iV (wz ((B.Levels.length:Int) - 1))),(18,M),(19,iV S),(20,s.2.2.1),(21,iV s5),(22,iV s.2.2.2.2)]) (fun s=>St w0 s.1 [(I,.cells #[a6,iV w.Next] 29 (0,0)),(H,.cells #[e,j] 141 (0,0)),(G,.cells #[.string c.Name,iV c.Sal,l,p,u] 87 (0,0))] [s.2.2.2.1,ob s.2.2.1,P,ob M,ob v1,x,[a],ob f]) (fun m s=>dt N c U O w E V B s1 s2 S (br N c U O Q w E V B n1) s5 m s.2.1 s.2.2.2.2=some r∧(OSl aT 103 1 s.1 P v1 s1)∧(OSl cL 105 2 s.1 D9 M s2)∧(OSl aF 105 2 s.1 s.2.2.2.1 s.2.2.1 s.2.1)∧(s.1 a=some (.cells #[g,f] 35 (0,0)))∧(HSl bc 100 1 s.1 x f O.Rules Q.toNat [v1])) (bK,s4,u2,cu,0) N ⟨h,d,y,k6,k7,k8⟩ (sx [0,0,0,0,0,0,0,0] [0,0,0]) (fun n4 dd s hm=>?_)
    obtain⟨bL,s6,u3,df,s7⟩:=s
    obtain⟨h,d,y,bM,aD,k9⟩:=hm
    dsimp only at h d y bM aD k9 ⊢
    unfold dt at h
    refine atr 7 [] J ?_
    obtain⟨b2,a8,h⟩:=bs h
    refine WL.cutN 9 [(95,.bool b2),(2,pQ a),(5,iV E),(7,aE),(8,pQ G),(9,pQ H),(12,pQ I),(16,v1),(17,iV (wz ((B.Levels.length:Int) - 1))),(18,M),(19,iV S),(20,u3),(21,iV s5),(22,iV s7)] ?_ (fun K=>?_)
    rotate_left
    ·refine sp 86 a8 J (fun a8=>?_) fun a8=>?_
     ·refine arr 4 [0,32] J<|ly J J ?_
      obtain⟨x6,cv,a8⟩:=bs a8
      obtain⟨ep,F6,-,g3,er,et,r6⟩:=ay.el (aa cv).2.2
      obtain⟨rfl,-⟩:=r6
      refine lia ay cv J<|ly J J<|lhx 0 0 g3 J<|ly J J ?_
      obtain⟨x7,cw,a8⟩:=bs a8
      obtain⟨eu,F7,-,g4,ev,ew,r7⟩:=bp.el (aa cw).2.2
      obtain⟨rfl,-⟩:=r7
      refine lia bp cw J<|ly J J<|lhx 0 0 g4 J<|la J ?_
      cases a8
      exact ku K
     ·refine arr 9 [] J ?_
      cases a8
      exact ku K
    refine en ?_
    refine ch h J ?_ ?_ <;> intro h
    ·refine att 3 [] J<|WT.mix (Kn w0 bL (ob v1++P) [(I,.cells #[a6,iV w.Next] 29 (0,0)),(H,.cells #[e,j] 141 (0,0)),(G,.cells #[.string c.Name,iV c.Sal,l,p,u] 87 (0,0))]) (fun _=>true) mixed (fun _ h=>h.drew)<|ma 0 J MA (kn Kf.id (ai3 0 1 2 J J J)) J<|mq 1 J MA (kn Kf.id (ai3 0 1 2 J J J)) (aC o7 J (fun A hw=>hw.rgO (i:=2) J 0 5 [.string c.Name,iV c.Sal,l,p,u] J) J) J ?_
     refine mq 2 J MA (kn Kf.id (ai3 0 1 2 J J J)) (aC rm J (fun A hw=>hw.rgO (i:=0) J 0 2 [a6,iV w.Next] J) J) J<|ma 3 J MA (kn Kf.id (ai3 0 1 2 J J J)) J<|ma 4 J MA (kn Kf.id (ai3 0 1 2 J J J)) J<|ma 5 J MA (kn Kf.id (ai3 0 1 2 J J J)) J ?_
     obtain⟨x8,cx,h⟩:=bs h
     obtain⟨ey,F8,-,g5,dg,cy,r8⟩:=d.elS (aa cx).2.2
     obtain⟨v6,ez,rfl,rfl,h9⟩:=r8
     have cz:=h9.rslG aF.gives
     refine mq 6 J MA (kn Kf.id (ai3 0 1 2 J J J)) (ae o8 J J d.rsl cx) J<|mq 7 J MA (kn Kf.id (ai3 0 1 2 J J J)) (ak dR J) J<|mq 8 J MA (kn Kf.id (ai3 0 1 2 J J J)) (az sk J (fun A hw=>hw.rg (gb.2 (.inl dg)) (g5.of_eq 0 1 J J:rg _ _ _ [v6]))) J<|ma 9 J MA (kn Kf.id (ai3 0 1 2 J J J)) J ?_
     obtain⟨x9,cA,h⟩:=bs h
     obtain⟨eA,F9,-,g6,dh,di,r9⟩:=cz.el (aa cA).2.2
     obtain⟨v7,G1,v8,G2,rfl,rfl,dj,eB⟩:=r9
     refine mq 10 J MA (kn Kf.id (ai3 0 1 2 J J J)) (ae ci J J cz cA) J<|mq 11 J MA (kn Kf.id (ai3 0 1 2 J J J)) (ak oD J) J<|mq 12 J MA (kn Kf.id (ai3 0 1 2 J J J)) (az lz J (fun A hw=>hw.rg (gb.2 (.inr ((fun k h=>cy k h) _ dh))) (g6.of_eq 0 1 J J:rg _ _ _ [v7]))) J<|ma 13 J MA (kn Kf.id (ai3 0 1 2 J J J)) J ?_
     obtain⟨eC,dk,h⟩:=bs h
     refine WM.one 14 MA (mc J (fun _ v cB D A hq hw=>Kn.of (Kf.id.st hq.2.1 (Dj.app (hq.1.r (i:=2) J) (hq.1.r (i:=0) J))) (ai3 0 1 2 J J J) hw) (bt (js:=[1,0]) (R:=[P,ob M,ob v1,x,[a],ob f]) E5 J J (fun A hw ap hl=>pr N (bx hw ap hl) s6 c w x9.Ids E bM (aM.y (hw.uo ap)) (aN.y (hw.uo ap)) (aO.y (hw.uo ap)) (aS.y (hw.uo ap)) (dj.x (Dj.sub (Dj.sub (ap.q 0 J) (fun k h=>cy k h)) (fun k h=>di k (gb.2 (.inl h)))))  dk)) J ?_)
     rintro v9 eD eE ⟨af,aV,v10,eF,rfl,rfl,dm⟩
     replace k9:=k9.fr aV (af.q 5 J) (af.q 3 J)
     replace d:=d.fr aV (af.q 2 J) (af.q 0 J)
     replace y:=y.fr aV (af.q 1 J) (Dj.sub (af.q 0 J) i1)
     replace aD:=aV _ _ ((af.q 4 J) _ MC) aD
     have cj:=(Kf.id (F:=(ob v1++P)):Kf bL _ _).st aV (Dj.app (af.q 2 J) (af.q 0 J))
     refine ma 15 J MA (kn cj (ai3 0 1 2 J J J)) J<|WM.nil MA<|att 6 [] J ?_
     exact lb [1,0,0,0,0,0,0,0] [0,0,0] (dd (_,_,_,_,_) ⟨h,d,y,dm,aD,k9⟩)
    refine xt J<|sq<|WT.draw mixed MA (fun _ h=>h.drew)<|qq (de J) J<|qq (aG J) J<|qq (ak iG J) J<|qq (az xj J (fun A hw=>((bZ aD).of_eq 0 1 J J:rg _ _ _ [g]).rangeAt hw.fro)) J<|aqq 3 [0,32] J ?_
    obtain⟨dn,cC,h⟩:=bs h
    obtain⟨eG,eH,-,g7,eI,eJ,dp⟩:=ay.el (aa cC).2.2
    obtain⟨rfl,-⟩:=dp
    refine qq (ae aY J J ay cC) J<|qq (az rd J (fun A hw=>(g7.of_eq 0 1 J J:rg _ _ _ [iV dn]).rangeAt hw.in0)) J ?_
    obtain⟨bO,cD,h⟩:=bs h
    obtain⟨eK,eM,-,g8,eN,eO,dq⟩:=c4.el (aa cD).2.2
    obtain⟨v11,G3,rfl,dr,bP⟩:=dq
    obtain rfl:=dr.symm
    refine qq (ae oc J J c4 cD) J<|qq (ak gw J) J<|qq (az lz J (fun A hw=>(g8.of_eq 0 1 J J:rg _ _ _ [v11]).rangeAt hw.in0)) J<|aqt 8 [] J ?_
    refine lin (σ:=Hp × (List ah) × Value × List Nat × Int) (fun s=>[(2,pQ a),(5,iV E),(7,aE),(8,pQ G),(9,pQ H),(12,pQ I),(16,v1),(17,iV (wz ((B.Levels.length:Int) - 1))),(18,M),(19,iV S),(20,s.2.2.1),(23,v11),(24,iV s.2.2.2.2)]) (fun s=>St w0 s.1 [(I,.cells #[a6,iV w.Next] 29 (0,0)),(H,.cells #[e,j] 141 (0,0)),(G,.cells #[.string c.Name,iV c.Sal,l,p,u] 87 (0,0))] [s.2.2.2.1,ob s.2.2.1,P,ob M,ob v1,x,[a],ob f]) (fun m s=>ed N c w B s1 s2 S (br N c U O Q w E V B n1) bO m s.2.1 s.2.2.2.2=some r∧(OSl aT 103 1 s.1 P v1 s1)∧(OSl cL 105 2 s.1 D9 M s2)∧(OSl aF 105 2 s.1 s.2.2.2.1 s.2.2.1 s.2.1)∧(s.1 a=some (.cells #[g,f] 35 (0,0)))∧(HSl bc 100 1 s.1 x f O.Rules Q.toNat [v1])) (bL,s6,u3,df,0) N ⟨h,d,y,bM,aD,k9⟩ (sx [0,0,0,0,0,0,0,0] [0,0,0]) (fun n5 ds s hm=>?_)
    obtain⟨cE,s8,T,cF,s9⟩:=s
    obtain⟨h,d,y,bQ,bS,bT⟩:=hm
    dsimp only at h d y bQ bS bT ⊢
    unfold ed at h
    refine atr 5 [] J<|lno y J<|la J<|en ?_
    refine ch h J ?_ ?_ <;> intro h
    ·refine att 8 [] J ?_
     refine lin (σ:=Hp × (List ah) × Value × List Nat × Int) (fun s=>[(2,pQ a),(5,iV E),(7,aE),(8,pQ G),(9,pQ H),(12,pQ I),(16,v1),(17,iV (wz ((B.Levels.length:Int) - 1))),(18,M),(19,iV S),(20,s.2.2.1),(23,v11),(24,iV s9),(25,iV s.2.2.2.2)]) (fun s=>St w0 s.1 [(I,.cells #[a6,iV w.Next] 29 (0,0)),(H,.cells #[e,j] 141 (0,0)),(G,.cells #[.string c.Name,iV c.Sal,l,p,u] 87 (0,0))] [s.2.2.2.1,ob s.2.2.1,P,ob M,ob v1,x,[a],ob f]) (fun m s=>fu N c w s2 bO s9 (ed N c w B s1 s2 S (br N c U O Q w E V B n1) bO n5) m s.2.1 s.2.2.2.2=some r∧(OSl aT 103 1 s.1 P v1 s1)∧(OSl cL 105 2 s.1 D9 M s2)∧(OSl aF 105 2 s.1 s.2.2.2.1 s.2.2.1 s.2.1)∧(s.1 a=some (.cells #[g,f] 35 (0,0)))∧(HSl bc 100 1 s.1 x f O.Rules Q.toNat [v1])) (cE,s8,T,cF,0) N ⟨h,d,y,bQ,bS,bT⟩ (sx [0,0,0,0,0,0,0,0] [0,0,0]) (fun n6 du s hm=>?_)
     obtain⟨cG,dv,u5,eP,eQ⟩:=s
     obtain⟨h,d,y,bU,aZ,ba⟩:=hm
     dsimp only at h d y bU aZ ba ⊢
     unfold fu at h
     refine atr 5 [] J<|lnr bP J<|la J<|en ?_
     refine ch h J ?_ ?_ <;> intro h
     ·refine att 3 [] J<|WT.mix (Kn w0 cG (ob M) [(I,.cells #[a6,iV w.Next] 29 (0,0)),(H,.cells #[e,j] 141 (0,0)),(G,.cells #[.string c.Name,iV c.Sal,l,p,u] 87 (0,0))]) (fun _=>true) mixed (fun _ h=>h.drew)<|ma 0 J MA (kn Kf.id (ai3 0 1 2 J J J)) J<|mq 1 J MA (kn Kf.id (ai3 0 1 2 J J J)) (aC o7 J (fun A hw=>hw.rgO (i:=2) J 0 5 [.string c.Name,iV c.Sal,l,p,u] J) J) J ?_
      refine mq 2 J MA (kn Kf.id (ai3 0 1 2 J J J)) (aC rm J (fun A hw=>hw.rgO (i:=0) J 0 2 [a6,iV w.Next] J) J) J<|ma 3 J MA (kn Kf.id (ai3 0 1 2 J J J)) J<|ma 4 J MA (kn Kf.id (ai3 0 1 2 J J J)) J ?_
      obtain⟨dw,cH,h⟩:=bs h
      obtain⟨eR,eS,-,g9,dx,dy,dz⟩:=y.elS (aa cH).2.2
      obtain⟨v12,G4,eT,G5,rfl,rfl,dA,eU⟩:=dz
      refine mq 5 J MA (kn Kf.id (ai3 0 1 2 J J J)) (ae ci J J y.rsl cH) J<|mq 6 J MA (kn Kf.id (ai3 0 1 2 J J J)) (ak oD J) J<|mq 7 J MA (kn Kf.id (ai3 0 1 2 J J J)) (az lz J (fun A hw=>hw.rg dx (g9.of_eq 0 1 J J:rg _ _ _ [v12]))) J<|ma 8 J MA (kn Kf.id (ai3 0 1 2 J J J)) J<|ma 9 J MA (kn Kf.id (ai3 0 1 2 J J J)) J ?_
      obtain⟨cI,cJ,h⟩:=bs h
      obtain⟨eV,eW,-,g10,eX,eY,dB⟩:=bP.el (aa cJ).2.2
      obtain⟨rfl,-⟩:=dB
      refine mq 10 J MA (kn Kf.id (ai3 0 1 2 J J J)) (ae aY J J bP cJ) J<|mq 11 J MA (kn Kf.id (ai3 0 1 2 J J J)) (az rd J (fun A hw=>(g10.of_eq 0 1 J J:rg _ _ _ [iV cI]).rangeAt hw.1)) J ?_
      obtain⟨eZ,dC,h⟩:=bs h
      refine WM.one 12 MA (mc J (fun _ v cB D A hq hw=>Kn.of (Kf.id.st hq.2.1 (hq.1.r (i:=1) J)) (ai3 0 1 2 J J J) hw) (bt (js:=[1,0]) (R:=[P,ob M,ob v1,x,[a],ob f]) E5 J J (fun A hw ap hl=>pr N (bx hw ap hl) dv c w dw.Ids cI bU (aM.y (hw.uo ap)) (aN.y (hw.uo ap)) (aO.y (hw.uo ap)) (aS.y (hw.uo ap)) (dA.x (Dj.sub (ap.q 0 J) (fun k h=>i1 k (dy k (gb.2 (.inl h))))))  dC)) J ?_)
      rintro fb fc fe ⟨al,bb,ff,fg,rfl,rfl,dD⟩
      replace ba:=ba.fr bb (al.q 5 J) (al.q 3 J)
      replace d:=d.fr bb (al.q 2 J) (al.q 0 J)
      replace y:=y.fr bb (al.q 1 J) (Dj.sub (al.q 0 J) i1)
      replace aZ:=bb _ _ ((al.q 4 J) _ MC) aZ
      have cm:=(Kf.id (F:=(ob M)):Kf cG _ _).st bb (al.q 1 J)
      refine ma 13 J MA (kn cm (ai3 0 1 2 J J J)) J<|WM.nil MA<|att 6 [] J ?_
      exact lb [1,0,0,0,0,0,0,0] [0,0,0] (du (_,_,_,_,_) ⟨h,d,y,dD,aZ,ba⟩)
     refine att 7 [] J ?_
     exact lb [0,0,0,0,0,0,0,0] [0,0,0] (ds (_,_,_,_,_) ⟨h,d,y,bU,aZ,ba⟩)
    refine att 7 [] J ?_
    refine lin (σ:=Hp × (List ah) × List Nat × Int) (fun s=>[(2,pQ a),(5,iV E),(7,aE),(8,pQ G),(9,pQ H),(12,pQ I),(16,v1),(17,iV (wz ((B.Levels.length:Int) - 1))),(19,iV S),(20,T),(26,iV s.2.2.2)]) (fun s=>St w0 s.1 [(I,.cells #[a6,iV w.Next] 29 (0,0)),(H,.cells #[e,j] 141 (0,0)),(G,.cells #[.string c.Name,iV c.Sal,l,p,u] 87 (0,0))] [s.2.2.1,ob T,P,ob v1,x,[a],ob f]) (fun m s=>bR N c w B s1 S (br N c U O Q w E V B n1) m s.2.1 s.2.2.2=some r∧(OSl aT 103 1 s.1 P v1 s1)∧(OSl aF 105 2 s.1 s.2.2.1 T s.2.1)∧(s.1 a=some (.cells #[g,f] 35 (0,0)))∧(HSl bc 100 1 s.1 x f O.Rules Q.toNat [v1])) (cE,s8,cF,0) N ⟨h,d,bQ,bS,bT⟩ (sx [0,0,0,1,1,1,1] [0,0,0]) (fun n7 dE s hm=>?_)
    obtain⟨cK,fh,bd,dF⟩:=s
    obtain⟨h,d,bf,W,X⟩:=hm
    dsimp only at h d bf W X ⊢
    unfold bR at h
    refine atr 5 [] J<|lno bf J<|arr 2 [] J ?_
    obtain⟨b3,bg,h⟩:=bs h
    refine WL.cutN 4 [(158,.bool b3),(2,pQ a),(5,iV E),(7,aE),(8,pQ G),(9,pQ H),(12,pQ I),(16,v1),(17,iV (wz ((B.Levels.length:Int) - 1))),(19,iV S),(20,T),(26,iV dF)] ?_ (fun K=>?_)
    rotate_left
    ·refine sp 154 bg J (fun bg=>?_) fun bg=>?_
     ·refine arr 4 [] J ?_
      cases bg
      exact ku K
     ·refine arr 4 [] J ?_
      cases bg
      exact ku K
    refine en ?_
    refine ch h J ?_ ?_ <;> intro h
    ·refine att 3 [] J ?_
     obtain⟨dG,bV,h⟩:=bs h
     obtain⟨fi,fj,bA,an,dH,cM,dI⟩:=bf.focus bV
     obtain⟨bW,v17,rfl,rfl,dJ,bX⟩:=dH
     refine wtL [ob bW,ob v17,bA,ob T,P,ob v1,x,[a],ob f] (sre [0] [ob bW,ob v17,bA] J (by simpa[gk] using dI))<|WT.mix (Kn w0 cK (ob T) [(I,.cells #[a6,iV w.Next] 29 (0,0)),(H,.cells #[e,j] 141 (0,0)),(G,.cells #[.string c.Name,iV c.Sal,l,p,u] 87 (0,0))]) (fun i=>match i with | 10=>false | _=>true) mixed (fun _ h=>h.drew)<|ma 0 J MA (kn Kf.id (ai3 0 1 2 J J J)) J<|ma 1 J MA (kn Kf.id (ai3 0 1 2 J J J)) J ?_
     refine mq 2 J MA (kn Kf.id (ai3 0 1 2 J J J)) (aC o7 J (fun A hw=>hw.rgO (i:=2) J 0 5 [.string c.Name,iV c.Sal,l,p,u] J) J) J<|mq 3 J MA (kn Kf.id (ai3 0 1 2 J J J)) (aC rm J (fun A hw=>hw.rgO (i:=0) J 0 2 [a6,iV w.Next] J) J) J<|ma 4 J MA (kn Kf.id (ai3 0 1 2 J J J)) J<|ma 5 J MA (kn Kf.id (ai3 0 1 2 J J J)) J<|mq 6 J MA (kn Kf.id (ai3 0 1 2 J J J)) (bw ci J J an bV) J ?_
     refine mq 7 J MA (kn Kf.id (ai3 0 1 2 J J J)) (aC Gk J (fun A hw=>hw.rg an.hb (an.rg.of_eq 0 2 J J:rg _ _ _ [bW,v17])) J) J ?_
     obtain⟨dL,dM,h⟩:=bs h
     refine WM.one 8 MA (mc J (fun _ v cB D A hq hw=>Kn.of (Kf.id.st hq.2.1 (hq.1.r (i:=2) J)) (ai3 0 1 2 J J J) hw) (bt (js:=[0]) (R:=[ob v17,bA,ob T,P,ob v1,x,[a],ob f]) IG J J (fun A hw ap hl=>ww N (bx hw ap hl) c w dG (aM.y (hw.uo ap)) (aN.y (hw.uo ap)) (aO.y (hw.uo ap)) (aS.y (hw.uo ap)) dJ (bX.rsl.x (Dj.app (ap.q 0 J) dN))  dM)) J ?_)
     rintro fk fl fm ⟨aj,aJ,bh,v20,rfl,rfl,bB,bC⟩
     replace X:=X.fr aJ (aj.q 7 J) (aj.q 5 J)
     replace d:=d.fr aJ (aj.q 4 J) (aj.q 3 J)
     replace an:=an.fr aJ (aj.q 2 J) (aj.q 1 J)
     replace bX:=bX.fr aJ (aj.q 0 J) dN
     replace W:=aJ _ _ ((aj.q 6 J) _ MC) W
     have cM:=(Kf.id (F:=(ob T)):Kf cK _ _).st aJ (aj.q 2 J)
     refine mq 9 J MA (kn cM (ai3 0 1 2 J J J)) (bw ci J J an bV) J ?_
     refine WM.one 10 MA (mu J (fun hc=>by cases hc) (Ao (js:=[4]) (Rr:=[ob bh,ob v20,ob v17,bA,P,ob v1,x,[a],ob f]) (o:=0) (vs:=[bh,v20]) (cs':=[bh,v20]) aF.lasts sC J J J J ⟨bB.one,bC.one,trivial⟩ J an J J (fun ap=>ap.q 3 J)) J ?_)
     rintro dO fo ⟨⟨aq,bk⟩,dP⟩
     replace X:=X.fr bk (aq.q 8 J) (aq.q 6 J)
     replace d:=d.fr bk (aq.q 5 J) (aq.q 4 J)
     replace bB:=bB.fr bk (aq.q 0 J) dN
     replace bC:=bC.fr bk (aq.q 1 J) dN
     replace W:=bk _ _ ((aq.q 7 J) _ MC) W
     refine WM.nil MA<|att 6 [] J ?_
     have cN:aF dO _ [bh,v20] dL:=⟨bh,v20,J,J,bB,bC⟩
     obtain⟨dQ,dS,dT⟩:=dP.unfocus cN (aF.knows _ _ _ _ cN)
     refine wtL [dQ,ob T,ob v17,P,ob v1,x,[a],ob f] (smg [1,1,2] J (by simpa[gk,bH] using dT)) ?_
     exact lb [0,0,1,1,1,1,1] [0,0,0] (dE (_,_,_,_) ⟨h,d,dS,W,X⟩)
    refine atr 7 [] J ?_
    obtain⟨fp,bY,h⟩:=bs h
    obtain⟨fq,fr,bm,aK,dU,fs,dV⟩:=d.focus bY
    obtain⟨v21,aL,rfl,rfl,dW⟩:=dU
    refine wlL [ob v21,aL,bm,bd,ob T,ob v1,x,[a],ob f] (sre [2] [ob v21,aL,bm] J (by simpa[gk] using dV))<|lih aK bY J<|lf dR J J J<|lgx 0 0 aK.rg J<|la J ?_
    obtain⟨dX,dY,h⟩:=bs h
    have bn:=bf.gives aF.gives
    refine le' (cq aF.lasts aF.one ci mQ J J J J J (js:=[0]) (Rr:=[aL,bm,bd,ob T,ob v1,x,[a],ob f]) J dW bf (fun ap=>ap.q 0 J) (fun ap=>ap.q 2 J) dY) J ?_
    rintro v22 ft fv ⟨⟨au,bD⟩,bE⟩
    replace X:=X.fr bD (au.q 7 J) (au.q 5 J)
    replace aK:=aK.fr bD (au.q 4 J) (au.q 1 J)
    replace bn:=bn.fr bD (au.q 3 J) (au.q 2 J)
    replace W:=bD _ _ ((au.q 6 J) _ MC) W
    refine wlL [(aL++bd),ob v22,bm,ob T,ob v1,x,[a],ob f] (smg [1,2] J (SP.eq MC))<|lih aK bY J<|lf dR J J J<|lu (us [4] [(aL++bd),ob v22,bm,ob T,x,[a],ob f] 0 aT.lasts AG J J bE.one J aK J (fun ap=>ap.q 2 J)) J ?_
    rintro dZ fw ⟨⟨aw,bF⟩,e0⟩
    replace X:=X.fr bF (aw.q 6 J) (aw.q 4 J)
    replace bE:=bE.fr bF (aw.q 1 J) (aw.q 0 J)
    replace bn:=bn.fr bF (aw.q 3 J) (Dj.sub (aw.q 0 J) (fun k hk=>gb.2 (.inr hk)))
    replace W:=bF _ _ ((aw.q 5 J) _ MC) W
    refine art 11 [] J ?_
    have cP:aT dZ _ [v22] (⟨dX⟩:ao):=⟨v22,(aL++bd),J,J,bE⟩
    obtain⟨e1,e2,e3,e4,fx⟩:=e0.unfocusM cP (aT.knows _ _ _ _ cP)
    refine wtL [e1,ob v1,ob T,x,[a],ob f] (smg [2,1,1] J (by simpa[gk,bH] using e3)) ?_
    exact lb [0,1,0,0,0,0] [0,0,0] (db (_,_,_,_,_,_,_) ⟨h,e2,bn,(fun k hk=>((fun k hk=>(fun k hk=>e4 k (gb.2 (.inr hk))) k ((fun k hk=>gb.2 (.inr hk)) k hk)) k hk)),W,X⟩)
   refine ch h J ?_ ?_ <;> intro h
   ·refine atr 4 [] J ?_
    obtain⟨fy,cQ,h⟩:=bs h
    obtain⟨fz,fA,-,g11,fB,fC,e5⟩:=d.elS (aa cQ).2.2
    obtain⟨v23,fE,rfl,rfl,e6⟩:=e5
    have e7:=e6.rslG aF.gives
    refine lio d cQ J<|lf dR J J J<|lgx 0 0 g11 J<|lnr e7 J<|la J<|lno y J<|art 3 [] J ?_
    exact wo [0,0,0,0,0,0,0,0] [0,0,0] (K _ ⟨h,k5⟩)
   refine WT.skip ?_
   exact wo [0,0,0,0,0,0,0,0] [0,0,0] (K _ ⟨h,k5⟩)
  refine ch h J ?_ ?_ <;> intro h
  ·refine atr 4 [69,2] J<|le' (cO (R:=RI .i64) RI.lasts aY gF J J) J ?_
   rintro v24 fF fG ⟨bo,e8⟩
   replace Z:=Z.f0 bo
   replace d:=d.f0 bo
   replace y:=y.f0 bo
   replace h8:=h8.f0 bo
   replace Y:=bo _ _ MC Y
   refine la J<|kcb [2,1] h J J J J (fun b ap z q=>pr N b ([]:List ah) c w ([]:List Int) E h8 (aM.y z) (aN.y z) (aO.y z) (aS.y z) (e8.rsl.x (Dj.app (ap.q 0 J) dN)) q) ?_
   rintro fH h v25 fI fJ ⟨ax,bG,v26,fK,rfl,rfl,e9⟩
   replace Z:=Z.fr bG (ax.q 6 J) (ax.q 4 J)
   replace d:=d.fr bG (ax.q 3 J) (ax.q 1 J)
   replace y:=y.fr bG (ax.q 2 J) (Dj.sub (ax.q 1 J) i1)
   replace Y:=bG _ _ ((ax.q 5 J) _ MC) Y
   refine la J<|en ?_
   exact wo [1,0,1,1,1,1,1,1] [0,0,0] (K (_,_,_,_) ⟨h,d,y,e9,Y,Z⟩)
  refine WT.skip ?_
  exact wo [0,0,0,0,0,0,0,0] [0,0,0] (K (_,_,_,_) ⟨h,d,y,h8,Y,Z⟩)
 refine xt J ?_
 have cR:bc cn _ [v1] (⟨s1⟩:aP):=⟨v1,P,J,J,d⟩
 obtain⟨cS,ea,eb,fL,fM⟩:=Z.unfocusM cR (bc.knows _ _ _ _ cR)
 refine wtL [cS,ob M,[a],ob f] (smg [2,0,1] J (by simpa[gk,bH] using eb)) ?_
 refine WT.fin hF aA.none (fun A hw=>?_)
 cases h
 refine aW (js:=[2,2,0]) hw J ⟨f,cS,J,J,J,ea,Y⟩
theorem tT (w0:av n Φ [[a],ob g,c0,ob f,ad].flatten) (H:bo) (T:bO) (K:aI) (A:ag) (o:Int) (ao:RSl cr 5 n b6 l H.Rules) (aq:RSl cz 4 n b7 e T.Alphas) (aJ:RSl fC 2 n c7 j T.Chains) (U:OSl bk 133 1 Φ c0 g K.Alphas) (d:OSl bc 100 1 Φ ad f K.Rules) (V:Φ a=some (.cells #[g,f] 35 (0,0))) (aK:RSl bj 3 n cb b0 A.Items) {r:aI} (h:mR N H T K A o=some r) :
  Calls prog 125 [.agg [.string H.Name,l].toArray,.agg [e,j].toArray,pQ a,.agg [b0,iV A.Next].toArray,iV o].toArray w0.w (be Φ w0.w [[a],ob g,c0,ob f,ad].flatten (fun au Fs v=>∃ (aw:Value) (aL:List Nat) (ax:Value) (aM:List Nat),v = .tuple #[]∧Fs=[[a],ob aw,aL,ob ax,aM]∧OSl bk 133 1 au aL aw r.Alphas∧OSl bc 100 1 au aM ax r.Rules∧au a=some (.cells #[aw,ax] 35 (0,0)))):=by
 refine eL func125 J ntmps125 J (L:=[[a],ob g,c0,ob f,ad]) w0 (fun hF=>?_)
 unfold mR at h
 refine sr<|lbx J fun W=>lbx J fun X=>lbx J fun Y=>arr 5 [2] J<|kab h J J J (fun b z q=>n9 N b A o (aK.y z) q) ?_
 rintro B h v1 bM F1 ⟨Z,ay,v2,rfl,rfl,h1⟩
 replace U:=U.fr ay (Z.q 1 J) (Z.q 2 J)
 replace d:=d.fr ay (Z.q 3 J) (Z.q 4 J)
 replace V:=ay _ _ ((Z.q 0 J) _ MC) V
 refine arr 3 [] J<|lnz mr J fun a8=>soN 0 o9 J ⟨J,h1.one,trivial⟩ J ?_
 refine arr 4 [] J<|le' (cO RB.lasts Cz KY J J) J ?_
 rintro v3 aV D1 ⟨ai,h2⟩
 replace U:=U.f0 ai
 replace d:=d.f0 ai
 replace h1:=h1.f0 ai
 replace V:=ai _ _ MC V
 refine art 8 [] J ?_
 refine lin (σ:=Hp × (List bm) × List Nat × (List Bool) × Value × Int) (fun s=>[(2,pQ a),(4,iV o),(5,pQ W),(6,pQ X),(8,pQ Y),(10,pQ a8),(12,s.2.2.2.2.1),(13,iV s.2.2.2.2.2)]) (fun s=>St w0 s.1 [(a8,.cells #[.string B.1.Kind,v2] 52 (0,0)),(Y,.cells #[b0,iV A.Next] 29 (0,0)),(X,.cells #[e,j] 47 (0,0)),(W,.cells #[.string H.Name,l] 26 (0,0))] [ob s.2.2.2.2.1,ob v2,[a],ob g,s.2.2.1,ob f,ad]) (fun m s=>eQ N H T K A o B m s.2.1 s.2.2.2.1 s.2.2.2.2.2=some r∧(OSl bk 133 1 s.1 s.2.2.1 g s.2.1)∧(OSl bc 100 1 s.1 ad f K.Rules)∧(OSl aX 95 3 s.1 [] v2 B.1.Fields)∧(OSl RB 4 1 s.1 [] s.2.2.2.2.1 s.2.2.2.1)∧(s.1 a=some (.cells #[g,f] 35 (0,0)))) (aV,K.Alphas,c0,([]:List Bool),v3,0) N ⟨h,U,d,h1,h2,V⟩ (sx [0,0,0,0,0,0,0] [0,0,0,0]) (fun n1 aN s hm=>?_)
 obtain⟨aO,s1,D2,s2,u1,s3⟩:=s
 obtain⟨h,w,d,h1,x,k⟩:=hm
 dsimp only at h w d h1 x k ⊢
 unfold eQ at h
 refine atr 6 [0,64] J<|lnr aq J<|la J<|en ?_
 refine ch h J ?_ ?_ <;> intro h
 ·refine att 4 [] J<|WT.draw mixed MA (fun _ h=>h.drew)<|aqq 3 [0,64] J ?_
  obtain⟨x2,aR,h⟩:=bs h
  obtain⟨bN,F2,-,g1,bP,bQ,r1⟩:=aq.el (aa aR).2.2
  obtain⟨v4,G1,v5,G2,rfl,rfl,h3,h4⟩:=r1
  refine qq (ae zU J J aq aR) J<|qq (aC uh J (fun y hw=>(g1.of_eq 0 4 J J:rg _ _ _ [.string x2.Kind,iV x2.N,v4,v5]).rangeAt hw.in0) J) J<|qq (aC nT J (fun y hw=>hw.rgO (i:=0) J 0 2 [.string B.1.Kind,v2] J) J) J ?_
  obtain⟨M,aZ,h⟩:=bs h
  refine qp (cK Ie J (fun y hw=>yT N (ba hw.fro) x2 B.1 (h3.y hw.up) (h4.y hw.up) h1.rsl aZ)) J<|aqr 6 [] J ?_
  have b1:RC RB 1 aO ([[]]:List (List Nat)) [.bool M] ([M]:List Bool):=RC.cons (c:=[.bool M]) (cells:=[]) ⟨J,J⟩ J (RC.nil _ _ _)
  refine le' (aQ (vs:=[(0,.bool M)]) (C:=#[.bool M]) RB.lasts Cz KY J J J J (ac Jp (a7 (C':=[.bool M]) J J J J J (ab))) J b1 J (by simpa using Kw.nil)) J ?_
  rintro v6 b2 D3 ⟨af,h5⟩
  replace h5:OSl RB 4 1 b2 [] v6 ([M]:List Bool):=by simpa using h5
  replace w:=w.f0 af
  replace d:=d.f0 af
  replace h1:=h1.f0 af
  replace x:=x.f0 af
  replace k:=af _ _ MC k
  obtain⟨x4,b3,h⟩:=bs h
  refine le' (bg RB.lasts RB.one RB.flat Cz M5 J J J J J (js:=[1]) (Rr:=[ob v6,ob v2,[a],ob g,D2,ob f,ad]) J x h5.rsl b3) J ?_
  rintro v7 aB D4 ⟨⟨P,aj⟩,I⟩
  replace w:=w.fr aj (P.q 3 J) (P.q 4 J)
  replace d:=d.fr aj (P.q 5 J) (P.q 6 J)
  replace h1:=h1.fr aj (P.q 1 J) dN
  replace k:=aj _ _ ((P.q 2 J) _ MC) k
  refine art 6 [] J ?_
  refine ch h J ?_ ?_ <;> intro h
  ·obtain⟨x5,aD,h⟩:=bs h
   obtain⟨bR,F3,D5,E,r2,aF,bb⟩:=w.focus aD
   obtain⟨v8,rfl,rfl,h8⟩:=r2
   refine wtL [ob v8,D5,ob v7,ob v6,ob v2,[a],ob g,ob f,ad] (sre [5] [ob v8,D5] J (by simpa[gk] using bb))<|WT.mix (Kn w0 aB ([a]++ob g) [(a8,.cells #[.string B.1.Kind,v2] 52 (0,0)),(Y,.cells #[b0,iV A.Next] 29 (0,0)),(X,.cells #[e,j] 47 (0,0)),(W,.cells #[.string H.Name,l] 26 (0,0))]) (fun i=>match i with | 18=>false | _=>true) mixed (fun _ h=>h.drew)<|ma 0 J MA (kn Kf.id (am [0,1,2,3] J)) J ?_
   refine mq 1 J MA (kn Kf.id (am [0,1,2,3] J)) (aG J) J<|mq 2 J MA (kn Kf.id (am [0,1,2,3] J)) (ak iG J) J<|mq 3 J MA (kn Kf.id (am [0,1,2,3] J)) (az xj J (fun y hw=>hw.rg (gb.2 (.inl MC)) ((bZ k).of_eq 0 1 J J:rg _ _ _ [g]))) J<|ma 4 J MA (kn Kf.id (am [0,1,2,3] J)) J<|ma 5 J MA (kn Kf.id (am [0,1,2,3] J)) J<|mq 6 J MA (kn Kf.id (am [0,1,2,3] J)) (aG J) J ?_
   refine mq 7 J MA (kn Kf.id (am [0,1,2,3] J)) (ak iG J) J<|mq 8 J MA (kn Kf.id (am [0,1,2,3] J)) (az xj J (fun y hw=>hw.rg (gb.2 (.inl MC)) ((bZ k).of_eq 0 1 J J:rg _ _ _ [g]))) J<|ma 9 J MA (kn Kf.id (am [0,1,2,3] J)) J<|mq 10 J MA (kn Kf.id (am [0,1,2,3] J)) (bw oc J J E aD) J<|mq 11 J MA (kn Kf.id (am [0,1,2,3] J)) (ak gw J) J ?_
   refine mq 12 J MA (kn Kf.id (am [0,1,2,3] J)) (az lz J (fun y hw=>hw.rg (gb.2 (.inr E.hb)) (E.rg.of_eq 0 1 J J:rg _ _ _ [v8]))) J<|ma 13 J MA (kn Kf.id (am [0,1,2,3] J)) J ?_
   have bd:RC (RI .i64) 1 aB ([[]]:List (List Nat)) [iV o] ([o]:List Int):=RC.cons (c:=[iV o]) (cells:=[]) ⟨J,J⟩ J (RC.nil _ _ _)
   refine WM.one 14 MA (me J (fun _ v bf D y hq hw=>Kn.of (Kf.id.se hq.1) (am [0,1,2,3] J) hw) (aQ (vs:=[(0,iV o)]) (C:=#[iV o]) RI.lasts aY gF J J J J (ac ij (a7 (C':=[iV o]) J J J J J (ab))) J bd J (by simpa using Kw.nil)) J ?_)
   rintro v9 bh D6 ⟨O,h9⟩
   replace h9:OSl (RI .i64) 3 1 bh [] v9 ([o]:List Int):=by simpa using h9
   replace E:=E.f0 O
   replace d:=d.f0 O
   replace h1:=h1.f0 O
   replace I:=I.f0 O
   replace h8:=h8.f0 O
   replace k:=O _ _ MC k
   obtain⟨x6,bl,h⟩:=bs h
   have aF:=(Kf.id (F:=([a]++ob g)):Kf aB _ _).se O
   refine WM.one 15 MA (me J (fun _ v bf D y hq hw=>Kn.of (aF.st hq.1.2 (Dj.app (hq.1.1.r (i:=5) J) (hq.1.1.r (i:=6) J))) (am [0,1,2,3] J) hw) (bg RI.lasts RI.one RI.flat aY jH J J J J J (js:=[1]) (Rr:=[ob v9,D5,ob v7,ob v6,ob v2,[a],ob g,ob f,ad]) J h8 h9.rsl bl) J ?_)
   rintro v10 bS D7 ⟨⟨G,Q⟩,al⟩
   replace E:=E.fr Q (G.q 6 J) (G.q 1 J)
   replace d:=d.fr Q (G.q 7 J) (G.q 8 J)
   replace h1:=h1.fr Q (G.q 4 J) dN
   replace I:=I.fr Q (G.q 2 J) dN
   replace k:=Q _ _ ((G.q 5 J) _ MC) k
   have aS:=aF.st Q (Dj.app (G.q 5 J) (G.q 6 J))
   refine mqT 16 [17,18] J MA (kn aS (am [0,1,2,3] J)) (bw oc J J E aD) J<|mq 17 J MA (kn aS (am [0,1,2,3] J)) (ak gw J) J ?_
   refine WM.one 18 MA (mu J (fun hc=>by cases hc) (us [7] [ob v10,ob v9,D5,ob v7,ob v6,ob v2,[a],ob f,ad] 0 bk.lasts qU J J al.one J E J (fun ap=>ap.q 2 J)) J ?_)
   rintro bn D8 ⟨⟨S,ah⟩,bp⟩
   replace d:=d.fr ah (S.q 7 J) (S.q 8 J)
   replace h1:=h1.fr ah (S.q 5 J) dN
   replace I:=I.fr ah (S.q 3 J) dN
   replace al:=al.fr ah (S.q 0 J) dN
   replace k:=ah _ _ ((S.q 6 J) _ MC) k
   refine WM.nil MA<|att 6 [] J ?_
   have r3:bk bn _ [v10] (⟨x6⟩:bm):=⟨v10,J,J,al⟩
   obtain⟨D9,bq,br⟩:=bp.unfocus r3 (bk.knows _ _ _ _ r3)
   refine wtL [D9,ob g,ob v9,ob v7,ob v6,ob v2,[a],ob f,ad] (smg [1,2] J (by simpa[gk,bH] using br)) ?_
   exact lb [3,4,4,1,0,2,2] [0,0,0,0] (aN (_,_,_,_,_,_) ⟨h,bq,d,h1,I,k⟩)
  refine att 7 [] J ?_
  exact lb [0,1,1,1,1,1,1] [0,0,0,0] (aN (_,_,_,_,_,_) ⟨h,w,d,h1,I,k⟩)
 refine att 6 [] J ?_
 refine lin (σ:=Hp × (List aP) × Value × List Nat × Int) (fun s=>[(2,pQ a),(4,iV o),(5,pQ W),(6,pQ X),(8,pQ Y),(10,pQ a8),(12,u1),(15,iV s.2.2.2.2)]) (fun s=>St w0 s.1 [(a8,.cells #[.string B.1.Kind,v2] 52 (0,0)),(Y,.cells #[b0,iV A.Next] 29 (0,0)),(X,.cells #[e,j] 47 (0,0)),(W,.cells #[.string H.Name,l] 26 (0,0))] [ob u1,ob v2,[a],ob g,D2,ob s.2.2.1,s.2.2.2.1]) (fun m s=>gj N H T A o B s1 s2 m s.2.1 s.2.2.2.2=some r∧(OSl bk 133 1 s.1 D2 g s1)∧(OSl bc 100 1 s.1 s.2.2.2.1 s.2.2.1 s.2.1)∧(OSl aX 95 3 s.1 [] v2 B.1.Fields)∧(OSl RB 4 1 s.1 [] u1 s2)∧(s.1 a=some (.cells #[g,s.2.2.1] 35 (0,0)))) (aO,K.Rules,f,ad,0) N ⟨h,w,d,h1,x,k⟩ (sx [0,0,0,0,0,0,0] [0,0,0,0]) (fun n2 bu s hm=>?_)
 obtain⟨bT,s4,u2,bz,s5⟩:=s
 obtain⟨h,w,k4,h1,x,k5⟩:=hm
 dsimp only at h w k4 h1 x k5 ⊢
 unfold gj at h
 refine atr 6 [1,96] J<|lnr ao J<|la J<|en ?_
 refine ch h J ?_ ?_ <;> intro h
 ·refine att 3 [] J<|wm [0,1,2,3] [16] J<|amm 9 [10,11,12,34,13,14,2,15,0,1,1,96,2] [0,1,2,3] J J ?_
  obtain⟨x7,aT,h⟩:=bs h
  obtain⟨bU,F4,-,g2,bV,bW,r4⟩:=ao.el (aa aT).2.2
  obtain⟨v11,G3,v12,G4,bA,G5,rfl,rfl,bB,bC,bD⟩:=r4
  refine mqT 3 [4,16] J MA (kN [0,1,2,3]) (ae si J J ao aT) J<|mq 4 J MA (kN [0,1,2,3]) (aC o7 J (fun y hw=>(g2.of_eq 0 5 J J:rg _ _ _ [.string x7.Name,iV x7.Sal,v11,v12,bA]).rangeAt hw.1) J) J<|amm 3 [5,1,6,64,7] [0,1,2,3] J J ?_
  obtain⟨x8,aU,h⟩:=bs h
  obtain⟨bX,F5,-,g3,bY,c4,r5⟩:=aJ.el (aa aU).2.2
  obtain⟨bE,G6,bF,G7,rfl,rfl,bG,bI⟩:=r5
  refine mqT 8 [9,16] J MA (kN [0,1,2,3]) (ae A4 J J aJ aU) J<|mq 9 J MA (kN [0,1,2,3]) (aC Fp J (fun y hw=>(g3.of_eq 0 2 J J:rg _ _ _ [bE,bF]).rangeAt hw.1) J) J ?_
  obtain⟨x9,bJ,h⟩:=bs h
  refine WM.one 16 MA (mc J (fun hc=>by cases hc) (bt (js:=[2,4,4]) (R:=[ob u1,ob v2,ob g,D2]) Ii J J (fun y hw ap hl=>xc N (bx hw ap hl) x7 x8 (⟨s1,s4⟩:aI) s5 A o B.1 s2 (bB.y (hw.uo ap)) (bC.y (hw.uo ap)) (bD.y (hw.uo ap)) (bG.y (hw.uo ap)) (bI.y (hw.uo ap)) ((w.rslG bk.gives).x (Dj.app (ap.q 2 J) (ap.q 3 J))) k4 k5 (aK.y (hw.uo ap)) (h1.rsl.x (Dj.app (ap.q 1 J) dN)) (x.rsl.x (Dj.app (ap.q 0 J) dN))  bJ)) J ?_)
  rintro c5 cc F6 ⟨an,aH,v17,cd,rfl,rfl,e1,bK,bL⟩
  replace w:=w.fr aH (an.q 2 J) (an.q 3 J)
  replace h1:=h1.fr aH (an.q 1 J) dN
  replace x:=x.fr aH (an.q 0 J) dN
  refine WM.nil MA<|att 6 [] J ?_
  exact lb [3,3,0,2,2,0,0] [0,0,0,0] (bu (_,_,_,_,_) ⟨h,w,bK,h1,x,bL⟩)
 refine xt J ?_
 refine WT.fin hF aA.none (fun y hw=>?_)
 cases h
 refine aW (js:=[2,2,2,2,2]) hw J ⟨g,D2,u2,bz,J,J,w,k4,k5⟩
end Go.Proofs.YtedmfnmbjglmbaaGreat
