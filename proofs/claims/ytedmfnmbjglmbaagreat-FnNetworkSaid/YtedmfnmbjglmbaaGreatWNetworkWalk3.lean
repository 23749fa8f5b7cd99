/- Printed by a program of ours: each Go function computes its Lean function. -/
import Derived.Test.YtedmfnmbjglmbaaGreatProg
import Derived.Test.YtedmfnmbjglmbaaGreatWNetworkWalk2
namespace Go.Proofs.YtedmfnmbjglmbaaGreat
open Eng Tryz
open Go.RowKit (Below)
set_option linter.unusedVariables false
set_option linter.unusedSimpArgs false

set_option maxRecDepth 100000
set_option maxHeartbeats 1000000
variable {d a:Hp} {e j a6 f g aj l k ad:Value} {ai aE b6 ar a1 pG3_0 b0 b4 b5 o pD0:List Nat} {n:Nat} (N:Nat)
theorem zG (w0:aA d a [ob f,ar,ob g,a1].flatten) (A:bq) (O:cA) (E:aY) (x:af) (p:Int) (P:RSl eC 5 d ai e A.Rules) (aG:RSl cP 4 d aE j O.Alphas) (Q:RSl fw 2 d b6 a6 O.Chains) (aH:OSl cz 133 1 a ar f E.Alphas) (t:OSl bU 100 1 a a1 g E.Rules) (Z:RSl bm 3 d pG3_0 aj x.Items) {r:(List cn) × (List aV)} (h:ol N A O E x p=some r) :
  Calls prog 68 [.agg [.string A.Name,e].toArray,.agg [j,a6].toArray,.agg [f,g].toArray,.agg [aj,iV x.Next].toArray,iV p].toArray w0.w (bc a w0.w [ob f,ar,ob g,a1].flatten (fun aU Fs v=>∃ (aX:List Nat) (aZ:List Nat),v = .tuple #[]∧Fs=[ob f,aX,ob g,aZ]∧OSl cz 133 1 aU aX f r.1∧OSl bU 100 1 aU aZ g r.2)):=by
 refine eL func68 J ntmps68 J (L:=[ob f,ar,ob g,a1]) w0 (fun hF=>?_)
 unfold ol at h
 refine sr<|lbx J fun S=>lbx J fun T=>lbx J fun U=>lbx J fun V=>arr 5 [2] J<|kab h J J J (fun b z q=>rz N b x p (Z.y z) q) ?_
 rintro x1 h v1 bf F1 ⟨av,b1,v2,rfl,rfl,h1⟩
 replace aH:=aH.fr b1 (av.q 0 J) (av.q 1 J)
 replace t:=t.fr b1 (av.q 2 J) (av.q 3 J)
 refine arr 3 [] J<|lnz nv J fun aI=>soN 0 oZ J ⟨J,h1.one,trivial⟩ J ?_
 refine arr 7 [0,96] J<|lnr aG J<|art 3 [] J ?_
 refine lin (σ:=Hp × (List cn) × List Nat × Int) (fun s=>[(4,iV p),(5,pQ S),(6,pQ T),(7,pQ U),(8,pQ V),(10,pQ aI),(24,j),(25,iV (O.Alphas.length:Int)),(26,iV s.2.2.2)]) (fun s=>St w0 s.1 [(aI,.cells #[.string x1.1.Kind,v2] 52 (0,0)),(V,.cells #[aj,iV x.Next] 29 (0,0)),(U,.cells #[f,g] 35 (0,0)),(T,.cells #[j,a6] 47 (0,0)),(S,.cells #[.string A.Name,e] 26 (0,0))] [ob v2,ob f,s.2.2.1,ob g,a1]) (fun m s=>eZ N A O E x p x1 m s.2.1 s.2.2.2=some r∧(OSl cz 133 1 s.1 s.2.2.1 f s.2.1)∧(OSl bU 100 1 s.1 a1 g E.Rules)∧(OSl aS 95 3 s.1 [] v2 x1.1.Fields)) (bf,E.Alphas,ar,0) N ⟨h,aH,t,h1⟩ (sx [0,0,0,0,0] [0,0,0,0,0]) (fun n1 b2 s hm=>?_)
 obtain⟨ax,s1,K,s2⟩:=s
 obtain⟨h,u,t,h1⟩:=hm
 dsimp only at h u t h1 ⊢
 unfold eZ at h
 refine att 5 [] J ?_
 refine ch h J ?_ ?_ <;> intro h
 ·refine atr 6 [] J ?_
  obtain⟨x2,b3,h⟩:=bs h
  obtain⟨bQ,F2,-,g1,bR,bS,r1⟩:=aG.el (a8 b3).2.2
  obtain⟨v3,G1,v4,G2,rfl,rfl,h2,h3⟩:=r1
  refine lia aG b3 J<|lhx 0 4 g1 J<|lnz nK J fun bg=>la J<|soN 0 sM J ⟨J,J,h2.one,h3.one,trivial⟩ J ?_
  refine arr 5 [4,34] J<|qz h (fun b z q=>zL N b x2 x1.1 (h2.y z) (h3.y z) h1.rsl q) J J J fun x3 h=>en ?_
  refine ch h J ?_ ?_ <;> intro h
  ·obtain⟨x4,aJ,h⟩:=bs h
   obtain⟨bT,F3,D2,G,r2,aL,bh⟩:=u.focus aJ
   obtain⟨v5,rfl,rfl,h5⟩:=r2
   refine wtL [ob v5,D2,ob v2,ob f,ob g,a1] (sre [2] [ob v5,D2] J (by simpa[gi] using bh))<|WT.mix (Kn w0 ax (ob f) [(bg,.cells #[.string x2.Kind,iV x2.N,v3,v4] 137 (0,0)),(aI,.cells #[.string x1.1.Kind,v2] 52 (0,0)),(V,.cells #[aj,iV x.Next] 29 (0,0)),(U,.cells #[f,g] 35 (0,0)),(T,.cells #[j,a6] 47 (0,0)),(S,.cells #[.string A.Name,e] 26 (0,0))]) (fun i=>match i with | 14=>false | _=>true) mixed (fun _ h=>h.drew) ?_
   refine mq 0 J OX (kn Kf.id (am [0,1,2,3,4,5] J)) (aB l5 J) J<|mq 1 J OX (kn Kf.id (am [0,1,2,3,4,5] J)) (aW Cc J (fun B hw=>hw.rgO (i:=3) J 0 1 [f] J)) J<|ma 2 J OX (kn Kf.id (am [0,1,2,3,4,5] J)) J<|mq 3 J OX (kn Kf.id (am [0,1,2,3,4,5] J)) (aB l5 J) J<|mq 4 J OX (kn Kf.id (am [0,1,2,3,4,5] J)) (aW Cc J (fun B hw=>hw.rgO (i:=3) J 0 1 [f] J)) J ?_
   refine ma 5 J OX (kn Kf.id (am [0,1,2,3,4,5] J)) J<|mq 6 J OX (kn Kf.id (am [0,1,2,3,4,5] J)) (cO vF J J G aJ) J<|mq 7 J OX (kn Kf.id (am [0,1,2,3,4,5] J)) (aB lm J) J<|mq 8 J OX (kn Kf.id (am [0,1,2,3,4,5] J)) (aW tQ J (fun B hw=>hw.rg G.hb (G.rg.of_eq 0 1 J J:rg _ _ _ [v5]))) J<|ma 9 J OX (kn Kf.id (am [0,1,2,3,4,5] J)) J ?_
   have bj:RC (RI .i64) 1 ax ([[]]:List (List Nat)) [iV p] ([p]:List Int):=RC.cons (c:=[iV p]) (cells:=[]) ⟨J,J⟩ J (RC.nil _ _ _)
   refine WM.one 10 OX (me J (fun _ v bk D B hq hw=>Kn.of (Kf.id.se hq.1) (am [0,1,2,3,4,5] J) hw) (bv (vs:=[(0,iV p)]) (C:=#[iV p]) RI.lasts bw jR J J J J (ao jm (aa (C':=[iV p]) J J J J J (ae))) J bj J (by simpa using Kw.nil)) J ?_)
   rintro v6 bl D3 ⟨a7,h6⟩
   replace h6:OSl (RI .i64) 3 1 bl [] v6 ([p]:List Int):=by simpa using h6
   replace G:=G.f0 a7
   replace t:=t.f0 a7
   replace h1:=h1.f0 a7
   replace h5:=h5.f0 a7
   obtain⟨x5,bn,h⟩:=bs h
   have aL:=(Kf.id (F:=(ob f)):Kf ax _ _).se a7
   refine WM.one 11 OX (me J (fun _ v bk D B hq hw=>Kn.of (aL.st hq.1.2 (hq.1.1.r (i:=3) J)) (am [0,1,2,3,4,5] J) hw) (cG RI.lasts RI.one RI.flat bw oK J J J J J (js:=[1]) (Rr:=[ob v6,D2,ob v2,ob f,ob g,a1]) J h5 h6.rsl bn) J ?_)
   rintro v7 bV D4 ⟨⟨W,az⟩,h7⟩
   replace G:=G.fr az (W.q 3 J) (W.q 1 J)
   replace t:=t.fr az (W.q 4 J) (W.q 5 J)
   replace h1:=h1.fr az (W.q 2 J) dN
   have aM:=aL.st az (W.q 3 J)
   refine mqT 12 [13,14] J OX (kn aM (am [0,1,2,3,4,5] J)) (cO vF J J G aJ) J<|mq 13 J OX (kn aM (am [0,1,2,3,4,5] J)) (aB lm J) J ?_
   refine WM.one 14 OX (mu J (fun hc=>by cases hc) (us [4] [ob v7,ob v6,D2,ob v2,ob g,a1] 0 cz.lasts tB J J h7.one J G J (fun ap=>ap.q 2 J)) J ?_)
   rintro bp D5 ⟨⟨aD,aN⟩,h8⟩
   replace t:=t.fr aN (aD.q 4 J) (aD.q 5 J)
   replace h1:=h1.fr aN (aD.q 3 J) dN
   replace h7:=h7.fr aN (aD.q 0 J) dN
   refine WM.nil OX<|att 5 [] J ?_
   have r3:cz bp _ [v7] (⟨x5⟩:cn):=⟨v7,J,J,h7⟩
   obtain⟨D6,h9,br⟩:=h8.unfocus r3 (cz.knows _ _ _ _ r3)
   refine wtL [D6,ob f,ob v6,ob v2,ob g,a1] (smg [1,2] J (by simpa[gi,cT] using br)) ?_
   exact lb [3,1,0,1,1] [1,1,1,1,1] (b2 (_,_,_,_) ⟨h,h9,t,h1⟩)
  refine att 6 [] J ?_
  exact lb [0,0,0,0,0] [1,1,1,1,1] (b2 (_,_,_,_) ⟨h,u,t,h1⟩)
 refine atr 5 [1,64] J<|lno t J<|art 3 [] J ?_
 refine lin (σ:=Hp × (List aV) × List Nat × Int) (fun s=>[(4,iV p),(5,pQ S),(6,pQ T),(7,pQ U),(8,pQ V),(50,g),(51,iV (E.Rules.length:Int)),(52,iV s.2.2.2)]) (fun s=>St w0 s.1 [(V,.cells #[aj,iV x.Next] 29 (0,0)),(U,.cells #[f,g] 35 (0,0)),(T,.cells #[j,a6] 47 (0,0)),(S,.cells #[.string A.Name,e] 26 (0,0))] [ob f,K,ob g,s.2.2.1]) (fun m s=>eJ N A O E x p s1 m s.2.1 s.2.2.2=some r∧(OSl cz 133 1 s.1 K f s1)∧(OSl bU 100 1 s.1 s.2.2.1 g s.2.1)) (ax,E.Rules,a1,0) N ⟨h,u,t⟩ (sx [1,1,1,1] [1,1,1,1]) (fun n2 bt s hm=>?_)
 obtain⟨bW,s3,D7,s4⟩:=s
 obtain⟨h,u,k2⟩:=hm
 dsimp only at h u k2 ⊢
 unfold eJ at h
 refine att 5 [] J ?_
 refine ch h J ?_ ?_ <;> intro h
 ·refine atr 6 [] J ?_
  obtain⟨x6,b7,h⟩:=bs h
  obtain⟨bX,F4,D8,H,r4,aM,bu⟩:=k2.focus b7
  obtain⟨y,D9,rfl,rfl,ab⟩:=r4
  refine wlL [ob y,D9,D8,ob f,K,ob g] (sre [3] [ob y,D9,D8] J (by simpa[gi] using bu))<|lih H b7 J<|lgx 0 1 H.rg J ?_
  refine ln (nh (C:=#[.slice none 0 0]) tv J) J (fun b8=>?_)
  refine la J<|soN 0 C3 J ⟨ab.one,trivial⟩ J ?_
  refine arr 9 [130,98,66,34] J<|kab h J J J (fun b z q=>xN N b A O (⟨s1,s3⟩:aY) x p s4 (P.y z) (Q.y z) (u.rslG cz.gives) (Z.y z) q) ?_
  rintro M h v9 b9 F5 ⟨X,aO,v10,bY,v11,bZ,v12,G3,aP,G4,aQ,G5,aR,G6,rfl,rfl,ag,i1,ah,i2,ak,i3,al,i4,an,i5,aq,i6⟩
  replace u:=u.fr aO (X.q 3 J) (X.q 4 J)
  replace H:=H.fr aO (X.q 5 J) (X.q 2 J)
  replace ab:=ab.fr aO (X.q 0 J) (X.q 1 J)
  refine lnz Eq J fun ba=>soN 0 HP J ⟨ag.one,ah.one,ak.one,al.one,an.one,aq.one,J,J,trivial⟩ J ?_
  refine en<|sq<|WT.mix (Kn w0 b9 (ob y) [(ba,.cells #[v10,v11,v12,aP,aQ,aR,iV M.s.Next,iV M.id] 191 (0,0)),(b8,.cells #[y] 100 (0,0)),(V,.cells #[aj,iV x.Next] 29 (0,0)),(U,.cells #[f,g] 35 (0,0)),(T,.cells #[j,a6] 47 (0,0)),(S,.cells #[.string A.Name,e] 26 (0,0))]) (fun i=>match i with | 10=>false | _=>true) mixed (fun _ h=>h.drew) ?_
  refine mq 0 J OX (kn Kf.id (am [0,1,2,3,4,5] J)) (ay HS J (fun B hw=>hw.rgO (i:=0) J 0 8 [v10,v11,v12,aP,aQ,aR,iV M.s.Next,iV M.id] J) J) J<|mqT 1 [2,7,8,9,10] J OX (kn Kf.id (am [0,1,2,3,4,5] J)) (aB nG J) J<|mqT 2 [7,8,9,10] J OX (kn Kf.id (am [0,1,2,3,4,5] J)) (aW KJ J (fun B hw=>hw.rgO (i:=1) J 0 1 [y] J)) J ?_
  refine mqT 3 [4,5,6,7,8,9,10] J OX (kn Kf.id (am [0,1,2,3,4,5] J)) (aB nG J) J<|mqT 4 [5,6,7,8,9,10] J OX (kn Kf.id (am [0,1,2,3,4,5] J)) (aW KJ J (fun B hw=>hw.rgO (i:=1) J 0 1 [y] J)) J<|mqT 5 [6,7,8,9,10] J OX (kn Kf.id (am [0,1,2,3,4,5] J)) (mP vI J J (ab.rslG bo.gives)) J<|mqT 6 [7,8,9,10] J OX (kn Kf.id (am [0,1,2,3,4,5] J)) (FI J J) J ?_
  obtain⟨x8,bb,h⟩:=bs h
  obtain⟨c0,F6,aT,Y,r5,c3,bz⟩:=ab.focus bb
  obtain⟨au,bd,rfl,rfl,bA⟩:=r5
  refine WM.conv (S':=St w0 b9 [(ba,.cells #[v10,v11,v12,aP,aQ,aR,iV M.s.Next,iV M.id] 191 (0,0)),(b8,.cells #[y] 100 (0,0)),(V,.cells #[aj,iV x.Next] 29 (0,0)),(U,.cells #[f,g] 35 (0,0)),(T,.cells #[j,a6] 47 (0,0)),(S,.cells #[.string A.Name,e] 26 (0,0))] [ob au,bd,aT,ob v10,ob v11,ob y,D8,ob f,K,ob g]) (fun B hw=>hw.re (js:=[3]) (Bs:=[ob au,bd,aT]) J (by simpa[gi] using bz)) ?_
  refine mqT 7 [8,9,10] J OX (kn Kf.id (am [0,1,2,3,4,5] J)) (cO vI J J Y bb) J<|mqT 8 [9,10] J OX (kn Kf.id (am [0,1,2,3,4,5] J)) (aB ig J) J<|mq 9 J OX (kn Kf.id (am [0,1,2,3,4,5] J)) (aW Bd J (fun B hw=>hw.rg Y.hb (Y.rg.of_eq 0 1 J J:rg _ _ _ [au]))) J ?_
  obtain⟨x9,bB,h⟩:=bs h
  refine WM.one 10 OX (mc J (fun hc=>by cases hc) (bL (js:=[0,0]) (R:=[aT,ob v10,ob v11,ob y,D8,ob f,K,ob g]) Kd J J (fun B hw ap hl=>ux N (bx hw ap hl) M x8.Toks 1 (ag.rsl.x (Dj.app (ap.q 1 J) (Dj.sub (ap.o P.old) i1))) (ah.rsl.x (Dj.app (ap.q 2 J) (Dj.sub (ap.o P.old) i2))) (ak.x (Dj.sub (ap.o Q.old) i3)) (al.x (Dj.sub (ap.o Q.old) i4)) (an.x (Dj.sub (Dj.app (ap.q 5 J) (ap.q 6 J)) i5)) (aq.x (Dj.sub (ap.o Z.old) i6)) bA  bB)) J ?_)
  rintro v17 bC F7 ⟨w,I,bD,rfl,rfl,bE⟩
  replace ak:=ak.fr I (Dj.sub (w.o Q.old) i3)
  replace al:=al.fr I (Dj.sub (w.o Q.old) i4)
  replace an:=an.fr I (Dj.sub (Dj.app (w.q 5 J) (w.q 6 J)) i5)
  replace aq:=aq.fr I (Dj.sub (w.o Z.old) i6)
  replace u:=u.fr I (w.q 5 J) (w.q 6 J)
  replace H:=H.fr I (w.q 7 J) (w.q 4 J)
  replace Y:=Y.fr I (w.q 3 J) (w.q 0 J)
  replace ag:=ag.fr I (w.q 1 J) (Dj.sub (w.o P.old) i1)
  replace ah:=ah.fr I (w.q 2 J) (Dj.sub (w.o P.old) i2)
  refine WM.nil OX<|atr 4 [8,0,32] J ?_
  have r6:bo bC _ [au] (⟨x9⟩:aw):=⟨au,bD,J,J,bE⟩
  obtain⟨bF,bG,bH⟩:=Y.unfocus r6 (bo.knows _ _ _ _ r6)
  refine wlL [bF,ob v10,ob v11,ob y,D8,ob f,K,ob g] (smg [0,0,0] J (by simpa[gi,cT] using bH))<|kcb [3,0] h J J J J (fun b ap z q=>vc N b M (x6.Levels.set (wz ((x6.Levels.length:Int) - 1)).toNat (⟨x9⟩:aw)) (ag.rsl.x (Dj.app (ap.q 0 J) (Dj.sub (ap.o P.old) i1))) (ah.rsl.x (Dj.app (ap.q 1 J) (Dj.sub (ap.o P.old) i2))) (ak.x (Dj.sub (ap.o Q.old) i3)) (al.x (Dj.sub (ap.o Q.old) i4)) (an.x (Dj.sub (Dj.app (ap.q 3 J) (ap.q 4 J)) i5)) (aq.x (Dj.sub (ap.o Z.old) i6)) bG q) ?_
  rintro bI h c4 bJ F8 ⟨aF,be,bK,rfl,rfl,bM⟩
  replace u:=u.fr be (aF.q 3 J) (aF.q 4 J)
  replace H:=H.fr be (aF.q 5 J) (aF.q 2 J)
  refine art 6 [] J ?_
  have r7:bU bJ _ [y] (⟨bI⟩:aV):=⟨y,bK,J,J,bM⟩
  obtain⟨bN,bO,bP⟩:=H.unfocus r7 (bU.knows _ _ _ _ r7)
  refine wtL [bN,ob v10,ob v11,ob f,K,ob g] (smg [0,0,2] J (by simpa[gi,cT] using bP)) ?_
  exact lb [3,3,3,0] [2,2,2,2] (bt (_,_,_,_) ⟨h,u,bO⟩)
 refine xt J ?_
 refine WT.fin hF aC.none (fun B hw=>?_)
 cases h
 refine aK (js:=[0,0,0,0]) hw J ⟨K,D7,J,J,u,k2⟩
theorem eO (w0:aA d a []) (b:(List Int)) (c:(List Int)) (i:RSl (RI .i64) 1 d b0 l b) (p:RSl (RI .i64) 1 d b4 k c) {r:Bool} (h:co N b c=some r) :
  CB w0 prog 76 [l,k] (.bool r):=by
 refine eN func76 J ntmps76 J w0 fun q=>?_
 unfold co at h
 refine atr 8 [] J<|lnr i J<|la J<|lnr p J<|la J<|en ?_
 refine ch h J ?_ ?_ <;> intro h
 ·refine att 4 [] J ?_
  exact rt q h
 refine atr 5 [] J<|lnr i J<|art 3 [] J ?_
 refine lin (σ:=Int) (fun s=>[(0,l),(1,k),(12,iV (b.length:Int)),(13,iV s)]) (fun s=>St w0 a [] []) (fun m s=>cW N b c m s=some r) (0) N h (sx [] []) (fun v w s hm=>?_)
 revert hm;revert s;intro s1 hm
 have h:cW N b c (v+1) s1=some r:=hm
 show WT _ _ [(0,l),(1,k),(12,iV (b.length:Int)),(13,iV s1)] (St w0 a [] [])
 unfold cW at h
 refine att 5 [] J ?_
 refine ch h J ?_ ?_ <;> intro h
 ·refine att 9 [] J<|WT.draw mixed OX (fun _ h=>h.drew)<|aqq 2 [] J ?_
  obtain⟨x,t,h⟩:=bs h
  obtain⟨C,D,-,g1,E,F,y⟩:=i.el (a8 t).2.2
  obtain⟨rfl,-⟩:=y
  refine qq (ak bw J J i t) J<|qq (aW u6 J (fun z hw=>(g1.of_eq 0 1 J J:rg _ _ _ [iV x]).rangeAt hw.in0)) J<|aqq 2 [] J ?_
  obtain⟨A,u,h⟩:=bs h
  obtain⟨G,H,-,g2,I,K,B⟩:=p.el (a8 u).2.2
  obtain⟨rfl,-⟩:=B
  refine qq (ak bw J J p u) J<|qq (aW u6 J (fun z hw=>(g2.of_eq 0 1 J J:rg _ _ _ [iV A]).rangeAt hw.in0)) J<|aqt 2 [] J ?_
  refine ch h J ?_ ?_ <;> intro h
  ·refine att 4 [] J ?_
   exact rt q h
  refine att 6 [] J ?_
  exact lb [] [] (w _ h)
 refine att 5 [] J ?_
 exact rt q h
theorem sh (w0:aA d a []) (b:ax) (c:ax) (t:RSl aS 3 d ai e b.Consts) (u:RSl (RI .i64) 1 d b5 ad b.At) (v:RSl aS 3 d aE j c.Consts) (w:RSl (RI .i64) 1 d b6 a6 c.At) {r:Bool} (h:eF N b c=some r) :
  CB w0 prog 85 [.agg [.string b.Kind,iV b.N,e,ad].toArray,.agg [.string c.Kind,iV c.N,j,a6].toArray] (.bool r):=by
 refine eN func85 J ntmps85 J w0 fun x=>?_
 unfold eF at h
 refine sr<|lbx J fun q=>lbx J fun s=>arr 10 [0,32,0,0] J ?_
 obtain⟨y,p,h⟩:=bs h
 refine WL.cutN 6 [(16,.bool y),(2,pQ q),(3,pQ s),(4,.bool false)] ?_ (fun K=>?_)
 rotate_left
 ·refine sp 10 p J (fun p=>?_) fun p=>?_
  ·refine arr 6 [1,32,1,0] J ?_
   cases p
   exact ku K
  ·refine arr 6 [] J ?_
   cases p
   exact ku K
 refine la J ?_
 obtain⟨z,i,h⟩:=bs h
 refine WL.cutN 6 [(23,.bool z),(2,pQ q),(3,pQ s),(4,.bool false)] ?_ (fun K=>?_)
 rotate_left
 ·refine sp 17 i J (fun i=>?_) fun i=>?_
  ·refine arr 4 [2,32,2,0] J<|ly J J<|qd i (kG N · b.Consts c.Consts t v ·) J J J fun B i=>la J ?_
   cases i
   exact ku K
  ·refine arr 6 [] J ?_
   cases i
   exact ku K
 refine la J ?_
 obtain⟨A,m,h⟩:=bs h
 refine WL.cutN 6 [(30,.bool A),(4,.bool false)] ?_ (fun K=>?_)
 rotate_left
 ·refine sp 24 m J (fun m=>?_) fun m=>?_
  ·refine arr 4 [3,32,3,0] J<|ly J J<|qd m (eO N · b.At c.At u w ·) J J J fun C m=>la J ?_
   cases m
   exact ku K
  ·refine arr 6 [] J ?_
   cases m
   exact ku K
 refine la J<|en ?_
 exact rt x h
theorem y7 (w0:aA d a []) (b:az) (x:RSl f8 5 d ai e b.Args) {r:ax} (h:oB N b=some r) :
  Calls prog 204 [.agg [.string b.Kind,e,.bool b.Not].toArray].toArray w0.w (bc a w0.w [] (fun D Fs v=>∃ (y:Value) (z:Value),v = .agg [.string r.Kind,iV r.N,y,z].toArray∧Fs=[ob y,ob z]∧OSl aS 95 3 D [] y r.Consts∧OSl (RI .i64) 3 1 D [] z r.At)):=by
 refine eN func204 J ntmps204 J w0 fun O=>?_
 unfold oB at h
 refine sr<|lbx J fun ah=>lnz nK J fun E=>arr 7 [0,32,1,32] J<|lnr x J<|lq (bA (vs:=[(0,.string b.Kind),(1,iV (b.Args.length:Int))]) (C:=#[.string b.Kind,iV (b.Args.length:Int),.slice none 0 0,.slice none 0 0]) Hy nK J (aa (C':=[.string b.Kind,iV 0,.slice none 0 0,.slice none 0 0]) J J J J J (aa (C':=[.string b.Kind,iV (b.Args.length:Int),.slice none 0 0,.slice none 0 0]) J J J J J (ae)))) J<|lnz nK J fun F=>?_
 refine soN 0 sM J ⟨J,J,J,J,trivial⟩ J ?_
 refine arr 6 [1,64] J<|lnr x J<|art 3 [] J<|wtS ?_
 have P:=OSl.nil aS 95 3 a
 refine wtS ?_
 have Q:=OSl.nil (RI .i64) 3 1 a
 refine lin (σ:=Hp × (List bn) × Value × (List Int) × Value × Int) (fun s=>[(2,pQ E),(3,pQ F),(13,e),(14,iV (b.Args.length:Int)),(15,iV s.2.2.2.2.2)]) (fun s=>St w0 s.1 [(F,.cells #[.string b.Kind,iV (b.Args.length:Int),s.2.2.1,s.2.2.2.2.1] 137 (0,0)),(E,.cells #[.string (⟨#[]⟩:ByteArray),iV 0,.slice none 0 0,.slice none 0 0] 137 (0,0))] [ob s.2.2.2.2.1,ob s.2.2.1]) (fun m s=>fZ N b m s.2.1 s.2.2.2.1 s.2.2.2.2.2=some r∧(OSl aS 95 3 s.1 [] s.2.2.1 s.2.1)∧(OSl (RI .i64) 3 1 s.1 [] s.2.2.2.2.1 s.2.2.2.1)) (a,([]:List bn),(.slice none 0 0),([]:List Int),(.slice none 0 0),0) N ⟨h,P,Q⟩ (sx [0,0] [0,0]) (fun n1 G s hm=>?_)
 obtain⟨R,s1,H,s2,A,t⟩:=s
 obtain⟨h,u,q⟩:=hm
 dsimp only at h u q ⊢
 unfold fZ at h
 refine att 5 [] J ?_
 refine ch h J ?_ ?_ <;> intro h
 ·refine atr 6 [] J ?_
  obtain⟨p,I,h⟩:=bs h
  obtain⟨ak,F1,-,g1,al,an,S⟩:=x.el (a8 I).2.2
  obtain⟨rfl,-⟩:=S
  refine lia x I J<|lhx 0 5 g1 J<|lnz kt J fun aq=>la J<|soN 0 jo J ⟨J,J,J,J,J,trivial⟩ J ?_
  refine art 7 [0,0] J ?_
  refine ch h J ?_ ?_ <;> intro h
  ·refine atr 6 [2,32,2,3] J ?_
   have T:RC aS 3 R ([[]]:List (List Nat)) [iV p.V.K,iV p.V.N,.string p.V.S] ([p.V]:List bn):=RC.cons (c:=[iV p.V.K,iV p.V.N,.string p.V.S]) (cells:=[]) ⟨J,J⟩ J (RC.nil _ _ _)
   refine le' (bv (vs:=[(0,.agg [iV p.V.K,iV p.V.N,.string p.V.S].toArray)]) (C:=#[iV p.V.K,iV p.V.N,.string p.V.S]) aS.lasts jq jg J J J J (ao Br (aa (C':=[iV p.V.K,iV p.V.N,.string p.V.S]) J J J J J (ae))) J T J (by simpa using Kw.nil)) J ?_
   rintro v1 U D1 ⟨K,h1⟩
   replace h1:OSl aS 95 3 U [] v1 ([p.V]:List bn):=by simpa using h1
   replace u:=u.f0 K
   replace q:=q.f0 K
   obtain⟨x2,V,h⟩:=bs h
   refine le' (cG aS.lasts aS.one aS.flat jq CI J J J J J (js:=[2]) (Rr:=[ob v1,ob A]) J u h1.rsl V) J ?_
   rintro v2 W D2 ⟨⟨X,Y⟩,w⟩
   replace q:=q.fr Y (X.q 1 J) dN
   refine lf FW J J J<|so1 1 Fh J w.one ?_
   refine arr 5 [3,32] J ?_
   have Z:RC (RI .i64) 1 W ([[]]:List (List Nat)) [iV t] ([t]:List Int):=RC.cons (c:=[iV t]) (cells:=[]) ⟨J,J⟩ J (RC.nil _ _ _)
   refine le' (bv (vs:=[(0,iV t)]) (C:=#[iV t]) RI.lasts bw jR J J J J (ao jm (aa (C':=[iV t]) J J J J J (ae))) J Z J (by simpa using Kw.nil)) J ?_
   rintro v3 a7 D3 ⟨L,B⟩
   replace B:OSl (RI .i64) 3 1 a7 [] v3 ([t]:List Int):=by simpa using B
   replace w:=w.f0 L
   replace q:=q.f0 L
   obtain⟨x3,ab,h⟩:=bs h
   refine le' (cG RI.lasts RI.one RI.flat bw oK J J J J J (js:=[3]) (Rr:=[ob v3,ob v2,ob v1]) J q B.rsl ab) J ?_
   rintro v4 au D4 ⟨⟨af,ag⟩,M⟩
   replace w:=w.fr ag (af.q 1 J) dN
   refine lf Ax J J J<|so1 1 tB J M.one ?_
   refine art 6 [] J ?_
   exact lb [0,1] [1,1] (G (_,_,_,_,_,_) ⟨h,w,M⟩)
  refine att 6 [] J ?_
  exact lb [0,0] [1,1] (G (_,_,_,_,_,_) ⟨h,u,q⟩)
 refine atr 4 [4] J<|soN 1 sM J ⟨J,J,u.one,q.one,trivial⟩ J ?_
 refine en ?_
 exact rtg [1,0] O (aC.one (bf vu J (fun w1 hw=>hw.rgO (i:=1) J 0 4 [.string b.Kind,iV (b.Args.length:Int),H,A] J) J)) J (by cases h;exact fun w1 hw=>⟨H,A,rfl,rfl,u,q⟩)
theorem uY (w0:aA d a [[n],ob e,o].flatten) (w:cA) (B:az) (u:OSl dt 137 4 a o e w.Alphas) (aD:RSl fw 2 d b5 ad w.Chains) (t:a n=some (.cells #[e,ad] 47 (0,0))) (ak:RSl f8 5 d aE j B.Args) {r:Int × cA} (h:jP N w B=some r) :
  Calls prog 149 [pQ n,.agg [.string B.Kind,j,.bool B.Not].toArray].toArray w0.w (bc a w0.w [[n],ob e,o].flatten (fun Q Fs v=>∃ (H:Value) (S:List Nat),v=iV r.1∧Fs=[[n],ob H,S]∧OSl dt 137 4 Q S H r.2.Alphas∧r.2.Chains=w.Chains∧Q n=some (.cells #[H,ad] 47 (0,0)))):=by
 refine eL func149 J ntmps149 J (L:=[[n],ob e,o]) w0 (fun T=>?_)
 unfold jP at h
 refine sr<|lbx J fun aF=>arr 5 [3] J<|kab h J J J (fun b z q=>y7 N b B (ak.y z) q) ?_
 rintro p h v1 E F1 ⟨I,U,v2,v3,rfl,rfl,h1,K⟩
 replace u:=u.fr U (I.q 1 J) (I.q 2 J)
 replace t:=U _ _ ((I.q 0 J) _ OZ) t
 refine lnz nK J fun x=>soN 0 sM J ⟨J,J,h1.one,K.one,trivial⟩ J ?_
 refine arr 5 [] J<|lq (aI J) J<|lf pU J J J<|lgx 0 0 (cC t) J<|lno u J<|art 3 [] J ?_
 refine lin (σ:=Int) (fun s=>[(0,pQ n),(5,pQ x),(13,e),(14,iV (w.Alphas.length:Int)),(15,iV s)]) (fun s=>St w0 E [(x,.cells #[.string p.Kind,iV p.N,v2,v3] 137 (0,0))] [ob v2,ob v3,[n],ob e,o]) (fun m s=>dJ N w p m s=some r) (0) N h (sx [0,0,0,0,0] [0]) (fun n1 al s hm=>?_)
 revert hm;revert s;intro s1 hm
 have h:dJ N w p (n1+1) s1=some r:=hm
 show WT _ _ [(0,pQ n),(5,pQ x),(13,e),(14,iV (w.Alphas.length:Int)),(15,iV s1)] (St w0 E [(x,.cells #[.string p.Kind,iV p.N,v2,v3] 137 (0,0))] [ob v2,ob v3,[n],ob e,o])
 unfold dJ at h
 refine att 5 [] J ?_
 refine ch h J ?_ ?_ <;> intro h
 ·refine atr 6 [] J ?_
  obtain⟨x2,V,h⟩:=bs h
  obtain⟨aG,F2,-,g1,aH,aJ,r1⟩:=u.elS (a8 V).2.2
  obtain⟨v4,v5,rfl,rfl,h3,h4⟩:=r1
  have W:=h3.rsl
  have X:=h4.rsl
  refine lio u V J<|lgx 0 4 g1 J<|lnz nK J fun aK=>la J<|soN 0 sM J ⟨J,J,W.one,X.one,trivial⟩ J ?_
  refine arr 5 [4,36] J<|qc h (sh N · x2 p W X h1.rsl K.rsl ·) J J J fun x3 h=>en ?_
  refine ch h J ?_ ?_ <;> intro h
  ·refine att 5 [] J ?_
   exact rtg [2,2,2] T (aC.one J) J (by cases h;exact fun y hw=>⟨e,o,rfl,rfl,u,rfl,t⟩)
  refine att 6 [] J ?_
  exact lb [0,0,0,0,0] [1] (al _ h)
 refine xt J<|sq<|WT.mix (Kn w0 E [n] [(x,.cells #[.string p.Kind,iV p.N,v2,v3] 137 (0,0))]) (fun i=>match i with | 10=>false | _=>true) mixed (fun _ h=>h.drew)<|ma 0 J OX (kn Kf.id (am [0] J)) J<|ma 1 J OX (kn Kf.id (am [0] J)) J<|mq 2 J OX (kn Kf.id (am [0] J)) (aI J) J<|mq 3 J OX (kn Kf.id (am [0] J)) (aB pU J) J ?_
 refine mq 4 J OX (kn Kf.id (am [0] J)) (aW HC J (fun y hw=>hw.rg OZ ((cC t).of_eq 0 1 J J:rg _ _ _ [e]))) J<|mq 5 J OX (kn Kf.id (am [0] J)) (ay vu J (fun y hw=>hw.rgO (i:=0) J 0 4 [.string p.Kind,iV p.N,v2,v3] J) J) J ?_
 have Y:RC dt 4 E ([(ob v2++[])++((ob v3++[]))]:List (List Nat)) [.string p.Kind,iV p.N,v2,v3] ([p]:List ax):=RC.cons (c:=[.string p.Kind,iV p.N,v2,v3]) (cells:=[]) ⟨v2,v3,J,J,h1,K⟩ J (RC.nil _ _ _)
 refine WM.one 6 OX (me J (fun _ v an D y G hw=>Kn.of (Kf.id.se G.1) (am [0] J) hw) (bv (vs:=[(0,.agg [.string p.Kind,iV p.N,v2,v3].toArray)]) (C:=#[.string p.Kind,iV p.N,v2,v3]) dt.lasts AH nK J J J J (ao Ch (aa (C':=[.string p.Kind,iV p.N,v2,v3]) J J J J J (ae))) J Y J (RC.kn dt.knows Y)) J ?_)
 rintro v6 Z D1 ⟨M,O⟩
 replace O:OSl dt 137 4 Z ((ob v2++[])++((ob v3++[]))) v6 ([p]:List ax):=by simpa[gi] using O
 replace u:=u.f0 M
 replace t:=M _ _ OZ t
 refine WM.conv (S':=St w0 Z [(x,.cells #[.string p.Kind,iV p.N,v2,v3] 137 (0,0))] [((ob v2++[])++((ob v3++[]))),ob v6,[n],ob e,o]) (fun y hw=>hw.merge (js:=[1,1]) J (SP.eq (by simp[gi,cT]))) ?_
 obtain⟨x4,aq,h⟩:=bs h
 have a7:=(Kf.id (F:=[n]):Kf E _ _).se M
 refine WM.one 7 OX (me J (fun _ v an D y G hw=>Kn.of (a7.st G.1.2 (G.1.1.r (i:=2) J)) (am [0] J) hw) (et dt.lasts dt.one AH Ig J J J J J (js:=[3]) (Rr:=[((ob v2++[])++((ob v3++[]))),ob v6,[n],o]) J u O (fun ap=>ap.q 3 J) (fun ap=>ap.q 0 J) aq) J ?_)
 rintro P au D2 ⟨⟨ab,af⟩,A⟩
 replace t:=af _ _ ((ab.q 2 J) _ OZ) t
 refine WM.conv (S':=St w0 au [(x,.cells #[.string p.Kind,iV p.N,v2,v3] 137 (0,0))] [(o++((ob v2++[])++((ob v3++[])))),ob P,ob v6,[n]]) (fun y hw=>hw.merge (js:=[4,1]) J (SP.eq OZ)) ?_
 have ag:=a7.st af (ab.q 2 J)
 refine mqT 8 [9,10] J OX (kn ag (am [0] J)) (aI J) J<|mq 9 J OX (kn ag (am [0] J)) (aB pU J) J ?_
 refine WM.thw (js:=[3]) (R:=[(o++((ob v2++[])++((ob v3++[])))),ob P,ob v6]) J t (fun aL ah av=>?_)
 replace A:=A.fr av (ah.q 1 J) (ah.q 0 J)
 refine on1 10 (ms1 0 J nk Le J A.one ?_)
 refine WM.nil OX<|sr<|la J<|lq (aI J) J<|arr 2 [0,0] J<|lno A J<|art 3 [] J ?_
 refine WT.frz (js:=[0]) (R:=[(x,.cells #[.string p.Kind,iV p.N,v2,v3] 137 (0,0))]) J (fun aM aw k1=>?_)
 replace A:=A.f0 aw
 exact rtg [0,1,0] T (aC.one J) J (by cases h;exact fun y hw=>⟨P,(o++((ob v2++[])++((ob v3++[])))),J,J,A,J,k1⟩)
theorem wy (w0:aA d a []) (G:bq) (af:RSl eC 5 d ai e G.Rules) {r:cA} (h:pE N G=some r) :
  Calls prog 83 [.agg [.string G.Name,e].toArray].toArray w0.w (bc a w0.w [] (fun au Fs v=>∃ (ag:Value) (av:List Nat) (ah:Value) (aw:List Nat),v = .agg [ag,ah].toArray∧Fs=[ob ag,av,ob ah,aw]∧OSl dt 137 4 au av ag r.Alphas∧OSl bI 141 2 au aw ah r.Chains)):=by
 refine eN func83 J ntmps83 J w0 fun hF=>?_
 unfold pE at h
 refine sr<|lbx J fun aY=>lnz tq J fun O=>en<|sr<|lnz tq J fun H=>arr 6 [1,64] J<|lnr af J<|art 3 [] J<|wtS<|wt0 ?_
 have k1:=OSl.nil dt 137 4 a
 refine wtS<|wt0 ?_
 have k2:=OSl.nil bI 141 2 a
 refine lin (σ:=Hp × (List ax) × Value × List Nat × (List aJ) × Value × List Nat × Int) (fun s=>[(2,pQ O),(3,pQ H),(11,e),(12,iV (G.Rules.length:Int)),(13,iV s.2.2.2.2.2.2.2)]) (fun s=>St w0 s.1 [(H,.cells #[s.2.2.1,s.2.2.2.2.2.1] 47 (0,0)),(O,.cells #[.slice none 0 0,.slice none 0 0] 47 (0,0))] [s.2.2.2.2.2.2.1,ob s.2.2.2.2.2.1,s.2.2.2.1,ob s.2.2.1]) (fun m s=>fH N G m s.2.1 s.2.2.2.2.1 s.2.2.2.2.2.2.2=some r∧(OSl dt 137 4 s.1 s.2.2.2.1 s.2.2.1 s.2.1)∧(OSl bI 141 2 s.1 s.2.2.2.2.2.2.1 s.2.2.2.2.2.1 s.2.2.2.2.1)) (a,([]:List ax),(.slice none 0 0),[],([]:List aJ),(.slice none 0 0),[],0) N ⟨h,k1,k2⟩ (sx [0,0,0,0] [0,0]) (fun n1 aK s hm=>?_)
 obtain⟨ak,s1,u1,D1,s2,B,D,s3⟩:=s
 obtain⟨h,S,p⟩:=hm
 dsimp only at h S p ⊢
 unfold fH at h
 refine att 5 [] J ?_
 refine ch h J ?_ ?_ <;> intro h
 ·refine atr 5 [] J ?_
  obtain⟨x1,ay,h⟩:=bs h
  obtain⟨aZ,F1,-,g1,b1,b2,r1⟩:=af.el (a8 ay).2.2
  obtain⟨v1,G1,v2,G2,v3,G3,rfl,rfl,h1,h2,h3⟩:=r1
  refine lia af ay J<|lhx 0 5 g1 J<|lnz wx J fun b3=>soN 0 yK J ⟨J,J,h1.one,h2.one,h3.one,trivial⟩ J ?_
  refine en<|sr<|lnz tK J fun al=>arr 6 [2,32] J<|lnr h1 J<|art 3 [] J<|wtS ?_
  have k5:=OSl.nil (RI .i64) 3 1 ak
  refine wtS ?_
  have k6:=OSl.nil (RI .i64) 3 1 ak
  refine lin (σ:=Hp × (List ax) × Value × List Nat × (List Int) × Value × (List Int) × Value × Int) (fun s=>[(2,pQ O),(3,pQ H),(6,pQ al),(11,e),(12,iV (G.Rules.length:Int)),(13,iV s3),(18,v1),(19,iV (x1.Pats.length:Int)),(20,iV s.2.2.2.2.2.2.2.2)]) (fun s=>St w0 s.1 [(al,.cells #[s.2.2.2.2.2.2.2.1,s.2.2.2.2.2.1] 141 (0,0)),(H,.cells #[s.2.2.1,B] 47 (0,0)),(O,.cells #[.slice none 0 0,.slice none 0 0] 47 (0,0))] [ob s.2.2.2.2.2.2.2.1,ob s.2.2.2.2.2.1,D,ob B,s.2.2.2.1,ob s.2.2.1]) (fun m s=>gL N s2 s3 (fH N G n1) x1 m s.2.1 s.2.2.2.2.1 s.2.2.2.2.2.2.1 s.2.2.2.2.2.2.2.2=some r∧(OSl dt 137 4 s.1 s.2.2.2.1 s.2.2.1 s.2.1)∧(OSl bI 141 2 s.1 D B s2)∧(OSl (RI .i64) 3 1 s.1 [] s.2.2.2.2.2.1 s.2.2.2.2.1)∧(OSl (RI .i64) 3 1 s.1 [] s.2.2.2.2.2.2.2.1 s.2.2.2.2.2.2.1)) (ak,s1,u1,D1,([]:List Int),(.slice none 0 0),([]:List Int),(.slice none 0 0),0) N ⟨h,S,p,k5,k6⟩ (sx [0,0,0,0,0,0] [0,1,1]) (fun n2 az s hm=>?_)
  obtain⟨aL,s4,u3,D3,s5,w,s6,x,s7⟩:=s
  obtain⟨h,F,p,t,u⟩:=hm
  dsimp only at h F p t u ⊢
  unfold gL at h
  refine att 5 [] J ?_
  refine ch h J ?_ ?_ <;> intro h
  ·refine atr 5 [] J ?_
   obtain⟨x2,aB,h⟩:=bs h
   obtain⟨b7,F2,-,g2,b8,b9,r2⟩:=h1.el (a8 aB).2.2
   obtain⟨v4,G4,rfl,aM,h4⟩:=r2
   obtain rfl:=aM.symm
   refine lia h1 aB J<|lhx 0 3 g2 J<|lnz mg J fun aN=>soN 0 pO J ⟨J,h4.one,J,trivial⟩ J ?_
   refine arr 4 [3] J ?_
   refine WL.frz (js:=[2]) (R:=[(aN,.cells #[.string x2.Kind,v4,.bool x2.Not] 201 (0,0)),(al,.cells #[x,w] 141 (0,0)),(O,.cells #[.slice none 0 0,.slice none 0 0] 47 (0,0))]) J (fun ba T aO=>?_)
   replace F:=F.f0 T
   replace p:=p.f0 T
   replace t:=t.f0 T
   replace u:=u.f0 T
   refine kcb [0,5,4] h J J J J (fun b ap z q=>uY N b (⟨s4,s2⟩:cA) x2 F ((p.rslG bI.gives).x (Dj.app (ap.q 3 J) (ap.q 2 J))) aO (h4.y z) q) ?_
   rintro y h v5 aD F3 ⟨U,an,v6,V,rfl,rfl,A,e1,E⟩
   replace p:=p.fr an (U.q 3 J) (U.q 2 J)
   replace t:=t.fr an (U.q 1 J) dN
   replace u:=u.fr an (U.q 0 J) dN
   refine art 7 [2,0] J ?_
   refine ch h J ?_ ?_ <;> intro h
   ·refine atr 4 [1,32] J ?_
    have aP:RC (RI .i64) 1 aD ([[]]:List (List Nat)) [iV y.1] ([y.1]:List Int):=RC.cons (c:=[iV y.1]) (cells:=[]) ⟨J,J⟩ J (RC.nil _ _ _)
    refine le' (bv (vs:=[(0,iV y.1)]) (C:=#[iV y.1]) RI.lasts bw jR J J J J (ao jm (aa (C':=[iV y.1]) J J J J J (ae))) J aP J (by simpa using Kw.nil)) J ?_
    rintro v7 aQ D5 ⟨P,h7⟩
    replace h7:OSl (RI .i64) 3 1 aQ [] v7 ([y.1]:List Int):=by simpa using h7
    replace p:=p.f0 P
    replace t:=t.f0 P
    replace u:=u.f0 P
    replace A:=A.f0 P
    replace E:=P _ _ OZ E
    obtain⟨x4,aR,h⟩:=bs h
    refine le' (cG RI.lasts RI.one RI.flat bw oK J J J J J (js:=[5]) (Rr:=[ob v7,[H],ob v6,V,ob x,D,ob B]) J t h7.rsl aR) J ?_
    rintro v8 bb D6 ⟨⟨I,W⟩,X⟩
    replace p:=p.fr W (I.q 6 J) (I.q 5 J)
    replace u:=u.fr W (I.q 4 J) dN
    replace A:=A.fr W (I.q 2 J) (I.q 3 J)
    replace E:=W _ _ ((I.q 1 J) _ OZ) E
    refine lf AQ J J J<|so1 1 tB J X.one ?_
    refine art 6 [] J ?_
    refine WT.thw (js:=[2]) (R:=[ob v8,ob v7,ob v6,V,ob x,D,ob B]) J E (fun bd K Y=>?_)
    replace p:=p.fr Y (K.q 6 J) (K.q 5 J)
    replace X:=X.fr Y (K.q 0 J) dN
    replace u:=u.fr Y (K.q 4 J) dN
    replace A:=A.fr Y (K.q 2 J) (K.q 3 J)
    exact lb [4,0,3,3,2,1] [2,0,1] (az (_,_,_,_,_,_,_,_,_) ⟨h,A,p,X,u⟩)
   refine atr 4 [0,32] J ?_
   have aS:RC (RI .i64) 1 aD ([[]]:List (List Nat)) [iV y.1] ([y.1]:List Int):=RC.cons (c:=[iV y.1]) (cells:=[]) ⟨J,J⟩ J (RC.nil _ _ _)
   refine le' (bv (vs:=[(0,iV y.1)]) (C:=#[iV y.1]) RI.lasts bw jR J J J J (ao jm (aa (C':=[iV y.1]) J J J J J (ae))) J aS J (by simpa using Kw.nil)) J ?_
   rintro v9 aT D7 ⟨Q,h9⟩
   replace h9:OSl (RI .i64) 3 1 aT [] v9 ([y.1]:List Int):=by simpa using h9
   replace p:=p.f0 Q
   replace t:=t.f0 Q
   replace u:=u.f0 Q
   replace A:=A.f0 Q
   replace E:=Q _ _ OZ E
   obtain⟨x5,aU,h⟩:=bs h
   refine le' (cG RI.lasts RI.one RI.flat bw oK J J J J J (js:=[4]) (Rr:=[ob v9,[H],ob v6,V,ob w,D,ob B]) J u h9.rsl aU) J ?_
   rintro v10 be D8 ⟨⟨L,Z⟩,a7⟩
   replace p:=p.fr Z (L.q 6 J) (L.q 5 J)
   replace t:=t.fr Z (L.q 4 J) dN
   replace A:=A.fr Z (L.q 2 J) (L.q 3 J)
   replace E:=Z _ _ ((L.q 1 J) _ OZ) E
   refine lf wE J J J<|so1 1 tB J a7.one ?_
   refine art 6 [] J ?_
   refine WT.thw (js:=[2]) (R:=[ob v10,ob v9,ob v6,V,ob w,D,ob B]) J E (fun bg M ab=>?_)
   replace p:=p.fr ab (M.q 6 J) (M.q 5 J)
   replace t:=t.fr ab (M.q 4 J) dN
   replace a7:=a7.fr ab (M.q 0 J) dN
   replace A:=A.fr ab (M.q 2 J) (M.q 3 J)
   exact lb [0,3,3,3,2,1] [2,0,1] (az (_,_,_,_,_,_,_,_,_) ⟨h,A,p,t,a7⟩)
  refine atr 5 [1,32,2] J ?_
  have aF:RC bI 2 aL ([(ob x++[])++((ob w++[]))]:List (List Nat)) [x,w] ([(⟨s6,s5⟩:aJ)]:List aJ):=RC.cons (c:=[x,w]) (cells:=[]) ⟨x,w,J,J,u,t⟩ J (RC.nil _ _ _)
  refine le' (bv (vs:=[(0,.agg [x,w].toArray)]) (C:=#[x,w]) bI.lasts B6 tK J J J J (ao Cn (aa (C':=[x,w]) J J J J J (ae))) J aF J (RC.kn bI.knows aF)) J ?_
  rintro v11 aV D9 ⟨aG,aq⟩
  replace aq:OSl bI 141 2 aV ((ob x++[])++((ob w++[]))) v11 ([(⟨s6,s5⟩:aJ)]:List aJ):=by simpa[gi] using aq
  replace F:=F.f0 aG
  replace p:=p.f0 aG
  refine wlL [((ob x++[])++((ob w++[]))),ob v11,D,ob B,D3,ob u3] (smg [1,1] J (SP.eq (by simp[gi,cT]))) ?_
  obtain⟨x6,aW,h⟩:=bs h
  refine le' (et bI.lasts bI.one B6 HZ J J J J J (js:=[3]) (Rr:=[((ob x++[])++((ob w++[]))),ob v11,D,D3,ob u3]) J p aq (fun ap=>ap.q 2 J) (fun ap=>ap.q 0 J) aW) J ?_
  rintro v12 bh bj ⟨⟨aH,aX⟩,aI⟩
  replace F:=F.fr aX (aH.q 4 J) (aH.q 3 J)
  refine wlL [(D++((ob x++[])++((ob w++[])))),ob v12,ob v11,D3,ob u3] (smg [3,1] J (SP.eq OZ))<|lf CW J J J<|so1 1 KH J aI.one ?_
  refine art 6 [] J ?_
  exact lb [0,0,1,1] [1,1] (aK (_,_,_,_,_,_,_,_) ⟨h,F,aI⟩)
 refine atr 4 [2] J<|soN 1 ww J ⟨S.one,p.one,trivial⟩ J ?_
 refine en ?_
 exact rtg [3,2,1,0] hF (aC.one (bf FV J (fun w1 hw=>hw.rgO (i:=1) J 0 2 [u1,B] J) J)) J (by cases h;exact fun w1 hw=>⟨u1,D1,B,D,rfl,rfl,S,p⟩)
theorem zR (w0:aA d a []) (t:cA) (a7:RSl cP 4 d ai e t.Alphas) (y:RSl fw 2 d b5 ad t.Chains) {r:aY} (h:qe N t=some r) :
  Calls prog 100 [.agg [e,ad].toArray].toArray w0.w (bc a w0.w [] (fun F Fs v=>∃ (z:Value) (G:List Nat) (A:Value) (H:List Nat),v = .agg [z,A].toArray∧Fs=[ob z,G,ob A,H]∧OSl cz 133 1 F G z r.Alphas∧OSl bU 100 1 F H A r.Rules)):=by
 refine eN func100 J ntmps100 J w0 fun hF=>?_
 unfold qe at h
 refine sr<|lbx J fun al=>lnz tc J fun u=>arr 5 [0,32] J<|lnr a7 J ?_
 obtain⟨I,K,h⟩:=bs h
 refine le' (DW (R:=cz) vF yO M0 J J J (fun _=>⟨.slice none 0 0,J,J,OSl.nil _ _ _ _⟩) J J (Int.le_refl _) K (IF K)) J ?_
 rintro v1 L D1 ⟨an,h1⟩
 refine wl0<|lq (bA (vs:=[(0,v1)]) (C:=#[v1,.slice none 0 0]) KM tc J (aa (C':=[v1,.slice none 0 0]) J (cN h1.one) J J J (ae))) J<|lnz tc J fun w=>soN 0 uD J ⟨h1.one,J,trivial⟩ J ?_
 refine arr 6 [1,64] J<|lnr y J<|art 3 [] J<|wtS<|wt0 ?_
 have k1:=OSl.nil bU 100 1 L
 refine lin (σ:=Hp × (List aV) × Value × List Nat × Int) (fun s=>[(2,pQ u),(3,pQ w),(12,ad),(13,iV (t.Chains.length:Int)),(14,iV s.2.2.2.2)]) (fun s=>St w0 s.1 [(w,.cells #[v1,s.2.2.1] 35 (0,0)),(u,.cells #[.slice none 0 0,.slice none 0 0] 35 (0,0))] [s.2.2.2.1,ob s.2.2.1,[],ob v1]) (fun m s=>j9 N t I m s.2.1 s.2.2.2.2=some r∧(OSl cz 133 1 s.1 [] v1 I)∧(OSl bU 100 1 s.1 s.2.2.2.1 s.2.2.1 s.2.1)) (L,([]:List aV),(.slice none 0 0),[],0) N ⟨h,h1,k1⟩ (sx [0,0,0,0] [0,0]) (fun n1 ab s hm=>?_)
 obtain⟨aq,s1,p,x,s2⟩:=s
 obtain⟨h,h1,b⟩:=hm
 dsimp only at h h1 b ⊢
 unfold j9 at h
 refine att 5 [] J ?_
 refine ch h J ?_ ?_ <;> intro h
 ·refine atr 5 [] J ?_
  obtain⟨x2,M,h⟩:=bs h
  obtain⟨au,F1,-,g1,av,aw,r1⟩:=y.el (a8 M).2.2
  obtain⟨v2,G1,v3,G2,rfl,rfl,O,h3⟩:=r1
  refine lia y M J<|lhx 0 2 g1 J<|lnz tK J fun B=>soN 0 BL J ⟨O.one,h3.one,trivial⟩ J ?_
  refine en<|wm [0,1,2] [10] J<|amm 4 [0,1,1,32,2,0,3,0] [0,1,2] J J<|mq 4 J OX (kN [0,1,2]) (mP bw J J O) J ?_
  obtain⟨P,Q,h⟩:=bs h
  refine WM.one 5 OX (me J (fun _ v S D q T hw=>Kn.of Kf.nil (ai3 0 1 2 J J J) hw) (DW (R:=bo) vI yT LF J J J (fun _=>⟨.slice none 0 0,[],J,J,OSl.nil _ _ _ _⟩) J J (Int.le_refl _) Q (IF Q)) J ?_)
  rintro v4 U D3 ⟨V,W⟩
  replace h1:=h1.f0 V
  replace b:=b.f0 V
  refine WM.conv (S':=St w0 U [(B,.cells #[v2,v3] 141 (0,0)),(w,.cells #[v1,p] 35 (0,0)),(u,.cells #[.slice none 0 0,.slice none 0 0] 35 (0,0))] ([] :: [ob v4,x,ob p,[],ob v1])) (fun q hw=>hw.addNil)<|mq 6 J OX (kN [0,1,2]) (bA (vs:=[(0,v4)]) (C:=#[v4]) HR tv J (aa (C':=[v4]) J (cN W.one) J J J (ae))) J ?_
  have X:RC bU 1 U ([(ob v4++[])]:List (List Nat)) [v4] ([(⟨P⟩:aV)]:List aV):=RC.cons (c:=[v4]) (cells:=[]) ⟨v4,[],J,J,W⟩ J (RC.nil _ _ _)
  refine WM.one 7 OX (me J (fun _ v S D q T hw=>Kn.of Kf.nil (ai3 0 1 2 J J J) hw) (bv (vs:=[(0,.agg [v4].toArray)]) (C:=#[v4]) bU.lasts EZ tv J J J J (ao Dd (aa (C':=[v4]) J J J J J (ae))) J X J (RC.kn bU.knows X)) J ?_)
  rintro v5 Y D4 ⟨Z,E⟩
  replace E:OSl bU 100 1 Y ((ob v4++[])) v5 ([(⟨P⟩:aV)]:List aV):=by simpa[gi] using E
  replace h1:=h1.f0 Z
  replace b:=b.f0 Z
  refine WM.conv (S':=St w0 Y [(B,.cells #[v2,v3] 141 (0,0)),(w,.cells #[v1,p] 35 (0,0)),(u,.cells #[.slice none 0 0,.slice none 0 0] 35 (0,0))] [((ob v4++[])),ob v5,x,ob p,[],ob v1]) (fun q hw=>hw.merge (js:=[2,1]) J (SP.eq (by simp[gi,cT]))) ?_
  obtain⟨x4,af,h⟩:=bs h
  refine WM.one 8 OX (me J (fun _ v S D q T hw=>Kn.of Kf.nil (ai3 0 1 2 J J J) hw) (et bU.lasts bU.one EZ HT J J J J J (js:=[3]) (Rr:=[((ob v4++[])),ob v5,x,[],ob v1]) J b E (fun ap=>ap.q 2 J) (fun ap=>ap.q 0 J) af) J ?_)
  rintro v6 ag D5 ⟨⟨ah,ak⟩,h6⟩
  replace h1:=h1.fr ak (ah.q 4 J) dN
  refine WM.conv (S':=St w0 ag [(B,.cells #[v2,v3] 141 (0,0)),(w,.cells #[v1,p] 35 (0,0)),(u,.cells #[.slice none 0 0,.slice none 0 0] 35 (0,0))] [(x++((ob v4++[]))),ob v6,ob v5,[],ob v1]) (fun q hw=>hw.merge (js:=[3,1]) J (SP.eq OZ))<|amm 1 [9,1] [0,1,2] J J ?_
  refine on1 10 (ms1 1 J nk KE J h6.one ?_)
  refine WM.nil OX<|att 5 [] J ?_
  exact lb [0,0,1,1] [1,1] (ab (_,_,_,_,_) ⟨h,h1,h6⟩)
 refine atr 4 [2] J<|soN 1 uD J ⟨h1.one,b.one,trivial⟩ J ?_
 refine en ?_
 exact rtg [3,2,1,0] hF (aC.one (bf Az J (fun q hw=>hw.rgO (i:=1) J 0 2 [v1,p] J) J)) J (by cases h;exact fun q hw=>⟨v1,[],p,x,rfl,rfl,h1,b⟩)
theorem Bf (w0:aA d a []) (t:bq) (p:af) (I:RSl eC 5 d ai e t.Rules) (u:RSl bm 3 d aE j p.Items) {r:aY} (h:ut N t p=some r) :
  Calls prog 42 [.agg [.string t.Name,e].toArray,.agg [j,iV p.Next].toArray].toArray w0.w (bc a w0.w [] (fun K Fs v=>∃ (E:Value) (L:List Nat) (F:Value) (M:List Nat),v = .agg [E,F].toArray∧Fs=[ob E,L,ob F,M]∧OSl cz 133 1 K L E r.Alphas∧OSl bU 100 1 K M F r.Rules)):=by
 refine eN func42 J ntmps42 J w0 fun hF=>?_
 unfold ut at h
 refine sr<|lbx J fun O=>lbx J fun P=>lnz tc J fun Q=>arr 4 [66] J<|kab h J J J (fun b z q=>wy N b t (I.y z) q) ?_
 rintro w h v1 al F1 ⟨an,ao,v2,G,v3,H,rfl,rfl,h1,c⟩
 refine lnz tq J fun S=>soN 0 ww J ⟨h1.one,c.one,trivial⟩ J ?_
 refine arr 4 [2] J<|kab h J J J (fun b z q=>zR N b w (h1.rslG dt.gives) (c.rslG bI.gives) q) ?_
 rintro T h v4 ab F2 ⟨x,U,v5,D3,v6,D4,rfl,rfl,V,W⟩
 replace h1:=h1.fr U (x.q 0 J) (x.q 1 J)
 replace c:=c.fr U (x.q 2 J) (x.q 3 J)
 refine lnz tc J fun X=>soN 0 uD J ⟨V.one,W.one,trivial⟩ J ?_
 refine arr 6 [0,96] J<|lnr u J<|art 3 [] J ?_
 refine lin (σ:=Hp × (List cn) × List Nat × (List aV) × List Nat × Int) (fun s=>[(2,pQ O),(3,pQ P),(4,pQ Q),(5,pQ S),(6,pQ X),(14,j),(15,iV (p.Items.length:Int)),(16,iV s.2.2.2.2.2)]) (fun s=>St w0 s.1 [(X,.cells #[v5,v6] 35 (0,0)),(S,.cells #[v2,v3] 47 (0,0)),(Q,.cells #[.slice none 0 0,.slice none 0 0] 35 (0,0)),(P,.cells #[j,iV p.Next] 29 (0,0)),(O,.cells #[.string t.Name,e] 26 (0,0))] [ob v5,s.2.2.1,ob v6,s.2.2.2.2.1,ob v2,G,ob v3,H]) (fun m s=>iL N t p w m s.2.1 s.2.2.2.1 s.2.2.2.2.2=some r∧(OSl dt 137 4 s.1 G v2 w.Alphas)∧(OSl bI 141 2 s.1 H v3 w.Chains)∧(OSl cz 133 1 s.1 s.2.2.1 v5 s.2.1)∧(OSl bU 100 1 s.1 s.2.2.2.2.1 v6 s.2.2.2.1)) (ab,T.Alphas,D3,T.Rules,D4,0) N ⟨h,h1,c,V,W⟩ (sx [0,0,0,0,0,0,0,0] [0,0,0,0,0]) (fun n1 ag s hm=>?_)
 obtain⟨aq,s1,D5,s2,D6,y⟩:=s
 obtain⟨h,h1,c,A,B⟩:=hm
 dsimp only at h h1 c A B ⊢
 unfold iL at h
 refine att 5 [] J ?_
 refine ch h J ?_ ?_ <;> intro h
 ·refine atr 6 [] J ?_
  obtain⟨x3,Y,h⟩:=bs h
  obtain⟨au,F3,-,g1,av,aw,r1⟩:=u.el (a8 Y).2.2
  obtain⟨v7,G1,rfl,ah,h5⟩:=r1
  obtain rfl:=ah.symm
  refine lia u Y J<|lhx 0 3 g1 J<|lnz tI J fun ax=>la J<|soN 0 yY J ⟨J,J,h5.one,trivial⟩ J ?_
  refine en<|wm [0,1,2,3,4,5] [13] J<|amm 7 [0,162,1,66,2,34,3,0,4,128,5,6] [0,1,2,3,4,5] J J ?_
  obtain⟨x4,Z,h⟩:=bs h
  refine mqT 7 [10,13] J OX (kN [0,1,2,3,4,5]) (L5 p9 J J u Z) J ?_
  obtain⟨F4,h6,ay⟩:=u.sub Z
  refine amm 2 [8,1,9,128] [0,1,2,3,4,5] J J<|mq 10 J OX (kN [0,1,2,3,4,5]) (bA (vs:=[(0,(slc j (0:Int).toNat (wz (y+1)).toNat 3)),(1,iV p.Next)]) (C:=#[(slc j (0:Int).toNat (wz (y+1)).toNat 3),iV p.Next]) KS AR J (aa (C':=[(slc j (0:Int).toNat (wz (y+1)).toNat 3),iV 0]) J (cN h6.one) J J J (aa (C':=[(slc j (0:Int).toNat (wz (y+1)).toNat 3),iV p.Next]) J J J J J (ae)))) J<|amm 2 [11,0,12,0] [0,1,2,3,4,5] J J ?_
  obtain⟨x5,ak,h⟩:=bs h
  refine WM.one 13 OX (mc J (fun hc=>by cases hc) (bL (js:=[0,0,0,0]) (R:=[ob v2,G,ob v3,H]) MD J J (fun w1 hw ap hl=>zG N (bx hw ap hl) t w (⟨s1,s2⟩:aY) (⟨x4,p.Next⟩:af) x3.Id (I.y (hw.uo ap)) ((h1.rslG dt.gives).x (Dj.app (ap.q 0 J) (ap.q 1 J))) ((c.rslG bI.gives).x (Dj.app (ap.q 2 J) (ap.q 3 J))) A B (h6.y (hw.uo ap))  ak)) J ?_)
  rintro v8 az F5 ⟨D,a7,D7,D8,rfl,rfl,h7,h8⟩
  replace h1:=h1.fr a7 (D.q 0 J) (D.q 1 J)
  replace c:=c.fr a7 (D.q 2 J) (D.q 3 J)
  refine WM.nil OX<|att 5 [] J ?_
  exact lb [0,0,0,0,0,0,0,0] [1,1,1,1,1] (ag (_,_,_,_,_,_) ⟨h,h1,c,h7,h8⟩)
 refine atr 4 [2] J<|soN 2 uD J ⟨A.one,B.one,trivial⟩ J ?_
 refine en ?_
 exact rtg [0,0,0,0] hF (aC.one (bf Az J (fun w1 hw=>hw.rgO (i:=2) J 0 2 [v5,v6] J) J)) J (by cases h;exact fun w1 hw=>⟨v5,D5,v6,D6,rfl,rfl,A,B⟩)
theorem jv {c:Nat} {p:List Value} (w0:aA d a []) (b:(List cn)) (q:(List cn)) (t:cn→cn→Option (Bool)) (u:RSl jO 1 d b0 l b) (w:RSl jO 1 d b4 k q) (H:Fun prog c=true) (I:∀ {v:Hp} {w':World},FrH [] a v→In v w'→∀ (y:cn) (z:cn) {A:Value} {K:List Nat} {B:Value} {L:List Nat} (_:RSl (RI .i64) 1 v K A y.L) (_:RSl (RI .i64) 1 v L B z.L) {r:Bool},t y z=some r→Calls prog c (([.agg [A].toArray,.agg [B].toArray]:List Value)++p).toArray w' (mM (.bool r) w')) {r:Bool} (h:bK N b q t=some r) :
  CB w0 prog 109 [l,k,.func (.func c) #[] p.toArray] (.bool r):=by
 refine eN func109 J ntmps109 J w0 fun x=>?_
 unfold bK at h
 refine atr 8 [] J<|lnr u J<|la J<|lnr w J<|la J<|en ?_
 refine ch h J ?_ ?_ <;> intro h
 ·refine att 4 [] J ?_
  exact rt x h
 refine atr 5 [] J<|lnr u J<|art 3 [] J ?_
 refine lin (σ:=Int) (fun s=>[(1,k),(2,.func (.func c) #[] p.toArray),(15,l),(16,iV (b.length:Int)),(17,iV s)]) (fun s=>St w0 a [] []) (fun m s=>aO N b q t m s=some r) (0) N h (sx [] []) (fun M O s hm=>?_)
 revert hm;revert s;intro s1 hm
 have h:aO N b q t (M+1) s1=some r:=hm
 show WT _ _ [(1,k),(2,.func (.func c) #[] p.toArray),(15,l),(16,iV (b.length:Int)),(17,iV s1)] (St w0 a [] [])
 unfold aO at h
 refine att 5 [] J ?_
 refine ch h J ?_ ?_ <;> intro h
 ·refine atr 6 [] J ?_
  obtain⟨P,D,h⟩:=bs h
  obtain⟨W,X,-,g1,Y,Z,Q⟩:=u.el (a8 D).2.2
  obtain⟨v1,G1,rfl,R,h1⟩:=Q
  obtain rfl:=R.symm
  refine lia u D J<|lhx 0 1 g1 J ?_
  refine ln (nh (C:=#[.slice none 0 0]) yO J) J (fun a7=>?_)
  refine la J<|soN 0 HN J ⟨h1.one,trivial⟩ J ?_
  refine arr 5 [] J ?_
  obtain⟨S,E,h⟩:=bs h
  obtain⟨aa,F2,-,g2,ab,ae,T⟩:=w.el (a8 E).2.2
  obtain⟨v2,G2,rfl,U,F⟩:=T
  obtain rfl:=U.symm
  refine lia w E J<|lhx 0 1 g2 J ?_
  refine ln (nh (C:=#[.slice none 0 0]) yO J) J (fun af=>?_)
  refine soN 0 HN J ⟨F.one,trivial⟩ J ?_
  refine arr 4 [] J<|lq (ay ID J (fun G hw=>hw.rgO (i:=1) J 0 1 [v1] J) J) J<|lq (ay ID J (fun G hw=>hw.rgO (i:=0) J 0 1 [v2] J) J) J ?_
  obtain⟨x3,V,h⟩:=bs h
  refine lp (m3 H J J (fun G hw=>I hw.frB hw.fro P S (h1.y hw.up) (F.y hw.up) V)) J<|la J<|en ?_
  refine ch h J ?_ ?_ <;> intro h
  ·refine att 4 [] J ?_
   exact rt x h
  refine att 6 [] J ?_
  exact lb [] [] (O _ h)
 refine att 5 [] J ?_
 exact rt x h
theorem wu (w0:aA d a []) (b:cn) (c:cn) (i:RSl (RI .i64) 1 d ai e b.L) (m:RSl (RI .i64) 1 d aE j c.L) {r:Bool} (h:iC N b c=some r) :
  CB w0 prog 110 [.agg [e].toArray,.agg [j].toArray] (.bool r):=by
 refine eN func110 J ntmps110 J w0 fun p=>?_
 unfold iC at h
 refine sr ?_
 refine ln (xy (C:=#[e]) J J) J (fun q=>?_)
 refine ln (xy (C:=#[j]) J J) J (fun s=>?_)
 refine arr 8 [0,32,0,0] J<|qd h (eO N · b.L c.L i m ·) J J J fun t h=>la J<|en ?_
 exact rt p h
theorem jw {c:Nat} {p:List Value} (w0:aA d a []) (b:(List aV)) (q:(List aV)) (t:aV→aV→Option (Bool)) (u:RSl oE 1 d b0 l b) (w:RSl oE 1 d b4 k q) (H:Fun prog c=true) (I:∀ {v:Hp} {w':World},FrH [] a v→In v w'→∀ (y:aV) (z:aV) {A:Value} {K:List Nat} {B:Value} {L:List Nat} (_:RSl iR 1 v K A y.Levels) (_:RSl iR 1 v L B z.Levels) {r:Bool},t y z=some r→Calls prog c (([.agg [A].toArray,.agg [B].toArray]:List Value)++p).toArray w' (mM (.bool r) w')) {r:Bool} (h:bJ N b q t=some r) :
  CB w0 prog 111 [l,k,.func (.func c) #[] p.toArray] (.bool r):=by
 refine eN func111 J ntmps111 J w0 fun x=>?_
 unfold bJ at h
 refine atr 8 [] J<|lnr u J<|la J<|lnr w J<|la J<|en ?_
 refine ch h J ?_ ?_ <;> intro h
 ·refine att 4 [] J ?_
  exact rt x h
 refine atr 5 [] J<|lnr u J<|art 3 [] J ?_
 refine lin (σ:=Int) (fun s=>[(1,k),(2,.func (.func c) #[] p.toArray),(15,l),(16,iV (b.length:Int)),(17,iV s)]) (fun s=>St w0 a [] []) (fun m s=>aN N b q t m s=some r) (0) N h (sx [] []) (fun M O s hm=>?_)
 revert hm;revert s;intro s1 hm
 have h:aN N b q t (M+1) s1=some r:=hm
 show WT _ _ [(1,k),(2,.func (.func c) #[] p.toArray),(15,l),(16,iV (b.length:Int)),(17,iV s1)] (St w0 a [] [])
 unfold aN at h
 refine att 5 [] J ?_
 refine ch h J ?_ ?_ <;> intro h
 ·refine atr 6 [] J ?_
  obtain⟨P,D,h⟩:=bs h
  obtain⟨W,X,-,g1,Y,Z,Q⟩:=u.el (a8 D).2.2
  obtain⟨v1,G1,rfl,R,h1⟩:=Q
  obtain rfl:=R.symm
  refine lia u D J<|lhx 0 1 g1 J ?_
  refine ln (nh (C:=#[.slice none 0 0]) tv J) J (fun a7=>?_)
  refine la J<|soN 0 C3 J ⟨h1.one,trivial⟩ J ?_
  refine arr 5 [] J ?_
  obtain⟨S,E,h⟩:=bs h
  obtain⟨aa,F2,-,g2,ab,ae,T⟩:=w.el (a8 E).2.2
  obtain⟨v2,G2,rfl,U,F⟩:=T
  obtain rfl:=U.symm
  refine lia w E J<|lhx 0 1 g2 J ?_
  refine ln (nh (C:=#[.slice none 0 0]) tv J) J (fun af=>?_)
  refine soN 0 C3 J ⟨F.one,trivial⟩ J ?_
  refine arr 4 [] J<|lq (ay DN J (fun G hw=>hw.rgO (i:=1) J 0 1 [v1] J) J) J<|lq (ay DN J (fun G hw=>hw.rgO (i:=0) J 0 1 [v2] J) J) J ?_
  obtain⟨x3,V,h⟩:=bs h
  refine lp (m3 H J J (fun G hw=>I hw.frB hw.fro P S (h1.y hw.up) (F.y hw.up) V)) J<|la J<|en ?_
  refine ch h J ?_ ?_ <;> intro h
  ·refine att 4 [] J ?_
   exact rt x h
  refine att 6 [] J ?_
  exact lb [] [] (O _ h)
 refine att 5 [] J ?_
 exact rt x h
theorem ie {c:Nat} {p:List Value} (w0:aA d a []) (b:(List aw)) (q:(List aw)) (t:aw→aw→Option (Bool)) (u:RSl iR 1 d b0 l b) (w:RSl iR 1 d b4 k q) (H:Fun prog c=true) (I:∀ {v:Hp} {w':World},FrH [] a v→In v w'→∀ (y:aw) (z:aw) {A:Value} {K:List Nat} {B:Value} {L:List Nat} (_:RSl dU 2 v K A y.Toks) (_:RSl dU 2 v L B z.Toks) {r:Bool},t y z=some r→Calls prog c (([.agg [A].toArray,.agg [B].toArray]:List Value)++p).toArray w' (mM (.bool r) w')) {r:Bool} (h:bH N b q t=some r) :
  CB w0 prog 113 [l,k,.func (.func c) #[] p.toArray] (.bool r):=by
 refine eN func113 J ntmps113 J w0 fun x=>?_
 unfold bH at h
 refine atr 8 [] J<|lnr u J<|la J<|lnr w J<|la J<|en ?_
 refine ch h J ?_ ?_ <;> intro h
 ·refine att 4 [] J ?_
  exact rt x h
 refine atr 5 [] J<|lnr u J<|art 3 [] J ?_
 refine lin (σ:=Int) (fun s=>[(1,k),(2,.func (.func c) #[] p.toArray),(15,l),(16,iV (b.length:Int)),(17,iV s)]) (fun s=>St w0 a [] []) (fun m s=>aF N b q t m s=some r) (0) N h (sx [] []) (fun M O s hm=>?_)
 revert hm;revert s;intro s1 hm
 have h:aF N b q t (M+1) s1=some r:=hm
 show WT _ _ [(1,k),(2,.func (.func c) #[] p.toArray),(15,l),(16,iV (b.length:Int)),(17,iV s1)] (St w0 a [] [])
 unfold aF at h
 refine att 5 [] J ?_
 refine ch h J ?_ ?_ <;> intro h
 ·refine atr 6 [] J ?_
  obtain⟨P,D,h⟩:=bs h
  obtain⟨W,X,-,g1,Y,Z,Q⟩:=u.el (a8 D).2.2
  obtain⟨v1,G1,rfl,R,h1⟩:=Q
  obtain rfl:=R.symm
  refine lia u D J<|lhx 0 1 g1 J ?_
  refine ln (nh (C:=#[.slice none 0 0]) yT J) J (fun a7=>?_)
  refine la J<|soN 0 Iq J ⟨h1.one,trivial⟩ J ?_
  refine arr 5 [] J ?_
  obtain⟨S,E,h⟩:=bs h
  obtain⟨aa,F2,-,g2,ab,ae,T⟩:=w.el (a8 E).2.2
  obtain⟨v2,G2,rfl,U,F⟩:=T
  obtain rfl:=U.symm
  refine lia w E J<|lhx 0 1 g2 J ?_
  refine ln (nh (C:=#[.slice none 0 0]) yT J) J (fun af=>?_)
  refine soN 0 Iq J ⟨F.one,trivial⟩ J ?_
  refine arr 4 [] J<|lq (ay IR J (fun G hw=>hw.rgO (i:=1) J 0 1 [v1] J) J) J<|lq (ay IR J (fun G hw=>hw.rgO (i:=0) J 0 1 [v2] J) J) J ?_
  obtain⟨x3,V,h⟩:=bs h
  refine lp (m3 H J J (fun G hw=>I hw.frB hw.fro P S (h1.y hw.up) (F.y hw.up) V)) J<|la J<|en ?_
  refine ch h J ?_ ?_ <;> intro h
  ·refine att 4 [] J ?_
   exact rt x h
  refine att 6 [] J ?_
  exact lb [] [] (O _ h)
 refine att 5 [] J ?_
 exact rt x h
end Go.Proofs.YtedmfnmbjglmbaaGreat
