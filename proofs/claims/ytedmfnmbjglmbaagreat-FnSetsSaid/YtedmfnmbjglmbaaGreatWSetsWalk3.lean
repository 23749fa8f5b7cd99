/- Printed by a program of ours: each Go function computes its Lean function. -/
import Derived.Test.YtedmfnmbjglmbaaGreatProg
import Derived.Test.YtedmfnmbjglmbaaGreatWSetsWalk2
namespace Go.Proofs.YtedmfnmbjglmbaaGreat
open Eng Tryz
open Go.RowKit (Below)
set_option linter.unusedVariables false
set_option linter.unusedSimpArgs false

set_option maxRecDepth 100000
set_option maxHeartbeats 1000000
variable {d a:Hp} {e j a6 f g ar n k ad:Value} {aE b4 b8 b0 a1 pG3_0 b6 b5 b7 o pD0:List Nat} {l:Nat} (N:Nat)
theorem xw (w0:av d a [ob f,b0,ob g,a1].flatten) (A:bo) (O:bO) (E:aI) (x:ag) (p:Int) (P:RSl cr 5 d aE e A.Rules) (aD:RSl cz 4 d b4 j O.Alphas) (Q:RSl fC 2 d b8 a6 O.Chains) (aF:OSl bk 133 1 a b0 f E.Alphas) (t:OSl bc 100 1 a a1 g E.Rules) (Z:RSl bj 3 d pG3_0 ar x.Items) {r:(List bm) × (List aP)} (h:ny N A O E x p=some r) :
  Calls prog 68 [.agg [.string A.Name,e].toArray,.agg [j,a6].toArray,.agg [f,g].toArray,.agg [ar,iV x.Next].toArray,iV p].toArray w0.w (be a w0.w [ob f,b0,ob g,a1].flatten (fun aU Fs v=>∃ (aV:List Nat) (aZ:List Nat),v = .tuple #[]∧Fs=[ob f,aV,ob g,aZ]∧OSl bk 133 1 aU aV f r.1∧OSl bc 100 1 aU aZ g r.2)):=by
 refine eL func68 J ntmps68 J (L:=[ob f,b0,ob g,a1]) w0 (fun hF=>?_)
 unfold ny at h
 refine sr<|lbx J fun S=>lbx J fun T=>lbx J fun U=>lbx J fun V=>arr 5 [2] J<|kab h J J J (fun b z q=>qC N b x p (Z.y z) q) ?_
 rintro x1 h v1 bn F1 ⟨au,b1,v2,rfl,rfl,h1⟩
 replace aF:=aF.fr b1 (au.q 0 J) (au.q 1 J)
 replace t:=t.fr b1 (au.q 2 J) (au.q 3 J)
 refine arr 3 [] J<|lnz mr J fun aG=>soN 0 o9 J ⟨J,h1.one,trivial⟩ J ?_
 refine arr 7 [0,96] J<|lnr aD J<|art 3 [] J ?_
 refine lin (σ:=Hp × (List bm) × List Nat × Int) (fun s=>[(4,iV p),(5,pQ S),(6,pQ T),(7,pQ U),(8,pQ V),(10,pQ aG),(24,j),(25,iV (O.Alphas.length:Int)),(26,iV s.2.2.2)]) (fun s=>St w0 s.1 [(aG,.cells #[.string x1.1.Kind,v2] 52 (0,0)),(V,.cells #[ar,iV x.Next] 29 (0,0)),(U,.cells #[f,g] 35 (0,0)),(T,.cells #[j,a6] 47 (0,0)),(S,.cells #[.string A.Name,e] 26 (0,0))] [ob v2,ob f,s.2.2.1,ob g,a1]) (fun m s=>ei N A O E x p x1 m s.2.1 s.2.2.2=some r∧(OSl bk 133 1 s.1 s.2.2.1 f s.2.1)∧(OSl bc 100 1 s.1 a1 g E.Rules)∧(OSl aX 95 3 s.1 [] v2 x1.1.Fields)) (bn,E.Alphas,b0,0) N ⟨h,aF,t,h1⟩ (sx [0,0,0,0,0] [0,0,0,0,0]) (fun n1 b2 s hm=>?_)
 obtain⟨aw,s1,K,s2⟩:=s
 obtain⟨h,u,t,h1⟩:=hm
 dsimp only at h u t h1 ⊢
 unfold ei at h
 refine att 5 [] J ?_
 refine ch h J ?_ ?_ <;> intro h
 ·refine atr 6 [] J ?_
  obtain⟨x2,b3,h⟩:=bs h
  obtain⟨bX,F2,-,g1,bY,bZ,r1⟩:=aD.el (aa b3).2.2
  obtain⟨v3,G1,v4,G2,rfl,rfl,h2,h3⟩:=r1
  refine lia aD b3 J<|lhx 0 4 g1 J<|lnz oZ J fun bp=>la J<|soN 0 ux J ⟨J,J,h2.one,h3.one,trivial⟩ J ?_
  refine arr 5 [4,34] J<|qz h (fun b z q=>yY N b x2 x1.1 (h2.y z) (h3.y z) h1.rsl q) J J J fun x3 h=>en ?_
  refine ch h J ?_ ?_ <;> intro h
  ·obtain⟨x4,aH,h⟩:=bs h
   obtain⟨c0,F3,D2,G,r2,aJ,bq⟩:=u.focus aH
   obtain⟨v5,rfl,rfl,h5⟩:=r2
   refine wtL [ob v5,D2,ob v2,ob f,ob g,a1] (sre [2] [ob v5,D2] J (by simpa[gk] using bq))<|WT.mix (Kn w0 aw (ob f) [(bp,.cells #[.string x2.Kind,iV x2.N,v3,v4] 137 (0,0)),(aG,.cells #[.string x1.1.Kind,v2] 52 (0,0)),(V,.cells #[ar,iV x.Next] 29 (0,0)),(U,.cells #[f,g] 35 (0,0)),(T,.cells #[j,a6] 47 (0,0)),(S,.cells #[.string A.Name,e] 26 (0,0))]) (fun i=>match i with | 14=>false | _=>true) mixed (fun _ h=>h.drew) ?_
   refine mq 0 J MA (kn Kf.id (am [0,1,2,3,4,5] J)) (ak iG J) J<|mq 1 J MA (kn Kf.id (am [0,1,2,3,4,5] J)) (az xj J (fun B hw=>hw.rgO (i:=3) J 0 1 [f] J)) J<|ma 2 J MA (kn Kf.id (am [0,1,2,3,4,5] J)) J<|mq 3 J MA (kn Kf.id (am [0,1,2,3,4,5] J)) (ak iG J) J<|mq 4 J MA (kn Kf.id (am [0,1,2,3,4,5] J)) (az xj J (fun B hw=>hw.rgO (i:=3) J 0 1 [f] J)) J ?_
   refine ma 5 J MA (kn Kf.id (am [0,1,2,3,4,5] J)) J<|mq 6 J MA (kn Kf.id (am [0,1,2,3,4,5] J)) (bw oc J J G aH) J<|mq 7 J MA (kn Kf.id (am [0,1,2,3,4,5] J)) (ak gw J) J<|mq 8 J MA (kn Kf.id (am [0,1,2,3,4,5] J)) (az lz J (fun B hw=>hw.rg G.hb (G.rg.of_eq 0 1 J J:rg _ _ _ [v5]))) J<|ma 9 J MA (kn Kf.id (am [0,1,2,3,4,5] J)) J ?_
   have br:RC (RI .i64) 1 aw ([[]]:List (List Nat)) [iV p] ([p]:List Int):=RC.cons (c:=[iV p]) (cells:=[]) ⟨J,J⟩ J (RC.nil _ _ _)
   refine WM.one 10 MA (me J (fun _ v bu D B hq hw=>Kn.of (Kf.id.se hq.1) (am [0,1,2,3,4,5] J) hw) (aQ (vs:=[(0,iV p)]) (C:=#[iV p]) RI.lasts aY gF J J J J (ac ij (a7 (C':=[iV p]) J J J J J (ab))) J br J (by simpa using Kw.nil)) J ?_)
   rintro v6 bz D3 ⟨a8,h6⟩
   replace h6:OSl (RI .i64) 3 1 bz [] v6 ([p]:List Int):=by simpa using h6
   replace G:=G.f0 a8
   replace t:=t.f0 a8
   replace h1:=h1.f0 a8
   replace h5:=h5.f0 a8
   obtain⟨x5,bA,h⟩:=bs h
   have aJ:=(Kf.id (F:=(ob f)):Kf aw _ _).se a8
   refine WM.one 11 MA (me J (fun _ v bu D B hq hw=>Kn.of (aJ.st hq.1.2 (hq.1.1.r (i:=3) J)) (am [0,1,2,3,4,5] J) hw) (bg RI.lasts RI.one RI.flat aY jH J J J J J (js:=[1]) (Rr:=[ob v6,D2,ob v2,ob f,ob g,a1]) J h5 h6.rsl bA) J ?_)
   rintro v7 c3 D4 ⟨⟨W,ax⟩,h7⟩
   replace G:=G.fr ax (W.q 3 J) (W.q 1 J)
   replace t:=t.fr ax (W.q 4 J) (W.q 5 J)
   replace h1:=h1.fr ax (W.q 2 J) dN
   have aK:=aJ.st ax (W.q 3 J)
   refine mqT 12 [13,14] J MA (kn aK (am [0,1,2,3,4,5] J)) (bw oc J J G aH) J<|mq 13 J MA (kn aK (am [0,1,2,3,4,5] J)) (ak gw J) J ?_
   refine WM.one 14 MA (mu J (fun hc=>by cases hc) (us [4] [ob v7,ob v6,D2,ob v2,ob g,a1] 0 bk.lasts qU J J h7.one J G J (fun ap=>ap.q 2 J)) J ?_)
   rintro bB D5 ⟨⟨ay,aL⟩,h8⟩
   replace t:=t.fr aL (ay.q 4 J) (ay.q 5 J)
   replace h1:=h1.fr aL (ay.q 3 J) dN
   replace h7:=h7.fr aL (ay.q 0 J) dN
   refine WM.nil MA<|att 5 [] J ?_
   have r3:bk bB _ [v7] (⟨x5⟩:bm):=⟨v7,J,J,h7⟩
   obtain⟨D6,h9,bC⟩:=h8.unfocus r3 (bk.knows _ _ _ _ r3)
   refine wtL [D6,ob f,ob v6,ob v2,ob g,a1] (smg [1,2] J (by simpa[gk,bH] using bC)) ?_
   exact lb [3,1,0,1,1] [1,1,1,1,1] (b2 (_,_,_,_) ⟨h,h9,t,h1⟩)
  refine att 6 [] J ?_
  exact lb [0,0,0,0,0] [1,1,1,1,1] (b2 (_,_,_,_) ⟨h,u,t,h1⟩)
 refine atr 5 [1,64] J<|lno t J<|art 3 [] J ?_
 refine lin (σ:=Hp × (List aP) × List Nat × Int) (fun s=>[(4,iV p),(5,pQ S),(6,pQ T),(7,pQ U),(8,pQ V),(50,g),(51,iV (E.Rules.length:Int)),(52,iV s.2.2.2)]) (fun s=>St w0 s.1 [(V,.cells #[ar,iV x.Next] 29 (0,0)),(U,.cells #[f,g] 35 (0,0)),(T,.cells #[j,a6] 47 (0,0)),(S,.cells #[.string A.Name,e] 26 (0,0))] [ob f,K,ob g,s.2.2.1]) (fun m s=>ev N A O E x p s1 m s.2.1 s.2.2.2=some r∧(OSl bk 133 1 s.1 K f s1)∧(OSl bc 100 1 s.1 s.2.2.1 g s.2.1)) (aw,E.Rules,a1,0) N ⟨h,u,t⟩ (sx [1,1,1,1] [1,1,1,1]) (fun n2 bD s hm=>?_)
 obtain⟨c4,s3,D7,s4⟩:=s
 obtain⟨h,u,k2⟩:=hm
 dsimp only at h u k2 ⊢
 unfold ev at h
 refine att 5 [] J ?_
 refine ch h J ?_ ?_ <;> intro h
 ·refine atr 6 [] J ?_
  obtain⟨x6,b9,h⟩:=bs h
  obtain⟨c5,F4,D8,H,r4,aK,bE⟩:=k2.focus b9
  obtain⟨y,D9,rfl,rfl,ae⟩:=r4
  refine wlL [ob y,D9,D8,ob f,K,ob g] (sre [3] [ob y,D9,D8] J (by simpa[gk] using bE))<|lih H b9 J<|lgx 0 1 H.rg J ?_
  refine ln (mf (C:=#[.slice none 0 0]) mO J) J (fun ba=>?_)
  refine la J<|soN 0 yf J ⟨ae.one,trivial⟩ J ?_
  refine arr 9 [130,98,66,34] J<|kab h J J J (fun b z q=>wD N b A O (⟨s1,s3⟩:aI) x p s4 (P.y z) (Q.y z) (u.rslG bk.gives) (Z.y z) q) ?_
  rintro M h v9 bb F5 ⟨X,aM,v10,c6,v11,c7,v12,G3,aN,G4,aO,G5,aR,G6,rfl,rfl,af,i1,ah,i2,ai,i3,aj,i4,al,i5,an,i6⟩
  replace u:=u.fr aM (X.q 3 J) (X.q 4 J)
  replace H:=H.fr aM (X.q 5 J) (X.q 2 J)
  replace ae:=ae.fr aM (X.q 0 J) (X.q 1 J)
  refine lnz Dc J fun bd=>soN 0 Hc J ⟨af.one,ah.one,ai.one,aj.one,al.one,an.one,J,J,trivial⟩ J ?_
  refine en<|sq<|WT.mix (Kn w0 bb (ob y) [(bd,.cells #[v10,v11,v12,aN,aO,aR,iV M.s.Next,iV M.id] 191 (0,0)),(ba,.cells #[y] 100 (0,0)),(V,.cells #[ar,iV x.Next] 29 (0,0)),(U,.cells #[f,g] 35 (0,0)),(T,.cells #[j,a6] 47 (0,0)),(S,.cells #[.string A.Name,e] 26 (0,0))]) (fun i=>match i with | 10=>false | _=>true) mixed (fun _ h=>h.drew) ?_
  refine mq 0 J MA (kn Kf.id (am [0,1,2,3,4,5] J)) (aC Gm J (fun B hw=>hw.rgO (i:=0) J 0 8 [v10,v11,v12,aN,aO,aR,iV M.s.Next,iV M.id] J) J) J<|mqT 1 [2,7,8,9,10] J MA (kn Kf.id (am [0,1,2,3,4,5] J)) (ak fD J) J<|mqT 2 [7,8,9,10] J MA (kn Kf.id (am [0,1,2,3,4,5] J)) (az wW J (fun B hw=>hw.rgO (i:=1) J 0 1 [y] J)) J ?_
  refine mqT 3 [4,5,6,7,8,9,10] J MA (kn Kf.id (am [0,1,2,3,4,5] J)) (ak fD J) J<|mqT 4 [5,6,7,8,9,10] J MA (kn Kf.id (am [0,1,2,3,4,5] J)) (az wW J (fun B hw=>hw.rgO (i:=1) J 0 1 [y] J)) J<|mqT 5 [6,7,8,9,10] J MA (kn Kf.id (am [0,1,2,3,4,5] J)) (mF o8 J J (ae.rslG aT.gives)) J<|mqT 6 [7,8,9,10] J MA (kn Kf.id (am [0,1,2,3,4,5] J)) (E6 J J) J ?_
  obtain⟨x8,bf,h⟩:=bs h
  obtain⟨c8,F6,aS,Y,r5,c9,bF⟩:=ae.focus bf
  obtain⟨aq,bh,rfl,rfl,bG⟩:=r5
  refine WM.conv (S':=St w0 bb [(bd,.cells #[v10,v11,v12,aN,aO,aR,iV M.s.Next,iV M.id] 191 (0,0)),(ba,.cells #[y] 100 (0,0)),(V,.cells #[ar,iV x.Next] 29 (0,0)),(U,.cells #[f,g] 35 (0,0)),(T,.cells #[j,a6] 47 (0,0)),(S,.cells #[.string A.Name,e] 26 (0,0))] [ob aq,bh,aS,ob v10,ob v11,ob y,D8,ob f,K,ob g]) (fun B hw=>hw.re (js:=[3]) (Bs:=[ob aq,bh,aS]) J (by simpa[gk] using bF)) ?_
  refine mqT 7 [8,9,10] J MA (kn Kf.id (am [0,1,2,3,4,5] J)) (bw o8 J J Y bf) J<|mqT 8 [9,10] J MA (kn Kf.id (am [0,1,2,3,4,5] J)) (ak dR J) J<|mq 9 J MA (kn Kf.id (am [0,1,2,3,4,5] J)) (az sk J (fun B hw=>hw.rg Y.hb (Y.rg.of_eq 0 1 J J:rg _ _ _ [aq]))) J ?_
  obtain⟨x9,bI,h⟩:=bs h
  refine WM.one 10 MA (mc J (fun hc=>by cases hc) (bt (js:=[0,0]) (R:=[aS,ob v10,ob v11,ob y,D8,ob f,K,ob g]) HW J J (fun B hw ap hl=>tx N (bx hw ap hl) M x8.Toks 1 (af.rsl.x (Dj.app (ap.q 1 J) (Dj.sub (ap.o P.old) i1))) (ah.rsl.x (Dj.app (ap.q 2 J) (Dj.sub (ap.o P.old) i2))) (ai.x (Dj.sub (ap.o Q.old) i3)) (aj.x (Dj.sub (ap.o Q.old) i4)) (al.x (Dj.sub (Dj.app (ap.q 5 J) (ap.q 6 J)) i5)) (an.x (Dj.sub (ap.o Z.old) i6)) bG  bI)) J ?_)
  rintro v17 bJ F7 ⟨w,I,bK,rfl,rfl,bL⟩
  replace ai:=ai.fr I (Dj.sub (w.o Q.old) i3)
  replace aj:=aj.fr I (Dj.sub (w.o Q.old) i4)
  replace al:=al.fr I (Dj.sub (Dj.app (w.q 5 J) (w.q 6 J)) i5)
  replace an:=an.fr I (Dj.sub (w.o Z.old) i6)
  replace u:=u.fr I (w.q 5 J) (w.q 6 J)
  replace H:=H.fr I (w.q 7 J) (w.q 4 J)
  replace Y:=Y.fr I (w.q 3 J) (w.q 0 J)
  replace af:=af.fr I (w.q 1 J) (Dj.sub (w.o P.old) i1)
  replace ah:=ah.fr I (w.q 2 J) (Dj.sub (w.o P.old) i2)
  refine WM.nil MA<|atr 4 [8,0,32] J ?_
  have r6:aT bJ _ [aq] (⟨x9⟩:ao):=⟨aq,bK,J,J,bL⟩
  obtain⟨bM,bN,bP⟩:=Y.unfocus r6 (aT.knows _ _ _ _ r6)
  refine wlL [bM,ob v10,ob v11,ob y,D8,ob f,K,ob g] (smg [0,0,0] J (by simpa[gk,bH] using bP))<|kcb [3,0] h J J J J (fun b ap z q=>un N b M (x6.Levels.set (wz ((x6.Levels.length:Int) - 1)).toNat (⟨x9⟩:ao)) (af.rsl.x (Dj.app (ap.q 0 J) (Dj.sub (ap.o P.old) i1))) (ah.rsl.x (Dj.app (ap.q 1 J) (Dj.sub (ap.o P.old) i2))) (ai.x (Dj.sub (ap.o Q.old) i3)) (aj.x (Dj.sub (ap.o Q.old) i4)) (al.x (Dj.sub (Dj.app (ap.q 3 J) (ap.q 4 J)) i5)) (an.x (Dj.sub (ap.o Z.old) i6)) bN q) ?_
  rintro bQ h ca bR F8 ⟨aB,bl,bS,rfl,rfl,bT⟩
  replace u:=u.fr bl (aB.q 3 J) (aB.q 4 J)
  replace H:=H.fr bl (aB.q 5 J) (aB.q 2 J)
  refine art 6 [] J ?_
  have r7:bc bR _ [y] (⟨bQ⟩:aP):=⟨y,bS,J,J,bT⟩
  obtain⟨bU,bV,bW⟩:=H.unfocus r7 (bc.knows _ _ _ _ r7)
  refine wtL [bU,ob v10,ob v11,ob f,K,ob g] (smg [0,0,2] J (by simpa[gk,bH] using bW)) ?_
  exact lb [3,3,3,0] [2,2,2,2] (bD (_,_,_,_) ⟨h,u,bV⟩)
 refine xt J ?_
 refine WT.fin hF aA.none (fun B hw=>?_)
 cases h
 refine aW (js:=[0,0,0,0]) hw J ⟨K,D7,J,J,u,k2⟩
theorem j6 (w0:av d a []) (b:(List Int)) (c:(List Int)) (i:RSl (RI .i64) 1 d b6 n b) (p:RSl (RI .i64) 1 d b5 k c) {r:Bool} (h:cn N b c=some r) :
  CB w0 prog 76 [n,k] (.bool r):=by
 refine eN func76 J ntmps76 J w0 fun q=>?_
 unfold cn at h
 refine atr 8 [] J<|lnr i J<|la J<|lnr p J<|la J<|en ?_
 refine ch h J ?_ ?_ <;> intro h
 ·refine att 4 [] J ?_
  exact rt q h
 refine atr 5 [] J<|lnr i J<|art 3 [] J ?_
 refine lin (σ:=Int) (fun s=>[(0,n),(1,k),(12,iV (b.length:Int)),(13,iV s)]) (fun s=>St w0 a [] []) (fun m s=>cv N b c m s=some r) (0) N h (sx [] []) (fun v w s hm=>?_)
 revert hm;revert s;intro s1 hm
 have h:cv N b c (v+1) s1=some r:=hm
 show WT _ _ [(0,n),(1,k),(12,iV (b.length:Int)),(13,iV s1)] (St w0 a [] [])
 unfold cv at h
 refine att 5 [] J ?_
 refine ch h J ?_ ?_ <;> intro h
 ·refine att 9 [] J<|WT.draw mixed MA (fun _ h=>h.drew)<|aqq 2 [] J ?_
  obtain⟨x,t,h⟩:=bs h
  obtain⟨C,D,-,g1,E,F,y⟩:=i.el (aa t).2.2
  obtain⟨rfl,-⟩:=y
  refine qq (ae aY J J i t) J<|qq (az rd J (fun z hw=>(g1.of_eq 0 1 J J:rg _ _ _ [iV x]).rangeAt hw.in0)) J<|aqq 2 [] J ?_
  obtain⟨A,u,h⟩:=bs h
  obtain⟨G,H,-,g2,I,K,B⟩:=p.el (aa u).2.2
  obtain⟨rfl,-⟩:=B
  refine qq (ae aY J J p u) J<|qq (az rd J (fun z hw=>(g2.of_eq 0 1 J J:rg _ _ _ [iV A]).rangeAt hw.in0)) J<|aqt 2 [] J ?_
  refine ch h J ?_ ?_ <;> intro h
  ·refine att 4 [] J ?_
   exact rt q h
  refine att 6 [] J ?_
  exact lb [] [] (w _ h)
 refine att 5 [] J ?_
 exact rt q h
theorem vC (w0:av d a []) (b:ax) (c:ax) (t:RSl aX 3 d aE e b.Consts) (u:RSl (RI .i64) 1 d b7 ad b.At) (v:RSl aX 3 d b4 j c.Consts) (w:RSl (RI .i64) 1 d b8 a6 c.At) {r:Bool} (h:kL N b c=some r) :
  CB w0 prog 85 [.agg [.string b.Kind,iV b.N,e,ad].toArray,.agg [.string c.Kind,iV c.N,j,a6].toArray] (.bool r):=by
 refine eN func85 J ntmps85 J w0 fun x=>?_
 unfold kL at h
 refine sr<|lbx J fun q=>lbx J fun s=>arr 10 [0,32,0,0] J ?_
 obtain⟨y,p,h⟩:=bs h
 refine WL.cutN 6 [(16,.bool y),(2,pQ q),(3,pQ s),(4,.bool false)] ?_ (fun K=>?_)
 rotate_left
 ·refine sp 10 p J (fun p=>?_) fun p=>?_
  ·refine arr 6 [1,32,1,0] J ?_
   cases p
   exact ku K
  ·refine arr 6 [] J ?_
   cases p
   exact ku K
 refine la J ?_
 obtain⟨z,i,h⟩:=bs h
 refine WL.cutN 6 [(23,.bool z),(2,pQ q),(3,pQ s),(4,.bool false)] ?_ (fun K=>?_)
 rotate_left
 ·refine sp 17 i J (fun i=>?_) fun i=>?_
  ·refine arr 4 [2,32,2,0] J<|ly J J<|qd i (jT N · b.Consts c.Consts t v ·) J J J fun B i=>la J ?_
   cases i
   exact ku K
  ·refine arr 6 [] J ?_
   cases i
   exact ku K
 refine la J ?_
 obtain⟨A,m,h⟩:=bs h
 refine WL.cutN 6 [(30,.bool A),(4,.bool false)] ?_ (fun K=>?_)
 rotate_left
 ·refine sp 24 m J (fun m=>?_) fun m=>?_
  ·refine arr 4 [3,32,3,0] J<|ly J J<|qd m (j6 N · b.At c.At u w ·) J J J fun C m=>la J ?_
   cases m
   exact ku K
  ·refine arr 6 [] J ?_
   cases m
   exact ku K
 refine la J<|en ?_
 exact rt x h
theorem yz (w0:av d a []) (b:au) (x:RSl bV 5 d aE e b.Args) {r:ax} (h:nO N b=some r) :
  Calls prog 204 [.agg [.string b.Kind,e,.bool b.Not].toArray].toArray w0.w (be a w0.w [] (fun D Fs v=>∃ (y:Value) (z:Value),v = .agg [.string r.Kind,iV r.N,y,z].toArray∧Fs=[ob y,ob z]∧OSl aX 95 3 D [] y r.Consts∧OSl (RI .i64) 3 1 D [] z r.At)):=by
 refine eN func204 J ntmps204 J w0 fun O=>?_
 unfold nO at h
 refine sr<|lbx J fun ah=>lnz oZ J fun E=>arr 7 [0,32,1,32] J<|lnr x J<|lq (aU (vs:=[(0,.string b.Kind),(1,iV (b.Args.length:Int))]) (C:=#[.string b.Kind,iV (b.Args.length:Int),.slice none 0 0,.slice none 0 0]) GS oZ J (a7 (C':=[.string b.Kind,iV 0,.slice none 0 0,.slice none 0 0]) J J J J J (a7 (C':=[.string b.Kind,iV (b.Args.length:Int),.slice none 0 0,.slice none 0 0]) J J J J J (ab)))) J<|lnz oZ J fun F=>?_
 refine soN 0 ux J ⟨J,J,J,J,trivial⟩ J ?_
 refine arr 6 [1,64] J<|lnr x J<|art 3 [] J<|wtS ?_
 have P:=OSl.nil aX 95 3 a
 refine wtS ?_
 have Q:=OSl.nil (RI .i64) 3 1 a
 refine lin (σ:=Hp × (List bi) × Value × (List Int) × Value × Int) (fun s=>[(2,pQ E),(3,pQ F),(13,e),(14,iV (b.Args.length:Int)),(15,iV s.2.2.2.2.2)]) (fun s=>St w0 s.1 [(F,.cells #[.string b.Kind,iV (b.Args.length:Int),s.2.2.1,s.2.2.2.2.1] 137 (0,0)),(E,.cells #[.string (⟨#[]⟩:ByteArray),iV 0,.slice none 0 0,.slice none 0 0] 137 (0,0))] [ob s.2.2.2.2.1,ob s.2.2.1]) (fun m s=>fc N b m s.2.1 s.2.2.2.1 s.2.2.2.2.2=some r∧(OSl aX 95 3 s.1 [] s.2.2.1 s.2.1)∧(OSl (RI .i64) 3 1 s.1 [] s.2.2.2.2.1 s.2.2.2.1)) (a,([]:List bi),(.slice none 0 0),([]:List Int),(.slice none 0 0),0) N ⟨h,P,Q⟩ (sx [0,0] [0,0]) (fun n1 G s hm=>?_)
 obtain⟨R,s1,H,s2,A,t⟩:=s
 obtain⟨h,u,q⟩:=hm
 dsimp only at h u q ⊢
 unfold fc at h
 refine att 5 [] J ?_
 refine ch h J ?_ ?_ <;> intro h
 ·refine atr 6 [] J ?_
  obtain⟨p,I,h⟩:=bs h
  obtain⟨ai,F1,-,g1,aj,ak,S⟩:=x.el (aa I).2.2
  obtain⟨rfl,-⟩:=S
  refine lia x I J<|lhx 0 5 g1 J<|lnz fS J fun al=>la J<|soN 0 gL J ⟨J,J,J,J,J,trivial⟩ J ?_
  refine art 7 [0,0] J ?_
  refine ch h J ?_ ?_ <;> intro h
  ·refine atr 6 [2,32,2,3] J ?_
   have T:RC aX 3 R ([[]]:List (List Nat)) [iV p.V.K,iV p.V.N,.string p.V.S] ([p.V]:List bi):=RC.cons (c:=[iV p.V.K,iV p.V.N,.string p.V.S]) (cells:=[]) ⟨J,J⟩ J (RC.nil _ _ _)
   refine le' (aQ (vs:=[(0,.agg [iV p.V.K,iV p.V.N,.string p.V.S].toArray)]) (C:=#[iV p.V.K,iV p.V.N,.string p.V.S]) aX.lasts iB jF J J J J (ac AV (a7 (C':=[iV p.V.K,iV p.V.N,.string p.V.S]) J J J J J (ab))) J T J (by simpa using Kw.nil)) J ?_
   rintro v1 U D1 ⟨K,h1⟩
   replace h1:OSl aX 95 3 U [] v1 ([p.V]:List bi):=by simpa using h1
   replace u:=u.f0 K
   replace q:=q.f0 K
   obtain⟨x2,V,h⟩:=bs h
   refine le' (bg aX.lasts aX.one aX.flat iB C8 J J J J J (js:=[2]) (Rr:=[ob v1,ob A]) J u h1.rsl V) J ?_
   rintro v2 W D2 ⟨⟨X,Y⟩,w⟩
   replace q:=q.fr Y (X.q 1 J) dN
   refine lf Fe J J J<|so1 1 E7 J w.one ?_
   refine arr 5 [3,32] J ?_
   have Z:RC (RI .i64) 1 W ([[]]:List (List Nat)) [iV t] ([t]:List Int):=RC.cons (c:=[iV t]) (cells:=[]) ⟨J,J⟩ J (RC.nil _ _ _)
   refine le' (aQ (vs:=[(0,iV t)]) (C:=#[iV t]) RI.lasts aY gF J J J J (ac ij (a7 (C':=[iV t]) J J J J J (ab))) J Z J (by simpa using Kw.nil)) J ?_
   rintro v3 a8 D3 ⟨L,B⟩
   replace B:OSl (RI .i64) 3 1 a8 [] v3 ([t]:List Int):=by simpa using B
   replace w:=w.f0 L
   replace q:=q.f0 L
   obtain⟨x3,ae,h⟩:=bs h
   refine le' (bg RI.lasts RI.one RI.flat aY jH J J J J J (js:=[3]) (Rr:=[ob v3,ob v2,ob v1]) J q B.rsl ae) J ?_
   rintro v4 an D4 ⟨⟨af,ag⟩,M⟩
   replace w:=w.fr ag (af.q 1 J) dN
   refine lf zM J J J<|so1 1 qU J M.one ?_
   refine art 6 [] J ?_
   exact lb [0,1] [1,1] (G (_,_,_,_,_,_) ⟨h,w,M⟩)
  refine att 6 [] J ?_
  exact lb [0,0] [1,1] (G (_,_,_,_,_,_) ⟨h,u,q⟩)
 refine atr 4 [4] J<|soN 1 ux J ⟨J,J,u.one,q.one,trivial⟩ J ?_
 refine en ?_
 exact rtg [1,0] O (aA.one (aZ uh J (fun w1 hw=>hw.rgO (i:=1) J 0 4 [.string b.Kind,iV (b.Args.length:Int),H,A] J) J)) J (by cases h;exact fun w1 hw=>⟨H,A,rfl,rfl,u,q⟩)
theorem uf (w0:av d a [[l],ob e,o].flatten) (w:bO) (B:au) (u:OSl cP 137 4 a o e w.Alphas) (ay:RSl fC 2 d b7 ad w.Chains) (t:a l=some (.cells #[e,ad] 47 (0,0))) (ai:RSl bV 5 d b4 j B.Args) {r:Int × bO} (h:jh N w B=some r) :
  Calls prog 149 [pQ l,.agg [.string B.Kind,j,.bool B.Not].toArray].toArray w0.w (be a w0.w [[l],ob e,o].flatten (fun Q Fs v=>∃ (H:Value) (S:List Nat),v=iV r.1∧Fs=[[l],ob H,S]∧OSl cP 137 4 Q S H r.2.Alphas∧r.2.Chains=w.Chains∧Q l=some (.cells #[H,ad] 47 (0,0)))):=by
 refine eL func149 J ntmps149 J (L:=[[l],ob e,o]) w0 (fun T=>?_)
 unfold jh at h
 refine sr<|lbx J fun aB=>arr 5 [3] J<|kab h J J J (fun b z q=>yz N b B (ai.y z) q) ?_
 rintro p h v1 E F1 ⟨I,U,v2,v3,rfl,rfl,h1,K⟩
 replace u:=u.fr U (I.q 1 J) (I.q 2 J)
 replace t:=U _ _ ((I.q 0 J) _ MC) t
 refine lnz oZ J fun x=>soN 0 ux J ⟨J,J,h1.one,K.one,trivial⟩ J ?_
 refine arr 5 [] J<|lq (aG J) J<|lf oK J J J<|lgx 0 0 (bZ t) J<|lno u J<|art 3 [] J ?_
 refine lin (σ:=Int) (fun s=>[(0,pQ l),(5,pQ x),(13,e),(14,iV (w.Alphas.length:Int)),(15,iV s)]) (fun s=>St w0 E [(x,.cells #[.string p.Kind,iV p.N,v2,v3] 137 (0,0))] [ob v2,ob v3,[l],ob e,o]) (fun m s=>cX N w p m s=some r) (0) N h (sx [0,0,0,0,0] [0]) (fun n1 aj s hm=>?_)
 revert hm;revert s;intro s1 hm
 have h:cX N w p (n1+1) s1=some r:=hm
 show WT _ _ [(0,pQ l),(5,pQ x),(13,e),(14,iV (w.Alphas.length:Int)),(15,iV s1)] (St w0 E [(x,.cells #[.string p.Kind,iV p.N,v2,v3] 137 (0,0))] [ob v2,ob v3,[l],ob e,o])
 unfold cX at h
 refine att 5 [] J ?_
 refine ch h J ?_ ?_ <;> intro h
 ·refine atr 6 [] J ?_
  obtain⟨x2,V,h⟩:=bs h
  obtain⟨aD,F2,-,g1,aF,aH,r1⟩:=u.elS (aa V).2.2
  obtain⟨v4,v5,rfl,rfl,h3,h4⟩:=r1
  have W:=h3.rsl
  have X:=h4.rsl
  refine lio u V J<|lgx 0 4 g1 J<|lnz oZ J fun aI=>la J<|soN 0 ux J ⟨J,J,W.one,X.one,trivial⟩ J ?_
  refine arr 5 [4,36] J<|qc h (vC N · x2 p W X h1.rsl K.rsl ·) J J J fun x3 h=>en ?_
  refine ch h J ?_ ?_ <;> intro h
  ·refine att 5 [] J ?_
   exact rtg [2,2,2] T (aA.one J) J (by cases h;exact fun y hw=>⟨e,o,rfl,rfl,u,rfl,t⟩)
  refine att 6 [] J ?_
  exact lb [0,0,0,0,0] [1] (aj _ h)
 refine xt J<|sq<|WT.mix (Kn w0 E [l] [(x,.cells #[.string p.Kind,iV p.N,v2,v3] 137 (0,0))]) (fun i=>match i with | 10=>false | _=>true) mixed (fun _ h=>h.drew)<|ma 0 J MA (kn Kf.id (am [0] J)) J<|ma 1 J MA (kn Kf.id (am [0] J)) J<|mq 2 J MA (kn Kf.id (am [0] J)) (aG J) J<|mq 3 J MA (kn Kf.id (am [0] J)) (ak oK J) J ?_
 refine mq 4 J MA (kn Kf.id (am [0] J)) (az Gh J (fun y hw=>hw.rg MC ((bZ t).of_eq 0 1 J J:rg _ _ _ [e]))) J<|mq 5 J MA (kn Kf.id (am [0] J)) (aC uh J (fun y hw=>hw.rgO (i:=0) J 0 4 [.string p.Kind,iV p.N,v2,v3] J) J) J ?_
 have Y:RC cP 4 E ([(ob v2++[])++((ob v3++[]))]:List (List Nat)) [.string p.Kind,iV p.N,v2,v3] ([p]:List ax):=RC.cons (c:=[.string p.Kind,iV p.N,v2,v3]) (cells:=[]) ⟨v2,v3,J,J,h1,K⟩ J (RC.nil _ _ _)
 refine WM.one 6 MA (me J (fun _ v al D y G hw=>Kn.of (Kf.id.se G.1) (am [0] J) hw) (aQ (vs:=[(0,.agg [.string p.Kind,iV p.N,v2,v3].toArray)]) (C:=#[.string p.Kind,iV p.N,v2,v3]) cP.lasts zU oZ J J J J (ac BJ (a7 (C':=[.string p.Kind,iV p.N,v2,v3]) J J J J J (ab))) J Y J (RC.kn cP.knows Y)) J ?_)
 rintro v6 Z D1 ⟨M,O⟩
 replace O:OSl cP 137 4 Z ((ob v2++[])++((ob v3++[]))) v6 ([p]:List ax):=by simpa[gk] using O
 replace u:=u.f0 M
 replace t:=M _ _ MC t
 refine WM.conv (S':=St w0 Z [(x,.cells #[.string p.Kind,iV p.N,v2,v3] 137 (0,0))] [((ob v2++[])++((ob v3++[]))),ob v6,[l],ob e,o]) (fun y hw=>hw.merge (js:=[1,1]) J (SP.eq (by simp[gk,bH]))) ?_
 obtain⟨x4,an,h⟩:=bs h
 have a8:=(Kf.id (F:=[l]):Kf E _ _).se M
 refine WM.one 7 MA (me J (fun _ v al D y G hw=>Kn.of (a8.st G.1.2 (G.1.1.r (i:=2) J)) (am [0] J) hw) (cq cP.lasts cP.one zU H8 J J J J J (js:=[3]) (Rr:=[((ob v2++[])++((ob v3++[]))),ob v6,[l],o]) J u O (fun ap=>ap.q 3 J) (fun ap=>ap.q 0 J) an) J ?_)
 rintro P ao D2 ⟨⟨ae,af⟩,A⟩
 replace t:=af _ _ ((ae.q 2 J) _ MC) t
 refine WM.conv (S':=St w0 ao [(x,.cells #[.string p.Kind,iV p.N,v2,v3] 137 (0,0))] [(o++((ob v2++[])++((ob v3++[])))),ob P,ob v6,[l]]) (fun y hw=>hw.merge (js:=[4,1]) J (SP.eq MC)) ?_
 have ag:=a8.st af (ae.q 2 J)
 refine mqT 8 [9,10] J MA (kn ag (am [0] J)) (aG J) J<|mq 9 J MA (kn ag (am [0] J)) (ak oK J) J ?_
 refine WM.thw (js:=[3]) (R:=[(o++((ob v2++[])++((ob v3++[])))),ob P,ob v6]) J t (fun aJ ah aq=>?_)
 replace A:=A.fr aq (ah.q 1 J) (ah.q 0 J)
 refine on1 10 (ms1 0 J nk J5 J A.one ?_)
 refine WM.nil MA<|sr<|la J<|lq (aG J) J<|arr 2 [0,0] J<|lno A J<|art 3 [] J ?_
 refine WT.frz (js:=[0]) (R:=[(x,.cells #[.string p.Kind,iV p.N,v2,v3] 137 (0,0))]) J (fun aK aw k1=>?_)
 replace A:=A.f0 aw
 exact rtg [0,1,0] T (aA.one J) J (by cases h;exact fun y hw=>⟨P,(o++((ob v2++[])++((ob v3++[])))),J,J,A,J,k1⟩)
theorem An (w0:av d a []) (G:bo) (af:RSl cr 5 d aE e G.Rules) {r:bO} (h:rk N G=some r) :
  Calls prog 83 [.agg [.string G.Name,e].toArray].toArray w0.w (be a w0.w [] (fun an Fs v=>∃ (ag:Value) (ao:List Nat) (ah:Value) (aq:List Nat),v = .agg [ag,ah].toArray∧Fs=[ob ag,ao,ob ah,aq]∧OSl cP 137 4 an ao ag r.Alphas∧OSl bC 141 2 an aq ah r.Chains)):=by
 refine eN func83 J ntmps83 J w0 fun hF=>?_
 unfold rk at h
 refine sr<|lbx J fun aW=>lnz tH J fun O=>en<|sr<|lnz tH J fun H=>arr 6 [1,64] J<|lnr af J<|art 3 [] J<|wtS<|wt0 ?_
 have k1:=OSl.nil cP 137 4 a
 refine wtS<|wt0 ?_
 have k2:=OSl.nil bC 141 2 a
 refine lin (σ:=Hp × (List ax) × Value × List Nat × (List aR) × Value × List Nat × Int) (fun s=>[(2,pQ O),(3,pQ H),(11,e),(12,iV (G.Rules.length:Int)),(13,iV s.2.2.2.2.2.2.2)]) (fun s=>St w0 s.1 [(H,.cells #[s.2.2.1,s.2.2.2.2.2.1] 47 (0,0)),(O,.cells #[.slice none 0 0,.slice none 0 0] 47 (0,0))] [s.2.2.2.2.2.2.1,ob s.2.2.2.2.2.1,s.2.2.2.1,ob s.2.2.1]) (fun m s=>eZ N G m s.2.1 s.2.2.2.2.1 s.2.2.2.2.2.2.2=some r∧(OSl cP 137 4 s.1 s.2.2.2.1 s.2.2.1 s.2.1)∧(OSl bC 141 2 s.1 s.2.2.2.2.2.2.1 s.2.2.2.2.2.1 s.2.2.2.2.1)) (a,([]:List ax),(.slice none 0 0),[],([]:List aR),(.slice none 0 0),[],0) N ⟨h,k1,k2⟩ (sx [0,0,0,0] [0,0]) (fun n1 aG s hm=>?_)
 obtain⟨ai,s1,u1,D1,s2,B,D,s3⟩:=s
 obtain⟨h,S,p⟩:=hm
 dsimp only at h S p ⊢
 unfold eZ at h
 refine att 5 [] J ?_
 refine ch h J ?_ ?_ <;> intro h
 ·refine atr 5 [] J ?_
  obtain⟨x1,au,h⟩:=bs h
  obtain⟨aX,F1,-,g1,b1,b2,r1⟩:=af.el (aa au).2.2
  obtain⟨v1,G1,v2,G2,v3,G3,rfl,rfl,h1,h2,h3⟩:=r1
  refine lia af au J<|lhx 0 5 g1 J<|lnz sU J fun b3=>soN 0 tZ J ⟨J,J,h1.one,h2.one,h3.one,trivial⟩ J ?_
  refine en<|sr<|lnz vN J fun aj=>arr 6 [2,32] J<|lnr h1 J<|art 3 [] J<|wtS ?_
  have k5:=OSl.nil (RI .i64) 3 1 ai
  refine wtS ?_
  have k6:=OSl.nil (RI .i64) 3 1 ai
  refine lin (σ:=Hp × (List ax) × Value × List Nat × (List Int) × Value × (List Int) × Value × Int) (fun s=>[(2,pQ O),(3,pQ H),(6,pQ aj),(11,e),(12,iV (G.Rules.length:Int)),(13,iV s3),(18,v1),(19,iV (x1.Pats.length:Int)),(20,iV s.2.2.2.2.2.2.2.2)]) (fun s=>St w0 s.1 [(aj,.cells #[s.2.2.2.2.2.2.2.1,s.2.2.2.2.2.1] 141 (0,0)),(H,.cells #[s.2.2.1,B] 47 (0,0)),(O,.cells #[.slice none 0 0,.slice none 0 0] 47 (0,0))] [ob s.2.2.2.2.2.2.2.1,ob s.2.2.2.2.2.1,D,ob B,s.2.2.2.1,ob s.2.2.1]) (fun m s=>fT N s2 s3 (eZ N G n1) x1 m s.2.1 s.2.2.2.2.1 s.2.2.2.2.2.2.1 s.2.2.2.2.2.2.2.2=some r∧(OSl cP 137 4 s.1 s.2.2.2.1 s.2.2.1 s.2.1)∧(OSl bC 141 2 s.1 D B s2)∧(OSl (RI .i64) 3 1 s.1 [] s.2.2.2.2.2.1 s.2.2.2.2.1)∧(OSl (RI .i64) 3 1 s.1 [] s.2.2.2.2.2.2.2.1 s.2.2.2.2.2.2.1)) (ai,s1,u1,D1,([]:List Int),(.slice none 0 0),([]:List Int),(.slice none 0 0),0) N ⟨h,S,p,k5,k6⟩ (sx [0,0,0,0,0,0] [0,1,1]) (fun n2 aw s hm=>?_)
  obtain⟨aH,s4,u3,D3,s5,w,s6,x,s7⟩:=s
  obtain⟨h,F,p,t,u⟩:=hm
  dsimp only at h F p t u ⊢
  unfold fT at h
  refine att 5 [] J ?_
  refine ch h J ?_ ?_ <;> intro h
  ·refine atr 5 [] J ?_
   obtain⟨x2,ay,h⟩:=bs h
   obtain⟨b9,F2,-,g2,ba,bb,r2⟩:=h1.el (aa ay).2.2
   obtain⟨v4,G4,rfl,aI,h4⟩:=r2
   obtain rfl:=aI.symm
   refine lia h1 ay J<|lhx 0 3 g2 J<|lnz jB J fun aJ=>soN 0 o1 J ⟨J,h4.one,J,trivial⟩ J ?_
   refine arr 4 [3] J ?_
   refine WL.frz (js:=[2]) (R:=[(aJ,.cells #[.string x2.Kind,v4,.bool x2.Not] 201 (0,0)),(aj,.cells #[x,w] 141 (0,0)),(O,.cells #[.slice none 0 0,.slice none 0 0] 47 (0,0))]) J (fun bc T aK=>?_)
   replace F:=F.f0 T
   replace p:=p.f0 T
   replace t:=t.f0 T
   replace u:=u.f0 T
   refine kcb [0,5,4] h J J J J (fun b ap z q=>uf N b (⟨s4,s2⟩:bO) x2 F ((p.rslG bC.gives).x (Dj.app (ap.q 3 J) (ap.q 2 J))) aK (h4.y z) q) ?_
   rintro y h v5 az F3 ⟨U,ak,v6,V,rfl,rfl,A,e1,E⟩
   replace p:=p.fr ak (U.q 3 J) (U.q 2 J)
   replace t:=t.fr ak (U.q 1 J) dN
   replace u:=u.fr ak (U.q 0 J) dN
   refine art 7 [2,0] J ?_
   refine ch h J ?_ ?_ <;> intro h
   ·refine atr 4 [1,32] J ?_
    have aL:RC (RI .i64) 1 az ([[]]:List (List Nat)) [iV y.1] ([y.1]:List Int):=RC.cons (c:=[iV y.1]) (cells:=[]) ⟨J,J⟩ J (RC.nil _ _ _)
    refine le' (aQ (vs:=[(0,iV y.1)]) (C:=#[iV y.1]) RI.lasts aY gF J J J J (ac ij (a7 (C':=[iV y.1]) J J J J J (ab))) J aL J (by simpa using Kw.nil)) J ?_
    rintro v7 aM D5 ⟨P,h7⟩
    replace h7:OSl (RI .i64) 3 1 aM [] v7 ([y.1]:List Int):=by simpa using h7
    replace p:=p.f0 P
    replace t:=t.f0 P
    replace u:=u.f0 P
    replace A:=A.f0 P
    replace E:=P _ _ MC E
    obtain⟨x4,aN,h⟩:=bs h
    refine le' (bg RI.lasts RI.one RI.flat aY jH J J J J J (js:=[5]) (Rr:=[ob v7,[H],ob v6,V,ob x,D,ob B]) J t h7.rsl aN) J ?_
    rintro v8 bd D6 ⟨⟨I,W⟩,X⟩
    replace p:=p.fr W (I.q 6 J) (I.q 5 J)
    replace u:=u.fr W (I.q 4 J) dN
    replace A:=A.fr W (I.q 2 J) (I.q 3 J)
    replace E:=W _ _ ((I.q 1 J) _ MC) E
    refine lf vz J J J<|so1 1 qU J X.one ?_
    refine art 6 [] J ?_
    refine WT.thw (js:=[2]) (R:=[ob v8,ob v7,ob v6,V,ob x,D,ob B]) J E (fun bf K Y=>?_)
    replace p:=p.fr Y (K.q 6 J) (K.q 5 J)
    replace X:=X.fr Y (K.q 0 J) dN
    replace u:=u.fr Y (K.q 4 J) dN
    replace A:=A.fr Y (K.q 2 J) (K.q 3 J)
    exact lb [4,0,3,3,2,1] [2,0,1] (aw (_,_,_,_,_,_,_,_,_) ⟨h,A,p,X,u⟩)
   refine atr 4 [0,32] J ?_
   have aO:RC (RI .i64) 1 az ([[]]:List (List Nat)) [iV y.1] ([y.1]:List Int):=RC.cons (c:=[iV y.1]) (cells:=[]) ⟨J,J⟩ J (RC.nil _ _ _)
   refine le' (aQ (vs:=[(0,iV y.1)]) (C:=#[iV y.1]) RI.lasts aY gF J J J J (ac ij (a7 (C':=[iV y.1]) J J J J J (ab))) J aO J (by simpa using Kw.nil)) J ?_
   rintro v9 aP D7 ⟨Q,h9⟩
   replace h9:OSl (RI .i64) 3 1 aP [] v9 ([y.1]:List Int):=by simpa using h9
   replace p:=p.f0 Q
   replace t:=t.f0 Q
   replace u:=u.f0 Q
   replace A:=A.f0 Q
   replace E:=Q _ _ MC E
   obtain⟨x5,aS,h⟩:=bs h
   refine le' (bg RI.lasts RI.one RI.flat aY jH J J J J J (js:=[4]) (Rr:=[ob v9,[H],ob v6,V,ob w,D,ob B]) J u h9.rsl aS) J ?_
   rintro v10 bh D8 ⟨⟨L,Z⟩,a8⟩
   replace p:=p.fr Z (L.q 6 J) (L.q 5 J)
   replace t:=t.fr Z (L.q 4 J) dN
   replace A:=A.fr Z (L.q 2 J) (L.q 3 J)
   replace E:=Z _ _ ((L.q 1 J) _ MC) E
   refine lf tt J J J<|so1 1 qU J a8.one ?_
   refine art 6 [] J ?_
   refine WT.thw (js:=[2]) (R:=[ob v10,ob v9,ob v6,V,ob w,D,ob B]) J E (fun bj M ae=>?_)
   replace p:=p.fr ae (M.q 6 J) (M.q 5 J)
   replace t:=t.fr ae (M.q 4 J) dN
   replace a8:=a8.fr ae (M.q 0 J) dN
   replace A:=A.fr ae (M.q 2 J) (M.q 3 J)
   exact lb [0,3,3,3,2,1] [2,0,1] (aw (_,_,_,_,_,_,_,_,_) ⟨h,A,p,t,a8⟩)
  refine atr 5 [1,32,2] J ?_
  have aB:RC bC 2 aH ([(ob x++[])++((ob w++[]))]:List (List Nat)) [x,w] ([(⟨s6,s5⟩:aR)]:List aR):=RC.cons (c:=[x,w]) (cells:=[]) ⟨x,w,J,J,u,t⟩ J (RC.nil _ _ _)
  refine le' (aQ (vs:=[(0,.agg [x,w].toArray)]) (C:=#[x,w]) bC.lasts A4 vN J J J J (ac BX (a7 (C':=[x,w]) J J J J J (ab))) J aB J (RC.kn bC.knows aB)) J ?_
  rintro v11 aT D9 ⟨aC,al⟩
  replace al:OSl bC 141 2 aT ((ob x++[])++((ob w++[]))) v11 ([(⟨s6,s5⟩:aR)]:List aR):=by simpa[gk] using al
  replace F:=F.f0 aC
  replace p:=p.f0 aC
  refine wlL [((ob x++[])++((ob w++[]))),ob v11,D,ob B,D3,ob u3] (smg [1,1] J (SP.eq (by simp[gk,bH]))) ?_
  obtain⟨x6,aU,h⟩:=bs h
  refine le' (cq bC.lasts bC.one A4 FY J J J J J (js:=[3]) (Rr:=[((ob x++[])++((ob w++[]))),ob v11,D,D3,ob u3]) J p al (fun ap=>ap.q 2 J) (fun ap=>ap.q 0 J) aU) J ?_
  rintro v12 bk bl ⟨⟨aD,aV⟩,aF⟩
  replace F:=F.fr aV (aD.q 4 J) (aD.q 3 J)
  refine wlL [(D++((ob x++[])++((ob w++[])))),ob v12,ob v11,D3,ob u3] (smg [3,1] J (SP.eq MC))<|lf Cd J J J<|so1 1 Jf J aF.one ?_
  refine art 6 [] J ?_
  exact lb [0,0,1,1] [1,1] (aG (_,_,_,_,_,_,_,_) ⟨h,F,aF⟩)
 refine atr 4 [2] J<|soN 1 wi J ⟨S.one,p.one,trivial⟩ J ?_
 refine en ?_
 exact rtg [3,2,1,0] hF (aA.one (aZ FQ J (fun w1 hw=>hw.rgO (i:=1) J 0 2 [u1,B] J) J)) J (by cases h;exact fun w1 hw=>⟨u1,D1,B,D,rfl,rfl,S,p⟩)
theorem zi (w0:av d a []) (t:bO) (a8:RSl cz 4 d aE e t.Alphas) (y:RSl fC 2 d b7 ad t.Chains) {r:aI} (h:pJ N t=some r) :
  Calls prog 100 [.agg [e,ad].toArray].toArray w0.w (be a w0.w [] (fun F Fs v=>∃ (z:Value) (G:List Nat) (A:Value) (H:List Nat),v = .agg [z,A].toArray∧Fs=[ob z,G,ob A,H]∧OSl bk 133 1 F G z r.Alphas∧OSl bc 100 1 F H A r.Rules)):=by
 refine eN func100 J ntmps100 J w0 fun hF=>?_
 unfold pJ at h
 refine sr<|lbx J fun aj=>lnz lJ J fun u=>arr 5 [0,32] J<|lnr a8 J ?_
 obtain⟨I,K,h⟩:=bs h
 refine le' (CJ (R:=bk) oc uw JG J J J (fun _=>⟨.slice none 0 0,J,J,OSl.nil _ _ _ _⟩) J J (Int.le_refl _) K (Hg K)) J ?_
 rintro v1 L D1 ⟨ak,h1⟩
 refine wl0<|lq (aU (vs:=[(0,v1)]) (C:=#[v1,.slice none 0 0]) Gv lJ J (a7 (C':=[v1,.slice none 0 0]) J (bh h1.one) J J J (ab))) J<|lnz lJ J fun w=>soN 0 mj J ⟨h1.one,J,trivial⟩ J ?_
 refine arr 6 [1,64] J<|lnr y J<|art 3 [] J<|wtS<|wt0 ?_
 have k1:=OSl.nil bc 100 1 L
 refine lin (σ:=Hp × (List aP) × Value × List Nat × Int) (fun s=>[(2,pQ u),(3,pQ w),(12,ad),(13,iV (t.Chains.length:Int)),(14,iV s.2.2.2.2)]) (fun s=>St w0 s.1 [(w,.cells #[v1,s.2.2.1] 35 (0,0)),(u,.cells #[.slice none 0 0,.slice none 0 0] 35 (0,0))] [s.2.2.2.1,ob s.2.2.1,[],ob v1]) (fun m s=>ic N t I m s.2.1 s.2.2.2.2=some r∧(OSl bk 133 1 s.1 [] v1 I)∧(OSl bc 100 1 s.1 s.2.2.2.1 s.2.2.1 s.2.1)) (L,([]:List aP),(.slice none 0 0),[],0) N ⟨h,h1,k1⟩ (sx [0,0,0,0] [0,0]) (fun n1 ae s hm=>?_)
 obtain⟨al,s1,p,x,s2⟩:=s
 obtain⟨h,h1,b⟩:=hm
 dsimp only at h h1 b ⊢
 unfold ic at h
 refine att 5 [] J ?_
 refine ch h J ?_ ?_ <;> intro h
 ·refine atr 5 [] J ?_
  obtain⟨x2,M,h⟩:=bs h
  obtain⟨an,F1,-,g1,ao,aq,r1⟩:=y.el (aa M).2.2
  obtain⟨v2,G1,v3,G2,rfl,rfl,O,h3⟩:=r1
  refine lia y M J<|lhx 0 2 g1 J<|lnz vN J fun B=>soN 0 Hl J ⟨O.one,h3.one,trivial⟩ J ?_
  refine en<|wm [0,1,2] [10] J<|amm 4 [0,1,1,32,2,0,3,0] [0,1,2] J J<|mq 4 J MA (kN [0,1,2]) (mF aY J J O) J ?_
  obtain⟨P,Q,h⟩:=bs h
  refine WM.one 5 MA (me J (fun _ v S D q T hw=>Kn.of Kf.nil (ai3 0 1 2 J J J) hw) (CJ (R:=aT) o8 ut Ke J J J (fun _=>⟨.slice none 0 0,[],J,J,OSl.nil _ _ _ _⟩) J J (Int.le_refl _) Q (Hg Q)) J ?_)
  rintro v4 U D3 ⟨V,W⟩
  replace h1:=h1.f0 V
  replace b:=b.f0 V
  refine WM.conv (S':=St w0 U [(B,.cells #[v2,v3] 141 (0,0)),(w,.cells #[v1,p] 35 (0,0)),(u,.cells #[.slice none 0 0,.slice none 0 0] 35 (0,0))] ([] :: [ob v4,x,ob p,[],ob v1])) (fun q hw=>hw.addNil)<|mq 6 J MA (kN [0,1,2]) (aU (vs:=[(0,v4)]) (C:=#[v4]) AI mO J (a7 (C':=[v4]) J (bh W.one) J J J (ab))) J ?_
  have X:RC bc 1 U ([(ob v4++[])]:List (List Nat)) [v4] ([(⟨P⟩:aP)]:List aP):=RC.cons (c:=[v4]) (cells:=[]) ⟨v4,[],J,J,W⟩ J (RC.nil _ _ _)
  refine WM.one 7 MA (me J (fun _ v S D q T hw=>Kn.of Kf.nil (ai3 0 1 2 J J J) hw) (aQ (vs:=[(0,.agg [v4].toArray)]) (C:=#[v4]) bc.lasts qJ mO J J J J (ac ve (a7 (C':=[v4]) J J J J J (ab))) J X J (RC.kn bc.knows X)) J ?_)
  rintro v5 Y D4 ⟨Z,E⟩
  replace E:OSl bc 100 1 Y ((ob v4++[])) v5 ([(⟨P⟩:aP)]:List aP):=by simpa[gk] using E
  replace h1:=h1.f0 Z
  replace b:=b.f0 Z
  refine WM.conv (S':=St w0 Y [(B,.cells #[v2,v3] 141 (0,0)),(w,.cells #[v1,p] 35 (0,0)),(u,.cells #[.slice none 0 0,.slice none 0 0] 35 (0,0))] [((ob v4++[])),ob v5,x,ob p,[],ob v1]) (fun q hw=>hw.merge (js:=[2,1]) J (SP.eq (by simp[gk,bH]))) ?_
  obtain⟨x4,af,h⟩:=bs h
  refine WM.one 8 MA (me J (fun _ v S D q T hw=>Kn.of Kf.nil (ai3 0 1 2 J J J) hw) (cq bc.lasts bc.one qJ Ai J J J J J (js:=[3]) (Rr:=[((ob v4++[])),ob v5,x,[],ob v1]) J b E (fun ap=>ap.q 2 J) (fun ap=>ap.q 0 J) af) J ?_)
  rintro v6 ag D5 ⟨⟨ah,ai⟩,h6⟩
  replace h1:=h1.fr ai (ah.q 4 J) dN
  refine WM.conv (S':=St w0 ag [(B,.cells #[v2,v3] 141 (0,0)),(w,.cells #[v1,p] 35 (0,0)),(u,.cells #[.slice none 0 0,.slice none 0 0] 35 (0,0))] [(x++((ob v4++[]))),ob v6,ob v5,[],ob v1]) (fun q hw=>hw.merge (js:=[3,1]) J (SP.eq MC))<|amm 1 [9,1] [0,1,2] J J ?_
  refine on1 10 (ms1 1 J nk Ea J h6.one ?_)
  refine WM.nil MA<|att 5 [] J ?_
  exact lb [0,0,1,1] [1,1] (ae (_,_,_,_,_) ⟨h,h1,h6⟩)
 refine atr 4 [2] J<|soN 1 mj J ⟨h1.one,b.one,trivial⟩ J ?_
 refine en ?_
 exact rtg [3,2,1,0] hF (aA.one (aZ vr J (fun q hw=>hw.rgO (i:=1) J 0 2 [v1,p] J) J)) J (by cases h;exact fun q hw=>⟨v1,[],p,x,rfl,rfl,h1,b⟩)
theorem AE (w0:av d a []) (t:bo) (p:ag) (I:RSl cr 5 d aE e t.Rules) (u:RSl bj 3 d b4 j p.Items) {r:aI} (h:tj N t p=some r) :
  Calls prog 42 [.agg [.string t.Name,e].toArray,.agg [j,iV p.Next].toArray].toArray w0.w (be a w0.w [] (fun K Fs v=>∃ (E:Value) (L:List Nat) (F:Value) (M:List Nat),v = .agg [E,F].toArray∧Fs=[ob E,L,ob F,M]∧OSl bk 133 1 K L E r.Alphas∧OSl bc 100 1 K M F r.Rules)):=by
 refine eN func42 J ntmps42 J w0 fun hF=>?_
 unfold tj at h
 refine sr<|lbx J fun O=>lbx J fun P=>lnz lJ J fun Q=>arr 4 [66] J<|kab h J J J (fun b z q=>An N b t (I.y z) q) ?_
 rintro w h v1 aj F1 ⟨ak,al,v2,G,v3,H,rfl,rfl,h1,c⟩
 refine lnz tH J fun S=>soN 0 wi J ⟨h1.one,c.one,trivial⟩ J ?_
 refine arr 4 [2] J<|kab h J J J (fun b z q=>zi N b w (h1.rslG cP.gives) (c.rslG bC.gives) q) ?_
 rintro T h v4 ae F2 ⟨x,U,v5,D3,v6,D4,rfl,rfl,V,W⟩
 replace h1:=h1.fr U (x.q 0 J) (x.q 1 J)
 replace c:=c.fr U (x.q 2 J) (x.q 3 J)
 refine lnz lJ J fun X=>soN 0 mj J ⟨V.one,W.one,trivial⟩ J ?_
 refine arr 6 [0,96] J<|lnr u J<|art 3 [] J ?_
 refine lin (σ:=Hp × (List bm) × List Nat × (List aP) × List Nat × Int) (fun s=>[(2,pQ O),(3,pQ P),(4,pQ Q),(5,pQ S),(6,pQ X),(14,j),(15,iV (p.Items.length:Int)),(16,iV s.2.2.2.2.2)]) (fun s=>St w0 s.1 [(X,.cells #[v5,v6] 35 (0,0)),(S,.cells #[v2,v3] 47 (0,0)),(Q,.cells #[.slice none 0 0,.slice none 0 0] 35 (0,0)),(P,.cells #[j,iV p.Next] 29 (0,0)),(O,.cells #[.string t.Name,e] 26 (0,0))] [ob v5,s.2.2.1,ob v6,s.2.2.2.2.1,ob v2,G,ob v3,H]) (fun m s=>gZ N t p w m s.2.1 s.2.2.2.1 s.2.2.2.2.2=some r∧(OSl cP 137 4 s.1 G v2 w.Alphas)∧(OSl bC 141 2 s.1 H v3 w.Chains)∧(OSl bk 133 1 s.1 s.2.2.1 v5 s.2.1)∧(OSl bc 100 1 s.1 s.2.2.2.2.1 v6 s.2.2.2.1)) (ae,T.Alphas,D3,T.Rules,D4,0) N ⟨h,h1,c,V,W⟩ (sx [0,0,0,0,0,0,0,0] [0,0,0,0,0]) (fun n1 af s hm=>?_)
 obtain⟨an,s1,D5,s2,D6,y⟩:=s
 obtain⟨h,h1,c,A,B⟩:=hm
 dsimp only at h h1 c A B ⊢
 unfold gZ at h
 refine att 5 [] J ?_
 refine ch h J ?_ ?_ <;> intro h
 ·refine atr 6 [] J ?_
  obtain⟨x3,Y,h⟩:=bs h
  obtain⟨ao,F3,-,g1,aq,au,r1⟩:=u.el (aa Y).2.2
  obtain⟨v7,G1,rfl,ah,h5⟩:=r1
  obtain rfl:=ah.symm
  refine lia u Y J<|lhx 0 3 g1 J<|lnz tN J fun aw=>la J<|soN 0 zL J ⟨J,J,h5.one,trivial⟩ J ?_
  refine en<|wm [0,1,2,3,4,5] [13] J<|amm 7 [0,162,1,66,2,34,3,0,4,128,5,6] [0,1,2,3,4,5] J J ?_
  obtain⟨x4,Z,h⟩:=bs h
  refine mqT 7 [10,13] J MA (kN [0,1,2,3,4,5]) (zt lL J J u Z) J ?_
  obtain⟨F4,h6,ax⟩:=u.sub Z
  refine amm 2 [8,1,9,128] [0,1,2,3,4,5] J J<|mq 10 J MA (kN [0,1,2,3,4,5]) (aU (vs:=[(0,(slc j (0:Int).toNat (wz (y+1)).toNat 3)),(1,iV p.Next)]) (C:=#[(slc j (0:Int).toNat (wz (y+1)).toNat 3),iV p.Next]) Dp sF J (a7 (C':=[(slc j (0:Int).toNat (wz (y+1)).toNat 3),iV 0]) J (bh h6.one) J J J (a7 (C':=[(slc j (0:Int).toNat (wz (y+1)).toNat 3),iV p.Next]) J J J J J (ab)))) J<|amm 2 [11,0,12,0] [0,1,2,3,4,5] J J ?_
  obtain⟨x5,ai,h⟩:=bs h
  refine WM.one 13 MA (mc J (fun hc=>by cases hc) (bt (js:=[0,0,0,0]) (R:=[ob v2,G,ob v3,H]) Jq J J (fun w1 hw ap hl=>xw N (bx hw ap hl) t w (⟨s1,s2⟩:aI) (⟨x4,p.Next⟩:ag) x3.Id (I.y (hw.uo ap)) ((h1.rslG cP.gives).x (Dj.app (ap.q 0 J) (ap.q 1 J))) ((c.rslG bC.gives).x (Dj.app (ap.q 2 J) (ap.q 3 J))) A B (h6.y (hw.uo ap))  ai)) J ?_)
  rintro v8 ay F5 ⟨D,a8,D7,D8,rfl,rfl,h7,h8⟩
  replace h1:=h1.fr a8 (D.q 0 J) (D.q 1 J)
  replace c:=c.fr a8 (D.q 2 J) (D.q 3 J)
  refine WM.nil MA<|att 5 [] J ?_
  exact lb [0,0,0,0,0,0,0,0] [1,1,1,1,1] (af (_,_,_,_,_,_) ⟨h,h1,c,h7,h8⟩)
 refine atr 4 [2] J<|soN 2 mj J ⟨A.one,B.one,trivial⟩ J ?_
 refine en ?_
 exact rtg [0,0,0,0] hF (aA.one (aZ vr J (fun w1 hw=>hw.rgO (i:=2) J 0 2 [v5,v6] J) J)) J (by cases h;exact fun w1 hw=>⟨v5,D5,v6,D6,rfl,rfl,A,B⟩)
theorem iK {c:Nat} {p:List Value} (w0:av d a []) (b:(List bm)) (q:(List bm)) (t:bm→bm→Option (Bool)) (u:RSl iv 1 d b6 n b) (w:RSl iv 1 d b5 k q) (H:Fun prog c=true) (I:∀ {v:Hp} {w':World},FrH [] a v→In v w'→∀ (y:bm) (z:bm) {A:Value} {K:List Nat} {B:Value} {L:List Nat} (_:RSl (RI .i64) 1 v K A y.L) (_:RSl (RI .i64) 1 v L B z.L) {r:Bool},t y z=some r→Calls prog c (([.agg [A].toArray,.agg [B].toArray]:List Value)++p).toArray w' (pV (.bool r) w')) {r:Bool} (h:bA N b q t=some r) :
  CB w0 prog 109 [n,k,.func (.func c) #[] p.toArray] (.bool r):=by
 refine eN func109 J ntmps109 J w0 fun x=>?_
 unfold bA at h
 refine atr 8 [] J<|lnr u J<|la J<|lnr w J<|la J<|en ?_
 refine ch h J ?_ ?_ <;> intro h
 ·refine att 4 [] J ?_
  exact rt x h
 refine atr 5 [] J<|lnr u J<|art 3 [] J ?_
 refine lin (σ:=Int) (fun s=>[(1,k),(2,.func (.func c) #[] p.toArray),(15,n),(16,iV (b.length:Int)),(17,iV s)]) (fun s=>St w0 a [] []) (fun m s=>aM N b q t m s=some r) (0) N h (sx [] []) (fun M O s hm=>?_)
 revert hm;revert s;intro s1 hm
 have h:aM N b q t (M+1) s1=some r:=hm
 show WT _ _ [(1,k),(2,.func (.func c) #[] p.toArray),(15,n),(16,iV (b.length:Int)),(17,iV s1)] (St w0 a [] [])
 unfold aM at h
 refine att 5 [] J ?_
 refine ch h J ?_ ?_ <;> intro h
 ·refine atr 6 [] J ?_
  obtain⟨P,D,h⟩:=bs h
  obtain⟨W,X,-,g1,Y,Z,Q⟩:=u.el (aa D).2.2
  obtain⟨v1,G1,rfl,R,h1⟩:=Q
  obtain rfl:=R.symm
  refine lia u D J<|lhx 0 1 g1 J ?_
  refine ln (mf (C:=#[.slice none 0 0]) uw J) J (fun a7=>?_)
  refine la J<|soN 0 Hr J ⟨h1.one,trivial⟩ J ?_
  refine arr 5 [] J ?_
  obtain⟨S,E,h⟩:=bs h
  obtain⟨a8,F2,-,g2,ab,ae,T⟩:=w.el (aa E).2.2
  obtain⟨v2,G2,rfl,U,F⟩:=T
  obtain rfl:=U.symm
  refine lia w E J<|lhx 0 1 g2 J ?_
  refine ln (mf (C:=#[.slice none 0 0]) uw J) J (fun af=>?_)
  refine soN 0 Hr J ⟨F.one,trivial⟩ J ?_
  refine arr 4 [] J<|lq (aC Ho J (fun G hw=>hw.rgO (i:=1) J 0 1 [v1] J) J) J<|lq (aC Ho J (fun G hw=>hw.rgO (i:=0) J 0 1 [v2] J) J) J ?_
  obtain⟨x3,V,h⟩:=bs h
  refine lp (th H J J (fun G hw=>I hw.frB hw.fro P S (h1.y hw.up) (F.y hw.up) V)) J<|la J<|en ?_
  refine ch h J ?_ ?_ <;> intro h
  ·refine att 4 [] J ?_
   exact rt x h
  refine att 6 [] J ?_
  exact lb [] [] (O _ h)
 refine att 5 [] J ?_
 exact rt x h
theorem vo (w0:av d a []) (b:bm) (c:bm) (i:RSl (RI .i64) 1 d aE e b.L) (m:RSl (RI .i64) 1 d b4 j c.L) {r:Bool} (h:gz N b c=some r) :
  CB w0 prog 110 [.agg [e].toArray,.agg [j].toArray] (.bool r):=by
 refine eN func110 J ntmps110 J w0 fun p=>?_
 unfold gz at h
 refine sr ?_
 refine ln (w5 (C:=#[e]) J J) J (fun q=>?_)
 refine ln (w5 (C:=#[j]) J J) J (fun s=>?_)
 refine arr 8 [0,32,0,0] J<|qd h (j6 N · b.L c.L i m ·) J J J fun t h=>la J<|en ?_
 exact rt p h
theorem iM {c:Nat} {p:List Value} (w0:av d a []) (b:(List aP)) (q:(List aP)) (t:aP→aP→Option (Bool)) (u:RSl lw 1 d b6 n b) (w:RSl lw 1 d b5 k q) (H:Fun prog c=true) (I:∀ {v:Hp} {w':World},FrH [] a v→In v w'→∀ (y:aP) (z:aP) {A:Value} {K:List Nat} {B:Value} {L:List Nat} (_:RSl gV 1 v K A y.Levels) (_:RSl gV 1 v L B z.Levels) {r:Bool},t y z=some r→Calls prog c (([.agg [A].toArray,.agg [B].toArray]:List Value)++p).toArray w' (pV (.bool r) w')) {r:Bool} (h:bB N b q t=some r) :
  CB w0 prog 111 [n,k,.func (.func c) #[] p.toArray] (.bool r):=by
 refine eN func111 J ntmps111 J w0 fun x=>?_
 unfold bB at h
 refine atr 8 [] J<|lnr u J<|la J<|lnr w J<|la J<|en ?_
 refine ch h J ?_ ?_ <;> intro h
 ·refine att 4 [] J ?_
  exact rt x h
 refine atr 5 [] J<|lnr u J<|art 3 [] J ?_
 refine lin (σ:=Int) (fun s=>[(1,k),(2,.func (.func c) #[] p.toArray),(15,n),(16,iV (b.length:Int)),(17,iV s)]) (fun s=>St w0 a [] []) (fun m s=>aO N b q t m s=some r) (0) N h (sx [] []) (fun M O s hm=>?_)
 revert hm;revert s;intro s1 hm
 have h:aO N b q t (M+1) s1=some r:=hm
 show WT _ _ [(1,k),(2,.func (.func c) #[] p.toArray),(15,n),(16,iV (b.length:Int)),(17,iV s1)] (St w0 a [] [])
 unfold aO at h
 refine att 5 [] J ?_
 refine ch h J ?_ ?_ <;> intro h
 ·refine atr 6 [] J ?_
  obtain⟨P,D,h⟩:=bs h
  obtain⟨W,X,-,g1,Y,Z,Q⟩:=u.el (aa D).2.2
  obtain⟨v1,G1,rfl,R,h1⟩:=Q
  obtain rfl:=R.symm
  refine lia u D J<|lhx 0 1 g1 J ?_
  refine ln (mf (C:=#[.slice none 0 0]) mO J) J (fun a7=>?_)
  refine la J<|soN 0 yf J ⟨h1.one,trivial⟩ J ?_
  refine arr 5 [] J ?_
  obtain⟨S,E,h⟩:=bs h
  obtain⟨a8,F2,-,g2,ab,ae,T⟩:=w.el (aa E).2.2
  obtain⟨v2,G2,rfl,U,F⟩:=T
  obtain rfl:=U.symm
  refine lia w E J<|lhx 0 1 g2 J ?_
  refine ln (mf (C:=#[.slice none 0 0]) mO J) J (fun af=>?_)
  refine soN 0 yf J ⟨F.one,trivial⟩ J ?_
  refine arr 4 [] J<|lq (aC AB J (fun G hw=>hw.rgO (i:=1) J 0 1 [v1] J) J) J<|lq (aC AB J (fun G hw=>hw.rgO (i:=0) J 0 1 [v2] J) J) J ?_
  obtain⟨x3,V,h⟩:=bs h
  refine lp (th H J J (fun G hw=>I hw.frB hw.fro P S (h1.y hw.up) (F.y hw.up) V)) J<|la J<|en ?_
  refine ch h J ?_ ?_ <;> intro h
  ·refine att 4 [] J ?_
   exact rt x h
  refine att 6 [] J ?_
  exact lb [] [] (O _ h)
 refine att 5 [] J ?_
 exact rt x h
theorem gt {c:Nat} {p:List Value} (w0:av d a []) (b:(List ao)) (q:(List ao)) (t:ao→ao→Option (Bool)) (u:RSl gV 1 d b6 n b) (w:RSl gV 1 d b5 k q) (H:Fun prog c=true) (I:∀ {v:Hp} {w':World},FrH [] a v→In v w'→∀ (y:ao) (z:ao) {A:Value} {K:List Nat} {B:Value} {L:List Nat} (_:RSl cL 2 v K A y.Toks) (_:RSl cL 2 v L B z.Toks) {r:Bool},t y z=some r→Calls prog c (([.agg [A].toArray,.agg [B].toArray]:List Value)++p).toArray w' (pV (.bool r) w')) {r:Bool} (h:bz N b q t=some r) :
  CB w0 prog 113 [n,k,.func (.func c) #[] p.toArray] (.bool r):=by
 refine eN func113 J ntmps113 J w0 fun x=>?_
 unfold bz at h
 refine atr 8 [] J<|lnr u J<|la J<|lnr w J<|la J<|en ?_
 refine ch h J ?_ ?_ <;> intro h
 ·refine att 4 [] J ?_
  exact rt x h
 refine atr 5 [] J<|lnr u J<|art 3 [] J ?_
 refine lin (σ:=Int) (fun s=>[(1,k),(2,.func (.func c) #[] p.toArray),(15,n),(16,iV (b.length:Int)),(17,iV s)]) (fun s=>St w0 a [] []) (fun m s=>ay N b q t m s=some r) (0) N h (sx [] []) (fun M O s hm=>?_)
 revert hm;revert s;intro s1 hm
 have h:ay N b q t (M+1) s1=some r:=hm
 show WT _ _ [(1,k),(2,.func (.func c) #[] p.toArray),(15,n),(16,iV (b.length:Int)),(17,iV s1)] (St w0 a [] [])
 unfold ay at h
 refine att 5 [] J ?_
 refine ch h J ?_ ?_ <;> intro h
 ·refine atr 6 [] J ?_
  obtain⟨P,D,h⟩:=bs h
  obtain⟨W,X,-,g1,Y,Z,Q⟩:=u.el (aa D).2.2
  obtain⟨v1,G1,rfl,R,h1⟩:=Q
  obtain rfl:=R.symm
  refine lia u D J<|lhx 0 1 g1 J ?_
  refine ln (mf (C:=#[.slice none 0 0]) ut J) J (fun a7=>?_)
  refine la J<|soN 0 GK J ⟨h1.one,trivial⟩ J ?_
  refine arr 5 [] J ?_
  obtain⟨S,E,h⟩:=bs h
  obtain⟨a8,F2,-,g2,ab,ae,T⟩:=w.el (aa E).2.2
  obtain⟨v2,G2,rfl,U,F⟩:=T
  obtain rfl:=U.symm
  refine lia w E J<|lhx 0 1 g2 J ?_
  refine ln (mf (C:=#[.slice none 0 0]) ut J) J (fun af=>?_)
  refine soN 0 GK J ⟨F.one,trivial⟩ J ?_
  refine arr 4 [] J<|lq (aC Gf J (fun G hw=>hw.rgO (i:=1) J 0 1 [v1] J) J) J<|lq (aC Gf J (fun G hw=>hw.rgO (i:=0) J 0 1 [v2] J) J) J ?_
  obtain⟨x3,V,h⟩:=bs h
  refine lp (th H J J (fun G hw=>I hw.frB hw.fro P S (h1.y hw.up) (F.y hw.up) V)) J<|la J<|en ?_
  refine ch h J ?_ ?_ <;> intro h
  ·refine att 4 [] J ?_
   exact rt x h
  refine att 6 [] J ?_
  exact lb [] [] (O _ h)
 refine att 5 [] J ?_
 exact rt x h
end Go.Proofs.YtedmfnmbjglmbaaGreat
