/- Printed by a program of ours: each Go function computes its Lean function. -/
import Derived.Test.YtedmfnmbjglmbaaGreatProg
import Derived.Test.YtedmfnmbjglmbaaGreatWCameWalk2
namespace Go.Proofs.YtedmfnmbjglmbaaGreat
open Eng Tryz
open Go.RowKit (Below)
set_option linter.unusedVariables false
set_option linter.unusedSimpArgs false

set_option maxRecDepth 100000
set_option maxHeartbeats 1000000
variable {d a:Hp} {e j a6 f g aj n k ad:Value} {ai b0 b7 aE a1 pG3_0 b4 b5 b6 o pD0:List Nat} {l:Nat} (N:Nat)
theorem tg (w0:aD d a [ob f,aE,ob g,a1].flatten) (A:bv) (O:ce) (E:aN) (x:ac) (p:Int) (P:RSl fb 5 d ai e A.Rules) (aC:RSl cK 4 d b0 j O.Alphas) (Q:RSl eA 2 d b7 a6 O.Chains) (aF:OSl bA 133 1 a aE f E.Alphas) (t:OSl br 100 1 a a1 g E.Rules) (Z:RSl aY 3 d pG3_0 aj x.Items) {r:(List bF) × (List aP)} (h:m3 N A O E x p=some r) :
  Calls prog 68 [.agg [.string A.Name,e].toArray,.agg [j,a6].toArray,.agg [f,g].toArray,.agg [aj,iV x.Next].toArray,iV p].toArray w0.w (bc a w0.w [ob f,aE,ob g,a1].flatten (fun aT Fs v=>∃ (aW:List Nat) (aX:List Nat),v = .tuple #[]∧Fs=[ob f,aW,ob g,aX]∧OSl bA 133 1 aT aW f r.1∧OSl br 100 1 aT aX g r.2)):=by
 refine eL func68 J ntmps68 J (L:=[ob f,aE,ob g,a1]) w0 (fun hF=>?_)
 unfold m3 at h
 refine sr<|lbx J fun S=>lbx J fun T=>lbx J fun U=>lbx J fun V=>arr 5 [2] J<|kab h J J J (fun b z q=>nv N b x p (Z.y z) q) ?_
 rintro x1 h v1 bg F1 ⟨au,b1,v2,rfl,rfl,h1⟩
 replace aF:=aF.fr b1 (au.q 0 J) (au.q 1 J)
 replace t:=t.fr b1 (au.q 2 J) (au.q 3 J)
 refine arr 3 [] J<|lnz lz J fun aG=>soN 0 mC J ⟨J,h1.one,trivial⟩ J ?_
 refine arr 7 [0,96] J<|lnr aC J<|art 3 [] J ?_
 refine lin (σ:=Hp × (List bF) × List Nat × Int) (fun s=>[(4,iV p),(5,pQ S),(6,pQ T),(7,pQ U),(8,pQ V),(10,pQ aG),(24,j),(25,iV (O.Alphas.length:Int)),(26,iV s.2.2.2)]) (fun s=>St w0 s.1 [(aG,.cells #[.string x1.1.Kind,v2] 52 (0,0)),(V,.cells #[aj,iV x.Next] 29 (0,0)),(U,.cells #[f,g] 35 (0,0)),(T,.cells #[j,a6] 47 (0,0)),(S,.cells #[.string A.Name,e] 26 (0,0))] [ob v2,ob f,s.2.2.1,ob g,a1]) (fun m s=>eE N A O E x p x1 m s.2.1 s.2.2.2=some r∧(OSl bA 133 1 s.1 s.2.2.1 f s.2.1)∧(OSl br 100 1 s.1 a1 g E.Rules)∧(OSl aU 95 3 s.1 [] v2 x1.1.Fields)) (bg,E.Alphas,aE,0) N ⟨h,aF,t,h1⟩ (sx [0,0,0,0,0] [0,0,0,0,0]) (fun n1 b2 s hm=>?_)
 obtain⟨av,s1,K,s2⟩:=s
 obtain⟨h,u,t,h1⟩:=hm
 dsimp only at h u t h1 ⊢
 unfold eE at h
 refine att 5 [] J ?_
 refine ch h J ?_ ?_ <;> intro h
 ·refine atr 6 [] J ?_
  obtain⟨x2,b3,h⟩:=bs h
  obtain⟨bR,F2,-,g1,bS,bT,r1⟩:=aC.el (a8 b3).2.2
  obtain⟨v3,G1,v4,G2,rfl,rfl,h2,h3⟩:=r1
  refine lia aC b3 J<|lhx 0 4 g1 J<|lnz nc J fun bh=>la J<|soN 0 rP J ⟨J,J,h2.one,h3.one,trivial⟩ J ?_
  refine arr 5 [4,34] J<|qz h (fun b z q=>zz N b x2 x1.1 (h2.y z) (h3.y z) h1.rsl q) J J J fun x3 h=>en ?_
  refine ch h J ?_ ?_ <;> intro h
  ·obtain⟨x4,aI,h⟩:=bs h
   obtain⟨bU,F3,D2,G,r2,aJ,bj⟩:=u.focus aI
   obtain⟨v5,rfl,rfl,h5⟩:=r2
   refine wtL [ob v5,D2,ob v2,ob f,ob g,a1] (sre [2] [ob v5,D2] J (by simpa[gf] using bj))<|WT.mix (Kn w0 av (ob f) [(bh,.cells #[.string x2.Kind,iV x2.N,v3,v4] 137 (0,0)),(aG,.cells #[.string x1.1.Kind,v2] 52 (0,0)),(V,.cells #[aj,iV x.Next] 29 (0,0)),(U,.cells #[f,g] 35 (0,0)),(T,.cells #[j,a6] 47 (0,0)),(S,.cells #[.string A.Name,e] 26 (0,0))]) (fun i=>match i with | 14=>false | _=>true) mixed (fun _ h=>h.drew) ?_
   refine mq 0 J NQ (kn Kf.id (am [0,1,2,3,4,5] J)) (ax kj J) J<|mq 1 J NQ (kn Kf.id (am [0,1,2,3,4,5] J)) (aZ Bt J (fun B hw=>hw.rgO (i:=3) J 0 1 [f] J)) J<|ma 2 J NQ (kn Kf.id (am [0,1,2,3,4,5] J)) J<|mq 3 J NQ (kn Kf.id (am [0,1,2,3,4,5] J)) (ax kj J) J<|mq 4 J NQ (kn Kf.id (am [0,1,2,3,4,5] J)) (aZ Bt J (fun B hw=>hw.rgO (i:=3) J 0 1 [f] J)) J ?_
   refine ma 5 J NQ (kn Kf.id (am [0,1,2,3,4,5] J)) J<|mq 6 J NQ (kn Kf.id (am [0,1,2,3,4,5] J)) (cQ sQ J J G aI) J<|mq 7 J NQ (kn Kf.id (am [0,1,2,3,4,5] J)) (ax kO J) J<|mq 8 J NQ (kn Kf.id (am [0,1,2,3,4,5] J)) (aZ sU J (fun B hw=>hw.rg G.hb (G.rg.of_eq 0 1 J J:rg _ _ _ [v5]))) J<|ma 9 J NQ (kn Kf.id (am [0,1,2,3,4,5] J)) J ?_
   have bk:RC (RI .i64) 1 av ([[]]:List (List Nat)) [iV p] ([p]:List Int):=RC.cons (c:=[iV p]) (cells:=[]) ⟨J,J⟩ J (RC.nil _ _ _)
   refine WM.one 10 NQ (me J (fun _ v bl D B hq hw=>Kn.of (Kf.id.se hq.1) (am [0,1,2,3,4,5] J) hw) (bz (vs:=[(0,iV p)]) (C:=#[iV p]) RI.lasts cq mg J J J J (ar ki (aa (C':=[iV p]) J J J J J (ae))) J bk J (by simpa using Kw.nil)) J ?_)
   rintro v6 bm D3 ⟨a7,h6⟩
   replace h6:OSl (RI .i64) 3 1 bm [] v6 ([p]:List Int):=by simpa using h6
   replace G:=G.f0 a7
   replace t:=t.f0 a7
   replace h1:=h1.f0 a7
   replace h5:=h5.f0 a7
   obtain⟨x5,bn,h⟩:=bs h
   have aJ:=(Kf.id (F:=(ob f)):Kf av _ _).se a7
   refine WM.one 11 NQ (me J (fun _ v bl D B hq hw=>Kn.of (aJ.st hq.1.2 (hq.1.1.r (i:=3) J)) (am [0,1,2,3,4,5] J) hw) (dM RI.lasts RI.one RI.flat cq sh J J J J J (js:=[1]) (Rr:=[ob v6,D2,ob v2,ob f,ob g,a1]) J h5 h6.rsl bn) J ?_)
   rintro v7 bV D4 ⟨⟨W,ay⟩,h7⟩
   replace G:=G.fr ay (W.q 3 J) (W.q 1 J)
   replace t:=t.fr ay (W.q 4 J) (W.q 5 J)
   replace h1:=h1.fr ay (W.q 2 J) dN
   have aK:=aJ.st ay (W.q 3 J)
   refine mqT 12 [13,14] J NQ (kn aK (am [0,1,2,3,4,5] J)) (cQ sQ J J G aI) J<|mq 13 J NQ (kn aK (am [0,1,2,3,4,5] J)) (ax kO J) J ?_
   refine WM.one 14 NQ (mu J (fun hc=>by cases hc) (us [4] [ob v7,ob v6,D2,ob v2,ob g,a1] 0 bA.lasts td J J h7.one J G J (fun ap=>ap.q 2 J)) J ?_)
   rintro bo D5 ⟨⟨aA,aL⟩,h8⟩
   replace t:=t.fr aL (aA.q 4 J) (aA.q 5 J)
   replace h1:=h1.fr aL (aA.q 3 J) dN
   replace h7:=h7.fr aL (aA.q 0 J) dN
   refine WM.nil NQ<|att 5 [] J ?_
   have r3:bA bo _ [v7] (⟨x5⟩:bF):=⟨v7,J,J,h7⟩
   obtain⟨D6,h9,bp⟩:=h8.unfocus r3 (bA.knows _ _ _ _ r3)
   refine wtL [D6,ob f,ob v6,ob v2,ob g,a1] (smg [1,2] J (by simpa[gf,cO] using bp)) ?_
   exact lb [3,1,0,1,1] [1,1,1,1,1] (b2 (_,_,_,_) ⟨h,h9,t,h1⟩)
  refine att 6 [] J ?_
  exact lb [0,0,0,0,0] [1,1,1,1,1] (b2 (_,_,_,_) ⟨h,u,t,h1⟩)
 refine atr 5 [1,64] J<|lno t J<|art 3 [] J ?_
 refine lin (σ:=Hp × (List aP) × List Nat × Int) (fun s=>[(4,iV p),(5,pQ S),(6,pQ T),(7,pQ U),(8,pQ V),(50,g),(51,iV (E.Rules.length:Int)),(52,iV s.2.2.2)]) (fun s=>St w0 s.1 [(V,.cells #[aj,iV x.Next] 29 (0,0)),(U,.cells #[f,g] 35 (0,0)),(T,.cells #[j,a6] 47 (0,0)),(S,.cells #[.string A.Name,e] 26 (0,0))] [ob f,K,ob g,s.2.2.1]) (fun m s=>eF N A O E x p s1 m s.2.1 s.2.2.2=some r∧(OSl bA 133 1 s.1 K f s1)∧(OSl br 100 1 s.1 s.2.2.1 g s.2.1)) (av,E.Rules,a1,0) N ⟨h,u,t⟩ (sx [1,1,1,1] [1,1,1,1]) (fun n2 bq s hm=>?_)
 obtain⟨bW,s3,D7,s4⟩:=s
 obtain⟨h,u,k2⟩:=hm
 dsimp only at h u k2 ⊢
 unfold eF at h
 refine att 5 [] J ?_
 refine ch h J ?_ ?_ <;> intro h
 ·refine atr 6 [] J ?_
  obtain⟨x6,b8,h⟩:=bs h
  obtain⟨bX,F4,D8,H,r4,aK,bt⟩:=k2.focus b8
  obtain⟨y,D9,rfl,rfl,ab⟩:=r4
  refine wlL [ob y,D9,D8,ob f,K,ob g] (sre [3] [ob y,D9,D8] J (by simpa[gf] using bt))<|lih H b8 J<|lgx 0 1 H.rg J ?_
  refine ln (ip (C:=#[.slice none 0 0]) od J) J (fun b9=>?_)
  refine la J<|soN 0 wx J ⟨ab.one,trivial⟩ J ?_
  refine arr 9 [130,98,66,34] J<|kab h J J J (fun b z q=>xi N b A O (⟨s1,s3⟩:aN) x p s4 (P.y z) (Q.y z) (u.rslG bA.gives) (Z.y z) q) ?_
  rintro M h v9 ba F5 ⟨X,aM,v10,bY,v11,bZ,v12,G3,aO,G4,aQ,G5,aR,G6,rfl,rfl,af,i1,ag,i2,ah,i3,ak,i4,al,i5,an,i6⟩
  replace u:=u.fr aM (X.q 3 J) (X.q 4 J)
  replace H:=H.fr aM (X.q 5 J) (X.q 2 J)
  replace ab:=ab.fr aM (X.q 0 J) (X.q 1 J)
  refine lnz Dz J fun bb=>soN 0 GP J ⟨af.one,ag.one,ah.one,ak.one,al.one,an.one,J,J,trivial⟩ J ?_
  refine en<|sq<|WT.mix (Kn w0 ba (ob y) [(bb,.cells #[v10,v11,v12,aO,aQ,aR,iV M.s.Next,iV M.id] 191 (0,0)),(b9,.cells #[y] 100 (0,0)),(V,.cells #[aj,iV x.Next] 29 (0,0)),(U,.cells #[f,g] 35 (0,0)),(T,.cells #[j,a6] 47 (0,0)),(S,.cells #[.string A.Name,e] 26 (0,0))]) (fun i=>match i with | 10=>false | _=>true) mixed (fun _ h=>h.drew) ?_
  refine mq 0 J NQ (kn Kf.id (am [0,1,2,3,4,5] J)) (aw Hi J (fun B hw=>hw.rgO (i:=0) J 0 8 [v10,v11,v12,aO,aQ,aR,iV M.s.Next,iV M.id] J) J) J<|mqT 1 [2,7,8,9,10] J NQ (kn Kf.id (am [0,1,2,3,4,5] J)) (ax lQ J) J<|mqT 2 [7,8,9,10] J NQ (kn Kf.id (am [0,1,2,3,4,5] J)) (aZ Km J (fun B hw=>hw.rgO (i:=1) J 0 1 [y] J)) J ?_
  refine mqT 3 [4,5,6,7,8,9,10] J NQ (kn Kf.id (am [0,1,2,3,4,5] J)) (ax lQ J) J<|mqT 4 [5,6,7,8,9,10] J NQ (kn Kf.id (am [0,1,2,3,4,5] J)) (aZ Km J (fun B hw=>hw.rgO (i:=1) J 0 1 [y] J)) J<|mqT 5 [6,7,8,9,10] J NQ (kn Kf.id (am [0,1,2,3,4,5] J)) (mK sP J J (ab.rslG aV.gives)) J<|mqT 6 [7,8,9,10] J NQ (kn Kf.id (am [0,1,2,3,4,5] J)) (EO J J) J ?_
  obtain⟨x8,bd,h⟩:=bs h
  obtain⟨c0,F6,aS,Y,r5,c3,bu⟩:=ab.focus bd
  obtain⟨ao,be,rfl,rfl,bw⟩:=r5
  refine WM.conv (S':=St w0 ba [(bb,.cells #[v10,v11,v12,aO,aQ,aR,iV M.s.Next,iV M.id] 191 (0,0)),(b9,.cells #[y] 100 (0,0)),(V,.cells #[aj,iV x.Next] 29 (0,0)),(U,.cells #[f,g] 35 (0,0)),(T,.cells #[j,a6] 47 (0,0)),(S,.cells #[.string A.Name,e] 26 (0,0))] [ob ao,be,aS,ob v10,ob v11,ob y,D8,ob f,K,ob g]) (fun B hw=>hw.re (js:=[3]) (Bs:=[ob ao,be,aS]) J (by simpa[gf] using bu)) ?_
  refine mqT 7 [8,9,10] J NQ (kn Kf.id (am [0,1,2,3,4,5] J)) (cQ sP J J Y bd) J<|mqT 8 [9,10] J NQ (kn Kf.id (am [0,1,2,3,4,5] J)) (ax gZ J) J<|mq 9 J NQ (kn Kf.id (am [0,1,2,3,4,5] J)) (aZ Bd J (fun B hw=>hw.rg Y.hb (Y.rg.of_eq 0 1 J J:rg _ _ _ [ao]))) J ?_
  obtain⟨x9,bB,h⟩:=bs h
  refine WM.one 10 NQ (mc J (fun hc=>by cases hc) (bH (js:=[0,0]) (R:=[aS,ob v10,ob v11,ob y,D8,ob f,K,ob g]) JE J J (fun B hw ap hl=>tG N (bx hw ap hl) M x8.Toks 1 (af.rsl.x (Dj.app (ap.q 1 J) (Dj.sub (ap.o P.old) i1))) (ag.rsl.x (Dj.app (ap.q 2 J) (Dj.sub (ap.o P.old) i2))) (ah.x (Dj.sub (ap.o Q.old) i3)) (ak.x (Dj.sub (ap.o Q.old) i4)) (al.x (Dj.sub (Dj.app (ap.q 5 J) (ap.q 6 J)) i5)) (an.x (Dj.sub (ap.o Z.old) i6)) bw  bB)) J ?_)
  rintro v17 bC F7 ⟨w,I,bD,rfl,rfl,bE⟩
  replace ah:=ah.fr I (Dj.sub (w.o Q.old) i3)
  replace ak:=ak.fr I (Dj.sub (w.o Q.old) i4)
  replace al:=al.fr I (Dj.sub (Dj.app (w.q 5 J) (w.q 6 J)) i5)
  replace an:=an.fr I (Dj.sub (w.o Z.old) i6)
  replace u:=u.fr I (w.q 5 J) (w.q 6 J)
  replace H:=H.fr I (w.q 7 J) (w.q 4 J)
  replace Y:=Y.fr I (w.q 3 J) (w.q 0 J)
  replace af:=af.fr I (w.q 1 J) (Dj.sub (w.o P.old) i1)
  replace ag:=ag.fr I (w.q 2 J) (Dj.sub (w.o P.old) i2)
  refine WM.nil NQ<|atr 4 [8,0,32] J ?_
  have r6:aV bC _ [ao] (⟨x9⟩:aq):=⟨ao,bD,J,J,bE⟩
  obtain⟨bG,bI,bJ⟩:=Y.unfocus r6 (aV.knows _ _ _ _ r6)
  refine wlL [bG,ob v10,ob v11,ob y,D8,ob f,K,ob g] (smg [0,0,0] J (by simpa[gf,cO] using bJ))<|kcb [3,0] h J J J J (fun b ap z q=>ur N b M (x6.Levels.set (wz ((x6.Levels.length:Int) - 1)).toNat (⟨x9⟩:aq)) (af.rsl.x (Dj.app (ap.q 0 J) (Dj.sub (ap.o P.old) i1))) (ag.rsl.x (Dj.app (ap.q 1 J) (Dj.sub (ap.o P.old) i2))) (ah.x (Dj.sub (ap.o Q.old) i3)) (ak.x (Dj.sub (ap.o Q.old) i4)) (al.x (Dj.sub (Dj.app (ap.q 3 J) (ap.q 4 J)) i5)) (an.x (Dj.sub (ap.o Z.old) i6)) bI q) ?_
  rintro bK h c4 bL F8 ⟨aB,bf,bM,rfl,rfl,bN⟩
  replace u:=u.fr bf (aB.q 3 J) (aB.q 4 J)
  replace H:=H.fr bf (aB.q 5 J) (aB.q 2 J)
  refine art 6 [] J ?_
  have r7:br bL _ [y] (⟨bK⟩:aP):=⟨y,bM,J,J,bN⟩
  obtain⟨bO,bP,bQ⟩:=H.unfocus r7 (br.knows _ _ _ _ r7)
  refine wtL [bO,ob v10,ob v11,ob f,K,ob g] (smg [0,0,2] J (by simpa[gf,cO] using bQ)) ?_
  exact lb [3,3,3,0] [2,2,2,2] (bq (_,_,_,_) ⟨h,u,bP⟩)
 refine xt J ?_
 refine WT.fin hF az.none (fun B hw=>?_)
 cases h
 refine aH (js:=[0,0,0,0]) hw J ⟨K,D7,J,J,u,k2⟩
theorem eQ (w0:aD d a []) (b:(List Int)) (c:(List Int)) (i:RSl (RI .i64) 1 d b4 n b) (p:RSl (RI .i64) 1 d b5 k c) {r:Bool} (h:co N b c=some r) :
  CB w0 prog 76 [n,k] (.bool r):=by
 refine eN func76 J ntmps76 J w0 fun q=>?_
 unfold co at h
 refine atr 8 [] J<|lnr i J<|la J<|lnr p J<|la J<|en ?_
 refine ch h J ?_ ?_ <;> intro h
 ·refine att 4 [] J ?_
  exact rt q h
 refine atr 5 [] J<|lnr i J<|art 3 [] J ?_
 refine lin (σ:=Int) (fun s=>[(0,n),(1,k),(12,iV (b.length:Int)),(13,iV s)]) (fun s=>St w0 a [] []) (fun m s=>cX N b c m s=some r) (0) N h (sx [] []) (fun v w s hm=>?_)
 revert hm;revert s;intro s1 hm
 have h:cX N b c (v+1) s1=some r:=hm
 show WT _ _ [(0,n),(1,k),(12,iV (b.length:Int)),(13,iV s1)] (St w0 a [] [])
 unfold cX at h
 refine att 5 [] J ?_
 refine ch h J ?_ ?_ <;> intro h
 ·refine att 9 [] J<|WT.draw mixed NQ (fun _ h=>h.drew)<|aqq 2 [] J ?_
  obtain⟨x,t,h⟩:=bs h
  obtain⟨C,D,-,g1,E,F,y⟩:=i.el (a8 t).2.2
  obtain⟨rfl,-⟩:=y
  refine qq (an cq J J i t) J<|qq (aZ sD J (fun z hw=>(g1.of_eq 0 1 J J:rg _ _ _ [iV x]).rangeAt hw.in0)) J<|aqq 2 [] J ?_
  obtain⟨A,u,h⟩:=bs h
  obtain⟨G,H,-,g2,I,K,B⟩:=p.el (a8 u).2.2
  obtain⟨rfl,-⟩:=B
  refine qq (an cq J J p u) J<|qq (aZ sD J (fun z hw=>(g2.of_eq 0 1 J J:rg _ _ _ [iV A]).rangeAt hw.in0)) J<|aqt 2 [] J ?_
  refine ch h J ?_ ?_ <;> intro h
  ·refine att 4 [] J ?_
   exact rt q h
  refine att 6 [] J ?_
  exact lb [] [] (w _ h)
 refine att 5 [] J ?_
 exact rt q h
theorem ra (w0:aD d a []) (b:av) (c:av) (t:RSl aU 3 d ai e b.Consts) (u:RSl (RI .i64) 1 d b6 ad b.At) (v:RSl aU 3 d b0 j c.Consts) (w:RSl (RI .i64) 1 d b7 a6 c.At) {r:Bool} (h:eD N b c=some r) :
  CB w0 prog 85 [.agg [.string b.Kind,iV b.N,e,ad].toArray,.agg [.string c.Kind,iV c.N,j,a6].toArray] (.bool r):=by
 refine eN func85 J ntmps85 J w0 fun x=>?_
 unfold eD at h
 refine sr<|lbx J fun q=>lbx J fun s=>arr 10 [0,32,0,0] J ?_
 obtain⟨y,p,h⟩:=bs h
 refine WL.cutN 6 [(16,.bool y),(2,pQ q),(3,pQ s),(4,.bool false)] ?_ (fun K=>?_)
 rotate_left
 ·refine sp 10 p J (fun p=>?_) fun p=>?_
  ·refine arr 6 [1,32,1,0] J ?_
   cases p
   exact ku K
  ·refine arr 6 [] J ?_
   cases p
   exact ku K
 refine la J ?_
 obtain⟨z,i,h⟩:=bs h
 refine WL.cutN 6 [(23,.bool z),(2,pQ q),(3,pQ s),(4,.bool false)] ?_ (fun K=>?_)
 rotate_left
 ·refine sp 17 i J (fun i=>?_) fun i=>?_
  ·refine arr 4 [2,32,2,0] J<|ly J J<|qd i (ko N · b.Consts c.Consts t v ·) J J J fun B i=>la J ?_
   cases i
   exact ku K
  ·refine arr 6 [] J ?_
   cases i
   exact ku K
 refine la J ?_
 obtain⟨A,m,h⟩:=bs h
 refine WL.cutN 6 [(30,.bool A),(4,.bool false)] ?_ (fun K=>?_)
 rotate_left
 ·refine sp 24 m J (fun m=>?_) fun m=>?_
  ·refine arr 4 [3,32,3,0] J<|ly J J<|qd m (eQ N · b.At c.At u w ·) J J J fun C m=>la J ?_
   cases m
   exact ku K
  ·refine arr 6 [] J ?_
   cases m
   exact ku K
 refine la J<|en ?_
 exact rt x h
theorem y0 (w0:aD d a []) (b:ay) (x:RSl f8 5 d ai e b.Args) {r:av} (h:nM N b=some r) :
  Calls prog 204 [.agg [.string b.Kind,e,.bool b.Not].toArray].toArray w0.w (bc a w0.w [] (fun D Fs v=>∃ (y:Value) (z:Value),v = .agg [.string r.Kind,iV r.N,y,z].toArray∧Fs=[ob y,ob z]∧OSl aU 95 3 D [] y r.Consts∧OSl (RI .i64) 3 1 D [] z r.At)):=by
 refine eN func204 J ntmps204 J w0 fun O=>?_
 unfold nM at h
 refine sr<|lbx J fun ah=>lnz nc J fun E=>arr 7 [0,32,1,32] J<|lnr x J<|lq (bu (vs:=[(0,.string b.Kind),(1,iV (b.Args.length:Int))]) (C:=#[.string b.Kind,iV (b.Args.length:Int),.slice none 0 0,.slice none 0 0]) GD nc J (aa (C':=[.string b.Kind,iV 0,.slice none 0 0,.slice none 0 0]) J J J J J (aa (C':=[.string b.Kind,iV (b.Args.length:Int),.slice none 0 0,.slice none 0 0]) J J J J J (ae)))) J<|lnz nc J fun F=>?_
 refine soN 0 rP J ⟨J,J,J,J,trivial⟩ J ?_
 refine arr 6 [1,64] J<|lnr x J<|art 3 [] J<|wtS ?_
 have P:=OSl.nil aU 95 3 a
 refine wtS ?_
 have Q:=OSl.nil (RI .i64) 3 1 a
 refine lin (σ:=Hp × (List bN) × Value × (List Int) × Value × Int) (fun s=>[(2,pQ E),(3,pQ F),(13,e),(14,iV (b.Args.length:Int)),(15,iV s.2.2.2.2.2)]) (fun s=>St w0 s.1 [(F,.cells #[.string b.Kind,iV (b.Args.length:Int),s.2.2.1,s.2.2.2.2.1] 137 (0,0)),(E,.cells #[.string (⟨#[]⟩:ByteArray),iV 0,.slice none 0 0,.slice none 0 0] 137 (0,0))] [ob s.2.2.2.2.1,ob s.2.2.1]) (fun m s=>ga N b m s.2.1 s.2.2.2.1 s.2.2.2.2.2=some r∧(OSl aU 95 3 s.1 [] s.2.2.1 s.2.1)∧(OSl (RI .i64) 3 1 s.1 [] s.2.2.2.2.1 s.2.2.2.1)) (a,([]:List bN),(.slice none 0 0),([]:List Int),(.slice none 0 0),0) N ⟨h,P,Q⟩ (sx [0,0] [0,0]) (fun n1 G s hm=>?_)
 obtain⟨R,s1,H,s2,A,t⟩:=s
 obtain⟨h,u,q⟩:=hm
 dsimp only at h u q ⊢
 unfold ga at h
 refine att 5 [] J ?_
 refine ch h J ?_ ?_ <;> intro h
 ·refine atr 6 [] J ?_
  obtain⟨p,I,h⟩:=bs h
  obtain⟨ak,F1,-,g1,al,an,S⟩:=x.el (a8 I).2.2
  obtain⟨rfl,-⟩:=S
  refine lia x I J<|lhx 0 5 g1 J<|lnz kh J fun ao=>la J<|soN 0 j6 J ⟨J,J,J,J,J,trivial⟩ J ?_
  refine art 7 [0,0] J ?_
  refine ch h J ?_ ?_ <;> intro h
  ·refine atr 6 [2,32,2,3] J ?_
   have T:RC aU 3 R ([[]]:List (List Nat)) [iV p.V.K,iV p.V.N,.string p.V.S] ([p.V]:List bN):=RC.cons (c:=[iV p.V.K,iV p.V.N,.string p.V.S]) (cells:=[]) ⟨J,J⟩ J (RC.nil _ _ _)
   refine le' (bz (vs:=[(0,.agg [iV p.V.K,iV p.V.N,.string p.V.S].toArray)]) (C:=#[iV p.V.K,iV p.V.N,.string p.V.S]) aU.lasts iX jY J J J J (ar Ao (aa (C':=[iV p.V.K,iV p.V.N,.string p.V.S]) J J J J J (ae))) J T J (by simpa using Kw.nil)) J ?_
   rintro v1 U D1 ⟨K,h1⟩
   replace h1:OSl aU 95 3 U [] v1 ([p.V]:List bN):=by simpa using h1
   replace u:=u.f0 K
   replace q:=q.f0 K
   obtain⟨x2,V,h⟩:=bs h
   refine le' (dM aU.lasts aU.one aU.flat iX BR J J J J J (js:=[2]) (Rr:=[ob v1,ob A]) J u h1.rsl V) J ?_
   rintro v2 W D2 ⟨⟨X,Y⟩,w⟩
   replace q:=q.fr Y (X.q 1 J) dN
   refine lf FQ J J J<|so1 1 EH J w.one ?_
   refine arr 5 [3,32] J ?_
   have Z:RC (RI .i64) 1 W ([[]]:List (List Nat)) [iV t] ([t]:List Int):=RC.cons (c:=[iV t]) (cells:=[]) ⟨J,J⟩ J (RC.nil _ _ _)
   refine le' (bz (vs:=[(0,iV t)]) (C:=#[iV t]) RI.lasts cq mg J J J J (ar ki (aa (C':=[iV t]) J J J J J (ae))) J Z J (by simpa using Kw.nil)) J ?_
   rintro v3 a7 D3 ⟨L,B⟩
   replace B:OSl (RI .i64) 3 1 a7 [] v3 ([t]:List Int):=by simpa using B
   replace w:=w.f0 L
   replace q:=q.f0 L
   obtain⟨x3,ab,h⟩:=bs h
   refine le' (dM RI.lasts RI.one RI.flat cq sh J J J J J (js:=[3]) (Rr:=[ob v3,ob v2,ob v1]) J q B.rsl ab) J ?_
   rintro v4 aq D4 ⟨⟨af,ag⟩,M⟩
   replace w:=w.fr ag (af.q 1 J) dN
   refine lf zZ J J J<|so1 1 td J M.one ?_
   refine art 6 [] J ?_
   exact lb [0,1] [1,1] (G (_,_,_,_,_,_) ⟨h,w,M⟩)
  refine att 6 [] J ?_
  exact lb [0,0] [1,1] (G (_,_,_,_,_,_) ⟨h,u,q⟩)
 refine atr 4 [4] J<|soN 1 rP J ⟨J,J,u.one,q.one,trivial⟩ J ?_
 refine en ?_
 exact rtg [1,0] O (az.one (aX ui J (fun w1 hw=>hw.rgO (i:=1) J 0 4 [.string b.Kind,iV (b.Args.length:Int),H,A] J) J)) J (by cases h;exact fun w1 hw=>⟨H,A,rfl,rfl,u,q⟩)
theorem un (w0:aD d a [[l],ob e,o].flatten) (w:ce) (B:ay) (u:OSl de 137 4 a o e w.Alphas) (aB:RSl eA 2 d b6 ad w.Chains) (t:a l=some (.cells #[e,ad] 47 (0,0))) (ak:RSl f8 5 d b0 j B.Args) {r:Int × ce} (h:jr N w B=some r) :
  Calls prog 149 [pQ l,.agg [.string B.Kind,j,.bool B.Not].toArray].toArray w0.w (bc a w0.w [[l],ob e,o].flatten (fun Q Fs v=>∃ (H:Value) (S:List Nat),v=iV r.1∧Fs=[[l],ob H,S]∧OSl de 137 4 Q S H r.2.Alphas∧r.2.Chains=w.Chains∧Q l=some (.cells #[H,ad] 47 (0,0)))):=by
 refine eL func149 J ntmps149 J (L:=[[l],ob e,o]) w0 (fun T=>?_)
 unfold jr at h
 refine sr<|lbx J fun aF=>arr 5 [3] J<|kab h J J J (fun b z q=>y0 N b B (ak.y z) q) ?_
 rintro p h v1 E F1 ⟨I,U,v2,v3,rfl,rfl,h1,K⟩
 replace u:=u.fr U (I.q 1 J) (I.q 2 J)
 replace t:=U _ _ ((I.q 0 J) _ NS) t
 refine lnz nc J fun x=>soN 0 rP J ⟨J,J,h1.one,K.one,trivial⟩ J ?_
 refine arr 5 [] J<|lq (aC J) J<|lf oT J J J<|lgx 0 0 (bP t) J<|lno u J<|art 3 [] J ?_
 refine lin (σ:=Int) (fun s=>[(0,pQ l),(5,pQ x),(13,e),(14,iV (w.Alphas.length:Int)),(15,iV s)]) (fun s=>St w0 E [(x,.cells #[.string p.Kind,iV p.N,v2,v3] 137 (0,0))] [ob v2,ob v3,[l],ob e,o]) (fun m s=>du N w p m s=some r) (0) N h (sx [0,0,0,0,0] [0]) (fun n1 al s hm=>?_)
 revert hm;revert s;intro s1 hm
 have h:du N w p (n1+1) s1=some r:=hm
 show WT _ _ [(0,pQ l),(5,pQ x),(13,e),(14,iV (w.Alphas.length:Int)),(15,iV s1)] (St w0 E [(x,.cells #[.string p.Kind,iV p.N,v2,v3] 137 (0,0))] [ob v2,ob v3,[l],ob e,o])
 unfold du at h
 refine att 5 [] J ?_
 refine ch h J ?_ ?_ <;> intro h
 ·refine atr 6 [] J ?_
  obtain⟨x2,V,h⟩:=bs h
  obtain⟨aG,F2,-,g1,aH,aI,r1⟩:=u.elS (a8 V).2.2
  obtain⟨v4,v5,rfl,rfl,h3,h4⟩:=r1
  have W:=h3.rsl
  have X:=h4.rsl
  refine lio u V J<|lgx 0 4 g1 J<|lnz nc J fun aJ=>la J<|soN 0 rP J ⟨J,J,W.one,X.one,trivial⟩ J ?_
  refine arr 5 [4,36] J<|qc h (ra N · x2 p W X h1.rsl K.rsl ·) J J J fun x3 h=>en ?_
  refine ch h J ?_ ?_ <;> intro h
  ·refine att 5 [] J ?_
   exact rtg [2,2,2] T (az.one J) J (by cases h;exact fun y hw=>⟨e,o,rfl,rfl,u,rfl,t⟩)
  refine att 6 [] J ?_
  exact lb [0,0,0,0,0] [1] (al _ h)
 refine xt J<|sq<|WT.mix (Kn w0 E [l] [(x,.cells #[.string p.Kind,iV p.N,v2,v3] 137 (0,0))]) (fun i=>match i with | 10=>false | _=>true) mixed (fun _ h=>h.drew)<|ma 0 J NQ (kn Kf.id (am [0] J)) J<|ma 1 J NQ (kn Kf.id (am [0] J)) J<|mq 2 J NQ (kn Kf.id (am [0] J)) (aC J) J<|mq 3 J NQ (kn Kf.id (am [0] J)) (ax oT J) J ?_
 refine mq 4 J NQ (kn Kf.id (am [0] J)) (aZ HF J (fun y hw=>hw.rg NS ((bP t).of_eq 0 1 J J:rg _ _ _ [e]))) J<|mq 5 J NQ (kn Kf.id (am [0] J)) (aw ui J (fun y hw=>hw.rgO (i:=0) J 0 4 [.string p.Kind,iV p.N,v2,v3] J) J) J ?_
 have Y:RC de 4 E ([(ob v2++[])++((ob v3++[]))]:List (List Nat)) [.string p.Kind,iV p.N,v2,v3] ([p]:List av):=RC.cons (c:=[.string p.Kind,iV p.N,v2,v3]) (cells:=[]) ⟨v2,v3,J,J,h1,K⟩ J (RC.nil _ _ _)
 refine WM.one 6 NQ (me J (fun _ v an D y G hw=>Kn.of (Kf.id.se G.1) (am [0] J) hw) (bz (vs:=[(0,.agg [.string p.Kind,iV p.N,v2,v3].toArray)]) (C:=#[.string p.Kind,iV p.N,v2,v3]) de.lasts A9 nc J J J J (ar BS (aa (C':=[.string p.Kind,iV p.N,v2,v3]) J J J J J (ae))) J Y J (RC.kn de.knows Y)) J ?_)
 rintro v6 Z D1 ⟨M,O⟩
 replace O:OSl de 137 4 Z ((ob v2++[])++((ob v3++[]))) v6 ([p]:List av):=by simpa[gf] using O
 replace u:=u.f0 M
 replace t:=M _ _ NS t
 refine WM.conv (S':=St w0 Z [(x,.cells #[.string p.Kind,iV p.N,v2,v3] 137 (0,0))] [((ob v2++[])++((ob v3++[]))),ob v6,[l],ob e,o]) (fun y hw=>hw.merge (js:=[1,1]) J (SP.eq (by simp[gf,cO]))) ?_
 obtain⟨x4,ao,h⟩:=bs h
 have a7:=(Kf.id (F:=[l]):Kf E _ _).se M
 refine WM.one 7 NQ (me J (fun _ v an D y G hw=>Kn.of (a7.st G.1.2 (G.1.1.r (i:=2) J)) (am [0] J) hw) (dS de.lasts de.one A9 Hz J J J J J (js:=[3]) (Rr:=[((ob v2++[])++((ob v3++[]))),ob v6,[l],o]) J u O (fun ap=>ap.q 3 J) (fun ap=>ap.q 0 J) ao) J ?_)
 rintro P aq D2 ⟨⟨ab,af⟩,A⟩
 replace t:=af _ _ ((ab.q 2 J) _ NS) t
 refine WM.conv (S':=St w0 aq [(x,.cells #[.string p.Kind,iV p.N,v2,v3] 137 (0,0))] [(o++((ob v2++[])++((ob v3++[])))),ob P,ob v6,[l]]) (fun y hw=>hw.merge (js:=[4,1]) J (SP.eq NS)) ?_
 have ag:=a7.st af (ab.q 2 J)
 refine mqT 8 [9,10] J NQ (kn ag (am [0] J)) (aC J) J<|mq 9 J NQ (kn ag (am [0] J)) (ax oT J) J ?_
 refine WM.thw (js:=[3]) (R:=[(o++((ob v2++[])++((ob v3++[])))),ob P,ob v6]) J t (fun aK ah au=>?_)
 replace A:=A.fr au (ah.q 1 J) (ah.q 0 J)
 refine on1 10 (ms1 0 J nk JP J A.one ?_)
 refine WM.nil NQ<|sr<|la J<|lq (aC J) J<|arr 2 [0,0] J<|lno A J<|art 3 [] J ?_
 refine WT.frz (js:=[0]) (R:=[(x,.cells #[.string p.Kind,iV p.N,v2,v3] 137 (0,0))]) J (fun aL aA k1=>?_)
 replace A:=A.f0 aA
 exact rtg [0,1,0] T (az.one J) J (by cases h;exact fun y hw=>⟨P,(o++((ob v2++[])++((ob v3++[])))),J,J,A,J,k1⟩)
theorem vo (w0:aD d a []) (G:bv) (af:RSl fb 5 d ai e G.Rules) {r:ce} (h:oJ N G=some r) :
  Calls prog 83 [.agg [.string G.Name,e].toArray].toArray w0.w (bc a w0.w [] (fun aq Fs v=>∃ (ag:Value) (au:List Nat) (ah:Value) (aw:List Nat),v = .agg [ag,ah].toArray∧Fs=[ob ag,au,ob ah,aw]∧OSl de 137 4 aq au ag r.Alphas∧OSl bJ 141 2 aq aw ah r.Chains)):=by
 refine eN func83 J ntmps83 J w0 fun hF=>?_
 unfold oJ at h
 refine sr<|lbx J fun aY=>lnz sI J fun O=>en<|sr<|lnz sI J fun H=>arr 6 [1,64] J<|lnr af J<|art 3 [] J<|wtS<|wt0 ?_
 have k1:=OSl.nil de 137 4 a
 refine wtS<|wt0 ?_
 have k2:=OSl.nil bJ 141 2 a
 refine lin (σ:=Hp × (List av) × Value × List Nat × (List aG) × Value × List Nat × Int) (fun s=>[(2,pQ O),(3,pQ H),(11,e),(12,iV (G.Rules.length:Int)),(13,iV s.2.2.2.2.2.2.2)]) (fun s=>St w0 s.1 [(H,.cells #[s.2.2.1,s.2.2.2.2.2.1] 47 (0,0)),(O,.cells #[.slice none 0 0,.slice none 0 0] 47 (0,0))] [s.2.2.2.2.2.2.1,ob s.2.2.2.2.2.1,s.2.2.2.1,ob s.2.2.1]) (fun m s=>fH N G m s.2.1 s.2.2.2.2.1 s.2.2.2.2.2.2.2=some r∧(OSl de 137 4 s.1 s.2.2.2.1 s.2.2.1 s.2.1)∧(OSl bJ 141 2 s.1 s.2.2.2.2.2.2.1 s.2.2.2.2.2.1 s.2.2.2.2.1)) (a,([]:List av),(.slice none 0 0),[],([]:List aG),(.slice none 0 0),[],0) N ⟨h,k1,k2⟩ (sx [0,0,0,0] [0,0]) (fun n1 aJ s hm=>?_)
 obtain⟨ak,s1,u1,D1,s2,B,D,s3⟩:=s
 obtain⟨h,S,p⟩:=hm
 dsimp only at h S p ⊢
 unfold fH at h
 refine att 5 [] J ?_
 refine ch h J ?_ ?_ <;> intro h
 ·refine atr 5 [] J ?_
  obtain⟨x1,ax,h⟩:=bs h
  obtain⟨aZ,F1,-,g1,b1,b2,r1⟩:=af.el (a8 ax).2.2
  obtain⟨v1,G1,v2,G2,v3,G3,rfl,rfl,h1,h2,h3⟩:=r1
  refine lia af ax J<|lhx 0 5 g1 J<|lnz uY J fun b3=>soN 0 yh J ⟨J,J,h1.one,h2.one,h3.one,trivial⟩ J ?_
  refine en<|sr<|lnz rE J fun al=>arr 6 [2,32] J<|lnr h1 J<|art 3 [] J<|wtS ?_
  have k5:=OSl.nil (RI .i64) 3 1 ak
  refine wtS ?_
  have k6:=OSl.nil (RI .i64) 3 1 ak
  refine lin (σ:=Hp × (List av) × Value × List Nat × (List Int) × Value × (List Int) × Value × Int) (fun s=>[(2,pQ O),(3,pQ H),(6,pQ al),(11,e),(12,iV (G.Rules.length:Int)),(13,iV s3),(18,v1),(19,iV (x1.Pats.length:Int)),(20,iV s.2.2.2.2.2.2.2.2)]) (fun s=>St w0 s.1 [(al,.cells #[s.2.2.2.2.2.2.2.1,s.2.2.2.2.2.1] 141 (0,0)),(H,.cells #[s.2.2.1,B] 47 (0,0)),(O,.cells #[.slice none 0 0,.slice none 0 0] 47 (0,0))] [ob s.2.2.2.2.2.2.2.1,ob s.2.2.2.2.2.1,D,ob B,s.2.2.2.1,ob s.2.2.1]) (fun m s=>gD N s2 s3 (fH N G n1) x1 m s.2.1 s.2.2.2.2.1 s.2.2.2.2.2.2.1 s.2.2.2.2.2.2.2.2=some r∧(OSl de 137 4 s.1 s.2.2.2.1 s.2.2.1 s.2.1)∧(OSl bJ 141 2 s.1 D B s2)∧(OSl (RI .i64) 3 1 s.1 [] s.2.2.2.2.2.1 s.2.2.2.2.1)∧(OSl (RI .i64) 3 1 s.1 [] s.2.2.2.2.2.2.2.1 s.2.2.2.2.2.2.1)) (ak,s1,u1,D1,([]:List Int),(.slice none 0 0),([]:List Int),(.slice none 0 0),0) N ⟨h,S,p,k5,k6⟩ (sx [0,0,0,0,0,0] [0,1,1]) (fun n2 ay s hm=>?_)
  obtain⟨aK,s4,u3,D3,s5,w,s6,x,s7⟩:=s
  obtain⟨h,F,p,t,u⟩:=hm
  dsimp only at h F p t u ⊢
  unfold gD at h
  refine att 5 [] J ?_
  refine ch h J ?_ ?_ <;> intro h
  ·refine atr 5 [] J ?_
   obtain⟨x2,aA,h⟩:=bs h
   obtain⟨b8,F2,-,g2,b9,ba,r2⟩:=h1.el (a8 aA).2.2
   obtain⟨v4,G4,rfl,aL,h4⟩:=r2
   obtain rfl:=aL.symm
   refine lia h1 aA J<|lhx 0 3 g2 J<|lnz lI J fun aM=>soN 0 pD J ⟨J,h4.one,J,trivial⟩ J ?_
   refine arr 4 [3] J ?_
   refine WL.frz (js:=[2]) (R:=[(aM,.cells #[.string x2.Kind,v4,.bool x2.Not] 201 (0,0)),(al,.cells #[x,w] 141 (0,0)),(O,.cells #[.slice none 0 0,.slice none 0 0] 47 (0,0))]) J (fun bb T aN=>?_)
   replace F:=F.f0 T
   replace p:=p.f0 T
   replace t:=t.f0 T
   replace u:=u.f0 T
   refine kcb [0,5,4] h J J J J (fun b ap z q=>un N b (⟨s4,s2⟩:ce) x2 F ((p.rslG bJ.gives).x (Dj.app (ap.q 3 J) (ap.q 2 J))) aN (h4.y z) q) ?_
   rintro y h v5 aB F3 ⟨U,an,v6,V,rfl,rfl,A,e1,E⟩
   replace p:=p.fr an (U.q 3 J) (U.q 2 J)
   replace t:=t.fr an (U.q 1 J) dN
   replace u:=u.fr an (U.q 0 J) dN
   refine art 7 [2,0] J ?_
   refine ch h J ?_ ?_ <;> intro h
   ·refine atr 4 [1,32] J ?_
    have aO:RC (RI .i64) 1 aB ([[]]:List (List Nat)) [iV y.1] ([y.1]:List Int):=RC.cons (c:=[iV y.1]) (cells:=[]) ⟨J,J⟩ J (RC.nil _ _ _)
    refine le' (bz (vs:=[(0,iV y.1)]) (C:=#[iV y.1]) RI.lasts cq mg J J J J (ar ki (aa (C':=[iV y.1]) J J J J J (ae))) J aO J (by simpa using Kw.nil)) J ?_
    rintro v7 aP D5 ⟨P,h7⟩
    replace h7:OSl (RI .i64) 3 1 aP [] v7 ([y.1]:List Int):=by simpa using h7
    replace p:=p.f0 P
    replace t:=t.f0 P
    replace u:=u.f0 P
    replace A:=A.f0 P
    replace E:=P _ _ NS E
    obtain⟨x4,aQ,h⟩:=bs h
    refine le' (dM RI.lasts RI.one RI.flat cq sh J J J J J (js:=[5]) (Rr:=[ob v7,[H],ob v6,V,ob x,D,ob B]) J t h7.rsl aQ) J ?_
    rintro v8 bd D6 ⟨⟨I,W⟩,X⟩
    replace p:=p.fr W (I.q 6 J) (I.q 5 J)
    replace u:=u.fr W (I.q 4 J) dN
    replace A:=A.fr W (I.q 2 J) (I.q 3 J)
    replace E:=W _ _ ((I.q 1 J) _ NS) E
    refine lf Am J J J<|so1 1 td J X.one ?_
    refine art 6 [] J ?_
    refine WT.thw (js:=[2]) (R:=[ob v8,ob v7,ob v6,V,ob x,D,ob B]) J E (fun be K Y=>?_)
    replace p:=p.fr Y (K.q 6 J) (K.q 5 J)
    replace X:=X.fr Y (K.q 0 J) dN
    replace u:=u.fr Y (K.q 4 J) dN
    replace A:=A.fr Y (K.q 2 J) (K.q 3 J)
    exact lb [4,0,3,3,2,1] [2,0,1] (ay (_,_,_,_,_,_,_,_,_) ⟨h,A,p,X,u⟩)
   refine atr 4 [0,32] J ?_
   have aR:RC (RI .i64) 1 aB ([[]]:List (List Nat)) [iV y.1] ([y.1]:List Int):=RC.cons (c:=[iV y.1]) (cells:=[]) ⟨J,J⟩ J (RC.nil _ _ _)
   refine le' (bz (vs:=[(0,iV y.1)]) (C:=#[iV y.1]) RI.lasts cq mg J J J J (ar ki (aa (C':=[iV y.1]) J J J J J (ae))) J aR J (by simpa using Kw.nil)) J ?_
   rintro v9 aS D7 ⟨Q,h9⟩
   replace h9:OSl (RI .i64) 3 1 aS [] v9 ([y.1]:List Int):=by simpa using h9
   replace p:=p.f0 Q
   replace t:=t.f0 Q
   replace u:=u.f0 Q
   replace A:=A.f0 Q
   replace E:=Q _ _ NS E
   obtain⟨x5,aT,h⟩:=bs h
   refine le' (dM RI.lasts RI.one RI.flat cq sh J J J J J (js:=[4]) (Rr:=[ob v9,[H],ob v6,V,ob w,D,ob B]) J u h9.rsl aT) J ?_
   rintro v10 bf D8 ⟨⟨L,Z⟩,a7⟩
   replace p:=p.fr Z (L.q 6 J) (L.q 5 J)
   replace t:=t.fr Z (L.q 4 J) dN
   replace A:=A.fr Z (L.q 2 J) (L.q 3 J)
   replace E:=Z _ _ ((L.q 1 J) _ NS) E
   refine lf vN J J J<|so1 1 td J a7.one ?_
   refine art 6 [] J ?_
   refine WT.thw (js:=[2]) (R:=[ob v10,ob v9,ob v6,V,ob w,D,ob B]) J E (fun bg M ab=>?_)
   replace p:=p.fr ab (M.q 6 J) (M.q 5 J)
   replace t:=t.fr ab (M.q 4 J) dN
   replace a7:=a7.fr ab (M.q 0 J) dN
   replace A:=A.fr ab (M.q 2 J) (M.q 3 J)
   exact lb [0,3,3,3,2,1] [2,0,1] (ay (_,_,_,_,_,_,_,_,_) ⟨h,A,p,t,a7⟩)
  refine atr 5 [1,32,2] J ?_
  have aC:RC bJ 2 aK ([(ob x++[])++((ob w++[]))]:List (List Nat)) [x,w] ([(⟨s6,s5⟩:aG)]:List aG):=RC.cons (c:=[x,w]) (cells:=[]) ⟨x,w,J,J,u,t⟩ J (RC.nil _ _ _)
  refine le' (bz (vs:=[(0,.agg [x,w].toArray)]) (C:=#[x,w]) bJ.lasts A7 rE J J J J (ar Cw (aa (C':=[x,w]) J J J J J (ae))) J aC J (RC.kn bJ.knows aC)) J ?_
  rintro v11 aU D9 ⟨aF,ao⟩
  replace ao:OSl bJ 141 2 aU ((ob x++[])++((ob w++[]))) v11 ([(⟨s6,s5⟩:aG)]:List aG):=by simpa[gf] using ao
  replace F:=F.f0 aF
  replace p:=p.f0 aF
  refine wlL [((ob x++[])++((ob w++[]))),ob v11,D,ob B,D3,ob u3] (smg [1,1] J (SP.eq (by simp[gf,cO]))) ?_
  obtain⟨x6,aV,h⟩:=bs h
  refine le' (dS bJ.lasts bJ.one A7 I4 J J J J J (js:=[3]) (Rr:=[((ob x++[])++((ob w++[]))),ob v11,D,D3,ob u3]) J p ao (fun ap=>ap.q 2 J) (fun ap=>ap.q 0 J) aV) J ?_
  rintro v12 bh bj ⟨⟨aH,aW⟩,aI⟩
  replace F:=F.fr aW (aH.q 4 J) (aH.q 3 J)
  refine wlL [(D++((ob x++[])++((ob w++[])))),ob v12,ob v11,D3,ob u3] (smg [3,1] J (SP.eq NS))<|lf BZ J J J<|so1 1 Ki J aI.one ?_
  refine art 6 [] J ?_
  exact lb [0,0,1,1] [1,1] (aJ (_,_,_,_,_,_,_,_) ⟨h,F,aI⟩)
 refine atr 4 [2] J<|soN 1 uO J ⟨S.one,p.one,trivial⟩ J ?_
 refine en ?_
 exact rtg [3,2,1,0] hF (az.one (aX Ee J (fun w1 hw=>hw.rgO (i:=1) J 0 2 [u1,B] J) J)) J (by cases h;exact fun w1 hw=>⟨u1,D1,B,D,rfl,rfl,S,p⟩)
theorem zu (w0:aD d a []) (t:ce) (a7:RSl cK 4 d ai e t.Alphas) (y:RSl eA 2 d b6 ad t.Chains) {r:aN} (h:pt N t=some r) :
  Calls prog 100 [.agg [e,ad].toArray].toArray w0.w (bc a w0.w [] (fun F Fs v=>∃ (z:Value) (G:List Nat) (A:Value) (H:List Nat),v = .agg [z,A].toArray∧Fs=[ob z,G,ob A,H]∧OSl bA 133 1 F G z r.Alphas∧OSl br 100 1 F H A r.Rules)):=by
 refine eN func100 J ntmps100 J w0 fun hF=>?_
 unfold pt at h
 refine sr<|lbx J fun al=>lnz o8 J fun u=>arr 5 [0,32] J<|lnr a7 J ?_
 obtain⟨I,K,h⟩:=bs h
 refine le' (Dm (R:=bA) sQ ta LQ J J J (fun _=>⟨.slice none 0 0,J,J,OSl.nil _ _ _ _⟩) J J (Int.le_refl _) K (Hd K)) J ?_
 rintro v1 L D1 ⟨an,h1⟩
 refine wl0<|lq (bu (vs:=[(0,v1)]) (C:=#[v1,.slice none 0 0]) Ka o8 J (aa (C':=[v1,.slice none 0 0]) J (d6 h1.one) J J J (ae))) J<|lnz o8 J fun w=>soN 0 pZ J ⟨h1.one,J,trivial⟩ J ?_
 refine arr 6 [1,64] J<|lnr y J<|art 3 [] J<|wtS<|wt0 ?_
 have k1:=OSl.nil br 100 1 L
 refine lin (σ:=Hp × (List aP) × Value × List Nat × Int) (fun s=>[(2,pQ u),(3,pQ w),(12,ad),(13,iV (t.Chains.length:Int)),(14,iV s.2.2.2.2)]) (fun s=>St w0 s.1 [(w,.cells #[v1,s.2.2.1] 35 (0,0)),(u,.cells #[.slice none 0 0,.slice none 0 0] 35 (0,0))] [s.2.2.2.1,ob s.2.2.1,[],ob v1]) (fun m s=>iG N t I m s.2.1 s.2.2.2.2=some r∧(OSl bA 133 1 s.1 [] v1 I)∧(OSl br 100 1 s.1 s.2.2.2.1 s.2.2.1 s.2.1)) (L,([]:List aP),(.slice none 0 0),[],0) N ⟨h,h1,k1⟩ (sx [0,0,0,0] [0,0]) (fun n1 ab s hm=>?_)
 obtain⟨ao,s1,p,x,s2⟩:=s
 obtain⟨h,h1,b⟩:=hm
 dsimp only at h h1 b ⊢
 unfold iG at h
 refine att 5 [] J ?_
 refine ch h J ?_ ?_ <;> intro h
 ·refine atr 5 [] J ?_
  obtain⟨x2,M,h⟩:=bs h
  obtain⟨aq,F1,-,g1,au,av,r1⟩:=y.el (a8 M).2.2
  obtain⟨v2,G1,v3,G2,rfl,rfl,O,h3⟩:=r1
  refine lia y M J<|lhx 0 2 g1 J<|lnz rE J fun B=>soN 0 yH J ⟨O.one,h3.one,trivial⟩ J ?_
  refine en<|wm [0,1,2] [10] J<|amm 4 [0,1,1,32,2,0,3,0] [0,1,2] J J<|mq 4 J NQ (kN [0,1,2]) (mK cq J J O) J ?_
  obtain⟨P,Q,h⟩:=bs h
  refine WM.one 5 NQ (me J (fun _ v S D q T hw=>Kn.of Kf.nil (ai3 0 1 2 J J J) hw) (Dm (R:=aV) sP rG Ku J J J (fun _=>⟨.slice none 0 0,[],J,J,OSl.nil _ _ _ _⟩) J J (Int.le_refl _) Q (Hd Q)) J ?_)
  rintro v4 U D3 ⟨V,W⟩
  replace h1:=h1.f0 V
  replace b:=b.f0 V
  refine WM.conv (S':=St w0 U [(B,.cells #[v2,v3] 141 (0,0)),(w,.cells #[v1,p] 35 (0,0)),(u,.cells #[.slice none 0 0,.slice none 0 0] 35 (0,0))] ([] :: [ob v4,x,ob p,[],ob v1])) (fun q hw=>hw.addNil)<|mq 6 J NQ (kN [0,1,2]) (bu (vs:=[(0,v4)]) (C:=#[v4]) H2 od J (aa (C':=[v4]) J (d6 W.one) J J J (ae))) J ?_
  have X:RC br 1 U ([(ob v4++[])]:List (List Nat)) [v4] ([(⟨P⟩:aP)]:List aP):=RC.cons (c:=[v4]) (cells:=[]) ⟨v4,[],J,J,W⟩ J (RC.nil _ _ _)
  refine WM.one 7 NQ (me J (fun _ v S D q T hw=>Kn.of Kf.nil (ai3 0 1 2 J J J) hw) (bz (vs:=[(0,.agg [v4].toArray)]) (C:=#[v4]) br.lasts Ac od J J J J (ar y8 (aa (C':=[v4]) J J J J J (ae))) J X J (RC.kn br.knows X)) J ?_)
  rintro v5 Y D4 ⟨Z,E⟩
  replace E:OSl br 100 1 Y ((ob v4++[])) v5 ([(⟨P⟩:aP)]:List aP):=by simpa[gf] using E
  replace h1:=h1.f0 Z
  replace b:=b.f0 Z
  refine WM.conv (S':=St w0 Y [(B,.cells #[v2,v3] 141 (0,0)),(w,.cells #[v1,p] 35 (0,0)),(u,.cells #[.slice none 0 0,.slice none 0 0] 35 (0,0))] [((ob v4++[])),ob v5,x,ob p,[],ob v1]) (fun q hw=>hw.merge (js:=[2,1]) J (SP.eq (by simp[gf,cO]))) ?_
  obtain⟨x4,af,h⟩:=bs h
  refine WM.one 8 NQ (me J (fun _ v S D q T hw=>Kn.of Kf.nil (ai3 0 1 2 J J J) hw) (dS br.lasts br.one Ac CR J J J J J (js:=[3]) (Rr:=[((ob v4++[])),ob v5,x,[],ob v1]) J b E (fun ap=>ap.q 2 J) (fun ap=>ap.q 0 J) af) J ?_)
  rintro v6 ag D5 ⟨⟨ah,ak⟩,h6⟩
  replace h1:=h1.fr ak (ah.q 4 J) dN
  refine WM.conv (S':=St w0 ag [(B,.cells #[v2,v3] 141 (0,0)),(w,.cells #[v1,p] 35 (0,0)),(u,.cells #[.slice none 0 0,.slice none 0 0] 35 (0,0))] [(x++((ob v4++[]))),ob v6,ob v5,[],ob v1]) (fun q hw=>hw.merge (js:=[3,1]) J (SP.eq NS))<|amm 1 [9,1] [0,1,2] J J ?_
  refine on1 10 (ms1 1 J nk Gz J h6.one ?_)
  refine WM.nil NQ<|att 5 [] J ?_
  exact lb [0,0,1,1] [1,1] (ab (_,_,_,_,_) ⟨h,h1,h6⟩)
 refine atr 4 [2] J<|soN 1 pZ J ⟨h1.one,b.one,trivial⟩ J ?_
 refine en ?_
 exact rtg [3,2,1,0] hF (az.one (aX wK J (fun q hw=>hw.rgO (i:=1) J 0 2 [v1,p] J) J)) J (by cases h;exact fun q hw=>⟨v1,[],p,x,rfl,rfl,h1,b⟩)
theorem AA (w0:aD d a []) (t:bv) (p:ac) (I:RSl fb 5 d ai e t.Rules) (u:RSl aY 3 d b0 j p.Items) {r:aN} (h:tA N t p=some r) :
  Calls prog 42 [.agg [.string t.Name,e].toArray,.agg [j,iV p.Next].toArray].toArray w0.w (bc a w0.w [] (fun K Fs v=>∃ (E:Value) (L:List Nat) (F:Value) (M:List Nat),v = .agg [E,F].toArray∧Fs=[ob E,L,ob F,M]∧OSl bA 133 1 K L E r.Alphas∧OSl br 100 1 K M F r.Rules)):=by
 refine eN func42 J ntmps42 J w0 fun hF=>?_
 unfold tA at h
 refine sr<|lbx J fun O=>lbx J fun P=>lnz o8 J fun Q=>arr 4 [66] J<|kab h J J J (fun b z q=>vo N b t (I.y z) q) ?_
 rintro w h v1 ak F1 ⟨al,an,v2,G,v3,H,rfl,rfl,h1,c⟩
 refine lnz sI J fun S=>soN 0 uO J ⟨h1.one,c.one,trivial⟩ J ?_
 refine arr 4 [2] J<|kab h J J J (fun b z q=>zu N b w (h1.rslG de.gives) (c.rslG bJ.gives) q) ?_
 rintro T h v4 ab F2 ⟨x,U,v5,D3,v6,D4,rfl,rfl,V,W⟩
 replace h1:=h1.fr U (x.q 0 J) (x.q 1 J)
 replace c:=c.fr U (x.q 2 J) (x.q 3 J)
 refine lnz o8 J fun X=>soN 0 pZ J ⟨V.one,W.one,trivial⟩ J ?_
 refine arr 6 [0,96] J<|lnr u J<|art 3 [] J ?_
 refine lin (σ:=Hp × (List bF) × List Nat × (List aP) × List Nat × Int) (fun s=>[(2,pQ O),(3,pQ P),(4,pQ Q),(5,pQ S),(6,pQ X),(14,j),(15,iV (p.Items.length:Int)),(16,iV s.2.2.2.2.2)]) (fun s=>St w0 s.1 [(X,.cells #[v5,v6] 35 (0,0)),(S,.cells #[v2,v3] 47 (0,0)),(Q,.cells #[.slice none 0 0,.slice none 0 0] 35 (0,0)),(P,.cells #[j,iV p.Next] 29 (0,0)),(O,.cells #[.string t.Name,e] 26 (0,0))] [ob v5,s.2.2.1,ob v6,s.2.2.2.2.1,ob v2,G,ob v3,H]) (fun m s=>iu N t p w m s.2.1 s.2.2.2.1 s.2.2.2.2.2=some r∧(OSl de 137 4 s.1 G v2 w.Alphas)∧(OSl bJ 141 2 s.1 H v3 w.Chains)∧(OSl bA 133 1 s.1 s.2.2.1 v5 s.2.1)∧(OSl br 100 1 s.1 s.2.2.2.2.1 v6 s.2.2.2.1)) (ab,T.Alphas,D3,T.Rules,D4,0) N ⟨h,h1,c,V,W⟩ (sx [0,0,0,0,0,0,0,0] [0,0,0,0,0]) (fun n1 af s hm=>?_)
 obtain⟨ao,s1,D5,s2,D6,y⟩:=s
 obtain⟨h,h1,c,A,B⟩:=hm
 dsimp only at h h1 c A B ⊢
 unfold iu at h
 refine att 5 [] J ?_
 refine ch h J ?_ ?_ <;> intro h
 ·refine atr 6 [] J ?_
  obtain⟨x3,Y,h⟩:=bs h
  obtain⟨aq,F3,-,g1,ar,au,r1⟩:=u.el (a8 Y).2.2
  obtain⟨v7,G1,rfl,ag,h5⟩:=r1
  obtain rfl:=ag.symm
  refine lia u Y J<|lhx 0 3 g1 J<|lnz ox J fun av=>la J<|soN 0 wT J ⟨J,J,h5.one,trivial⟩ J ?_
  refine en<|wm [0,1,2,3,4,5] [13] J<|amm 7 [0,162,1,66,2,34,3,0,4,128,5,6] [0,1,2,3,4,5] J J ?_
  obtain⟨x4,Z,h⟩:=bs h
  refine mqT 7 [10,13] J NQ (kN [0,1,2,3,4,5]) (Kp mN J J u Z) J ?_
  obtain⟨F4,h6,aw⟩:=u.sub Z
  refine amm 2 [8,1,9,128] [0,1,2,3,4,5] J J<|mq 10 J NQ (kN [0,1,2,3,4,5]) (bu (vs:=[(0,(slc j (0:Int).toNat (wz (y+1)).toNat 3)),(1,iV p.Next)]) (C:=#[(slc j (0:Int).toNat (wz (y+1)).toNat 3),iV p.Next]) EZ o3 J (aa (C':=[(slc j (0:Int).toNat (wz (y+1)).toNat 3),iV 0]) J (d6 h6.one) J J J (aa (C':=[(slc j (0:Int).toNat (wz (y+1)).toNat 3),iV p.Next]) J J J J J (ae)))) J<|amm 2 [11,0,12,0] [0,1,2,3,4,5] J J ?_
  obtain⟨x5,ah,h⟩:=bs h
  refine WM.one 13 NQ (mc J (fun hc=>by cases hc) (bH (js:=[0,0,0,0]) (R:=[ob v2,G,ob v3,H]) Le J J (fun w1 hw ap hl=>tg N (bx hw ap hl) t w (⟨s1,s2⟩:aN) (⟨x4,p.Next⟩:ac) x3.Id (I.y (hw.uo ap)) ((h1.rslG de.gives).x (Dj.app (ap.q 0 J) (ap.q 1 J))) ((c.rslG bJ.gives).x (Dj.app (ap.q 2 J) (ap.q 3 J))) A B (h6.y (hw.uo ap))  ah)) J ?_)
  rintro v8 ax F5 ⟨D,a7,D7,D8,rfl,rfl,h7,h8⟩
  replace h1:=h1.fr a7 (D.q 0 J) (D.q 1 J)
  replace c:=c.fr a7 (D.q 2 J) (D.q 3 J)
  refine WM.nil NQ<|att 5 [] J ?_
  exact lb [0,0,0,0,0,0,0,0] [1,1,1,1,1] (af (_,_,_,_,_,_) ⟨h,h1,c,h7,h8⟩)
 refine atr 4 [2] J<|soN 2 pZ J ⟨A.one,B.one,trivial⟩ J ?_
 refine en ?_
 exact rtg [0,0,0,0] hF (az.one (aX wK J (fun w1 hw=>hw.rgO (i:=2) J 0 2 [v5,v6] J) J)) J (by cases h;exact fun w1 hw=>⟨v5,D5,v6,D6,rfl,rfl,A,B⟩)
theorem ja {c:Nat} {p:List Value} (w0:aD d a []) (b:(List bF)) (q:(List bF)) (t:bF→bF→Option (Bool)) (u:RSl im 1 d b4 n b) (w:RSl im 1 d b5 k q) (H:Fun prog c=true) (I:∀ {v:Hp} {w':World},FrH [] a v→In v w'→∀ (y:bF) (z:bF) {A:Value} {K:List Nat} {B:Value} {L:List Nat} (_:RSl (RI .i64) 1 v K A y.L) (_:RSl (RI .i64) 1 v L B z.L) {r:Bool},t y z=some r→Calls prog c (([.agg [A].toArray,.agg [B].toArray]:List Value)++p).toArray w' (lw (.bool r) w')) {r:Bool} (h:bM N b q t=some r) :
  CB w0 prog 109 [n,k,.func (.func c) #[] p.toArray] (.bool r):=by
 refine eN func109 J ntmps109 J w0 fun x=>?_
 unfold bM at h
 refine atr 8 [] J<|lnr u J<|la J<|lnr w J<|la J<|en ?_
 refine ch h J ?_ ?_ <;> intro h
 ·refine att 4 [] J ?_
  exact rt x h
 refine atr 5 [] J<|lnr u J<|art 3 [] J ?_
 refine lin (σ:=Int) (fun s=>[(1,k),(2,.func (.func c) #[] p.toArray),(15,n),(16,iV (b.length:Int)),(17,iV s)]) (fun s=>St w0 a [] []) (fun m s=>aL N b q t m s=some r) (0) N h (sx [] []) (fun M O s hm=>?_)
 revert hm;revert s;intro s1 hm
 have h:aL N b q t (M+1) s1=some r:=hm
 show WT _ _ [(1,k),(2,.func (.func c) #[] p.toArray),(15,n),(16,iV (b.length:Int)),(17,iV s1)] (St w0 a [] [])
 unfold aL at h
 refine att 5 [] J ?_
 refine ch h J ?_ ?_ <;> intro h
 ·refine atr 6 [] J ?_
  obtain⟨P,D,h⟩:=bs h
  obtain⟨W,X,-,g1,Y,Z,Q⟩:=u.el (a8 D).2.2
  obtain⟨v1,G1,rfl,R,h1⟩:=Q
  obtain rfl:=R.symm
  refine lia u D J<|lhx 0 1 g1 J ?_
  refine ln (ip (C:=#[.slice none 0 0]) ta J) J (fun a7=>?_)
  refine la J<|soN 0 DC J ⟨h1.one,trivial⟩ J ?_
  refine arr 5 [] J ?_
  obtain⟨S,E,h⟩:=bs h
  obtain⟨aa,F2,-,g2,ab,ae,T⟩:=w.el (a8 E).2.2
  obtain⟨v2,G2,rfl,U,F⟩:=T
  obtain rfl:=U.symm
  refine lia w E J<|lhx 0 1 g2 J ?_
  refine ln (ip (C:=#[.slice none 0 0]) ta J) J (fun af=>?_)
  refine soN 0 DC J ⟨F.one,trivial⟩ J ?_
  refine arr 4 [] J<|lq (aw Gn J (fun G hw=>hw.rgO (i:=1) J 0 1 [v1] J) J) J<|lq (aw Gn J (fun G hw=>hw.rgO (i:=0) J 0 1 [v2] J) J) J ?_
  obtain⟨x3,V,h⟩:=bs h
  refine lp (kK H J J (fun G hw=>I hw.frB hw.fro P S (h1.y hw.up) (F.y hw.up) V)) J<|la J<|en ?_
  refine ch h J ?_ ?_ <;> intro h
  ·refine att 4 [] J ?_
   exact rt x h
  refine att 6 [] J ?_
  exact lb [] [] (O _ h)
 refine att 5 [] J ?_
 exact rt x h
theorem uK (w0:aD d a []) (b:bF) (c:bF) (i:RSl (RI .i64) 1 d ai e b.L) (m:RSl (RI .i64) 1 d b0 j c.L) {r:Bool} (h:i7 N b c=some r) :
  CB w0 prog 110 [.agg [e].toArray,.agg [j].toArray] (.bool r):=by
 refine eN func110 J ntmps110 J w0 fun p=>?_
 unfold i7 at h
 refine sr ?_
 refine ln (wM (C:=#[e]) J J) J (fun q=>?_)
 refine ln (wM (C:=#[j]) J J) J (fun s=>?_)
 refine arr 8 [0,32,0,0] J<|qd h (eQ N · b.L c.L i m ·) J J J fun t h=>la J<|en ?_
 exact rt p h
theorem j7 {c:Nat} {p:List Value} (w0:aD d a []) (b:(List aP)) (q:(List aP)) (t:aP→aP→Option (Bool)) (u:RSl l7 1 d b4 n b) (w:RSl l7 1 d b5 k q) (H:Fun prog c=true) (I:∀ {v:Hp} {w':World},FrH [] a v→In v w'→∀ (y:aP) (z:aP) {A:Value} {K:List Nat} {B:Value} {L:List Nat} (_:RSl iv 1 v K A y.Levels) (_:RSl iv 1 v L B z.Levels) {r:Bool},t y z=some r→Calls prog c (([.agg [A].toArray,.agg [B].toArray]:List Value)++p).toArray w' (lw (.bool r) w')) {r:Bool} (h:bL N b q t=some r) :
  CB w0 prog 111 [n,k,.func (.func c) #[] p.toArray] (.bool r):=by
 refine eN func111 J ntmps111 J w0 fun x=>?_
 unfold bL at h
 refine atr 8 [] J<|lnr u J<|la J<|lnr w J<|la J<|en ?_
 refine ch h J ?_ ?_ <;> intro h
 ·refine att 4 [] J ?_
  exact rt x h
 refine atr 5 [] J<|lnr u J<|art 3 [] J ?_
 refine lin (σ:=Int) (fun s=>[(1,k),(2,.func (.func c) #[] p.toArray),(15,n),(16,iV (b.length:Int)),(17,iV s)]) (fun s=>St w0 a [] []) (fun m s=>aM N b q t m s=some r) (0) N h (sx [] []) (fun M O s hm=>?_)
 revert hm;revert s;intro s1 hm
 have h:aM N b q t (M+1) s1=some r:=hm
 show WT _ _ [(1,k),(2,.func (.func c) #[] p.toArray),(15,n),(16,iV (b.length:Int)),(17,iV s1)] (St w0 a [] [])
 unfold aM at h
 refine att 5 [] J ?_
 refine ch h J ?_ ?_ <;> intro h
 ·refine atr 6 [] J ?_
  obtain⟨P,D,h⟩:=bs h
  obtain⟨W,X,-,g1,Y,Z,Q⟩:=u.el (a8 D).2.2
  obtain⟨v1,G1,rfl,R,h1⟩:=Q
  obtain rfl:=R.symm
  refine lia u D J<|lhx 0 1 g1 J ?_
  refine ln (ip (C:=#[.slice none 0 0]) od J) J (fun a7=>?_)
  refine la J<|soN 0 wx J ⟨h1.one,trivial⟩ J ?_
  refine arr 5 [] J ?_
  obtain⟨S,E,h⟩:=bs h
  obtain⟨aa,F2,-,g2,ab,ae,T⟩:=w.el (a8 E).2.2
  obtain⟨v2,G2,rfl,U,F⟩:=T
  obtain rfl:=U.symm
  refine lia w E J<|lhx 0 1 g2 J ?_
  refine ln (ip (C:=#[.slice none 0 0]) od J) J (fun af=>?_)
  refine soN 0 wx J ⟨F.one,trivial⟩ J ?_
  refine arr 4 [] J<|lq (aw AS J (fun G hw=>hw.rgO (i:=1) J 0 1 [v1] J) J) J<|lq (aw AS J (fun G hw=>hw.rgO (i:=0) J 0 1 [v2] J) J) J ?_
  obtain⟨x3,V,h⟩:=bs h
  refine lp (kK H J J (fun G hw=>I hw.frB hw.fro P S (h1.y hw.up) (F.y hw.up) V)) J<|la J<|en ?_
  refine ch h J ?_ ?_ <;> intro h
  ·refine att 4 [] J ?_
   exact rt x h
  refine att 6 [] J ?_
  exact lb [] [] (O _ h)
 refine att 5 [] J ?_
 exact rt x h
theorem gX {c:Nat} {p:List Value} (w0:aD d a []) (b:(List aq)) (q:(List aq)) (t:aq→aq→Option (Bool)) (u:RSl iv 1 d b4 n b) (w:RSl iv 1 d b5 k q) (H:Fun prog c=true) (I:∀ {v:Hp} {w':World},FrH [] a v→In v w'→∀ (y:aq) (z:aq) {A:Value} {K:List Nat} {B:Value} {L:List Nat} (_:RSl dW 2 v K A y.Toks) (_:RSl dW 2 v L B z.Toks) {r:Bool},t y z=some r→Calls prog c (([.agg [A].toArray,.agg [B].toArray]:List Value)++p).toArray w' (lw (.bool r) w')) {r:Bool} (h:bK N b q t=some r) :
  CB w0 prog 113 [n,k,.func (.func c) #[] p.toArray] (.bool r):=by
 refine eN func113 J ntmps113 J w0 fun x=>?_
 unfold bK at h
 refine atr 8 [] J<|lnr u J<|la J<|lnr w J<|la J<|en ?_
 refine ch h J ?_ ?_ <;> intro h
 ·refine att 4 [] J ?_
  exact rt x h
 refine atr 5 [] J<|lnr u J<|art 3 [] J ?_
 refine lin (σ:=Int) (fun s=>[(1,k),(2,.func (.func c) #[] p.toArray),(15,n),(16,iV (b.length:Int)),(17,iV s)]) (fun s=>St w0 a [] []) (fun m s=>aB N b q t m s=some r) (0) N h (sx [] []) (fun M O s hm=>?_)
 revert hm;revert s;intro s1 hm
 have h:aB N b q t (M+1) s1=some r:=hm
 show WT _ _ [(1,k),(2,.func (.func c) #[] p.toArray),(15,n),(16,iV (b.length:Int)),(17,iV s1)] (St w0 a [] [])
 unfold aB at h
 refine att 5 [] J ?_
 refine ch h J ?_ ?_ <;> intro h
 ·refine atr 6 [] J ?_
  obtain⟨P,D,h⟩:=bs h
  obtain⟨W,X,-,g1,Y,Z,Q⟩:=u.el (a8 D).2.2
  obtain⟨v1,G1,rfl,R,h1⟩:=Q
  obtain rfl:=R.symm
  refine lia u D J<|lhx 0 1 g1 J ?_
  refine ln (ip (C:=#[.slice none 0 0]) rG J) J (fun a7=>?_)
  refine la J<|soN 0 Ar J ⟨h1.one,trivial⟩ J ?_
  refine arr 5 [] J ?_
  obtain⟨S,E,h⟩:=bs h
  obtain⟨aa,F2,-,g2,ab,ae,T⟩:=w.el (a8 E).2.2
  obtain⟨v2,G2,rfl,U,F⟩:=T
  obtain rfl:=U.symm
  refine lia w E J<|lhx 0 1 g2 J ?_
  refine ln (ip (C:=#[.slice none 0 0]) rG J) J (fun af=>?_)
  refine soN 0 Ar J ⟨F.one,trivial⟩ J ?_
  refine arr 4 [] J<|lq (aw CC J (fun G hw=>hw.rgO (i:=1) J 0 1 [v1] J) J) J<|lq (aw CC J (fun G hw=>hw.rgO (i:=0) J 0 1 [v2] J) J) J ?_
  obtain⟨x3,V,h⟩:=bs h
  refine lp (kK H J J (fun G hw=>I hw.frB hw.fro P S (h1.y hw.up) (F.y hw.up) V)) J<|la J<|en ?_
  refine ch h J ?_ ?_ <;> intro h
  ·refine att 4 [] J ?_
   exact rt x h
  refine att 6 [] J ?_
  exact lb [] [] (O _ h)
 refine att 5 [] J ?_
 exact rt x h
end Go.Proofs.YtedmfnmbjglmbaaGreat
