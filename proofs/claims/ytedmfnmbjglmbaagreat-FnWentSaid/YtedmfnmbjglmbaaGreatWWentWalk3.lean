/- Printed by a program of ours: each Go function computes its Lean function. -/
import Derived.Test.YtedmfnmbjglmbaaGreatProg
import Derived.Test.YtedmfnmbjglmbaaGreatWWentWalk2
namespace Go.Proofs.YtedmfnmbjglmbaaGreat
open Eng Tryz
open Go.RowKit (Below)
set_option linter.unusedVariables false
set_option linter.unusedSimpArgs false
set_option maxRecDepth 100000
set_option maxHeartbeats 1000000
variable {d a:Hp} {e j a6 f g ai l k ad:Value} {aj b0 b7 aE a1 pG3_0 b4 b5 b6 o pD0:List Nat} {n:Nat} (N:Nat)
theorem tA (w0:aA d a [ob f,aE,ob g,a1].flatten) (A:bf) (O:bH) (E:aJ) (x:ae) (p:Int) (P:RSl eK 5 d aj e A.Rules) (aF:RSl cF 4 d b0 j O.Alphas) (Q:RSl ei 2 d b7 a6 O.Chains) (aG:OSl bb 133 1 a aE f E.Alphas) (t:OSl aZ 100 1 a a1 g E.Rules) (Z:RSl br 3 d pG3_0 ai x.Items) {r:(List bk) × (List aH)} (h:mK N A O E x p=some r) :
  Calls prog 68 [.agg [.string A.Name,e].toArray,.agg [j,a6].toArray,.agg [f,g].toArray,.agg [ai,iV x.Next].toArray,iV p].toArray w0.w (bc a w0.w [ob f,aE,ob g,a1].flatten (fun aV Fs v=>∃ (aX:List Nat) (b1:List Nat),v = .tuple #[]∧Fs=[ob f,aX,ob g,b1]∧OSl bb 133 1 aV aX f r.1∧OSl aZ 100 1 aV b1 g r.2)):=by
 refine eL func68 J ntmps68 J (L:=[ob f,aE,ob g,a1]) w0 (fun hF=>?_)
 unfold mK at h
 refine sr<|lbx J fun S=>lbx J fun T=>lbx J fun U=>lbx J fun V=>arr 5 [2] J<|kab h J J J (fun b z q=>o2 N b x p (Z.y z) q) ?_
 rintro x1 h v1 bl F1 ⟨aw,b2,v2,rfl,rfl,h1⟩
 replace aG:=aG.fr b2 (aw.q 0 J) (aw.q 1 J)
 replace t:=t.fr b2 (aw.q 2 J) (aw.q 3 J)
 refine arr 3 [] J<|lnz ni J fun aI=>soN 0 oq J ⟨J,h1.one,trivial⟩ J ?_
 refine arr 7 [0,96] J<|lnr aF J<|art 3 [] J ?_
 refine lin (σ:=Hp × (List bk) × List Nat × Int) (fun s=>[(4,iV p),(5,pQ S),(6,pQ T),(7,pQ U),(8,pQ V),(10,pQ aI),(24,j),(25,iV (O.Alphas.length:Int)),(26,iV s.2.2.2)]) (fun s=>St w0 s.1 [(aI,.cells #[.string x1.1.Kind,v2] 52 (0,0)),(V,.cells #[ai,iV x.Next] 29 (0,0)),(U,.cells #[f,g] 35 (0,0)),(T,.cells #[j,a6] 47 (0,0)),(S,.cells #[.string A.Name,e] 26 (0,0))] [ob v2,ob f,s.2.2.1,ob g,a1]) (fun m s=>fd N A O E x p x1 m s.2.1 s.2.2.2=some r∧(OSl bb 133 1 s.1 s.2.2.1 f s.2.1)∧(OSl aZ 100 1 s.1 a1 g E.Rules)∧(OSl aY 95 3 s.1 [] v2 x1.1.Fields)) (bl,E.Alphas,aE,0) N ⟨h,aG,t,h1⟩ (sx [0,0,0,0,0] [0,0,0,0,0]) (fun n1 b3 s hm=>?_)
 obtain⟨ax,s1,K,s2⟩:=s
 obtain⟨h,u,t,h1⟩:=hm
 dsimp only at h u t h1 ⊢
 unfold fd at h
 refine att 5 [] J ?_
 refine ch h J ?_ ?_<;>intro h
 ·refine atr 6 [] J ?_
  obtain⟨x2,b8,h⟩:=bs h
  obtain⟨bW,F2,-,g1,bX,bY,r1⟩:=aF.el (a8 b8).2.2
  obtain⟨v3,G1,v4,G2,rfl,rfl,h2,h3⟩:=r1
  refine lia aF b8 J<|lhx 0 4 g1 J<|lnz nL J fun bm=>la J<|soN 0 rZ J ⟨J,J,h2.one,h3.one,trivial⟩ J ?_
  refine arr 5 [4,34] J<|qz h (fun b z q=>zZ N b x2 x1.1 (h2.y z) (h3.y z) h1.rsl q) J J J fun x3 h=>en ?_
  refine ch h J ?_ ?_<;>intro h
  ·obtain⟨x4,aL,h⟩:=bs h
   obtain⟨bZ,F3,D2,G,r2,aM,bn⟩:=u.focus aL
   obtain⟨v5,rfl,rfl,h5⟩:=r2
   refine wtL [ob v5,D2,ob v2,ob f,ob g,a1] (sre [2] [ob v5,D2] J (by simpa[gi] using bn))<|WT.mix (Kn w0 ax (ob f) [(bm,.cells #[.string x2.Kind,iV x2.N,v3,v4] 137 (0,0)),(aI,.cells #[.string x1.1.Kind,v2] 52 (0,0)),(V,.cells #[ai,iV x.Next] 29 (0,0)),(U,.cells #[f,g] 35 (0,0)),(T,.cells #[j,a6] 47 (0,0)),(S,.cells #[.string A.Name,e] 26 (0,0))]) (fun i=>match i with | 14=>false | _=>true) mixed (fun _ h=>h.drew) ?_
   refine mq 0 J OU (kn Kf.id (am [0,1,2,3,4,5] J)) (au jq J) J<|mq 1 J OU (kn Kf.id (am [0,1,2,3,4,5] J)) (aW yx J (fun B hw=>hw.rgO (i:=3) J 0 1 [f] J)) J<|ma 2 J OU (kn Kf.id (am [0,1,2,3,4,5] J)) J<|mq 3 J OU (kn Kf.id (am [0,1,2,3,4,5] J)) (au jq J) J<|mq 4 J OU (kn Kf.id (am [0,1,2,3,4,5] J)) (aW yx J (fun B hw=>hw.rgO (i:=3) J 0 1 [f] J)) J ?_
   refine ma 5 J OU (kn Kf.id (am [0,1,2,3,4,5] J)) J<|mq 6 J OU (kn Kf.id (am [0,1,2,3,4,5] J)) (bT rn J J G aL) J<|mq 7 J OU (kn Kf.id (am [0,1,2,3,4,5] J)) (au jx J) J<|mq 8 J OU (kn Kf.id (am [0,1,2,3,4,5] J)) (aW sR J (fun B hw=>hw.rg G.hb (G.rg.of_eq 0 1 J J:rg _ _ _ [v5]))) J<|ma 9 J OU (kn Kf.id (am [0,1,2,3,4,5] J)) J ?_
   have bo:RC (RI .i64) 1 ax ([[]]:List (List Nat)) [iV p] ([p]:List Int):=RC.cons (c:=[iV p]) (cells:=[]) ⟨J,J⟩ J (RC.nil _ _ _)
   refine WM.one 10 OU (me J (fun _ v bp D B hq hw=>Kn.of (Kf.id.se hq.1) (am [0,1,2,3,4,5] J) hw) (bC (vs:=[(0,iV p)]) (C:=#[iV p]) RI.lasts bR mj J J J J (av kL (aa (C':=[iV p]) J J J J J (af))) J bo J (by simpa using Kw.nil)) J ?_)
   rintro v6 bq D3 ⟨a7,h6⟩
   replace h6:OSl (RI .i64) 3 1 bq [] v6 ([p]:List Int):=by simpa using h6
   replace G:=G.f0 a7
   replace t:=t.f0 a7
   replace h1:=h1.f0 a7
   replace h5:=h5.f0 a7
   obtain⟨x5,bt,h⟩:=bs h
   have aM:=(Kf.id (F:=(ob f)):Kf ax _ _).se a7
   refine WM.one 11 OU (me J (fun _ v bp D B hq hw=>Kn.of (aM.st hq.1.2 (hq.1.1.r (i:=3) J)) (am [0,1,2,3,4,5] J) hw) (dW RI.lasts RI.one RI.flat bR tt J J J J J (js:=[1]) (Rr:=[ob v6,D2,ob v2,ob f,ob g,a1]) J h5 h6.rsl bt) J ?_)
   rintro v7 c0 D4 ⟨⟨W,az⟩,h7⟩
   replace G:=G.fr az (W.q 3 J) (W.q 1 J)
   replace t:=t.fr az (W.q 4 J) (W.q 5 J)
   replace h1:=h1.fr az (W.q 2 J) dN
   have aN:=aM.st az (W.q 3 J)
   refine mqT 12 [13,14] J OU (kn aN (am [0,1,2,3,4,5] J)) (bT rn J J G aL) J<|mq 13 J OU (kn aN (am [0,1,2,3,4,5] J)) (au jx J) J ?_
   refine WM.one 14 OU (mu J (fun hc=>by cases hc) (us [4] [ob v7,ob v6,D2,ob v2,ob g,a1] 0 bb.lasts sO J J h7.one J G J (fun ap=>ap.q 2 J)) J ?_)
   rintro bu D5 ⟨⟨aC,aO⟩,h8⟩
   replace t:=t.fr aO (aC.q 4 J) (aC.q 5 J)
   replace h1:=h1.fr aO (aC.q 3 J) dN
   replace h7:=h7.fr aO (aC.q 0 J) dN
   refine WM.nil OU<|att 5 [] J ?_
   have r3:bb bu _ [v7] (⟨x5⟩:bk):=⟨v7,J,J,h7⟩
   obtain⟨D6,h9,bw⟩:=h8.unfocus r3 (bb.knows _ _ _ _ r3)
   refine wtL [D6,ob f,ob v6,ob v2,ob g,a1] (smg [1,2] J (by simpa[gi,cK] using bw)) ?_
   exact lb [3,1,0,1,1] [1,1,1,1,1] (b3 (_,_,_,_) ⟨h,h9,t,h1⟩)
  refine att 6 [] J ?_
  exact lb [0,0,0,0,0] [1,1,1,1,1] (b3 (_,_,_,_) ⟨h,u,t,h1⟩)
 refine atr 5 [1,64] J<|lno t J<|art 3 [] J ?_
 refine lin (σ:=Hp × (List aH) × List Nat × Int) (fun s=>[(4,iV p),(5,pQ S),(6,pQ T),(7,pQ U),(8,pQ V),(50,g),(51,iV (E.Rules.length:Int)),(52,iV s.2.2.2)]) (fun s=>St w0 s.1 [(V,.cells #[ai,iV x.Next] 29 (0,0)),(U,.cells #[f,g] 35 (0,0)),(T,.cells #[j,a6] 47 (0,0)),(S,.cells #[.string A.Name,e] 26 (0,0))] [ob f,K,ob g,s.2.2.1]) (fun m s=>fj N A O E x p s1 m s.2.1 s.2.2.2=some r∧(OSl bb 133 1 s.1 K f s1)∧(OSl aZ 100 1 s.1 s.2.2.1 g s.2.1)) (ax,E.Rules,a1,0) N ⟨h,u,t⟩ (sx [1,1,1,1] [1,1,1,1]) (fun n2 bz s hm=>?_)
 obtain⟨c3,s3,D7,s4⟩:=s
 obtain⟨h,u,k2⟩:=hm
 dsimp only at h u k2 ⊢
 unfold fj at h
 refine att 5 [] J ?_
 refine ch h J ?_ ?_<;>intro h
 ·refine atr 6 [] J ?_
  obtain⟨x6,b9,h⟩:=bs h
  obtain⟨c4,F4,D8,H,r4,aN,bA⟩:=k2.focus b9
  obtain⟨y,D9,rfl,rfl,ab⟩:=r4
  refine wlL [ob y,D9,D8,ob f,K,ob g] (sre [3] [ob y,D9,D8] J (by simpa[gi] using bA))<|lih H b9 J<|lgx 0 1 H.rg J ?_
  refine ln (iu (C:=#[.slice none 0 0]) ny J) J (fun ba=>?_)
  refine la J<|soN 0 ve J ⟨ab.one,trivial⟩ J ?_
  refine arr 9 [130,98,66,34] J<|kab h J J J (fun b z q=>sZ N b A O (⟨s1,s3⟩:aJ) x p s4 (P.y z) (Q.y z) (u.rslG bb.gives) (Z.y z) q) ?_
  rintro M h v9 bd F5 ⟨X,aP,v10,c5,v11,c6,v12,G3,aQ,G4,aR,G5,aT,G6,rfl,rfl,ag,i1,ah,i2,ak,i3,al,i4,an,i5,ao,i6⟩
  replace u:=u.fr aP (X.q 3 J) (X.q 4 J)
  replace H:=H.fr aP (X.q 5 J) (X.q 2 J)
  replace ab:=ab.fr aP (X.q 0 J) (X.q 1 J)
  refine lnz Eh J fun be=>soN 0 IP J ⟨ag.one,ah.one,ak.one,al.one,an.one,ao.one,J,J,trivial⟩ J ?_
  refine en<|sq<|WT.mix (Kn w0 bd (ob y) [(be,.cells #[v10,v11,v12,aQ,aR,aT,iV M.s.Next,iV M.id] 191 (0,0)),(ba,.cells #[y] 100 (0,0)),(V,.cells #[ai,iV x.Next] 29 (0,0)),(U,.cells #[f,g] 35 (0,0)),(T,.cells #[j,a6] 47 (0,0)),(S,.cells #[.string A.Name,e] 26 (0,0))]) (fun i=>match i with | 10=>false | _=>true) mixed (fun _ h=>h.drew) ?_
  refine mq 0 J OU (kn Kf.id (am [0,1,2,3,4,5] J)) (ay I9 J (fun B hw=>hw.rgO (i:=0) J 0 8 [v10,v11,v12,aQ,aR,aT,iV M.s.Next,iV M.id] J) J) J<|mqT 1 [2,7,8,9,10] J OU (kn Kf.id (am [0,1,2,3,4,5] J)) (au iA J) J<|mqT 2 [7,8,9,10] J OU (kn Kf.id (am [0,1,2,3,4,5] J)) (aW AX J (fun B hw=>hw.rgO (i:=1) J 0 1 [y] J)) J ?_
  refine mqT 3 [4,5,6,7,8,9,10] J OU (kn Kf.id (am [0,1,2,3,4,5] J)) (au iA J) J<|mqT 4 [5,6,7,8,9,10] J OU (kn Kf.id (am [0,1,2,3,4,5] J)) (aW AX J (fun B hw=>hw.rgO (i:=1) J 0 1 [y] J)) J<|mqT 5 [6,7,8,9,10] J OU (kn Kf.id (am [0,1,2,3,4,5] J)) (mm qf J J (ab.rslG aS.gives)) J<|mqT 6 [7,8,9,10] J OU (kn Kf.id (am [0,1,2,3,4,5] J)) (Ct J J) J ?_
  obtain⟨x8,bg,h⟩:=bs h
  obtain⟨c7,F6,aU,Y,r5,c8,bB⟩:=ab.focus bg
  obtain⟨aq,bh,rfl,rfl,bD⟩:=r5
  refine WM.conv (S':=St w0 bd [(be,.cells #[v10,v11,v12,aQ,aR,aT,iV M.s.Next,iV M.id] 191 (0,0)),(ba,.cells #[y] 100 (0,0)),(V,.cells #[ai,iV x.Next] 29 (0,0)),(U,.cells #[f,g] 35 (0,0)),(T,.cells #[j,a6] 47 (0,0)),(S,.cells #[.string A.Name,e] 26 (0,0))] [ob aq,bh,aU,ob v10,ob v11,ob y,D8,ob f,K,ob g]) (fun B hw=>hw.re (js:=[3]) (Bs:=[ob aq,bh,aU]) J (by simpa[gi] using bB)) ?_
  refine mqT 7 [8,9,10] J OU (kn Kf.id (am [0,1,2,3,4,5] J)) (bT qf J J Y bg) J<|mqT 8 [9,10] J OU (kn Kf.id (am [0,1,2,3,4,5] J)) (au fk J) J<|mq 9 J OU (kn Kf.id (am [0,1,2,3,4,5] J)) (aW xk J (fun B hw=>hw.rg Y.hb (Y.rg.of_eq 0 1 J J:rg _ _ _ [aq]))) J ?_
  obtain⟨x9,bE,h⟩:=bs h
  refine WM.one 10 OU (mc J (fun hc=>by cases hc) (bJ (js:=[0,0]) (R:=[aU,ob v10,ob v11,ob y,D8,ob f,K,ob g]) FC J J (fun B hw ap hl=>oW N (bx hw ap hl) M x8.Toks 1 (ag.rsl.x (Dj.app (ap.q 1 J) (Dj.sub (ap.o P.old) i1))) (ah.rsl.x (Dj.app (ap.q 2 J) (Dj.sub (ap.o P.old) i2))) (ak.x (Dj.sub (ap.o Q.old) i3)) (al.x (Dj.sub (ap.o Q.old) i4)) (an.x (Dj.sub (Dj.app (ap.q 5 J) (ap.q 6 J)) i5)) (ao.x (Dj.sub (ap.o Z.old) i6)) bD  bE)) J ?_)
  rintro v17 bF F7 ⟨w,I,bG,rfl,rfl,bI⟩
  replace ak:=ak.fr I (Dj.sub (w.o Q.old) i3)
  replace al:=al.fr I (Dj.sub (w.o Q.old) i4)
  replace an:=an.fr I (Dj.sub (Dj.app (w.q 5 J) (w.q 6 J)) i5)
  replace ao:=ao.fr I (Dj.sub (w.o Z.old) i6)
  replace u:=u.fr I (w.q 5 J) (w.q 6 J)
  replace H:=H.fr I (w.q 7 J) (w.q 4 J)
  replace Y:=Y.fr I (w.q 3 J) (w.q 0 J)
  replace ag:=ag.fr I (w.q 1 J) (Dj.sub (w.o P.old) i1)
  replace ah:=ah.fr I (w.q 2 J) (Dj.sub (w.o P.old) i2)
  refine WM.nil OU<|atr 4 [8,0,32] J ?_
  have r6:aS bF _ [aq] (⟨x9⟩:ar):=⟨aq,bG,J,J,bI⟩
  obtain⟨bK,bL,bM⟩:=Y.unfocus r6 (aS.knows _ _ _ _ r6)
  refine wlL [bK,ob v10,ob v11,ob y,D8,ob f,K,ob g] (smg [0,0,0] J (by simpa[gi,cK] using bM))<|kcb [3,0] h J J J J (fun b ap z q=>uV N b M (x6.Levels.set (wz ((x6.Levels.length:Int) - 1)).toNat (⟨x9⟩:ar)) (ag.rsl.x (Dj.app (ap.q 0 J) (Dj.sub (ap.o P.old) i1))) (ah.rsl.x (Dj.app (ap.q 1 J) (Dj.sub (ap.o P.old) i2))) (ak.x (Dj.sub (ap.o Q.old) i3)) (al.x (Dj.sub (ap.o Q.old) i4)) (an.x (Dj.sub (Dj.app (ap.q 3 J) (ap.q 4 J)) i5)) (ao.x (Dj.sub (ap.o Z.old) i6)) bL q) ?_
  rintro bN h c9 bO F8 ⟨aD,bj,bP,rfl,rfl,bQ⟩
  replace u:=u.fr bj (aD.q 3 J) (aD.q 4 J)
  replace H:=H.fr bj (aD.q 5 J) (aD.q 2 J)
  refine art 6 [] J ?_
  have r7:aZ bO _ [y] (⟨bN⟩:aH):=⟨y,bP,J,J,bQ⟩
  obtain⟨bS,bU,bV⟩:=H.unfocus r7 (aZ.knows _ _ _ _ r7)
  refine wtL [bS,ob v10,ob v11,ob f,K,ob g] (smg [0,0,2] J (by simpa[gi,cK] using bV)) ?_
  exact lb [3,3,3,0] [2,2,2,2] (bz (_,_,_,_) ⟨h,u,bU⟩)
 refine xt J ?_
 refine WT.fin hF aB.none (fun B hw=>?_)
 cases h
 refine aK (js:=[0,0,0,0]) hw J ⟨K,D7,J,J,u,k2⟩
theorem f7 (w0:aA d a []) (b:(List Int)) (c:(List Int)) (i:RSl (RI .i64) 1 d b4 l b) (p:RSl (RI .i64) 1 d b5 k c) {r:Bool} (h:cz N b c=some r) :
  CB w0 prog 76 [l,k] (.bool r):=by
 refine eN func76 J ntmps76 J w0 fun q=>?_
 unfold cz at h
 refine atr 8 [] J<|lnr i J<|la J<|lnr p J<|la J<|en ?_
 refine ch h J ?_ ?_<;>intro h
 ·refine att 4 [] J ?_
  exact rt q h
 refine atr 5 [] J<|lnr i J<|art 3 [] J ?_
 refine lin (σ:=Int) (fun s=>[(0,l),(1,k),(12,iV (b.length:Int)),(13,iV s)]) (fun s=>St w0 a [] []) (fun m s=>d7 N b c m s=some r) (0) N h (sx [] []) (fun v w s hm=>?_)
 revert hm;revert s;intro s1 hm
 have h:d7 N b c (v+1) s1=some r:=hm
 show WT _ _ [(0,l),(1,k),(12,iV (b.length:Int)),(13,iV s1)] (St w0 a [] [])
 unfold d7 at h
 refine att 5 [] J ?_
 refine ch h J ?_ ?_<;>intro h
 ·refine att 9 [] J<|WT.draw mixed OU (fun _ h=>h.drew)<|aqq 2 [] J ?_
  obtain⟨x,t,h⟩:=bs h
  obtain⟨C,D,-,g1,E,F,y⟩:=i.el (a8 t).2.2
  obtain⟨rfl,-⟩:=y
  refine qq (aq bR J J i t) J<|qq (aW tQ J (fun z hw=>(g1.of_eq 0 1 J J:rg _ _ _ [iV x]).rangeAt hw.in0)) J<|aqq 2 [] J ?_
  obtain⟨A,u,h⟩:=bs h
  obtain⟨G,H,-,g2,I,K,B⟩:=p.el (a8 u).2.2
  obtain⟨rfl,-⟩:=B
  refine qq (aq bR J J p u) J<|qq (aW tQ J (fun z hw=>(g2.of_eq 0 1 J J:rg _ _ _ [iV A]).rangeAt hw.in0)) J<|aqt 2 [] J ?_
  refine ch h J ?_ ?_<;>intro h
  ·refine att 4 [] J ?_
   exact rt q h
  refine att 6 [] J ?_
  exact lb [] [] (w _ h)
 refine att 5 [] J ?_
 exact rt q h
theorem rz (w0:aA d a []) (b:ax) (c:ax) (t:RSl aY 3 d aj e b.Consts) (u:RSl (RI .i64) 1 d b6 ad b.At) (v:RSl aY 3 d b0 j c.Consts) (w:RSl (RI .i64) 1 d b7 a6 c.At) {r:Bool} (h:eP N b c=some r) :
  CB w0 prog 85 [.agg [.string b.Kind,iV b.N,e,ad].toArray,.agg [.string c.Kind,iV c.N,j,a6].toArray] (.bool r):=by
 refine eN func85 J ntmps85 J w0 fun x=>?_
 unfold eP at h
 refine sr<|lbx J fun q=>lbx J fun s=>arr 10 [0,32,0,0] J ?_
 obtain⟨y,p,h⟩:=bs h
 refine WL.cutN 6 [(16,.bool y),(2,pQ q),(3,pQ s),(4,.bool false)] ?_ (fun K=>?_)
 rotate_left
 ·refine sp 10 p J (fun p=>?_) fun p=>?_
  ·refine arr 6 [1,32,1,0] J ?_
   cases p
   exact ku K
  ·refine arr 6 [] J ?_
   cases p
   exact ku K
 refine la J ?_
 obtain⟨z,i,h⟩:=bs h
 refine WL.cutN 6 [(23,.bool z),(2,pQ q),(3,pQ s),(4,.bool false)] ?_ (fun K=>?_)
 rotate_left
 ·refine sp 17 i J (fun i=>?_) fun i=>?_
  ·refine arr 4 [2,32,2,0] J<|ly J J<|qd i (kP N · b.Consts c.Consts t v ·) J J J fun B i=>la J ?_
   cases i
   exact ku K
  ·refine arr 6 [] J ?_
   cases i
   exact ku K
 refine la J ?_
 obtain⟨A,m,h⟩:=bs h
 refine WL.cutN 6 [(30,.bool A),(4,.bool false)] ?_ (fun K=>?_)
 rotate_left
 ·refine sp 24 m J (fun m=>?_) fun m=>?_
  ·refine arr 4 [3,32,3,0] J<|ly J J<|qd m (f7 N · b.At c.At u w ·) J J J fun C m=>la J ?_
   cases m
   exact ku K
  ·refine arr 6 [] J ?_
   cases m
   exact ku K
 refine la J<|en ?_
 exact rt x h
theorem zk (w0:aA d a []) (b:az) (x:RSl fu 5 d aj e b.Args) {r:ax} (h:ou N b=some r) :
  Calls prog 204 [.agg [.string b.Kind,e,.bool b.Not].toArray].toArray w0.w (bc a w0.w [] (fun D Fs v=>∃ (y:Value) (z:Value),v = .agg [.string r.Kind,iV r.N,y,z].toArray∧Fs=[ob y,ob z]∧OSl aY 95 3 D [] y r.Consts∧OSl (RI .i64) 3 1 D [] z r.At)):=by
 refine eN func204 J ntmps204 J w0 fun O=>?_
 unfold ou at h
 refine sr<|lbx J fun ah=>lnz nL J fun E=>arr 7 [0,32,1,32] J<|lnr x J<|lq (bE (vs:=[(0,.string b.Kind),(1,iV (b.Args.length:Int))]) (C:=#[.string b.Kind,iV (b.Args.length:Int),.slice none 0 0,.slice none 0 0]) I4 nL J (aa (C':=[.string b.Kind,iV 0,.slice none 0 0,.slice none 0 0]) J J J J J (aa (C':=[.string b.Kind,iV (b.Args.length:Int),.slice none 0 0,.slice none 0 0]) J J J J J (af)))) J<|lnz nL J fun F=>?_
 refine soN 0 rZ J ⟨J,J,J,J,trivial⟩ J ?_
 refine arr 6 [1,64] J<|lnr x J<|art 3 [] J<|wtS ?_
 have P:=OSl.nil aY 95 3 a
 refine wtS ?_
 have Q:=OSl.nil (RI .i64) 3 1 a
 refine lin (σ:=Hp × (List bP) × Value × (List Int) × Value × Int) (fun s=>[(2,pQ E),(3,pQ F),(13,e),(14,iV (b.Args.length:Int)),(15,iV s.2.2.2.2.2)]) (fun s=>St w0 s.1 [(F,.cells #[.string b.Kind,iV (b.Args.length:Int),s.2.2.1,s.2.2.2.2.1] 137 (0,0)),(E,.cells #[.string (⟨#[]⟩:Qr),iV 0,.slice none 0 0,.slice none 0 0] 137 (0,0))] [ob s.2.2.2.2.1,ob s.2.2.1]) (fun m s=>gy N b m s.2.1 s.2.2.2.1 s.2.2.2.2.2=some r∧(OSl aY 95 3 s.1 [] s.2.2.1 s.2.1)∧(OSl (RI .i64) 3 1 s.1 [] s.2.2.2.2.1 s.2.2.2.1)) (a,([]:List bP),(.slice none 0 0),([]:List Int),(.slice none 0 0),0) N ⟨h,P,Q⟩ (sx [0,0] [0,0]) (fun n1 G s hm=>?_)
 obtain⟨R,s1,H,s2,A,t⟩:=s
 obtain⟨h,u,q⟩:=hm
 dsimp only at h u q ⊢
 unfold gy at h
 refine att 5 [] J ?_
 refine ch h J ?_ ?_<;>intro h
 ·refine atr 6 [] J ?_
  obtain⟨p,I,h⟩:=bs h
  obtain⟨ak,F1,-,g1,al,an,S⟩:=x.el (a8 I).2.2
  obtain⟨rfl,-⟩:=S
  refine lia x I J<|lhx 0 5 g1 J<|lnz kY J fun ao=>la J<|soN 0 jm J ⟨J,J,J,J,J,trivial⟩ J ?_
  refine art 7 [0,0] J ?_
  refine ch h J ?_ ?_<;>intro h
  ·refine atr 6 [2,32,2,3] J ?_
   have T:RC aY 3 R ([[]]:List (List Nat)) [iV p.V.K,iV p.V.N,.string p.V.S] ([p.V]:List bP):=RC.cons (c:=[iV p.V.K,iV p.V.N,.string p.V.S]) (cells:=[]) ⟨J,J⟩ J (RC.nil _ _ _)
   refine le' (bC (vs:=[(0,.agg [iV p.V.K,iV p.V.N,.string p.V.S].toArray)]) (C:=#[iV p.V.K,iV p.V.N,.string p.V.S]) aY.lasts jr kW J J J J (av B8 (aa (C':=[iV p.V.K,iV p.V.N,.string p.V.S]) J J J J J (af))) J T J (by simpa using Kw.nil)) J ?_
   rintro v1 U D1 ⟨K,h1⟩
   replace h1:OSl aY 95 3 U [] v1 ([p.V]:List bP):=by simpa using h1
   replace u:=u.f0 K
   replace q:=q.f0 K
   obtain⟨x2,V,h⟩:=bs h
   refine le' (dW aY.lasts aY.one aY.flat jr Dp J J J J J (js:=[2]) (Rr:=[ob v1,ob A]) J u h1.rsl V) J ?_
   rintro v2 W D2 ⟨⟨X,Y⟩,w⟩
   replace q:=q.fr Y (X.q 1 J) dN
   refine lf GG J J J<|so1 1 Fe J w.one ?_
   refine arr 5 [3,32] J ?_
   have Z:RC (RI .i64) 1 W ([[]]:List (List Nat)) [iV t] ([t]:List Int):=RC.cons (c:=[iV t]) (cells:=[]) ⟨J,J⟩ J (RC.nil _ _ _)
   refine le' (bC (vs:=[(0,iV t)]) (C:=#[iV t]) RI.lasts bR mj J J J J (av kL (aa (C':=[iV t]) J J J J J (af))) J Z J (by simpa using Kw.nil)) J ?_
   rintro v3 a7 D3 ⟨L,B⟩
   replace B:OSl (RI .i64) 3 1 a7 [] v3 ([t]:List Int):=by simpa using B
   replace w:=w.f0 L
   replace q:=q.f0 L
   obtain⟨x3,ab,h⟩:=bs h
   refine le' (dW RI.lasts RI.one RI.flat bR tt J J J J J (js:=[3]) (Rr:=[ob v3,ob v2,ob v1]) J q B.rsl ab) J ?_
   rintro v4 aq D4 ⟨⟨ae,ag⟩,M⟩
   replace w:=w.fr ag (ae.q 1 J) dN
   refine lf Al J J J<|so1 1 sO J M.one ?_
   refine art 6 [] J ?_
   exact lb [0,1] [1,1] (G (_,_,_,_,_,_) ⟨h,w,M⟩)
  refine att 6 [] J ?_
  exact lb [0,0] [1,1] (G (_,_,_,_,_,_) ⟨h,u,q⟩)
 refine atr 4 [4] J<|soN 1 rZ J ⟨J,J,u.one,q.one,trivial⟩ J ?_
 refine en ?_
 exact rtg [1,0] O (aB.one (bd uW J (fun w1 hw=>hw.rgO (i:=1) J 0 4 [.string b.Kind,iV (b.Args.length:Int),H,A] J) J)) J (by cases h;exact fun w1 hw=>⟨H,A,rfl,rfl,u,q⟩)
theorem vc (w0:aA d a [[n],ob e,o].flatten) (w:bH) (B:az) (u:OSl dv 137 4 a o e w.Alphas) (aC:RSl ei 2 d b6 ad w.Chains) (t:a n=some (.cells #[e,ad] 47 (0,0))) (ak:RSl fu 5 d b0 j B.Args) {r:Int × bH} (h:jT N w B=some r) :
  Calls prog 149 [pQ n,.agg [.string B.Kind,j,.bool B.Not].toArray].toArray w0.w (bc a w0.w [[n],ob e,o].flatten (fun Q Fs v=>∃ (H:Value) (S:List Nat),v=iV r.1∧Fs=[[n],ob H,S]∧OSl dv 137 4 Q S H r.2.Alphas∧r.2.Chains=w.Chains∧Q n=some (.cells #[H,ad] 47 (0,0)))):=by
 refine eL func149 J ntmps149 J (L:=[[n],ob e,o]) w0 (fun T=>?_)
 unfold jT at h
 refine sr<|lbx J fun aD=>arr 5 [3] J<|kab h J J J (fun b z q=>zk N b B (ak.y z) q) ?_
 rintro p h v1 E F1 ⟨I,U,v2,v3,rfl,rfl,h1,K⟩
 replace u:=u.fr U (I.q 1 J) (I.q 2 J)
 replace t:=U _ _ ((I.q 0 J) _ OW) t
 refine lnz nL J fun x=>soN 0 rZ J ⟨J,J,h1.one,K.one,trivial⟩ J ?_
 refine arr 5 [] J<|lq (aI J) J<|lf pC J J J<|lgx 0 0 (cn t) J<|lno u J<|art 3 [] J ?_
 refine lin (σ:=Int) (fun s=>[(0,pQ n),(5,pQ x),(13,e),(14,iV (w.Alphas.length:Int)),(15,iV s)]) (fun s=>St w0 E [(x,.cells #[.string p.Kind,iV p.N,v2,v3] 137 (0,0))] [ob v2,ob v3,[n],ob e,o]) (fun m s=>dJ N w p m s=some r) (0) N h (sx [0,0,0,0,0] [0]) (fun n1 al s hm=>?_)
 revert hm;revert s;intro s1 hm
 have h:dJ N w p (n1+1) s1=some r:=hm
 show WT _ _ [(0,pQ n),(5,pQ x),(13,e),(14,iV (w.Alphas.length:Int)),(15,iV s1)] (St w0 E [(x,.cells #[.string p.Kind,iV p.N,v2,v3] 137 (0,0))] [ob v2,ob v3,[n],ob e,o])
 unfold dJ at h
 refine att 5 [] J ?_
 refine ch h J ?_ ?_<;>intro h
 ·refine atr 6 [] J ?_
  obtain⟨x2,V,h⟩:=bs h
  obtain⟨aF,F2,-,g1,aG,aH,r1⟩:=u.elS (a8 V).2.2
  obtain⟨v4,v5,rfl,rfl,h3,h4⟩:=r1
  have W:=h3.rsl
  have X:=h4.rsl
  refine lio u V J<|lgx 0 4 g1 J<|lnz nL J fun aJ=>la J<|soN 0 rZ J ⟨J,J,W.one,X.one,trivial⟩ J ?_
  refine arr 5 [4,36] J<|qc h (rz N · x2 p W X h1.rsl K.rsl ·) J J J fun x3 h=>en ?_
  refine ch h J ?_ ?_<;>intro h
  ·refine att 5 [] J ?_
   exact rtg [2,2,2] T (aB.one J) J (by cases h;exact fun y hw=>⟨e,o,rfl,rfl,u,rfl,t⟩)
  refine att 6 [] J ?_
  exact lb [0,0,0,0,0] [1] (al _ h)
 refine xt J<|sq<|WT.mix (Kn w0 E [n] [(x,.cells #[.string p.Kind,iV p.N,v2,v3] 137 (0,0))]) (fun i=>match i with | 10=>false | _=>true) mixed (fun _ h=>h.drew)<|ma 0 J OU (kn Kf.id (am [0] J)) J<|ma 1 J OU (kn Kf.id (am [0] J)) J<|mq 2 J OU (kn Kf.id (am [0] J)) (aI J) J<|mq 3 J OU (kn Kf.id (am [0] J)) (au pC J) J ?_
 refine mq 4 J OU (kn Kf.id (am [0] J)) (aW IN J (fun y hw=>hw.rg OW ((cn t).of_eq 0 1 J J:rg _ _ _ [e]))) J<|mq 5 J OU (kn Kf.id (am [0] J)) (ay uW J (fun y hw=>hw.rgO (i:=0) J 0 4 [.string p.Kind,iV p.N,v2,v3] J) J) J ?_
 have Y:RC dv 4 E ([(ob v2++[])++((ob v3++[]))]:List (List Nat)) [.string p.Kind,iV p.N,v2,v3] ([p]:List ax):=RC.cons (c:=[.string p.Kind,iV p.N,v2,v3]) (cells:=[]) ⟨v2,v3,J,J,h1,K⟩ J (RC.nil _ _ _)
 refine WM.one 6 OU (me J (fun _ v an D y G hw=>Kn.of (Kf.id.se G.1) (am [0] J) hw) (bC (vs:=[(0,.agg [.string p.Kind,iV p.N,v2,v3].toArray)]) (C:=#[.string p.Kind,iV p.N,v2,v3]) dv.lasts Ar nL J J J J (av Cj (aa (C':=[.string p.Kind,iV p.N,v2,v3]) J J J J J (af))) J Y J (RC.kn dv.knows Y)) J ?_)
 rintro v6 Z D1 ⟨M,O⟩
 replace O:OSl dv 137 4 Z ((ob v2++[])++((ob v3++[]))) v6 ([p]:List ax):=by simpa[gi] using O
 replace u:=u.f0 M
 replace t:=M _ _ OW t
 refine WM.conv (S':=St w0 Z [(x,.cells #[.string p.Kind,iV p.N,v2,v3] 137 (0,0))] [((ob v2++[])++((ob v3++[]))),ob v6,[n],ob e,o]) (fun y hw=>hw.merge (js:=[1,1]) J (SP.eq (by simp[gi,cK]))) ?_
 obtain⟨x4,ao,h⟩:=bs h
 have a7:=(Kf.id (F:=[n]):Kf E _ _).se M
 refine WM.one 7 OU (me J (fun _ v an D y G hw=>Kn.of (a7.st G.1.2 (G.1.1.r (i:=2) J)) (am [0] J) hw) (em dv.lasts dv.one Ar J7 J J J J J (js:=[3]) (Rr:=[((ob v2++[])++((ob v3++[]))),ob v6,[n],o]) J u O (fun ap=>ap.q 3 J) (fun ap=>ap.q 0 J) ao) J ?_)
 rintro P aq D2 ⟨⟨ab,ae⟩,A⟩
 replace t:=ae _ _ ((ab.q 2 J) _ OW) t
 refine WM.conv (S':=St w0 aq [(x,.cells #[.string p.Kind,iV p.N,v2,v3] 137 (0,0))] [(o++((ob v2++[])++((ob v3++[])))),ob P,ob v6,[n]]) (fun y hw=>hw.merge (js:=[4,1]) J (SP.eq OW)) ?_
 have ag:=a7.st ae (ab.q 2 J)
 refine mqT 8 [9,10] J OU (kn ag (am [0] J)) (aI J) J<|mq 9 J OU (kn ag (am [0] J)) (au pC J) J ?_
 refine WM.thw (js:=[3]) (R:=[(o++((ob v2++[])++((ob v3++[])))),ob P,ob v6]) J t (fun aK ah ar=>?_)
 replace A:=A.fr ar (ah.q 1 J) (ah.q 0 J)
 refine on1 10 (ms1 0 J nk Lg J A.one ?_)
 refine WM.nil OU<|sr<|la J<|lq (aI J) J<|arr 2 [0,0] J<|lno A J<|art 3 [] J ?_
 refine WT.frz (js:=[0]) (R:=[(x,.cells #[.string p.Kind,iV p.N,v2,v3] 137 (0,0))]) J (fun aL aw k1=>?_)
 replace A:=A.f0 aw
 exact rtg [0,1,0] T (aB.one J) J (by cases h;exact fun y hw=>⟨P,(o++((ob v2++[])++((ob v3++[])))),J,J,A,J,k1⟩)
theorem we (w0:aA d a []) (G:bf) (ae:RSl eK 5 d aj e G.Rules) {r:bH} (h:pm N G=some r) :
  Calls prog 83 [.agg [.string G.Name,e].toArray].toArray w0.w (bc a w0.w [] (fun aq Fs v=>∃ (ag:Value) (ar:List Nat) (ah:Value) (au:List Nat),v = .agg [ag,ah].toArray∧Fs=[ob ag,ar,ob ah,au]∧OSl dv 137 4 aq ar ag r.Alphas∧OSl bK 141 2 aq au ah r.Chains)):=by
 refine eN func83 J ntmps83 J w0 fun hF=>?_
 unfold pm at h
 refine sr<|lbx J fun aX=>lnz tl J fun O=>en<|sr<|lnz tl J fun H=>arr 6 [1,64] J<|lnr ae J<|art 3 [] J<|wtS<|wt0 ?_
 have k1:=OSl.nil dv 137 4 a
 refine wtS<|wt0 ?_
 have k2:=OSl.nil bK 141 2 a
 refine lin (σ:=Hp × (List ax) × Value × List Nat × (List aG) × Value × List Nat × Int) (fun s=>[(2,pQ O),(3,pQ H),(11,e),(12,iV (G.Rules.length:Int)),(13,iV s.2.2.2.2.2.2.2)]) (fun s=>St w0 s.1 [(H,.cells #[s.2.2.1,s.2.2.2.2.2.1] 47 (0,0)),(O,.cells #[.slice none 0 0,.slice none 0 0] 47 (0,0))] [s.2.2.2.2.2.2.1,ob s.2.2.2.2.2.1,s.2.2.2.1,ob s.2.2.1]) (fun m s=>fP N G m s.2.1 s.2.2.2.2.1 s.2.2.2.2.2.2.2=some r∧(OSl dv 137 4 s.1 s.2.2.2.1 s.2.2.1 s.2.1)∧(OSl bK 141 2 s.1 s.2.2.2.2.2.2.1 s.2.2.2.2.2.1 s.2.2.2.2.1)) (a,([]:List ax),(.slice none 0 0),[],([]:List aG),(.slice none 0 0),[],0) N ⟨h,k1,k2⟩ (sx [0,0,0,0] [0,0]) (fun n1 aJ s hm=>?_)
 obtain⟨ak,s1,u1,D1,s2,B,D,s3⟩:=s
 obtain⟨h,S,p⟩:=hm
 dsimp only at h S p ⊢
 unfold fP at h
 refine att 5 [] J ?_
 refine ch h J ?_ ?_<;>intro h
 ·refine atr 5 [] J ?_
  obtain⟨x1,aw,h⟩:=bs h
  obtain⟨aY,F1,-,g1,aZ,b1,r1⟩:=ae.el (a8 aw).2.2
  obtain⟨v1,G1,v2,G2,v3,G3,rfl,rfl,h1,h2,h3⟩:=r1
  refine lia ae aw J<|lhx 0 5 g1 J<|lnz wv J fun b2=>soN 0 zK J ⟨J,J,h1.one,h2.one,h3.one,trivial⟩ J ?_
  refine en<|sr<|lnz sc J fun al=>arr 6 [2,32] J<|lnr h1 J<|art 3 [] J<|wtS ?_
  have k5:=OSl.nil (RI .i64) 3 1 ak
  refine wtS ?_
  have k6:=OSl.nil (RI .i64) 3 1 ak
  refine lin (σ:=Hp × (List ax) × Value × List Nat × (List Int) × Value × (List Int) × Value × Int) (fun s=>[(2,pQ O),(3,pQ H),(6,pQ al),(11,e),(12,iV (G.Rules.length:Int)),(13,iV s3),(18,v1),(19,iV (x1.Pats.length:Int)),(20,iV s.2.2.2.2.2.2.2.2)]) (fun s=>St w0 s.1 [(al,.cells #[s.2.2.2.2.2.2.2.1,s.2.2.2.2.2.1] 141 (0,0)),(H,.cells #[s.2.2.1,B] 47 (0,0)),(O,.cells #[.slice none 0 0,.slice none 0 0] 47 (0,0))] [ob s.2.2.2.2.2.2.2.1,ob s.2.2.2.2.2.1,D,ob B,s.2.2.2.1,ob s.2.2.1]) (fun m s=>gU N s2 s3 (fP N G n1) x1 m s.2.1 s.2.2.2.2.1 s.2.2.2.2.2.2.1 s.2.2.2.2.2.2.2.2=some r∧(OSl dv 137 4 s.1 s.2.2.2.1 s.2.2.1 s.2.1)∧(OSl bK 141 2 s.1 D B s2)∧(OSl (RI .i64) 3 1 s.1 [] s.2.2.2.2.2.1 s.2.2.2.2.1)∧(OSl (RI .i64) 3 1 s.1 [] s.2.2.2.2.2.2.2.1 s.2.2.2.2.2.2.1)) (ak,s1,u1,D1,([]:List Int),(.slice none 0 0),([]:List Int),(.slice none 0 0),0) N ⟨h,S,p,k5,k6⟩ (sx [0,0,0,0,0,0] [0,1,1]) (fun n2 ay s hm=>?_)
  obtain⟨aK,s4,u3,D3,s5,w,s6,x,s7⟩:=s
  obtain⟨h,F,p,t,u⟩:=hm
  dsimp only at h F p t u ⊢
  unfold gU at h
  refine att 5 [] J ?_
  refine ch h J ?_ ?_<;>intro h
  ·refine atr 5 [] J ?_
   obtain⟨x2,az,h⟩:=bs h
   obtain⟨b3,F2,-,g2,b8,b9,r2⟩:=h1.el (a8 az).2.2
   obtain⟨v4,G4,rfl,aL,h4⟩:=r2
   obtain rfl:=aL.symm
   refine lia h1 az J<|lhx 0 3 g2 J<|lnz mi J fun aM=>soN 0 pX J ⟨J,h4.one,J,trivial⟩ J ?_
   refine arr 4 [3] J ?_
   refine WL.frz (js:=[2]) (R:=[(aM,.cells #[.string x2.Kind,v4,.bool x2.Not] 201 (0,0)),(al,.cells #[x,w] 141 (0,0)),(O,.cells #[.slice none 0 0,.slice none 0 0] 47 (0,0))]) J (fun ba T aN=>?_)
   replace F:=F.f0 T
   replace p:=p.f0 T
   replace t:=t.f0 T
   replace u:=u.f0 T
   refine kcb [0,5,4] h J J J J (fun b ap z q=>vc N b (⟨s4,s2⟩:bH) x2 F ((p.rslG bK.gives).x (Dj.app (ap.q 3 J) (ap.q 2 J))) aN (h4.y z) q) ?_
   rintro y h v5 aC F3 ⟨U,an,v6,V,rfl,rfl,A,e1,E⟩
   replace p:=p.fr an (U.q 3 J) (U.q 2 J)
   replace t:=t.fr an (U.q 1 J) dN
   replace u:=u.fr an (U.q 0 J) dN
   refine art 7 [2,0] J ?_
   refine ch h J ?_ ?_<;>intro h
   ·refine atr 4 [1,32] J ?_
    have aO:RC (RI .i64) 1 aC ([[]]:List (List Nat)) [iV y.1] ([y.1]:List Int):=RC.cons (c:=[iV y.1]) (cells:=[]) ⟨J,J⟩ J (RC.nil _ _ _)
    refine le' (bC (vs:=[(0,iV y.1)]) (C:=#[iV y.1]) RI.lasts bR mj J J J J (av kL (aa (C':=[iV y.1]) J J J J J (af))) J aO J (by simpa using Kw.nil)) J ?_
    rintro v7 aP D5 ⟨P,h7⟩
    replace h7:OSl (RI .i64) 3 1 aP [] v7 ([y.1]:List Int):=by simpa using h7
    replace p:=p.f0 P
    replace t:=t.f0 P
    replace u:=u.f0 P
    replace A:=A.f0 P
    replace E:=P _ _ OW E
    obtain⟨x4,aQ,h⟩:=bs h
    refine le' (dW RI.lasts RI.one RI.flat bR tt J J J J J (js:=[5]) (Rr:=[ob v7,[H],ob v6,V,ob x,D,ob B]) J t h7.rsl aQ) J ?_
    rintro v8 bb D6 ⟨⟨I,W⟩,X⟩
    replace p:=p.fr W (I.q 6 J) (I.q 5 J)
    replace u:=u.fr W (I.q 4 J) dN
    replace A:=A.fr W (I.q 2 J) (I.q 3 J)
    replace E:=W _ _ ((I.q 1 J) _ OW) E
    refine lf B4 J J J<|so1 1 sO J X.one ?_
    refine art 6 [] J ?_
    refine WT.thw (js:=[2]) (R:=[ob v8,ob v7,ob v6,V,ob x,D,ob B]) J E (fun be K Y=>?_)
    replace p:=p.fr Y (K.q 6 J) (K.q 5 J)
    replace X:=X.fr Y (K.q 0 J) dN
    replace u:=u.fr Y (K.q 4 J) dN
    replace A:=A.fr Y (K.q 2 J) (K.q 3 J)
    exact lb [4,0,3,3,2,1] [2,0,1] (ay (_,_,_,_,_,_,_,_,_) ⟨h,A,p,X,u⟩)
   refine atr 4 [0,32] J ?_
   have aR:RC (RI .i64) 1 aC ([[]]:List (List Nat)) [iV y.1] ([y.1]:List Int):=RC.cons (c:=[iV y.1]) (cells:=[]) ⟨J,J⟩ J (RC.nil _ _ _)
   refine le' (bC (vs:=[(0,iV y.1)]) (C:=#[iV y.1]) RI.lasts bR mj J J J J (av kL (aa (C':=[iV y.1]) J J J J J (af))) J aR J (by simpa using Kw.nil)) J ?_
   rintro v9 aS D7 ⟨Q,h9⟩
   replace h9:OSl (RI .i64) 3 1 aS [] v9 ([y.1]:List Int):=by simpa using h9
   replace p:=p.f0 Q
   replace t:=t.f0 Q
   replace u:=u.f0 Q
   replace A:=A.f0 Q
   replace E:=Q _ _ OW E
   obtain⟨x5,aT,h⟩:=bs h
   refine le' (dW RI.lasts RI.one RI.flat bR tt J J J J J (js:=[4]) (Rr:=[ob v9,[H],ob v6,V,ob w,D,ob B]) J u h9.rsl aT) J ?_
   rintro v10 bg D8 ⟨⟨L,Z⟩,a7⟩
   replace p:=p.fr Z (L.q 6 J) (L.q 5 J)
   replace t:=t.fr Z (L.q 4 J) dN
   replace A:=A.fr Z (L.q 2 J) (L.q 3 J)
   replace E:=Z _ _ ((L.q 1 J) _ OW) E
   refine lf wT J J J<|so1 1 sO J a7.one ?_
   refine art 6 [] J ?_
   refine WT.thw (js:=[2]) (R:=[ob v10,ob v9,ob v6,V,ob w,D,ob B]) J E (fun bh M ab=>?_)
   replace p:=p.fr ab (M.q 6 J) (M.q 5 J)
   replace t:=t.fr ab (M.q 4 J) dN
   replace a7:=a7.fr ab (M.q 0 J) dN
   replace A:=A.fr ab (M.q 2 J) (M.q 3 J)
   exact lb [0,3,3,3,2,1] [2,0,1] (ay (_,_,_,_,_,_,_,_,_) ⟨h,A,p,t,a7⟩)
  refine atr 5 [1,32,2] J ?_
  have aD:RC bK 2 aK ([(ob x++[])++((ob w++[]))]:List (List Nat)) [x,w] ([(⟨s6,s5⟩:aG)]:List aG):=RC.cons (c:=[x,w]) (cells:=[]) ⟨x,w,J,J,u,t⟩ J (RC.nil _ _ _)
  refine le' (bC (vs:=[(0,.agg [x,w].toArray)]) (C:=#[x,w]) bK.lasts AV sc J J J J (av Ch (aa (C':=[x,w]) J J J J J (af))) J aD J (RC.kn bK.knows aD)) J ?_
  rintro v11 aU D9 ⟨aF,ao⟩
  replace ao:OSl bK 141 2 aU ((ob x++[])++((ob w++[]))) v11 ([(⟨s6,s5⟩:aG)]:List aG):=by simpa[gi] using ao
  replace F:=F.f0 aF
  replace p:=p.f0 aF
  refine wlL [((ob x++[])++((ob w++[]))),ob v11,D,ob B,D3,ob u3] (smg [1,1] J (SP.eq (by simp[gi,cK]))) ?_
  obtain⟨x6,aV,h⟩:=bs h
  refine le' (em bK.lasts bK.one AV IX J J J J J (js:=[3]) (Rr:=[((ob x++[])++((ob w++[]))),ob v11,D,D3,ob u3]) J p ao (fun ap=>ap.q 2 J) (fun ap=>ap.q 0 J) aV) J ?_
  rintro v12 bj bk ⟨⟨aH,aW⟩,aI⟩
  replace F:=F.fr aW (aH.q 4 J) (aH.q 3 J)
  refine wlL [(D++((ob x++[])++((ob w++[])))),ob v12,ob v11,D3,ob u3] (smg [3,1] J (SP.eq OW))<|lf Cu J J J<|so1 1 L0 J aI.one ?_
  refine art 6 [] J ?_
  exact lb [0,0,1,1] [1,1] (aJ (_,_,_,_,_,_,_,_) ⟨h,F,aI⟩)
 refine atr 4 [2] J<|soN 1 w4 J ⟨S.one,p.one,trivial⟩ J ?_
 refine en ?_
 exact rtg [3,2,1,0] hF (aB.one (bd Da J (fun w1 hw=>hw.rgO (i:=1) J 0 2 [u1,B] J) J)) J (by cases h;exact fun w1 hw=>⟨u1,D1,B,D,rfl,rfl,S,p⟩)
theorem zU (w0:aA d a []) (t:bH) (a7:RSl cF 4 d aj e t.Alphas) (y:RSl ei 2 d b6 ad t.Chains) {r:aJ} (h:pM N t=some r) :
  Calls prog 100 [.agg [e,ad].toArray].toArray w0.w (bc a w0.w [] (fun F Fs v=>∃ (z:Value) (G:List Nat) (A:Value) (H:List Nat),v = .agg [z,A].toArray∧Fs=[ob z,G,ob A,H]∧OSl bb 133 1 F G z r.Alphas∧OSl aZ 100 1 F H A r.Rules)):=by
 refine eN func100 J ntmps100 J w0 fun hF=>?_
 unfold pM at h
 refine sr<|lbx J fun al=>lnz mM J fun u=>arr 5 [0,32] J<|lnr a7 J ?_
 obtain⟨I,K,h⟩:=bs h
 refine le' (DI (R:=bb) rn tM M5 J J J (fun _=>⟨.slice none 0 0,J,J,OSl.nil _ _ _ _⟩) J J (Int.le_refl _) K (It K)) J ?_
 rintro v1 L D1 ⟨an,h1⟩
 refine wl0<|lq (bE (vs:=[(0,v1)]) (C:=#[v1,.slice none 0 0]) KT mM J (aa (C':=[v1,.slice none 0 0]) J (dp h1.one) J J J (af))) J<|lnz mM J fun w=>soN 0 oC J ⟨h1.one,J,trivial⟩ J ?_
 refine arr 6 [1,64] J<|lnr y J<|art 3 [] J<|wtS<|wt0 ?_
 have k1:=OSl.nil aZ 100 1 L
 refine lin (σ:=Hp × (List aH) × Value × List Nat × Int) (fun s=>[(2,pQ u),(3,pQ w),(12,ad),(13,iV (t.Chains.length:Int)),(14,iV s.2.2.2.2)]) (fun s=>St w0 s.1 [(w,.cells #[v1,s.2.2.1] 35 (0,0)),(u,.cells #[.slice none 0 0,.slice none 0 0] 35 (0,0))] [s.2.2.2.1,ob s.2.2.1,[],ob v1]) (fun m s=>iZ N t I m s.2.1 s.2.2.2.2=some r∧(OSl bb 133 1 s.1 [] v1 I)∧(OSl aZ 100 1 s.1 s.2.2.2.1 s.2.2.1 s.2.1)) (L,([]:List aH),(.slice none 0 0),[],0) N ⟨h,h1,k1⟩ (sx [0,0,0,0] [0,0]) (fun n1 ab s hm=>?_)
 obtain⟨ao,s1,p,x,s2⟩:=s
 obtain⟨h,h1,b⟩:=hm
 dsimp only at h h1 b ⊢
 unfold iZ at h
 refine att 5 [] J ?_
 refine ch h J ?_ ?_<;>intro h
 ·refine atr 5 [] J ?_
  obtain⟨x2,M,h⟩:=bs h
  obtain⟨aq,F1,-,g1,ar,au,r1⟩:=y.el (a8 M).2.2
  obtain⟨v2,G1,v3,G2,rfl,rfl,O,h3⟩:=r1
  refine lia y M J<|lhx 0 2 g1 J<|lnz sc J fun B=>soN 0 zA J ⟨O.one,h3.one,trivial⟩ J ?_
  refine en<|wm [0,1,2] [10] J<|amm 4 [0,1,1,32,2,0,3,0] [0,1,2] J J<|mq 4 J OU (kN [0,1,2]) (mm bR J J O) J ?_
  obtain⟨P,Q,h⟩:=bs h
  refine WM.one 5 OU (me J (fun _ v S D q T hw=>Kn.of Kf.nil (ai3 0 1 2 J J J) hw) (DI (R:=aS) qf rY Mo J J J (fun _=>⟨.slice none 0 0,[],J,J,OSl.nil _ _ _ _⟩) J J (Int.le_refl _) Q (It Q)) J ?_)
  rintro v4 U D3 ⟨V,W⟩
  replace h1:=h1.f0 V
  replace b:=b.f0 V
  refine WM.conv (S':=St w0 U [(B,.cells #[v2,v3] 141 (0,0)),(w,.cells #[v1,p] 35 (0,0)),(u,.cells #[.slice none 0 0,.slice none 0 0] 35 (0,0))] ([] :: [ob v4,x,ob p,[],ob v1])) (fun q hw=>hw.addNil)<|mq 6 J OU (kN [0,1,2]) (bE (vs:=[(0,v4)]) (C:=#[v4]) I8 ny J (aa (C':=[v4]) J (dp W.one) J J J (af))) J ?_
  have X:RC aZ 1 U ([(ob v4++[])]:List (List Nat)) [v4] ([(⟨P⟩:aH)]:List aH):=RC.cons (c:=[v4]) (cells:=[]) ⟨v4,[],J,J,W⟩ J (RC.nil _ _ _)
  refine WM.one 7 OU (me J (fun _ v S D q T hw=>Kn.of Kf.nil (ai3 0 1 2 J J J) hw) (bC (vs:=[(0,.agg [v4].toArray)]) (C:=#[v4]) aZ.lasts AC ny J J J J (av yH (aa (C':=[v4]) J J J J J (af))) J X J (RC.kn aZ.knows X)) J ?_)
  rintro v5 Y D4 ⟨Z,E⟩
  replace E:OSl aZ 100 1 Y ((ob v4++[])) v5 ([(⟨P⟩:aH)]:List aH):=by simpa[gi] using E
  replace h1:=h1.f0 Z
  replace b:=b.f0 Z
  refine WM.conv (S':=St w0 Y [(B,.cells #[v2,v3] 141 (0,0)),(w,.cells #[v1,p] 35 (0,0)),(u,.cells #[.slice none 0 0,.slice none 0 0] 35 (0,0))] [((ob v4++[])),ob v5,x,ob p,[],ob v1]) (fun q hw=>hw.merge (js:=[2,1]) J (SP.eq (by simp[gi,cK]))) ?_
  obtain⟨x4,ae,h⟩:=bs h
  refine WM.one 8 OU (me J (fun _ v S D q T hw=>Kn.of Kf.nil (ai3 0 1 2 J J J) hw) (em aZ.lasts aZ.one AC DX J J J J J (js:=[3]) (Rr:=[((ob v4++[])),ob v5,x,[],ob v1]) J b E (fun ap=>ap.q 2 J) (fun ap=>ap.q 0 J) ae) J ?_)
  rintro v6 ag D5 ⟨⟨ah,ak⟩,h6⟩
  replace h1:=h1.fr ak (ah.q 4 J) dN
  refine WM.conv (S':=St w0 ag [(B,.cells #[v2,v3] 141 (0,0)),(w,.cells #[v1,p] 35 (0,0)),(u,.cells #[.slice none 0 0,.slice none 0 0] 35 (0,0))] [(x++((ob v4++[]))),ob v6,ob v5,[],ob v1]) (fun q hw=>hw.merge (js:=[3,1]) J (SP.eq OW))<|amm 1 [9,1] [0,1,2] J J ?_
  refine on1 10 (ms1 1 J nk HO J h6.one ?_)
  refine WM.nil OU<|att 5 [] J ?_
  exact lb [0,0,1,1] [1,1] (ab (_,_,_,_,_) ⟨h,h1,h6⟩)
 refine atr 4 [2] J<|soN 1 oC J ⟨h1.one,b.one,trivial⟩ J ?_
 refine en ?_
 exact rtg [3,2,1,0] hF (aB.one (bd uO J (fun q hw=>hw.rgO (i:=1) J 0 2 [v1,p] J) J)) J (by cases h;exact fun q hw=>⟨v1,[],p,x,rfl,rfl,h1,b⟩)
theorem BE (w0:aA d a []) (t:bf) (p:ae) (I:RSl eK 5 d aj e t.Rules) (u:RSl br 3 d b0 j p.Items) {r:aJ} (h:uc N t p=some r) :
  Calls prog 42 [.agg [.string t.Name,e].toArray,.agg [j,iV p.Next].toArray].toArray w0.w (bc a w0.w [] (fun K Fs v=>∃ (E:Value) (L:List Nat) (F:Value) (M:List Nat),v = .agg [E,F].toArray∧Fs=[ob E,L,ob F,M]∧OSl bb 133 1 K L E r.Alphas∧OSl aZ 100 1 K M F r.Rules)):=by
 refine eN func42 J ntmps42 J w0 fun hF=>?_
 unfold uc at h
 refine sr<|lbx J fun O=>lbx J fun P=>lnz mM J fun Q=>arr 4 [66] J<|kab h J J J (fun b z q=>we N b t (I.y z) q) ?_
 rintro w h v1 al F1 ⟨an,ao,v2,G,v3,H,rfl,rfl,h1,c⟩
 refine lnz tl J fun S=>soN 0 w4 J ⟨h1.one,c.one,trivial⟩ J ?_
 refine arr 4 [2] J<|kab h J J J (fun b z q=>zU N b w (h1.rslG dv.gives) (c.rslG bK.gives) q) ?_
 rintro T h v4 ab F2 ⟨x,U,v5,D3,v6,D4,rfl,rfl,V,W⟩
 replace h1:=h1.fr U (x.q 0 J) (x.q 1 J)
 replace c:=c.fr U (x.q 2 J) (x.q 3 J)
 refine lnz mM J fun X=>soN 0 oC J ⟨V.one,W.one,trivial⟩ J ?_
 refine arr 6 [0,96] J<|lnr u J<|art 3 [] J ?_
 refine lin (σ:=Hp × (List bk) × List Nat × (List aH) × List Nat × Int) (fun s=>[(2,pQ O),(3,pQ P),(4,pQ Q),(5,pQ S),(6,pQ X),(14,j),(15,iV (p.Items.length:Int)),(16,iV s.2.2.2.2.2)]) (fun s=>St w0 s.1 [(X,.cells #[v5,v6] 35 (0,0)),(S,.cells #[v2,v3] 47 (0,0)),(Q,.cells #[.slice none 0 0,.slice none 0 0] 35 (0,0)),(P,.cells #[j,iV p.Next] 29 (0,0)),(O,.cells #[.string t.Name,e] 26 (0,0))] [ob v5,s.2.2.1,ob v6,s.2.2.2.2.1,ob v2,G,ob v3,H]) (fun m s=>iN N t p w m s.2.1 s.2.2.2.1 s.2.2.2.2.2=some r∧(OSl dv 137 4 s.1 G v2 w.Alphas)∧(OSl bK 141 2 s.1 H v3 w.Chains)∧(OSl bb 133 1 s.1 s.2.2.1 v5 s.2.1)∧(OSl aZ 100 1 s.1 s.2.2.2.2.1 v6 s.2.2.2.1)) (ab,T.Alphas,D3,T.Rules,D4,0) N ⟨h,h1,c,V,W⟩ (sx [0,0,0,0,0,0,0,0] [0,0,0,0,0]) (fun n1 ag s hm=>?_)
 obtain⟨aq,s1,D5,s2,D6,y⟩:=s
 obtain⟨h,h1,c,A,B⟩:=hm
 dsimp only at h h1 c A B ⊢
 unfold iN at h
 refine att 5 [] J ?_
 refine ch h J ?_ ?_<;>intro h
 ·refine atr 6 [] J ?_
  obtain⟨x3,Y,h⟩:=bs h
  obtain⟨ar,F3,-,g1,au,av,r1⟩:=u.el (a8 Y).2.2
  obtain⟨v7,G1,rfl,ah,h5⟩:=r1
  obtain rfl:=ah.symm
  refine lia u Y J<|lhx 0 3 g1 J<|lnz qM J fun aw=>la J<|soN 0 xF J ⟨J,J,h5.one,trivial⟩ J ?_
  refine en<|wm [0,1,2,3,4,5] [13] J<|amm 7 [0,162,1,66,2,34,3,0,4,128,5,6] [0,1,2,3,4,5] J J ?_
  obtain⟨x4,Z,h⟩:=bs h
  refine mqT 7 [10,13] J OU (kN [0,1,2,3,4,5]) (If np J J u Z) J ?_
  obtain⟨F4,h6,ax⟩:=u.sub Z
  refine amm 2 [8,1,9,128] [0,1,2,3,4,5] J J<|mq 10 J OU (kN [0,1,2,3,4,5]) (bE (vs:=[(0,(slc j (0:Int).toNat (wz (y+1)).toNat 3)),(1,iV p.Next)]) (C:=#[(slc j (0:Int).toNat (wz (y+1)).toNat 3),iV p.Next]) I3 sU J (aa (C':=[(slc j (0:Int).toNat (wz (y+1)).toNat 3),iV 0]) J (dp h6.one) J J J (aa (C':=[(slc j (0:Int).toNat (wz (y+1)).toNat 3),iV p.Next]) J J J J J (af)))) J<|amm 2 [11,0,12,0] [0,1,2,3,4,5] J J ?_
  obtain⟨x5,ak,h⟩:=bs h
  refine WM.one 13 OU (mc J (fun hc=>by cases hc) (bJ (js:=[0,0,0,0]) (R:=[ob v2,G,ob v3,H]) Mn J J (fun w1 hw ap hl=>tA N (bx hw ap hl) t w (⟨s1,s2⟩:aJ) (⟨x4,p.Next⟩:ae) x3.Id (I.y (hw.uo ap)) ((h1.rslG dv.gives).x (Dj.app (ap.q 0 J) (ap.q 1 J))) ((c.rslG bK.gives).x (Dj.app (ap.q 2 J) (ap.q 3 J))) A B (h6.y (hw.uo ap))  ak)) J ?_)
  rintro v8 ay F5 ⟨D,a7,D7,D8,rfl,rfl,h7,h8⟩
  replace h1:=h1.fr a7 (D.q 0 J) (D.q 1 J)
  replace c:=c.fr a7 (D.q 2 J) (D.q 3 J)
  refine WM.nil OU<|att 5 [] J ?_
  exact lb [0,0,0,0,0,0,0,0] [1,1,1,1,1] (ag (_,_,_,_,_,_) ⟨h,h1,c,h7,h8⟩)
 refine atr 4 [2] J<|soN 2 oC J ⟨A.one,B.one,trivial⟩ J ?_
 refine en ?_
 exact rtg [0,0,0,0] hF (aB.one (bd uO J (fun w1 hw=>hw.rgO (i:=2) J 0 2 [v5,v6] J) J)) J (by cases h;exact fun w1 hw=>⟨v5,D5,v6,D6,rfl,rfl,A,B⟩)
theorem jy {c:Nat} {p:List Value} (w0:aA d a []) (b:(List bk)) (q:(List bk)) (t:bk→bk→Option (Bool)) (u:RSl iv 1 d b4 l b) (w:RSl iv 1 d b5 k q) (H:Fun prog c=true) (I:∀ {v:Hp} {w':World},FrH [] a v→In v w'→∀ (y:bk) (z:bk) {A:Value} {K:List Nat} {B:Value} {L:List Nat} (_:RSl (RI .i64) 1 v K A y.L) (_:RSl (RI .i64) 1 v L B z.L) {r:Bool},t y z=some r→Calls prog c (([.agg [A].toArray,.agg [B].toArray]:List Value)++p).toArray w' (lg (.bool r) w')) {r:Bool} (h:bQ N b q t=some r) :
  CB w0 prog 109 [l,k,.func (.func c) #[] p.toArray] (.bool r):=by
 refine eN func109 J ntmps109 J w0 fun x=>?_
 unfold bQ at h
 refine atr 8 [] J<|lnr u J<|la J<|lnr w J<|la J<|en ?_
 refine ch h J ?_ ?_<;>intro h
 ·refine att 4 [] J ?_
  exact rt x h
 refine atr 5 [] J<|lnr u J<|art 3 [] J ?_
 refine lin (σ:=Int) (fun s=>[(1,k),(2,.func (.func c) #[] p.toArray),(15,l),(16,iV (b.length:Int)),(17,iV s)]) (fun s=>St w0 a [] []) (fun m s=>aP N b q t m s=some r) (0) N h (sx [] []) (fun M O s hm=>?_)
 revert hm;revert s;intro s1 hm
 have h:aP N b q t (M+1) s1=some r:=hm
 show WT _ _ [(1,k),(2,.func (.func c) #[] p.toArray),(15,l),(16,iV (b.length:Int)),(17,iV s1)] (St w0 a [] [])
 unfold aP at h
 refine att 5 [] J ?_
 refine ch h J ?_ ?_<;>intro h
 ·refine atr 6 [] J ?_
  obtain⟨P,D,h⟩:=bs h
  obtain⟨W,X,-,g1,Y,Z,Q⟩:=u.el (a8 D).2.2
  obtain⟨v1,G1,rfl,R,h1⟩:=Q
  obtain rfl:=R.symm
  refine lia u D J<|lhx 0 1 g1 J ?_
  refine ln (iu (C:=#[.slice none 0 0]) tM J) J (fun a7=>?_)
  refine la J<|soN 0 Ej J ⟨h1.one,trivial⟩ J ?_
  refine arr 5 [] J ?_
  obtain⟨S,E,h⟩:=bs h
  obtain⟨aa,F2,-,g2,ab,ae,T⟩:=w.el (a8 E).2.2
  obtain⟨v2,G2,rfl,U,F⟩:=T
  obtain rfl:=U.symm
  refine lia w E J<|lhx 0 1 g2 J ?_
  refine ln (iu (C:=#[.slice none 0 0]) tM J) J (fun af=>?_)
  refine soN 0 Ej J ⟨F.one,trivial⟩ J ?_
  refine arr 4 [] J<|lq (ay Ia J (fun G hw=>hw.rgO (i:=1) J 0 1 [v1] J) J) J<|lq (ay Ia J (fun G hw=>hw.rgO (i:=0) J 0 1 [v2] J) J) J ?_
  obtain⟨x3,V,h⟩:=bs h
  refine lp (je H J J (fun G hw=>I hw.frB hw.fro P S (h1.y hw.up) (F.y hw.up) V)) J<|la J<|en ?_
  refine ch h J ?_ ?_<;>intro h
  ·refine att 4 [] J ?_
   exact rt x h
  refine att 6 [] J ?_
  exact lb [] [] (O _ h)
 refine att 5 [] J ?_
 exact rt x h
theorem wh (w0:aA d a []) (b:bk) (c:bk) (i:RSl (RI .i64) 1 d aj e b.L) (m:RSl (RI .i64) 1 d b0 j c.L) {r:Bool} (h:ip N b c=some r) :
  CB w0 prog 110 [.agg [e].toArray,.agg [j].toArray] (.bool r):=by
 refine eN func110 J ntmps110 J w0 fun p=>?_
 unfold ip at h
 refine sr ?_
 refine ln (vD (C:=#[e]) J J) J (fun q=>?_)
 refine ln (vD (C:=#[j]) J J) J (fun s=>?_)
 refine arr 8 [0,32,0,0] J<|qd h (f7 N · b.L c.L i m ·) J J J fun t h=>la J<|en ?_
 exact rt p h
theorem jz {c:Nat} {p:List Value} (w0:aA d a []) (b:(List aH)) (q:(List aH)) (t:aH→aH→Option (Bool)) (u:RSl lH 1 d b4 l b) (w:RSl lH 1 d b5 k q) (H:Fun prog c=true) (I:∀ {v:Hp} {w':World},FrH [] a v→In v w'→∀ (y:aH) (z:aH) {A:Value} {K:List Nat} {B:Value} {L:List Nat} (_:RSl iK 1 v K A y.Levels) (_:RSl iK 1 v L B z.Levels) {r:Bool},t y z=some r→Calls prog c (([.agg [A].toArray,.agg [B].toArray]:List Value)++p).toArray w' (lg (.bool r) w')) {r:Bool} (h:bO N b q t=some r) :
  CB w0 prog 111 [l,k,.func (.func c) #[] p.toArray] (.bool r):=by
 refine eN func111 J ntmps111 J w0 fun x=>?_
 unfold bO at h
 refine atr 8 [] J<|lnr u J<|la J<|lnr w J<|la J<|en ?_
 refine ch h J ?_ ?_<;>intro h
 ·refine att 4 [] J ?_
  exact rt x h
 refine atr 5 [] J<|lnr u J<|art 3 [] J ?_
 refine lin (σ:=Int) (fun s=>[(1,k),(2,.func (.func c) #[] p.toArray),(15,l),(16,iV (b.length:Int)),(17,iV s)]) (fun s=>St w0 a [] []) (fun m s=>aN N b q t m s=some r) (0) N h (sx [] []) (fun M O s hm=>?_)
 revert hm;revert s;intro s1 hm
 have h:aN N b q t (M+1) s1=some r:=hm
 show WT _ _ [(1,k),(2,.func (.func c) #[] p.toArray),(15,l),(16,iV (b.length:Int)),(17,iV s1)] (St w0 a [] [])
 unfold aN at h
 refine att 5 [] J ?_
 refine ch h J ?_ ?_<;>intro h
 ·refine atr 6 [] J ?_
  obtain⟨P,D,h⟩:=bs h
  obtain⟨W,X,-,g1,Y,Z,Q⟩:=u.el (a8 D).2.2
  obtain⟨v1,G1,rfl,R,h1⟩:=Q
  obtain rfl:=R.symm
  refine lia u D J<|lhx 0 1 g1 J ?_
  refine ln (iu (C:=#[.slice none 0 0]) ny J) J (fun a7=>?_)
  refine la J<|soN 0 ve J ⟨h1.one,trivial⟩ J ?_
  refine arr 5 [] J ?_
  obtain⟨S,E,h⟩:=bs h
  obtain⟨aa,F2,-,g2,ab,ae,T⟩:=w.el (a8 E).2.2
  obtain⟨v2,G2,rfl,U,F⟩:=T
  obtain rfl:=U.symm
  refine lia w E J<|lhx 0 1 g2 J ?_
  refine ln (iu (C:=#[.slice none 0 0]) ny J) J (fun af=>?_)
  refine soN 0 ve J ⟨F.one,trivial⟩ J ?_
  refine arr 4 [] J<|lq (ay BP J (fun G hw=>hw.rgO (i:=1) J 0 1 [v1] J) J) J<|lq (ay BP J (fun G hw=>hw.rgO (i:=0) J 0 1 [v2] J) J) J ?_
  obtain⟨x3,V,h⟩:=bs h
  refine lp (je H J J (fun G hw=>I hw.frB hw.fro P S (h1.y hw.up) (F.y hw.up) V)) J<|la J<|en ?_
  refine ch h J ?_ ?_<;>intro h
  ·refine att 4 [] J ?_
   exact rt x h
  refine att 6 [] J ?_
  exact lb [] [] (O _ h)
 refine att 5 [] J ?_
 exact rt x h
theorem ia {c:Nat} {p:List Value} (w0:aA d a []) (b:(List ar)) (q:(List ar)) (t:ar→ar→Option (Bool)) (u:RSl iK 1 d b4 l b) (w:RSl iK 1 d b5 k q) (H:Fun prog c=true) (I:∀ {v:Hp} {w':World},FrH [] a v→In v w'→∀ (y:ar) (z:ar) {A:Value} {K:List Nat} {B:Value} {L:List Nat} (_:RSl dY 2 v K A y.Toks) (_:RSl dY 2 v L B z.Toks) {r:Bool},t y z=some r→Calls prog c (([.agg [A].toArray,.agg [B].toArray]:List Value)++p).toArray w' (lg (.bool r) w')) {r:Bool} (h:bN N b q t=some r) :
  CB w0 prog 113 [l,k,.func (.func c) #[] p.toArray] (.bool r):=by
 refine eN func113 J ntmps113 J w0 fun x=>?_
 unfold bN at h
 refine atr 8 [] J<|lnr u J<|la J<|lnr w J<|la J<|en ?_
 refine ch h J ?_ ?_<;>intro h
 ·refine att 4 [] J ?_
  exact rt x h
 refine atr 5 [] J<|lnr u J<|art 3 [] J ?_
 refine lin (σ:=Int) (fun s=>[(1,k),(2,.func (.func c) #[] p.toArray),(15,l),(16,iV (b.length:Int)),(17,iV s)]) (fun s=>St w0 a [] []) (fun m s=>aD N b q t m s=some r) (0) N h (sx [] []) (fun M O s hm=>?_)
 revert hm;revert s;intro s1 hm
 have h:aD N b q t (M+1) s1=some r:=hm
 show WT _ _ [(1,k),(2,.func (.func c) #[] p.toArray),(15,l),(16,iV (b.length:Int)),(17,iV s1)] (St w0 a [] [])
 unfold aD at h
 refine att 5 [] J ?_
 refine ch h J ?_ ?_<;>intro h
 ·refine atr 6 [] J ?_
  obtain⟨P,D,h⟩:=bs h
  obtain⟨W,X,-,g1,Y,Z,Q⟩:=u.el (a8 D).2.2
  obtain⟨v1,G1,rfl,R,h1⟩:=Q
  obtain rfl:=R.symm
  refine lia u D J<|lhx 0 1 g1 J ?_
  refine ln (iu (C:=#[.slice none 0 0]) rY J) J (fun a7=>?_)
  refine la J<|soN 0 Bj J ⟨h1.one,trivial⟩ J ?_
  refine arr 5 [] J ?_
  obtain⟨S,E,h⟩:=bs h
  obtain⟨aa,F2,-,g2,ab,ae,T⟩:=w.el (a8 E).2.2
  obtain⟨v2,G2,rfl,U,F⟩:=T
  obtain rfl:=U.symm
  refine lia w E J<|lhx 0 1 g2 J ?_
  refine ln (iu (C:=#[.slice none 0 0]) rY J) J (fun af=>?_)
  refine soN 0 Bj J ⟨F.one,trivial⟩ J ?_
  refine arr 4 [] J<|lq (ay DB J (fun G hw=>hw.rgO (i:=1) J 0 1 [v1] J) J) J<|lq (ay DB J (fun G hw=>hw.rgO (i:=0) J 0 1 [v2] J) J) J ?_
  obtain⟨x3,V,h⟩:=bs h
  refine lp (je H J J (fun G hw=>I hw.frB hw.fro P S (h1.y hw.up) (F.y hw.up) V)) J<|la J<|en ?_
  refine ch h J ?_ ?_<;>intro h
  ·refine att 4 [] J ?_
   exact rt x h
  refine att 6 [] J ?_
  exact lb [] [] (O _ h)
 refine att 5 [] J ?_
 exact rt x h
end Go.Proofs.YtedmfnmbjglmbaaGreat
