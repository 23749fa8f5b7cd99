/- Printed by a program of ours: each Go function computes its Lean function. -/
import Derived.Test.YtedmfnmbjglmbaaGreatProg
import Derived.Test.YtedmfnmbjglmbaaGreatWCameWalk5
namespace Go.Proofs.YtedmfnmbjglmbaaGreat
open Eng Tryz
open Go.RowKit (Below)
set_option linter.unusedVariables false
set_option linter.unusedSimpArgs false

set_option maxRecDepth 100000
set_option maxHeartbeats 1000000
variable {e d:Hp} {f n o j g p:Value} {l ai aj a1 ad a6:List Nat} {a:Nat} (N:Nat)
theorem xI (N:Nat):∀ {e d:Hp} {g j O P H ag ah:Value} {E a1 b4 b5 b6 b7 b8:List Nat} {a:Nat} (w0:aD e d [[a],ob g,E].flatten) (p0:(List a7)) (k:af) (y:ac) (V:(List Int)) (S:(List au)) (I:OSl aO 63 3 d E g p0) (B:d a=some (.cells #[g] 41 (0,0))) (M:RSl cS 3 e a1 j k.Pats) (ak:RSl cH 11 e b4 O k.Conds) (aA:RSl hU 5 e b5 P k.Acts) (X:RSl aY 3 e b6 H y.Items) (al:RSl (RI .i64) 1 e b7 ag V) (aB:RSl aJ 4 e b8 ah S) {r:(List a7)} (h:fX N p0 k y V S=some r),
  Calls prog 190 [pQ a,.agg [.string k.Name,iV k.Sal,j,O,P].toArray,.agg [H,iV y.Next].toArray,ag,ah].toArray w0.w (bc d w0.w [[a],ob g,E].flatten (fun b9 Fs v=>∃ (aT:Value) (bb:List Nat),v = .tuple #[]∧Fs=[[a],ob aT,bb]∧OSl aO 63 3 b9 bb aT r∧b9 a=some (.cells #[aT] 41 (0,0)))):=by
 induction N with
 | zero=>intros;rename_i h;simp[fX] at h
 | succ N ih=>
 intro e d g j O P H ag ah E a1 b4 b5 b6 b7 b8 a w0 p0 k y V S I B M ak aA X al aB r h
 refine eL func190 J ntmps190 J (L:=[[a],ob g,E]) w0 (fun hF=>?_)
 unfold fX at h
 refine sr<|lbx J fun T=>lbx J fun U=>arr 4 [37] J<|kab h J J J (fun b z q=>qh N b k false (M.y z) (ak.y z) (aA.y z) q) ?_
 rintro x1 h v1 aU F1 ⟨aV,bd,v2,D1,rfl,rfl,h1,Y⟩
 replace I:=I.fr bd (aV.q 1 J) (aV.q 2 J)
 replace B:=bd _ _ ((aV.q 0 J) _ NS) B
 refine arr 6 [] J<|lnr al J<|la J<|lno h1 J<|la J<|en ?_
 refine ch h J ?_ ?_ <;> intro h
 ·refine atr 6 [37,2] J<|qd h (yj N · k y S M ak aA X aB ·) J J J fun x2 h=>arr 2 [] J ?_
  obtain⟨b1,Z,h⟩:=bs h
  refine WL.cutN 5 [(32,.bool b1),(0,pQ a),(3,ag),(4,ah)] ?_ (fun K=>?_)
  rotate_left
  ·refine sp 27 Z J (fun Z=>?_) fun Z=>?_
   ·refine arr 3 [3,32] J<|ly J J<|qd Z (t8 N · k.Conds S ak aB ·) J J J fun x3 Z=>la J ?_
    cases Z
    exact ku K
   ·refine arr 5 [] J ?_
    cases Z
    exact ku K
  refine en ?_
  refine ch h J ?_ ?_ <;> intro h
  ·refine WT.mix (Kn w0 aU [a] [(U,.cells #[H,iV y.Next] 29 (0,0)),(T,.cells #[.string k.Name,iV k.Sal,j,O,P] 87 (0,0))]) (fun i=>match i with | 12=>false | _=>true) mixed (fun _ h=>h.drew)<|ma 0 J NQ (kn Kf.id (ai2 0 1 J J)) J<|ma 1 J NQ (kn Kf.id (ai2 0 1 J J)) J<|mq 2 J NQ (kn Kf.id (ai2 0 1 J J)) (aC J) J ?_
   refine mq 3 J NQ (kn Kf.id (ai2 0 1 J J)) (aZ MM J (fun t hw=>hw.rg NS ((bP B).of_eq 0 1 J J:rg _ _ _ [g]))) J<|ma 4 J NQ (kn Kf.id (ai2 0 1 J J)) J<|ma 6 J NQ (kn Kf.id (ai2 0 1 J J)) J ?_
   obtain⟨x4,bt,h⟩:=bs h
   refine WM.one 5 NQ (mc J (fun _ v Q D t u hw=>Kn.of (Kf.id.st u.2.1 (u.1.r (i:=1) J)) (ai2 0 1 J J) hw) (bH (js:=[]) (R:=[ob v1,[a],ob g,E]) vU J J (fun t hw ap W=>cM N (ba hw.fro) V (al.y hw.up)  bt)) J ?_)
   rintro v3 cc F2 ⟨aL,aW,v4,rfl,rfl,h2⟩
   replace I:=I.fr aW (aL.q 2 J) (aL.q 3 J)
   replace B:=aW _ _ ((aL.q 1 J) _ NS) B
   obtain⟨x5,bw,h⟩:=bs h
   have be:=(Kf.id (F:=[a]):Kf aU _ _).st aW (aL.q 1 J)
   refine WM.one 7 NQ (mc J (fun _ v Q D t u hw=>Kn.of (be.st u.2.1 (u.1.r (i:=2) J)) (ai2 0 1 J J) hw) (bH (js:=[]) (R:=[ob v3,ob v1,[a],ob g,E]) J8 J J (fun t hw ap W=>d4 N (ba hw.fro) S (aB.y hw.up)  bw)) J ?_)
   rintro v5 bA F3 ⟨aE,aM,v6,rfl,rfl,h3⟩
   replace I:=I.fr aM (aE.q 3 J) (aE.q 4 J)
   replace h2:=h2.fr aM (aE.q 0 J) dN
   replace B:=aM _ _ ((aE.q 2 J) _ NS) B
   have aX:=be.st aM (aE.q 2 J)
   refine mq 8 J NQ (kn aX (ai2 0 1 J J)) (bu (vs:=[(1,v3),(2,v5)]) (C:=#[iV 0,v3,v5]) Kl wD J (aa (C':=[iV 0,v3,.slice none 0 0]) J (d6 h2.one) J J J (aa (C':=[iV 0,v3,v5]) J (d6 h3.one) J J J (ae)))) J ?_
   have bf:RC aO 3 bA ([(ob v3++[])++((ob v5++[]))]:List (List Nat)) [iV 0,v3,v5] ([(⟨0,x4,x5⟩:a7)]:List a7):=RC.cons (c:=[iV 0,v3,v5]) (cells:=[]) ⟨v3,v5,J,J,h2,h3⟩ J (RC.nil _ _ _)
   refine WM.one 9 NQ (me J (fun _ v Q D t u hw=>Kn.of (aX.se u.1) (ai2 0 1 J J) hw) (bz (vs:=[(0,.agg [iV 0,v3,v5].toArray)]) (C:=#[iV 0,v3,v5]) aO.lasts i9 wD J J J J (ar AJ (aa (C':=[iV 0,v3,v5]) J J J J J (ae))) J bf J (RC.kn aO.knows bf)) J ?_)
   rintro v7 bg D2 ⟨b0,h4⟩
   replace h4:OSl aO 63 3 bg ((ob v3++[])++((ob v5++[]))) v7 ([(⟨0,x4,x5⟩:a7)]:List a7):=by simpa[gf] using h4
   replace I:=I.f0 b0
   replace B:=b0 _ _ NS B
   refine WM.conv (S':=St w0 bg [(U,.cells #[H,iV y.Next] 29 (0,0)),(T,.cells #[.string k.Name,iV k.Sal,j,O,P] 87 (0,0))] [((ob v3++[])++((ob v5++[]))),ob v7,ob v1,[a],ob g,E]) (fun t hw=>hw.merge (js:=[2,1]) J (SP.eq (by simp[gf,cO]))) ?_
   obtain⟨x6,bB,h⟩:=bs h
   have bh:=aX.se b0
   refine WM.one 10 NQ (me J (fun _ v Q D t u hw=>Kn.of (bh.st u.1.2 (u.1.1.r (i:=3) J)) (ai2 0 1 J J) hw) (dS aO.lasts aO.one i9 Eh J J J J J (js:=[4]) (Rr:=[((ob v3++[])++((ob v5++[]))),ob v7,ob v1,[a],E]) J I h4 (fun ap=>ap.q 4 J) (fun ap=>ap.q 0 J) bB) J ?_)
   rintro v8 bC D3 ⟨⟨bj,bk⟩,h5⟩
   replace B:=bk _ _ ((bj.q 3 J) _ NS) B
   refine WM.conv (S':=St w0 bC [(U,.cells #[H,iV y.Next] 29 (0,0)),(T,.cells #[.string k.Name,iV k.Sal,j,O,P] 87 (0,0))] [(E++((ob v3++[])++((ob v5++[])))),ob v8,ob v7,ob v1,[a]]) (fun t hw=>hw.merge (js:=[5,1]) J (SP.eq NS)) ?_
   have bD:=bh.st bk (bj.q 3 J)
   refine mq 11 J NQ (kn bD (ai2 0 1 J J)) (aC J) J ?_
   refine WM.thw (js:=[4]) (R:=[(E++((ob v3++[])++((ob v5++[])))),ob v8,ob v7,ob v1]) J B (fun cd bl bE=>?_)
   replace h5:=h5.fr bE (bl.q 1 J) (bl.q 0 J)
   refine on1 12 (ms1 0 J nk M7 J h5.one ?_)
   refine WM.nil NQ ?_
   refine WT.frz (js:=[0]) (R:=[(U,.cells #[H,iV y.Next] 29 (0,0)),(T,.cells #[.string k.Name,iV k.Sal,j,O,P] 87 (0,0))]) J (fun cf bF k1=>?_)
   replace h5:=h5.f0 bF
   exact rtg [0,1,0] hF az.none J (by cases h;exact fun t hw=>⟨v8,(E++((ob v3++[])++((ob v5++[])))),J,J,h5,k1⟩)
  refine WT.skip ?_
  exact rtg [1,1,1] hF az.none J (by cases h;exact fun t hw=>⟨g,E,rfl,rfl,I,B⟩)
 refine atr 5 [0,0] J<|lnr X J<|art 3 [] J ?_
 refine lin (σ:=Hp × (List a7) × Value × List Nat × Int) (fun s=>[(0,pQ a),(3,ag),(4,ah),(6,pQ T),(7,pQ U),(10,v1),(46,H),(47,iV (y.Items.length:Int)),(48,iV s.2.2.2.2)]) (fun s=>St w0 s.1 [(U,.cells #[H,iV y.Next] 29 (0,0)),(T,.cells #[.string k.Name,iV k.Sal,j,O,P] 87 (0,0))] [ob v1,[a],ob s.2.2.1,s.2.2.2.1]) (fun m s=>eP N k y V S (fX N) x1 m s.2.1 s.2.2.2.2=some r∧(OSl aO 63 3 s.1 s.2.2.2.1 s.2.2.1 s.2.1)∧(OSl cS 201 3 s.1 D1 v1 x1)∧(s.1 a=some (.cells #[s.2.2.1] 41 (0,0)))) (aU,p0,g,E,0) N ⟨h,I,h1,B⟩ (sx [0,0,0,0] [0,0]) (fun n1 bm s hm=>?_)
 obtain⟨bn,s1,u1,D4,s2⟩:=s
 obtain⟨h,w,h1,x⟩:=hm
 dsimp only at h w h1 x ⊢
 unfold eP at h
 refine att 5 [] J ?_
 refine ch h J ?_ ?_ <;> intro h
 ·refine atr 5 [] J ?_
  obtain⟨A,bo,h⟩:=bs h
  obtain⟨cg,F4,-,g1,cj,ck,r1⟩:=X.el (a8 bo).2.2
  obtain⟨v9,G1,rfl,bG,h6⟩:=r1
  obtain rfl:=bG.symm
  refine lia X bo J<|lhx 0 3 g1 J<|lnz ox J fun bI=>soN 0 wT J ⟨J,J,h6.one,trivial⟩ J ?_
  refine en<|sq<|WT.mix (Kn w0 bn (ob v1) [(bI,.cells #[iV A.Id,.string A.F.Kind,v9] 66 (0,0)),(U,.cells #[H,iV y.Next] 29 (0,0)),(T,.cells #[.string k.Name,iV k.Sal,j,O,P] 87 (0,0))]) (fun _=>true) mixed (fun _ h=>h.drew)<|ma 0 J NQ (kn Kf.id (ai3 0 1 2 J J J)) J<|ma 1 J NQ (kn Kf.id (ai3 0 1 2 J J J)) J<|mq 2 J NQ (kn Kf.id (ai3 0 1 2 J J J)) (mK cq J J al) J ?_
  obtain⟨x8,bp,h⟩:=bs h
  obtain⟨cm,F5,-,g2,bJ,cn,r2⟩:=h1.elS (a8 bp).2.2
  obtain⟨v10,G2,rfl,bK,h7⟩:=r2
  obtain rfl:=bK.symm
  refine mq 3 J NQ (kn Kf.id (ai3 0 1 2 J J J)) (an tb J J h1.rsl bp) J<|mq 4 J NQ (kn Kf.id (ai3 0 1 2 J J J)) (aw wn J (fun t hw=>hw.rg bJ (g2.of_eq 0 3 J J:rg _ _ _ [.string x8.Kind,v10,.bool x8.Not])) J) J<|mq 5 J NQ (kn Kf.id (ai3 0 1 2 J J J)) (ax yr J) J<|mq 6 J NQ (kn Kf.id (ai3 0 1 2 J J J)) (aw mf J (fun t hw=>hw.rgO (i:=0) J 1 2 [.string A.F.Kind,v9] J) J) J ?_
  refine ma 7 J NQ (kn Kf.id (ai3 0 1 2 J J J)) J ?_
  obtain⟨x9,bL,h⟩:=bs h
  refine WM.one 8 NQ (mc J (fun _ v Q D t u hw=>Kn.of (Kf.id.st u.2.1 (u.1.r (i:=0) J)) (ai3 0 1 2 J J J) hw) (bH (js:=[]) (R:=[ob v1,[a],ob u1,D4]) E5 J J (fun t hw ap W=>lE N (ba hw.fro) x8 A.F S h7 (h6.y hw.up) (aB.y hw.up)  bL)) J ?_)
  rintro v11 bM F6 ⟨ao,aN,v12,rfl,rfl,G⟩
  replace w:=w.fr aN (ao.q 2 J) (ao.q 3 J)
  replace h1:=h1.fr aN (ao.q 0 J) (Dj.sub (ao.o M.old) Y)
  replace x:=aN _ _ ((ao.q 1 J) _ NS) x
  have aF:=(Kf.id (F:=(ob v1)):Kf bn _ _).st aN (ao.q 0 J)
  refine ma 9 J NQ (kn aF (ai3 0 1 2 J J J)) J<|ma 10 J NQ (kn aF (ai3 0 1 2 J J J)) J<|ma 11 J NQ (kn aF (ai3 0 1 2 J J J)) J<|ma 12 J NQ (kn aF (ai3 0 1 2 J J J)) J<|ma 13 J NQ (kn aF (ai3 0 1 2 J J J)) J<|WM.nil NQ<|att 4 [] J ?_
  refine ch h J ?_ ?_ <;> intro h
  ·refine cut (σ:=Hp × (List a7) × Value × List Nat) (fun s=>[(0,pQ a),(3,ag),(4,ah),(6,pQ T),(7,pQ U),(10,v1),(46,H),(47,iV (y.Items.length:Int)),(48,iV s2)]) (fun s=>St w0 s.1 [(U,.cells #[H,iV y.Next] 29 (0,0)),(T,.cells #[.string k.Name,iV k.Sal,j,O,P] 87 (0,0))] [[a],ob s.2.2.1,s.2.2.2,ob v1]) (fun s=>mH N s2 (eP N k y V S (fX N) x1 n1) s.2.1=some r∧(OSl cS 201 3 s.1 D1 v1 x1)∧(OSl aO 63 3 s.1 s.2.2.2 s.2.2.1 s.2.1)∧(s.1 a=some (.cells #[s.2.2.1] 41 (0,0)))) (fun s hm=>?_) (fun K=>?_)
   ·clear h
    obtain⟨cp,s3,u2,D8⟩:=s
    obtain⟨h,h1,k4,k5⟩:=hm
    dsimp only at h h1 k4 k5 ⊢
    unfold mH at h
    refine att 5 [] J ?_
    exact lb [3,0,0,0] [0,0] (bm (_,_,_,_,_) ⟨h,k4,h1,k5⟩)
   refine wm [0,1,2] [10] J<|amm 7 [0,1,69,2,34,9,3,5,0,6,0] [0,1,2] J J ?_
   refine WM.two 4 7 NQ ?_ ?_
   ·obtain⟨cr,bN,h⟩:=bs h
    refine mc J (fun _ v Q D t u hw=>Kn.of Kf.nil (ai3 0 1 2 J J J) hw) (bH (js:=[]) (R:=[ob v12,ob v1,[a],ob u1,D4]) vU J J (fun t hw ap W=>cM N (ba hw.fro) V (al.y hw.up)  bN)) J ?_
    rintro ct bO F9 ⟨aq,aP,v20,rfl,rfl,b2⟩
    replace w:=w.fr aP (aq.q 3 J) (aq.q 4 J)
    replace h1:=h1.fr aP (aq.q 1 J) (Dj.sub (aq.o M.old) Y)
    replace G:=G.fr aP (aq.q 0 J) dN
    replace x:=aP _ _ ((aq.q 2 J) _ NS) x
    have bQ:RC (RI .i64) 1 bO ([[]]:List (List Nat)) [iV A.Id] ([A.Id]:List Int):=RC.cons (c:=[iV A.Id]) (cells:=[]) ⟨J,J⟩ J (RC.nil _ _ _)
    refine WM.one 7 NQ (me J (fun _ v Q D t u hw=>Kn.of Kf.nil (ai3 0 1 2 J J J) hw) (bz (vs:=[(0,iV A.Id)]) (C:=#[iV A.Id]) RI.lasts cq mg J J J J (ar ki (aa (C':=[iV A.Id]) J J J J J (ae))) J bQ J (by simpa using Kw.nil)) J ?_)
    rintro v21 bR D9 ⟨aG,b3⟩
    replace b3:OSl (RI .i64) 3 1 bR [] v21 ([A.Id]:List Int):=by simpa using b3
    replace w:=w.f0 aG
    replace h1:=h1.f0 aG
    replace G:=G.f0 aG
    replace b2:=b2.f0 aG
    replace x:=aG _ _ NS x
    obtain⟨bS,bT,h⟩:=bs h
    refine WM.one 8 NQ (me J (fun _ v Q D t u hw=>Kn.of Kf.nil (ai3 0 1 2 J J J) hw) (dM RI.lasts RI.one RI.flat cq sh J J J J J (js:=[1]) (Rr:=[ob v21,ob v12,ob v1,[a],ob u1,D4]) J b2 b3.rsl bT) J ?_)
    rintro v22 cu cv ⟨⟨av,aQ⟩,bU⟩
    replace w:=w.fr aQ (av.q 4 J) (av.q 5 J)
    replace h1:=h1.fr aQ (av.q 2 J) (Dj.sub (av.o M.old) Y)
    replace G:=G.fr aQ (av.q 1 J) dN
    replace x:=aQ _ _ ((av.q 3 J) _ NS) x
    obtain⟨cw,bV,h⟩:=bs h
    refine WM.one 10 NQ (mc J (fun hc=>by cases hc) (bH (js:=[4,4,4]) (R:=[ob v22,ob v21,ob v12,ob v1]) Et J J (fun t hw ap W=>ih (bx hw ap W) s1 k y bS x9.1 w x (M.y (hw.uo ap)) (ak.y (hw.uo ap)) (aA.y (hw.uo ap)) (X.y (hw.uo ap)) (bU.rsl.x (Dj.app (ap.q 0 J) dN)) (G.rsl.x (Dj.app (ap.q 2 J) dN))  bV)) J ?_)
    rintro v23 cx cy ⟨bq,bW,v24,cz,rfl,rfl,bX,bY⟩
    replace h1:=h1.fr bW (bq.q 3 J) (Dj.sub (bq.o M.old) Y)
    refine WM.nil NQ ?_
    exact wo [0,0,0,3] [1,1] (K (_,_,_,_) ⟨h,h1,bX,bY⟩)
   have bZ:RC (RI .i64) 1 bM ([[]]:List (List Nat)) [iV A.Id] ([A.Id]:List Int):=RC.cons (c:=[iV A.Id]) (cells:=[]) ⟨J,J⟩ J (RC.nil _ _ _)
   refine me J (fun _ v Q D t u hw=>Kn.of Kf.nil (ai3 0 1 2 J J J) hw) (bz (vs:=[(0,iV A.Id)]) (C:=#[iV A.Id]) RI.lasts cq mg J J J J (ar ki (aa (C':=[iV A.Id]) J J J J J (ae))) J bZ J (by simpa using Kw.nil)) J ?_
   rintro v25 c0 cA ⟨aR,aI⟩
   replace aI:OSl (RI .i64) 3 1 c0 [] v25 ([A.Id]:List Int):=by simpa using aI
   replace w:=w.f0 aR
   replace h1:=h1.f0 aR
   replace G:=G.f0 aR
   replace x:=aR _ _ NS x
   obtain⟨cB,c3,h⟩:=bs h
   refine WM.one 4 NQ (mc J (fun _ v Q D t u hw=>Kn.of Kf.nil (ai3 0 1 2 J J J) hw) (bH (js:=[]) (R:=[ob v25,ob v12,ob v1,[a],ob u1,D4]) vU J J (fun t hw ap W=>cM N (ba hw.fro) V (al.y hw.up)  c3)) J ?_)
   rintro v26 cC cD ⟨ab,aK,cE,rfl,rfl,c4⟩
   replace w:=w.fr aK (ab.q 4 J) (ab.q 5 J)
   replace h1:=h1.fr aK (ab.q 2 J) (Dj.sub (ab.o M.old) Y)
   replace aI:=aI.fr aK (ab.q 0 J) dN
   replace G:=G.fr aK (ab.q 1 J) dN
   replace x:=aK _ _ ((ab.q 3 J) _ NS) x
   obtain⟨c5,c6,h⟩:=bs h
   refine WM.one 8 NQ (me J (fun _ v Q D t u hw=>Kn.of Kf.nil (ai3 0 1 2 J J J) hw) (dM RI.lasts RI.one RI.flat cq sh J J J J J (js:=[0]) (Rr:=[ob v25,ob v12,ob v1,[a],ob u1,D4]) J c4 aI.rsl c6) J ?_)
   rintro v28 cF cG ⟨⟨ay,aS⟩,c7⟩
   replace w:=w.fr aS (ay.q 4 J) (ay.q 5 J)
   replace h1:=h1.fr aS (ay.q 2 J) (Dj.sub (ay.o M.old) Y)
   replace G:=G.fr aS (ay.q 1 J) dN
   replace x:=aS _ _ ((ay.q 3 J) _ NS) x
   obtain⟨cI,c8,h⟩:=bs h
   refine WM.one 10 NQ (mc J (fun hc=>by cases hc) (bH (js:=[4,4,4]) (R:=[ob v28,ob v25,ob v12,ob v1]) Et J J (fun t hw ap W=>ih (bx hw ap W) s1 k y c5 x9.1 w x (M.y (hw.uo ap)) (ak.y (hw.uo ap)) (aA.y (hw.uo ap)) (X.y (hw.uo ap)) (c7.rsl.x (Dj.app (ap.q 0 J) dN)) (G.rsl.x (Dj.app (ap.q 2 J) dN))  c8)) J ?_)
   rintro cJ cK cL ⟨br,c9,v30,cN,rfl,rfl,ca,cb⟩
   replace h1:=h1.fr c9 (br.q 3 J) (Dj.sub (br.o M.old) Y)
   refine WM.nil NQ ?_
   exact wo [0,0,0,3] [1,1] (K (_,_,_,_) ⟨h,h1,ca,cb⟩)
  refine att 6 [] J ?_
  exact lb [1,1,1,1] [1,1] (bm (_,_,_,_,_) ⟨h,w,h1,x⟩)
 refine xt J ?_
 refine WT.fin hF az.none (fun t hw=>?_)
 cases h
 refine aH (js:=[1,1,1]) hw J ⟨u1,D4,J,J,w,x⟩
theorem vQ (w0:aD e d []) (c:af) (i:ac) (s:RSl cS 3 e l f c.Pats) (t:RSl cH 11 e ai n c.Conds) (u:RSl hU 5 e aj o c.Acts) (w:RSl aY 3 e a1 j i.Items) {r:(List a7)} (h:lC N c i=some r) :
  Calls prog 122 [.agg [.string c.Name,iV c.Sal,f,n,o].toArray,.agg [j,iV i.Next].toArray].toArray w0.w (bc d w0.w [] (fun x Fs v=>∃ (k:Value) (m:List Nat),v=k∧Fs=[ob k,m]∧OSl aO 63 3 x m k r)):=by
 refine eN func122 J ntmps122 J w0 fun y=>?_
 unfold lC at h
 refine sr<|lbx J fun A=>lbx J fun B=>arr 4 [] J ?_
 refine ln (ip (C:=#[.slice none 0 0]) Mg J) J (fun I=>?_)
 refine arr 5 [69,34] J ?_
 refine WL.frz (js:=[0]) (R:=[(B,.cells #[j,iV i.Next] 29 (0,0)),(A,.cells #[.string c.Name,iV c.Sal,f,n,o] 87 (0,0))]) J (fun D K E=>?_)
 refine wlS<|wl0 ?_
 have F:=OSl.nil aO 63 3 D
 refine kcb [2,1,0] h J J J J (fun b ap z q=>xI N b ([]:List a7) c i [] [] F E (s.y z) (t.y z) (u.y z) (w.y z) (RSl.nil _ _ _) (RSl.nil _ _ _) q) ?_
 rintro L h v1 M O ⟨P,Q,v2,G,rfl,rfl,h1,H⟩
 refine en<|sr<|lgx 0 0 (bP H) J<|la J<|en ?_
 exact rtg [1,1] y (az.one J) J (by cases h;exact fun S hw=>⟨v2,G,rfl,rfl,h1⟩)
theorem Aq (w0:aD e d []) (w:bv) (u:ac) (I:RSl fb 5 e l f w.Rules) (ag:RSl aY 3 e a1 j u.Items) {r:(List a7)} (h:rc N w u=some r) :
  Calls prog 59 [.agg [.string w.Name,f].toArray,.agg [j,iV u.Next].toArray].toArray w0.w (bc d w0.w [] (fun ah Fs v=>∃ (K:Value) (O:List Nat) (X:List Nat),v=K∧Fs=[ob K,X]∧OSl dO 63 3 ah O K r∧(∀ k∈O,k∈X))):=by
 refine eN func59 J ntmps59 J w0 fun hF=>?_
 unfold rc at h
 refine sr<|lbx J fun ay=>lbx J fun D=>arr 11 [1,32] J<|lnr I J<|art 3 [] J<|wt0<|wtS ?_
 have k1:=OSl.nil dO 63 3 d
 refine lin (σ:=Hp × List Nat × (List a7) × Value × List Nat × Int) (fun s=>[(3,pQ D),(5,s.2.2.2.1),(11,f),(12,iV (w.Rules.length:Int)),(13,iV s.2.2.2.2.2)]) (fun s=>St w0 s.1 [(D,.cells #[j,iV u.Next] 29 (0,0))] [ob s.2.2.2.1,s.2.1]) (fun m s=>gC N w u m s.2.2.1 s.2.2.2.2.2=some r∧(OSl dO 63 3 s.1 s.2.2.2.2.1 s.2.2.2.1 s.2.2.1)∧(∀ k∈s.2.2.2.2.1,k∈s.2.1)) (d,[],([]:List a7),(.slice none 0 0),[],0) N ⟨h,k1,NS⟩ (sx [0,0] [0]) (fun n1 ak s hm=>?_)
 obtain⟨aA,x,s1,P,Q,s2⟩:=s
 obtain⟨h,y,E⟩:=hm
 dsimp only at h y E ⊢
 unfold gC at h
 refine att 5 [] J ?_
 refine ch h J ?_ ?_ <;> intro h
 ·refine atr 6 [] J ?_
  obtain⟨x1,R,h⟩:=bs h
  obtain⟨aB,F1,-,g1,aC,aE,r1⟩:=I.el (a8 R).2.2
  obtain⟨v1,G1,v2,G2,v3,G3,rfl,rfl,h1,S,T⟩:=r1
  refine lia I R J<|lhx 0 5 g1 J<|lnz uY J fun aF=>la J<|soN 0 yh J ⟨J,J,h1.one,S.one,T.one,trivial⟩ J ?_
  refine arr 5 [5,34] J<|kab h J J J (fun b z q=>vQ N b x1 u (h1.y z) (S.y z) (T.y z) (ag.y z) q) ?_
  rintro L h v4 al F2 ⟨U,an,v5,A,rfl,rfl,i⟩
  replace y:=y.fr an (U.q 0 J) (Dj.sub (U.q 1 J) E)
  refine lno i J<|art 3 [] J ?_
  refine lin (σ:=Hp × (List a7) × Value × List Nat × Int) (fun s=>[(3,pQ D),(5,s.2.2.1),(6,iV s2),(11,f),(12,iV (w.Rules.length:Int)),(13,iV s2),(20,v4),(21,iV (L.length:Int)),(22,iV s.2.2.2.2)]) (fun s=>St w0 s.1 [(D,.cells #[j,iV u.Next] 29 (0,0))] [ob v4,A,ob s.2.2.1,x]) (fun m s=>jj N s2 (gC N w u n1) L m s.2.1 s.2.2.2.2=some r∧(OSl dO 63 3 s.1 s.2.2.2.1 s.2.2.1 s.2.1)∧(∀ k∈s.2.2.2.1,k∈(x++A))∧(OSl aO 63 3 s.1 A v4 L)) (al,s1,P,Q,0) N ⟨h,y,(fun k hk=>(gb.2 (.inl (E k hk)))),i⟩ (sx [0,0,0,0] [1]) (fun n2 ao s hm=>?_)
  obtain⟨aq,s3,u2,D3,s4⟩:=s
  obtain⟨h,B,i2,i⟩:=hm
  dsimp only at h B i2 i ⊢
  unfold jj at h
  refine att 5 [] J ?_
  refine ch h J ?_ ?_ <;> intro h
  ·refine atr 5 [] J ?_
   obtain⟨G,V,h⟩:=bs h
   obtain⟨aG,F3,-,g2,aI,H,r2⟩:=i.elS (a8 V).2.2
   obtain⟨v6,t,rfl,rfl,h5,h6⟩:=r2
   have W:=h5.rsl
   have Y:=h6.rsl
   refine lio i V J<|lgx 0 3 g2 J<|lnz wD J fun aJ=>soN 0 sJ J ⟨J,W.one,Y.one,trivial⟩ J ?_
   refine arr 5 [0] J<|so1 0 zq J J ?_
   refine arr 4 [3] J ?_
   have Z:RC dO 3 aq ([(ob v6++[])++((ob t++[]))]:List (List Nat)) [iV s2,v6,t] ([(⟨s2,G.Ids,G.Binds⟩:a7)]:List a7):=RC.cons (c:=[iV s2,v6,t]) (cells:=[]) ⟨v6,(ob v6++[]),t,(ob t++[]),J,J,W,Y⟩ J (RC.nil _ _ _)
   refine le' (bz (vs:=[(0,.agg [iV s2,v6,t].toArray)]) (C:=#[iV s2,v6,t]) dO.lasts i9 wD J J J J (ar AJ (aa (C':=[iV s2,v6,t]) J J J J J (ae))) J Z J (RC.kn dO.knows Z)) J ?_
   rintro v8 au D4 ⟨ab,M⟩
   replace M:OSl dO 63 3 au ((ob v6++[])++((ob t++[]))) v8 ([(⟨s2,G.Ids,G.Binds⟩:a7)]:List a7):=by simpa[gf] using M
   replace B:=B.f0 ab
   replace i:=i.f0 ab
   obtain⟨x4,av,h⟩:=bs h
   refine le' (dS dO.lasts dO.one i9 Eh J J J J J (js:=[3]) (Rr:=[ob v8,ob v4,A,x]) J B M (fun ap=>(Dj.sub (Dj.app (ap.q 3 J) (ap.q 2 J)) i2)) (fun ap=>(Dj.sub (Dj.app (Dj.sub (ap.q 2 J) (fun k h=>H k (gb.2 (.inl h)))) (Dj.sub (ap.q 2 J) (fun k h=>H k (gb.2 (.inr h))))) (fun k hk=>(by simpa[gf] using hk:k∈((ob v6++[])++(ob t++[])))))) av) J ?_
   rintro v9 aK D5 ⟨⟨af,aw⟩,ax⟩
   replace i:=i.fr aw (af.q 1 J) (af.q 2 J)
   refine art 7 [] J ?_
   exact lb [2,2,0,1] [1] (ao (_,_,_,_,_) ⟨h,ax,(fun k hk=>((gb.1 hk).elim (fun h=>((gb.1 (i2 k h)).elim (fun h=>(gb.2 (.inl h))) (fun h=>(gb.2 (.inr h))))) (fun h=>((gb.1 ((fun k hk=>(by simpa[gf] using hk:k∈((ob v6++[])++(ob t++[])))) k h)).elim (fun h=>(gb.2 (.inr ((fun k h=>H k (gb.2 (.inl h))) k h)))) (fun h=>(gb.2 (.inr ((fun k h=>H k (gb.2 (.inr h))) k h)))))))),i⟩)
  refine att 6 [] J<|wtL [(x++(A)),ob v4,ob u2] (smg [3,1] J (SP.eq (by simp[gf]))) ?_
  exact lb [2,0] [0] (ak (_,_,_,_,_,_) ⟨h,B,(fun k hk=>((gb.1 (i2 k hk)).elim (fun h=>((fun k hk=>(gb.2 (.inl hk))) k h)) (fun h=>((fun k hk=>(gb.2 (.inr hk))) k h))))⟩)
 refine att 6 [] J ?_
 refine WT.ret hF (az.one J) (fun w1 hw=>?_)
 cases h
 replace hw:=hw.merge (js:=[1]) (F:=[x].flatten) J (SP.eq NS)
 refine aH (js:=[1,0]) hw J ⟨P,Q,[x].flatten,J,J,y,(fun k hk=>(List.mem_flatten.2 ⟨x,NS,(E k hk)⟩))⟩
theorem uR (w0:aD e d []) (i:bv) (m:ac) (u:RSl fb 5 e l f i.Rules) (w:RSl aY 3 e a1 j m.Items) {r:(List a7)} (h:jT N i m=some r) :
  Calls prog 16 [.agg [.string i.Name,f].toArray,.agg [j,iV m.Next].toArray].toArray w0.w (bc d w0.w [] (fun A Fs v=>∃ (s:Value) (x:List Nat) (X:List Nat),v=s∧Fs=[ob s,X]∧OSl dO 63 3 A x s r∧(∀ k∈x,k∈X))):=by
 refine eN func16 J ntmps16 J w0 fun y=>?_
 unfold jT at h
 refine sr<|lbx J fun B=>lbx J fun C=>arr 6 [34] J<|qd h (rH N · i u ·) J J J fun I h=>arr 2 [] J ?_
 obtain⟨D,c,h⟩:=bs h
 refine WL.cutN 4 [(12,.bool D),(2,pQ B),(3,pQ C)] ?_ (fun K=>?_)
 rotate_left
 ·refine sp 8 c J (fun c=>?_) fun c=>?_
  ·refine arr 4 [] J ?_
   cases c
   exact ku K
  ·refine ly J J<|ld2 mD 0 J<|ly J J<|qd c (mr N · m w ·) J J J fun L c=>arr 2 [] J ?_
   cases c
   exact ku K
 refine en ?_
 refine ch h J ?_ ?_ <;> intro h
 ·refine att 4 [] J ?_
  refine WT.ret y (az.one J) (fun E hw=>?_)
  cases h
  replace hw:=hw.addNil
  replace hw:=hw.addNil
  refine aH (js:=[1,0]) hw J ⟨.slice none 0 0,[],[],J,J,OSl.nil _ _ _ _,NS⟩
 refine atr 5 [34,2] J<|kab h J J J (fun b z q=>Aq N b i m (u.y z) (w.y z) q) ?_
 rintro M h v1 O P ⟨Q,R,v2,G,t,rfl,rfl,h1,H⟩
 refine la J<|en ?_
 refine WT.ret y (az.one J) (fun E hw=>?_)
 cases h
 replace hw:=hw.merge (js:=[1]) (F:=[t].flatten) J (SP.eq NS)
 refine aH (js:=[1,0]) hw J ⟨v1,G,[t].flatten,J,J,h1,(fun k hk=>(List.mem_flatten.2 ⟨t,NS,(H k hk)⟩))⟩
theorem vf (w0:aD e d []) (c:(List Int)) (b:RSl (RI .u8) 1 e ad g c) {r:ab} (h:oN N c=some r) :
  Calls prog 34 [g].toArray w0.w (bc d w0.w [] (fun q Fs v=>∃ (b0:Nat) (t:Value) (u:List Nat),v=pQ b0∧Fs=[[b0]]∧RSl (RI .u8) 1 q u t r.b∧(∀ k∈u,k∈ad)∧q b0=some (.cells #[t,iV r.i,iV r.h] 144 (0,0)))):=by
 refine eN func34 J ntmps34 J w0 fun x=>?_
 unfold oN at h
 refine atr 7 [] J<|lnr b J<|art 9 [] J ?_
 refine lin (σ:=Int × Int) (fun s=>[(0,g),(3,iV s.1),(4,iV s.2)]) (fun s=>St w0 d [] []) (fun m s=>jm N c m s.1 s.2=some r) (wz (354354+(c.length:Int)),0) N h (sx [] []) (fun y z s hm=>?_)
 obtain⟨s1,s2⟩:=s
 have h:jm N c (y+1) s1 s2=some r:=hm
 show WT _ _ [(0,g),(3,iV s1),(4,iV s2)] (St w0 d [] [])
 unfold jm at h
 refine atr 5 [] J<|lnr b J<|arr 2 [] J ?_
 obtain⟨A,i,h⟩:=bs h
 refine WL.cutN 3 [(15,.bool A),(0,g),(3,iV s1),(4,iV s2)] ?_ (fun K=>?_)
 rotate_left
 ·refine sp 12 i J (fun i=>?_) fun i=>?_
  ·refine arr 3 [] J ?_
   cases i
   exact ku K
  ·refine arr 3 [] J ?_
   cases i
   exact ku K
 refine en ?_
 refine ch h J ?_ ?_ <;> intro h
 ·refine atr 8 [] J ?_
  obtain⟨F,w,h⟩:=bs h
  obtain⟨G,H,-,g1,I,L,B⟩:=b.el (a8 w).2.2
  obtain⟨rfl,-⟩:=B
  refine lia b w J<|lhx 0 0 g1 J<|lq (nA MG zm J) J<|arr 2 [] J<|lq (HO J J) J<|art 8 [] J ?_
  exact lb [] [] (z (_,_) h)
 refine atr 5 [] J<|lq (bu (vs:=[(0,g),(2,iV s1)]) (C:=#[g,iV 0,iV s1]) KB Lr J (aa (C':=[g,iV 0,iV 0]) J (d6 b.one) J J J (aa (C':=[g,iV 0,iV s1]) J J J J J (ae)))) J<|lbx J fun D=>la J<|en ?_
 refine WT.frz (js:=[0]) (R:=[]) J (fun M O E=>?_)
 exact rtg [0] x (az.one J) J (by cases h;exact fun P hw=>⟨D,g,ad,rfl,rfl,(b.y hw.up),(fun k hk=>hk),E⟩)
theorem nG (w0:aD e d [[a]].flatten) (b:ab) (c:RSl (RI .u8) 1 e l f b.b) (i:d a=some (.cells #[f,iV b.i,iV b.h] 144 (0,0))) {r:Int × ab} (h:kC N b=some r) :
  Calls prog 143 [pQ a].toArray w0.w (bc d w0.w [[a]].flatten (fun s Fs v=>v=iV r.1∧Fs=[[a]]∧r.2.b=b.b∧s a=some (.cells #[f,iV r.2.i,iV r.2.h] 144 (0,0)))):=by
 refine eL func143 J ntmps143 J (L:=[[a]]) w0 (fun k=>?_)
 unfold kC at h
 refine atr 8 [] J<|lq (aC J) J<|lf Ad J J J<|lgx 2 0 (bP i) J<|arr 2 [] J<|lq (aC J) J<|lf Ad J J J ?_
 refine WL.thw (js:=[0]) (R:=[]) J i (fun y z A=>?_)
 refine so1 0 zq J J ?_
 refine en<|sq<|WT.draw mixed NQ (fun _ h=>h.drew)<|qq (iZ J) J<|qq (aC J) J<|aqq 2 [2,0] J<|qq (A4 J J (by decide)) J<|qq (iZ J) J<|qq (aC J) J<|aqq 2 [2,0] J<|qq (A4 J J (by decide)) J<|qq (Mo J J) J<|qq (HO J J) J<|aqt 4 [] J<|WT.draw mixed NQ (fun _ h=>h.drew)<|qq (iZ J) J<|qq (aC J) J<|aqq 3 [1,0] J<|qq (aC J) J<|aqq 2 [0,0] J<|qq (mK Cy J J c) J<|aqt 2 [] J ?_
 refine ch h J ?_ ?_ <;> intro h
 ·refine sq<|WT.draw mixed NQ (fun _ h=>h.drew)<|aqq 2 [] J<|qq (aC J) J<|aqq 3 [0,0] J<|qq (aC J) J<|aqq 2 [1,0] J ?_
  obtain⟨t,m,h⟩:=bs h
  obtain⟨B,C,-,g1,D,E,u⟩:=c.el (a8 m).2.2
  obtain⟨rfl,-⟩:=u
  refine qq (an Cy J J c m) J<|qq (aZ Nq J (fun q hw=>(g1.of_eq 0 1 J J:rg _ _ _ [.int .u8 t]).rangeAt hw.in0)) J<|qq (nA MG zm J) J<|qq (Ke J J) J<|qq (HO J J) J<|aqr 5 [] J<|lq (aC J) J<|arr 3 [1,0] J<|lq (aC J) J<|lf Fm J J J<|so1 0 zq J J ?_
  refine art 6 [] J ?_
  refine WT.frz (js:=[0]) (R:=[]) J (fun F G w=>?_)
  exact rtg [0] k (az.one J) J (by cases h;exact fun q hw=>⟨rfl,rfl,rfl,w⟩)
 refine att 6 [] J ?_
 refine WT.frz (js:=[0]) (R:=[]) J (fun H I x=>?_)
 exact rtg [0] k (az.one J) J (by cases h;exact fun q hw=>⟨rfl,rfl,rfl,x⟩)
theorem cC (w0:aD e d [[a]].flatten) (c:ab) (s:Int) (i:RSl (RI .u8) 1 e l f c.b) (k:d a=some (.cells #[f,iV c.i,iV c.h] 144 (0,0))) {r:Int × ab} (h:cA N c s=some r) :
  Calls prog 75 [pQ a,iV s].toArray w0.w (bc d w0.w [[a]].flatten (fun x Fs v=>v=iV r.1∧Fs=[[a]]∧r.2.b=c.b∧x a=some (.cells #[f,iV r.2.i,iV r.2.h] 144 (0,0)))):=by
 refine eL func75 J ntmps75 J (L:=[[a]]) w0 (fun m=>?_)
 unfold cA at h
 refine att 10 [] J ?_
 refine ch h J ?_ ?_ <;> intro h
 ·refine att 4 [] J ?_
  exact rtg [0] m (az.one J) J (by cases h;exact fun t hw=>⟨rfl,rfl,rfl,k⟩)
 refine att 7 [] J ?_
 refine ch h J ?_ ?_ <;> intro h
 ·refine sr<|la J<|kcb [0] h J J J J (fun b ap z q=>nG N b c (i.y z) k q) ?_
  rintro E h v1 F G ⟨H,I,rfl,rfl,K,h1⟩
  refine la J ?_
  obtain⟨M,y,h⟩:=bs h
  refine lq (HS J J y) J<|la J<|en ?_
  exact rtg [0] m (az.one J) J (by cases h;exact fun t hw=>⟨rfl,rfl,rfl,h1⟩)
 refine atr 4 [] J<|kcb [0] h J J J J (fun b ap z q=>nG N b c (i.y z) k q) ?_
 rintro u h v2 O P ⟨Q,R,rfl,rfl,S,A⟩
 refine arr 5 [] J<|kcb [0] h J J J J (fun b ap z q=>nG N b (⟨c.b,u.2.i,u.2.h⟩:ab) (i.y z) A q) ?_
 rintro w h v3 T U ⟨V,W,rfl,rfl,X,B⟩
 refine arr 5 [] J<|kcb [0] h J J J J (fun b ap z q=>nG N b (⟨c.b,w.2.i,w.2.h⟩:ab) (i.y z) B q) ?_
 rintro Y h v4 Z F4 ⟨a7,a8,rfl,rfl,e4,C⟩
 refine arr 12 [] J ?_
 obtain⟨x6,D,h⟩:=bs h
 refine lq (HS J J D) J<|la J<|en ?_
 exact rtg [0] m (az.one J) J (by cases h;exact fun t hw=>⟨rfl,rfl,rfl,C⟩)
theorem gB (w0:aD e d [[a]].flatten) (c:ab) (i:(List ByteArray)) (s:RSl (RI .u8) 1 e l f c.b) (t:d a=some (.cells #[f,iV c.i,iV c.h] 144 (0,0))) (k:RSl RS 1 e a6 p i) {r:ByteArray × ab} (h:gT N c i=some r) :
  Calls prog 88 [pQ a,p].toArray w0.w (bc d w0.w [[a]].flatten (fun u Fs v=>v = .string r.1∧Fs=[[a]]∧r.2.b=c.b∧u a=some (.cells #[f,iV r.2.i,iV r.2.h] 144 (0,0)))):=by
 refine eL func88 J ntmps88 J (L:=[[a]]) w0 (fun w=>?_)
 unfold gT at h
 refine atr 9 [] J<|lnr k J<|kcb [0] h J J J J (fun b ap z q=>cC N b c (i.length:Int) (s.y z) t q) ?_
 rintro y h v1 A B ⟨C,D,rfl,rfl,E,h1⟩
 obtain⟨F,m,h⟩:=bs h
 obtain⟨G,H,-,g1,I,K,x⟩:=k.el (a8 m).2.2
 obtain⟨rfl,-⟩:=x
 refine lia k m J<|lhx 0 0 g1 J<|la J<|en ?_
 exact rtg [0] w (az.one J) J (by cases h;exact fun M hw=>⟨rfl,rfl,rfl,h1⟩)
theorem fu (w0:aD e d [[a]].flatten) (c:ab) (i:Int) (k:RSl (RI .u8) 1 e l f c.b) (m:d a=some (.cells #[f,iV c.i,iV c.h] 144 (0,0))) {r:Bool × ab} (h:ff N c i=some r) :
  Calls prog 37 [pQ a,iV i].toArray w0.w (bc d w0.w [[a]].flatten (fun s Fs v=>v = .bool r.1∧Fs=[[a]]∧r.2.b=c.b∧s a=some (.cells #[f,iV r.2.i,iV r.2.h] 144 (0,0)))):=by
 refine eL func37 J ntmps37 J (L:=[[a]]) w0 (fun t=>?_)
 unfold ff at h
 refine atr 8 [] J<|kcb [0] h J J J J (fun b ap z q=>cC N b c i (k.y z) m q) ?_
 rintro u h v1 w x ⟨y,A,rfl,rfl,B,h1⟩
 refine art 3 [] J ?_
 exact rtg [0] t (az.one J) J (by cases h;exact fun C hw=>⟨rfl,rfl,rfl,h1⟩)
theorem rq (w0:aD e d [[a]].flatten) (c:ab) (i:(List Int)) (s:RSl (RI .u8) 1 e l f c.b) (t:d a=some (.cells #[f,iV c.i,iV c.h] 144 (0,0))) (k:RSl (RI .i64) 1 e a6 p i) {r:Int × ab} (h:nq N c i=some r) :
  Calls prog 94 [pQ a,p].toArray w0.w (bc d w0.w [[a]].flatten (fun u Fs v=>v=iV r.1∧Fs=[[a]]∧r.2.b=c.b∧u a=some (.cells #[f,iV r.2.i,iV r.2.h] 144 (0,0)))):=by
 refine eL func94 J ntmps94 J (L:=[[a]]) w0 (fun w=>?_)
 unfold nq at h
 refine atr 9 [] J<|lnr k J<|kcb [0] h J J J J (fun b ap z q=>cC N b c (i.length:Int) (s.y z) t q) ?_
 rintro y h v1 A B ⟨C,D,rfl,rfl,E,h1⟩
 obtain⟨F,m,h⟩:=bs h
 obtain⟨G,H,-,g1,I,K,x⟩:=k.el (a8 m).2.2
 obtain⟨rfl,-⟩:=x
 refine lia k m J<|lhx 0 0 g1 J<|la J<|en ?_
 exact rtg [0] w (az.one J) J (by cases h;exact fun M hw=>⟨rfl,rfl,rfl,h1⟩)
theorem rC (w0:aD e d []) (c:(List ByteArray)) (b:ByteArray) (i:RSl RS 1 e ad g c) {r:Bool} (h:mW N c b=some r) :
  CB w0 prog 172 [g,.string b] (.bool r):=by
 refine eN func172 J ntmps172 J w0 fun k=>?_
 unfold mW at h
 refine att 10 [] J ?_
 refine lin (σ:=Int) (fun s=>[(0,g),(1,.string b),(5,iV s)]) (fun s=>St w0 d [] []) (fun m s=>jl N c b m s=some r) (0) N h (sx [] []) (fun t u s hm=>?_)
 revert hm;revert s;intro s1 hm
 have h:jl N c b (t+1) s1=some r:=hm
 show WT _ _ [(0,g),(1,.string b),(5,iV s1)] (St w0 d [] [])
 unfold jl at h
 refine atr 5 [] J<|lnr i J<|la J<|en ?_
 refine ch h J ?_ ?_ <;> intro h
 ·refine atr 7 [] J ?_
  obtain⟨w,q,h⟩:=bs h
  obtain⟨x,y,-,g1,z,A,v⟩:=i.el (a8 q).2.2
  obtain⟨rfl,-⟩:=v
  refine lia i q J<|lhx 0 0 g1 J<|art 3 [] J ?_
  refine ch h J ?_ ?_ <;> intro h
  ·refine att 4 [] J ?_
   exact rt k h
  refine att 7 [] J ?_
  exact lb [] [] (u _ h)
 refine att 5 [] J ?_
 exact rt k h
theorem zc (w0:aD e d []) (i:ay) (k:RSl f8 5 e l f i.Args) {r:(List ByteArray)} (h:oU N i=some r) :
  Calls prog 171 [.agg [.string i.Kind,f,.bool i.Not].toArray].toArray w0.w (bc d w0.w [] (fun E Fs v=>∃ (u:Value),v=u∧Fs=[ob u]∧OSl RS 9 1 E [] u r)):=by
 refine eN func171 J ntmps171 J w0 fun F=>?_
 unfold oU at h
 refine sr<|lbx J fun w=>arr 4 [] J<|le' (lJ RS.lasts jn ue J J) J ?_
 rintro v1 G V ⟨W,h1⟩
 refine art 8 [] J ?_
 refine lin (σ:=Hp × (List ByteArray) × Value × Int) (fun s=>[(1,pQ w),(3,s.2.2.1),(4,iV s.2.2.2)]) (fun s=>St w0 s.1 [(w,.cells #[.string i.Kind,f,.bool i.Not] 201 (0,0))] [ob s.2.2.1]) (fun m s=>gG N i m s.2.1 s.2.2.2=some r∧(OSl RS 9 1 s.1 [] s.2.2.1 s.2.1)) (G,([]:List ByteArray),v1,0) N ⟨h,h1⟩ (sx [0] [0]) (fun X y s hm=>?_)
 obtain⟨H,s1,z,s2⟩:=s
 obtain⟨h,q⟩:=hm
 dsimp only at h q ⊢
 unfold gG at h
 refine atr 6 [1,0] J<|lnr k J<|la J<|en ?_
 refine ch h J ?_ ?_ <;> intro h
 ·refine atr 8 [1,0] J ?_
  obtain⟨Y,A,h⟩:=bs h
  obtain⟨Z,F1,-,g1,a7,ab,I⟩:=k.el (a8 A).2.2
  obtain⟨rfl,-⟩:=I
  refine lia k A J<|lf zY J J J<|lhx 0 0 g1 J<|arr 2 [] J ?_
  obtain⟨L,b,h⟩:=bs h
  refine WL.cutN 10 [(30,.bool L),(1,pQ w),(3,z),(4,iV s2)] ?_ (fun K=>?_)
  rotate_left
  ·refine sp 20 b J (fun b=>?_) fun b=>?_
   ·refine arr 4 [1,0] J<|ly J J ?_
    obtain⟨M,B,b⟩:=bs b
    obtain⟨af,F2,-,g2,ag,ah,O⟩:=k.el (a8 B).2.2
    obtain⟨rfl,-⟩:=O
    refine lia k B J<|ly J J<|lf zI J J J<|ly J J<|lhx 1 0 g2 J<|ly J J<|qc b (rC N · s1 M.S q.rsl ·) J J J fun x3 b=>arr 2 [] J ?_
    cases b
    exact ku K
   ·refine arr 10 [] J ?_
    cases b
    exact ku K
  refine en ?_
  refine ch h J ?_ ?_ <;> intro h
  ·refine atr 5 [1,0] J ?_
   obtain⟨t,D,h⟩:=bs h
   obtain⟨ak,F3,-,g3,al,an,P⟩:=k.el (a8 D).2.2
   obtain⟨rfl,-⟩:=P
   refine lia k D J<|lf zI J J J<|lhx 1 0 g3 J ?_
   have Q:RC RS 1 H ([[]]:List (List Nat)) [.string t.S] ([t.S]:List ByteArray):=RC.cons (c:=[.string t.S]) (cells:=[]) ⟨J,J⟩ J (RC.nil _ _ _)
   refine le' (bz (vs:=[(0,.string t.S)]) (C:=#[.string t.S]) RS.lasts jn ue J J J J (ar CP (aa (C':=[.string t.S]) J J J J J (ae))) J Q J (by simpa using Kw.nil)) J ?_
   rintro v2 R D2 ⟨S,x⟩
   replace x:OSl RS 9 1 R [] v2 ([t.S]:List ByteArray):=by simpa using x
   replace q:=q.f0 S
   obtain⟨x5,T,h⟩:=bs h
   refine le' (dM RS.lasts RS.one RS.flat jn Kt J J J J J (js:=[1]) (Rr:=[ob v2]) J q x.rsl T) J ?_
   rintro v3 ao D3 ⟨⟨aq,au⟩,U⟩
   refine art 8 [] J ?_
   exact lb [0] [0] (y (_,_,_,_) ⟨h,U⟩)
  refine att 7 [] J ?_
  exact lb [0] [0] (y (_,_,_,_) ⟨h,q⟩)
 refine att 6 [] J ?_
 exact rtg [0] F (az.one J) J (by cases h;exact fun w1 hw=>⟨z,rfl,rfl,q⟩)
theorem y9 (w0:aD e d []) (k:af) (x:RSl cS 3 e l f k.Pats) (aq:RSl cH 11 e ai n k.Conds) (au:RSl hU 5 e aj o k.Acts) {r:(List ByteArray)} (h:m4 N k=some r) :
  Calls prog 101 [.agg [.string k.Name,iV k.Sal,f,n,o].toArray].toArray w0.w (bc d w0.w [] (fun P Fs v=>∃ (B:Value),v=B∧Fs=[ob B]∧OSl RS 9 1 P [] B r)):=by
 refine eN func101 J ntmps101 J w0 fun Q=>?_
 unfold m4 at h
 refine sr<|lbx J fun y=>arr 4 [] J<|le' (lJ RS.lasts jn ue J J) J ?_
 rintro v1 R D1 ⟨av,h1⟩
 refine art 8 [] J ?_
 refine lin (σ:=Hp × (List ByteArray) × Value × Int) (fun s=>[(1,pQ y),(3,s.2.2.1),(4,iV s.2.2.2)]) (fun s=>St w0 s.1 [(y,.cells #[.string k.Name,iV k.Sal,f,n,o] 87 (0,0))] [ob s.2.2.1]) (fun m s=>dH N k m s.2.1 s.2.2.2=some r∧(OSl RS 9 1 s.1 [] s.2.2.1 s.2.1)) (R,([]:List ByteArray),v1,0) N ⟨h,h1⟩ (sx [0] [0]) (fun S T s hm=>?_)
 obtain⟨aw,s1,E,s2⟩:=s
 obtain⟨h,A⟩:=hm
 dsimp only at h A ⊢
 unfold dH at h
 refine atr 6 [2,0] J<|lnr x J<|la J<|en ?_
 refine ch h J ?_ ?_ <;> intro h
 ·refine atr 8 [2,0] J ?_
  obtain⟨U,F,h⟩:=bs h
  obtain⟨ax,F1,-,g1,ay,aA,V⟩:=x.el (a8 F).2.2
  obtain⟨v2,G1,rfl,W,X⟩:=V
  obtain rfl:=W.symm
  refine lia x F J<|lhx 0 3 g1 J<|kab h J J J (fun b z q=>zc N b U (X.y z) q) ?_
  rintro G h v3 Y F2 ⟨Z,a7,v4,rfl,rfl,i⟩
  replace A:=A.fr a7 (Z.q 0 J) dN
  refine art 7 [] J ?_
  refine lin (σ:=Hp × (List ByteArray) × Value × Int) (fun s=>[(1,pQ y),(3,s.2.2.1),(4,iV s2),(5,v3),(6,iV s.2.2.2)]) (fun s=>St w0 s.1 [(y,.cells #[.string k.Name,iV k.Sal,f,n,o] 87 (0,0))] [ob v3,ob s.2.2.1]) (fun m s=>dy N k s2 (dH N k S) G m s.2.1 s.2.2.2=some r∧(OSl RS 9 1 s.1 [] s.2.2.1 s.2.1)∧(OSl RS 9 1 s.1 [] v3 G)) (Y,s1,E,0) N ⟨h,A,i⟩ (sx [0,0] [0]) (fun n2 H s hm=>?_)
  obtain⟨ab,s3,u2,s4⟩:=s
  obtain⟨h,t,i⟩:=hm
  dsimp only at h t i ⊢
  unfold dy at h
  refine atr 5 [] J<|lno i J<|arr 2 [] J ?_
  obtain⟨b1,u,h⟩:=bs h
  refine WL.cutN 8 [(33,.bool b1),(1,pQ y),(3,u2),(4,iV s2),(5,v3),(6,iV s4)] ?_ (fun K=>?_)
  rotate_left
  ·refine sp 25 u J (fun u=>?_) fun u=>?_
   ·refine arr 3 [2,0] J<|ly J J ?_
    obtain⟨x3,I,u⟩:=bs u
    obtain⟨aB,F3,-,g2,aC,aE,r2⟩:=x.el (a8 I).2.2
    obtain⟨v5,G2,rfl,ag,h4⟩:=r2
    obtain rfl:=ag.symm
    refine lia x I J<|ly J J<|lf vS J J J<|ly J J<|lhx 2 0 g2 J<|arr 2 [] J ?_
    cases u
    exact ku K
   ·refine arr 8 [] J ?_
    cases u
    exact ku K
  refine en ?_
  refine ch h J ?_ ?_ <;> intro h
  ·refine atr 8 [] J ?_
   obtain⟨x4,L,h⟩:=bs h
   obtain⟨aF,F4,-,g3,aG,aH,r3⟩:=i.elS (a8 L).2.2
   obtain⟨rfl,-⟩:=r3
   refine lio i L J<|lgx 0 0 g3 J<|qc h (rC N · s3 x4 t.rsl ·) J J J fun x5 h=>la J<|en ?_
   refine ch h J ?_ ?_ <;> intro h
   ·refine atr 4 [] J ?_
    obtain⟨w,M,h⟩:=bs h
    obtain⟨aI,F5,-,g4,aJ,aK,r4⟩:=i.elS (a8 M).2.2
    obtain⟨rfl,-⟩:=r4
    refine lio i M J<|lgx 0 0 g4 J ?_
    have ah:RC RS 1 ab ([[]]:List (List Nat)) [.string w] ([w]:List ByteArray):=RC.cons (c:=[.string w]) (cells:=[]) ⟨J,J⟩ J (RC.nil _ _ _)
    refine le' (bz (vs:=[(0,.string w)]) (C:=#[.string w]) RS.lasts jn ue J J J J (ar CP (aa (C':=[.string w]) J J J J J (ae))) J ah J (by simpa using Kw.nil)) J ?_
    rintro v6 ak D2 ⟨O,D⟩
    replace D:OSl RS 9 1 ak [] v6 ([w]:List ByteArray):=by simpa using D
    replace t:=t.f0 O
    replace i:=i.f0 O
    obtain⟨x7,al,h⟩:=bs h
    refine le' (dM RS.lasts RS.one RS.flat jn Kt J J J J J (js:=[2]) (Rr:=[ob v6,ob v3]) J t D.rsl al) J ?_
    rintro v7 aL D3 ⟨⟨an,ao⟩,h6⟩
    replace i:=i.fr ao (an.q 1 J) dN
    refine art 8 [] J ?_
    exact lb [2,0] [0] (H (_,_,_,_) ⟨h,h6,i⟩)
   refine att 7 [] J ?_
   exact lb [0,0] [0] (H (_,_,_,_) ⟨h,t,i⟩)
  refine att 7 [] J ?_
  exact lb [1] [0] (T (_,_,_,_) ⟨h,t⟩)
 refine att 6 [] J ?_
 exact rtg [0] Q (az.one J) J (by cases h;exact fun w1 hw=>⟨E,rfl,rfl,A⟩)
theorem rT (w0:aD e d []) (b:af) (i:RSl cS 3 e l f b.Pats) (x:RSl cH 11 e ai n b.Conds) (y:RSl hU 5 e aj o b.Acts) {r:Int} (h:kE N b=some r) :
  CB w0 prog 105 [.agg [.string b.Name,iV b.Sal,f,n,o].toArray] (iV r):=by
 refine eN func105 J ntmps105 J w0 fun t=>?_
 unfold kE at h
 refine sr<|lbx J fun c=>art 12 [] J ?_
 refine lin (σ:=Int × Int) (fun s=>[(1,pQ c),(3,iV s.1),(4,iV s.2)]) (fun s=>St w0 d [(c,.cells #[.string b.Name,iV b.Sal,f,n,o] 87 (0,0))] []) (fun m s=>ek N b m s.1 s.2=some r) (0,0) N h (sx [] [0]) (fun u k s hm=>?_)
 obtain⟨s1,s2⟩:=s
 have h:ek N b (u+1) s1 s2=some r:=hm
 show WT _ _ [(1,pQ c),(3,iV s1),(4,iV s2)] (St w0 d [(c,.cells #[.string b.Name,iV b.Sal,f,n,o] 87 (0,0))] [])
 unfold ek at h
 refine atr 6 [2,0] J<|lnr i J<|la J<|en ?_
 refine ch h J ?_ ?_ <;> intro h
 ·refine atr 8 [2,0] J ?_
  obtain⟨z,q,h⟩:=bs h
  obtain⟨A,B,-,g1,C,D,v⟩:=i.el (a8 q).2.2
  obtain⟨v1,E,rfl,w,h1⟩:=v
  obtain rfl:=w.symm
  refine lia i q J<|lf vS J J J<|lhx 2 0 g1 J<|la J<|en ?_
  refine ch h J ?_ ?_ <;> intro h
  ·refine att 11 [] J ?_
   exact lb [] [0] (k (_,_) h)
  refine att 7 [] J ?_
  exact lb [] [0] (k (_,_) h)
 refine att 6 [] J ?_
 exact rt t h
theorem pb (w0:aD e d [[a]].flatten) (k:ab) (u:RSl (RI .u8) 1 e l f k.b) (A:d a=some (.cells #[f,iV k.i,iV k.h] 144 (0,0))) {r:bN × ab} (h:kD N k=some r) :
  Calls prog 126 [pQ a].toArray w0.w (bc d w0.w [[a]].flatten (fun B Fs v=>v = .agg [iV r.1.K,iV r.1.N,.string r.1.S].toArray∧Fs=[[a]]∧r.2.b=k.b∧B a=some (.cells #[f,iV r.2.i,iV r.2.h] 144 (0,0)))):=by
 refine eL func126 J ntmps126 J (L:=[[a]]) w0 (fun y=>?_)
 unfold kD at h
 refine sr<|lnz jY J fun K=>arr 5 [] J<|kcb [0] h J J J J (fun b ap z q=>fu N b k 2 (u.y z) A q) ?_
 rintro m h v1 D M ⟨O,P,rfl,rfl,Q,h1⟩
 refine en ?_
 refine ch h J ?_ ?_ <;> intro h
 ·refine sr<|la J<|kcb [0] h J J J J (fun b ap z q=>cC N b (⟨k.b,m.2.i,m.2.h⟩:ab) 3 (u.y z) h1 q) ?_
  rintro s h v2 R S ⟨T,U,rfl,rfl,V,E⟩
  refine la J<|lq (bu (vs:=[(0,iV 1),(1,iV (wz (1+s.1)))]) (C:=#[iV 1,iV (wz (1+s.1)),.string (⟨#[]⟩:ByteArray)]) wW jY J (aa (C':=[iV 1,iV 0,.string ⟨#[]⟩]) J J J J J (aa (C':=[iV 1,iV (wz (1+s.1)),.string ⟨#[]⟩]) J J J J J (ae)))) J<|soN 0 pL J ⟨J,J,J,trivial⟩ J ?_
  refine en ?_
  exact rtg [0] y (az.one (aX l6 J (fun w hw=>hw.rgO (i:=0) J 0 3 [iV 1,iV (wz (1+s.1)),.string (⟨#[]⟩:ByteArray)] J) J)) J (by cases h;exact fun w hw=>⟨rfl,rfl,rfl,E⟩)
 refine atr 4 [] J ?_
 have F:RC RS 1 D ([[],[]]:List (List Nat)) [.string (⟨#[97]⟩:ByteArray),.string (⟨#[98]⟩:ByteArray)] ([(⟨#[97]⟩:ByteArray),(⟨#[98]⟩:ByteArray)]:List ByteArray):=RC.cons (c:=[.string (⟨#[97]⟩:ByteArray)]) (cells:=[.string (⟨#[98]⟩:ByteArray)]) ⟨J,J⟩ J (RC.cons (c:=[.string (⟨#[98]⟩:ByteArray)]) (cells:=[]) ⟨J,J⟩ J (RC.nil _ _ _))
 refine le' (bz (vs:=[(0,.string (⟨#[97]⟩:ByteArray)),(1,.string (⟨#[98]⟩:ByteArray))]) (C:=#[.string (⟨#[97]⟩:ByteArray),.string (⟨#[98]⟩:ByteArray)]) RS.lasts jn ue J J J J (ar AT (aa (C':=[.string (⟨#[97]⟩:ByteArray),.string ⟨#[]⟩]) J J J J J (aa (C':=[.string (⟨#[97]⟩:ByteArray),.string (⟨#[98]⟩:ByteArray)]) J J J J J (ae)))) J F J (by simpa using Kw.nil)) J ?_
 rintro v3 G W ⟨H,x⟩
 replace x:OSl RS 9 1 G [] v3 ([(⟨#[97]⟩:ByteArray),(⟨#[98]⟩:ByteArray)]:List ByteArray):=by simpa using x
 replace h1:=H _ _ NS h1
 refine kcb [1] h J J J J (fun b ap z q=>gB N b (⟨k.b,m.2.i,m.2.h⟩:ab) ([(⟨#[97]⟩:ByteArray),(⟨#[98]⟩:ByteArray)]:List ByteArray) (u.y z) h1 (x.rsl.x (Dj.app (ap.q 0 J) dN)) q) ?_
 rintro t h v4 X Y ⟨Z,a7,rfl,rfl,e3,I⟩
 refine lq (bu (vs:=[(0,iV 2),(2,.string t.1)]) (C:=#[iV 2,iV 0,.string t.1]) wW jY J (aa (C':=[iV 2,iV 0,.string ⟨#[]⟩]) J J J J J (aa (C':=[iV 2,iV 0,.string t.1]) J J J J J (ae)))) J<|soN 0 pL J ⟨J,J,J,trivial⟩ J ?_
 refine en ?_
 exact rtg [0] y (az.one (aX l6 J (fun w hw=>hw.rgO (i:=0) J 0 3 [iV 2,iV 0,.string t.1] J) J)) J (by cases h;exact fun w hw=>⟨rfl,rfl,rfl,I⟩)
theorem rS  (w0:aD e d []) (b:bN)  {r:cJ} (h:rh N b=some r) :
  CB w0 prog 207 [.agg [iV b.K,iV b.N,.string b.S].toArray] (.agg [iV r.K,.string r.S,iV r.V.K,iV r.V.N,.string r.V.S].toArray):=by
 refine eN func207 J ntmps207 J w0 fun c=>?_
 unfold rh at h
 refine sr<|lbx J fun m=>lnz kh J fun q=>arr 4 [35] J<|lq (bu (vs:=[(0,iV 2),(2,.agg [iV b.K,iV b.N,.string b.S].toArray)]) (C:=#[iV 2,.string (⟨#[]⟩:ByteArray),iV b.K,iV b.N,.string b.S]) AM kh J (aa (C':=[iV 2,.string ⟨#[]⟩,iV 0,iV 0,.string ⟨#[]⟩]) J J J J J (aa (C':=[iV 2,.string ⟨#[]⟩,iV b.K,iV b.N,.string b.S]) J J J J J (ae)))) J<|soN 0 j6 J ⟨J,J,J,J,J,trivial⟩ J ?_
 refine en ?_
 refine WT.ret c (az.one (aX nh J (fun k hw=>hw.rgO (i:=0) J 0 5 [iV 2,.string (⟨#[]⟩:ByteArray),iV b.K,iV b.N,.string b.S] J) J)) (fun k hw=>?_)
 cases h
 exact fe hw
theorem rR  (w0:aD e d []) (b:ByteArray)  {r:cJ} (h:qQ N b=some r) :
  CB w0 prog 208 [.string b] (.agg [iV r.K,.string r.S,iV r.V.K,iV r.V.N,.string r.V.S].toArray):=by
 refine eN func208 J ntmps208 J w0 fun c=>?_
 unfold qQ at h
 refine sr<|lnz kh J fun m=>arr 4 [] J<|lq (bu (vs:=[(0,iV 1),(1,.string b)]) (C:=#[iV 1,.string b,iV 0,iV 0,.string (⟨#[]⟩:ByteArray)]) AM kh J (aa (C':=[iV 1,.string ⟨#[]⟩,iV 0,iV 0,.string ⟨#[]⟩]) J J J J J (aa (C':=[iV 1,.string b,iV 0,iV 0,.string ⟨#[]⟩]) J J J J J (ae)))) J<|soN 0 j6 J ⟨J,J,J,J,J,trivial⟩ J ?_
 refine en ?_
 refine WT.ret c (az.one (aX nh J (fun k hw=>hw.rgO (i:=0) J 0 5 [iV 1,.string b,iV 0,iV 0,.string (⟨#[]⟩:ByteArray)] J) J)) (fun k hw=>?_)
 cases h
 exact fe hw
theorem An (w0:aD e d [[a]].flatten) (k:ab) (w:RSl (RI .u8) 1 e l f k.b) (A:d a=some (.cells #[f,iV k.i,iV k.h] 144 (0,0))) {r:cJ × ab} (h:qT N k=some r) :
  Calls prog 205 [pQ a].toArray w0.w (bc d w0.w [[a]].flatten (fun B Fs v=>v = .agg [iV r.1.K,.string r.1.S,iV r.1.V.K,iV r.1.V.N,.string r.1.V.S].toArray∧Fs=[[a]]∧r.2.b=k.b∧B a=some (.cells #[f,iV r.2.i,iV r.2.h] 144 (0,0)))):=by
 refine eL func205 J ntmps205 J (L:=[[a]]) w0 (fun x=>?_)
 unfold qT at h
 refine sr<|lnz kh J fun O=>arr 5 [] J<|kcb [0] h J J J J (fun b ap z q=>cC N b k 6 (w.y z) A q) ?_
 rintro u h v1 D P ⟨Q,R,rfl,rfl,S,h1⟩
 refine art 7 [] J ?_
 refine ch h J ?_ ?_ <;> intro h
 ·refine sr<|lq (bu (vs:=[(0,iV 3)]) (C:=#[iV 3,.string (⟨#[]⟩:ByteArray),iV 0,iV 0,.string (⟨#[]⟩:ByteArray)]) AM kh J (aa (C':=[iV 3,.string ⟨#[]⟩,iV 0,iV 0,.string ⟨#[]⟩]) J J J J J (ae))) J<|soN 0 j6 J ⟨J,J,J,J,J,trivial⟩ J ?_
  refine en ?_
  exact rtg [0] x (az.one (aX nh J (fun m hw=>hw.rgO (i:=0) J 0 5 [iV 3,.string (⟨#[]⟩:ByteArray),iV 0,iV 0,.string (⟨#[]⟩:ByteArray)] J) J)) J (by cases h;exact fun m hw=>⟨rfl,rfl,rfl,h1⟩)
 refine att 5 [] J ?_
 refine ch h J ?_ ?_ <;> intro h
 ·refine sr<|la J<|kcb [0] h J J J J (fun b ap z q=>pb N b (⟨k.b,u.2.i,u.2.h⟩:ab) (w.y z) h1 q) ?_
  rintro E h v2 T U ⟨V,W,rfl,rfl,X,F⟩
  refine qc h (rS N · E.1 ·) J J J fun s h=>soN 0 j6 J ⟨J,J,J,J,J,trivial⟩ J ?_
  refine en ?_
  exact rtg [0] x (az.one (aX nh J (fun m hw=>hw.rgO (i:=0) J 0 5 [iV s.K,.string s.S,iV s.V.K,iV s.V.N,.string s.V.S] J) J)) J (by cases h;exact fun m hw=>⟨rfl,rfl,rfl,F⟩)
 refine atr 5 [] J ?_
 have G:RC RS 1 D ([[],[],[],[]]:List (List Nat)) [.string (⟨#[88]⟩:ByteArray),.string (⟨#[89]⟩:ByteArray),.string (⟨#[90]⟩:ByteArray),.string (⟨#[88]⟩:ByteArray)] ([(⟨#[88]⟩:ByteArray),(⟨#[89]⟩:ByteArray),(⟨#[90]⟩:ByteArray),(⟨#[88]⟩:ByteArray)]:List ByteArray):=RC.cons (c:=[.string (⟨#[88]⟩:ByteArray)]) (cells:=[.string (⟨#[89]⟩:ByteArray),.string (⟨#[90]⟩:ByteArray),.string (⟨#[88]⟩:ByteArray)]) ⟨J,J⟩ J (RC.cons (c:=[.string (⟨#[89]⟩:ByteArray)]) (cells:=[.string (⟨#[90]⟩:ByteArray),.string (⟨#[88]⟩:ByteArray)]) ⟨J,J⟩ J (RC.cons (c:=[.string (⟨#[90]⟩:ByteArray)]) (cells:=[.string (⟨#[88]⟩:ByteArray)]) ⟨J,J⟩ J (RC.cons (c:=[.string (⟨#[88]⟩:ByteArray)]) (cells:=[]) ⟨J,J⟩ J (RC.nil _ _ _))))
 refine le' (bz (vs:=[(0,.string (⟨#[88]⟩:ByteArray)),(1,.string (⟨#[89]⟩:ByteArray)),(2,.string (⟨#[90]⟩:ByteArray)),(3,.string (⟨#[88]⟩:ByteArray))]) (C:=#[.string (⟨#[88]⟩:ByteArray),.string (⟨#[89]⟩:ByteArray),.string (⟨#[90]⟩:ByteArray),.string (⟨#[88]⟩:ByteArray)]) RS.lasts jn ue J J J J (ar AX (aa (C':=[.string (⟨#[88]⟩:ByteArray),.string ⟨#[]⟩,.string ⟨#[]⟩,.string ⟨#[]⟩]) J J J J J (aa (C':=[.string (⟨#[88]⟩:ByteArray),.string (⟨#[89]⟩:ByteArray),.string ⟨#[]⟩,.string ⟨#[]⟩]) J J J J J (aa (C':=[.string (⟨#[88]⟩:ByteArray),.string (⟨#[89]⟩:ByteArray),.string (⟨#[90]⟩:ByteArray),.string ⟨#[]⟩]) J J J J J (aa (C':=[.string (⟨#[88]⟩:ByteArray),.string (⟨#[89]⟩:ByteArray),.string (⟨#[90]⟩:ByteArray),.string (⟨#[88]⟩:ByteArray)]) J J J J J (ae)))))) J G J (by simpa using Kw.nil)) J ?_
 rintro v3 H Y ⟨I,y⟩
 replace y:OSl RS 9 1 H [] v3 ([(⟨#[88]⟩:ByteArray),(⟨#[89]⟩:ByteArray),(⟨#[90]⟩:ByteArray),(⟨#[88]⟩:ByteArray)]:List ByteArray):=by simpa using y
 replace h1:=I _ _ NS h1
 refine kcb [1] h J J J J (fun b ap z q=>gB N b (⟨k.b,u.2.i,u.2.h⟩:ab) ([(⟨#[88]⟩:ByteArray),(⟨#[89]⟩:ByteArray),(⟨#[90]⟩:ByteArray),(⟨#[88]⟩:ByteArray)]:List ByteArray) (w.y z) h1 (y.rsl.x (Dj.app (ap.q 0 J) dN)) q) ?_
 rintro K h v4 Z F3 ⟨a7,a8,rfl,rfl,e3,M⟩
 refine qc h (rR N · K.1 ·) J J J fun t h=>soN 0 j6 J ⟨J,J,J,J,J,trivial⟩ J ?_
 refine en ?_
 exact rtg [0] x (az.one (aX nh J (fun m hw=>hw.rgO (i:=0) J 0 5 [iV t.K,.string t.S,iV t.V.K,iV t.V.N,.string t.V.S] J) J)) J (by cases h;exact fun m hw=>⟨rfl,rfl,rfl,M⟩)
theorem tZ (w0:aD e d [[a]].flatten) (w:ab) (u:Bool) (P:RSl (RI .u8) 1 e l f w.b) (G:d a=some (.cells #[f,iV w.i,iV w.h] 144 (0,0))) {r:ay × ab} (h:mY N w u=some r) :
  Calls prog 150 [pQ a,.bool u].toArray w0.w (bc d w0.w [[a]].flatten (fun Q Fs v=>∃ (H:Value),v = .agg [.string r.1.Kind,H,.bool r.1.Not].toArray∧Fs=[ob H,[a]]∧OSl f8 171 5 Q [] H r.1.Args∧r.2.b=w.b∧Q a=some (.cells #[f,iV r.2.i,iV r.2.h] 144 (0,0)))):=by
 refine eL func150 J ntmps150 J (L:=[[a]]) w0 (fun W=>?_)
 unfold mY at h
 refine sr<|lnz lI J fun y=>arr 4 [] J ?_
 have X:RC RS 1 d ([[],[],[],[]]:List (List Nat)) [.string (⟨#[111,114,100,101,114]⟩:ByteArray),.string (⟨#[112,97,105,100]⟩:ByteArray),.string (⟨#[105,116,101,109]⟩:ByteArray),.string (⟨#[111,114,100,101,114]⟩:ByteArray)] ([(⟨#[111,114,100,101,114]⟩:ByteArray),(⟨#[112,97,105,100]⟩:ByteArray),(⟨#[105,116,101,109]⟩:ByteArray),(⟨#[111,114,100,101,114]⟩:ByteArray)]:List ByteArray):=RC.cons (c:=[.string (⟨#[111,114,100,101,114]⟩:ByteArray)]) (cells:=[.string (⟨#[112,97,105,100]⟩:ByteArray),.string (⟨#[105,116,101,109]⟩:ByteArray),.string (⟨#[111,114,100,101,114]⟩:ByteArray)]) ⟨J,J⟩ J (RC.cons (c:=[.string (⟨#[112,97,105,100]⟩:ByteArray)]) (cells:=[.string (⟨#[105,116,101,109]⟩:ByteArray),.string (⟨#[111,114,100,101,114]⟩:ByteArray)]) ⟨J,J⟩ J (RC.cons (c:=[.string (⟨#[105,116,101,109]⟩:ByteArray)]) (cells:=[.string (⟨#[111,114,100,101,114]⟩:ByteArray)]) ⟨J,J⟩ J (RC.cons (c:=[.string (⟨#[111,114,100,101,114]⟩:ByteArray)]) (cells:=[]) ⟨J,J⟩ J (RC.nil _ _ _))))
 refine le' (bz (vs:=[(0,.string (⟨#[111,114,100,101,114]⟩:ByteArray)),(1,.string (⟨#[112,97,105,100]⟩:ByteArray)),(2,.string (⟨#[105,116,101,109]⟩:ByteArray)),(3,.string (⟨#[111,114,100,101,114]⟩:ByteArray))]) (C:=#[.string (⟨#[111,114,100,101,114]⟩:ByteArray),.string (⟨#[112,97,105,100]⟩:ByteArray),.string (⟨#[105,116,101,109]⟩:ByteArray),.string (⟨#[111,114,100,101,114]⟩:ByteArray)]) RS.lasts jn ue J J J J (ar AX (aa (C':=[.string (⟨#[111,114,100,101,114]⟩:ByteArray),.string ⟨#[]⟩,.string ⟨#[]⟩,.string ⟨#[]⟩]) J J J J J (aa (C':=[.string (⟨#[111,114,100,101,114]⟩:ByteArray),.string (⟨#[112,97,105,100]⟩:ByteArray),.string ⟨#[]⟩,.string ⟨#[]⟩]) J J J J J (aa (C':=[.string (⟨#[111,114,100,101,114]⟩:ByteArray),.string (⟨#[112,97,105,100]⟩:ByteArray),.string (⟨#[105,116,101,109]⟩:ByteArray),.string ⟨#[]⟩]) J J J J J (aa (C':=[.string (⟨#[111,114,100,101,114]⟩:ByteArray),.string (⟨#[112,97,105,100]⟩:ByteArray),.string (⟨#[105,116,101,109]⟩:ByteArray),.string (⟨#[111,114,100,101,114]⟩:ByteArray)]) J J J J J (ae)))))) J X J (by simpa using Kw.nil)) J ?_
 rintro v1 Y D1 ⟨Z,h1⟩
 replace h1:OSl RS 9 1 Y [] v1 ([(⟨#[111,114,100,101,114]⟩:ByteArray),(⟨#[112,97,105,100]⟩:ByteArray),(⟨#[105,116,101,109]⟩:ByteArray),(⟨#[111,114,100,101,114]⟩:ByteArray)]:List ByteArray):=by simpa using h1
 replace G:=Z _ _ NS G
 refine kcb [1] h J J J J (fun b ap z q=>gB N b w ([(⟨#[111,114,100,101,114]⟩:ByteArray),(⟨#[112,97,105,100]⟩:ByteArray),(⟨#[105,116,101,109]⟩:ByteArray),(⟨#[111,114,100,101,114]⟩:ByteArray)]:List ByteArray) (P.y z) G (h1.rsl.x (Dj.app (ap.q 0 J) dN)) q) ?_
 rintro t h v2 F F1 ⟨au,av,rfl,rfl,e1,h2⟩
 refine la J<|lq (bu (vs:=[(0,.string t.1),(2,.bool u)]) (C:=#[.string t.1,.slice none 0 0,.bool u]) Lq lI J (aa (C':=[.string t.1,.slice none 0 0,.bool false]) J J J J J (aa (C':=[.string t.1,.slice none 0 0,.bool u]) J J J J J (ae)))) J<|lnz lI J fun A=>soN 0 pD J ⟨J,J,J,trivial⟩ J ?_
 refine art 12 [0,0] J ?_
 refine cut (σ:=Int) (fun s=>[(0,pQ a),(4,pQ y),(5,pQ A),(6,iV s)]) (fun s=>St w0 F [(A,.cells #[.string t.1,.slice none 0 0,.bool u] 201 (0,0)),(y,.cells #[.string (⟨#[]⟩:ByteArray),.slice none 0 0,.bool false] 201 (0,0))] [[a]]) (fun s=>l8 N w u t s=some r) (fun s hm=>?_) (fun K=>?_)
 ·clear h
  revert hm;revert s;intro s1 hm
  have h:l8 N w u t s1=some r:=hm
  show WT _ _ [(0,pQ a),(4,pQ y),(5,pQ A),(6,iV s1)] (St w0 F [(A,.cells #[.string t.1,.slice none 0 0,.bool u] 201 (0,0)),(y,.cells #[.string (⟨#[]⟩:ByteArray),.slice none 0 0,.bool false] 201 (0,0))] [[a]])
  unfold l8 at h
  refine att 6 [] J<|wtS ?_
  have k1:=OSl.nil f8 171 5 F
  refine lin (σ:=Hp × (List cJ) × Value × Int × Int × Int) (fun s=>[(0,pQ a),(4,pQ y),(5,pQ A),(6,iV s1),(7,iV s.2.2.2.1)]) (fun s=>St w0 s.1 [(A,.cells #[.string t.1,s.2.2.1,.bool u] 201 (0,0)),(y,.cells #[.string (⟨#[]⟩:ByteArray),.slice none 0 0,.bool false] 201 (0,0))] [ob s.2.2.1,[a]]) (fun m s=>jG N w u t s1 m s.2.1 s.2.2.2.1 s.2.2.2.2.1 s.2.2.2.2.2=some r∧(OSl f8 171 5 s.1 [] s.2.2.1 s.2.1)∧(s.1 a=some (.cells #[f,iV s.2.2.2.2.1,iV s.2.2.2.2.2] 144 (0,0)))) (F,([]:List cJ),(.slice none 0 0),0,t.2.i,t.2.h) N ⟨h,k1,h2⟩ (sx [0,0] [0,0]) (fun n2 a7 s hm=>?_)
  obtain⟨aw,s2,I,s3,s4,s5⟩:=s
  obtain⟨h,x,M⟩:=hm
  dsimp only at h x M ⊢
  unfold jG at h
  refine att 7 [] J ?_
  refine ch h J ?_ ?_ <;> intro h
  ·refine att 3 [] J<|wm [0,1] [7] J<|amm 3 [0,1,1,0,2] [0,1] J J ?_
   obtain⟨k,a8,h⟩:=bs h
   refine WM.one 3 NQ (mc J (fun _ v S D B T hw=>Kn.of Kf.nil (ai2 0 1 J J) hw) (bH (js:=[1]) (R:=[ob I]) Js J J (fun B hw ap hl=>An N (bx hw ap hl) (⟨w.b,s4,s5⟩:ab) (P.y (hw.uo ap)) M  a8)) J ?_)
   rintro v3 af F2 ⟨ag,ah,rfl,rfl,e2,E⟩
   replace x:=x.fr ah (ag.q 0 J) dN
   have ak:RC f8 5 af ([[]]:List (List Nat)) [iV k.1.K,.string k.1.S,iV k.1.V.K,iV k.1.V.N,.string k.1.V.S] ([k.1]:List cJ):=RC.cons (c:=[iV k.1.K,.string k.1.S,iV k.1.V.K,iV k.1.V.N,.string k.1.V.S]) (cells:=[]) ⟨J,J⟩ J (RC.nil _ _ _)
   refine WM.one 4 NQ (me J (fun _ v S D B T hw=>Kn.of Kf.nil (ai2 0 1 J J) hw) (bz (vs:=[(0,.agg [iV k.1.K,.string k.1.S,iV k.1.V.K,iV k.1.V.N,.string k.1.V.S].toArray)]) (C:=#[iV k.1.K,.string k.1.S,iV k.1.V.K,iV k.1.V.N,.string k.1.V.S]) f8.lasts yB kh J J J J (ar HL (aa (C':=[iV k.1.K,.string k.1.S,iV k.1.V.K,iV k.1.V.N,.string k.1.V.S]) J J J J J (ae))) J ak J (by simpa using Kw.nil)) J ?_)
   rintro v4 al D2 ⟨U,O⟩
   replace O:OSl f8 171 5 al [] v4 ([k.1]:List cJ):=by simpa using O
   replace x:=x.f0 U
   replace E:=U _ _ NS E
   obtain⟨x3,an,h⟩:=bs h
   refine WM.one 5 NQ (me J (fun _ v S D B T hw=>Kn.of Kf.nil (ai2 0 1 J J) hw) (dM f8.lasts f8.one f8.flat yB LF J J J J J (js:=[2]) (Rr:=[ob v4,[a]]) J x O.rsl an) J ?_)
   rintro v5 ax D3 ⟨⟨ao,aq⟩,V⟩
   replace E:=aq _ _ ((ao.q 1 J) _ NS) E
   refine amm 1 [6,1] [0,1] J J ?_
   refine on1 7 (ms1 0 J nk KU J V.one ?_)
   refine WM.nil NQ<|att 6 [] J ?_
   exact lb [0,1] [0,0] (a7 (_,_,_,_,_,_) ⟨h,V,E⟩)
  refine atr 4 [3] J<|soN 1 pD J ⟨J,x.one,J,trivial⟩ J ?_
  refine en ?_
  exact rtg [0,0] W (az.one (aX wn J (fun B hw=>hw.rgO (i:=1) J 0 3 [.string t.1,I,.bool u] J) J)) J (by cases h;exact fun B hw=>⟨I,rfl,rfl,x,rfl,M⟩)
 refine ch h J ?_ ?_ <;> intro h
 ·refine att 3 [] J ?_
  exact wo [0] [0,0] (K _ h)
 refine WT.skip ?_
 exact wo [0] [0,0] (K _ h)
theorem oG (w0:aD e d [[a]].flatten) (k:ab) (u:RSl (RI .u8) 1 e l f k.b) (A:d a=some (.cells #[f,iV k.i,iV k.h] 144 (0,0))) {r:cJ × ab} (h:m5 N k=some r) :
  Calls prog 206 [pQ a].toArray w0.w (bc d w0.w [[a]].flatten (fun B Fs v=>v = .agg [iV r.1.K,.string r.1.S,iV r.1.V.K,iV r.1.V.N,.string r.1.V.S].toArray∧Fs=[[a]]∧r.2.b=k.b∧B a=some (.cells #[f,iV r.2.i,iV r.2.h] 144 (0,0)))):=by
 refine eL func206 J ntmps206 J (L:=[[a]]) w0 (fun y=>?_)
 unfold m5 at h
 refine sr<|lnz kh J fun O=>arr 5 [] J<|kcb [0] h J J J J (fun b ap z q=>fu N b k 3 (u.y z) A q) ?_
 rintro t h v1 D P ⟨Q,R,rfl,rfl,S,h1⟩
 refine en ?_
 refine ch h J ?_ ?_ <;> intro h
 ·refine sr<|la J<|kcb [0] h J J J J (fun b ap z q=>pb N b (⟨k.b,t.2.i,t.2.h⟩:ab) (u.y z) h1 q) ?_
  rintro E h v2 T U ⟨V,W,rfl,rfl,X,F⟩
  refine qc h (rS N · E.1 ·) J J J fun m h=>soN 0 j6 J ⟨J,J,J,J,J,trivial⟩ J ?_
  refine en ?_
  exact rtg [0] y (az.one (aX nh J (fun w hw=>hw.rgO (i:=0) J 0 5 [iV m.K,.string m.S,iV m.V.K,iV m.V.N,.string m.V.S] J) J)) J (by cases h;exact fun w hw=>⟨rfl,rfl,rfl,F⟩)
 refine atr 4 [] J ?_
 have G:RC RS 1 D ([[],[]]:List (List Nat)) [.string (⟨#[88]⟩:ByteArray),.string (⟨#[89]⟩:ByteArray)] ([(⟨#[88]⟩:ByteArray),(⟨#[89]⟩:ByteArray)]:List ByteArray):=RC.cons (c:=[.string (⟨#[88]⟩:ByteArray)]) (cells:=[.string (⟨#[89]⟩:ByteArray)]) ⟨J,J⟩ J (RC.cons (c:=[.string (⟨#[89]⟩:ByteArray)]) (cells:=[]) ⟨J,J⟩ J (RC.nil _ _ _))
 refine le' (bz (vs:=[(0,.string (⟨#[88]⟩:ByteArray)),(1,.string (⟨#[89]⟩:ByteArray))]) (C:=#[.string (⟨#[88]⟩:ByteArray),.string (⟨#[89]⟩:ByteArray)]) RS.lasts jn ue J J J J (ar AT (aa (C':=[.string (⟨#[88]⟩:ByteArray),.string ⟨#[]⟩]) J J J J J (aa (C':=[.string (⟨#[88]⟩:ByteArray),.string (⟨#[89]⟩:ByteArray)]) J J J J J (ae)))) J G J (by simpa using Kw.nil)) J ?_
 rintro v3 H Y ⟨I,x⟩
 replace x:OSl RS 9 1 H [] v3 ([(⟨#[88]⟩:ByteArray),(⟨#[89]⟩:ByteArray)]:List ByteArray):=by simpa using x
 replace h1:=I _ _ NS h1
 refine kcb [1] h J J J J (fun b ap z q=>gB N b (⟨k.b,t.2.i,t.2.h⟩:ab) ([(⟨#[88]⟩:ByteArray),(⟨#[89]⟩:ByteArray)]:List ByteArray) (u.y z) h1 (x.rsl.x (Dj.app (ap.q 0 J) dN)) q) ?_
 rintro K h v4 Z F3 ⟨a7,a8,rfl,rfl,e3,M⟩
 refine qc h (rR N · K.1 ·) J J J fun s h=>soN 0 j6 J ⟨J,J,J,J,J,trivial⟩ J ?_
 refine en ?_
 exact rtg [0] y (az.one (aX nh J (fun w hw=>hw.rgO (i:=0) J 0 5 [iV s.K,.string s.S,iV s.V.K,iV s.V.N,.string s.V.S] J) J)) J (by cases h;exact fun w hw=>⟨rfl,rfl,rfl,M⟩)
theorem zC (w0:aD e d [[a]].flatten) (m:ab) (t:RSl (RI .u8) 1 e l f m.b) (u:d a=some (.cells #[f,iV m.i,iV m.h] 144 (0,0))) {r:f9 × ab} (h:pS N m=some r) :
  Calls prog 151 [pQ a].toArray w0.w (bc d w0.w [[a]].flatten (fun w Fs v=>v = .agg [iV r.1.Op,iV r.1.L.K,.string r.1.L.S,iV r.1.L.V.K,iV r.1.L.V.N,.string r.1.L.V.S,iV r.1.R.K,.string r.1.R.S,iV r.1.R.V.K,iV r.1.R.V.N,.string r.1.R.V.S].toArray∧Fs=[[a]]∧r.2.b=m.b∧w a=some (.cells #[f,iV r.2.i,iV r.2.h] 144 (0,0)))):=by
 refine eL func151 J ntmps151 J (L:=[[a]]) w0 (fun x=>?_)
 unfold pS at h
 refine sr<|lnz uu J fun D=>arr 4 [] J<|kcb [0] h J J J J (fun b ap z q=>cC N b m 3 (t.y z) u q) ?_
 rintro s h v1 E F ⟨G,H,rfl,rfl,I,h1⟩
 refine arr 2 [] J<|kcb [0] h J J J J (fun b ap z q=>oG N b (⟨m.b,s.2.i,s.2.h⟩:ab) (t.y z) h1 q) ?_
 rintro c h v2 K M ⟨O,P,rfl,rfl,Q,y⟩
 refine la J<|kcb [0] h J J J J (fun b ap z q=>oG N b (⟨m.b,c.2.i,c.2.h⟩:ab) (t.y z) y q) ?_
 rintro k h v3 R S ⟨T,U,rfl,rfl,V,A⟩
 refine lq (bu (vs:=[(0,iV (wz (1+s.1))),(1,.agg [iV c.1.K,.string c.1.S,iV c.1.V.K,iV c.1.V.N,.string c.1.V.S].toArray),(2,.agg [iV k.1.K,.string k.1.S,iV k.1.V.K,iV k.1.V.N,.string k.1.V.S].toArray)]) (C:=#[iV (wz (1+s.1)),iV c.1.K,.string c.1.S,iV c.1.V.K,iV c.1.V.N,.string c.1.V.S,iV k.1.K,.string k.1.S,iV k.1.V.K,iV k.1.V.N,.string k.1.V.S]) Lp uu J (aa (C':=[iV (wz (1+s.1)),iV 0,.string ⟨#[]⟩,iV 0,iV 0,.string ⟨#[]⟩,iV 0,.string ⟨#[]⟩,iV 0,iV 0,.string ⟨#[]⟩]) J J J J J (aa (C':=[iV (wz (1+s.1)),iV c.1.K,.string c.1.S,iV c.1.V.K,iV c.1.V.N,.string c.1.V.S,iV 0,.string ⟨#[]⟩,iV 0,iV 0,.string ⟨#[]⟩]) J J J J J (aa (C':=[iV (wz (1+s.1)),iV c.1.K,.string c.1.S,iV c.1.V.K,iV c.1.V.N,.string c.1.V.S,iV k.1.K,.string k.1.S,iV k.1.V.K,iV k.1.V.N,.string k.1.V.S]) J J J J J (ae))))) J ?_
 refine soN 0 yF J ⟨J,J,J,J,J,J,J,J,J,J,J,trivial⟩ J ?_
 refine en ?_
 exact rtg [0] x (az.one (aX LA J (fun B hw=>hw.rgO (i:=0) J 0 11 [iV (wz (1+s.1)),iV c.1.K,.string c.1.S,iV c.1.V.K,iV c.1.V.N,.string c.1.V.S,iV k.1.K,.string k.1.S,iV k.1.V.K,iV k.1.V.N,.string k.1.V.S] J) J)) J (by cases h;exact fun B hw=>⟨rfl,rfl,rfl,A⟩)
theorem yi (w0:aD e d []) (b:cJ) (i:(List ByteArray)) (k:RSl RS 1 e a6 p i) {r:Bool} (h:nP N b i=some r) :
  CB w0 prog 175 [.agg [iV b.K,.string b.S,iV b.V.K,iV b.V.N,.string b.V.S].toArray,p] (.bool r):=by
 refine eN func175 J ntmps175 J w0 fun m=>?_
 unfold nP at h
 refine sr<|lbx J fun s=>arr 8 [0,0] J ?_
 obtain⟨q,c,h⟩:=bs h
 refine WL.cutN 5 [(13,.bool q),(4,.bool false)] ?_ (fun K=>?_)
 rotate_left
 ·refine sp 8 c J (fun c=>?_) fun c=>?_
  ·refine arr 5 [] J ?_
   cases c
   exact ku K
  ·refine arr 3 [1,0] J<|ly J J<|qd c (rC N · i b.S k ·) J J J fun t c=>la J ?_
   cases c
   exact ku K
 refine la J<|en ?_
 exact rt m h
theorem oy (w0:aD e d []) (b:cJ) (s:(List ByteArray)) (q:RSl RS 1 e a6 p s) {r:cJ} (h:m7 N b s=some r) :
  CB w0 prog 152 [.agg [iV b.K,.string b.S,iV b.V.K,iV b.V.N,.string b.V.S].toArray,p] (.agg [iV r.K,.string r.S,iV r.V.K,iV r.V.N,.string r.V.S].toArray):=by
 refine eN func152 J ntmps152 J w0 fun t=>?_
 unfold m7 at h
 refine sr<|lbx J fun x=>lnz kh J fun y=>arr 6 [37] J<|qd h (yi N · b s q ·) J J J fun z h=>en ?_
 refine ch h J ?_ ?_ <;> intro h
 ·refine atr 3 [37] J<|soN 0 j6 J ⟨J,J,J,J,J,trivial⟩ J ?_
  refine en ?_
  refine WT.ret t (az.one (aX nh J (fun c hw=>hw.rgO (i:=0) J 0 5 [iV b.K,.string b.S,iV b.V.K,iV b.V.N,.string b.V.S] J) J)) (fun c hw=>?_)
  cases h
  exact fe hw
 refine atr 5 [] J<|lnr q J<|la J<|en ?_
 refine ch h J ?_ ?_ <;> intro h
 ·refine sr<|lq (bu (vs:=[(0,iV 1),(1,iV 1)]) (C:=#[iV 1,iV 1,.string (⟨#[]⟩:ByteArray)]) wW jY J (aa (C':=[iV 1,iV 0,.string ⟨#[]⟩]) J J J J J (aa (C':=[iV 1,iV 1,.string ⟨#[]⟩]) J J J J J (ae)))) J<|qc h (rS N · (⟨1,1,(⟨#[]⟩:ByteArray)⟩:bN) ·) J J J fun k h=>soN 0 j6 J ⟨J,J,J,J,J,trivial⟩ J ?_
  refine en ?_
  refine WT.ret t (az.one (aX nh J (fun c hw=>hw.rgO (i:=0) J 0 5 [iV k.K,.string k.S,iV k.V.K,iV k.V.N,.string k.V.S] J) J)) (fun c hw=>?_)
  cases h
  exact fe hw
 refine atr 4 [] J ?_
 obtain⟨v,u,h⟩:=bs h
 obtain⟨A,B,-,g1,D,E,w⟩:=q.el (a8 u).2.2
 obtain⟨rfl,-⟩:=w
 refine lia q u J<|lhx 0 0 g1 J<|qc h (rR N · v ·) J J J fun m h=>soN 0 j6 J ⟨J,J,J,J,J,trivial⟩ J ?_
 refine en ?_
 refine WT.ret t (az.one (aX nh J (fun c hw=>hw.rgO (i:=0) J 0 5 [iV m.K,.string m.S,iV m.V.K,iV m.V.N,.string m.V.S] J) J)) (fun c hw=>?_)
 cases h
 exact fe hw
theorem zi (w0:aD e d [[a]].flatten) (m:ab) (t:RSl (RI .u8) 1 e l f m.b) (E:d a=some (.cells #[f,iV m.i,iV m.h] 144 (0,0))) {r:dY × ab} (h:pA N m=some r) :
  Calls prog 209 [pQ a].toArray w0.w (bc d w0.w [[a]].flatten (fun F Fs v=>v = .agg [.string r.1.Op,iV r.1.L.K,.string r.1.L.S,iV r.1.L.V.K,iV r.1.L.V.N,.string r.1.L.V.S,iV r.1.R.K,.string r.1.R.S,iV r.1.R.V.K,iV r.1.R.V.N,.string r.1.R.V.S].toArray∧Fs=[[a]]∧r.2.b=m.b∧F a=some (.cells #[f,iV r.2.i,iV r.2.h] 144 (0,0)))):=by
 refine eL func209 J ntmps209 J (L:=[[a]]) w0 (fun G=>?_)
 unfold pA at h
 refine sr<|lnz w5 J fun x=>arr 4 [] J<|kcb [0] h J J J J (fun b ap z q=>oG N b m (t.y z) E q) ?_
 rintro k h v1 Y Z ⟨a7,a8,rfl,rfl,e1,h1⟩
 refine lq (bu (vs:=[(1,.agg [iV k.1.K,.string k.1.S,iV k.1.V.K,iV k.1.V.N,.string k.1.V.S].toArray)]) (C:=#[.string (⟨#[]⟩:ByteArray),iV k.1.K,.string k.1.S,iV k.1.V.K,iV k.1.V.N,.string k.1.V.S,iV 0,.string (⟨#[]⟩:ByteArray),iV 0,iV 0,.string (⟨#[]⟩:ByteArray)]) L8 w5 J (aa (C':=[.string ⟨#[]⟩,iV k.1.K,.string k.1.S,iV k.1.V.K,iV k.1.V.N,.string k.1.V.S,iV 0,.string ⟨#[]⟩,iV 0,iV 0,.string ⟨#[]⟩]) J J J J J (ae))) J ?_
 refine lnz w5 J fun y=>soN 0 B5 J ⟨J,J,J,J,J,J,J,J,J,J,J,trivial⟩ J ?_
 refine arr 5 [] J<|kcb [0] h J J J J (fun b ap z q=>fu N b (⟨m.b,k.2.i,k.2.h⟩:ab) 4 (t.y z) h1 q) ?_
 rintro A h v2 H F2 ⟨af,ag,rfl,rfl,e2,u⟩
 refine en ?_
 refine cut (σ:=Hp × Int × Int × ByteArray × Int × ByteArray × Int × Int × ByteArray) (fun s=>[(2,pQ x),(3,pQ y)]) (fun s=>St w0 s.1 [(y,.cells #[.string s.2.2.2.1,iV k.1.K,.string k.1.S,iV k.1.V.K,iV k.1.V.N,.string k.1.V.S,iV s.2.2.2.2.1,.string s.2.2.2.2.2.1,iV s.2.2.2.2.2.2.1,iV s.2.2.2.2.2.2.2.1,.string s.2.2.2.2.2.2.2.2] 216 (0,0)),(x,.cells #[.string (⟨#[]⟩:ByteArray),iV 0,.string (⟨#[]⟩:ByteArray),iV 0,iV 0,.string (⟨#[]⟩:ByteArray),iV 0,.string (⟨#[]⟩:ByteArray),iV 0,iV 0,.string (⟨#[]⟩:ByteArray)] 216 (0,0))] [[a]]) (fun s=>nC N m k s.2.1 s.2.2.1 s.2.2.2.1 s.2.2.2.2.1 s.2.2.2.2.2.1 s.2.2.2.2.2.2.1 s.2.2.2.2.2.2.2.1 s.2.2.2.2.2.2.2.2=some r∧(s.1 a=some (.cells #[f,iV s.2.1,iV s.2.2.1] 144 (0,0)))) (fun s hm=>?_) (fun K=>?_)
 ·clear h
  obtain⟨ah,s1,s2,I,M,O,P,Q,R⟩:=s
  obtain⟨h,B⟩:=hm
  dsimp only at h B ⊢
  unfold nC at h
  refine atr 3 [11] J<|soN 1 B5 J ⟨J,J,J,J,J,J,J,J,J,J,J,trivial⟩ J ?_
  refine en ?_
  exact rtg [0] G (az.one (aX Lm J (fun S hw=>hw.rgO (i:=1) J 0 11 [.string I,iV k.1.K,.string k.1.S,iV k.1.V.K,iV k.1.V.N,.string k.1.V.S,iV M,.string O,iV P,iV Q,.string R] J) J)) J (by cases h;exact fun S hw=>⟨rfl,rfl,rfl,B⟩)
 refine ch h J ?_ ?_ <;> intro h
 ·refine sr<|la J ?_
  have T:RC RS 1 H ([[],[]]:List (List Nat)) [.string (⟨#[43]⟩:ByteArray),.string (⟨#[45]⟩:ByteArray)] ([(⟨#[43]⟩:ByteArray),(⟨#[45]⟩:ByteArray)]:List ByteArray):=RC.cons (c:=[.string (⟨#[43]⟩:ByteArray)]) (cells:=[.string (⟨#[45]⟩:ByteArray)]) ⟨J,J⟩ J (RC.cons (c:=[.string (⟨#[45]⟩:ByteArray)]) (cells:=[]) ⟨J,J⟩ J (RC.nil _ _ _))
  refine le' (bz (vs:=[(0,.string (⟨#[43]⟩:ByteArray)),(1,.string (⟨#[45]⟩:ByteArray))]) (C:=#[.string (⟨#[43]⟩:ByteArray),.string (⟨#[45]⟩:ByteArray)]) RS.lasts jn ue J J J J (ar AT (aa (C':=[.string (⟨#[43]⟩:ByteArray),.string ⟨#[]⟩]) J J J J J (aa (C':=[.string (⟨#[43]⟩:ByteArray),.string (⟨#[45]⟩:ByteArray)]) J J J J J (ae)))) J T J (by simpa using Kw.nil)) J ?_
  rintro v3 U D1 ⟨V,w⟩
  replace w:OSl RS 9 1 U [] v3 ([(⟨#[43]⟩:ByteArray),(⟨#[45]⟩:ByteArray)]:List ByteArray):=by simpa using w
  replace u:=V _ _ NS u
  refine kcb [1] h J J J J (fun b ap z q=>gB N b (⟨m.b,A.2.i,A.2.h⟩:ab) ([(⟨#[43]⟩:ByteArray),(⟨#[45]⟩:ByteArray)]:List ByteArray) (t.y z) u (w.rsl.x (Dj.app (ap.q 0 J) dN)) q) ?_
  rintro D h v4 ak F3 ⟨al,an,rfl,rfl,e3,W⟩
  refine lf Ah J J J<|so1 0 Kz J J ?_
  refine arr 3 [] J<|kcb [0] h J J J J (fun b ap z q=>oG N b (⟨m.b,D.2.i,D.2.h⟩:ab) (t.y z) W q) ?_
  rintro x4 h v5 ao F4 ⟨aq,au,rfl,rfl,e4,X⟩
  refine lf wy J J J<|soN 0 j6 J ⟨J,J,J,J,J,trivial⟩ J ?_
  refine en ?_
  exact wo [0] [0,0] (K (_,_,_,_,_,_,_,_,_) ⟨h,X⟩)
 refine WT.skip ?_
 exact wo [0] [0,0] (K (_,_,_,_,_,_,_,_,_) ⟨h,u⟩)
theorem zA (w0:aD e d [[a]].flatten) (y:ab) (U:Int) (H:RSl (RI .u8) 1 e l f y.b) (V:d a=some (.cells #[f,iV y.i,iV y.h] 144 (0,0))) {r:fd × ab} (h:oY N y U=some r) :
  Calls prog 153 [pQ a,iV U].toArray w0.w (bc d w0.w [[a]].flatten (fun ag Fs v=>∃ (W:Value),v = .agg [iV r.1.Kind,.string r.1.Name,W,iV r.1.N,.string r.1.Undo].toArray∧Fs=[ob W,[a]]∧OSl dF 216 11 ag [] W r.1.Args∧r.2.b=y.b∧ag a=some (.cells #[f,iV r.2.i,iV r.2.h] 144 (0,0)))):=by
 refine eL func153 J ntmps153 J (L:=[[a]]) w0 (fun X=>?_)
 unfold oY at h
 refine sr<|lnz uF J fun w=>arr 4 [] J ?_
 have av:RC (RI .i64) 1 d ([[],[],[],[],[],[],[],[]]:List (List Nat)) [iV 1,iV 1,iV 2,iV 3,iV 3,iV 4,iV 5,iV 6] ([1,1,2,3,3,4,5,6]:List Int):=RC.cons (c:=[iV 1]) (cells:=[iV 1,iV 2,iV 3,iV 3,iV 4,iV 5,iV 6]) ⟨J,J⟩ J (RC.cons (c:=[iV 1]) (cells:=[iV 2,iV 3,iV 3,iV 4,iV 5,iV 6]) ⟨J,J⟩ J (RC.cons (c:=[iV 2]) (cells:=[iV 3,iV 3,iV 4,iV 5,iV 6]) ⟨J,J⟩ J (RC.cons (c:=[iV 3]) (cells:=[iV 3,iV 4,iV 5,iV 6]) ⟨J,J⟩ J (RC.cons (c:=[iV 3]) (cells:=[iV 4,iV 5,iV 6]) ⟨J,J⟩ J (RC.cons (c:=[iV 4]) (cells:=[iV 5,iV 6]) ⟨J,J⟩ J (RC.cons (c:=[iV 5]) (cells:=[iV 6]) ⟨J,J⟩ J (RC.cons (c:=[iV 6]) (cells:=[]) ⟨J,J⟩ J (RC.nil _ _ _))))))))
 refine le' (bz (vs:=[(0,iV 1),(1,iV 1),(2,iV 2),(3,iV 3),(4,iV 3),(5,iV 4),(6,iV 5),(7,iV 6)]) (C:=#[iV 1,iV 1,iV 2,iV 3,iV 3,iV 4,iV 5,iV 6]) RI.lasts cq mg J J J J (ar KK (aa (C':=[iV 1,iV 0,iV 0,iV 0,iV 0,iV 0,iV 0,iV 0]) J J J J J (aa (C':=[iV 1,iV 1,iV 0,iV 0,iV 0,iV 0,iV 0,iV 0]) J J J J J (aa (C':=[iV 1,iV 1,iV 2,iV 0,iV 0,iV 0,iV 0,iV 0]) J J J J J (aa (C':=[iV 1,iV 1,iV 2,iV 3,iV 0,iV 0,iV 0,iV 0]) J J J J J (aa (C':=[iV 1,iV 1,iV 2,iV 3,iV 3,iV 0,iV 0,iV 0]) J J J J J (aa (C':=[iV 1,iV 1,iV 2,iV 3,iV 3,iV 4,iV 0,iV 0]) J J J J J (aa (C':=[iV 1,iV 1,iV 2,iV 3,iV 3,iV 4,iV 5,iV 0]) J J J J J (aa (C':=[iV 1,iV 1,iV 2,iV 3,iV 3,iV 4,iV 5,iV 6]) J J J J J (ae)))))))))) J av J (by simpa using Kw.nil)) J ?_
 rintro v1 aw D1 ⟨ax,h1⟩
 replace h1:OSl (RI .i64) 3 1 aw [] v1 ([1,1,2,3,3,4,5,6]:List Int):=by simpa using h1
 replace V:=ax _ _ NS V
 refine kcb [1] h J J J J (fun b ap z q=>rq N b y ([1,1,2,3,3,4,5,6]:List Int) (H.y z) V (h1.rsl.x (Dj.app (ap.q 0 J) dN)) q) ?_
 rintro u h v2 Y F1 ⟨b4,b5,rfl,rfl,e1,O⟩
 refine lq (bu (vs:=[(0,iV u.1)]) (C:=#[iV u.1,.string (⟨#[]⟩:ByteArray),.slice none 0 0,iV 0,.string (⟨#[]⟩:ByteArray)]) LV uF J (aa (C':=[iV u.1,.string ⟨#[]⟩,.slice none 0 0,iV 0,.string ⟨#[]⟩]) J J J J J (ae))) J<|lnz uF J fun x=>soN 0 uq J ⟨J,J,J,J,J,trivial⟩ J ?_
 refine art 13 [0,0] J ?_
 refine ch h J ?_ ?_ <;> intro h
 ·refine atr 4 [] J<|kcb [0] h J J J J (fun b ap z q=>cC N b (⟨y.b,u.2.i,u.2.h⟩:ab) U (H.y z) O q) ?_
  rintro x2 h v3 b6 F2 ⟨b7,b8,rfl,rfl,e2,h3⟩
  refine lf zX J J J<|so1 0 zq J J ?_
  refine arr 4 [5] J<|soN 1 uq J ⟨J,J,J,J,J,trivial⟩ J ?_
  refine en ?_
  refine WT.ret X (az.one (aX AZ J (fun E hw=>hw.rgO (i:=1) J 0 5 [iV u.1,.string (⟨#[]⟩:ByteArray),.slice none 0 0,iV x2.1,.string (⟨#[]⟩:ByteArray)] J) J)) (fun E hw=>?_)
  cases h
  replace hw:=hw.addNil
  refine aH (js:=[0,0]) hw J ⟨.slice none 0 0,J,J,OSl.nil _ _ _ _,J,h3⟩
 refine att 6 [] J ?_
 refine cut (σ:=Bool) (fun s=>[(0,pQ a),(4,pQ w),(5,pQ x),(21,.bool s)]) (fun s=>St w0 Y [(x,.cells #[iV u.1,.string (⟨#[]⟩:ByteArray),.slice none 0 0,iV 0,.string (⟨#[]⟩:ByteArray)] 213 (0,0)),(w,.cells #[iV 0,.string (⟨#[]⟩:ByteArray),.slice none 0 0,iV 0,.string (⟨#[]⟩:ByteArray)] 213 (0,0))] [[a]]) (fun s=>ed N y u s=some r) (fun s hm=>?_) (fun K=>?_)
 ·clear h
  revert hm;revert s;intro s1 hm
  have h:ed N y u s1=some r:=hm
  show WT _ _ [(0,pQ a),(4,pQ w),(5,pQ x),(21,.bool s1)] (St w0 Y [(x,.cells #[iV u.1,.string (⟨#[]⟩:ByteArray),.slice none 0 0,iV 0,.string (⟨#[]⟩:ByteArray)] 213 (0,0)),(w,.cells #[iV 0,.string (⟨#[]⟩:ByteArray),.slice none 0 0,iV 0,.string (⟨#[]⟩:ByteArray)] 213 (0,0))] [[a]])
  unfold ed at h
  refine ch h J ?_ ?_ <;> intro h
  ·refine atr 3 [5] J<|soN 1 uq J ⟨J,J,J,J,J,trivial⟩ J ?_
   refine en ?_
   refine WT.ret X (az.one (aX AZ J (fun E hw=>hw.rgO (i:=1) J 0 5 [iV u.1,.string (⟨#[]⟩:ByteArray),.slice none 0 0,iV 0,.string (⟨#[]⟩:ByteArray)] J) J)) (fun E hw=>?_)
   cases h
   replace hw:=hw.addNil
   refine aH (js:=[0,0]) hw J ⟨.slice none 0 0,J,J,OSl.nil _ _ _ _,J,O⟩
  refine atr 5 [] J ?_
  have ay:RC RS 1 Y ([[],[],[],[],[]]:List (List Nat)) [.string (⟨#[111,114,100,101,114]⟩:ByteArray),.string (⟨#[112,97,105,100]⟩:ByteArray),.string (⟨#[105,116,101,109]⟩:ByteArray),.string (⟨#[115,104,105,112]⟩:ByteArray),.string (⟨#[99,104,97,114,103,101]⟩:ByteArray)] ([(⟨#[111,114,100,101,114]⟩:ByteArray),(⟨#[112,97,105,100]⟩:ByteArray),(⟨#[105,116,101,109]⟩:ByteArray),(⟨#[115,104,105,112]⟩:ByteArray),(⟨#[99,104,97,114,103,101]⟩:ByteArray)]:List ByteArray):=RC.cons (c:=[.string (⟨#[111,114,100,101,114]⟩:ByteArray)]) (cells:=[.string (⟨#[112,97,105,100]⟩:ByteArray),.string (⟨#[105,116,101,109]⟩:ByteArray),.string (⟨#[115,104,105,112]⟩:ByteArray),.string (⟨#[99,104,97,114,103,101]⟩:ByteArray)]) ⟨J,J⟩ J (RC.cons (c:=[.string (⟨#[112,97,105,100]⟩:ByteArray)]) (cells:=[.string (⟨#[105,116,101,109]⟩:ByteArray),.string (⟨#[115,104,105,112]⟩:ByteArray),.string (⟨#[99,104,97,114,103,101]⟩:ByteArray)]) ⟨J,J⟩ J (RC.cons (c:=[.string (⟨#[105,116,101,109]⟩:ByteArray)]) (cells:=[.string (⟨#[115,104,105,112]⟩:ByteArray),.string (⟨#[99,104,97,114,103,101]⟩:ByteArray)]) ⟨J,J⟩ J (RC.cons (c:=[.string (⟨#[115,104,105,112]⟩:ByteArray)]) (cells:=[.string (⟨#[99,104,97,114,103,101]⟩:ByteArray)]) ⟨J,J⟩ J (RC.cons (c:=[.string (⟨#[99,104,97,114,103,101]⟩:ByteArray)]) (cells:=[]) ⟨J,J⟩ J (RC.nil _ _ _)))))
  refine le' (bz (vs:=[(0,.string (⟨#[111,114,100,101,114]⟩:ByteArray)),(1,.string (⟨#[112,97,105,100]⟩:ByteArray)),(2,.string (⟨#[105,116,101,109]⟩:ByteArray)),(3,.string (⟨#[115,104,105,112]⟩:ByteArray)),(4,.string (⟨#[99,104,97,114,103,101]⟩:ByteArray))]) (C:=#[.string (⟨#[111,114,100,101,114]⟩:ByteArray),.string (⟨#[112,97,105,100]⟩:ByteArray),.string (⟨#[105,116,101,109]⟩:ByteArray),.string (⟨#[115,104,105,112]⟩:ByteArray),.string (⟨#[99,104,97,114,103,101]⟩:ByteArray)]) RS.lasts jn ue J J J J (ar LJ (aa (C':=[.string (⟨#[111,114,100,101,114]⟩:ByteArray),.string ⟨#[]⟩,.string ⟨#[]⟩,.string ⟨#[]⟩,.string ⟨#[]⟩]) J J J J J (aa (C':=[.string (⟨#[111,114,100,101,114]⟩:ByteArray),.string (⟨#[112,97,105,100]⟩:ByteArray),.string ⟨#[]⟩,.string ⟨#[]⟩,.string ⟨#[]⟩]) J J J J J (aa (C':=[.string (⟨#[111,114,100,101,114]⟩:ByteArray),.string (⟨#[112,97,105,100]⟩:ByteArray),.string (⟨#[105,116,101,109]⟩:ByteArray),.string ⟨#[]⟩,.string ⟨#[]⟩]) J J J J J (aa (C':=[.string (⟨#[111,114,100,101,114]⟩:ByteArray),.string (⟨#[112,97,105,100]⟩:ByteArray),.string (⟨#[105,116,101,109]⟩:ByteArray),.string (⟨#[115,104,105,112]⟩:ByteArray),.string ⟨#[]⟩]) J J J J J (aa (C':=[.string (⟨#[111,114,100,101,114]⟩:ByteArray),.string (⟨#[112,97,105,100]⟩:ByteArray),.string (⟨#[105,116,101,109]⟩:ByteArray),.string (⟨#[115,104,105,112]⟩:ByteArray),.string (⟨#[99,104,97,114,103,101]⟩:ByteArray)]) J J J J J (ae))))))) J ay J (by simpa using Kw.nil)) J ?_
  rintro v4 aA D2 ⟨aB,Z⟩
  replace Z:OSl RS 9 1 aA [] v4 ([(⟨#[111,114,100,101,114]⟩:ByteArray),(⟨#[112,97,105,100]⟩:ByteArray),(⟨#[105,116,101,109]⟩:ByteArray),(⟨#[115,104,105,112]⟩:ByteArray),(⟨#[99,104,97,114,103,101]⟩:ByteArray)]:List ByteArray):=by simpa using Z
  replace O:=aB _ _ NS O
  refine kcb [1] h J J J J (fun b ap z q=>gB N b (⟨y.b,u.2.i,u.2.h⟩:ab) ([(⟨#[111,114,100,101,114]⟩:ByteArray),(⟨#[112,97,105,100]⟩:ByteArray),(⟨#[105,116,101,109]⟩:ByteArray),(⟨#[115,104,105,112]⟩:ByteArray),(⟨#[99,104,97,114,103,101]⟩:ByteArray)]:List ByteArray) (H.y z) O (Z.rsl.x (Dj.app (ap.q 0 J) dN)) q) ?_
  rintro A h v5 Q F3 ⟨b9,ba,rfl,rfl,e3,h5⟩
  refine lf FC J J J<|so1 0 Kz J J ?_
  refine art 12 [1,0] J ?_
  refine cut (σ:=Int) (fun s=>[(0,pQ a),(4,pQ w),(5,pQ x),(6,iV s)]) (fun s=>St w0 Q [(x,.cells #[iV u.1,.string A.1,.slice none 0 0,iV 0,.string (⟨#[]⟩:ByteArray)] 213 (0,0)),(w,.cells #[iV 0,.string (⟨#[]⟩:ByteArray),.slice none 0 0,iV 0,.string (⟨#[]⟩:ByteArray)] 213 (0,0))] [[a]]) (fun s=>jz N y u A s=some r) (fun s hm=>?_) (fun K=>?_)
  ·clear h
   revert hm;revert s;intro s2 hm
   have h:jz N y u A s2=some r:=hm
   show WT _ _ [(0,pQ a),(4,pQ w),(5,pQ x),(6,iV s2)] (St w0 Q [(x,.cells #[iV u.1,.string A.1,.slice none 0 0,iV 0,.string (⟨#[]⟩:ByteArray)] 213 (0,0)),(w,.cells #[iV 0,.string (⟨#[]⟩:ByteArray),.slice none 0 0,iV 0,.string (⟨#[]⟩:ByteArray)] 213 (0,0))] [[a]])
   unfold jz at h
   refine att 6 [] J<|wtS ?_
   have k1:=OSl.nil dF 216 11 Q
   refine lin (σ:=Hp × (List dY) × Value × Int × Int × Int) (fun s=>[(0,pQ a),(4,pQ w),(5,pQ x),(6,iV s2),(7,iV s.2.2.2.1)]) (fun s=>St w0 s.1 [(x,.cells #[iV u.1,.string A.1,s.2.2.1,iV 0,.string (⟨#[]⟩:ByteArray)] 213 (0,0)),(w,.cells #[iV 0,.string (⟨#[]⟩:ByteArray),.slice none 0 0,iV 0,.string (⟨#[]⟩:ByteArray)] 213 (0,0))] [ob s.2.2.1,[a]]) (fun m s=>jH N y u A s2 m s.2.1 s.2.2.2.1 s.2.2.2.2.1 s.2.2.2.2.2=some r∧(OSl dF 216 11 s.1 [] s.2.2.1 s.2.1)∧(s.1 a=some (.cells #[f,iV s.2.2.2.2.1,iV s.2.2.2.2.2] 144 (0,0)))) (Q,([]:List dY),(.slice none 0 0),0,A.2.i,A.2.h) N ⟨h,k1,h5⟩ (sx [0,0] [0,0]) (fun n3 aC s hm=>?_)
   obtain⟨aE,G,B,s4,s5,s6⟩:=s
   obtain⟨h,t,I⟩:=hm
   dsimp only at h t I ⊢
   unfold jH at h
   refine att 7 [] J ?_
   refine ch h J ?_ ?_ <;> intro h
   ·refine att 3 [] J<|wm [0,1] [7] J<|amm 3 [0,2,1,0,2] [0,1] J J ?_
    obtain⟨k,aF,h⟩:=bs h
    refine WM.one 3 NQ (mc J (fun _ v ah D E hq hw=>Kn.of Kf.nil (ai2 0 1 J J) hw) (bH (js:=[1]) (R:=[ob B]) Jy J J (fun E hw ap hl=>zi N (bx hw ap hl) (⟨y.b,s5,s6⟩:ab) (H.y (hw.uo ap)) I  aF)) J ?_)
    rintro v6 aG F4 ⟨aI,aJ,rfl,rfl,e4,P⟩
    replace t:=t.fr aJ (aI.q 0 J) dN
    have aK:RC dF 11 aG ([[]]:List (List Nat)) [.string k.1.Op,iV k.1.L.K,.string k.1.L.S,iV k.1.L.V.K,iV k.1.L.V.N,.string k.1.L.V.S,iV k.1.R.K,.string k.1.R.S,iV k.1.R.V.K,iV k.1.R.V.N,.string k.1.R.V.S] ([k.1]:List dY):=RC.cons (c:=[.string k.1.Op,iV k.1.L.K,.string k.1.L.S,iV k.1.L.V.K,iV k.1.L.V.N,.string k.1.L.V.S,iV k.1.R.K,.string k.1.R.S,iV k.1.R.V.K,iV k.1.R.V.N,.string k.1.R.V.S]) (cells:=[]) ⟨J,J⟩ J (RC.nil _ _ _)
    refine WM.one 4 NQ (me J (fun _ v ah D E hq hw=>Kn.of Kf.nil (ai2 0 1 J J) hw) (bz (vs:=[(0,.agg [.string k.1.Op,iV k.1.L.K,.string k.1.L.S,iV k.1.L.V.K,iV k.1.L.V.N,.string k.1.L.V.S,iV k.1.R.K,.string k.1.R.S,iV k.1.R.V.K,iV k.1.R.V.N,.string k.1.R.V.S].toArray)]) (C:=#[.string k.1.Op,iV k.1.L.K,.string k.1.L.S,iV k.1.L.V.K,iV k.1.L.V.N,.string k.1.L.V.S,iV k.1.R.K,.string k.1.R.S,iV k.1.R.V.K,iV k.1.R.V.N,.string k.1.R.V.S]) dF.lasts we w5 J J J J (ar GT (aa (C':=[.string k.1.Op,iV k.1.L.K,.string k.1.L.S,iV k.1.L.V.K,iV k.1.L.V.N,.string k.1.L.V.S,iV k.1.R.K,.string k.1.R.S,iV k.1.R.V.K,iV k.1.R.V.N,.string k.1.R.V.S]) J J J J J (ae))) J aK J (by simpa using Kw.nil)) J ?_)
    rintro v7 aL D3 ⟨ak,h7⟩
    replace h7:OSl dF 216 11 aL [] v7 ([k.1]:List dY):=by simpa using h7
    replace t:=t.f0 ak
    replace P:=ak _ _ NS P
    obtain⟨x5,aM,h⟩:=bs h
    refine WM.one 5 NQ (me J (fun _ v ah D E hq hw=>Kn.of Kf.nil (ai2 0 1 J J) hw) (dM dF.lasts dF.one dF.flat we Lv J J J J J (js:=[2]) (Rr:=[ob v7,[a]]) J t h7.rsl aM) J ?_)
    rintro v8 bb D4 ⟨⟨aN,aO⟩,h8⟩
    replace P:=aO _ _ ((aN.q 1 J) _ NS) P
    refine amm 1 [6,2] [0,1] J J ?_
    refine on1 7 (ms1 0 J nk KA J h8.one ?_)
    refine WM.nil NQ<|att 6 [] J ?_
    exact lb [0,1] [0,0] (aC (_,_,_,_,_,_) ⟨h,h8,P⟩)
   refine att 8 [0,0] J ?_
   refine cut (σ:=Hp × Int × Int × Int) (fun s=>[(0,pQ a),(4,pQ w),(5,pQ x)]) (fun s=>St w0 s.1 [(x,.cells #[iV u.1,.string A.1,B,iV s.2.2.2,.string (⟨#[]⟩:ByteArray)] 213 (0,0)),(w,.cells #[iV 0,.string (⟨#[]⟩:ByteArray),.slice none 0 0,iV 0,.string (⟨#[]⟩:ByteArray)] 213 (0,0))] [ob B,[a]]) (fun s=>jF N y u A G s.2.1 s.2.2.1 s.2.2.2=some r∧(OSl dF 216 11 s.1 [] B G)∧(s.1 a=some (.cells #[f,iV s.2.1,iV s.2.2.1] 144 (0,0)))) (fun s hm=>?_) (fun K=>?_)
   ·clear h
    obtain⟨al,s7,s8,F⟩:=s
    obtain⟨h,t,k4⟩:=hm
    dsimp only at h t k4 ⊢
    unfold jF at h
    refine atr 7 [0,0] J ?_
    refine WL.cutS 3 (σ:=Hp × Bool × Int × Int) (fun s=>[(0,pQ a),(4,pQ w),(5,pQ x),(57,.bool s.2.1)]) (fun s=>St w0 s.1 [(x,.cells #[iV u.1,.string A.1,B,iV F,.string (⟨#[]⟩:ByteArray)] 213 (0,0)),(w,.cells #[iV 0,.string (⟨#[]⟩:ByteArray),.slice none 0 0,iV 0,.string (⟨#[]⟩:ByteArray)] 213 (0,0))] [ob B,[a]]) (fun s=>iJ N y u A G F s.2.1 s.2.2.1 s.2.2.2=some r∧(OSl dF 216 11 s.1 [] B G)∧(s.1 a=some (.cells #[f,iV s.2.2.1,iV s.2.2.2] 144 (0,0)))) (fun s hm=>?_) (fun K=>?_)
    ·clear h
     obtain⟨S,an,a7,a8⟩:=s
     obtain⟨h,t,M⟩:=hm
     replace h:iJ N y u A G F an a7 a8=some r:=h
     replace t:OSl dF 216 11 S [] B G:=t
     replace M:S a=some (.cells #[f,iV a7,iV a8] 144 (0,0)):=M
     show WL _ _ _ _ [(0,pQ a),(4,pQ w),(5,pQ x),(57,.bool an)] (St w0 S [(x,.cells #[iV u.1,.string A.1,B,iV F,.string (⟨#[]⟩:ByteArray)] 213 (0,0)),(w,.cells #[iV 0,.string (⟨#[]⟩:ByteArray),.slice none 0 0,iV 0,.string (⟨#[]⟩:ByteArray)] 213 (0,0))] [ob B,[a]])
     unfold iJ at h
     refine en ?_
     refine cut (σ:=Hp × Int × Int × ByteArray) (fun s=>[(4,pQ w),(5,pQ x)]) (fun s=>St w0 s.1 [(x,.cells #[iV u.1,.string A.1,B,iV F,.string s.2.2.2] 213 (0,0)),(w,.cells #[iV 0,.string (⟨#[]⟩:ByteArray),.slice none 0 0,iV 0,.string (⟨#[]⟩:ByteArray)] 213 (0,0))] [ob B,[a]]) (fun s=>nD N y u A G F s.2.1 s.2.2.1 s.2.2.2=some r∧(OSl dF 216 11 s.1 [] B G)∧(s.1 a=some (.cells #[f,iV s.2.1,iV s.2.2.1] 144 (0,0)))) (fun s hm=>?_) (fun K=>?_)
     ·clear h
      obtain⟨bd,be,bf,aP⟩:=s
      obtain⟨h,t,k6⟩:=hm
      dsimp only at h t k6 ⊢
      unfold nD at h
      refine atr 3 [5] J<|soN 1 uq J ⟨J,J,t.one,J,J,trivial⟩ J ?_
      refine en ?_
      exact rtg [0,0] X (az.one (aX AZ J (fun E hw=>hw.rgO (i:=1) J 0 5 [iV u.1,.string A.1,B,iV F,.string aP] J) J)) J (by cases h;exact fun E hw=>⟨B,rfl,rfl,t,rfl,k6⟩)
     refine ch h J ?_ ?_ <;> intro h
     ·refine atr 2 [] J ?_
      have aQ:RC RS 1 S ([[],[]]:List (List Nat)) [.string (⟨#[114,101,102,117,110,100]⟩:ByteArray),.string (⟨#[99,97,110,99,101,108]⟩:ByteArray)] ([(⟨#[114,101,102,117,110,100]⟩:ByteArray),(⟨#[99,97,110,99,101,108]⟩:ByteArray)]:List ByteArray):=RC.cons (c:=[.string (⟨#[114,101,102,117,110,100]⟩:ByteArray)]) (cells:=[.string (⟨#[99,97,110,99,101,108]⟩:ByteArray)]) ⟨J,J⟩ J (RC.cons (c:=[.string (⟨#[99,97,110,99,101,108]⟩:ByteArray)]) (cells:=[]) ⟨J,J⟩ J (RC.nil _ _ _))
      refine le' (bz (vs:=[(0,.string (⟨#[114,101,102,117,110,100]⟩:ByteArray)),(1,.string (⟨#[99,97,110,99,101,108]⟩:ByteArray))]) (C:=#[.string (⟨#[114,101,102,117,110,100]⟩:ByteArray),.string (⟨#[99,97,110,99,101,108]⟩:ByteArray)]) RS.lasts jn ue J J J J (ar AT (aa (C':=[.string (⟨#[114,101,102,117,110,100]⟩:ByteArray),.string ⟨#[]⟩]) J J J J J (aa (C':=[.string (⟨#[114,101,102,117,110,100]⟩:ByteArray),.string (⟨#[99,97,110,99,101,108]⟩:ByteArray)]) J J J J J (ae)))) J aQ J (by simpa using Kw.nil)) J ?_
      rintro v9 aR D5 ⟨ao,h9⟩
      replace h9:OSl RS 9 1 aR [] v9 ([(⟨#[114,101,102,117,110,100]⟩:ByteArray),(⟨#[99,97,110,99,101,108]⟩:ByteArray)]:List ByteArray):=by simpa using h9
      replace t:=t.f0 ao
      replace M:=ao _ _ NS M
      refine kcb [2] h J J J J (fun b ap z q=>gB N b (⟨y.b,a7,a8⟩:ab) ([(⟨#[114,101,102,117,110,100]⟩:ByteArray),(⟨#[99,97,110,99,101,108]⟩:ByteArray)]:List ByteArray) (H.y z) M (h9.rsl.x (Dj.app (ap.q 0 J) dN)) q) ?_
      rintro x6 h v10 bg F5 ⟨aS,aT,rfl,rfl,e5,aU⟩
      replace t:=t.fr aT (aS.q 1 J) dN
      refine lf Gi J J J<|so1 0 Kz J J ?_
      refine en ?_
      exact wo [2,0] [0,0] (K (_,_,_,_) ⟨h,t,aU⟩)
     refine WT.skip ?_
     exact wo [0,0] [0,0] (K (_,_,_,_) ⟨h,t,M⟩)
    refine sp 54 h J (fun h=>?_) fun h=>?_
    ·refine ly J J<|la J<|ly J J<|kcb [1] h J J J J (fun b ap z q=>fu N b (⟨y.b,s7,s8⟩:ab) 2 (H.y z) k4 q) ?_
     rintro T h v11 aq F6 ⟨aV,aW,rfl,rfl,e6,aY⟩
     replace t:=t.fr aW (aV.q 0 J) dN
     refine la J<|WL.mono (l':=[(0,pQ a),(4,pQ w),(5,pQ x),(57,.bool T.1)]) (S':=St w0 aq [(x,.cells #[iV u.1,.string A.1,B,iV F,.string (⟨#[]⟩:ByteArray)] 213 (0,0)),(w,.cells #[iV 0,.string (⟨#[]⟩:ByteArray),.slice none 0 0,iV 0,.string (⟨#[]⟩:ByteArray)] 213 (0,0))] [ob B,[a]]) (by exact⟨rfl,rfl,rfl,rfl,trivial⟩) (sx [1,0] [0,0]) ?_
     exact K (aq,T.1,T.2.i,T.2.h) ⟨h,t,aY⟩
    refine arr 3 [] J<|WL.mono (l':=[(0,pQ a),(4,pQ w),(5,pQ x),(57,.bool false)]) (S':=St w0 al [(x,.cells #[iV u.1,.string A.1,B,iV F,.string (⟨#[]⟩:ByteArray)] 213 (0,0)),(w,.cells #[iV 0,.string (⟨#[]⟩:ByteArray),.slice none 0 0,iV 0,.string (⟨#[]⟩:ByteArray)] 213 (0,0))] [ob B,[a]]) (by exact⟨rfl,rfl,rfl,rfl,trivial⟩) (sx [0,0] [0,0]) ?_
    exact K (al,false,s7,s8) ⟨h,t,k4⟩
   refine ch h J ?_ ?_ <;> intro h
   ·refine atr 2 [] J ?_
    have aZ:RC (RI .i64) 1 aE ([[],[],[],[]]:List (List Nat)) [iV 0,iV 1,iV 5,iV 100000] ([0,1,5,100000]:List Int):=RC.cons (c:=[iV 0]) (cells:=[iV 1,iV 5,iV 100000]) ⟨J,J⟩ J (RC.cons (c:=[iV 1]) (cells:=[iV 5,iV 100000]) ⟨J,J⟩ J (RC.cons (c:=[iV 5]) (cells:=[iV 100000]) ⟨J,J⟩ J (RC.cons (c:=[iV 100000]) (cells:=[]) ⟨J,J⟩ J (RC.nil _ _ _))))
    refine le' (bz (vs:=[(0,iV 0),(1,iV 1),(2,iV 5),(3,iV 100000)]) (C:=#[iV 0,iV 1,iV 5,iV 100000]) RI.lasts cq mg J J J J (ar LT (aa (C':=[iV 0,iV 0,iV 0,iV 0]) J J J J J (aa (C':=[iV 0,iV 1,iV 0,iV 0]) J J J J J (aa (C':=[iV 0,iV 1,iV 5,iV 0]) J J J J J (aa (C':=[iV 0,iV 1,iV 5,iV 100000]) J J J J J (ae)))))) J aZ J (by simpa using Kw.nil)) J ?_
    rintro v12 b0 D6 ⟨au,af⟩
    replace af:OSl (RI .i64) 3 1 b0 [] v12 ([0,1,5,100000]:List Int):=by simpa using af
    replace t:=t.f0 au
    replace I:=au _ _ NS I
    refine kcb [2] h J J J J (fun b ap z q=>rq N b (⟨y.b,s5,s6⟩:ab) ([0,1,5,100000]:List Int) (H.y z) I (af.rsl.x (Dj.app (ap.q 0 J) dN)) q) ?_
    rintro x8 h bh bj F7 ⟨b1,b2,rfl,rfl,e7,b3⟩
    replace t:=t.fr b2 (b1.q 1 J) dN
    refine lf zX J J J<|so1 0 zq J J ?_
    refine en ?_
    exact wo [2,0] [0,0] (K (_,_,_,_) ⟨h,t,b3⟩)
   refine WT.skip ?_
   exact wo [0,0] [0,0] (K (_,_,_,_) ⟨h,t,I⟩)
  refine ch h J ?_ ?_ <;> intro h
  ·refine att 3 [] J ?_
   exact wo [0] [0,0] (K _ h)
  refine WT.skip ?_
  exact wo [0] [0,0] (K _ h)
 refine ch h J ?_ ?_ <;> intro h
 ·refine WT.skip ?_
  exact wo [0] [0,0] (K _ h)
 refine att 4 [] J ?_
 exact wo [0] [0,0] (K _ h)
end Go.Proofs.YtedmfnmbjglmbaaGreat
