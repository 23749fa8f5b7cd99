/- Printed by a program of ours: each Go function computes its Lean function. -/
import Derived.Test.YtedmfnmbjglmbaaGreatProg
import Derived.Test.YtedmfnmbjglmbaaGreatWCameWalk8
namespace Go.Proofs.YtedmfnmbjglmbaaGreat
open Eng Tryz
open Go.RowKit (Below)
set_option linter.unusedVariables false
set_option linter.unusedSimpArgs false

set_option maxRecDepth 100000
set_option maxHeartbeats 1000000
variable {l g:Hp} {e a6 a1 j p n d t b7 ai b6 b8:Value} {aj pG0_1 pG0_2 b5 bj pG2_0 ad pG4_0 pG6_0 pG7 b0 pG3_0 b9 aE:List Nat} {a f:Nat} (N:Nat)
theorem xJ (w0:aD l g [[a],ob d,ad].flatten) (c:af) (U:aG) (O:aN) (Q:Int) (w:ac) (E:Int) (p6:aI) (V:(List Bool)) (aM:RSl cS 3 l aj e c.Pats) (aO:RSl cH 11 l pG0_1 a6 c.Conds) (aQ:RSl hU 5 l pG0_2 a1 c.Acts) (aA:RSl (RI .i64) 1 l b5 j U.Pos) (dZ:RSl (RI .i64) 1 l bj p U.Neg) (bV:RSl im 1 l pG2_0 n O.Alphas) (cE:OSl br 100 1 g ad d O.Rules) (aB:g a=some (.cells #[n,d] 35 (0,0))) (aR:RSl aY 3 l pG4_0 t w.Items) (cF:RSl aU 3 l pG6_0 b7 p6.Fields) (bm:RSl RB 1 l pG7 ai V) {r:aN} (h:oc N c U O Q w E p6 V=some r) :
  Calls prog 195 [.agg [.string c.Name,iV c.Sal,e,a6,a1].toArray,.agg [j,p].toArray,pQ a,iV Q,.agg [t,iV w.Next].toArray,iV E,.agg [.string p6.Kind,b7].toArray,ai].toArray w0.w (bc g w0.w [[a],ob d,ad].flatten (fun bW Fs v=>∃ (bE:Value) (bX:List Nat),v = .tuple #[]∧Fs=[[a],ob bE,bX]∧r.Alphas=O.Alphas∧OSl br 100 1 bW bX bE r.Rules∧bW a=some (.cells #[n,bE] 35 (0,0)))):=by
 refine eL func195 J ntmps195 J (L:=[[a],ob d,ad]) w0 (fun hF=>?_)
 unfold oc at h
 refine sr<|lbx J fun G=>lbx J fun H=>lbx J fun I=>lbx J fun bY=>arr 4 [] J<|lq (aC J) J<|lf uT J J J<|lgx 1 0 (bP aB) J<|la J ?_
 obtain⟨B,bZ,h⟩:=bs h
 obtain⟨e0,F1,x,h1,r1,c0,cG⟩:=cE.focus bZ
 obtain⟨v1,D2,rfl,rfl,h2⟩:=r1
 refine wlL [ob v1,D2,x,[a],ob d] (sre [2] [ob v1,D2,x] J (by simpa[gf] using cG))<|lih h1 bZ J<|lf lQ J J J<|lgx 0 0 h1.rg J<|arr 5 [] J<|lno h2 J<|art 4 [] J ?_
 obtain⟨x2,c3,h⟩:=bs h
 obtain⟨e1,F2,D3,h3,r2,c4,cI⟩:=h2.focus c3
 obtain⟨v2,D4,rfl,rfl,h4⟩:=r2
 refine wtL [ob v2,D4,D3,ob v1,x,[a],ob d] (sre [1] [ob v2,D4,D3] J (by simpa[gf] using cI))<|WT.mix (Kn w0 g (ob v1) [(bY,.cells #[.string p6.Kind,b7] 52 (0,0)),(I,.cells #[t,iV w.Next] 29 (0,0)),(H,.cells #[j,p] 141 (0,0)),(G,.cells #[.string c.Name,iV c.Sal,e,a6,a1] 87 (0,0))]) (fun i=>match i with | 8=>false | _=>true) mixed (fun _ h=>h.drew) ?_
 refine mq 0 J NQ (kn Kf.id (am [0,1,2,3] J)) (aw tQ J (fun A hw=>hw.rgO (i:=3) J 0 5 [.string c.Name,iV c.Sal,e,a6,a1] J) J) J<|mq 1 J NQ (kn Kf.id (am [0,1,2,3] J)) (aw mD J (fun A hw=>hw.rgO (i:=1) J 0 2 [t,iV w.Next] J) J) J<|mq 7 J NQ (kn Kf.id (am [0,1,2,3] J)) (aw mf J (fun A hw=>hw.rgO (i:=0) J 0 2 [.string p6.Kind,b7] J) J) J<|mqT 2 [4,5,6,8] J NQ (kn Kf.id (am [0,1,2,3] J)) (iZ J) J ?_
 refine mqT 3 [4,5,6,8] J NQ (kn Kf.id (am [0,1,2,3] J)) (iZ J) J<|mqT 4 [5,6,8] J NQ (kn Kf.id (am [0,1,2,3] J)) (cQ sP J J h3 c3) J<|mqT 5 [6,8] J NQ (kn Kf.id (am [0,1,2,3] J)) (ax gZ J) J<|mq 6 J NQ (kn Kf.id (am [0,1,2,3] J)) (aZ Bd J (fun A hw=>hw.rg h3.hb (h3.rg.of_eq 0 1 J J:rg _ _ _ [v2]))) J ?_
 obtain⟨x3,cJ,h⟩:=bs h
 refine WM.one 8 NQ (mc J (fun hc=>by cases hc) (bH (js:=[0,0]) (R:=[D3,ob v1,x,[a],ob d]) ED J J (fun A hw ap hl=>sm N (bx hw ap hl) c w x2.Toks p6 1 (aM.y (hw.uo ap)) (aO.y (hw.uo ap)) (aQ.y (hw.uo ap)) (aR.y (hw.uo ap)) h4 (cF.y (hw.uo ap))  cJ)) J ?_)
 rintro v3 cK F3 ⟨aS,bF,D5,rfl,rfl,h5⟩
 replace h1:=h1.fr bF (aS.q 4 J) (aS.q 2 J)
 replace h3:=h3.fr bF (aS.q 1 J) (aS.q 0 J)
 replace aB:=bF _ _ ((aS.q 3 J) _ NS) aB
 refine WM.nil NQ<|sr ?_
 have cL:RC aT 2 cK ([]:List (List Nat)) [] ([]:List ao):=RC.nil _ _ _
 refine le' (bz (vs:=[]) (C:=#[]) aT.lasts eh ib J J J J (ar sN (ae)) J cL J (by simpa using Kw.nil)) J ?_
 rintro v4 bn D6 ⟨bo,h6⟩
 replace h6:OSl aT 105 2 bn [] v4 ([]:List ao):=by simpa[gf] using h6
 replace h1:=h1.f0 bo
 replace h3:=h3.f0 bo
 replace h5:=h5.f0 bo
 replace aB:=bo _ _ NS aB
 refine WL.conv (S':=St w0 bn [(bY,.cells #[.string p6.Kind,b7] 52 (0,0)),(I,.cells #[t,iV w.Next] 29 (0,0)),(H,.cells #[j,p] 141 (0,0)),(G,.cells #[.string c.Name,iV c.Sal,e,a6,a1] 87 (0,0))] [[],ob v4,ob v2,D5,D3,ob v1,x,[a],ob d]) (fun A hw=>hw.addNil)<|art 7 [] J ?_
 have r3:aV bn _ [v2] (⟨x3⟩:aq):=⟨v2,D5,J,J,h5⟩
 obtain⟨D7,h7,cM⟩:=h3.unfocus r3 (aV.knows _ _ _ _ r3)
 refine wtL [D7,[],ob v4,ob v1,x,[a],ob d] (smg [2,2,2] J (by simpa[gf,cO] using cM)) ?_
 replace h6:=h6.gives aT.gives
 refine lin (σ:=Hp × (List aq) × List Nat × (List ao) × Value × List Nat × Int) (fun s=>[(2,pQ a),(5,iV E),(7,ai),(8,pQ G),(9,pQ H),(12,pQ I),(16,v1),(17,iV (wz ((B.Levels.length:Int) - 1))),(18,s.2.2.2.2.1),(19,iV s.2.2.2.2.2.2)]) (fun s=>St w0 s.1 [(I,.cells #[t,iV w.Next] 29 (0,0)),(H,.cells #[j,p] 141 (0,0)),(G,.cells #[.string c.Name,iV c.Sal,e,a6,a1] 87 (0,0))] [s.2.2.1,ob s.2.2.2.2.1,ob v1,x,[a],ob d]) (fun m s=>bC N c U O Q w E V B m s.2.1 s.2.2.2.1 s.2.2.2.2.2.2=some r∧(OSl aV 103 1 s.1 s.2.2.1 v1 s.2.1)∧(OSl dW 105 2 s.1 s.2.2.2.2.2.1 s.2.2.2.2.1 s.2.2.2.1)∧(∀ k∈s.2.2.2.2.2.1,k∈s.2.2.1)∧(s.1 a=some (.cells #[n,d] 35 (0,0)))∧(HSl br 100 1 s.1 x d O.Rules Q.toNat [v1])) (bn,(B.Levels.set (wz ((B.Levels.length:Int) - 1)).toNat (⟨x3⟩:aq)),D7,([]:List ao),v4,[],0) N ⟨h,h7,h6,NS,aB,h1⟩ (sx [0,1,1,1,1,1] [1,1,1]) (fun n1 cN s hm=>?_)
 obtain⟨c5,s1,P,s2,M,D9,S⟩:=s
 obtain⟨h,u,y,i1,Y,Z⟩:=hm
 dsimp only at h u y i1 Y Z ⊢
 unfold bC at h
 refine att 7 [] J ?_
 refine ch h J ?_ ?_ <;> intro h
 ·refine atr 5 [] J ?_
  have cP:RC aT 2 c5 ([]:List (List Nat)) [] ([]:List ao):=RC.nil _ _ _
  refine le' (bz (vs:=[]) (C:=#[]) aT.lasts eh ib J J J J (ar sN (ae)) J cP J (by simpa using Kw.nil)) J ?_
  rintro v5 c6 e2 ⟨bp,h8⟩
  replace h8:OSl aT 105 2 c6 [] v5 ([]:List ao):=by simpa[gf] using h8
  replace Z:=Z.f0 bp
  replace u:=u.f0 bp
  replace y:=y.f0 bp
  replace Y:=bp _ _ NS Y
  refine WL.conv (S':=St w0 c6 [(I,.cells #[t,iV w.Next] 29 (0,0)),(H,.cells #[j,p] 141 (0,0)),(G,.cells #[.string c.Name,iV c.Sal,e,a6,a1] 87 (0,0))] [[],ob v5,P,ob M,ob v1,x,[a],ob d]) (fun A hw=>hw.addNil)<|arr 8 [] J ?_
  obtain⟨b1,a7,h⟩:=bs h
  refine WL.cutN 8 [(64,.bool b1),(2,pQ a),(5,iV E),(7,ai),(8,pQ G),(9,pQ H),(12,pQ I),(16,v1),(17,iV (wz ((B.Levels.length:Int) - 1))),(18,M),(19,iV S),(20,v5)] ?_ (fun K=>?_)
  rotate_left
  ·refine sp 56 a7 J (fun a7=>?_) fun a7=>?_
   ·refine arr 3 [0,32] J<|ly J J ?_
    obtain⟨x4,c7,a7⟩:=bs a7
    obtain⟨e3,F4,-,g1,e4,e5,r4⟩:=aA.el (a8 c7).2.2
    obtain⟨rfl,-⟩:=r4
    refine lia aA c7 J<|ly J J<|lhx 0 0 g1 J<|ly J J ?_
    obtain⟨x5,c8,a7⟩:=bs a7
    obtain⟨e6,F5,-,g2,e7,e8,r5⟩:=bm.el (a8 c8).2.2
    obtain⟨rfl,-⟩:=r5
    refine lia bm c8 J<|ly J J<|lhx 0 0 g2 J<|la J ?_
    cases a7
    exact ku K
   ·refine arr 8 [] J ?_
    cases a7
    exact ku K
  refine en ?_
  refine cut (σ:=Hp × (List ao) × Value × List Nat) (fun s=>[(2,pQ a),(5,iV E),(7,ai),(8,pQ G),(9,pQ H),(12,pQ I),(16,v1),(17,iV (wz ((B.Levels.length:Int) - 1))),(18,M),(19,iV S),(20,s.2.2.1)]) (fun s=>St w0 s.1 [(I,.cells #[t,iV w.Next] 29 (0,0)),(H,.cells #[j,p] 141 (0,0)),(G,.cells #[.string c.Name,iV c.Sal,e,a6,a1] 87 (0,0))] [s.2.2.2,ob s.2.2.1,P,ob M,ob v1,x,[a],ob d]) (fun s=>hJ N c U O w E V B s1 s2 S (bC N c U O Q w E V B n1) s.2.1=some r∧(OSl aV 103 1 s.1 P v1 s1)∧(OSl dW 105 2 s.1 D9 M s2)∧(OSl aT 105 2 s.1 s.2.2.2 s.2.2.1 s.2.1)∧(s.1 a=some (.cells #[n,d] 35 (0,0)))∧(HSl br 100 1 s.1 x d O.Rules Q.toNat [v1])) (fun s hm=>?_) (fun K=>?_)
  ·clear h
   obtain⟨bG,s4,u2,c9⟩:=s
   obtain⟨h,u,y,k6,k7,k5⟩:=hm
   dsimp only at h u y k6 k7 k5 ⊢
   unfold hJ at h
   refine att 10 [] J ?_
   refine cut (σ:=Int) (fun s=>[(2,pQ a),(5,iV E),(7,ai),(8,pQ G),(9,pQ H),(12,pQ I),(16,v1),(17,iV (wz ((B.Levels.length:Int) - 1))),(18,M),(19,iV S),(20,u2),(21,iV s)]) (fun s=>St w0 bG [(I,.cells #[t,iV w.Next] 29 (0,0)),(H,.cells #[j,p] 141 (0,0)),(G,.cells #[.string c.Name,iV c.Sal,e,a6,a1] 87 (0,0))] [c9,ob u2,P,ob M,ob v1,x,[a],ob d]) (fun s=>iW N c U O w E V B s1 s2 S (bC N c U O Q w E V B n1) s4 s=some r∧(HSl br 100 1 bG x d O.Rules Q.toNat [v1])) (fun s hm=>?_) (fun K=>?_)
   ·clear h
    revert hm;revert s;intro s5 hm
    obtain⟨h,k8⟩:=hm
    try dsimp only at h k8 ⊢
    unfold iW at h
    refine att 6 [] J ?_
    refine lin (σ:=Hp × (List ao) × Value × List Nat × Int) (fun s=>[(2,pQ a),(5,iV E),(7,ai),(8,pQ G),(9,pQ H),(12,pQ I),(16,v1),(17,iV (wz ((B.Levels.length:Int) - 1))),(18,M),(19,iV S),(20,s.2.2.1),(21,iV s5),(22,iV s.2.2.2.2)]) (fun s=>St w0 s.1 [(I,.cells #[t,iV w.Next] 29 (0,0)),(H,.cells #[j,p] 141 (0,0)),(G,.cells #[.string c.Name,iV c.Sal,e,a6,a1] 87 (0,0))] [s.2.2.2.1,ob s.2.2.1,P,ob M,ob v1,x,[a],ob d]) (fun m s=>ei N c U O w E V B s1 s2 S (bC N c U O Q w E V B n1) s5 m s.2.1 s.2.2.2.2=some r∧(OSl aV 103 1 s.1 P v1 s1)∧(OSl dW 105 2 s.1 D9 M s2)∧(OSl aT 105 2 s.1 s.2.2.2.1 s.2.2.1 s.2.1)∧(s.1 a=some (.cells #[n,d] 35 (0,0)))∧(HSl br 100 1 s.1 x d O.Rules Q.toNat [v1])) (bG,s4,u2,c9,0) N ⟨h,u,y,k6,k7,k8⟩ (sx [0,0,0,0,0,0,0,0] [0,0,0]) (fun n4 cR s hm=>?_)
    obtain⟨bI,s6,u3,cT,s7⟩:=s
    obtain⟨h,u,y,bJ,aF,k9⟩:=hm
    dsimp only at h u y bJ aF k9 ⊢
    unfold ei at h
    refine atr 7 [] J ?_
    obtain⟨b2,aa,h⟩:=bs h
    refine WL.cutN 9 [(95,.bool b2),(2,pQ a),(5,iV E),(7,ai),(8,pQ G),(9,pQ H),(12,pQ I),(16,v1),(17,iV (wz ((B.Levels.length:Int) - 1))),(18,M),(19,iV S),(20,u3),(21,iV s5),(22,iV s7)] ?_ (fun K=>?_)
    rotate_left
    ·refine sp 86 aa J (fun aa=>?_) fun aa=>?_
     ·refine arr 4 [0,32] J<|ly J J ?_
      obtain⟨x6,ca,aa⟩:=bs aa
      obtain⟨e9,F6,-,g3,ea,eb,r6⟩:=aA.el (a8 ca).2.2
      obtain⟨rfl,-⟩:=r6
      refine lia aA ca J<|ly J J<|lhx 0 0 g3 J<|ly J J ?_
      obtain⟨x7,cb,aa⟩:=bs aa
      obtain⟨ec,F7,-,g4,ed,ee,r7⟩:=bm.el (a8 cb).2.2
      obtain⟨rfl,-⟩:=r7
      refine lia bm cb J<|ly J J<|lhx 0 0 g4 J<|la J ?_
      cases aa
      exact ku K
     ·refine arr 9 [] J ?_
      cases aa
      exact ku K
    refine en ?_
    refine ch h J ?_ ?_ <;> intro h
    ·refine att 3 [] J<|WT.mix (Kn w0 bI (ob v1++P) [(I,.cells #[t,iV w.Next] 29 (0,0)),(H,.cells #[j,p] 141 (0,0)),(G,.cells #[.string c.Name,iV c.Sal,e,a6,a1] 87 (0,0))]) (fun _=>true) mixed (fun _ h=>h.drew)<|ma 0 J NQ (kn Kf.id (ai3 0 1 2 J J J)) J<|mq 1 J NQ (kn Kf.id (ai3 0 1 2 J J J)) (aw tQ J (fun A hw=>hw.rgO (i:=2) J 0 5 [.string c.Name,iV c.Sal,e,a6,a1] J) J) J ?_
     refine mq 2 J NQ (kn Kf.id (ai3 0 1 2 J J J)) (aw mD J (fun A hw=>hw.rgO (i:=0) J 0 2 [t,iV w.Next] J) J) J<|ma 3 J NQ (kn Kf.id (ai3 0 1 2 J J J)) J<|ma 4 J NQ (kn Kf.id (ai3 0 1 2 J J J)) J<|ma 5 J NQ (kn Kf.id (ai3 0 1 2 J J J)) J ?_
     obtain⟨x8,cc,h⟩:=bs h
     obtain⟨ef,F8,-,g5,cU,cd,r8⟩:=u.elS (a8 cc).2.2
     obtain⟨v6,eg,rfl,rfl,h9⟩:=r8
     have cf:=h9.rslG aT.gives
     refine mq 6 J NQ (kn Kf.id (ai3 0 1 2 J J J)) (an sP J J u.rsl cc) J<|mq 7 J NQ (kn Kf.id (ai3 0 1 2 J J J)) (ax gZ J) J<|mq 8 J NQ (kn Kf.id (ai3 0 1 2 J J J)) (aZ Bd J (fun A hw=>hw.rg (gb.2 (.inl cU)) (g5.of_eq 0 1 J J:rg _ _ _ [v6]))) J<|ma 9 J NQ (kn Kf.id (ai3 0 1 2 J J J)) J ?_
     obtain⟨x9,cg,h⟩:=bs h
     obtain⟨ej,F9,-,g6,cV,cW,r9⟩:=cf.el (a8 cg).2.2
     obtain⟨v7,G1,v8,G2,rfl,rfl,cX,ek⟩:=r9
     refine mq 10 J NQ (kn Kf.id (ai3 0 1 2 J J J)) (an eh J J cf cg) J<|mq 11 J NQ (kn Kf.id (ai3 0 1 2 J J J)) (ax tm J) J<|mq 12 J NQ (kn Kf.id (ai3 0 1 2 J J J)) (aZ sU J (fun A hw=>hw.rg (gb.2 (.inr ((fun k h=>cd k h) _ cV))) (g6.of_eq 0 1 J J:rg _ _ _ [v7]))) J<|ma 13 J NQ (kn Kf.id (ai3 0 1 2 J J J)) J ?_
     obtain⟨el,cY,h⟩:=bs h
     refine WM.one 14 NQ (mc J (fun _ v cj D A hq hw=>Kn.of (Kf.id.st hq.2.1 (Dj.app (hq.1.r (i:=2) J) (hq.1.r (i:=0) J))) (ai3 0 1 2 J J J) hw) (bH (js:=[1,0]) (R:=[P,ob M,ob v1,x,[a],ob d]) EB J J (fun A hw ap hl=>pH N (bx hw ap hl) s6 c w x9.Ids E bJ (aM.y (hw.uo ap)) (aO.y (hw.uo ap)) (aQ.y (hw.uo ap)) (aR.y (hw.uo ap)) (cX.x (Dj.sub (Dj.sub (ap.q 0 J) (fun k h=>cd k h)) (fun k h=>cW k (gb.2 (.inl h)))))  cY)) J ?_)
     rintro v9 eo ep ⟨ab,aW,v10,er,rfl,rfl,cZ⟩
     replace k9:=k9.fr aW (ab.q 5 J) (ab.q 3 J)
     replace u:=u.fr aW (ab.q 2 J) (ab.q 0 J)
     replace y:=y.fr aW (ab.q 1 J) (Dj.sub (ab.q 0 J) i1)
     replace aF:=aW _ _ ((ab.q 4 J) _ NS) aF
     have c0:=(Kf.id (F:=(ob v1++P)):Kf bI _ _).st aW (Dj.app (ab.q 2 J) (ab.q 0 J))
     refine ma 15 J NQ (kn c0 (ai3 0 1 2 J J J)) J<|WM.nil NQ<|att 6 [] J ?_
     exact lb [1,0,0,0,0,0,0,0] [0,0,0] (cR (_,_,_,_,_) ⟨h,u,y,cZ,aF,k9⟩)
    refine xt J<|sq<|WT.draw mixed NQ (fun _ h=>h.drew)<|qq (iZ J) J<|qq (aC J) J<|qq (ax kj J) J<|qq (aZ Bt J (fun A hw=>((bP aF).of_eq 0 1 J J:rg _ _ _ [n]).rangeAt hw.fro)) J<|aqq 3 [0,32] J ?_
    obtain⟨da,ck,h⟩:=bs h
    obtain⟨et,eu,-,g7,ev,ew,db⟩:=aA.el (a8 ck).2.2
    obtain⟨rfl,-⟩:=db
    refine qq (an cq J J aA ck) J<|qq (aZ sD J (fun A hw=>(g7.of_eq 0 1 J J:rg _ _ _ [iV da]).rangeAt hw.in0)) J ?_
    obtain⟨bK,cm,h⟩:=bs h
    obtain⟨ey,ez,-,g8,eA,eB,dc⟩:=bV.el (a8 cm).2.2
    obtain⟨v11,G3,rfl,dd,bL⟩:=dc
    obtain rfl:=dd.symm
    refine qq (an sQ J J bV cm) J<|qq (ax kO J) J<|qq (aZ sU J (fun A hw=>(g8.of_eq 0 1 J J:rg _ _ _ [v11]).rangeAt hw.in0)) J<|aqt 8 [] J ?_
    refine lin (σ:=Hp × (List ao) × Value × List Nat × Int) (fun s=>[(2,pQ a),(5,iV E),(7,ai),(8,pQ G),(9,pQ H),(12,pQ I),(16,v1),(17,iV (wz ((B.Levels.length:Int) - 1))),(18,M),(19,iV S),(20,s.2.2.1),(23,v11),(24,iV s.2.2.2.2)]) (fun s=>St w0 s.1 [(I,.cells #[t,iV w.Next] 29 (0,0)),(H,.cells #[j,p] 141 (0,0)),(G,.cells #[.string c.Name,iV c.Sal,e,a6,a1] 87 (0,0))] [s.2.2.2.1,ob s.2.2.1,P,ob M,ob v1,x,[a],ob d]) (fun m s=>eW N c w B s1 s2 S (bC N c U O Q w E V B n1) bK m s.2.1 s.2.2.2.2=some r∧(OSl aV 103 1 s.1 P v1 s1)∧(OSl dW 105 2 s.1 D9 M s2)∧(OSl aT 105 2 s.1 s.2.2.2.1 s.2.2.1 s.2.1)∧(s.1 a=some (.cells #[n,d] 35 (0,0)))∧(HSl br 100 1 s.1 x d O.Rules Q.toNat [v1])) (bI,s6,u3,cT,0) N ⟨h,u,y,bJ,aF,k9⟩ (sx [0,0,0,0,0,0,0,0] [0,0,0]) (fun n5 de s hm=>?_)
    obtain⟨cn,s8,T,cp,s9⟩:=s
    obtain⟨h,u,y,bM,bN,bO⟩:=hm
    dsimp only at h u y bM bN bO ⊢
    unfold eW at h
    refine atr 5 [] J<|lno y J<|la J<|en ?_
    refine ch h J ?_ ?_ <;> intro h
    ·refine att 8 [] J ?_
     refine lin (σ:=Hp × (List ao) × Value × List Nat × Int) (fun s=>[(2,pQ a),(5,iV E),(7,ai),(8,pQ G),(9,pQ H),(12,pQ I),(16,v1),(17,iV (wz ((B.Levels.length:Int) - 1))),(18,M),(19,iV S),(20,s.2.2.1),(23,v11),(24,iV s9),(25,iV s.2.2.2.2)]) (fun s=>St w0 s.1 [(I,.cells #[t,iV w.Next] 29 (0,0)),(H,.cells #[j,p] 141 (0,0)),(G,.cells #[.string c.Name,iV c.Sal,e,a6,a1] 87 (0,0))] [s.2.2.2.1,ob s.2.2.1,P,ob M,ob v1,x,[a],ob d]) (fun m s=>gg N c w s2 bK s9 (eW N c w B s1 s2 S (bC N c U O Q w E V B n1) bK n5) m s.2.1 s.2.2.2.2=some r∧(OSl aV 103 1 s.1 P v1 s1)∧(OSl dW 105 2 s.1 D9 M s2)∧(OSl aT 105 2 s.1 s.2.2.2.1 s.2.2.1 s.2.1)∧(s.1 a=some (.cells #[n,d] 35 (0,0)))∧(HSl br 100 1 s.1 x d O.Rules Q.toNat [v1])) (cn,s8,T,cp,0) N ⟨h,u,y,bM,bN,bO⟩ (sx [0,0,0,0,0,0,0,0] [0,0,0]) (fun n6 df s hm=>?_)
     obtain⟨cr,dg,u5,eC,eD⟩:=s
     obtain⟨h,u,y,bQ,aX,b4⟩:=hm
     dsimp only at h u y bQ aX b4 ⊢
     unfold gg at h
     refine atr 5 [] J<|lnr bL J<|la J<|en ?_
     refine ch h J ?_ ?_ <;> intro h
     ·refine att 3 [] J<|WT.mix (Kn w0 cr (ob M) [(I,.cells #[t,iV w.Next] 29 (0,0)),(H,.cells #[j,p] 141 (0,0)),(G,.cells #[.string c.Name,iV c.Sal,e,a6,a1] 87 (0,0))]) (fun _=>true) mixed (fun _ h=>h.drew)<|ma 0 J NQ (kn Kf.id (ai3 0 1 2 J J J)) J<|mq 1 J NQ (kn Kf.id (ai3 0 1 2 J J J)) (aw tQ J (fun A hw=>hw.rgO (i:=2) J 0 5 [.string c.Name,iV c.Sal,e,a6,a1] J) J) J ?_
      refine mq 2 J NQ (kn Kf.id (ai3 0 1 2 J J J)) (aw mD J (fun A hw=>hw.rgO (i:=0) J 0 2 [t,iV w.Next] J) J) J<|ma 3 J NQ (kn Kf.id (ai3 0 1 2 J J J)) J<|ma 4 J NQ (kn Kf.id (ai3 0 1 2 J J J)) J ?_
      obtain⟨dh,ct,h⟩:=bs h
      obtain⟨eE,eF,-,g9,di,dj,dk⟩:=y.elS (a8 ct).2.2
      obtain⟨v12,G4,eG,G5,rfl,rfl,dm,eH⟩:=dk
      refine mq 5 J NQ (kn Kf.id (ai3 0 1 2 J J J)) (an eh J J y.rsl ct) J<|mq 6 J NQ (kn Kf.id (ai3 0 1 2 J J J)) (ax tm J) J<|mq 7 J NQ (kn Kf.id (ai3 0 1 2 J J J)) (aZ sU J (fun A hw=>hw.rg di (g9.of_eq 0 1 J J:rg _ _ _ [v12]))) J<|ma 8 J NQ (kn Kf.id (ai3 0 1 2 J J J)) J<|ma 9 J NQ (kn Kf.id (ai3 0 1 2 J J J)) J ?_
      obtain⟨cu,cv,h⟩:=bs h
      obtain⟨eI,eJ,-,g10,eK,eM,dn⟩:=bL.el (a8 cv).2.2
      obtain⟨rfl,-⟩:=dn
      refine mq 10 J NQ (kn Kf.id (ai3 0 1 2 J J J)) (an cq J J bL cv) J<|mq 11 J NQ (kn Kf.id (ai3 0 1 2 J J J)) (aZ sD J (fun A hw=>(g10.of_eq 0 1 J J:rg _ _ _ [iV cu]).rangeAt hw.1)) J ?_
      obtain⟨eN,dp,h⟩:=bs h
      refine WM.one 12 NQ (mc J (fun _ v cj D A hq hw=>Kn.of (Kf.id.st hq.2.1 (hq.1.r (i:=1) J)) (ai3 0 1 2 J J J) hw) (bH (js:=[1,0]) (R:=[P,ob M,ob v1,x,[a],ob d]) EB J J (fun A hw ap hl=>pH N (bx hw ap hl) dg c w dh.Ids cu bQ (aM.y (hw.uo ap)) (aO.y (hw.uo ap)) (aQ.y (hw.uo ap)) (aR.y (hw.uo ap)) (dm.x (Dj.sub (ap.q 0 J) (fun k h=>i1 k (dj k (gb.2 (.inl h))))))  dp)) J ?_)
      rintro eO eP eQ ⟨ah,ba,eR,eS,rfl,rfl,dq⟩
      replace b4:=b4.fr ba (ah.q 5 J) (ah.q 3 J)
      replace u:=u.fr ba (ah.q 2 J) (ah.q 0 J)
      replace y:=y.fr ba (ah.q 1 J) (Dj.sub (ah.q 0 J) i1)
      replace aX:=ba _ _ ((ah.q 4 J) _ NS) aX
      have c4:=(Kf.id (F:=(ob M)):Kf cr _ _).st ba (ah.q 1 J)
      refine ma 13 J NQ (kn c4 (ai3 0 1 2 J J J)) J<|WM.nil NQ<|att 6 [] J ?_
      exact lb [1,0,0,0,0,0,0,0] [0,0,0] (df (_,_,_,_,_) ⟨h,u,y,dq,aX,b4⟩)
     refine att 7 [] J ?_
     exact lb [0,0,0,0,0,0,0,0] [0,0,0] (de (_,_,_,_,_) ⟨h,u,y,bQ,aX,b4⟩)
    refine att 7 [] J ?_
    refine lin (σ:=Hp × (List ao) × List Nat × Int) (fun s=>[(2,pQ a),(5,iV E),(7,ai),(8,pQ G),(9,pQ H),(12,pQ I),(16,v1),(17,iV (wz ((B.Levels.length:Int) - 1))),(19,iV S),(20,T),(26,iV s.2.2.2)]) (fun s=>St w0 s.1 [(I,.cells #[t,iV w.Next] 29 (0,0)),(H,.cells #[j,p] 141 (0,0)),(G,.cells #[.string c.Name,iV c.Sal,e,a6,a1] 87 (0,0))] [s.2.2.1,ob T,P,ob v1,x,[a],ob d]) (fun m s=>cD N c w B s1 S (bC N c U O Q w E V B n1) m s.2.1 s.2.2.2=some r∧(OSl aV 103 1 s.1 P v1 s1)∧(OSl aT 105 2 s.1 s.2.2.1 T s.2.1)∧(s.1 a=some (.cells #[n,d] 35 (0,0)))∧(HSl br 100 1 s.1 x d O.Rules Q.toNat [v1])) (cn,s8,cp,0) N ⟨h,u,bM,bN,bO⟩ (sx [0,0,0,1,1,1,1] [0,0,0]) (fun n7 dr s hm=>?_)
    obtain⟨cw,eT,bb,ds⟩:=s
    obtain⟨h,u,bd,W,X⟩:=hm
    dsimp only at h u bd W X ⊢
    unfold cD at h
    refine atr 5 [] J<|lno bd J<|arr 2 [] J ?_
    obtain⟨b3,be,h⟩:=bs h
    refine WL.cutN 4 [(158,.bool b3),(2,pQ a),(5,iV E),(7,ai),(8,pQ G),(9,pQ H),(12,pQ I),(16,v1),(17,iV (wz ((B.Levels.length:Int) - 1))),(19,iV S),(20,T),(26,iV ds)] ?_ (fun K=>?_)
    rotate_left
    ·refine sp 154 be J (fun be=>?_) fun be=>?_
     ·refine arr 4 [] J ?_
      cases be
      exact ku K
     ·refine arr 4 [] J ?_
      cases be
      exact ku K
    refine en ?_
    refine ch h J ?_ ?_ <;> intro h
    ·refine att 3 [] J ?_
     obtain⟨dt,bR,h⟩:=bs h
     obtain⟨eU,eV,bq,ak,du,cx,dv⟩:=bd.focus bR
     obtain⟨bS,v17,rfl,rfl,dw,bT⟩:=du
     refine wtL [ob bS,ob v17,bq,ob T,P,ob v1,x,[a],ob d] (sre [0] [ob bS,ob v17,bq] J (by simpa[gf] using dv))<|WT.mix (Kn w0 cw (ob T) [(I,.cells #[t,iV w.Next] 29 (0,0)),(H,.cells #[j,p] 141 (0,0)),(G,.cells #[.string c.Name,iV c.Sal,e,a6,a1] 87 (0,0))]) (fun i=>match i with | 10=>false | _=>true) mixed (fun _ h=>h.drew)<|ma 0 J NQ (kn Kf.id (ai3 0 1 2 J J J)) J<|ma 1 J NQ (kn Kf.id (ai3 0 1 2 J J J)) J ?_
     refine mq 2 J NQ (kn Kf.id (ai3 0 1 2 J J J)) (aw tQ J (fun A hw=>hw.rgO (i:=2) J 0 5 [.string c.Name,iV c.Sal,e,a6,a1] J) J) J<|mq 3 J NQ (kn Kf.id (ai3 0 1 2 J J J)) (aw mD J (fun A hw=>hw.rgO (i:=0) J 0 2 [t,iV w.Next] J) J) J<|ma 4 J NQ (kn Kf.id (ai3 0 1 2 J J J)) J<|ma 5 J NQ (kn Kf.id (ai3 0 1 2 J J J)) J<|mq 6 J NQ (kn Kf.id (ai3 0 1 2 J J J)) (cQ eh J J ak bR) J ?_
     refine mq 7 J NQ (kn Kf.id (ai3 0 1 2 J J J)) (aw Du J (fun A hw=>hw.rg ak.hb (ak.rg.of_eq 0 2 J J:rg _ _ _ [bS,v17])) J) J ?_
     obtain⟨dx,dy,h⟩:=bs h
     refine WM.one 8 NQ (mc J (fun _ v cj D A hq hw=>Kn.of (Kf.id.st hq.2.1 (hq.1.r (i:=2) J)) (ai3 0 1 2 J J J) hw) (bH (js:=[0]) (R:=[ob v17,bq,ob T,P,ob v1,x,[a],ob d]) IL J J (fun A hw ap hl=>xk N (bx hw ap hl) c w dt (aM.y (hw.uo ap)) (aO.y (hw.uo ap)) (aQ.y (hw.uo ap)) (aR.y (hw.uo ap)) dw (bT.rsl.x (Dj.app (ap.q 0 J) dN))  dy)) J ?_)
     rintro eX eY eZ ⟨ag,aJ,bf,v20,rfl,rfl,bt,bu⟩
     replace X:=X.fr aJ (ag.q 7 J) (ag.q 5 J)
     replace u:=u.fr aJ (ag.q 4 J) (ag.q 3 J)
     replace ak:=ak.fr aJ (ag.q 2 J) (ag.q 1 J)
     replace bT:=bT.fr aJ (ag.q 0 J) dN
     replace W:=aJ _ _ ((ag.q 6 J) _ NS) W
     have cx:=(Kf.id (F:=(ob T)):Kf cw _ _).st aJ (ag.q 2 J)
     refine mq 9 J NQ (kn cx (ai3 0 1 2 J J J)) (cQ eh J J ak bR) J ?_
     refine WM.one 10 NQ (mu J (fun hc=>by cases hc) (AR (js:=[4]) (Rr:=[ob bf,ob v20,ob v17,bq,P,ob v1,x,[a],ob d]) (o:=0) (vs:=[bf,v20]) (cs':=[bf,v20]) aT.lasts oX J J J J ⟨bt.one,bu.one,trivial⟩ J ak J J (fun ap=>ap.q 3 J)) J ?_)
     rintro dz fa ⟨⟨al,bg⟩,dA⟩
     replace X:=X.fr bg (al.q 8 J) (al.q 6 J)
     replace u:=u.fr bg (al.q 5 J) (al.q 4 J)
     replace bt:=bt.fr bg (al.q 0 J) dN
     replace bu:=bu.fr bg (al.q 1 J) dN
     replace W:=bg _ _ ((al.q 7 J) _ NS) W
     refine WM.nil NQ<|att 6 [] J ?_
     have cy:aT dz _ [bf,v20] dx:=⟨bf,v20,J,J,bt,bu⟩
     obtain⟨dB,dC,dD⟩:=dA.unfocus cy (aT.knows _ _ _ _ cy)
     refine wtL [dB,ob T,ob v17,P,ob v1,x,[a],ob d] (smg [1,1,2] J (by simpa[gf,cO] using dD)) ?_
     exact lb [0,0,1,1,1,1,1] [0,0,0] (dr (_,_,_,_) ⟨h,u,dC,W,X⟩)
    refine atr 7 [] J ?_
    obtain⟨fb,bU,h⟩:=bs h
    obtain⟨fc,fe,bh,aK,dE,ff,dF⟩:=u.focus bU
    obtain⟨v21,aL,rfl,rfl,dG⟩:=dE
    refine wlL [ob v21,aL,bh,bb,ob T,ob v1,x,[a],ob d] (sre [2] [ob v21,aL,bh] J (by simpa[gf] using dF))<|lih aK bU J<|lf gZ J J J<|lgx 0 0 aK.rg J<|la J ?_
    obtain⟨dH,dI,h⟩:=bs h
    have bk:=bd.gives aT.gives
    refine le' (dS aT.lasts aT.one eh qw J J J J J (js:=[0]) (Rr:=[aL,bh,bb,ob T,ob v1,x,[a],ob d]) J dG bd (fun ap=>ap.q 0 J) (fun ap=>ap.q 2 J) dI) J ?_
    rintro v22 fg fh ⟨⟨au,bw⟩,bA⟩
    replace X:=X.fr bw (au.q 7 J) (au.q 5 J)
    replace aK:=aK.fr bw (au.q 4 J) (au.q 1 J)
    replace bk:=bk.fr bw (au.q 3 J) (au.q 2 J)
    replace W:=bw _ _ ((au.q 6 J) _ NS) W
    refine wlL [(aL++bb),ob v22,bh,ob T,ob v1,x,[a],ob d] (smg [1,2] J (SP.eq NS))<|lih aK bU J<|lf gZ J J J<|lu (us [4] [(aL++bb),ob v22,bh,ob T,x,[a],ob d] 0 aV.lasts Aw J J bA.one J aK J (fun ap=>ap.q 2 J)) J ?_
    rintro dJ fi ⟨⟨av,bB⟩,dK⟩
    replace X:=X.fr bB (av.q 6 J) (av.q 4 J)
    replace bA:=bA.fr bB (av.q 1 J) (av.q 0 J)
    replace bk:=bk.fr bB (av.q 3 J) (Dj.sub (av.q 0 J) (fun k hk=>gb.2 (.inr hk)))
    replace W:=bB _ _ ((av.q 5 J) _ NS) W
    refine art 11 [] J ?_
    have cz:aV dJ _ [v22] (⟨dH⟩:aq):=⟨v22,(aL++bb),J,J,bA⟩
    obtain⟨dL,dM,dO,dP,fj⟩:=dK.unfocusM cz (aV.knows _ _ _ _ cz)
    refine wtL [dL,ob v1,ob T,x,[a],ob d] (smg [2,1,1] J (by simpa[gf,cO] using dO)) ?_
    exact lb [0,1,0,0,0,0] [0,0,0] (cN (_,_,_,_,_,_,_) ⟨h,dM,bk,(fun k hk=>((fun k hk=>(fun k hk=>dP k (gb.2 (.inr hk))) k ((fun k hk=>gb.2 (.inr hk)) k hk)) k hk)),W,X⟩)
   refine ch h J ?_ ?_ <;> intro h
   ·refine atr 4 [] J ?_
    obtain⟨fk,cA,h⟩:=bs h
    obtain⟨fl,fm,-,g11,fo,fp,dQ⟩:=u.elS (a8 cA).2.2
    obtain⟨v23,fq,rfl,rfl,dR⟩:=dQ
    have dT:=dR.rslG aT.gives
    refine lio u cA J<|lf gZ J J J<|lgx 0 0 g11 J<|lnr dT J<|la J<|lno y J<|art 3 [] J ?_
    exact wo [0,0,0,0,0,0,0,0] [0,0,0] (K _ ⟨h,k5⟩)
   refine WT.skip ?_
   exact wo [0,0,0,0,0,0,0,0] [0,0,0] (K _ ⟨h,k5⟩)
  refine ch h J ?_ ?_ <;> intro h
  ·refine atr 4 [69,2] J<|le' (lJ (R:=RI .i64) RI.lasts cq mg J J) J ?_
   rintro v24 fr fs ⟨bl,dU⟩
   replace Z:=Z.f0 bl
   replace u:=u.f0 bl
   replace y:=y.f0 bl
   replace h8:=h8.f0 bl
   replace Y:=bl _ _ NS Y
   refine la J<|kcb [2,1] h J J J J (fun b ap z q=>pH N b ([]:List ao) c w ([]:List Int) E h8 (aM.y z) (aO.y z) (aQ.y z) (aR.y z) (dU.rsl.x (Dj.app (ap.q 0 J) dN)) q) ?_
   rintro ft h v25 fu fv ⟨ay,bD,v26,fw,rfl,rfl,dV⟩
   replace Z:=Z.fr bD (ay.q 6 J) (ay.q 4 J)
   replace u:=u.fr bD (ay.q 3 J) (ay.q 1 J)
   replace y:=y.fr bD (ay.q 2 J) (Dj.sub (ay.q 1 J) i1)
   replace Y:=bD _ _ ((ay.q 5 J) _ NS) Y
   refine la J<|en ?_
   exact wo [1,0,1,1,1,1,1,1] [0,0,0] (K (_,_,_,_) ⟨h,u,y,dV,Y,Z⟩)
  refine WT.skip ?_
  exact wo [0,0,0,0,0,0,0,0] [0,0,0] (K (_,_,_,_) ⟨h,u,y,h8,Y,Z⟩)
 refine xt J ?_
 have cB:br c5 _ [v1] (⟨s1⟩:aP):=⟨v1,P,J,J,u⟩
 obtain⟨cC,dX,dY,fx,fy⟩:=Z.unfocusM cB (br.knows _ _ _ _ cB)
 refine wtL [cC,ob M,[a],ob d] (smg [2,0,1] J (by simpa[gf,cO] using dY)) ?_
 refine WT.fin hF az.none (fun A hw=>?_)
 cases h
 refine aH (js:=[2,2,0]) hw J ⟨d,cC,J,J,J,dX,Y⟩
theorem zd (w0:aD l g [[a],ob n,b0,ob d,ad].flatten) (H:bv) (T:ce) (K:aN) (A:ac) (u:Int) (ao:RSl fb 5 l aj e H.Rules) (aq:RSl cK 4 l b5 j T.Alphas) (aJ:RSl eA 2 l bj p T.Chains) (U:OSl bA 133 1 g b0 n K.Alphas) (k:OSl br 100 1 g ad d K.Rules) (V:g a=some (.cells #[n,d] 35 (0,0))) (aK:RSl aY 3 l pG3_0 b6 A.Items) {r:aN} (h:pe N H T K A u=some r) :
  Calls prog 125 [.agg [.string H.Name,e].toArray,.agg [j,p].toArray,pQ a,.agg [b6,iV A.Next].toArray,iV u].toArray w0.w (bc g w0.w [[a],ob n,b0,ob d,ad].flatten (fun au Fs v=>∃ (av:Value) (aL:List Nat) (ay:Value) (aM:List Nat),v = .tuple #[]∧Fs=[[a],ob av,aL,ob ay,aM]∧OSl bA 133 1 au aL av r.Alphas∧OSl br 100 1 au aM ay r.Rules∧au a=some (.cells #[av,ay] 35 (0,0)))):=by
 refine eL func125 J ntmps125 J (L:=[[a],ob n,b0,ob d,ad]) w0 (fun hF=>?_)
 unfold pe at h
 refine sr<|lbx J fun W=>lbx J fun X=>lbx J fun Y=>arr 5 [2] J<|kab h J J J (fun b z q=>nI N b A u (aK.y z) q) ?_
 rintro B h v1 bI F1 ⟨Z,aA,v2,rfl,rfl,h1⟩
 replace U:=U.fr aA (Z.q 1 J) (Z.q 2 J)
 replace k:=k.fr aA (Z.q 3 J) (Z.q 4 J)
 replace V:=aA _ _ ((Z.q 0 J) _ NS) V
 refine arr 3 [] J<|lnz lz J fun a7=>soN 0 mC J ⟨J,h1.one,trivial⟩ J ?_
 refine arr 4 [] J<|le' (lJ RB.lasts CZ MK J J) J ?_
 rintro v3 aW D1 ⟨ag,h2⟩
 replace U:=U.f0 ag
 replace k:=k.f0 ag
 replace h1:=h1.f0 ag
 replace V:=ag _ _ NS V
 refine art 8 [] J ?_
 refine lin (σ:=Hp × (List bF) × List Nat × (List Bool) × Value × Int) (fun s=>[(2,pQ a),(4,iV u),(5,pQ W),(6,pQ X),(8,pQ Y),(10,pQ a7),(12,s.2.2.2.2.1),(13,iV s.2.2.2.2.2)]) (fun s=>St w0 s.1 [(a7,.cells #[.string B.1.Kind,v2] 52 (0,0)),(Y,.cells #[b6,iV A.Next] 29 (0,0)),(X,.cells #[j,p] 47 (0,0)),(W,.cells #[.string H.Name,e] 26 (0,0))] [ob s.2.2.2.2.1,ob v2,[a],ob n,s.2.2.1,ob d,ad]) (fun m s=>fk N H T K A u B m s.2.1 s.2.2.2.1 s.2.2.2.2.2=some r∧(OSl bA 133 1 s.1 s.2.2.1 n s.2.1)∧(OSl br 100 1 s.1 ad d K.Rules)∧(OSl aU 95 3 s.1 [] v2 B.1.Fields)∧(OSl RB 4 1 s.1 [] s.2.2.2.2.1 s.2.2.2.1)∧(s.1 a=some (.cells #[n,d] 35 (0,0)))) (aW,K.Alphas,b0,([]:List Bool),v3,0) N ⟨h,U,k,h1,h2,V⟩ (sx [0,0,0,0,0,0,0] [0,0,0,0]) (fun n1 aO s hm=>?_)
 obtain⟨aQ,s1,D2,s2,u1,s3⟩:=s
 obtain⟨h,w,k,h1,x,o⟩:=hm
 dsimp only at h w k h1 x o ⊢
 unfold fk at h
 refine atr 6 [0,64] J<|lnr aq J<|la J<|en ?_
 refine ch h J ?_ ?_ <;> intro h
 ·refine att 4 [] J<|WT.draw mixed NQ (fun _ h=>h.drew)<|aqq 3 [0,64] J ?_
  obtain⟨x2,aR,h⟩:=bs h
  obtain⟨bJ,F2,-,g1,bK,bL,r1⟩:=aq.el (a8 aR).2.2
  obtain⟨v4,G1,v5,G2,rfl,rfl,h3,h4⟩:=r1
  refine qq (an A9 J J aq aR) J<|qq (aw ui J (fun y hw=>(g1.of_eq 0 4 J J:rg _ _ _ [.string x2.Kind,iV x2.N,v4,v5]).rangeAt hw.in0) J) J<|qq (aw mf J (fun y hw=>hw.rgO (i:=0) J 0 2 [.string B.1.Kind,v2] J) J) J ?_
  obtain⟨M,aX,h⟩:=bs h
  refine qp (jk IS J (fun y hw=>zb N (ba hw.fro) x2 B.1 (h3.y hw.up) (h4.y hw.up) h1.rsl aX)) J<|aqr 6 [] J ?_
  have b1:RC RB 1 aQ ([[]]:List (List Nat)) [.bool M] ([M]:List Bool):=RC.cons (c:=[.bool M]) (cells:=[]) ⟨J,J⟩ J (RC.nil _ _ _)
  refine le' (bz (vs:=[(0,.bool M)]) (C:=#[.bool M]) RB.lasts CZ MK J J J J (ar KN (aa (C':=[.bool M]) J J J J J (ae))) J b1 J (by simpa using Kw.nil)) J ?_
  rintro v6 b2 D3 ⟨ab,h5⟩
  replace h5:OSl RB 4 1 b2 [] v6 ([M]:List Bool):=by simpa using h5
  replace w:=w.f0 ab
  replace k:=k.f0 ab
  replace h1:=h1.f0 ab
  replace x:=x.f0 ab
  replace o:=ab _ _ NS o
  obtain⟨x4,b3,h⟩:=bs h
  refine le' (dM RB.lasts RB.one RB.flat CZ Nx J J J J J (js:=[1]) (Rr:=[ob v6,ob v2,[a],ob n,D2,ob d,ad]) J x h5.rsl b3) J ?_
  rintro v7 aB D4 ⟨⟨P,ah⟩,I⟩
  replace w:=w.fr ah (P.q 3 J) (P.q 4 J)
  replace k:=k.fr ah (P.q 5 J) (P.q 6 J)
  replace h1:=h1.fr ah (P.q 1 J) dN
  replace o:=ah _ _ ((P.q 2 J) _ NS) o
  refine art 6 [] J ?_
  refine ch h J ?_ ?_ <;> intro h
  ·obtain⟨x5,aF,h⟩:=bs h
   obtain⟨bM,F3,D5,E,r2,aG,b4⟩:=w.focus aF
   obtain⟨v8,rfl,rfl,h8⟩:=r2
   refine wtL [ob v8,D5,ob v7,ob v6,ob v2,[a],ob n,ob d,ad] (sre [5] [ob v8,D5] J (by simpa[gf] using b4))<|WT.mix (Kn w0 aB ([a]++ob n) [(a7,.cells #[.string B.1.Kind,v2] 52 (0,0)),(Y,.cells #[b6,iV A.Next] 29 (0,0)),(X,.cells #[j,p] 47 (0,0)),(W,.cells #[.string H.Name,e] 26 (0,0))]) (fun i=>match i with | 18=>false | _=>true) mixed (fun _ h=>h.drew)<|ma 0 J NQ (kn Kf.id (am [0,1,2,3] J)) J ?_
   refine mq 1 J NQ (kn Kf.id (am [0,1,2,3] J)) (aC J) J<|mq 2 J NQ (kn Kf.id (am [0,1,2,3] J)) (ax kj J) J<|mq 3 J NQ (kn Kf.id (am [0,1,2,3] J)) (aZ Bt J (fun y hw=>hw.rg (gb.2 (.inl NS)) ((bP o).of_eq 0 1 J J:rg _ _ _ [n]))) J<|ma 4 J NQ (kn Kf.id (am [0,1,2,3] J)) J<|ma 5 J NQ (kn Kf.id (am [0,1,2,3] J)) J<|mq 6 J NQ (kn Kf.id (am [0,1,2,3] J)) (aC J) J ?_
   refine mq 7 J NQ (kn Kf.id (am [0,1,2,3] J)) (ax kj J) J<|mq 8 J NQ (kn Kf.id (am [0,1,2,3] J)) (aZ Bt J (fun y hw=>hw.rg (gb.2 (.inl NS)) ((bP o).of_eq 0 1 J J:rg _ _ _ [n]))) J<|ma 9 J NQ (kn Kf.id (am [0,1,2,3] J)) J<|mq 10 J NQ (kn Kf.id (am [0,1,2,3] J)) (cQ sQ J J E aF) J<|mq 11 J NQ (kn Kf.id (am [0,1,2,3] J)) (ax kO J) J ?_
   refine mq 12 J NQ (kn Kf.id (am [0,1,2,3] J)) (aZ sU J (fun y hw=>hw.rg (gb.2 (.inr E.hb)) (E.rg.of_eq 0 1 J J:rg _ _ _ [v8]))) J<|ma 13 J NQ (kn Kf.id (am [0,1,2,3] J)) J ?_
   have bb:RC (RI .i64) 1 aB ([[]]:List (List Nat)) [iV u] ([u]:List Int):=RC.cons (c:=[iV u]) (cells:=[]) ⟨J,J⟩ J (RC.nil _ _ _)
   refine WM.one 14 NQ (me J (fun _ v bd D y hq hw=>Kn.of (Kf.id.se hq.1) (am [0,1,2,3] J) hw) (bz (vs:=[(0,iV u)]) (C:=#[iV u]) RI.lasts cq mg J J J J (ar ki (aa (C':=[iV u]) J J J J J (ae))) J bb J (by simpa using Kw.nil)) J ?_)
   rintro v9 be D6 ⟨O,h9⟩
   replace h9:OSl (RI .i64) 3 1 be [] v9 ([u]:List Int):=by simpa using h9
   replace E:=E.f0 O
   replace k:=k.f0 O
   replace h1:=h1.f0 O
   replace I:=I.f0 O
   replace h8:=h8.f0 O
   replace o:=O _ _ NS o
   obtain⟨x6,bf,h⟩:=bs h
   have aG:=(Kf.id (F:=([a]++ob n)):Kf aB _ _).se O
   refine WM.one 15 NQ (me J (fun _ v bd D y hq hw=>Kn.of (aG.st hq.1.2 (Dj.app (hq.1.1.r (i:=5) J) (hq.1.1.r (i:=6) J))) (am [0,1,2,3] J) hw) (dM RI.lasts RI.one RI.flat cq sh J J J J J (js:=[1]) (Rr:=[ob v9,D5,ob v7,ob v6,ob v2,[a],ob n,ob d,ad]) J h8 h9.rsl bf) J ?_)
   rintro v10 bN D7 ⟨⟨G,Q⟩,ak⟩
   replace E:=E.fr Q (G.q 6 J) (G.q 1 J)
   replace k:=k.fr Q (G.q 7 J) (G.q 8 J)
   replace h1:=h1.fr Q (G.q 4 J) dN
   replace I:=I.fr Q (G.q 2 J) dN
   replace o:=Q _ _ ((G.q 5 J) _ NS) o
   have aS:=aG.st Q (Dj.app (G.q 5 J) (G.q 6 J))
   refine mqT 16 [17,18] J NQ (kn aS (am [0,1,2,3] J)) (cQ sQ J J E aF) J<|mq 17 J NQ (kn aS (am [0,1,2,3] J)) (ax kO J) J ?_
   refine WM.one 18 NQ (mu J (fun hc=>by cases hc) (us [7] [ob v10,ob v9,D5,ob v7,ob v6,ob v2,[a],ob d,ad] 0 bA.lasts td J J ak.one J E J (fun ap=>ap.q 2 J)) J ?_)
   rintro bg D8 ⟨⟨S,af⟩,bh⟩
   replace k:=k.fr af (S.q 7 J) (S.q 8 J)
   replace h1:=h1.fr af (S.q 5 J) dN
   replace I:=I.fr af (S.q 3 J) dN
   replace ak:=ak.fr af (S.q 0 J) dN
   replace o:=af _ _ ((S.q 6 J) _ NS) o
   refine WM.nil NQ<|att 6 [] J ?_
   have r3:bA bg _ [v10] (⟨x6⟩:bF):=⟨v10,J,J,ak⟩
   obtain⟨D9,bk,bl⟩:=bh.unfocus r3 (bA.knows _ _ _ _ r3)
   refine wtL [D9,ob n,ob v9,ob v7,ob v6,ob v2,[a],ob d,ad] (smg [1,2] J (by simpa[gf,cO] using bl)) ?_
   exact lb [3,4,4,1,0,2,2] [0,0,0,0] (aO (_,_,_,_,_,_) ⟨h,bk,k,h1,I,o⟩)
  refine att 7 [] J ?_
  exact lb [0,1,1,1,1,1,1] [0,0,0,0] (aO (_,_,_,_,_,_) ⟨h,w,k,h1,I,o⟩)
 refine att 6 [] J ?_
 refine lin (σ:=Hp × (List aP) × Value × List Nat × Int) (fun s=>[(2,pQ a),(4,iV u),(5,pQ W),(6,pQ X),(8,pQ Y),(10,pQ a7),(12,u1),(15,iV s.2.2.2.2)]) (fun s=>St w0 s.1 [(a7,.cells #[.string B.1.Kind,v2] 52 (0,0)),(Y,.cells #[b6,iV A.Next] 29 (0,0)),(X,.cells #[j,p] 47 (0,0)),(W,.cells #[.string H.Name,e] 26 (0,0))] [ob u1,ob v2,[a],ob n,D2,ob s.2.2.1,s.2.2.2.1]) (fun m s=>gQ N H T A u B s1 s2 m s.2.1 s.2.2.2.2=some r∧(OSl bA 133 1 s.1 D2 n s1)∧(OSl br 100 1 s.1 s.2.2.2.1 s.2.2.1 s.2.1)∧(OSl aU 95 3 s.1 [] v2 B.1.Fields)∧(OSl RB 4 1 s.1 [] u1 s2)∧(s.1 a=some (.cells #[n,s.2.2.1] 35 (0,0)))) (aQ,K.Rules,d,ad,0) N ⟨h,w,k,h1,x,o⟩ (sx [0,0,0,0,0,0,0] [0,0,0,0]) (fun n2 bm s hm=>?_)
 obtain⟨bO,s4,u2,bn,s5⟩:=s
 obtain⟨h,w,k4,h1,x,k5⟩:=hm
 dsimp only at h w k4 h1 x k5 ⊢
 unfold gQ at h
 refine atr 6 [1,96] J<|lnr ao J<|la J<|en ?_
 refine ch h J ?_ ?_ <;> intro h
 ·refine att 3 [] J<|wm [0,1,2,3] [16] J<|amm 9 [10,11,12,34,13,14,2,15,0,1,1,96,2] [0,1,2,3] J J ?_
  obtain⟨x7,aT,h⟩:=bs h
  obtain⟨bQ,F4,-,g2,bR,bS,r4⟩:=ao.el (a8 aT).2.2
  obtain⟨v11,G3,v12,G4,bo,G5,rfl,rfl,bp,bq,bt⟩:=r4
  refine mqT 3 [4,16] J NQ (kN [0,1,2,3]) (an El J J ao aT) J<|mq 4 J NQ (kN [0,1,2,3]) (aw tQ J (fun y hw=>(g2.of_eq 0 5 J J:rg _ _ _ [.string x7.Name,iV x7.Sal,v11,v12,bo]).rangeAt hw.1) J) J<|amm 3 [5,1,6,64,7] [0,1,2,3] J J ?_
  obtain⟨x8,aV,h⟩:=bs h
  obtain⟨bT,F5,-,g3,bU,bV,r5⟩:=aJ.el (a8 aV).2.2
  obtain⟨bu,G6,bw,G7,rfl,rfl,bB,bC⟩:=r5
  refine mqT 8 [9,16] J NQ (kN [0,1,2,3]) (an A7 J J aJ aV) J<|mq 9 J NQ (kN [0,1,2,3]) (aw H7 J (fun y hw=>(g3.of_eq 0 2 J J:rg _ _ _ [bu,bw]).rangeAt hw.1) J) J ?_
  obtain⟨x9,bD,h⟩:=bs h
  refine WM.one 16 NQ (mc J (fun hc=>by cases hc) (bH (js:=[2,4,4]) (R:=[ob u1,ob v2,ob n,D2]) IK J J (fun y hw ap hl=>xJ N (bx hw ap hl) x7 x8 (⟨s1,s4⟩:aN) s5 A u B.1 s2 (bp.y (hw.uo ap)) (bq.y (hw.uo ap)) (bt.y (hw.uo ap)) (bB.y (hw.uo ap)) (bC.y (hw.uo ap)) ((w.rslG bA.gives).x (Dj.app (ap.q 2 J) (ap.q 3 J))) k4 k5 (aK.y (hw.uo ap)) (h1.rsl.x (Dj.app (ap.q 1 J) dN)) (x.rsl.x (Dj.app (ap.q 0 J) dN))  bD)) J ?_)
  rintro bW bX F6 ⟨al,aI,v17,bY,rfl,rfl,e1,bE,bG⟩
  replace w:=w.fr aI (al.q 2 J) (al.q 3 J)
  replace h1:=h1.fr aI (al.q 1 J) dN
  replace x:=x.fr aI (al.q 0 J) dN
  refine WM.nil NQ<|att 6 [] J ?_
  exact lb [3,3,0,2,2,0,0] [0,0,0,0] (bm (_,_,_,_,_) ⟨h,w,bE,h1,x,bG⟩)
 refine xt J ?_
 refine WT.fin hF az.none (fun y hw=>?_)
 cases h
 refine aH (js:=[2,2,2,2,2]) hw J ⟨n,D2,u2,bn,J,J,w,k4,k5⟩
theorem yT (w0:aD l g [[f]].flatten) (T:ab) (aV:RSl (RI .u8) 1 l aj e T.b) (bV:g f=some (.cells #[e,iV T.i,iV T.h] 144 (0,0))) {r:bv × ce × aN × ac × ab} (h:nU N T=some r) :
  Calls prog 60 [pQ f].toArray w0.w (bc g w0.w [[f]].flatten (fun ax Fs v=>∃ (bl:Value) (bI:List Nat) (bm:Value) (bK:List Nat) (bn:Value) (bL:List Nat) (bo:Value) (bM:List Nat) (bp:Value) (bN:List Nat) (bq:Value) (bO:List Nat) (X:List Nat),v = .tuple #[.agg [.string r.1.Name,bl].toArray,.agg [bm,bn].toArray,.agg [bo,bp].toArray,.agg [bq,iV r.2.2.2.1.Next].toArray]∧Fs=[ob bl,bI,ob bm,ob bn,bL,ob bo,bM,ob bp,bN,ob bq,[f],X]∧OSl dT 87 5 ax bI bl r.1.Rules∧OSl cK 137 4 ax bK bm r.2.1.Alphas∧(∀ k∈bK,k∈X)∧OSl bJ 141 2 ax bL bn r.2.1.Chains∧OSl bA 133 1 ax bM bo r.2.2.1.Alphas∧OSl br 100 1 ax bN bp r.2.2.1.Rules∧OSl aY 66 3 ax bO bq r.2.2.2.1.Items∧(∀ k∈bO,k∈X)∧r.2.2.2.2.b=T.b∧ax f=some (.cells #[e,iV r.2.2.2.2.i,iV r.2.2.2.2.h] 144 (0,0)))):=by
 refine eL func60 J ntmps60 J (L:=[[f]]) w0 (fun hF=>?_)
 unfold nU at h
 refine sr<|lnz yW J fun ay=>lnz sI J fun aA=>lnz o8 J fun aB=>lnz o3 J fun aC=>arr 4 [] J<|kcb [0] h J J J J (fun b ap z q=>yX N b T (aV.y z) bV q) ?_
 rintro I h v1 bZ F1 ⟨c0,c3,v2,Y,rfl,rfl,h1,e1,h2⟩
 refine lnz yW J fun aF=>soN 0 Ak J ⟨J,h1.one,trivial⟩ J ?_
 refine arr 4 [2] J<|kab h J J J (fun b z q=>zt N b I.1 (h1.rslG dT.gives) q) ?_
 rintro x2 h v3 c4 F2 ⟨bt,bQ,v4,D2,v5,Z,U,rfl,rfl,c,y,o⟩
 replace h1:=h1.fr bQ (bt.q 0 J) (bt.q 1 J)
 replace h2:=bQ _ _ ((bt.q 2 J) _ NS) h2
 refine lnz sI J fun aG=>soN 0 uO J ⟨c.one,o.one,trivial⟩ J ?_
 refine arr 4 [2] J<|kab h J J J (fun b z q=>zD N b x2 c.rsl (o.rslG bJ.gives) q) ?_
 rintro x4 h v6 c5 F3 ⟨aI,bg,v7,D4,v8,D5,rfl,rfl,h5,h6⟩
 replace h1:=h1.fr bg (aI.q 4 J) (aI.q 5 J)
 replace c:=c.fr bg (aI.q 0 J) (Dj.sub (aI.q 3 J) y)
 replace o:=o.fr bg (aI.q 1 J) (aI.q 2 J)
 replace h2:=bg _ _ ((aI.q 6 J) _ NS) h2
 refine lnz o8 J fun bh=>soN 0 pZ J ⟨h5.one,h6.one,trivial⟩ J ?_
 refine en<|sr<|lq (bu (vs:=[(1,iV 1)]) (C:=#[.slice none 0 0,iV 1]) EZ o3 J (aa (C':=[.slice none 0 0,iV 1]) J J J J J (ae))) J<|lnz o3 J fun aO=>soN 0 qb J ⟨J,J,trivial⟩ J ?_
 refine arr 5 [] J<|kcb [10] h J J J J (fun b ap z q=>cC N b (⟨T.b,I.2.i,I.2.h⟩:ab) 10 (aV.y z) h2 q) ?_
 rintro x5 h v9 bR F4 ⟨a7,aW,rfl,rfl,e2,h7⟩
 replace h1:=h1.fr aW (a7.q 8 J) (a7.q 9 J)
 replace c:=c.fr aW (a7.q 4 J) (Dj.sub (a7.q 7 J) y)
 replace o:=o.fr aW (a7.q 5 J) (a7.q 6 J)
 replace h5:=h5.fr aW (a7.q 0 J) (a7.q 1 J)
 replace h6:=h6.fr aW (a7.q 2 J) (a7.q 3 J)
 refine art 3 [] J<|wt0<|wtS ?_
 have k1:=OSl.nil aY 66 3 bR
 refine lin (σ:=Hp × List Nat × (List bF) × Value × List Nat × (List aP) × Value × List Nat × (List ag) × Value × List Nat × Int × Int × Int × Int) (fun s=>[(0,pQ f),(2,pQ ay),(3,pQ aA),(4,pQ aB),(5,pQ aC),(6,pQ aF),(7,pQ aG),(8,pQ bh),(9,pQ aO),(10,iV s.2.2.2.2.2.2.2.2.2.2.2.1)]) (fun s=>St w0 s.1 [(aO,.cells #[s.2.2.2.2.2.2.2.2.2.1,iV s.2.2.2.2.2.2.2.2.2.2.2.2.2.2] 29 (0,0)),(bh,.cells #[s.2.2.2.1,s.2.2.2.2.2.2.1] 35 (0,0)),(aG,.cells #[v4,v5] 47 (0,0)),(aF,.cells #[.string I.1.Name,v2] 26 (0,0)),(aC,.cells #[.slice none 0 0,iV 0] 29 (0,0)),(aB,.cells #[.slice none 0 0,.slice none 0 0] 35 (0,0)),(aA,.cells #[.slice none 0 0,.slice none 0 0] 47 (0,0)),(ay,.cells #[.string (⟨#[]⟩:ByteArray),.slice none 0 0] 26 (0,0))] [ob s.2.2.2.2.2.2.2.2.2.1,s.2.1,[f],ob s.2.2.2.1,s.2.2.2.2.1,ob s.2.2.2.2.2.2.1,s.2.2.2.2.2.2.2.1,ob v4,ob v5,Z,U,ob v2,Y]) (fun m s=>fR N T I x2 m s.2.2.1 s.2.2.2.2.2.1 s.2.2.2.2.2.2.2.2.1 s.2.2.2.2.2.2.2.2.2.2.2.1 s.2.2.2.2.2.2.2.2.2.2.2.2.1 s.2.2.2.2.2.2.2.2.2.2.2.2.2.1 s.2.2.2.2.2.2.2.2.2.2.2.2.2.2=some r∧(OSl dT 87 5 s.1 Y v2 I.1.Rules)∧(OSl cK 137 4 s.1 D2 v4 x2.Alphas)∧(OSl bJ 141 2 s.1 Z v5 x2.Chains)∧(OSl bA 133 1 s.1 s.2.2.2.2.1 s.2.2.2.1 s.2.2.1)∧(OSl br 100 1 s.1 s.2.2.2.2.2.2.2.1 s.2.2.2.2.2.2.1 s.2.2.2.2.2.1)∧(OSl aY 66 3 s.1 s.2.2.2.2.2.2.2.2.2.2.1 s.2.2.2.2.2.2.2.2.2.1 s.2.2.2.2.2.2.2.2.1)∧(∀ k∈s.2.2.2.2.2.2.2.2.2.2.1,k∈s.2.1)∧(s.1 f=some (.cells #[e,iV s.2.2.2.2.2.2.2.2.2.2.2.2.1,iV s.2.2.2.2.2.2.2.2.2.2.2.2.2.1] 144 (0,0)))) (bR,[],x4.Alphas,v7,D4,x4.Rules,v8,D5,([]:List ag),(.slice none 0 0),[],x5.1,x5.2.i,x5.2.h,1) N ⟨h,h1,c,o,h5,h6,k1,NS,h7⟩ (sx [0,0,0,0,0,0,0,0,0,0,0,0,0] [0,0,0,0,0,0,0,0]) (fun n1 bw s hm=>?_)
 obtain⟨c6,X2,s1,u1,D6,s2,u2,D7,s3,u3,D8,s4,s5,s6,s7⟩:=s
 obtain⟨h,h1,c,o,w,x,u,i2,k5⟩:=hm
 dsimp only at h h1 c o w x u i2 k5 ⊢
 unfold fR at h
 refine att 6 [] J ?_
 refine ch h J ?_ ?_ <;> intro h
 ·refine atr 7 [] J<|kcb [2] h J J J J (fun b ap z q=>fu N b (⟨T.b,s5,s6⟩:ab) 4 (aV.y z) k5 q) ?_
  rintro x6 h v10 c7 F5 ⟨O,aQ,rfl,rfl,e3,h8⟩
  replace h1:=h1.fr aQ (O.q 10 J) (O.q 11 J)
  replace c:=c.fr aQ (O.q 6 J) (Dj.sub (O.q 9 J) y)
  replace o:=o.fr aQ (O.q 7 J) (O.q 8 J)
  replace w:=w.fr aQ (O.q 2 J) (O.q 3 J)
  replace x:=x.fr aQ (O.q 4 J) (O.q 5 J)
  replace u:=u.fr aQ (O.q 0 J) (Dj.sub (O.q 1 J) i2)
  refine la J ?_
  obtain⟨b4,b1,h⟩:=bs h
  refine WL.cutN 5 [(34,.bool b4),(0,pQ f),(2,pQ ay),(3,pQ aA),(4,pQ aB),(5,pQ aC),(6,pQ aF),(7,pQ aG),(8,pQ bh),(9,pQ aO),(10,iV s4)] ?_ (fun K=>?_)
  rotate_left
  ·refine sp 29 b1 J (fun b1=>?_) fun b1=>?_
   ·refine arr 2 [0,0] J<|ly J J<|lno u J<|arr 2 [] J ?_
    cases b1
    exact ku K
   ·refine arr 5 [] J ?_
    cases b1
    exact ku K
  refine en ?_
  refine ch h J ?_ ?_ <;> intro h
  ·refine sq<|wm [0,1,2,3,4,5,6,7] [] J<|amm 5 [0,0,1,0,2,3,0,4,0] [0,1,2,3,4,5,6,7] J J<|mq 5 J NQ (kN [0,1,2,3,4,5,6,7]) (mK mN J J u.rsl) J ?_
   obtain⟨x7,bW,h⟩:=bs h
   refine WM.one 6 NQ (mc J (fun _ v c8 D w1 hq hw=>Kn.of Kf.nil (am [0,1,2,3,4,5,6,7] J) hw) (bH (js:=[0]) (R:=[ob u3,X2,ob u1,D6,ob u2,D7,ob v4,ob v5,Z,U,ob v2,Y]) GB J J (fun w1 hw ap hl=>cC N (bx hw ap hl) (⟨T.b,x6.2.i,x6.2.h⟩:ab) (s3.length:Int) (aV.y (hw.uo ap)) h8  bW)) J ?_)
   rintro v11 c9 F6 ⟨P,aR,rfl,rfl,e4,M⟩
   replace h1:=h1.fr aR (P.q 10 J) (P.q 11 J)
   replace c:=c.fr aR (P.q 6 J) (Dj.sub (P.q 9 J) y)
   replace o:=o.fr aR (P.q 7 J) (P.q 8 J)
   replace w:=w.fr aR (P.q 2 J) (P.q 3 J)
   replace x:=x.fr aR (P.q 4 J) (P.q 5 J)
   replace u:=u.fr aR (P.q 0 J) (Dj.sub (P.q 1 J) i2)
   obtain⟨x8,bS,h⟩:=bs h
   obtain⟨ca,F7,-,g1,cb,cc,r1⟩:=u.elS (a8 bS).2.2
   obtain⟨v12,G1,rfl,bX,cd⟩:=r1
   obtain rfl:=bX.symm
   refine mq 7 J NQ (kN [0,1,2,3,4,5,6,7]) (an mN J J u.rsl bS) J<|amm 1 [8,0] [0,1,2,3,4,5,6,7] J J ?_
   refine on1 9 (mv J (kS [0,1,2,3,4,5,6,7]) (aZ sD J (fun w1 hw=>(g1.of_eq 0 1 J J:rg _ _ _ [iV x8.Id]).rangeAt hw.fro)) J ?_)
   refine amm 1 [10] [0,1,2,3,4,5,6,7] J J<|WM.nil NQ<|atr 5 [98,2] J ?_
   refine WL.frz (js:=[1]) (R:=[(aO,.cells #[u3,iV s7] 29 (0,0)),(aG,.cells #[v4,v5] 47 (0,0)),(aF,.cells #[.string I.1.Name,v2] 26 (0,0)),(aC,.cells #[.slice none 0 0,iV 0] 29 (0,0)),(aB,.cells #[.slice none 0 0,.slice none 0 0] 35 (0,0)),(aA,.cells #[.slice none 0 0,.slice none 0 0] 47 (0,0)),(ay,.cells #[.string (⟨#[]⟩:ByteArray),.slice none 0 0] 26 (0,0))]) J (fun cf aJ k6=>?_)
   replace h1:=h1.f0 aJ
   replace c:=c.f0 aJ
   replace o:=o.f0 aJ
   replace w:=w.f0 aJ
   replace x:=x.f0 aJ
   replace u:=u.f0 aJ
   replace M:=aJ _ _ NS M
   refine kcb [0,3,3,3,3] h J J J J (fun b ap z q=>yn N b I.1 (⟨s1,s2⟩:aN) (⟨s3,s7⟩:ac) x8.Id ((h1.rslG dT.gives).x (Dj.app (ap.q 7 J) (ap.q 8 J))) w x k6 (u.rsl.x (Dj.app (ap.q 1 J) (Dj.sub (ap.q 2 J) i2))) q) ?_
   rintro x9 h cg cj F8 ⟨ah,b2,bz,D9,bB,bC,rfl,rfl,ak,al,b3⟩
   replace h1:=h1.fr b2 (ah.q 7 J) (ah.q 8 J)
   replace c:=c.fr b2 (ah.q 3 J) (Dj.sub (ah.q 6 J) y)
   replace o:=o.fr b2 (ah.q 4 J) (ah.q 5 J)
   replace u:=u.fr b2 (ah.q 1 J) (Dj.sub (ah.q 2 J) i2)
   replace M:=b2 _ _ ((ah.q 0 J) _ NS) M
   refine arr 4 [] J ?_
   refine WL.frz (js:=[0]) (R:=[(aG,.cells #[v4,v5] 47 (0,0)),(aF,.cells #[.string I.1.Name,v2] 26 (0,0)),(aC,.cells #[.slice none 0 0,iV 0] 29 (0,0)),(aB,.cells #[.slice none 0 0,.slice none 0 0] 35 (0,0)),(aA,.cells #[.slice none 0 0,.slice none 0 0] 47 (0,0)),(ay,.cells #[.string (⟨#[]⟩:ByteArray),.slice none 0 0] 26 (0,0))]) J (fun ck ao k7=>?_)
   replace h1:=h1.f0 ao
   replace c:=c.f0 ao
   replace o:=o.f0 ao
   replace u:=u.f0 ao
   replace ak:=ak.f0 ao
   replace al:=al.f0 ao
   replace b3:=ao _ _ NS b3
   replace M:=ao _ _ NS M
   refine kcb [0] h J J J J (fun b ap z q=>tU N b (⟨s3,s7⟩:ac) x8.Id (u.rsl.x (Dj.app (ap.q 6 J) (Dj.sub (ap.q 7 J) i2))) k7 q) ?_
   rintro cm h cn cp F9 ⟨Q,aK,v17,cq,rfl,rfl,ba,i3,bD⟩
   replace h1:=h1.fr aK (Q.q 12 J) (Q.q 13 J)
   replace c:=c.fr aK (Q.q 8 J) (Dj.sub (Q.q 11 J) y)
   replace o:=o.fr aK (Q.q 9 J) (Q.q 10 J)
   replace ak:=ak.fr aK (Q.q 1 J) (Q.q 2 J)
   replace al:=al.fr aK (Q.q 3 J) (Q.q 4 J)
   replace b3:=aK _ _ ((Q.q 0 J) _ NS) b3
   replace M:=aK _ _ ((Q.q 5 J) _ NS) M
   refine art 7 [] J ?_
   refine WT.thw (js:=[2]) (R:=[[aO],ob v17,ob bz,D9,ob bB,bC,[f],ob u3,X2,ob v4,ob v5,Z,U,ob v2,Y]) J b3 (fun cr A aq=>?_)
   replace h1:=h1.fr aq (A.q 13 J) (A.q 14 J)
   replace c:=c.fr aq (A.q 9 J) (Dj.sub (A.q 12 J) y)
   replace o:=o.fr aq (A.q 10 J) (A.q 11 J)
   replace ak:=ak.fr aq (A.q 2 J) (A.q 3 J)
   replace al:=al.fr aq (A.q 4 J) (A.q 5 J)
   replace ba:=ba.fr aq (A.q 1 J) (Dj.sub (Dj.app (A.q 7 J) (Dj.sub (A.q 8 J) i2)) i3)
   replace bD:=aq _ _ ((A.q 0 J) _ NS) bD
   replace M:=aq _ _ ((A.q 6 J) _ NS) M
   refine WT.thw (js:=[0]) (R:=[ob v17,ob bz,D9,ob bB,bC,[f],ob u3,X2,ob v4,ob v5,Z,U,ob v2,Y]) J bD (fun ct E aL=>?_)
   replace h1:=h1.fr aL (E.q 12 J) (E.q 13 J)
   replace c:=c.fr aL (E.q 8 J) (Dj.sub (E.q 11 J) y)
   replace o:=o.fr aL (E.q 9 J) (E.q 10 J)
   replace ak:=ak.fr aL (E.q 1 J) (E.q 2 J)
   replace al:=al.fr aL (E.q 3 J) (E.q 4 J)
   replace ba:=ba.fr aL (E.q 0 J) (Dj.sub (Dj.app (E.q 6 J) (Dj.sub (E.q 7 J) i2)) i3)
   replace M:=aL _ _ ((E.q 5 J) _ NS) M
   refine wtL [(X2++(ob u3)),ob v17,ob bz,D9,ob bB,bC,[f],ob v4,ob v5,Z,U,ob v2,Y] (smg [7,6] J (SP.eq (by simp[gf]))) ?_
   exact lb [1,0,4,0,0,0,0,0,0,0,0,0,0] [0,0,0,0,0,0,0,0] (bw (_,_,_,_,_,_,_,_,_,_,_,_,_,_,_) ⟨h,h1,c,o,ak,al,ba,(fun k hk=>((gb.1 (i3 k hk)).elim (fun h=>((fun k hk=>(gb.2 (.inr hk))) k h)) (fun h=>((fun k hk=>(gb.2 (.inl hk))) k (i2 k h))))),M⟩)
  refine atr 4 [] J<|kcb [0] h J J J J (fun b ap z q=>qm N b (⟨T.b,x6.2.i,x6.2.h⟩:ab) (aV.y z) h8 q) ?_
  rintro bk h cu cv cw ⟨S,aS,bb,rfl,rfl,bd,e5,G⟩
  replace h1:=h1.fr aS (S.q 10 J) (S.q 11 J)
  replace c:=c.fr aS (S.q 6 J) (Dj.sub (S.q 9 J) y)
  replace o:=o.fr aS (S.q 7 J) (S.q 8 J)
  replace w:=w.fr aS (S.q 2 J) (S.q 3 J)
  replace x:=x.fr aS (S.q 4 J) (S.q 5 J)
  replace u:=u.fr aS (S.q 0 J) (Dj.sub (S.q 1 J) i2)
  refine lnz lz J fun bT=>soN 0 mC J ⟨J,bd.one,trivial⟩ J ?_
  refine arr 5 [34,2] J<|qc h (wU N · (⟨s3,s7⟩:ac) bk.1 u.rsl bd.rsl ·) J J J fun cx h=>la J<|en ?_
  refine ch h J ?_ ?_ <;> intro h
  ·refine atr 3 [2] J ?_
   refine WL.frz (js:=[1]) (R:=[(bT,.cells #[.string bk.1.Kind,bb] 52 (0,0)),(bh,.cells #[u1,u2] 35 (0,0)),(aG,.cells #[v4,v5] 47 (0,0)),(aF,.cells #[.string I.1.Name,v2] 26 (0,0)),(aC,.cells #[.slice none 0 0,iV 0] 29 (0,0)),(aB,.cells #[.slice none 0 0,.slice none 0 0] 35 (0,0)),(aA,.cells #[.slice none 0 0,.slice none 0 0] 47 (0,0)),(ay,.cells #[.string (⟨#[]⟩:ByteArray),.slice none 0 0] 26 (0,0))]) J (fun cy ar k8=>?_)
   replace h1:=h1.f0 ar
   replace bd:=bd.f0 ar
   replace c:=c.f0 ar
   replace o:=o.f0 ar
   replace w:=w.f0 ar
   replace x:=x.f0 ar
   replace u:=u.f0 ar
   replace G:=ar _ _ NS G
   refine kcb [0,2] h J J J J (fun b ap z q=>rZ N b (⟨s3,s7⟩:ac) bk.1 u k8 (bd.rsl.x (Dj.app (ap.q 0 J) dN)) (Dj.sub (ap.q 2 J) i2) q) ?_
   rintro bU h v20 cz cA ⟨V,aT,v21,cB,X3,rfl,rfl,af,i4,au⟩
   replace h1:=h1.fr aT (V.q 11 J) (V.q 12 J)
   replace c:=c.fr aT (V.q 7 J) (Dj.sub (V.q 10 J) y)
   replace o:=o.fr aT (V.q 8 J) (V.q 9 J)
   replace w:=w.fr aT (V.q 3 J) (V.q 4 J)
   replace x:=x.fr aT (V.q 5 J) (V.q 6 J)
   replace G:=aT _ _ ((V.q 1 J) _ NS) G
   refine arr 5 [98,66] J<|lgx 0 2 (bP au) J<|la J ?_
   refine WL.frz (js:=[1]) (R:=[(bT,.cells #[.string bk.1.Kind,bb] 52 (0,0)),(aG,.cells #[v4,v5] 47 (0,0)),(aF,.cells #[.string I.1.Name,v2] 26 (0,0)),(aC,.cells #[.slice none 0 0,iV 0] 29 (0,0)),(aB,.cells #[.slice none 0 0,.slice none 0 0] 35 (0,0)),(aA,.cells #[.slice none 0 0,.slice none 0 0] 47 (0,0)),(ay,.cells #[.string (⟨#[]⟩:ByteArray),.slice none 0 0] 26 (0,0))]) J (fun cD av k9=>?_)
   replace h1:=h1.f0 av
   replace af:=af.f0 av
   replace c:=c.f0 av
   replace o:=o.f0 av
   replace w:=w.f0 av
   replace x:=x.f0 av
   replace au:=av _ _ NS au
   replace G:=av _ _ NS G
   refine kcb [0,6,6,6,6] h J J J J (fun b ap z q=>zd N b I.1 x2 (⟨s1,s2⟩:aN) bU.2 bU.1 ((h1.rslG dT.gives).x (Dj.app (ap.q 10 J) (ap.q 11 J))) (c.rsl.x (Dj.app (ap.q 6 J) (Dj.sub (ap.q 9 J) y))) ((o.rslG bJ.gives).x (Dj.app (ap.q 7 J) (ap.q 8 J))) w x k9 (af.rsl.x (Dj.app (ap.q 1 J) (Dj.sub (Dj.app (ap.q 2 J) (Dj.sub (ap.q 5 J) i2)) i4))) q) ?_
   rintro cE h v22 cF cG ⟨W,aU,v23,bE,v24,bG,rfl,rfl,be,bf,bY⟩
   replace h1:=h1.fr aU (W.q 10 J) (W.q 11 J)
   replace af:=af.fr aU (W.q 1 J) (Dj.sub (Dj.app (W.q 2 J) (Dj.sub (W.q 5 J) i2)) i4)
   replace c:=c.fr aU (W.q 6 J) (Dj.sub (W.q 9 J) y)
   replace o:=o.fr aU (W.q 7 J) (W.q 8 J)
   replace au:=aU _ _ ((W.q 0 J) _ NS) au
   replace G:=aU _ _ ((W.q 4 J) _ NS) G
   refine art 7 [] J ?_
   refine WT.thw (js:=[0]) (R:=[ob v23,bE,ob v24,bG,[aO],ob v21,X3,ob bb,[f],X2,ob v4,ob v5,Z,U,ob v2,Y]) J bY (fun cH B aw=>?_)
   replace h1:=h1.fr aw (B.q 14 J) (B.q 15 J)
   replace af:=af.fr aw (B.q 5 J) (Dj.sub (Dj.app (B.q 6 J) (Dj.sub (B.q 9 J) i2)) i4)
   replace be:=be.fr aw (B.q 0 J) (B.q 1 J)
   replace bf:=bf.fr aw (B.q 2 J) (B.q 3 J)
   replace c:=c.fr aw (B.q 10 J) (Dj.sub (B.q 13 J) y)
   replace o:=o.fr aw (B.q 11 J) (B.q 12 J)
   replace au:=aw _ _ ((B.q 4 J) _ NS) au
   replace G:=aw _ _ ((B.q 8 J) _ NS) G
   refine WT.thw (js:=[4]) (R:=[ob v23,bE,ob v24,bG,ob v21,X3,ob bb,[f],X2,ob v4,ob v5,Z,U,ob v2,Y]) J au (fun cI H aM=>?_)
   replace h1:=h1.fr aM (H.q 13 J) (H.q 14 J)
   replace af:=af.fr aM (H.q 4 J) (Dj.sub (Dj.app (H.q 5 J) (Dj.sub (H.q 8 J) i2)) i4)
   replace be:=be.fr aM (H.q 0 J) (H.q 1 J)
   replace bf:=bf.fr aM (H.q 2 J) (H.q 3 J)
   replace c:=c.fr aM (H.q 9 J) (Dj.sub (H.q 12 J) y)
   replace o:=o.fr aM (H.q 10 J) (H.q 11 J)
   replace G:=aM _ _ ((H.q 7 J) _ NS) G
   refine wtL [(X2++(X3)),ob v23,bE,ob v24,bG,ob v21,ob bb,[f],ob v4,ob v5,Z,U,ob v2,Y] (smg [8,5] J (SP.eq (by simp[gf]))) ?_
   exact lb [5,0,5,0,0,0,0,1,1,1,1,1,1] [0,0,1,1,1,1,1,1] (bw (_,_,_,_,_,_,_,_,_,_,_,_,_,_,_) ⟨h,h1,c,o,be,bf,af,(fun k hk=>((gb.1 (i4 k hk)).elim (fun h=>((fun k hk=>(gb.2 (.inr hk))) k h)) (fun h=>((fun k hk=>(gb.2 (.inl hk))) k (i2 k h))))),G⟩)
  refine att 7 [] J ?_
  exact lb [2,2,1,1,1,1,1,1,1,1,1,1,1] [1,1,1,1,1,1,1,1] (bw (_,_,_,_,_,_,_,_,_,_,_,_,_,_,_) ⟨h,h1,c,o,w,x,u,(fun k hk=>(i2 k hk)),G⟩)
 refine xt J<|sq<|wm [0,1,2,3,4] [7] J<|amm 4 [0,98,1,66,2,34,3,2] [0,1,2,3,4] J J ?_
 refine on1 4 (msK 7 [0,1,2,3,4] J Ak J ⟨J,h1.one,trivial⟩ J J ?_)
 refine on1 5 (msK 6 [0,1,2,3,4] J uO J ⟨c.one,o.one,trivial⟩ J J ?_)
 refine on1 6 (msK 5 [0,1,2,3,4] J pZ J ⟨w.one,x.one,trivial⟩ J J ?_)
 refine on1 7 (msN 4 J nk qb J ⟨u.one,J,trivial⟩ J J ?_)
 refine WM.nil NQ ?_
 refine WT.ret hF (az.four (aX Eg J (fun w1 hw=>hw.rgO (i:=7) J 0 2 [.string I.1.Name,v2] J) J) (aX Ee J (fun w1 hw=>hw.rgO (i:=6) J 0 2 [v4,v5] J) J) (aX wK J (fun w1 hw=>hw.rgO (i:=5) J 0 2 [u1,u2] J) J) (aX mD J (fun w1 hw=>hw.rgO (i:=4) J 0 2 [u3,iV s7] J) J)) (fun w1 hw=>?_)
 cases h
 replace hw:=hw.merge (js:=[10,1]) (F:=[U,X2].flatten) J (SP.eq NS)
 refine aH (js:=[10,10,7,7,7,3,3,3,3,1,1,0]) hw J ⟨v2,Y,v4,D2,v5,Z,u1,D6,u2,D7,u3,D8,[U,X2].flatten,J,J,h1,c,(fun k hk=>(l4.2 ⟨U,NS,(y k hk)⟩)),o,w,x,u,(fun k hk=>(l4.2 ⟨X2,NS,(i2 k hk)⟩)),J,k5⟩
theorem xO (w0:aD l g []) (s:(List Int)) (C:RSl (RI .u8) 1 l b9 b8 s) {r:bv × ce × aN × ac} (h:o9 N s=some r) :
  Calls prog 17 [b8].toArray w0.w (bc g w0.w [] (fun c Fs v=>∃ (u:Value) (D:List Nat) (w:Value) (E:List Nat) (x:Value) (G:List Nat) (y:Value) (H:List Nat) (A:Value) (I:List Nat) (B:Value) (K:List Nat) (X:List Nat),v = .tuple #[.agg [.string r.1.Name,u].toArray,.agg [w,x].toArray,.agg [y,A].toArray,.agg [B,iV r.2.2.2.Next].toArray]∧Fs=[ob u,D,ob w,ob x,G,ob y,H,ob A,I,ob B,X]∧OSl dT 87 5 c D u r.1.Rules∧OSl cK 137 4 c E w r.2.1.Alphas∧(∀ k∈E,k∈X)∧OSl bJ 141 2 c G x r.2.1.Chains∧OSl bA 133 1 c H y r.2.2.1.Alphas∧OSl br 100 1 c I A r.2.2.1.Rules∧OSl aY 66 3 c K B r.2.2.2.Items∧(∀ k∈K,k∈X))):=by
 refine eN func17 J ntmps17 J w0 fun V=>?_
 unfold o9 at h
 refine sr<|lnz yW J fun a7=>lnz sI J fun a8=>lnz o8 J fun aa=>lnz o3 J fun ab=>arr 4 [] J<|kab h J J J (fun b z q=>vf N b s (C.y z) q) ?_
 rintro W h v1 ae F1 ⟨af,ag,ah,v2,G1,rfl,rfl,h1,Y,Z⟩
 refine arr 5 [] J<|kcb [0] h J J J J (fun b ap z q=>yT N b W (h1.x (Dj.sub (ap.o C.old) Y)) Z q) ?_
 rintro L h v3 ak F2 ⟨al,an,v4,D1,v5,D2,v6,D3,M,D4,O,D5,v9,D6,m,rfl,rfl,P,Q,i2,R,S,T,U,i3,e1,h9⟩
 refine arr 4 [] J<|soN 3 Ak J ⟨J,P.one,trivial⟩ J ?_
 refine soN 2 uO J ⟨Q.one,R.one,trivial⟩ J ?_
 refine soN 1 pZ J ⟨S.one,T.one,trivial⟩ J ?_
 refine soN 0 qb J ⟨U.one,J,trivial⟩ J ?_
 refine en ?_
 refine WT.ret V (az.four (aX Eg J (fun o hw=>hw.rgO (i:=3) J 0 2 [.string L.1.Name,v4] J) J) (aX Ee J (fun o hw=>hw.rgO (i:=2) J 0 2 [v5,v6] J) J) (aX wK J (fun o hw=>hw.rgO (i:=1) J 0 2 [M,O] J) J) (aX mD J (fun o hw=>hw.rgO (i:=0) J 0 2 [v9,iV L.2.2.2.1.Next] J) J)) (fun o hw=>?_)
 cases h
 replace hw:=hw.merge (js:=[11]) (F:=[m].flatten) J (SP.eq NS)
 refine aH (js:=[1,1,1,1,1,1,1,1,1,1,0]) hw J ⟨v4,D1,v5,D2,v6,D3,M,D4,O,D5,v9,D6,[m].flatten,J,J,P,Q,(fun k hk=>(l4.2 ⟨m,NS,(i2 k hk)⟩)),R,S,T,U,(fun k hk=>(l4.2 ⟨m,NS,(i3 k hk)⟩))⟩
theorem za (w0:aD l g [[f]].flatten) (u:ab) (H:RSl (RI .u8) 1 l aj e u.b) (ax:g f=some (.cells #[e,iV u.i,iV u.h] 144 (0,0))) {r:ac × ab} (h:p8 N u=some r) :
  Calls prog 36 [pQ f].toArray w0.w (bc g w0.w [[f]].flatten (fun a7 Fs v=>∃ (P:Value) (af:List Nat) (X:List Nat),v = .agg [P,iV r.1.Next].toArray∧Fs=[ob P,[f],X]∧OSl aY 66 3 a7 af P r.1.Items∧(∀ k∈af,k∈X)∧r.2.b=u.b∧a7 f=some (.cells #[e,iV r.2.i,iV r.2.h] 144 (0,0)))):=by
 refine eL func36 J ntmps36 J (L:=[[f]]) w0 (fun hF=>?_)
 unfold p8 at h
 refine sr<|lnz o3 J fun B=>en<|sr<|lq (bu (vs:=[(1,iV 1)]) (C:=#[.slice none 0 0,iV 1]) EZ o3 J (aa (C':=[.slice none 0 0,iV 1]) J J J J J (ae))) J<|lnz o3 J fun Q=>soN 0 qb J ⟨J,J,trivial⟩ J ?_
 refine arr 5 [] J<|kcb [0] h J J J J (fun b ap z q=>cC N b u 9 (H.y z) ax q) ?_
 rintro S h v1 ah F1 ⟨aN,aO,rfl,rfl,e1,h1⟩
 refine art 3 [] J<|wt0<|wtS ?_
 have k1:=OSl.nil aY 66 3 ah
 refine lin (σ:=Hp × List Nat × (List ag) × Value × List Nat × Int × Int × Int × Int) (fun s=>[(0,pQ f),(2,pQ B),(3,pQ Q),(4,iV s.2.2.2.2.2.1)]) (fun s=>St w0 s.1 [(Q,.cells #[s.2.2.2.1,iV s.2.2.2.2.2.2.2.2] 29 (0,0)),(B,.cells #[.slice none 0 0,iV 0] 29 (0,0))] [ob s.2.2.2.1,s.2.1,[f]]) (fun m s=>gJ N u m s.2.2.1 s.2.2.2.2.2.1 s.2.2.2.2.2.2.1 s.2.2.2.2.2.2.2.1 s.2.2.2.2.2.2.2.2=some r∧(OSl aY 66 3 s.1 s.2.2.2.2.1 s.2.2.2.1 s.2.2.1)∧(∀ k∈s.2.2.2.2.1,k∈s.2.1)∧(s.1 f=some (.cells #[e,iV s.2.2.2.2.2.2.1,iV s.2.2.2.2.2.2.2.1] 144 (0,0)))) (ah,[],([]:List ag),(.slice none 0 0),[],S.1,S.2.i,S.2.h,1) N ⟨h,k1,NS,h1⟩ (sx [0,0,0] [0,0]) (fun n1 ak s hm=>?_)
 obtain⟨aP,w,s1,A,D1,s2,s3,s4,T⟩:=s
 obtain⟨h,c,o,U⟩:=hm
 dsimp only at h c o U ⊢
 unfold gJ at h
 refine att 6 [] J ?_
 refine ch h J ?_ ?_ <;> intro h
 ·refine atr 7 [] J<|kcb [2] h J J J J (fun b ap z q=>fu N b (⟨u.b,s3,s4⟩:ab) 5 (H.y z) U q) ?_
  rintro I h v2 aQ F2 ⟨al,ay,rfl,rfl,e2,h2⟩
  replace c:=c.fr ay (al.q 0 J) (Dj.sub (al.q 1 J) o)
  refine la J ?_
  obtain⟨b3,E,h⟩:=bs h
  refine WL.cutN 5 [(19,.bool b3),(0,pQ f),(2,pQ B),(3,pQ Q),(4,iV s2)] ?_ (fun K=>?_)
  rotate_left
  ·refine sp 14 E J (fun E=>?_) fun E=>?_
   ·refine arr 2 [0,0] J<|ly J J<|lno c J<|arr 2 [] J ?_
    cases E
    exact ku K
   ·refine arr 5 [] J ?_
    cases E
    exact ku K
  refine en ?_
  refine ch h J ?_ ?_ <;> intro h
  ·refine sq<|wm [0,1] [10] J<|amm 5 [0,0,1,0,2,3,0,4,0] [0,1] J J<|mqT 5 [6,7,8,9,10] J NQ (kN [0,1]) (mK mN J J c.rsl) J ?_
   obtain⟨x3,aA,h⟩:=bs h
   refine WM.one 6 NQ (mc J (fun _ v aR D G hq hw=>Kn.of Kf.nil (ai2 0 1 J J) hw) (bH (js:=[0]) (R:=[ob A,w]) GB J J (fun G hw ap V=>cC N (bx hw ap V) (⟨u.b,I.2.i,I.2.h⟩:ab) (s1.length:Int) (H.y (hw.uo ap)) h2  aA)) J ?_)
   rintro v3 aS F3 ⟨ao,aB,rfl,rfl,e3,x⟩
   replace c:=c.fr aB (ao.q 0 J) (Dj.sub (ao.q 1 J) o)
   obtain⟨x4,aq,h⟩:=bs h
   obtain⟨aT,F4,-,g1,aU,aV,r1⟩:=c.elS (a8 aq).2.2
   obtain⟨v4,G1,rfl,aC,h4⟩:=r1
   obtain rfl:=aC.symm
   refine mqT 7 [8,9,10] J NQ (kN [0,1]) (an mN J J c.rsl aq) J<|amm 1 [8,0] [0,1] J J ?_
   refine on1 9 (mv J (kS [0,1]) (aZ sD J (fun G hw=>(g1.of_eq 0 1 J J:rg _ _ _ [iV x4.Id]).rangeAt hw.fro)) J ?_)
   refine WM.frz (js:=[0]) (R:=[(B,.cells #[.slice none 0 0,iV 0] 29 (0,0))]) J (fun aW ar k4=>?_)
   replace c:=c.f0 ar
   replace x:=ar _ _ NS x
   obtain⟨x5,aF,h⟩:=bs h
   refine WM.one 10 NQ (mc J (fun hc=>by cases hc) (bH (js:=[0]) (R:=[[f],ob A,w]) Li J J (fun G hw ap V=>tU N (bx hw ap V) (⟨s1,T⟩:ac) x4.Id (c.rsl.x (Dj.app (ap.q 1 J) (Dj.sub (ap.q 2 J) o))) k4  aF)) J ?_)
   rintro v5 b1 F5 ⟨aG,aI,v6,D2,rfl,rfl,W,i2,h6⟩
   replace x:=aI _ _ ((aG.q 0 J) _ NS) x
   refine WM.nil NQ<|att 6 [] J ?_
   refine WT.thw (js:=[0]) (R:=[ob v6,[f],ob A,w]) J h6 (fun b2 M au=>?_)
   replace W:=W.fr au (M.q 0 J) (Dj.sub (Dj.app (M.q 2 J) (Dj.sub (M.q 3 J) o)) i2)
   replace x:=au _ _ ((M.q 1 J) _ NS) x
   refine wtL [(w++(ob A)),ob v6,[f]] (smg [3,2] J (SP.eq (by simp[gf]))) ?_
   exact lb [1,0,0] [0,0] (ak (_,_,_,_,_,_,_,_,_) ⟨h,W,(fun k hk=>((gb.1 (i2 k hk)).elim (fun h=>((fun k hk=>(gb.2 (.inr hk))) k h)) (fun h=>((fun k hk=>(gb.2 (.inl hk))) k (o k h))))),x⟩)
  refine atr 3 [] J<|kcb [0] h J J J J (fun b ap z q=>qm N b (⟨u.b,I.2.i,I.2.h⟩:ab) (H.y z) h2 q) ?_
  rintro x6 h v7 b4 F6 ⟨av,aJ,v8,rfl,rfl,Y,e4,y⟩
  replace c:=c.fr aJ (av.q 0 J) (Dj.sub (av.q 1 J) o)
  refine WL.frz (js:=[0]) (R:=[(B,.cells #[.slice none 0 0,iV 0] 29 (0,0))]) J (fun ba Z k5=>?_)
  replace c:=c.f0 Z
  replace Y:=Y.f0 Z
  replace y:=Z _ _ NS y
  refine kcb [0,2] h J J J J (fun b ap z q=>rZ N b (⟨s1,T⟩:ac) x6.1 c k5 (Y.rsl.x (Dj.app (ap.q 0 J) dN)) (Dj.sub (ap.q 2 J) o) q) ?_
  rintro x7 h v9 bb F7 ⟨aK,aL,v10,D3,X2,rfl,rfl,h9,i3,aM⟩
  replace y:=aL _ _ ((aK.q 1 J) _ NS) y
  refine art 7 [] J ?_
  refine WT.thw (js:=[0]) (R:=[ob v10,X2,ob v8,[f],w]) J aM (fun bd O aw=>?_)
  replace h9:=h9.fr aw (O.q 0 J) (Dj.sub (Dj.app (O.q 1 J) (Dj.sub (O.q 4 J) o)) i3)
  replace y:=aw _ _ ((O.q 3 J) _ NS) y
  refine wtL [(w++(X2)),ob v10,ob v8,[f]] (smg [4,1] J (SP.eq (by simp[gf]))) ?_
  exact lb [1,0,1] [0,0] (ak (_,_,_,_,_,_,_,_,_) ⟨h,h9,(fun k hk=>((gb.1 (i3 k hk)).elim (fun h=>((fun k hk=>(gb.2 (.inr hk))) k h)) (fun h=>((fun k hk=>(gb.2 (.inl hk))) k (o k h))))),y⟩)
 refine atr 4 [2] J<|soN 1 qb J ⟨c.one,J,trivial⟩ J ?_
 refine en ?_
 refine WT.ret hF (az.one (aX mD J (fun G hw=>hw.rgO (i:=1) J 0 2 [A,iV T] J) J)) (fun G hw=>?_)
 cases h
 replace hw:=hw.merge (js:=[1]) (F:=[w].flatten) J (SP.eq NS)
 refine aH (js:=[1,1,0]) hw J ⟨A,D1,[w].flatten,J,J,c,(fun k hk=>(l4.2 ⟨w,NS,(o k hk)⟩)),J,U⟩
theorem wg (w0:aD l g []) (o:(List Int)) (c:RSl (RI .u8) 1 l b9 b8 o) {r:ac × aI} (h:lh N o=some r) :
  Calls prog 18 [b8].toArray w0.w (bc g w0.w [] (fun A Fs v=>∃ (s:Value) (B:List Nat) (u:Value) (X:List Nat),v = .tuple #[.agg [s,iV r.1.Next].toArray,.agg [.string r.2.Kind,u].toArray]∧Fs=[ob s,ob u,X]∧OSl aY 66 3 A B s r.1.Items∧(∀ k∈B,k∈X)∧OSl aU 95 3 A [] u r.2.Fields)):=by
 refine eN func18 J ntmps18 J w0 fun H=>?_
 unfold lh at h
 refine sr<|lnz o3 J fun R=>lnz lz J fun S=>arr 4 [] J<|kab h J J J (fun b z q=>vf N b o (c.y z) q) ?_
 rintro C h v1 T U ⟨V,W,Y,v2,Z,rfl,rfl,h1,w,I⟩
 refine arr 5 [] J<|kcb [0] h J J J J (fun b ap z q=>za N b C (h1.x (Dj.sub (ap.o c.old) w)) I q) ?_
 rintro x h v3 a7 F2 ⟨K,L,v4,M,y,rfl,rfl,m,i2,e1,O⟩
 replace h1:=h1.fr L (Dj.sub (K.o c.old) w)
 refine la J<|kcb [1] h J J J J (fun b ap z q=>qm N b (⟨C.b,x.2.i,x.2.h⟩:ab) (h1.x (Dj.sub (ap.o c.old) w)) O q) ?_
 rintro P h v5 a8 F3 ⟨D,Q,v6,rfl,rfl,E,e2,h6⟩
 replace m:=m.fr Q (D.q 0 J) (Dj.sub (D.q 1 J) i2)
 refine soN 1 qb J ⟨m.one,J,trivial⟩ J ?_
 refine soN 0 mC J ⟨J,E.one,trivial⟩ J ?_
 refine en ?_
 refine WT.ret H (az.two (aX mD J (fun G hw=>hw.rgO (i:=1) J 0 2 [v4,iV x.1.Next] J) J) (aX mf J (fun G hw=>hw.rgO (i:=0) J 0 2 [.string P.1.Kind,v6] J) J)) (fun G hw=>?_)
 cases h
 replace hw:=hw.merge (js:=[3]) (F:=[y].flatten) J (SP.eq NS)
 refine aH (js:=[3,1,0]) hw J ⟨v4,M,v6,[y].flatten,J,J,m,(fun k hk=>(l4.2 ⟨y,NS,(i2 k hk)⟩)),E⟩
theorem wC (w0:aD l g []) (k:ac) (A:RSl aY 3 l aj e k.Items) {r:ac} (h:lm N k=some r) :
  Calls prog 62 [.agg [e,iV k.Next].toArray].toArray w0.w (bc g w0.w [] (fun Q Fs v=>∃ (B:Value) (F:List Nat),v = .agg [B,iV r.Next].toArray∧Fs=[ob B,F]∧OSl cR 66 3 Q F B r.Items)):=by
 refine eN func62 J ntmps62 J w0 fun S=>?_
 unfold lm at h
 refine sr<|lbx J fun ah=>lnz o3 J fun y=>arr 5 [1,32] J<|lq (bu (vs:=[(1,iV k.Next)]) (C:=#[.slice none 0 0,iV k.Next]) EZ o3 J (aa (C':=[.slice none 0 0,iV k.Next]) J J J J J (ae))) J<|lnz o3 J fun z=>soN 0 qb J ⟨J,J,trivial⟩ J ?_
 refine arr 6 [0,64] J<|lnr A J<|art 3 [] J<|wtS<|wt0 ?_
 have T:=OSl.nil cR 66 3 g
 refine lin (σ:=Hp × (List ag) × Value × List Nat × Int) (fun s=>[(2,pQ y),(3,pQ z),(10,e),(11,iV (k.Items.length:Int)),(12,iV s.2.2.2.2)]) (fun s=>St w0 s.1 [(z,.cells #[s.2.2.1,iV k.Next] 29 (0,0)),(y,.cells #[.slice none 0 0,iV 0] 29 (0,0))] [s.2.2.2.1,ob s.2.2.1]) (fun m s=>fg N k m s.2.1 s.2.2.2.2=some r∧(OSl cR 66 3 s.1 s.2.2.2.1 s.2.2.1 s.2.1)) (g,([]:List ag),(.slice none 0 0),[],0) N ⟨h,T⟩ (sx [0,0] [0,0]) (fun n1 U s hm=>?_)
 obtain⟨ak,s1,w,x,s2⟩:=s
 obtain⟨h,q⟩:=hm
 dsimp only at h q ⊢
 unfold fg at h
 refine att 5 [] J ?_
 refine ch h J ?_ ?_ <;> intro h
 ·refine atr 5 [] J ?_
  obtain⟨b,G,h⟩:=bs h
  obtain⟨al,F1,-,g1,an,ao,V⟩:=A.el (a8 G).2.2
  obtain⟨v1,G1,rfl,W,h1⟩:=V
  obtain rfl:=W.symm
  refine lia A G J<|lhx 0 3 g1 J<|lnz ox J fun H=>soN 0 wT J ⟨J,J,h1.one,trivial⟩ J ?_
  refine en<|wm [0,1,2] [11] J<|amm 6 [0,0,1,32,2,0,3,0,4,1,5,2] [0,1,2] J J ?_
  obtain⟨o,X,h⟩:=bs h
  refine WM.one 6 NQ (mc J (fun _ v I D u K hw=>Kn.of Kf.nil (ai3 0 1 2 J J J) hw) (bH (js:=[]) (R:=[x,ob w]) E2 J J (fun u hw ap hl=>ot N (ba hw.fro) b.F (h1.y hw.up)  X)) J ?_)
  rintro v2 Y F2 ⟨L,Z,v3,rfl,rfl,h2⟩
  replace q:=q.fr Z (L.q 1 J) (L.q 0 J)
  refine mq 7 J NQ (kN [0,1,2]) (bu (vs:=[(0,iV b.Id),(1,.agg [.string o.Kind,v3].toArray)]) (C:=#[iV b.Id,.string o.Kind,v3]) Hb ox J (aa (C':=[iV b.Id,.string ⟨#[]⟩,.slice none 0 0]) J J J J J (aa (C':=[iV b.Id,.string o.Kind,v3]) J J J J J (ae)))) J ?_
  have M:RC cR 3 Y ([(ob v3++[])]:List (List Nat)) [iV b.Id,.string o.Kind,v3] ([(⟨b.Id,o⟩:ag)]:List ag):=RC.cons (c:=[iV b.Id,.string o.Kind,v3]) (cells:=[]) ⟨v3,J,J,h2⟩ J (RC.nil _ _ _)
  refine WM.one 8 NQ (me J (fun _ v I D u K hw=>Kn.of Kf.nil (ai3 0 1 2 J J J) hw) (bz (vs:=[(0,.agg [iV b.Id,.string o.Kind,v3].toArray)]) (C:=#[iV b.Id,.string o.Kind,v3]) cR.lasts mN ox J J J J (ar xq (aa (C':=[iV b.Id,.string o.Kind,v3]) J J J J J (ae))) J M J (RC.kn cR.knows M)) J ?_)
  rintro v4 O D2 ⟨a7,E⟩
  replace E:OSl cR 66 3 O ((ob v3++[])) v4 ([(⟨b.Id,o⟩:ag)]:List ag):=by simpa[gf] using E
  replace q:=q.f0 a7
  refine WM.conv (S':=St w0 O [(H,.cells #[iV b.Id,.string b.F.Kind,v1] 66 (0,0)),(z,.cells #[w,iV k.Next] 29 (0,0)),(y,.cells #[.slice none 0 0,iV 0] 29 (0,0))] [((ob v3++[])),ob v4,x,ob w]) (fun u hw=>hw.merge (js:=[1]) J (SP.eq (by simp[gf,cO]))) ?_
  obtain⟨x3,ab,h⟩:=bs h
  refine WM.one 9 NQ (me J (fun _ v I D u K hw=>Kn.of Kf.nil (ai3 0 1 2 J J J) hw) (dS cR.lasts cR.one mN EI J J J J J (js:=[3]) (Rr:=[((ob v3++[])),ob v4,x]) J q E (fun ap=>ap.q 2 J) (fun ap=>ap.q 0 J) ab) J ?_)
  rintro v5 af D3 ⟨⟨aq,au⟩,P⟩
  refine WM.conv (S':=St w0 af [(H,.cells #[iV b.Id,.string b.F.Kind,v1] 66 (0,0)),(z,.cells #[w,iV k.Next] 29 (0,0)),(y,.cells #[.slice none 0 0,iV 0] 29 (0,0))] [(x++((ob v3++[]))),ob v5,ob v4]) (fun u hw=>hw.merge (js:=[3,1]) J (SP.eq NS))<|amm 1 [10,0] [0,1,2] J J ?_
  refine on1 11 (ms1 1 J nk DT J P.one ?_)
  refine WM.nil NQ<|att 5 [] J ?_
  exact lb [0,0] [1,1] (U (_,_,_,_,_) ⟨h,P⟩)
 refine atr 4 [2] J<|soN 1 qb J ⟨q.one,J,trivial⟩ J ?_
 refine en ?_
 exact rtg [1,0] S (az.one (aX mD J (fun u hw=>hw.rgO (i:=1) J 0 2 [w,iV k.Next] J) J)) J (by cases h;exact fun u hw=>⟨w,x,rfl,rfl,q⟩)
theorem wH (w0:aD l g []) (c:ac) (b:aI) (k:RSl aY 3 l aj e c.Items) (u:RSl aU 3 l b5 j b.Fields) {r:Int} (h:qI N c b=some r) :
  CB w0 prog 20 [.agg [e,iV c.Next].toArray,.agg [.string b.Kind,j].toArray] (iV r):=by
 refine eN func20 J ntmps20 J w0 fun o=>?_
 unfold qI at h
 refine sr<|lbx J fun A=>lbx J fun i=>arr 7 [0,32] J<|lnr k J<|art 3 [] J ?_
 refine lin (σ:=Int) (fun s=>[(3,pQ i),(8,e),(9,iV (c.Items.length:Int)),(10,iV s)]) (fun s=>St w0 g [(i,.cells #[.string b.Kind,j] 52 (0,0))] []) (fun m s=>jc N c b m s=some r) (0) N h (sx [] [0]) (fun v w s hm=>?_)
 revert hm;revert s;intro s1 hm
 have h:jc N c b (v+1) s1=some r:=hm
 show WT _ _ [(3,pQ i),(8,e),(9,iV (c.Items.length:Int)),(10,iV s1)] (St w0 g [(i,.cells #[.string b.Kind,j] 52 (0,0))] [])
 unfold jc at h
 refine att 5 [] J ?_
 refine ch h J ?_ ?_ <;> intro h
 ·refine atr 5 [] J ?_
  obtain⟨x,q,h⟩:=bs h
  obtain⟨B,C,-,g1,D,E,y⟩:=k.el (a8 q).2.2
  obtain⟨v1,F,rfl,z,h1⟩:=y
  obtain rfl:=z.symm
  refine lia k q J<|lhx 0 3 g1 J<|lnz ox J fun G=>soN 0 wT J ⟨J,J,h1.one,trivial⟩ J ?_
  refine arr 6 [1,2,34] J<|qd h (rV N · x.F b h1 u ·) J J J fun H h=>en ?_
  refine ch h J ?_ ?_ <;> intro h
  ·refine att 6 [0,0] J ?_
   exact rt o h
  refine att 6 [] J ?_
  exact lb [] [1] (w _ h)
 refine att 5 [] J ?_
 exact rt o h
theorem tE (w0:aD l g [[f],ob e].flatten) (b:ac) (q:aI) (s:OSl aY 66 3 g aE e b.Items) (m:g f=some (.cells #[e,iV b.Next] 29 (0,0))) (Q:RSl aU 3 l b5 j q.Fields) (ab:Dj aE [[f],ob e].flatten) {r:Int × Bool × ac} (h:kH N b q=some r) :
  Calls prog 64 [pQ f,.agg [.string q.Kind,j].toArray].toArray w0.w (bc g w0.w [[f],ob e].flatten (fun S Fs v=>∃ (B:Value) (T:List Nat) (X:List Nat),v = .tuple #[iV r.1,.bool r.2.1]∧Fs=[[f],ob B,X]∧OSl aY 66 3 S T B r.2.2.Items∧(∀ k∈T,k∈(X++aE))∧S f=some (.cells #[B,iV r.2.2.Next] 29 (0,0)))):=by
 refine eL func64 J ntmps64 J (L:=[[f],ob e]) w0 (fun E=>?_)
 have G:=Old.mk w0 s.kn ab
 unfold kH at h
 refine sr<|lbx J fun z=>art 5 [] J<|WT.draw mixed NQ (fun _ h=>h.drew)<|qq (iZ J) J<|qq (aC J) J<|qq (aw mD J (fun o hw=>((bP m).of_eq 0 2 J J:rg _ _ _ [e,iV b.Next]).rangeAt hw.fro) J) J<|qq (aw mf J (fun o hw=>hw.rgO (i:=0) J 0 2 [.string q.Kind,j] J) J) J ?_
 obtain⟨x1,af,h⟩:=bs h
 refine qp (jk KH J (fun o hw=>wH N (ba hw.fro) b q s.rsl (Q.y hw.up) af)) J<|aqt 7 [] J ?_
 refine ch h J ?_ ?_ <;> intro h
 ·refine att 6 [] J ?_
  refine WT.ret E (az.two J J) (fun o hw=>?_)
  cases h
  replace hw:=hw.addNil
  refine aH (js:=[1,1,0]) hw J ⟨e,aE,[],J,J,s,(fun k hk=>(gb.2 (.inr hk))),m⟩
 refine atr 5 [] J<|lq (aC J) J<|lf kg J J J<|lgx 0 0 (bP m) J<|lno s J<|arr 2 [] J ?_
 obtain⟨b1,y,h⟩:=bs h
 refine WL.cutN 6 [(27,.bool b1),(0,pQ f),(3,pQ z)] ?_ (fun K=>?_)
 rotate_left
 ·refine sp 21 y J (fun y=>?_) fun y=>?_
  ·refine arr 6 [] J ?_
   cases y
   exact ku K
  ·refine ly J J<|la J<|ly J J<|lq (aC J) J<|ly J J<|lf qU J J J<|ly J J<|lgx 1 0 (bP m) J<|arr 2 [] J ?_
   cases y
   exact ku K
 refine en ?_
 refine ch h J ?_ ?_ <;> intro h
 ·refine att 5 [] J ?_
  refine WT.ret E (az.two J J) (fun o hw=>?_)
  cases h
  replace hw:=hw.addNil
  refine aH (js:=[1,1,0]) hw J ⟨e,aE,[],J,J,s,(fun k hk=>(gb.2 (.inr hk))),m⟩
 refine att 2 [] J<|WT.mix (Kn w0 g [f] [(z,.cells #[.string q.Kind,j] 52 (0,0))]) (fun i=>match i with | 16=>false | _=>true) mixed (fun _ h=>h.drew)<|ma 0 J NQ (kn Kf.id (am [0] J)) J<|ma 1 J NQ (kn Kf.id (am [0] J)) J<|mq 2 J NQ (kn Kf.id (am [0] J)) (aC J) J<|mq 3 J NQ (kn Kf.id (am [0] J)) (ax kg J) J<|mq 4 J NQ (kn Kf.id (am [0] J)) (aZ JR J (fun o hw=>hw.rg NS ((bP m).of_eq 0 1 J J:rg _ _ _ [e]))) J ?_
 refine ma 5 J NQ (kn Kf.id (am [0] J)) J<|mq 6 J NQ (kn Kf.id (am [0] J)) (aC J) J<|mq 7 J NQ (kn Kf.id (am [0] J)) (ax qU J) J<|mq 8 J NQ (kn Kf.id (am [0] J)) (aZ sD J (fun o hw=>hw.rg NS ((bP m).of_eq 1 1 J J:rg _ _ _ [iV b.Next]))) J<|mq 9 J NQ (kn Kf.id (am [0] J)) (aw mf J (fun o hw=>hw.rgO (i:=0) J 0 2 [.string q.Kind,j] J) J) J ?_
 obtain⟨u,ah,h⟩:=bs h
 refine WM.one 10 NQ (mc J (fun _ v U D o w hw=>Kn.of (Kf.id.st w.2.1 (w.1.r (i:=0) J)) (am [0] J) hw) (bH (js:=[]) (R:=[[f],ob e]) E2 J J (fun o hw ap hl=>ot N (ba hw.fro) q (Q.y hw.up)  ah)) J ?_)
 rintro v1 ak F1 ⟨A,H,v2,rfl,rfl,h1⟩
 replace s:=s.fr H (A.q 1 J) (A.o G)
 replace m:=H _ _ ((A.q 0 J) _ NS) m
 have I:=(Kf.id (F:=[f]):Kf g _ _).st H (A.q 0 J)
 refine mq 11 J NQ (kn I (am [0] J)) (bu (vs:=[(0,iV b.Next),(1,.agg [.string u.Kind,v2].toArray)]) (C:=#[iV b.Next,.string u.Kind,v2]) Hb ox J (aa (C':=[iV b.Next,.string ⟨#[]⟩,.slice none 0 0]) J J J J J (aa (C':=[iV b.Next,.string u.Kind,v2]) J J J J J (ae)))) J ?_
 have V:RC cR 3 ak ([(ob v2++[])]:List (List Nat)) [iV b.Next,.string u.Kind,v2] ([(⟨b.Next,u⟩:ag)]:List ag):=RC.cons (c:=[iV b.Next,.string u.Kind,v2]) (cells:=[]) ⟨v2,J,J,h1⟩ J (RC.nil _ _ _)
 refine WM.one 12 NQ (me J (fun _ v U D o w hw=>Kn.of (I.se w.1) (am [0] J) hw) (bz (vs:=[(0,.agg [iV b.Next,.string u.Kind,v2].toArray)]) (C:=#[iV b.Next,.string u.Kind,v2]) cR.lasts mN ox J J J J (ar xq (aa (C':=[iV b.Next,.string u.Kind,v2]) J J J J J (ae))) J V J (RC.kn cR.knows V)) J ?_)
 rintro v3 W D1 ⟨M,O⟩
 replace O:OSl cR 66 3 W ((ob v2++[])) v3 ([(⟨b.Next,u⟩:ag)]:List ag):=by simpa[gf] using O
 replace s:=s.f0 M
 replace m:=M _ _ NS m
 refine WM.conv (S':=St w0 W [(z,.cells #[.string q.Kind,j] 52 (0,0))] [((ob v2++[])),ob v3,[f],ob e]) (fun o hw=>hw.merge (js:=[1]) J (SP.eq (by simp[gf,cO]))) ?_
 obtain⟨x3,al,h⟩:=bs h
 have Y:=I.se M
 refine WM.one 13 NQ (me J (fun _ v U D o w hw=>Kn.of (Y.st w.1.2 (w.1.1.r (i:=2) J)) (am [0] J) hw) (dS aY.lasts aY.one mN EI J J J J J (js:=[3]) (Rr:=[((ob v2++[])),ob v3,[f]]) J s (O.gives cR.gives) (fun ap=>(ap.o G)) (fun ap=>ap.q 0 J) al) J ?_)
 rintro v4 aq D2 ⟨⟨Z,a7⟩,x⟩
 replace m:=a7 _ _ ((Z.q 2 J) _ NS) m
 have a8:=Y.st a7 (Z.q 2 J)
 refine mqT 14 [15,16] J NQ (kn a8 (am [0] J)) (aC J) J<|mq 15 J NQ (kn a8 (am [0] J)) (ax kg J) J ?_
 refine WM.thw (js:=[3]) (R:=[ob v4,((ob v2++[])),ob v3]) J m (fun au P an=>?_)
 replace x:=x.fr an (P.q 0 J) (Dj.app (P.o G) (P.q 1 J))
 refine on1 16 (ms1 0 J nk DT J x.one ?_)
 refine WM.nil NQ<|sr<|la J<|lq (aC J) J<|arr 3 [1,0] J<|lq (aC J) J<|lf qU J J J<|so1 0 zq J J ?_
 refine arr 4 [] J<|lq (aC J) J<|art 6 [1,0] J ?_
 refine WT.frz (js:=[0]) (R:=[(z,.cells #[.string q.Kind,j] 52 (0,0))]) J (fun av ao k1=>?_)
 replace x:=x.f0 ao
 refine WT.ret E (az.two J J) (fun o hw=>?_)
 cases h
 replace hw:=hw.merge (js:=[2]) (F:=[((ob v2++[]))].flatten) J (SP.eq NS)
 refine aH (js:=[1,1,0]) hw J ⟨v4,(aE++((ob v2++[]))),[((ob v2++[]))].flatten,J,J,x,(fun k hk=>((gb.1 hk).elim (fun h=>(gb.2 (.inr h))) (fun h=>(gb.2 (.inl (l4.2 ⟨((ob v2++[])),NS,h⟩)))))),k1⟩
theorem zg (w0:aD l g []) (o:ac) (s:aI) (y:RSl aY 3 l aj e o.Items) (A:RSl aU 3 l b5 j s.Fields) {r:ac × Int × Bool} (h:pi N o s=some r) :
  Calls prog 19 [.agg [e,iV o.Next].toArray,.agg [.string s.Kind,j].toArray].toArray w0.w (bc g w0.w [] (fun I Fs v=>∃ (u:Value) (B:List Nat) (X:List Nat),v = .tuple #[.agg [u,iV r.1.Next].toArray,iV r.2.1,.bool r.2.2]∧Fs=[ob u,X]∧OSl aY 66 3 I B u r.1.Items∧(∀ k∈B,k∈X))):=by
 refine eN func19 J ntmps19 J w0 fun C=>?_
 unfold pi at h
 refine sr<|lbx J fun L=>lbx J fun D=>lnz o3 J fun E=>arr 6 [66] J<|kab h J J J (fun b z q=>wC N b o (y.y z) q) ?_
 rintro G h v1 W Y ⟨Z,a7,v2,c,rfl,rfl,h1⟩
 refine lnz o3 J fun M=>soN 0 qb J ⟨h1.one,J,trivial⟩ J ?_
 refine arr 5 [98] J<|qd h (mr N · o y ·) J J J fun x2 h=>arr 2 [] J ?_
 obtain⟨O,m,h⟩:=bs h
 refine WL.cutN 4 [(19,.bool O),(3,pQ D),(4,pQ E),(7,pQ M)] ?_ (fun K=>?_)
 rotate_left
 ·refine sp 15 m J (fun m=>?_) fun m=>?_
  ·refine arr 4 [] J ?_
   cases m
   exact ku K
  ·refine ly J J<|ld2 mf 2 J<|ly J J<|qd m (tS N · s A ·) J J J fun x3 m=>arr 2 [] J ?_
   cases m
   exact ku K
 refine en ?_
 refine ch h J ?_ ?_ <;> intro h
 ·refine atr 3 [2] J<|soN 1 qb J ⟨h1.one,J,trivial⟩ J ?_
  refine art 3 [] J ?_
  refine WT.ret C (az.three (aX mD J (fun w hw=>hw.rgO (i:=1) J 0 2 [v2,iV G.Next] J) J) J J) (fun w hw=>?_)
  cases h
  replace hw:=hw.merge (js:=[1]) (F:=[c].flatten) J (SP.eq NS)
  refine aH (js:=[1,0]) hw J ⟨v2,c,[c].flatten,J,J,(h1.gives cR.gives),(fun k hk=>(l4.2 ⟨c,NS,hk⟩))⟩
 refine atr 4 [66] J ?_
 refine WL.frz (js:=[0]) (R:=[(E,.cells #[.slice none 0 0,iV 0] 29 (0,0)),(D,.cells #[.string s.Kind,j] 52 (0,0)),(L,.cells #[e,iV o.Next] 29 (0,0))]) J (fun a8 P Q=>?_)
 replace h1:=h1.f0 P
 replace h1:=h1.gives cR.gives
 refine kcb [0,0] h J J J J (fun b ap z q=>tE N b G s h1 Q (A.y z) (ap.q 0 J) q) ?_
 rintro S h v3 aa F2 ⟨ab,ae,v4,T,x,rfl,rfl,H,U,V⟩
 refine arr 8 [] J<|lgx 0 2 (bP V) J<|arr 2 [] J<|soN 0 qb J ⟨H.one,J,trivial⟩ J ?_
 refine art 3 [] J ?_
 refine WT.ret C (az.three (aX mD J (fun w hw=>hw.rgO (i:=0) J 0 2 [v4,iV S.2.2.Next] J) J) J J) (fun w hw=>?_)
 cases h
 replace hw:=hw.merge (js:=[2,2]) (F:=[x,c].flatten) J (SP.eq NS)
 refine aH (js:=[2,0]) hw J ⟨v4,T,[x,c].flatten,J,J,H,(fun k hk=>((gb.1 (U k hk)).elim (fun h=>(l4.2 ⟨x,NS,h⟩)) (fun h=>(l4.2 ⟨c,NS,h⟩))))⟩
end Go.Proofs.YtedmfnmbjglmbaaGreat
