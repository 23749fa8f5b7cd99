/- Printed by a program of ours: each Go function computes its Lean function. -/
import Derived.Test.YtedmfnmbjglmbaaGreatProg
import Derived.Test.YtedmfnmbjglmbaaGreatWNetworkWalk8
namespace Go.Proofs.YtedmfnmbjglmbaaGreat
open Eng Tryz
open Go.RowKit (Below)
set_option linter.unusedVariables false
set_option linter.unusedSimpArgs false

set_option maxRecDepth 100000
set_option maxHeartbeats 1000000
variable {e f:Hp} {g n t l p j d a6 b5 aj b7 ar aE:Value} {b0 bj pG0_2 b8 bX pG2_0 ai pG4_0 pG6_0 pG7 b6 pG3_0 b9 bY:List Nat} {a ad:Nat} (N:Nat)
theorem yi (w0:aA e f [[a],ob d,ai].flatten) (c:ah) (U:aJ) (O:aY) (Q:Int) (w:af) (E:Int) (p6:aL) (V:(List Bool)) (aN:RSl cI 3 e b0 g c.Pats) (aO:RSl bT 11 e bj n c.Conds) (aP:RSl fm 5 e pG0_2 t c.Acts) (az:RSl (RI .i64) 1 e b8 l U.Pos) (e1:RSl (RI .i64) 1 e bX p U.Neg) (bW:RSl jO 1 e pG2_0 j O.Alphas) (cH:OSl bU 100 1 f ai d O.Rules) (aD:f a=some (.cells #[j,d] 35 (0,0))) (aQ:RSl bm 3 e pG4_0 a6 w.Items) (cJ:RSl aS 3 e pG6_0 b5 p6.Fields) (bl:RSl RB 1 e pG7 aj V) {r:aY} (h:oA N c U O Q w E p6 V=some r) :
  Calls prog 195 [.agg [.string c.Name,iV c.Sal,g,n,t].toArray,.agg [l,p].toArray,pQ a,iV Q,.agg [a6,iV w.Next].toArray,iV E,.agg [.string p6.Kind,b5].toArray,aj].toArray w0.w (bc f w0.w [[a],ob d,ai].flatten (fun bZ Fs v=>∃ (bE:Value) (c0:List Nat),v = .tuple #[]∧Fs=[[a],ob bE,c0]∧r.Alphas=O.Alphas∧OSl bU 100 1 bZ c0 bE r.Rules∧bZ a=some (.cells #[j,bE] 35 (0,0)))):=by
 refine eL func195 J ntmps195 J (L:=[[a],ob d,ai]) w0 (fun hF=>?_)
 unfold oA at h
 refine sr<|lbx J fun G=>lbx J fun H=>lbx J fun I=>lbx J fun c3=>arr 4 [] J<|lq (aI J) J<|lf yp J J J<|lgx 1 0 (cC aD) J<|la J ?_
 obtain⟨B,c4,h⟩:=bs h
 obtain⟨e2,F1,x,h1,r1,c5,cK⟩:=cH.focus c4
 obtain⟨v1,D2,rfl,rfl,h2⟩:=r1
 refine wlL [ob v1,D2,x,[a],ob d] (sre [2] [ob v1,D2,x] J (by simpa[gi] using cK))<|lih h1 c4 J<|lf nG J J J<|lgx 0 0 h1.rg J<|arr 5 [] J<|lno h2 J<|art 4 [] J ?_
 obtain⟨x2,c6,h⟩:=bs h
 obtain⟨e3,F2,D3,h3,r2,c7,cL⟩:=h2.focus c6
 obtain⟨v2,D4,rfl,rfl,h4⟩:=r2
 refine wtL [ob v2,D4,D3,ob v1,x,[a],ob d] (sre [1] [ob v2,D4,D3] J (by simpa[gi] using cL))<|WT.mix (Kn w0 f (ob v1) [(c3,.cells #[.string p6.Kind,b5] 52 (0,0)),(I,.cells #[a6,iV w.Next] 29 (0,0)),(H,.cells #[l,p] 141 (0,0)),(G,.cells #[.string c.Name,iV c.Sal,g,n,t] 87 (0,0))]) (fun i=>match i with | 8=>false | _=>true) mixed (fun _ h=>h.drew) ?_
 refine mq 0 J OX (kn Kf.id (am [0,1,2,3] J)) (ay rL J (fun A hw=>hw.rgO (i:=3) J 0 5 [.string c.Name,iV c.Sal,g,n,t] J) J) J<|mq 1 J OX (kn Kf.id (am [0,1,2,3] J)) (ay sm J (fun A hw=>hw.rgO (i:=1) J 0 2 [a6,iV w.Next] J) J) J<|mq 7 J OX (kn Kf.id (am [0,1,2,3] J)) (ay nw J (fun A hw=>hw.rgO (i:=0) J 0 2 [.string p6.Kind,b5] J) J) J<|mqT 2 [4,5,6,8] J OX (kn Kf.id (am [0,1,2,3] J)) (ga J) J ?_
 refine mqT 3 [4,5,6,8] J OX (kn Kf.id (am [0,1,2,3] J)) (ga J) J<|mqT 4 [5,6,8] J OX (kn Kf.id (am [0,1,2,3] J)) (cO vI J J h3 c6) J<|mqT 5 [6,8] J OX (kn Kf.id (am [0,1,2,3] J)) (aB ig J) J<|mq 6 J OX (kn Kf.id (am [0,1,2,3] J)) (aW Bd J (fun A hw=>hw.rg h3.hb (h3.rg.of_eq 0 1 J J:rg _ _ _ [v2]))) J ?_
 obtain⟨x3,cM,h⟩:=bs h
 refine WM.one 8 OX (mc J (fun hc=>by cases hc) (bL (js:=[0,0]) (R:=[D3,ob v1,x,[a],ob d]) Ez J J (fun A hw ap hl=>tS N (bx hw ap hl) c w x2.Toks p6 1 (aN.y (hw.uo ap)) (aO.y (hw.uo ap)) (aP.y (hw.uo ap)) (aQ.y (hw.uo ap)) h4 (cJ.y (hw.uo ap))  cM)) J ?_)
 rintro v3 cN F3 ⟨aR,bF,D5,rfl,rfl,h5⟩
 replace h1:=h1.fr bF (aR.q 4 J) (aR.q 2 J)
 replace h3:=h3.fr bF (aR.q 1 J) (aR.q 0 J)
 replace aD:=bF _ _ ((aR.q 3 J) _ OZ) aD
 refine WM.nil OX<|sr ?_
 have cP:RC aU 2 cN ([]:List (List Nat)) [] ([]:List an):=RC.nil _ _ _
 refine le' (bv (vs:=[]) (C:=#[]) aU.lasts eB kv J J J J (ao tJ (ae)) J cP J (by simpa using Kw.nil)) J ?_
 rintro v4 bn D6 ⟨bp,h6⟩
 replace h6:OSl aU 105 2 bn [] v4 ([]:List an):=by simpa[gi] using h6
 replace h1:=h1.f0 bp
 replace h3:=h3.f0 bp
 replace h5:=h5.f0 bp
 replace aD:=bp _ _ OZ aD
 refine WL.conv (S':=St w0 bn [(c3,.cells #[.string p6.Kind,b5] 52 (0,0)),(I,.cells #[a6,iV w.Next] 29 (0,0)),(H,.cells #[l,p] 141 (0,0)),(G,.cells #[.string c.Name,iV c.Sal,g,n,t] 87 (0,0))] [[],ob v4,ob v2,D5,D3,ob v1,x,[a],ob d]) (fun A hw=>hw.addNil)<|art 7 [] J ?_
 have r3:bo bn _ [v2] (⟨x3⟩:aw):=⟨v2,D5,J,J,h5⟩
 obtain⟨D7,h7,cQ⟩:=h3.unfocus r3 (bo.knows _ _ _ _ r3)
 refine wtL [D7,[],ob v4,ob v1,x,[a],ob d] (smg [2,2,2] J (by simpa[gi,cT] using cQ)) ?_
 replace h6:=h6.gives aU.gives
 refine lin (σ:=Hp × (List aw) × List Nat × (List an) × Value × List Nat × Int) (fun s=>[(2,pQ a),(5,iV E),(7,aj),(8,pQ G),(9,pQ H),(12,pQ I),(16,v1),(17,iV (wz ((B.Levels.length:Int) - 1))),(18,s.2.2.2.2.1),(19,iV s.2.2.2.2.2.2)]) (fun s=>St w0 s.1 [(I,.cells #[a6,iV w.Next] 29 (0,0)),(H,.cells #[l,p] 141 (0,0)),(G,.cells #[.string c.Name,iV c.Sal,g,n,t] 87 (0,0))] [s.2.2.1,ob s.2.2.2.2.1,ob v1,x,[a],ob d]) (fun m s=>bD N c U O Q w E V B m s.2.1 s.2.2.2.1 s.2.2.2.2.2.2=some r∧(OSl bo 103 1 s.1 s.2.2.1 v1 s.2.1)∧(OSl dU 105 2 s.1 s.2.2.2.2.2.1 s.2.2.2.2.1 s.2.2.2.1)∧(∀ k∈s.2.2.2.2.2.1,k∈s.2.2.1)∧(s.1 a=some (.cells #[j,d] 35 (0,0)))∧(HSl bU 100 1 s.1 x d O.Rules Q.toNat [v1])) (bn,(B.Levels.set (wz ((B.Levels.length:Int) - 1)).toNat (⟨x3⟩:aw)),D7,([]:List an),v4,[],0) N ⟨h,h7,h6,OZ,aD,h1⟩ (sx [0,1,1,1,1,1] [1,1,1]) (fun n1 cR s hm=>?_)
 obtain⟨c8,s1,P,s2,M,D9,S⟩:=s
 obtain⟨h,u,y,i1,Y,Z⟩:=hm
 dsimp only at h u y i1 Y Z ⊢
 unfold bD at h
 refine att 7 [] J ?_
 refine ch h J ?_ ?_ <;> intro h
 ·refine atr 5 [] J ?_
  have cS:RC aU 2 c8 ([]:List (List Nat)) [] ([]:List an):=RC.nil _ _ _
  refine le' (bv (vs:=[]) (C:=#[]) aU.lasts eB kv J J J J (ao tJ (ae)) J cS J (by simpa using Kw.nil)) J ?_
  rintro v5 c9 e4 ⟨bq,h8⟩
  replace h8:OSl aU 105 2 c9 [] v5 ([]:List an):=by simpa[gi] using h8
  replace Z:=Z.f0 bq
  replace u:=u.f0 bq
  replace y:=y.f0 bq
  replace Y:=bq _ _ OZ Y
  refine WL.conv (S':=St w0 c9 [(I,.cells #[a6,iV w.Next] 29 (0,0)),(H,.cells #[l,p] 141 (0,0)),(G,.cells #[.string c.Name,iV c.Sal,g,n,t] 87 (0,0))] [[],ob v5,P,ob M,ob v1,x,[a],ob d]) (fun A hw=>hw.addNil)<|arr 8 [] J ?_
  obtain⟨b1,a1,h⟩:=bs h
  refine WL.cutN 8 [(64,.bool b1),(2,pQ a),(5,iV E),(7,aj),(8,pQ G),(9,pQ H),(12,pQ I),(16,v1),(17,iV (wz ((B.Levels.length:Int) - 1))),(18,M),(19,iV S),(20,v5)] ?_ (fun K=>?_)
  rotate_left
  ·refine sp 56 a1 J (fun a1=>?_) fun a1=>?_
   ·refine arr 3 [0,32] J<|ly J J ?_
    obtain⟨x4,ca,a1⟩:=bs a1
    obtain⟨e5,F4,-,g1,e6,e7,r4⟩:=az.el (a8 ca).2.2
    obtain⟨rfl,-⟩:=r4
    refine lia az ca J<|ly J J<|lhx 0 0 g1 J<|ly J J ?_
    obtain⟨x5,cb,a1⟩:=bs a1
    obtain⟨e8,F5,-,g2,e9,ea,r5⟩:=bl.el (a8 cb).2.2
    obtain⟨rfl,-⟩:=r5
    refine lia bl cb J<|ly J J<|lhx 0 0 g2 J<|la J ?_
    cases a1
    exact ku K
   ·refine arr 8 [] J ?_
    cases a1
    exact ku K
  refine en ?_
  refine cut (σ:=Hp × (List an) × Value × List Nat) (fun s=>[(2,pQ a),(5,iV E),(7,aj),(8,pQ G),(9,pQ H),(12,pQ I),(16,v1),(17,iV (wz ((B.Levels.length:Int) - 1))),(18,M),(19,iV S),(20,s.2.2.1)]) (fun s=>St w0 s.1 [(I,.cells #[a6,iV w.Next] 29 (0,0)),(H,.cells #[l,p] 141 (0,0)),(G,.cells #[.string c.Name,iV c.Sal,g,n,t] 87 (0,0))] [s.2.2.2,ob s.2.2.1,P,ob M,ob v1,x,[a],ob d]) (fun s=>iA N c U O w E V B s1 s2 S (bD N c U O Q w E V B n1) s.2.1=some r∧(OSl bo 103 1 s.1 P v1 s1)∧(OSl dU 105 2 s.1 D9 M s2)∧(OSl aU 105 2 s.1 s.2.2.2 s.2.2.1 s.2.1)∧(s.1 a=some (.cells #[j,d] 35 (0,0)))∧(HSl bU 100 1 s.1 x d O.Rules Q.toNat [v1])) (fun s hm=>?_) (fun K=>?_)
  ·clear h
   obtain⟨bG,s4,u2,cc⟩:=s
   obtain⟨h,u,y,k6,k7,k5⟩:=hm
   dsimp only at h u y k6 k7 k5 ⊢
   unfold iA at h
   refine att 10 [] J ?_
   refine cut (σ:=Int) (fun s=>[(2,pQ a),(5,iV E),(7,aj),(8,pQ G),(9,pQ H),(12,pQ I),(16,v1),(17,iV (wz ((B.Levels.length:Int) - 1))),(18,M),(19,iV S),(20,u2),(21,iV s)]) (fun s=>St w0 bG [(I,.cells #[a6,iV w.Next] 29 (0,0)),(H,.cells #[l,p] 141 (0,0)),(G,.cells #[.string c.Name,iV c.Sal,g,n,t] 87 (0,0))] [cc,ob u2,P,ob M,ob v1,x,[a],ob d]) (fun s=>jp N c U O w E V B s1 s2 S (bD N c U O Q w E V B n1) s4 s=some r∧(HSl bU 100 1 bG x d O.Rules Q.toNat [v1])) (fun s hm=>?_) (fun K=>?_)
   ·clear h
    revert hm;revert s;intro s5 hm
    obtain⟨h,k8⟩:=hm
    try dsimp only at h k8 ⊢
    unfold jp at h
    refine att 6 [] J ?_
    refine lin (σ:=Hp × (List an) × Value × List Nat × Int) (fun s=>[(2,pQ a),(5,iV E),(7,aj),(8,pQ G),(9,pQ H),(12,pQ I),(16,v1),(17,iV (wz ((B.Levels.length:Int) - 1))),(18,M),(19,iV S),(20,s.2.2.1),(21,iV s5),(22,iV s.2.2.2.2)]) (fun s=>St w0 s.1 [(I,.cells #[a6,iV w.Next] 29 (0,0)),(H,.cells #[l,p] 141 (0,0)),(G,.cells #[.string c.Name,iV c.Sal,g,n,t] 87 (0,0))] [s.2.2.2.1,ob s.2.2.1,P,ob M,ob v1,x,[a],ob d]) (fun m s=>dX N c U O w E V B s1 s2 S (bD N c U O Q w E V B n1) s5 m s.2.1 s.2.2.2.2=some r∧(OSl bo 103 1 s.1 P v1 s1)∧(OSl dU 105 2 s.1 D9 M s2)∧(OSl aU 105 2 s.1 s.2.2.2.1 s.2.2.1 s.2.1)∧(s.1 a=some (.cells #[j,d] 35 (0,0)))∧(HSl bU 100 1 s.1 x d O.Rules Q.toNat [v1])) (bG,s4,u2,cc,0) N ⟨h,u,y,k6,k7,k8⟩ (sx [0,0,0,0,0,0,0,0] [0,0,0]) (fun n4 cU s hm=>?_)
    obtain⟨bH,s6,u3,cV,s7⟩:=s
    obtain⟨h,u,y,bI,aF,k9⟩:=hm
    dsimp only at h u y bI aF k9 ⊢
    unfold dX at h
    refine atr 7 [] J ?_
    obtain⟨b2,a7,h⟩:=bs h
    refine WL.cutN 9 [(95,.bool b2),(2,pQ a),(5,iV E),(7,aj),(8,pQ G),(9,pQ H),(12,pQ I),(16,v1),(17,iV (wz ((B.Levels.length:Int) - 1))),(18,M),(19,iV S),(20,u3),(21,iV s5),(22,iV s7)] ?_ (fun K=>?_)
    rotate_left
    ·refine sp 86 a7 J (fun a7=>?_) fun a7=>?_
     ·refine arr 4 [0,32] J<|ly J J ?_
      obtain⟨x6,cd,a7⟩:=bs a7
      obtain⟨eb,F6,-,g3,ec,ed,r6⟩:=az.el (a8 cd).2.2
      obtain⟨rfl,-⟩:=r6
      refine lia az cd J<|ly J J<|lhx 0 0 g3 J<|ly J J ?_
      obtain⟨x7,cf,a7⟩:=bs a7
      obtain⟨ee,F7,-,g4,ef,eg,r7⟩:=bl.el (a8 cf).2.2
      obtain⟨rfl,-⟩:=r7
      refine lia bl cf J<|ly J J<|lhx 0 0 g4 J<|la J ?_
      cases a7
      exact ku K
     ·refine arr 9 [] J ?_
      cases a7
      exact ku K
    refine en ?_
    refine ch h J ?_ ?_ <;> intro h
    ·refine att 3 [] J<|WT.mix (Kn w0 bH (ob v1++P) [(I,.cells #[a6,iV w.Next] 29 (0,0)),(H,.cells #[l,p] 141 (0,0)),(G,.cells #[.string c.Name,iV c.Sal,g,n,t] 87 (0,0))]) (fun _=>true) mixed (fun _ h=>h.drew)<|ma 0 J OX (kn Kf.id (ai3 0 1 2 J J J)) J<|mq 1 J OX (kn Kf.id (ai3 0 1 2 J J J)) (ay rL J (fun A hw=>hw.rgO (i:=2) J 0 5 [.string c.Name,iV c.Sal,g,n,t] J) J) J ?_
     refine mq 2 J OX (kn Kf.id (ai3 0 1 2 J J J)) (ay sm J (fun A hw=>hw.rgO (i:=0) J 0 2 [a6,iV w.Next] J) J) J<|ma 3 J OX (kn Kf.id (ai3 0 1 2 J J J)) J<|ma 4 J OX (kn Kf.id (ai3 0 1 2 J J J)) J<|ma 5 J OX (kn Kf.id (ai3 0 1 2 J J J)) J ?_
     obtain⟨x8,cg,h⟩:=bs h
     obtain⟨eh,F8,-,g5,cW,cj,r8⟩:=u.elS (a8 cg).2.2
     obtain⟨v6,ei,rfl,rfl,h9⟩:=r8
     have ck:=h9.rslG aU.gives
     refine mq 6 J OX (kn Kf.id (ai3 0 1 2 J J J)) (ak vI J J u.rsl cg) J<|mq 7 J OX (kn Kf.id (ai3 0 1 2 J J J)) (aB ig J) J<|mq 8 J OX (kn Kf.id (ai3 0 1 2 J J J)) (aW Bd J (fun A hw=>hw.rg (gh.2 (.inl cW)) (g5.of_eq 0 1 J J:rg _ _ _ [v6]))) J<|ma 9 J OX (kn Kf.id (ai3 0 1 2 J J J)) J ?_
     obtain⟨x9,cm,h⟩:=bs h
     obtain⟨ej,F9,-,g6,cX,cY,r9⟩:=ck.el (a8 cm).2.2
     obtain⟨v7,G1,v8,G2,rfl,rfl,cZ,ek⟩:=r9
     refine mq 10 J OX (kn Kf.id (ai3 0 1 2 J J J)) (ak eB J J ck cm) J<|mq 11 J OX (kn Kf.id (ai3 0 1 2 J J J)) (aB un J) J<|mq 12 J OX (kn Kf.id (ai3 0 1 2 J J J)) (aW tQ J (fun A hw=>hw.rg (gh.2 (.inr ((fun k h=>cj k h) _ cX))) (g6.of_eq 0 1 J J:rg _ _ _ [v7]))) J<|ma 13 J OX (kn Kf.id (ai3 0 1 2 J J J)) J ?_
     obtain⟨el,da,h⟩:=bs h
     refine WM.one 14 OX (mc J (fun _ v cn D A hq hw=>Kn.of (Kf.id.st hq.2.1 (Dj.app (hq.1.r (i:=2) J) (hq.1.r (i:=0) J))) (ai3 0 1 2 J J J) hw) (bL (js:=[1,0]) (R:=[P,ob M,ob v1,x,[a],ob d]) EU J J (fun A hw ap hl=>qn N (bx hw ap hl) s6 c w x9.Ids E bI (aN.y (hw.uo ap)) (aO.y (hw.uo ap)) (aP.y (hw.uo ap)) (aQ.y (hw.uo ap)) (cZ.x (Dj.sub (Dj.sub (ap.q 0 J) (fun k h=>cj k h)) (fun k h=>cY k (gh.2 (.inl h)))))  da)) J ?_)
     rintro v9 eo ep ⟨aa,aT,v10,er,rfl,rfl,db⟩
     replace k9:=k9.fr aT (aa.q 5 J) (aa.q 3 J)
     replace u:=u.fr aT (aa.q 2 J) (aa.q 0 J)
     replace y:=y.fr aT (aa.q 1 J) (Dj.sub (aa.q 0 J) i1)
     replace aF:=aT _ _ ((aa.q 4 J) _ OZ) aF
     have c5:=(Kf.id (F:=(ob v1++P)):Kf bH _ _).st aT (Dj.app (aa.q 2 J) (aa.q 0 J))
     refine ma 15 J OX (kn c5 (ai3 0 1 2 J J J)) J<|WM.nil OX<|att 6 [] J ?_
     exact lb [1,0,0,0,0,0,0,0] [0,0,0] (cU (_,_,_,_,_) ⟨h,u,y,db,aF,k9⟩)
    refine xt J<|sq<|WT.draw mixed OX (fun _ h=>h.drew)<|qq (ga J) J<|qq (aI J) J<|qq (aB l5 J) J<|qq (aW Cc J (fun A hw=>((cC aF).of_eq 0 1 J J:rg _ _ _ [j]).rangeAt hw.fro)) J<|aqq 3 [0,32] J ?_
    obtain⟨dc,cp,h⟩:=bs h
    obtain⟨eu,ev,-,g7,ew,ey,dd⟩:=az.el (a8 cp).2.2
    obtain⟨rfl,-⟩:=dd
    refine qq (ak bw J J az cp) J<|qq (aW u6 J (fun A hw=>(g7.of_eq 0 1 J J:rg _ _ _ [iV dc]).rangeAt hw.in0)) J ?_
    obtain⟨bJ,cq,h⟩:=bs h
    obtain⟨ez,eA,-,g8,eC,eD,de⟩:=bW.el (a8 cq).2.2
    obtain⟨v11,G3,rfl,df,bK⟩:=de
    obtain rfl:=df.symm
    refine qq (ak vF J J bW cq) J<|qq (aB lm J) J<|qq (aW tQ J (fun A hw=>(g8.of_eq 0 1 J J:rg _ _ _ [v11]).rangeAt hw.in0)) J<|aqt 8 [] J ?_
    refine lin (σ:=Hp × (List an) × Value × List Nat × Int) (fun s=>[(2,pQ a),(5,iV E),(7,aj),(8,pQ G),(9,pQ H),(12,pQ I),(16,v1),(17,iV (wz ((B.Levels.length:Int) - 1))),(18,M),(19,iV S),(20,s.2.2.1),(23,v11),(24,iV s.2.2.2.2)]) (fun s=>St w0 s.1 [(I,.cells #[a6,iV w.Next] 29 (0,0)),(H,.cells #[l,p] 141 (0,0)),(G,.cells #[.string c.Name,iV c.Sal,g,n,t] 87 (0,0))] [s.2.2.2.1,ob s.2.2.1,P,ob M,ob v1,x,[a],ob d]) (fun m s=>eR N c w B s1 s2 S (bD N c U O Q w E V B n1) bJ m s.2.1 s.2.2.2.2=some r∧(OSl bo 103 1 s.1 P v1 s1)∧(OSl dU 105 2 s.1 D9 M s2)∧(OSl aU 105 2 s.1 s.2.2.2.1 s.2.2.1 s.2.1)∧(s.1 a=some (.cells #[j,d] 35 (0,0)))∧(HSl bU 100 1 s.1 x d O.Rules Q.toNat [v1])) (bH,s6,u3,cV,0) N ⟨h,u,y,bI,aF,k9⟩ (sx [0,0,0,0,0,0,0,0] [0,0,0]) (fun n5 dg s hm=>?_)
    obtain⟨cr,s8,T,ct,s9⟩:=s
    obtain⟨h,u,y,bM,bN,bO⟩:=hm
    dsimp only at h u y bM bN bO ⊢
    unfold eR at h
    refine atr 5 [] J<|lno y J<|la J<|en ?_
    refine ch h J ?_ ?_ <;> intro h
    ·refine att 8 [] J ?_
     refine lin (σ:=Hp × (List an) × Value × List Nat × Int) (fun s=>[(2,pQ a),(5,iV E),(7,aj),(8,pQ G),(9,pQ H),(12,pQ I),(16,v1),(17,iV (wz ((B.Levels.length:Int) - 1))),(18,M),(19,iV S),(20,s.2.2.1),(23,v11),(24,iV s9),(25,iV s.2.2.2.2)]) (fun s=>St w0 s.1 [(I,.cells #[a6,iV w.Next] 29 (0,0)),(H,.cells #[l,p] 141 (0,0)),(G,.cells #[.string c.Name,iV c.Sal,g,n,t] 87 (0,0))] [s.2.2.2.1,ob s.2.2.1,P,ob M,ob v1,x,[a],ob d]) (fun m s=>fY N c w s2 bJ s9 (eR N c w B s1 s2 S (bD N c U O Q w E V B n1) bJ n5) m s.2.1 s.2.2.2.2=some r∧(OSl bo 103 1 s.1 P v1 s1)∧(OSl dU 105 2 s.1 D9 M s2)∧(OSl aU 105 2 s.1 s.2.2.2.1 s.2.2.1 s.2.1)∧(s.1 a=some (.cells #[j,d] 35 (0,0)))∧(HSl bU 100 1 s.1 x d O.Rules Q.toNat [v1])) (cr,s8,T,ct,0) N ⟨h,u,y,bM,bN,bO⟩ (sx [0,0,0,0,0,0,0,0] [0,0,0]) (fun n6 dh s hm=>?_)
     obtain⟨cu,di,u5,eE,eF⟩:=s
     obtain⟨h,u,y,bP,aX,aZ⟩:=hm
     dsimp only at h u y bP aX aZ ⊢
     unfold fY at h
     refine atr 5 [] J<|lnr bK J<|la J<|en ?_
     refine ch h J ?_ ?_ <;> intro h
     ·refine att 3 [] J<|WT.mix (Kn w0 cu (ob M) [(I,.cells #[a6,iV w.Next] 29 (0,0)),(H,.cells #[l,p] 141 (0,0)),(G,.cells #[.string c.Name,iV c.Sal,g,n,t] 87 (0,0))]) (fun _=>true) mixed (fun _ h=>h.drew)<|ma 0 J OX (kn Kf.id (ai3 0 1 2 J J J)) J<|mq 1 J OX (kn Kf.id (ai3 0 1 2 J J J)) (ay rL J (fun A hw=>hw.rgO (i:=2) J 0 5 [.string c.Name,iV c.Sal,g,n,t] J) J) J ?_
      refine mq 2 J OX (kn Kf.id (ai3 0 1 2 J J J)) (ay sm J (fun A hw=>hw.rgO (i:=0) J 0 2 [a6,iV w.Next] J) J) J<|ma 3 J OX (kn Kf.id (ai3 0 1 2 J J J)) J<|ma 4 J OX (kn Kf.id (ai3 0 1 2 J J J)) J ?_
      obtain⟨dj,cv,h⟩:=bs h
      obtain⟨eG,eH,-,g9,dk,dm,dn⟩:=y.elS (a8 cv).2.2
      obtain⟨v12,G4,eI,G5,rfl,rfl,dp,eJ⟩:=dn
      refine mq 5 J OX (kn Kf.id (ai3 0 1 2 J J J)) (ak eB J J y.rsl cv) J<|mq 6 J OX (kn Kf.id (ai3 0 1 2 J J J)) (aB un J) J<|mq 7 J OX (kn Kf.id (ai3 0 1 2 J J J)) (aW tQ J (fun A hw=>hw.rg dk (g9.of_eq 0 1 J J:rg _ _ _ [v12]))) J<|ma 8 J OX (kn Kf.id (ai3 0 1 2 J J J)) J<|ma 9 J OX (kn Kf.id (ai3 0 1 2 J J J)) J ?_
      obtain⟨cw,cx,h⟩:=bs h
      obtain⟨eK,eM,-,g10,eN,eO,dq⟩:=bK.el (a8 cx).2.2
      obtain⟨rfl,-⟩:=dq
      refine mq 10 J OX (kn Kf.id (ai3 0 1 2 J J J)) (ak bw J J bK cx) J<|mq 11 J OX (kn Kf.id (ai3 0 1 2 J J J)) (aW u6 J (fun A hw=>(g10.of_eq 0 1 J J:rg _ _ _ [iV cw]).rangeAt hw.1)) J ?_
      obtain⟨eP,dr,h⟩:=bs h
      refine WM.one 12 OX (mc J (fun _ v cn D A hq hw=>Kn.of (Kf.id.st hq.2.1 (hq.1.r (i:=1) J)) (ai3 0 1 2 J J J) hw) (bL (js:=[1,0]) (R:=[P,ob M,ob v1,x,[a],ob d]) EU J J (fun A hw ap hl=>qn N (bx hw ap hl) di c w dj.Ids cw bP (aN.y (hw.uo ap)) (aO.y (hw.uo ap)) (aP.y (hw.uo ap)) (aQ.y (hw.uo ap)) (dp.x (Dj.sub (ap.q 0 J) (fun k h=>i1 k (dm k (gh.2 (.inl h))))))  dr)) J ?_)
      rintro eQ eS eT ⟨ag,b4,eU,eV,rfl,rfl,ds⟩
      replace aZ:=aZ.fr b4 (ag.q 5 J) (ag.q 3 J)
      replace u:=u.fr b4 (ag.q 2 J) (ag.q 0 J)
      replace y:=y.fr b4 (ag.q 1 J) (Dj.sub (ag.q 0 J) i1)
      replace aX:=b4 _ _ ((ag.q 4 J) _ OZ) aX
      have c7:=(Kf.id (F:=(ob M)):Kf cu _ _).st b4 (ag.q 1 J)
      refine ma 13 J OX (kn c7 (ai3 0 1 2 J J J)) J<|WM.nil OX<|att 6 [] J ?_
      exact lb [1,0,0,0,0,0,0,0] [0,0,0] (dh (_,_,_,_,_) ⟨h,u,y,ds,aX,aZ⟩)
     refine att 7 [] J ?_
     exact lb [0,0,0,0,0,0,0,0] [0,0,0] (dg (_,_,_,_,_) ⟨h,u,y,bP,aX,aZ⟩)
    refine att 7 [] J ?_
    refine lin (σ:=Hp × (List an) × List Nat × Int) (fun s=>[(2,pQ a),(5,iV E),(7,aj),(8,pQ G),(9,pQ H),(12,pQ I),(16,v1),(17,iV (wz ((B.Levels.length:Int) - 1))),(19,iV S),(20,T),(26,iV s.2.2.2)]) (fun s=>St w0 s.1 [(I,.cells #[a6,iV w.Next] 29 (0,0)),(H,.cells #[l,p] 141 (0,0)),(G,.cells #[.string c.Name,iV c.Sal,g,n,t] 87 (0,0))] [s.2.2.1,ob T,P,ob v1,x,[a],ob d]) (fun m s=>cB N c w B s1 S (bD N c U O Q w E V B n1) m s.2.1 s.2.2.2=some r∧(OSl bo 103 1 s.1 P v1 s1)∧(OSl aU 105 2 s.1 s.2.2.1 T s.2.1)∧(s.1 a=some (.cells #[j,d] 35 (0,0)))∧(HSl bU 100 1 s.1 x d O.Rules Q.toNat [v1])) (cr,s8,ct,0) N ⟨h,u,bM,bN,bO⟩ (sx [0,0,0,1,1,1,1] [0,0,0]) (fun n7 dt s hm=>?_)
    obtain⟨cy,eW,ba,du⟩:=s
    obtain⟨h,u,bb,W,X⟩:=hm
    dsimp only at h u bb W X ⊢
    unfold cB at h
    refine atr 5 [] J<|lno bb J<|arr 2 [] J ?_
    obtain⟨b3,bd,h⟩:=bs h
    refine WL.cutN 4 [(158,.bool b3),(2,pQ a),(5,iV E),(7,aj),(8,pQ G),(9,pQ H),(12,pQ I),(16,v1),(17,iV (wz ((B.Levels.length:Int) - 1))),(19,iV S),(20,T),(26,iV du)] ?_ (fun K=>?_)
    rotate_left
    ·refine sp 154 bd J (fun bd=>?_) fun bd=>?_
     ·refine arr 4 [] J ?_
      cases bd
      exact ku K
     ·refine arr 4 [] J ?_
      cases bd
      exact ku K
    refine en ?_
    refine ch h J ?_ ?_ <;> intro h
    ·refine att 3 [] J ?_
     obtain⟨dv,bQ,h⟩:=bs h
     obtain⟨eX,eY,br,al,dw,cz,dx⟩:=bb.focus bQ
     obtain⟨bR,v17,rfl,rfl,dy,bS⟩:=dw
     refine wtL [ob bR,ob v17,br,ob T,P,ob v1,x,[a],ob d] (sre [0] [ob bR,ob v17,br] J (by simpa[gi] using dx))<|WT.mix (Kn w0 cy (ob T) [(I,.cells #[a6,iV w.Next] 29 (0,0)),(H,.cells #[l,p] 141 (0,0)),(G,.cells #[.string c.Name,iV c.Sal,g,n,t] 87 (0,0))]) (fun i=>match i with | 10=>false | _=>true) mixed (fun _ h=>h.drew)<|ma 0 J OX (kn Kf.id (ai3 0 1 2 J J J)) J<|ma 1 J OX (kn Kf.id (ai3 0 1 2 J J J)) J ?_
     refine mq 2 J OX (kn Kf.id (ai3 0 1 2 J J J)) (ay rL J (fun A hw=>hw.rgO (i:=2) J 0 5 [.string c.Name,iV c.Sal,g,n,t] J) J) J<|mq 3 J OX (kn Kf.id (ai3 0 1 2 J J J)) (ay sm J (fun A hw=>hw.rgO (i:=0) J 0 2 [a6,iV w.Next] J) J) J<|ma 4 J OX (kn Kf.id (ai3 0 1 2 J J J)) J<|ma 5 J OX (kn Kf.id (ai3 0 1 2 J J J)) J<|mq 6 J OX (kn Kf.id (ai3 0 1 2 J J J)) (cO eB J J al bQ) J ?_
     refine mq 7 J OX (kn Kf.id (ai3 0 1 2 J J J)) (ay Er J (fun A hw=>hw.rg al.hb (al.rg.of_eq 0 2 J J:rg _ _ _ [bR,v17])) J) J ?_
     obtain⟨dz,dA,h⟩:=bs h
     refine WM.one 8 OX (mc J (fun _ v cn D A hq hw=>Kn.of (Kf.id.st hq.2.1 (hq.1.r (i:=2) J)) (ai3 0 1 2 J J J) hw) (bL (js:=[0]) (R:=[ob v17,br,ob T,P,ob v1,x,[a],ob d]) Jo J J (fun A hw ap hl=>xH N (bx hw ap hl) c w dv (aN.y (hw.uo ap)) (aO.y (hw.uo ap)) (aP.y (hw.uo ap)) (aQ.y (hw.uo ap)) dy (bS.rsl.x (Dj.app (ap.q 0 J) dN))  dA)) J ?_)
     rintro eZ fa fb ⟨ab,aG,be,v20,rfl,rfl,bt,bu⟩
     replace X:=X.fr aG (ab.q 7 J) (ab.q 5 J)
     replace u:=u.fr aG (ab.q 4 J) (ab.q 3 J)
     replace al:=al.fr aG (ab.q 2 J) (ab.q 1 J)
     replace bS:=bS.fr aG (ab.q 0 J) dN
     replace W:=aG _ _ ((ab.q 6 J) _ OZ) W
     have cz:=(Kf.id (F:=(ob T)):Kf cy _ _).st aG (ab.q 2 J)
     refine mq 9 J OX (kn cz (ai3 0 1 2 J J J)) (cO eB J J al bQ) J ?_
     refine WM.one 10 OX (mu J (fun hc=>by cases hc) (Bb (js:=[4]) (Rr:=[ob be,ob v20,ob v17,br,P,ob v1,x,[a],ob d]) (o:=0) (vs:=[be,v20]) (cs':=[be,v20]) aU.lasts t8 J J J J ⟨bt.one,bu.one,trivial⟩ J al J J (fun ap=>ap.q 3 J)) J ?_)
     rintro dB fc ⟨⟨aq,bf⟩,dC⟩
     replace X:=X.fr bf (aq.q 8 J) (aq.q 6 J)
     replace u:=u.fr bf (aq.q 5 J) (aq.q 4 J)
     replace bt:=bt.fr bf (aq.q 0 J) dN
     replace bu:=bu.fr bf (aq.q 1 J) dN
     replace W:=bf _ _ ((aq.q 7 J) _ OZ) W
     refine WM.nil OX<|att 6 [] J ?_
     have cA:aU dB _ [be,v20] dz:=⟨be,v20,J,J,bt,bu⟩
     obtain⟨dD,dE,dF⟩:=dC.unfocus cA (aU.knows _ _ _ _ cA)
     refine wtL [dD,ob T,ob v17,P,ob v1,x,[a],ob d] (smg [1,1,2] J (by simpa[gi,cT] using dF)) ?_
     exact lb [0,0,1,1,1,1,1] [0,0,0] (dt (_,_,_,_) ⟨h,u,dE,W,X⟩)
    refine atr 7 [] J ?_
    obtain⟨fe,bV,h⟩:=bs h
    obtain⟨ff,fg,bg,aH,dG,fh,dH⟩:=u.focus bV
    obtain⟨v21,aM,rfl,rfl,dI⟩:=dG
    refine wlL [ob v21,aM,bg,ba,ob T,ob v1,x,[a],ob d] (sre [2] [ob v21,aM,bg] J (by simpa[gi] using dH))<|lih aH bV J<|lf ig J J J<|lgx 0 0 aH.rg J<|la J ?_
    obtain⟨dJ,dK,h⟩:=bs h
    have bh:=bb.gives aU.gives
    refine le' (et aU.lasts aU.one eB sJ J J J J J (js:=[0]) (Rr:=[aM,bg,ba,ob T,ob v1,x,[a],ob d]) J dI bb (fun ap=>ap.q 0 J) (fun ap=>ap.q 2 J) dK) J ?_
    rintro v22 fi fj ⟨⟨au,bz⟩,bA⟩
    replace X:=X.fr bz (au.q 7 J) (au.q 5 J)
    replace aH:=aH.fr bz (au.q 4 J) (au.q 1 J)
    replace bh:=bh.fr bz (au.q 3 J) (au.q 2 J)
    replace W:=bz _ _ ((au.q 6 J) _ OZ) W
    refine wlL [(aM++ba),ob v22,bg,ob T,ob v1,x,[a],ob d] (smg [1,2] J (SP.eq OZ))<|lih aH bV J<|lf ig J J J<|lu (us [4] [(aM++ba),ob v22,bg,ob T,x,[a],ob d] 0 bo.lasts Eo J J bA.one J aH J (fun ap=>ap.q 2 J)) J ?_
    rintro dL fk ⟨⟨av,bB⟩,dM⟩
    replace X:=X.fr bB (av.q 6 J) (av.q 4 J)
    replace bA:=bA.fr bB (av.q 1 J) (av.q 0 J)
    replace bh:=bh.fr bB (av.q 3 J) (Dj.sub (av.q 0 J) (fun k hk=>gh.2 (.inr hk)))
    replace W:=bB _ _ ((av.q 5 J) _ OZ) W
    refine art 11 [] J ?_
    have cD:bo dL _ [v22] (⟨dJ⟩:aw):=⟨v22,(aM++ba),J,J,bA⟩
    obtain⟨dO,dP,dQ,dR,fl⟩:=dM.unfocusM cD (bo.knows _ _ _ _ cD)
    refine wtL [dO,ob v1,ob T,x,[a],ob d] (smg [2,1,1] J (by simpa[gi,cT] using dQ)) ?_
    exact lb [0,1,0,0,0,0] [0,0,0] (cR (_,_,_,_,_,_,_) ⟨h,dP,bh,(fun k hk=>((fun k hk=>(fun k hk=>dR k (gh.2 (.inr hk))) k ((fun k hk=>gh.2 (.inr hk)) k hk)) k hk)),W,X⟩)
   refine ch h J ?_ ?_ <;> intro h
   ·refine atr 4 [] J ?_
    obtain⟨fo,cE,h⟩:=bs h
    obtain⟨fp,fq,-,g11,fr,fs,dS⟩:=u.elS (a8 cE).2.2
    obtain⟨v23,ft,rfl,rfl,dT⟩:=dS
    have dV:=dT.rslG aU.gives
    refine lio u cE J<|lf ig J J J<|lgx 0 0 g11 J<|lnr dV J<|la J<|lno y J<|art 3 [] J ?_
    exact wo [0,0,0,0,0,0,0,0] [0,0,0] (K _ ⟨h,k5⟩)
   refine WT.skip ?_
   exact wo [0,0,0,0,0,0,0,0] [0,0,0] (K _ ⟨h,k5⟩)
  refine ch h J ?_ ?_ <;> intro h
  ·refine atr 4 [69,2] J<|le' (gT (R:=RI .i64) RI.lasts bw jR J J) J ?_
   rintro v24 fu fv ⟨bk,dW⟩
   replace Z:=Z.f0 bk
   replace u:=u.f0 bk
   replace y:=y.f0 bk
   replace h8:=h8.f0 bk
   replace Y:=bk _ _ OZ Y
   refine la J<|kcb [2,1] h J J J J (fun b ap z q=>qn N b ([]:List an) c w ([]:List Int) E h8 (aN.y z) (aO.y z) (aP.y z) (aQ.y z) (dW.rsl.x (Dj.app (ap.q 0 J) dN)) q) ?_
   rintro fw h v25 fx fy ⟨ax,bC,v26,fz,rfl,rfl,dY⟩
   replace Z:=Z.fr bC (ax.q 6 J) (ax.q 4 J)
   replace u:=u.fr bC (ax.q 3 J) (ax.q 1 J)
   replace y:=y.fr bC (ax.q 2 J) (Dj.sub (ax.q 1 J) i1)
   replace Y:=bC _ _ ((ax.q 5 J) _ OZ) Y
   refine la J<|en ?_
   exact wo [1,0,1,1,1,1,1,1] [0,0,0] (K (_,_,_,_) ⟨h,u,y,dY,Y,Z⟩)
  refine WT.skip ?_
  exact wo [0,0,0,0,0,0,0,0] [0,0,0] (K (_,_,_,_) ⟨h,u,y,h8,Y,Z⟩)
 refine xt J ?_
 have cF:bU c8 _ [v1] (⟨s1⟩:aV):=⟨v1,P,J,J,u⟩
 obtain⟨cG,dZ,e0,fA,fB⟩:=Z.unfocusM cF (bU.knows _ _ _ _ cF)
 refine wtL [cG,ob M,[a],ob d] (smg [2,0,1] J (by simpa[gi,cT] using e0)) ?_
 refine WT.fin hF aC.none (fun A hw=>?_)
 cases h
 refine aK (js:=[2,2,0]) hw J ⟨d,cG,J,J,J,dZ,Y⟩
theorem Al (w0:aA e f [[a],ob j,b6,ob d,ai].flatten) (H:bq) (T:cA) (K:aY) (A:af) (u:Int) (aq:RSl eC 5 e b0 g H.Rules) (au:RSl cP 4 e b8 l T.Alphas) (aJ:RSl fw 2 e bX p T.Chains) (U:OSl cz 133 1 f b6 j K.Alphas) (k:OSl bU 100 1 f ai d K.Rules) (V:f a=some (.cells #[j,d] 35 (0,0))) (aL:RSl bm 3 e pG3_0 b7 A.Items) {r:aY} (h:qM N H T K A u=some r) :
  Calls prog 125 [.agg [.string H.Name,g].toArray,.agg [l,p].toArray,pQ a,.agg [b7,iV A.Next].toArray,iV u].toArray w0.w (bc f w0.w [[a],ob j,b6,ob d,ai].flatten (fun av Fs v=>∃ (aw:Value) (aM:List Nat) (ax:Value) (aN:List Nat),v = .tuple #[]∧Fs=[[a],ob aw,aM,ob ax,aN]∧OSl cz 133 1 av aM aw r.Alphas∧OSl bU 100 1 av aN ax r.Rules∧av a=some (.cells #[aw,ax] 35 (0,0)))):=by
 refine eL func125 J ntmps125 J (L:=[[a],ob j,b6,ob d,ai]) w0 (fun hF=>?_)
 unfold qM at h
 refine sr<|lbx J fun W=>lbx J fun X=>lbx J fun Y=>arr 5 [2] J<|kab h J J J (fun b z q=>o3 N b A u (aL.y z) q) ?_
 rintro B h v1 bG F1 ⟨Z,az,v2,rfl,rfl,h1⟩
 replace U:=U.fr az (Z.q 1 J) (Z.q 2 J)
 replace k:=k.fr az (Z.q 3 J) (Z.q 4 J)
 replace V:=az _ _ ((Z.q 0 J) _ OZ) V
 refine arr 3 [] J<|lnz nv J fun a1=>soN 0 oZ J ⟨J,h1.one,trivial⟩ J ?_
 refine arr 4 [] J<|le' (gT RB.lasts DH MZ J J) J ?_
 rintro v3 aX D1 ⟨ag,h2⟩
 replace U:=U.f0 ag
 replace k:=k.f0 ag
 replace h1:=h1.f0 ag
 replace V:=ag _ _ OZ V
 refine art 8 [] J ?_
 refine lin (σ:=Hp × (List cn) × List Nat × (List Bool) × Value × Int) (fun s=>[(2,pQ a),(4,iV u),(5,pQ W),(6,pQ X),(8,pQ Y),(10,pQ a1),(12,s.2.2.2.2.1),(13,iV s.2.2.2.2.2)]) (fun s=>St w0 s.1 [(a1,.cells #[.string B.1.Kind,v2] 52 (0,0)),(Y,.cells #[b7,iV A.Next] 29 (0,0)),(X,.cells #[l,p] 47 (0,0)),(W,.cells #[.string H.Name,g] 26 (0,0))] [ob s.2.2.2.2.1,ob v2,[a],ob j,s.2.2.1,ob d,ai]) (fun m s=>fD N H T K A u B m s.2.1 s.2.2.2.1 s.2.2.2.2.2=some r∧(OSl cz 133 1 s.1 s.2.2.1 j s.2.1)∧(OSl bU 100 1 s.1 ai d K.Rules)∧(OSl aS 95 3 s.1 [] v2 B.1.Fields)∧(OSl RB 4 1 s.1 [] s.2.2.2.2.1 s.2.2.2.1)∧(s.1 a=some (.cells #[j,d] 35 (0,0)))) (aX,K.Alphas,b6,([]:List Bool),v3,0) N ⟨h,U,k,h1,h2,V⟩ (sx [0,0,0,0,0,0,0] [0,0,0,0]) (fun n1 aO s hm=>?_)
 obtain⟨aP,s1,D2,s2,u1,s3⟩:=s
 obtain⟨h,w,k,h1,x,o⟩:=hm
 dsimp only at h w k h1 x o ⊢
 unfold fD at h
 refine atr 6 [0,64] J<|lnr au J<|la J<|en ?_
 refine ch h J ?_ ?_ <;> intro h
 ·refine att 4 [] J<|WT.draw mixed OX (fun _ h=>h.drew)<|aqq 3 [0,64] J ?_
  obtain⟨x2,aQ,h⟩:=bs h
  obtain⟨bH,F2,-,g1,bI,bJ,r1⟩:=au.el (a8 aQ).2.2
  obtain⟨v4,G1,v5,G2,rfl,rfl,h3,h4⟩:=r1
  refine qq (ak AH J J au aQ) J<|qq (ay vu J (fun y hw=>(g1.of_eq 0 4 J J:rg _ _ _ [.string x2.Kind,iV x2.N,v4,v5]).rangeAt hw.in0) J) J<|qq (ay nw J (fun y hw=>hw.rgO (i:=0) J 0 2 [.string B.1.Kind,v2] J) J) J ?_
  obtain⟨M,aZ,h⟩:=bs h
  refine qp (fj Ji J (fun y hw=>zN N (ba hw.fro) x2 B.1 (h3.y hw.up) (h4.y hw.up) h1.rsl aZ)) J<|aqr 6 [] J ?_
  have b1:RC RB 1 aP ([[]]:List (List Nat)) [.bool M] ([M]:List Bool):=RC.cons (c:=[.bool M]) (cells:=[]) ⟨J,J⟩ J (RC.nil _ _ _)
  refine le' (bv (vs:=[(0,.bool M)]) (C:=#[.bool M]) RB.lasts DH MZ J J J J (ao Mh (aa (C':=[.bool M]) J J J J J (ae))) J b1 J (by simpa using Kw.nil)) J ?_
  rintro v6 b2 D3 ⟨a7,h5⟩
  replace h5:OSl RB 4 1 b2 [] v6 ([M]:List Bool):=by simpa using h5
  replace w:=w.f0 a7
  replace k:=k.f0 a7
  replace h1:=h1.f0 a7
  replace x:=x.f0 a7
  replace o:=a7 _ _ OZ o
  obtain⟨x4,b3,h⟩:=bs h
  refine le' (cG RB.lasts RB.one RB.flat DH OC J J J J J (js:=[1]) (Rr:=[ob v6,ob v2,[a],ob j,D2,ob d,ai]) J x h5.rsl b3) J ?_
  rintro v7 aD D4 ⟨⟨P,ah⟩,I⟩
  replace w:=w.fr ah (P.q 3 J) (P.q 4 J)
  replace k:=k.fr ah (P.q 5 J) (P.q 6 J)
  replace h1:=h1.fr ah (P.q 1 J) dN
  replace o:=ah _ _ ((P.q 2 J) _ OZ) o
  refine art 6 [] J ?_
  refine ch h J ?_ ?_ <;> intro h
  ·obtain⟨x5,aF,h⟩:=bs h
   obtain⟨bK,F3,D5,E,r2,aG,b4⟩:=w.focus aF
   obtain⟨v8,rfl,rfl,h8⟩:=r2
   refine wtL [ob v8,D5,ob v7,ob v6,ob v2,[a],ob j,ob d,ai] (sre [5] [ob v8,D5] J (by simpa[gi] using b4))<|WT.mix (Kn w0 aD ([a]++ob j) [(a1,.cells #[.string B.1.Kind,v2] 52 (0,0)),(Y,.cells #[b7,iV A.Next] 29 (0,0)),(X,.cells #[l,p] 47 (0,0)),(W,.cells #[.string H.Name,g] 26 (0,0))]) (fun i=>match i with | 18=>false | _=>true) mixed (fun _ h=>h.drew)<|ma 0 J OX (kn Kf.id (am [0,1,2,3] J)) J ?_
   refine mq 1 J OX (kn Kf.id (am [0,1,2,3] J)) (aI J) J<|mq 2 J OX (kn Kf.id (am [0,1,2,3] J)) (aB l5 J) J<|mq 3 J OX (kn Kf.id (am [0,1,2,3] J)) (aW Cc J (fun y hw=>hw.rg (gh.2 (.inl OZ)) ((cC o).of_eq 0 1 J J:rg _ _ _ [j]))) J<|ma 4 J OX (kn Kf.id (am [0,1,2,3] J)) J<|ma 5 J OX (kn Kf.id (am [0,1,2,3] J)) J<|mq 6 J OX (kn Kf.id (am [0,1,2,3] J)) (aI J) J ?_
   refine mq 7 J OX (kn Kf.id (am [0,1,2,3] J)) (aB l5 J) J<|mq 8 J OX (kn Kf.id (am [0,1,2,3] J)) (aW Cc J (fun y hw=>hw.rg (gh.2 (.inl OZ)) ((cC o).of_eq 0 1 J J:rg _ _ _ [j]))) J<|ma 9 J OX (kn Kf.id (am [0,1,2,3] J)) J<|mq 10 J OX (kn Kf.id (am [0,1,2,3] J)) (cO vF J J E aF) J<|mq 11 J OX (kn Kf.id (am [0,1,2,3] J)) (aB lm J) J ?_
   refine mq 12 J OX (kn Kf.id (am [0,1,2,3] J)) (aW tQ J (fun y hw=>hw.rg (gh.2 (.inr E.hb)) (E.rg.of_eq 0 1 J J:rg _ _ _ [v8]))) J<|ma 13 J OX (kn Kf.id (am [0,1,2,3] J)) J ?_
   have bb:RC (RI .i64) 1 aD ([[]]:List (List Nat)) [iV u] ([u]:List Int):=RC.cons (c:=[iV u]) (cells:=[]) ⟨J,J⟩ J (RC.nil _ _ _)
   refine WM.one 14 OX (me J (fun _ v bd D y hq hw=>Kn.of (Kf.id.se hq.1) (am [0,1,2,3] J) hw) (bv (vs:=[(0,iV u)]) (C:=#[iV u]) RI.lasts bw jR J J J J (ao jm (aa (C':=[iV u]) J J J J J (ae))) J bb J (by simpa using Kw.nil)) J ?_)
   rintro v9 be D6 ⟨O,h9⟩
   replace h9:OSl (RI .i64) 3 1 be [] v9 ([u]:List Int):=by simpa using h9
   replace E:=E.f0 O
   replace k:=k.f0 O
   replace h1:=h1.f0 O
   replace I:=I.f0 O
   replace h8:=h8.f0 O
   replace o:=O _ _ OZ o
   obtain⟨x6,bf,h⟩:=bs h
   have aG:=(Kf.id (F:=([a]++ob j)):Kf aD _ _).se O
   refine WM.one 15 OX (me J (fun _ v bd D y hq hw=>Kn.of (aG.st hq.1.2 (Dj.app (hq.1.1.r (i:=5) J) (hq.1.1.r (i:=6) J))) (am [0,1,2,3] J) hw) (cG RI.lasts RI.one RI.flat bw oK J J J J J (js:=[1]) (Rr:=[ob v9,D5,ob v7,ob v6,ob v2,[a],ob j,ob d,ai]) J h8 h9.rsl bf) J ?_)
   rintro v10 bM D7 ⟨⟨G,Q⟩,al⟩
   replace E:=E.fr Q (G.q 6 J) (G.q 1 J)
   replace k:=k.fr Q (G.q 7 J) (G.q 8 J)
   replace h1:=h1.fr Q (G.q 4 J) dN
   replace I:=I.fr Q (G.q 2 J) dN
   replace o:=Q _ _ ((G.q 5 J) _ OZ) o
   have aR:=aG.st Q (Dj.app (G.q 5 J) (G.q 6 J))
   refine mqT 16 [17,18] J OX (kn aR (am [0,1,2,3] J)) (cO vF J J E aF) J<|mq 17 J OX (kn aR (am [0,1,2,3] J)) (aB lm J) J ?_
   refine WM.one 18 OX (mu J (fun hc=>by cases hc) (us [7] [ob v10,ob v9,D5,ob v7,ob v6,ob v2,[a],ob d,ai] 0 cz.lasts tB J J al.one J E J (fun ap=>ap.q 2 J)) J ?_)
   rintro bg D8 ⟨⟨S,ab⟩,bh⟩
   replace k:=k.fr ab (S.q 7 J) (S.q 8 J)
   replace h1:=h1.fr ab (S.q 5 J) dN
   replace I:=I.fr ab (S.q 3 J) dN
   replace al:=al.fr ab (S.q 0 J) dN
   replace o:=ab _ _ ((S.q 6 J) _ OZ) o
   refine WM.nil OX<|att 6 [] J ?_
   have r3:cz bg _ [v10] (⟨x6⟩:cn):=⟨v10,J,J,al⟩
   obtain⟨D9,bk,bl⟩:=bh.unfocus r3 (cz.knows _ _ _ _ r3)
   refine wtL [D9,ob j,ob v9,ob v7,ob v6,ob v2,[a],ob d,ai] (smg [1,2] J (by simpa[gi,cT] using bl)) ?_
   exact lb [3,4,4,1,0,2,2] [0,0,0,0] (aO (_,_,_,_,_,_) ⟨h,bk,k,h1,I,o⟩)
  refine att 7 [] J ?_
  exact lb [0,1,1,1,1,1,1] [0,0,0,0] (aO (_,_,_,_,_,_) ⟨h,w,k,h1,I,o⟩)
 refine att 6 [] J ?_
 refine lin (σ:=Hp × (List aV) × Value × List Nat × Int) (fun s=>[(2,pQ a),(4,iV u),(5,pQ W),(6,pQ X),(8,pQ Y),(10,pQ a1),(12,u1),(15,iV s.2.2.2.2)]) (fun s=>St w0 s.1 [(a1,.cells #[.string B.1.Kind,v2] 52 (0,0)),(Y,.cells #[b7,iV A.Next] 29 (0,0)),(X,.cells #[l,p] 47 (0,0)),(W,.cells #[.string H.Name,g] 26 (0,0))] [ob u1,ob v2,[a],ob j,D2,ob s.2.2.1,s.2.2.2.1]) (fun m s=>gV N H T A u B s1 s2 m s.2.1 s.2.2.2.2=some r∧(OSl cz 133 1 s.1 D2 j s1)∧(OSl bU 100 1 s.1 s.2.2.2.1 s.2.2.1 s.2.1)∧(OSl aS 95 3 s.1 [] v2 B.1.Fields)∧(OSl RB 4 1 s.1 [] u1 s2)∧(s.1 a=some (.cells #[j,s.2.2.1] 35 (0,0)))) (aP,K.Rules,d,ai,0) N ⟨h,w,k,h1,x,o⟩ (sx [0,0,0,0,0,0,0] [0,0,0,0]) (fun n2 bn s hm=>?_)
 obtain⟨bN,s4,u2,bo,s5⟩:=s
 obtain⟨h,w,k4,h1,x,k5⟩:=hm
 dsimp only at h w k4 h1 x k5 ⊢
 unfold gV at h
 refine atr 6 [1,96] J<|lnr aq J<|la J<|en ?_
 refine ch h J ?_ ?_ <;> intro h
 ·refine att 3 [] J<|wm [0,1,2,3] [16] J<|amm 9 [10,11,12,34,13,14,2,15,0,1,1,96,2] [0,1,2,3] J J ?_
  obtain⟨x7,aT,h⟩:=bs h
  obtain⟨bO,F4,-,g2,bP,bQ,r4⟩:=aq.el (a8 aT).2.2
  obtain⟨v11,G3,v12,G4,bp,G5,rfl,rfl,br,bt,bu⟩:=r4
  refine mqT 3 [4,16] J OX (kN [0,1,2,3]) (ak yW J J aq aT) J<|mq 4 J OX (kN [0,1,2,3]) (ay rL J (fun y hw=>(g2.of_eq 0 5 J J:rg _ _ _ [.string x7.Name,iV x7.Sal,v11,v12,bp]).rangeAt hw.1) J) J<|amm 3 [5,1,6,64,7] [0,1,2,3] J J ?_
  obtain⟨x8,aU,h⟩:=bs h
  obtain⟨bR,F5,-,g3,bS,bT,r5⟩:=aJ.el (a8 aU).2.2
  obtain⟨bz,G6,bA,G7,rfl,rfl,bB,bC⟩:=r5
  refine mqT 8 [9,16] J OX (kN [0,1,2,3]) (ak B6 J J aJ aU) J<|mq 9 J OX (kN [0,1,2,3]) (ay Hu J (fun y hw=>(g3.of_eq 0 2 J J:rg _ _ _ [bz,bA]).rangeAt hw.1) J) J ?_
  obtain⟨x9,bD,h⟩:=bs h
  refine WM.one 16 OX (mc J (fun hc=>by cases hc) (bL (js:=[2,4,4]) (R:=[ob u1,ob v2,ob j,D2]) JS J J (fun y hw ap hl=>yi N (bx hw ap hl) x7 x8 (⟨s1,s4⟩:aY) s5 A u B.1 s2 (br.y (hw.uo ap)) (bt.y (hw.uo ap)) (bu.y (hw.uo ap)) (bB.y (hw.uo ap)) (bC.y (hw.uo ap)) ((w.rslG cz.gives).x (Dj.app (ap.q 2 J) (ap.q 3 J))) k4 k5 (aL.y (hw.uo ap)) (h1.rsl.x (Dj.app (ap.q 1 J) dN)) (x.rsl.x (Dj.app (ap.q 0 J) dN))  bD)) J ?_)
  rintro bV bW F6 ⟨an,aH,v17,bZ,rfl,rfl,e1,bE,bF⟩
  replace w:=w.fr aH (an.q 2 J) (an.q 3 J)
  replace h1:=h1.fr aH (an.q 1 J) dN
  replace x:=x.fr aH (an.q 0 J) dN
  refine WM.nil OX<|att 6 [] J ?_
  exact lb [3,3,0,2,2,0,0] [0,0,0,0] (bn (_,_,_,_,_) ⟨h,w,bE,h1,x,bF⟩)
 refine xt J ?_
 refine WT.fin hF aC.none (fun y hw=>?_)
 cases h
 refine aK (js:=[2,2,2,2,2]) hw J ⟨j,D2,u2,bo,J,J,w,k4,k5⟩
theorem zF (w0:aA e f [[ad]].flatten) (T:ab) (aU:RSl (RI .u8) 1 e b0 g T.b) (bT:f ad=some (.cells #[g,iV T.i,iV T.h] 144 (0,0))) {r:bq × cA × aY × af × ab} (h:ou N T=some r) :
  Calls prog 60 [pQ ad].toArray w0.w (bc f w0.w [[ad]].flatten (fun ay Fs v=>∃ (bl:Value) (bG:List Nat) (bn:Value) (bH:List Nat) (bo:Value) (bJ:List Nat) (bp:Value) (bK:List Nat) (br:Value) (bM:List Nat) (bt:Value) (bN:List Nat) (X:List Nat),v = .tuple #[.agg [.string r.1.Name,bl].toArray,.agg [bn,bo].toArray,.agg [bp,br].toArray,.agg [bt,iV r.2.2.2.1.Next].toArray]∧Fs=[ob bl,bG,ob bn,ob bo,bJ,ob bp,bK,ob br,bM,ob bt,[ad],X]∧OSl dI 87 5 ay bG bl r.1.Rules∧OSl cP 137 4 ay bH bn r.2.1.Alphas∧(∀ k∈bH,k∈X)∧OSl bI 141 2 ay bJ bo r.2.1.Chains∧OSl cz 133 1 ay bK bp r.2.2.1.Alphas∧OSl bU 100 1 ay bM br r.2.2.1.Rules∧OSl bm 66 3 ay bN bt r.2.2.2.1.Items∧(∀ k∈bN,k∈X)∧r.2.2.2.2.b=T.b∧ay ad=some (.cells #[g,iV r.2.2.2.2.i,iV r.2.2.2.2.h] 144 (0,0)))):=by
 refine eL func60 J ntmps60 J (L:=[[ad]]) w0 (fun hF=>?_)
 unfold ou at h
 refine sr<|lnz yb J fun az=>lnz tq J fun aB=>lnz tc J fun aD=>lnz AR J fun aF=>arr 4 [] J<|kcb [0] h J J J J (fun b ap z q=>zI N b T (aU.y z) bT q) ?_
 rintro I h v1 c0 F1 ⟨c3,c4,v2,Y,rfl,rfl,h1,e1,h2⟩
 refine lnz yb J fun aG=>soN 0 AI J ⟨J,h1.one,trivial⟩ J ?_
 refine arr 4 [2] J<|kab h J J J (fun b z q=>Ab N b I.1 (h1.rslG dI.gives) q) ?_
 rintro x2 h v3 c5 F2 ⟨bu,bO,v4,D2,v5,Z,U,rfl,rfl,c,y,o⟩
 replace h1:=h1.fr bO (bu.q 0 J) (bu.q 1 J)
 replace h2:=bO _ _ ((bu.q 2 J) _ OZ) h2
 refine lnz tq J fun aH=>soN 0 ww J ⟨c.one,o.one,trivial⟩ J ?_
 refine arr 4 [2] J<|kab h J J J (fun b z q=>Ak N b x2 c.rsl (o.rslG bI.gives) q) ?_
 rintro x4 h v6 c6 F3 ⟨aI,bg,v7,D4,v8,D5,rfl,rfl,h5,h6⟩
 replace h1:=h1.fr bg (aI.q 4 J) (aI.q 5 J)
 replace c:=c.fr bg (aI.q 0 J) (Dj.sub (aI.q 3 J) y)
 replace o:=o.fr bg (aI.q 1 J) (aI.q 2 J)
 replace h2:=bg _ _ ((aI.q 6 J) _ OZ) h2
 refine lnz tc J fun bh=>soN 0 uD J ⟨h5.one,h6.one,trivial⟩ J ?_
 refine en<|sr<|lq (bA (vs:=[(1,iV 1)]) (C:=#[.slice none 0 0,iV 1]) KS AR J (aa (C':=[.slice none 0 0,iV 1]) J J J J J (ae))) J<|lnz AR J fun aO=>soN 0 EP J ⟨J,J,trivial⟩ J ?_
 refine arr 5 [] J<|kcb [10] h J J J J (fun b ap z q=>cR N b (⟨T.b,I.2.i,I.2.h⟩:ab) 10 (aU.y z) h2 q) ?_
 rintro x5 h v9 bP F4 ⟨a1,aX,rfl,rfl,e2,h7⟩
 replace h1:=h1.fr aX (a1.q 8 J) (a1.q 9 J)
 replace c:=c.fr aX (a1.q 4 J) (Dj.sub (a1.q 7 J) y)
 replace o:=o.fr aX (a1.q 5 J) (a1.q 6 J)
 replace h5:=h5.fr aX (a1.q 0 J) (a1.q 1 J)
 replace h6:=h6.fr aX (a1.q 2 J) (a1.q 3 J)
 refine art 3 [] J<|wt0<|wtS ?_
 have k1:=OSl.nil bm 66 3 bP
 refine lin (σ:=Hp × List Nat × (List cn) × Value × List Nat × (List aV) × Value × List Nat × (List au) × Value × List Nat × Int × Int × Int × Int) (fun s=>[(0,pQ ad),(2,pQ az),(3,pQ aB),(4,pQ aD),(5,pQ aF),(6,pQ aG),(7,pQ aH),(8,pQ bh),(9,pQ aO),(10,iV s.2.2.2.2.2.2.2.2.2.2.2.1)]) (fun s=>St w0 s.1 [(aO,.cells #[s.2.2.2.2.2.2.2.2.2.1,iV s.2.2.2.2.2.2.2.2.2.2.2.2.2.2] 29 (0,0)),(bh,.cells #[s.2.2.2.1,s.2.2.2.2.2.2.1] 35 (0,0)),(aH,.cells #[v4,v5] 47 (0,0)),(aG,.cells #[.string I.1.Name,v2] 26 (0,0)),(aF,.cells #[.slice none 0 0,iV 0] 29 (0,0)),(aD,.cells #[.slice none 0 0,.slice none 0 0] 35 (0,0)),(aB,.cells #[.slice none 0 0,.slice none 0 0] 47 (0,0)),(az,.cells #[.string (⟨#[]⟩:ByteArray),.slice none 0 0] 26 (0,0))] [ob s.2.2.2.2.2.2.2.2.2.1,s.2.1,[ad],ob s.2.2.2.1,s.2.2.2.2.1,ob s.2.2.2.2.2.2.1,s.2.2.2.2.2.2.2.1,ob v4,ob v5,Z,U,ob v2,Y]) (fun m s=>fT N T I x2 m s.2.2.1 s.2.2.2.2.2.1 s.2.2.2.2.2.2.2.2.1 s.2.2.2.2.2.2.2.2.2.2.2.1 s.2.2.2.2.2.2.2.2.2.2.2.2.1 s.2.2.2.2.2.2.2.2.2.2.2.2.2.1 s.2.2.2.2.2.2.2.2.2.2.2.2.2.2=some r∧(OSl dI 87 5 s.1 Y v2 I.1.Rules)∧(OSl cP 137 4 s.1 D2 v4 x2.Alphas)∧(OSl bI 141 2 s.1 Z v5 x2.Chains)∧(OSl cz 133 1 s.1 s.2.2.2.2.1 s.2.2.2.1 s.2.2.1)∧(OSl bU 100 1 s.1 s.2.2.2.2.2.2.2.1 s.2.2.2.2.2.2.1 s.2.2.2.2.2.1)∧(OSl bm 66 3 s.1 s.2.2.2.2.2.2.2.2.2.2.1 s.2.2.2.2.2.2.2.2.2.1 s.2.2.2.2.2.2.2.2.1)∧(∀ k∈s.2.2.2.2.2.2.2.2.2.2.1,k∈s.2.1)∧(s.1 ad=some (.cells #[g,iV s.2.2.2.2.2.2.2.2.2.2.2.2.1,iV s.2.2.2.2.2.2.2.2.2.2.2.2.2.1] 144 (0,0)))) (bP,[],x4.Alphas,v7,D4,x4.Rules,v8,D5,([]:List au),(.slice none 0 0),[],x5.1,x5.2.i,x5.2.h,1) N ⟨h,h1,c,o,h5,h6,k1,OZ,h7⟩ (sx [0,0,0,0,0,0,0,0,0,0,0,0,0] [0,0,0,0,0,0,0,0]) (fun n1 bw s hm=>?_)
 obtain⟨c7,X2,s1,u1,D6,s2,u2,D7,s3,u3,D8,s4,s5,s6,s7⟩:=s
 obtain⟨h,h1,c,o,w,x,u,i2,k5⟩:=hm
 dsimp only at h h1 c o w x u i2 k5 ⊢
 unfold fT at h
 refine att 6 [] J ?_
 refine ch h J ?_ ?_ <;> intro h
 ·refine atr 7 [] J<|kcb [2] h J J J J (fun b ap z q=>gX N b (⟨T.b,s5,s6⟩:ab) 4 (aU.y z) k5 q) ?_
  rintro x6 h v10 c8 F5 ⟨O,aP,rfl,rfl,e3,h8⟩
  replace h1:=h1.fr aP (O.q 10 J) (O.q 11 J)
  replace c:=c.fr aP (O.q 6 J) (Dj.sub (O.q 9 J) y)
  replace o:=o.fr aP (O.q 7 J) (O.q 8 J)
  replace w:=w.fr aP (O.q 2 J) (O.q 3 J)
  replace x:=x.fr aP (O.q 4 J) (O.q 5 J)
  replace u:=u.fr aP (O.q 0 J) (Dj.sub (O.q 1 J) i2)
  refine la J ?_
  obtain⟨b4,aZ,h⟩:=bs h
  refine WL.cutN 5 [(34,.bool b4),(0,pQ ad),(2,pQ az),(3,pQ aB),(4,pQ aD),(5,pQ aF),(6,pQ aG),(7,pQ aH),(8,pQ bh),(9,pQ aO),(10,iV s4)] ?_ (fun K=>?_)
  rotate_left
  ·refine sp 29 aZ J (fun aZ=>?_) fun aZ=>?_
   ·refine arr 2 [0,0] J<|ly J J<|lno u J<|arr 2 [] J ?_
    cases aZ
    exact ku K
   ·refine arr 5 [] J ?_
    cases aZ
    exact ku K
  refine en ?_
  refine ch h J ?_ ?_ <;> intro h
  ·refine sq<|wm [0,1,2,3,4,5,6,7] [] J<|amm 5 [0,0,1,0,2,3,0,4,0] [0,1,2,3,4,5,6,7] J J<|mq 5 J OX (kN [0,1,2,3,4,5,6,7]) (mP p9 J J u.rsl) J ?_
   obtain⟨x7,bV,h⟩:=bs h
   refine WM.one 6 OX (mc J (fun _ v c9 D w1 hq hw=>Kn.of Kf.nil (am [0,1,2,3,4,5,6,7] J) hw) (bL (js:=[0]) (R:=[ob u3,X2,ob u1,D6,ob u2,D7,ob v4,ob v5,Z,U,ob v2,Y]) MJ J J (fun w1 hw ap hl=>cR N (bx hw ap hl) (⟨T.b,x6.2.i,x6.2.h⟩:ab) (s3.length:Int) (aU.y (hw.uo ap)) h8  bV)) J ?_)
   rintro v11 ca F6 ⟨P,aQ,rfl,rfl,e4,M⟩
   replace h1:=h1.fr aQ (P.q 10 J) (P.q 11 J)
   replace c:=c.fr aQ (P.q 6 J) (Dj.sub (P.q 9 J) y)
   replace o:=o.fr aQ (P.q 7 J) (P.q 8 J)
   replace w:=w.fr aQ (P.q 2 J) (P.q 3 J)
   replace x:=x.fr aQ (P.q 4 J) (P.q 5 J)
   replace u:=u.fr aQ (P.q 0 J) (Dj.sub (P.q 1 J) i2)
   obtain⟨x8,bQ,h⟩:=bs h
   obtain⟨cb,F7,-,g1,cc,cd,r1⟩:=u.elS (a8 bQ).2.2
   obtain⟨v12,G1,rfl,bW,cf⟩:=r1
   obtain rfl:=bW.symm
   refine mq 7 J OX (kN [0,1,2,3,4,5,6,7]) (ak p9 J J u.rsl bQ) J<|amm 1 [8,0] [0,1,2,3,4,5,6,7] J J ?_
   refine on1 9 (mv J (kS [0,1,2,3,4,5,6,7]) (aW u6 J (fun w1 hw=>(g1.of_eq 0 1 J J:rg _ _ _ [iV x8.Id]).rangeAt hw.fro)) J ?_)
   refine amm 1 [10] [0,1,2,3,4,5,6,7] J J<|WM.nil OX<|atr 5 [98,2] J ?_
   refine WL.frz (js:=[1]) (R:=[(aO,.cells #[u3,iV s7] 29 (0,0)),(aH,.cells #[v4,v5] 47 (0,0)),(aG,.cells #[.string I.1.Name,v2] 26 (0,0)),(aF,.cells #[.slice none 0 0,iV 0] 29 (0,0)),(aD,.cells #[.slice none 0 0,.slice none 0 0] 35 (0,0)),(aB,.cells #[.slice none 0 0,.slice none 0 0] 47 (0,0)),(az,.cells #[.string (⟨#[]⟩:ByteArray),.slice none 0 0] 26 (0,0))]) J (fun cg aJ k6=>?_)
   replace h1:=h1.f0 aJ
   replace c:=c.f0 aJ
   replace o:=o.f0 aJ
   replace w:=w.f0 aJ
   replace x:=x.f0 aJ
   replace u:=u.f0 aJ
   replace M:=aJ _ _ OZ M
   refine kcb [0,3,3,3,3] h J J J J (fun b ap z q=>yj N b I.1 (⟨s1,s2⟩:aY) (⟨s3,s7⟩:af) x8.Id ((h1.rslG dI.gives).x (Dj.app (ap.q 7 J) (ap.q 8 J))) w x k6 (u.rsl.x (Dj.app (ap.q 1 J) (Dj.sub (ap.q 2 J) i2))) q) ?_
   rintro x9 h cj ck F8 ⟨ag,b1,bz,D9,bB,bC,rfl,rfl,ah,al,b2⟩
   replace h1:=h1.fr b1 (ag.q 7 J) (ag.q 8 J)
   replace c:=c.fr b1 (ag.q 3 J) (Dj.sub (ag.q 6 J) y)
   replace o:=o.fr b1 (ag.q 4 J) (ag.q 5 J)
   replace u:=u.fr b1 (ag.q 1 J) (Dj.sub (ag.q 2 J) i2)
   replace M:=b1 _ _ ((ag.q 0 J) _ OZ) M
   refine arr 4 [] J ?_
   refine WL.frz (js:=[0]) (R:=[(aH,.cells #[v4,v5] 47 (0,0)),(aG,.cells #[.string I.1.Name,v2] 26 (0,0)),(aF,.cells #[.slice none 0 0,iV 0] 29 (0,0)),(aD,.cells #[.slice none 0 0,.slice none 0 0] 35 (0,0)),(aB,.cells #[.slice none 0 0,.slice none 0 0] 47 (0,0)),(az,.cells #[.string (⟨#[]⟩:ByteArray),.slice none 0 0] 26 (0,0))]) J (fun cm an k7=>?_)
   replace h1:=h1.f0 an
   replace c:=c.f0 an
   replace o:=o.f0 an
   replace u:=u.f0 an
   replace ah:=ah.f0 an
   replace al:=al.f0 an
   replace b2:=an _ _ OZ b2
   replace M:=an _ _ OZ M
   refine kcb [0] h J J J J (fun b ap z q=>zJ N b (⟨s3,s7⟩:af) x8.Id (u.rsl.x (Dj.app (ap.q 6 J) (Dj.sub (ap.q 7 J) i2))) k7 q) ?_
   rintro cp h cq cr F9 ⟨Q,aL,v17,ct,rfl,rfl,b3,i3,bD⟩
   replace h1:=h1.fr aL (Q.q 12 J) (Q.q 13 J)
   replace c:=c.fr aL (Q.q 8 J) (Dj.sub (Q.q 11 J) y)
   replace o:=o.fr aL (Q.q 9 J) (Q.q 10 J)
   replace ah:=ah.fr aL (Q.q 1 J) (Q.q 2 J)
   replace al:=al.fr aL (Q.q 3 J) (Q.q 4 J)
   replace b2:=aL _ _ ((Q.q 0 J) _ OZ) b2
   replace M:=aL _ _ ((Q.q 5 J) _ OZ) M
   refine art 7 [] J ?_
   refine WT.thw (js:=[2]) (R:=[[aO],ob v17,ob bz,D9,ob bB,bC,[ad],ob u3,X2,ob v4,ob v5,Z,U,ob v2,Y]) J b2 (fun cu A ao=>?_)
   replace h1:=h1.fr ao (A.q 13 J) (A.q 14 J)
   replace c:=c.fr ao (A.q 9 J) (Dj.sub (A.q 12 J) y)
   replace o:=o.fr ao (A.q 10 J) (A.q 11 J)
   replace ah:=ah.fr ao (A.q 2 J) (A.q 3 J)
   replace al:=al.fr ao (A.q 4 J) (A.q 5 J)
   replace b3:=b3.fr ao (A.q 1 J) (Dj.sub (Dj.app (A.q 7 J) (Dj.sub (A.q 8 J) i2)) i3)
   replace bD:=ao _ _ ((A.q 0 J) _ OZ) bD
   replace M:=ao _ _ ((A.q 6 J) _ OZ) M
   refine WT.thw (js:=[0]) (R:=[ob v17,ob bz,D9,ob bB,bC,[ad],ob u3,X2,ob v4,ob v5,Z,U,ob v2,Y]) J bD (fun cv E aM=>?_)
   replace h1:=h1.fr aM (E.q 12 J) (E.q 13 J)
   replace c:=c.fr aM (E.q 8 J) (Dj.sub (E.q 11 J) y)
   replace o:=o.fr aM (E.q 9 J) (E.q 10 J)
   replace ah:=ah.fr aM (E.q 1 J) (E.q 2 J)
   replace al:=al.fr aM (E.q 3 J) (E.q 4 J)
   replace b3:=b3.fr aM (E.q 0 J) (Dj.sub (Dj.app (E.q 6 J) (Dj.sub (E.q 7 J) i2)) i3)
   replace M:=aM _ _ ((E.q 5 J) _ OZ) M
   refine wtL [(X2++(ob u3)),ob v17,ob bz,D9,ob bB,bC,[ad],ob v4,ob v5,Z,U,ob v2,Y] (smg [7,6] J (SP.eq (by simp[gi]))) ?_
   exact lb [1,0,4,0,0,0,0,0,0,0,0,0,0] [0,0,0,0,0,0,0,0] (bw (_,_,_,_,_,_,_,_,_,_,_,_,_,_,_) ⟨h,h1,c,o,ah,al,b3,(fun k hk=>((gh.1 (i3 k hk)).elim (fun h=>((fun k hk=>(gh.2 (.inr hk))) k h)) (fun h=>((fun k hk=>(gh.2 (.inl hk))) k (i2 k h))))),M⟩)
  refine atr 4 [] J<|kcb [0] h J J J J (fun b ap z q=>A0 N b (⟨T.b,x6.2.i,x6.2.h⟩:ab) (aU.y z) h8 q) ?_
  rintro bk h cw cx cy ⟨S,aR,ba,rfl,rfl,bb,e5,G⟩
  replace h1:=h1.fr aR (S.q 10 J) (S.q 11 J)
  replace c:=c.fr aR (S.q 6 J) (Dj.sub (S.q 9 J) y)
  replace o:=o.fr aR (S.q 7 J) (S.q 8 J)
  replace w:=w.fr aR (S.q 2 J) (S.q 3 J)
  replace x:=x.fr aR (S.q 4 J) (S.q 5 J)
  replace u:=u.fr aR (S.q 0 J) (Dj.sub (S.q 1 J) i2)
  refine lnz nv J fun bR=>soN 0 oZ J ⟨J,bb.one,trivial⟩ J ?_
  refine arr 5 [34,2] J<|qc h (tn N · (⟨s3,s7⟩:af) bk.1 u.rsl bb.rsl ·) J J J fun cB h=>la J<|en ?_
  refine ch h J ?_ ?_ <;> intro h
  ·refine atr 3 [2] J ?_
   refine WL.frz (js:=[1]) (R:=[(bR,.cells #[.string bk.1.Kind,ba] 52 (0,0)),(bh,.cells #[u1,u2] 35 (0,0)),(aH,.cells #[v4,v5] 47 (0,0)),(aG,.cells #[.string I.1.Name,v2] 26 (0,0)),(aF,.cells #[.slice none 0 0,iV 0] 29 (0,0)),(aD,.cells #[.slice none 0 0,.slice none 0 0] 35 (0,0)),(aB,.cells #[.slice none 0 0,.slice none 0 0] 47 (0,0)),(az,.cells #[.string (⟨#[]⟩:ByteArray),.slice none 0 0] 26 (0,0))]) J (fun cD aq k8=>?_)
   replace h1:=h1.f0 aq
   replace bb:=bb.f0 aq
   replace c:=c.f0 aq
   replace o:=o.f0 aq
   replace w:=w.f0 aq
   replace x:=x.f0 aq
   replace u:=u.f0 aq
   replace G:=aq _ _ OZ G
   refine kcb [0,2] h J J J J (fun b ap z q=>xJ N b (⟨s3,s7⟩:af) bk.1 u k8 (bb.rsl.x (Dj.app (ap.q 0 J) dN)) (Dj.sub (ap.q 2 J) i2) q) ?_
   rintro bS h v20 cE cF ⟨V,aS,v21,cG,X3,rfl,rfl,a7,i4,av⟩
   replace h1:=h1.fr aS (V.q 11 J) (V.q 12 J)
   replace c:=c.fr aS (V.q 7 J) (Dj.sub (V.q 10 J) y)
   replace o:=o.fr aS (V.q 8 J) (V.q 9 J)
   replace w:=w.fr aS (V.q 3 J) (V.q 4 J)
   replace x:=x.fr aS (V.q 5 J) (V.q 6 J)
   replace G:=aS _ _ ((V.q 1 J) _ OZ) G
   refine arr 5 [98,66] J<|lgx 0 2 (cC av) J<|la J ?_
   refine WL.frz (js:=[1]) (R:=[(bR,.cells #[.string bk.1.Kind,ba] 52 (0,0)),(aH,.cells #[v4,v5] 47 (0,0)),(aG,.cells #[.string I.1.Name,v2] 26 (0,0)),(aF,.cells #[.slice none 0 0,iV 0] 29 (0,0)),(aD,.cells #[.slice none 0 0,.slice none 0 0] 35 (0,0)),(aB,.cells #[.slice none 0 0,.slice none 0 0] 47 (0,0)),(az,.cells #[.string (⟨#[]⟩:ByteArray),.slice none 0 0] 26 (0,0))]) J (fun cH aw k9=>?_)
   replace h1:=h1.f0 aw
   replace a7:=a7.f0 aw
   replace c:=c.f0 aw
   replace o:=o.f0 aw
   replace w:=w.f0 aw
   replace x:=x.f0 aw
   replace av:=aw _ _ OZ av
   replace G:=aw _ _ OZ G
   refine kcb [0,6,6,6,6] h J J J J (fun b ap z q=>Al N b I.1 x2 (⟨s1,s2⟩:aY) bS.2 bS.1 ((h1.rslG dI.gives).x (Dj.app (ap.q 10 J) (ap.q 11 J))) (c.rsl.x (Dj.app (ap.q 6 J) (Dj.sub (ap.q 9 J) y))) ((o.rslG bI.gives).x (Dj.app (ap.q 7 J) (ap.q 8 J))) w x k9 (a7.rsl.x (Dj.app (ap.q 1 J) (Dj.sub (Dj.app (ap.q 2 J) (Dj.sub (ap.q 5 J) i2)) i4))) q) ?_
   rintro cI h v22 cJ cK ⟨W,aT,v23,bE,v24,bF,rfl,rfl,bd,be,bZ⟩
   replace h1:=h1.fr aT (W.q 10 J) (W.q 11 J)
   replace a7:=a7.fr aT (W.q 1 J) (Dj.sub (Dj.app (W.q 2 J) (Dj.sub (W.q 5 J) i2)) i4)
   replace c:=c.fr aT (W.q 6 J) (Dj.sub (W.q 9 J) y)
   replace o:=o.fr aT (W.q 7 J) (W.q 8 J)
   replace av:=aT _ _ ((W.q 0 J) _ OZ) av
   replace G:=aT _ _ ((W.q 4 J) _ OZ) G
   refine art 7 [] J ?_
   refine WT.thw (js:=[0]) (R:=[ob v23,bE,ob v24,bF,[aO],ob v21,X3,ob ba,[ad],X2,ob v4,ob v5,Z,U,ob v2,Y]) J bZ (fun cL B ax=>?_)
   replace h1:=h1.fr ax (B.q 14 J) (B.q 15 J)
   replace a7:=a7.fr ax (B.q 5 J) (Dj.sub (Dj.app (B.q 6 J) (Dj.sub (B.q 9 J) i2)) i4)
   replace bd:=bd.fr ax (B.q 0 J) (B.q 1 J)
   replace be:=be.fr ax (B.q 2 J) (B.q 3 J)
   replace c:=c.fr ax (B.q 10 J) (Dj.sub (B.q 13 J) y)
   replace o:=o.fr ax (B.q 11 J) (B.q 12 J)
   replace av:=ax _ _ ((B.q 4 J) _ OZ) av
   replace G:=ax _ _ ((B.q 8 J) _ OZ) G
   refine WT.thw (js:=[4]) (R:=[ob v23,bE,ob v24,bF,ob v21,X3,ob ba,[ad],X2,ob v4,ob v5,Z,U,ob v2,Y]) J av (fun cM H aN=>?_)
   replace h1:=h1.fr aN (H.q 13 J) (H.q 14 J)
   replace a7:=a7.fr aN (H.q 4 J) (Dj.sub (Dj.app (H.q 5 J) (Dj.sub (H.q 8 J) i2)) i4)
   replace bd:=bd.fr aN (H.q 0 J) (H.q 1 J)
   replace be:=be.fr aN (H.q 2 J) (H.q 3 J)
   replace c:=c.fr aN (H.q 9 J) (Dj.sub (H.q 12 J) y)
   replace o:=o.fr aN (H.q 10 J) (H.q 11 J)
   replace G:=aN _ _ ((H.q 7 J) _ OZ) G
   refine wtL [(X2++(X3)),ob v23,bE,ob v24,bF,ob v21,ob ba,[ad],ob v4,ob v5,Z,U,ob v2,Y] (smg [8,5] J (SP.eq (by simp[gi]))) ?_
   exact lb [5,0,5,0,0,0,0,1,1,1,1,1,1] [0,0,1,1,1,1,1,1] (bw (_,_,_,_,_,_,_,_,_,_,_,_,_,_,_) ⟨h,h1,c,o,bd,be,a7,(fun k hk=>((gh.1 (i4 k hk)).elim (fun h=>((fun k hk=>(gh.2 (.inr hk))) k h)) (fun h=>((fun k hk=>(gh.2 (.inl hk))) k (i2 k h))))),G⟩)
  refine att 7 [] J ?_
  exact lb [2,2,1,1,1,1,1,1,1,1,1,1,1] [1,1,1,1,1,1,1,1] (bw (_,_,_,_,_,_,_,_,_,_,_,_,_,_,_) ⟨h,h1,c,o,w,x,u,(fun k hk=>(i2 k hk)),G⟩)
 refine xt J<|sq<|wm [0,1,2,3,4] [7] J<|amm 4 [0,98,1,66,2,34,3,2] [0,1,2,3,4] J J ?_
 refine on1 4 (msK 7 [0,1,2,3,4] J AI J ⟨J,h1.one,trivial⟩ J J ?_)
 refine on1 5 (msK 6 [0,1,2,3,4] J ww J ⟨c.one,o.one,trivial⟩ J J ?_)
 refine on1 6 (msK 5 [0,1,2,3,4] J uD J ⟨w.one,x.one,trivial⟩ J J ?_)
 refine on1 7 (msN 4 J nk EP J ⟨u.one,J,trivial⟩ J J ?_)
 refine WM.nil OX ?_
 refine WT.ret hF (aC.four (bf Fi J (fun w1 hw=>hw.rgO (i:=7) J 0 2 [.string I.1.Name,v2] J) J) (bf FV J (fun w1 hw=>hw.rgO (i:=6) J 0 2 [v4,v5] J) J) (bf Az J (fun w1 hw=>hw.rgO (i:=5) J 0 2 [u1,u2] J) J) (bf sm J (fun w1 hw=>hw.rgO (i:=4) J 0 2 [u3,iV s7] J) J)) (fun w1 hw=>?_)
 cases h
 replace hw:=hw.merge (js:=[10,1]) (F:=[U,X2].flatten) J (SP.eq OZ)
 refine aK (js:=[10,10,7,7,7,3,3,3,3,1,1,0]) hw J ⟨v2,Y,v4,D2,v5,Z,u1,D6,u2,D7,u3,D8,[U,X2].flatten,J,J,h1,c,(fun k hk=>(rr.2 ⟨U,OZ,(y k hk)⟩)),o,w,x,u,(fun k hk=>(rr.2 ⟨X2,OZ,(i2 k hk)⟩)),J,k5⟩
theorem yz (w0:aA e f []) (s:(List Int)) (C:RSl (RI .u8) 1 e b9 ar s) {r:bq × cA × aY × af} (h:ov N s=some r) :
  Calls prog 17 [ar].toArray w0.w (bc f w0.w [] (fun c Fs v=>∃ (u:Value) (D:List Nat) (w:Value) (E:List Nat) (x:Value) (G:List Nat) (y:Value) (H:List Nat) (A:Value) (I:List Nat) (B:Value) (K:List Nat) (X:List Nat),v = .tuple #[.agg [.string r.1.Name,u].toArray,.agg [w,x].toArray,.agg [y,A].toArray,.agg [B,iV r.2.2.2.Next].toArray]∧Fs=[ob u,D,ob w,ob x,G,ob y,H,ob A,I,ob B,X]∧OSl dI 87 5 c D u r.1.Rules∧OSl cP 137 4 c E w r.2.1.Alphas∧(∀ k∈E,k∈X)∧OSl bI 141 2 c G x r.2.1.Chains∧OSl cz 133 1 c H y r.2.2.1.Alphas∧OSl bU 100 1 c I A r.2.2.1.Rules∧OSl bm 66 3 c K B r.2.2.2.Items∧(∀ k∈K,k∈X))):=by
 refine eN func17 J ntmps17 J w0 fun V=>?_
 unfold ov at h
 refine sr<|lnz yb J fun a1=>lnz tq J fun a7=>lnz tc J fun a8=>lnz AR J fun aa=>arr 4 [] J<|kab h J J J (fun b z q=>Bh N b s (C.y z) q) ?_
 rintro W h v1 ab F1 ⟨ae,ag,ah,v2,G1,rfl,rfl,h1,Y,Z⟩
 refine arr 5 [] J<|kcb [0] h J J J J (fun b ap z q=>zF N b W (h1.x (Dj.sub (ap.o C.old) Y)) Z q) ?_
 rintro L h v3 ak F2 ⟨al,an,v4,D1,v5,D2,v6,D3,M,D4,O,D5,v9,D6,m,rfl,rfl,P,Q,i2,R,S,T,U,i3,e1,h9⟩
 refine arr 4 [] J<|soN 3 AI J ⟨J,P.one,trivial⟩ J ?_
 refine soN 2 ww J ⟨Q.one,R.one,trivial⟩ J ?_
 refine soN 1 uD J ⟨S.one,T.one,trivial⟩ J ?_
 refine soN 0 EP J ⟨U.one,J,trivial⟩ J ?_
 refine en ?_
 refine WT.ret V (aC.four (bf Fi J (fun o hw=>hw.rgO (i:=3) J 0 2 [.string L.1.Name,v4] J) J) (bf FV J (fun o hw=>hw.rgO (i:=2) J 0 2 [v5,v6] J) J) (bf Az J (fun o hw=>hw.rgO (i:=1) J 0 2 [M,O] J) J) (bf sm J (fun o hw=>hw.rgO (i:=0) J 0 2 [v9,iV L.2.2.2.1.Next] J) J)) (fun o hw=>?_)
 cases h
 replace hw:=hw.merge (js:=[11]) (F:=[m].flatten) J (SP.eq OZ)
 refine aK (js:=[1,1,1,1,1,1,1,1,1,1,0]) hw J ⟨v4,D1,v5,D2,v6,D3,M,D4,O,D5,v9,D6,[m].flatten,J,J,P,Q,(fun k hk=>(rr.2 ⟨m,OZ,(i2 k hk)⟩)),R,S,T,U,(fun k hk=>(rr.2 ⟨m,OZ,(i3 k hk)⟩))⟩
theorem ir {i:Nat} {q:List Value} (w0:aA e f []) (b:(List ax)) (u:(List ax)) (v:ax→ax→Option (Bool)) (w:RSl cP 4 e b9 ar b) (x:RSl cP 4 e bY aE u) (I:Fun prog i=true) (K:∀ {c:Hp} {w':World},FrH [] f c→In c w'→∀ (k:ax) (o:ax) {z:Value} {L:List Nat} {A:Value} {M:List Nat} {B:Value} {O:List Nat} {C:Value} {P:List Nat} (_:RSl aS 3 c L z k.Consts) (_:RSl (RI .i64) 1 c M A k.At) (_:RSl aS 3 c O B o.Consts) (_:RSl (RI .i64) 1 c P C o.At) {r:Bool},v k o=some r→Calls prog i (([.agg [.string k.Kind,iV k.N,z,A].toArray,.agg [.string o.Kind,iV o.N,B,C].toArray]:List Value)++q).toArray w' (mM (.bool r) w')) {r:Bool} (h:bd N b u v=some r) :
  CB w0 prog 84 [ar,aE,.func (.func i) #[] q.toArray] (.bool r):=by
 refine eN func84 J ntmps84 J w0 fun y=>?_
 unfold bd at h
 refine atr 8 [] J<|lnr w J<|la J<|lnr x J<|la J<|en ?_
 refine ch h J ?_ ?_ <;> intro h
 ·refine att 4 [] J ?_
  exact rt y h
 refine atr 5 [] J<|lnr w J<|art 3 [] J ?_
 refine lin (σ:=Int) (fun s=>[(1,aE),(2,.func (.func i) #[] q.toArray),(15,ar),(16,iV (b.length:Int)),(17,iV s)]) (fun s=>St w0 f [] []) (fun m s=>aR N b u v m s=some r) (0) N h (sx [] []) (fun Q R s hm=>?_)
 revert hm;revert s;intro s1 hm
 have h:aR N b u v (Q+1) s1=some r:=hm
 show WT _ _ [(1,aE),(2,.func (.func i) #[] q.toArray),(15,ar),(16,iV (b.length:Int)),(17,iV s1)] (St w0 f [] [])
 unfold aR at h
 refine att 5 [] J ?_
 refine ch h J ?_ ?_ <;> intro h
 ·refine atr 6 [] J ?_
  obtain⟨S,D,h⟩:=bs h
  obtain⟨X,Y,-,g1,Z,a1,T⟩:=w.el (a8 D).2.2
  obtain⟨v1,G1,v2,G2,rfl,rfl,h1,E⟩:=T
  refine lia w D J<|lhx 0 4 g1 J<|lnz nK J fun a7=>la J<|soN 0 sM J ⟨J,J,h1.one,E.one,trivial⟩ J ?_
  refine arr 5 [] J ?_
  obtain⟨U,F,h⟩:=bs h
  obtain⟨aa,F2,-,g2,ab,ae,V⟩:=x.el (a8 F).2.2
  obtain⟨v3,G3,v4,G4,rfl,rfl,G,H⟩:=V
  refine lia x F J<|lhx 0 4 g2 J<|lnz nK J fun af=>soN 0 sM J ⟨J,J,G.one,H.one,trivial⟩ J ?_
  refine arr 6 [36,4] J ?_
  obtain⟨x3,W,h⟩:=bs h
  refine lp (m3 I J J (fun w1 hw=>K hw.frB hw.fro S U (h1.y hw.up) (E.y hw.up) (G.y hw.up) (H.y hw.up) W)) J<|la J<|en ?_
  refine ch h J ?_ ?_ <;> intro h
  ·refine att 4 [] J ?_
   exact rt y h
  refine att 6 [] J ?_
  exact lb [] [] (R _ h)
 refine att 5 [] J ?_
 exact rt y h
theorem ic {i:Nat} {k:List Value} (w0:aA e f []) (b:(List aJ)) (o:(List aJ)) (q:aJ→aJ→Option (Bool)) (u:RSl fw 2 e b9 ar b) (v:RSl fw 2 e bY aE o) (I:Fun prog i=true) (K:∀ {c:Hp} {w':World},FrH [] f c→In c w'→∀ (w:aJ) (x:aJ) {z:Value} {L:List Nat} {A:Value} {M:List Nat} {B:Value} {O:List Nat} {C:Value} {P:List Nat} (_:RSl (RI .i64) 1 c L z w.Pos) (_:RSl (RI .i64) 1 c M A w.Neg) (_:RSl (RI .i64) 1 c O B x.Pos) (_:RSl (RI .i64) 1 c P C x.Neg) {r:Bool},q w x=some r→Calls prog i (([.agg [z,A].toArray,.agg [B,C].toArray]:List Value)++k).toArray w' (mM (.bool r) w')) {r:Bool} (h:bb N b o q=some r) :
  CB w0 prog 86 [ar,aE,.func (.func i) #[] k.toArray] (.bool r):=by
 refine eN func86 J ntmps86 J w0 fun y=>?_
 unfold bb at h
 refine atr 8 [] J<|lnr u J<|la J<|lnr v J<|la J<|en ?_
 refine ch h J ?_ ?_ <;> intro h
 ·refine att 4 [] J ?_
  exact rt y h
 refine atr 5 [] J<|lnr u J<|art 3 [] J ?_
 refine lin (σ:=Int) (fun s=>[(1,aE),(2,.func (.func i) #[] k.toArray),(15,ar),(16,iV (b.length:Int)),(17,iV s)]) (fun s=>St w0 f [] []) (fun m s=>aP N b o q m s=some r) (0) N h (sx [] []) (fun Q R s hm=>?_)
 revert hm;revert s;intro s1 hm
 have h:aP N b o q (Q+1) s1=some r:=hm
 show WT _ _ [(1,aE),(2,.func (.func i) #[] k.toArray),(15,ar),(16,iV (b.length:Int)),(17,iV s1)] (St w0 f [] [])
 unfold aP at h
 refine att 5 [] J ?_
 refine ch h J ?_ ?_ <;> intro h
 ·refine atr 6 [] J ?_
  obtain⟨S,D,h⟩:=bs h
  obtain⟨X,Y,-,g1,Z,a1,T⟩:=u.el (a8 D).2.2
  obtain⟨v1,G1,v2,G2,rfl,rfl,h1,E⟩:=T
  refine lia u D J<|lhx 0 2 g1 J<|lnz tK J fun a7=>la J<|soN 0 BL J ⟨h1.one,E.one,trivial⟩ J ?_
  refine arr 5 [] J ?_
  obtain⟨U,F,h⟩:=bs h
  obtain⟨aa,F2,-,g2,ab,ae,V⟩:=v.el (a8 F).2.2
  obtain⟨v3,G3,v4,G4,rfl,rfl,G,H⟩:=V
  refine lia v F J<|lhx 0 2 g2 J<|lnz tK J fun af=>soN 0 BL J ⟨G.one,H.one,trivial⟩ J ?_
  refine arr 6 [34,2] J ?_
  obtain⟨x3,W,h⟩:=bs h
  refine lp (m3 I J J (fun w1 hw=>K hw.frB hw.fro S U (h1.y hw.up) (E.y hw.up) (G.y hw.up) (H.y hw.up) W)) J<|la J<|en ?_
  refine ch h J ?_ ?_ <;> intro h
  ·refine att 4 [] J ?_
   exact rt y h
  refine att 6 [] J ?_
  exact lb [] [] (R _ h)
 refine att 5 [] J ?_
 exact rt y h
theorem wW (w0:aA e f []) (c:aJ) (i:aJ) (k:RSl (RI .i64) 1 e b0 g c.Pos) (m:RSl (RI .i64) 1 e bj n c.Neg) (o:RSl (RI .i64) 1 e b8 l i.Pos) (q:RSl (RI .i64) 1 e bX p i.Neg) {r:Bool} (h:fA N c i=some r) :
  CB w0 prog 87 [.agg [g,n].toArray,.agg [l,p].toArray] (.bool r):=by
 refine eN func87 J ntmps87 J w0 fun s=>?_
 unfold fA at h
 refine sr<|lbx J fun v=>lbx J fun w=>arr 8 [0,32,0,0] J<|qd h (eO N · c.Pos i.Pos k o ·) J J J fun x h=>la J ?_
 obtain⟨u,b,h⟩:=bs h
 refine WL.cutN 6 [(16,.bool u),(4,.bool false)] ?_ (fun K=>?_)
 rotate_left
 ·refine sp 10 b J (fun b=>?_) fun b=>?_
  ·refine arr 4 [1,32,1,0] J<|ly J J<|qd b (eO N · c.Neg i.Neg m q ·) J J J fun y b=>la J ?_
   cases b
   exact ku K
  ·refine arr 6 [] J ?_
   cases b
   exact ku K
 refine la J<|en ?_
 exact rt s h
theorem Bv (w0:aA e f []) (i:cA) (k:bq) (y:RSl cP 4 e b0 g i.Alphas) (A:RSl fw 2 e bj n i.Chains) (u:RSl eC 5 e b8 l k.Rules) {r:Bool} (h:sg N i k=some r) :
  CB w0 prog 32 [.agg [g,n].toArray,.agg [.string k.Name,l].toArray] (.bool r):=by
 refine eN func32 J ntmps32 J w0 fun v=>?_
 unfold sg at h
 refine sr<|lbx J fun D=>lbx J fun E=>arr 6 [2] J<|qd h (sL N · k u ·) J J J fun F h=>la J<|en ?_
 refine ch h J ?_ ?_ <;> intro h
 ·refine att 4 [] J ?_
  exact rt v h
 refine atr 4 [2] J<|kab h J J J (fun b z q=>wy N b k (u.y z) q) ?_
 rintro w h v1 G H ⟨I,L,v2,M,v3,O,rfl,rfl,h1,x⟩
 refine lnz tq J fun P=>soN 0 ww J ⟨h1.one,x.one,trivial⟩ J ?_
 refine arr 7 [0,64,0,0] J<|qz h (fun b z q=>ir N b i.Alphas w.Alphas (eF N) (y.y z) (h1.rslG dt.gives) Mb (fun B m a0 o=>fun f0 f1 f2 f3=>fun s=>sh N (ba m) a0 o f0 f1 f2 f3 s) q) J J J fun Q h=>la J ?_
 obtain⟨C,c,h⟩:=bs h
 refine WL.cutN 6 [(22,.bool C)] ?_ (fun K=>?_)
 rotate_left
 ·refine sp 16 c J (fun c=>?_) fun c=>?_
  ·refine arr 4 [1,64,1,0] J<|ly J J<|qz c (fun b z q=>ic N b i.Chains w.Chains (fA N) (A.y z) (x.rslG bI.gives) LM (fun B m a0 o=>fun f0 f1 f2 f3=>fun s=>wW N (ba m) a0 o f0 f1 f2 f3 s) q) J J J fun R c=>la J ?_
   cases c
   exact ku K
  ·refine arr 6 [] J ?_
   cases c
   exact ku K
 refine la J<|en ?_
 exact rt v h
theorem oQ  (w0:aA e f []) (c:Int)  {r:Bool} (h:jM N c=some r) :
  CB w0 prog 106 [.int .u8 c] (.bool r):=by
 refine eN func106 J ntmps106 J w0 fun k=>?_
 unfold jM at h
 refine atr 7 [] J<|lq (kx Gb vJ J) J<|qc h (d9 N · (wz c) 97 122 ·) J J J fun q h=>la J ?_
 obtain⟨m,b,h⟩:=bs h
 refine WL.cutN 4 [(10,.bool m),(0,.int .u8 c),(2,.bool false)] ?_ (fun K=>?_)
 rotate_left
 ·refine sp 6 b J (fun b=>?_) fun b=>?_
  ·refine arr 4 [] J ?_
   cases b
   exact ku K
  ·refine ly J J<|la J<|ly J J<|lq (kx Gb vJ J) J<|ly J J<|qc b (d9 N · (wz c) 48 57 ·) J J J fun s b=>la J ?_
   cases b
   exact ku K
 refine la J ?_
 obtain⟨o,i,h⟩:=bs h
 refine WL.cutN 3 [(14,.bool o),(2,.bool false)] ?_ (fun K=>?_)
 rotate_left
 ·refine sp 11 i J (fun i=>?_) fun i=>?_
  ·refine arr 3 [] J ?_
   cases i
   exact ku K
  ·refine arr 3 [] J ?_
   cases i
   exact ku K
 refine la J<|en ?_
 exact rt k h
theorem i7  (w0:aA e f []) (b:ByteArray)  {r:Bool} (h:fk N b=some r) :
  CB w0 prog 45 [.string b] (.bool r):=by
 refine eN func45 J ntmps45 J w0 fun k=>?_
 unfold fk at h
 refine att 10 [] J ?_
 refine lin (σ:=Int) (fun s=>[(0,.string b),(3,iV s)]) (fun s=>St w0 f [] []) (fun m s=>fq N b m s=some r) (0) N h (sx [] []) (fun o q s hm=>?_)
 revert hm;revert s;intro s1 hm
 have h:fq N b (o+1) s1=some r:=hm
 show WT _ _ [(0,.string b),(3,iV s1)] (St w0 f [] [])
 unfold fq at h
 refine atr 5 [] J<|lq (oS lz J J) J<|la J<|en ?_
 refine ch h J ?_ ?_ <;> intro h
 ·refine atr 7 [] J ?_
  obtain⟨u,v,h⟩:=bs h
  refine lq (lK lz J J v) J<|qc h (oQ N · (u.toNat:Int) ·) J J J fun A h=>arr 2 [] J ?_
  obtain⟨w,i,h⟩:=bs h
  refine WL.cutN 11 [(26,.bool w),(0,.string b),(3,iV s1)] ?_ (fun K=>?_)
  rotate_left
  ·refine sp 15 i J (fun i=>?_) fun i=>?_
   ·refine arr 11 [] J ?_
    cases i
    exact ku K
   ·refine arr 3 [] J ?_
    obtain⟨x,c,i⟩:=bs i
    refine WL.cutN 7 [(25,.bool x),(0,.string b),(3,iV s1),(15,.bool false)] ?_ (fun K=>?_)
    rotate_left
    ·refine sp 18 c J (fun c=>?_) fun c=>?_
     ·refine arr 2 [] J<|ly J J ?_
      obtain⟨y,z,c⟩:=bs c
      refine lq (lK lz J J z) J<|ly J J<|lq (kx Gb vJ J) J<|ly J J<|qc c (d9 N · (wz (y.toNat:Int)) 97 122 ·) J J J fun B c=>arr 2 [] J ?_
      cases c
      exact ku K
     ·refine arr 7 [] J ?_
      cases c
      exact ku K
    refine la J ?_
    cases i
    exact ku K
  refine en ?_
  refine ch h J ?_ ?_ <;> intro h
  ·refine att 4 [] J ?_
   exact rt k h
  refine att 7 [] J ?_
  exact lb [] [] (q _ h)
 refine atr 4 [] J<|lq (oS lz J J) J<|qc h (d9 N · (b.size:Int) 1 12 ·) J J J fun C h=>la J<|en ?_
 exact rt k h
theorem zp  (w0:aA e f []) (b:ByteArray)  {r:Bool} (h:oF N b=some r) :
  CB w0 prog 219 [.string b] (.bool r):=by
 refine eN func219 J ntmps219 J w0 fun c=>?_
 unfold oF at h
 refine att 10 [] J ?_
 refine lin (σ:=Int) (fun s=>[(0,.string b),(3,iV s)]) (fun s=>St w0 f [] []) (fun m s=>gw N b m s=some r) (0) N h (sx [] []) (fun i k s hm=>?_)
 revert hm;revert s;intro s1 hm
 have h:gw N b (i+1) s1=some r:=hm
 show WT _ _ [(0,.string b),(3,iV s1)] (St w0 f [] [])
 unfold gw at h
 refine atr 5 [] J<|lq (oS lz J J) J<|la J<|en ?_
 refine ch h J ?_ ?_ <;> intro h
 ·refine atr 7 [] J ?_
  obtain⟨o,q,h⟩:=bs h
  refine lq (lK lz J J q) J<|qc h (oQ N · (o.toNat:Int) ·) J J J fun u h=>la J<|en ?_
  refine ch h J ?_ ?_ <;> intro h
  ·refine att 4 [] J ?_
   exact rt c h
  refine att 7 [] J ?_
  exact lb [] [] (k _ h)
 refine atr 4 [] J<|lq (oS lz J J) J<|art 3 [] J ?_
 exact rt c h
theorem wb  (w0:aA e f []) (b:bn)  {r:Bool} (h:pD N b=some r) :
  CB w0 prog 177 [.agg [iV b.K,iV b.N,.string b.S].toArray] (.bool r):=by
 refine eN func177 J ntmps177 J w0 fun k=>?_
 unfold pD at h
 refine sr<|lbx J fun q=>art 14 [0,0] J ?_
 refine ch h J ?_ ?_ <;> intro h
 ·refine atr 4 [1,0] J<|qc h (d9 N · b.N (-1000000000) 1000000000 ·) J J J fun s h=>la J ?_
  obtain⟨m,c,h⟩:=bs h
  refine WL.cutN 4 [(14,.bool m),(2,.bool false)] ?_ (fun K=>?_)
  rotate_left
  ·refine sp 10 c J (fun c=>?_) fun c=>?_
   ·refine arr 4 [2,0] J ?_
    cases c
    exact ku K
   ·refine arr 4 [] J ?_
    cases c
    exact ku K
  refine la J<|en ?_
  exact rt k h
 refine att 5 [] J ?_
 refine ch h J ?_ ?_ <;> intro h
 ·refine atr 4 [2,0] J<|qc h (zp N · b.S ·) J J J fun u h=>la J ?_
  obtain⟨o,i,h⟩:=bs h
  refine WL.cutN 4 [(24,.bool o),(2,.bool false)] ?_ (fun K=>?_)
  rotate_left
  ·refine sp 20 i J (fun i=>?_) fun i=>?_
   ·refine arr 4 [1,0] J ?_
    cases i
    exact ku K
   ·refine arr 4 [] J ?_
    cases i
    exact ku K
  refine la J<|en ?_
  exact rt k h
 refine att 6 [] J ?_
 exact rt k h
theorem zk  (w0:aA e f []) (b:Int)  {r:Bool} (h:ot N b=some r) :
  CB w0 prog 257 [.int .u8 b] (.bool r):=by
 refine eN func257 J ntmps257 J w0 fun c=>?_
 unfold ot at h
 refine atr 7 [] J<|lq (kx Gb vJ J) J<|qc h (d9 N · (wz b) 65 90 ·) J J J fun i h=>la J<|en ?_
 exact rt c h
theorem yJ  (w0:aA e f []) (b:ByteArray)  {r:Bool} (h:oP N b=some r) :
  CB w0 prog 240 [.string b] (.bool r):=by
 refine eN func240 J ntmps240 J w0 fun k=>?_
 unfold oP at h
 refine att 10 [] J ?_
 refine lin (σ:=Int) (fun s=>[(0,.string b),(3,iV s)]) (fun s=>St w0 f [] []) (fun m s=>dZ N b m s=some r) (0) N h (sx [] []) (fun o q s hm=>?_)
 revert hm;revert s;intro s1 hm
 have h:dZ N b (o+1) s1=some r:=hm
 show WT _ _ [(0,.string b),(3,iV s1)] (St w0 f [] [])
 unfold dZ at h
 refine atr 5 [] J<|lq (oS lz J J) J<|la J<|en ?_
 refine ch h J ?_ ?_ <;> intro h
 ·refine atr 7 [] J ?_
  obtain⟨u,v,h⟩:=bs h
  refine lq (lK lz J J v) J<|qc h (zk N · (u.toNat:Int) ·) J J J fun A h=>arr 2 [] J ?_
  obtain⟨w,i,h⟩:=bs h
  refine WL.cutN 10 [(25,.bool w),(0,.string b),(3,iV s1)] ?_ (fun K=>?_)
  rotate_left
  ·refine sp 15 i J (fun i=>?_) fun i=>?_
   ·refine arr 3 [] J ?_
    obtain⟨x,c,i⟩:=bs i
    refine WL.cutN 6 [(24,.bool x),(0,.string b),(3,iV s1),(15,.bool true)] ?_ (fun K=>?_)
    rotate_left
    ·refine sp 18 c J (fun c=>?_) fun c=>?_
     ·refine arr 6 [] J ?_
      cases c
      exact ku K
     ·refine arr 2 [] J<|ly J J ?_
      obtain⟨y,z,c⟩:=bs c
      refine lq (lK lz J J z) J<|ly J J<|qc c (oQ N · (y.toNat:Int) ·) J J J fun B c=>arr 2 [] J ?_
      cases c
      exact ku K
    refine la J ?_
    cases i
    exact ku K
   ·refine arr 10 [] J ?_
    cases i
    exact ku K
  refine en ?_
  refine ch h J ?_ ?_ <;> intro h
  ·refine att 4 [] J ?_
   exact rt k h
  refine att 7 [] J ?_
  exact lb [] [] (q _ h)
 refine atr 4 [] J<|lq (oS lz J J) J<|qc h (d9 N · (b.size:Int) 1 12 ·) J J J fun C h=>la J<|en ?_
 exact rt k h
theorem pf  (w0:aA e f []) (b:bZ)  {r:Bool} (h:mH N b=some r) :
  CB w0 prog 217 [.agg [iV b.K,.string b.S,iV b.V.K,iV b.V.N,.string b.V.S].toArray] (.bool r):=by
 refine eN func217 J ntmps217 J w0 fun m=>?_
 unfold mH at h
 refine sr<|lbx J fun u=>arr 6 [2,3] J<|lq (bA (vs:=[]) (C:=#[iV 0,iV 0,.string (⟨#[]⟩:ByteArray)]) uI jg J (ae)) J<|lq (yG mi J J J (r:=bp b.V (⟨0,0,(⟨#[]⟩:ByteArray)⟩:bn)) J) J<|art 14 [0,0] J ?_
 refine ch h J ?_ ?_ <;> intro h
 ·refine atr 4 [1,0] J<|qc h (yJ N · b.S ·) J J J fun v h=>la J ?_
  obtain⟨o,c,h⟩:=bs h
  refine WL.cutN 2 [(17,.bool o),(2,.bool false)] ?_ (fun K=>?_)
  rotate_left
  ·refine sp 15 c J (fun c=>?_) fun c=>?_
   ·refine arr 2 [] J ?_
    cases c
    exact ku K
   ·refine arr 2 [] J ?_
    cases c
    exact ku K
  refine la J<|en ?_
  exact rt m h
 refine att 5 [] J ?_
 refine ch h J ?_ ?_ <;> intro h
 ·refine atr 4 [2,3] J<|qc h (wb N · b.V ·) J J J fun w h=>la J ?_
  obtain⟨q,i,h⟩:=bs h
  refine WL.cutN 4 [(27,.bool q),(2,.bool false)] ?_ (fun K=>?_)
  rotate_left
  ·refine sp 23 i J (fun i=>?_) fun i=>?_
   ·refine arr 4 [1,0] J ?_
    cases i
    exact ku K
   ·refine arr 4 [] J ?_
    cases i
    exact ku K
  refine la J<|en ?_
  exact rt m h
 refine att 5 [] J ?_
 refine ch h J ?_ ?_ <;> intro h
 ·refine atr 6 [1,0] J ?_
  obtain⟨s,k,h⟩:=bs h
  refine WL.cutN 2 [(35,.bool s),(2,.bool false)] ?_ (fun K=>?_)
  rotate_left
  ·refine sp 33 k J (fun k=>?_) fun k=>?_
   ·refine arr 2 [] J ?_
    cases k
    exact ku K
   ·refine arr 2 [] J ?_
    cases k
    exact ku K
  refine la J<|en ?_
  exact rt m h
 refine att 6 [] J ?_
 exact rt m h
theorem Bl (w0:aA e f []) (b:az) (i:RSl f8 5 e b0 g b.Args) {r:Bool} (h:sv N b=some r) :
  CB w0 prog 173 [.agg [.string b.Kind,g,.bool b.Not].toArray] (.bool r):=by
 refine eN func173 J ntmps173 J w0 fun o=>?_
 unfold sv at h
 refine sr<|lbx J fun k=>art 8 [] J ?_
 refine lin (σ:=Int) (fun s=>[(1,pQ k),(3,iV s)]) (fun s=>St w0 f [(k,.cells #[.string b.Kind,g,.bool b.Not] 201 (0,0))] []) (fun m s=>iK N b m s=some r) (0) N h (sx [] [0]) (fun u v s hm=>?_)
 revert hm;revert s;intro s1 hm
 have h:iK N b (u+1) s1=some r:=hm
 show WT _ _ [(1,pQ k),(3,iV s1)] (St w0 f [(k,.cells #[.string b.Kind,g,.bool b.Not] 201 (0,0))] [])
 unfold iK at h
 refine atr 6 [1,0] J<|lnr i J<|la J<|en ?_
 refine ch h J ?_ ?_ <;> intro h
 ·refine atr 8 [1,0] J ?_
  obtain⟨w,q,h⟩:=bs h
  obtain⟨z,A,-,g1,B,C,x⟩:=i.el (a8 q).2.2
  obtain⟨rfl,-⟩:=x
  refine lia i q J<|lhx 0 5 g1 J<|qc h (pf N · w ·) J J J fun D h=>la J<|en ?_
  refine ch h J ?_ ?_ <;> intro h
  ·refine att 4 [] J ?_
   exact rt o h
  refine att 7 [] J ?_
  exact lb [] [0] (v _ h)
 refine atr 5 [0,0] J<|qc h (i7 N · b.Kind ·) J J J fun E h=>la J ?_
 obtain⟨y,c,h⟩:=bs h
 refine WL.cutN 5 [(26,.bool y)] ?_ (fun K=>?_)
 rotate_left
 ·refine sp 21 c J (fun c=>?_) fun c=>?_
  ·refine arr 2 [1,0] J<|ly J J<|lnr i J<|arr 2 [] J ?_
   cases c
   exact ku K
  ·refine arr 5 [] J ?_
   cases c
   exact ku K
 refine la J<|en ?_
 exact rt o h
end Go.Proofs.YtedmfnmbjglmbaaGreat
