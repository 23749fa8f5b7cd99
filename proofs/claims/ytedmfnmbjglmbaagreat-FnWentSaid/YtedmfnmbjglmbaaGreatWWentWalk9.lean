/- Printed by a program of ours: each Go function computes its Lean function. -/
import Derived.Test.YtedmfnmbjglmbaaGreatProg
import Derived.Test.YtedmfnmbjglmbaaGreatWWentWalk8
namespace Go.Proofs.YtedmfnmbjglmbaaGreat
open Eng Tryz
open Go.RowKit (Below)
set_option linter.unusedVariables false
set_option linter.unusedSimpArgs false
set_option maxRecDepth 100000
set_option maxHeartbeats 1000000
variable {f l:Hp} {e j t p n g d a1 b6 ai b0 aj aE:Value} {b7 b9 pG0_2 bX b8 pG2_0 ad pG4_0 pG6_0 pG7 b5 pG3_0 bj bY:List Nat} {a a6:Nat} (N:Nat)
theorem z7 (w0:aA f l [[a],ob d,ad].flatten) (c:ah) (U:aG) (O:aJ) (Q:Int) (w:ae) (E:Int) (p6:aL) (V:(List Bool)) (aP:RSl cX 3 f b7 e c.Pats) (aQ:RSl cL 11 f b9 j c.Conds) (aT:RSl ij 5 f pG0_2 t c.Acts) (aC:RSl (RI .i64) 1 f bX p U.Pos) (e1:RSl (RI .i64) 1 f b8 n U.Neg) (bZ:RSl iv 1 f pG2_0 g O.Alphas) (cI:OSl aZ 100 1 l ad d O.Rules) (aD:l a=some (.cells #[g,d] 35 (0,0))) (aU:RSl br 3 f pG4_0 a1 w.Items) (cJ:RSl aY 3 f pG6_0 b6 p6.Fields) (bn:RSl RB 1 f pG7 ai V) {r:aJ} (h:ov N c U O Q w E p6 V=some r) :
  Calls prog 195 [.agg [.string c.Name,iV c.Sal,e,j,t].toArray,.agg [p,n].toArray,pQ a,iV Q,.agg [a1,iV w.Next].toArray,iV E,.agg [.string p6.Kind,b6].toArray,ai].toArray w0.w (bc l w0.w [[a],ob d,ad].flatten (fun c0 Fs v=>∃ (bE:Value) (c3:List Nat),v = .tuple #[]∧Fs=[[a],ob bE,c3]∧r.Alphas=O.Alphas∧OSl aZ 100 1 c0 c3 bE r.Rules∧c0 a=some (.cells #[g,bE] 35 (0,0)))):=by
 refine eL func195 J ntmps195 J (L:=[[a],ob d,ad]) w0 (fun hF=>?_)
 unfold ov at h
 refine sr<|lbx J fun G=>lbx J fun H=>lbx J fun I=>lbx J fun c4=>arr 4 [] J<|lq (aI J) J<|lf vK J J J<|lgx 1 0 (cn aD) J<|la J ?_
 obtain⟨B,c5,h⟩:=bs h
 obtain⟨e2,F1,x,h1,r1,c6,cM⟩:=cI.focus c5
 obtain⟨v1,D2,rfl,rfl,h2⟩:=r1
 refine wlL [ob v1,D2,x,[a],ob d] (sre [2] [ob v1,D2,x] J (by simpa[gi] using cM))<|lih h1 c5 J<|lf iA J J J<|lgx 0 0 h1.rg J<|arr 5 [] J<|lno h2 J<|art 4 [] J ?_
 obtain⟨x2,c7,h⟩:=bs h
 obtain⟨e3,F2,D3,h3,r2,c8,cN⟩:=h2.focus c7
 obtain⟨v2,D4,rfl,rfl,h4⟩:=r2
 refine wtL [ob v2,D4,D3,ob v1,x,[a],ob d] (sre [1] [ob v2,D4,D3] J (by simpa[gi] using cN))<|WT.mix (Kn w0 l (ob v1) [(c4,.cells #[.string p6.Kind,b6] 52 (0,0)),(I,.cells #[a1,iV w.Next] 29 (0,0)),(H,.cells #[p,n] 141 (0,0)),(G,.cells #[.string c.Name,iV c.Sal,e,j,t] 87 (0,0))]) (fun i=>match i with | 8=>false | _=>true) mixed (fun _ h=>h.drew) ?_
 refine mq 0 J OU (kn Kf.id (am [0,1,2,3] J)) (ay ur J (fun A hw=>hw.rgO (i:=3) J 0 5 [.string c.Name,iV c.Sal,e,j,t] J) J) J<|mq 1 J OU (kn Kf.id (am [0,1,2,3] J)) (ay oV J (fun A hw=>hw.rgO (i:=1) J 0 2 [a1,iV w.Next] J) J) J<|mq 7 J OU (kn Kf.id (am [0,1,2,3] J)) (ay oU J (fun A hw=>hw.rgO (i:=0) J 0 2 [.string p6.Kind,b6] J) J) J<|mqT 2 [4,5,6,8] J OU (kn Kf.id (am [0,1,2,3] J)) (jv J) J ?_
 refine mqT 3 [4,5,6,8] J OU (kn Kf.id (am [0,1,2,3] J)) (jv J) J<|mqT 4 [5,6,8] J OU (kn Kf.id (am [0,1,2,3] J)) (bT qf J J h3 c7) J<|mqT 5 [6,8] J OU (kn Kf.id (am [0,1,2,3] J)) (au fk J) J<|mq 6 J OU (kn Kf.id (am [0,1,2,3] J)) (aW xk J (fun A hw=>hw.rg h3.hb (h3.rg.of_eq 0 1 J J:rg _ _ _ [v2]))) J ?_
 obtain⟨x3,cO,h⟩:=bs h
 refine WM.one 8 OU (mc J (fun hc=>by cases hc) (bJ (js:=[0,0]) (R:=[D3,ob v1,x,[a],ob d]) FQ J J (fun A hw ap hl=>tc N (bx hw ap hl) c w x2.Toks p6 1 (aP.y (hw.uo ap)) (aQ.y (hw.uo ap)) (aT.y (hw.uo ap)) (aU.y (hw.uo ap)) h4 (cJ.y (hw.uo ap))  cO)) J ?_)
 rintro v3 cP F3 ⟨aV,bG,D5,rfl,rfl,h5⟩
 replace h1:=h1.fr bG (aV.q 4 J) (aV.q 2 J)
 replace h3:=h3.fr bG (aV.q 1 J) (aV.q 0 J)
 replace aD:=bG _ _ ((aV.q 3 J) _ OW) aD
 refine WM.nil OU<|sr ?_
 have cQ:RC aR 2 cP ([]:List (List Nat)) [] ([]:List an):=RC.nil _ _ _
 refine le' (bC (vs:=[]) (C:=#[]) aR.lasts dl gS J J J J (av tz (af)) J cQ J (by simpa using Kw.nil)) J ?_
 rintro v4 bo D6 ⟨bp,h6⟩
 replace h6:OSl aR 105 2 bo [] v4 ([]:List an):=by simpa[gi] using h6
 replace h1:=h1.f0 bp
 replace h3:=h3.f0 bp
 replace h5:=h5.f0 bp
 replace aD:=bp _ _ OW aD
 refine WL.conv (S':=St w0 bo [(c4,.cells #[.string p6.Kind,b6] 52 (0,0)),(I,.cells #[a1,iV w.Next] 29 (0,0)),(H,.cells #[p,n] 141 (0,0)),(G,.cells #[.string c.Name,iV c.Sal,e,j,t] 87 (0,0))] [[],ob v4,ob v2,D5,D3,ob v1,x,[a],ob d]) (fun A hw=>hw.addNil)<|art 7 [] J ?_
 have r3:aS bo _ [v2] (⟨x3⟩:ar):=⟨v2,D5,J,J,h5⟩
 obtain⟨D7,h7,cR⟩:=h3.unfocus r3 (aS.knows _ _ _ _ r3)
 refine wtL [D7,[],ob v4,ob v1,x,[a],ob d] (smg [2,2,2] J (by simpa[gi,cK] using cR)) ?_
 replace h6:=h6.gives aR.gives
 refine lin (σ:=Hp × (List ar) × List Nat × (List an) × Value × List Nat × Int) (fun s=>[(2,pQ a),(5,iV E),(7,ai),(8,pQ G),(9,pQ H),(12,pQ I),(16,v1),(17,iV (wz ((B.Levels.length:Int) - 1))),(18,s.2.2.2.2.1),(19,iV s.2.2.2.2.2.2)]) (fun s=>St w0 s.1 [(I,.cells #[a1,iV w.Next] 29 (0,0)),(H,.cells #[p,n] 141 (0,0)),(G,.cells #[.string c.Name,iV c.Sal,e,j,t] 87 (0,0))] [s.2.2.1,ob s.2.2.2.2.1,ob v1,x,[a],ob d]) (fun m s=>bF N c U O Q w E V B m s.2.1 s.2.2.2.1 s.2.2.2.2.2.2=some r∧(OSl aS 103 1 s.1 s.2.2.1 v1 s.2.1)∧(OSl dY 105 2 s.1 s.2.2.2.2.2.1 s.2.2.2.2.1 s.2.2.2.1)∧(∀ k∈s.2.2.2.2.2.1,k∈s.2.2.1)∧(s.1 a=some (.cells #[g,d] 35 (0,0)))∧(HSl aZ 100 1 s.1 x d O.Rules Q.toNat [v1])) (bo,(B.Levels.set (wz ((B.Levels.length:Int) - 1)).toNat (⟨x3⟩:ar)),D7,([]:List an),v4,[],0) N ⟨h,h7,h6,OW,aD,h1⟩ (sx [0,1,1,1,1,1] [1,1,1]) (fun n1 cS s hm=>?_)
 obtain⟨c9,s1,P,s2,M,D9,S⟩:=s
 obtain⟨h,u,y,i1,Y,Z⟩:=hm
 dsimp only at h u y i1 Y Z ⊢
 unfold bF at h
 refine att 7 [] J ?_
 refine ch h J ?_ ?_<;>intro h
 ·refine atr 5 [] J ?_
  have cT:RC aR 2 c9 ([]:List (List Nat)) [] ([]:List an):=RC.nil _ _ _
  refine le' (bC (vs:=[]) (C:=#[]) aR.lasts dl gS J J J J (av tz (af)) J cT J (by simpa using Kw.nil)) J ?_
  rintro v5 ca e4 ⟨bq,h8⟩
  replace h8:OSl aR 105 2 ca [] v5 ([]:List an):=by simpa[gi] using h8
  replace Z:=Z.f0 bq
  replace u:=u.f0 bq
  replace y:=y.f0 bq
  replace Y:=bq _ _ OW Y
  refine WL.conv (S':=St w0 ca [(I,.cells #[a1,iV w.Next] 29 (0,0)),(H,.cells #[p,n] 141 (0,0)),(G,.cells #[.string c.Name,iV c.Sal,e,j,t] 87 (0,0))] [[],ob v5,P,ob M,ob v1,x,[a],ob d]) (fun A hw=>hw.addNil)<|arr 8 [] J ?_
  obtain⟨b1,a7,h⟩:=bs h
  refine WL.cutN 8 [(64,.bool b1),(2,pQ a),(5,iV E),(7,ai),(8,pQ G),(9,pQ H),(12,pQ I),(16,v1),(17,iV (wz ((B.Levels.length:Int) - 1))),(18,M),(19,iV S),(20,v5)] ?_ (fun K=>?_)
  rotate_left
  ·refine sp 56 a7 J (fun a7=>?_) fun a7=>?_
   ·refine arr 3 [0,32] J<|ly J J ?_
    obtain⟨x4,cb,a7⟩:=bs a7
    obtain⟨e5,F4,-,g1,e6,e7,r4⟩:=aC.el (a8 cb).2.2
    obtain⟨rfl,-⟩:=r4
    refine lia aC cb J<|ly J J<|lhx 0 0 g1 J<|ly J J ?_
    obtain⟨x5,cc,a7⟩:=bs a7
    obtain⟨e8,F5,-,g2,e9,ea,r5⟩:=bn.el (a8 cc).2.2
    obtain⟨rfl,-⟩:=r5
    refine lia bn cc J<|ly J J<|lhx 0 0 g2 J<|la J ?_
    cases a7
    exact ku K
   ·refine arr 8 [] J ?_
    cases a7
    exact ku K
  refine en ?_
  refine cut (σ:=Hp × (List an) × Value × List Nat) (fun s=>[(2,pQ a),(5,iV E),(7,ai),(8,pQ G),(9,pQ H),(12,pQ I),(16,v1),(17,iV (wz ((B.Levels.length:Int) - 1))),(18,M),(19,iV S),(20,s.2.2.1)]) (fun s=>St w0 s.1 [(I,.cells #[a1,iV w.Next] 29 (0,0)),(H,.cells #[p,n] 141 (0,0)),(G,.cells #[.string c.Name,iV c.Sal,e,j,t] 87 (0,0))] [s.2.2.2,ob s.2.2.1,P,ob M,ob v1,x,[a],ob d]) (fun s=>im N c U O w E V B s1 s2 S (bF N c U O Q w E V B n1) s.2.1=some r∧(OSl aS 103 1 s.1 P v1 s1)∧(OSl dY 105 2 s.1 D9 M s2)∧(OSl aR 105 2 s.1 s.2.2.2 s.2.2.1 s.2.1)∧(s.1 a=some (.cells #[g,d] 35 (0,0)))∧(HSl aZ 100 1 s.1 x d O.Rules Q.toNat [v1])) (fun s hm=>?_) (fun K=>?_)
  ·clear h
   obtain⟨bH,s4,u2,cd⟩:=s
   obtain⟨h,u,y,k6,k7,k5⟩:=hm
   dsimp only at h u y k6 k7 k5 ⊢
   unfold im at h
   refine att 10 [] J ?_
   refine cut (σ:=Int) (fun s=>[(2,pQ a),(5,iV E),(7,ai),(8,pQ G),(9,pQ H),(12,pQ I),(16,v1),(17,iV (wz ((B.Levels.length:Int) - 1))),(18,M),(19,iV S),(20,u2),(21,iV s)]) (fun s=>St w0 bH [(I,.cells #[a1,iV w.Next] 29 (0,0)),(H,.cells #[p,n] 141 (0,0)),(G,.cells #[.string c.Name,iV c.Sal,e,j,t] 87 (0,0))] [cd,ob u2,P,ob M,ob v1,x,[a],ob d]) (fun s=>jo N c U O w E V B s1 s2 S (bF N c U O Q w E V B n1) s4 s=some r∧(HSl aZ 100 1 bH x d O.Rules Q.toNat [v1])) (fun s hm=>?_) (fun K=>?_)
   ·clear h
    revert hm;revert s;intro s5 hm
    obtain⟨h,k8⟩:=hm
    try dsimp only at h k8 ⊢
    unfold jo at h
    refine att 6 [] J ?_
    refine lin (σ:=Hp × (List an) × Value × List Nat × Int) (fun s=>[(2,pQ a),(5,iV E),(7,ai),(8,pQ G),(9,pQ H),(12,pQ I),(16,v1),(17,iV (wz ((B.Levels.length:Int) - 1))),(18,M),(19,iV S),(20,s.2.2.1),(21,iV s5),(22,iV s.2.2.2.2)]) (fun s=>St w0 s.1 [(I,.cells #[a1,iV w.Next] 29 (0,0)),(H,.cells #[p,n] 141 (0,0)),(G,.cells #[.string c.Name,iV c.Sal,e,j,t] 87 (0,0))] [s.2.2.2.1,ob s.2.2.1,P,ob M,ob v1,x,[a],ob d]) (fun m s=>ep N c U O w E V B s1 s2 S (bF N c U O Q w E V B n1) s5 m s.2.1 s.2.2.2.2=some r∧(OSl aS 103 1 s.1 P v1 s1)∧(OSl dY 105 2 s.1 D9 M s2)∧(OSl aR 105 2 s.1 s.2.2.2.1 s.2.2.1 s.2.1)∧(s.1 a=some (.cells #[g,d] 35 (0,0)))∧(HSl aZ 100 1 s.1 x d O.Rules Q.toNat [v1])) (bH,s4,u2,cd,0) N ⟨h,u,y,k6,k7,k8⟩ (sx [0,0,0,0,0,0,0,0] [0,0,0]) (fun n4 cU s hm=>?_)
    obtain⟨bI,s6,u3,cV,s7⟩:=s
    obtain⟨h,u,y,bK,aF,k9⟩:=hm
    dsimp only at h u y bK aF k9 ⊢
    unfold ep at h
    refine atr 7 [] J ?_
    obtain⟨b2,aa,h⟩:=bs h
    refine WL.cutN 9 [(95,.bool b2),(2,pQ a),(5,iV E),(7,ai),(8,pQ G),(9,pQ H),(12,pQ I),(16,v1),(17,iV (wz ((B.Levels.length:Int) - 1))),(18,M),(19,iV S),(20,u3),(21,iV s5),(22,iV s7)] ?_ (fun K=>?_)
    rotate_left
    ·refine sp 86 aa J (fun aa=>?_) fun aa=>?_
     ·refine arr 4 [0,32] J<|ly J J ?_
      obtain⟨x6,cf,aa⟩:=bs aa
      obtain⟨eb,F6,-,g3,ec,ed,r6⟩:=aC.el (a8 cf).2.2
      obtain⟨rfl,-⟩:=r6
      refine lia aC cf J<|ly J J<|lhx 0 0 g3 J<|ly J J ?_
      obtain⟨x7,cg,aa⟩:=bs aa
      obtain⟨ee,F7,-,g4,ef,eg,r7⟩:=bn.el (a8 cg).2.2
      obtain⟨rfl,-⟩:=r7
      refine lia bn cg J<|ly J J<|lhx 0 0 g4 J<|la J ?_
      cases aa
      exact ku K
     ·refine arr 9 [] J ?_
      cases aa
      exact ku K
    refine en ?_
    refine ch h J ?_ ?_<;>intro h
    ·refine att 3 [] J<|WT.mix (Kn w0 bI (ob v1++P) [(I,.cells #[a1,iV w.Next] 29 (0,0)),(H,.cells #[p,n] 141 (0,0)),(G,.cells #[.string c.Name,iV c.Sal,e,j,t] 87 (0,0))]) (fun _=>true) mixed (fun _ h=>h.drew)<|ma 0 J OU (kn Kf.id (ai3 0 1 2 J J J)) J<|mq 1 J OU (kn Kf.id (ai3 0 1 2 J J J)) (ay ur J (fun A hw=>hw.rgO (i:=2) J 0 5 [.string c.Name,iV c.Sal,e,j,t] J) J) J ?_
     refine mq 2 J OU (kn Kf.id (ai3 0 1 2 J J J)) (ay oV J (fun A hw=>hw.rgO (i:=0) J 0 2 [a1,iV w.Next] J) J) J<|ma 3 J OU (kn Kf.id (ai3 0 1 2 J J J)) J<|ma 4 J OU (kn Kf.id (ai3 0 1 2 J J J)) J<|ma 5 J OU (kn Kf.id (ai3 0 1 2 J J J)) J ?_
     obtain⟨x8,cj,h⟩:=bs h
     obtain⟨eh,F8,-,g5,cW,ck,r8⟩:=u.elS (a8 cj).2.2
     obtain⟨v6,ei,rfl,rfl,h9⟩:=r8
     have cm:=h9.rslG aR.gives
     refine mq 6 J OU (kn Kf.id (ai3 0 1 2 J J J)) (aq qf J J u.rsl cj) J<|mq 7 J OU (kn Kf.id (ai3 0 1 2 J J J)) (au fk J) J<|mq 8 J OU (kn Kf.id (ai3 0 1 2 J J J)) (aW xk J (fun A hw=>hw.rg (gf.2 (.inl cW)) (g5.of_eq 0 1 J J:rg _ _ _ [v6]))) J<|ma 9 J OU (kn Kf.id (ai3 0 1 2 J J J)) J ?_
     obtain⟨x9,cp,h⟩:=bs h
     obtain⟨ej,F9,-,g6,cY,cZ,r9⟩:=cm.el (a8 cp).2.2
     obtain⟨v7,G1,v8,G2,rfl,rfl,da,ek⟩:=r9
     refine mq 10 J OU (kn Kf.id (ai3 0 1 2 J J J)) (aq dl J J cm cp) J<|mq 11 J OU (kn Kf.id (ai3 0 1 2 J J J)) (au ue J) J<|mq 12 J OU (kn Kf.id (ai3 0 1 2 J J J)) (aW sR J (fun A hw=>hw.rg (gf.2 (.inr ((fun k h=>ck k h) _ cY))) (g6.of_eq 0 1 J J:rg _ _ _ [v7]))) J<|ma 13 J OU (kn Kf.id (ai3 0 1 2 J J J)) J ?_
     obtain⟨el,db,h⟩:=bs h
     refine WM.one 14 OU (mc J (fun _ v cq D A hq hw=>Kn.of (Kf.id.st hq.2.1 (Dj.app (hq.1.r (i:=2) J) (hq.1.r (i:=0) J))) (ai3 0 1 2 J J J) hw) (bJ (js:=[1,0]) (R:=[P,ob M,ob v1,x,[a],ob d]) EU J J (fun A hw ap hl=>qw N (bx hw ap hl) s6 c w x9.Ids E bK (aP.y (hw.uo ap)) (aQ.y (hw.uo ap)) (aT.y (hw.uo ap)) (aU.y (hw.uo ap)) (da.x (Dj.sub (Dj.sub (ap.q 0 J) (fun k h=>ck k h)) (fun k h=>cZ k (gf.2 (.inl h)))))  db)) J ?_)
     rintro v9 eo er ⟨ab,aX,v10,et,rfl,rfl,dc⟩
     replace k9:=k9.fr aX (ab.q 5 J) (ab.q 3 J)
     replace u:=u.fr aX (ab.q 2 J) (ab.q 0 J)
     replace y:=y.fr aX (ab.q 1 J) (Dj.sub (ab.q 0 J) i1)
     replace aF:=aX _ _ ((ab.q 4 J) _ OW) aF
     have c6:=(Kf.id (F:=(ob v1++P)):Kf bI _ _).st aX (Dj.app (ab.q 2 J) (ab.q 0 J))
     refine ma 15 J OU (kn c6 (ai3 0 1 2 J J J)) J<|WM.nil OU<|att 6 [] J ?_
     exact lb [1,0,0,0,0,0,0,0] [0,0,0] (cU (_,_,_,_,_) ⟨h,u,y,dc,aF,k9⟩)
    refine xt J<|sq<|WT.draw mixed OU (fun _ h=>h.drew)<|qq (jv J) J<|qq (aI J) J<|qq (au jq J) J<|qq (aW yx J (fun A hw=>((cn aF).of_eq 0 1 J J:rg _ _ _ [g]).rangeAt hw.fro)) J<|aqq 3 [0,32] J ?_
    obtain⟨dd,cr,h⟩:=bs h
    obtain⟨eu,ev,-,g7,ew,ey,de⟩:=aC.el (a8 cr).2.2
    obtain⟨rfl,-⟩:=de
    refine qq (aq bR J J aC cr) J<|qq (aW tQ J (fun A hw=>(g7.of_eq 0 1 J J:rg _ _ _ [iV dd]).rangeAt hw.in0)) J ?_
    obtain⟨bL,ct,h⟩:=bs h
    obtain⟨ez,eA,-,g8,eB,eC,df⟩:=bZ.el (a8 ct).2.2
    obtain⟨v11,G3,rfl,dg,bM⟩:=df
    obtain rfl:=dg.symm
    refine qq (aq rn J J bZ ct) J<|qq (au jx J) J<|qq (aW sR J (fun A hw=>(g8.of_eq 0 1 J J:rg _ _ _ [v11]).rangeAt hw.in0)) J<|aqt 8 [] J ?_
    refine lin (σ:=Hp × (List an) × Value × List Nat × Int) (fun s=>[(2,pQ a),(5,iV E),(7,ai),(8,pQ G),(9,pQ H),(12,pQ I),(16,v1),(17,iV (wz ((B.Levels.length:Int) - 1))),(18,M),(19,iV S),(20,s.2.2.1),(23,v11),(24,iV s.2.2.2.2)]) (fun s=>St w0 s.1 [(I,.cells #[a1,iV w.Next] 29 (0,0)),(H,.cells #[p,n] 141 (0,0)),(G,.cells #[.string c.Name,iV c.Sal,e,j,t] 87 (0,0))] [s.2.2.2.1,ob s.2.2.1,P,ob M,ob v1,x,[a],ob d]) (fun m s=>eQ N c w B s1 s2 S (bF N c U O Q w E V B n1) bL m s.2.1 s.2.2.2.2=some r∧(OSl aS 103 1 s.1 P v1 s1)∧(OSl dY 105 2 s.1 D9 M s2)∧(OSl aR 105 2 s.1 s.2.2.2.1 s.2.2.1 s.2.1)∧(s.1 a=some (.cells #[g,d] 35 (0,0)))∧(HSl aZ 100 1 s.1 x d O.Rules Q.toNat [v1])) (bI,s6,u3,cV,0) N ⟨h,u,y,bK,aF,k9⟩ (sx [0,0,0,0,0,0,0,0] [0,0,0]) (fun n5 dh s hm=>?_)
    obtain⟨cu,s8,T,cv,s9⟩:=s
    obtain⟨h,u,y,bN,bO,bP⟩:=hm
    dsimp only at h u y bN bO bP ⊢
    unfold eQ at h
    refine atr 5 [] J<|lno y J<|la J<|en ?_
    refine ch h J ?_ ?_<;>intro h
    ·refine att 8 [] J ?_
     refine lin (σ:=Hp × (List an) × Value × List Nat × Int) (fun s=>[(2,pQ a),(5,iV E),(7,ai),(8,pQ G),(9,pQ H),(12,pQ I),(16,v1),(17,iV (wz ((B.Levels.length:Int) - 1))),(18,M),(19,iV S),(20,s.2.2.1),(23,v11),(24,iV s9),(25,iV s.2.2.2.2)]) (fun s=>St w0 s.1 [(I,.cells #[a1,iV w.Next] 29 (0,0)),(H,.cells #[p,n] 141 (0,0)),(G,.cells #[.string c.Name,iV c.Sal,e,j,t] 87 (0,0))] [s.2.2.2.1,ob s.2.2.1,P,ob M,ob v1,x,[a],ob d]) (fun m s=>fZ N c w s2 bL s9 (eQ N c w B s1 s2 S (bF N c U O Q w E V B n1) bL n5) m s.2.1 s.2.2.2.2=some r∧(OSl aS 103 1 s.1 P v1 s1)∧(OSl dY 105 2 s.1 D9 M s2)∧(OSl aR 105 2 s.1 s.2.2.2.1 s.2.2.1 s.2.1)∧(s.1 a=some (.cells #[g,d] 35 (0,0)))∧(HSl aZ 100 1 s.1 x d O.Rules Q.toNat [v1])) (cu,s8,T,cv,0) N ⟨h,u,y,bN,bO,bP⟩ (sx [0,0,0,0,0,0,0,0] [0,0,0]) (fun n6 di s hm=>?_)
     obtain⟨cw,dj,u5,eD,eE⟩:=s
     obtain⟨h,u,y,bQ,b4,ba⟩:=hm
     dsimp only at h u y bQ b4 ba ⊢
     unfold fZ at h
     refine atr 5 [] J<|lnr bM J<|la J<|en ?_
     refine ch h J ?_ ?_<;>intro h
     ·refine att 3 [] J<|WT.mix (Kn w0 cw (ob M) [(I,.cells #[a1,iV w.Next] 29 (0,0)),(H,.cells #[p,n] 141 (0,0)),(G,.cells #[.string c.Name,iV c.Sal,e,j,t] 87 (0,0))]) (fun _=>true) mixed (fun _ h=>h.drew)<|ma 0 J OU (kn Kf.id (ai3 0 1 2 J J J)) J<|mq 1 J OU (kn Kf.id (ai3 0 1 2 J J J)) (ay ur J (fun A hw=>hw.rgO (i:=2) J 0 5 [.string c.Name,iV c.Sal,e,j,t] J) J) J ?_
      refine mq 2 J OU (kn Kf.id (ai3 0 1 2 J J J)) (ay oV J (fun A hw=>hw.rgO (i:=0) J 0 2 [a1,iV w.Next] J) J) J<|ma 3 J OU (kn Kf.id (ai3 0 1 2 J J J)) J<|ma 4 J OU (kn Kf.id (ai3 0 1 2 J J J)) J ?_
      obtain⟨dk,cx,h⟩:=bs h
      obtain⟨eF,eG,-,g9,dm,dn,dp⟩:=y.elS (a8 cx).2.2
      obtain⟨v12,G4,eH,G5,rfl,rfl,dq,eI⟩:=dp
      refine mq 5 J OU (kn Kf.id (ai3 0 1 2 J J J)) (aq dl J J y.rsl cx) J<|mq 6 J OU (kn Kf.id (ai3 0 1 2 J J J)) (au ue J) J<|mq 7 J OU (kn Kf.id (ai3 0 1 2 J J J)) (aW sR J (fun A hw=>hw.rg dm (g9.of_eq 0 1 J J:rg _ _ _ [v12]))) J<|ma 8 J OU (kn Kf.id (ai3 0 1 2 J J J)) J<|ma 9 J OU (kn Kf.id (ai3 0 1 2 J J J)) J ?_
      obtain⟨cy,cz,h⟩:=bs h
      obtain⟨eJ,eK,-,g10,eM,eN,dr⟩:=bM.el (a8 cz).2.2
      obtain⟨rfl,-⟩:=dr
      refine mq 10 J OU (kn Kf.id (ai3 0 1 2 J J J)) (aq bR J J bM cz) J<|mq 11 J OU (kn Kf.id (ai3 0 1 2 J J J)) (aW tQ J (fun A hw=>(g10.of_eq 0 1 J J:rg _ _ _ [iV cy]).rangeAt hw.1)) J ?_
      obtain⟨eO,ds,h⟩:=bs h
      refine WM.one 12 OU (mc J (fun _ v cq D A hq hw=>Kn.of (Kf.id.st hq.2.1 (hq.1.r (i:=1) J)) (ai3 0 1 2 J J J) hw) (bJ (js:=[1,0]) (R:=[P,ob M,ob v1,x,[a],ob d]) EU J J (fun A hw ap hl=>qw N (bx hw ap hl) dj c w dk.Ids cy bQ (aP.y (hw.uo ap)) (aQ.y (hw.uo ap)) (aT.y (hw.uo ap)) (aU.y (hw.uo ap)) (dq.x (Dj.sub (ap.q 0 J) (fun k h=>i1 k (dn k (gf.2 (.inl h))))))  ds)) J ?_)
      rintro eP eR eS ⟨ak,bb,eT,eU,rfl,rfl,dt⟩
      replace ba:=ba.fr bb (ak.q 5 J) (ak.q 3 J)
      replace u:=u.fr bb (ak.q 2 J) (ak.q 0 J)
      replace y:=y.fr bb (ak.q 1 J) (Dj.sub (ak.q 0 J) i1)
      replace b4:=bb _ _ ((ak.q 4 J) _ OW) b4
      have c8:=(Kf.id (F:=(ob M)):Kf cw _ _).st bb (ak.q 1 J)
      refine ma 13 J OU (kn c8 (ai3 0 1 2 J J J)) J<|WM.nil OU<|att 6 [] J ?_
      exact lb [1,0,0,0,0,0,0,0] [0,0,0] (di (_,_,_,_,_) ⟨h,u,y,dt,b4,ba⟩)
     refine att 7 [] J ?_
     exact lb [0,0,0,0,0,0,0,0] [0,0,0] (dh (_,_,_,_,_) ⟨h,u,y,bQ,b4,ba⟩)
    refine att 7 [] J ?_
    refine lin (σ:=Hp × (List an) × List Nat × Int) (fun s=>[(2,pQ a),(5,iV E),(7,ai),(8,pQ G),(9,pQ H),(12,pQ I),(16,v1),(17,iV (wz ((B.Levels.length:Int) - 1))),(19,iV S),(20,T),(26,iV s.2.2.2)]) (fun s=>St w0 s.1 [(I,.cells #[a1,iV w.Next] 29 (0,0)),(H,.cells #[p,n] 141 (0,0)),(G,.cells #[.string c.Name,iV c.Sal,e,j,t] 87 (0,0))] [s.2.2.1,ob T,P,ob v1,x,[a],ob d]) (fun m s=>cG N c w B s1 S (bF N c U O Q w E V B n1) m s.2.1 s.2.2.2=some r∧(OSl aS 103 1 s.1 P v1 s1)∧(OSl aR 105 2 s.1 s.2.2.1 T s.2.1)∧(s.1 a=some (.cells #[g,d] 35 (0,0)))∧(HSl aZ 100 1 s.1 x d O.Rules Q.toNat [v1])) (cu,s8,cv,0) N ⟨h,u,bN,bO,bP⟩ (sx [0,0,0,1,1,1,1] [0,0,0]) (fun n7 du s hm=>?_)
    obtain⟨cA,eV,bd,dv⟩:=s
    obtain⟨h,u,be,W,X⟩:=hm
    dsimp only at h u be W X ⊢
    unfold cG at h
    refine atr 5 [] J<|lno be J<|arr 2 [] J ?_
    obtain⟨b3,bf,h⟩:=bs h
    refine WL.cutN 4 [(158,.bool b3),(2,pQ a),(5,iV E),(7,ai),(8,pQ G),(9,pQ H),(12,pQ I),(16,v1),(17,iV (wz ((B.Levels.length:Int) - 1))),(19,iV S),(20,T),(26,iV dv)] ?_ (fun K=>?_)
    rotate_left
    ·refine sp 154 bf J (fun bf=>?_) fun bf=>?_
     ·refine arr 4 [] J ?_
      cases bf
      exact ku K
     ·refine arr 4 [] J ?_
      cases bf
      exact ku K
    refine en ?_
    refine ch h J ?_ ?_<;>intro h
    ·refine att 3 [] J ?_
     obtain⟨dw,bS,h⟩:=bs h
     obtain⟨eW,eX,bt,al,dx,cB,dy⟩:=be.focus bS
     obtain⟨bU,v17,rfl,rfl,dz,bV⟩:=dx
     refine wtL [ob bU,ob v17,bt,ob T,P,ob v1,x,[a],ob d] (sre [0] [ob bU,ob v17,bt] J (by simpa[gi] using dy))<|WT.mix (Kn w0 cA (ob T) [(I,.cells #[a1,iV w.Next] 29 (0,0)),(H,.cells #[p,n] 141 (0,0)),(G,.cells #[.string c.Name,iV c.Sal,e,j,t] 87 (0,0))]) (fun i=>match i with | 10=>false | _=>true) mixed (fun _ h=>h.drew)<|ma 0 J OU (kn Kf.id (ai3 0 1 2 J J J)) J<|ma 1 J OU (kn Kf.id (ai3 0 1 2 J J J)) J ?_
     refine mq 2 J OU (kn Kf.id (ai3 0 1 2 J J J)) (ay ur J (fun A hw=>hw.rgO (i:=2) J 0 5 [.string c.Name,iV c.Sal,e,j,t] J) J) J<|mq 3 J OU (kn Kf.id (ai3 0 1 2 J J J)) (ay oV J (fun A hw=>hw.rgO (i:=0) J 0 2 [a1,iV w.Next] J) J) J<|ma 4 J OU (kn Kf.id (ai3 0 1 2 J J J)) J<|ma 5 J OU (kn Kf.id (ai3 0 1 2 J J J)) J<|mq 6 J OU (kn Kf.id (ai3 0 1 2 J J J)) (bT dl J J al bS) J ?_
     refine mq 7 J OU (kn Kf.id (ai3 0 1 2 J J J)) (ay DJ J (fun A hw=>hw.rg al.hb (al.rg.of_eq 0 2 J J:rg _ _ _ [bU,v17])) J) J ?_
     obtain⟨dA,dB,h⟩:=bs h
     refine WM.one 8 OU (mc J (fun _ v cq D A hq hw=>Kn.of (Kf.id.st hq.2.1 (hq.1.r (i:=2) J)) (ai3 0 1 2 J J J) hw) (bJ (js:=[0]) (R:=[ob v17,bt,ob T,P,ob v1,x,[a],ob d]) Ki J J (fun A hw ap hl=>xQ N (bx hw ap hl) c w dw (aP.y (hw.uo ap)) (aQ.y (hw.uo ap)) (aT.y (hw.uo ap)) (aU.y (hw.uo ap)) dz (bV.rsl.x (Dj.app (ap.q 0 J) dN))  dB)) J ?_)
     rintro eY eZ fa ⟨ag,aM,bg,v20,rfl,rfl,bu,bw⟩
     replace X:=X.fr aM (ag.q 7 J) (ag.q 5 J)
     replace u:=u.fr aM (ag.q 4 J) (ag.q 3 J)
     replace al:=al.fr aM (ag.q 2 J) (ag.q 1 J)
     replace bV:=bV.fr aM (ag.q 0 J) dN
     replace W:=aM _ _ ((ag.q 6 J) _ OW) W
     have cB:=(Kf.id (F:=(ob T)):Kf cA _ _).st aM (ag.q 2 J)
     refine mq 9 J OU (kn cB (ai3 0 1 2 J J J)) (bT dl J J al bS) J ?_
     refine WM.one 10 OU (mu J (fun hc=>by cases hc) (BJ (js:=[4]) (Rr:=[ob bg,ob v20,ob v17,bt,P,ob v1,x,[a],ob d]) (o:=0) (vs:=[bg,v20]) (cs':=[bg,v20]) aR.lasts nI J J J J ⟨bu.one,bw.one,trivial⟩ J al J J (fun ap=>ap.q 3 J)) J ?_)
     rintro dC fb ⟨⟨ao,bh⟩,dD⟩
     replace X:=X.fr bh (ao.q 8 J) (ao.q 6 J)
     replace u:=u.fr bh (ao.q 5 J) (ao.q 4 J)
     replace bu:=bu.fr bh (ao.q 0 J) dN
     replace bw:=bw.fr bh (ao.q 1 J) dN
     replace W:=bh _ _ ((ao.q 7 J) _ OW) W
     refine WM.nil OU<|att 6 [] J ?_
     have cC:aR dC _ [bg,v20] dA:=⟨bg,v20,J,J,bu,bw⟩
     obtain⟨dE,dF,dG⟩:=dD.unfocus cC (aR.knows _ _ _ _ cC)
     refine wtL [dE,ob T,ob v17,P,ob v1,x,[a],ob d] (smg [1,1,2] J (by simpa[gi,cK] using dG)) ?_
     exact lb [0,0,1,1,1,1,1] [0,0,0] (du (_,_,_,_) ⟨h,u,dF,W,X⟩)
    refine atr 7 [] J ?_
    obtain⟨fc,bW,h⟩:=bs h
    obtain⟨fe,ff,bk,aN,dH,fg,dI⟩:=u.focus bW
    obtain⟨v21,aO,rfl,rfl,dJ⟩:=dH
    refine wlL [ob v21,aO,bk,bd,ob T,ob v1,x,[a],ob d] (sre [2] [ob v21,aO,bk] J (by simpa[gi] using dI))<|lih aN bW J<|lf fk J J J<|lgx 0 0 aN.rg J<|la J ?_
    obtain⟨dK,dL,h⟩:=bs h
    have bl:=be.gives aR.gives
    refine le' (em aR.lasts aR.one dl rd J J J J J (js:=[0]) (Rr:=[aO,bk,bd,ob T,ob v1,x,[a],ob d]) J dJ be (fun ap=>ap.q 0 J) (fun ap=>ap.q 2 J) dL) J ?_
    rintro v22 fh fi ⟨⟨aw,bz⟩,bA⟩
    replace X:=X.fr bz (aw.q 7 J) (aw.q 5 J)
    replace aN:=aN.fr bz (aw.q 4 J) (aw.q 1 J)
    replace bl:=bl.fr bz (aw.q 3 J) (aw.q 2 J)
    replace W:=bz _ _ ((aw.q 6 J) _ OW) W
    refine wlL [(aO++bd),ob v22,bk,ob T,ob v1,x,[a],ob d] (smg [1,2] J (SP.eq OW))<|lih aN bW J<|lf fk J J J<|lu (us [4] [(aO++bd),ob v22,bk,ob T,x,[a],ob d] 0 aS.lasts zB J J bA.one J aN J (fun ap=>ap.q 2 J)) J ?_
    rintro dM fj ⟨⟨ax,bB⟩,dO⟩
    replace X:=X.fr bB (ax.q 6 J) (ax.q 4 J)
    replace bA:=bA.fr bB (ax.q 1 J) (ax.q 0 J)
    replace bl:=bl.fr bB (ax.q 3 J) (Dj.sub (ax.q 0 J) (fun k hk=>gf.2 (.inr hk)))
    replace W:=bB _ _ ((ax.q 5 J) _ OW) W
    refine art 11 [] J ?_
    have cD:aS dM _ [v22] (⟨dK⟩:ar):=⟨v22,(aO++bd),J,J,bA⟩
    obtain⟨dP,dQ,dR,dS,fl⟩:=dO.unfocusM cD (aS.knows _ _ _ _ cD)
    refine wtL [dP,ob v1,ob T,x,[a],ob d] (smg [2,1,1] J (by simpa[gi,cK] using dR)) ?_
    exact lb [0,1,0,0,0,0] [0,0,0] (cS (_,_,_,_,_,_,_) ⟨h,dQ,bl,(fun k hk=>((fun k hk=>(fun k hk=>dS k (gf.2 (.inr hk))) k ((fun k hk=>gf.2 (.inr hk)) k hk)) k hk)),W,X⟩)
   refine ch h J ?_ ?_<;>intro h
   ·refine atr 4 [] J ?_
    obtain⟨fm,cE,h⟩:=bs h
    obtain⟨fo,fp,-,g11,fq,fr,dT⟩:=u.elS (a8 cE).2.2
    obtain⟨v23,fs,rfl,rfl,dU⟩:=dT
    have dV:=dU.rslG aR.gives
    refine lio u cE J<|lf fk J J J<|lgx 0 0 g11 J<|lnr dV J<|la J<|lno y J<|art 3 [] J ?_
    exact wo [0,0,0,0,0,0,0,0] [0,0,0] (K _ ⟨h,k5⟩)
   refine WT.skip ?_
   exact wo [0,0,0,0,0,0,0,0] [0,0,0] (K _ ⟨h,k5⟩)
  refine ch h J ?_ ?_<;>intro h
  ·refine atr 4 [69,2] J<|le' (mh (R:=RI .i64) RI.lasts bR mj J J) J ?_
   rintro v24 ft fu ⟨bm,dW⟩
   replace Z:=Z.f0 bm
   replace u:=u.f0 bm
   replace y:=y.f0 bm
   replace h8:=h8.f0 bm
   replace Y:=bm _ _ OW Y
   refine la J<|kcb [2,1] h J J J J (fun b ap z q=>qw N b ([]:List an) c w ([]:List Int) E h8 (aP.y z) (aQ.y z) (aT.y z) (aU.y z) (dW.rsl.x (Dj.app (ap.q 0 J) dN)) q) ?_
   rintro fv h v25 fw fx ⟨az,bD,v26,fy,rfl,rfl,dX⟩
   replace Z:=Z.fr bD (az.q 6 J) (az.q 4 J)
   replace u:=u.fr bD (az.q 3 J) (az.q 1 J)
   replace y:=y.fr bD (az.q 2 J) (Dj.sub (az.q 1 J) i1)
   replace Y:=bD _ _ ((az.q 5 J) _ OW) Y
   refine la J<|en ?_
   exact wo [1,0,1,1,1,1,1,1] [0,0,0] (K (_,_,_,_) ⟨h,u,y,dX,Y,Z⟩)
  refine WT.skip ?_
  exact wo [0,0,0,0,0,0,0,0] [0,0,0] (K (_,_,_,_) ⟨h,u,y,h8,Y,Z⟩)
 refine xt J ?_
 have cF:aZ c9 _ [v1] (⟨s1⟩:aH):=⟨v1,P,J,J,u⟩
 obtain⟨cH,dZ,e0,fz,fA⟩:=Z.unfocusM cF (aZ.knows _ _ _ _ cF)
 refine wtL [cH,ob M,[a],ob d] (smg [2,0,1] J (by simpa[gi,cK] using e0)) ?_
 refine WT.fin hF aB.none (fun A hw=>?_)
 cases h
 refine aK (js:=[2,2,0]) hw J ⟨d,cH,J,J,J,dZ,Y⟩
theorem Ah (w0:aA f l [[a],ob g,b5,ob d,ad].flatten) (H:bf) (T:bH) (K:aJ) (A:ae) (u:Int) (ao:RSl eK 5 f b7 e H.Rules) (ar:RSl cF 4 f bX p T.Alphas) (aM:RSl ei 2 f b8 n T.Chains) (U:OSl bb 133 1 l b5 g K.Alphas) (k:OSl aZ 100 1 l ad d K.Rules) (V:l a=some (.cells #[g,d] 35 (0,0))) (aN:RSl br 3 f pG3_0 b0 A.Items) {r:aJ} (h:pS N H T K A u=some r) :
  Calls prog 125 [.agg [.string H.Name,e].toArray,.agg [p,n].toArray,pQ a,.agg [b0,iV A.Next].toArray,iV u].toArray w0.w (bc l w0.w [[a],ob g,b5,ob d,ad].flatten (fun aw Fs v=>∃ (ax:Value) (aO:List Nat) (az:Value) (aP:List Nat),v = .tuple #[]∧Fs=[[a],ob ax,aO,ob az,aP]∧OSl bb 133 1 aw aO ax r.Alphas∧OSl aZ 100 1 aw aP az r.Rules∧aw a=some (.cells #[ax,az] 35 (0,0)))):=by
 refine eL func125 J ntmps125 J (L:=[[a],ob g,b5,ob d,ad]) w0 (fun hF=>?_)
 unfold pS at h
 refine sr<|lbx J fun W=>lbx J fun X=>lbx J fun Y=>arr 5 [2] J<|kab h J J J (fun b z q=>nX N b A u (aN.y z) q) ?_
 rintro B h v1 bL F1 ⟨Z,aC,v2,rfl,rfl,h1⟩
 replace U:=U.fr aC (Z.q 1 J) (Z.q 2 J)
 replace k:=k.fr aC (Z.q 3 J) (Z.q 4 J)
 replace V:=aC _ _ ((Z.q 0 J) _ OW) V
 refine arr 3 [] J<|lnz ni J fun a7=>soN 0 oq J ⟨J,h1.one,trivial⟩ J ?_
 refine arr 4 [] J<|le' (mh RB.lasts Es Nd J J) J ?_
 rintro v3 aX D1 ⟨ah,h2⟩
 replace U:=U.f0 ah
 replace k:=k.f0 ah
 replace h1:=h1.f0 ah
 replace V:=ah _ _ OW V
 refine art 8 [] J ?_
 refine lin (σ:=Hp × (List bk) × List Nat × (List Bool) × Value × Int) (fun s=>[(2,pQ a),(4,iV u),(5,pQ W),(6,pQ X),(8,pQ Y),(10,pQ a7),(12,s.2.2.2.2.1),(13,iV s.2.2.2.2.2)]) (fun s=>St w0 s.1 [(a7,.cells #[.string B.1.Kind,v2] 52 (0,0)),(Y,.cells #[b0,iV A.Next] 29 (0,0)),(X,.cells #[p,n] 47 (0,0)),(W,.cells #[.string H.Name,e] 26 (0,0))] [ob s.2.2.2.2.1,ob v2,[a],ob g,s.2.2.1,ob d,ad]) (fun m s=>fV N H T K A u B m s.2.1 s.2.2.2.1 s.2.2.2.2.2=some r∧(OSl bb 133 1 s.1 s.2.2.1 g s.2.1)∧(OSl aZ 100 1 s.1 ad d K.Rules)∧(OSl aY 95 3 s.1 [] v2 B.1.Fields)∧(OSl RB 4 1 s.1 [] s.2.2.2.2.1 s.2.2.2.1)∧(s.1 a=some (.cells #[g,d] 35 (0,0)))) (aX,K.Alphas,b5,([]:List Bool),v3,0) N ⟨h,U,k,h1,h2,V⟩ (sx [0,0,0,0,0,0,0] [0,0,0,0]) (fun n1 aQ s hm=>?_)
 obtain⟨aR,s1,D2,s2,u1,s3⟩:=s
 obtain⟨h,w,k,h1,x,o⟩:=hm
 dsimp only at h w k h1 x o ⊢
 unfold fV at h
 refine atr 6 [0,64] J<|lnr ar J<|la J<|en ?_
 refine ch h J ?_ ?_<;>intro h
 ·refine att 4 [] J<|WT.draw mixed OU (fun _ h=>h.drew)<|aqq 3 [0,64] J ?_
  obtain⟨x2,aS,h⟩:=bs h
  obtain⟨bM,F2,-,g1,bN,bO,r1⟩:=ar.el (a8 aS).2.2
  obtain⟨v4,G1,v5,G2,rfl,rfl,h3,h4⟩:=r1
  refine qq (aq Ar J J ar aS) J<|qq (ay uW J (fun y hw=>(g1.of_eq 0 4 J J:rg _ _ _ [.string x2.Kind,iV x2.N,v4,v5]).rangeAt hw.in0) J) J<|qq (ay oU J (fun y hw=>hw.rgO (i:=0) J 0 2 [.string B.1.Kind,v2] J) J) J ?_
  obtain⟨M,b1,h⟩:=bs h
  refine qp (jj KL J (fun y hw=>A4 N (ba hw.fro) x2 B.1 (h3.y hw.up) (h4.y hw.up) h1.rsl b1)) J<|aqr 6 [] J ?_
  have b2:RC RB 1 aR ([[]]:List (List Nat)) [.bool M] ([M]:List Bool):=RC.cons (c:=[.bool M]) (cells:=[]) ⟨J,J⟩ J (RC.nil _ _ _)
  refine le' (bC (vs:=[(0,.bool M)]) (C:=#[.bool M]) RB.lasts Es Nd J J J J (av Mp (aa (C':=[.bool M]) J J J J J (af))) J b2 J (by simpa using Kw.nil)) J ?_
  rintro v6 b3 D3 ⟨ab,h5⟩
  replace h5:OSl RB 4 1 b3 [] v6 ([M]:List Bool):=by simpa using h5
  replace w:=w.f0 ab
  replace k:=k.f0 ab
  replace h1:=h1.f0 ab
  replace x:=x.f0 ab
  replace o:=ab _ _ OW o
  obtain⟨x4,b4,h⟩:=bs h
  refine le' (dW RB.lasts RB.one RB.flat Es Ol J J J J J (js:=[1]) (Rr:=[ob v6,ob v2,[a],ob g,D2,ob d,ad]) J x h5.rsl b4) J ?_
  rintro v7 aD D4 ⟨⟨P,ak⟩,I⟩
  replace w:=w.fr ak (P.q 3 J) (P.q 4 J)
  replace k:=k.fr ak (P.q 5 J) (P.q 6 J)
  replace h1:=h1.fr ak (P.q 1 J) dN
  replace o:=ak _ _ ((P.q 2 J) _ OW) o
  refine art 6 [] J ?_
  refine ch h J ?_ ?_<;>intro h
  ·obtain⟨x5,aF,h⟩:=bs h
   obtain⟨bP,F3,D5,E,r2,aG,bd⟩:=w.focus aF
   obtain⟨v8,rfl,rfl,h8⟩:=r2
   refine wtL [ob v8,D5,ob v7,ob v6,ob v2,[a],ob g,ob d,ad] (sre [5] [ob v8,D5] J (by simpa[gi] using bd))<|WT.mix (Kn w0 aD ([a]++ob g) [(a7,.cells #[.string B.1.Kind,v2] 52 (0,0)),(Y,.cells #[b0,iV A.Next] 29 (0,0)),(X,.cells #[p,n] 47 (0,0)),(W,.cells #[.string H.Name,e] 26 (0,0))]) (fun i=>match i with | 18=>false | _=>true) mixed (fun _ h=>h.drew)<|ma 0 J OU (kn Kf.id (am [0,1,2,3] J)) J ?_
   refine mq 1 J OU (kn Kf.id (am [0,1,2,3] J)) (aI J) J<|mq 2 J OU (kn Kf.id (am [0,1,2,3] J)) (au jq J) J<|mq 3 J OU (kn Kf.id (am [0,1,2,3] J)) (aW yx J (fun y hw=>hw.rg (gf.2 (.inl OW)) ((cn o).of_eq 0 1 J J:rg _ _ _ [g]))) J<|ma 4 J OU (kn Kf.id (am [0,1,2,3] J)) J<|ma 5 J OU (kn Kf.id (am [0,1,2,3] J)) J<|mq 6 J OU (kn Kf.id (am [0,1,2,3] J)) (aI J) J ?_
   refine mq 7 J OU (kn Kf.id (am [0,1,2,3] J)) (au jq J) J<|mq 8 J OU (kn Kf.id (am [0,1,2,3] J)) (aW yx J (fun y hw=>hw.rg (gf.2 (.inl OW)) ((cn o).of_eq 0 1 J J:rg _ _ _ [g]))) J<|ma 9 J OU (kn Kf.id (am [0,1,2,3] J)) J<|mq 10 J OU (kn Kf.id (am [0,1,2,3] J)) (bT rn J J E aF) J<|mq 11 J OU (kn Kf.id (am [0,1,2,3] J)) (au jx J) J ?_
   refine mq 12 J OU (kn Kf.id (am [0,1,2,3] J)) (aW sR J (fun y hw=>hw.rg (gf.2 (.inr E.hb)) (E.rg.of_eq 0 1 J J:rg _ _ _ [v8]))) J<|ma 13 J OU (kn Kf.id (am [0,1,2,3] J)) J ?_
   have be:RC (RI .i64) 1 aD ([[]]:List (List Nat)) [iV u] ([u]:List Int):=RC.cons (c:=[iV u]) (cells:=[]) ⟨J,J⟩ J (RC.nil _ _ _)
   refine WM.one 14 OU (me J (fun _ v bg D y hq hw=>Kn.of (Kf.id.se hq.1) (am [0,1,2,3] J) hw) (bC (vs:=[(0,iV u)]) (C:=#[iV u]) RI.lasts bR mj J J J J (av kL (aa (C':=[iV u]) J J J J J (af))) J be J (by simpa using Kw.nil)) J ?_)
   rintro v9 bh D6 ⟨O,h9⟩
   replace h9:OSl (RI .i64) 3 1 bh [] v9 ([u]:List Int):=by simpa using h9
   replace E:=E.f0 O
   replace k:=k.f0 O
   replace h1:=h1.f0 O
   replace I:=I.f0 O
   replace h8:=h8.f0 O
   replace o:=O _ _ OW o
   obtain⟨x6,bl,h⟩:=bs h
   have aG:=(Kf.id (F:=([a]++ob g)):Kf aD _ _).se O
   refine WM.one 15 OU (me J (fun _ v bg D y hq hw=>Kn.of (aG.st hq.1.2 (Dj.app (hq.1.1.r (i:=5) J) (hq.1.1.r (i:=6) J))) (am [0,1,2,3] J) hw) (dW RI.lasts RI.one RI.flat bR tt J J J J J (js:=[1]) (Rr:=[ob v9,D5,ob v7,ob v6,ob v2,[a],ob g,ob d,ad]) J h8 h9.rsl bl) J ?_)
   rintro v10 bQ D7 ⟨⟨G,Q⟩,al⟩
   replace E:=E.fr Q (G.q 6 J) (G.q 1 J)
   replace k:=k.fr Q (G.q 7 J) (G.q 8 J)
   replace h1:=h1.fr Q (G.q 4 J) dN
   replace I:=I.fr Q (G.q 2 J) dN
   replace o:=Q _ _ ((G.q 5 J) _ OW) o
   have aT:=aG.st Q (Dj.app (G.q 5 J) (G.q 6 J))
   refine mqT 16 [17,18] J OU (kn aT (am [0,1,2,3] J)) (bT rn J J E aF) J<|mq 17 J OU (kn aT (am [0,1,2,3] J)) (au jx J) J ?_
   refine WM.one 18 OU (mu J (fun hc=>by cases hc) (us [7] [ob v10,ob v9,D5,ob v7,ob v6,ob v2,[a],ob d,ad] 0 bb.lasts sO J J al.one J E J (fun ap=>ap.q 2 J)) J ?_)
   rintro bm D8 ⟨⟨S,ag⟩,bn⟩
   replace k:=k.fr ag (S.q 7 J) (S.q 8 J)
   replace h1:=h1.fr ag (S.q 5 J) dN
   replace I:=I.fr ag (S.q 3 J) dN
   replace al:=al.fr ag (S.q 0 J) dN
   replace o:=ag _ _ ((S.q 6 J) _ OW) o
   refine WM.nil OU<|att 6 [] J ?_
   have r3:bb bm _ [v10] (⟨x6⟩:bk):=⟨v10,J,J,al⟩
   obtain⟨D9,bo,bp⟩:=bn.unfocus r3 (bb.knows _ _ _ _ r3)
   refine wtL [D9,ob g,ob v9,ob v7,ob v6,ob v2,[a],ob d,ad] (smg [1,2] J (by simpa[gi,cK] using bp)) ?_
   exact lb [3,4,4,1,0,2,2] [0,0,0,0] (aQ (_,_,_,_,_,_) ⟨h,bo,k,h1,I,o⟩)
  refine att 7 [] J ?_
  exact lb [0,1,1,1,1,1,1] [0,0,0,0] (aQ (_,_,_,_,_,_) ⟨h,w,k,h1,I,o⟩)
 refine att 6 [] J ?_
 refine lin (σ:=Hp × (List aH) × Value × List Nat × Int) (fun s=>[(2,pQ a),(4,iV u),(5,pQ W),(6,pQ X),(8,pQ Y),(10,pQ a7),(12,u1),(15,iV s.2.2.2.2)]) (fun s=>St w0 s.1 [(a7,.cells #[.string B.1.Kind,v2] 52 (0,0)),(Y,.cells #[b0,iV A.Next] 29 (0,0)),(X,.cells #[p,n] 47 (0,0)),(W,.cells #[.string H.Name,e] 26 (0,0))] [ob u1,ob v2,[a],ob g,D2,ob s.2.2.1,s.2.2.2.1]) (fun m s=>gY N H T A u B s1 s2 m s.2.1 s.2.2.2.2=some r∧(OSl bb 133 1 s.1 D2 g s1)∧(OSl aZ 100 1 s.1 s.2.2.2.1 s.2.2.1 s.2.1)∧(OSl aY 95 3 s.1 [] v2 B.1.Fields)∧(OSl RB 4 1 s.1 [] u1 s2)∧(s.1 a=some (.cells #[g,s.2.2.1] 35 (0,0)))) (aR,K.Rules,d,ad,0) N ⟨h,w,k,h1,x,o⟩ (sx [0,0,0,0,0,0,0] [0,0,0,0]) (fun n2 bq s hm=>?_)
 obtain⟨bS,s4,u2,bt,s5⟩:=s
 obtain⟨h,w,k4,h1,x,k5⟩:=hm
 dsimp only at h w k4 h1 x k5 ⊢
 unfold gY at h
 refine atr 6 [1,96] J<|lnr ao J<|la J<|en ?_
 refine ch h J ?_ ?_<;>intro h
 ·refine att 3 [] J<|wm [0,1,2,3] [16] J<|amm 9 [10,11,12,34,13,14,2,15,0,1,1,96,2] [0,1,2,3] J J ?_
  obtain⟨x7,aU,h⟩:=bs h
  obtain⟨bU,F4,-,g2,bV,bW,r4⟩:=ao.el (a8 aU).2.2
  obtain⟨v11,G3,v12,G4,bu,G5,rfl,rfl,bw,bz,bA⟩:=r4
  refine mqT 3 [4,16] J OU (kN [0,1,2,3]) (aq FN J J ao aU) J<|mq 4 J OU (kN [0,1,2,3]) (ay ur J (fun y hw=>(g2.of_eq 0 5 J J:rg _ _ _ [.string x7.Name,iV x7.Sal,v11,v12,bu]).rangeAt hw.1) J) J<|amm 3 [5,1,6,64,7] [0,1,2,3] J J ?_
  obtain⟨x8,aV,h⟩:=bs h
  obtain⟨bZ,F5,-,g3,c0,c3,r5⟩:=aM.el (a8 aV).2.2
  obtain⟨bB,G6,bD,G7,rfl,rfl,bE,bF⟩:=r5
  refine mqT 8 [9,16] J OU (kN [0,1,2,3]) (aq AV J J aM aV) J<|mq 9 J OU (kN [0,1,2,3]) (ay HS J (fun y hw=>(g3.of_eq 0 2 J J:rg _ _ _ [bB,bD]).rangeAt hw.1) J) J ?_
  obtain⟨x9,bG,h⟩:=bs h
  refine WM.one 16 OU (mc J (fun hc=>by cases hc) (bJ (js:=[2,4,4]) (R:=[ob u1,ob v2,ob g,D2]) JK J J (fun y hw ap hl=>z7 N (bx hw ap hl) x7 x8 (⟨s1,s4⟩:aJ) s5 A u B.1 s2 (bw.y (hw.uo ap)) (bz.y (hw.uo ap)) (bA.y (hw.uo ap)) (bE.y (hw.uo ap)) (bF.y (hw.uo ap)) ((w.rslG bb.gives).x (Dj.app (ap.q 2 J) (ap.q 3 J))) k4 k5 (aN.y (hw.uo ap)) (h1.rsl.x (Dj.app (ap.q 1 J) dN)) (x.rsl.x (Dj.app (ap.q 0 J) dN))  bG)) J ?_)
  rintro c4 c5 F6 ⟨an,aL,v17,c6,rfl,rfl,e1,bI,bK⟩
  replace w:=w.fr aL (an.q 2 J) (an.q 3 J)
  replace h1:=h1.fr aL (an.q 1 J) dN
  replace x:=x.fr aL (an.q 0 J) dN
  refine WM.nil OU<|att 6 [] J ?_
  exact lb [3,3,0,2,2,0,0] [0,0,0,0] (bq (_,_,_,_,_) ⟨h,w,bI,h1,x,bK⟩)
 refine xt J ?_
 refine WT.fin hF aB.none (fun y hw=>?_)
 cases h
 refine aK (js:=[2,2,2,2,2]) hw J ⟨g,D2,u2,bt,J,J,w,k4,k5⟩
theorem zy (w0:aA f l [[a6]].flatten) (T:ab) (aX:RSl (RI .u8) 1 f b7 e T.b) (bZ:l a6=some (.cells #[e,iV T.i,iV T.h] 144 (0,0))) {r:bf × bH × aJ × ae × ab} (h:oK N T=some r) :
  Calls prog 60 [pQ a6].toArray w0.w (bc l w0.w [[a6]].flatten (fun ay Fs v=>∃ (bp:Value) (bM:List Nat) (bq:Value) (bN:List Nat) (bt:Value) (bO:List Nat) (bu:Value) (bP:List Nat) (bw:Value) (bQ:List Nat) (bz:Value) (bR:List Nat) (X:List Nat),v = .tuple #[.agg [.string r.1.Name,bp].toArray,.agg [bq,bt].toArray,.agg [bu,bw].toArray,.agg [bz,iV r.2.2.2.1.Next].toArray]∧Fs=[ob bp,bM,ob bq,ob bt,bO,ob bu,bP,ob bw,bQ,ob bz,[a6],X]∧OSl d8 87 5 ay bM bp r.1.Rules∧OSl cF 137 4 ay bN bq r.2.1.Alphas∧(∀ k∈bN,k∈X)∧OSl bK 141 2 ay bO bt r.2.1.Chains∧OSl bb 133 1 ay bP bu r.2.2.1.Alphas∧OSl aZ 100 1 ay bQ bw r.2.2.1.Rules∧OSl br 66 3 ay bR bz r.2.2.2.1.Items∧(∀ k∈bR,k∈X)∧r.2.2.2.2.b=T.b∧ay a6=some (.cells #[e,iV r.2.2.2.2.i,iV r.2.2.2.2.h] 144 (0,0)))):=by
 refine eL func60 J ntmps60 J (L:=[[a6]]) w0 (fun hF=>?_)
 unfold oK at h
 refine sr<|lnz yC J fun az=>lnz tl J fun aC=>lnz mM J fun aD=>lnz sU J fun aF=>arr 4 [] J<|kcb [0] h J J J J (fun b ap z q=>zd N b T (aX.y z) bZ q) ?_
 rintro I h v1 c5 F1 ⟨c6,c7,v2,Y,rfl,rfl,h1,e1,h2⟩
 refine lnz yC J fun aG=>soN 0 B1 J ⟨J,h1.one,trivial⟩ J ?_
 refine arr 4 [2] J<|kab h J J J (fun b z q=>A9 N b I.1 (h1.rslG d8.gives) q) ?_
 rintro x2 h v3 c8 F2 ⟨bA,bS,v4,D2,v5,Z,U,rfl,rfl,c,y,o⟩
 replace h1:=h1.fr bS (bA.q 0 J) (bA.q 1 J)
 replace h2:=bS _ _ ((bA.q 2 J) _ OW) h2
 refine lnz tl J fun aI=>soN 0 w4 J ⟨c.one,o.one,trivial⟩ J ?_
 refine arr 4 [2] J<|kab h J J J (fun b z q=>A3 N b x2 c.rsl (o.rslG bK.gives) q) ?_
 rintro x4 h v6 c9 F3 ⟨aL,bm,v7,D4,v8,D5,rfl,rfl,h5,h6⟩
 replace h1:=h1.fr bm (aL.q 4 J) (aL.q 5 J)
 replace c:=c.fr bm (aL.q 0 J) (Dj.sub (aL.q 3 J) y)
 replace o:=o.fr bm (aL.q 1 J) (aL.q 2 J)
 replace h2:=bm _ _ ((aL.q 6 J) _ OW) h2
 refine lnz mM J fun bn=>soN 0 oC J ⟨h5.one,h6.one,trivial⟩ J ?_
 refine en<|sr<|lq (bE (vs:=[(1,iV 1)]) (C:=#[.slice none 0 0,iV 1]) I3 sU J (aa (C':=[.slice none 0 0,iV 1]) J J J J J (af))) J<|lnz sU J fun aQ=>soN 0 vF J ⟨J,J,trivial⟩ J ?_
 refine arr 5 [] J<|kcb [10] h J J J J (fun b ap z q=>cW N b (⟨T.b,I.2.i,I.2.h⟩:ab) 10 (aX.y z) h2 q) ?_
 rintro x5 h v9 bT F4 ⟨a7,aY,rfl,rfl,e2,h7⟩
 replace h1:=h1.fr aY (a7.q 8 J) (a7.q 9 J)
 replace c:=c.fr aY (a7.q 4 J) (Dj.sub (a7.q 7 J) y)
 replace o:=o.fr aY (a7.q 5 J) (a7.q 6 J)
 replace h5:=h5.fr aY (a7.q 0 J) (a7.q 1 J)
 replace h6:=h6.fr aY (a7.q 2 J) (a7.q 3 J)
 refine art 3 [] J<|wt0<|wtS ?_
 have k1:=OSl.nil br 66 3 bT
 refine lin (σ:=Hp × List Nat × (List bk) × Value × List Nat × (List aH) × Value × List Nat × (List ak) × Value × List Nat × Int × Int × Int × Int) (fun s=>[(0,pQ a6),(2,pQ az),(3,pQ aC),(4,pQ aD),(5,pQ aF),(6,pQ aG),(7,pQ aI),(8,pQ bn),(9,pQ aQ),(10,iV s.2.2.2.2.2.2.2.2.2.2.2.1)]) (fun s=>St w0 s.1 [(aQ,.cells #[s.2.2.2.2.2.2.2.2.2.1,iV s.2.2.2.2.2.2.2.2.2.2.2.2.2.2] 29 (0,0)),(bn,.cells #[s.2.2.2.1,s.2.2.2.2.2.2.1] 35 (0,0)),(aI,.cells #[v4,v5] 47 (0,0)),(aG,.cells #[.string I.1.Name,v2] 26 (0,0)),(aF,.cells #[.slice none 0 0,iV 0] 29 (0,0)),(aD,.cells #[.slice none 0 0,.slice none 0 0] 35 (0,0)),(aC,.cells #[.slice none 0 0,.slice none 0 0] 47 (0,0)),(az,.cells #[.string (⟨#[]⟩:Qr),.slice none 0 0] 26 (0,0))] [ob s.2.2.2.2.2.2.2.2.2.1,s.2.1,[a6],ob s.2.2.2.1,s.2.2.2.2.1,ob s.2.2.2.2.2.2.1,s.2.2.2.2.2.2.2.1,ob v4,ob v5,Z,U,ob v2,Y]) (fun m s=>gn N T I x2 m s.2.2.1 s.2.2.2.2.2.1 s.2.2.2.2.2.2.2.2.1 s.2.2.2.2.2.2.2.2.2.2.2.1 s.2.2.2.2.2.2.2.2.2.2.2.2.1 s.2.2.2.2.2.2.2.2.2.2.2.2.2.1 s.2.2.2.2.2.2.2.2.2.2.2.2.2.2=some r∧(OSl d8 87 5 s.1 Y v2 I.1.Rules)∧(OSl cF 137 4 s.1 D2 v4 x2.Alphas)∧(OSl bK 141 2 s.1 Z v5 x2.Chains)∧(OSl bb 133 1 s.1 s.2.2.2.2.1 s.2.2.2.1 s.2.2.1)∧(OSl aZ 100 1 s.1 s.2.2.2.2.2.2.2.1 s.2.2.2.2.2.2.1 s.2.2.2.2.2.1)∧(OSl br 66 3 s.1 s.2.2.2.2.2.2.2.2.2.2.1 s.2.2.2.2.2.2.2.2.2.1 s.2.2.2.2.2.2.2.2.1)∧(∀ k∈s.2.2.2.2.2.2.2.2.2.2.1,k∈s.2.1)∧(s.1 a6=some (.cells #[e,iV s.2.2.2.2.2.2.2.2.2.2.2.2.1,iV s.2.2.2.2.2.2.2.2.2.2.2.2.2.1] 144 (0,0)))) (bT,[],x4.Alphas,v7,D4,x4.Rules,v8,D5,([]:List ak),(.slice none 0 0),[],x5.1,x5.2.i,x5.2.h,1) N ⟨h,h1,c,o,h5,h6,k1,OW,h7⟩ (sx [0,0,0,0,0,0,0,0,0,0,0,0,0] [0,0,0,0,0,0,0,0]) (fun n1 bB s hm=>?_)
 obtain⟨ca,X2,s1,u1,D6,s2,u2,D7,s3,u3,D8,s4,s5,s6,s7⟩:=s
 obtain⟨h,h1,c,o,w,x,u,i2,k5⟩:=hm
 dsimp only at h h1 c o w x u i2 k5 ⊢
 unfold gn at h
 refine att 6 [] J ?_
 refine ch h J ?_ ?_<;>intro h
 ·refine atr 7 [] J<|kcb [2] h J J J J (fun b ap z q=>hU N b (⟨T.b,s5,s6⟩:ab) 4 (aX.y z) k5 q) ?_
  rintro x6 h v10 cb F5 ⟨O,aR,rfl,rfl,e3,h8⟩
  replace h1:=h1.fr aR (O.q 10 J) (O.q 11 J)
  replace c:=c.fr aR (O.q 6 J) (Dj.sub (O.q 9 J) y)
  replace o:=o.fr aR (O.q 7 J) (O.q 8 J)
  replace w:=w.fr aR (O.q 2 J) (O.q 3 J)
  replace x:=x.fr aR (O.q 4 J) (O.q 5 J)
  replace u:=u.fr aR (O.q 0 J) (Dj.sub (O.q 1 J) i2)
  refine la J ?_
  obtain⟨b4,b1,h⟩:=bs h
  refine WL.cutN 5 [(34,.bool b4),(0,pQ a6),(2,pQ az),(3,pQ aC),(4,pQ aD),(5,pQ aF),(6,pQ aG),(7,pQ aI),(8,pQ bn),(9,pQ aQ),(10,iV s4)] ?_ (fun K=>?_)
  rotate_left
  ·refine sp 29 b1 J (fun b1=>?_) fun b1=>?_
   ·refine arr 2 [0,0] J<|ly J J<|lno u J<|arr 2 [] J ?_
    cases b1
    exact ku K
   ·refine arr 5 [] J ?_
    cases b1
    exact ku K
  refine en ?_
  refine ch h J ?_ ?_<;>intro h
  ·refine sq<|wm [0,1,2,3,4,5,6,7] [] J<|amm 5 [0,0,1,0,2,3,0,4,0] [0,1,2,3,4,5,6,7] J J<|mq 5 J OU (kN [0,1,2,3,4,5,6,7]) (mm np J J u.rsl) J ?_
   obtain⟨x7,c0,h⟩:=bs h
   refine WM.one 6 OU (mc J (fun _ v cc D w1 hq hw=>Kn.of Kf.nil (am [0,1,2,3,4,5,6,7] J) hw) (bJ (js:=[0]) (R:=[ob u3,X2,ob u1,D6,ob u2,D7,ob v4,ob v5,Z,U,ob v2,Y]) MU J J (fun w1 hw ap hl=>cW N (bx hw ap hl) (⟨T.b,x6.2.i,x6.2.h⟩:ab) (s3.length:Int) (aX.y (hw.uo ap)) h8  c0)) J ?_)
   rintro v11 cd F6 ⟨P,aS,rfl,rfl,e4,M⟩
   replace h1:=h1.fr aS (P.q 10 J) (P.q 11 J)
   replace c:=c.fr aS (P.q 6 J) (Dj.sub (P.q 9 J) y)
   replace o:=o.fr aS (P.q 7 J) (P.q 8 J)
   replace w:=w.fr aS (P.q 2 J) (P.q 3 J)
   replace x:=x.fr aS (P.q 4 J) (P.q 5 J)
   replace u:=u.fr aS (P.q 0 J) (Dj.sub (P.q 1 J) i2)
   obtain⟨x8,bU,h⟩:=bs h
   obtain⟨cf,F7,-,g1,cg,cj,r1⟩:=u.elS (a8 bU).2.2
   obtain⟨v12,G1,rfl,c3,ck⟩:=r1
   obtain rfl:=c3.symm
   refine mq 7 J OU (kN [0,1,2,3,4,5,6,7]) (aq np J J u.rsl bU) J<|amm 1 [8,0] [0,1,2,3,4,5,6,7] J J ?_
   refine on1 9 (mv J (kS [0,1,2,3,4,5,6,7]) (aW tQ J (fun w1 hw=>(g1.of_eq 0 1 J J:rg _ _ _ [iV x8.Id]).rangeAt hw.fro)) J ?_)
   refine amm 1 [10] [0,1,2,3,4,5,6,7] J J<|WM.nil OU<|atr 5 [98,2] J ?_
   refine WL.frz (js:=[1]) (R:=[(aQ,.cells #[u3,iV s7] 29 (0,0)),(aI,.cells #[v4,v5] 47 (0,0)),(aG,.cells #[.string I.1.Name,v2] 26 (0,0)),(aF,.cells #[.slice none 0 0,iV 0] 29 (0,0)),(aD,.cells #[.slice none 0 0,.slice none 0 0] 35 (0,0)),(aC,.cells #[.slice none 0 0,.slice none 0 0] 47 (0,0)),(az,.cells #[.string (⟨#[]⟩:Qr),.slice none 0 0] 26 (0,0))]) J (fun cm aM k6=>?_)
   replace h1:=h1.f0 aM
   replace c:=c.f0 aM
   replace o:=o.f0 aM
   replace w:=w.f0 aM
   replace x:=x.f0 aM
   replace u:=u.f0 aM
   replace M:=aM _ _ OW M
   refine kcb [0,3,3,3,3] h J J J J (fun b ap z q=>zu N b I.1 (⟨s1,s2⟩:aJ) (⟨s3,s7⟩:ae) x8.Id ((h1.rslG d8.gives).x (Dj.app (ap.q 7 J) (ap.q 8 J))) w x k6 (u.rsl.x (Dj.app (ap.q 1 J) (Dj.sub (ap.q 2 J) i2))) q) ?_
   rintro x9 h cp cq F8 ⟨ah,b2,bC,D9,bD,bF,rfl,rfl,al,an,b3⟩
   replace h1:=h1.fr b2 (ah.q 7 J) (ah.q 8 J)
   replace c:=c.fr b2 (ah.q 3 J) (Dj.sub (ah.q 6 J) y)
   replace o:=o.fr b2 (ah.q 4 J) (ah.q 5 J)
   replace u:=u.fr b2 (ah.q 1 J) (Dj.sub (ah.q 2 J) i2)
   replace M:=b2 _ _ ((ah.q 0 J) _ OW) M
   refine arr 4 [] J ?_
   refine WL.frz (js:=[0]) (R:=[(aI,.cells #[v4,v5] 47 (0,0)),(aG,.cells #[.string I.1.Name,v2] 26 (0,0)),(aF,.cells #[.slice none 0 0,iV 0] 29 (0,0)),(aD,.cells #[.slice none 0 0,.slice none 0 0] 35 (0,0)),(aC,.cells #[.slice none 0 0,.slice none 0 0] 47 (0,0)),(az,.cells #[.string (⟨#[]⟩:Qr),.slice none 0 0] 26 (0,0))]) J (fun cr ao k7=>?_)
   replace h1:=h1.f0 ao
   replace c:=c.f0 ao
   replace o:=o.f0 ao
   replace u:=u.f0 ao
   replace al:=al.f0 ao
   replace an:=an.f0 ao
   replace b3:=ao _ _ OW b3
   replace M:=ao _ _ OW M
   refine kcb [0] h J J J J (fun b ap z q=>zT N b (⟨s3,s7⟩:ae) x8.Id (u.rsl.x (Dj.app (ap.q 6 J) (Dj.sub (ap.q 7 J) i2))) k7 q) ?_
   rintro ct h cu cv F9 ⟨Q,aN,v17,cw,rfl,rfl,ba,i3,bG⟩
   replace h1:=h1.fr aN (Q.q 12 J) (Q.q 13 J)
   replace c:=c.fr aN (Q.q 8 J) (Dj.sub (Q.q 11 J) y)
   replace o:=o.fr aN (Q.q 9 J) (Q.q 10 J)
   replace al:=al.fr aN (Q.q 1 J) (Q.q 2 J)
   replace an:=an.fr aN (Q.q 3 J) (Q.q 4 J)
   replace b3:=aN _ _ ((Q.q 0 J) _ OW) b3
   replace M:=aN _ _ ((Q.q 5 J) _ OW) M
   refine art 7 [] J ?_
   refine WT.thw (js:=[2]) (R:=[[aQ],ob v17,ob bC,D9,ob bD,bF,[a6],ob u3,X2,ob v4,ob v5,Z,U,ob v2,Y]) J b3 (fun cx A ar=>?_)
   replace h1:=h1.fr ar (A.q 13 J) (A.q 14 J)
   replace c:=c.fr ar (A.q 9 J) (Dj.sub (A.q 12 J) y)
   replace o:=o.fr ar (A.q 10 J) (A.q 11 J)
   replace al:=al.fr ar (A.q 2 J) (A.q 3 J)
   replace an:=an.fr ar (A.q 4 J) (A.q 5 J)
   replace ba:=ba.fr ar (A.q 1 J) (Dj.sub (Dj.app (A.q 7 J) (Dj.sub (A.q 8 J) i2)) i3)
   replace bG:=ar _ _ ((A.q 0 J) _ OW) bG
   replace M:=ar _ _ ((A.q 6 J) _ OW) M
   refine WT.thw (js:=[0]) (R:=[ob v17,ob bC,D9,ob bD,bF,[a6],ob u3,X2,ob v4,ob v5,Z,U,ob v2,Y]) J bG (fun cy E aO=>?_)
   replace h1:=h1.fr aO (E.q 12 J) (E.q 13 J)
   replace c:=c.fr aO (E.q 8 J) (Dj.sub (E.q 11 J) y)
   replace o:=o.fr aO (E.q 9 J) (E.q 10 J)
   replace al:=al.fr aO (E.q 1 J) (E.q 2 J)
   replace an:=an.fr aO (E.q 3 J) (E.q 4 J)
   replace ba:=ba.fr aO (E.q 0 J) (Dj.sub (Dj.app (E.q 6 J) (Dj.sub (E.q 7 J) i2)) i3)
   replace M:=aO _ _ ((E.q 5 J) _ OW) M
   refine wtL [(X2++(ob u3)),ob v17,ob bC,D9,ob bD,bF,[a6],ob v4,ob v5,Z,U,ob v2,Y] (smg [7,6] J (SP.eq (by simp[gi]))) ?_
   exact lb [1,0,4,0,0,0,0,0,0,0,0,0,0] [0,0,0,0,0,0,0,0] (bB (_,_,_,_,_,_,_,_,_,_,_,_,_,_,_) ⟨h,h1,c,o,al,an,ba,(fun k hk=>((gf.1 (i3 k hk)).elim (fun h=>((fun k hk=>(gf.2 (.inr hk))) k h)) (fun h=>((fun k hk=>(gf.2 (.inl hk))) k (i2 k h))))),M⟩)
  refine atr 4 [] J<|kcb [0] h J J J J (fun b ap z q=>Ag N b (⟨T.b,x6.2.i,x6.2.h⟩:ab) (aX.y z) h8 q) ?_
  rintro bo h cz cA cB ⟨S,aT,be,rfl,rfl,bg,e5,G⟩
  replace h1:=h1.fr aT (S.q 10 J) (S.q 11 J)
  replace c:=c.fr aT (S.q 6 J) (Dj.sub (S.q 9 J) y)
  replace o:=o.fr aT (S.q 7 J) (S.q 8 J)
  replace w:=w.fr aT (S.q 2 J) (S.q 3 J)
  replace x:=x.fr aT (S.q 4 J) (S.q 5 J)
  replace u:=u.fr aT (S.q 0 J) (Dj.sub (S.q 1 J) i2)
  refine lnz ni J fun bV=>soN 0 oq J ⟨J,bg.one,trivial⟩ J ?_
  refine arr 5 [34,2] J<|qc h (xy N · (⟨s3,s7⟩:ae) bo.1 u.rsl bg.rsl ·) J J J fun cC h=>la J<|en ?_
  refine ch h J ?_ ?_<;>intro h
  ·refine atr 3 [2] J ?_
   refine WL.frz (js:=[1]) (R:=[(bV,.cells #[.string bo.1.Kind,be] 52 (0,0)),(bn,.cells #[u1,u2] 35 (0,0)),(aI,.cells #[v4,v5] 47 (0,0)),(aG,.cells #[.string I.1.Name,v2] 26 (0,0)),(aF,.cells #[.slice none 0 0,iV 0] 29 (0,0)),(aD,.cells #[.slice none 0 0,.slice none 0 0] 35 (0,0)),(aC,.cells #[.slice none 0 0,.slice none 0 0] 47 (0,0)),(az,.cells #[.string (⟨#[]⟩:Qr),.slice none 0 0] 26 (0,0))]) J (fun cD au k8=>?_)
   replace h1:=h1.f0 au
   replace bg:=bg.f0 au
   replace c:=c.f0 au
   replace o:=o.f0 au
   replace w:=w.f0 au
   replace x:=x.f0 au
   replace u:=u.f0 au
   replace G:=au _ _ OW G
   refine kcb [0,2] h J J J J (fun b ap z q=>xU N b (⟨s3,s7⟩:ae) bo.1 u k8 (bg.rsl.x (Dj.app (ap.q 0 J) dN)) (Dj.sub (ap.q 2 J) i2) q) ?_
   rintro bW h v20 cE cG ⟨V,aU,v21,cH,X3,rfl,rfl,ag,i4,av⟩
   replace h1:=h1.fr aU (V.q 11 J) (V.q 12 J)
   replace c:=c.fr aU (V.q 7 J) (Dj.sub (V.q 10 J) y)
   replace o:=o.fr aU (V.q 8 J) (V.q 9 J)
   replace w:=w.fr aU (V.q 3 J) (V.q 4 J)
   replace x:=x.fr aU (V.q 5 J) (V.q 6 J)
   replace G:=aU _ _ ((V.q 1 J) _ OW) G
   refine arr 5 [98,66] J<|lgx 0 2 (cn av) J<|la J ?_
   refine WL.frz (js:=[1]) (R:=[(bV,.cells #[.string bo.1.Kind,be] 52 (0,0)),(aI,.cells #[v4,v5] 47 (0,0)),(aG,.cells #[.string I.1.Name,v2] 26 (0,0)),(aF,.cells #[.slice none 0 0,iV 0] 29 (0,0)),(aD,.cells #[.slice none 0 0,.slice none 0 0] 35 (0,0)),(aC,.cells #[.slice none 0 0,.slice none 0 0] 47 (0,0)),(az,.cells #[.string (⟨#[]⟩:Qr),.slice none 0 0] 26 (0,0))]) J (fun cI aw k9=>?_)
   replace h1:=h1.f0 aw
   replace ag:=ag.f0 aw
   replace c:=c.f0 aw
   replace o:=o.f0 aw
   replace w:=w.f0 aw
   replace x:=x.f0 aw
   replace av:=aw _ _ OW av
   replace G:=aw _ _ OW G
   refine kcb [0,6,6,6,6] h J J J J (fun b ap z q=>Ah N b I.1 x2 (⟨s1,s2⟩:aJ) bW.2 bW.1 ((h1.rslG d8.gives).x (Dj.app (ap.q 10 J) (ap.q 11 J))) (c.rsl.x (Dj.app (ap.q 6 J) (Dj.sub (ap.q 9 J) y))) ((o.rslG bK.gives).x (Dj.app (ap.q 7 J) (ap.q 8 J))) w x k9 (ag.rsl.x (Dj.app (ap.q 1 J) (Dj.sub (Dj.app (ap.q 2 J) (Dj.sub (ap.q 5 J) i2)) i4))) q) ?_
   rintro cJ h v22 cK cL ⟨W,aV,v23,bI,v24,bL,rfl,rfl,bh,bl,c4⟩
   replace h1:=h1.fr aV (W.q 10 J) (W.q 11 J)
   replace ag:=ag.fr aV (W.q 1 J) (Dj.sub (Dj.app (W.q 2 J) (Dj.sub (W.q 5 J) i2)) i4)
   replace c:=c.fr aV (W.q 6 J) (Dj.sub (W.q 9 J) y)
   replace o:=o.fr aV (W.q 7 J) (W.q 8 J)
   replace av:=aV _ _ ((W.q 0 J) _ OW) av
   replace G:=aV _ _ ((W.q 4 J) _ OW) G
   refine art 7 [] J ?_
   refine WT.thw (js:=[0]) (R:=[ob v23,bI,ob v24,bL,[aQ],ob v21,X3,ob be,[a6],X2,ob v4,ob v5,Z,U,ob v2,Y]) J c4 (fun cM B ax=>?_)
   replace h1:=h1.fr ax (B.q 14 J) (B.q 15 J)
   replace ag:=ag.fr ax (B.q 5 J) (Dj.sub (Dj.app (B.q 6 J) (Dj.sub (B.q 9 J) i2)) i4)
   replace bh:=bh.fr ax (B.q 0 J) (B.q 1 J)
   replace bl:=bl.fr ax (B.q 2 J) (B.q 3 J)
   replace c:=c.fr ax (B.q 10 J) (Dj.sub (B.q 13 J) y)
   replace o:=o.fr ax (B.q 11 J) (B.q 12 J)
   replace av:=ax _ _ ((B.q 4 J) _ OW) av
   replace G:=ax _ _ ((B.q 8 J) _ OW) G
   refine WT.thw (js:=[4]) (R:=[ob v23,bI,ob v24,bL,ob v21,X3,ob be,[a6],X2,ob v4,ob v5,Z,U,ob v2,Y]) J av (fun cN H aP=>?_)
   replace h1:=h1.fr aP (H.q 13 J) (H.q 14 J)
   replace ag:=ag.fr aP (H.q 4 J) (Dj.sub (Dj.app (H.q 5 J) (Dj.sub (H.q 8 J) i2)) i4)
   replace bh:=bh.fr aP (H.q 0 J) (H.q 1 J)
   replace bl:=bl.fr aP (H.q 2 J) (H.q 3 J)
   replace c:=c.fr aP (H.q 9 J) (Dj.sub (H.q 12 J) y)
   replace o:=o.fr aP (H.q 10 J) (H.q 11 J)
   replace G:=aP _ _ ((H.q 7 J) _ OW) G
   refine wtL [(X2++(X3)),ob v23,bI,ob v24,bL,ob v21,ob be,[a6],ob v4,ob v5,Z,U,ob v2,Y] (smg [8,5] J (SP.eq (by simp[gi]))) ?_
   exact lb [5,0,5,0,0,0,0,1,1,1,1,1,1] [0,0,1,1,1,1,1,1] (bB (_,_,_,_,_,_,_,_,_,_,_,_,_,_,_) ⟨h,h1,c,o,bh,bl,ag,(fun k hk=>((gf.1 (i4 k hk)).elim (fun h=>((fun k hk=>(gf.2 (.inr hk))) k h)) (fun h=>((fun k hk=>(gf.2 (.inl hk))) k (i2 k h))))),G⟩)
  refine att 7 [] J ?_
  exact lb [2,2,1,1,1,1,1,1,1,1,1,1,1] [1,1,1,1,1,1,1,1] (bB (_,_,_,_,_,_,_,_,_,_,_,_,_,_,_) ⟨h,h1,c,o,w,x,u,(fun k hk=>(i2 k hk)),G⟩)
 refine xt J<|sq<|wm [0,1,2,3,4] [7] J<|amm 4 [0,98,1,66,2,34,3,2] [0,1,2,3,4] J J ?_
 refine on1 4 (msK 7 [0,1,2,3,4] J B1 J ⟨J,h1.one,trivial⟩ J J ?_)
 refine on1 5 (msK 6 [0,1,2,3,4] J w4 J ⟨c.one,o.one,trivial⟩ J J ?_)
 refine on1 6 (msK 5 [0,1,2,3,4] J oC J ⟨w.one,x.one,trivial⟩ J J ?_)
 refine on1 7 (msN 4 J nk vF J ⟨u.one,J,trivial⟩ J J ?_)
 refine WM.nil OU ?_
 refine WT.ret hF (aB.four (bd CJ J (fun w1 hw=>hw.rgO (i:=7) J 0 2 [.string I.1.Name,v2] J) J) (bd Da J (fun w1 hw=>hw.rgO (i:=6) J 0 2 [v4,v5] J) J) (bd uO J (fun w1 hw=>hw.rgO (i:=5) J 0 2 [u1,u2] J) J) (bd oV J (fun w1 hw=>hw.rgO (i:=4) J 0 2 [u3,iV s7] J) J)) (fun w1 hw=>?_)
 cases h
 replace hw:=hw.merge (js:=[10,1]) (F:=[U,X2].flatten) J (SP.eq OW)
 refine aK (js:=[10,10,7,7,7,3,3,3,3,1,1,0]) hw J ⟨v2,Y,v4,D2,v5,Z,u1,D6,u2,D7,u3,D8,[U,X2].flatten,J,J,h1,c,(fun k hk=>(ry.2 ⟨U,OW,(y k hk)⟩)),o,w,x,u,(fun k hk=>(ry.2 ⟨X2,OW,(i2 k hk)⟩)),J,k5⟩
theorem yW (w0:aA f l []) (s:(List Int)) (C:RSl (RI .u8) 1 f bj aj s) {r:bf × bH × aJ × ae} (h:oh N s=some r) :
  Calls prog 17 [aj].toArray w0.w (bc l w0.w [] (fun c Fs v=>∃ (u:Value) (D:List Nat) (w:Value) (E:List Nat) (x:Value) (G:List Nat) (y:Value) (H:List Nat) (A:Value) (I:List Nat) (B:Value) (K:List Nat) (X:List Nat),v = .tuple #[.agg [.string r.1.Name,u].toArray,.agg [w,x].toArray,.agg [y,A].toArray,.agg [B,iV r.2.2.2.Next].toArray]∧Fs=[ob u,D,ob w,ob x,G,ob y,H,ob A,I,ob B,X]∧OSl d8 87 5 c D u r.1.Rules∧OSl cF 137 4 c E w r.2.1.Alphas∧(∀ k∈E,k∈X)∧OSl bK 141 2 c G x r.2.1.Chains∧OSl bb 133 1 c H y r.2.2.1.Alphas∧OSl aZ 100 1 c I A r.2.2.1.Rules∧OSl br 66 3 c K B r.2.2.2.Items∧(∀ k∈K,k∈X))):=by
 refine eN func17 J ntmps17 J w0 fun V=>?_
 unfold oh at h
 refine sr<|lnz yC J fun a7=>lnz tl J fun a8=>lnz mM J fun aa=>lnz sU J fun ab=>arr 4 [] J<|kab h J J J (fun b z q=>BI N b s (C.y z) q) ?_
 rintro W h v1 af F1 ⟨ag,ah,ak,v2,G1,rfl,rfl,h1,Y,Z⟩
 refine arr 5 [] J<|kcb [0] h J J J J (fun b ap z q=>zy N b W (h1.x (Dj.sub (ap.o C.old) Y)) Z q) ?_
 rintro L h v3 al F2 ⟨an,ao,v4,D1,v5,D2,v6,D3,M,D4,O,D5,v9,D6,m,rfl,rfl,P,Q,i2,R,S,T,U,i3,e1,h9⟩
 refine arr 4 [] J<|soN 3 B1 J ⟨J,P.one,trivial⟩ J ?_
 refine soN 2 w4 J ⟨Q.one,R.one,trivial⟩ J ?_
 refine soN 1 oC J ⟨S.one,T.one,trivial⟩ J ?_
 refine soN 0 vF J ⟨U.one,J,trivial⟩ J ?_
 refine en ?_
 refine WT.ret V (aB.four (bd CJ J (fun o hw=>hw.rgO (i:=3) J 0 2 [.string L.1.Name,v4] J) J) (bd Da J (fun o hw=>hw.rgO (i:=2) J 0 2 [v5,v6] J) J) (bd uO J (fun o hw=>hw.rgO (i:=1) J 0 2 [M,O] J) J) (bd oV J (fun o hw=>hw.rgO (i:=0) J 0 2 [v9,iV L.2.2.2.1.Next] J) J)) (fun o hw=>?_)
 cases h
 replace hw:=hw.merge (js:=[11]) (F:=[m].flatten) J (SP.eq OW)
 refine aK (js:=[1,1,1,1,1,1,1,1,1,1,0]) hw J ⟨v4,D1,v5,D2,v6,D3,M,D4,O,D5,v9,D6,[m].flatten,J,J,P,Q,(fun k hk=>(ry.2 ⟨m,OW,(i2 k hk)⟩)),R,S,T,U,(fun k hk=>(ry.2 ⟨m,OW,(i3 k hk)⟩))⟩
theorem tN (w0:aA f l []) (G:aJ) (ao:RSl iv 1 f b7 e G.Alphas) (aq:RSl lH 1 f b9 j G.Rules) {r:aJ} (h:mw N G=some r) :
  Calls prog 66 [.agg [e,j].toArray].toArray w0.w (bc l w0.w [] (fun aI Fs v=>∃ (au:Value) (aK:List Nat) (aw:Value) (aL:List Nat),v = .agg [au,aw].toArray∧Fs=[ob au,aK,ob aw,aL]∧OSl bb 133 1 aI aK au r.Alphas∧OSl aZ 100 1 aI aL aw r.Rules)):=by
 refine eN func66 J ntmps66 J w0 fun hF=>?_
 unfold mw at h
 refine sr<|lbx J fun T=>lnz mM J fun E=>en<|sr<|lnz mM J fun F=>arr 6 [0,64] J<|lnr ao J<|art 3 [] J<|wtS<|wt0 ?_
 have k1:=OSl.nil bb 133 1 l
 refine lin (σ:=Hp × (List bk) × Value × List Nat × Int) (fun s=>[(1,pQ T),(2,pQ E),(3,pQ F),(15,e),(16,iV (G.Alphas.length:Int)),(17,iV s.2.2.2.2)]) (fun s=>St w0 s.1 [(F,.cells #[s.2.2.1,.slice none 0 0] 35 (0,0)),(E,.cells #[.slice none 0 0,.slice none 0 0] 35 (0,0)),(T,.cells #[e,j] 35 (0,0))] [s.2.2.2.1,ob s.2.2.1]) (fun m s=>ir N G m s.2.1 s.2.2.2.2=some r∧(OSl bb 133 1 s.1 s.2.2.2.1 s.2.2.1 s.2.1)) (l,([]:List bk),(.slice none 0 0),[],0) N ⟨h,k1⟩ (sx [0,0] [0,0,0]) (fun n1 bo s hm=>?_)
 obtain⟨aM,s1,k,u,s2⟩:=s
 obtain⟨h,b⟩:=hm
 dsimp only at h b ⊢
 unfold ir at h
 refine att 5 [] J ?_
 refine ch h J ?_ ?_<;>intro h
 ·refine atr 5 [] J ?_
  obtain⟨x1,aN,h⟩:=bs h
  obtain⟨bU,F1,-,g1,bV,bW,r1⟩:=ao.el (a8 aN).2.2
  obtain⟨v1,G1,rfl,bp,h1⟩:=r1
  obtain rfl:=bp.symm
  refine lia ao aN J<|lhx 0 1 g1 J ?_
  refine ln (iu (C:=#[.slice none 0 0]) tM J) J (fun aO=>?_)
  refine soN 0 Ej J ⟨h1.one,trivial⟩ J ?_
  refine en<|wm [0,1,2,3] [9] J<|amm 4 [0,0,1,32,2,0,3,0] [0,1,2,3] J J ?_
  obtain⟨x2,bq,h⟩:=bs h
  refine WM.one 4 OU (mc J (fun _ v M D x O hw=>Kn.of Kf.nil (am [0,1,2,3] J) hw) (bJ (js:=[]) (R:=[u,ob k]) wM J J (fun x hw ap hl=>cQ N (ba hw.fro) x1.L (h1.y hw.up)  bq)) J ?_)
  rintro v2 br F2 ⟨aP,bt,v3,rfl,rfl,h2⟩
  replace b:=b.fr bt (aP.q 1 J) (aP.q 0 J)
  refine mq 5 J OU (kN [0,1,2,3]) (bE (vs:=[(0,v2)]) (C:=#[v2]) Ii tM J (aa (C':=[v2]) J (dp h2.one) J J J (af))) J ?_
  have aQ:RC bb 1 br ([(ob v2++[])]:List (List Nat)) [v2] ([(⟨x2⟩:bk)]:List bk):=RC.cons (c:=[v2]) (cells:=[]) ⟨v2,J,J,h2⟩ J (RC.nil _ _ _)
  refine WM.one 6 OU (me J (fun _ v M D x O hw=>Kn.of Kf.nil (am [0,1,2,3] J) hw) (bC (vs:=[(0,.agg [v2].toArray)]) (C:=#[v2]) bb.lasts rn tM J J J J (av CU (aa (C':=[v2]) J J J J J (af))) J aQ J (RC.kn bb.knows aQ)) J ?_)
  rintro v4 aT D2 ⟨bu,h3⟩
  replace h3:OSl bb 133 1 aT ((ob v2++[])) v4 ([(⟨x2⟩:bk)]:List bk):=by simpa[gi] using h3
  replace b:=b.f0 bu
  refine WM.conv (S':=St w0 aT [(aO,.cells #[v1] 133 (0,0)),(F,.cells #[k,.slice none 0 0] 35 (0,0)),(E,.cells #[.slice none 0 0,.slice none 0 0] 35 (0,0)),(T,.cells #[e,j] 35 (0,0))] [((ob v2++[])),ob v4,u,ob k]) (fun x hw=>hw.merge (js:=[1]) J (SP.eq (by simp[gi,cK]))) ?_
  obtain⟨x3,bw,h⟩:=bs h
  refine WM.one 7 OU (me J (fun _ v M D x O hw=>Kn.of Kf.nil (am [0,1,2,3] J) hw) (em bb.lasts bb.one rn IY J J J J J (js:=[3]) (Rr:=[((ob v2++[])),ob v4,u]) J b h3 (fun ap=>ap.q 2 J) (fun ap=>ap.q 0 J) bw) J ?_)
  rintro v5 bx D3 ⟨⟨bZ,c0⟩,h4⟩
  refine WM.conv (S':=St w0 bx [(aO,.cells #[v1] 133 (0,0)),(F,.cells #[k,.slice none 0 0] 35 (0,0)),(E,.cells #[.slice none 0 0,.slice none 0 0] 35 (0,0)),(T,.cells #[e,j] 35 (0,0))] [(u++((ob v2++[]))),ob v5,ob v4]) (fun x hw=>hw.merge (js:=[3,1]) J (SP.eq OW))<|amm 1 [8,0] [0,1,2,3] J J ?_
  refine on1 9 (ms1 1 J nk Ll J h4.one ?_)
  refine WM.nil OU<|att 5 [] J ?_
  exact lb [0,0] [1,1,1] (bo (_,_,_,_,_) ⟨h,h4⟩)
 refine atr 6 [1,64] J<|lnr aq J<|art 3 [] J<|wtS<|wt0 ?_
 have k3:=OSl.nil aZ 100 1 aM
 refine lin (σ:=Hp × (List aH) × Value × List Nat × Int) (fun s=>[(2,pQ E),(3,pQ F),(32,j),(33,iV (G.Rules.length:Int)),(34,iV s.2.2.2.2)]) (fun s=>St w0 s.1 [(F,.cells #[k,s.2.2.1] 35 (0,0)),(E,.cells #[.slice none 0 0,.slice none 0 0] 35 (0,0))] [s.2.2.2.1,ob s.2.2.1,u,ob k]) (fun m s=>ek N G s1 m s.2.1 s.2.2.2.2=some r∧(OSl bb 133 1 s.1 u k s1)∧(OSl aZ 100 1 s.1 s.2.2.2.1 s.2.2.1 s.2.1)) (aM,([]:List aH),(.slice none 0 0),[],0) N ⟨h,b,k3⟩ (sx [0,0,0,0] [0,0]) (fun n2 bz s hm=>?_)
 obtain⟨aU,U,w,A,V⟩:=s
 obtain⟨h,b,o⟩:=hm
 dsimp only at h b o ⊢
 unfold ek at h
 refine att 5 [] J ?_
 refine ch h J ?_ ?_<;>intro h
 ·refine atr 5 [] J ?_
  obtain⟨W,aV,h⟩:=bs h
  obtain⟨c3,F3,-,g2,c4,c5,r2⟩:=aq.el (a8 aV).2.2
  obtain⟨v6,G2,rfl,bA,X⟩:=r2
  obtain rfl:=bA.symm
  refine lia aq aV J<|lhx 0 1 g2 J ?_
  refine ln (iu (C:=#[.slice none 0 0]) ny J) J (fun c6=>?_)
  refine soN 0 ve J ⟨X.one,trivial⟩ J ?_
  refine en<|sr ?_
  refine ln (iu (C:=#[.slice none 0 0]) ny J) J (fun P=>?_)
  refine arr 6 [0,32] J<|lnr X J<|art 3 [] J<|wtS<|wt0 ?_
  have k5:=OSl.nil aS 103 1 aU
  refine lin (σ:=Hp × (List ar) × Value × List Nat × Int) (fun s=>[(2,pQ E),(3,pQ F),(8,pQ P),(32,j),(33,iV (G.Rules.length:Int)),(34,iV V),(39,v6),(40,iV (W.Levels.length:Int)),(41,iV s.2.2.2.2)]) (fun s=>St w0 s.1 [(P,.cells #[s.2.2.1] 100 (0,0)),(F,.cells #[k,w] 35 (0,0)),(E,.cells #[.slice none 0 0,.slice none 0 0] 35 (0,0))] [s.2.2.2.1,ob s.2.2.1,A,ob w,u,ob k]) (fun m s=>eS N U V (ek N G s1 n2) W m s.2.1 s.2.2.2.2=some r∧(OSl bb 133 1 s.1 u k s1)∧(OSl aZ 100 1 s.1 A w U)∧(OSl aS 103 1 s.1 s.2.2.2.1 s.2.2.1 s.2.1)) (aU,([]:List ar),(.slice none 0 0),[],0) N ⟨h,b,o,k5⟩ (sx [0,0,0,0,0,0] [0,1,1]) (fun n3 bB s hm=>?_)
  obtain⟨ax,Y,q,B,s6⟩:=s
  obtain⟨h,b,o,y⟩:=hm
  dsimp only at h b o y ⊢
  unfold eS at h
  refine att 5 [] J ?_
  refine ch h J ?_ ?_<;>intro h
  ·refine atr 5 [] J ?_
   obtain⟨x5,aW,h⟩:=bs h
   obtain⟨c7,F4,-,g3,c8,c9,r3⟩:=X.el (a8 aW).2.2
   obtain⟨v7,G3,rfl,bD,Z⟩:=r3
   obtain rfl:=bD.symm
   refine lia X aW J<|lhx 0 1 g3 J ?_
   refine ln (iu (C:=#[.slice none 0 0]) rY J) J (fun ca=>?_)
   refine soN 0 Bj J ⟨Z.one,trivial⟩ J ?_
   refine en<|sr ?_
   refine ln (iu (C:=#[.slice none 0 0]) rY J) J (fun a7=>?_)
   refine arr 6 [0,32] J<|lnr Z J<|art 3 [] J<|wtS<|wt0 ?_
   have k7:=OSl.nil aR 105 2 ax
   refine lin (σ:=Hp × (List an) × Value × List Nat × Int) (fun s=>[(2,pQ E),(3,pQ F),(8,pQ P),(11,pQ a7),(32,j),(33,iV (G.Rules.length:Int)),(34,iV V),(39,v6),(40,iV (W.Levels.length:Int)),(41,iV s6),(46,v7),(47,iV (x5.Toks.length:Int)),(48,iV s.2.2.2.2)]) (fun s=>St w0 s.1 [(a7,.cells #[s.2.2.1] 103 (0,0)),(P,.cells #[q] 100 (0,0)),(F,.cells #[k,w] 35 (0,0)),(E,.cells #[.slice none 0 0,.slice none 0 0] 35 (0,0))] [s.2.2.2.1,ob s.2.2.1,B,ob q,A,ob w,u,ob k]) (fun m s=>fY N Y s6 (eS N U V (ek N G s1 n2) W n3) x5 m s.2.1 s.2.2.2.2=some r∧(OSl bb 133 1 s.1 u k s1)∧(OSl aZ 100 1 s.1 A w U)∧(OSl aS 103 1 s.1 B q Y)∧(OSl aR 105 2 s.1 s.2.2.2.1 s.2.2.1 s.2.1)) (ax,([]:List an),(.slice none 0 0),[],0) N ⟨h,b,o,y,k7⟩ (sx [0,0,0,0,0,0,0,0] [0,1,1,1]) (fun n4 bF s hm=>?_)
   obtain⟨bG,s7,z,H,s8⟩:=s
   obtain⟨h,b,o,y,I⟩:=hm
   dsimp only at h b o y I ⊢
   unfold fY at h
   refine att 5 [] J ?_
   refine ch h J ?_ ?_<;>intro h
   ·refine atr 5 [] J ?_
    obtain⟨x6,aX,h⟩:=bs h
    obtain⟨cb,F5,-,g4,cc,cd,r4⟩:=Z.el (a8 aX).2.2
    obtain⟨v8,G4,v9,G5,rfl,rfl,h7,h8⟩:=r4
    refine lia Z aX J<|lhx 0 2 g4 J<|lnz gS J fun aY=>soN 0 nI J ⟨h7.one,h8.one,trivial⟩ J ?_
    refine en<|wm [0,1,2,3,4] [12] J<|amm 6 [0,0,1,32,2,0,3,0,5,1,6,0] [0,1,2,3,4] J J ?_
    obtain⟨x7,bH,h⟩:=bs h
    refine WM.one 4 OU (mc J (fun _ v M D x O hw=>Kn.of Kf.nil (am [0,1,2,3,4] J) hw) (bJ (js:=[]) (R:=[H,ob z,B,ob q,A,ob w,u,ob k]) wM J J (fun x hw ap hl=>cQ N (ba hw.fro) x6.Ids (h7.y hw.up)  bH)) J ?_)
    rintro v10 cf F6 ⟨L,ab,v11,rfl,rfl,h9⟩
    replace b:=b.fr ab (L.q 7 J) (L.q 6 J)
    replace o:=o.fr ab (L.q 5 J) (L.q 4 J)
    replace y:=y.fr ab (L.q 3 J) (L.q 2 J)
    replace I:=I.fr ab (L.q 1 J) (L.q 0 J)
    obtain⟨x8,bI,h⟩:=bs h
    refine WM.one 7 OU (mc J (fun _ v M D x O hw=>Kn.of Kf.nil (am [0,1,2,3,4] J) hw) (bJ (js:=[]) (R:=[ob v10,H,ob z,B,ob q,A,ob w,u,ob k]) wM J J (fun x hw ap hl=>cQ N (ba hw.fro) x6.Hits (h8.y hw.up)  bI)) J ?_)
    rintro v12 bK F7 ⟨K,S,cg,rfl,rfl,b1⟩
    replace b:=b.fr S (K.q 8 J) (K.q 7 J)
    replace o:=o.fr S (K.q 6 J) (K.q 5 J)
    replace y:=y.fr S (K.q 4 J) (K.q 3 J)
    replace I:=I.fr S (K.q 2 J) (K.q 1 J)
    replace h9:=h9.fr S (K.q 0 J) dN
    refine mq 8 J OU (kN [0,1,2,3,4]) (bE (vs:=[(0,v10),(1,v12)]) (C:=#[v10,v12]) DW gS J (aa (C':=[v10,.slice none 0 0]) J (dp h9.one) J J J (aa (C':=[v10,v12]) J (dp b1.one) J J J (af)))) J ?_
    have b2:RC aR 2 bK ([(ob v10++[])++((ob v12++[]))]:List (List Nat)) [v10,v12] ([(⟨x7,x8⟩:an)]:List an):=RC.cons (c:=[v10,v12]) (cells:=[]) ⟨v10,v12,J,J,h9,b1⟩ J (RC.nil _ _ _)
    refine WM.one 9 OU (me J (fun _ v M D x O hw=>Kn.of Kf.nil (am [0,1,2,3,4] J) hw) (bC (vs:=[(0,.agg [v10,v12].toArray)]) (C:=#[v10,v12]) aR.lasts dl gS J J J J (av w9 (aa (C':=[v10,v12]) J J J J J (af))) J b2 J (RC.kn aR.knows b2)) J ?_)
    rintro ae b3 D7 ⟨ag,az⟩
    replace az:OSl aR 105 2 b3 ((ob v10++[])++((ob v12++[]))) ae ([(⟨x7,x8⟩:an)]:List an):=by simpa[gi] using az
    replace b:=b.f0 ag
    replace o:=o.f0 ag
    replace y:=y.f0 ag
    replace I:=I.f0 ag
    refine WM.conv (S':=St w0 b3 [(aY,.cells #[v8,v9] 105 (0,0)),(a7,.cells #[z] 103 (0,0)),(P,.cells #[q] 100 (0,0)),(F,.cells #[k,w] 35 (0,0)),(E,.cells #[.slice none 0 0,.slice none 0 0] 35 (0,0))] [((ob v10++[])++((ob v12++[]))),ob ae,H,ob z,B,ob q,A,ob w,u,ob k]) (fun x hw=>hw.merge (js:=[2,1]) J (SP.eq (by simp[gi,cK]))) ?_
    obtain⟨x9,bL,h⟩:=bs h
    refine WM.one 10 OU (me J (fun _ v M D x O hw=>Kn.of Kf.nil (am [0,1,2,3,4] J) hw) (em aR.lasts aR.one dl rd J J J J J (js:=[3]) (Rr:=[((ob v10++[])++((ob v12++[]))),ob ae,H,B,ob q,A,ob w,u,ob k]) J I az (fun ap=>ap.q 2 J) (fun ap=>ap.q 0 J) bL) J ?_)
    rintro bM bN D8 ⟨⟨Q,aC⟩,b4⟩
    replace b:=b.fr aC (Q.q 8 J) (Q.q 7 J)
    replace o:=o.fr aC (Q.q 6 J) (Q.q 5 J)
    replace y:=y.fr aC (Q.q 4 J) (Q.q 3 J)
    refine WM.conv (S':=St w0 bN [(aY,.cells #[v8,v9] 105 (0,0)),(a7,.cells #[z] 103 (0,0)),(P,.cells #[q] 100 (0,0)),(F,.cells #[k,w] 35 (0,0)),(E,.cells #[.slice none 0 0,.slice none 0 0] 35 (0,0))] [(H++((ob v10++[])++((ob v12++[])))),ob bM,ob ae,B,ob q,A,ob w,u,ob k]) (fun x hw=>hw.merge (js:=[3,1]) J (SP.eq OW))<|amm 1 [11,0] [0,1,2,3,4] J J ?_
    refine on1 12 (ms1 1 J nk zB J b4.one ?_)
    refine WM.nil OU<|att 5 [] J ?_
    exact lb [0,0,1,1,1,1,1,1] [1,1,1,1] (bF (_,_,_,_,_) ⟨h,b,o,y,b4⟩)
   refine atr 4 [0,32] J<|lq (ay DB J (fun x hw=>hw.rgO (i:=0) J 0 1 [z] J) J) J ?_
   have be:RC aS 1 bG ([(ob z++H)]:List (List Nat)) [z] ([(⟨s7⟩:ar)]:List ar):=RC.cons (c:=[z]) (cells:=[]) ⟨z,H,J,J,I⟩ J (RC.nil _ _ _)
   refine le' (bC (vs:=[(0,.agg [z].toArray)]) (C:=#[z]) aS.lasts qf rY J J J J (av Dv (aa (C':=[z]) J J J J J (af))) J be J (RC.kn aS.knows be)) J ?_
   rintro ah bO D9 ⟨aD,aF⟩
   replace aF:OSl aS 103 1 bO ((ob z++H)) ah ([(⟨s7⟩:ar)]:List ar):=by simpa[gi] using aF
   replace b:=b.f0 aD
   replace o:=o.f0 aD
   replace y:=y.f0 aD
   refine wlL [((ob z++H)),ob ah,B,ob q,A,ob w,u,ob k] (smg [2,1] J (SP.eq (by simp[gi,cK]))) ?_
   obtain⟨cj,bP,h⟩:=bs h
   refine le' (em aS.lasts aS.one qf Hv J J J J J (js:=[3]) (Rr:=[((ob z++H)),ob ah,B,A,ob w,u,ob k]) J y aF (fun ap=>ap.q 2 J) (fun ap=>ap.q 0 J) bP) J ?_
   rintro v17 ck cm ⟨⟨ak,bf⟩,bg⟩
   replace b:=b.fr bf (ak.q 6 J) (ak.q 5 J)
   replace o:=o.fr bf (ak.q 4 J) (ak.q 3 J)
   refine wlL [(B++((ob z++H))),ob v17,ob ah,A,ob w,u,ob k] (smg [3,1] J (SP.eq OW))<|lf iA J J J<|so1 1 KX J bg.one ?_
   refine art 6 [] J ?_
   exact lb [0,0,1,1,1,1] [1,1,1] (bB (_,_,_,_,_) ⟨h,b,o,bg⟩)
  refine atr 4 [1,32] J<|lq (ay BP J (fun x hw=>hw.rgO (i:=0) J 0 1 [q] J) J) J ?_
  have bh:RC aZ 1 ax ([(ob q++B)]:List (List Nat)) [q] ([(⟨Y⟩:aH)]:List aH):=RC.cons (c:=[q]) (cells:=[]) ⟨q,B,J,J,y⟩ J (RC.nil _ _ _)
  refine le' (bC (vs:=[(0,.agg [q].toArray)]) (C:=#[q]) aZ.lasts AC ny J J J J (av yH (aa (C':=[q]) J J J J J (af))) J bh J (RC.kn aZ.knows bh)) J ?_
  rintro al bQ cn ⟨bl,aG⟩
  replace aG:OSl aZ 100 1 bQ ((ob q++B)) al ([(⟨Y⟩:aH)]:List aH):=by simpa[gi] using aG
  replace b:=b.f0 bl
  replace o:=o.f0 bl
  refine wlL [((ob q++B)),ob al,A,ob w,u,ob k] (smg [2,1] J (SP.eq (by simp[gi,cK]))) ?_
  obtain⟨cp,bR,h⟩:=bs h
  refine le' (em aZ.lasts aZ.one AC DX J J J J J (js:=[3]) (Rr:=[((ob q++B)),ob al,A,u,ob k]) J o aG (fun ap=>ap.q 2 J) (fun ap=>ap.q 0 J) bR) J ?_
  rintro bS cq cr ⟨⟨bm,bT⟩,bn⟩
  replace b:=b.fr bT (bm.q 4 J) (bm.q 3 J)
  refine wlL [(A++((ob q++B))),ob bS,ob al,u,ob k] (smg [3,1] J (SP.eq OW))<|lf vK J J J<|so1 1 HO J bn.one ?_
  refine art 6 [] J ?_
  exact lb [0,0,1,1] [1,1] (bz (_,_,_,_,_) ⟨h,b,bn⟩)
 refine atr 4 [2] J<|soN 1 oC J ⟨b.one,o.one,trivial⟩ J ?_
 refine en ?_
 exact rtg [3,2,1,0] hF (aB.one (bd uO J (fun x hw=>hw.rgO (i:=1) J 0 2 [k,w] J) J)) J (by cases h;exact fun x hw=>⟨k,u,w,A,rfl,rfl,b,o⟩)
theorem ic {i:Nat} {q:List Value} (w0:aA f l []) (b:(List ax)) (u:(List ax)) (v:ax→ax→Option (Bool)) (w:RSl cF 4 f bj aj b) (x:RSl cF 4 f bY aE u) (I:Fun prog i=true) (K:∀ {c:Hp} {w':World},FrH [] l c→In c w'→∀ (k:ax) (o:ax) {z:Value} {L:List Nat} {A:Value} {M:List Nat} {B:Value} {O:List Nat} {C:Value} {P:List Nat} (_:RSl aY 3 c L z k.Consts) (_:RSl (RI .i64) 1 c M A k.At) (_:RSl aY 3 c O B o.Consts) (_:RSl (RI .i64) 1 c P C o.At) {r:Bool},v k o=some r→Calls prog i (([.agg [.string k.Kind,iV k.N,z,A].toArray,.agg [.string o.Kind,iV o.N,B,C].toArray]:List Value)++q).toArray w' (lg (.bool r) w')) {r:Bool} (h:bl N b u v=some r) :
  CB w0 prog 84 [aj,aE,.func (.func i) #[] q.toArray] (.bool r):=by
 refine eN func84 J ntmps84 J w0 fun y=>?_
 unfold bl at h
 refine atr 8 [] J<|lnr w J<|la J<|lnr x J<|la J<|en ?_
 refine ch h J ?_ ?_<;>intro h
 ·refine att 4 [] J ?_
  exact rt y h
 refine atr 5 [] J<|lnr w J<|art 3 [] J ?_
 refine lin (σ:=Int) (fun s=>[(1,aE),(2,.func (.func i) #[] q.toArray),(15,aj),(16,iV (b.length:Int)),(17,iV s)]) (fun s=>St w0 l [] []) (fun m s=>aV N b u v m s=some r) (0) N h (sx [] []) (fun Q R s hm=>?_)
 revert hm;revert s;intro s1 hm
 have h:aV N b u v (Q+1) s1=some r:=hm
 show WT _ _ [(1,aE),(2,.func (.func i) #[] q.toArray),(15,aj),(16,iV (b.length:Int)),(17,iV s1)] (St w0 l [] [])
 unfold aV at h
 refine att 5 [] J ?_
 refine ch h J ?_ ?_<;>intro h
 ·refine atr 6 [] J ?_
  obtain⟨S,D,h⟩:=bs h
  obtain⟨X,Y,-,g1,Z,a7,T⟩:=w.el (a8 D).2.2
  obtain⟨v1,G1,v2,G2,rfl,rfl,h1,E⟩:=T
  refine lia w D J<|lhx 0 4 g1 J<|lnz nL J fun aa=>la J<|soN 0 rZ J ⟨J,J,h1.one,E.one,trivial⟩ J ?_
  refine arr 5 [] J ?_
  obtain⟨U,F,h⟩:=bs h
  obtain⟨ab,F2,-,g2,ae,af,V⟩:=x.el (a8 F).2.2
  obtain⟨v3,G3,v4,G4,rfl,rfl,G,H⟩:=V
  refine lia x F J<|lhx 0 4 g2 J<|lnz nL J fun ag=>soN 0 rZ J ⟨J,J,G.one,H.one,trivial⟩ J ?_
  refine arr 6 [36,4] J ?_
  obtain⟨x3,W,h⟩:=bs h
  refine lp (je I J J (fun w1 hw=>K hw.frB hw.fro S U (h1.y hw.up) (E.y hw.up) (G.y hw.up) (H.y hw.up) W)) J<|la J<|en ?_
  refine ch h J ?_ ?_<;>intro h
  ·refine att 4 [] J ?_
   exact rt y h
  refine att 6 [] J ?_
  exact lb [] [] (R _ h)
 refine att 5 [] J ?_
 exact rt y h
theorem ib {i:Nat} {k:List Value} (w0:aA f l []) (b:(List aG)) (o:(List aG)) (q:aG→aG→Option (Bool)) (u:RSl ei 2 f bj aj b) (v:RSl ei 2 f bY aE o) (I:Fun prog i=true) (K:∀ {c:Hp} {w':World},FrH [] l c→In c w'→∀ (w:aG) (x:aG) {z:Value} {L:List Nat} {A:Value} {M:List Nat} {B:Value} {O:List Nat} {C:Value} {P:List Nat} (_:RSl (RI .i64) 1 c L z w.Pos) (_:RSl (RI .i64) 1 c M A w.Neg) (_:RSl (RI .i64) 1 c O B x.Pos) (_:RSl (RI .i64) 1 c P C x.Neg) {r:Bool},q w x=some r→Calls prog i (([.agg [z,A].toArray,.agg [B,C].toArray]:List Value)++k).toArray w' (lg (.bool r) w')) {r:Bool} (h:bh N b o q=some r) :
  CB w0 prog 86 [aj,aE,.func (.func i) #[] k.toArray] (.bool r):=by
 refine eN func86 J ntmps86 J w0 fun y=>?_
 unfold bh at h
 refine atr 8 [] J<|lnr u J<|la J<|lnr v J<|la J<|en ?_
 refine ch h J ?_ ?_<;>intro h
 ·refine att 4 [] J ?_
  exact rt y h
 refine atr 5 [] J<|lnr u J<|art 3 [] J ?_
 refine lin (σ:=Int) (fun s=>[(1,aE),(2,.func (.func i) #[] k.toArray),(15,aj),(16,iV (b.length:Int)),(17,iV s)]) (fun s=>St w0 l [] []) (fun m s=>aU N b o q m s=some r) (0) N h (sx [] []) (fun Q R s hm=>?_)
 revert hm;revert s;intro s1 hm
 have h:aU N b o q (Q+1) s1=some r:=hm
 show WT _ _ [(1,aE),(2,.func (.func i) #[] k.toArray),(15,aj),(16,iV (b.length:Int)),(17,iV s1)] (St w0 l [] [])
 unfold aU at h
 refine att 5 [] J ?_
 refine ch h J ?_ ?_<;>intro h
 ·refine atr 6 [] J ?_
  obtain⟨S,D,h⟩:=bs h
  obtain⟨X,Y,-,g1,Z,a7,T⟩:=u.el (a8 D).2.2
  obtain⟨v1,G1,v2,G2,rfl,rfl,h1,E⟩:=T
  refine lia u D J<|lhx 0 2 g1 J<|lnz sc J fun aa=>la J<|soN 0 zA J ⟨h1.one,E.one,trivial⟩ J ?_
  refine arr 5 [] J ?_
  obtain⟨U,F,h⟩:=bs h
  obtain⟨ab,F2,-,g2,ae,af,V⟩:=v.el (a8 F).2.2
  obtain⟨v3,G3,v4,G4,rfl,rfl,G,H⟩:=V
  refine lia v F J<|lhx 0 2 g2 J<|lnz sc J fun ag=>soN 0 zA J ⟨G.one,H.one,trivial⟩ J ?_
  refine arr 6 [34,2] J ?_
  obtain⟨x3,W,h⟩:=bs h
  refine lp (je I J J (fun w1 hw=>K hw.frB hw.fro S U (h1.y hw.up) (E.y hw.up) (G.y hw.up) (H.y hw.up) W)) J<|la J<|en ?_
  refine ch h J ?_ ?_<;>intro h
  ·refine att 4 [] J ?_
   exact rt y h
  refine att 6 [] J ?_
  exact lb [] [] (R _ h)
 refine att 5 [] J ?_
 exact rt y h
theorem xn (w0:aA f l []) (c:aG) (i:aG) (k:RSl (RI .i64) 1 f b7 e c.Pos) (m:RSl (RI .i64) 1 f b9 j c.Neg) (o:RSl (RI .i64) 1 f bX p i.Pos) (q:RSl (RI .i64) 1 f b8 n i.Neg) {r:Bool} (h:fQ N c i=some r) :
  CB w0 prog 87 [.agg [e,j].toArray,.agg [p,n].toArray] (.bool r):=by
 refine eN func87 J ntmps87 J w0 fun s=>?_
 unfold fQ at h
 refine sr<|lbx J fun v=>lbx J fun w=>arr 8 [0,32,0,0] J<|qd h (f7 N · c.Pos i.Pos k o ·) J J J fun x h=>la J ?_
 obtain⟨u,b,h⟩:=bs h
 refine WL.cutN 6 [(16,.bool u),(4,.bool false)] ?_ (fun K=>?_)
 rotate_left
 ·refine sp 10 b J (fun b=>?_) fun b=>?_
  ·refine arr 4 [1,32,1,0] J<|ly J J<|qd b (f7 N · c.Neg i.Neg m q ·) J J J fun y b=>la J ?_
   cases b
   exact ku K
  ·refine arr 6 [] J ?_
   cases b
   exact ku K
 refine la J<|en ?_
 exact rt s h
end Go.Proofs.YtedmfnmbjglmbaaGreat
