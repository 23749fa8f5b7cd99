/- Printed by a program of ours: each Go function computes its Lean function. -/
import Derived.Test.YtedmfnmbjglmbaaGreatProg
import Derived.Test.YtedmfnmbjglmbaaGreatWSetsWalk6
namespace Go.Proofs.YtedmfnmbjglmbaaGreat
open Eng Tryz
open Go.RowKit (Below)
set_option linter.unusedVariables false
set_option linter.unusedSimpArgs false

set_option maxRecDepth 100000
set_option maxHeartbeats 1000000
variable {e d:Hp} {g a1 o j f p:Value} {l pG0_1 pG0_2 n a6 pG1:List Nat} {a:Nat} (N:Nat)
theorem xE (N:Nat):∀ {e d:Hp} {f j O P Q ak al:Value} {z n bT bU bV bW bX:List Nat} {a:Nat} (w0:av e d [[a],ob f,z].flatten) (p0:(List aj)) (u:ai) (E:ag) (p3:(List Int)) (X:(List aq)) (t:OSl aD 63 3 d z f p0) (q:d a=some (.cells #[f] 41 (0,0))) (Y:RSl bN 3 e n j u.Pats) (ad:RSl bl 11 e bT O u.Conds) (an:RSl dK 5 e bU P u.Acts) (U:RSl bj 3 e bV Q E.Items) (I:RSl (RI .i64) 1 e bW ak p3) (V:RSl aB 4 e bX al X) {r:(List aj)} (h:fx N p0 u E p3 X=some r),
  Calls prog 201 [pQ a,.agg [.string u.Name,iV u.Sal,j,O,P].toArray,.agg [Q,iV E.Next].toArray,ak,al].toArray w0.w (be d w0.w [[a],ob f,z].flatten (fun bY Fs v=>∃ (bn:Value) (c0:List Nat),v = .tuple #[]∧Fs=[[a],ob bn,c0]∧OSl aD 63 3 bY c0 bn r∧bY a=some (.cells #[bn] 41 (0,0)))):=by
 induction N with
 | zero=>intros;rename_i h;simp[fx] at h
 | succ N ih=>
 intro e d f j O P Q ak al z n bT bU bV bW bX a w0 p0 u E p3 X t q Y ad an U I V r h
 refine eL func201 J ntmps201 J (L:=[[a],ob f,z]) w0 (fun hF=>?_)
 unfold fx at h
 refine sr<|lbx J fun S=>lbx J fun T=>arr 5 [] J<|lnr I J<|ld5 o7 1 J<|qd h (kQ N · u Y ad an ·) J J J fun x1 h=>la J<|en ?_
 refine ch h J ?_ ?_ <;> intro h
 ·refine atr 6 [37,2] J<|qd h (xP N · u E X Y ad an U V ·) J J J fun x2 h=>arr 2 [] J ?_
  obtain⟨b1,af,h⟩:=bs h
  refine WL.cutN 5 [(28,.bool b1),(0,pQ a),(3,ak),(4,al)] ?_ (fun K=>?_)
  rotate_left
  ·refine sp 23 af J (fun af=>?_) fun af=>?_
   ·refine arr 3 [3,32] J<|ly J J<|qd af (xS N · u.Conds X ad V ·) J J J fun x3 af=>la J ?_
    cases af
    exact ku K
   ·refine arr 5 [] J ?_
    cases af
    exact ku K
  refine en ?_
  refine ch h J ?_ ?_ <;> intro h
  ·refine cut (σ:=Hp × (List aj) × Value × List Nat) (fun s=>[]) (fun s=>St w0 s.1 [(a,.cells #[s.2.2.1] 41 (0,0))] [s.2.2.2,ob s.2.2.1]) (fun s=>mi N s.2.1=some r∧(OSl aD 63 3 s.1 s.2.2.2 s.2.2.1 s.2.1)) (fun s hm=>?_) (fun K=>?_)
   ·clear h
    obtain⟨ef,s1,u1,D7⟩:=s
    obtain⟨h,k1⟩:=hm
    dsimp only at h k1 ⊢
    unfold mi at h
    refine WT.frz (js:=[0]) (R:=[]) J (fun eg cY k2=>?_)
    replace k1:=k1.f0 cY
    exact rtg [0,1,0] hF aA.none J (by cases h;exact fun k hw=>⟨u1,D7,rfl,rfl,k1,k2⟩)
   refine WT.mix (Kn w0 d [a] [(T,.cells #[Q,iV E.Next] 29 (0,0)),(S,.cells #[.string u.Name,iV u.Sal,j,O,P] 87 (0,0))]) (fun i=>match i with | 14=>false | _=>true) mixed (fun _ h=>h.drew)<|ma 0 J MA (kn Kf.id (ai2 0 1 J J)) J<|ma 1 J MA (kn Kf.id (ai2 0 1 J J)) J<|mq 2 J MA (kn Kf.id (ai2 0 1 J J)) (aG J) J ?_
   refine mq 3 J MA (kn Kf.id (ai2 0 1 J J)) (az Lq J (fun k hw=>hw.rg MC ((bZ q).of_eq 0 1 J J:rg _ _ _ [f]))) J<|ma 5 J MA (kn Kf.id (ai2 0 1 J J)) J<|ma 8 J MA (kn Kf.id (ai2 0 1 J J)) J ?_
   refine WM.two 4 7 MA ?_ ?_
   ·refine me J (fun _ v y D k b hw=>Kn.of (Kf.id.se b.1) (ai2 0 1 J J) hw) (cO (R:=RI .i64) RI.lasts aY gF J J) J ?_
    rintro v7 eh D8 ⟨aK,h9⟩
    replace t:=t.f0 aK
    replace q:=aK _ _ MC q
    refine WM.two 6 7 MA ?_ ?_
    ·first | refine mu0 I fun c3=>?_ | refine iu0 I fun c3=>?_
     obtain⟨x7,cZ,h⟩:=bs h
     have c4:=(Kf.id (F:=[a]):Kf d _ _).se aK
     refine me J (fun _ v y D k b hw=>Kn.of (c4.st b.1.2 (b.1.1.r (i:=0) J)) (ai2 0 1 J J) hw) (bg RI.lasts RI.one RI.flat aY jH J J J J J (js:=[0]) (Rr:=[[a],ob f,z]) J h9 c3 cZ) J ?_
     rintro G ei D9 ⟨⟨aL,bo⟩,ao⟩
     replace t:=t.fr bo (aL.q 1 J) (aL.q 2 J)
     replace q:=bo _ _ ((aL.q 0 J) _ MC) q
     have c5:=c4.st bo (aL.q 0 J)
     refine WM.one 7 MA (me J (fun _ v y D k b hw=>Kn.of (c5.se b.1) (ai2 0 1 J J) hw) (cO aB.lasts gJ oe J J) J ?_)
     rintro v9 ej ek ⟨aM,da⟩
     replace t:=t.f0 aM
     replace ao:=ao.f0 aM
     replace q:=aM _ _ MC q
     first | refine mu0 V fun c6=>?_ | refine iu0 V fun c6=>?_
     obtain⟨x8,db,h⟩:=bs h
     have c7:=c5.se aM
     refine WM.one 9 MA (me J (fun _ v y D k b hw=>Kn.of (c7.st b.1.2 (b.1.1.r (i:=1) J)) (ai2 0 1 J J) hw) (bg aB.lasts aB.one aB.flat gJ sV J J J J J (js:=[0]) (Rr:=[ob G,[a],ob f,z]) J da c6 db) J ?_)
     rintro v10 dc el ⟨⟨ar,aN⟩,c8⟩
     replace t:=t.fr aN (ar.q 2 J) (ar.q 3 J)
     replace ao:=ao.fr aN (ar.q 0 J) dN
     replace q:=aN _ _ ((ar.q 1 J) _ MC) q
     have bp:=c7.st aN (ar.q 1 J)
     refine mq 10 J MA (kn bp (ai2 0 1 J J)) (aU (vs:=[(1,G),(2,v10)]) (C:=#[iV 0,G,v10]) zR mm J (a7 (C':=[iV 0,G,.slice none 0 0]) J (bh ao.one) J J J (a7 (C':=[iV 0,G,v10]) J (bh c8.one) J J J (ab)))) J ?_
     have c9:RC aD 3 dc ([(ob G++[])++((ob v10++[]))]:List (List Nat)) [iV 0,G,v10] ([(⟨0,x7,x8⟩:aj)]:List aj):=RC.cons (c:=[iV 0,G,v10]) (cells:=[]) ⟨G,v10,J,J,ao,c8⟩ J (RC.nil _ _ _)
     refine WM.one 11 MA (me J (fun _ v y D k b hw=>Kn.of (bp.se b.1) (ai2 0 1 J J) hw) (aQ (vs:=[(0,.agg [iV 0,G,v10].toArray)]) (C:=#[iV 0,G,v10]) aD.lasts je mm J J J J (ac rI (a7 (C':=[iV 0,G,v10]) J J J J J (ab))) J c9 J (RC.kn aD.knows c9)) J ?_)
     rintro v11 ca ep ⟨bq,br⟩
     replace br:OSl aD 63 3 ca ((ob G++[])++((ob v10++[]))) v11 ([(⟨0,x7,x8⟩:aj)]:List aj):=by simpa[gk] using br
     replace t:=t.f0 bq
     replace q:=bq _ _ MC q
     refine WM.conv (S':=St w0 ca [(T,.cells #[Q,iV E.Next] 29 (0,0)),(S,.cells #[.string u.Name,iV u.Sal,j,O,P] 87 (0,0))] [((ob G++[])++((ob v10++[]))),ob v11,[a],ob f,z]) (fun k hw=>hw.merge (js:=[2,1]) J (SP.eq (by simp[gk,bH]))) ?_
     obtain⟨x9,dd,h⟩:=bs h
     have cb:=bp.se bq
     refine WM.one 12 MA (me J (fun _ v y D k b hw=>Kn.of (cb.st b.1.2 (b.1.1.r (i:=2) J)) (ai2 0 1 J J) hw) (cq aD.lasts aD.one je yj J J J J J (js:=[3]) (Rr:=[((ob G++[])++((ob v10++[]))),ob v11,[a],z]) J t br (fun ap=>ap.q 3 J) (fun ap=>ap.q 0 J) dd) J ?_)
     rintro v12 de er ⟨⟨cc,cd⟩,aO⟩
     replace q:=cd _ _ ((cc.q 2 J) _ MC) q
     refine WM.conv (S':=St w0 de [(T,.cells #[Q,iV E.Next] 29 (0,0)),(S,.cells #[.string u.Name,iV u.Sal,j,O,P] 87 (0,0))] [(z++((ob G++[])++((ob v10++[])))),ob v12,ob v11,[a]]) (fun k hw=>hw.merge (js:=[4,1]) J (SP.eq MC)) ?_
     have df:=cb.st cd (cc.q 2 J)
     refine mq 13 J MA (kn df (ai2 0 1 J J)) (aG J) J ?_
     refine WM.thw (js:=[3]) (R:=[(z++((ob G++[])++((ob v10++[])))),ob v12,ob v11]) J q (fun et cf dg=>?_)
     replace aO:=aO.fr dg (cf.q 1 J) (cf.q 0 J)
     refine on1 14 (ms1 0 J nk DS J aO.one ?_)
     refine WM.nil MA ?_
     exact wo [0,0] [0] (K (_,_,_,_) ⟨h,aO⟩)
    have cg:=(Kf.id (F:=[a]):Kf d _ _).se aK
    refine me J (fun _ v y D k b hw=>Kn.of (cg.se b.1) (ai2 0 1 J J) hw) (cO aB.lasts gJ oe J J) J ?_
    rintro dh eu ev ⟨aP,bu⟩
    replace t:=t.f0 aP
    replace h9:=h9.f0 aP
    replace q:=aP _ _ MC q
    first | refine mu0 I fun cj=>?_ | refine iu0 I fun cj=>?_
    obtain⟨ck,di,h⟩:=bs h
    have cm:=cg.se aP
    refine WM.one 6 MA (me J (fun _ v y D k b hw=>Kn.of (cm.st b.1.2 (b.1.1.r (i:=1) J)) (ai2 0 1 J J) hw) (bg RI.lasts RI.one RI.flat aY jH J J J J J (js:=[1]) (Rr:=[ob dh,[a],ob f,z]) J h9 cj di) J ?_)
    rintro H ew ey ⟨⟨au,aR⟩,aS⟩
    replace t:=t.fr aR (au.q 2 J) (au.q 3 J)
    replace bu:=bu.fr aR (au.q 0 J) dN
    replace q:=aR _ _ ((au.q 1 J) _ MC) q
    first | refine mu0 V fun cn=>?_ | refine iu0 V fun cn=>?_
    obtain⟨cp,dj,h⟩:=bs h
    have cr:=cm.st aR (au.q 1 J)
    refine WM.one 9 MA (me J (fun _ v y D k b hw=>Kn.of (cr.st b.1.2 (b.1.1.r (i:=1) J)) (ai2 0 1 J J) hw) (bg aB.lasts aB.one aB.flat gJ sV J J J J J (js:=[1]) (Rr:=[ob H,[a],ob f,z]) J bu cn dj) J ?_)
    rintro M dk ez ⟨⟨aw,aT⟩,ct⟩
    replace t:=t.fr aT (aw.q 2 J) (aw.q 3 J)
    replace aS:=aS.fr aT (aw.q 0 J) dN
    replace q:=aT _ _ ((aw.q 1 J) _ MC) q
    have bw:=cr.st aT (aw.q 1 J)
    refine mq 10 J MA (kn bw (ai2 0 1 J J)) (aU (vs:=[(1,H),(2,M)]) (C:=#[iV 0,H,M]) zR mm J (a7 (C':=[iV 0,H,.slice none 0 0]) J (bh aS.one) J J J (a7 (C':=[iV 0,H,M]) J (bh ct.one) J J J (ab)))) J ?_
    have cu:RC aD 3 dk ([(ob H++[])++((ob M++[]))]:List (List Nat)) [iV 0,H,M] ([(⟨0,ck,cp⟩:aj)]:List aj):=RC.cons (c:=[iV 0,H,M]) (cells:=[]) ⟨H,M,J,J,aS,ct⟩ J (RC.nil _ _ _)
    refine WM.one 11 MA (me J (fun _ v y D k b hw=>Kn.of (bw.se b.1) (ai2 0 1 J J) hw) (aQ (vs:=[(0,.agg [iV 0,H,M].toArray)]) (C:=#[iV 0,H,M]) aD.lasts je mm J J J J (ac rI (a7 (C':=[iV 0,H,M]) J J J J J (ab))) J cu J (RC.kn aD.knows cu)) J ?_)
    rintro ax cv eA ⟨bz,bA⟩
    replace bA:OSl aD 63 3 cv ((ob H++[])++((ob M++[]))) ax ([(⟨0,ck,cp⟩:aj)]:List aj):=by simpa[gk] using bA
    replace t:=t.f0 bz
    replace q:=bz _ _ MC q
    refine WM.conv (S':=St w0 cv [(T,.cells #[Q,iV E.Next] 29 (0,0)),(S,.cells #[.string u.Name,iV u.Sal,j,O,P] 87 (0,0))] [((ob H++[])++((ob M++[]))),ob ax,[a],ob f,z]) (fun k hw=>hw.merge (js:=[2,1]) J (SP.eq (by simp[gk,bH]))) ?_
    obtain⟨eB,dm,h⟩:=bs h
    have cw:=bw.se bz
    refine WM.one 12 MA (me J (fun _ v y D k b hw=>Kn.of (cw.st b.1.2 (b.1.1.r (i:=2) J)) (ai2 0 1 J J) hw) (cq aD.lasts aD.one je yj J J J J J (js:=[3]) (Rr:=[((ob H++[])++((ob M++[]))),ob ax,[a],z]) J t bA (fun ap=>ap.q 3 J) (fun ap=>ap.q 0 J) dm) J ?_)
    rintro v17 dn eC ⟨⟨cx,cy⟩,aV⟩
    replace q:=cy _ _ ((cx.q 2 J) _ MC) q
    refine WM.conv (S':=St w0 dn [(T,.cells #[Q,iV E.Next] 29 (0,0)),(S,.cells #[.string u.Name,iV u.Sal,j,O,P] 87 (0,0))] [(z++((ob H++[])++((ob M++[])))),ob v17,ob ax,[a]]) (fun k hw=>hw.merge (js:=[4,1]) J (SP.eq MC)) ?_
    have dp:=cw.st cy (cx.q 2 J)
    refine mq 13 J MA (kn dp (ai2 0 1 J J)) (aG J) J ?_
    refine WM.thw (js:=[3]) (R:=[(z++((ob H++[])++((ob M++[])))),ob v17,ob ax]) J q (fun eD cz dq=>?_)
    replace aV:=aV.fr dq (cz.q 1 J) (cz.q 0 J)
    refine on1 14 (ms1 0 J nk DS J aV.one ?_)
    refine WM.nil MA ?_
    exact wo [0,0] [0] (K (_,_,_,_) ⟨h,aV⟩)
   refine me J (fun _ v y D k b hw=>Kn.of (Kf.id.se b.1) (ai2 0 1 J J) hw) (cO aB.lasts gJ oe J J) J ?_
   rintro dr eE eF ⟨bB,ay⟩
   replace t:=t.f0 bB
   replace q:=bB _ _ MC q
   have cA:=(Kf.id (F:=[a]):Kf d _ _).se bB
   refine WM.one 4 MA (me J (fun _ v y D k b hw=>Kn.of (cA.se b.1) (ai2 0 1 J J) hw) (cO (R:=RI .i64) RI.lasts aY gF J J) J ?_)
   rintro eG eH eI ⟨aX,ds⟩
   replace t:=t.f0 aX
   replace ay:=ay.f0 aX
   replace q:=aX _ _ MC q
   first | refine mu0 I fun cB=>?_ | refine iu0 I fun cB=>?_
   obtain⟨cC,dt,h⟩:=bs h
   have cD:=cA.se aX
   refine WM.one 6 MA (me J (fun _ v y D k b hw=>Kn.of (cD.st b.1.2 (b.1.1.r (i:=1) J)) (ai2 0 1 J J) hw) (bg RI.lasts RI.one RI.flat aY jH J J J J J (js:=[0]) (Rr:=[ob dr,[a],ob f,z]) J ds cB dt) J ?_)
   rintro v20 eJ eK ⟨⟨aE,aZ⟩,b0⟩
   replace t:=t.fr aZ (aE.q 2 J) (aE.q 3 J)
   replace ay:=ay.fr aZ (aE.q 0 J) dN
   replace q:=aZ _ _ ((aE.q 1 J) _ MC) q
   first | refine mu0 V fun cE=>?_ | refine iu0 V fun cE=>?_
   obtain⟨cF,du,h⟩:=bs h
   have cG:=cD.st aZ (aE.q 1 J)
   refine WM.one 9 MA (me J (fun _ v y D k b hw=>Kn.of (cG.st b.1.2 (b.1.1.r (i:=1) J)) (ai2 0 1 J J) hw) (bg aB.lasts aB.one aB.flat gJ sV J J J J J (js:=[1]) (Rr:=[ob v20,[a],ob f,z]) J ay cE du) J ?_)
   rintro v21 dv eM ⟨⟨aF,b2⟩,cH⟩
   replace t:=t.fr b2 (aF.q 2 J) (aF.q 3 J)
   replace b0:=b0.fr b2 (aF.q 0 J) dN
   replace q:=b2 _ _ ((aF.q 1 J) _ MC) q
   have bC:=cG.st b2 (aF.q 1 J)
   refine mq 10 J MA (kn bC (ai2 0 1 J J)) (aU (vs:=[(1,v20),(2,v21)]) (C:=#[iV 0,v20,v21]) zR mm J (a7 (C':=[iV 0,v20,.slice none 0 0]) J (bh b0.one) J J J (a7 (C':=[iV 0,v20,v21]) J (bh cH.one) J J J (ab)))) J ?_
   have cI:RC aD 3 dv ([(ob v20++[])++((ob v21++[]))]:List (List Nat)) [iV 0,v20,v21] ([(⟨0,cC,cF⟩:aj)]:List aj):=RC.cons (c:=[iV 0,v20,v21]) (cells:=[]) ⟨v20,v21,J,J,b0,cH⟩ J (RC.nil _ _ _)
   refine WM.one 11 MA (me J (fun _ v y D k b hw=>Kn.of (bC.se b.1) (ai2 0 1 J J) hw) (aQ (vs:=[(0,.agg [iV 0,v20,v21].toArray)]) (C:=#[iV 0,v20,v21]) aD.lasts je mm J J J J (ac rI (a7 (C':=[iV 0,v20,v21]) J J J J J (ab))) J cI J (RC.kn aD.knows cI)) J ?_)
   rintro v22 cJ eN ⟨bD,bE⟩
   replace bE:OSl aD 63 3 cJ ((ob v20++[])++((ob v21++[]))) v22 ([(⟨0,cC,cF⟩:aj)]:List aj):=by simpa[gk] using bE
   replace t:=t.f0 bD
   replace q:=bD _ _ MC q
   refine WM.conv (S':=St w0 cJ [(T,.cells #[Q,iV E.Next] 29 (0,0)),(S,.cells #[.string u.Name,iV u.Sal,j,O,P] 87 (0,0))] [((ob v20++[])++((ob v21++[]))),ob v22,[a],ob f,z]) (fun k hw=>hw.merge (js:=[2,1]) J (SP.eq (by simp[gk,bH]))) ?_
   obtain⟨eO,dw,h⟩:=bs h
   have cK:=bC.se bD
   refine WM.one 12 MA (me J (fun _ v y D k b hw=>Kn.of (cK.st b.1.2 (b.1.1.r (i:=2) J)) (ai2 0 1 J J) hw) (cq aD.lasts aD.one je yj J J J J J (js:=[3]) (Rr:=[((ob v20++[])++((ob v21++[]))),ob v22,[a],z]) J t bE (fun ap=>ap.q 3 J) (fun ap=>ap.q 0 J) dw) J ?_)
   rintro v23 dx eP ⟨⟨cL,cM⟩,b3⟩
   replace q:=cM _ _ ((cL.q 2 J) _ MC) q
   refine WM.conv (S':=St w0 dx [(T,.cells #[Q,iV E.Next] 29 (0,0)),(S,.cells #[.string u.Name,iV u.Sal,j,O,P] 87 (0,0))] [(z++((ob v20++[])++((ob v21++[])))),ob v23,ob v22,[a]]) (fun k hw=>hw.merge (js:=[4,1]) J (SP.eq MC)) ?_
   have dy:=cK.st cM (cL.q 2 J)
   refine mq 13 J MA (kn dy (ai2 0 1 J J)) (aG J) J ?_
   refine WM.thw (js:=[3]) (R:=[(z++((ob v20++[])++((ob v21++[])))),ob v23,ob v22]) J q (fun eQ cN dz=>?_)
   replace b3:=b3.fr dz (cN.q 1 J) (cN.q 0 J)
   refine on1 14 (ms1 0 J nk DS J b3.one ?_)
   refine WM.nil MA ?_
   exact wo [0,0] [0] (K (_,_,_,_) ⟨h,b3⟩)
  refine WT.skip ?_
  exact rtg [0,0,0] hF aA.none J (by cases h;exact fun k hw=>⟨f,z,rfl,rfl,t,q⟩)
 refine att 6 [] J ?_
 refine lin (σ:=Hp × (List aj) × Value × List Nat × Int) (fun s=>[(0,pQ a),(3,ak),(4,al),(6,pQ S),(7,pQ T),(10,iV s.2.2.2.2)]) (fun s=>St w0 s.1 [(T,.cells #[Q,iV E.Next] 29 (0,0)),(S,.cells #[.string u.Name,iV u.Sal,j,O,P] 87 (0,0))] [[a],ob s.2.2.1,s.2.2.2.1]) (fun m s=>eo N u E p3 X (fx N) m s.2.1 s.2.2.2.2=some r∧(OSl aD 63 3 s.1 s.2.2.2.1 s.2.2.1 s.2.1)∧(s.1 a=some (.cells #[s.2.2.1] 41 (0,0)))) (d,p0,f,z,0) N ⟨h,t,q⟩ (sx [0,0,0] [0,0]) (fun n2 cP s hm=>?_)
 obtain⟨eR,s2,Z,a8,s3⟩:=s
 obtain⟨h,w,x⟩:=hm
 dsimp only at h w x ⊢
 unfold eo at h
 refine atr 6 [0,0] J<|lnr U J<|la J<|en ?_
 refine ch h J ?_ ?_ <;> intro h
 ·refine att 4 [] J<|wm [0,1] [] J<|amm 3 [0,2,1,32,2] [0,1] J J<|mq 3 J MA (kN [0,1]) (mF aY J J I) J ?_
  obtain⟨bF,cQ,h⟩:=bs h
  obtain⟨eS,F1,-,g1,eT,eU,r1⟩:=Y.el (aa cQ).2.2
  obtain⟨v24,G1,rfl,dA,dB⟩:=r1
  obtain rfl:=dA.symm
  refine mq 4 J MA (kN [0,1]) (ae og J J Y cQ) J<|mq 5 J MA (kN [0,1]) (aC sm J (fun k hw=>(g1.of_eq 0 3 J J:rg _ _ _ [.string bF.Kind,v24,.bool bF.Not]).rangeAt hw.1) J) J<|amm 3 [6,0,7,0,8] [0,1] J J ?_
  obtain⟨cR,cS,h⟩:=bs h
  obtain⟨eV,F2,-,g2,eW,eX,r2⟩:=U.el (aa cS).2.2
  obtain⟨v25,G2,rfl,dC,dD⟩:=r2
  obtain rfl:=dC.symm
  refine mq 9 J MA (kN [0,1]) (ae lL J J U cS) J<|amm 1 [10,1] [0,1] J J<|mq 11 J MA (kN [0,1]) (aC nT J (fun k hw=>(g2.of_eq 1 2 J J:rg _ _ _ [.string cR.F.Kind,v25]).rangeAt hw.1) J) J<|amm 1 [12] [0,1] J J ?_
  obtain⟨bG,dE,h⟩:=bs h
  refine WM.one 13 MA (mc J (fun _ v y D k b hw=>Kn.of Kf.nil (ai2 0 1 J J) hw) (bt (js:=[]) (R:=[[a],ob Z,a8]) wU J J (fun k hw ap hl=>kR N (ba hw.fro) bF cR.F X (dB.y hw.up) (dD.y hw.up) (V.y hw.up)  dE)) J ?_)
  rintro v26 dF F3 ⟨bI,cT,W,rfl,rfl,A⟩
  replace w:=w.fr cT (bI.q 1 J) (bI.q 2 J)
  replace x:=cT _ _ ((bI.q 0 J) _ MC) x
  refine amm 5 [14,15,16,17,18] [0,1] J J<|WM.nil MA<|att 4 [] J ?_
  refine ch h J ?_ ?_ <;> intro h
  ·refine cut (σ:=Hp × (List aj) × Value × List Nat) (fun s=>[(0,pQ a),(3,ak),(4,al),(6,pQ S),(7,pQ T),(10,iV s3)]) (fun s=>St w0 s.1 [(T,.cells #[Q,iV E.Next] 29 (0,0)),(S,.cells #[.string u.Name,iV u.Sal,j,O,P] 87 (0,0))] [[a],ob s.2.2.1,s.2.2.2]) (fun s=>lV N s3 (eo N u E p3 X (fx N) n2) s.2.1=some r∧(OSl aD 63 3 s.1 s.2.2.2 s.2.2.1 s.2.1)∧(s.1 a=some (.cells #[s.2.2.1] 41 (0,0)))) (fun s hm=>?_) (fun K=>?_)
   ·clear h
    obtain⟨eY,s4,u3,eZ⟩:=s
    obtain⟨h,k5,k6⟩:=hm
    dsimp only at h k5 k6 ⊢
    unfold lV at h
    refine att 6 [] J ?_
    exact lb [0,0,0] [0,0] (cP (_,_,_,_,_) ⟨h,k5,k6⟩)
   refine wm [0,1] [15] J<|amm 8 [0,1,37,2,2,14,4,6,0,7,0,8] [0,1] J J ?_
   obtain⟨B,cU,h⟩:=bs h
   obtain⟨fa,F6,-,g4,fb,fc,r4⟩:=U.el (aa cU).2.2
   obtain⟨v35,G4,rfl,dG,fe⟩:=r4
   obtain rfl:=dG.symm
   refine mqT 9 [10,11,12,13,15] J MA (kN [0,1]) (ae lL J J U cU) J<|amm 1 [10,0] [0,1] J J<|mqT 11 [12,13,15] J MA (kN [0,1]) (az rd J (fun k hw=>(g4.of_eq 0 1 J J:rg _ _ _ [iV B.Id]).rangeAt hw.1)) J ?_
   refine WM.two 3 12 MA ?_ ?_
   ·refine me J (fun _ v y D k b hw=>Kn.of Kf.nil (ai2 0 1 J J) hw) (cO (R:=RI .i64) RI.lasts aY gF J J) J ?_
    rintro ff dH fg ⟨bJ,b4⟩
    replace w:=w.f0 bJ
    replace A:=A.f0 bJ
    replace x:=bJ _ _ MC x
    refine WM.two 5 12 MA ?_ ?_
    ·first | refine mu0 I fun cV=>?_ | refine iu0 I fun cV=>?_
     obtain⟨fh,dI,h⟩:=bs h
     refine me J (fun _ v y D k b hw=>Kn.of Kf.nil (ai2 0 1 J J) hw) (bg RI.lasts RI.one RI.flat aY jH J J J J J (js:=[0]) (Rr:=[ob W,[a],ob Z,a8]) J b4 cV dI) J ?_
     rintro v37 dJ fi ⟨⟨b5,bK⟩,bL⟩
     replace w:=w.fr bK (b5.q 2 J) (b5.q 3 J)
     replace A:=A.fr bK (b5.q 0 J) dN
     replace x:=bK _ _ ((b5.q 1 J) _ MC) x
     have dL:RC (RI .i64) 1 dJ ([[]]:List (List Nat)) [iV B.Id] ([B.Id]:List Int):=RC.cons (c:=[iV B.Id]) (cells:=[]) ⟨J,J⟩ J (RC.nil _ _ _)
     refine WM.one 12 MA (me J (fun _ v y D k b hw=>Kn.of Kf.nil (ai2 0 1 J J) hw) (aQ (vs:=[(0,iV B.Id)]) (C:=#[iV B.Id]) RI.lasts aY gF J J J J (ac ij (a7 (C':=[iV B.Id]) J J J J J (ab))) J dL J (by simpa using Kw.nil)) J ?_)
     rintro bM dM fj ⟨b6,bO⟩
     replace bO:OSl (RI .i64) 3 1 dM [] bM ([B.Id]:List Int):=by simpa using bO
     replace w:=w.f0 b6
     replace A:=A.f0 b6
     replace bL:=bL.f0 b6
     replace x:=b6 _ _ MC x
     obtain⟨dO,dP,h⟩:=bs h
     refine WM.one 13 MA (me J (fun _ v y D k b hw=>Kn.of Kf.nil (ai2 0 1 J J) hw) (bg RI.lasts RI.one RI.flat aY jH J J J J J (js:=[1]) (Rr:=[ob bM,ob W,[a],ob Z,a8]) J bL bO.rsl dP) J ?_)
     rintro v39 fk fl ⟨⟨b7,bP⟩,dQ⟩
     replace w:=w.fr bP (b7.q 3 J) (b7.q 4 J)
     replace A:=A.fr bP (b7.q 1 J) dN
     replace x:=bP _ _ ((b7.q 2 J) _ MC) x
     obtain⟨fm,dR,h⟩:=bs h
     refine WM.one 15 MA (mc J (fun hc=>by cases hc) (bt (js:=[3,3,3]) (R:=[ob v39,ob bM,ob W]) AZ J J (fun k hw ap hl=>ih (bx hw ap hl) s2 u E dO bG.1 w x (Y.y (hw.uo ap)) (ad.y (hw.uo ap)) (an.y (hw.uo ap)) (U.y (hw.uo ap)) (dQ.rsl.x (Dj.app (ap.q 0 J) dN)) (A.rsl.x (Dj.app (ap.q 2 J) dN))  dR)) J ?_)
     rintro v40 fo F7 ⟨fp,fq,v41,fr,rfl,rfl,dS,dT⟩
     refine WM.nil MA ?_
     exact wo [0,0,0] [0,0] (K (_,_,_,_) ⟨h,dS,dT⟩)
    have dU:RC (RI .i64) 1 dH ([[]]:List (List Nat)) [iV B.Id] ([B.Id]:List Int):=RC.cons (c:=[iV B.Id]) (cells:=[]) ⟨J,J⟩ J (RC.nil _ _ _)
    refine me J (fun _ v y D k b hw=>Kn.of Kf.nil (ai2 0 1 J J) hw) (aQ (vs:=[(0,iV B.Id)]) (C:=#[iV B.Id]) RI.lasts aY gF J J J J (ac ij (a7 (C':=[iV B.Id]) J J J J J (ab))) J dU J (by simpa using Kw.nil)) J ?_
    rintro b8 dV fs ⟨b9,aH⟩
    replace aH:OSl (RI .i64) 3 1 dV [] b8 ([B.Id]:List Int):=by simpa using aH
    replace w:=w.f0 b9
    replace A:=A.f0 b9
    replace b4:=b4.f0 b9
    replace x:=b9 _ _ MC x
    first | refine mu0 I fun cW=>?_ | refine iu0 I fun cW=>?_
    obtain⟨ft,dW,h⟩:=bs h
    refine WM.one 5 MA (me J (fun _ v y D k b hw=>Kn.of Kf.nil (ai2 0 1 J J) hw) (bg RI.lasts RI.one RI.flat aY jH J J J J J (js:=[1]) (Rr:=[ob b8,ob W,[a],ob Z,a8]) J b4 cW dW) J ?_)
    rintro fu fv fw ⟨⟨aI,bb⟩,dX⟩
    replace w:=w.fr bb (aI.q 3 J) (aI.q 4 J)
    replace A:=A.fr bb (aI.q 1 J) dN
    replace aH:=aH.fr bb (aI.q 0 J) dN
    replace x:=bb _ _ ((aI.q 2 J) _ MC) x
    obtain⟨dY,dZ,h⟩:=bs h
    refine WM.one 13 MA (me J (fun _ v y D k b hw=>Kn.of Kf.nil (ai2 0 1 J J) hw) (bg RI.lasts RI.one RI.flat aY jH J J J J J (js:=[0]) (Rr:=[ob b8,ob W,[a],ob Z,a8]) J dX aH.rsl dZ) J ?_)
    rintro v44 fy fz ⟨⟨bc,bQ⟩,e0⟩
    replace w:=w.fr bQ (bc.q 3 J) (bc.q 4 J)
    replace A:=A.fr bQ (bc.q 1 J) dN
    replace x:=bQ _ _ ((bc.q 2 J) _ MC) x
    obtain⟨fA,e1,h⟩:=bs h
    refine WM.one 15 MA (mc J (fun hc=>by cases hc) (bt (js:=[3,3,3]) (R:=[ob v44,ob b8,ob W]) AZ J J (fun k hw ap hl=>ih (bx hw ap hl) s2 u E dY bG.1 w x (Y.y (hw.uo ap)) (ad.y (hw.uo ap)) (an.y (hw.uo ap)) (U.y (hw.uo ap)) (e0.rsl.x (Dj.app (ap.q 0 J) dN)) (A.rsl.x (Dj.app (ap.q 2 J) dN))  e1)) J ?_)
    rintro v45 fB F8 ⟨fC,fD,v46,fE,rfl,rfl,e2,e3⟩
    refine WM.nil MA ?_
    exact wo [0,0,0] [0,0] (K (_,_,_,_) ⟨h,e2,e3⟩)
   have e4:RC (RI .i64) 1 dF ([[]]:List (List Nat)) [iV B.Id] ([B.Id]:List Int):=RC.cons (c:=[iV B.Id]) (cells:=[]) ⟨J,J⟩ J (RC.nil _ _ _)
   refine me J (fun _ v y D k b hw=>Kn.of Kf.nil (ai2 0 1 J J) hw) (aQ (vs:=[(0,iV B.Id)]) (C:=#[iV B.Id]) RI.lasts aY gF J J J J (ac ij (a7 (C':=[iV B.Id]) J J J J J (ab))) J e4 J (by simpa using Kw.nil)) J ?_
   rintro bd e5 fF ⟨bR,ah⟩
   replace ah:OSl (RI .i64) 3 1 e5 [] bd ([B.Id]:List Int):=by simpa using ah
   replace w:=w.f0 bR
   replace A:=A.f0 bR
   replace x:=bR _ _ MC x
   refine WM.one 3 MA (me J (fun _ v y D k b hw=>Kn.of Kf.nil (ai2 0 1 J J) hw) (cO (R:=RI .i64) RI.lasts aY gF J J) J ?_)
   rintro fG fH fI ⟨bf,e6⟩
   replace w:=w.f0 bf
   replace A:=A.f0 bf
   replace ah:=ah.f0 bf
   replace x:=bf _ _ MC x
   first | refine mu0 I fun cX=>?_ | refine iu0 I fun cX=>?_
   obtain⟨fJ,e7,h⟩:=bs h
   refine WM.one 5 MA (me J (fun _ v y D k b hw=>Kn.of Kf.nil (ai2 0 1 J J) hw) (bg RI.lasts RI.one RI.flat aY jH J J J J J (js:=[0]) (Rr:=[ob bd,ob W,[a],ob Z,a8]) J e6 cX e7) J ?_)
   rintro v49 fK fL ⟨⟨aJ,bk⟩,e8⟩
   replace w:=w.fr bk (aJ.q 3 J) (aJ.q 4 J)
   replace A:=A.fr bk (aJ.q 1 J) dN
   replace ah:=ah.fr bk (aJ.q 0 J) dN
   replace x:=bk _ _ ((aJ.q 2 J) _ MC) x
   obtain⟨e9,ea,h⟩:=bs h
   refine WM.one 13 MA (me J (fun _ v y D k b hw=>Kn.of Kf.nil (ai2 0 1 J J) hw) (bg RI.lasts RI.one RI.flat aY jH J J J J J (js:=[0]) (Rr:=[ob bd,ob W,[a],ob Z,a8]) J e8 ah.rsl ea) J ?_)
   rintro v50 fM fN ⟨⟨bm,bS⟩,eb⟩
   replace w:=w.fr bS (bm.q 3 J) (bm.q 4 J)
   replace A:=A.fr bS (bm.q 1 J) dN
   replace x:=bS _ _ ((bm.q 2 J) _ MC) x
   obtain⟨fO,ec,h⟩:=bs h
   refine WM.one 15 MA (mc J (fun hc=>by cases hc) (bt (js:=[3,3,3]) (R:=[ob v50,ob bd,ob W]) AZ J J (fun k hw ap hl=>ih (bx hw ap hl) s2 u E e9 bG.1 w x (Y.y (hw.uo ap)) (ad.y (hw.uo ap)) (an.y (hw.uo ap)) (U.y (hw.uo ap)) (eb.rsl.x (Dj.app (ap.q 0 J) dN)) (A.rsl.x (Dj.app (ap.q 2 J) dN))  ec)) J ?_)
   rintro v51 fP F9 ⟨fQ,fR,fS,fT,rfl,rfl,ed,ee⟩
   refine WM.nil MA ?_
   exact wo [0,0,0] [0,0] (K (_,_,_,_) ⟨h,ed,ee⟩)
  refine att 7 [] J ?_
  exact lb [1,1,1] [0,0] (cP (_,_,_,_,_) ⟨h,w,x⟩)
 refine xt J ?_
 refine WT.fin hF aA.none (fun k hw=>?_)
 cases h
 refine aW (js:=[0,0,0]) hw J ⟨Z,a8,J,J,w,x⟩
theorem Aw (w0:av e d []) (c:ai) (i:ag) (B:RSl bN 3 e l g c.Pats) (D:RSl bl 11 e pG0_1 a1 c.Conds) (E:RSl dK 5 e pG0_2 o c.Acts) (F:RSl bj 3 e n j i.Items) {r:(List aj)} (h:qP N c i=some r) :
  Calls prog 142 [.agg [.string c.Name,iV c.Sal,g,a1,o].toArray,.agg [j,iV i.Next].toArray].toArray w0.w (be d w0.w [] (fun G Fs v=>∃ (m:Value) (u:List Nat),v=m∧Fs=[ob m,u]∧OSl aD 63 3 G u m r)):=by
 refine eN func142 J ntmps142 J w0 fun H=>?_
 unfold qP at h
 refine sr<|lbx J fun w=>lbx J fun x=>arr 4 [] J ?_
 have I:RC aD 3 d ([]:List (List Nat)) [] ([]:List aj):=RC.nil _ _ _
 refine le' (aQ (vs:=[]) (C:=#[]) aD.lasts je mm J J J J (ac AJ (ab)) J I J (by simpa using Kw.nil)) J ?_
 rintro v1 y S ⟨T,h1⟩
 replace h1:OSl aD 63 3 y [] v1 ([]:List aj):=by simpa[gk] using h1
 refine WL.conv (S':=St w0 y [(x,.cells #[j,iV i.Next] 29 (0,0)),(w,.cells #[.string c.Name,iV c.Sal,g,a1,o] 87 (0,0))] [[],ob v1]) (fun K hw=>hw.addNil) ?_
 refine ln (mf (C:=#[.slice none 0 0]) Ly J) J (fun U=>?_)
 refine so1 0 DS J h1.one ?_
 refine arr 5 [69,34] J<|le' (cO (R:=RI .i64) RI.lasts aY gF J J) J ?_
 rintro v2 V W ⟨L,k⟩
 replace h1:=h1.f0 L
 refine le' (cO aB.lasts gJ oe J J) J ?_
 rintro v3 X Y ⟨A,s⟩
 replace h1:=h1.f0 A
 replace k:=k.f0 A
 refine WL.frz (js:=[0]) (R:=[(x,.cells #[j,iV i.Next] 29 (0,0)),(w,.cells #[.string c.Name,iV c.Sal,g,a1,o] 87 (0,0))]) J (fun Z t M=>?_)
 replace h1:=h1.f0 t
 replace k:=k.f0 t
 replace s:=s.f0 t
 refine kcb [0,3,2] h J J J J (fun b ap z q=>xE N b ([]:List aj) c i ([]:List Int) ([]:List aq) h1 M (B.y z) (D.y z) (E.y z) (F.y z) (k.rsl.x (Dj.app (ap.q 1 J) dN)) (s.rsl.x (Dj.app (ap.q 0 J) dN)) q) ?_
 rintro x1 h v4 a7 F1 ⟨a8,aa,v5,O,rfl,rfl,P,Q⟩
 refine en<|sr<|lgx 0 0 (bZ Q) J<|la J<|en ?_
 exact rtg [1,1] H (aA.one J) J (by cases h;exact fun K hw=>⟨v5,O,rfl,rfl,P⟩)
theorem yK (w0:av e d []) (u:bo) (t:ag) (Q:RSl cr 5 e l g u.Rules) (ao:RSl bj 3 e n j t.Items) {r:(List aj)} (h:pn N u t=some r) :
  Calls prog 73 [.agg [.string u.Name,g].toArray,.agg [j,iV t.Next].toArray].toArray w0.w (be d w0.w [] (fun aq Fs v=>∃ (S:Value) (ai:List Nat) (X:List Nat),v=S∧Fs=[ob S,X]∧OSl dH 63 3 aq ai S r∧(∀ k∈ai,k∈X))):=by
 refine eN func73 J ntmps73 J w0 fun hF=>?_
 unfold pn at h
 refine sr<|lbx J fun E=>lbx J fun G=>arr 4 [] J ?_
 have ar:RC aD 3 d ([]:List (List Nat)) [] ([]:List aj):=RC.nil _ _ _
 refine le' (aQ (vs:=[]) (C:=#[]) aD.lasts je mm J J J J (ac AJ (ab)) J ar J (by simpa using Kw.nil)) J ?_
 rintro v1 T D1 ⟨aN,h1⟩
 replace h1:OSl aD 63 3 T [] v1 ([]:List aj):=by simpa[gk] using h1
 refine WL.conv (S':=St w0 T [(G,.cells #[j,iV t.Next] 29 (0,0)),(E,.cells #[.string u.Name,g] 26 (0,0))] [[],ob v1]) (fun I hw=>hw.addNil)<|art 8 [] J<|wt0 ?_
 replace h1:=h1.gives aD.gives
 refine lin (σ:=Hp × List Nat × (List aj) × Value × List Nat × Int) (fun s=>[(2,pQ E),(3,pQ G),(5,s.2.2.2.1),(6,iV s.2.2.2.2.2)]) (fun s=>St w0 s.1 [(G,.cells #[j,iV t.Next] 29 (0,0)),(E,.cells #[.string u.Name,g] 26 (0,0))] [s.2.1,ob s.2.2.2.1]) (fun m s=>eS N u t m s.2.2.1 s.2.2.2.2.2=some r∧(OSl dH 63 3 s.1 s.2.2.2.2.1 s.2.2.2.1 s.2.2.1)∧(∀ k∈s.2.2.2.2.1,k∈s.2.1)) (T,[],([]:List aj),v1,[],0) N ⟨h,h1,MC⟩ (sx [0,1] [0,0]) (fun n1 au s hm=>?_)
 obtain⟨aO,q,s1,U,D2,s2⟩:=s
 obtain⟨h,H,K⟩:=hm
 dsimp only at h H K ⊢
 unfold eS at h
 refine atr 6 [1,32] J<|lnr Q J<|la J<|en ?_
 refine ch h J ?_ ?_ <;> intro h
 ·refine att 4 [] J<|wm [0,1] [] J<|amm 3 [0,1,1,32,2] [0,1] J J ?_
  obtain⟨V,ak,h⟩:=bs h
  obtain⟨aP,F1,-,g1,aR,aS,r1⟩:=Q.el (aa ak).2.2
  obtain⟨v2,G1,v3,G2,v4,G3,rfl,rfl,h2,h3,h4⟩:=r1
  refine mq 3 J MA (kN [0,1]) (ae si J J Q ak) J<|mq 4 J MA (kN [0,1]) (aC o7 J (fun I hw=>(g1.of_eq 0 5 J J:rg _ _ _ [.string V.Name,iV V.Sal,v2,v3,v4]).rangeAt hw.1) J) J<|amm 1 [5,2] [0,1] J J ?_
  obtain⟨x2,aw,h⟩:=bs h
  refine WM.one 6 MA (mc J (fun _ v aT D I hq hw=>Kn.of Kf.nil (ai2 0 1 J J) hw) (bt (js:=[]) (R:=[q,ob U]) Ig J J (fun I hw ap hl=>Aw N (ba hw.fro) V t (h2.y hw.up) (h3.y hw.up) (h4.y hw.up) (ao.y hw.up)  aw)) J ?_)
  rintro v5 ax F2 ⟨al,ay,v6,D3,rfl,rfl,h5⟩
  replace H:=H.fr ay (al.q 1 J) (Dj.sub (al.q 0 J) K)
  refine amm 1 [7] [0,1] J J<|WM.nil MA<|att 5 [] J ?_
  refine lin (σ:=Hp × (List aj) × Value × List Nat × (List aj) × List Nat × Int) (fun s=>[(2,pQ E),(3,pQ G),(5,s.2.2.1),(6,iV s2),(7,v5),(8,iV s.2.2.2.2.2.2)]) (fun s=>St w0 s.1 [(G,.cells #[j,iV t.Next] 29 (0,0)),(E,.cells #[.string u.Name,g] 26 (0,0))] [ob v5,s.2.2.2.2.2.1,q,ob s.2.2.1]) (fun m s=>jj N s2 (eS N u t n1) m s.2.1 s.2.2.2.2.1 s.2.2.2.2.2.2=some r∧(OSl dH 63 3 s.1 s.2.2.2.1 s.2.2.1 s.2.1)∧(∀ k∈s.2.2.2.1,k∈(q++s.2.2.2.2.2.1))∧(OSl aD 63 3 s.1 s.2.2.2.2.2.1 v5 s.2.2.2.2.1)) (ax,s1,U,D2,x2,D3,0) N ⟨h,H,(fun k hk=>(gb.2 (.inl (K k hk)))),h5⟩ (sx [0,0,0,0] [0,0]) (fun n2 az s hm=>?_)
  obtain⟨aU,s3,W,D4,s4,D5,s5⟩:=s
  obtain⟨h,y,i2,Y⟩:=hm
  dsimp only at h y i2 Y ⊢
  unfold jj at h
  refine atr 5 [] J<|lno Y J<|la J<|en ?_
  refine ch h J ?_ ?_ <;> intro h
  ·refine atr 8 [] J ?_
   obtain⟨B,Z,h⟩:=bs h
   obtain⟨aV,F3,L,h6,r2,aX,aB,a8⟩:=Y.focusM Z
   obtain⟨b,i,rfl,rfl,w,x⟩:=r2
   refine wlL [ob b,ob i,L,ob v5,q,ob W] (sre [1] [ob b,ob i,L] J (by simpa[gk] using aB))<|lih h6 Z J<|lf FF J J J<|lu (us [3] [ob b,ob i,L,q,ob W] 0 aD.lasts vv J J J J h6 J (fun ap=>ap.q 2 J)) J ?_
   rintro aE D7 ⟨⟨z,ad⟩,A⟩
   replace y:=y.fr ad (z.q 4 J) (Dj.sub (Dj.app (z.q 3 J) (Dj.sub (Dj.app (Dj.app (Dj.sub (z.q 0 J) iD) (Dj.sub (z.q 1 J) iD)) (z.q 2 J)) a8)) i2)
   replace w:=w.fr ad (z.q 0 J) dN
   replace x:=x.fr ad (z.q 1 J) dN
   refine arr 5 [] J<|lih A Z J<|lgx 0 3 A.rg J ?_
   have an:RC dH 3 aE ([(ob b++[])++((ob i++[]))]:List (List Nat)) [iV s2,b,i] ([(⟨s2,B.Ids,B.Binds⟩:aj)]:List aj):=RC.cons (c:=[iV s2,b,i]) (cells:=[]) ⟨b,(ob b++[]),i,(ob i++[]),J,J,w.rsl,x.rsl⟩ J (RC.nil _ _ _)
   refine le' (aQ (vs:=[(0,.agg [iV s2,b,i].toArray)]) (C:=#[iV s2,b,i]) dH.lasts je mm J J J J (ac rI (a7 (C':=[iV s2,b,i]) J J J J J (ab))) J an J (RC.kn dH.knows an)) J ?_
   rintro v9 aF D8 ⟨M,af⟩
   replace af:OSl dH 63 3 aF ((ob b++[])++((ob i++[]))) v9 ([(⟨s2,B.Ids,B.Binds⟩:aj)]:List aj):=by simpa[gk] using af
   replace y:=y.f0 M
   replace A:=A.f0 M
   replace w:=w.f0 M
   replace x:=x.f0 M
   obtain⟨x4,aG,h⟩:=bs h
   refine le' (cq dH.lasts dH.one je yj J J J J J (js:=[6]) (Rr:=[ob v9,ob v5,ob b,ob i,L,q]) J y af (fun ap=>(Dj.sub (Dj.app (ap.q 5 J) (Dj.sub (Dj.app (Dj.app (Dj.sub (ap.q 2 J) iD) (Dj.sub (ap.q 3 J) iD)) (ap.q 4 J)) a8)) i2)) (fun ap=>(Dj.sub (Dj.app (Dj.sub (ap.q 2 J) iD) (Dj.sub (ap.q 3 J) iD)) (fun k hk=>(by simpa[gk] using hk:k∈((ob b++[])++(ob i++[])))))) aG) J ?_
   rintro v10 aH D9 ⟨⟨O,ah⟩,aI⟩
   replace A:=A.fr ah (O.q 1 J) (O.q 4 J)
   replace w:=w.fr ah (O.q 2 J) dN
   replace x:=x.fr ah (O.q 3 J) dN
   refine art 8 [] J ?_
   have r3:aD aH _ [iV s2,b,i] (⟨s2,B.Ids,B.Binds⟩:aj):=⟨b,i,J,J,w,x⟩
   obtain⟨aJ,aK,aL,P,aM⟩:=A.unfocusM r3 (aD.knows _ _ _ _ r3)
   refine wtL [aJ,ob v10,ob v9,ob v5,q] (smg [3,3,3] J (by simpa[gk,bH] using aL)) ?_
   exact lb [3,0,2,0] [0,0] (az (_,_,_,_,_,_,_) ⟨h,aI,(fun k hk=>((gb.1 hk).elim (fun h=>((gb.1 (i2 k h)).elim (fun h=>(gb.2 (.inl h))) (fun h=>((gb.1 (a8 k h)).elim (fun h=>((gb.1 h).elim (fun h=>(gb.2 (.inr ((fun k hk=>P k (gb.2 (.inl (gb.2 (.inl hk))))) k (iD k h))))) (fun h=>(gb.2 (.inr ((fun k hk=>P k (gb.2 (.inr (gb.2 (.inl hk))))) k (iD k h))))))) (fun h=>(gb.2 (.inr (aM k h)))))))) (fun h=>((gb.1 ((fun k hk=>(by simpa[gk] using hk:k∈((ob b++[])++(ob i++[])))) k h)).elim (fun h=>(gb.2 (.inr ((fun k hk=>P k (gb.2 (.inl (gb.2 (.inl hk))))) k (iD k h))))) (fun h=>(gb.2 (.inr ((fun k hk=>P k (gb.2 (.inr (gb.2 (.inl hk))))) k (iD k h))))))))),aK⟩)
  refine att 7 [] J<|wtL [(q++(D5)),ob v5,ob W] (smg [2,1] J (SP.eq (by simp[gk]))) ?_
  exact lb [0,1] [0,0] (au (_,_,_,_,_,_) ⟨h,y,(fun k hk=>((gb.1 (i2 k hk)).elim (fun h=>((fun k hk=>(gb.2 (.inl hk))) k h)) (fun h=>((fun k hk=>(gb.2 (.inr hk))) k h))))⟩)
 refine att 6 [] J ?_
 refine WT.ret hF (aA.one J) (fun I hw=>?_)
 cases h
 replace hw:=hw.merge (js:=[0]) (F:=[q].flatten) J (SP.eq MC)
 refine aW (js:=[1,0]) hw J ⟨U,D2,[q].flatten,J,J,H,(fun k hk=>(hR.2 ⟨q,MC,(K k hk)⟩))⟩
theorem ss (w0:av e d []) (G:(List aj)) (z:RSl dH 3 e a6 f G) {r:(List aj)} (h:li N G=some r) :
  Calls prog 74 [f].toArray w0.w (be d w0.w [] (fun aZ Fs v=>∃ (O:Value) (a8:List Nat),v=O∧Fs=[ob O,a8]∧OSl aD 63 3 aZ a8 O r)):=by
 refine eN func74 J ntmps74 J w0 fun hF=>?_
 unfold li at h
 refine atr 6 [] J ?_
 have b0:RC aD 3 d ([]:List (List Nat)) [] ([]:List aj):=RC.nil _ _ _
 refine le' (aQ (vs:=[]) (C:=#[]) aD.lasts je mm J J J J (ac AJ (ab)) J b0 J (by simpa using Kw.nil)) J ?_
 rintro v1 P D1 ⟨bC,h1⟩
 replace h1:OSl aD 63 3 P [] v1 ([]:List aj):=by simpa[gk] using h1
 refine WL.conv (S':=St w0 P [] [[],ob v1]) (fun k hw=>hw.addNil)<|art 8 [] J ?_
 refine lin (σ:=Hp × (List aj) × Value × List Nat × Int) (fun s=>[(0,f),(3,s.2.2.1),(4,iV s.2.2.2.2)]) (fun s=>St w0 s.1 [] [s.2.2.2.1,ob s.2.2.1]) (fun m s=>fo N G m s.2.1 s.2.2.2.2=some r∧(OSl aD 63 3 s.1 s.2.2.2.1 s.2.2.1 s.2.1)) (P,([]:List aj),v1,[],0) N ⟨h,h1⟩ (sx [0,0] []) (fun n1 b1 s hm=>?_)
 obtain⟨bD,s1,y,q,s2⟩:=s
 obtain⟨h,i⟩:=hm
 dsimp only at h i ⊢
 unfold fo at h
 refine atr 5 [] J<|lnr z J<|la J<|en ?_
 refine ch h J ?_ ?_ <;> intro h
 ·refine att 3 [] J ?_
  refine cut (σ:=Hp × (List aj) × Value × List Nat) (fun s=>[(0,f),(3,s.2.2.1),(4,iV s2)]) (fun s=>St w0 s.1 [] [s.2.2.2,ob s.2.2.1]) (fun s=>lO N s2 (fo N G n1) s.2.1=some r∧(OSl aD 63 3 s.1 s.2.2.2 s.2.2.1 s.2.1)) (fun s hm=>?_) (fun K=>?_)
  ·clear h
   obtain⟨bE,s3,u2,D9⟩:=s
   obtain⟨h,k2⟩:=hm
   dsimp only at h k2 ⊢
   unfold lO at h
   refine att 6 [] J ?_
   exact lb [0,0] [] (b1 (_,_,_,_,_) ⟨h,k2⟩)
  refine wm [] [] J<|amm 3 [0,1,2] [] J J ?_
  obtain⟨b,ad,h⟩:=bs h
  obtain⟨bF,F4,-,g4,bG,bI,r4⟩:=z.el (aa ad).2.2
  obtain⟨bJ,G7,bK,G8,rfl,rfl,bL,bM⟩:=r4
  refine mq 3 J MA (kN []) (ae je J J z ad) J<|amm 1 [4,0] [] J J<|mq 5 J MA (kN []) (az rd J (fun k hw=>(g4.of_eq 0 1 J J:rg _ _ _ [iV b.Rule]).rangeAt hw.1)) J<|amm 2 [7,8] [] J J ?_
  obtain⟨x8,af,h⟩:=bs h
  obtain⟨bN,F5,-,g5,bO,bP,r5⟩:=z.el (aa af).2.2
  obtain⟨b2,G9,v17,bQ,rfl,rfl,A,bR⟩:=r5
  refine mq 9 J MA (kN []) (ae je J J z af) J<|amm 1 [10,1] [] J J<|mq 11 J MA (kN []) (az lz J (fun k hw=>(g5.of_eq 1 1 J J:rg _ _ _ [b2]).rangeAt hw.1)) J<|amm 2 [14,15] [] J J ?_
  obtain⟨x9,ag,h⟩:=bs h
  obtain⟨bS,F6,-,g6,bT,bU,r6⟩:=z.el (aa ag).2.2
  obtain⟨bV,bW,b3,bX,rfl,rfl,bY,B⟩:=r6
  refine mq 16 J MA (kN []) (ae je J J z ag) J<|amm 1 [17,2] [] J J<|mq 18 J MA (kN []) (az Gx J (fun k hw=>(g6.of_eq 2 1 J J:rg _ _ _ [b3]).rangeAt hw.1)) J ?_
  refine WM.two 6 13 MA ?_ ?_
  ·refine me J (fun _ v t D k u hw=>Kn.of Kf.nil aN hw) (cO (R:=RI .i64) RI.lasts aY gF J J) J ?_
   rintro v20 bZ c0 ⟨b4,H⟩
   replace i:=i.f0 b4
   refine WM.two 12 13 MA ?_ ?_
   ·first | refine mu0 A fun ah=>?_ | refine iu0 A fun ah=>?_
    obtain⟨ai,b5,h⟩:=bs h
    refine me J (fun _ v t D k u hw=>Kn.of Kf.nil aN hw) (bg RI.lasts RI.one RI.flat aY jH J J J J J (js:=[0]) (Rr:=[q,ob y]) J H ah b5) J ?_
    rintro v21 c3 c4 ⟨⟨ak,b6⟩,E⟩
    replace i:=i.fr b6 (ak.q 1 J) (ak.q 0 J)
    refine WM.one 13 MA (me J (fun _ v t D k u hw=>Kn.of Kf.nil aN hw) (cO aB.lasts gJ oe J J) J ?_)
    rintro v22 c5 c6 ⟨al,b7⟩
    replace i:=i.f0 al
    replace E:=E.f0 al
    first | refine mu0 B fun an=>?_ | refine iu0 B fun an=>?_
    obtain⟨ao,b8,h⟩:=bs h
    refine WM.one 19 MA (me J (fun _ v t D k u hw=>Kn.of Kf.nil aN hw) (bg aB.lasts aB.one aB.flat gJ sV J J J J J (js:=[0]) (Rr:=[ob v21,q,ob y]) J b7 an b8) J ?_)
    rintro v23 b9 c7 ⟨⟨Q,aq⟩,ar⟩
    replace i:=i.fr aq (Q.q 2 J) (Q.q 1 J)
    replace E:=E.fr aq (Q.q 0 J) dN
    refine mq 20 J MA (kN []) (aU (vs:=[(0,iV b.Rule),(1,v21),(2,v23)]) (C:=#[iV b.Rule,v21,v23]) zR mm J (a7 (C':=[iV b.Rule,.slice none 0 0,.slice none 0 0]) J J J J J (a7 (C':=[iV b.Rule,v21,.slice none 0 0]) J (bh E.one) J J J (a7 (C':=[iV b.Rule,v21,v23]) J (bh ar.one) J J J (ab))))) J ?_
    have au:RC aD 3 b9 ([(ob v21++[])++((ob v23++[]))]:List (List Nat)) [iV b.Rule,v21,v23] ([(⟨b.Rule,ai,ao⟩:aj)]:List aj):=RC.cons (c:=[iV b.Rule,v21,v23]) (cells:=[]) ⟨v21,v23,J,J,E,ar⟩ J (RC.nil _ _ _)
    refine WM.one 21 MA (me J (fun _ v t D k u hw=>Kn.of Kf.nil aN hw) (aQ (vs:=[(0,.agg [iV b.Rule,v21,v23].toArray)]) (C:=#[iV b.Rule,v21,v23]) aD.lasts je mm J J J J (ac rI (a7 (C':=[iV b.Rule,v21,v23]) J J J J J (ab))) J au J (RC.kn aD.knows au)) J ?_)
    rintro v24 aw c8 ⟨ba,S⟩
    replace S:OSl aD 63 3 aw ((ob v21++[])++((ob v23++[]))) v24 ([(⟨b.Rule,ai,ao⟩:aj)]:List aj):=by simpa[gk] using S
    replace i:=i.f0 ba
    refine WM.conv (S':=St w0 aw [] [((ob v21++[])++((ob v23++[]))),ob v24,q,ob y]) (fun k hw=>hw.merge (js:=[2,1]) J (SP.eq (by simp[gk,bH]))) ?_
    obtain⟨c9,bb,h⟩:=bs h
    refine WM.one 22 MA (me J (fun _ v t D k u hw=>Kn.of Kf.nil aN hw) (cq aD.lasts aD.one je yj J J J J J (js:=[3]) (Rr:=[((ob v21++[])++((ob v23++[]))),ob v24,q]) J i S (fun ap=>ap.q 2 J) (fun ap=>ap.q 0 J) bb) J ?_)
    rintro v25 bc ca ⟨⟨cb,cc⟩,bd⟩
    refine WM.conv (S':=St w0 bc [] [(q++((ob v21++[])++((ob v23++[])))),ob v25,ob v24]) (fun k hw=>hw.merge (js:=[3,1]) J (SP.eq MC))<|amm 1 [23] [] J J<|WM.nil MA ?_
    exact wo [0,0] [] (K (_,_,_,_) ⟨h,bd⟩)
   refine me J (fun _ v t D k u hw=>Kn.of Kf.nil aN hw) (cO aB.lasts gJ oe J J) J ?_
   rintro v26 cd cf ⟨ax,T⟩
   replace i:=i.f0 ax
   replace H:=H.f0 ax
   first | refine mu0 A fun ay=>?_ | refine iu0 A fun ay=>?_
   obtain⟨aC,bf,h⟩:=bs h
   refine WM.one 12 MA (me J (fun _ v t D k u hw=>Kn.of Kf.nil aN hw) (bg RI.lasts RI.one RI.flat aY jH J J J J J (js:=[1]) (Rr:=[ob v26,q,ob y]) J H ay bf) J ?_)
   rintro w cg cj ⟨⟨U,aE⟩,I⟩
   replace i:=i.fr aE (U.q 2 J) (U.q 1 J)
   replace T:=T.fr aE (U.q 0 J) dN
   first | refine mu0 B fun aF=>?_ | refine iu0 B fun aF=>?_
   obtain⟨aG,bj,h⟩:=bs h
   refine WM.one 19 MA (me J (fun _ v t D k u hw=>Kn.of Kf.nil aN hw) (bg aB.lasts aB.one aB.flat gJ sV J J J J J (js:=[1]) (Rr:=[ob w,q,ob y]) J T aF bj) J ?_)
   rintro v28 bk ck ⟨⟨V,aH⟩,aI⟩
   replace i:=i.fr aH (V.q 2 J) (V.q 1 J)
   replace I:=I.fr aH (V.q 0 J) dN
   refine mq 20 J MA (kN []) (aU (vs:=[(0,iV b.Rule),(1,w),(2,v28)]) (C:=#[iV b.Rule,w,v28]) zR mm J (a7 (C':=[iV b.Rule,.slice none 0 0,.slice none 0 0]) J J J J J (a7 (C':=[iV b.Rule,w,.slice none 0 0]) J (bh I.one) J J J (a7 (C':=[iV b.Rule,w,v28]) J (bh aI.one) J J J (ab))))) J ?_
   have aJ:RC aD 3 bk ([(ob w++[])++((ob v28++[]))]:List (List Nat)) [iV b.Rule,w,v28] ([(⟨b.Rule,aC,aG⟩:aj)]:List aj):=RC.cons (c:=[iV b.Rule,w,v28]) (cells:=[]) ⟨w,v28,J,J,I,aI⟩ J (RC.nil _ _ _)
   refine WM.one 21 MA (me J (fun _ v t D k u hw=>Kn.of Kf.nil aN hw) (aQ (vs:=[(0,.agg [iV b.Rule,w,v28].toArray)]) (C:=#[iV b.Rule,w,v28]) aD.lasts je mm J J J J (ac rI (a7 (C':=[iV b.Rule,w,v28]) J J J J J (ab))) J aJ J (RC.kn aD.knows aJ)) J ?_)
   rintro L aK cm ⟨bl,W⟩
   replace W:OSl aD 63 3 aK ((ob w++[])++((ob v28++[]))) L ([(⟨b.Rule,aC,aG⟩:aj)]:List aj):=by simpa[gk] using W
   replace i:=i.f0 bl
   refine WM.conv (S':=St w0 aK [] [((ob w++[])++((ob v28++[]))),ob L,q,ob y]) (fun k hw=>hw.merge (js:=[2,1]) J (SP.eq (by simp[gk,bH]))) ?_
   obtain⟨cn,bm,h⟩:=bs h
   refine WM.one 22 MA (me J (fun _ v t D k u hw=>Kn.of Kf.nil aN hw) (cq aD.lasts aD.one je yj J J J J J (js:=[3]) (Rr:=[((ob w++[])++((ob v28++[]))),ob L,q]) J i W (fun ap=>ap.q 2 J) (fun ap=>ap.q 0 J) bm) J ?_)
   rintro v30 bn cp ⟨⟨cr,ct⟩,bo⟩
   refine WM.conv (S':=St w0 bn [] [(q++((ob w++[])++((ob v28++[])))),ob v30,ob L]) (fun k hw=>hw.merge (js:=[3,1]) J (SP.eq MC))<|amm 1 [23] [] J J<|WM.nil MA ?_
   exact wo [0,0] [] (K (_,_,_,_) ⟨h,bo⟩)
  refine me J (fun _ v t D k u hw=>Kn.of Kf.nil aN hw) (cO aB.lasts gJ oe J J) J ?_
  rintro v31 cu cv ⟨bp,F⟩
  replace i:=i.f0 bp
  refine WM.one 6 MA (me J (fun _ v t D k u hw=>Kn.of Kf.nil aN hw) (cO (R:=RI .i64) RI.lasts aY gF J J) J ?_)
  rintro v32 cw cx ⟨aL,bq⟩
  replace i:=i.f0 aL
  replace F:=F.f0 aL
  first | refine mu0 A fun aM=>?_ | refine iu0 A fun aM=>?_
  obtain⟨aO,br,h⟩:=bs h
  refine WM.one 12 MA (me J (fun _ v t D k u hw=>Kn.of Kf.nil aN hw) (bg RI.lasts RI.one RI.flat aY jH J J J J J (js:=[0]) (Rr:=[ob v31,q,ob y]) J bq aM br) J ?_)
  rintro v33 cy cz ⟨⟨X,aP⟩,M⟩
  replace i:=i.fr aP (X.q 2 J) (X.q 1 J)
  replace F:=F.fr aP (X.q 0 J) dN
  first | refine mu0 B fun aR=>?_ | refine iu0 B fun aR=>?_
  obtain⟨aS,bt,h⟩:=bs h
  refine WM.one 19 MA (me J (fun _ v t D k u hw=>Kn.of Kf.nil aN hw) (bg aB.lasts aB.one aB.flat gJ sV J J J J J (js:=[1]) (Rr:=[ob v33,q,ob y]) J F aR bt) J ?_)
  rintro x bu cA ⟨⟨Y,aT⟩,aV⟩
  replace i:=i.fr aT (Y.q 2 J) (Y.q 1 J)
  replace M:=M.fr aT (Y.q 0 J) dN
  refine mq 20 J MA (kN []) (aU (vs:=[(0,iV b.Rule),(1,v33),(2,x)]) (C:=#[iV b.Rule,v33,x]) zR mm J (a7 (C':=[iV b.Rule,.slice none 0 0,.slice none 0 0]) J J J J J (a7 (C':=[iV b.Rule,v33,.slice none 0 0]) J (bh M.one) J J J (a7 (C':=[iV b.Rule,v33,x]) J (bh aV.one) J J J (ab))))) J ?_
  have aW:RC aD 3 bu ([(ob v33++[])++((ob x++[]))]:List (List Nat)) [iV b.Rule,v33,x] ([(⟨b.Rule,aO,aS⟩:aj)]:List aj):=RC.cons (c:=[iV b.Rule,v33,x]) (cells:=[]) ⟨v33,x,J,J,M,aV⟩ J (RC.nil _ _ _)
  refine WM.one 21 MA (me J (fun _ v t D k u hw=>Kn.of Kf.nil aN hw) (aQ (vs:=[(0,.agg [iV b.Rule,v33,x].toArray)]) (C:=#[iV b.Rule,v33,x]) aD.lasts je mm J J J J (ac rI (a7 (C':=[iV b.Rule,v33,x]) J J J J J (ab))) J aW J (RC.kn aD.knows aW)) J ?_)
  rintro v35 aX cB ⟨bw,Z⟩
  replace Z:OSl aD 63 3 aX ((ob v33++[])++((ob x++[]))) v35 ([(⟨b.Rule,aO,aS⟩:aj)]:List aj):=by simpa[gk] using Z
  replace i:=i.f0 bw
  refine WM.conv (S':=St w0 aX [] [((ob v33++[])++((ob x++[]))),ob v35,q,ob y]) (fun k hw=>hw.merge (js:=[2,1]) J (SP.eq (by simp[gk,bH]))) ?_
  obtain⟨cC,bx,h⟩:=bs h
  refine WM.one 22 MA (me J (fun _ v t D k u hw=>Kn.of Kf.nil aN hw) (cq aD.lasts aD.one je yj J J J J J (js:=[3]) (Rr:=[((ob v33++[])++((ob x++[]))),ob v35,q]) J i Z (fun ap=>ap.q 2 J) (fun ap=>ap.q 0 J) bx) J ?_)
  rintro bz bA cD ⟨⟨cE,cF⟩,bB⟩
  refine WM.conv (S':=St w0 bA [] [(q++((ob v33++[])++((ob x++[])))),ob bz,ob v35]) (fun k hw=>hw.merge (js:=[3,1]) J (SP.eq MC))<|amm 1 [23] [] J J<|WM.nil MA ?_
  exact wo [0,0] [] (K (_,_,_,_) ⟨h,bB⟩)
 refine att 6 [] J ?_
 exact rtg [1,0] hF (aA.one J) J (by cases h;exact fun k hw=>⟨y,q,rfl,rfl,i⟩)
theorem uy (w0:av e d []) (p0:(List Int)) (m:RSl (RI .u8) 1 e a6 f p0) {r:(List aj) × (List aj)} (h:jg N p0=some r) :
  Calls prog 27 [f].toArray w0.w (be d w0.w [] (fun ax Fs v=>∃ (af:Value) (ay:List Nat) (ag:Value) (az:List Nat) (X:List Nat),v = .tuple #[af,ag]∧Fs=[ob af,ob ag,az,X]∧OSl dH 63 3 ax ay af r.1∧(∀ k∈ay,k∈X)∧OSl aD 63 3 ax az ag r.2)):=by
 refine eN func27 J ntmps27 J w0 fun hF=>?_
 unfold jg at h
 refine atr 8 [] J<|kab h J J J (fun b z q=>vd N b p0 (m.y z) q) ?_
 rintro U h v1 b8 F1 ⟨b9,bb,A,v2,G1,rfl,rfl,h1,u,h2⟩
 refine arr 5 [] J<|kcb [0] h J J J J (fun b ap z q=>pw N b U (h1.x (Dj.sub (ap.o m.old) u)) h2 q) ?_
 rintro x2 h v3 bc F2 ⟨aM,aN,v4,y,rfl,rfl,h3,e1,h4⟩
 replace h1:=h1.fr aN (Dj.sub (aM.o m.old) u)
 refine lnz sY J fun aO=>soN 0 sD J ⟨J,h3.one,trivial⟩ J ?_
 refine en<|sq<|wm [0] [] J<|amm 2 [0,2,1] [0] J J ?_
 obtain⟨x3,aP,h⟩:=bs h
 refine WM.one 2 MA (mc J (fun _ v aR D M hq hw=>Kn.of Kf.nil (am [0] J) hw) (bt (js:=[2]) (R:=[ob v4,y]) Kj J J (fun M hw ap hl=>z7 N (bx hw ap hl) (⟨U.b,x2.2.i,x2.2.h⟩:a8) (h1.x (Dj.sub (ap.o m.old) u)) h4  aP)) J ?_)
 rintro v5 bd F3 ⟨ah,aB,v6,D2,B,rfl,rfl,h5,i2,e2,h6⟩
 replace h1:=h1.fr aB (Dj.sub (ah.o m.old) u)
 replace h3:=h3.fr aB (ah.q 0 J) (ah.q 1 J)
 obtain⟨x5,aS,h⟩:=bs h
 refine WM.one 3 MA (mc J (fun _ v aR D M hq hw=>Kn.of Kf.nil (am [0] J) hw) (bt (js:=[]) (R:=[ob v6,[A],B,ob v4,y]) JA J J (fun M hw ap hl=>yK N (ba hw.fro) x2.1 x3.1 (h3.rslG dM.gives) h5.rsl  aS)) J ?_)
 rintro w bf F4 ⟨aC,aE,v8,D3,t,rfl,rfl,i,i3⟩
 replace h1:=h1.fr aE (Dj.sub (aC.o m.old) u)
 replace h6:=aE _ _ ((aC.q 1 J) _ MC) h6
 refine amm 1 [4] [0] J J<|WM.nil MA<|atr 4 [] J<|kcb [3] h J J J J (fun b ap z q=>cj N b (⟨U.b,x3.2.i,x3.2.h⟩:a8) 2 (h1.x (Dj.sub (ap.o m.old) u)) h6 q) ?_
 rintro x7 h v9 bh F5 ⟨ai,aF,rfl,rfl,e3,h8⟩
 replace h1:=h1.fr aF (Dj.sub (ai.o m.old) u)
 replace i:=i.fr aF (ai.q 0 J) (Dj.sub (ai.q 1 J) i3)
 refine en ?_
 refine ch h J ?_ ?_ <;> intro h
 ·refine atr 4 [] J<|kab h J J J (fun b z q=>ss N b x5 i.rsl q) ?_
  rintro x8 h v10 bj F6 ⟨aG,aT,v11,D4,rfl,rfl,h9⟩
  replace i:=i.fr aT (aG.q 1 J) (Dj.sub (aG.q 2 J) i3)
  refine art 3 [] J ?_
  refine WT.ret hF (aA.two J J) (fun M hw=>?_)
  cases h
  replace hw:=hw.merge (js:=[4]) (F:=[t].flatten) J (SP.eq MC)
  refine aW (js:=[4,1,1,0]) hw J ⟨w,D3,v10,D4,[t].flatten,J,J,i,(fun k hk=>(hR.2 ⟨t,MC,(i3 k hk)⟩)),h9⟩
 refine atr 4 [] J<|kab h J J J (fun b z q=>ss N b x5 i.rsl q) ?_
 rintro x9 h v12 bk F7 ⟨aa,ak,bl,D5,rfl,rfl,O⟩
 replace h1:=h1.fr ak (Dj.sub (aa.o m.old) u)
 replace i:=i.fr ak (aa.q 1 J) (Dj.sub (aa.q 2 J) i3)
 replace h8:=ak _ _ ((aa.q 0 J) _ MC) h8
 refine arr 6 [] J<|lno O J<|la J<|en ?_
 refine cut (σ:=Hp × (List aj) × Value × List Nat) (fun s=>[(6,w),(7,s.2.2.1)]) (fun s=>St w0 s.1 [] [ob s.2.2.1,s.2.2.2,ob w,t]) (fun s=>dL N x5 s.2.1=some r∧(OSl dH 63 3 s.1 D3 w x5)∧(OSl aD 63 3 s.1 s.2.2.2 s.2.2.1 s.2.1)) (fun s hm=>?_) (fun K=>?_)
 ·clear h
  obtain⟨bm,s1,u1,D6⟩:=s
  obtain⟨h,i,k1⟩:=hm
  dsimp only at h i k1 ⊢
  unfold dL at h
  refine att 7 [] J ?_
  refine WT.ret hF (aA.two J J) (fun M hw=>?_)
  cases h
  replace hw:=hw.merge (js:=[3]) (F:=[t].flatten) J (SP.eq MC)
  refine aW (js:=[3,1,1,0]) hw J ⟨w,D3,u1,D6,[t].flatten,J,J,i,(fun k hk=>(hR.2 ⟨t,MC,(i3 k hk)⟩)),k1⟩
 refine ch h J ?_ ?_ <;> intro h
 ·refine atr 4 [] J<|lno O J<|kcb [2] h J J J J (fun b ap z q=>aJ N b (⟨U.b,x7.2.i,x7.2.h⟩:a8) (x9.length:Int) (h1.x (Dj.sub (ap.o m.old) u)) h8 q) ?_
  rintro al h bn aU F8 ⟨V,an,rfl,rfl,e4,H⟩
  replace h1:=h1.fr an (Dj.sub (V.o m.old) u)
  replace i:=i.fr an (V.q 2 J) (Dj.sub (V.q 3 J) i3)
  replace O:=O.fr an (V.q 0 J) (V.q 1 J)
  refine arr 8 [] J ?_
  obtain⟨P,ao,h⟩:=bs h
  obtain⟨bo,F9,D7,E,r1,bp,aV⟩:=O.focus ao
  obtain⟨aH,G,rfl,rfl,aq,x⟩:=r1
  refine wlL [ob aH,ob G,D7,[A],ob v12,ob w,t,ob v6,B,ob v4,y] (sre [2] [ob aH,ob G,D7] J (by simpa[gk] using aV))<|lih E ao J<|lf Ba J J J<|lgx 1 0 E.rg J ?_
  have aX:RC (RI .i64) 1 aU ([[]]:List (List Nat)) [iV 1] ([1]:List Int):=RC.cons (c:=[iV 1]) (cells:=[]) ⟨J,J⟩ J (RC.nil _ _ _)
  refine le' (aQ (vs:=[(0,iV 1)]) (C:=#[iV 1]) RI.lasts aY gF J J J J (ac ij (a7 (C':=[iV 1]) J J J J J (ab))) J aX J (by simpa using Kw.nil)) J ?_
  rintro v17 aZ D8 ⟨Q,ar⟩
  replace ar:OSl (RI .i64) 3 1 aZ [] v17 ([1]:List Int):=by simpa using ar
  replace h1:=h1.f0 Q
  replace i:=i.f0 Q
  replace E:=E.f0 Q
  replace aq:=aq.f0 Q
  replace x:=x.f0 Q
  replace H:=Q _ _ MC H
  obtain⟨aI,b0,h⟩:=bs h
  refine le' (bg RI.lasts RI.one RI.flat aY jH J J J J J (js:=[1]) (Rr:=[ob v17,ob G,D7,[A],ob v12,ob w,t,ob v6,B,ob v4,y]) J aq ar.rsl b0) J ?_
  rintro W bq D9 ⟨⟨I,Y⟩,L⟩
  replace h1:=h1.fr Y (Dj.sub (I.o m.old) u)
  replace i:=i.fr Y (I.q 5 J) (Dj.sub (I.q 6 J) i3)
  replace E:=E.fr Y (I.q 4 J) (I.q 2 J)
  replace x:=x.fr Y (I.q 1 J) dN
  replace H:=Y _ _ ((I.q 3 J) _ MC) H
  refine lih E ao J<|lf Ba J J J<|lu (us [5] [ob W,ob v17,ob G,D7,[A],ob w,t,ob v6,B,ob v4,y] 1 aD.lasts qU J J L.one J E J (fun ap=>ap.q 3 J)) J ?_
  rintro br bu ⟨⟨S,Z⟩,ad⟩
  replace h1:=h1.fr Z (Dj.sub (S.o m.old) u)
  replace i:=i.fr Z (S.q 5 J) (Dj.sub (S.q 6 J) i3)
  replace L:=L.fr Z (S.q 0 J) dN
  replace x:=x.fr Z (S.q 2 J) dN
  replace H:=Z _ _ ((S.q 4 J) _ MC) H
  refine arr 4 [] J<|kcb [5] h J J J J (fun b ap z q=>cj N b (⟨U.b,al.2.i,al.2.h⟩:a8) 2 (h1.x (Dj.sub (ap.o m.old) u)) H q) ?_
  rintro bw h bz au bA ⟨T,ae,rfl,rfl,e5,bB⟩
  replace i:=i.fr ae (T.q 5 J) (Dj.sub (T.q 6 J) i3)
  replace ad:=ad.fr ae (T.q 0 J) (T.q 4 J)
  replace L:=L.fr ae (T.q 1 J) dN
  replace x:=x.fr ae (T.q 3 J) dN
  refine en ?_
  refine ch h J ?_ ?_ <;> intro h
  ·refine atr 3 [] J ?_
   have r2:aD au _ [iV P.Rule,W,G] (⟨P.Rule,aI,P.Binds⟩:aj):=⟨W,G,J,J,L,x⟩
   obtain⟨b1,aK,b2⟩:=ad.unfocus r2 (aD.knows _ _ _ _ r2)
   refine wlL [b1,[A],ob v12,ob v17,ob w,t,ob v6,B,ob v4,y] (smg [2,3,3] J (by simpa[gk,bH] using b2)) ?_
   obtain⟨bC,aL,h⟩:=bs h
   refine lq (zt je J J (aK.rslG aD.gives) aL) J ?_
   obtain⟨aw,b3,b4,e6⟩:=aK.pre aL
   refine wlL [aw,[A],ob v12,ob v17,ob w,t,ob v6,B,ob v4,y] (sre [0] [aw] J (by simpa using b4))<|WL.conv (S':=St w0 au [(aO,.cells #[.string x2.1.Name,v4] 26 (0,0))] [aw,[A],ob (slc v12 0 al.1.toNat 3),ob v17,ob w,t,ob v6,B,ob v4,y]) (fun M hw=>by first | simpa only[e6,List.cons_append,List.nil_append] using hw | (simp only[e6];exact hw))<|la J<|en ?_
   exact wo [2,0,2,2] [] (K (_,_,_,_) ⟨h,i,b3⟩)
  refine WT.skip ?_
  have r3:aD au _ [iV P.Rule,W,G] (⟨P.Rule,aI,P.Binds⟩:aj):=⟨W,G,J,J,L,x⟩
  obtain⟨b5,b6,b7⟩:=ad.unfocus r3 (aD.knows _ _ _ _ r3)
  refine wtL [b5,[A],ob v12,ob v17,ob w,t,ob v6,B,ob v4,y] (smg [2,3,3] J (by simpa[gk,bH] using b7)) ?_
  exact wo [2,0,2,2] [] (K (_,_,_,_) ⟨h,i,b6⟩)
 refine WT.skip ?_
 exact wo [0,0,1,1] [] (K (_,_,_,_) ⟨h,i,O⟩)
theorem vZ (w0:av e d []) (i:(List aq)) (k:(List aq)) (q:RSl aB 4 e a6 f i) (t:RSl aB 4 e pG1 p k) {r:Bool} (h:jo N i k=some r) :
  CB w0 prog 29 [f,p] (.bool r):=by
 refine eN func29 J ntmps29 J w0 fun u=>?_
 unfold jo at h
 refine atr 8 [] J<|lnr q J<|la J<|lnr t J<|la J<|en ?_
 refine ch h J ?_ ?_ <;> intro h
 ·refine att 4 [] J ?_
  exact rt u h
 refine att 7 [] J ?_
 refine lin (σ:=Int) (fun s=>[(0,f),(1,p),(5,iV s)]) (fun s=>St w0 d [] []) (fun m s=>eI N i k m s=some r) (0) N h (sx [] []) (fun x y s hm=>?_)
 revert hm;revert s;intro s1 hm
 have h:eI N i k (x+1) s1=some r:=hm
 show WT _ _ [(0,f),(1,p),(5,iV s1)] (St w0 d [] [])
 unfold eI at h
 refine atr 5 [] J<|lnr q J<|la J<|en ?_
 refine ch h J ?_ ?_ <;> intro h
 ·refine att 4 [] J<|WT.draw mixed MA (fun _ h=>h.drew)<|aqq 2 [] J ?_
  obtain⟨b,v,h⟩:=bs h
  obtain⟨C,D,-,g1,E,F,z⟩:=q.el (aa v).2.2
  obtain⟨rfl,-⟩:=z
  refine qq (ae gJ J J q v) J<|qq (aC DW J (fun A hw=>(g1.of_eq 0 4 J J:rg _ _ _ [.string b.Name,iV b.V.K,iV b.V.N,.string b.V.S]).rangeAt hw.in0) J) J<|aqq 2 [] J ?_
  obtain⟨c,w,h⟩:=bs h
  obtain⟨G,H,-,g2,I,K,B⟩:=t.el (aa w).2.2
  obtain⟨rfl,-⟩:=B
  refine qq (ae gJ J J t w) J<|qq (aC DW J (fun A hw=>(g2.of_eq 0 4 J J:rg _ _ _ [.string c.Name,iV c.V.K,iV c.V.N,.string c.V.S]).rangeAt hw.in0) J) J<|qq (sW Gt J J J (r:=oG b c) J) J<|WQ.nil ?_
  refine ch h J ?_ ?_ <;> intro h
  ·refine att 4 [] J ?_
   exact rt u h
  refine att 7 [] J ?_
  exact lb [] [] (y _ h)
 refine att 5 [] J ?_
 exact rt u h
theorem Az (w0:av e d [[a]].flatten) (w:a8) (G:RSl (RI .u8) 1 e l g w.b) (aE:d a=some (.cells #[g,iV w.i,iV w.h] 144 (0,0))) {r:au × a8} (h:qS N w=some r) :
  Calls prog 155 [pQ a].toArray w0.w (be d w0.w [[a]].flatten (fun ai Fs v=>∃ (X:Value),v = .agg [.string r.1.Kind,X,.bool r.1.Not].toArray∧Fs=[ob X,[a]]∧OSl bV 171 5 ai [] X r.1.Args∧r.2.b=w.b∧ai a=some (.cells #[g,iV r.2.i,iV r.2.h] 144 (0,0)))):=by
 refine eL func155 J ntmps155 J (L:=[[a]]) w0 (fun hF=>?_)
 unfold qS at h
 refine sr<|lnz jB J fun Q=>arr 5 [] J<|kcb [0] h J J J J (fun b ap z q=>cj N b w 3 (G.y z) aE q) ?_
 rintro Y h v1 bE F1 ⟨bF,bG,rfl,rfl,e1,h1⟩
 refine kcb [0] h J J J J (fun b ap z q=>qF N b (⟨w.b,Y.2.i,Y.2.h⟩:a8) Y.1 (G.y z) h1 q) ?_
 rintro E h v2 bH F2 ⟨bI,bJ,v3,rfl,rfl,k,e2,h3⟩
 refine lnz jB J fun S=>soN 0 o1 J ⟨J,k.one,J,trivial⟩ J ?_
 refine arr 5 [] J<|kcb [1] h J J J J (fun b ap z q=>aJ N b (⟨w.b,E.2.i,E.2.h⟩:a8) 10 (G.y z) h3 q) ?_
 rintro P h v4 Z F3 ⟨aF,aG,rfl,rfl,e3,O⟩
 replace k:=k.fr aG (aF.q 0 J) dN
 refine art 7 [] J ?_
 refine cut (σ:=Hp × (List bn) × Value × Int × Int × ByteArray) (fun s=>[(2,pQ Q),(3,pQ S)]) (fun s=>St w0 s.1 [(S,.cells #[.string s.2.2.2.2.2,s.2.2.1,.bool E.1.Not] 201 (0,0)),(Q,.cells #[.string (⟨#[]⟩:ByteArray),.slice none 0 0,.bool false] 201 (0,0))] [[a],ob s.2.2.1]) (fun s=>kr N w E s.2.1 s.2.2.2.1 s.2.2.2.2.1 s.2.2.2.2.2=some r∧(OSl bV 171 5 s.1 [] s.2.2.1 s.2.1)∧(s.1 a=some (.cells #[g,iV s.2.2.2.1,iV s.2.2.2.2.1] 144 (0,0)))) (fun s hm=>?_) (fun K=>?_)
 ·clear h
  obtain⟨bK,s1,u1,s2,s3,s4⟩:=s
  obtain⟨h,k1,k2⟩:=hm
  dsimp only at h k1 k2 ⊢
  unfold kr at h
  refine atr 4 [3] J<|soN 1 o1 J ⟨J,k1.one,J,trivial⟩ J ?_
  refine en ?_
  exact rtg [1,0] hF (aA.one (aZ sm J (fun u hw=>hw.rgO (i:=1) J 0 3 [.string s4,u1,.bool E.1.Not] J) J)) J (by cases h;exact fun u hw=>⟨u1,rfl,rfl,k1,rfl,k2⟩)
 refine ch h J ?_ ?_ <;> intro h
 ·refine atr 2 [] J ?_
  have aH:RC RS 1 Z ([[],[],[]]:List (List Nat)) [.string (⟨#[]⟩:ByteArray),.string (⟨#[65]⟩:ByteArray),.string (⟨#[120]⟩:ByteArray)] ([(⟨#[]⟩:ByteArray),(⟨#[65]⟩:ByteArray),(⟨#[120]⟩:ByteArray)]:List ByteArray):=RC.cons (c:=[.string (⟨#[]⟩:ByteArray)]) (cells:=[.string (⟨#[65]⟩:ByteArray),.string (⟨#[120]⟩:ByteArray)]) ⟨J,J⟩ J (RC.cons (c:=[.string (⟨#[65]⟩:ByteArray)]) (cells:=[.string (⟨#[120]⟩:ByteArray)]) ⟨J,J⟩ J (RC.cons (c:=[.string (⟨#[120]⟩:ByteArray)]) (cells:=[]) ⟨J,J⟩ J (RC.nil _ _ _)))
  refine le' (aQ (vs:=[(0,.string (⟨#[]⟩:ByteArray)),(1,.string (⟨#[65]⟩:ByteArray)),(2,.string (⟨#[120]⟩:ByteArray))]) (C:=#[.string (⟨#[]⟩:ByteArray),.string (⟨#[65]⟩:ByteArray),.string (⟨#[120]⟩:ByteArray)]) RS.lasts eE ot J J J J (ac sX (a7 (C':=[.string (⟨#[]⟩:ByteArray),.string ⟨#[]⟩,.string ⟨#[]⟩]) J J J J J (a7 (C':=[.string (⟨#[]⟩:ByteArray),.string (⟨#[65]⟩:ByteArray),.string ⟨#[]⟩]) J J J J J (a7 (C':=[.string (⟨#[]⟩:ByteArray),.string (⟨#[65]⟩:ByteArray),.string (⟨#[120]⟩:ByteArray)]) J J J J J (ab))))) J aH J (by simpa using Kw.nil)) J ?_
  rintro v5 aI D1 ⟨aj,h5⟩
  replace h5:OSl RS 9 1 aI [] v5 ([(⟨#[]⟩:ByteArray),(⟨#[65]⟩:ByteArray),(⟨#[120]⟩:ByteArray)]:List ByteArray):=by simpa using h5
  replace k:=k.f0 aj
  replace O:=aj _ _ MC O
  refine kcb [1] h J J J J (fun b ap z q=>bT N b (⟨w.b,P.2.i,P.2.h⟩:a8) ([(⟨#[]⟩:ByteArray),(⟨#[65]⟩:ByteArray),(⟨#[120]⟩:ByteArray)]:List ByteArray) (G.y z) O (h5.rsl.x (Dj.app (ap.q 0 J) dN)) q) ?_
  rintro x4 h v6 bL F4 ⟨aK,aL,rfl,rfl,e4,h6⟩
  replace k:=k.fr aL (aK.q 1 J) dN
  refine lf Ed J J J<|so1 0 Be J J ?_
  refine en ?_
  exact wo [0,1] [0,0] (K (_,_,_,_,_,_) ⟨h,k,h6⟩)
 refine att 5 [] J ?_
 refine ch h J ?_ ?_ <;> intro h
 ·refine cut (σ:=Hp × (List bn) × Value × Int × Int) (fun s=>[(2,pQ Q),(3,pQ S)]) (fun s=>St w0 s.1 [(S,.cells #[.string E.1.Kind,s.2.2.1,.bool E.1.Not] 201 (0,0)),(Q,.cells #[.string (⟨#[]⟩:ByteArray),.slice none 0 0,.bool false] 201 (0,0))] [ob s.2.2.1,[a]]) (fun s=>rQ N w E s.2.1 s.2.2.2.1 s.2.2.2.2=some r∧(OSl bV 171 5 s.1 [] s.2.2.1 s.2.1)∧(s.1 a=some (.cells #[g,iV s.2.2.2.1,iV s.2.2.2.2] 144 (0,0)))) (fun s hm=>?_) (fun K=>?_)
  ·clear h
   obtain⟨bM,s5,u2,s6,s7⟩:=s
   obtain⟨h,k3,k4⟩:=hm
   dsimp only at h k3 k4 ⊢
   unfold rQ at h
   exact wo [1,0] [0,0] (K (_,_,_,_,_,_) ⟨h,k3,k4⟩)
  refine wm [0,1] [11] J<|amm 4 [0,1,1,0,2,4] [0,1] J J ?_
  refine WM.two 3 5 MA ?_ ?_
  ·obtain⟨x,aM,h⟩:=bs h
   refine mc J (fun _ v y D u A hw=>Kn.of Kf.nil (ai2 0 1 J J) hw) (bt (js:=[0]) (R:=[ob v3]) ud J J (fun u hw ap F=>aJ N (bx hw ap F) (⟨w.b,P.2.i,P.2.h⟩:a8) 5 (G.y (hw.uo ap)) O  aM)) J ?_
   rintro v12 aN F7 ⟨aO,aP,rfl,rfl,e7,aa⟩
   replace k:=k.fr aP (aO.q 0 J) dN
   have aR:RC RS 1 aN ([[],[],[]]:List (List Nat)) [.string (⟨#[]⟩:ByteArray),.string (⟨#[120]⟩:ByteArray),.string (⟨#[88]⟩:ByteArray)] ([(⟨#[]⟩:ByteArray),(⟨#[120]⟩:ByteArray),(⟨#[88]⟩:ByteArray)]:List ByteArray):=RC.cons (c:=[.string (⟨#[]⟩:ByteArray)]) (cells:=[.string (⟨#[120]⟩:ByteArray),.string (⟨#[88]⟩:ByteArray)]) ⟨J,J⟩ J (RC.cons (c:=[.string (⟨#[120]⟩:ByteArray)]) (cells:=[.string (⟨#[88]⟩:ByteArray)]) ⟨J,J⟩ J (RC.cons (c:=[.string (⟨#[88]⟩:ByteArray)]) (cells:=[]) ⟨J,J⟩ J (RC.nil _ _ _)))
   refine WM.one 5 MA (me J (fun _ v y D u A hw=>Kn.of Kf.nil (ai2 0 1 J J) hw) (aQ (vs:=[(0,.string (⟨#[]⟩:ByteArray)),(1,.string (⟨#[120]⟩:ByteArray)),(2,.string (⟨#[88]⟩:ByteArray))]) (C:=#[.string (⟨#[]⟩:ByteArray),.string (⟨#[120]⟩:ByteArray),.string (⟨#[88]⟩:ByteArray)]) RS.lasts eE ot J J J J (ac sX (a7 (C':=[.string (⟨#[]⟩:ByteArray),.string ⟨#[]⟩,.string ⟨#[]⟩]) J J J J J (a7 (C':=[.string (⟨#[]⟩:ByteArray),.string (⟨#[120]⟩:ByteArray),.string ⟨#[]⟩]) J J J J J (a7 (C':=[.string (⟨#[]⟩:ByteArray),.string (⟨#[120]⟩:ByteArray),.string (⟨#[88]⟩:ByteArray)]) J J J J J (ab))))) J aR J (by simpa using Kw.nil)) J ?_)
   rintro ad aS D5 ⟨ak,ae⟩
   replace ae:OSl RS 9 1 aS [] ad ([(⟨#[]⟩:ByteArray),(⟨#[120]⟩:ByteArray),(⟨#[88]⟩:ByteArray)]:List ByteArray):=by simpa using ae
   replace k:=k.f0 ak
   replace aa:=ak _ _ MC aa
   obtain⟨H,aT,h⟩:=bs h
   refine WM.one 6 MA (mc J (fun _ v y D u A hw=>Kn.of Kf.nil (ai2 0 1 J J) hw) (bt (js:=[1]) (R:=[ob ad,ob v3]) CA J J (fun u hw ap F=>bT N (bx hw ap F) (⟨w.b,x.2.i,x.2.h⟩:a8) ([(⟨#[]⟩:ByteArray),(⟨#[120]⟩:ByteArray),(⟨#[88]⟩:ByteArray)]:List ByteArray) (G.y (hw.uo ap)) aa (ae.rsl.x (Dj.app (ap.q 0 J) dN))  aT)) J ?_)
   rintro bN aV F8 ⟨aW,aX,rfl,rfl,e8,T⟩
   replace k:=k.fr aX (aW.q 1 J) dN
   refine mq 7 J MA (kN [0,1]) (aU (vs:=[(0,iV x.1),(1,.string H.1)]) (C:=#[iV x.1,.string H.1,iV 0,iV 0,.string (⟨#[]⟩:ByteArray)]) sK fS J (a7 (C':=[iV x.1,.string ⟨#[]⟩,iV 0,iV 0,.string ⟨#[]⟩]) J J J J J (a7 (C':=[iV x.1,.string H.1,iV 0,iV 0,.string ⟨#[]⟩]) J J J J J (ab)))) J ?_
   have aY:RC bV 5 aV ([[]]:List (List Nat)) [iV x.1,.string H.1,iV 0,iV 0,.string (⟨#[]⟩:ByteArray)] ([(⟨x.1,H.1,(⟨0,0,(⟨#[]⟩:ByteArray)⟩:bi)⟩:bn)]:List bn):=RC.cons (c:=[iV x.1,.string H.1,iV 0,iV 0,.string (⟨#[]⟩:ByteArray)]) (cells:=[]) ⟨J,J⟩ J (RC.nil _ _ _)
   refine WM.one 8 MA (me J (fun _ v y D u A hw=>Kn.of Kf.nil (ai2 0 1 J J) hw) (aQ (vs:=[(0,.agg [iV x.1,.string H.1,iV 0,iV 0,.string (⟨#[]⟩:ByteArray)].toArray)]) (C:=#[iV x.1,.string H.1,iV 0,iV 0,.string (⟨#[]⟩:ByteArray)]) bV.lasts nY fS J J J J (ac vn (a7 (C':=[iV x.1,.string H.1,iV 0,iV 0,.string (⟨#[]⟩:ByteArray)]) J J J J J (ab))) J aY J (by simpa using Kw.nil)) J ?_)
   rintro al b0 D6 ⟨an,af⟩
   replace af:OSl bV 171 5 b0 [] al ([(⟨x.1,H.1,(⟨0,0,(⟨#[]⟩:ByteArray)⟩:bi)⟩:bn)]:List bn):=by simpa using af
   replace k:=k.f0 an
   replace T:=an _ _ MC T
   obtain⟨bO,b1,h⟩:=bs h
   refine WM.one 9 MA (me J (fun _ v y D u A hw=>Kn.of Kf.nil (ai2 0 1 J J) hw) (bg bV.lasts bV.one bV.flat nY AY J J J J J (js:=[3]) (Rr:=[ob al,[a],ob ad]) J k af.rsl b1) J ?_)
   rintro bP bQ D7 ⟨⟨b2,b3⟩,ao⟩
   replace T:=b3 _ _ ((b2.q 1 J) _ MC) T
   refine amm 1 [10,1] [0,1] J J ?_
   refine on1 11 (ms1 0 J nk AK J ao.one ?_)
   refine WM.nil MA ?_
   exact wo [0,1] [0,0] (K (_,_,_,_,_) ⟨h,ao,T⟩)
  have b4:RC RS 1 Z ([[],[],[]]:List (List Nat)) [.string (⟨#[]⟩:ByteArray),.string (⟨#[120]⟩:ByteArray),.string (⟨#[88]⟩:ByteArray)] ([(⟨#[]⟩:ByteArray),(⟨#[120]⟩:ByteArray),(⟨#[88]⟩:ByteArray)]:List ByteArray):=RC.cons (c:=[.string (⟨#[]⟩:ByteArray)]) (cells:=[.string (⟨#[120]⟩:ByteArray),.string (⟨#[88]⟩:ByteArray)]) ⟨J,J⟩ J (RC.cons (c:=[.string (⟨#[120]⟩:ByteArray)]) (cells:=[.string (⟨#[88]⟩:ByteArray)]) ⟨J,J⟩ J (RC.cons (c:=[.string (⟨#[88]⟩:ByteArray)]) (cells:=[]) ⟨J,J⟩ J (RC.nil _ _ _)))
  refine me J (fun _ v y D u A hw=>Kn.of Kf.nil (ai2 0 1 J J) hw) (aQ (vs:=[(0,.string (⟨#[]⟩:ByteArray)),(1,.string (⟨#[120]⟩:ByteArray)),(2,.string (⟨#[88]⟩:ByteArray))]) (C:=#[.string (⟨#[]⟩:ByteArray),.string (⟨#[120]⟩:ByteArray),.string (⟨#[88]⟩:ByteArray)]) RS.lasts eE ot J J J J (ac sX (a7 (C':=[.string (⟨#[]⟩:ByteArray),.string ⟨#[]⟩,.string ⟨#[]⟩]) J J J J J (a7 (C':=[.string (⟨#[]⟩:ByteArray),.string (⟨#[120]⟩:ByteArray),.string ⟨#[]⟩]) J J J J J (a7 (C':=[.string (⟨#[]⟩:ByteArray),.string (⟨#[120]⟩:ByteArray),.string (⟨#[88]⟩:ByteArray)]) J J J J J (ab))))) J b4 J (by simpa using Kw.nil)) J ?_
  rintro v17 b5 D8 ⟨aq,U⟩
  replace U:OSl RS 9 1 b5 [] v17 ([(⟨#[]⟩:ByteArray),(⟨#[120]⟩:ByteArray),(⟨#[88]⟩:ByteArray)]:List ByteArray):=by simpa using U
  replace k:=k.f0 aq
  replace O:=aq _ _ MC O
  obtain⟨B,b6,h⟩:=bs h
  refine WM.one 3 MA (mc J (fun _ v y D u A hw=>Kn.of Kf.nil (ai2 0 1 J J) hw) (bt (js:=[1]) (R:=[ob v17,ob v3]) ud J J (fun u hw ap F=>aJ N (bx hw ap F) (⟨w.b,P.2.i,P.2.h⟩:a8) 5 (G.y (hw.uo ap)) O  b6)) J ?_)
  rintro bR bS F9 ⟨ar,aw,rfl,rfl,e9,b7⟩
  replace k:=k.fr aw (ar.q 1 J) dN
  replace U:=U.fr aw (ar.q 0 J) dN
  obtain⟨I,b8,h⟩:=bs h
  refine WM.one 6 MA (mc J (fun _ v y D u A hw=>Kn.of Kf.nil (ai2 0 1 J J) hw) (bt (js:=[0]) (R:=[ob v17,ob v3]) CA J J (fun u hw ap F=>bT N (bx hw ap F) (⟨w.b,B.2.i,B.2.h⟩:a8) ([(⟨#[]⟩:ByteArray),(⟨#[120]⟩:ByteArray),(⟨#[88]⟩:ByteArray)]:List ByteArray) (G.y (hw.uo ap)) b7 (U.rsl.x (Dj.app (ap.q 0 J) dN))  b8)) J ?_)
  rintro bU b9 bW ⟨ba,bb,rfl,rfl,bX,V⟩
  replace k:=k.fr bb (ba.q 1 J) dN
  refine mq 7 J MA (kN [0,1]) (aU (vs:=[(0,iV B.1),(1,.string I.1)]) (C:=#[iV B.1,.string I.1,iV 0,iV 0,.string (⟨#[]⟩:ByteArray)]) sK fS J (a7 (C':=[iV B.1,.string ⟨#[]⟩,iV 0,iV 0,.string ⟨#[]⟩]) J J J J J (a7 (C':=[iV B.1,.string I.1,iV 0,iV 0,.string ⟨#[]⟩]) J J J J J (ab)))) J ?_
  have bc:RC bV 5 b9 ([[]]:List (List Nat)) [iV B.1,.string I.1,iV 0,iV 0,.string (⟨#[]⟩:ByteArray)] ([(⟨B.1,I.1,(⟨0,0,(⟨#[]⟩:ByteArray)⟩:bi)⟩:bn)]:List bn):=RC.cons (c:=[iV B.1,.string I.1,iV 0,iV 0,.string (⟨#[]⟩:ByteArray)]) (cells:=[]) ⟨J,J⟩ J (RC.nil _ _ _)
  refine WM.one 8 MA (me J (fun _ v y D u A hw=>Kn.of Kf.nil (ai2 0 1 J J) hw) (aQ (vs:=[(0,.agg [iV B.1,.string I.1,iV 0,iV 0,.string (⟨#[]⟩:ByteArray)].toArray)]) (C:=#[iV B.1,.string I.1,iV 0,iV 0,.string (⟨#[]⟩:ByteArray)]) bV.lasts nY fS J J J J (ac vn (a7 (C':=[iV B.1,.string I.1,iV 0,iV 0,.string (⟨#[]⟩:ByteArray)]) J J J J J (ab))) J bc J (by simpa using Kw.nil)) J ?_)
  rintro v20 bd D9 ⟨ax,ag⟩
  replace ag:OSl bV 171 5 bd [] v20 ([(⟨B.1,I.1,(⟨0,0,(⟨#[]⟩:ByteArray)⟩:bi)⟩:bn)]:List bn):=by simpa using ag
  replace k:=k.f0 ax
  replace V:=ax _ _ MC V
  obtain⟨bY,bf,h⟩:=bs h
  refine WM.one 9 MA (me J (fun _ v y D u A hw=>Kn.of Kf.nil (ai2 0 1 J J) hw) (bg bV.lasts bV.one bV.flat nY AY J J J J J (js:=[3]) (Rr:=[ob v20,[a],ob v17]) J k ag.rsl bf) J ?_)
  rintro v21 bZ c0 ⟨⟨bh,bj⟩,ay⟩
  replace V:=bj _ _ ((bh.q 1 J) _ MC) V
  refine amm 1 [10,1] [0,1] J J ?_
  refine on1 11 (ms1 0 J nk AK J ay.one ?_)
  refine WM.nil MA ?_
  exact wo [0,1] [0,0] (K (_,_,_,_,_) ⟨h,ay,V⟩)
 refine att 5 [] J ?_
 refine ch h J ?_ ?_ <;> intro h
 ·refine blk ?_
  refine lin (σ:=Hp × (List bn) × Value × Int × Int) (fun s=>[(0,pQ a),(2,pQ Q),(3,pQ S)]) (fun s=>St w0 s.1 [(S,.cells #[.string E.1.Kind,s.2.2.1,.bool E.1.Not] 201 (0,0)),(Q,.cells #[.string (⟨#[]⟩:ByteArray),.slice none 0 0,.bool false] 201 (0,0))] [[a],ob s.2.2.1]) (fun m s=>kf N w E m s.2.1 s.2.2.2.1 s.2.2.2.2=some r∧(OSl bV 171 5 s.1 [] s.2.2.1 s.2.1)∧(s.1 a=some (.cells #[g,iV s.2.2.2.1,iV s.2.2.2.2] 144 (0,0)))) (Z,E.1.Args,v3,P.2.i,P.2.h) N ⟨h,k,O⟩ (sx [0,0] [0,0]) (fun n3 bk s hm=>?_)
  obtain⟨c3,s8,u3,s9,bl⟩:=s
  obtain⟨h,M,k6⟩:=hm
  dsimp only at h M k6 ⊢
  unfold kf at h
  refine sq<|sq<|wm [0,1] [] J<|amm 2 [0,1,1,0] [0,1] J J<|mq 2 J MA (kN [0,1]) (mF nY J J M.rsl) J<|amm 1 [3] [0,1] J J ?_
  obtain⟨az,bm,h⟩:=bs h
  refine WM.one 4 MA (mc J (fun _ v y D u A hw=>Kn.of Kf.nil (ai2 0 1 J J) hw) (bt (js:=[0]) (R:=[ob u3]) ud J J (fun u hw ap F=>aJ N (bx hw ap F) (⟨w.b,s9,bl⟩:a8) 2 (G.y (hw.uo ap)) k6  bm)) J ?_)
  rintro v22 c4 c5 ⟨bo,bp,rfl,rfl,c6,aB⟩
  replace M:=M.fr bp (bo.q 0 J) dN
  refine amm 2 [5,6] [0,1] J J<|WM.nil MA ?_
  refine ch h J ?_ ?_ <;> intro h
  ·refine att 2 [] J<|wm [0,1] [7] J<|amm 3 [0,1,1,0,2] [0,1] J J ?_
   obtain⟨t,bq,h⟩:=bs h
   refine WM.one 3 MA (mc J (fun _ v y D u A hw=>Kn.of Kf.nil (ai2 0 1 J J) hw) (bt (js:=[0]) (R:=[ob u3]) wO J J (fun u hw ap F=>m8 N (bx hw ap F) (⟨w.b,az.2.i,az.2.h⟩:a8) (G.y (hw.uo ap)) aB  bq)) J ?_)
   rintro v23 br c7 ⟨bu,bw,rfl,rfl,c8,W⟩
   replace M:=M.fr bw (bu.q 0 J) dN
   have bz:RC bV 5 br ([[]]:List (List Nat)) [iV t.1.K,.string t.1.S,iV t.1.V.K,iV t.1.V.N,.string t.1.V.S] ([t.1]:List bn):=RC.cons (c:=[iV t.1.K,.string t.1.S,iV t.1.V.K,iV t.1.V.N,.string t.1.V.S]) (cells:=[]) ⟨J,J⟩ J (RC.nil _ _ _)
   refine WM.one 4 MA (me J (fun _ v y D u A hw=>Kn.of Kf.nil (ai2 0 1 J J) hw) (aQ (vs:=[(0,.agg [iV t.1.K,.string t.1.S,iV t.1.V.K,iV t.1.V.N,.string t.1.V.S].toArray)]) (C:=#[iV t.1.K,.string t.1.S,iV t.1.V.K,iV t.1.V.N,.string t.1.V.S]) bV.lasts nY fS J J J J (ac vn (a7 (C':=[iV t.1.K,.string t.1.S,iV t.1.V.K,iV t.1.V.N,.string t.1.V.S]) J J J J J (ab))) J bz J (by simpa using Kw.nil)) J ?_)
   rintro v24 bA c9 ⟨aC,ah⟩
   replace ah:OSl bV 171 5 bA [] v24 ([t.1]:List bn):=by simpa using ah
   replace M:=M.f0 aC
   replace W:=aC _ _ MC W
   obtain⟨ca,bB,h⟩:=bs h
   refine WM.one 5 MA (me J (fun _ v y D u A hw=>Kn.of Kf.nil (ai2 0 1 J J) hw) (bg bV.lasts bV.one bV.flat nY AY J J J J J (js:=[2]) (Rr:=[ob v24,[a]]) J M ah.rsl bB) J ?_)
   rintro v25 cb cc ⟨⟨bC,bD⟩,aD⟩
   replace W:=bD _ _ ((bC.q 1 J) _ MC) W
   refine amm 1 [6,1] [0,1] J J ?_
   refine on1 7 (ms1 0 J nk AK J aD.one ?_)
   refine WM.nil MA<|ib ?_
   exact lb [2,0] [0,0] (bk (_,_,_,_,_) ⟨h,aD,W⟩)
  refine xt J ?_
  exact wo [0,0] [0,0] (K (_,_,_,_,_,_) ⟨h,M,aB⟩)
 refine WT.skip ?_
 exact wo [0,0] [0,0] (K (_,_,_,_,_,_) ⟨h,k,O⟩)
theorem AD (w0:av e d [[a]].flatten) (c:a8) (m:RSl (RI .u8) 1 e l g c.b) (B:d a=some (.cells #[g,iV c.i,iV c.h] 144 (0,0))) {r:ce × a8} (h:qT N c=some r) :
  Calls prog 156 [pQ a].toArray w0.w (be d w0.w [[a]].flatten (fun D Fs v=>v = .agg [iV r.1.Op,iV r.1.L.K,.string r.1.L.S,iV r.1.L.V.K,iV r.1.L.V.N,.string r.1.L.V.S,iV r.1.R.K,.string r.1.R.S,iV r.1.R.V.K,iV r.1.R.V.N,.string r.1.R.V.S].toArray∧Fs=[[a]]∧r.2.b=c.b∧D a=some (.cells #[g,iV r.2.i,iV r.2.h] 144 (0,0)))):=by
 refine eL func156 J ntmps156 J (L:=[[a]]) w0 (fun E=>?_)
 unfold qT at h
 refine sr<|lnz qw J fun w=>arr 4 [] J<|kcb [0] h J J J J (fun b ap z q=>tY N b c (m.y z) B q) ?_
 rintro x h v1 Y Z ⟨aa,ad,rfl,rfl,e1,h1⟩
 refine lnz qw J fun y=>soN 0 vu J ⟨J,J,J,J,J,J,J,J,J,J,J,trivial⟩ J ?_
 refine arr 5 [] J<|kcb [0] h J J J J (fun b ap z q=>aJ N b (⟨c.b,x.2.i,x.2.h⟩:a8) 8 (m.y z) h1 q) ?_
 rintro k h v2 ae F2 ⟨af,ag,rfl,rfl,e2,t⟩
 refine art 7 [] J ?_
 refine cut (σ:=Hp × Int × Int × Int × Int × ByteArray × Int × Int × ByteArray × Int × ByteArray × Int × Int × ByteArray) (fun s=>[(2,pQ w),(3,pQ y)]) (fun s=>St w0 s.1 [(y,.cells #[iV s.2.2.2.1,iV s.2.2.2.2.1,.string s.2.2.2.2.2.1,iV s.2.2.2.2.2.2.1,iV s.2.2.2.2.2.2.2.1,.string s.2.2.2.2.2.2.2.2.1,iV s.2.2.2.2.2.2.2.2.2.1,.string s.2.2.2.2.2.2.2.2.2.2.1,iV s.2.2.2.2.2.2.2.2.2.2.2.1,iV s.2.2.2.2.2.2.2.2.2.2.2.2.1,.string s.2.2.2.2.2.2.2.2.2.2.2.2.2] 173 (0,0)),(w,.cells #[iV 0,iV 0,.string (⟨#[]⟩:ByteArray),iV 0,iV 0,.string (⟨#[]⟩:ByteArray),iV 0,.string (⟨#[]⟩:ByteArray),iV 0,iV 0,.string (⟨#[]⟩:ByteArray)] 173 (0,0))] [[a]]) (fun s=>ki N c s.2.1 s.2.2.1 s.2.2.2.1 s.2.2.2.2.1 s.2.2.2.2.2.1 s.2.2.2.2.2.2.1 s.2.2.2.2.2.2.2.1 s.2.2.2.2.2.2.2.2.1 s.2.2.2.2.2.2.2.2.2.1 s.2.2.2.2.2.2.2.2.2.2.1 s.2.2.2.2.2.2.2.2.2.2.2.1 s.2.2.2.2.2.2.2.2.2.2.2.2.1 s.2.2.2.2.2.2.2.2.2.2.2.2.2=some r∧(s.1 a=some (.cells #[g,iV s.2.1,iV s.2.2.1] 144 (0,0)))) (fun s hm=>?_) (fun K=>?_)
 ·clear h
  obtain⟨ah,s1,s2,F,G,H,I,M,O,P,Q,R,S,T⟩:=s
  obtain⟨h,A⟩:=hm
  dsimp only at h A ⊢
  unfold ki at h
  refine atr 4 [11] J<|soN 1 vu J ⟨J,J,J,J,J,J,J,J,J,J,J,trivial⟩ J ?_
  refine en ?_
  exact rtg [0] E (aA.one (aZ He J (fun U hw=>hw.rgO (i:=1) J 0 11 [iV F,iV G,.string H,iV I,iV M,.string O,iV P,.string Q,iV R,iV S,.string T] J) J)) J (by cases h;exact fun U hw=>⟨rfl,rfl,rfl,A⟩)
 refine ch h J ?_ ?_ <;> intro h
 ·refine atr 2 [] J<|kcb [0] h J J J J (fun b ap z q=>aJ N b (⟨c.b,k.2.i,k.2.h⟩:a8) 6 (m.y z) t q) ?_
  rintro x3 h v3 ai F3 ⟨aj,ak,rfl,rfl,e3,V⟩
  refine lf Ev J J J<|so1 0 vv J J ?_
  refine en ?_
  exact wo [0] [0,0] (K (_,_,_,_,_,_,_,_,_,_,_,_,_,_) ⟨h,V⟩)
 refine att 5 [] J ?_
 refine ch h J ?_ ?_ <;> intro h
 ·refine atr 2 [] J<|kcb [0] h J J J J (fun b ap z q=>m8 N b (⟨c.b,k.2.i,k.2.h⟩:a8) (m.y z) t q) ?_
  rintro x4 h v4 al F4 ⟨an,ao,rfl,rfl,e4,W⟩
  refine lf vG J J J<|soN 0 gL J ⟨J,J,J,J,J,trivial⟩ J ?_
  refine en ?_
  exact wo [0] [0,0] (K (_,_,_,_,_,_,_,_,_,_,_,_,_,_) ⟨h,W⟩)
 refine att 5 [] J ?_
 refine ch h J ?_ ?_ <;> intro h
 ·refine atr 2 [] J<|kcb [0] h J J J J (fun b ap z q=>aJ N b (⟨c.b,k.2.i,k.2.h⟩:a8) 5 (m.y z) t q) ?_
  rintro u h v5 aq F5 ⟨ar,au,rfl,rfl,e5,X⟩
  refine lq (aU (vs:=[(0,iV u.1)]) (C:=#[iV u.1,.string (⟨#[]⟩:ByteArray),iV 0,iV 0,.string (⟨#[]⟩:ByteArray)]) sK fS J (a7 (C':=[iV u.1,.string ⟨#[]⟩,iV 0,iV 0,.string ⟨#[]⟩]) J J J J J (ab))) J<|lf w4 J J J<|soN 0 gL J ⟨J,J,J,J,J,trivial⟩ J ?_
  refine en ?_
  exact wo [0] [0,0] (K (_,_,_,_,_,_,_,_,_,_,_,_,_,_) ⟨h,X⟩)
 refine WT.skip ?_
 exact wo [0] [0,0] (K (_,_,_,_,_,_,_,_,_,_,_,_,_,_) ⟨h,t⟩)
theorem Ay (w0:av e d [[a]].flatten) (t:a8) (A:RSl (RI .u8) 1 e l g t.b) (aj:d a=some (.cells #[g,iV t.i,iV t.h] 144 (0,0))) {r:cA × a8} (h:rz N t=some r) :
  Calls prog 157 [pQ a].toArray w0.w (be d w0.w [[a]].flatten (fun U Fs v=>∃ (I:Value),v = .agg [iV r.1.Kind,.string r.1.Name,I,iV r.1.N,.string r.1.Undo].toArray∧Fs=[ob I,[a]]∧OSl bW 216 11 U [] I r.1.Args∧r.2.b=t.b∧U a=some (.cells #[g,iV r.2.i,iV r.2.h] 144 (0,0)))):=by
 refine eL func157 J ntmps157 J (L:=[[a]]) w0 (fun hF=>?_)
 unfold rz at h
 refine sr<|lnz pe J fun V=>arr 4 [] J<|kcb [0] h J J J J (fun b ap z q=>u6 N b t 2 (A.y z) aj q) ?_
 rintro W h v1 b5 F1 ⟨b6,b7,v2,rfl,rfl,h1,e1,h2⟩
 refine lnz pe J fun X=>soN 0 rX J ⟨J,J,h1.one,J,J,trivial⟩ J ?_
 refine arr 5 [] J<|kcb [1] h J J J J (fun b ap z q=>aJ N b (⟨t.b,W.2.i,W.2.h⟩:a8) 10 (A.y z) h2 q) ?_
 rintro x h v3 H F2 ⟨ak,al,rfl,rfl,e2,u⟩
 replace h1:=h1.fr al (ak.q 0 J) dN
 refine art 7 [] J ?_
 refine cut (σ:=Hp × (List bY) × Value × Int × Int × Int × ByteArray × Int × ByteArray) (fun s=>[(2,pQ V),(3,pQ X)]) (fun s=>St w0 s.1 [(X,.cells #[iV s.2.2.2.2.2.1,.string s.2.2.2.2.2.2.1,s.2.2.1,iV s.2.2.2.2.2.2.2.1,.string s.2.2.2.2.2.2.2.2] 213 (0,0)),(V,.cells #[iV 0,.string (⟨#[]⟩:ByteArray),.slice none 0 0,iV 0,.string (⟨#[]⟩:ByteArray)] 213 (0,0))] [[a],ob s.2.2.1]) (fun s=>hJ N t s.2.1 s.2.2.2.1 s.2.2.2.2.1 s.2.2.2.2.2.1 s.2.2.2.2.2.2.1 s.2.2.2.2.2.2.2.1 s.2.2.2.2.2.2.2.2=some r∧(OSl bW 216 11 s.1 [] s.2.2.1 s.2.1)∧(s.1 a=some (.cells #[g,iV s.2.2.2.1,iV s.2.2.2.2.1] 144 (0,0)))) (fun s hm=>?_) (fun K=>?_)
 ·clear h
  obtain⟨b8,s1,Y,s2,s3,s4,s5,s6,s7⟩:=s
  obtain⟨h,M,Z⟩:=hm
  dsimp only at h M Z ⊢
  unfold hJ at h
  refine atr 4 [5] J<|soN 1 rX J ⟨J,J,M.one,J,J,trivial⟩ J ?_
  refine en ?_
  exact rtg [1,0] hF (aA.one (aZ ym J (fun y hw=>hw.rgO (i:=1) J 0 5 [iV s4,.string s5,Y,iV s6,.string s7] J) J)) J (by cases h;exact fun y hw=>⟨Y,rfl,rfl,M,rfl,Z⟩)
 refine ch h J ?_ ?_ <;> intro h
 ·refine atr 2 [] J<|kcb [0] h J J J J (fun b ap z q=>aJ N b (⟨t.b,x.2.i,x.2.h⟩:a8) 8 (A.y z) u q) ?_
  rintro x3 h v4 b9 F3 ⟨an,ao,rfl,rfl,e3,h4⟩
  replace h1:=h1.fr ao (an.q 0 J) dN
  refine lf zK J J J<|so1 0 vv J J ?_
  refine en ?_
  exact wo [0,0] [0,0] (K (_,_,_,_,_,_,_,_,_) ⟨h,h1,h4⟩)
 refine att 5 [] J ?_
 refine ch h J ?_ ?_ <;> intro h
 ·refine atr 2 [] J ?_
  have aq:RC RS 1 H ([[],[],[]]:List (List Nat)) [.string (⟨#[]⟩:ByteArray),.string (⟨#[65]⟩:ByteArray),.string (⟨#[120]⟩:ByteArray)] ([(⟨#[]⟩:ByteArray),(⟨#[65]⟩:ByteArray),(⟨#[120]⟩:ByteArray)]:List ByteArray):=RC.cons (c:=[.string (⟨#[]⟩:ByteArray)]) (cells:=[.string (⟨#[65]⟩:ByteArray),.string (⟨#[120]⟩:ByteArray)]) ⟨J,J⟩ J (RC.cons (c:=[.string (⟨#[65]⟩:ByteArray)]) (cells:=[.string (⟨#[120]⟩:ByteArray)]) ⟨J,J⟩ J (RC.cons (c:=[.string (⟨#[120]⟩:ByteArray)]) (cells:=[]) ⟨J,J⟩ J (RC.nil _ _ _)))
  refine le' (aQ (vs:=[(0,.string (⟨#[]⟩:ByteArray)),(1,.string (⟨#[65]⟩:ByteArray)),(2,.string (⟨#[120]⟩:ByteArray))]) (C:=#[.string (⟨#[]⟩:ByteArray),.string (⟨#[65]⟩:ByteArray),.string (⟨#[120]⟩:ByteArray)]) RS.lasts eE ot J J J J (ac sX (a7 (C':=[.string (⟨#[]⟩:ByteArray),.string ⟨#[]⟩,.string ⟨#[]⟩]) J J J J J (a7 (C':=[.string (⟨#[]⟩:ByteArray),.string (⟨#[65]⟩:ByteArray),.string ⟨#[]⟩]) J J J J J (a7 (C':=[.string (⟨#[]⟩:ByteArray),.string (⟨#[65]⟩:ByteArray),.string (⟨#[120]⟩:ByteArray)]) J J J J J (ab))))) J aq J (by simpa using Kw.nil)) J ?_
  rintro v5 ar D1 ⟨aa,O⟩
  replace O:OSl RS 9 1 ar [] v5 ([(⟨#[]⟩:ByteArray),(⟨#[65]⟩:ByteArray),(⟨#[120]⟩:ByteArray)]:List ByteArray):=by simpa using O
  replace h1:=h1.f0 aa
  replace u:=aa _ _ MC u
  refine kcb [1] h J J J J (fun b ap z q=>bT N b (⟨t.b,x.2.i,x.2.h⟩:a8) ([(⟨#[]⟩:ByteArray),(⟨#[65]⟩:ByteArray),(⟨#[120]⟩:ByteArray)]:List ByteArray) (A.y z) u (O.rsl.x (Dj.app (ap.q 0 J) dN)) q) ?_
  rintro x4 h v6 ba F4 ⟨au,aw,rfl,rfl,e4,h6⟩
  replace h1:=h1.fr aw (au.q 1 J) dN
  refine lf A7 J J J<|so1 0 Be J J ?_
  refine en ?_
  exact wo [0,1] [0,0] (K (_,_,_,_,_,_,_,_,_) ⟨h,h1,h6⟩)
 refine att 5 [] J ?_
 refine ch h J ?_ ?_ <;> intro h
 ·refine atr 2 [] J ?_
  have ax:RC (RI .i64) 1 H ([[],[],[],[]]:List (List Nat)) [iV (-1),iV 7,iV 8,iV 100001] ([(-1),7,8,100001]:List Int):=RC.cons (c:=[iV (-1)]) (cells:=[iV 7,iV 8,iV 100001]) ⟨J,J⟩ J (RC.cons (c:=[iV 7]) (cells:=[iV 8,iV 100001]) ⟨J,J⟩ J (RC.cons (c:=[iV 8]) (cells:=[iV 100001]) ⟨J,J⟩ J (RC.cons (c:=[iV 100001]) (cells:=[]) ⟨J,J⟩ J (RC.nil _ _ _))))
  refine le' (aQ (vs:=[(0,iV (-1)),(1,iV 7),(2,iV 8),(3,iV 100001)]) (C:=#[iV (-1),iV 7,iV 8,iV 100001]) RI.lasts aY gF J J J J (ac GX (a7 (C':=[iV (-1),iV 0,iV 0,iV 0]) J J J J J (a7 (C':=[iV (-1),iV 7,iV 0,iV 0]) J J J J J (a7 (C':=[iV (-1),iV 7,iV 8,iV 0]) J J J J J (a7 (C':=[iV (-1),iV 7,iV 8,iV 100001]) J J J J J (ab)))))) J ax J (by simpa using Kw.nil)) J ?_
  rintro v7 ay D2 ⟨ad,P⟩
  replace P:OSl (RI .i64) 3 1 ay [] v7 ([(-1),7,8,100001]:List Int):=by simpa using P
  replace h1:=h1.f0 ad
  replace u:=ad _ _ MC u
  refine kcb [1] h J J J J (fun b ap z q=>lS N b (⟨t.b,x.2.i,x.2.h⟩:a8) ([(-1),7,8,100001]:List Int) (A.y z) u (P.rsl.x (Dj.app (ap.q 0 J) dN)) q) ?_
  rintro x5 h v8 bb F5 ⟨az,aB,rfl,rfl,e5,h8⟩
  replace h1:=h1.fr aB (az.q 1 J) dN
  refine lf tl J J J<|so1 0 vv J J ?_
  refine en ?_
  exact wo [0,1] [0,0] (K (_,_,_,_,_,_,_,_,_) ⟨h,h1,h8⟩)
 refine att 5 [] J ?_
 refine ch h J ?_ ?_ <;> intro h
 ·refine atr 2 [] J ?_
  have aC:RC RS 1 H ([[],[],[]]:List (List Nat)) [.string (⟨#[]⟩:ByteArray),.string (⟨#[65]⟩:ByteArray),.string (⟨#[120]⟩:ByteArray)] ([(⟨#[]⟩:ByteArray),(⟨#[65]⟩:ByteArray),(⟨#[120]⟩:ByteArray)]:List ByteArray):=RC.cons (c:=[.string (⟨#[]⟩:ByteArray)]) (cells:=[.string (⟨#[65]⟩:ByteArray),.string (⟨#[120]⟩:ByteArray)]) ⟨J,J⟩ J (RC.cons (c:=[.string (⟨#[65]⟩:ByteArray)]) (cells:=[.string (⟨#[120]⟩:ByteArray)]) ⟨J,J⟩ J (RC.cons (c:=[.string (⟨#[120]⟩:ByteArray)]) (cells:=[]) ⟨J,J⟩ J (RC.nil _ _ _)))
  refine le' (aQ (vs:=[(0,.string (⟨#[]⟩:ByteArray)),(1,.string (⟨#[65]⟩:ByteArray)),(2,.string (⟨#[120]⟩:ByteArray))]) (C:=#[.string (⟨#[]⟩:ByteArray),.string (⟨#[65]⟩:ByteArray),.string (⟨#[120]⟩:ByteArray)]) RS.lasts eE ot J J J J (ac sX (a7 (C':=[.string (⟨#[]⟩:ByteArray),.string ⟨#[]⟩,.string ⟨#[]⟩]) J J J J J (a7 (C':=[.string (⟨#[]⟩:ByteArray),.string (⟨#[65]⟩:ByteArray),.string ⟨#[]⟩]) J J J J J (a7 (C':=[.string (⟨#[]⟩:ByteArray),.string (⟨#[65]⟩:ByteArray),.string (⟨#[120]⟩:ByteArray)]) J J J J J (ab))))) J aC J (by simpa using Kw.nil)) J ?_
  rintro v9 aD D3 ⟨ae,Q⟩
  replace Q:OSl RS 9 1 aD [] v9 ([(⟨#[]⟩:ByteArray),(⟨#[65]⟩:ByteArray),(⟨#[120]⟩:ByteArray)]:List ByteArray):=by simpa using Q
  replace h1:=h1.f0 ae
  replace u:=ae _ _ MC u
  refine kcb [1] h J J J J (fun b ap z q=>bT N b (⟨t.b,x.2.i,x.2.h⟩:a8) ([(⟨#[]⟩:ByteArray),(⟨#[65]⟩:ByteArray),(⟨#[120]⟩:ByteArray)]:List ByteArray) (A.y z) u (Q.rsl.x (Dj.app (ap.q 0 J) dN)) q) ?_
  rintro x6 h v10 bc F6 ⟨aE,aF,rfl,rfl,e6,aG⟩
  replace h1:=h1.fr aF (aE.q 1 J) dN
  refine lf A5 J J J<|so1 0 Be J J ?_
  refine en ?_
  exact wo [0,1] [0,0] (K (_,_,_,_,_,_,_,_,_) ⟨h,h1,aG⟩)
 refine att 5 [] J ?_
 refine ch h J ?_ ?_ <;> intro h
 ·refine wm [0,1] [13] J<|amm 5 [0,2,1,0,2,5,7] [0,1] J J ?_
  have aH:RC RS 1 H ([[],[]]:List (List Nat)) [.string (⟨#[]⟩:ByteArray),.string (⟨#[42]⟩:ByteArray)] ([(⟨#[]⟩:ByteArray),(⟨#[42]⟩:ByteArray)]:List ByteArray):=RC.cons (c:=[.string (⟨#[]⟩:ByteArray)]) (cells:=[.string (⟨#[42]⟩:ByteArray)]) ⟨J,J⟩ J (RC.cons (c:=[.string (⟨#[42]⟩:ByteArray)]) (cells:=[]) ⟨J,J⟩ J (RC.nil _ _ _))
  refine WM.one 3 MA (me J (fun _ v B D y E hw=>Kn.of Kf.nil (ai2 0 1 J J) hw) (aQ (vs:=[(0,.string (⟨#[]⟩:ByteArray)),(1,.string (⟨#[42]⟩:ByteArray))]) (C:=#[.string (⟨#[]⟩:ByteArray),.string (⟨#[42]⟩:ByteArray)]) RS.lasts eE ot J J J J (ac vJ (a7 (C':=[.string (⟨#[]⟩:ByteArray),.string ⟨#[]⟩]) J J J J J (a7 (C':=[.string (⟨#[]⟩:ByteArray),.string (⟨#[42]⟩:ByteArray)]) J J J J J (ab)))) J aH J (by simpa using Kw.nil)) J ?_)
  rintro v11 aI D4 ⟨af,S⟩
  replace S:OSl RS 9 1 aI [] v11 ([(⟨#[]⟩:ByteArray),(⟨#[42]⟩:ByteArray)]:List ByteArray):=by simpa using S
  replace h1:=h1.f0 af
  replace u:=af _ _ MC u
  obtain⟨w,aK,h⟩:=bs h
  refine WM.one 4 MA (mc J (fun _ v B D y E hw=>Kn.of Kf.nil (ai2 0 1 J J) hw) (bt (js:=[1]) (R:=[ob v11,ob v2]) CA J J (fun y hw ap F=>bT N (bx hw ap F) (⟨t.b,x.2.i,x.2.h⟩:a8) ([(⟨#[]⟩:ByteArray),(⟨#[42]⟩:ByteArray)]:List ByteArray) (A.y (hw.uo ap)) u (S.rsl.x (Dj.app (ap.q 0 J) dN))  aK)) J ?_)
  rintro v12 bd F7 ⟨aL,aM,rfl,rfl,e7,aN⟩
  replace h1:=h1.fr aM (aL.q 1 J) dN
  obtain⟨k,aO,h⟩:=bs h
  refine WM.one 6 MA (mc J (fun _ v B D y E hw=>Kn.of Kf.nil (ai2 0 1 J J) hw) (bt (js:=[0]) (R:=[ob v11,ob v2]) wO J J (fun y hw ap F=>m8 N (bx hw ap F) (⟨t.b,w.2.i,w.2.h⟩:a8) (A.y (hw.uo ap)) aN  aO)) J ?_)
  rintro bf bh F8 ⟨aP,aR,rfl,rfl,e8,aS⟩
  replace h1:=h1.fr aR (aP.q 1 J) dN
  obtain⟨m,aT,h⟩:=bs h
  refine WM.one 8 MA (mc J (fun _ v B D y E hw=>Kn.of Kf.nil (ai2 0 1 J J) hw) (bt (js:=[0]) (R:=[ob v11,ob v2]) wO J J (fun y hw ap F=>m8 N (bx hw ap F) (⟨t.b,k.2.i,k.2.h⟩:a8) (A.y (hw.uo ap)) aS  aT)) J ?_)
  rintro bj aV F9 ⟨aW,aX,rfl,rfl,e9,G⟩
  replace h1:=h1.fr aX (aW.q 1 J) dN
  refine mq 9 J MA (kN [0,1]) (aU (vs:=[(0,.string w.1),(1,.agg [iV k.1.K,.string k.1.S,iV k.1.V.K,iV k.1.V.N,.string k.1.V.S].toArray),(2,.agg [iV m.1.K,.string m.1.S,iV m.1.V.K,iV m.1.V.N,.string m.1.V.S].toArray)]) (C:=#[.string w.1,iV k.1.K,.string k.1.S,iV k.1.V.K,iV k.1.V.N,.string k.1.V.S,iV m.1.K,.string m.1.S,iV m.1.V.K,iV m.1.V.N,.string m.1.V.S]) FM sP J (a7 (C':=[.string w.1,iV 0,.string ⟨#[]⟩,iV 0,iV 0,.string ⟨#[]⟩,iV 0,.string ⟨#[]⟩,iV 0,iV 0,.string ⟨#[]⟩]) J J J J J (a7 (C':=[.string w.1,iV k.1.K,.string k.1.S,iV k.1.V.K,iV k.1.V.N,.string k.1.V.S,iV 0,.string ⟨#[]⟩,iV 0,iV 0,.string ⟨#[]⟩]) J J J J J (a7 (C':=[.string w.1,iV k.1.K,.string k.1.S,iV k.1.V.K,iV k.1.V.N,.string k.1.V.S,iV m.1.K,.string m.1.S,iV m.1.V.K,iV m.1.V.N,.string m.1.V.S]) J J J J J (ab))))) J ?_
  have b0:RC bW 11 aV ([[]]:List (List Nat)) [.string w.1,iV k.1.K,.string k.1.S,iV k.1.V.K,iV k.1.V.N,.string k.1.V.S,iV m.1.K,.string m.1.S,iV m.1.V.K,iV m.1.V.N,.string m.1.V.S] ([(⟨w.1,k.1,m.1⟩:bY)]:List bY):=RC.cons (c:=[.string w.1,iV k.1.K,.string k.1.S,iV k.1.V.K,iV k.1.V.N,.string k.1.V.S,iV m.1.K,.string m.1.S,iV m.1.V.K,iV m.1.V.N,.string m.1.V.S]) (cells:=[]) ⟨J,J⟩ J (RC.nil _ _ _)
  refine WM.one 10 MA (me J (fun _ v B D y E hw=>Kn.of Kf.nil (ai2 0 1 J J) hw) (aQ (vs:=[(0,.agg [.string w.1,iV k.1.K,.string k.1.S,iV k.1.V.K,iV k.1.V.N,.string k.1.V.S,iV m.1.K,.string m.1.S,iV m.1.V.K,iV m.1.V.N,.string m.1.V.S].toArray)]) (C:=#[.string w.1,iV k.1.K,.string k.1.S,iV k.1.V.K,iV k.1.V.N,.string k.1.V.S,iV m.1.K,.string m.1.S,iV m.1.V.K,iV m.1.V.N,.string m.1.V.S]) bW.lasts sI sP J J J J (ac Bg (a7 (C':=[.string w.1,iV k.1.K,.string k.1.S,iV k.1.V.K,iV k.1.V.N,.string k.1.V.S,iV m.1.K,.string m.1.S,iV m.1.V.K,iV m.1.V.N,.string m.1.V.S]) J J J J J (ab))) J b0 J (by simpa using Kw.nil)) J ?_)
  rintro ag b1 D5 ⟨ah,T⟩
  replace T:OSl bW 216 11 b1 [] ag ([(⟨w.1,k.1,m.1⟩:bY)]:List bY):=by simpa using T
  replace h1:=h1.f0 ah
  replace G:=ah _ _ MC G
  obtain⟨bk,b2,h⟩:=bs h
  refine WM.one 11 MA (me J (fun _ v B D y E hw=>Kn.of Kf.nil (ai2 0 1 J J) hw) (bg bW.lasts bW.one bW.flat sI Ge J J J J J (js:=[3]) (Rr:=[ob ag,[a],ob v11]) J h1 T.rsl b2) J ?_)
  rintro bl bm D6 ⟨⟨b3,b4⟩,ai⟩
  replace G:=b4 _ _ ((b3.q 1 J) _ MC) G
  refine amm 1 [12,2] [0,1] J J ?_
  refine on1 13 (ms1 0 J nk Hm J ai.one ?_)
  refine WM.nil MA ?_
  exact wo [2,0] [0,0] (K (_,_,_,_,_,_,_,_,_) ⟨h,ai,G⟩)
 refine WT.skip ?_
 exact wo [0,0] [0,0] (K (_,_,_,_,_,_,_,_,_) ⟨h,h1,u⟩)
end Go.Proofs.YtedmfnmbjglmbaaGreat
