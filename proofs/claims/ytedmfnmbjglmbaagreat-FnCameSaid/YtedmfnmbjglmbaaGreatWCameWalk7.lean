/- Printed by a program of ours: each Go function computes its Lean function. -/
import Derived.Test.YtedmfnmbjglmbaaGreatProg
import Derived.Test.YtedmfnmbjglmbaaGreatWCameWalk6
namespace Go.Proofs.YtedmfnmbjglmbaaGreat
open Eng Tryz
open Go.RowKit (Below)
set_option linter.unusedVariables false
set_option linter.unusedSimpArgs false

set_option maxRecDepth 100000
set_option maxHeartbeats 1000000
variable {f e:Hp} {d a6 a1 g ad j:Value} {n aE ai l aj t p:List Nat} {a:Nat} (N:Nat)
theorem zB (w0:aD f e [[a]].flatten) (I:ab) (A:ByteArray) (a8:RSl (RI .u8) 1 f n d I.b) (aR:e a=some (.cells #[d,iV I.i,iV I.h] 144 (0,0))) {r:af × ab} (h:pE N I A=some r) :
  Calls prog 89 [pQ a,.string A].toArray w0.w (bc e w0.w [[a]].flatten (fun aH Fs v=>∃ (aS:Value) (b7:List Nat) (aT:Value) (aU:Value) (b8:List Nat),v = .agg [.string r.1.Name,iV r.1.Sal,aS,aT,aU].toArray∧Fs=[ob aS,b7,ob aT,ob aU,b8,[a]]∧OSl eB 201 3 aH b7 aS r.1.Pats∧OSl cH 173 11 aH [] aT r.1.Conds∧OSl jR 213 5 aH b8 aU r.1.Acts∧r.2.b=I.b∧aH a=some (.cells #[d,iV r.2.i,iV r.2.h] 144 (0,0)))):=by
 refine eL func89 J ntmps89 J (L:=[[a]]) w0 (fun hF=>?_)
 unfold pE at h
 refine sr<|lnz uY J fun S=>arr 5 [] J ?_
 have bF:RC (RI .i64) 1 e ([[],[],[],[],[]]:List (List Nat)) [iV 0,iV 0,iV 5,iV (-5),iV 100] ([0,0,5,(-5),100]:List Int):=RC.cons (c:=[iV 0]) (cells:=[iV 0,iV 5,iV (-5),iV 100]) ⟨J,J⟩ J (RC.cons (c:=[iV 0]) (cells:=[iV 5,iV (-5),iV 100]) ⟨J,J⟩ J (RC.cons (c:=[iV 5]) (cells:=[iV (-5),iV 100]) ⟨J,J⟩ J (RC.cons (c:=[iV (-5)]) (cells:=[iV 100]) ⟨J,J⟩ J (RC.cons (c:=[iV 100]) (cells:=[]) ⟨J,J⟩ J (RC.nil _ _ _)))))
 refine le' (bz (vs:=[(0,iV 0),(1,iV 0),(2,iV 5),(3,iV (-5)),(4,iV 100)]) (C:=#[iV 0,iV 0,iV 5,iV (-5),iV 100]) RI.lasts cq mg J J J J (ar Ld (aa (C':=[iV 0,iV 0,iV 0,iV 0,iV 0]) J J J J J (aa (C':=[iV 0,iV 0,iV 0,iV 0,iV 0]) J J J J J (aa (C':=[iV 0,iV 0,iV 5,iV 0,iV 0]) J J J J J (aa (C':=[iV 0,iV 0,iV 5,iV (-5),iV 0]) J J J J J (aa (C':=[iV 0,iV 0,iV 5,iV (-5),iV 100]) J J J J J (ae))))))) J bF J (by simpa using Kw.nil)) J ?_
 rintro v1 bG D1 ⟨bI,h1⟩
 replace h1:OSl (RI .i64) 3 1 bG [] v1 ([0,0,5,(-5),100]:List Int):=by simpa using h1
 replace aR:=bI _ _ NS aR
 refine kcb [1] h J J J J (fun b ap z q=>rq N b I ([0,0,5,(-5),100]:List Int) (a8.y z) aR (h1.rsl.x (Dj.app (ap.q 0 J) dN)) q) ?_
 rintro E h v2 cu F1 ⟨cv,cw,rfl,rfl,e1,h2⟩
 refine lq (bu (vs:=[(0,.string A),(1,iV E.1)]) (C:=#[.string A,iV E.1,.slice none 0 0,.slice none 0 0,.slice none 0 0]) MP uY J (aa (C':=[.string A,iV 0,.slice none 0 0,.slice none 0 0,.slice none 0 0]) J J J J J (aa (C':=[.string A,iV E.1,.slice none 0 0,.slice none 0 0,.slice none 0 0]) J J J J J (ae)))) J<|lnz uY J fun T=>soN 0 yh J ⟨J,J,J,J,J,trivial⟩ J ?_
 refine arr 5 [] J<|kcb [0] h J J J J (fun b ap z q=>cC N b (⟨I.b,E.2.i,E.2.h⟩:ab) 3 (a8.y z) h2 q) ?_
 rintro x2 h v3 b9 F2 ⟨cx,cy,rfl,rfl,e2,h3⟩
 refine art 4 [] J<|wtS<|wt0 ?_
 have k1:=OSl.nil eB 201 3 b9
 refine lin (σ:=Hp × (List ay) × Value × List Nat × Int × Int × Int) (fun s=>[(0,pQ a),(4,pQ S),(5,pQ T),(6,iV s.2.2.2.2.1)]) (fun s=>St w0 s.1 [(T,.cells #[.string A,iV E.1,s.2.2.1,.slice none 0 0,.slice none 0 0] 87 (0,0)),(S,.cells #[.string (⟨#[]⟩:ByteArray),iV 0,.slice none 0 0,.slice none 0 0,.slice none 0 0] 87 (0,0))] [s.2.2.2.1,ob s.2.2.1,[a]]) (fun m s=>jJ N I A E m s.2.1 s.2.2.2.2.1 s.2.2.2.2.2.1 s.2.2.2.2.2.2=some r∧(OSl eB 201 3 s.1 s.2.2.2.1 s.2.2.1 s.2.1)∧(s.1 a=some (.cells #[d,iV s.2.2.2.2.2.1,iV s.2.2.2.2.2.2] 144 (0,0)))) (b9,([]:List ay),(.slice none 0 0),[],wz (1+x2.1),x2.2.i,x2.2.h) N ⟨h,k1,h3⟩ (sx [0,0,0] [0,0]) (fun n1 bJ s hm=>?_)
 obtain⟨cz,s1,u1,D2,s2,s3,s4⟩:=s
 obtain⟨h,U,k3⟩:=hm
 dsimp only at h U k3 ⊢
 unfold jJ at h
 refine att 6 [] J ?_
 refine ch h J ?_ ?_ <;> intro h
 ·refine att 3 [] J<|wm [0,1] [7] J<|amm 3 [0,2,1,0,2] [0,1] J J ?_
  obtain⟨W,bK,h⟩:=bs h
  refine WM.one 3 NQ (mc J (fun _ v aq D H hq hw=>Kn.of Kf.nil (ai2 0 1 J J) hw) (bH (js:=[2]) (R:=[D2,ob u1]) Em J J (fun H hw ap hl=>tZ N (bx hw ap hl) (⟨I.b,s3,s4⟩:ab) false (a8.y (hw.uo ap)) k3  bK)) J ?_)
  rintro v4 bL F3 ⟨ba,bM,v5,rfl,rfl,h4,e3,h5⟩
  replace U:=U.fr bM (ba.q 1 J) (ba.q 0 J)
  have bb:RC eB 3 bL ([(ob v5++[])]:List (List Nat)) [.string W.1.Kind,v5,.bool W.1.Not] ([W.1]:List ay):=RC.cons (c:=[.string W.1.Kind,v5,.bool W.1.Not]) (cells:=[]) ⟨v5,J,J,h4⟩ J (RC.nil _ _ _)
  refine WM.one 4 NQ (me J (fun _ v aq D H hq hw=>Kn.of Kf.nil (ai2 0 1 J J) hw) (bz (vs:=[(0,.agg [.string W.1.Kind,v5,.bool W.1.Not].toArray)]) (C:=#[.string W.1.Kind,v5,.bool W.1.Not]) eB.lasts tb lI J J J J (ar yS (aa (C':=[.string W.1.Kind,v5,.bool W.1.Not]) J J J J J (ae))) J bb J (RC.kn eB.knows bb)) J ?_)
  rintro v6 bd D3 ⟨be,h6⟩
  replace h6:OSl eB 201 3 bd ((ob v5++[])) v6 ([W.1]:List ay):=by simpa[gf] using h6
  replace U:=U.f0 be
  replace h5:=be _ _ NS h5
  refine WM.conv (S':=St w0 bd [(T,.cells #[.string A,iV E.1,u1,.slice none 0 0,.slice none 0 0] 87 (0,0)),(S,.cells #[.string (⟨#[]⟩:ByteArray),iV 0,.slice none 0 0,.slice none 0 0,.slice none 0 0] 87 (0,0))] [((ob v5++[])),ob v6,[a],D2,ob u1]) (fun H hw=>hw.merge (js:=[1]) J (SP.eq (by simp[gf,cO]))) ?_
  obtain⟨x4,bN,h⟩:=bs h
  refine WM.one 5 NQ (me J (fun _ v aq D H hq hw=>Kn.of Kf.nil (ai2 0 1 J J) hw) (dS eB.lasts eB.one tb CW J J J J J (js:=[4]) (Rr:=[((ob v5++[])),ob v6,[a],D2]) J U h6 (fun ap=>ap.q 3 J) (fun ap=>ap.q 0 J) bN) J ?_)
  rintro v7 bO D4 ⟨⟨bP,bQ⟩,h7⟩
  replace h5:=bQ _ _ ((bP.q 2 J) _ NS) h5
  refine WM.conv (S':=St w0 bO [(T,.cells #[.string A,iV E.1,u1,.slice none 0 0,.slice none 0 0] 87 (0,0)),(S,.cells #[.string (⟨#[]⟩:ByteArray),iV 0,.slice none 0 0,.slice none 0 0,.slice none 0 0] 87 (0,0))] [(D2++((ob v5++[]))),ob v7,ob v6,[a]]) (fun H hw=>hw.merge (js:=[4,1]) J (SP.eq NS))<|amm 1 [6,2] [0,1] J J ?_
  refine on1 7 (ms1 0 J nk Ks J h7.one ?_)
  refine WM.nil NQ<|att 6 [] J ?_
  exact lb [0,0,1] [0,0] (bJ (_,_,_,_,_,_,_) ⟨h,h7,h5⟩)
 refine atr 5 [] J<|kcb [2] h J J J J (fun b ap z q=>fu N b (⟨I.b,s3,s4⟩:ab) 3 (a8.y z) k3 q) ?_
 rintro x5 h v8 cA F4 ⟨bf,bR,rfl,rfl,e4,h8⟩
 replace U:=U.fr bR (bf.q 1 J) (bf.q 0 J)
 refine en ?_
 refine cut (σ:=Hp × (List ay) × Value × List Nat × Int × Int) (fun s=>[(0,pQ a),(4,pQ S),(5,pQ T)]) (fun s=>St w0 s.1 [(T,.cells #[.string A,iV E.1,s.2.2.1,.slice none 0 0,.slice none 0 0] 87 (0,0)),(S,.cells #[.string (⟨#[]⟩:ByteArray),iV 0,.slice none 0 0,.slice none 0 0,.slice none 0 0] 87 (0,0))] [[a],s.2.2.2.1,ob s.2.2.1]) (fun s=>jA N I A E s.2.1 s.2.2.2.2.1 s.2.2.2.2.2=some r∧(OSl eB 201 3 s.1 s.2.2.2.1 s.2.2.1 s.2.1)∧(s.1 a=some (.cells #[d,iV s.2.2.2.2.1,iV s.2.2.2.2.2] 144 (0,0)))) (fun s hm=>?_) (fun K=>?_)
 ·clear h
  obtain⟨cB,s5,M,V,s6,s7⟩:=s
  obtain⟨h,u,k5⟩:=hm
  dsimp only at h u k5 ⊢
  unfold jA at h
  refine atr 3 [5] J<|kab h J J J (fun b z q=>y9 N b (⟨A,E.1,s5,[],[]⟩:af) (u.rslG eB.gives) (RSl.nil _ _ _) (RSl.nil _ _ _) q) ?_
  rintro x6 h v9 cD F5 ⟨aV,bg,v10,rfl,rfl,w⟩
  replace u:=u.fr bg (aV.q 2 J) (aV.q 1 J)
  replace k5:=bg _ _ ((aV.q 0 J) _ NS) k5
  refine arr 6 [] J<|kcb [1] h J J J J (fun b ap z q=>fu N b (⟨I.b,s6,s7⟩:ab) 3 (a8.y z) k5 q) ?_
  rintro x7 h v11 bS F6 ⟨aW,bh,rfl,rfl,e5,bj⟩
  replace u:=u.fr bh (aW.q 2 J) (aW.q 1 J)
  replace w:=w.fr bh (aW.q 0 J) dN
  refine en<|wtS ?_
  have k6:=OSl.nil cH 173 11 bS
  refine cut (σ:=Hp × (List f9) × Value × Int × Int) (fun s=>[(0,pQ a),(4,pQ S),(5,pQ T),(7,v9)]) (fun s=>St w0 s.1 [(T,.cells #[.string A,iV E.1,M,s.2.2.1,.slice none 0 0] 87 (0,0)),(S,.cells #[.string (⟨#[]⟩:ByteArray),iV 0,.slice none 0 0,.slice none 0 0,.slice none 0 0] 87 (0,0))] [ob s.2.2.1,[a],ob v9,V,ob M]) (fun s=>jL N I A E s5 x6 s.2.1 s.2.2.2.1 s.2.2.2.2=some r∧(OSl eB 201 3 s.1 V M s5)∧(OSl RS 9 1 s.1 [] v9 x6)∧(OSl cH 173 11 s.1 [] s.2.2.1 s.2.1)∧(s.1 a=some (.cells #[d,iV s.2.2.2.1,iV s.2.2.2.2] 144 (0,0)))) (fun s hm=>?_) (fun K=>?_)
  ·clear h
   obtain⟨cE,s8,P,s9,bT⟩:=s
   obtain⟨h,u,w,B,k8⟩:=hm
   dsimp only at h u w B k8 ⊢
   unfold jL at h
   refine atr 4 [] J<|kcb [1] h J J J J (fun b ap z q=>cC N b (⟨I.b,s9,bT⟩:ab) 3 (a8.y z) k8 q) ?_
   rintro x8 h v12 bk F7 ⟨aI,aY,rfl,rfl,e6,bU⟩
   replace u:=u.fr aY (aI.q 3 J) (aI.q 2 J)
   replace w:=w.fr aY (aI.q 1 J) dN
   replace B:=B.fr aY (aI.q 0 J) dN
   refine art 4 [] J<|wtS<|wt0 ?_
   have k9:=OSl.nil jR 213 5 bk
   refine lin (σ:=Hp × (List fd) × Value × List Nat × Int × Int × Int) (fun s=>[(0,pQ a),(4,pQ S),(5,pQ T),(7,v9),(9,iV s.2.2.2.2.1)]) (fun s=>St w0 s.1 [(T,.cells #[.string A,iV E.1,M,P,s.2.2.1] 87 (0,0)),(S,.cells #[.string (⟨#[]⟩:ByteArray),iV 0,.slice none 0 0,.slice none 0 0,.slice none 0 0] 87 (0,0))] [s.2.2.2.1,ob s.2.2.1,[a],ob P,ob v9,V,ob M]) (fun m s=>gR N I A E s5 x6 s8 m s.2.1 s.2.2.2.2.1 s.2.2.2.2.2.1 s.2.2.2.2.2.2=some r∧(OSl eB 201 3 s.1 V M s5)∧(OSl RS 9 1 s.1 [] v9 x6)∧(OSl cH 173 11 s.1 [] P s8)∧(OSl jR 213 5 s.1 s.2.2.2.1 s.2.2.1 s.2.1)∧(s.1 a=some (.cells #[d,iV s.2.2.2.2.2.1,iV s.2.2.2.2.2.2] 144 (0,0)))) (bk,([]:List fd),(.slice none 0 0),[],wz (1+x8.1),x8.2.i,x8.2.h) N ⟨h,u,w,B,k9,bU⟩ (sx [0,0,0,0,0,0,0] [0,0]) (fun n4 bV s hm=>?_)
   obtain⟨cF,b0,X,D6,bl,bW,bX⟩:=s
   obtain⟨h,u,w,B,O,b1⟩:=hm
   dsimp only at h u w B O b1 ⊢
   unfold gR at h
   refine att 6 [] J ?_
   refine ch h J ?_ ?_ <;> intro h
   ·refine atr 7 [5] J<|qc h (rT N · (⟨A,E.1,s5,s8,b0⟩:af) (u.rslG eB.gives) B.rsl (O.rslG jR.gives) ·) J J J fun x9 h=>kcb [2] h J J J J (fun b ap z q=>zA N b (⟨I.b,bW,bX⟩:ab) x9 (a8.y z) b1 q) ?_
    rintro k h cG bY F8 ⟨an,aJ,F,rfl,rfl,bm,e7,bZ⟩
    replace u:=u.fr aJ (an.q 5 J) (an.q 4 J)
    replace w:=w.fr aJ (an.q 3 J) dN
    replace B:=B.fr aJ (an.q 2 J) dN
    replace O:=O.fr aJ (an.q 1 J) (an.q 0 J)
    refine lnz uF J fun aK=>soN 0 uq J ⟨J,J,bm.one,J,J,trivial⟩ J ?_
    refine art 7 [] J ?_
    refine lin (σ:=Hp × (List dY) × Int) (fun s=>[(0,pQ a),(4,pQ S),(5,pQ T),(7,v9),(9,iV bl),(10,pQ aK),(11,iV s.2.2)]) (fun s=>St w0 s.1 [(aK,.cells #[iV k.1.Kind,.string k.1.Name,F,iV k.1.N,.string k.1.Undo] 213 (0,0)),(T,.cells #[.string A,iV E.1,M,P,X] 87 (0,0)),(S,.cells #[.string (⟨#[]⟩:ByteArray),iV 0,.slice none 0 0,.slice none 0 0,.slice none 0 0] 87 (0,0))] [ob F,[a],D6,ob X,ob P,ob v9,V,ob M]) (fun m s=>gH N x6 b0 bl (gR N I A E s5 x6 s8 n4) k m s.2.1 s.2.2=some r∧(OSl eB 201 3 s.1 V M s5)∧(OSl RS 9 1 s.1 [] v9 x6)∧(OSl cH 173 11 s.1 [] P s8)∧(OSl jR 213 5 s.1 D6 X b0)∧(OSl dF 216 11 s.1 [] F s.2.1)∧(s.1 a=some (.cells #[d,iV k.2.i,iV k.2.h] 144 (0,0)))) (bY,k.1.Args,0) N ⟨h,u,w,B,O,bm,bZ⟩ (sx [0,0,0,0,0,0,0,0] [0,0,0]) (fun n5 bn s hm=>?_)
    obtain⟨bo,bp,cI⟩:=s
    obtain⟨h,u,w,B,O,aL,Y⟩:=hm
    dsimp only at h u w B O aL Y ⊢
    unfold gH at h
    refine atr 6 [2,0] J<|lno aL J<|la J<|en ?_
    refine ch h J ?_ ?_ <;> intro h
    ·refine att 4 [] J ?_
     obtain⟨G,ao,h⟩:=bs h
     obtain⟨cJ,F9,au,r1⟩:=aL.focusF dF.flat ao
     obtain⟨rfl,-⟩:=r1
     refine WT.mix (Kn w0 bo (ob P++(ob X++ob F)) [(aK,.cells #[iV k.1.Kind,.string k.1.Name,F,iV k.1.N,.string k.1.Undo] 213 (0,0)),(T,.cells #[.string A,iV E.1,M,P,X] 87 (0,0)),(S,.cells #[.string (⟨#[]⟩:ByteArray),iV 0,.slice none 0 0,.slice none 0 0,.slice none 0 0] 87 (0,0))]) (fun i=>match i with | 13=>false | _=>true) mixed (fun _ h=>h.drew)<|mq 0 J NQ (kn Kf.id (ai3 0 1 2 J J J)) (ax tw J) J ?_
     refine mq 1 J NQ (kn Kf.id (ai3 0 1 2 J J J)) (aZ B9 J (fun H hw=>hw.rgO (i:=0) J 2 1 [F] J)) J<|ma 2 J NQ (kn Kf.id (ai3 0 1 2 J J J)) J<|mq 3 J NQ (kn Kf.id (ai3 0 1 2 J J J)) (ax tw J) J<|mq 4 J NQ (kn Kf.id (ai3 0 1 2 J J J)) (aZ B9 J (fun H hw=>hw.rgO (i:=0) J 2 1 [F] J)) J<|ma 5 J NQ (kn Kf.id (ai3 0 1 2 J J J)) J ?_
     refine mq 6 J NQ (kn Kf.id (ai3 0 1 2 J J J)) (cQ we J J au ao) J<|mq 7 J NQ (kn Kf.id (ai3 0 1 2 J J J)) (ax zU J) J<|mq 8 J NQ (kn Kf.id (ai3 0 1 2 J J J)) (aw nh J (fun H hw=>hw.rg (gb.2 (.inr (gb.2 (.inr au.hb)))) (au.rg.of_eq 1 5 J J:rg _ _ _ [iV G.L.K,.string G.L.S,iV G.L.V.K,iV G.L.V.N,.string G.L.V.S])) J) J<|ma 9 J NQ (kn Kf.id (ai3 0 1 2 J J J)) J ?_
     obtain⟨Q,c0,h⟩:=bs h
     refine on1 10 (mp J (fun _ H hw=>Kn.of Kf.id (ai3 0 1 2 J J J) hw) (pcP J (oy N · G.L x6 w.rsl c0)) J ?_)
     refine mqT 11 [12,13] J NQ (kn Kf.id (ai3 0 1 2 J J J)) (cQ we J J au ao) J<|mq 12 J NQ (kn Kf.id (ai3 0 1 2 J J J)) (ax zU J) J ?_
     refine WM.one 13 NQ (mu J (fun hc=>by cases hc) (AR (js:=[0]) (Rr:=[[a],D6,ob X,ob P,ob v9,V,ob M]) (o:=1) (vs:=[iV Q.K,.string Q.S,iV Q.V.K,iV Q.V.N,.string Q.V.S]) (cs':=[.string G.Op,iV Q.K,.string Q.S,iV Q.V.K,iV Q.V.N,.string Q.V.S,iV G.R.K,.string G.R.S,iV G.R.V.K,iV G.R.V.N,.string G.R.V.S]) dF.lasts j6 J J J J ⟨J,J,J,J,J,trivial⟩ J au J J (fun ap=>dN)) J ?_)
     rintro c3 D8 ⟨⟨ak,av⟩,ah⟩
     replace u:=u.fr av (ak.q 6 J) (ak.q 5 J)
     replace w:=w.fr av (ak.q 4 J) dN
     replace B:=B.fr av (ak.q 3 J) dN
     replace O:=O.fr av (ak.q 2 J) (ak.q 1 J)
     replace Y:=av _ _ ((ak.q 0 J) _ NS) Y
     refine WM.nil NQ<|atr 5 [2,0] J<|lih ah ao J<|lf Ah J J J<|lgx 0 0 ah.rg J<|la J<|en ?_
     refine ch h J ?_ ?_ <;> intro h
     ·refine WT.mix (Kn w0 c3 (ob P++(ob X++ob F)) [(aK,.cells #[iV k.1.Kind,.string k.1.Name,F,iV k.1.N,.string k.1.Undo] 213 (0,0)),(T,.cells #[.string A,iV E.1,M,P,X] 87 (0,0)),(S,.cells #[.string (⟨#[]⟩:ByteArray),iV 0,.slice none 0 0,.slice none 0 0,.slice none 0 0] 87 (0,0))]) (fun i=>match i with | 13=>false | _=>true) mixed (fun _ h=>h.drew)<|mq 0 J NQ (kn Kf.id (ai3 0 1 2 J J J)) (ax tw J) J ?_
      refine mq 1 J NQ (kn Kf.id (ai3 0 1 2 J J J)) (aZ B9 J (fun H hw=>hw.rgO (i:=0) J 2 1 [F] J)) J<|ma 2 J NQ (kn Kf.id (ai3 0 1 2 J J J)) J<|mq 3 J NQ (kn Kf.id (ai3 0 1 2 J J J)) (ax tw J) J<|mq 4 J NQ (kn Kf.id (ai3 0 1 2 J J J)) (aZ B9 J (fun H hw=>hw.rgO (i:=0) J 2 1 [F] J)) J<|ma 5 J NQ (kn Kf.id (ai3 0 1 2 J J J)) J ?_
      refine mq 6 J NQ (kn Kf.id (ai3 0 1 2 J J J)) (cQ we J J ah ao) J<|mq 7 J NQ (kn Kf.id (ai3 0 1 2 J J J)) (ax wy J) J<|mq 8 J NQ (kn Kf.id (ai3 0 1 2 J J J)) (aw nh J (fun H hw=>hw.rg (gb.2 (.inr (gb.2 (.inr ah.hb)))) (ah.rg.of_eq 6 5 J J:rg _ _ _ [iV G.R.K,.string G.R.S,iV G.R.V.K,iV G.R.V.N,.string G.R.V.S])) J) J<|ma 9 J NQ (kn Kf.id (ai3 0 1 2 J J J)) J ?_
      obtain⟨a7,c4,h⟩:=bs h
      refine on1 10 (mp J (fun _ H hw=>Kn.of Kf.id (ai3 0 1 2 J J J) hw) (pcP J (oy N · G.R x6 w.rsl c4)) J ?_)
      refine mqT 11 [12,13] J NQ (kn Kf.id (ai3 0 1 2 J J J)) (cQ we J J ah ao) J<|mq 12 J NQ (kn Kf.id (ai3 0 1 2 J J J)) (ax wy J) J ?_
      refine WM.one 13 NQ (mu J (fun hc=>by cases hc) (AR (js:=[0]) (Rr:=[[a],D6,ob X,ob P,ob v9,V,ob M]) (o:=6) (vs:=[iV a7.K,.string a7.S,iV a7.V.K,iV a7.V.N,.string a7.V.S]) (cs':=[.string G.Op,iV Q.K,.string Q.S,iV Q.V.K,iV Q.V.N,.string Q.V.S,iV a7.K,.string a7.S,iV a7.V.K,iV a7.V.N,.string a7.V.S]) dF.lasts j6 J J J J ⟨J,J,J,J,J,trivial⟩ J ah J J (fun ap=>dN)) J ?_)
      rintro cK D9 ⟨⟨al,aA⟩,c5⟩
      replace u:=u.fr aA (al.q 6 J) (al.q 5 J)
      replace w:=w.fr aA (al.q 4 J) dN
      replace B:=B.fr aA (al.q 3 J) dN
      replace O:=O.fr aA (al.q 2 J) (al.q 1 J)
      replace Y:=aA _ _ ((al.q 0 J) _ NS) Y
      refine WM.nil NQ<|att 6 [] J ?_
      have c6:=c5.unfocusF dF.flat (x':=(⟨G.Op,Q,a7⟩:dY)) ⟨J,J⟩
      exact lb [0,0,0,0,0,0,0,0] [0,0,0] (bn (_,_,_) ⟨h,u,w,B,O,c6,Y⟩)
     refine att 7 [] J ?_
     have c7:=ah.unfocusF dF.flat (x':=(⟨G.Op,Q,G.R⟩:dY)) ⟨J,J⟩
     exact lb [0,0,0,0,0,0,0,0] [0,0,0] (bn (_,_,_) ⟨h,u,w,B,O,c7,Y⟩)
    refine atr 5 [4,32,5] J ?_
    have bq:RC jR 5 bo ([(ob F++[])]:List (List Nat)) [iV k.1.Kind,.string k.1.Name,F,iV k.1.N,.string k.1.Undo] ([(⟨k.1.Kind,k.1.Name,bp,k.1.N,k.1.Undo⟩:fd)]:List fd):=RC.cons (c:=[iV k.1.Kind,.string k.1.Name,F,iV k.1.N,.string k.1.Undo]) (cells:=[]) ⟨F,J,J,aL⟩ J (RC.nil _ _ _)
    refine le' (bz (vs:=[(0,.agg [iV k.1.Kind,.string k.1.Name,F,iV k.1.N,.string k.1.Undo].toArray)]) (C:=#[iV k.1.Kind,.string k.1.Name,F,iV k.1.N,.string k.1.Undo]) jR.lasts JV uF J J J J (ar HI (aa (C':=[iV k.1.Kind,.string k.1.Name,F,iV k.1.N,.string k.1.Undo]) J J J J J (ae))) J bq J (RC.kn jR.knows bq)) J ?_
    rintro aM c8 cL ⟨aB,b2⟩
    replace b2:OSl jR 213 5 c8 ((ob F++[])) aM ([(⟨k.1.Kind,k.1.Name,bp,k.1.N,k.1.Undo⟩:fd)]:List fd):=by simpa[gf] using b2
    replace u:=u.f0 aB
    replace w:=w.f0 aB
    replace B:=B.f0 aB
    replace O:=O.f0 aB
    replace Y:=aB _ _ NS Y
    refine wlL [((ob F++[])),ob aM,[a],D6,ob X,ob P,ob v9,V,ob M] (smg [1] J (SP.eq (by simp[gf,cO]))) ?_
    obtain⟨cM,c9,h⟩:=bs h
    refine le' (dS jR.lasts jR.one JV L4 J J J J J (js:=[4]) (Rr:=[((ob F++[])),ob aM,[a],D6,ob P,ob v9,V,ob M]) J O b2 (fun ap=>ap.q 3 J) (fun ap=>ap.q 0 J) c9) J ?_
    rintro ca cN cP ⟨⟨aC,aN⟩,br⟩
    replace u:=u.fr aN (aC.q 7 J) (aC.q 6 J)
    replace w:=w.fr aN (aC.q 5 J) dN
    replace B:=B.fr aN (aC.q 4 J) dN
    replace Y:=aN _ _ ((aC.q 2 J) _ NS) Y
    refine wlL [(D6++((ob F++[]))),ob ca,ob aM,[a],ob P,ob v9,V,ob M] (smg [4,1] J (SP.eq NS))<|lf HD J J J<|so1 1 MS J br.one ?_
    refine art 7 [] J ?_
    exact lb [0,0,1,1,1,1,1] [1,1] (bV (_,_,_,_,_,_,_) ⟨h,u,w,B,br,Y⟩)
   refine atr 4 [5] J<|soN 1 yh J ⟨J,J,u.one,B.one,O.one,trivial⟩ J ?_
   refine en ?_
   exact rtg [6,5,3,1,0,0] hF (az.one (aX tQ J (fun H hw=>hw.rgO (i:=1) J 0 5 [.string A,iV E.1,M,P,X] J) J)) J (by cases h;exact fun H hw=>⟨M,V,P,X,D6,rfl,rfl,u,B,O,rfl,b1⟩)
  refine ch h J ?_ ?_ <;> intro h
  ·refine sr<|la J<|kcb [1] h J J J J (fun b ap z q=>zC N b (⟨I.b,x7.2.i,x7.2.h⟩:ab) (a8.y z) bj q) ?_
   rintro ag h v17 cb cR ⟨aO,b3,rfl,rfl,e8,aF⟩
   replace u:=u.fr b3 (aO.q 3 J) (aO.q 2 J)
   replace w:=w.fr b3 (aO.q 1 J) dN
   replace k6:=k6.fr b3 (aO.q 0 J) dN
   refine lnz uu J fun cS=>soN 0 yF J ⟨J,J,J,J,J,J,J,J,J,J,J,trivial⟩ J ?_
   refine arr 6 [1,5] J<|qc h (oy N · ag.1.L x6 w.rsl ·) J J J fun x h=>lf Fc J J J<|soN 0 j6 J ⟨J,J,J,J,J,trivial⟩ J ?_
   refine arr 6 [6,5] J<|qc h (oy N · ag.1.R x6 w.rsl ·) J J J fun y h=>lf Fg J J J<|soN 0 j6 J ⟨J,J,J,J,J,trivial⟩ J ?_
   refine arr 5 [3,32,11] J ?_
   have cc:RC cH 11 cb ([[]]:List (List Nat)) [iV ag.1.Op,iV x.K,.string x.S,iV x.V.K,iV x.V.N,.string x.V.S,iV y.K,.string y.S,iV y.V.K,iV y.V.N,.string y.V.S] ([(⟨ag.1.Op,x,y⟩:f9)]:List f9):=RC.cons (c:=[iV ag.1.Op,iV x.K,.string x.S,iV x.V.K,iV x.V.N,.string x.V.S,iV y.K,.string y.S,iV y.V.K,iV y.V.N,.string y.V.S]) (cells:=[]) ⟨J,J⟩ J (RC.nil _ _ _)
   refine le' (bz (vs:=[(0,.agg [iV ag.1.Op,iV x.K,.string x.S,iV x.V.K,iV x.V.N,.string x.V.S,iV y.K,.string y.S,iV y.V.K,iV y.V.N,.string y.V.S].toArray)]) (C:=#[iV ag.1.Op,iV x.K,.string x.S,iV x.V.K,iV x.V.N,.string x.V.S,iV y.K,.string y.S,iV y.V.K,iV y.V.N,.string y.V.S]) cH.lasts Ko uu J J J J (ar Hv (aa (C':=[iV ag.1.Op,iV x.K,.string x.S,iV x.V.K,iV x.V.N,.string x.V.S,iV y.K,.string y.S,iV y.V.K,iV y.V.N,.string y.V.S]) J J J J J (ae))) J cc J (by simpa using Kw.nil)) J ?_
   rintro bt cd cT ⟨aP,b4⟩
   replace b4:OSl cH 173 11 cd [] bt ([(⟨ag.1.Op,x,y⟩:f9)]:List f9):=by simpa using b4
   replace u:=u.f0 aP
   replace w:=w.f0 aP
   replace k6:=k6.f0 aP
   replace aF:=aP _ _ NS aF
   obtain⟨cU,cf,h⟩:=bs h
   refine le' (dM cH.lasts cH.one cH.flat Ko LO J J J J J (js:=[2]) (Rr:=[ob bt,[a],ob v9,V,ob M]) J k6 b4.rsl cf) J ?_
   rintro cV cW cX ⟨⟨aQ,b5⟩,bw⟩
   replace u:=u.fr b5 (aQ.q 4 J) (aQ.q 3 J)
   replace w:=w.fr b5 (aQ.q 2 J) dN
   replace aF:=b5 _ _ ((aQ.q 1 J) _ NS) aF
   refine lf Hc J J J<|so1 1 M2 J bw.one ?_
   refine en ?_
   exact wo [0,1,1,1,1] [1,1] (K (_,_,_,_,_) ⟨h,u,w,bw,aF⟩)
  refine WT.skip ?_
  exact wo [0,0,0,0,0] [0,0] (K (_,_,_,_,_) ⟨h,u,w,k6,bj⟩)
 refine ch h J ?_ ?_ <;> intro h
 ·refine wm [0,1] [7] J<|amm 3 [0,2,1,0,2] [0,1] J J ?_
  obtain⟨Z,cg,h⟩:=bs h
  refine WM.one 3 NQ (mc J (fun _ v aq D H hq hw=>Kn.of Kf.nil (ai2 0 1 J J) hw) (bH (js:=[0]) (R:=[D2,ob u1]) Em J J (fun H hw ap hl=>tZ N (bx hw ap hl) (⟨I.b,x5.2.i,x5.2.h⟩:ab) true (a8.y (hw.uo ap)) h8  cg)) J ?_)
  rintro v20 cj cY ⟨bA,ck,v21,rfl,rfl,cm,e9,aG⟩
  replace U:=U.fr ck (bA.q 1 J) (bA.q 0 J)
  have bB:RC eB 3 cj ([(ob v21++[])]:List (List Nat)) [.string Z.1.Kind,v21,.bool Z.1.Not] ([Z.1]:List ay):=RC.cons (c:=[.string Z.1.Kind,v21,.bool Z.1.Not]) (cells:=[]) ⟨v21,J,J,cm⟩ J (RC.nil _ _ _)
  refine WM.one 4 NQ (me J (fun _ v aq D H hq hw=>Kn.of Kf.nil (ai2 0 1 J J) hw) (bz (vs:=[(0,.agg [.string Z.1.Kind,v21,.bool Z.1.Not].toArray)]) (C:=#[.string Z.1.Kind,v21,.bool Z.1.Not]) eB.lasts tb lI J J J J (ar yS (aa (C':=[.string Z.1.Kind,v21,.bool Z.1.Not]) J J J J J (ae))) J bB J (RC.kn eB.knows bB)) J ?_)
  rintro v22 bC cZ ⟨bD,b6⟩
  replace b6:OSl eB 201 3 bC ((ob v21++[])) v22 ([Z.1]:List ay):=by simpa[gf] using b6
  replace U:=U.f0 bD
  replace aG:=bD _ _ NS aG
  refine WM.conv (S':=St w0 bC [(T,.cells #[.string A,iV E.1,u1,.slice none 0 0,.slice none 0 0] 87 (0,0)),(S,.cells #[.string (⟨#[]⟩:ByteArray),iV 0,.slice none 0 0,.slice none 0 0,.slice none 0 0] 87 (0,0))] [((ob v21++[])),ob v22,[a],D2,ob u1]) (fun H hw=>hw.merge (js:=[1]) J (SP.eq (by simp[gf,cO]))) ?_
  obtain⟨da,cn,h⟩:=bs h
  refine WM.one 5 NQ (me J (fun _ v aq D H hq hw=>Kn.of Kf.nil (ai2 0 1 J J) hw) (dS eB.lasts eB.one tb CW J J J J J (js:=[4]) (Rr:=[((ob v21++[])),ob v22,[a],D2]) J U b6 (fun ap=>ap.q 3 J) (fun ap=>ap.q 0 J) cn) J ?_)
  rintro v23 cp db ⟨⟨cr,ct⟩,bE⟩
  replace aG:=ct _ _ ((cr.q 2 J) _ NS) aG
  refine WM.conv (S':=St w0 cp [(T,.cells #[.string A,iV E.1,u1,.slice none 0 0,.slice none 0 0] 87 (0,0)),(S,.cells #[.string (⟨#[]⟩:ByteArray),iV 0,.slice none 0 0,.slice none 0 0,.slice none 0 0] 87 (0,0))] [(D2++((ob v21++[]))),ob v23,ob v22,[a]]) (fun H hw=>hw.merge (js:=[4,1]) J (SP.eq NS))<|amm 1 [6,2] [0,1] J J ?_
  refine on1 7 (ms1 0 J nk Ks J bE.one ?_)
  refine WM.nil NQ ?_
  exact wo [3,0,0] [0,0] (K (_,_,_,_,_,_) ⟨h,bE,aG⟩)
 refine WT.skip ?_
 exact wo [0,0,0] [0,0] (K (_,_,_,_,_,_) ⟨h,U,h8⟩)
theorem yX (w0:aD f e [[a]].flatten) (A:ab) (V:RSl (RI .u8) 1 f n d A.b) (W:e a=some (.cells #[d,iV A.i,iV A.h] 144 (0,0))) {r:bv × ab} (h:nV N A=some r) :
  Calls prog 35 [pQ a].toArray w0.w (bc e w0.w [[a]].flatten (fun al Fs v=>∃ (X:Value) (ao:List Nat),v = .agg [.string r.1.Name,X].toArray∧Fs=[ob X,ao,[a]]∧OSl dT 87 5 al ao X r.1.Rules∧r.2.b=A.b∧al a=some (.cells #[d,iV r.2.i,iV r.2.h] 144 (0,0)))):=by
 refine eL func35 J ntmps35 J (L:=[[a]]) w0 (fun hF=>?_)
 unfold nV at h
 refine sr<|lnz yW J fun H=>arr 4 [] J ?_
 have aG:RC RS 1 e ([[],[],[]]:List (List Nat)) [.string (⟨#[102,108,111,119]⟩:ByteArray),.string (⟨#[115,104,105,112]⟩:ByteArray),.string (⟨#[120]⟩:ByteArray)] ([(⟨#[102,108,111,119]⟩:ByteArray),(⟨#[115,104,105,112]⟩:ByteArray),(⟨#[120]⟩:ByteArray)]:List ByteArray):=RC.cons (c:=[.string (⟨#[102,108,111,119]⟩:ByteArray)]) (cells:=[.string (⟨#[115,104,105,112]⟩:ByteArray),.string (⟨#[120]⟩:ByteArray)]) ⟨J,J⟩ J (RC.cons (c:=[.string (⟨#[115,104,105,112]⟩:ByteArray)]) (cells:=[.string (⟨#[120]⟩:ByteArray)]) ⟨J,J⟩ J (RC.cons (c:=[.string (⟨#[120]⟩:ByteArray)]) (cells:=[]) ⟨J,J⟩ J (RC.nil _ _ _)))
 refine le' (bz (vs:=[(0,.string (⟨#[102,108,111,119]⟩:ByteArray)),(1,.string (⟨#[115,104,105,112]⟩:ByteArray)),(2,.string (⟨#[120]⟩:ByteArray))]) (C:=#[.string (⟨#[102,108,111,119]⟩:ByteArray),.string (⟨#[115,104,105,112]⟩:ByteArray),.string (⟨#[120]⟩:ByteArray)]) RS.lasts jn ue J J J J (ar KT (aa (C':=[.string (⟨#[102,108,111,119]⟩:ByteArray),.string ⟨#[]⟩,.string ⟨#[]⟩]) J J J J J (aa (C':=[.string (⟨#[102,108,111,119]⟩:ByteArray),.string (⟨#[115,104,105,112]⟩:ByteArray),.string ⟨#[]⟩]) J J J J J (aa (C':=[.string (⟨#[102,108,111,119]⟩:ByteArray),.string (⟨#[115,104,105,112]⟩:ByteArray),.string (⟨#[120]⟩:ByteArray)]) J J J J J (ae))))) J aG J (by simpa using Kw.nil)) J ?_
 rintro v1 aH D1 ⟨aI,h1⟩
 replace h1:OSl RS 9 1 aH [] v1 ([(⟨#[102,108,111,119]⟩:ByteArray),(⟨#[115,104,105,112]⟩:ByteArray),(⟨#[120]⟩:ByteArray)]:List ByteArray):=by simpa using h1
 replace W:=aI _ _ NS W
 refine kcb [1] h J J J J (fun b ap z q=>gB N b A ([(⟨#[102,108,111,119]⟩:ByteArray),(⟨#[115,104,105,112]⟩:ByteArray),(⟨#[120]⟩:ByteArray)]:List ByteArray) (V.y z) W (h1.rsl.x (Dj.app (ap.q 0 J) dN)) q) ?_
 rintro u h v2 aJ F1 ⟨aT,aU,rfl,rfl,e1,Y⟩
 refine lq (bu (vs:=[(0,.string u.1)]) (C:=#[.string u.1,.slice none 0 0]) M4 yW J (aa (C':=[.string u.1,.slice none 0 0]) J J J J J (ae))) J<|lnz yW J fun I=>soN 0 Ak J ⟨J,J,trivial⟩ J ?_
 refine en<|sr ?_
 have aK:RC RS 1 aJ ([[],[],[],[]]:List (List Nat)) [.string (⟨#[114,49]⟩:ByteArray),.string (⟨#[114,50]⟩:ByteArray),.string (⟨#[114,51]⟩:ByteArray),.string (⟨#[114,52]⟩:ByteArray)] ([(⟨#[114,49]⟩:ByteArray),(⟨#[114,50]⟩:ByteArray),(⟨#[114,51]⟩:ByteArray),(⟨#[114,52]⟩:ByteArray)]:List ByteArray):=RC.cons (c:=[.string (⟨#[114,49]⟩:ByteArray)]) (cells:=[.string (⟨#[114,50]⟩:ByteArray),.string (⟨#[114,51]⟩:ByteArray),.string (⟨#[114,52]⟩:ByteArray)]) ⟨J,J⟩ J (RC.cons (c:=[.string (⟨#[114,50]⟩:ByteArray)]) (cells:=[.string (⟨#[114,51]⟩:ByteArray),.string (⟨#[114,52]⟩:ByteArray)]) ⟨J,J⟩ J (RC.cons (c:=[.string (⟨#[114,51]⟩:ByteArray)]) (cells:=[.string (⟨#[114,52]⟩:ByteArray)]) ⟨J,J⟩ J (RC.cons (c:=[.string (⟨#[114,52]⟩:ByteArray)]) (cells:=[]) ⟨J,J⟩ J (RC.nil _ _ _))))
 refine le' (bz (vs:=[(0,.string (⟨#[114,49]⟩:ByteArray)),(1,.string (⟨#[114,50]⟩:ByteArray)),(2,.string (⟨#[114,51]⟩:ByteArray)),(3,.string (⟨#[114,52]⟩:ByteArray))]) (C:=#[.string (⟨#[114,49]⟩:ByteArray),.string (⟨#[114,50]⟩:ByteArray),.string (⟨#[114,51]⟩:ByteArray),.string (⟨#[114,52]⟩:ByteArray)]) RS.lasts jn ue J J J J (ar AX (aa (C':=[.string (⟨#[114,49]⟩:ByteArray),.string ⟨#[]⟩,.string ⟨#[]⟩,.string ⟨#[]⟩]) J J J J J (aa (C':=[.string (⟨#[114,49]⟩:ByteArray),.string (⟨#[114,50]⟩:ByteArray),.string ⟨#[]⟩,.string ⟨#[]⟩]) J J J J J (aa (C':=[.string (⟨#[114,49]⟩:ByteArray),.string (⟨#[114,50]⟩:ByteArray),.string (⟨#[114,51]⟩:ByteArray),.string ⟨#[]⟩]) J J J J J (aa (C':=[.string (⟨#[114,49]⟩:ByteArray),.string (⟨#[114,50]⟩:ByteArray),.string (⟨#[114,51]⟩:ByteArray),.string (⟨#[114,52]⟩:ByteArray)]) J J J J J (ae)))))) J aK J (by simpa using Kw.nil)) J ?_
 rintro v3 Z D2 ⟨aL,k⟩
 replace k:OSl RS 9 1 Z [] v3 ([(⟨#[114,49]⟩:ByteArray),(⟨#[114,50]⟩:ByteArray),(⟨#[114,51]⟩:ByteArray),(⟨#[114,52]⟩:ByteArray)]:List ByteArray):=by simpa using k
 replace Y:=aL _ _ NS Y
 refine art 8 [] J<|wtS<|wt0 ?_
 have k1:=OSl.nil dT 87 5 Z
 refine lin (σ:=Hp × (List af) × Value × List Nat × Int × Int × Int) (fun s=>[(0,pQ a),(2,pQ H),(3,pQ I),(4,v3),(5,iV s.2.2.2.2.1)]) (fun s=>St w0 s.1 [(I,.cells #[.string u.1,s.2.2.1] 26 (0,0)),(H,.cells #[.string (⟨#[]⟩:ByteArray),.slice none 0 0] 26 (0,0))] [s.2.2.2.1,ob s.2.2.1,ob v3,[a]]) (fun m s=>iT N A u m s.2.1 s.2.2.2.2.1 s.2.2.2.2.2.1 s.2.2.2.2.2.2=some r∧(OSl RS 9 1 s.1 [] v3 ([(⟨#[114,49]⟩:ByteArray),(⟨#[114,50]⟩:ByteArray),(⟨#[114,51]⟩:ByteArray),(⟨#[114,52]⟩:ByteArray)]:List ByteArray))∧(OSl dT 87 5 s.1 s.2.2.2.1 s.2.2.1 s.2.1)∧(s.1 a=some (.cells #[d,iV s.2.2.2.2.2.1,iV s.2.2.2.2.2.2] 144 (0,0)))) (Z,([]:List af),(.slice none 0 0),[],0,u.2.i,u.2.h) N ⟨h,k,k1,Y⟩ (sx [0,0,0,0] [0,0]) (fun n1 aM s hm=>?_)
 obtain⟨aV,s1,E,P,s2,s3,s4⟩:=s
 obtain⟨h,k,y,k3⟩:=hm
 dsimp only at h k y k3 ⊢
 unfold iT at h
 refine atr 5 [] J<|kcb [3] h J J J J (fun b ap z q=>cC N b (⟨A.b,s3,s4⟩:ab) 4 (V.y z) k3 q) ?_
 rintro x2 h v4 aq F2 ⟨a7,au,rfl,rfl,e2,h4⟩
 replace k:=k.fr au (a7.q 2 J) dN
 replace y:=y.fr au (a7.q 1 J) (a7.q 0 J)
 refine arr 3 [] J ?_
 obtain⟨b3,Q,h⟩:=bs h
 refine WL.cutN 3 [(19,.bool b3),(0,pQ a),(2,pQ H),(3,pQ I),(4,v3),(5,iV s2)] ?_ (fun K=>?_)
 rotate_left
 ·refine sp 16 Q J (fun Q=>?_) fun Q=>?_
  ·refine arr 3 [] J ?_
   cases Q
   exact ku K
  ·refine arr 3 [] J ?_
   cases Q
   exact ku K
 refine en ?_
 refine ch h J ?_ ?_ <;> intro h
 ·refine att 3 [] J<|WT.mix (Kn w0 aq (ob v3) [(I,.cells #[.string u.1,E] 26 (0,0)),(H,.cells #[.string (⟨#[]⟩:ByteArray),.slice none 0 0] 26 (0,0))]) (fun i=>match i with | 11=>false | _=>true) mixed (fun _ h=>h.drew)<|mq 0 J NQ (kn Kf.id (ai2 0 1 J J)) (ax xK J) J<|mq 1 J NQ (kn Kf.id (ai2 0 1 J J)) (aZ JS J (fun B hw=>hw.rgO (i:=0) J 1 1 [E] J)) J<|ma 2 J NQ (kn Kf.id (ai2 0 1 J J)) J<|ma 3 J NQ (kn Kf.id (ai2 0 1 J J)) J ?_
  refine ma 4 J NQ (kn Kf.id (ai2 0 1 J J)) J ?_
  obtain⟨x3,av,h⟩:=bs h
  obtain⟨aW,F3,-,g1,aN,aY,r1⟩:=k.elS (a8 av).2.2
  obtain⟨rfl,-⟩:=r1
  refine mq 5 J NQ (kn Kf.id (ai2 0 1 J J)) (an jn J J k.rsl av) J<|mq 6 J NQ (kn Kf.id (ai2 0 1 J J)) (aZ Nw J (fun B hw=>hw.rg aN (g1.of_eq 0 1 J J:rg _ _ _ [.string x3]))) J ?_
  obtain⟨o,aO,h⟩:=bs h
  refine WM.one 7 NQ (mc J (fun _ v aw D B G hw=>Kn.of (Kf.id.st G.2.1 (G.1.r (i:=2) J)) (ai2 0 1 J J) hw) (bH (js:=[0]) (R:=[P,ob E,ob v3]) KL J J (fun B hw ap hl=>zB N (bx hw ap hl) (⟨A.b,x2.2.i,x2.2.h⟩:ab) x3 (V.y (hw.uo ap)) h4  aO)) J ?_)
  rintro v5 aP F4 ⟨T,ag,v6,M,w,x,O,rfl,rfl,h5,h6,h7,e3,S⟩
  replace k:=k.fr ag (T.q 2 J) dN
  replace y:=y.fr ag (T.q 1 J) (T.q 0 J)
  have ay:RC dT 5 aP ([(ob v6++M)++((ob w++[])++((ob x++O)))]:List (List Nat)) [.string o.1.Name,iV o.1.Sal,v6,w,x] ([o.1]:List af):=RC.cons (c:=[.string o.1.Name,iV o.1.Sal,v6,w,x]) (cells:=[]) ⟨v6,M,w,x,O,J,J,h5,h6,h7⟩ J (RC.nil _ _ _)
  have aA:=(Kf.id (F:=(ob v3)):Kf aq _ _).st ag (T.q 2 J)
  refine WM.one 8 NQ (me J (fun _ v aw D B G hw=>Kn.of (aA.se G.1) (ai2 0 1 J J) hw) (bz (vs:=[(0,.agg [.string o.1.Name,iV o.1.Sal,v6,w,x].toArray)]) (C:=#[.string o.1.Name,iV o.1.Sal,v6,w,x]) dT.lasts El uY J J J J (ar J5 (aa (C':=[.string o.1.Name,iV o.1.Sal,v6,w,x]) J J J J J (ae))) J ay J (RC.kn dT.knows ay)) J ?_)
  rintro v9 aB D6 ⟨U,h9⟩
  replace h9:OSl dT 87 5 aB ((ob v6++M)++((ob w++[])++((ob x++O)))) v9 ([o.1]:List af):=by simpa[gf] using h9
  replace k:=k.f0 U
  replace y:=y.f0 U
  replace S:=U _ _ NS S
  refine WM.conv (S':=St w0 aB [(I,.cells #[.string u.1,E] 26 (0,0)),(H,.cells #[.string (⟨#[]⟩:ByteArray),.slice none 0 0] 26 (0,0))] [((ob v6++M)++((ob w++[])++((ob x++O)))),ob v9,[a],P,ob E,ob v3]) (fun B hw=>hw.merge (js:=[1,1,1,1,1]) J (SP.eq (by simp[gf,cO]))) ?_
  obtain⟨x5,aQ,h⟩:=bs h
  have aC:=aA.se U
  refine WM.one 9 NQ (me J (fun _ v aw D B G hw=>Kn.of (aC.st G.1.2 (G.1.1.r (i:=4) J)) (ai2 0 1 J J) hw) (dS dT.lasts dT.one El Mr J J J J J (js:=[4]) (Rr:=[((ob v6++M)++((ob w++[])++((ob x++O)))),ob v9,[a],P,ob v3]) J y h9 (fun ap=>ap.q 3 J) (fun ap=>ap.q 0 J) aQ) J ?_)
  rintro v10 aR D7 ⟨⟨ah,ak⟩,aF⟩
  replace k:=k.fr ak (ah.q 4 J) dN
  replace S:=ak _ _ ((ah.q 2 J) _ NS) S
  refine WM.conv (S':=St w0 aR [(I,.cells #[.string u.1,E] 26 (0,0)),(H,.cells #[.string (⟨#[]⟩:ByteArray),.slice none 0 0] 26 (0,0))] [(P++((ob v6++M)++((ob w++[])++((ob x++O))))),ob v10,ob v9,[a],ob v3]) (fun B hw=>hw.merge (js:=[4,1]) J (SP.eq NS)) ?_
  have aS:=aC.st ak (ah.q 4 J)
  refine mq 10 J NQ (kn aS (ai2 0 1 J J)) (ax xK J) J ?_
  refine on1 11 (ms1 0 J nk MQ J aF.one ?_)
  refine WM.nil NQ<|att 6 [] J ?_
  exact lb [0,0,2,1] [0,0] (aM (_,_,_,_,_,_,_) ⟨h,k,aF,S⟩)
 refine atr 4 [2] J<|soN 1 Ak J ⟨J,y.one,trivial⟩ J ?_
 refine en ?_
 exact rtg [2,1,0] hF (az.one (aX Eg J (fun B hw=>hw.rgO (i:=1) J 0 2 [.string u.1,E] J) J)) J (by cases h;exact fun B hw=>⟨E,P,rfl,rfl,y,rfl,h4⟩)
theorem pV (w0:aD f e []) (b:(List bN)) (c:(List bN)) (i:RSl aU 3 f aE a6 b) (q:RSl aU 3 f ai a1 c) {r:Bool} (h:j0 N b c=some r) :
  CB w0 prog 178 [a6,a1] (.bool r):=by
 refine eN func178 J ntmps178 J w0 fun u=>?_
 unfold j0 at h
 refine atr 8 [] J<|lnr i J<|la J<|lnr q J<|la J<|en ?_
 refine ch h J ?_ ?_ <;> intro h
 ·refine att 4 [] J ?_
  exact rt u h
 refine att 7 [] J ?_
 refine lin (σ:=Int) (fun s=>[(0,a6),(1,a1),(5,iV s)]) (fun s=>St w0 e [] []) (fun m s=>eS N b c m s=some r) (0) N h (sx [] []) (fun x y s hm=>?_)
 revert hm;revert s;intro s1 hm
 have h:eS N b c (x+1) s1=some r:=hm
 show WT _ _ [(0,a6),(1,a1),(5,iV s1)] (St w0 e [] [])
 unfold eS at h
 refine atr 5 [] J<|lnr i J<|la J<|en ?_
 refine ch h J ?_ ?_ <;> intro h
 ·refine att 4 [] J<|WT.draw mixed NQ (fun _ h=>h.drew)<|aqq 2 [] J ?_
  obtain⟨k,v,h⟩:=bs h
  obtain⟨C,D,-,g1,E,F,z⟩:=i.el (a8 v).2.2
  obtain⟨rfl,-⟩:=z
  refine qq (an iX J J i v) J<|qq (aw l6 J (fun A hw=>(g1.of_eq 0 3 J J:rg _ _ _ [iV k.K,iV k.N,.string k.S]).rangeAt hw.in0) J) J<|aqq 2 [] J ?_
  obtain⟨o,w,h⟩:=bs h
  obtain⟨G,H,-,g2,I,K,B⟩:=q.el (a8 w).2.2
  obtain⟨rfl,-⟩:=B
  refine qq (an iX J J q w) J<|qq (aw l6 J (fun A hw=>(g2.of_eq 0 3 J J:rg _ _ _ [iV o.K,iV o.N,.string o.S]).rangeAt hw.in0) J) J<|qq (tH oe J J J (r:=bQ k o) J) J<|WQ.nil ?_
  refine ch h J ?_ ?_ <;> intro h
  ·refine att 4 [] J ?_
   exact rt u h
  refine att 7 [] J ?_
  exact lb [] [] (y _ h)
 refine att 5 [] J ?_
 exact rt u h
theorem xf (w0:aD f e []) (c:aI) (i:aI) (k:RSl aU 3 f n d c.Fields) (m:RSl aU 3 f l g i.Fields) {r:Bool} (h:mB N c i=some r) :
  CB w0 prog 108 [.agg [.string c.Kind,d].toArray,.agg [.string i.Kind,g].toArray] (.bool r):=by
 refine eN func108 J ntmps108 J w0 fun o=>?_
 unfold mB at h
 refine sr<|lbx J fun s=>lbx J fun u=>arr 10 [0,32,0,0] J ?_
 obtain⟨q,b,h⟩:=bs h
 refine WL.cutN 6 [(16,.bool q),(4,.bool false)] ?_ (fun K=>?_)
 rotate_left
 ·refine sp 10 b J (fun b=>?_) fun b=>?_
  ·refine arr 4 [1,32,1,0] J<|ly J J<|qd b (pV N · c.Fields i.Fields k m ·) J J J fun v b=>la J ?_
   cases b
   exact ku K
  ·refine arr 6 [] J ?_
   cases b
   exact ku K
 refine la J<|en ?_
 exact rt o h
theorem wU (w0:aD f e []) (c:ac) (b:aI) (k:RSl aY 3 f n d c.Items) (z:RSl aU 3 f l g b.Fields) {r:Int} (h:qL N c b=some r) :
  CB w0 prog 48 [.agg [d,iV c.Next].toArray,.agg [.string b.Kind,g].toArray] (iV r):=by
 refine eN func48 J ntmps48 J w0 fun u=>?_
 unfold qL at h
 refine sr<|lbx J fun o=>lbx J fun q=>art 8 [] J ?_
 refine lin (σ:=Int) (fun s=>[(2,pQ o),(3,pQ q),(5,iV s)]) (fun s=>St w0 e [(q,.cells #[.string b.Kind,g] 52 (0,0)),(o,.cells #[d,iV c.Next] 29 (0,0))] []) (fun m s=>jd N c b m s=some r) (0) N h (sx [] [0,0]) (fun A B s hm=>?_)
 revert hm;revert s;intro s1 hm
 have h:jd N c b (A+1) s1=some r:=hm
 show WT _ _ [(2,pQ o),(3,pQ q),(5,iV s1)] (St w0 e [(q,.cells #[.string b.Kind,g] 52 (0,0)),(o,.cells #[d,iV c.Next] 29 (0,0))] [])
 unfold jd at h
 refine atr 6 [0,32] J<|lnr k J<|la J<|en ?_
 refine ch h J ?_ ?_ <;> intro h
 ·refine att 4 [] J<|WT.draw mixed NQ (fun _ h=>h.drew)<|aqq 3 [0,32] J ?_
  obtain⟨v,w,h⟩:=bs h
  obtain⟨H,I,-,g1,K,L,C⟩:=k.el (a8 w).2.2
  obtain⟨v1,M,rfl,D,h1⟩:=C
  obtain rfl:=D.symm
  refine qq (an mN J J k w) J<|qq (ax yr J) J<|qq (aw mf J (fun x hw=>(g1.of_eq 1 2 J J:rg _ _ _ [.string v.F.Kind,v1]).rangeAt hw.in0) J) J<|qq (aw mf J (fun x hw=>hw.rgO (i:=0) J 0 2 [.string b.Kind,g] J) J) J ?_
  obtain⟨O,E,h⟩:=bs h
  refine qp (jk JD J (fun x hw=>xf N (ba hw.in0) v.F b h1 z E)) J<|WQ.nil ?_
  refine ch h J ?_ ?_ <;> intro h
  ·refine atr 5 [0,32] J ?_
   obtain⟨P,y,h⟩:=bs h
   obtain⟨Q,R,-,g2,S,T,F⟩:=k.el (a8 y).2.2
   obtain⟨v2,U,rfl,G,V⟩:=F
   obtain rfl:=G.symm
   refine lia k y J<|lf uW J J J<|lhx 0 0 g2 J<|la J<|en ?_
   exact rt u h
  refine att 7 [] J ?_
  exact lb [] [0,0] (B _ h)
 refine att 5 [] J ?_
 exact rt u h
theorem qm (w0:aD f e [[a]].flatten) (u:ab) (E:RSl (RI .u8) 1 f n d u.b) (F:e a=some (.cells #[d,iV u.i,iV u.h] 144 (0,0))) {r:aI × ab} (h:jU N u=some r) :
  Calls prog 61 [pQ a].toArray w0.w (bc e w0.w [[a]].flatten (fun O Fs v=>∃ (G:Value),v = .agg [.string r.1.Kind,G].toArray∧Fs=[ob G,[a]]∧OSl aU 95 3 O [] G r.1.Fields∧r.2.b=u.b∧O a=some (.cells #[d,iV r.2.i,iV r.2.h] 144 (0,0)))):=by
 refine eL func61 J ntmps61 J (L:=[[a]]) w0 (fun Z=>?_)
 unfold jU at h
 refine sr<|lnz lz J fun w=>arr 4 [] J ?_
 have a7:RC RS 1 e ([[],[],[],[]]:List (List Nat)) [.string (⟨#[111,114,100,101,114]⟩:ByteArray),.string (⟨#[112,97,105,100]⟩:ByteArray),.string (⟨#[105,116,101,109]⟩:ByteArray),.string (⟨#[111,114,100,101,114]⟩:ByteArray)] ([(⟨#[111,114,100,101,114]⟩:ByteArray),(⟨#[112,97,105,100]⟩:ByteArray),(⟨#[105,116,101,109]⟩:ByteArray),(⟨#[111,114,100,101,114]⟩:ByteArray)]:List ByteArray):=RC.cons (c:=[.string (⟨#[111,114,100,101,114]⟩:ByteArray)]) (cells:=[.string (⟨#[112,97,105,100]⟩:ByteArray),.string (⟨#[105,116,101,109]⟩:ByteArray),.string (⟨#[111,114,100,101,114]⟩:ByteArray)]) ⟨J,J⟩ J (RC.cons (c:=[.string (⟨#[112,97,105,100]⟩:ByteArray)]) (cells:=[.string (⟨#[105,116,101,109]⟩:ByteArray),.string (⟨#[111,114,100,101,114]⟩:ByteArray)]) ⟨J,J⟩ J (RC.cons (c:=[.string (⟨#[105,116,101,109]⟩:ByteArray)]) (cells:=[.string (⟨#[111,114,100,101,114]⟩:ByteArray)]) ⟨J,J⟩ J (RC.cons (c:=[.string (⟨#[111,114,100,101,114]⟩:ByteArray)]) (cells:=[]) ⟨J,J⟩ J (RC.nil _ _ _))))
 refine le' (bz (vs:=[(0,.string (⟨#[111,114,100,101,114]⟩:ByteArray)),(1,.string (⟨#[112,97,105,100]⟩:ByteArray)),(2,.string (⟨#[105,116,101,109]⟩:ByteArray)),(3,.string (⟨#[111,114,100,101,114]⟩:ByteArray))]) (C:=#[.string (⟨#[111,114,100,101,114]⟩:ByteArray),.string (⟨#[112,97,105,100]⟩:ByteArray),.string (⟨#[105,116,101,109]⟩:ByteArray),.string (⟨#[111,114,100,101,114]⟩:ByteArray)]) RS.lasts jn ue J J J J (ar AX (aa (C':=[.string (⟨#[111,114,100,101,114]⟩:ByteArray),.string ⟨#[]⟩,.string ⟨#[]⟩,.string ⟨#[]⟩]) J J J J J (aa (C':=[.string (⟨#[111,114,100,101,114]⟩:ByteArray),.string (⟨#[112,97,105,100]⟩:ByteArray),.string ⟨#[]⟩,.string ⟨#[]⟩]) J J J J J (aa (C':=[.string (⟨#[111,114,100,101,114]⟩:ByteArray),.string (⟨#[112,97,105,100]⟩:ByteArray),.string (⟨#[105,116,101,109]⟩:ByteArray),.string ⟨#[]⟩]) J J J J J (aa (C':=[.string (⟨#[111,114,100,101,114]⟩:ByteArray),.string (⟨#[112,97,105,100]⟩:ByteArray),.string (⟨#[105,116,101,109]⟩:ByteArray),.string (⟨#[111,114,100,101,114]⟩:ByteArray)]) J J J J J (ae)))))) J a7 J (by simpa using Kw.nil)) J ?_
 rintro v1 a8 D1 ⟨af,h1⟩
 replace h1:OSl RS 9 1 a8 [] v1 ([(⟨#[111,114,100,101,114]⟩:ByteArray),(⟨#[112,97,105,100]⟩:ByteArray),(⟨#[105,116,101,109]⟩:ByteArray),(⟨#[111,114,100,101,114]⟩:ByteArray)]:List ByteArray):=by simpa using h1
 replace F:=af _ _ NS F
 refine kcb [1] h J J J J (fun b ap z q=>gB N b u ([(⟨#[111,114,100,101,114]⟩:ByteArray),(⟨#[112,97,105,100]⟩:ByteArray),(⟨#[105,116,101,109]⟩:ByteArray),(⟨#[111,114,100,101,114]⟩:ByteArray)]:List ByteArray) (E.y z) F (h1.rsl.x (Dj.app (ap.q 0 J) dN)) q) ?_
 rintro o h v2 P F1 ⟨ax,ay,rfl,rfl,e1,h2⟩
 refine lq (bu (vs:=[(0,.string o.1)]) (C:=#[.string o.1,.slice none 0 0]) EW lz J (aa (C':=[.string o.1,.slice none 0 0]) J J J J J (ae))) J<|lnz lz J fun x=>soN 0 mC J ⟨J,J,trivial⟩ J ?_
 refine art 12 [0,0] J ?_
 refine cut (σ:=Int) (fun s=>[(0,pQ a),(2,pQ w),(3,pQ x),(4,iV s)]) (fun s=>St w0 P [(x,.cells #[.string o.1,.slice none 0 0] 52 (0,0)),(w,.cells #[.string (⟨#[]⟩:ByteArray),.slice none 0 0] 52 (0,0))] [[a]]) (fun s=>iI N u o s=some r) (fun s hm=>?_) (fun K=>?_)
 ·clear h
  revert hm;revert s;intro s1 hm
  have h:iI N u o s1=some r:=hm
  show WT _ _ [(0,pQ a),(2,pQ w),(3,pQ x),(4,iV s1)] (St w0 P [(x,.cells #[.string o.1,.slice none 0 0] 52 (0,0)),(w,.cells #[.string (⟨#[]⟩:ByteArray),.slice none 0 0] 52 (0,0))] [[a]])
  unfold iI at h
  refine atr 4 [] J<|kcb [0] h J J J J (fun b ap z q=>fu N b (⟨u.b,o.2.i,o.2.h⟩:ab) 12 (E.y z) h2 q) ?_
  rintro Q h v3 aA F2 ⟨aB,aC,rfl,rfl,e2,S⟩
  refine en ?_
  refine cut (σ:=Hp × Int × Int × Int) (fun s=>[(0,pQ a),(2,pQ w),(3,pQ x),(4,iV s.2.1)]) (fun s=>St w0 s.1 [(x,.cells #[.string o.1,.slice none 0 0] 52 (0,0)),(w,.cells #[.string (⟨#[]⟩:ByteArray),.slice none 0 0] 52 (0,0))] [[a]]) (fun s=>lg N u o s.2.1 s.2.2.1 s.2.2.2=some r∧(s.1 a=some (.cells #[d,iV s.2.2.1,iV s.2.2.2] 144 (0,0)))) (fun s hm=>?_) (fun K=>?_)
  ·clear h
   obtain⟨T,s2,s3,s4⟩:=s
   obtain⟨h,U⟩:=hm
   dsimp only at h U ⊢
   unfold lg at h
   refine att 6 [] J<|wtS ?_
   have k2:=OSl.nil aU 95 3 T
   refine lin (σ:=Hp × (List bN) × Value × Int × Int × Int) (fun s=>[(0,pQ a),(2,pQ w),(3,pQ x),(4,iV s2),(5,iV s.2.2.2.1)]) (fun s=>St w0 s.1 [(x,.cells #[.string o.1,s.2.2.1] 52 (0,0)),(w,.cells #[.string (⟨#[]⟩:ByteArray),.slice none 0 0] 52 (0,0))] [ob s.2.2.1,[a]]) (fun m s=>jy N u o s2 m s.2.1 s.2.2.2.1 s.2.2.2.2.1 s.2.2.2.2.2=some r∧(OSl aU 95 3 s.1 [] s.2.2.1 s.2.1)∧(s.1 a=some (.cells #[d,iV s.2.2.2.2.1,iV s.2.2.2.2.2] 144 (0,0)))) (T,([]:List bN),(.slice none 0 0),0,s3,s4) N ⟨h,k2,U⟩ (sx [0,0] [0,0]) (fun n3 ag s hm=>?_)
   obtain⟨aF,s5,H,s6,s7,s8⟩:=s
   obtain⟨h,y,I⟩:=hm
   dsimp only at h y I ⊢
   unfold jy at h
   refine att 7 [] J ?_
   refine ch h J ?_ ?_ <;> intro h
   ·refine att 3 [] J<|wm [0,1] [7] J<|amm 3 [0,1,1,0,2] [0,1] J J ?_
    obtain⟨k,ah,h⟩:=bs h
    refine WM.one 3 NQ (mc J (fun _ v V D A W hw=>Kn.of Kf.nil (ai2 0 1 J J) hw) (bH (js:=[1]) (R:=[ob H]) J9 J J (fun A hw ap hl=>pb N (bx hw ap hl) (⟨u.b,s7,s8⟩:ab) (E.y (hw.uo ap)) I  ah)) J ?_)
    rintro v4 ak F3 ⟨al,an,rfl,rfl,e3,B⟩
    replace y:=y.fr an (al.q 0 J) dN
    have ao:RC aU 3 ak ([[]]:List (List Nat)) [iV k.1.K,iV k.1.N,.string k.1.S] ([k.1]:List bN):=RC.cons (c:=[iV k.1.K,iV k.1.N,.string k.1.S]) (cells:=[]) ⟨J,J⟩ J (RC.nil _ _ _)
    refine WM.one 4 NQ (me J (fun _ v V D A W hw=>Kn.of Kf.nil (ai2 0 1 J J) hw) (bz (vs:=[(0,.agg [iV k.1.K,iV k.1.N,.string k.1.S].toArray)]) (C:=#[iV k.1.K,iV k.1.N,.string k.1.S]) aU.lasts iX jY J J J J (ar Ao (aa (C':=[iV k.1.K,iV k.1.N,.string k.1.S]) J J J J J (ae))) J ao J (by simpa using Kw.nil)) J ?_)
    rintro v5 aq D2 ⟨X,M⟩
    replace M:OSl aU 95 3 aq [] v5 ([k.1]:List bN):=by simpa using M
    replace y:=y.f0 X
    replace B:=X _ _ NS B
    obtain⟨x4,au,h⟩:=bs h
    refine WM.one 5 NQ (me J (fun _ v V D A W hw=>Kn.of Kf.nil (ai2 0 1 J J) hw) (dM aU.lasts aU.one aU.flat iX BR J J J J J (js:=[2]) (Rr:=[ob v5,[a]]) J y M.rsl au) J ?_)
    rintro v6 aG D3 ⟨⟨av,aw⟩,Y⟩
    replace B:=aw _ _ ((av.q 1 J) _ NS) B
    refine amm 1 [6,1] [0,1] J J ?_
    refine on1 7 (ms1 0 J nk EH J Y.one ?_)
    refine WM.nil NQ<|att 6 [] J ?_
    exact lb [0,1] [0,0] (ag (_,_,_,_,_,_) ⟨h,Y,B⟩)
   refine atr 4 [2] J<|soN 1 mC J ⟨J,y.one,trivial⟩ J ?_
   refine en ?_
   exact rtg [0,0] Z (az.one (aX mf J (fun A hw=>hw.rgO (i:=1) J 0 2 [.string o.1,H] J) J)) J (by cases h;exact fun A hw=>⟨H,rfl,rfl,y,rfl,I⟩)
  refine ch h J ?_ ?_ <;> intro h
  ·refine atr 2 [] J<|kcb [0] h J J J J (fun b ap z q=>cC N b (⟨u.b,Q.2.i,Q.2.h⟩:ab) 6 (E.y z) S q) ?_
   rintro x5 h v7 aH F4 ⟨aJ,aK,rfl,rfl,e4,h7⟩
   refine la J<|en ?_
   exact wo [0] [0,0] (K (_,_,_,_) ⟨h,h7⟩)
  refine WT.skip ?_
  exact wo [0] [0,0] (K (_,_,_,_) ⟨h,S⟩)
 refine ch h J ?_ ?_ <;> intro h
 ·refine att 3 [] J ?_
  exact wo [0] [0,0] (K _ h)
 refine WT.skip ?_
 exact wo [0] [0,0] (K _ h)
theorem y7 (w0:aD f e []) (b:(List Int)) (c:(List Int)) (i:RSl (RI .i64) 1 f aE a6 b) (k:RSl (RI .i64) 1 f ai a1 c) {r:Bool} (h:nQ N b c=some r) :
  CB w0 prog 81 [a6,a1] (.bool r):=by
 refine eN func81 J ntmps81 J w0 fun o=>?_
 unfold nQ at h
 refine atr 8 [] J<|lnr i J<|la J<|lnr k J<|la J<|en ?_
 refine ch h J ?_ ?_ <;> intro h
 ·refine att 4 [] J ?_
  exact rt o h
 refine att 7 [] J ?_
 refine lin (σ:=Int) (fun s=>[(0,a6),(1,a1),(5,iV s)]) (fun s=>St w0 e [] []) (fun m s=>iQ N b c m s=some r) (0) N h (sx [] []) (fun v w s hm=>?_)
 revert hm;revert s;intro s1 hm
 have h:iQ N b c (v+1) s1=some r:=hm
 show WT _ _ [(0,a6),(1,a1),(5,iV s1)] (St w0 e [] [])
 unfold iQ at h
 refine atr 5 [] J<|lnr i J<|la J<|en ?_
 refine ch h J ?_ ?_ <;> intro h
 ·refine att 4 [] J<|WT.draw mixed NQ (fun _ h=>h.drew)<|aqq 2 [] J ?_
  obtain⟨x,q,h⟩:=bs h
  obtain⟨C,D,-,g1,E,F,y⟩:=i.el (a8 q).2.2
  obtain⟨rfl,-⟩:=y
  refine qq (an cq J J i q) J<|qq (aZ sD J (fun z hw=>(g1.of_eq 0 1 J J:rg _ _ _ [iV x]).rangeAt hw.in0)) J<|aqq 2 [] J ?_
  obtain⟨A,u,h⟩:=bs h
  obtain⟨G,H,-,g2,I,K,B⟩:=k.el (a8 u).2.2
  obtain⟨rfl,-⟩:=B
  refine qq (an cq J J k u) J<|qq (aZ sD J (fun z hw=>(g2.of_eq 0 1 J J:rg _ _ _ [iV A]).rangeAt hw.in0)) J<|aqt 2 [] J ?_
  refine ch h J ?_ ?_ <;> intro h
  ·refine att 4 [] J ?_
   exact rt o h
  refine att 7 [] J ?_
  exact lb [] [] (w _ h)
 refine att 5 [] J ?_
 exact rt o h
theorem w6 (w0:aD f e []) (b:av) (c:av) (s:RSl aU 3 f n d b.Consts) (u:RSl (RI .i64) 1 f aj ad b.At) (v:RSl aU 3 f l g c.Consts) (w:RSl (RI .i64) 1 f t j c.At) {r:Bool} (h:lx N b c=some r) :
  CB w0 prog 203 [.agg [.string b.Kind,iV b.N,d,ad].toArray,.agg [.string c.Kind,iV c.N,g,j].toArray] (.bool r):=by
 refine eN func203 J ntmps203 J w0 fun x=>?_
 unfold lx at h
 refine sr<|lbx J fun o=>lbx J fun q=>arr 10 [0,32,0,0] J ?_
 obtain⟨y,m,h⟩:=bs h
 refine WL.cutN 6 [(16,.bool y),(2,pQ o),(3,pQ q),(4,.bool false)] ?_ (fun K=>?_)
 rotate_left
 ·refine sp 10 m J (fun m=>?_) fun m=>?_
  ·refine arr 6 [1,32,1,0] J ?_
   cases m
   exact ku K
  ·refine arr 6 [] J ?_
   cases m
   exact ku K
 refine la J ?_
 obtain⟨z,i,h⟩:=bs h
 refine WL.cutN 6 [(23,.bool z),(2,pQ o),(3,pQ q),(4,.bool false)] ?_ (fun K=>?_)
 rotate_left
 ·refine sp 17 i J (fun i=>?_) fun i=>?_
  ·refine arr 4 [3,32,3,0] J<|ly J J<|qd i (y7 N · b.At c.At u w ·) J J J fun B i=>la J ?_
   cases i
   exact ku K
  ·refine arr 6 [] J ?_
   cases i
   exact ku K
 refine la J ?_
 obtain⟨A,k,h⟩:=bs h
 refine WL.cutN 6 [(30,.bool A),(4,.bool false)] ?_ (fun K=>?_)
 rotate_left
 ·refine sp 24 k J (fun k=>?_) fun k=>?_
  ·refine arr 4 [2,32,2,0] J<|ly J J<|qd k (pV N · b.Consts c.Consts s v ·) J J J fun C k=>la J ?_
   cases k
   exact ku K
  ·refine arr 6 [] J ?_
   cases k
   exact ku K
 refine la J<|en ?_
 exact rt x h
theorem yN (w0:aD f e [[a],ob d].flatten) (x:ce) (b:av) (u:OSl cK 137 4 e p d x.Alphas) (aq:RSl eA 2 f aj ad x.Chains) (o:e a=some (.cells #[d,ad] 47 (0,0))) (z:RSl aU 3 f l g b.Consts) (A:RSl (RI .i64) 1 f t j b.At) (a7:Dj p [[a],ob d].flatten) {r:Int × ce} (h:nN N x b=some r) :
  Calls prog 145 [pQ a,.agg [.string b.Kind,iV b.N,g,j].toArray].toArray w0.w (bc e w0.w [[a],ob d].flatten (fun M Fs v=>∃ (G:Value) (O:List Nat),v=iV r.1∧Fs=[[a],ob G]∧OSl cK 137 4 M O G r.2.Alphas∧(∀ k∈O,k∈(p++(l++t)))∧r.2.Chains=x.Chains∧M a=some (.cells #[G,ad] 47 (0,0)))):=by
 refine eL func145 J ntmps145 J (L:=[[a],ob d]) w0 (fun P=>?_)
 have Q:=Old.mk w0 u.kn a7
 unfold nN at h
 refine sr<|lbx J fun y=>art 8 [] J ?_
 refine lin (σ:=Int) (fun s=>[(0,pQ a),(3,pQ y),(5,iV s)]) (fun s=>St w0 e [(y,.cells #[.string b.Kind,iV b.N,g,j] 137 (0,0))] [[a],ob d]) (fun m s=>fV N x b m s=some r) (0) N h (sx [0,0] [0]) (fun n1 ab s hm=>?_)
 revert hm;revert s;intro s1 hm
 have h:fV N x b (n1+1) s1=some r:=hm
 show WT _ _ [(0,pQ a),(3,pQ y),(5,iV s1)] (St w0 e [(y,.cells #[.string b.Kind,iV b.N,g,j] 137 (0,0))] [[a],ob d])
 unfold fV at h
 refine atr 5 [] J<|lq (aC J) J<|lf oT J J J<|lgx 0 0 (bP o) J<|lno u J<|la J<|en ?_
 refine ch h J ?_ ?_ <;> intro h
 ·refine att 4 [] J<|WT.draw mixed NQ (fun _ h=>h.drew)<|qq (iZ J) J<|qq (aC J) J<|qq (ax oT J) J<|qq (aZ HF J (fun q hw=>((bP o).of_eq 0 1 J J:rg _ _ _ [d]).rangeAt hw.fro)) J<|qq (iZ J) J ?_
  obtain⟨H,S,h⟩:=bs h
  obtain⟨au,F1,-,g1,ay,aA,r1⟩:=u.elS (a8 S).2.2
  obtain⟨v1,G1,v2,G2,rfl,rfl,h1,h2⟩:=r1
  refine qq (an A9 J J u.rsl S) J<|qq (aw ui J (fun q hw=>(g1.of_eq 0 4 J J:rg _ _ _ [.string H.Kind,iV H.N,v1,v2]).rangeAt hw.fro) J) J<|qq (aw ui J (fun q hw=>hw.rgO (i:=0) J 0 4 [.string b.Kind,iV b.N,g,j] J) J) J ?_
  obtain⟨x2,af,h⟩:=bs h
  refine qp (jk Io J (fun q hw=>w6 N (ba hw.fro) H b h1 h2 (z.y hw.up) (A.y hw.up) af)) J<|WQ.nil ?_
  refine ch h J ?_ ?_ <;> intro h
  ·refine att 5 [] J ?_
   exact rtg [0,0] P (az.one J) J (by cases h;exact fun q hw=>⟨d,p,rfl,rfl,u,(fun k hk=>(gb.2 (.inl hk))),J,o⟩)
  refine att 7 [] J ?_
  exact lb [0,0] [0] (ab _ h)
 refine xt J<|sq<|WT.mix (Kn w0 e [a] [(y,.cells #[.string b.Kind,iV b.N,g,j] 137 (0,0))]) (fun i=>match i with | 10=>false | _=>true) mixed (fun _ h=>h.drew)<|ma 0 J NQ (kn Kf.id (am [0] J)) J<|ma 1 J NQ (kn Kf.id (am [0] J)) J<|mq 2 J NQ (kn Kf.id (am [0] J)) (aC J) J<|mq 3 J NQ (kn Kf.id (am [0] J)) (ax oT J) J ?_
 refine mq 4 J NQ (kn Kf.id (am [0] J)) (aZ HF J (fun q hw=>hw.rg NS ((bP o).of_eq 0 1 J J:rg _ _ _ [d]))) J<|mq 5 J NQ (kn Kf.id (am [0] J)) (aw ui J (fun q hw=>hw.rgO (i:=0) J 0 4 [.string b.Kind,iV b.N,g,j] J) J) J ?_
 first | refine mu0 z fun T=>?_ | refine iu0 z fun T=>?_
 first | refine mu0 A fun U=>?_ | refine iu0 A fun U=>?_
 have V:RC cK 4 e ([l++(t)]:List (List Nat)) [.string b.Kind,iV b.N,g,j] ([b]:List av):=RC.cons (c:=[.string b.Kind,iV b.N,g,j]) (cells:=[]) ⟨g,l,j,t,J,J,T,U⟩ J (RC.nil _ _ _)
 refine WM.one 6 NQ (me J (fun _ v ag D q B hw=>Kn.of (Kf.id.se B.1) (am [0] J) hw) (bz (vs:=[(0,.agg [.string b.Kind,iV b.N,g,j].toArray)]) (C:=#[.string b.Kind,iV b.N,g,j]) cK.lasts A9 nc J J J J (ar BS (aa (C':=[.string b.Kind,iV b.N,g,j]) J J J J J (ae))) J V J (RC.kn cK.knows V)) J ?_)
 rintro v3 ah D1 ⟨I,K⟩
 replace K:OSl cK 137 4 ah (l++(t)) v3 ([b]:List av):=by simpa[gf] using K
 replace u:=u.f0 I
 replace o:=I _ _ NS o
 obtain⟨x3,ak,h⟩:=bs h
 have W:=(Kf.id (F:=[a]):Kf e _ _).se I
 refine WM.one 7 NQ (me J (fun _ v ag D q B hw=>Kn.of (W.st B.1.2 (B.1.1.r (i:=1) J)) (am [0] J) hw) (dS cK.lasts cK.one A9 Hz J J J J J (js:=[2]) (Rr:=[ob v3,[a]]) J u K (fun ap=>(ap.o Q)) (fun ap=>(Dj.sub (Dj.app (ap.o z.old) (ap.o A.old)) (fun k hk=>(by simpa[gf] using hk:k∈(l++t))))) ak) J ?_)
 rintro v4 aB D2 ⟨⟨X,Y⟩,w⟩
 replace o:=Y _ _ ((X.q 1 J) _ NS) o
 have Z:=W.st Y (X.q 1 J)
 refine mqT 8 [9,10] J NQ (kn Z (am [0] J)) (aC J) J<|mq 9 J NQ (kn Z (am [0] J)) (ax oT J) J ?_
 refine WM.thw (js:=[2]) (R:=[ob v4,ob v3]) J o (fun aF E al=>?_)
 replace w:=w.fr al (E.q 0 J) (Dj.app (E.o Q) (Dj.sub (Dj.app (E.o z.old) (E.o A.old)) (fun k hk=>(by simpa[gf] using hk:k∈(l++t)))))
 refine on1 10 (ms1 0 J nk JP J w.one ?_)
 refine WM.nil NQ<|sr<|la J<|lq (aC J) J<|arr 2 [0,0] J<|lno w J<|art 3 [] J ?_
 refine WT.frz (js:=[0]) (R:=[(y,.cells #[.string b.Kind,iV b.N,g,j] 137 (0,0))]) J (fun aG ao k1=>?_)
 replace w:=w.f0 ao
 exact rtg [0,0] P (az.one J) J (by cases h;exact fun q hw=>⟨v4,(p++(l++(t))),J,J,w,(fun k hk=>((gb.1 hk).elim (fun h=>(gb.2 (.inl h))) (fun h=>((gb.1 ((fun k hk=>(by simpa[gf] using hk:k∈(l++t))) k h)).elim (fun h=>(gb.2 (.inr (gb.2 (.inl h))))) (fun h=>(gb.2 (.inr (gb.2 (.inr h))))))))),J,k1⟩)
theorem xE (w0:aD f e []) (k:ay) (w:RSl f8 5 f n d k.Args) {r:av} (h:nX N k=some r) :
  Calls prog 146 [.agg [.string k.Kind,d,.bool k.Not].toArray].toArray w0.w (bc e w0.w [] (fun F Fs v=>∃ (z:Value) (A:Value),v = .agg [.string r.Kind,iV r.N,z,A].toArray∧Fs=[ob z,ob A]∧OSl aU 95 3 F [] z r.Consts∧OSl (RI .i64) 3 1 F [] A r.At)):=by
 refine eN func146 J ntmps146 J w0 fun S=>?_
 unfold nX at h
 refine sr<|lbx J fun G=>lnz nc J fun H=>arr 7 [0,32,1,32] J<|lnr w J<|lq (bu (vs:=[(0,.string k.Kind),(1,iV (k.Args.length:Int))]) (C:=#[.string k.Kind,iV (k.Args.length:Int),.slice none 0 0,.slice none 0 0]) GD nc J (aa (C':=[.string k.Kind,iV 0,.slice none 0 0,.slice none 0 0]) J J J J J (aa (C':=[.string k.Kind,iV (k.Args.length:Int),.slice none 0 0,.slice none 0 0]) J J J J J (ae)))) J<|lnz nc J fun I=>?_
 refine soN 0 rP J ⟨J,J,J,J,trivial⟩ J ?_
 refine art 7 [] J<|wtS ?_
 have T:=OSl.nil aU 95 3 e
 refine wtS ?_
 have U:=OSl.nil (RI .i64) 3 1 e
 refine lin (σ:=Hp × (List bN) × Value × (List Int) × Value × Int) (fun s=>[(1,pQ G),(2,pQ H),(3,pQ I),(4,iV s.2.2.2.2.2)]) (fun s=>St w0 s.1 [(I,.cells #[.string k.Kind,iV (k.Args.length:Int),s.2.2.1,s.2.2.2.2.1] 137 (0,0)),(H,.cells #[.string (⟨#[]⟩:ByteArray),iV 0,.slice none 0 0,.slice none 0 0] 137 (0,0)),(G,.cells #[.string k.Kind,d,.bool k.Not] 201 (0,0))] [ob s.2.2.2.2.1,ob s.2.2.1]) (fun m s=>fW N k m s.2.1 s.2.2.2.1 s.2.2.2.2.2=some r∧(OSl aU 95 3 s.1 [] s.2.2.1 s.2.1)∧(OSl (RI .i64) 3 1 s.1 [] s.2.2.2.2.1 s.2.2.2.1)) (e,([]:List bN),(.slice none 0 0),([]:List Int),(.slice none 0 0),0) N ⟨h,T,U⟩ (sx [0,0] [0,0,0]) (fun n1 K s hm=>?_)
 obtain⟨V,s1,L,s2,B,q⟩:=s
 obtain⟨h,u,o⟩:=hm
 dsimp only at h u o ⊢
 unfold fW at h
 refine atr 6 [1,64] J<|lnr w J<|la J<|en ?_
 refine ch h J ?_ ?_ <;> intro h
 ·refine atr 8 [1,64] J ?_
  obtain⟨x1,M,h⟩:=bs h
  obtain⟨ax,F1,-,g1,aA,aB,W⟩:=w.el (a8 M).2.2
  obtain⟨rfl,-⟩:=W
  refine lia w M J<|lf zY J J J<|lhx 0 0 g1 J<|la J<|en ?_
  refine ch h J ?_ ?_ <;> intro h
  ·refine sq<|wm [0,1,2] [11] J<|amm 5 [0,2,1,0,2,1,3,64,4] [0,1,2] J J ?_
   obtain⟨b,O,h⟩:=bs h
   obtain⟨aC,F2,-,g2,aF,aG,X⟩:=w.el (a8 O).2.2
   obtain⟨rfl,-⟩:=X
   refine mq 5 J NQ (kN [0,1,2]) (an yB J J w O) J<|amm 1 [6,2] [0,1,2] J J<|mq 7 J NQ (kN [0,1,2]) (aw l6 J (fun y hw=>(g2.of_eq 2 3 J J:rg _ _ _ [iV b.V.K,iV b.V.N,.string b.V.S]).rangeAt hw.1) J) J ?_
   have Y:RC aU 3 V ([[]]:List (List Nat)) [iV b.V.K,iV b.V.N,.string b.V.S] ([b.V]:List bN):=RC.cons (c:=[iV b.V.K,iV b.V.N,.string b.V.S]) (cells:=[]) ⟨J,J⟩ J (RC.nil _ _ _)
   refine WM.one 8 NQ (me J (fun _ v Z D y hq hw=>Kn.of Kf.nil (ai3 0 1 2 J J J) hw) (bz (vs:=[(0,.agg [iV b.V.K,iV b.V.N,.string b.V.S].toArray)]) (C:=#[iV b.V.K,iV b.V.N,.string b.V.S]) aU.lasts iX jY J J J J (ar Ao (aa (C':=[iV b.V.K,iV b.V.N,.string b.V.S]) J J J J J (ae))) J Y J (by simpa using Kw.nil)) J ?_)
   rintro v1 a7 D1 ⟨P,h1⟩
   replace h1:OSl aU 95 3 a7 [] v1 ([b.V]:List bN):=by simpa using h1
   replace u:=u.f0 P
   replace o:=o.f0 P
   obtain⟨x3,ab,h⟩:=bs h
   refine WM.one 9 NQ (me J (fun _ v Z D y hq hw=>Kn.of Kf.nil (ai3 0 1 2 J J J) hw) (dM aU.lasts aU.one aU.flat iX BR J J J J J (js:=[2]) (Rr:=[ob v1,ob B]) J u h1.rsl ab) J ?_)
   rintro v2 af D2 ⟨⟨ag,ah⟩,x⟩
   replace o:=o.fr ah (ag.q 1 J) dN
   refine amm 1 [10,2] [0,1,2] J J ?_
   refine on1 11 (ms1 0 J nk EH J x.one ?_)
   refine WM.nil NQ<|atr 4 [3,0] J ?_
   have ak:RC (RI .i64) 1 af ([[]]:List (List Nat)) [iV q] ([q]:List Int):=RC.cons (c:=[iV q]) (cells:=[]) ⟨J,J⟩ J (RC.nil _ _ _)
   refine le' (bz (vs:=[(0,iV q)]) (C:=#[iV q]) RI.lasts cq mg J J J J (ar ki (aa (C':=[iV q]) J J J J J (ae))) J ak J (by simpa using Kw.nil)) J ?_
   rintro v3 al D3 ⟨Q,E⟩
   replace E:OSl (RI .i64) 3 1 al [] v3 ([q]:List Int):=by simpa using E
   replace x:=x.f0 Q
   replace o:=o.f0 Q
   obtain⟨x4,ao,h⟩:=bs h
   refine le' (dM RI.lasts RI.one RI.flat cq sh J J J J J (js:=[3]) (Rr:=[ob v3,ob v2,ob v1]) J o E.rsl ao) J ?_
   rintro v4 aH D4 ⟨⟨aq,au⟩,R⟩
   replace x:=x.fr au (aq.q 1 J) dN
   refine lf zZ J J J<|so1 0 td J R.one ?_
   refine art 7 [] J ?_
   exact lb [0,1] [0,0,0] (K (_,_,_,_,_,_) ⟨h,x,R⟩)
  refine att 7 [] J ?_
  exact lb [0,0] [0,0,0] (K (_,_,_,_,_,_) ⟨h,u,o⟩)
 refine atr 4 [4] J<|soN 1 rP J ⟨J,J,u.one,o.one,trivial⟩ J ?_
 refine en ?_
 exact rtg [1,0] S (az.one (aX ui J (fun y hw=>hw.rgO (i:=1) J 0 4 [.string k.Kind,iV (k.Args.length:Int),L,B] J) J)) J (by cases h;exact fun y hw=>⟨L,B,rfl,rfl,u,o⟩)
theorem zt (w0:aD f e []) (L:bv) (V:RSl fb 5 f n d L.Rules) {r:ce} (h:pT N L=some r) :
  Calls prog 78 [.agg [.string L.Name,d].toArray].toArray w0.w (bc e w0.w [] (fun aK Fs v=>∃ (aw:Value) (aL:List Nat) (ax:Value) (aM:List Nat) (X:List Nat),v = .agg [aw,ax].toArray∧Fs=[ob aw,ob ax,aM,X]∧OSl cK 137 4 aK aL aw r.Alphas∧(∀ k∈aL,k∈X)∧OSl bJ 141 2 aK aM ax r.Chains)):=by
 refine eN func78 J ntmps78 J w0 fun hF=>?_
 unfold pT at h
 refine sr<|lbx J fun W=>lnz sI J fun Y=>en<|sr<|lq (bu (vs:=[]) (C:=#[.slice none 0 0,.slice none 0 0]) Md sI J (ae)) J<|lnz sI J fun T=>soN 0 uO J ⟨J,J,trivial⟩ J ?_
 refine art 7 [] J<|wt0<|wtS ?_
 have k1:=OSl.nil cK 137 4 e
 refine wtS<|wt0 ?_
 have k2:=OSl.nil bJ 141 2 e
 refine lin (σ:=Hp × List Nat × (List av) × Value × List Nat × (List aG) × Value × List Nat × Int) (fun s=>[(1,pQ W),(2,pQ Y),(3,pQ T),(4,iV s.2.2.2.2.2.2.2.2)]) (fun s=>St w0 s.1 [(T,.cells #[s.2.2.2.1,s.2.2.2.2.2.2.1] 47 (0,0)),(Y,.cells #[.slice none 0 0,.slice none 0 0] 47 (0,0)),(W,.cells #[.string L.Name,d] 26 (0,0))] [s.2.2.2.2.2.2.2.1,ob s.2.2.2.2.2.2.1,ob s.2.2.2.1,s.2.1]) (fun m s=>eC N L m s.2.2.1 s.2.2.2.2.2.1 s.2.2.2.2.2.2.2.2=some r∧(OSl cK 137 4 s.1 s.2.2.2.2.1 s.2.2.2.1 s.2.2.1)∧(∀ k∈s.2.2.2.2.1,k∈s.2.1)∧(OSl bJ 141 2 s.1 s.2.2.2.2.2.2.2.1 s.2.2.2.2.2.2.1 s.2.2.2.2.2.1)) (e,[],([]:List av),(.slice none 0 0),[],([]:List aG),(.slice none 0 0),[],0) N ⟨h,k1,NS,k2⟩ (sx [0,0,0,0] [0,0,0]) (fun n1 aZ s hm=>?_)
 obtain⟨ay,A,s1,u1,D1,s2,G,E,s3⟩:=s
 obtain⟨h,k3,i1,o⟩:=hm
 dsimp only at h k3 i1 o ⊢
 unfold eC at h
 refine atr 6 [1,64] J<|lnr V J<|la J<|en ?_
 refine ch h J ?_ ?_ <;> intro h
 ·refine atr 5 [] J<|lq (bu (vs:=[]) (C:=#[.slice none 0 0,.slice none 0 0]) Lh rE J (ae)) J<|lnz rE J fun aA=>soN 0 yH J ⟨J,J,trivial⟩ J ?_
  refine art 7 [] J<|wt0<|wtS ?_
  have k5:=OSl.nil (RI .i64) 3 1 ay
  refine wtS ?_
  have k6:=OSl.nil (RI .i64) 3 1 ay
  refine lin (σ:=Hp × List Nat × (List av) × Value × List Nat × (List Int) × Value × (List Int) × Value × Int) (fun s=>[(1,pQ W),(2,pQ Y),(3,pQ T),(4,iV s3),(5,pQ aA),(6,iV s.2.2.2.2.2.2.2.2.2)]) (fun s=>St w0 s.1 [(aA,.cells #[s.2.2.2.2.2.2.2.2.1,s.2.2.2.2.2.2.1] 141 (0,0)),(T,.cells #[s.2.2.2.1,G] 47 (0,0)),(Y,.cells #[.slice none 0 0,.slice none 0 0] 47 (0,0)),(W,.cells #[.string L.Name,d] 26 (0,0))] [ob s.2.2.2.2.2.2.2.2.1,ob s.2.2.2.2.2.2.1,s.2.1,E,ob G,ob s.2.2.2.1,A]) (fun m s=>fv N L s2 s3 (eC N L n1) m s.2.2.1 s.2.2.2.2.2.1 s.2.2.2.2.2.2.2.1 s.2.2.2.2.2.2.2.2.2=some r∧(OSl cK 137 4 s.1 s.2.2.2.2.1 s.2.2.2.1 s.2.2.1)∧(∀ k∈s.2.2.2.2.1,k∈(A++s.2.1))∧(OSl bJ 141 2 s.1 E G s2)∧(OSl (RI .i64) 3 1 s.1 [] s.2.2.2.2.2.2.1 s.2.2.2.2.2.1)∧(OSl (RI .i64) 3 1 s.1 [] s.2.2.2.2.2.2.2.2.1 s.2.2.2.2.2.2.2.1)) (ay,[],s1,u1,D1,([]:List Int),(.slice none 0 0),([]:List Int),(.slice none 0 0),0) N ⟨h,k3,(fun k hk=>(gb.2 (.inl (i1 k hk)))),o,k5,k6⟩ (sx [0,0,0,0,0,0,0] [0,0,0,0]) (fun n2 aN s hm=>?_)
  obtain⟨b0,I,s4,u3,D3,s5,x,s6,y,s7⟩:=s
  obtain⟨h,H,i2,o,u,w⟩:=hm
  dsimp only at h H i2 o u w ⊢
  unfold fv at h
  refine atr 7 [1,96] J ?_
  obtain⟨x1,aO,h⟩:=bs h
  obtain⟨be,F1,-,g1,bf,bg,r1⟩:=V.el (a8 aO).2.2
  obtain⟨v1,G1,v2,G2,v3,G3,rfl,rfl,h1,h2,h3⟩:=r1
  refine lia V aO J<|lf C8 J J J<|lhx 2 0 g1 J<|lnr h1 J<|la J<|en ?_
  refine ch h J ?_ ?_ <;> intro h
  ·refine atr 8 [1,96] J ?_
   obtain⟨x2,aP,h⟩:=bs h
   obtain⟨bh,F2,-,g2,bj,bk,r2⟩:=V.el (a8 aP).2.2
   obtain⟨v4,G4,v5,G5,v6,G6,rfl,rfl,h4,h5,h6⟩:=r2
   refine lia V aP J<|lf C8 J J J<|lhx 2 0 g2 J<|la J ?_
   obtain⟨x3,aQ,h⟩:=bs h
   obtain⟨bl,F3,-,g3,bm,bn,r3⟩:=h4.el (a8 aQ).2.2
   obtain⟨v7,G7,rfl,b1,h7⟩:=r3
   obtain rfl:=b1.symm
   refine lia h4 aQ J<|lhx 0 3 g3 J<|lnz lI J fun b2=>soN 0 pD J ⟨J,h7.one,J,trivial⟩ J ?_
   refine arr 4 [3] J<|kab h J J J (fun b z q=>xE N b x3 (h7.y z) q) ?_
   rintro x4 h v8 bo F4 ⟨S,ab,v9,v10,rfl,rfl,h8,h9⟩
   replace H:=H.fr ab (S.q 5 J) (Dj.sub (Dj.app (S.q 6 J) (S.q 2 J)) i2)
   replace o:=o.fr ab (S.q 4 J) (S.q 3 J)
   replace u:=u.fr ab (S.q 1 J) dN
   replace w:=w.fr ab (S.q 0 J) dN
   refine WL.frz (js:=[2]) (R:=[(b2,.cells #[.string x3.Kind,v7,.bool x3.Not] 201 (0,0)),(aA,.cells #[y,x] 141 (0,0)),(Y,.cells #[.slice none 0 0,.slice none 0 0] 47 (0,0)),(W,.cells #[.string L.Name,d] 26 (0,0))]) J (fun bp U b3=>?_)
   replace H:=H.f0 U
   replace o:=o.f0 U
   replace u:=u.f0 U
   replace w:=w.f0 U
   replace h8:=h8.f0 U
   replace h9:=h9.f0 U
   refine kcb [0,7] h J J J J (fun b ap z q=>yN N b (⟨s4,s2⟩:ce) x4 H ((o.rslG bJ.gives).x (Dj.app (ap.q 6 J) (ap.q 5 J))) b3 (h8.rsl.x (Dj.app (ap.q 0 J) dN)) (h9.rsl.x (Dj.app (ap.q 1 J) dN)) (Dj.sub (Dj.app (ap.q 7 J) (ap.q 4 J)) i2) q) ?_
   rintro B h v11 aR F5 ⟨af,aB,v12,D4,rfl,rfl,D,i3,e1,K⟩
   replace o:=o.fr aB (af.q 6 J) (af.q 5 J)
   replace u:=u.fr aB (af.q 3 J) dN
   replace w:=w.fr aB (af.q 2 J) dN
   refine art 7 [2,0] J ?_
   refine ch h J ?_ ?_ <;> intro h
   ·refine atr 4 [1,32] J ?_
    have b4:RC (RI .i64) 1 aR ([[]]:List (List Nat)) [iV B.1] ([B.1]:List Int):=RC.cons (c:=[iV B.1]) (cells:=[]) ⟨J,J⟩ J (RC.nil _ _ _)
    refine le' (bz (vs:=[(0,iV B.1)]) (C:=#[iV B.1]) RI.lasts cq mg J J J J (ar ki (aa (C':=[iV B.1]) J J J J J (ae))) J b4 J (by simpa using Kw.nil)) J ?_
    rintro ag b5 D5 ⟨Z,aC⟩
    replace aC:OSl (RI .i64) 3 1 b5 [] ag ([B.1]:List Int):=by simpa using aC
    replace o:=o.f0 Z
    replace u:=u.f0 Z
    replace w:=w.f0 Z
    replace D:=D.f0 Z
    replace K:=Z _ _ NS K
    obtain⟨x6,b6,h⟩:=bs h
    refine le' (dM RI.lasts RI.one RI.flat cq sh J J J J J (js:=[6]) (Rr:=[ob ag,[T],ob v12,ob v9,ob v10,ob y,I,E,ob G,A]) J u aC.rsl b6) J ?_
    rintro aS bq D6 ⟨⟨M,ah⟩,ak⟩
    replace o:=o.fr ah (M.q 8 J) (M.q 7 J)
    replace w:=w.fr ah (M.q 5 J) dN
    replace D:=D.fr ah (M.q 2 J) (Dj.sub (Dj.app (Dj.sub (Dj.app (M.q 9 J) (M.q 6 J)) i2) (Dj.app (Dj.sub (M.q 3 J) rW) (Dj.sub (M.q 4 J) rW))) i3)
    replace K:=ah _ _ ((M.q 1 J) _ NS) K
    refine lf Am J J J<|so1 1 td J ak.one ?_
    refine art 7 [] J ?_
    refine WT.thw (js:=[2]) (R:=[ob aS,ob ag,ob v12,ob v9,ob v10,ob y,I,E,ob G,A]) J K (fun br O al=>?_)
    replace o:=o.fr al (O.q 8 J) (O.q 7 J)
    replace ak:=ak.fr al (O.q 0 J) dN
    replace w:=w.fr al (O.q 5 J) dN
    replace D:=D.fr al (O.q 2 J) (Dj.sub (Dj.app (Dj.sub (Dj.app (O.q 9 J) (O.q 6 J)) i2) (Dj.app (Dj.sub (O.q 3 J) rW) (Dj.sub (O.q 4 J) rW))) i3)
    refine wtL [(I++(ob v9++(ob v10))),ob aS,ob ag,ob v12,ob y,E,ob G,A] (smg [6,3,3] J (SP.eq (by simp[gf]))) ?_
    exact lb [4,1,0,2,2,1,1] [2,0,1,1] (aN (_,_,_,_,_,_,_,_,_,_) ⟨h,D,(fun k hk=>((gb.1 (i3 k hk)).elim (fun h=>((gb.1 (i2 k h)).elim (fun h=>(gb.2 (.inl h))) (fun h=>(gb.2 (.inr ((fun k hk=>(gb.2 (.inl hk))) k h)))))) (fun h=>((gb.1 h).elim (fun h=>(gb.2 (.inr ((fun k hk=>(gb.2 (.inr (gb.2 (.inl hk))))) k (rW k h))))) (fun h=>(gb.2 (.inr ((fun k hk=>(gb.2 (.inr (gb.2 (.inr hk))))) k (rW k h))))))))),o,ak,w⟩)
   refine atr 4 [0,32] J ?_
   have b7:RC (RI .i64) 1 aR ([[]]:List (List Nat)) [iV B.1] ([B.1]:List Int):=RC.cons (c:=[iV B.1]) (cells:=[]) ⟨J,J⟩ J (RC.nil _ _ _)
   refine le' (bz (vs:=[(0,iV B.1)]) (C:=#[iV B.1]) RI.lasts cq mg J J J J (ar ki (aa (C':=[iV B.1]) J J J J J (ae))) J b7 J (by simpa using Kw.nil)) J ?_
   rintro an b8 D7 ⟨a7,aF⟩
   replace aF:OSl (RI .i64) 3 1 b8 [] an ([B.1]:List Int):=by simpa using aF
   replace o:=o.f0 a7
   replace u:=u.f0 a7
   replace w:=w.f0 a7
   replace D:=D.f0 a7
   replace K:=a7 _ _ NS K
   obtain⟨x7,b9,h⟩:=bs h
   refine le' (dM RI.lasts RI.one RI.flat cq sh J J J J J (js:=[5]) (Rr:=[ob an,[T],ob v12,ob v9,ob v10,ob x,I,E,ob G,A]) J w aF.rsl b9) J ?_
   rintro aT bt D8 ⟨⟨P,ao⟩,aq⟩
   replace o:=o.fr ao (P.q 8 J) (P.q 7 J)
   replace u:=u.fr ao (P.q 5 J) dN
   replace D:=D.fr ao (P.q 2 J) (Dj.sub (Dj.app (Dj.sub (Dj.app (P.q 9 J) (P.q 6 J)) i2) (Dj.app (Dj.sub (P.q 3 J) rW) (Dj.sub (P.q 4 J) rW))) i3)
   replace K:=ao _ _ ((P.q 1 J) _ NS) K
   refine lf vN J J J<|so1 1 td J aq.one ?_
   refine art 7 [] J ?_
   refine WT.thw (js:=[2]) (R:=[ob aT,ob an,ob v12,ob v9,ob v10,ob x,I,E,ob G,A]) J K (fun bw Q au=>?_)
   replace o:=o.fr au (Q.q 8 J) (Q.q 7 J)
   replace u:=u.fr au (Q.q 5 J) dN
   replace aq:=aq.fr au (Q.q 0 J) dN
   replace D:=D.fr au (Q.q 2 J) (Dj.sub (Dj.app (Dj.sub (Dj.app (Q.q 9 J) (Q.q 6 J)) i2) (Dj.app (Dj.sub (Q.q 3 J) rW) (Dj.sub (Q.q 4 J) rW))) i3)
   refine wtL [(I++(ob v9++(ob v10))),ob aT,ob an,ob v12,ob x,E,ob G,A] (smg [6,3,3] J (SP.eq (by simp[gf]))) ?_
   exact lb [1,3,0,2,2,1,1] [2,0,1,1] (aN (_,_,_,_,_,_,_,_,_,_) ⟨h,D,(fun k hk=>((gb.1 (i3 k hk)).elim (fun h=>((gb.1 (i2 k h)).elim (fun h=>(gb.2 (.inl h))) (fun h=>(gb.2 (.inr ((fun k hk=>(gb.2 (.inl hk))) k h)))))) (fun h=>((gb.1 h).elim (fun h=>(gb.2 (.inr ((fun k hk=>(gb.2 (.inr (gb.2 (.inl hk))))) k (rW k h))))) (fun h=>(gb.2 (.inr ((fun k hk=>(gb.2 (.inr (gb.2 (.inr hk))))) k (rW k h))))))))),o,u,aq⟩)
  refine atr 5 [1,32,2] J ?_
  have aU:RC bJ 2 b0 ([(ob y++[])++((ob x++[]))]:List (List Nat)) [y,x] ([(⟨s6,s5⟩:aG)]:List aG):=RC.cons (c:=[y,x]) (cells:=[]) ⟨y,x,J,J,w,u⟩ J (RC.nil _ _ _)
  refine le' (bz (vs:=[(0,.agg [y,x].toArray)]) (C:=#[y,x]) bJ.lasts A7 rE J J J J (ar Cw (aa (C':=[y,x]) J J J J J (ae))) J aU J (RC.kn bJ.knows aU)) J ?_
  rintro v17 ba D9 ⟨aV,aI⟩
  replace aI:OSl bJ 141 2 ba ((ob y++[])++((ob x++[]))) v17 ([(⟨s6,s5⟩:aG)]:List aG):=by simpa[gf] using aI
  replace H:=H.f0 aV
  replace o:=o.f0 aV
  refine wlL [((ob y++[])++((ob x++[]))),ob v17,I,E,ob G,ob u3,A] (smg [1,1] J (SP.eq (by simp[gf,cO]))) ?_
  obtain⟨x8,bb,h⟩:=bs h
  refine le' (dS bJ.lasts bJ.one A7 I4 J J J J J (js:=[4]) (Rr:=[((ob y++[])++((ob x++[]))),ob v17,I,E,ob u3,A]) J o aI (fun ap=>ap.q 3 J) (fun ap=>ap.q 0 J) bb) J ?_
  rintro aW bx bA ⟨⟨aJ,bd⟩,aY⟩
  replace H:=H.fr bd (aJ.q 4 J) (Dj.sub (Dj.app (aJ.q 5 J) (aJ.q 2 J)) i2)
  refine wlL [(E++((ob y++[])++((ob x++[])))),ob aW,ob v17,I,ob u3,A] (smg [4,1] J (SP.eq NS))<|lf BZ J J J<|so1 1 Ki J aY.one ?_
  refine art 7 [] J<|wtL [(A++(I)),(E++((ob y++[])++((ob x++[])))),ob aW,ob v17,ob u3] (smg [5,3] J (SP.eq (by simp[gf]))) ?_
  exact lb [1,1,2,0] [1,1,1] (aZ (_,_,_,_,_,_,_,_,_) ⟨h,H,(fun k hk=>((gb.1 (i2 k hk)).elim (fun h=>((fun k hk=>(gb.2 (.inl hk))) k h)) (fun h=>((fun k hk=>(gb.2 (.inr hk))) k h)))),aY⟩)
 refine atr 4 [2] J<|soN 1 uO J ⟨k3.one,o.one,trivial⟩ J ?_
 refine en ?_
 refine WT.ret hF (az.one (aX Ee J (fun w1 hw=>hw.rgO (i:=1) J 0 2 [u1,G] J) J)) (fun w1 hw=>?_)
 cases h
 replace hw:=hw.merge (js:=[3]) (F:=[A].flatten) J (SP.eq NS)
 refine aH (js:=[3,2,1,0]) hw J ⟨u1,D1,G,E,[A].flatten,J,J,k3,(fun k hk=>(List.mem_flatten.2 ⟨A,NS,(i1 k hk)⟩)),o⟩
theorem tU (w0:aD f e [[a]].flatten) (w:ac) (y:Int) (q:RSl aY 3 f n d w.Items) (z:e a=some (.cells #[d,iV w.Next] 29 (0,0))) {r:Bool × ac} (h:mR N w y=some r) :
  Calls prog 90 [pQ a,iV y].toArray w0.w (bc e w0.w [[a]].flatten (fun E Fs v=>∃ (A:Value) (F:List Nat),v = .bool r.1∧Fs=[[a],ob A]∧OSl aY 66 3 E F A r.2.Items∧(∀ k∈F,k∈n)∧E a=some (.cells #[A,iV r.2.Next] 29 (0,0)))):=by
 refine eL func90 J ntmps90 J (L:=[[a]]) w0 (fun S=>?_)
 unfold mR at h
 refine atr 6 [] J ?_
 have T:RC cR 3 e ([]:List (List Nat)) [] ([]:List ag):=RC.nil _ _ _
 refine le' (bz (vs:=[]) (C:=#[]) cR.lasts mN ox J J J J (ar Iv (ae)) J T J (by simpa using Kw.nil)) J ?_
 rintro v1 B D1 ⟨U,h1⟩
 replace h1:OSl cR 66 3 B [] v1 ([]:List ag):=by simpa[gf] using h1
 replace z:=U _ _ NS z
 refine WL.conv (S':=St w0 B [] [[],ob v1,[a]]) (fun V hw=>hw.addNil)<|art 8 [] J ?_
 replace h1:=h1.gives cR.gives
 refine lin (σ:=Hp × (List ag) × Value × List Nat × Int) (fun s=>[(0,pQ a),(1,iV y),(5,s.2.2.1),(6,iV s.2.2.2.2)]) (fun s=>St w0 s.1 [] [ob s.2.2.1,[a]]) (fun m s=>fC N w y m s.2.1 s.2.2.2.2=some r∧(OSl aY 66 3 s.1 s.2.2.2.1 s.2.2.1 s.2.1)∧(∀ k∈s.2.2.2.1,k∈n)∧(s.1 a=some (.cells #[d,iV w.Next] 29 (0,0)))) (B,([]:List ag),v1,[],0) N ⟨h,h1,NS,z⟩ (sx [1,1] []) (fun n1 G s hm=>?_)
 obtain⟨W,s1,H,X,s2⟩:=s
 obtain⟨h,b,u,i⟩:=hm
 dsimp only at h b u i ⊢
 unfold fC at h
 refine atr 5 [] J<|lq (aC J) J<|lf kg J J J<|lgx 0 0 (bP i) J<|lnr q J<|la J<|en ?_
 refine ch h J ?_ ?_ <;> intro h
 ·refine atr 6 [] J<|lq (aC J) J<|lf kg J J J<|lgx 0 0 (bP i) J<|la J ?_
  obtain⟨x1,I,h⟩:=bs h
  obtain⟨ao,F1,-,g1,aq,au,Y⟩:=q.el (a8 I).2.2
  obtain⟨v2,G1,rfl,Z,h2⟩:=Y
  obtain rfl:=Z.symm
  refine lia q I J<|lf uW J J J<|lhx 0 0 g1 J<|art 3 [] J ?_
  refine ch h J ?_ ?_ <;> intro h
  ·refine atr 3 [] J<|lq (aC J) J<|lf kg J J J<|lgx 0 0 (bP i) J<|la J ?_
   obtain⟨o,K,h⟩:=bs h
   obtain⟨av,F2,-,g2,aw,M,r2⟩:=q.el (a8 K).2.2
   obtain⟨v3,x,rfl,a7,h3⟩:=r2
   obtain rfl:=a7.symm
   refine lia q K J<|lhx 0 3 g2 J<|lu0 h3 fun h4=>?_
   have O:RC aY 3 W ([x]:List (List Nat)) [iV o.Id,.string o.F.Kind,v3] ([o]:List ag):=RC.cons (c:=[iV o.Id,.string o.F.Kind,v3]) (cells:=[]) ⟨v3,x,J,J,h4⟩ J (RC.nil _ _ _)
   refine le' (bz (vs:=[(0,.agg [iV o.Id,.string o.F.Kind,v3].toArray)]) (C:=#[iV o.Id,.string o.F.Kind,v3]) aY.lasts mN ox J J J J (ar xq (aa (C':=[iV o.Id,.string o.F.Kind,v3]) J J J J J (ae))) J O J (RC.kn aY.knows O)) J ?_
   rintro v4 ab D3 ⟨P,D⟩
   replace D:OSl aY 66 3 ab (x) v4 ([o]:List ag):=by simpa[gf] using D
   replace b:=b.f0 P
   replace i:=P _ _ NS i
   obtain⟨x3,af,h⟩:=bs h
   refine le' (dS aY.lasts aY.one mN EI J J J J J (js:=[1]) (Rr:=[ob v4,[a]]) J b D (fun ap=>(Dj.sub (ap.o q.old) u)) (fun ap=>(Dj.sub (Dj.sub (ap.o q.old) (fun k h=>M k h)) (fun k hk=>(by simpa[gf] using hk:k∈x)))) af) J ?_
   rintro v5 ax D4 ⟨⟨ah,ak⟩,h6⟩
   replace i:=ak _ _ ((ah.q 1 J) _ NS) i
   refine art 8 [] J ?_
   exact lb [0,1] [] (G (_,_,_,_,_) ⟨h,h6,(fun k hk=>((gb.1 hk).elim (fun h=>(u k h)) (fun h=>((fun k h=>M k h) k ((fun k hk=>(by simpa[gf] using hk:k∈x)) k h))))),i⟩)
  refine att 7 [] J ?_
  exact lb [0,0] [] (G (_,_,_,_,_) ⟨h,b,(fun k hk=>(u k hk)),i⟩)
 refine atr 4 [] J<|lno b J<|la J<|lq (aC J) J<|lf kg J J J<|lgx 0 0 (bP i) J<|lnr q J<|arr 7 [] J<|lq (aC J) J<|lf kg J J J ?_
 refine WL.thw (js:=[1]) (R:=[ob H]) J i (fun ay Q al=>?_)
 replace b:=b.fr al (Q.q 0 J) (Dj.sub (Q.o q.old) u)
 refine so1 0 DT J b.one ?_
 refine art 6 [] J ?_
 refine WT.frz (js:=[0]) (R:=[]) J (fun aA an k3=>?_)
 replace b:=b.f0 an
 exact rtg [0,0] S (az.one J) J (by cases h;exact fun V hw=>⟨H,X,rfl,rfl,b,(fun k hk=>(u k hk)),k3⟩)
theorem u6 (w0:aD f e []) (b:aI) (m:RSl aU 3 f n d b.Fields) {r:aI} (h:iH N b=some r) :
  Calls prog 154 [.agg [.string b.Kind,d].toArray].toArray w0.w (bc e w0.w [] (fun o Fs v=>∃ (c:Value),v = .agg [.string r.Kind,c].toArray∧Fs=[ob c]∧OSl aU 95 3 o [] c r.Fields)):=by
 refine eN func154 J ntmps154 J w0 fun q=>?_
 unfold iH at h
 refine sr<|lbx J fun x=>lnz lz J fun y=>en<|sr<|le' (lJ aU.lasts iX jY J J) J ?_
 rintro v1 z A ⟨B,h1⟩
 refine arr 2 [1,32] J<|lu0 m fun s=>?_
 obtain⟨C,u,h⟩:=bs h
 refine le' (dM aU.lasts aU.one aU.flat iX BR J J J J J (js:=[0]) (Rr:=[]) J h1 s u) J ?_
 rintro v2 D E ⟨⟨F,G⟩,k⟩
 refine lf Ia J J J<|so1 1 EH J k.one ?_
 refine arr 4 [34] J<|soN 0 mC J ⟨J,k.one,trivial⟩ J ?_
 refine en ?_
 exact rtg [0] q (az.one (aX mf J (fun w hw=>hw.rgO (i:=0) J 0 2 [.string b.Kind,v2] J) J)) J (by cases h;exact fun w hw=>⟨v2,rfl,rfl,k⟩)
theorem rZ (w0:aD f e [[a],ob d].flatten) (b:ac) (q:aI) (s:OSl aY 66 3 e p d b.Items) (m:e a=some (.cells #[d,iV b.Next] 29 (0,0))) (Q:RSl aU 3 f l g q.Fields) (ab:Dj p [[a],ob d].flatten) {r:Int × ac} (h:gz N b q=some r) :
  Calls prog 91 [pQ a,.agg [.string q.Kind,g].toArray].toArray w0.w (bc e w0.w [[a],ob d].flatten (fun S Fs v=>∃ (B:Value) (T:List Nat) (X:List Nat),v=iV r.1∧Fs=[[a],ob B,X]∧OSl aY 66 3 S T B r.2.Items∧(∀ k∈T,k∈(X++p))∧S a=some (.cells #[B,iV r.2.Next] 29 (0,0)))):=by
 refine eL func91 J ntmps91 J (L:=[[a],ob d]) w0 (fun E=>?_)
 have G:=Old.mk w0 s.kn ab
 unfold gz at h
 refine sr<|lbx J fun z=>art 3 [] J<|WT.draw mixed NQ (fun _ h=>h.drew)<|qq (iZ J) J<|qq (aC J) J<|qq (aw mD J (fun o hw=>((bP m).of_eq 0 2 J J:rg _ _ _ [d,iV b.Next]).rangeAt hw.fro) J) J<|qq (aw mf J (fun o hw=>hw.rgO (i:=0) J 0 2 [.string q.Kind,g] J) J) J ?_
 obtain⟨x1,af,h⟩:=bs h
 refine qp (jk Lc J (fun o hw=>wU N (ba hw.fro) b q s.rsl (Q.y hw.up) af)) J<|aqt 8 [] J ?_
 refine ch h J ?_ ?_ <;> intro h
 ·refine att 5 [] J ?_
  refine WT.ret E (az.one J) (fun o hw=>?_)
  cases h
  replace hw:=hw.addNil
  refine aH (js:=[1,1,0]) hw J ⟨d,p,[],J,J,s,(fun k hk=>(gb.2 (.inr hk))),m⟩
 refine atr 5 [] J<|lq (aC J) J<|lf kg J J J<|lgx 0 0 (bP m) J<|lno s J<|arr 2 [] J ?_
 obtain⟨b1,y,h⟩:=bs h
 refine WL.cutN 6 [(26,.bool b1),(0,pQ a),(3,pQ z)] ?_ (fun K=>?_)
 rotate_left
 ·refine sp 20 y J (fun y=>?_) fun y=>?_
  ·refine arr 6 [] J ?_
   cases y
   exact ku K
  ·refine ly J J<|la J<|ly J J<|lq (aC J) J<|ly J J<|lf qU J J J<|ly J J<|lgx 1 0 (bP m) J<|arr 2 [] J ?_
   cases y
   exact ku K
 refine en ?_
 refine ch h J ?_ ?_ <;> intro h
 ·refine att 4 [] J ?_
  refine WT.ret E (az.one J) (fun o hw=>?_)
  cases h
  replace hw:=hw.addNil
  refine aH (js:=[1,1,0]) hw J ⟨d,p,[],J,J,s,(fun k hk=>(gb.2 (.inr hk))),m⟩
 refine att 2 [] J<|WT.mix (Kn w0 e [a] [(z,.cells #[.string q.Kind,g] 52 (0,0))]) (fun i=>match i with | 16=>false | _=>true) mixed (fun _ h=>h.drew)<|ma 0 J NQ (kn Kf.id (am [0] J)) J<|ma 1 J NQ (kn Kf.id (am [0] J)) J<|mq 2 J NQ (kn Kf.id (am [0] J)) (aC J) J<|mq 3 J NQ (kn Kf.id (am [0] J)) (ax kg J) J<|mq 4 J NQ (kn Kf.id (am [0] J)) (aZ JR J (fun o hw=>hw.rg NS ((bP m).of_eq 0 1 J J:rg _ _ _ [d]))) J ?_
 refine ma 5 J NQ (kn Kf.id (am [0] J)) J<|mq 6 J NQ (kn Kf.id (am [0] J)) (aC J) J<|mq 7 J NQ (kn Kf.id (am [0] J)) (ax qU J) J<|mq 8 J NQ (kn Kf.id (am [0] J)) (aZ sD J (fun o hw=>hw.rg NS ((bP m).of_eq 1 1 J J:rg _ _ _ [iV b.Next]))) J<|mq 9 J NQ (kn Kf.id (am [0] J)) (aw mf J (fun o hw=>hw.rgO (i:=0) J 0 2 [.string q.Kind,g] J) J) J ?_
 obtain⟨u,ah,h⟩:=bs h
 refine WM.one 10 NQ (mc J (fun _ v U D o w hw=>Kn.of (Kf.id.st w.2.1 (w.1.r (i:=0) J)) (am [0] J) hw) (bH (js:=[]) (R:=[[a],ob d]) J4 J J (fun o hw ap hl=>u6 N (ba hw.fro) q (Q.y hw.up)  ah)) J ?_)
 rintro v1 ak F1 ⟨A,H,v2,rfl,rfl,h1⟩
 replace s:=s.fr H (A.q 1 J) (A.o G)
 replace m:=H _ _ ((A.q 0 J) _ NS) m
 have I:=(Kf.id (F:=[a]):Kf e _ _).st H (A.q 0 J)
 refine mq 11 J NQ (kn I (am [0] J)) (bu (vs:=[(0,iV b.Next),(1,.agg [.string u.Kind,v2].toArray)]) (C:=#[iV b.Next,.string u.Kind,v2]) Hb ox J (aa (C':=[iV b.Next,.string ⟨#[]⟩,.slice none 0 0]) J J J J J (aa (C':=[iV b.Next,.string u.Kind,v2]) J J J J J (ae)))) J ?_
 have V:RC cR 3 ak ([(ob v2++[])]:List (List Nat)) [iV b.Next,.string u.Kind,v2] ([(⟨b.Next,u⟩:ag)]:List ag):=RC.cons (c:=[iV b.Next,.string u.Kind,v2]) (cells:=[]) ⟨v2,J,J,h1⟩ J (RC.nil _ _ _)
 refine WM.one 12 NQ (me J (fun _ v U D o w hw=>Kn.of (I.se w.1) (am [0] J) hw) (bz (vs:=[(0,.agg [iV b.Next,.string u.Kind,v2].toArray)]) (C:=#[iV b.Next,.string u.Kind,v2]) cR.lasts mN ox J J J J (ar xq (aa (C':=[iV b.Next,.string u.Kind,v2]) J J J J J (ae))) J V J (RC.kn cR.knows V)) J ?_)
 rintro v3 W D1 ⟨M,O⟩
 replace O:OSl cR 66 3 W ((ob v2++[])) v3 ([(⟨b.Next,u⟩:ag)]:List ag):=by simpa[gf] using O
 replace s:=s.f0 M
 replace m:=M _ _ NS m
 refine WM.conv (S':=St w0 W [(z,.cells #[.string q.Kind,g] 52 (0,0))] [((ob v2++[])),ob v3,[a],ob d]) (fun o hw=>hw.merge (js:=[1]) J (SP.eq (by simp[gf,cO]))) ?_
 obtain⟨x3,al,h⟩:=bs h
 have Y:=I.se M
 refine WM.one 13 NQ (me J (fun _ v U D o w hw=>Kn.of (Y.st w.1.2 (w.1.1.r (i:=2) J)) (am [0] J) hw) (dS aY.lasts aY.one mN EI J J J J J (js:=[3]) (Rr:=[((ob v2++[])),ob v3,[a]]) J s (O.gives cR.gives) (fun ap=>(ap.o G)) (fun ap=>ap.q 0 J) al) J ?_)
 rintro v4 aq D2 ⟨⟨Z,a7⟩,x⟩
 replace m:=a7 _ _ ((Z.q 2 J) _ NS) m
 have a8:=Y.st a7 (Z.q 2 J)
 refine mqT 14 [15,16] J NQ (kn a8 (am [0] J)) (aC J) J<|mq 15 J NQ (kn a8 (am [0] J)) (ax kg J) J ?_
 refine WM.thw (js:=[3]) (R:=[ob v4,((ob v2++[])),ob v3]) J m (fun au P an=>?_)
 replace x:=x.fr an (P.q 0 J) (Dj.app (P.o G) (P.q 1 J))
 refine on1 16 (ms1 0 J nk DT J x.one ?_)
 refine WM.nil NQ<|atr 4 [] J<|lq (aC J) J<|arr 3 [1,0] J<|lq (aC J) J<|lf qU J J J<|so1 0 zq J J ?_
 refine arr 4 [] J<|lq (aC J) J<|art 5 [1,0] J ?_
 refine WT.frz (js:=[0]) (R:=[(z,.cells #[.string q.Kind,g] 52 (0,0))]) J (fun av ao k1=>?_)
 replace x:=x.f0 ao
 refine WT.ret E (az.one J) (fun o hw=>?_)
 cases h
 replace hw:=hw.merge (js:=[2]) (F:=[((ob v2++[]))].flatten) J (SP.eq NS)
 refine aH (js:=[1,1,0]) hw J ⟨v4,(p++((ob v2++[]))),[((ob v2++[]))].flatten,J,J,x,(fun k hk=>((gb.1 hk).elim (fun h=>(gb.2 (.inr h))) (fun h=>(gb.2 (.inl (List.mem_flatten.2 ⟨((ob v2++[])),NS,h⟩)))))),k1⟩
end Go.Proofs.YtedmfnmbjglmbaaGreat
