/- Printed by a program of ours: each Go function computes its Lean function. -/
import Derived.Test.YtedmfnmbjglmbaaGreatProg
import Derived.Test.YtedmfnmbjglmbaaGreatWSetsWalk5
namespace Go.Proofs.YtedmfnmbjglmbaaGreat
open Eng Tryz
open Go.RowKit (Below)
set_option linter.unusedVariables false
set_option linter.unusedSimpArgs false

set_option maxRecDepth 100000
set_option maxHeartbeats 1000000
variable {g f:Hp} {e t n j l u a1:Value} {p aE ar ad a6 b0 pG0_1 pG0_2:List Nat} {a:Nat} (N:Nat)
theorem tR (w0:av g f [[a]].flatten) (I:a8) (A:ByteArray) (ae:RSl (RI .u8) 1 g p e I.b) (aS:f a=some (.cells #[e,iV I.i,iV I.h] 144 (0,0))) {r:ai × a8} (h:mG N I A=some r) :
  Calls prog 89 [pQ a,.string A].toArray w0.w (be f w0.w [[a]].flatten (fun aG Fs v=>∃ (aT:Value) (ba:List Nat) (aV:Value) (aW:Value) (bb:List Nat),v = .agg [.string r.1.Name,iV r.1.Sal,aT,aV,aW].toArray∧Fs=[ob aT,ba,ob aV,ob aW,bb,[a]]∧OSl cJ 201 3 aG ba aT r.1.Pats∧OSl bl 173 11 aG [] aV r.1.Conds∧OSl fE 213 5 aG bb aW r.1.Acts∧r.2.b=I.b∧aG a=some (.cells #[e,iV r.2.i,iV r.2.h] 144 (0,0)))):=by
 refine eL func89 J ntmps89 J (L:=[[a]]) w0 (fun hF=>?_)
 unfold mG at h
 refine sr<|lnz sU J fun S=>arr 5 [] J ?_
 have bL:RC (RI .i64) 1 f ([[],[],[],[],[]]:List (List Nat)) [iV 0,iV 0,iV 5,iV (-5),iV 100] ([0,0,5,(-5),100]:List Int):=RC.cons (c:=[iV 0]) (cells:=[iV 0,iV 5,iV (-5),iV 100]) ⟨J,J⟩ J (RC.cons (c:=[iV 0]) (cells:=[iV 5,iV (-5),iV 100]) ⟨J,J⟩ J (RC.cons (c:=[iV 5]) (cells:=[iV (-5),iV 100]) ⟨J,J⟩ J (RC.cons (c:=[iV (-5)]) (cells:=[iV 100]) ⟨J,J⟩ J (RC.cons (c:=[iV 100]) (cells:=[]) ⟨J,J⟩ J (RC.nil _ _ _)))))
 refine le' (aQ (vs:=[(0,iV 0),(1,iV 0),(2,iV 5),(3,iV (-5)),(4,iV 100)]) (C:=#[iV 0,iV 0,iV 5,iV (-5),iV 100]) RI.lasts aY gF J J J J (ac KG (a7 (C':=[iV 0,iV 0,iV 0,iV 0,iV 0]) J J J J J (a7 (C':=[iV 0,iV 0,iV 0,iV 0,iV 0]) J J J J J (a7 (C':=[iV 0,iV 0,iV 5,iV 0,iV 0]) J J J J J (a7 (C':=[iV 0,iV 0,iV 5,iV (-5),iV 0]) J J J J J (a7 (C':=[iV 0,iV 0,iV 5,iV (-5),iV 100]) J J J J J (ab))))))) J bL J (by simpa using Kw.nil)) J ?_
 rintro v1 bM D1 ⟨bN,h1⟩
 replace h1:OSl (RI .i64) 3 1 bM [] v1 ([0,0,5,(-5),100]:List Int):=by simpa using h1
 replace aS:=bN _ _ MC aS
 refine kcb [1] h J J J J (fun b ap z q=>lS N b I ([0,0,5,(-5),100]:List Int) (ae.y z) aS (h1.rsl.x (Dj.app (ap.q 0 J) dN)) q) ?_
 rintro E h v2 cD F1 ⟨cE,cF,rfl,rfl,e1,h2⟩
 refine lq (aU (vs:=[(0,.string A),(1,iV E.1)]) (C:=#[.string A,iV E.1,.slice none 0 0,.slice none 0 0,.slice none 0 0]) Lf sU J (a7 (C':=[.string A,iV 0,.slice none 0 0,.slice none 0 0,.slice none 0 0]) J J J J J (a7 (C':=[.string A,iV E.1,.slice none 0 0,.slice none 0 0,.slice none 0 0]) J J J J J (ab)))) J<|lnz sU J fun T=>soN 0 tZ J ⟨J,J,J,J,J,trivial⟩ J ?_
 refine arr 5 [] J<|kcb [0] h J J J J (fun b ap z q=>aJ N b (⟨I.b,E.2.i,E.2.h⟩:a8) 3 (ae.y z) h2 q) ?_
 rintro x2 h v3 bc F2 ⟨cG,cH,rfl,rfl,e2,h3⟩
 refine art 4 [] J<|wtS<|wt0 ?_
 have k1:=OSl.nil cJ 201 3 bc
 refine lin (σ:=Hp × (List au) × Value × List Nat × Int × Int × Int) (fun s=>[(0,pQ a),(4,pQ S),(5,pQ T),(6,iV s.2.2.2.2.1)]) (fun s=>St w0 s.1 [(T,.cells #[.string A,iV E.1,s.2.2.1,.slice none 0 0,.slice none 0 0] 87 (0,0)),(S,.cells #[.string (⟨#[]⟩:ByteArray),iV 0,.slice none 0 0,.slice none 0 0,.slice none 0 0] 87 (0,0))] [s.2.2.2.1,ob s.2.2.1,[a]]) (fun m s=>jw N I A E m s.2.1 s.2.2.2.2.1 s.2.2.2.2.2.1 s.2.2.2.2.2.2=some r∧(OSl cJ 201 3 s.1 s.2.2.2.1 s.2.2.1 s.2.1)∧(s.1 a=some (.cells #[e,iV s.2.2.2.2.2.1,iV s.2.2.2.2.2.2] 144 (0,0)))) (bc,([]:List au),(.slice none 0 0),[],wz (1+x2.1),x2.2.i,x2.2.h) N ⟨h,k1,h3⟩ (sx [0,0,0] [0,0]) (fun n1 bO s hm=>?_)
 obtain⟨cI,s1,u1,D2,s2,s3,s4⟩:=s
 obtain⟨h,U,k3⟩:=hm
 dsimp only at h U k3 ⊢
 unfold jw at h
 refine att 6 [] J ?_
 refine ch h J ?_ ?_ <;> intro h
 ·refine att 3 [] J<|wm [0,1] [7] J<|amm 3 [0,2,1,0,2] [0,1] J J ?_
  obtain⟨W,bP,h⟩:=bs h
  refine WM.one 3 MA (mc J (fun _ v ao D H hq hw=>Kn.of Kf.nil (ai2 0 1 J J) hw) (bt (js:=[2]) (R:=[D2,ob u1]) Dm J J (fun H hw ap hl=>qF N (bx hw ap hl) (⟨I.b,s3,s4⟩:a8) false (ae.y (hw.uo ap)) k3  bP)) J ?_)
  rintro v4 bQ F3 ⟨bd,bR,v5,rfl,rfl,h4,e3,h5⟩
  replace U:=U.fr bR (bd.q 1 J) (bd.q 0 J)
  have bf:RC cJ 3 bQ ([(ob v5++[])]:List (List Nat)) [.string W.1.Kind,v5,.bool W.1.Not] ([W.1]:List au):=RC.cons (c:=[.string W.1.Kind,v5,.bool W.1.Not]) (cells:=[]) ⟨v5,J,J,h4⟩ J (RC.nil _ _ _)
  refine WM.one 4 MA (me J (fun _ v ao D H hq hw=>Kn.of Kf.nil (ai2 0 1 J J) hw) (aQ (vs:=[(0,.agg [.string W.1.Kind,v5,.bool W.1.Not].toArray)]) (C:=#[.string W.1.Kind,v5,.bool W.1.Not]) cJ.lasts og jB J J J J (ac vi (a7 (C':=[.string W.1.Kind,v5,.bool W.1.Not]) J J J J J (ab))) J bf J (RC.kn cJ.knows bf)) J ?_)
  rintro v6 bh D3 ⟨bj,h6⟩
  replace h6:OSl cJ 201 3 bh ((ob v5++[])) v6 ([W.1]:List au):=by simpa[gk] using h6
  replace U:=U.f0 bj
  replace h5:=bj _ _ MC h5
  refine WM.conv (S':=St w0 bh [(T,.cells #[.string A,iV E.1,u1,.slice none 0 0,.slice none 0 0] 87 (0,0)),(S,.cells #[.string (⟨#[]⟩:ByteArray),iV 0,.slice none 0 0,.slice none 0 0,.slice none 0 0] 87 (0,0))] [((ob v5++[])),ob v6,[a],D2,ob u1]) (fun H hw=>hw.merge (js:=[1]) J (SP.eq (by simp[gk,bH]))) ?_
  obtain⟨x4,bS,h⟩:=bs h
  refine WM.one 5 MA (me J (fun _ v ao D H hq hw=>Kn.of Kf.nil (ai2 0 1 J J) hw) (cq cJ.lasts cJ.one og yk J J J J J (js:=[4]) (Rr:=[((ob v5++[])),ob v6,[a],D2]) J U h6 (fun ap=>ap.q 3 J) (fun ap=>ap.q 0 J) bS) J ?_)
  rintro v7 bT D4 ⟨⟨bU,bV⟩,h7⟩
  replace h5:=bV _ _ ((bU.q 2 J) _ MC) h5
  refine WM.conv (S':=St w0 bT [(T,.cells #[.string A,iV E.1,u1,.slice none 0 0,.slice none 0 0] 87 (0,0)),(S,.cells #[.string (⟨#[]⟩:ByteArray),iV 0,.slice none 0 0,.slice none 0 0,.slice none 0 0] 87 (0,0))] [(D2++((ob v5++[]))),ob v7,ob v6,[a]]) (fun H hw=>hw.merge (js:=[4,1]) J (SP.eq MC))<|amm 1 [6,2] [0,1] J J ?_
  refine on1 7 (ms1 0 J nk DJ J h7.one ?_)
  refine WM.nil MA<|att 6 [] J ?_
  exact lb [0,0,1] [0,0] (bO (_,_,_,_,_,_,_) ⟨h,h7,h5⟩)
 refine atr 5 [] J<|kcb [2] h J J J J (fun b ap z q=>cj N b (⟨I.b,s3,s4⟩:a8) 3 (ae.y z) k3 q) ?_
 rintro x5 h v8 cK F4 ⟨bk,bX,rfl,rfl,e4,h8⟩
 replace U:=U.fr bX (bk.q 1 J) (bk.q 0 J)
 refine en ?_
 refine cut (σ:=Hp × (List au) × Value × List Nat × Int × Int) (fun s=>[(0,pQ a),(4,pQ S),(5,pQ T)]) (fun s=>St w0 s.1 [(T,.cells #[.string A,iV E.1,s.2.2.1,.slice none 0 0,.slice none 0 0] 87 (0,0)),(S,.cells #[.string (⟨#[]⟩:ByteArray),iV 0,.slice none 0 0,.slice none 0 0,.slice none 0 0] 87 (0,0))] [[a],s.2.2.2.1,ob s.2.2.1]) (fun s=>jk N I A E s.2.1 s.2.2.2.2.1 s.2.2.2.2.2=some r∧(OSl cJ 201 3 s.1 s.2.2.2.1 s.2.2.1 s.2.1)∧(s.1 a=some (.cells #[e,iV s.2.2.2.2.1,iV s.2.2.2.2.2] 144 (0,0)))) (fun s hm=>?_) (fun K=>?_)
 ·clear h
  obtain⟨cL,s5,M,V,s6,s7⟩:=s
  obtain⟨h,k,k5⟩:=hm
  dsimp only at h k k5 ⊢
  unfold jk at h
  refine atr 3 [5] J<|kab h J J J (fun b z q=>ta N b (⟨A,E.1,s5,[],[]⟩:ai) (k.rslG cJ.gives) (RSl.nil _ _ _) (RSl.nil _ _ _) q) ?_
  rintro x6 h v9 cM F5 ⟨aX,bm,v10,rfl,rfl,w⟩
  replace k:=k.fr bm (aX.q 2 J) (aX.q 1 J)
  replace k5:=bm _ _ ((aX.q 0 J) _ MC) k5
  refine arr 6 [] J<|kcb [1] h J J J J (fun b ap z q=>cj N b (⟨I.b,s6,s7⟩:a8) 3 (ae.y z) k5 q) ?_
  rintro x7 h v11 bZ F6 ⟨b1,bn,rfl,rfl,e5,bo⟩
  replace k:=k.fr bn (b1.q 2 J) (b1.q 1 J)
  replace w:=w.fr bn (b1.q 0 J) dN
  refine en<|wtS ?_
  have k6:=OSl.nil bl 173 11 bZ
  refine cut (σ:=Hp × (List ce) × Value × Int × Int) (fun s=>[(0,pQ a),(4,pQ S),(5,pQ T),(7,v9)]) (fun s=>St w0 s.1 [(T,.cells #[.string A,iV E.1,M,s.2.2.1,.slice none 0 0] 87 (0,0)),(S,.cells #[.string (⟨#[]⟩:ByteArray),iV 0,.slice none 0 0,.slice none 0 0,.slice none 0 0] 87 (0,0))] [ob s.2.2.1,[a],ob v9,V,ob M]) (fun s=>jr N I A E s5 x6 s.2.1 s.2.2.2.1 s.2.2.2.2=some r∧(OSl cJ 201 3 s.1 V M s5)∧(OSl RS 9 1 s.1 [] v9 x6)∧(OSl bl 173 11 s.1 [] s.2.2.1 s.2.1)∧(s.1 a=some (.cells #[e,iV s.2.2.2.1,iV s.2.2.2.2] 144 (0,0)))) (fun s hm=>?_) (fun K=>?_)
  ·clear h
   obtain⟨cN,s8,P,s9,c0⟩:=s
   obtain⟨h,k,w,B,k8⟩:=hm
   dsimp only at h k w B k8 ⊢
   unfold jr at h
   refine atr 4 [] J<|kcb [1] h J J J J (fun b ap z q=>aJ N b (⟨I.b,s9,c0⟩:a8) 3 (ae.y z) k8 q) ?_
   rintro x8 h v12 bp F7 ⟨aH,b2,rfl,rfl,e6,c3⟩
   replace k:=k.fr b2 (aH.q 3 J) (aH.q 2 J)
   replace w:=w.fr b2 (aH.q 1 J) dN
   replace B:=B.fr b2 (aH.q 0 J) dN
   refine art 4 [] J<|wtS<|wt0 ?_
   have k9:=OSl.nil fE 213 5 bp
   refine lin (σ:=Hp × (List cA) × Value × List Nat × Int × Int × Int) (fun s=>[(0,pQ a),(4,pQ S),(5,pQ T),(7,v9),(9,iV s.2.2.2.2.1)]) (fun s=>St w0 s.1 [(T,.cells #[.string A,iV E.1,M,P,s.2.2.1] 87 (0,0)),(S,.cells #[.string (⟨#[]⟩:ByteArray),iV 0,.slice none 0 0,.slice none 0 0,.slice none 0 0] 87 (0,0))] [s.2.2.2.1,ob s.2.2.1,[a],ob P,ob v9,V,ob M]) (fun m s=>gg N I A E s5 x6 s8 m s.2.1 s.2.2.2.2.1 s.2.2.2.2.2.1 s.2.2.2.2.2.2=some r∧(OSl cJ 201 3 s.1 V M s5)∧(OSl RS 9 1 s.1 [] v9 x6)∧(OSl bl 173 11 s.1 [] P s8)∧(OSl fE 213 5 s.1 s.2.2.2.1 s.2.2.1 s.2.1)∧(s.1 a=some (.cells #[e,iV s.2.2.2.2.2.1,iV s.2.2.2.2.2.2] 144 (0,0)))) (bp,([]:List cA),(.slice none 0 0),[],wz (1+x8.1),x8.2.i,x8.2.h) N ⟨h,k,w,B,k9,c3⟩ (sx [0,0,0,0,0,0,0] [0,0]) (fun n4 c4 s hm=>?_)
   obtain⟨cO,b3,X,D6,bq,c5,c6⟩:=s
   obtain⟨h,k,w,B,O,b4⟩:=hm
   dsimp only at h k w B O b4 ⊢
   unfold gg at h
   refine att 6 [] J ?_
   refine ch h J ?_ ?_ <;> intro h
   ·refine atr 7 [5] J<|qc h (kQ N · (⟨A,E.1,s5,s8,b3⟩:ai) (k.rslG cJ.gives) B.rsl (O.rslG fE.gives) ·) J J J fun x9 h=>kcb [2] h J J J J (fun b ap z q=>u6 N b (⟨I.b,c5,c6⟩:a8) x9 (ae.y z) b4 q) ?_
    rintro d h cP c7 F8 ⟨al,aI,F,rfl,rfl,br,e7,c8⟩
    replace k:=k.fr aI (al.q 5 J) (al.q 4 J)
    replace w:=w.fr aI (al.q 3 J) dN
    replace B:=B.fr aI (al.q 2 J) dN
    replace O:=O.fr aI (al.q 1 J) (al.q 0 J)
    refine lnz pe J fun aK=>soN 0 rX J ⟨J,J,br.one,J,J,trivial⟩ J ?_
    refine art 7 [] J ?_
    refine lin (σ:=Hp × (List bY) × Int) (fun s=>[(0,pQ a),(4,pQ S),(5,pQ T),(7,v9),(9,iV bq),(10,pQ aK),(11,iV s.2.2)]) (fun s=>St w0 s.1 [(aK,.cells #[iV d.1.Kind,.string d.1.Name,F,iV d.1.N,.string d.1.Undo] 213 (0,0)),(T,.cells #[.string A,iV E.1,M,P,X] 87 (0,0)),(S,.cells #[.string (⟨#[]⟩:ByteArray),iV 0,.slice none 0 0,.slice none 0 0,.slice none 0 0] 87 (0,0))] [ob F,[a],D6,ob X,ob P,ob v9,V,ob M]) (fun m s=>gi N x6 b3 bq (gg N I A E s5 x6 s8 n4) d m s.2.1 s.2.2=some r∧(OSl cJ 201 3 s.1 V M s5)∧(OSl RS 9 1 s.1 [] v9 x6)∧(OSl bl 173 11 s.1 [] P s8)∧(OSl fE 213 5 s.1 D6 X b3)∧(OSl bW 216 11 s.1 [] F s.2.1)∧(s.1 a=some (.cells #[e,iV d.2.i,iV d.2.h] 144 (0,0)))) (c7,d.1.Args,0) N ⟨h,k,w,B,O,br,c8⟩ (sx [0,0,0,0,0,0,0,0] [0,0,0]) (fun n5 bu s hm=>?_)
    obtain⟨bz,bA,cQ⟩:=s
    obtain⟨h,k,w,B,O,aL,Y⟩:=hm
    dsimp only at h k w B O aL Y ⊢
    unfold gi at h
    refine atr 6 [2,0] J<|lno aL J<|la J<|en ?_
    refine ch h J ?_ ?_ <;> intro h
    ·refine att 4 [] J ?_
     obtain⟨G,an,h⟩:=bs h
     obtain⟨cR,F9,aq,r1⟩:=aL.focusF bW.flat an
     obtain⟨rfl,-⟩:=r1
     refine WT.mix (Kn w0 bz (ob P++(ob X++ob F)) [(aK,.cells #[iV d.1.Kind,.string d.1.Name,F,iV d.1.N,.string d.1.Undo] 213 (0,0)),(T,.cells #[.string A,iV E.1,M,P,X] 87 (0,0)),(S,.cells #[.string (⟨#[]⟩:ByteArray),iV 0,.slice none 0 0,.slice none 0 0,.slice none 0 0] 87 (0,0))]) (fun i=>match i with | 13=>false | _=>true) mixed (fun _ h=>h.drew)<|mq 0 J MA (kn Kf.id (ai3 0 1 2 J J J)) (ak mN J) J ?_
     refine mq 1 J MA (kn Kf.id (ai3 0 1 2 J J J)) (az Al J (fun H hw=>hw.rgO (i:=0) J 2 1 [F] J)) J<|ma 2 J MA (kn Kf.id (ai3 0 1 2 J J J)) J<|mq 3 J MA (kn Kf.id (ai3 0 1 2 J J J)) (ak mN J) J<|mq 4 J MA (kn Kf.id (ai3 0 1 2 J J J)) (az Al J (fun H hw=>hw.rgO (i:=0) J 2 1 [F] J)) J<|ma 5 J MA (kn Kf.id (ai3 0 1 2 J J J)) J ?_
     refine mq 6 J MA (kn Kf.id (ai3 0 1 2 J J J)) (bw sI J J aq an) J<|mq 7 J MA (kn Kf.id (ai3 0 1 2 J J J)) (ak vL J) J<|mq 8 J MA (kn Kf.id (ai3 0 1 2 J J J)) (aC mJ J (fun H hw=>hw.rg (gb.2 (.inr (gb.2 (.inr aq.hb)))) (aq.rg.of_eq 1 5 J J:rg _ _ _ [iV G.L.K,.string G.L.S,iV G.L.V.K,iV G.L.V.N,.string G.L.V.S])) J) J<|ma 9 J MA (kn Kf.id (ai3 0 1 2 J J J)) J ?_
     obtain⟨Q,c9,h⟩:=bs h
     refine on1 10 (mp J (fun _ H hw=>Kn.of Kf.id (ai3 0 1 2 J J J) hw) (pcP J (oA N · G.L x6 w.rsl c9)) J ?_)
     refine mqT 11 [12,13] J MA (kn Kf.id (ai3 0 1 2 J J J)) (bw sI J J aq an) J<|mq 12 J MA (kn Kf.id (ai3 0 1 2 J J J)) (ak vL J) J ?_
     refine WM.one 13 MA (mu J (fun hc=>by cases hc) (Ao (js:=[0]) (Rr:=[[a],D6,ob X,ob P,ob v9,V,ob M]) (o:=1) (vs:=[iV Q.K,.string Q.S,iV Q.V.K,iV Q.V.N,.string Q.V.S]) (cs':=[.string G.Op,iV Q.K,.string Q.S,iV Q.V.K,iV Q.V.N,.string Q.V.S,iV G.R.K,.string G.R.S,iV G.R.V.K,iV G.R.V.N,.string G.R.V.S]) bW.lasts gL J J J J ⟨J,J,J,J,J,trivial⟩ J aq J J (fun ap=>dN)) J ?_)
     rintro ca D8 ⟨⟨ah,aw⟩,ag⟩
     replace k:=k.fr aw (ah.q 6 J) (ah.q 5 J)
     replace w:=w.fr aw (ah.q 4 J) dN
     replace B:=B.fr aw (ah.q 3 J) dN
     replace O:=O.fr aw (ah.q 2 J) (ah.q 1 J)
     replace Y:=aw _ _ ((ah.q 0 J) _ MC) Y
     refine WM.nil MA<|atr 5 [2,0] J<|lih ag an J<|lf A3 J J J<|lgx 0 0 ag.rg J<|la J<|en ?_
     refine ch h J ?_ ?_ <;> intro h
     ·refine WT.mix (Kn w0 ca (ob P++(ob X++ob F)) [(aK,.cells #[iV d.1.Kind,.string d.1.Name,F,iV d.1.N,.string d.1.Undo] 213 (0,0)),(T,.cells #[.string A,iV E.1,M,P,X] 87 (0,0)),(S,.cells #[.string (⟨#[]⟩:ByteArray),iV 0,.slice none 0 0,.slice none 0 0,.slice none 0 0] 87 (0,0))]) (fun i=>match i with | 13=>false | _=>true) mixed (fun _ h=>h.drew)<|mq 0 J MA (kn Kf.id (ai3 0 1 2 J J J)) (ak mN J) J ?_
      refine mq 1 J MA (kn Kf.id (ai3 0 1 2 J J J)) (az Al J (fun H hw=>hw.rgO (i:=0) J 2 1 [F] J)) J<|ma 2 J MA (kn Kf.id (ai3 0 1 2 J J J)) J<|mq 3 J MA (kn Kf.id (ai3 0 1 2 J J J)) (ak mN J) J<|mq 4 J MA (kn Kf.id (ai3 0 1 2 J J J)) (az Al J (fun H hw=>hw.rgO (i:=0) J 2 1 [F] J)) J<|ma 5 J MA (kn Kf.id (ai3 0 1 2 J J J)) J ?_
      refine mq 6 J MA (kn Kf.id (ai3 0 1 2 J J J)) (bw sI J J ag an) J<|mq 7 J MA (kn Kf.id (ai3 0 1 2 J J J)) (ak tn J) J<|mq 8 J MA (kn Kf.id (ai3 0 1 2 J J J)) (aC mJ J (fun H hw=>hw.rg (gb.2 (.inr (gb.2 (.inr ag.hb)))) (ag.rg.of_eq 6 5 J J:rg _ _ _ [iV G.R.K,.string G.R.S,iV G.R.V.K,iV G.R.V.N,.string G.R.V.S])) J) J<|ma 9 J MA (kn Kf.id (ai3 0 1 2 J J J)) J ?_
      obtain⟨aa,cb,h⟩:=bs h
      refine on1 10 (mp J (fun _ H hw=>Kn.of Kf.id (ai3 0 1 2 J J J) hw) (pcP J (oA N · G.R x6 w.rsl cb)) J ?_)
      refine mqT 11 [12,13] J MA (kn Kf.id (ai3 0 1 2 J J J)) (bw sI J J ag an) J<|mq 12 J MA (kn Kf.id (ai3 0 1 2 J J J)) (ak tn J) J ?_
      refine WM.one 13 MA (mu J (fun hc=>by cases hc) (Ao (js:=[0]) (Rr:=[[a],D6,ob X,ob P,ob v9,V,ob M]) (o:=6) (vs:=[iV aa.K,.string aa.S,iV aa.V.K,iV aa.V.N,.string aa.V.S]) (cs':=[.string G.Op,iV Q.K,.string Q.S,iV Q.V.K,iV Q.V.N,.string Q.V.S,iV aa.K,.string aa.S,iV aa.V.K,iV aa.V.N,.string aa.V.S]) bW.lasts gL J J J J ⟨J,J,J,J,J,trivial⟩ J ag J J (fun ap=>dN)) J ?_)
      rintro cS D9 ⟨⟨aj,ax⟩,cc⟩
      replace k:=k.fr ax (aj.q 6 J) (aj.q 5 J)
      replace w:=w.fr ax (aj.q 4 J) dN
      replace B:=B.fr ax (aj.q 3 J) dN
      replace O:=O.fr ax (aj.q 2 J) (aj.q 1 J)
      replace Y:=ax _ _ ((aj.q 0 J) _ MC) Y
      refine WM.nil MA<|att 6 [] J ?_
      have cd:=cc.unfocusF bW.flat (x':=(⟨G.Op,Q,aa⟩:bY)) ⟨J,J⟩
      exact lb [0,0,0,0,0,0,0,0] [0,0,0] (bu (_,_,_) ⟨h,k,w,B,O,cd,Y⟩)
     refine att 7 [] J ?_
     have cf:=ag.unfocusF bW.flat (x':=(⟨G.Op,Q,G.R⟩:bY)) ⟨J,J⟩
     exact lb [0,0,0,0,0,0,0,0] [0,0,0] (bu (_,_,_) ⟨h,k,w,B,O,cf,Y⟩)
    refine atr 5 [4,32,5] J ?_
    have bB:RC fE 5 bz ([(ob F++[])]:List (List Nat)) [iV d.1.Kind,.string d.1.Name,F,iV d.1.N,.string d.1.Undo] ([(⟨d.1.Kind,d.1.Name,bA,d.1.N,d.1.Undo⟩:cA)]:List cA):=RC.cons (c:=[iV d.1.Kind,.string d.1.Name,F,iV d.1.N,.string d.1.Undo]) (cells:=[]) ⟨F,J,J,aL⟩ J (RC.nil _ _ _)
    refine le' (aQ (vs:=[(0,.agg [iV d.1.Kind,.string d.1.Name,F,iV d.1.N,.string d.1.Undo].toArray)]) (C:=#[iV d.1.Kind,.string d.1.Name,F,iV d.1.N,.string d.1.Undo]) fE.lasts xQ pe J J J J (ac Cb (a7 (C':=[iV d.1.Kind,.string d.1.Name,F,iV d.1.N,.string d.1.Undo]) J J J J J (ab))) J bB J (RC.kn fE.knows bB)) J ?_
    rintro aM cg cT ⟨ay,b5⟩
    replace b5:OSl fE 213 5 cg ((ob F++[])) aM ([(⟨d.1.Kind,d.1.Name,bA,d.1.N,d.1.Undo⟩:cA)]:List cA):=by simpa[gk] using b5
    replace k:=k.f0 ay
    replace w:=w.f0 ay
    replace B:=B.f0 ay
    replace O:=O.f0 ay
    replace Y:=ay _ _ MC Y
    refine wlL [((ob F++[])),ob aM,[a],D6,ob X,ob P,ob v9,V,ob M] (smg [1] J (SP.eq (by simp[gk,bH]))) ?_
    obtain⟨cU,ck,h⟩:=bs h
    refine le' (cq fE.lasts fE.one xQ CC J J J J J (js:=[4]) (Rr:=[((ob F++[])),ob aM,[a],D6,ob P,ob v9,V,ob M]) J O b5 (fun ap=>ap.q 3 J) (fun ap=>ap.q 0 J) ck) J ?_
    rintro cm cV cW ⟨⟨aB,aN⟩,bC⟩
    replace k:=k.fr aN (aB.q 7 J) (aB.q 6 J)
    replace w:=w.fr aN (aB.q 5 J) dN
    replace B:=B.fr aN (aB.q 4 J) dN
    replace Y:=aN _ _ ((aB.q 2 J) _ MC) Y
    refine wlL [(D6++((ob F++[]))),ob cm,ob aM,[a],ob P,ob v9,V,ob M] (smg [4,1] J (SP.eq MC))<|lf y0 J J J<|so1 1 FZ J bC.one ?_
    refine art 7 [] J ?_
    exact lb [0,0,1,1,1,1,1] [1,1] (c4 (_,_,_,_,_,_,_) ⟨h,k,w,B,bC,Y⟩)
   refine atr 4 [5] J<|soN 1 tZ J ⟨J,J,k.one,B.one,O.one,trivial⟩ J ?_
   refine en ?_
   exact rtg [6,5,3,1,0,0] hF (aA.one (aZ o7 J (fun H hw=>hw.rgO (i:=1) J 0 5 [.string A,iV E.1,M,P,X] J) J)) J (by cases h;exact fun H hw=>⟨M,V,P,X,D6,rfl,rfl,k,B,O,rfl,b4⟩)
  refine ch h J ?_ ?_ <;> intro h
  ·refine sr<|la J<|kcb [1] h J J J J (fun b ap z q=>tY N b (⟨I.b,x7.2.i,x7.2.h⟩:a8) (ae.y z) bo q) ?_
   rintro af h v17 cn cX ⟨aO,b6,rfl,rfl,e8,aD⟩
   replace k:=k.fr b6 (aO.q 3 J) (aO.q 2 J)
   replace w:=w.fr b6 (aO.q 1 J) dN
   replace k6:=k6.fr b6 (aO.q 0 J) dN
   refine lnz qw J fun cY=>soN 0 vu J ⟨J,J,J,J,J,J,J,J,J,J,J,trivial⟩ J ?_
   refine arr 6 [1,5] J<|qc h (oA N · af.1.L x6 w.rsl ·) J J J fun x h=>lf vG J J J<|soN 0 gL J ⟨J,J,J,J,J,trivial⟩ J ?_
   refine arr 6 [6,5] J<|qc h (oA N · af.1.R x6 w.rsl ·) J J J fun y h=>lf w4 J J J<|soN 0 gL J ⟨J,J,J,J,J,trivial⟩ J ?_
   refine arr 5 [3,32,11] J ?_
   have cp:RC bl 11 cn ([[]]:List (List Nat)) [iV af.1.Op,iV x.K,.string x.S,iV x.V.K,iV x.V.N,.string x.V.S,iV y.K,.string y.S,iV y.V.K,iV y.V.N,.string y.V.S] ([(⟨af.1.Op,x,y⟩:ce)]:List ce):=RC.cons (c:=[iV af.1.Op,iV x.K,.string x.S,iV x.V.K,iV x.V.N,.string x.V.S,iV y.K,.string y.S,iV y.V.K,iV y.V.N,.string y.V.S]) (cells:=[]) ⟨J,J⟩ J (RC.nil _ _ _)
   refine le' (aQ (vs:=[(0,.agg [iV af.1.Op,iV x.K,.string x.S,iV x.V.K,iV x.V.N,.string x.V.S,iV y.K,.string y.S,iV y.V.K,iV y.V.N,.string y.V.S].toArray)]) (C:=#[iV af.1.Op,iV x.K,.string x.S,iV x.V.K,iV x.V.N,.string x.V.S,iV y.K,.string y.S,iV y.V.K,iV y.V.N,.string y.V.S]) bl.lasts zu qw J J J J (ac Bj (a7 (C':=[iV af.1.Op,iV x.K,.string x.S,iV x.V.K,iV x.V.N,.string x.V.S,iV y.K,.string y.S,iV y.V.K,iV y.V.N,.string y.V.S]) J J J J J (ab))) J cp J (by simpa using Kw.nil)) J ?_
   rintro bD cr cZ ⟨aP,b7⟩
   replace b7:OSl bl 173 11 cr [] bD ([(⟨af.1.Op,x,y⟩:ce)]:List ce):=by simpa using b7
   replace k:=k.f0 aP
   replace w:=w.f0 aP
   replace k6:=k6.f0 aP
   replace aD:=aP _ _ MC aD
   obtain⟨da,ct,h⟩:=bs h
   refine le' (bg bl.lasts bl.one bl.flat zu CN J J J J J (js:=[2]) (Rr:=[ob bD,[a],ob v9,V,ob M]) J k6 b7.rsl ct) J ?_
   rintro db dc dd ⟨⟨aR,b8⟩,bE⟩
   replace k:=k.fr b8 (aR.q 4 J) (aR.q 3 J)
   replace w:=w.fr b8 (aR.q 2 J) dN
   replace aD:=b8 _ _ ((aR.q 1 J) _ MC) aD
   refine lf C5 J J J<|so1 1 IZ J bE.one ?_
   refine en ?_
   exact wo [0,1,1,1,1] [1,1] (K (_,_,_,_,_) ⟨h,k,w,bE,aD⟩)
  refine WT.skip ?_
  exact wo [0,0,0,0,0] [0,0] (K (_,_,_,_,_) ⟨h,k,w,k6,bo⟩)
 refine ch h J ?_ ?_ <;> intro h
 ·refine wm [0,1] [7] J<|amm 3 [0,2,1,0,2] [0,1] J J ?_
  obtain⟨Z,cu,h⟩:=bs h
  refine WM.one 3 MA (mc J (fun _ v ao D H hq hw=>Kn.of Kf.nil (ai2 0 1 J J) hw) (bt (js:=[0]) (R:=[D2,ob u1]) Dm J J (fun H hw ap hl=>qF N (bx hw ap hl) (⟨I.b,x5.2.i,x5.2.h⟩:a8) true (ae.y (hw.uo ap)) h8  cu)) J ?_)
  rintro v20 cv de ⟨bF,cw,v21,rfl,rfl,cx,e9,aF⟩
  replace U:=U.fr cw (bF.q 1 J) (bF.q 0 J)
  have bG:RC cJ 3 cv ([(ob v21++[])]:List (List Nat)) [.string Z.1.Kind,v21,.bool Z.1.Not] ([Z.1]:List au):=RC.cons (c:=[.string Z.1.Kind,v21,.bool Z.1.Not]) (cells:=[]) ⟨v21,J,J,cx⟩ J (RC.nil _ _ _)
  refine WM.one 4 MA (me J (fun _ v ao D H hq hw=>Kn.of Kf.nil (ai2 0 1 J J) hw) (aQ (vs:=[(0,.agg [.string Z.1.Kind,v21,.bool Z.1.Not].toArray)]) (C:=#[.string Z.1.Kind,v21,.bool Z.1.Not]) cJ.lasts og jB J J J J (ac vi (a7 (C':=[.string Z.1.Kind,v21,.bool Z.1.Not]) J J J J J (ab))) J bG J (RC.kn cJ.knows bG)) J ?_)
  rintro v22 bI df ⟨bJ,b9⟩
  replace b9:OSl cJ 201 3 bI ((ob v21++[])) v22 ([Z.1]:List au):=by simpa[gk] using b9
  replace U:=U.f0 bJ
  replace aF:=bJ _ _ MC aF
  refine WM.conv (S':=St w0 bI [(T,.cells #[.string A,iV E.1,u1,.slice none 0 0,.slice none 0 0] 87 (0,0)),(S,.cells #[.string (⟨#[]⟩:ByteArray),iV 0,.slice none 0 0,.slice none 0 0,.slice none 0 0] 87 (0,0))] [((ob v21++[])),ob v22,[a],D2,ob u1]) (fun H hw=>hw.merge (js:=[1]) J (SP.eq (by simp[gk,bH]))) ?_
  obtain⟨dg,cy,h⟩:=bs h
  refine WM.one 5 MA (me J (fun _ v ao D H hq hw=>Kn.of Kf.nil (ai2 0 1 J J) hw) (cq cJ.lasts cJ.one og yk J J J J J (js:=[4]) (Rr:=[((ob v21++[])),ob v22,[a],D2]) J U b9 (fun ap=>ap.q 3 J) (fun ap=>ap.q 0 J) cy) J ?_)
  rintro v23 cz dh ⟨⟨cB,cC⟩,bK⟩
  replace aF:=cC _ _ ((cB.q 2 J) _ MC) aF
  refine WM.conv (S':=St w0 cz [(T,.cells #[.string A,iV E.1,u1,.slice none 0 0,.slice none 0 0] 87 (0,0)),(S,.cells #[.string (⟨#[]⟩:ByteArray),iV 0,.slice none 0 0,.slice none 0 0,.slice none 0 0] 87 (0,0))] [(D2++((ob v21++[]))),ob v23,ob v22,[a]]) (fun H hw=>hw.merge (js:=[4,1]) J (SP.eq MC))<|amm 1 [6,2] [0,1] J J ?_
  refine on1 7 (ms1 0 J nk DJ J bK.one ?_)
  refine WM.nil MA ?_
  exact wo [3,0,0] [0,0] (K (_,_,_,_,_,_) ⟨h,bK,aF⟩)
 refine WT.skip ?_
 exact wo [0,0,0] [0,0] (K (_,_,_,_,_,_) ⟨h,U,h8⟩)
theorem pw (w0:av g f [[a]].flatten) (A:a8) (V:RSl (RI .u8) 1 g p e A.b) (W:f a=some (.cells #[e,iV A.i,iV A.h] 144 (0,0))) {r:bo × a8} (h:jY N A=some r) :
  Calls prog 35 [pQ a].toArray w0.w (be f w0.w [[a]].flatten (fun al Fs v=>∃ (X:Value) (an:List Nat),v = .agg [.string r.1.Name,X].toArray∧Fs=[ob X,an,[a]]∧OSl dM 87 5 al an X r.1.Rules∧r.2.b=A.b∧al a=some (.cells #[e,iV r.2.i,iV r.2.h] 144 (0,0)))):=by
 refine eL func35 J ntmps35 J (L:=[[a]]) w0 (fun hF=>?_)
 unfold jY at h
 refine sr<|lnz sY J fun H=>arr 4 [] J ?_
 have aF:RC RS 1 f ([[],[],[]]:List (List Nat)) [.string (⟨#[102,108,111,119]⟩:ByteArray),.string (⟨#[115,104,105,112]⟩:ByteArray),.string (⟨#[120]⟩:ByteArray)] ([(⟨#[102,108,111,119]⟩:ByteArray),(⟨#[115,104,105,112]⟩:ByteArray),(⟨#[120]⟩:ByteArray)]:List ByteArray):=RC.cons (c:=[.string (⟨#[102,108,111,119]⟩:ByteArray)]) (cells:=[.string (⟨#[115,104,105,112]⟩:ByteArray),.string (⟨#[120]⟩:ByteArray)]) ⟨J,J⟩ J (RC.cons (c:=[.string (⟨#[115,104,105,112]⟩:ByteArray)]) (cells:=[.string (⟨#[120]⟩:ByteArray)]) ⟨J,J⟩ J (RC.cons (c:=[.string (⟨#[120]⟩:ByteArray)]) (cells:=[]) ⟨J,J⟩ J (RC.nil _ _ _)))
 refine le' (aQ (vs:=[(0,.string (⟨#[102,108,111,119]⟩:ByteArray)),(1,.string (⟨#[115,104,105,112]⟩:ByteArray)),(2,.string (⟨#[120]⟩:ByteArray))]) (C:=#[.string (⟨#[102,108,111,119]⟩:ByteArray),.string (⟨#[115,104,105,112]⟩:ByteArray),.string (⟨#[120]⟩:ByteArray)]) RS.lasts eE ot J J J J (ac sX (a7 (C':=[.string (⟨#[102,108,111,119]⟩:ByteArray),.string ⟨#[]⟩,.string ⟨#[]⟩]) J J J J J (a7 (C':=[.string (⟨#[102,108,111,119]⟩:ByteArray),.string (⟨#[115,104,105,112]⟩:ByteArray),.string ⟨#[]⟩]) J J J J J (a7 (C':=[.string (⟨#[102,108,111,119]⟩:ByteArray),.string (⟨#[115,104,105,112]⟩:ByteArray),.string (⟨#[120]⟩:ByteArray)]) J J J J J (ab))))) J aF J (by simpa using Kw.nil)) J ?_
 rintro v1 aG D1 ⟨aH,h1⟩
 replace h1:OSl RS 9 1 aG [] v1 ([(⟨#[102,108,111,119]⟩:ByteArray),(⟨#[115,104,105,112]⟩:ByteArray),(⟨#[120]⟩:ByteArray)]:List ByteArray):=by simpa using h1
 replace W:=aH _ _ MC W
 refine kcb [1] h J J J J (fun b ap z q=>bT N b A ([(⟨#[102,108,111,119]⟩:ByteArray),(⟨#[115,104,105,112]⟩:ByteArray),(⟨#[120]⟩:ByteArray)]:List ByteArray) (V.y z) W (h1.rsl.x (Dj.app (ap.q 0 J) dN)) q) ?_
 rintro o h v2 aI F1 ⟨aV,aW,rfl,rfl,e1,Y⟩
 refine lq (aU (vs:=[(0,.string o.1)]) (C:=#[.string o.1,.slice none 0 0]) L0 sY J (a7 (C':=[.string o.1,.slice none 0 0]) J J J J J (ab))) J<|lnz sY J fun I=>soN 0 sD J ⟨J,J,trivial⟩ J ?_
 refine en<|sr ?_
 have aK:RC RS 1 aI ([[],[],[],[]]:List (List Nat)) [.string (⟨#[114,49]⟩:ByteArray),.string (⟨#[114,50]⟩:ByteArray),.string (⟨#[114,51]⟩:ByteArray),.string (⟨#[114,52]⟩:ByteArray)] ([(⟨#[114,49]⟩:ByteArray),(⟨#[114,50]⟩:ByteArray),(⟨#[114,51]⟩:ByteArray),(⟨#[114,52]⟩:ByteArray)]:List ByteArray):=RC.cons (c:=[.string (⟨#[114,49]⟩:ByteArray)]) (cells:=[.string (⟨#[114,50]⟩:ByteArray),.string (⟨#[114,51]⟩:ByteArray),.string (⟨#[114,52]⟩:ByteArray)]) ⟨J,J⟩ J (RC.cons (c:=[.string (⟨#[114,50]⟩:ByteArray)]) (cells:=[.string (⟨#[114,51]⟩:ByteArray),.string (⟨#[114,52]⟩:ByteArray)]) ⟨J,J⟩ J (RC.cons (c:=[.string (⟨#[114,51]⟩:ByteArray)]) (cells:=[.string (⟨#[114,52]⟩:ByteArray)]) ⟨J,J⟩ J (RC.cons (c:=[.string (⟨#[114,52]⟩:ByteArray)]) (cells:=[]) ⟨J,J⟩ J (RC.nil _ _ _))))
 refine le' (aQ (vs:=[(0,.string (⟨#[114,49]⟩:ByteArray)),(1,.string (⟨#[114,50]⟩:ByteArray)),(2,.string (⟨#[114,51]⟩:ByteArray)),(3,.string (⟨#[114,52]⟩:ByteArray))]) (C:=#[.string (⟨#[114,49]⟩:ByteArray),.string (⟨#[114,50]⟩:ByteArray),.string (⟨#[114,51]⟩:ByteArray),.string (⟨#[114,52]⟩:ByteArray)]) RS.lasts eE ot J J J J (ac AS (a7 (C':=[.string (⟨#[114,49]⟩:ByteArray),.string ⟨#[]⟩,.string ⟨#[]⟩,.string ⟨#[]⟩]) J J J J J (a7 (C':=[.string (⟨#[114,49]⟩:ByteArray),.string (⟨#[114,50]⟩:ByteArray),.string ⟨#[]⟩,.string ⟨#[]⟩]) J J J J J (a7 (C':=[.string (⟨#[114,49]⟩:ByteArray),.string (⟨#[114,50]⟩:ByteArray),.string (⟨#[114,51]⟩:ByteArray),.string ⟨#[]⟩]) J J J J J (a7 (C':=[.string (⟨#[114,49]⟩:ByteArray),.string (⟨#[114,50]⟩:ByteArray),.string (⟨#[114,51]⟩:ByteArray),.string (⟨#[114,52]⟩:ByteArray)]) J J J J J (ab)))))) J aK J (by simpa using Kw.nil)) J ?_
 rintro v3 Z D2 ⟨aL,d⟩
 replace d:OSl RS 9 1 Z [] v3 ([(⟨#[114,49]⟩:ByteArray),(⟨#[114,50]⟩:ByteArray),(⟨#[114,51]⟩:ByteArray),(⟨#[114,52]⟩:ByteArray)]:List ByteArray):=by simpa using d
 replace Y:=aL _ _ MC Y
 refine art 8 [] J<|wtS<|wt0 ?_
 have k1:=OSl.nil dM 87 5 Z
 refine lin (σ:=Hp × (List ai) × Value × List Nat × Int × Int × Int) (fun s=>[(0,pQ a),(2,pQ H),(3,pQ I),(4,v3),(5,iV s.2.2.2.2.1)]) (fun s=>St w0 s.1 [(I,.cells #[.string o.1,s.2.2.1] 26 (0,0)),(H,.cells #[.string (⟨#[]⟩:ByteArray),.slice none 0 0] 26 (0,0))] [s.2.2.2.1,ob s.2.2.1,ob v3,[a]]) (fun m s=>iF N A o m s.2.1 s.2.2.2.2.1 s.2.2.2.2.2.1 s.2.2.2.2.2.2=some r∧(OSl RS 9 1 s.1 [] v3 ([(⟨#[114,49]⟩:ByteArray),(⟨#[114,50]⟩:ByteArray),(⟨#[114,51]⟩:ByteArray),(⟨#[114,52]⟩:ByteArray)]:List ByteArray))∧(OSl dM 87 5 s.1 s.2.2.2.1 s.2.2.1 s.2.1)∧(s.1 a=some (.cells #[e,iV s.2.2.2.2.2.1,iV s.2.2.2.2.2.2] 144 (0,0)))) (Z,([]:List ai),(.slice none 0 0),[],0,o.2.i,o.2.h) N ⟨h,d,k1,Y⟩ (sx [0,0,0,0] [0,0]) (fun n1 aM s hm=>?_)
 obtain⟨aX,s1,E,P,s2,s3,s4⟩:=s
 obtain⟨h,d,y,k3⟩:=hm
 dsimp only at h d y k3 ⊢
 unfold iF at h
 refine atr 5 [] J<|kcb [3] h J J J J (fun b ap z q=>aJ N b (⟨A.b,s3,s4⟩:a8) 4 (V.y z) k3 q) ?_
 rintro x2 h v4 ao F2 ⟨af,aq,rfl,rfl,e2,h4⟩
 replace d:=d.fr aq (af.q 2 J) dN
 replace y:=y.fr aq (af.q 1 J) (af.q 0 J)
 refine arr 3 [] J ?_
 obtain⟨b3,Q,h⟩:=bs h
 refine WL.cutN 3 [(19,.bool b3),(0,pQ a),(2,pQ H),(3,pQ I),(4,v3),(5,iV s2)] ?_ (fun K=>?_)
 rotate_left
 ·refine sp 16 Q J (fun Q=>?_) fun Q=>?_
  ·refine arr 3 [] J ?_
   cases Q
   exact ku K
  ·refine arr 3 [] J ?_
   cases Q
   exact ku K
 refine en ?_
 refine ch h J ?_ ?_ <;> intro h
 ·refine att 3 [] J<|WT.mix (Kn w0 ao (ob v3) [(I,.cells #[.string o.1,E] 26 (0,0)),(H,.cells #[.string (⟨#[]⟩:ByteArray),.slice none 0 0] 26 (0,0))]) (fun i=>match i with | 11=>false | _=>true) mixed (fun _ h=>h.drew)<|mq 0 J MA (kn Kf.id (ai2 0 1 J J)) (ak qN J) J<|mq 1 J MA (kn Kf.id (ai2 0 1 J J)) (az E8 J (fun B hw=>hw.rgO (i:=0) J 1 1 [E] J)) J<|ma 2 J MA (kn Kf.id (ai2 0 1 J J)) J<|ma 3 J MA (kn Kf.id (ai2 0 1 J J)) J ?_
  refine ma 4 J MA (kn Kf.id (ai2 0 1 J J)) J ?_
  obtain⟨x3,au,h⟩:=bs h
  obtain⟨aY,F3,-,g1,aN,b1,r1⟩:=d.elS (aa au).2.2
  obtain⟨rfl,-⟩:=r1
  refine mq 5 J MA (kn Kf.id (ai2 0 1 J J)) (ae eE J J d.rsl au) J<|mq 6 J MA (kn Kf.id (ai2 0 1 J J)) (az Lb J (fun B hw=>hw.rg aN (g1.of_eq 0 1 J J:rg _ _ _ [.string x3]))) J ?_
  obtain⟨k,aO,h⟩:=bs h
  refine WM.one 7 MA (mc J (fun _ v aw D B G hw=>Kn.of (Kf.id.st G.2.1 (G.1.r (i:=2) J)) (ai2 0 1 J J) hw) (bt (js:=[0]) (R:=[P,ob E,ob v3]) Jz J J (fun B hw ap hl=>tR N (bx hw ap hl) (⟨A.b,x2.2.i,x2.2.h⟩:a8) x3 (V.y (hw.uo ap)) h4  aO)) J ?_)
  rintro v5 aP F4 ⟨T,ag,v6,M,w,x,O,rfl,rfl,h5,h6,h7,e3,S⟩
  replace d:=d.fr ag (T.q 2 J) dN
  replace y:=y.fr ag (T.q 1 J) (T.q 0 J)
  have ax:RC dM 5 aP ([(ob v6++M)++((ob w++[])++((ob x++O)))]:List (List Nat)) [.string k.1.Name,iV k.1.Sal,v6,w,x] ([k.1]:List ai):=RC.cons (c:=[.string k.1.Name,iV k.1.Sal,v6,w,x]) (cells:=[]) ⟨v6,M,w,x,O,J,J,h5,h6,h7⟩ J (RC.nil _ _ _)
  have ay:=(Kf.id (F:=(ob v3)):Kf ao _ _).st ag (T.q 2 J)
  refine WM.one 8 MA (me J (fun _ v aw D B G hw=>Kn.of (ay.se G.1) (ai2 0 1 J J) hw) (aQ (vs:=[(0,.agg [.string k.1.Name,iV k.1.Sal,v6,w,x].toArray)]) (C:=#[.string k.1.Name,iV k.1.Sal,v6,w,x]) dM.lasts si sU J J J J (ac DF (a7 (C':=[.string k.1.Name,iV k.1.Sal,v6,w,x]) J J J J J (ab))) J ax J (RC.kn dM.knows ax)) J ?_)
  rintro v9 aB D6 ⟨U,h9⟩
  replace h9:OSl dM 87 5 aB ((ob v6++M)++((ob w++[])++((ob x++O)))) v9 ([k.1]:List ai):=by simpa[gk] using h9
  replace d:=d.f0 U
  replace y:=y.f0 U
  replace S:=U _ _ MC S
  refine WM.conv (S':=St w0 aB [(I,.cells #[.string o.1,E] 26 (0,0)),(H,.cells #[.string (⟨#[]⟩:ByteArray),.slice none 0 0] 26 (0,0))] [((ob v6++M)++((ob w++[])++((ob x++O)))),ob v9,[a],P,ob E,ob v3]) (fun B hw=>hw.merge (js:=[1,1,1,1,1]) J (SP.eq (by simp[gk,bH]))) ?_
  obtain⟨x5,aR,h⟩:=bs h
  have aC:=ay.se U
  refine WM.one 9 MA (me J (fun _ v aw D B G hw=>Kn.of (aC.st G.1.2 (G.1.1.r (i:=4) J)) (ai2 0 1 J J) hw) (cq dM.lasts dM.one si J3 J J J J J (js:=[4]) (Rr:=[((ob v6++M)++((ob w++[])++((ob x++O)))),ob v9,[a],P,ob v3]) J y h9 (fun ap=>ap.q 3 J) (fun ap=>ap.q 0 J) aR) J ?_)
  rintro v10 aS D7 ⟨⟨ah,aj⟩,aD⟩
  replace d:=d.fr aj (ah.q 4 J) dN
  replace S:=aj _ _ ((ah.q 2 J) _ MC) S
  refine WM.conv (S':=St w0 aS [(I,.cells #[.string o.1,E] 26 (0,0)),(H,.cells #[.string (⟨#[]⟩:ByteArray),.slice none 0 0] 26 (0,0))] [(P++((ob v6++M)++((ob w++[])++((ob x++O))))),ob v10,ob v9,[a],ob v3]) (fun B hw=>hw.merge (js:=[4,1]) J (SP.eq MC)) ?_
  have aT:=aC.st aj (ah.q 4 J)
  refine mq 10 J MA (kn aT (ai2 0 1 J J)) (ak qN J) J ?_
  refine on1 11 (ms1 0 J nk Gj J aD.one ?_)
  refine WM.nil MA<|att 6 [] J ?_
  exact lb [0,0,2,1] [0,0] (aM (_,_,_,_,_,_,_) ⟨h,d,aD,S⟩)
 refine atr 4 [2] J<|soN 1 sD J ⟨J,y.one,trivial⟩ J ?_
 refine en ?_
 exact rtg [2,1,0] hF (aA.one (aZ BE J (fun B hw=>hw.rgO (i:=1) J 0 2 [.string o.1,E] J) J)) J (by cases h;exact fun B hw=>⟨E,P,rfl,rfl,y,rfl,h4⟩)
theorem tX (w0:av g f [[a]].flatten) (o:a8) (E:RSl (RI .u8) 1 g p e o.b) (F:f a=some (.cells #[e,iV o.i,iV o.h] 144 (0,0))) {r:aH × a8} (h:kY N o=some r) :
  Calls prog 61 [pQ a].toArray w0.w (be f w0.w [[a]].flatten (fun O Fs v=>∃ (G:Value),v = .agg [.string r.1.Kind,G].toArray∧Fs=[ob G,[a]]∧OSl aX 95 3 O [] G r.1.Fields∧r.2.b=o.b∧O a=some (.cells #[e,iV r.2.i,iV r.2.h] 144 (0,0)))):=by
 refine eL func61 J ntmps61 J (L:=[[a]]) w0 (fun Z=>?_)
 unfold kY at h
 refine sr<|lnz mr J fun w=>arr 4 [] J ?_
 have aa:RC RS 1 f ([[],[],[],[]]:List (List Nat)) [.string (⟨#[111,114,100,101,114]⟩:ByteArray),.string (⟨#[112,97,105,100]⟩:ByteArray),.string (⟨#[105,116,101,109]⟩:ByteArray),.string (⟨#[111,114,100,101,114]⟩:ByteArray)] ([(⟨#[111,114,100,101,114]⟩:ByteArray),(⟨#[112,97,105,100]⟩:ByteArray),(⟨#[105,116,101,109]⟩:ByteArray),(⟨#[111,114,100,101,114]⟩:ByteArray)]:List ByteArray):=RC.cons (c:=[.string (⟨#[111,114,100,101,114]⟩:ByteArray)]) (cells:=[.string (⟨#[112,97,105,100]⟩:ByteArray),.string (⟨#[105,116,101,109]⟩:ByteArray),.string (⟨#[111,114,100,101,114]⟩:ByteArray)]) ⟨J,J⟩ J (RC.cons (c:=[.string (⟨#[112,97,105,100]⟩:ByteArray)]) (cells:=[.string (⟨#[105,116,101,109]⟩:ByteArray),.string (⟨#[111,114,100,101,114]⟩:ByteArray)]) ⟨J,J⟩ J (RC.cons (c:=[.string (⟨#[105,116,101,109]⟩:ByteArray)]) (cells:=[.string (⟨#[111,114,100,101,114]⟩:ByteArray)]) ⟨J,J⟩ J (RC.cons (c:=[.string (⟨#[111,114,100,101,114]⟩:ByteArray)]) (cells:=[]) ⟨J,J⟩ J (RC.nil _ _ _))))
 refine le' (aQ (vs:=[(0,.string (⟨#[111,114,100,101,114]⟩:ByteArray)),(1,.string (⟨#[112,97,105,100]⟩:ByteArray)),(2,.string (⟨#[105,116,101,109]⟩:ByteArray)),(3,.string (⟨#[111,114,100,101,114]⟩:ByteArray))]) (C:=#[.string (⟨#[111,114,100,101,114]⟩:ByteArray),.string (⟨#[112,97,105,100]⟩:ByteArray),.string (⟨#[105,116,101,109]⟩:ByteArray),.string (⟨#[111,114,100,101,114]⟩:ByteArray)]) RS.lasts eE ot J J J J (ac AS (a7 (C':=[.string (⟨#[111,114,100,101,114]⟩:ByteArray),.string ⟨#[]⟩,.string ⟨#[]⟩,.string ⟨#[]⟩]) J J J J J (a7 (C':=[.string (⟨#[111,114,100,101,114]⟩:ByteArray),.string (⟨#[112,97,105,100]⟩:ByteArray),.string ⟨#[]⟩,.string ⟨#[]⟩]) J J J J J (a7 (C':=[.string (⟨#[111,114,100,101,114]⟩:ByteArray),.string (⟨#[112,97,105,100]⟩:ByteArray),.string (⟨#[105,116,101,109]⟩:ByteArray),.string ⟨#[]⟩]) J J J J J (a7 (C':=[.string (⟨#[111,114,100,101,114]⟩:ByteArray),.string (⟨#[112,97,105,100]⟩:ByteArray),.string (⟨#[105,116,101,109]⟩:ByteArray),.string (⟨#[111,114,100,101,114]⟩:ByteArray)]) J J J J J (ab)))))) J aa J (by simpa using Kw.nil)) J ?_
 rintro v1 ae D1 ⟨af,h1⟩
 replace h1:OSl RS 9 1 ae [] v1 ([(⟨#[111,114,100,101,114]⟩:ByteArray),(⟨#[112,97,105,100]⟩:ByteArray),(⟨#[105,116,101,109]⟩:ByteArray),(⟨#[111,114,100,101,114]⟩:ByteArray)]:List ByteArray):=by simpa using h1
 replace F:=af _ _ MC F
 refine kcb [1] h J J J J (fun b ap z q=>bT N b o ([(⟨#[111,114,100,101,114]⟩:ByteArray),(⟨#[112,97,105,100]⟩:ByteArray),(⟨#[105,116,101,109]⟩:ByteArray),(⟨#[111,114,100,101,114]⟩:ByteArray)]:List ByteArray) (E.y z) F (h1.rsl.x (Dj.app (ap.q 0 J) dN)) q) ?_
 rintro k h v2 P F1 ⟨aw,ax,rfl,rfl,e1,h2⟩
 refine lq (aU (vs:=[(0,.string k.1)]) (C:=#[.string k.1,.slice none 0 0]) E9 mr J (a7 (C':=[.string k.1,.slice none 0 0]) J J J J J (ab))) J<|lnz mr J fun x=>soN 0 o9 J ⟨J,J,trivial⟩ J ?_
 refine art 12 [0,0] J ?_
 refine cut (σ:=Int) (fun s=>[(0,pQ a),(2,pQ w),(3,pQ x),(4,iV s)]) (fun s=>St w0 P [(x,.cells #[.string k.1,.slice none 0 0] 52 (0,0)),(w,.cells #[.string (⟨#[]⟩:ByteArray),.slice none 0 0] 52 (0,0))] [[a]]) (fun s=>iq N o k s=some r) (fun s hm=>?_) (fun K=>?_)
 ·clear h
  revert hm;revert s;intro s1 hm
  have h:iq N o k s1=some r:=hm
  show WT _ _ [(0,pQ a),(2,pQ w),(3,pQ x),(4,iV s1)] (St w0 P [(x,.cells #[.string k.1,.slice none 0 0] 52 (0,0)),(w,.cells #[.string (⟨#[]⟩:ByteArray),.slice none 0 0] 52 (0,0))] [[a]])
  unfold iq at h
  refine atr 4 [] J<|kcb [0] h J J J J (fun b ap z q=>cj N b (⟨o.b,k.2.i,k.2.h⟩:a8) 12 (E.y z) h2 q) ?_
  rintro Q h v3 ay F2 ⟨az,aB,rfl,rfl,e2,S⟩
  refine en ?_
  refine cut (σ:=Hp × Int × Int × Int) (fun s=>[(0,pQ a),(2,pQ w),(3,pQ x),(4,iV s.2.1)]) (fun s=>St w0 s.1 [(x,.cells #[.string k.1,.slice none 0 0] 52 (0,0)),(w,.cells #[.string (⟨#[]⟩:ByteArray),.slice none 0 0] 52 (0,0))] [[a]]) (fun s=>kE N o k s.2.1 s.2.2.1 s.2.2.2=some r∧(s.1 a=some (.cells #[e,iV s.2.2.1,iV s.2.2.2] 144 (0,0)))) (fun s hm=>?_) (fun K=>?_)
  ·clear h
   obtain⟨T,s2,s3,s4⟩:=s
   obtain⟨h,U⟩:=hm
   dsimp only at h U ⊢
   unfold kE at h
   refine att 6 [] J<|wtS ?_
   have k2:=OSl.nil aX 95 3 T
   refine lin (σ:=Hp × (List bi) × Value × Int × Int × Int) (fun s=>[(0,pQ a),(2,pQ w),(3,pQ x),(4,iV s2),(5,iV s.2.2.2.1)]) (fun s=>St w0 s.1 [(x,.cells #[.string k.1,s.2.2.1] 52 (0,0)),(w,.cells #[.string (⟨#[]⟩:ByteArray),.slice none 0 0] 52 (0,0))] [ob s.2.2.1,[a]]) (fun m s=>jm N o k s2 m s.2.1 s.2.2.2.1 s.2.2.2.2.1 s.2.2.2.2.2=some r∧(OSl aX 95 3 s.1 [] s.2.2.1 s.2.1)∧(s.1 a=some (.cells #[e,iV s.2.2.2.2.1,iV s.2.2.2.2.2] 144 (0,0)))) (T,([]:List bi),(.slice none 0 0),0,s3,s4) N ⟨h,k2,U⟩ (sx [0,0] [0,0]) (fun n3 ag s hm=>?_)
   obtain⟨aC,s5,H,s6,s7,s8⟩:=s
   obtain⟨h,y,I⟩:=hm
   dsimp only at h y I ⊢
   unfold jm at h
   refine att 7 [] J ?_
   refine ch h J ?_ ?_ <;> intro h
   ·refine att 3 [] J<|wm [0,1] [7] J<|amm 3 [0,1,1,0,2] [0,1] J J ?_
    obtain⟨d,ah,h⟩:=bs h
    refine WM.one 3 MA (mc J (fun _ v V D A W hw=>Kn.of Kf.nil (ai2 0 1 J J) hw) (bt (js:=[1]) (R:=[ob H]) Iv J J (fun A hw ap hl=>oO N (bx hw ap hl) (⟨o.b,s7,s8⟩:a8) (E.y (hw.uo ap)) I  ah)) J ?_)
    rintro v4 ai F3 ⟨aj,ak,rfl,rfl,e3,B⟩
    replace y:=y.fr ak (aj.q 0 J) dN
    have al:RC aX 3 ai ([[]]:List (List Nat)) [iV d.1.K,iV d.1.N,.string d.1.S] ([d.1]:List bi):=RC.cons (c:=[iV d.1.K,iV d.1.N,.string d.1.S]) (cells:=[]) ⟨J,J⟩ J (RC.nil _ _ _)
    refine WM.one 4 MA (me J (fun _ v V D A W hw=>Kn.of Kf.nil (ai2 0 1 J J) hw) (aQ (vs:=[(0,.agg [iV d.1.K,iV d.1.N,.string d.1.S].toArray)]) (C:=#[iV d.1.K,iV d.1.N,.string d.1.S]) aX.lasts iB jF J J J J (ac AV (a7 (C':=[iV d.1.K,iV d.1.N,.string d.1.S]) J J J J J (ab))) J al J (by simpa using Kw.nil)) J ?_)
    rintro v5 an D2 ⟨X,M⟩
    replace M:OSl aX 95 3 an [] v5 ([d.1]:List bi):=by simpa using M
    replace y:=y.f0 X
    replace B:=X _ _ MC B
    obtain⟨x4,ao,h⟩:=bs h
    refine WM.one 5 MA (me J (fun _ v V D A W hw=>Kn.of Kf.nil (ai2 0 1 J J) hw) (bg aX.lasts aX.one aX.flat iB C8 J J J J J (js:=[2]) (Rr:=[ob v5,[a]]) J y M.rsl ao) J ?_)
    rintro v6 aD D3 ⟨⟨aq,au⟩,Y⟩
    replace B:=au _ _ ((aq.q 1 J) _ MC) B
    refine amm 1 [6,1] [0,1] J J ?_
    refine on1 7 (ms1 0 J nk E7 J Y.one ?_)
    refine WM.nil MA<|att 6 [] J ?_
    exact lb [0,1] [0,0] (ag (_,_,_,_,_,_) ⟨h,Y,B⟩)
   refine atr 4 [2] J<|soN 1 o9 J ⟨J,y.one,trivial⟩ J ?_
   refine en ?_
   exact rtg [0,0] Z (aA.one (aZ nT J (fun A hw=>hw.rgO (i:=1) J 0 2 [.string k.1,H] J) J)) J (by cases h;exact fun A hw=>⟨H,rfl,rfl,y,rfl,I⟩)
  refine ch h J ?_ ?_ <;> intro h
  ·refine atr 2 [] J<|kcb [0] h J J J J (fun b ap z q=>aJ N b (⟨o.b,Q.2.i,Q.2.h⟩:a8) 6 (E.y z) S q) ?_
   rintro x5 h v7 aF F4 ⟨aG,aI,rfl,rfl,e4,h7⟩
   refine la J<|en ?_
   exact wo [0] [0,0] (K (_,_,_,_) ⟨h,h7⟩)
  refine WT.skip ?_
  exact wo [0] [0,0] (K (_,_,_,_) ⟨h,S⟩)
 refine ch h J ?_ ?_ <;> intro h
 ·refine att 3 [] J ?_
  exact wo [0] [0,0] (K _ h)
 refine WT.skip ?_
 exact wo [0] [0,0] (K _ h)
theorem ua (w0:av g f [[a]].flatten) (w:ag) (y:Int) (o:RSl bj 3 g p e w.Items) (z:f a=some (.cells #[e,iV w.Next] 29 (0,0))) {r:Bool × ag} (h:mP N w y=some r) :
  Calls prog 90 [pQ a,iV y].toArray w0.w (be f w0.w [[a]].flatten (fun E Fs v=>∃ (A:Value) (F:List Nat),v = .bool r.1∧Fs=[[a],ob A]∧OSl bj 66 3 E F A r.2.Items∧(∀ k∈F,k∈p)∧E a=some (.cells #[A,iV r.2.Next] 29 (0,0)))):=by
 refine eL func90 J ntmps90 J (L:=[[a]]) w0 (fun S=>?_)
 unfold mP at h
 refine atr 6 [] J ?_
 have T:RC fK 3 f ([]:List (List Nat)) [] ([]:List aw):=RC.nil _ _ _
 refine le' (aQ (vs:=[]) (C:=#[]) fK.lasts lL tN J J J J (ac HO (ab)) J T J (by simpa using Kw.nil)) J ?_
 rintro v1 B D1 ⟨U,h1⟩
 replace h1:OSl fK 66 3 B [] v1 ([]:List aw):=by simpa[gk] using h1
 replace z:=U _ _ MC z
 refine WL.conv (S':=St w0 B [] [[],ob v1,[a]]) (fun V hw=>hw.addNil)<|art 8 [] J ?_
 replace h1:=h1.gives fK.gives
 refine lin (σ:=Hp × (List aw) × Value × List Nat × Int) (fun s=>[(0,pQ a),(1,iV y),(5,s.2.2.1),(6,iV s.2.2.2.2)]) (fun s=>St w0 s.1 [] [ob s.2.2.1,[a]]) (fun m s=>eW N w y m s.2.1 s.2.2.2.2=some r∧(OSl bj 66 3 s.1 s.2.2.2.1 s.2.2.1 s.2.1)∧(∀ k∈s.2.2.2.1,k∈p)∧(s.1 a=some (.cells #[e,iV w.Next] 29 (0,0)))) (B,([]:List aw),v1,[],0) N ⟨h,h1,MC,z⟩ (sx [1,1] []) (fun n1 G s hm=>?_)
 obtain⟨W,s1,H,X,s2⟩:=s
 obtain⟨h,b,q,d⟩:=hm
 dsimp only at h b q d ⊢
 unfold eW at h
 refine atr 5 [] J<|lq (aG J) J<|lf nR J J J<|lgx 0 0 (bZ d) J<|lnr o J<|la J<|en ?_
 refine ch h J ?_ ?_ <;> intro h
 ·refine atr 6 [] J<|lq (aG J) J<|lf nR J J J<|lgx 0 0 (bZ d) J<|la J ?_
  obtain⟨x1,I,h⟩:=bs h
  obtain⟨al,F1,-,g1,an,ao,Y⟩:=o.el (aa I).2.2
  obtain⟨v2,G1,rfl,Z,h2⟩:=Y
  obtain rfl:=Z.symm
  refine lia o I J<|lf sZ J J J<|lhx 0 0 g1 J<|art 3 [] J ?_
  refine ch h J ?_ ?_ <;> intro h
  ·refine atr 3 [] J<|lq (aG J) J<|lf nR J J J<|lgx 0 0 (bZ d) J<|la J ?_
   obtain⟨i,K,h⟩:=bs h
   obtain⟨aq,F2,-,g2,au,M,r2⟩:=o.el (aa K).2.2
   obtain⟨v3,x,rfl,a8,h3⟩:=r2
   obtain rfl:=a8.symm
   refine lia o K J<|lhx 0 3 g2 J<|lu0 h3 fun h4=>?_
   have O:RC bj 3 W ([x]:List (List Nat)) [iV i.Id,.string i.F.Kind,v3] ([i]:List aw):=RC.cons (c:=[iV i.Id,.string i.F.Kind,v3]) (cells:=[]) ⟨v3,x,J,J,h4⟩ J (RC.nil _ _ _)
   refine le' (aQ (vs:=[(0,.agg [iV i.Id,.string i.F.Kind,v3].toArray)]) (C:=#[iV i.Id,.string i.F.Kind,v3]) bj.lasts lL tN J J J J (ac Dz (a7 (C':=[iV i.Id,.string i.F.Kind,v3]) J J J J J (ab))) J O J (RC.kn bj.knows O)) J ?_
   rintro v4 ae D3 ⟨P,D⟩
   replace D:OSl bj 66 3 ae (x) v4 ([i]:List aw):=by simpa[gk] using D
   replace b:=b.f0 P
   replace d:=P _ _ MC d
   obtain⟨x3,af,h⟩:=bs h
   refine le' (cq bj.lasts bj.one lL J2 J J J J J (js:=[1]) (Rr:=[ob v4,[a]]) J b D (fun ap=>(Dj.sub (ap.o o.old) q)) (fun ap=>(Dj.sub (Dj.sub (ap.o o.old) (fun k h=>M k h)) (fun k hk=>(by simpa[gk] using hk:k∈x)))) af) J ?_
   rintro v5 ax D4 ⟨⟨ah,ai⟩,h6⟩
   replace d:=ai _ _ ((ah.q 1 J) _ MC) d
   refine art 8 [] J ?_
   exact lb [0,1] [] (G (_,_,_,_,_) ⟨h,h6,(fun k hk=>((gb.1 hk).elim (fun h=>(q k h)) (fun h=>((fun k h=>M k h) k ((fun k hk=>(by simpa[gk] using hk:k∈x)) k h))))),d⟩)
  refine att 7 [] J ?_
  exact lb [0,0] [] (G (_,_,_,_,_) ⟨h,b,(fun k hk=>(q k hk)),d⟩)
 refine atr 4 [] J<|lno b J<|la J<|lq (aG J) J<|lf nR J J J<|lgx 0 0 (bZ d) J<|lnr o J<|arr 7 [] J<|lq (aG J) J<|lf nR J J J ?_
 refine WL.thw (js:=[1]) (R:=[ob H]) J d (fun ay Q aj=>?_)
 replace b:=b.fr aj (Q.q 0 J) (Dj.sub (Q.o o.old) q)
 refine so1 0 IY J b.one ?_
 refine art 6 [] J ?_
 refine WT.frz (js:=[0]) (R:=[]) J (fun az ak k3=>?_)
 replace b:=b.f0 ak
 exact rtg [0,0] S (aA.one J) J (by cases h;exact fun V hw=>⟨H,X,rfl,rfl,b,(fun k hk=>(q k hk)),k3⟩)
theorem pY (w0:av g f []) (b:(List bi)) (c:(List bi)) (d:RSl aX 3 g aE t b) (o:RSl aX 3 g ar n c) {r:Bool} (h:iE N b c=some r) :
  CB w0 prog 178 [t,n] (.bool r):=by
 refine eN func178 J ntmps178 J w0 fun q=>?_
 unfold iE at h
 refine atr 8 [] J<|lnr d J<|la J<|lnr o J<|la J<|en ?_
 refine ch h J ?_ ?_ <;> intro h
 ·refine att 4 [] J ?_
  exact rt q h
 refine att 7 [] J ?_
 refine lin (σ:=Int) (fun s=>[(0,t),(1,n),(5,iV s)]) (fun s=>St w0 f [] []) (fun m s=>ee N b c m s=some r) (0) N h (sx [] []) (fun x y s hm=>?_)
 revert hm;revert s;intro s1 hm
 have h:ee N b c (x+1) s1=some r:=hm
 show WT _ _ [(0,t),(1,n),(5,iV s1)] (St w0 f [] [])
 unfold ee at h
 refine atr 5 [] J<|lnr d J<|la J<|en ?_
 refine ch h J ?_ ?_ <;> intro h
 ·refine att 4 [] J<|WT.draw mixed MA (fun _ h=>h.drew)<|aqq 2 [] J ?_
  obtain⟨i,v,h⟩:=bs h
  obtain⟨C,D,-,g1,E,F,z⟩:=d.el (aa v).2.2
  obtain⟨rfl,-⟩:=z
  refine qq (ae iB J J d v) J<|qq (aC kM J (fun A hw=>(g1.of_eq 0 3 J J:rg _ _ _ [iV i.K,iV i.N,.string i.S]).rangeAt hw.in0) J) J<|aqq 2 [] J ?_
  obtain⟨k,w,h⟩:=bs h
  obtain⟨G,H,-,g2,I,K,B⟩:=o.el (aa w).2.2
  obtain⟨rfl,-⟩:=B
  refine qq (ae iB J J o w) J<|qq (aC kM J (fun A hw=>(g2.of_eq 0 3 J J:rg _ _ _ [iV k.K,iV k.N,.string k.S]).rangeAt hw.in0) J) J<|qq (sW mT J J J (r:=bq i k) J) J<|WQ.nil ?_
  refine ch h J ?_ ?_ <;> intro h
  ·refine att 4 [] J ?_
   exact rt q h
  refine att 7 [] J ?_
  exact lb [] [] (y _ h)
 refine att 5 [] J ?_
 exact rt q h
theorem wx (w0:av g f []) (c:aH) (d:aH) (i:RSl aX 3 g p e c.Fields) (k:RSl aX 3 g ad j d.Fields) {r:Bool} (h:lY N c d=some r) :
  CB w0 prog 108 [.agg [.string c.Kind,e].toArray,.agg [.string d.Kind,j].toArray] (.bool r):=by
 refine eN func108 J ntmps108 J w0 fun m=>?_
 unfold lY at h
 refine sr<|lbx J fun q=>lbx J fun s=>arr 10 [0,32,0,0] J ?_
 obtain⟨o,b,h⟩:=bs h
 refine WL.cutN 6 [(16,.bool o),(4,.bool false)] ?_ (fun K=>?_)
 rotate_left
 ·refine sp 10 b J (fun b=>?_) fun b=>?_
  ·refine arr 4 [1,32,1,0] J<|ly J J<|qd b (pY N · c.Fields d.Fields i k ·) J J J fun v b=>la J ?_
   cases b
   exact ku K
  ·refine arr 6 [] J ?_
   cases b
   exact ku K
 refine la J<|en ?_
 exact rt m h
theorem sH (w0:av g f []) (c:ag) (b:aH) (d:RSl bj 3 g p e c.Items) (z:RSl aX 3 g ad j b.Fields) {r:Int} (h:pN N c b=some r) :
  CB w0 prog 48 [.agg [e,iV c.Next].toArray,.agg [.string b.Kind,j].toArray] (iV r):=by
 refine eN func48 J ntmps48 J w0 fun q=>?_
 unfold pN at h
 refine sr<|lbx J fun k=>lbx J fun o=>art 8 [] J ?_
 refine lin (σ:=Int) (fun s=>[(2,pQ k),(3,pQ o),(5,iV s)]) (fun s=>St w0 f [(o,.cells #[.string b.Kind,j] 52 (0,0)),(k,.cells #[e,iV c.Next] 29 (0,0))] []) (fun m s=>iP N c b m s=some r) (0) N h (sx [] [0,0]) (fun A B s hm=>?_)
 revert hm;revert s;intro s1 hm
 have h:iP N c b (A+1) s1=some r:=hm
 show WT _ _ [(2,pQ k),(3,pQ o),(5,iV s1)] (St w0 f [(o,.cells #[.string b.Kind,j] 52 (0,0)),(k,.cells #[e,iV c.Next] 29 (0,0))] [])
 unfold iP at h
 refine atr 6 [0,32] J<|lnr d J<|la J<|en ?_
 refine ch h J ?_ ?_ <;> intro h
 ·refine att 4 [] J<|WT.draw mixed MA (fun _ h=>h.drew)<|aqq 3 [0,32] J ?_
  obtain⟨v,w,h⟩:=bs h
  obtain⟨H,I,-,g1,K,L,C⟩:=d.el (aa w).2.2
  obtain⟨v1,M,rfl,D,h1⟩:=C
  obtain rfl:=D.symm
  refine qq (ae lL J J d w) J<|qq (ak Bf J) J<|qq (aC nT J (fun x hw=>(g1.of_eq 1 2 J J:rg _ _ _ [.string v.F.Kind,v1]).rangeAt hw.in0) J) J<|qq (aC nT J (fun x hw=>hw.rgO (i:=0) J 0 2 [.string b.Kind,j] J) J) J ?_
  obtain⟨O,E,h⟩:=bs h
  refine qp (cK Iu J (fun x hw=>wx N (ba hw.in0) v.F b h1 z E)) J<|WQ.nil ?_
  refine ch h J ?_ ?_ <;> intro h
  ·refine atr 5 [0,32] J ?_
   obtain⟨P,y,h⟩:=bs h
   obtain⟨Q,R,-,g2,S,T,F⟩:=d.el (aa y).2.2
   obtain⟨v2,U,rfl,G,V⟩:=F
   obtain rfl:=G.symm
   refine lia d y J<|lf sZ J J J<|lhx 0 0 g2 J<|la J<|en ?_
   exact rt q h
  refine att 7 [] J ?_
  exact lb [] [0,0] (B _ h)
 refine att 5 [] J ?_
 exact rt q h
theorem tD (w0:av g f []) (b:aH) (k:RSl aX 3 g p e b.Fields) {r:aH} (h:jS N b=some r) :
  Calls prog 154 [.agg [.string b.Kind,e].toArray].toArray w0.w (be f w0.w [] (fun m Fs v=>∃ (c:Value),v = .agg [.string r.Kind,c].toArray∧Fs=[ob c]∧OSl aX 95 3 m [] c r.Fields)):=by
 refine eN func154 J ntmps154 J w0 fun o=>?_
 unfold jS at h
 refine sr<|lbx J fun x=>lnz mr J fun y=>en<|sr<|le' (cO aX.lasts iB jF J J) J ?_
 rintro v1 z A ⟨B,h1⟩
 refine arr 2 [1,32] J<|lu0 k fun q=>?_
 obtain⟨C,s,h⟩:=bs h
 refine le' (bg aX.lasts aX.one aX.flat iB C8 J J J J J (js:=[0]) (Rr:=[]) J h1 q s) J ?_
 rintro v2 D E ⟨⟨F,G⟩,d⟩
 refine lf FJ J J J<|so1 1 E7 J d.one ?_
 refine arr 4 [34] J<|soN 0 o9 J ⟨J,d.one,trivial⟩ J ?_
 refine en ?_
 exact rtg [0] o (aA.one (aZ nT J (fun w hw=>hw.rgO (i:=0) J 0 2 [.string b.Kind,v2] J) J)) J (by cases h;exact fun w hw=>⟨v2,rfl,rfl,d⟩)
theorem sc (w0:av g f [[a],ob e].flatten) (b:ag) (o:aH) (q:OSl bj 66 3 f a6 e b.Items) (d:f a=some (.cells #[e,iV b.Next] 29 (0,0))) (Q:RSl aX 3 g ad j o.Fields) (ae:Dj a6 [[a],ob e].flatten) {r:Int × ag} (h:j7 N b o=some r) :
  Calls prog 91 [pQ a,.agg [.string o.Kind,j].toArray].toArray w0.w (be f w0.w [[a],ob e].flatten (fun S Fs v=>∃ (B:Value) (T:List Nat) (X:List Nat),v=iV r.1∧Fs=[[a],ob B,X]∧OSl bj 66 3 S T B r.2.Items∧(∀ k∈T,k∈(X++a6))∧S a=some (.cells #[B,iV r.2.Next] 29 (0,0)))):=by
 refine eL func91 J ntmps91 J (L:=[[a],ob e]) w0 (fun E=>?_)
 have G:=Old.mk w0 q.kn ae
 unfold j7 at h
 refine sr<|lbx J fun z=>art 3 [] J<|WT.draw mixed MA (fun _ h=>h.drew)<|qq (de J) J<|qq (aG J) J<|qq (aC rm J (fun m hw=>((bZ d).of_eq 0 2 J J:rg _ _ _ [e,iV b.Next]).rangeAt hw.fro) J) J<|qq (aC nT J (fun m hw=>hw.rgO (i:=0) J 0 2 [.string o.Kind,j] J) J) J ?_
 obtain⟨x1,af,h⟩:=bs h
 refine qp (cK FT J (fun m hw=>sH N (ba hw.fro) b o q.rsl (Q.y hw.up) af)) J<|aqt 8 [] J ?_
 refine ch h J ?_ ?_ <;> intro h
 ·refine att 5 [] J ?_
  refine WT.ret E (aA.one J) (fun m hw=>?_)
  cases h
  replace hw:=hw.addNil
  refine aW (js:=[1,1,0]) hw J ⟨e,a6,[],J,J,q,(fun k hk=>(gb.2 (.inr hk))),d⟩
 refine atr 5 [] J<|lq (aG J) J<|lf nR J J J<|lgx 0 0 (bZ d) J<|lno q J<|arr 2 [] J ?_
 obtain⟨b1,y,h⟩:=bs h
 refine WL.cutN 6 [(26,.bool b1),(0,pQ a),(3,pQ z)] ?_ (fun K=>?_)
 rotate_left
 ·refine sp 20 y J (fun y=>?_) fun y=>?_
  ·refine arr 6 [] J ?_
   cases y
   exact ku K
  ·refine ly J J<|la J<|ly J J<|lq (aG J) J<|ly J J<|lf yd J J J<|ly J J<|lgx 1 0 (bZ d) J<|arr 2 [] J ?_
   cases y
   exact ku K
 refine en ?_
 refine ch h J ?_ ?_ <;> intro h
 ·refine att 4 [] J ?_
  refine WT.ret E (aA.one J) (fun m hw=>?_)
  cases h
  replace hw:=hw.addNil
  refine aW (js:=[1,1,0]) hw J ⟨e,a6,[],J,J,q,(fun k hk=>(gb.2 (.inr hk))),d⟩
 refine att 2 [] J<|WT.mix (Kn w0 f [a] [(z,.cells #[.string o.Kind,j] 52 (0,0))]) (fun i=>match i with | 16=>false | _=>true) mixed (fun _ h=>h.drew)<|ma 0 J MA (kn Kf.id (am [0] J)) J<|ma 1 J MA (kn Kf.id (am [0] J)) J<|mq 2 J MA (kn Kf.id (am [0] J)) (aG J) J<|mq 3 J MA (kn Kf.id (am [0] J)) (ak nR J) J<|mq 4 J MA (kn Kf.id (am [0] J)) (az L9 J (fun m hw=>hw.rg MC ((bZ d).of_eq 0 1 J J:rg _ _ _ [e]))) J ?_
 refine ma 5 J MA (kn Kf.id (am [0] J)) J<|mq 6 J MA (kn Kf.id (am [0] J)) (aG J) J<|mq 7 J MA (kn Kf.id (am [0] J)) (ak yd J) J<|mq 8 J MA (kn Kf.id (am [0] J)) (az rd J (fun m hw=>hw.rg MC ((bZ d).of_eq 1 1 J J:rg _ _ _ [iV b.Next]))) J<|mq 9 J MA (kn Kf.id (am [0] J)) (aC nT J (fun m hw=>hw.rgO (i:=0) J 0 2 [.string o.Kind,j] J) J) J ?_
 obtain⟨s,ah,h⟩:=bs h
 refine WM.one 10 MA (mc J (fun _ v U D m w hw=>Kn.of (Kf.id.st w.2.1 (w.1.r (i:=0) J)) (am [0] J) hw) (bt (js:=[]) (R:=[[a],ob e]) Ib J J (fun m hw ap hl=>tD N (ba hw.fro) o (Q.y hw.up)  ah)) J ?_)
 rintro v1 ai F1 ⟨A,H,v2,rfl,rfl,h1⟩
 replace q:=q.fr H (A.q 1 J) (A.o G)
 replace d:=H _ _ ((A.q 0 J) _ MC) d
 have I:=(Kf.id (F:=[a]):Kf f _ _).st H (A.q 0 J)
 refine mq 11 J MA (kn I (am [0] J)) (aU (vs:=[(0,iV b.Next),(1,.agg [.string s.Kind,v2].toArray)]) (C:=#[iV b.Next,.string s.Kind,v2]) Lr tN J (a7 (C':=[iV b.Next,.string ⟨#[]⟩,.slice none 0 0]) J J J J J (a7 (C':=[iV b.Next,.string s.Kind,v2]) J J J J J (ab)))) J ?_
 have V:RC fK 3 ai ([(ob v2++[])]:List (List Nat)) [iV b.Next,.string s.Kind,v2] ([(⟨b.Next,s⟩:aw)]:List aw):=RC.cons (c:=[iV b.Next,.string s.Kind,v2]) (cells:=[]) ⟨v2,J,J,h1⟩ J (RC.nil _ _ _)
 refine WM.one 12 MA (me J (fun _ v U D m w hw=>Kn.of (I.se w.1) (am [0] J) hw) (aQ (vs:=[(0,.agg [iV b.Next,.string s.Kind,v2].toArray)]) (C:=#[iV b.Next,.string s.Kind,v2]) fK.lasts lL tN J J J J (ac Dz (a7 (C':=[iV b.Next,.string s.Kind,v2]) J J J J J (ab))) J V J (RC.kn fK.knows V)) J ?_)
 rintro v3 W D1 ⟨M,O⟩
 replace O:OSl fK 66 3 W ((ob v2++[])) v3 ([(⟨b.Next,s⟩:aw)]:List aw):=by simpa[gk] using O
 replace q:=q.f0 M
 replace d:=M _ _ MC d
 refine WM.conv (S':=St w0 W [(z,.cells #[.string o.Kind,j] 52 (0,0))] [((ob v2++[])),ob v3,[a],ob e]) (fun m hw=>hw.merge (js:=[1]) J (SP.eq (by simp[gk,bH]))) ?_
 obtain⟨x3,aj,h⟩:=bs h
 have Y:=I.se M
 refine WM.one 13 MA (me J (fun _ v U D m w hw=>Kn.of (Y.st w.1.2 (w.1.1.r (i:=2) J)) (am [0] J) hw) (cq bj.lasts bj.one lL J2 J J J J J (js:=[3]) (Rr:=[((ob v2++[])),ob v3,[a]]) J q (O.gives fK.gives) (fun ap=>(ap.o G)) (fun ap=>ap.q 0 J) aj) J ?_)
 rintro v4 ao D2 ⟨⟨Z,a8⟩,x⟩
 replace d:=a8 _ _ ((Z.q 2 J) _ MC) d
 have aa:=Y.st a8 (Z.q 2 J)
 refine mqT 14 [15,16] J MA (kn aa (am [0] J)) (aG J) J<|mq 15 J MA (kn aa (am [0] J)) (ak nR J) J ?_
 refine WM.thw (js:=[3]) (R:=[ob v4,((ob v2++[])),ob v3]) J d (fun aq P al=>?_)
 replace x:=x.fr al (P.q 0 J) (Dj.app (P.o G) (P.q 1 J))
 refine on1 16 (ms1 0 J nk IY J x.one ?_)
 refine WM.nil MA<|atr 4 [] J<|lq (aG J) J<|arr 3 [1,0] J<|lq (aG J) J<|lf yd J J J<|so1 0 vv J J ?_
 refine arr 4 [] J<|lq (aG J) J<|art 5 [1,0] J ?_
 refine WT.frz (js:=[0]) (R:=[(z,.cells #[.string o.Kind,j] 52 (0,0))]) J (fun au an k1=>?_)
 replace x:=x.f0 an
 refine WT.ret E (aA.one J) (fun m hw=>?_)
 cases h
 replace hw:=hw.merge (js:=[2]) (F:=[((ob v2++[]))].flatten) J (SP.eq MC)
 refine aW (js:=[1,1,0]) hw J ⟨v4,(a6++((ob v2++[]))),[((ob v2++[]))].flatten,J,J,x,(fun k hk=>((gb.1 hk).elim (fun h=>(gb.2 (.inr h))) (fun h=>(gb.2 (.inl (List.mem_flatten.2 ⟨((ob v2++[])),MC,h⟩)))))),k1⟩
theorem z7 (w0:av g f [[a]].flatten) (o:a8) (H:RSl (RI .u8) 1 g p e o.b) (ay:f a=some (.cells #[e,iV o.i,iV o.h] 144 (0,0))) {r:ag × a8} (h:pT N o=some r) :
  Calls prog 36 [pQ a].toArray w0.w (be f w0.w [[a]].flatten (fun af Fs v=>∃ (P:Value) (ah:List Nat) (X:List Nat),v = .agg [P,iV r.1.Next].toArray∧Fs=[ob P,[a],X]∧OSl bj 66 3 af ah P r.1.Items∧(∀ k∈ah,k∈X)∧r.2.b=o.b∧af a=some (.cells #[e,iV r.2.i,iV r.2.h] 144 (0,0)))):=by
 refine eL func36 J ntmps36 J (L:=[[a]]) w0 (fun hF=>?_)
 unfold pT at h
 refine sr<|lnz sF J fun B=>en<|sr<|lq (aU (vs:=[(1,iV 1)]) (C:=#[.slice none 0 0,iV 1]) Dp sF J (a7 (C':=[.slice none 0 0,iV 1]) J J J J J (ab))) J<|lnz sF J fun Q=>soN 0 xL J ⟨J,J,trivial⟩ J ?_
 refine arr 5 [] J<|kcb [0] h J J J J (fun b ap z q=>aJ N b o 9 (H.y z) ay q) ?_
 rintro S h v1 ai F1 ⟨aO,aP,rfl,rfl,e1,h1⟩
 refine art 3 [] J<|wt0<|wtS ?_
 have k1:=OSl.nil bj 66 3 ai
 refine lin (σ:=Hp × List Nat × (List aw) × Value × List Nat × Int × Int × Int × Int) (fun s=>[(0,pQ a),(2,pQ B),(3,pQ Q),(4,iV s.2.2.2.2.2.1)]) (fun s=>St w0 s.1 [(Q,.cells #[s.2.2.2.1,iV s.2.2.2.2.2.2.2.2] 29 (0,0)),(B,.cells #[.slice none 0 0,iV 0] 29 (0,0))] [ob s.2.2.2.1,s.2.1,[a]]) (fun m s=>fZ N o m s.2.2.1 s.2.2.2.2.2.1 s.2.2.2.2.2.2.1 s.2.2.2.2.2.2.2.1 s.2.2.2.2.2.2.2.2=some r∧(OSl bj 66 3 s.1 s.2.2.2.2.1 s.2.2.2.1 s.2.2.1)∧(∀ k∈s.2.2.2.2.1,k∈s.2.1)∧(s.1 a=some (.cells #[e,iV s.2.2.2.2.2.2.1,iV s.2.2.2.2.2.2.2.1] 144 (0,0)))) (ai,[],([]:List aw),(.slice none 0 0),[],S.1,S.2.i,S.2.h,1) N ⟨h,k1,MC,h1⟩ (sx [0,0,0] [0,0]) (fun n1 aj s hm=>?_)
 obtain⟨aQ,w,s1,A,D1,s2,s3,s4,T⟩:=s
 obtain⟨h,c,d,U⟩:=hm
 dsimp only at h c d U ⊢
 unfold fZ at h
 refine att 6 [] J ?_
 refine ch h J ?_ ?_ <;> intro h
 ·refine atr 7 [] J<|kcb [2] h J J J J (fun b ap z q=>cj N b (⟨o.b,s3,s4⟩:a8) 5 (H.y z) U q) ?_
  rintro I h v2 aR F2 ⟨ak,aB,rfl,rfl,e2,h2⟩
  replace c:=c.fr aB (ak.q 0 J) (Dj.sub (ak.q 1 J) d)
  refine la J ?_
  obtain⟨b3,E,h⟩:=bs h
  refine WL.cutN 5 [(19,.bool b3),(0,pQ a),(2,pQ B),(3,pQ Q),(4,iV s2)] ?_ (fun K=>?_)
  rotate_left
  ·refine sp 14 E J (fun E=>?_) fun E=>?_
   ·refine arr 2 [0,0] J<|ly J J<|lno c J<|arr 2 [] J ?_
    cases E
    exact ku K
   ·refine arr 5 [] J ?_
    cases E
    exact ku K
  refine en ?_
  refine ch h J ?_ ?_ <;> intro h
  ·refine sq<|wm [0,1] [10] J<|amm 5 [0,0,1,0,2,3,0,4,0] [0,1] J J<|mqT 5 [6,7,8,9,10] J MA (kN [0,1]) (mF lL J J c.rsl) J ?_
   obtain⟨x3,aC,h⟩:=bs h
   refine WM.one 6 MA (mc J (fun _ v aS D G hq hw=>Kn.of Kf.nil (ai2 0 1 J J) hw) (bt (js:=[0]) (R:=[ob A,w]) ud J J (fun G hw ap V=>aJ N (bx hw ap V) (⟨o.b,I.2.i,I.2.h⟩:a8) (s1.length:Int) (H.y (hw.uo ap)) h2  aC)) J ?_)
   rintro v3 aT F3 ⟨al,aD,rfl,rfl,e3,x⟩
   replace c:=c.fr aD (al.q 0 J) (Dj.sub (al.q 1 J) d)
   obtain⟨x4,an,h⟩:=bs h
   obtain⟨aV,F4,-,g1,aX,aY,r1⟩:=c.elS (aa an).2.2
   obtain⟨v4,G1,rfl,aF,h4⟩:=r1
   obtain rfl:=aF.symm
   refine mqT 7 [8,9,10] J MA (kN [0,1]) (ae lL J J c.rsl an) J<|amm 1 [8,0] [0,1] J J ?_
   refine on1 9 (mv J (kS [0,1]) (az rd J (fun G hw=>(g1.of_eq 0 1 J J:rg _ _ _ [iV x4.Id]).rangeAt hw.fro)) J ?_)
   refine WM.frz (js:=[0]) (R:=[(B,.cells #[.slice none 0 0,iV 0] 29 (0,0))]) J (fun b1 ao k4=>?_)
   replace c:=c.f0 ao
   replace x:=ao _ _ MC x
   obtain⟨x5,aG,h⟩:=bs h
   refine WM.one 10 MA (mc J (fun hc=>by cases hc) (bt (js:=[0]) (R:=[[a],ob A,w]) Ks J J (fun G hw ap V=>ua N (bx hw ap V) (⟨s1,T⟩:ag) x4.Id (c.rsl.x (Dj.app (ap.q 1 J) (Dj.sub (ap.q 2 J) d))) k4  aG)) J ?_)
   rintro v5 b2 F5 ⟨aH,aI,v6,D2,rfl,rfl,W,i2,h6⟩
   replace x:=aI _ _ ((aH.q 0 J) _ MC) x
   refine WM.nil MA<|att 6 [] J ?_
   refine WT.thw (js:=[0]) (R:=[ob v6,[a],ob A,w]) J h6 (fun b4 M aq=>?_)
   replace W:=W.fr aq (M.q 0 J) (Dj.sub (Dj.app (M.q 2 J) (Dj.sub (M.q 3 J) d)) i2)
   replace x:=aq _ _ ((M.q 1 J) _ MC) x
   refine wtL [(w++(ob A)),ob v6,[a]] (smg [3,2] J (SP.eq (by simp[gk]))) ?_
   exact lb [1,0,0] [0,0] (aj (_,_,_,_,_,_,_,_,_) ⟨h,W,(fun k hk=>((gb.1 (i2 k hk)).elim (fun h=>((fun k hk=>(gb.2 (.inr hk))) k h)) (fun h=>((fun k hk=>(gb.2 (.inl hk))) k (d k h))))),x⟩)
  refine atr 3 [] J<|kcb [0] h J J J J (fun b ap z q=>tX N b (⟨o.b,I.2.i,I.2.h⟩:a8) (H.y z) h2 q) ?_
  rintro x6 h v7 b5 F6 ⟨au,aK,v8,rfl,rfl,Y,e4,y⟩
  replace c:=c.fr aK (au.q 0 J) (Dj.sub (au.q 1 J) d)
  refine WL.frz (js:=[0]) (R:=[(B,.cells #[.slice none 0 0,iV 0] 29 (0,0))]) J (fun b6 Z k5=>?_)
  replace c:=c.f0 Z
  replace Y:=Y.f0 Z
  replace y:=Z _ _ MC y
  refine kcb [0,2] h J J J J (fun b ap z q=>sc N b (⟨s1,T⟩:ag) x6.1 c k5 (Y.rsl.x (Dj.app (ap.q 0 J) dN)) (Dj.sub (ap.q 2 J) d) q) ?_
  rintro x7 h v9 b7 F7 ⟨aL,aM,v10,D3,X2,rfl,rfl,h9,i3,aN⟩
  replace y:=aM _ _ ((aL.q 1 J) _ MC) y
  refine art 7 [] J ?_
  refine WT.thw (js:=[0]) (R:=[ob v10,X2,ob v8,[a],w]) J aN (fun b8 O ax=>?_)
  replace h9:=h9.fr ax (O.q 0 J) (Dj.sub (Dj.app (O.q 1 J) (Dj.sub (O.q 4 J) d)) i3)
  replace y:=ax _ _ ((O.q 3 J) _ MC) y
  refine wtL [(w++(X2)),ob v10,ob v8,[a]] (smg [4,1] J (SP.eq (by simp[gk]))) ?_
  exact lb [1,0,1] [0,0] (aj (_,_,_,_,_,_,_,_,_) ⟨h,h9,(fun k hk=>((gb.1 (i3 k hk)).elim (fun h=>((fun k hk=>(gb.2 (.inr hk))) k h)) (fun h=>((fun k hk=>(gb.2 (.inl hk))) k (d k h))))),y⟩)
 refine atr 4 [2] J<|soN 1 xL J ⟨c.one,J,trivial⟩ J ?_
 refine en ?_
 refine WT.ret hF (aA.one (aZ rm J (fun G hw=>hw.rgO (i:=1) J 0 2 [A,iV T] J) J)) (fun G hw=>?_)
 cases h
 replace hw:=hw.merge (js:=[1]) (F:=[w].flatten) J (SP.eq MC)
 refine aW (js:=[1,1,0]) hw J ⟨A,D1,[w].flatten,J,J,c,(fun k hk=>(List.mem_flatten.2 ⟨w,MC,(d k hk)⟩)),J,U⟩
theorem tP (w0:av g f []) (d:(List aq)) (b:ByteArray) (c:RSl aB 4 g aE t d) {r:bi × Bool} (h:mw N d b=some r) :
  CB w0 prog 255 [t,.string b] (.tuple #[.agg [iV r.1.K,iV r.1.N,.string r.1.S].toArray,.bool r.2]):=by
 refine eN func255 J ntmps255 J w0 fun v=>?_
 unfold mw at h
 refine sr<|lnz jF J fun k=>art 8 [] J ?_
 refine lin (σ:=Int) (fun s=>[(0,t),(1,.string b),(4,pQ k),(6,iV s)]) (fun s=>St w0 f [(k,.cells #[iV 0,iV 0,.string (⟨#[]⟩:ByteArray)] 95 (0,0))] []) (fun m s=>ia N d b m s=some r) (0) N h (sx [] [0]) (fun y z s hm=>?_)
 revert hm;revert s;intro s1 hm
 have h:ia N d b (y+1) s1=some r:=hm
 show WT _ _ [(0,t),(1,.string b),(4,pQ k),(6,iV s1)] (St w0 f [(k,.cells #[iV 0,iV 0,.string (⟨#[]⟩:ByteArray)] 95 (0,0))] [])
 unfold ia at h
 refine atr 5 [] J<|lnr c J<|la J<|en ?_
 refine ch h J ?_ ?_ <;> intro h
 ·refine atr 7 [] J ?_
  obtain⟨D,w,h⟩:=bs h
  obtain⟨E,F,-,g1,G,H,A⟩:=c.el (aa w).2.2
  obtain⟨rfl,-⟩:=A
  refine lia c w J<|lf FK J J J<|lhx 0 0 g1 J<|art 3 [] J ?_
  refine ch h J ?_ ?_ <;> intro h
  ·refine atr 4 [] J ?_
   obtain⟨o,x,h⟩:=bs h
   obtain⟨I,K,-,g2,L,M,B⟩:=c.el (aa x).2.2
   obtain⟨rfl,-⟩:=B
   refine lia c x J<|lf H4 J J J<|lhx 1 3 g2 J<|soN 0 oN J ⟨J,J,J,trivial⟩ J ?_
   refine la J<|en ?_
   refine WT.ret v (aA.two (aZ kM J (fun q hw=>hw.rgO (i:=0) J 0 3 [iV o.V.K,iV o.V.N,.string o.V.S] J) J) J) (fun q hw=>?_)
   cases h
   exact eG hw
  refine att 7 [] J ?_
  exact lb [] [0] (z _ h)
 refine xt J<|sr<|lq (aU (vs:=[]) (C:=#[iV 0,iV 0,.string (⟨#[]⟩:ByteArray)]) vc jF J (ab)) J<|soN 0 oN J ⟨J,J,J,trivial⟩ J ?_
 refine la J<|en ?_
 refine WT.ret v (aA.two (aZ kM J (fun q hw=>hw.rgO (i:=0) J 0 3 [iV 0,iV 0,.string (⟨#[]⟩:ByteArray)] J) J) J) (fun q hw=>?_)
 cases h
 exact eG hw
theorem kR (w0:av g f []) (y:au) (G:aH) (R:(List aq)) (O:RSl bV 5 g p e y.Args) (z:RSl aX 3 g ad j G.Fields) (Z:RSl aB 4 g b0 l R) {r:(List aq) × Bool} (h:gS N y G R=some r) :
  Calls prog 235 [.agg [.string y.Kind,e,.bool y.Not].toArray,.agg [.string G.Kind,j].toArray,l].toArray w0.w (be f w0.w [] (fun ak Fs v=>∃ (S:Value),v = .tuple #[S,.bool r.2]∧Fs=[ob S]∧OSl aB 97 4 ak [] S r.1)):=by
 refine eN func235 J ntmps235 J w0 fun T=>?_
 unfold gS at h
 refine sr<|lbx J fun o=>lbx J fun q=>arr 5 [] J<|le' (cO aB.lasts gJ oe J J) J ?_
 rintro v1 aG D1 ⟨aI,h1⟩
 refine la J<|lu0 Z fun h2=>?_
 obtain⟨x1,al,h⟩:=bs h
 refine le' (bg aB.lasts aB.one aB.flat gJ sV J J J J J (js:=[0]) (Rr:=[]) J h1 h2 al) J ?_
 rintro v2 an D2 ⟨⟨aJ,aK⟩,h3⟩
 refine arr 11 [0,32,0,0] J ?_
 obtain⟨b1,H,h⟩:=bs h
 refine WL.cutN 8 [(29,.bool b1),(2,l),(3,pQ o),(4,pQ q),(8,v2)] ?_ (fun K=>?_)
 rotate_left
 ·refine sp 21 H J (fun H=>?_) fun H=>?_
  ·refine arr 8 [] J ?_
   cases H
   exact ku K
  ·refine arr 2 [1,32] J<|ly J J<|lnr O J<|arr 2 [1,0] J<|ly J J<|lnr z J<|arr 2 [] J ?_
   cases H
   exact ku K
 refine en ?_
 refine ch h J ?_ ?_ <;> intro h
 ·refine att 6 [] J ?_
  exact rtg [0] T (aA.two J J) J (by cases h;exact fun A hw=>⟨v2,rfl,rfl,h3⟩)
 refine att 7 [] J ?_
 refine lin (σ:=Hp × (List aq) × Value × Int) (fun s=>[(2,l),(3,pQ o),(4,pQ q),(8,s.2.2.1),(9,iV s.2.2.2)]) (fun s=>St w0 s.1 [(q,.cells #[.string G.Kind,j] 52 (0,0)),(o,.cells #[.string y.Kind,e,.bool y.Not] 201 (0,0))] [ob s.2.2.1]) (fun m s=>fL N y G R m s.2.1 s.2.2.2=some r∧(OSl aB 97 4 s.1 [] s.2.2.1 s.2.1)) (an,x1,v2,0) N ⟨h,h3⟩ (sx [0] [0,0]) (fun n1 a8 s hm=>?_)
 obtain⟨ao,s1,B,s2⟩:=s
 obtain⟨h,E⟩:=hm
 dsimp only at h E ⊢
 unfold fL at h
 refine atr 6 [1,32] J<|lnr O J<|la J<|en ?_
 refine ch h J ?_ ?_ <;> intro h
 ·refine atr 8 [1,32] J ?_
  obtain⟨i,af,h⟩:=bs h
  obtain⟨aL,F1,-,g1,aM,aN,r1⟩:=O.el (aa af).2.2
  obtain⟨rfl,-⟩:=r1
  refine lia O af J<|lhx 0 5 g1 J<|lnz fS J fun I=>soN 0 gL J ⟨J,J,J,J,J,trivial⟩ J ?_
  refine arr 6 [1,0] J<|qc h (tP N · s1 i.S E.rsl ·) J J J fun L h=>arr 3 [] J<|lnz jF J fun ag=>soN 0 oN J ⟨J,J,J,trivial⟩ J ?_
  refine art 4 [] J<|WT.draw mixed MA (fun _ h=>h.drew)<|aqq 4 [0,32] J ?_
  obtain⟨b2,w,h⟩:=bs h
  refine WQ.cutN 9 [(62,.bool b2),(2,l),(3,pQ o),(4,pQ q),(8,B),(9,iV s2),(10,pQ I),(11,pQ ag),(12,.bool L.2)] ?_ (fun K=>?_)
  rotate_left
  ·refine WQ.split (d:=53) J (fun U=>?_) (fun U=>?_)
   ·replace w:=fR w U
    refine aqq 5 [2,35,1,64] J<|WQ.yes J J ?_
    obtain⟨P,ah,w⟩:=bs w
    obtain⟨aO,F2,-,g2,aP,aR,r2⟩:=z.el (aa ah).2.2
    obtain⟨rfl,-⟩:=r2
    refine qq (ae iB J J z ah) J<|WQ.yes J J<|qq (aC kM J (fun A hw=>(g2.of_eq 0 3 J J:rg _ _ _ [iV P.K,iV P.N,.string P.S]).rangeAt hw.in0) J) J<|WQ.yes J J<|qq (sW mT J J J (r:=bq i.V P) J) J<|WQ.q (m3 J J) J J J ?_
    cases w
    exact kq K
   ·replace w:=fO w U
    refine aqq 9 [] J ?_
    cases w
    exact kq K
  refine qq (de J) J ?_
  obtain⟨b3,k,h⟩:=bs h
  refine WQ.cutN 16 [(79,.bool b3),(2,l),(3,pQ o),(4,pQ q),(8,B),(9,iV s2),(10,pQ I),(12,.bool L.2)] ?_ (fun K=>?_)
  rotate_left
  ·refine WQ.split (d:=63) J (fun V=>?_) (fun V=>?_)
   ·replace k:=fR k V
    refine aqq 16 [] J ?_
    cases k
    exact kq K
   ·replace k:=fO k V
    refine aqq 4 [0,32] J ?_
    obtain⟨b4,F,k⟩:=bs k
    refine WQ.cutN 2 [(69,.bool b4),(2,l),(3,pQ o),(4,pQ q),(8,B),(9,iV s2),(10,pQ I),(11,pQ ag),(12,.bool L.2),(63,.bool false)] ?_ (fun K=>?_)
    rotate_left
    ·refine WQ.split (d:=67) J (fun W=>?_) (fun W=>?_)
     ·replace F:=fR F W
      refine aqq 2 [] J ?_
      cases F
      exact kq K
     ·replace F:=fO F W
      refine aqq 2 [] J ?_
      cases F
      exact kq K
    refine WQ.yes J J<|qq (de J) J ?_
    obtain⟨b5,x,k⟩:=bs k
    refine WQ.cutN 8 [(78,.bool b5),(2,l),(3,pQ o),(4,pQ q),(8,B),(9,iV s2),(10,pQ I),(12,.bool L.2),(63,.bool false)] ?_ (fun K=>?_)
    rotate_left
    ·refine WQ.split (d:=70) J (fun X=>?_) (fun X=>?_)
     ·replace x:=fR x X
      refine aqq 4 [3,1,64] J<|WQ.yes J J ?_
      obtain⟨Q,ai,x⟩:=bs x
      obtain⟨aS,F3,-,g3,aT,aV,r3⟩:=z.el (aa ai).2.2
      obtain⟨rfl,-⟩:=r3
      refine qq (ae iB J J z ai) J<|WQ.yes J J<|qq (aC kM J (fun A hw=>(g3.of_eq 0 3 J J:rg _ _ _ [iV Q.K,iV Q.N,.string Q.S]).rangeAt hw.in0) J) J<|WQ.yes J J<|qq (sW mT J J J (r:=bq L.1 Q) J) J<|WQ.yes J J<|WQ.q (m3 J J) J J J ?_
      cases x
      exact kq K
     ·replace x:=fO x X
      refine aqq 8 [] J ?_
      cases x
      exact kq K
    refine WQ.q (qh J J) J J J ?_
    cases k
    exact kq K
  refine WQ.nil ?_
  refine ch h J ?_ ?_ <;> intro h
  ·refine sr<|le' (cO aB.lasts gJ oe J J) J ?_
   rintro v3 aW D3 ⟨aY,h4⟩
   refine la J<|lu0 Z fun h5=>?_
   obtain⟨x6,aw,h⟩:=bs h
   refine le' (bg aB.lasts aB.one aB.flat gJ sV J J J J J (js:=[0]) (Rr:=[ob B]) J h4 h5 aw) J ?_
   rintro v4 aZ D4 ⟨⟨b7,b8⟩,h6⟩
   refine art 3 [] J ?_
   exact rtg [0] T (aA.two J J) J (by cases h;exact fun A hw=>⟨v4,rfl,rfl,h6⟩)
  refine atr 7 [0,32] J ?_
  obtain⟨b6,M,h⟩:=bs h
  refine WL.cutN 3 [(89,.bool b6),(2,l),(3,pQ o),(4,pQ q),(8,B),(9,iV s2),(10,pQ I)] ?_ (fun K=>?_)
  rotate_left
  ·refine sp 86 M J (fun M=>?_) fun M=>?_
   ·refine arr 3 [] J ?_
    cases M
    exact ku K
   ·refine arr 3 [] J ?_
    cases M
    exact ku K
  refine en ?_
  refine ch h J ?_ ?_ <;> intro h
  ·refine wm [0,1,2,3] [] J<|amm 6 [0,1,1,2,32,3,1,4,64,5] [0,1,2,3] J J ?_
   obtain⟨b,aj,h⟩:=bs h
   obtain⟨b9,F4,-,g4,ba,bb,r4⟩:=z.el (aa aj).2.2
   obtain⟨rfl,-⟩:=r4
   refine mq 6 J MA (kN [0,1,2,3]) (ae iB J J z aj) J<|mq 7 J MA (kN [0,1,2,3]) (aC kM J (fun A hw=>(g4.of_eq 0 3 J J:rg _ _ _ [iV b.K,iV b.N,.string b.S]).rangeAt hw.1) J) J ?_
   refine mq 8 J MA (kN [0,1,2,3]) (aU (vs:=[(0,.string i.S),(1,.agg [iV b.K,iV b.N,.string b.S].toArray)]) (C:=#[.string i.S,iV b.K,iV b.N,.string b.S]) Jb oe J (a7 (C':=[.string i.S,iV 0,iV 0,.string ⟨#[]⟩]) J J J J J (a7 (C':=[.string i.S,iV b.K,iV b.N,.string b.S]) J J J J J (ab)))) J ?_
   have ax:RC aB 4 ao ([[]]:List (List Nat)) [.string i.S,iV b.K,iV b.N,.string b.S] ([(⟨i.S,b⟩:aq)]:List aq):=RC.cons (c:=[.string i.S,iV b.K,iV b.N,.string b.S]) (cells:=[]) ⟨J,J⟩ J (RC.nil _ _ _)
   refine WM.one 9 MA (me J (fun _ v ay D A hq hw=>Kn.of Kf.nil (am [0,1,2,3] J) hw) (aQ (vs:=[(0,.agg [.string i.S,iV b.K,iV b.N,.string b.S].toArray)]) (C:=#[.string i.S,iV b.K,iV b.N,.string b.S]) aB.lasts gJ oe J J J J (ac E3 (a7 (C':=[.string i.S,iV b.K,iV b.N,.string b.S]) J J J J J (ab))) J ax J (by simpa using Kw.nil)) J ?_)
   rintro v5 az D5 ⟨aD,Y⟩
   replace Y:OSl aB 97 4 az [] v5 ([(⟨i.S,b⟩:aq)]:List aq):=by simpa using Y
   replace E:=E.f0 aD
   obtain⟨x8,aF,h⟩:=bs h
   refine WM.one 10 MA (me J (fun _ v ay D A hq hw=>Kn.of Kf.nil (am [0,1,2,3] J) hw) (bg aB.lasts aB.one aB.flat gJ sV J J J J J (js:=[1]) (Rr:=[ob v5]) J E Y.rsl aF) J ?_)
   rintro v6 bc D6 ⟨⟨bd,bf⟩,h8⟩
   refine amm 1 [11] [0,1,2,3] J J<|WM.nil MA<|att 6 [] J ?_
   exact lb [0] [2,2] (a8 (_,_,_,_) ⟨h,h8⟩)
  refine att 7 [] J ?_
  exact lb [0] [2,2] (a8 (_,_,_,_) ⟨h,E⟩)
 refine att 7 [] J ?_
 exact rtg [0] T (aA.two J J) J (by cases h;exact fun A hw=>⟨B,rfl,rfl,E⟩)
theorem xP (w0:av g f []) (b:ai) (c:ag) (d:(List aq)) (q:RSl bN 3 g p e b.Pats) (a7:RSl bl 11 g pG0_1 u b.Conds) (a8:RSl dK 5 g pG0_2 a1 b.Acts) (w:RSl bj 3 g ad j c.Items) (H:RSl aB 4 g b0 l d) {r:Bool} (h:nC N b c d=some r) :
  CB w0 prog 233 [.agg [.string b.Name,iV b.Sal,e,u,a1].toArray,.agg [j,iV c.Next].toArray,l] (.bool r):=by
 refine eN func233 J ntmps233 J w0 fun A=>?_
 unfold nC at h
 refine sr<|lbx J fun i=>lbx J fun k=>art 8 [] J ?_
 refine lin (σ:=Hp × Int) (fun s=>[(2,l),(3,pQ i),(4,pQ k),(7,iV s.2)]) (fun s=>St w0 s.1 [(k,.cells #[j,iV c.Next] 29 (0,0)),(i,.cells #[.string b.Name,iV b.Sal,e,u,a1] 87 (0,0))] []) (fun m s=>cB N b c d m s.2=some r) (f,0) N h (sx [] [0,0]) (fun x I s hm=>?_)
 obtain⟨B,s1⟩:=s
 have h:cB N b c d (x+1) s1=some r:=hm
 show WT _ _ [(2,l),(3,pQ i),(4,pQ k),(7,iV s1)] (St w0 B [(k,.cells #[j,iV c.Next] 29 (0,0)),(i,.cells #[.string b.Name,iV b.Sal,e,u,a1] 87 (0,0))] [])
 unfold cB at h
 refine atr 6 [2,32] J<|lnr q J<|la J<|en ?_
 refine ch h J ?_ ?_ <;> intro h
 ·refine att 8 [] J ?_
  refine lin (σ:=Hp × Int) (fun s=>[(2,l),(3,pQ i),(4,pQ k),(7,iV s1),(8,iV s.2)]) (fun s=>St w0 s.1 [(k,.cells #[j,iV c.Next] 29 (0,0)),(i,.cells #[.string b.Name,iV b.Sal,e,u,a1] 87 (0,0))] []) (fun m s=>ek N b c d s1 (cB N b c d x) m s.2=some r) (B,0) N h (sx [] [0,0]) (fun L M s hm=>?_)
  obtain⟨O,s2⟩:=s
  have h:ek N b c d s1 (cB N b c d x) (L+1) s2=some r:=hm
  show WT _ _ [(2,l),(3,pQ i),(4,pQ k),(7,iV s1),(8,iV s2)] (St w0 O [(k,.cells #[j,iV c.Next] 29 (0,0)),(i,.cells #[.string b.Name,iV b.Sal,e,u,a1] 87 (0,0))] [])
  unfold ek at h
  refine atr 6 [0,0] J<|lnr w J<|arr 2 [] J ?_
  obtain⟨P,o,h⟩:=bs h
  refine WL.cutN 7 [(30,.bool P),(2,l),(3,pQ i),(4,pQ k),(7,iV s1),(8,iV s2)] ?_ (fun K=>?_)
  rotate_left
  ·refine sp 23 o J (fun o=>?_) fun o=>?_
   ·refine arr 3 [2,32] J<|ly J J ?_
    obtain⟨x1,C,o⟩:=bs o
    obtain⟨ab,F1,-,g1,af,ah,Q⟩:=q.el (aa C).2.2
    obtain⟨v1,G1,rfl,S,h1⟩:=Q
    obtain rfl:=S.symm
    refine lia q C J<|ly J J<|lf kl J J J<|ly J J<|lhx 2 0 g1 J<|la J ?_
    cases o
    exact ku K
   ·refine arr 7 [] J ?_
    cases o
    exact ku K
  refine en ?_
  refine ch h J ?_ ?_ <;> intro h
  ·refine att 4 [] J<|wm [0,1] [] J<|amm 3 [0,2,1,32,2] [0,1] J J ?_
   obtain⟨y,E,h⟩:=bs h
   obtain⟨aj,F2,-,g2,ak,al,T⟩:=q.el (aa E).2.2
   obtain⟨v2,G2,rfl,U,V⟩:=T
   obtain rfl:=U.symm
   refine mq 3 J MA (kN [0,1]) (ae og J J q E) J<|mq 4 J MA (kN [0,1]) (aC sm J (fun z hw=>(g2.of_eq 0 3 J J:rg _ _ _ [.string y.Kind,v2,.bool y.Not]).rangeAt hw.1) J) J<|amm 3 [5,0,6,0,7] [0,1] J J ?_
   obtain⟨F,G,h⟩:=bs h
   obtain⟨an,F3,-,g3,ao,au,W⟩:=w.el (aa G).2.2
   obtain⟨v3,G3,rfl,X,Y⟩:=W
   obtain rfl:=X.symm
   refine mq 8 J MA (kN [0,1]) (ae lL J J w G) J<|amm 1 [9,1] [0,1] J J<|mq 10 J MA (kN [0,1]) (aC nT J (fun z hw=>(g3.of_eq 1 2 J J:rg _ _ _ [.string F.F.Kind,v3]).rangeAt hw.1) J) J<|amm 1 [11] [0,1] J J ?_
   obtain⟨x4,Z,h⟩:=bs h
   refine WM.one 12 MA (mc J (fun _ v aw D z hq hw=>Kn.of Kf.nil (ai2 0 1 J J) hw) (bt (js:=[]) (R:=[]) wU J J (fun z hw ap hl=>kR N (ba hw.fro) y F.F d (V.y hw.up) (Y.y hw.up) (H.y hw.up)  Z)) J ?_)
   rintro v4 ax F4 ⟨ay,az,v5,rfl,rfl,h4⟩
   refine amm 5 [13,14,15,16,17] [0,1] J J<|WM.nil MA<|att 4 [] J ?_
   refine ch h J ?_ ?_ <;> intro h
   ·refine att 4 [] J ?_
    exact rt A h
   refine att 7 [] J ?_
   exact lb [] [0,0] (M (_,_) h)
  refine att 7 [] J ?_
  exact lb [] [0,0] (I (_,_) h)
 refine att 5 [] J ?_
 exact rt A h
theorem ub (w0:av g f []) (b:bn) (d:(List aq)) (o:RSl aB 4 g ar n d) {r:bi × Bool} (h:mK N b d=some r) :
  CB w0 prog 265 [.agg [iV b.K,.string b.S,iV b.V.K,iV b.V.N,.string b.V.S].toArray,n] (.tuple #[.agg [iV r.1.K,iV r.1.N,.string r.1.S].toArray,.bool r.2]):=by
 refine eN func265 J ntmps265 J w0 fun k=>?_
 unfold mK at h
 refine sr<|lbx J fun q=>lnz jF J fun s=>art 14 [0,32] J ?_
 refine ch h J ?_ ?_ <;> intro h
 ·refine atr 4 [2,35] J<|soN 0 oN J ⟨J,J,J,trivial⟩ J ?_
  refine la J<|en ?_
  refine WT.ret k (aA.two (aZ kM J (fun c hw=>hw.rgO (i:=0) J 0 3 [iV b.V.K,iV b.V.N,.string b.V.S] J) J) J) (fun c hw=>?_)
  cases h
  exact eG hw
 refine att 5 [] J ?_
 refine ch h J ?_ ?_ <;> intro h
 ·refine atr 5 [1,32] J<|qd h (tP N · d b.S o ·) J J J fun m h=>arr 2 [] J<|soN 0 oN J ⟨J,J,J,trivial⟩ J ?_
  refine la J<|en ?_
  refine WT.ret k (aA.two (aZ kM J (fun c hw=>hw.rgO (i:=0) J 0 3 [iV m.1.K,iV m.1.N,.string m.1.S] J) J) J) (fun c hw=>?_)
  cases h
  exact eG hw
 refine atr 4 [] J<|lq (aU (vs:=[]) (C:=#[iV 0,iV 0,.string (⟨#[]⟩:ByteArray)]) vc jF J (ab)) J<|soN 0 oN J ⟨J,J,J,trivial⟩ J ?_
 refine la J<|en ?_
 refine WT.ret k (aA.two (aZ kM J (fun c hw=>hw.rgO (i:=0) J 0 3 [iV 0,iV 0,.string (⟨#[]⟩:ByteArray)] J) J) J) (fun c hw=>?_)
 cases h
 exact eG hw
theorem xC  (w0:av g f []) (b:bi) (c:bi)  {r:Bool} (h:nM N b c=some r) :
  CB w0 prog 266 [.agg [iV b.K,iV b.N,.string b.S].toArray,.agg [iV c.K,iV c.N,.string c.S].toArray] (.bool r):=by
 refine eN func266 J ntmps266 J w0 fun d=>?_
 unfold nM at h
 refine sr<|lbx J fun i=>lbx J fun k=>art 13 [0,32,0,0] J ?_
 refine ch h J ?_ ?_ <;> intro h
 ·refine att 9 [0,32,0,0] J ?_
  exact rt d h
 refine att 9 [1,32,1,0] J ?_
 refine ch h J ?_ ?_ <;> intro h
 ·refine att 9 [1,32,1,0] J ?_
  exact rt d h
 refine atr 8 [2,32,2,0] J<|lq (Ll J J) J<|la J<|en ?_
 exact rt d h
theorem Ar (w0:av g f []) (b:ce) (i:(List aq)) (o:RSl aB 4 g ar n i) {r:Bool} (h:qZ N b i=some r) :
  CB w0 prog 254 [.agg [iV b.Op,iV b.L.K,.string b.L.S,iV b.L.V.K,iV b.L.V.N,.string b.L.V.S,iV b.R.K,.string b.R.S,iV b.R.V.K,iV b.R.V.N,.string b.R.V.S].toArray,n] (.bool r):=by
 refine eN func254 J ntmps254 J w0 fun c=>?_
 unfold qZ at h
 refine sr<|lbx J fun q=>arr 7 [1,5] J<|qd h (ub N · b.L i o ·) J J J fun k h=>arr 3 [] J<|lnz jF J fun s=>soN 0 oN J ⟨J,J,J,trivial⟩ J ?_
 refine arr 7 [6,37] J<|qd h (ub N · b.R i o ·) J J J fun m h=>arr 3 [] J<|lnz jF J fun v=>soN 0 oN J ⟨J,J,J,trivial⟩ J ?_
 refine arr 8 [] J ?_
 obtain⟨w,d,h⟩:=bs h
 refine WL.cutN 3 [(28,.bool w),(2,pQ q),(5,pQ s),(7,pQ v)] ?_ (fun K=>?_)
 rotate_left
 ·refine sp 25 d J (fun d=>?_) fun d=>?_
  ·refine arr 3 [] J ?_
   cases d
   exact ku K
  ·refine arr 3 [] J ?_
   cases d
   exact ku K
 refine en ?_
 refine ch h J ?_ ?_ <;> intro h
 ·refine att 4 [] J ?_
  exact rt c h
 refine att 13 [0,64] J ?_
 refine ch h J ?_ ?_ <;> intro h
 ·refine atr 4 [35,3] J<|lq (zj mT J J J (r:=bq k.1 m.1) J) J<|la J<|en ?_
  exact rt c h
 refine att 5 [] J ?_
 refine ch h J ?_ ?_ <;> intro h
 ·refine atr 4 [35,3] J<|lq (sW mT J J J (r:=bq k.1 m.1) J) J<|la J<|en ?_
  exact rt c h
 refine att 5 [] J ?_
 refine ch h J ?_ ?_ <;> intro h
 ·refine atr 4 [35,3] J<|qc h (xC N · k.1 m.1 ·) J J J fun x h=>la J<|en ?_
  exact rt c h
 refine att 6 [] J ?_
 exact rt c h
theorem xS (w0:av g f []) (c:(List ce)) (b:(List aq)) (d:RSl bl 11 g aE t c) (o:RSl aB 4 g ar n b) {r:Bool} (h:nP N c b=some r) :
  CB w0 prog 234 [t,n] (.bool r):=by
 refine eN func234 J ntmps234 J w0 fun i=>?_
 unfold nP at h
 refine att 10 [] J ?_
 refine lin (σ:=Int) (fun s=>[(0,t),(1,n),(5,iV s)]) (fun s=>St w0 f [] []) (fun m s=>ft N c b m s=some r) (0) N h (sx [] []) (fun q v s hm=>?_)
 revert hm;revert s;intro s1 hm
 have h:ft N c b (q+1) s1=some r:=hm
 show WT _ _ [(0,t),(1,n),(5,iV s1)] (St w0 f [] [])
 unfold ft at h
 refine atr 5 [] J<|lnr d J<|la J<|en ?_
 refine ch h J ?_ ?_ <;> intro h
 ·refine atr 7 [] J ?_
  obtain⟨w,k,h⟩:=bs h
  obtain⟨y,z,-,g1,A,B,x⟩:=d.el (aa k).2.2
  obtain⟨rfl,-⟩:=x
  refine lia d k J<|lhx 0 11 g1 J<|la J<|qd h (Ar N · w b o ·) J J J fun C h=>la J<|en ?_
  refine ch h J ?_ ?_ <;> intro h
  ·refine att 4 [] J ?_
   exact rt i h
  refine att 7 [] J ?_
  exact lb [] [] (v _ h)
 refine att 5 [] J ?_
 exact rt i h
end Go.Proofs.YtedmfnmbjglmbaaGreat
