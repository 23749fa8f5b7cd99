/- Printed by a program of ours: each Go function computes its Lean function. -/
import Derived.Test.YtedmfnmbjglmbaaGreatProg
import Derived.Test.YtedmfnmbjglmbaaGreatWSetsWalk9
namespace Go.Proofs.YtedmfnmbjglmbaaGreat
open Eng Tryz
open Go.RowKit (Below)
set_option linter.unusedVariables false
set_option linter.unusedSimpArgs false

set_option maxRecDepth 100000
set_option maxHeartbeats 1000000
variable {e d:Hp} {g f j a1 p l:Value} {n o pG0_1 pG1_0 pG1_1 pG1:List Nat} {a:Nat} (N:Nat)
theorem xR (w0:av e d [[a]].flatten) (T:a8) (aS:RSl (RI .u8) 1 e n g T.b) (bL:d a=some (.cells #[g,iV T.i,iV T.h] 144 (0,0))) {r:bo × bO × aI × ag × a8} (h:nD N T=some r) :
  Calls prog 60 [pQ a].toArray w0.w (be d w0.w [[a]].flatten (fun ar Fs v=>∃ (b9:Value) (bz:List Nat) (ba:Value) (bA:List Nat) (bb:Value) (bB:List Nat) (bd:Value) (bD:List Nat) (bf:Value) (bE:List Nat) (bg:Value) (bF:List Nat) (X:List Nat),v = .tuple #[.agg [.string r.1.Name,b9].toArray,.agg [ba,bb].toArray,.agg [bd,bf].toArray,.agg [bg,iV r.2.2.2.1.Next].toArray]∧Fs=[ob b9,bz,ob ba,ob bb,bB,ob bd,bD,ob bf,bE,ob bg,[a],X]∧OSl dM 87 5 ar bz b9 r.1.Rules∧OSl cz 137 4 ar bA ba r.2.1.Alphas∧(∀ k∈bA,k∈X)∧OSl bC 141 2 ar bB bb r.2.1.Chains∧OSl bk 133 1 ar bD bd r.2.2.1.Alphas∧OSl bc 100 1 ar bE bf r.2.2.1.Rules∧OSl bj 66 3 ar bF bg r.2.2.2.1.Items∧(∀ k∈bF,k∈X)∧r.2.2.2.2.b=T.b∧ar a=some (.cells #[g,iV r.2.2.2.2.i,iV r.2.2.2.2.h] 144 (0,0)))):=by
 refine eL func60 J ntmps60 J (L:=[[a]]) w0 (fun hF=>?_)
 unfold nD at h
 refine sr<|lnz sY J fun au=>lnz tH J fun ax=>lnz lJ J fun ay=>lnz sF J fun aB=>arr 4 [] J<|kcb [0] h J J J J (fun b ap z q=>pw N b T (aS.y z) bL q) ?_
 rintro I h v1 bQ F1 ⟨bR,bS,v2,Y,rfl,rfl,h1,e1,h2⟩
 refine lnz sY J fun aC=>soN 0 sD J ⟨J,h1.one,trivial⟩ J ?_
 refine arr 4 [2] J<|kab h J J J (fun b z q=>tW N b I.1 (h1.rslG dM.gives) q) ?_
 rintro x2 h v3 bT F2 ⟨bh,bG,v4,D2,v5,Z,U,rfl,rfl,c,y,t⟩
 replace h1:=h1.fr bG (bh.q 0 J) (bh.q 1 J)
 replace h2:=bG _ _ ((bh.q 2 J) _ MC) h2
 refine lnz tH J fun aD=>soN 0 wi J ⟨c.one,t.one,trivial⟩ J ?_
 refine arr 4 [2] J<|kab h J J J (fun b z q=>tK N b x2 c.rsl (t.rslG bC.gives) q) ?_
 rintro x4 h v6 bU F3 ⟨aE,b6,v7,D4,v8,D5,rfl,rfl,h5,h6⟩
 replace h1:=h1.fr b6 (aE.q 4 J) (aE.q 5 J)
 replace c:=c.fr b6 (aE.q 0 J) (Dj.sub (aE.q 3 J) y)
 replace t:=t.fr b6 (aE.q 1 J) (aE.q 2 J)
 replace h2:=b6 _ _ ((aE.q 6 J) _ MC) h2
 refine lnz lJ J fun b7=>soN 0 mj J ⟨h5.one,h6.one,trivial⟩ J ?_
 refine en<|sr<|lq (aU (vs:=[(1,iV 1)]) (C:=#[.slice none 0 0,iV 1]) Dp sF J (a7 (C':=[.slice none 0 0,iV 1]) J J J J J (ab))) J<|lnz sF J fun aL=>soN 0 xL J ⟨J,J,trivial⟩ J ?_
 refine arr 5 [] J<|kcb [10] h J J J J (fun b ap z q=>aJ N b (⟨T.b,I.2.i,I.2.h⟩:a8) 10 (aS.y z) h2 q) ?_
 rintro x5 h v9 bH F4 ⟨a6,aT,rfl,rfl,e2,h7⟩
 replace h1:=h1.fr aT (a6.q 8 J) (a6.q 9 J)
 replace c:=c.fr aT (a6.q 4 J) (Dj.sub (a6.q 7 J) y)
 replace t:=t.fr aT (a6.q 5 J) (a6.q 6 J)
 replace h5:=h5.fr aT (a6.q 0 J) (a6.q 1 J)
 replace h6:=h6.fr aT (a6.q 2 J) (a6.q 3 J)
 refine art 3 [] J<|wt0<|wtS ?_
 have k1:=OSl.nil bj 66 3 bH
 refine lin (σ:=Hp × List Nat × (List bm) × Value × List Nat × (List aP) × Value × List Nat × (List aw) × Value × List Nat × Int × Int × Int × Int) (fun s=>[(0,pQ a),(2,pQ au),(3,pQ ax),(4,pQ ay),(5,pQ aB),(6,pQ aC),(7,pQ aD),(8,pQ b7),(9,pQ aL),(10,iV s.2.2.2.2.2.2.2.2.2.2.2.1)]) (fun s=>St w0 s.1 [(aL,.cells #[s.2.2.2.2.2.2.2.2.2.1,iV s.2.2.2.2.2.2.2.2.2.2.2.2.2.2] 29 (0,0)),(b7,.cells #[s.2.2.2.1,s.2.2.2.2.2.2.1] 35 (0,0)),(aD,.cells #[v4,v5] 47 (0,0)),(aC,.cells #[.string I.1.Name,v2] 26 (0,0)),(aB,.cells #[.slice none 0 0,iV 0] 29 (0,0)),(ay,.cells #[.slice none 0 0,.slice none 0 0] 35 (0,0)),(ax,.cells #[.slice none 0 0,.slice none 0 0] 47 (0,0)),(au,.cells #[.string (⟨#[]⟩:ByteArray),.slice none 0 0] 26 (0,0))] [ob s.2.2.2.2.2.2.2.2.2.1,s.2.1,[a],ob s.2.2.2.1,s.2.2.2.2.1,ob s.2.2.2.2.2.2.1,s.2.2.2.2.2.2.2.1,ob v4,ob v5,Z,U,ob v2,Y]) (fun m s=>fB N T I x2 m s.2.2.1 s.2.2.2.2.2.1 s.2.2.2.2.2.2.2.2.1 s.2.2.2.2.2.2.2.2.2.2.2.1 s.2.2.2.2.2.2.2.2.2.2.2.2.1 s.2.2.2.2.2.2.2.2.2.2.2.2.2.1 s.2.2.2.2.2.2.2.2.2.2.2.2.2.2=some r∧(OSl dM 87 5 s.1 Y v2 I.1.Rules)∧(OSl cz 137 4 s.1 D2 v4 x2.Alphas)∧(OSl bC 141 2 s.1 Z v5 x2.Chains)∧(OSl bk 133 1 s.1 s.2.2.2.2.1 s.2.2.2.1 s.2.2.1)∧(OSl bc 100 1 s.1 s.2.2.2.2.2.2.2.1 s.2.2.2.2.2.2.1 s.2.2.2.2.2.1)∧(OSl bj 66 3 s.1 s.2.2.2.2.2.2.2.2.2.2.1 s.2.2.2.2.2.2.2.2.2.1 s.2.2.2.2.2.2.2.2.1)∧(∀ k∈s.2.2.2.2.2.2.2.2.2.2.1,k∈s.2.1)∧(s.1 a=some (.cells #[g,iV s.2.2.2.2.2.2.2.2.2.2.2.2.1,iV s.2.2.2.2.2.2.2.2.2.2.2.2.2.1] 144 (0,0)))) (bH,[],x4.Alphas,v7,D4,x4.Rules,v8,D5,([]:List aw),(.slice none 0 0),[],x5.1,x5.2.i,x5.2.h,1) N ⟨h,h1,c,t,h5,h6,k1,MC,h7⟩ (sx [0,0,0,0,0,0,0,0,0,0,0,0,0] [0,0,0,0,0,0,0,0]) (fun n1 bl s hm=>?_)
 obtain⟨bV,X2,s1,u1,D6,s2,u2,D7,s3,u3,D8,s4,s5,s6,s7⟩:=s
 obtain⟨h,h1,c,t,w,x,u,i2,k5⟩:=hm
 dsimp only at h h1 c t w x u i2 k5 ⊢
 unfold fB at h
 refine att 6 [] J ?_
 refine ch h J ?_ ?_ <;> intro h
 ·refine atr 7 [] J<|kcb [2] h J J J J (fun b ap z q=>cj N b (⟨T.b,s5,s6⟩:a8) 4 (aS.y z) k5 q) ?_
  rintro x6 h v10 bW F5 ⟨O,aM,rfl,rfl,e3,h8⟩
  replace h1:=h1.fr aM (O.q 10 J) (O.q 11 J)
  replace c:=c.fr aM (O.q 6 J) (Dj.sub (O.q 9 J) y)
  replace t:=t.fr aM (O.q 7 J) (O.q 8 J)
  replace w:=w.fr aM (O.q 2 J) (O.q 3 J)
  replace x:=x.fr aM (O.q 4 J) (O.q 5 J)
  replace u:=u.fr aM (O.q 0 J) (Dj.sub (O.q 1 J) i2)
  refine la J ?_
  obtain⟨b4,aV,h⟩:=bs h
  refine WL.cutN 5 [(34,.bool b4),(0,pQ a),(2,pQ au),(3,pQ ax),(4,pQ ay),(5,pQ aB),(6,pQ aC),(7,pQ aD),(8,pQ b7),(9,pQ aL),(10,iV s4)] ?_ (fun K=>?_)
  rotate_left
  ·refine sp 29 aV J (fun aV=>?_) fun aV=>?_
   ·refine arr 2 [0,0] J<|ly J J<|lno u J<|arr 2 [] J ?_
    cases aV
    exact ku K
   ·refine arr 5 [] J ?_
    cases aV
    exact ku K
  refine en ?_
  refine ch h J ?_ ?_ <;> intro h
  ·refine sq<|wm [0,1,2,3,4,5,6,7] [] J<|amm 5 [0,0,1,0,2,3,0,4,0] [0,1,2,3,4,5,6,7] J J<|mq 5 J MA (kN [0,1,2,3,4,5,6,7]) (mF lL J J u.rsl) J ?_
   obtain⟨x7,bM,h⟩:=bs h
   refine WM.one 6 MA (mc J (fun _ v bX D w1 hq hw=>Kn.of Kf.nil (am [0,1,2,3,4,5,6,7] J) hw) (bt (js:=[0]) (R:=[ob u3,X2,ob u1,D6,ob u2,D7,ob v4,ob v5,Z,U,ob v2,Y]) ud J J (fun w1 hw ap hl=>aJ N (bx hw ap hl) (⟨T.b,x6.2.i,x6.2.h⟩:a8) (s3.length:Int) (aS.y (hw.uo ap)) h8  bM)) J ?_)
   rintro v11 bY F6 ⟨P,aN,rfl,rfl,e4,M⟩
   replace h1:=h1.fr aN (P.q 10 J) (P.q 11 J)
   replace c:=c.fr aN (P.q 6 J) (Dj.sub (P.q 9 J) y)
   replace t:=t.fr aN (P.q 7 J) (P.q 8 J)
   replace w:=w.fr aN (P.q 2 J) (P.q 3 J)
   replace x:=x.fr aN (P.q 4 J) (P.q 5 J)
   replace u:=u.fr aN (P.q 0 J) (Dj.sub (P.q 1 J) i2)
   obtain⟨x8,bI,h⟩:=bs h
   obtain⟨c0,F7,-,g1,c3,c4,r1⟩:=u.elS (aa bI).2.2
   obtain⟨v12,G1,rfl,bN,c5⟩:=r1
   obtain rfl:=bN.symm
   refine mq 7 J MA (kN [0,1,2,3,4,5,6,7]) (ae lL J J u.rsl bI) J<|amm 1 [8,0] [0,1,2,3,4,5,6,7] J J ?_
   refine on1 9 (mv J (kS [0,1,2,3,4,5,6,7]) (az rd J (fun w1 hw=>(g1.of_eq 0 1 J J:rg _ _ _ [iV x8.Id]).rangeAt hw.fro)) J ?_)
   refine amm 1 [10] [0,1,2,3,4,5,6,7] J J<|WM.nil MA<|atr 5 [98,2] J ?_
   refine WL.frz (js:=[1]) (R:=[(aL,.cells #[u3,iV s7] 29 (0,0)),(aD,.cells #[v4,v5] 47 (0,0)),(aC,.cells #[.string I.1.Name,v2] 26 (0,0)),(aB,.cells #[.slice none 0 0,iV 0] 29 (0,0)),(ay,.cells #[.slice none 0 0,.slice none 0 0] 35 (0,0)),(ax,.cells #[.slice none 0 0,.slice none 0 0] 47 (0,0)),(au,.cells #[.string (⟨#[]⟩:ByteArray),.slice none 0 0] 26 (0,0))]) J (fun c6 aF k6=>?_)
   replace h1:=h1.f0 aF
   replace c:=c.f0 aF
   replace t:=t.f0 aF
   replace w:=w.f0 aF
   replace x:=x.f0 aF
   replace u:=u.f0 aF
   replace M:=aF _ _ MC M
   refine kcb [0,3,3,3,3] h J J J J (fun b ap z q=>wY N b I.1 (⟨s1,s2⟩:aI) (⟨s3,s7⟩:ag) x8.Id ((h1.rslG dM.gives).x (Dj.app (ap.q 7 J) (ap.q 8 J))) w x k6 (u.rsl.x (Dj.app (ap.q 1 J) (Dj.sub (ap.q 2 J) i2))) q) ?_
   rintro x9 h c7 c8 F8 ⟨af,aX,bn,D9,bp,bq,rfl,rfl,ah,ai,aY⟩
   replace h1:=h1.fr aX (af.q 7 J) (af.q 8 J)
   replace c:=c.fr aX (af.q 3 J) (Dj.sub (af.q 6 J) y)
   replace t:=t.fr aX (af.q 4 J) (af.q 5 J)
   replace u:=u.fr aX (af.q 1 J) (Dj.sub (af.q 2 J) i2)
   replace M:=aX _ _ ((af.q 0 J) _ MC) M
   refine arr 4 [] J ?_
   refine WL.frz (js:=[0]) (R:=[(aD,.cells #[v4,v5] 47 (0,0)),(aC,.cells #[.string I.1.Name,v2] 26 (0,0)),(aB,.cells #[.slice none 0 0,iV 0] 29 (0,0)),(ay,.cells #[.slice none 0 0,.slice none 0 0] 35 (0,0)),(ax,.cells #[.slice none 0 0,.slice none 0 0] 47 (0,0)),(au,.cells #[.string (⟨#[]⟩:ByteArray),.slice none 0 0] 26 (0,0))]) J (fun c9 aj k7=>?_)
   replace h1:=h1.f0 aj
   replace c:=c.f0 aj
   replace t:=t.f0 aj
   replace u:=u.f0 aj
   replace ah:=ah.f0 aj
   replace ai:=ai.f0 aj
   replace aY:=aj _ _ MC aY
   replace M:=aj _ _ MC M
   refine kcb [0] h J J J J (fun b ap z q=>ua N b (⟨s3,s7⟩:ag) x8.Id (u.rsl.x (Dj.app (ap.q 6 J) (Dj.sub (ap.q 7 J) i2))) k7 q) ?_
   rintro ca h cb cc F9 ⟨Q,aG,v17,cd,rfl,rfl,b0,i3,br⟩
   replace h1:=h1.fr aG (Q.q 12 J) (Q.q 13 J)
   replace c:=c.fr aG (Q.q 8 J) (Dj.sub (Q.q 11 J) y)
   replace t:=t.fr aG (Q.q 9 J) (Q.q 10 J)
   replace ah:=ah.fr aG (Q.q 1 J) (Q.q 2 J)
   replace ai:=ai.fr aG (Q.q 3 J) (Q.q 4 J)
   replace aY:=aG _ _ ((Q.q 0 J) _ MC) aY
   replace M:=aG _ _ ((Q.q 5 J) _ MC) M
   refine art 7 [] J ?_
   refine WT.thw (js:=[2]) (R:=[[aL],ob v17,ob bn,D9,ob bp,bq,[a],ob u3,X2,ob v4,ob v5,Z,U,ob v2,Y]) J aY (fun cf A ak=>?_)
   replace h1:=h1.fr ak (A.q 13 J) (A.q 14 J)
   replace c:=c.fr ak (A.q 9 J) (Dj.sub (A.q 12 J) y)
   replace t:=t.fr ak (A.q 10 J) (A.q 11 J)
   replace ah:=ah.fr ak (A.q 2 J) (A.q 3 J)
   replace ai:=ai.fr ak (A.q 4 J) (A.q 5 J)
   replace b0:=b0.fr ak (A.q 1 J) (Dj.sub (Dj.app (A.q 7 J) (Dj.sub (A.q 8 J) i2)) i3)
   replace br:=ak _ _ ((A.q 0 J) _ MC) br
   replace M:=ak _ _ ((A.q 6 J) _ MC) M
   refine WT.thw (js:=[0]) (R:=[ob v17,ob bn,D9,ob bp,bq,[a],ob u3,X2,ob v4,ob v5,Z,U,ob v2,Y]) J br (fun cg E aH=>?_)
   replace h1:=h1.fr aH (E.q 12 J) (E.q 13 J)
   replace c:=c.fr aH (E.q 8 J) (Dj.sub (E.q 11 J) y)
   replace t:=t.fr aH (E.q 9 J) (E.q 10 J)
   replace ah:=ah.fr aH (E.q 1 J) (E.q 2 J)
   replace ai:=ai.fr aH (E.q 3 J) (E.q 4 J)
   replace b0:=b0.fr aH (E.q 0 J) (Dj.sub (Dj.app (E.q 6 J) (Dj.sub (E.q 7 J) i2)) i3)
   replace M:=aH _ _ ((E.q 5 J) _ MC) M
   refine wtL [(X2++(ob u3)),ob v17,ob bn,D9,ob bp,bq,[a],ob v4,ob v5,Z,U,ob v2,Y] (smg [7,6] J (SP.eq (by simp[gk]))) ?_
   exact lb [1,0,4,0,0,0,0,0,0,0,0,0,0] [0,0,0,0,0,0,0,0] (bl (_,_,_,_,_,_,_,_,_,_,_,_,_,_,_) ⟨h,h1,c,t,ah,ai,b0,(fun k hk=>((gb.1 (i3 k hk)).elim (fun h=>((fun k hk=>(gb.2 (.inr hk))) k h)) (fun h=>((fun k hk=>(gb.2 (.inl hk))) k (i2 k h))))),M⟩)
  refine atr 4 [] J<|kcb [0] h J J J J (fun b ap z q=>tX N b (⟨T.b,x6.2.i,x6.2.h⟩:a8) (aS.y z) h8 q) ?_
  rintro b8 h ck cm cn ⟨S,aO,b1,rfl,rfl,b2,e5,G⟩
  replace h1:=h1.fr aO (S.q 10 J) (S.q 11 J)
  replace c:=c.fr aO (S.q 6 J) (Dj.sub (S.q 9 J) y)
  replace t:=t.fr aO (S.q 7 J) (S.q 8 J)
  replace w:=w.fr aO (S.q 2 J) (S.q 3 J)
  replace x:=x.fr aO (S.q 4 J) (S.q 5 J)
  replace u:=u.fr aO (S.q 0 J) (Dj.sub (S.q 1 J) i2)
  refine lnz mr J fun bJ=>soN 0 o9 J ⟨J,b2.one,trivial⟩ J ?_
  refine arr 5 [34,2] J<|qc h (sH N · (⟨s3,s7⟩:ag) b8.1 u.rsl b2.rsl ·) J J J fun cp h=>la J<|en ?_
  refine ch h J ?_ ?_ <;> intro h
  ·refine atr 3 [2] J ?_
   refine WL.frz (js:=[1]) (R:=[(bJ,.cells #[.string b8.1.Kind,b1] 52 (0,0)),(b7,.cells #[u1,u2] 35 (0,0)),(aD,.cells #[v4,v5] 47 (0,0)),(aC,.cells #[.string I.1.Name,v2] 26 (0,0)),(aB,.cells #[.slice none 0 0,iV 0] 29 (0,0)),(ay,.cells #[.slice none 0 0,.slice none 0 0] 35 (0,0)),(ax,.cells #[.slice none 0 0,.slice none 0 0] 47 (0,0)),(au,.cells #[.string (⟨#[]⟩:ByteArray),.slice none 0 0] 26 (0,0))]) J (fun cq al k8=>?_)
   replace h1:=h1.f0 al
   replace b2:=b2.f0 al
   replace c:=c.f0 al
   replace t:=t.f0 al
   replace w:=w.f0 al
   replace x:=x.f0 al
   replace u:=u.f0 al
   replace G:=al _ _ MC G
   refine kcb [0,2] h J J J J (fun b ap z q=>sc N b (⟨s3,s7⟩:ag) b8.1 u k8 (b2.rsl.x (Dj.app (ap.q 0 J) dN)) (Dj.sub (ap.q 2 J) i2) q) ?_
   rintro bK h v20 cr ct ⟨V,aQ,v21,cu,X3,rfl,rfl,ad,i4,an⟩
   replace h1:=h1.fr aQ (V.q 11 J) (V.q 12 J)
   replace c:=c.fr aQ (V.q 7 J) (Dj.sub (V.q 10 J) y)
   replace t:=t.fr aQ (V.q 8 J) (V.q 9 J)
   replace w:=w.fr aQ (V.q 3 J) (V.q 4 J)
   replace x:=x.fr aQ (V.q 5 J) (V.q 6 J)
   replace G:=aQ _ _ ((V.q 1 J) _ MC) G
   refine arr 5 [98,66] J<|lgx 0 2 (bZ an) J<|la J ?_
   refine WL.frz (js:=[1]) (R:=[(bJ,.cells #[.string b8.1.Kind,b1] 52 (0,0)),(aD,.cells #[v4,v5] 47 (0,0)),(aC,.cells #[.string I.1.Name,v2] 26 (0,0)),(aB,.cells #[.slice none 0 0,iV 0] 29 (0,0)),(ay,.cells #[.slice none 0 0,.slice none 0 0] 35 (0,0)),(ax,.cells #[.slice none 0 0,.slice none 0 0] 47 (0,0)),(au,.cells #[.string (⟨#[]⟩:ByteArray),.slice none 0 0] 26 (0,0))]) J (fun cv ao k9=>?_)
   replace h1:=h1.f0 ao
   replace ad:=ad.f0 ao
   replace c:=c.f0 ao
   replace t:=t.f0 ao
   replace w:=w.f0 ao
   replace x:=x.f0 ao
   replace an:=ao _ _ MC an
   replace G:=ao _ _ MC G
   refine kcb [0,6,6,6,6] h J J J J (fun b ap z q=>tT N b I.1 x2 (⟨s1,s2⟩:aI) bK.2 bK.1 ((h1.rslG dM.gives).x (Dj.app (ap.q 10 J) (ap.q 11 J))) (c.rsl.x (Dj.app (ap.q 6 J) (Dj.sub (ap.q 9 J) y))) ((t.rslG bC.gives).x (Dj.app (ap.q 7 J) (ap.q 8 J))) w x k9 (ad.rsl.x (Dj.app (ap.q 1 J) (Dj.sub (Dj.app (ap.q 2 J) (Dj.sub (ap.q 5 J) i2)) i4))) q) ?_
   rintro cw h v22 cx cy ⟨W,aR,v23,bu,v24,bw,rfl,rfl,b3,b5,bP⟩
   replace h1:=h1.fr aR (W.q 10 J) (W.q 11 J)
   replace ad:=ad.fr aR (W.q 1 J) (Dj.sub (Dj.app (W.q 2 J) (Dj.sub (W.q 5 J) i2)) i4)
   replace c:=c.fr aR (W.q 6 J) (Dj.sub (W.q 9 J) y)
   replace t:=t.fr aR (W.q 7 J) (W.q 8 J)
   replace an:=aR _ _ ((W.q 0 J) _ MC) an
   replace G:=aR _ _ ((W.q 4 J) _ MC) G
   refine art 7 [] J ?_
   refine WT.thw (js:=[0]) (R:=[ob v23,bu,ob v24,bw,[aL],ob v21,X3,ob b1,[a],X2,ob v4,ob v5,Z,U,ob v2,Y]) J bP (fun cA B aq=>?_)
   replace h1:=h1.fr aq (B.q 14 J) (B.q 15 J)
   replace ad:=ad.fr aq (B.q 5 J) (Dj.sub (Dj.app (B.q 6 J) (Dj.sub (B.q 9 J) i2)) i4)
   replace b3:=b3.fr aq (B.q 0 J) (B.q 1 J)
   replace b5:=b5.fr aq (B.q 2 J) (B.q 3 J)
   replace c:=c.fr aq (B.q 10 J) (Dj.sub (B.q 13 J) y)
   replace t:=t.fr aq (B.q 11 J) (B.q 12 J)
   replace an:=aq _ _ ((B.q 4 J) _ MC) an
   replace G:=aq _ _ ((B.q 8 J) _ MC) G
   refine WT.thw (js:=[4]) (R:=[ob v23,bu,ob v24,bw,ob v21,X3,ob b1,[a],X2,ob v4,ob v5,Z,U,ob v2,Y]) J an (fun cB H aK=>?_)
   replace h1:=h1.fr aK (H.q 13 J) (H.q 14 J)
   replace ad:=ad.fr aK (H.q 4 J) (Dj.sub (Dj.app (H.q 5 J) (Dj.sub (H.q 8 J) i2)) i4)
   replace b3:=b3.fr aK (H.q 0 J) (H.q 1 J)
   replace b5:=b5.fr aK (H.q 2 J) (H.q 3 J)
   replace c:=c.fr aK (H.q 9 J) (Dj.sub (H.q 12 J) y)
   replace t:=t.fr aK (H.q 10 J) (H.q 11 J)
   replace G:=aK _ _ ((H.q 7 J) _ MC) G
   refine wtL [(X2++(X3)),ob v23,bu,ob v24,bw,ob v21,ob b1,[a],ob v4,ob v5,Z,U,ob v2,Y] (smg [8,5] J (SP.eq (by simp[gk]))) ?_
   exact lb [5,0,5,0,0,0,0,1,1,1,1,1,1] [0,0,1,1,1,1,1,1] (bl (_,_,_,_,_,_,_,_,_,_,_,_,_,_,_) ⟨h,h1,c,t,b3,b5,ad,(fun k hk=>((gb.1 (i4 k hk)).elim (fun h=>((fun k hk=>(gb.2 (.inr hk))) k h)) (fun h=>((fun k hk=>(gb.2 (.inl hk))) k (i2 k h))))),G⟩)
  refine att 7 [] J ?_
  exact lb [2,2,1,1,1,1,1,1,1,1,1,1,1] [1,1,1,1,1,1,1,1] (bl (_,_,_,_,_,_,_,_,_,_,_,_,_,_,_) ⟨h,h1,c,t,w,x,u,(fun k hk=>(i2 k hk)),G⟩)
 refine xt J<|sq<|wm [0,1,2,3,4] [7] J<|amm 4 [0,98,1,66,2,34,3,2] [0,1,2,3,4] J J ?_
 refine on1 4 (msK 7 [0,1,2,3,4] J sD J ⟨J,h1.one,trivial⟩ J J ?_)
 refine on1 5 (msK 6 [0,1,2,3,4] J wi J ⟨c.one,t.one,trivial⟩ J J ?_)
 refine on1 6 (msK 5 [0,1,2,3,4] J mj J ⟨w.one,x.one,trivial⟩ J J ?_)
 refine on1 7 (msN 4 J nk xL J ⟨u.one,J,trivial⟩ J J ?_)
 refine WM.nil MA ?_
 refine WT.ret hF (aA.four (aZ BE J (fun w1 hw=>hw.rgO (i:=7) J 0 2 [.string I.1.Name,v2] J) J) (aZ FQ J (fun w1 hw=>hw.rgO (i:=6) J 0 2 [v4,v5] J) J) (aZ vr J (fun w1 hw=>hw.rgO (i:=5) J 0 2 [u1,u2] J) J) (aZ rm J (fun w1 hw=>hw.rgO (i:=4) J 0 2 [u3,iV s7] J) J)) (fun w1 hw=>?_)
 cases h
 replace hw:=hw.merge (js:=[10,1]) (F:=[U,X2].flatten) J (SP.eq MC)
 refine aW (js:=[10,10,7,7,7,3,3,3,3,1,1,0]) hw J ⟨v2,Y,v4,D2,v5,Z,u1,D6,u2,D7,u3,D8,[U,X2].flatten,J,J,h1,c,(fun k hk=>(hR.2 ⟨U,MC,(y k hk)⟩)),t,w,x,u,(fun k hk=>(hR.2 ⟨X2,MC,(i2 k hk)⟩)),J,k5⟩
theorem uv (w0:av e d []) (F:(List ah)) (B:RSl cL 2 e o f F) {r:(List ah)} (h:jc N F=some r) :
  Calls prog 202 [f].toArray w0.w (be d w0.w [] (fun aR Fs v=>∃ (L:Value) (Y:List Nat),v=L∧Fs=[ob L,Y]∧OSl aF 105 2 aR Y L r)):=by
 refine eN func202 J ntmps202 J w0 fun hF=>?_
 unfold jc at h
 refine atr 6 [] J ?_
 have aS:RC aF 2 d ([]:List (List Nat)) [] ([]:List ah):=RC.nil _ _ _
 refine le' (aQ (vs:=[]) (C:=#[]) aF.lasts ci fa J J J J (ac qX (ab)) J aS J (by simpa using Kw.nil)) J ?_
 rintro v1 M D1 ⟨bt,h1⟩
 replace h1:OSl aF 105 2 M [] v1 ([]:List ah):=by simpa[gk] using h1
 refine WL.conv (S':=St w0 M [] [[],ob v1]) (fun i hw=>hw.addNil)<|art 8 [] J ?_
 refine lin (σ:=Hp × (List ah) × Value × List Nat × Int) (fun s=>[(0,f),(3,s.2.2.1),(4,iV s.2.2.2.2)]) (fun s=>St w0 s.1 [] [s.2.2.2.1,ob s.2.2.1]) (fun m s=>cV N F m s.2.1 s.2.2.2.2=some r∧(OSl aF 105 2 s.1 s.2.2.2.1 s.2.2.1 s.2.1)) (M,([]:List ah),v1,[],0) N ⟨h,h1⟩ (sx [0,0] []) (fun n1 aT s hm=>?_)
 obtain⟨bu,s1,x,k,s2⟩:=s
 obtain⟨h,b⟩:=hm
 dsimp only at h b ⊢
 unfold cV at h
 refine atr 5 [] J<|lnr B J<|la J<|en ?_
 refine ch h J ?_ ?_ <;> intro h
 ·refine att 3 [] J ?_
  refine cut (σ:=Hp × (List ah) × Value × List Nat) (fun s=>[(0,f),(3,s.2.2.1),(4,iV s2)]) (fun s=>St w0 s.1 [] [s.2.2.2,ob s.2.2.1]) (fun s=>iW N s2 (cV N F n1) s.2.1=some r∧(OSl aF 105 2 s.1 s.2.2.2 s.2.2.1 s.2.1)) (fun s hm=>?_) (fun K=>?_)
  ·clear h
   obtain⟨bw,s3,u2,D9⟩:=s
   obtain⟨h,Z⟩:=hm
   dsimp only at h Z ⊢
   unfold iW at h
   refine att 6 [] J ?_
   exact lb [0,0] [] (aT (_,_,_,_,_) ⟨h,Z⟩)
  refine wm [] [] J<|amm 3 [0,2,3] [] J J ?_
  obtain⟨x6,a6,h⟩:=bs h
  obtain⟨bx,F3,-,g3,bz,bA,r3⟩:=B.el (aa a6).2.2
  obtain⟨v12,G5,bB,G6,rfl,rfl,y,bC⟩:=r3
  refine mq 4 J MA (kN []) (ae ci J J B a6) J<|amm 1 [5,0] [] J J<|mq 6 J MA (kN []) (az lz J (fun i hw=>(g3.of_eq 0 1 J J:rg _ _ _ [v12]).rangeAt hw.1)) J<|amm 2 [9,10] [] J J ?_
  obtain⟨x7,a8,h⟩:=bs h
  obtain⟨bD,F4,-,g4,bE,bF,r4⟩:=B.el (aa a8).2.2
  obtain⟨bG,G7,aV,G8,rfl,rfl,bI,z⟩:=r4
  refine mq 11 J MA (kN []) (ae ci J J B a8) J<|amm 1 [12,1] [] J J<|mq 13 J MA (kN []) (az lz J (fun i hw=>(g4.of_eq 1 1 J J:rg _ _ _ [aV]).rangeAt hw.1)) J ?_
  refine WM.two 1 8 MA ?_ ?_
  ·refine me J (fun _ v q D i t hw=>Kn.of Kf.nil aN hw) (cO (R:=RI .i64) RI.lasts aY gF J J) J ?_
   rintro bJ bK bL ⟨aW,G⟩
   replace b:=b.f0 aW
   refine WM.two 7 8 MA ?_ ?_
   ·first | refine mu0 y fun ad=>?_ | refine iu0 y fun ad=>?_
    obtain⟨x8,aX,h⟩:=bs h
    refine me J (fun _ v q D i t hw=>Kn.of Kf.nil aN hw) (bg RI.lasts RI.one RI.flat aY jH J J J J J (js:=[0]) (Rr:=[k,ob x]) J G ad aX) J ?_
    rintro v17 bM bN ⟨⟨af,aZ⟩,A⟩
    replace b:=b.fr aZ (af.q 1 J) (af.q 0 J)
    refine WM.one 8 MA (me J (fun _ v q D i t hw=>Kn.of Kf.nil aN hw) (cO (R:=RI .i64) RI.lasts aY gF J J) J ?_)
    rintro bO bP bQ ⟨ag,b0⟩
    replace b:=b.f0 ag
    replace A:=A.f0 ag
    first | refine mu0 z fun ai=>?_ | refine iu0 z fun ai=>?_
    obtain⟨x9,b1,h⟩:=bs h
    refine WM.one 14 MA (me J (fun _ v q D i t hw=>Kn.of Kf.nil aN hw) (bg RI.lasts RI.one RI.flat aY jH J J J J J (js:=[0]) (Rr:=[ob v17,k,ob x]) J b0 ai b1) J ?_)
    rintro w b2 bR ⟨⟨O,aj⟩,ak⟩
    replace b:=b.fr aj (O.q 2 J) (O.q 1 J)
    replace A:=A.fr aj (O.q 0 J) dN
    refine mq 15 J MA (kN []) (aU (vs:=[(0,v17),(1,w)]) (C:=#[v17,w]) vB fa J (a7 (C':=[v17,.slice none 0 0]) J (bh A.one) J J J (a7 (C':=[v17,w]) J (bh ak.one) J J J (ab)))) J ?_
    have al:RC aF 2 b2 ([(ob v17++[])++((ob w++[]))]:List (List Nat)) [v17,w] ([(⟨x8,x9⟩:ah)]:List ah):=RC.cons (c:=[v17,w]) (cells:=[]) ⟨v17,w,J,J,A,ak⟩ J (RC.nil _ _ _)
    refine WM.one 16 MA (me J (fun _ v q D i t hw=>Kn.of Kf.nil aN hw) (aQ (vs:=[(0,.agg [v17,w].toArray)]) (C:=#[v17,w]) aF.lasts ci fa J J J J (ac pA (a7 (C':=[v17,w]) J J J J J (ab))) J al J (RC.kn aF.knows al)) J ?_)
    rintro v20 an bS ⟨b3,P⟩
    replace P:OSl aF 105 2 an ((ob v17++[])++((ob w++[]))) v20 ([(⟨x8,x9⟩:ah)]:List ah):=by simpa[gk] using P
    replace b:=b.f0 b3
    refine WM.conv (S':=St w0 an [] [((ob v17++[])++((ob w++[]))),ob v20,k,ob x]) (fun i hw=>hw.merge (js:=[2,1]) J (SP.eq (by simp[gk,bH]))) ?_
    obtain⟨bT,b4,h⟩:=bs h
    refine WM.one 17 MA (me J (fun _ v q D i t hw=>Kn.of Kf.nil aN hw) (cq aF.lasts aF.one ci mQ J J J J J (js:=[3]) (Rr:=[((ob v17++[])++((ob w++[]))),ob v20,k]) J b P (fun ap=>ap.q 2 J) (fun ap=>ap.q 0 J) b4) J ?_)
    rintro v21 b5 bU ⟨⟨bV,bW⟩,b6⟩
    refine WM.conv (S':=St w0 b5 [] [(k++((ob v17++[])++((ob w++[])))),ob v21,ob v20]) (fun i hw=>hw.merge (js:=[3,1]) J (SP.eq MC))<|amm 1 [18] [] J J<|WM.nil MA ?_
    exact wo [0,0] [] (K (_,_,_,_) ⟨h,b6⟩)
   refine me J (fun _ v q D i t hw=>Kn.of Kf.nil aN hw) (cO (R:=RI .i64) RI.lasts aY gF J J) J ?_
   rintro v22 bX bY ⟨ao,Q⟩
   replace b:=b.f0 ao
   replace G:=G.f0 ao
   first | refine mu0 y fun aq=>?_ | refine iu0 y fun aq=>?_
   obtain⟨ar,b7,h⟩:=bs h
   refine WM.one 7 MA (me J (fun _ v q D i t hw=>Kn.of Kf.nil aN hw) (bg RI.lasts RI.one RI.flat aY jH J J J J J (js:=[1]) (Rr:=[ob v22,k,ob x]) J G aq b7) J ?_)
   rintro v23 bZ c0 ⟨⟨S,au⟩,H⟩
   replace b:=b.fr au (S.q 2 J) (S.q 1 J)
   replace Q:=Q.fr au (S.q 0 J) dN
   first | refine mu0 z fun aw=>?_ | refine iu0 z fun aw=>?_
   obtain⟨ax,b8,h⟩:=bs h
   refine WM.one 14 MA (me J (fun _ v q D i t hw=>Kn.of Kf.nil aN hw) (bg RI.lasts RI.one RI.flat aY jH J J J J J (js:=[1]) (Rr:=[ob v23,k,ob x]) J Q aw b8) J ?_)
   rintro v24 b9 c3 ⟨⟨T,ay⟩,aB⟩
   replace b:=b.fr ay (T.q 2 J) (T.q 1 J)
   replace H:=H.fr ay (T.q 0 J) dN
   refine mq 15 J MA (kN []) (aU (vs:=[(0,v23),(1,v24)]) (C:=#[v23,v24]) vB fa J (a7 (C':=[v23,.slice none 0 0]) J (bh H.one) J J J (a7 (C':=[v23,v24]) J (bh aB.one) J J J (ab)))) J ?_
   have aC:RC aF 2 b9 ([(ob v23++[])++((ob v24++[]))]:List (List Nat)) [v23,v24] ([(⟨ar,ax⟩:ah)]:List ah):=RC.cons (c:=[v23,v24]) (cells:=[]) ⟨v23,v24,J,J,H,aB⟩ J (RC.nil _ _ _)
   refine WM.one 16 MA (me J (fun _ v q D i t hw=>Kn.of Kf.nil aN hw) (aQ (vs:=[(0,.agg [v23,v24].toArray)]) (C:=#[v23,v24]) aF.lasts ci fa J J J J (ac pA (a7 (C':=[v23,v24]) J J J J J (ab))) J aC J (RC.kn aF.knows aC)) J ?_)
   rintro v25 aD c4 ⟨ba,U⟩
   replace U:OSl aF 105 2 aD ((ob v23++[])++((ob v24++[]))) v25 ([(⟨ar,ax⟩:ah)]:List ah):=by simpa[gk] using U
   replace b:=b.f0 ba
   refine WM.conv (S':=St w0 aD [] [((ob v23++[])++((ob v24++[]))),ob v25,k,ob x]) (fun i hw=>hw.merge (js:=[2,1]) J (SP.eq (by simp[gk,bH]))) ?_
   obtain⟨c5,bb,h⟩:=bs h
   refine WM.one 17 MA (me J (fun _ v q D i t hw=>Kn.of Kf.nil aN hw) (cq aF.lasts aF.one ci mQ J J J J J (js:=[3]) (Rr:=[((ob v23++[])++((ob v24++[]))),ob v25,k]) J b U (fun ap=>ap.q 2 J) (fun ap=>ap.q 0 J) bb) J ?_)
   rintro v26 bc c6 ⟨⟨c7,c8⟩,bd⟩
   refine WM.conv (S':=St w0 bc [] [(k++((ob v23++[])++((ob v24++[])))),ob v26,ob v25]) (fun i hw=>hw.merge (js:=[3,1]) J (SP.eq MC))<|amm 1 [18] [] J J<|WM.nil MA ?_
   exact wo [0,0] [] (K (_,_,_,_) ⟨h,bd⟩)
  refine me J (fun _ v q D i t hw=>Kn.of Kf.nil aN hw) (cO (R:=RI .i64) RI.lasts aY gF J J) J ?_
  rintro bf c9 ca ⟨bj,E⟩
  replace b:=b.f0 bj
  refine WM.one 1 MA (me J (fun _ v q D i t hw=>Kn.of Kf.nil aN hw) (cO (R:=RI .i64) RI.lasts aY gF J J) J ?_)
  rintro v28 cb cc ⟨aE,bk⟩
  replace b:=b.f0 aE
  replace E:=E.f0 aE
  first | refine mu0 y fun aG=>?_ | refine iu0 y fun aG=>?_
  obtain⟨aH,bl,h⟩:=bs h
  refine WM.one 7 MA (me J (fun _ v q D i t hw=>Kn.of Kf.nil aN hw) (bg RI.lasts RI.one RI.flat aY jH J J J J J (js:=[0]) (Rr:=[ob bf,k,ob x]) J bk aG bl) J ?_)
  rintro u cd cf ⟨⟨V,aI⟩,I⟩
  replace b:=b.fr aI (V.q 2 J) (V.q 1 J)
  replace E:=E.fr aI (V.q 0 J) dN
  first | refine mu0 z fun aJ=>?_ | refine iu0 z fun aJ=>?_
  obtain⟨aK,bm,h⟩:=bs h
  refine WM.one 14 MA (me J (fun _ v q D i t hw=>Kn.of Kf.nil aN hw) (bg RI.lasts RI.one RI.flat aY jH J J J J J (js:=[1]) (Rr:=[ob u,k,ob x]) J E aJ bm) J ?_)
  rintro v30 bn cg ⟨⟨W,aL⟩,aM⟩
  replace b:=b.fr aL (W.q 2 J) (W.q 1 J)
  replace I:=I.fr aL (W.q 0 J) dN
  refine mq 15 J MA (kN []) (aU (vs:=[(0,u),(1,v30)]) (C:=#[u,v30]) vB fa J (a7 (C':=[u,.slice none 0 0]) J (bh I.one) J J J (a7 (C':=[u,v30]) J (bh aM.one) J J J (ab)))) J ?_
  have aO:RC aF 2 bn ([(ob u++[])++((ob v30++[]))]:List (List Nat)) [u,v30] ([(⟨aH,aK⟩:ah)]:List ah):=RC.cons (c:=[u,v30]) (cells:=[]) ⟨u,v30,J,J,I,aM⟩ J (RC.nil _ _ _)
  refine WM.one 16 MA (me J (fun _ v q D i t hw=>Kn.of Kf.nil aN hw) (aQ (vs:=[(0,.agg [u,v30].toArray)]) (C:=#[u,v30]) aF.lasts ci fa J J J J (ac pA (a7 (C':=[u,v30]) J J J J J (ab))) J aO J (RC.kn aF.knows aO)) J ?_)
  rintro v31 aP cj ⟨bo,X⟩
  replace X:OSl aF 105 2 aP ((ob u++[])++((ob v30++[]))) v31 ([(⟨aH,aK⟩:ah)]:List ah):=by simpa[gk] using X
  replace b:=b.f0 bo
  refine WM.conv (S':=St w0 aP [] [((ob u++[])++((ob v30++[]))),ob v31,k,ob x]) (fun i hw=>hw.merge (js:=[2,1]) J (SP.eq (by simp[gk,bH]))) ?_
  obtain⟨ck,bp,h⟩:=bs h
  refine WM.one 17 MA (me J (fun _ v q D i t hw=>Kn.of Kf.nil aN hw) (cq aF.lasts aF.one ci mQ J J J J J (js:=[3]) (Rr:=[((ob u++[])++((ob v30++[]))),ob v31,k]) J b X (fun ap=>ap.q 2 J) (fun ap=>ap.q 0 J) bp) J ?_)
  rintro v32 bq cm ⟨⟨cn,cp⟩,br⟩
  refine WM.conv (S':=St w0 bq [] [(k++((ob u++[])++((ob v30++[])))),ob v32,ob v31]) (fun i hw=>hw.merge (js:=[3,1]) J (SP.eq MC))<|amm 1 [18] [] J J<|WM.nil MA ?_
  exact wo [0,0] [] (K (_,_,_,_) ⟨h,br⟩)
 refine att 6 [] J ?_
 exact rtg [1,0] hF (aA.one J) J (by cases h;exact fun i hw=>⟨x,k,rfl,rfl,b⟩)
theorem yh (w0:av e d []) (F:aI) (S:RSl iv 1 e n g F.Alphas) (M:RSl lw 1 e pG0_1 j F.Rules) {r:aI} (h:nE N F=some r) :
  Calls prog 144 [.agg [g,j].toArray].toArray w0.w (be d w0.w [] (fun a6 Fs v=>∃ (T:Value) (a8:List Nat) (U:Value) (ad:List Nat),v = .agg [T,U].toArray∧Fs=[ob T,a8,ob U,ad]∧OSl bk 133 1 a6 a8 T r.Alphas∧OSl bc 100 1 a6 ad U r.Rules)):=by
 refine eN func144 J ntmps144 J w0 fun hF=>?_
 unfold nE at h
 refine sr<|lbx J fun y=>lnz lJ J fun z=>en<|sr<|lq (aU (vs:=[]) (C:=#[.slice none 0 0,.slice none 0 0]) Gv lJ J (ab)) J<|lnz lJ J fun A=>soN 0 mj J ⟨J,J,trivial⟩ J ?_
 refine art 7 [] J<|wtS<|wt0 ?_
 have k1:=OSl.nil bk 133 1 d
 refine lin (σ:=Hp × (List bm) × Value × List Nat × Int) (fun s=>[(1,pQ y),(2,pQ z),(3,pQ A),(4,iV s.2.2.2.2)]) (fun s=>St w0 s.1 [(A,.cells #[s.2.2.1,.slice none 0 0] 35 (0,0)),(z,.cells #[.slice none 0 0,.slice none 0 0] 35 (0,0)),(y,.cells #[g,j] 35 (0,0))] [s.2.2.2.1,ob s.2.2.1]) (fun m s=>gC N F m s.2.1 s.2.2.2.2=some r∧(OSl bk 133 1 s.1 s.2.2.2.1 s.2.2.1 s.2.1)) (d,([]:List bm),(.slice none 0 0),[],0) N ⟨h,k1⟩ (sx [0,0] [0,0,0]) (fun n1 aG s hm=>?_)
 obtain⟨af,s1,k,t,s2⟩:=s
 obtain⟨h,b⟩:=hm
 dsimp only at h b ⊢
 unfold gC at h
 refine atr 6 [0,64] J<|lnr S J<|la J<|en ?_
 refine ch h J ?_ ?_ <;> intro h
 ·refine att 3 [] J<|wm [0,1,2] [14] J<|amm 5 [0,0,1,0,3,0,4,64,5] [0,1,2] J J ?_
  obtain⟨x1,ag,h⟩:=bs h
  obtain⟨bb,F1,-,g1,bd,bf,r1⟩:=S.el (aa ag).2.2
  obtain⟨v1,G1,rfl,aH,h1⟩:=r1
  obtain rfl:=aH.symm
  refine mq 6 J MA (kN [0,1,2]) (ae oc J J S ag) J<|amm 1 [7,0] [0,1,2] J J<|mq 8 J MA (kN [0,1,2]) (az lz J (fun q hw=>(g1.of_eq 0 1 J J:rg _ _ _ [v1]).rangeAt hw.1)) J ?_
  refine WM.one 2 MA (me J (fun _ v H D q I hw=>Kn.of Kf.nil (ai3 0 1 2 J J J) hw) (cO (R:=RI .i64) RI.lasts aY gF J J) J ?_)
  rintro v2 bj D2 ⟨aJ,h2⟩
  replace b:=b.f0 aJ
  first | refine mu0 h1 fun h3=>?_ | refine iu0 h1 fun h3=>?_
  obtain⟨x2,aK,h⟩:=bs h
  refine WM.one 9 MA (me J (fun _ v H D q I hw=>Kn.of Kf.nil (ai3 0 1 2 J J J) hw) (bg RI.lasts RI.one RI.flat aY jH J J J J J (js:=[0]) (Rr:=[t,ob k]) J h2 h3 aK) J ?_)
  rintro v3 aL D3 ⟨⟨ah,aM⟩,h4⟩
  replace b:=b.fr aM (ah.q 1 J) (ah.q 0 J)
  refine mq 10 J MA (kN [0,1,2]) (aU (vs:=[(0,v3)]) (C:=#[v3]) GO uw J (a7 (C':=[v3]) J (bh h4.one) J J J (ab))) J ?_
  have ai:RC bk 1 aL ([(ob v3++[])]:List (List Nat)) [v3] ([(⟨x2⟩:bm)]:List bm):=RC.cons (c:=[v3]) (cells:=[]) ⟨v3,J,J,h4⟩ J (RC.nil _ _ _)
  refine WM.one 11 MA (me J (fun _ v H D q I hw=>Kn.of Kf.nil (ai3 0 1 2 J J J) hw) (aQ (vs:=[(0,.agg [v3].toArray)]) (C:=#[v3]) bk.lasts oc uw J J J J (ac BA (a7 (C':=[v3]) J J J J J (ab))) J ai J (RC.kn bk.knows ai)) J ?_)
  rintro v4 aj D4 ⟨aN,V⟩
  replace V:OSl bk 133 1 aj ((ob v3++[])) v4 ([(⟨x2⟩:bm)]:List bm):=by simpa[gk] using V
  replace b:=b.f0 aN
  refine WM.conv (S':=St w0 aj [(A,.cells #[k,.slice none 0 0] 35 (0,0)),(z,.cells #[.slice none 0 0,.slice none 0 0] 35 (0,0)),(y,.cells #[g,j] 35 (0,0))] [((ob v3++[])),ob v4,t,ob k]) (fun q hw=>hw.merge (js:=[1]) J (SP.eq (by simp[gk,bH]))) ?_
  obtain⟨x3,aO,h⟩:=bs h
  refine WM.one 12 MA (me J (fun _ v H D q I hw=>Kn.of Kf.nil (ai3 0 1 2 J J J) hw) (cq bk.lasts bk.one oc GR J J J J J (js:=[3]) (Rr:=[((ob v3++[])),ob v4,t]) J b V (fun ap=>ap.q 2 J) (fun ap=>ap.q 0 J) aO) J ?_)
  rintro v5 aR D5 ⟨⟨bl,bn⟩,h6⟩
  refine WM.conv (S':=St w0 aR [(A,.cells #[k,.slice none 0 0] 35 (0,0)),(z,.cells #[.slice none 0 0,.slice none 0 0] 35 (0,0)),(y,.cells #[g,j] 35 (0,0))] [(t++((ob v3++[]))),ob v5,ob v4]) (fun q hw=>hw.merge (js:=[3,1]) J (SP.eq MC))<|amm 1 [13,0] [0,1,2] J J ?_
  refine on1 14 (ms1 0 J nk J1 J h6.one ?_)
  refine WM.nil MA<|att 6 [] J ?_
  exact lb [0,0] [0,0,0] (aG (_,_,_,_,_) ⟨h,h6⟩)
 refine att 7 [] J<|wtS<|wt0 ?_
 have k3:=OSl.nil bc 100 1 af
 refine lin (σ:=Hp × (List aP) × Value × List Nat × Int) (fun s=>[(1,pQ y),(2,pQ z),(3,pQ A),(5,iV s.2.2.2.2)]) (fun s=>St w0 s.1 [(A,.cells #[k,s.2.2.1] 35 (0,0)),(z,.cells #[.slice none 0 0,.slice none 0 0] 35 (0,0)),(y,.cells #[g,j] 35 (0,0))] [s.2.2.2.1,ob s.2.2.1,t,ob k]) (fun m s=>et N F s1 m s.2.1 s.2.2.2.2=some r∧(OSl bk 133 1 s.1 t k s1)∧(OSl bc 100 1 s.1 s.2.2.2.1 s.2.2.1 s.2.1)) (af,([]:List aP),(.slice none 0 0),[],0) N ⟨h,b,k3⟩ (sx [0,0,0,0] [0,0,0]) (fun n2 aS s hm=>?_)
 obtain⟨ak,s3,x,B,s4⟩:=s
 obtain⟨h,b,u⟩:=hm
 dsimp only at h b u ⊢
 unfold et at h
 refine atr 6 [1,64] J<|lnr M J<|la J<|en ?_
 refine ch h J ?_ ?_ <;> intro h
 ·refine atr 5 [] J<|lq (aU (vs:=[]) (C:=#[.slice none 0 0]) AI mO J (ab)) J ?_
  refine ln (mf (C:=#[.slice none 0 0]) mO J) J (fun O=>?_)
  refine soN 0 yf J ⟨J,trivial⟩ J ?_
  refine art 7 [] J<|wtS<|wt0 ?_
  have k5:=OSl.nil aT 103 1 ak
  refine lin (σ:=Hp × (List ao) × Value × List Nat × Int) (fun s=>[(1,pQ y),(2,pQ z),(3,pQ A),(5,iV s4),(6,pQ O),(7,iV s.2.2.2.2)]) (fun s=>St w0 s.1 [(O,.cells #[s.2.2.1] 100 (0,0)),(A,.cells #[k,x] 35 (0,0)),(z,.cells #[.slice none 0 0,.slice none 0 0] 35 (0,0)),(y,.cells #[g,j] 35 (0,0))] [s.2.2.2.1,ob s.2.2.1,B,ob x,t,ob k]) (fun m s=>fy N F s3 s4 (et N F s1 n2) m s.2.1 s.2.2.2.2=some r∧(OSl bk 133 1 s.1 t k s1)∧(OSl bc 100 1 s.1 B x s3)∧(OSl aT 103 1 s.1 s.2.2.2.1 s.2.2.1 s.2.1)) (ak,([]:List ao),(.slice none 0 0),[],0) N ⟨h,b,u,k5⟩ (sx [0,0,0,0,0,0] [0,0,0,0]) (fun n3 aV s hm=>?_)
  obtain⟨aW,s5,w,E,s6⟩:=s
  obtain⟨h,b,u,G⟩:=hm
  dsimp only at h b u G ⊢
  unfold fy at h
  refine atr 7 [1,96] J ?_
  obtain⟨x4,al,h⟩:=bs h
  obtain⟨bo,F2,-,g2,bp,bq,r2⟩:=M.el (aa al).2.2
  obtain⟨v6,G2,rfl,aX,h7⟩:=r2
  obtain rfl:=aX.symm
  refine lia M al J<|lf fD J J J<|lhx 0 0 g2 J<|lnr h7 J<|la J<|en ?_
  refine ch h J ?_ ?_ <;> intro h
  ·refine att 3 [] J<|wm [0,1,2,3] [17] J<|amm 5 [0,0,1,0,2,1,3,96,4] [0,1,2,3] J J ?_
   obtain⟨x5,an,h⟩:=bs h
   obtain⟨br,F3,-,g3,bu,bw,r3⟩:=M.el (aa an).2.2
   obtain⟨v7,G3,rfl,b0,h8⟩:=r3
   obtain rfl:=b0.symm
   refine mq 5 J MA (kN [0,1,2,3]) (ae qJ J J M an) J<|amm 1 [6,0] [0,1,2,3] J J<|mq 7 J MA (kN [0,1,2,3]) (az wW J (fun q hw=>(g3.of_eq 0 1 J J:rg _ _ _ [v7]).rangeAt hw.1)) J<|amm 1 [8] [0,1,2,3] J J ?_
   obtain⟨x6,aq,h⟩:=bs h
   obtain⟨bx,F4,-,g4,bz,bA,r4⟩:=h8.el (aa aq).2.2
   obtain⟨v8,G4,rfl,b1,h9⟩:=r4
   obtain rfl:=b1.symm
   refine mq 9 J MA (kN [0,1,2,3]) (ae o8 J J h8 aq) J<|amm 1 [10,0] [0,1,2,3] J J<|mq 11 J MA (kN [0,1,2,3]) (az sk J (fun q hw=>(g4.of_eq 0 1 J J:rg _ _ _ [v8]).rangeAt hw.1)) J ?_
   obtain⟨x7,b2,h⟩:=bs h
   refine WM.one 12 MA (mc J (fun _ v H D q I hw=>Kn.of Kf.nil (am [0,1,2,3] J) hw) (bt (js:=[]) (R:=[E,ob w,B,ob x,t,ob k]) Iy J J (fun q hw ap hl=>uv N (ba hw.fro) x6.Toks (h9.y hw.up)  b2)) J ?_)
   rintro v9 b3 F5 ⟨K,W,v10,L,rfl,rfl,ar⟩
   replace b:=b.fr W (K.q 5 J) (K.q 4 J)
   replace u:=u.fr W (K.q 3 J) (K.q 2 J)
   replace G:=G.fr W (K.q 1 J) (K.q 0 J)
   refine mq 13 J MA (kN [0,1,2,3]) (aU (vs:=[(0,v9)]) (C:=#[v9]) GE ut J (a7 (C':=[v9]) J (bh ar.one) J J J (ab))) J ?_
   have au:RC aT 1 b3 ([(ob v9++L)]:List (List Nat)) [v9] ([(⟨x7⟩:ao)]:List ao):=RC.cons (c:=[v9]) (cells:=[]) ⟨v9,L,J,J,ar⟩ J (RC.nil _ _ _)
   refine WM.one 14 MA (me J (fun _ v H D q I hw=>Kn.of Kf.nil (am [0,1,2,3] J) hw) (aQ (vs:=[(0,.agg [v9].toArray)]) (C:=#[v9]) aT.lasts o8 ut J J J J (ac Bh (a7 (C':=[v9]) J J J J J (ab))) J au J (RC.kn aT.knows au)) J ?_)
   rintro v11 aw D9 ⟨X,Y⟩
   replace Y:OSl aT 103 1 aw ((ob v9++L)) v11 ([(⟨x7⟩:ao)]:List ao):=by simpa[gk] using Y
   replace b:=b.f0 X
   replace u:=u.f0 X
   replace G:=G.f0 X
   refine WM.conv (S':=St w0 aw [(O,.cells #[w] 100 (0,0)),(A,.cells #[k,x] 35 (0,0)),(z,.cells #[.slice none 0 0,.slice none 0 0] 35 (0,0)),(y,.cells #[g,j] 35 (0,0))] [((ob v9++L)),ob v11,E,ob w,B,ob x,t,ob k]) (fun q hw=>hw.merge (js:=[1,1]) J (SP.eq (by simp[gk,bH]))) ?_
   obtain⟨x8,b4,h⟩:=bs h
   refine WM.one 15 MA (me J (fun _ v H D q I hw=>Kn.of Kf.nil (am [0,1,2,3] J) hw) (cq aT.lasts aT.one o8 Gw J J J J J (js:=[3]) (Rr:=[((ob v9++L)),ob v11,E,B,ob x,t,ob k]) J G Y (fun ap=>ap.q 2 J) (fun ap=>ap.q 0 J) b4) J ?_)
   rintro v12 b5 bB ⟨⟨P,ax⟩,ay⟩
   replace b:=b.fr ax (P.q 6 J) (P.q 5 J)
   replace u:=u.fr ax (P.q 4 J) (P.q 3 J)
   refine WM.conv (S':=St w0 b5 [(O,.cells #[w] 100 (0,0)),(A,.cells #[k,x] 35 (0,0)),(z,.cells #[.slice none 0 0,.slice none 0 0] 35 (0,0)),(y,.cells #[g,j] 35 (0,0))] [(E++((ob v9++L))),ob v12,ob v11,B,ob x,t,ob k]) (fun q hw=>hw.merge (js:=[3,1]) J (SP.eq MC))<|amm 1 [16,0] [0,1,2,3] J J ?_
   refine on1 17 (ms1 0 J nk J6 J ay.one ?_)
   refine WM.nil MA<|att 6 [] J ?_
   exact lb [0,0,1,1,1,1] [0,0,0,0] (aV (_,_,_,_,_) ⟨h,b,u,ay⟩)
  refine atr 4 [1,32] J<|lq (aC AB J (fun q hw=>hw.rgO (i:=0) J 0 1 [w] J) J) J ?_
  have aB:RC bc 1 aW ([(ob w++E)]:List (List Nat)) [w] ([(⟨s5⟩:aP)]:List aP):=RC.cons (c:=[w]) (cells:=[]) ⟨w,E,J,J,G⟩ J (RC.nil _ _ _)
  refine le' (aQ (vs:=[(0,.agg [w].toArray)]) (C:=#[w]) bc.lasts qJ mO J J J J (ac ve (a7 (C':=[w]) J J J J J (ab))) J aB J (RC.kn bc.knows aB)) J ?_
  rintro Q b6 bC ⟨aD,Z⟩
  replace Z:OSl bc 100 1 b6 ((ob w++E)) Q ([(⟨s5⟩:aP)]:List aP):=by simpa[gk] using Z
  replace b:=b.f0 aD
  replace u:=u.f0 aD
  refine wlL [((ob w++E)),ob Q,B,ob x,t,ob k] (smg [2,1] J (SP.eq (by simp[gk,bH]))) ?_
  obtain⟨x9,b7,h⟩:=bs h
  refine le' (cq bc.lasts bc.one qJ Ai J J J J J (js:=[3]) (Rr:=[((ob w++E)),ob Q,B,t,ob k]) J u Z (fun ap=>ap.q 2 J) (fun ap=>ap.q 0 J) b7) J ?_
  rintro b8 bD bE ⟨⟨aE,b9⟩,aF⟩
  replace b:=b.fr b9 (aE.q 4 J) (aE.q 3 J)
  refine wlL [(B++((ob w++E))),ob b8,ob Q,t,ob k] (smg [3,1] J (SP.eq MC))<|lf pO J J J<|so1 1 Ea J aF.one ?_
  refine art 7 [] J ?_
  exact lb [0,0,1,1] [1,1,1] (aS (_,_,_,_,_) ⟨h,b,aF⟩)
 refine atr 4 [2] J<|soN 1 mj J ⟨b.one,u.one,trivial⟩ J ?_
 refine en ?_
 exact rtg [3,2,1,0] hF (aA.one (aZ vr J (fun q hw=>hw.rgO (i:=1) J 0 2 [k,x] J) J)) J (by cases h;exact fun q hw=>⟨k,t,x,B,rfl,rfl,b,u⟩)
theorem xI (w0:av e d [[a]].flatten) (I:a8) (p1:aI) (aG:RSl (RI .u8) 1 e n g I.b) (aH:d a=some (.cells #[g,iV I.i,iV I.h] 144 (0,0))) (bA:RSl iv 1 e pG1_0 a1 p1.Alphas) (bB:RSl lw 1 e pG1_1 p p1.Rules) {r:aI × a8} (h:nJ N I p1=some r) :
  Calls prog 77 [pQ a,.agg [a1,p].toArray].toArray w0.w (be d w0.w [[a]].flatten (fun aK Fs v=>∃ (aL:Value) (b6:List Nat) (aM:Value) (b7:List Nat),v = .agg [aL,aM].toArray∧Fs=[ob aL,b6,ob aM,b7,[a]]∧OSl bk 133 1 aK b6 aL r.1.Alphas∧OSl bc 100 1 aK b7 aM r.1.Rules∧r.2.b=I.b∧aK a=some (.cells #[g,iV r.2.i,iV r.2.h] 144 (0,0)))):=by
 refine eL func77 J ntmps77 J (L:=[[a]]) w0 (fun hF=>?_)
 unfold nJ at h
 refine sr<|lbx J fun S=>lnz lJ J fun T=>arr 4 [34] J<|kab h J J J (fun b z q=>yh N b p1 (bA.y z) (bB.y z) q) ?_
 rintro x1 h v1 c8 F1 ⟨bC,bD,v2,y,v3,P,rfl,rfl,h1,k⟩
 replace aH:=bD _ _ ((bC.q 0 J) _ MC) aH
 refine soN 1 mj J ⟨h1.one,k.one,trivial⟩ J ?_
 refine arr 5 [] J<|kcb [4] h J J J J (fun b ap z q=>aJ N b I 6 (aG.y z) aH q) ?_
 rintro x2 h v4 aj F2 ⟨ar,b8,rfl,rfl,e1,G⟩
 replace h1:=h1.fr b8 (ar.q 0 J) (ar.q 1 J)
 replace k:=k.fr b8 (ar.q 2 J) (ar.q 3 J)
 refine art 7 [] J ?_
 refine cut (σ:=Hp × (List bm) × List Nat × (List aP) × Value × List Nat × Int × Int) (fun s=>[(3,pQ S),(4,pQ T)]) (fun s=>St w0 s.1 [(T,.cells #[.slice none 0 0,.slice none 0 0] 35 (0,0)),(S,.cells #[v2,s.2.2.2.2.1] 35 (0,0))] [[a],ob v2,s.2.2.1,ob s.2.2.2.2.1,s.2.2.2.2.2.1]) (fun s=>fe N I s.2.1 s.2.2.2.1 s.2.2.2.2.2.2.1 s.2.2.2.2.2.2.2=some r∧(OSl bk 133 1 s.1 s.2.2.1 v2 s.2.1)∧(OSl bc 100 1 s.1 s.2.2.2.2.2.1 s.2.2.2.2.1 s.2.2.2.1)∧(s.1 a=some (.cells #[g,iV s.2.2.2.2.2.2.1,iV s.2.2.2.2.2.2.2] 144 (0,0)))) (fun s hm=>?_) (fun K=>?_)
 ·clear h
  obtain⟨c9,s1,D3,s2,u1,D4,s3,s4⟩:=s
  obtain⟨h,k1,k2,k3⟩:=hm
  dsimp only at h k1 k2 k3 ⊢
  unfold fe at h
  refine atr 4 [34] J<|soN 0 mj J ⟨k1.one,k2.one,trivial⟩ J ?_
  refine en ?_
  exact rtg [1,1,1,1,0] hF (aA.one (aZ vr J (fun t hw=>hw.rgO (i:=0) J 0 2 [v2,u1] J) J)) J (by cases h;exact fun t hw=>⟨v2,D3,u1,D4,rfl,rfl,k1,k2,rfl,k3⟩)
 refine ch h J ?_ ?_ <;> intro h
 ·refine atr 4 [0,32] J<|lno h1 J<|la J<|en ?_
  refine ch h J ?_ ?_ <;> intro h
  ·obtain⟨x3,aN,h⟩:=bs h
   obtain⟨ca,F3,D5,A,r1,aO,bE⟩:=h1.focus aN
   obtain⟨v5,rfl,rfl,h5⟩:=r1
   refine wtL [ob v5,D5,[a],ob v2,ob v3,P] (sre [2] [ob v5,D5] J (by simpa[gk] using bE))<|WT.mix (Kn w0 aj (ob v2) [(T,.cells #[.slice none 0 0,.slice none 0 0] 35 (0,0)),(S,.cells #[v2,v3] 35 (0,0))]) (fun i=>match i with | 13=>false | _=>true) mixed (fun _ h=>h.drew)<|mq 0 J MA (kn Kf.id (ai2 0 1 J J)) (ak iG J) J<|mq 1 J MA (kn Kf.id (ai2 0 1 J J)) (az xj J (fun t hw=>hw.rgO (i:=1) J 0 1 [v2] J)) J ?_
   refine mq 2 J MA (kn Kf.id (ai2 0 1 J J)) (ak iG J) J<|mq 3 J MA (kn Kf.id (ai2 0 1 J J)) (az xj J (fun t hw=>hw.rgO (i:=1) J 0 1 [v2] J)) J<|mq 4 J MA (kn Kf.id (ai2 0 1 J J)) (bw oc J J A aN) J<|mq 5 J MA (kn Kf.id (ai2 0 1 J J)) (ak gw J) J<|mq 6 J MA (kn Kf.id (ai2 0 1 J J)) (az lz J (fun t hw=>hw.rg A.hb (A.rg.of_eq 0 1 J J:rg _ _ _ [v5]))) J ?_
   refine ma 7 J MA (kn Kf.id (ai2 0 1 J J)) J ?_
   obtain⟨U,bF,h⟩:=bs h
   refine WM.one 8 MA (mc J (fun _ v ad D t m hw=>Kn.of (Kf.id.st m.2.1 (m.1.r (i:=2) J)) (ai2 0 1 J J) hw) (bt (js:=[2]) (R:=[ob v5,D5,ob v2,ob v3,P]) ud J J (fun t hw ap hl=>aJ N (bx hw ap hl) (⟨I.b,x2.2.i,x2.2.h⟩:a8) 9 (aG.y (hw.uo ap)) G  bF)) J ?_)
   rintro v6 bG F4 ⟨ae,au,rfl,rfl,e2,V⟩
   replace A:=A.fr au (ae.q 2 J) (ae.q 1 J)
   replace k:=k.fr au (ae.q 3 J) (ae.q 4 J)
   replace h5:=h5.fr au (ae.q 0 J) dN
   have bI:RC (RI .i64) 1 bG ([[]]:List (List Nat)) [iV U.1] ([U.1]:List Int):=RC.cons (c:=[iV U.1]) (cells:=[]) ⟨J,J⟩ J (RC.nil _ _ _)
   have aO:=(Kf.id (F:=(ob v2)):Kf aj _ _).st au (ae.q 2 J)
   refine WM.one 9 MA (me J (fun _ v ad D t m hw=>Kn.of (aO.se m.1) (ai2 0 1 J J) hw) (aQ (vs:=[(0,iV U.1)]) (C:=#[iV U.1]) RI.lasts aY gF J J J J (ac ij (a7 (C':=[iV U.1]) J J J J J (ab))) J bI J (by simpa using Kw.nil)) J ?_)
   rintro v7 bJ D6 ⟨al,h7⟩
   replace h7:OSl (RI .i64) 3 1 bJ [] v7 ([U.1]:List Int):=by simpa using h7
   replace A:=A.f0 al
   replace k:=k.f0 al
   replace h5:=h5.f0 al
   replace V:=al _ _ MC V
   obtain⟨x5,bK,h⟩:=bs h
   have aR:=aO.se al
   refine WM.one 10 MA (me J (fun _ v ad D t m hw=>Kn.of (aR.st m.1.2 (m.1.1.r (i:=3) J)) (ai2 0 1 J J) hw) (bg RI.lasts RI.one RI.flat aY jH J J J J J (js:=[2]) (Rr:=[ob v7,[a],D5,ob v2,ob v3,P]) J h5 h7.rsl bK) J ?_)
   rintro v8 cb D7 ⟨⟨af,aw⟩,h8⟩
   replace A:=A.fr aw (af.q 3 J) (af.q 2 J)
   replace k:=k.fr aw (af.q 4 J) (af.q 5 J)
   replace V:=aw _ _ ((af.q 1 J) _ MC) V
   have aS:=aR.st aw (af.q 3 J)
   refine mqT 11 [12,13] J MA (kn aS (ai2 0 1 J J)) (bw oc J J A aN) J<|mq 12 J MA (kn aS (ai2 0 1 J J)) (ak gw J) J ?_
   refine WM.one 13 MA (mu J (fun hc=>by cases hc) (us [4] [ob v8,ob v7,[a],D5,ob v3,P] 0 bk.lasts qU J J h8.one J A J (fun ap=>ap.q 3 J)) J ?_)
   rintro bL D8 ⟨⟨ax,aV⟩,h9⟩
   replace k:=k.fr aV (ax.q 4 J) (ax.q 5 J)
   replace h8:=h8.fr aV (ax.q 0 J) dN
   replace V:=aV _ _ ((ax.q 2 J) _ MC) V
   refine WM.nil MA ?_
   have r2:bk bL _ [v8] (⟨x5⟩:bm):=⟨v8,J,J,h8⟩
   obtain⟨D9,bM,bN⟩:=h9.unfocus r2 (bk.knows _ _ _ _ r2)
   refine wtL [D9,ob v2,ob v7,[a],ob v3,P] (smg [1,3] J (by simpa[gk,bH] using bN)) ?_
   exact wo [3,1,0,1,1] [0,0] (K (_,_,_,_,_,_,_,_) ⟨h,bM,k,V⟩)
  refine WT.skip ?_
  exact wo [0,0,0,0,0] [0,0] (K (_,_,_,_,_,_,_,_) ⟨h,h1,k,G⟩)
 refine att 5 [] J ?_
 refine ch h J ?_ ?_ <;> intro h
 ·refine atr 4 [1,32] J<|lno k J<|arr 2 [] J ?_
  obtain⟨b3,W,h⟩:=bs h
  refine WL.cutN 8 [(42,.bool b3),(0,pQ a),(3,pQ S),(4,pQ T)] ?_ (fun K=>?_)
  rotate_left
  ·refine sp 34 W J (fun W=>?_) fun W=>?_
   ·refine arr 2 [1,32] J<|ly J J ?_
    obtain⟨x6,b9,W⟩:=bs W
    obtain⟨cc,F5,-,g1,cd,cf,r3⟩:=k.elS (aa b9).2.2
    obtain⟨v9,cg,rfl,rfl,bO⟩:=r3
    have bP:=bO.rslG aT.gives
    refine lio k b9 J<|ly J J<|lf fD J J J<|ly J J<|lgx 0 0 g1 J<|ly J J<|lnr bP J<|arr 2 [] J ?_
    cases W
    exact ku K
   ·refine arr 8 [] J ?_
    cases W
    exact ku K
  refine en ?_
  refine ch h J ?_ ?_ <;> intro h
  ·obtain⟨x7,aW,h⟩:=bs h
   obtain⟨cj,F6,B,u,r4,aR,bQ⟩:=k.focus aW
   obtain⟨v10,ba,rfl,rfl,bR⟩:=r4
   refine wtL [ob v10,ba,B,[a],ob v2,y,ob v3] (sre [4] [ob v10,ba,B] J (by simpa[gk] using bQ)) ?_
   obtain⟨x8,aX,h⟩:=bs h
   obtain⟨ck,F7,X,x,r5,aS,bS⟩:=bR.focus aX
   obtain⟨v11,Q,rfl,rfl,Y⟩:=r5
   refine wtL [ob v11,Q,X,ob v10,B,[a],ob v2,y,ob v3] (sre [1] [ob v11,Q,X] J (by simpa[gk] using bS))<|WT.mix (Kn w0 aj (ob v3++(B++ob v10)) [(T,.cells #[.slice none 0 0,.slice none 0 0] 35 (0,0)),(S,.cells #[v2,v3] 35 (0,0))]) (fun i=>match i with | 21=>false | _=>true) mixed (fun _ h=>h.drew)<|mq 0 J MA (kn Kf.id (ai2 0 1 J J)) (ak pO J) J<|mq 1 J MA (kn Kf.id (ai2 0 1 J J)) (az J8 J (fun t hw=>hw.rgO (i:=1) J 1 1 [v3] J)) J ?_
   refine mq 2 J MA (kn Kf.id (ai2 0 1 J J)) (bw qJ J J u aW) J<|mq 3 J MA (kn Kf.id (ai2 0 1 J J)) (ak fD J) J<|mq 4 J MA (kn Kf.id (ai2 0 1 J J)) (az wW J (fun t hw=>hw.rg (gb.2 (.inl u.hb)) (u.rg.of_eq 0 1 J J:rg _ _ _ [v10]))) J<|mq 5 J MA (kn Kf.id (ai2 0 1 J J)) (ak pO J) J<|mq 6 J MA (kn Kf.id (ai2 0 1 J J)) (az J8 J (fun t hw=>hw.rgO (i:=1) J 1 1 [v3] J)) J ?_
   refine mq 7 J MA (kn Kf.id (ai2 0 1 J J)) (bw qJ J J u aW) J<|mq 8 J MA (kn Kf.id (ai2 0 1 J J)) (ak fD J) J<|mq 9 J MA (kn Kf.id (ai2 0 1 J J)) (az wW J (fun t hw=>hw.rg (gb.2 (.inl u.hb)) (u.rg.of_eq 0 1 J J:rg _ _ _ [v10]))) J<|mq 10 J MA (kn Kf.id (ai2 0 1 J J)) (bw o8 J J x aX) J<|mq 11 J MA (kn Kf.id (ai2 0 1 J J)) (ak dR J) J ?_
   refine mq 12 J MA (kn Kf.id (ai2 0 1 J J)) (az sk J (fun t hw=>hw.rg (gb.2 (.inr (gb.2 (.inr x.hb)))) (x.rg.of_eq 0 1 J J:rg _ _ _ [v11]))) J<|ma 13 J MA (kn Kf.id (ai2 0 1 J J)) J ?_
   obtain⟨M,bT,h⟩:=bs h
   refine WM.one 14 MA (mc J (fun _ v ad D t m hw=>Kn.of (Kf.id.st m.2.1 (Dj.app (m.1.r (i:=7) J) (Dj.app (m.1.r (i:=4) J) (m.1.r (i:=3) J)))) (ai2 0 1 J J) hw) (bt (js:=[5]) (R:=[ob v11,Q,X,ob v10,B,ob v2,y,ob v3]) ud J J (fun t hw ap hl=>aJ N (bx hw ap hl) (⟨I.b,x2.2.i,x2.2.h⟩:a8) 9 (aG.y (hw.uo ap)) G  bT)) J ?_)
   rintro v12 bU F8 ⟨E,an,rfl,rfl,e3,O⟩
   replace h1:=h1.fr an (E.q 5 J) (E.q 6 J)
   replace u:=u.fr an (E.q 7 J) (E.q 4 J)
   replace x:=x.fr an (E.q 3 J) (E.q 2 J)
   replace Y:=Y.fr an (E.q 0 J) (E.q 1 J)
   have bV:RC (RI .i64) 1 bU ([[]]:List (List Nat)) [iV M.1] ([M.1]:List Int):=RC.cons (c:=[iV M.1]) (cells:=[]) ⟨J,J⟩ J (RC.nil _ _ _)
   have bb:=(Kf.id (F:=(ob v3++(B++ob v10))):Kf aj _ _).st an (Dj.app (E.q 7 J) (Dj.app (E.q 4 J) (E.q 3 J)))
   refine WM.one 15 MA (me J (fun _ v ad D t m hw=>Kn.of (bb.se m.1) (ai2 0 1 J J) hw) (aQ (vs:=[(0,iV M.1)]) (C:=#[iV M.1]) RI.lasts aY gF J J J J (ac ij (a7 (C':=[iV M.1]) J J J J J (ab))) J bV J (by simpa using Kw.nil)) J ?_)
   rintro w bd cm ⟨ag,ay⟩
   replace ay:OSl (RI .i64) 3 1 bd [] w ([M.1]:List Int):=by simpa using ay
   replace h1:=h1.f0 ag
   replace u:=u.f0 ag
   replace x:=x.f0 ag
   replace Y:=Y.f0 ag
   replace O:=ag _ _ MC O
   have b0:=bb.se ag
   refine mq 16 J MA (kn b0 (ai2 0 1 J J)) (aU (vs:=[(0,w)]) (C:=#[w,.slice none 0 0]) vB fa J (a7 (C':=[w,.slice none 0 0]) J (bh ay.one) J J J (ab))) J ?_
   have bf:RC aF 2 bd ([(ob w++[])++((ob (.slice none 0 0)++[]))]:List (List Nat)) [w,.slice none 0 0] ([(⟨([M.1]:List Int),[]⟩:ah)]:List ah):=RC.cons (c:=[w,.slice none 0 0]) (cells:=[]) ⟨w,.slice none 0 0,J,J,ay,OSl.nil _ _ _ _⟩ J (RC.nil _ _ _)
   refine WM.one 17 MA (me J (fun _ v ad D t m hw=>Kn.of (b0.se m.1) (ai2 0 1 J J) hw) (aQ (vs:=[(0,.agg [w,.slice none 0 0].toArray)]) (C:=#[w,.slice none 0 0]) aF.lasts ci fa J J J J (ac pA (a7 (C':=[w,.slice none 0 0]) J J J J J (ab))) J bf J (RC.kn aF.knows bf)) J ?_)
   rintro Z bj cn ⟨ai,b1⟩
   replace b1:OSl aF 105 2 bj ((ob w++[])++((ob (.slice none 0 0)++[]))) Z ([(⟨([M.1]:List Int),[]⟩:ah)]:List ah):=by simpa[gk] using b1
   replace h1:=h1.f0 ai
   replace u:=u.f0 ai
   replace x:=x.f0 ai
   replace Y:=Y.f0 ai
   replace O:=ai _ _ MC O
   refine WM.conv (S':=St w0 bj [(T,.cells #[.slice none 0 0,.slice none 0 0] 35 (0,0)),(S,.cells #[v2,v3] 35 (0,0))] [((ob w++[])++((ob (.slice none 0 0)++[]))),ob Z,[a],ob v11,Q,X,ob v10,B,ob v2,y,ob v3]) (fun t hw=>hw.merge (js:=[1]) J (SP.eq (by simp[gk,bH]))) ?_
   obtain⟨bl,bW,h⟩:=bs h
   have bn:=b0.se ai
   refine WM.one 18 MA (me J (fun _ v ad D t m hw=>Kn.of (bn.st m.1.2 (Dj.app (m.1.1.r (i:=9) J) (Dj.app (m.1.1.r (i:=6) J) (m.1.1.r (i:=5) J)))) (ai2 0 1 J J) hw) (cq aF.lasts aF.one ci mQ J J J J J (js:=[3]) (Rr:=[((ob w++[])++((ob (.slice none 0 0)++[]))),ob Z,[a],Q,X,ob v10,B,ob v2,y,ob v3]) J Y b1 (fun ap=>ap.q 3 J) (fun ap=>ap.q 0 J) bW) J ?_)
   rintro aB bX cp ⟨⟨H,aq⟩,aC⟩
   replace h1:=h1.fr aq (H.q 7 J) (H.q 8 J)
   replace u:=u.fr aq (H.q 9 J) (H.q 6 J)
   replace x:=x.fr aq (H.q 5 J) (H.q 4 J)
   replace O:=aq _ _ ((H.q 2 J) _ MC) O
   refine WM.conv (S':=St w0 bX [(T,.cells #[.slice none 0 0,.slice none 0 0] 35 (0,0)),(S,.cells #[v2,v3] 35 (0,0))] [(Q++((ob w++[])++((ob (.slice none 0 0)++[])))),ob aB,ob Z,[a],X,ob v10,B,ob v2,y,ob v3]) (fun t hw=>hw.merge (js:=[4,1]) J (SP.eq MC)) ?_
   have bo:=bn.st aq (Dj.app (H.q 9 J) (Dj.app (H.q 6 J) (H.q 5 J)))
   refine mqT 19 [20,21] J MA (kn bo (ai2 0 1 J J)) (bw o8 J J x aX) J<|mq 20 J MA (kn bo (ai2 0 1 J J)) (ak dR J) J ?_
   refine WM.one 21 MA (mu J (fun hc=>by cases hc) (us [5] [(Q++((ob w++[])++((ob (.slice none 0 0)++[])))),ob aB,ob Z,[a],X,B,ob v2,y,ob v3] 0 aT.lasts AG J J aC.one J x J (fun ap=>ap.q 4 J)) J ?_)
   rintro bp cr ⟨⟨a6,aD⟩,bY⟩
   replace h1:=h1.fr aD (a6.q 6 J) (a6.q 7 J)
   replace u:=u.fr aD (a6.q 8 J) (a6.q 5 J)
   replace aC:=aC.fr aD (a6.q 1 J) (a6.q 0 J)
   replace O:=aD _ _ ((a6.q 3 J) _ MC) O
   refine WM.nil MA ?_
   have r6:aT bp _ [aB] (⟨bl⟩:ao):=⟨aB,(Q++((ob w++[])++((ob (.slice none 0 0)++[])))),J,J,aC⟩
   obtain⟨bq,bZ,c0⟩:=bY.unfocus r6 (aT.knows _ _ _ _ r6)
   refine wtL [bq,ob v10,ob Z,[a],B,ob v2,y,ob v3] (smg [2,1,3] J (by simpa[gk,bH] using c0)) ?_
   have r7:bc bp _ [v10] (⟨(x7.Levels.set (0:Int).toNat (⟨bl⟩:ao))⟩:aP):=⟨v10,bq,J,J,bZ⟩
   obtain⟨c3,c4,c5⟩:=u.unfocus r7 (bc.knows _ _ _ _ r7)
   refine wtL [c3,ob Z,[a],ob v2,y,ob v3] (smg [1,0,2] J (by simpa[gk,bH] using c5)) ?_
   exact wo [2,2,2,2,0] [0,0] (K (_,_,_,_,_,_,_,_) ⟨h,h1,c4,O⟩)
  refine WT.skip ?_
  exact wo [0,0,0,0,0] [0,0] (K (_,_,_,_,_,_,_,_) ⟨h,h1,k,G⟩)
 refine att 5 [] J ?_
 refine ch h J ?_ ?_ <;> intro h
 ·refine atr 3 [1,32] J<|lq (aU (vs:=[]) (C:=#[.slice none 0 0]) AI mO J (ab)) J ?_
  have br:RC bc 1 aj ([(ob (.slice none 0 0)++[])]:List (List Nat)) [.slice none 0 0] ([(⟨[]⟩:aP)]:List aP):=RC.cons (c:=[.slice none 0 0]) (cells:=[]) ⟨.slice none 0 0,[],J,J,OSl.nil _ _ _ _⟩ J (RC.nil _ _ _)
  refine le' (aQ (vs:=[(0,.agg [.slice none 0 0].toArray)]) (C:=#[.slice none 0 0]) bc.lasts qJ mO J J J J (ac ve (a7 (C':=[.slice none 0 0]) J J J J J (ab))) J br J (RC.kn bc.knows br)) J ?_
  rintro aE c6 ct ⟨b2,b4⟩
  replace b4:OSl bc 100 1 c6 ((ob (.slice none 0 0)++[])) aE ([(⟨[]⟩:aP)]:List aP):=by simpa[gk] using b4
  replace h1:=h1.f0 b2
  replace k:=k.f0 b2
  replace G:=b2 _ _ MC G
  refine wlL [((ob (.slice none 0 0)++[])),ob aE,[a],ob v2,y,ob v3,P] (smg [] J (SP.eq (by simp[gk,bH]))) ?_
  obtain⟨cu,c7,h⟩:=bs h
  refine le' (cq bc.lasts bc.one qJ Ai J J J J J (js:=[5]) (Rr:=[((ob (.slice none 0 0)++[])),ob aE,[a],ob v2,y,P]) J k b4 (fun ap=>ap.q 5 J) (fun ap=>ap.q 0 J) c7) J ?_
  rintro v17 cv cw ⟨⟨b5,bu⟩,bz⟩
  replace h1:=h1.fr bu (b5.q 3 J) (b5.q 4 J)
  replace G:=bu _ _ ((b5.q 2 J) _ MC) G
  refine wlL [(P++((ob (.slice none 0 0)++[]))),ob v17,ob aE,[a],ob v2,y] (smg [6,1] J (SP.eq MC))<|lf pO J J J<|so1 1 Ea J bz.one ?_
  refine en ?_
  exact wo [3,3,3,1,0] [0,0] (K (_,_,_,_,_,_,_,_) ⟨h,h1,bz,G⟩)
 refine WT.skip ?_
 exact wo [0,0,0,0,0] [0,0] (K (_,_,_,_,_,_,_,_) ⟨h,h1,k,G⟩)
theorem tw (w0:av e d []) (p0:(List Int)) (x:RSl (RI .u8) 1 e o f p0) {r:bo × aI × ag} (h:iz N p0=some r) :
  Calls prog 30 [f].toArray w0.w (be d w0.w [] (fun S Fs v=>∃ (aa:Value) (af:List Nat) (ab:Value) (ah:List Nat) (ad:Value) (aj:List Nat) (ae:Value) (ak:List Nat) (X:List Nat),v = .tuple #[.agg [.string r.1.Name,aa].toArray,.agg [ab,ad].toArray,.agg [ae,iV r.2.2.Next].toArray]∧Fs=[ob aa,ob ab,ah,ob ad,aj,ob ae,X]∧OSl cr 87 5 S af aa r.1.Rules∧(∀ k∈af,k∈X)∧OSl bk 133 1 S ah ab r.2.1.Alphas∧OSl bc 100 1 S aj ad r.2.1.Rules∧OSl bj 66 3 S ak ae r.2.2.Items∧(∀ k∈ak,k∈X))):=by
 refine eN func30 J ntmps30 J w0 fun hF=>?_
 unfold iz at h
 refine sr<|lnz sY J fun T=>lnz lJ J fun U=>lnz sF J fun V=>arr 4 [] J<|kab h J J J (fun b z q=>vd N b p0 (x.y z) q) ?_
 rintro G h v1 az F1 ⟨aB,aC,W,v2,G1,rfl,rfl,h1,y,h2⟩
 refine arr 5 [] J<|kcb [0] h J J J J (fun b ap z q=>xR N b G (h1.x (Dj.sub (ap.o x.old) y)) h2 q) ?_
 rintro t h v3 aD F2 ⟨ar,au,v4,D,v5,D2,v6,D3,v7,D4,v8,D5,v9,D6,L,rfl,rfl,m,h4,i2,h5,H,I,c,i3,e1,h9⟩
 replace h1:=h1.fr au (Dj.sub (ar.o x.old) y)
 refine arr 5 [] J<|lnz sY J fun Y=>lnz tH J fun aE=>lnz lJ J fun Z=>lnz sF J fun a6=>soN 3 sD J ⟨J,m.one,trivial⟩ J ?_
 refine soN 2 wi J ⟨h4.one,h5.one,trivial⟩ J ?_
 refine soN 1 mj J ⟨H.one,I.one,trivial⟩ J ?_
 refine soN 0 xL J ⟨c.one,J,trivial⟩ J ?_
 refine arr 5 [] J<|kcb [10] h J J J J (fun b ap z q=>cj N b (⟨G.b,t.2.2.2.2.i,t.2.2.2.2.h⟩:a8) 3 (h1.x (Dj.sub (ap.o x.old) y)) h9 q) ?_
 rintro x4 h v10 aF F3 ⟨A,P,rfl,rfl,e2,al⟩
 replace h1:=h1.fr P (Dj.sub (A.o x.old) y)
 replace m:=m.fr P (A.q 0 J) (A.q 1 J)
 replace H:=H.fr P (A.q 5 J) (A.q 6 J)
 replace I:=I.fr P (A.q 7 J) (A.q 8 J)
 replace c:=c.fr P (A.q 9 J) (Dj.sub (A.q 10 J) i3)
 refine en ?_
 refine cut (σ:=Hp × (List bm) × Value × List Nat × (List aP) × Value × List Nat × Int × Int) (fun s=>[(2,pQ T),(3,pQ U),(4,pQ V),(5,pQ W),(6,pQ Y),(8,pQ Z),(9,pQ a6)]) (fun s=>St w0 s.1 [(a6,.cells #[v9,iV t.2.2.2.1.Next] 29 (0,0)),(Z,.cells #[s.2.2.1,s.2.2.2.2.2.1] 35 (0,0)),(Y,.cells #[.string t.1.Name,v4] 26 (0,0)),(V,.cells #[.slice none 0 0,iV 0] 29 (0,0)),(U,.cells #[.slice none 0 0,.slice none 0 0] 35 (0,0)),(T,.cells #[.string (⟨#[]⟩:ByteArray),.slice none 0 0] 26 (0,0))] [[W],ob v4,D,ob s.2.2.1,s.2.2.2.1,ob s.2.2.2.2.2.1,s.2.2.2.2.2.2.1,ob v9,L]) (fun s=>ez N G t s.2.1 s.2.2.2.2.1 s.2.2.2.2.2.2.2.1 s.2.2.2.2.2.2.2.2=some r∧(OSl dM 87 5 s.1 D v4 t.1.Rules)∧(OSl bk 133 1 s.1 s.2.2.2.1 s.2.2.1 s.2.1)∧(OSl bc 100 1 s.1 s.2.2.2.2.2.2.1 s.2.2.2.2.2.1 s.2.2.2.2.1)∧(OSl bj 66 3 s.1 D6 v9 t.2.2.2.1.Items)∧(s.1 W=some (.cells #[v2,iV s.2.2.2.2.2.2.2.1,iV s.2.2.2.2.2.2.2.2] 144 (0,0)))∧(RSl (RI .u8) 1 s.1 G1 v2 G.b)) (fun s hm=>?_) (fun K=>?_)
 ·clear h
  obtain⟨aG,s1,M,D7,s2,O,D8,s3,s4⟩:=s
  obtain⟨h,m,u,w,c,k3,h1⟩:=hm
  dsimp only at h m u w c k3 h1 ⊢
  unfold ez at h
  refine atr 4 [] J<|kcb [0] h J J J J (fun b ap z q=>cj N b (⟨G.b,s3,s4⟩:a8) 8 (h1.x (Dj.sub (ap.o x.old) y)) k3 q) ?_
  rintro x5 h v11 aH F4 ⟨B,Q,rfl,rfl,e3,aw⟩
  replace h1:=h1.fr Q (Dj.sub (B.o x.old) y)
  replace m:=m.fr Q (B.q 0 J) (B.q 1 J)
  replace u:=u.fr Q (B.q 2 J) (B.q 3 J)
  replace w:=w.fr Q (B.q 4 J) (B.q 5 J)
  replace c:=c.fr Q (B.q 6 J) (Dj.sub (B.q 7 J) i3)
  refine en<|wt0 ?_
  replace m:=m.gives dM.gives
  refine cut (σ:=Hp × List Nat × (List ai) × Value × List Nat × ByteArray) (fun s=>[(2,pQ T),(3,pQ U),(4,pQ V),(6,pQ Y),(8,pQ Z),(9,pQ a6)]) (fun s=>St w0 s.1 [(a6,.cells #[v9,iV t.2.2.2.1.Next] 29 (0,0)),(Z,.cells #[M,O] 35 (0,0)),(Y,.cells #[.string s.2.2.2.2.2,s.2.2.2.1] 26 (0,0)),(V,.cells #[.slice none 0 0,iV 0] 29 (0,0)),(U,.cells #[.slice none 0 0,.slice none 0 0] 35 (0,0)),(T,.cells #[.string (⟨#[]⟩:ByteArray),.slice none 0 0] 26 (0,0))] [s.2.1,ob s.2.2.2.1,D,ob M,D7,ob O,D8,ob v9,L]) (fun s=>fQ N t s1 s2 s.2.2.1 s.2.2.2.2.2=some r∧(OSl cr 87 5 s.1 s.2.2.2.2.1 s.2.2.2.1 s.2.2.1)∧(∀ k∈s.2.2.2.2.1,k∈(D++s.2.1))∧(OSl bk 133 1 s.1 D7 M s1)∧(OSl bc 100 1 s.1 D8 O s2)∧(OSl bj 66 3 s.1 D6 v9 t.2.2.2.1.Items)) (fun s hm=>?_) (fun K=>?_)
  ·clear h
   obtain⟨aJ,X2,s5,u3,D9,s6⟩:=s
   obtain⟨h,k4,i4,u,w,c⟩:=hm
   dsimp only at h k4 i4 u w c ⊢
   unfold fQ at h
   refine sq<|wm [0,1,2,3] [5] J<|amm 3 [0,66,1,34,2,2] [0,1,2,3] J J ?_
   refine on1 3 (msK 5 [0,1,2,3] J sD J ⟨J,k4.one,trivial⟩ J J ?_)
   refine on1 4 (msK 4 [0,1,2,3] J mj J ⟨u.one,w.one,trivial⟩ J J ?_)
   refine on1 5 (msN 3 J nk xL J ⟨c.one,J,trivial⟩ J J ?_)
   refine WM.nil MA ?_
   refine WT.ret hF (aA.three (aZ BE J (fun w1 hw=>hw.rgO (i:=5) J 0 2 [.string s6,u3] J) J) (aZ vr J (fun w1 hw=>hw.rgO (i:=4) J 0 2 [M,O] J) J) (aZ rm J (fun w1 hw=>hw.rgO (i:=3) J 0 2 [v9,iV t.2.2.2.1.Next] J) J)) (fun w1 hw=>?_)
   cases h
   replace hw:=hw.merge (js:=[2,0,6]) (F:=[D,X2,L].flatten) J (SP.eq MC)
   refine aW (js:=[1,1,1,1,1,1,0]) hw J ⟨u3,D9,M,D7,O,D8,v9,D6,[D,X2,L].flatten,J,J,k4,(fun k hk=>((gb.1 (i4 k hk)).elim (fun h=>(hR.2 ⟨D,MC,h⟩)) (fun h=>(hR.2 ⟨X2,MC,h⟩)))),u,w,c,(fun k hk=>(hR.2 ⟨L,MC,(i3 k hk)⟩))⟩
  refine ch h J ?_ ?_ <;> intro h
  ·refine atr 2 [] J<|kcb [1] h J J J J (fun b ap z q=>yU N b (⟨G.b,x5.2.i,x5.2.h⟩:a8) (h1.x (Dj.sub (ap.o x.old) y)) aw q) ?_
   rintro x6 h v12 aK F5 ⟨E,a7,ax,aL,X3,rfl,rfl,an,i5,e4,aM⟩
   replace m:=m.fr a7 (E.q 1 J) (E.q 2 J)
   replace u:=u.fr a7 (E.q 3 J) (E.q 4 J)
   replace w:=w.fr a7 (E.q 5 J) (E.q 6 J)
   replace c:=c.fr a7 (E.q 7 J) (Dj.sub (E.q 8 J) i3)
   refine soN 2 sD J ⟨J,an.one,trivial⟩ J ?_
   refine en<|wtL [([]++(X3)),ob ax,[W],ob v4,D,ob M,D7,ob O,D8,ob v9,L] (smg [3,2] J (SP.eq (by simp[gk]))) ?_
   exact wo [0,0,2,2,2,2,2,2,2] [0,0,0,0,0,0] (K (_,_,_,_,_,_) ⟨h,an,(fun k hk=>(gb.2 (.inr ((fun k hk=>(gb.2 (.inr hk))) k (i5 k hk))))),u,w,c⟩)
  refine WT.skip ?_
  exact wo [0,1,1,1,1,1,1,1,1] [0,0,0,0,0,0] (K (_,_,_,_,_,_) ⟨h,m,(fun k hk=>(gb.2 (.inl hk))),u,w,c⟩)
 refine ch h J ?_ ?_ <;> intro h
 ·refine atr 3 [34] J<|kcb [0] h J J J J (fun b ap z q=>xI N b (⟨G.b,x4.2.i,x4.2.h⟩:a8) t.2.2.1 (h1.x (Dj.sub (ap.o x.old) y)) al ((H.rslG bk.gives).x (Dj.app (ap.q 5 J) (ap.q 6 J))) ((I.rslG bc.gives).x (Dj.app (ap.q 7 J) (ap.q 8 J))) q) ?_
  rintro x8 h aN aO F6 ⟨C,R,aQ,aR,aS,aT,rfl,rfl,ao,aq,e5,ay⟩
  replace h1:=h1.fr R (Dj.sub (C.o x.old) y)
  replace m:=m.fr R (C.q 0 J) (C.q 1 J)
  replace H:=H.fr R (C.q 5 J) (C.q 6 J)
  replace I:=I.fr R (C.q 7 J) (C.q 8 J)
  replace c:=c.fr R (C.q 9 J) (Dj.sub (C.q 10 J) i3)
  refine soN 1 mj J ⟨ao.one,aq.one,trivial⟩ J ?_
  refine en ?_
  exact wo [4,4,4,0,0,0,0,7,7] [0,0,1,1,1,1] (K (_,_,_,_,_,_,_,_,_) ⟨h,m,ao,aq,c,ay,h1⟩)
 refine WT.skip ?_
 exact wo [0,0,0,3,3,3,3,3,3] [0,0,1,1,1,1] (K (_,_,_,_,_,_,_,_,_) ⟨h,m,H,I,c,al,h1⟩)
theorem o0  (w0:av e d []) (c:Int)  {r:Bool} (h:ja N c=some r) :
  CB w0 prog 106 [.int .u8 c] (.bool r):=by
 refine eN func106 J ntmps106 J w0 fun k=>?_
 unfold ja at h
 refine atr 7 [] J<|lq (tf EN ES J) J<|qc h (cI N · (wz c) 97 122 ·) J J J fun s h=>la J ?_
 obtain⟨m,b,h⟩:=bs h
 refine WL.cutN 4 [(10,.bool m),(0,.int .u8 c),(2,.bool false)] ?_ (fun K=>?_)
 rotate_left
 ·refine sp 6 b J (fun b=>?_) fun b=>?_
  ·refine arr 4 [] J ?_
   cases b
   exact ku K
  ·refine ly J J<|la J<|ly J J<|lq (tf EN ES J) J<|ly J J<|qc b (cI N · (wz c) 48 57 ·) J J J fun t b=>la J ?_
   cases b
   exact ku K
 refine la J ?_
 obtain⟨q,i,h⟩:=bs h
 refine WL.cutN 3 [(14,.bool q),(2,.bool false)] ?_ (fun K=>?_)
 rotate_left
 ·refine sp 11 i J (fun i=>?_) fun i=>?_
  ·refine arr 3 [] J ?_
   cases i
   exact ku K
  ·refine arr 3 [] J ?_
   cases i
   exact ku K
 refine la J<|en ?_
 exact rt k h
theorem gl  (w0:av e d []) (b:ByteArray)  {r:Bool} (h:eH N b=some r) :
  CB w0 prog 45 [.string b] (.bool r):=by
 refine eN func45 J ntmps45 J w0 fun k=>?_
 unfold eH at h
 refine att 10 [] J ?_
 refine lin (σ:=Int) (fun s=>[(0,.string b),(3,iV s)]) (fun s=>St w0 d [] []) (fun m s=>eO N b m s=some r) (0) N h (sx [] []) (fun q t s hm=>?_)
 revert hm;revert s;intro s1 hm
 have h:eO N b (q+1) s1=some r:=hm
 show WT _ _ [(0,.string b),(3,iV s1)] (St w0 d [] [])
 unfold eO at h
 refine atr 5 [] J<|lq (nW ky J J) J<|la J<|en ?_
 refine ch h J ?_ ?_ <;> intro h
 ·refine atr 7 [] J ?_
  obtain⟨u,v,h⟩:=bs h
  refine lq (kG ky J J v) J<|qc h (o0 N · (u.toNat:Int) ·) J J J fun A h=>arr 2 [] J ?_
  obtain⟨w,i,h⟩:=bs h
  refine WL.cutN 11 [(26,.bool w),(0,.string b),(3,iV s1)] ?_ (fun K=>?_)
  rotate_left
  ·refine sp 15 i J (fun i=>?_) fun i=>?_
   ·refine arr 11 [] J ?_
    cases i
    exact ku K
   ·refine arr 3 [] J ?_
    obtain⟨x,c,i⟩:=bs i
    refine WL.cutN 7 [(25,.bool x),(0,.string b),(3,iV s1),(15,.bool false)] ?_ (fun K=>?_)
    rotate_left
    ·refine sp 18 c J (fun c=>?_) fun c=>?_
     ·refine arr 2 [] J<|ly J J ?_
      obtain⟨y,z,c⟩:=bs c
      refine lq (kG ky J J z) J<|ly J J<|lq (tf EN ES J) J<|ly J J<|qc c (cI N · (wz (y.toNat:Int)) 97 122 ·) J J J fun B c=>arr 2 [] J ?_
      cases c
      exact ku K
     ·refine arr 7 [] J ?_
      cases c
      exact ku K
    refine la J ?_
    cases i
    exact ku K
  refine en ?_
  refine ch h J ?_ ?_ <;> intro h
  ·refine att 4 [] J ?_
   exact rt k h
  refine att 7 [] J ?_
  exact lb [] [] (t _ h)
 refine atr 4 [] J<|lq (nW ky J J) J<|qc h (cI N · (b.size:Int) 1 12 ·) J J J fun C h=>la J<|en ?_
 exact rt k h
theorem wX  (w0:av e d []) (b:ByteArray)  {r:Bool} (h:np N b=some r) :
  CB w0 prog 219 [.string b] (.bool r):=by
 refine eN func219 J ntmps219 J w0 fun c=>?_
 unfold np at h
 refine att 10 [] J ?_
 refine lin (σ:=Int) (fun s=>[(0,.string b),(3,iV s)]) (fun s=>St w0 d [] []) (fun m s=>fq N b m s=some r) (0) N h (sx [] []) (fun i k s hm=>?_)
 revert hm;revert s;intro s1 hm
 have h:fq N b (i+1) s1=some r:=hm
 show WT _ _ [(0,.string b),(3,iV s1)] (St w0 d [] [])
 unfold fq at h
 refine atr 5 [] J<|lq (nW ky J J) J<|la J<|en ?_
 refine ch h J ?_ ?_ <;> intro h
 ·refine atr 7 [] J ?_
  obtain⟨q,t,h⟩:=bs h
  refine lq (kG ky J J t) J<|qc h (o0 N · (q.toNat:Int) ·) J J J fun u h=>la J<|en ?_
  refine ch h J ?_ ?_ <;> intro h
  ·refine att 4 [] J ?_
   exact rt c h
  refine att 7 [] J ?_
  exact lb [] [] (k _ h)
 refine atr 4 [] J<|lq (nW ky J J) J<|art 3 [] J ?_
 exact rt c h
theorem vh  (w0:av e d []) (b:bi)  {r:Bool} (h:oC N b=some r) :
  CB w0 prog 177 [.agg [iV b.K,iV b.N,.string b.S].toArray] (.bool r):=by
 refine eN func177 J ntmps177 J w0 fun k=>?_
 unfold oC at h
 refine sr<|lbx J fun s=>art 14 [0,0] J ?_
 refine ch h J ?_ ?_ <;> intro h
 ·refine atr 4 [1,0] J<|qc h (cI N · b.N (-1000000000) 1000000000 ·) J J J fun t h=>la J ?_
  obtain⟨m,c,h⟩:=bs h
  refine WL.cutN 4 [(14,.bool m),(2,.bool false)] ?_ (fun K=>?_)
  rotate_left
  ·refine sp 10 c J (fun c=>?_) fun c=>?_
   ·refine arr 4 [2,0] J ?_
    cases c
    exact ku K
   ·refine arr 4 [] J ?_
    cases c
    exact ku K
  refine la J<|en ?_
  exact rt k h
 refine att 5 [] J ?_
 refine ch h J ?_ ?_ <;> intro h
 ·refine atr 4 [2,0] J<|qc h (wX N · b.S ·) J J J fun u h=>la J ?_
  obtain⟨q,i,h⟩:=bs h
  refine WL.cutN 4 [(24,.bool q),(2,.bool false)] ?_ (fun K=>?_)
  rotate_left
  ·refine sp 20 i J (fun i=>?_) fun i=>?_
   ·refine arr 4 [1,0] J ?_
    cases i
    exact ku K
   ·refine arr 4 [] J ?_
    cases i
    exact ku K
  refine la J<|en ?_
  exact rt k h
 refine att 6 [] J ?_
 exact rt k h
theorem yC  (w0:av e d []) (b:Int)  {r:Bool} (h:nN N b=some r) :
  CB w0 prog 257 [.int .u8 b] (.bool r):=by
 refine eN func257 J ntmps257 J w0 fun c=>?_
 unfold nN at h
 refine atr 7 [] J<|lq (tf EN ES J) J<|qc h (cI N · (wz b) 65 90 ·) J J J fun i h=>la J<|en ?_
 exact rt c h
theorem xU  (w0:av e d []) (b:ByteArray)  {r:Bool} (h:nw N b=some r) :
  CB w0 prog 240 [.string b] (.bool r):=by
 refine eN func240 J ntmps240 J w0 fun k=>?_
 unfold nw at h
 refine att 10 [] J ?_
 refine lin (σ:=Int) (fun s=>[(0,.string b),(3,iV s)]) (fun s=>St w0 d [] []) (fun m s=>du N b m s=some r) (0) N h (sx [] []) (fun q t s hm=>?_)
 revert hm;revert s;intro s1 hm
 have h:du N b (q+1) s1=some r:=hm
 show WT _ _ [(0,.string b),(3,iV s1)] (St w0 d [] [])
 unfold du at h
 refine atr 5 [] J<|lq (nW ky J J) J<|la J<|en ?_
 refine ch h J ?_ ?_ <;> intro h
 ·refine atr 7 [] J ?_
  obtain⟨u,v,h⟩:=bs h
  refine lq (kG ky J J v) J<|qc h (yC N · (u.toNat:Int) ·) J J J fun A h=>arr 2 [] J ?_
  obtain⟨w,i,h⟩:=bs h
  refine WL.cutN 10 [(25,.bool w),(0,.string b),(3,iV s1)] ?_ (fun K=>?_)
  rotate_left
  ·refine sp 15 i J (fun i=>?_) fun i=>?_
   ·refine arr 3 [] J ?_
    obtain⟨x,c,i⟩:=bs i
    refine WL.cutN 6 [(24,.bool x),(0,.string b),(3,iV s1),(15,.bool true)] ?_ (fun K=>?_)
    rotate_left
    ·refine sp 18 c J (fun c=>?_) fun c=>?_
     ·refine arr 6 [] J ?_
      cases c
      exact ku K
     ·refine arr 2 [] J<|ly J J ?_
      obtain⟨y,z,c⟩:=bs c
      refine lq (kG ky J J z) J<|ly J J<|qc c (o0 N · (y.toNat:Int) ·) J J J fun B c=>arr 2 [] J ?_
      cases c
      exact ku K
    refine la J ?_
    cases i
    exact ku K
   ·refine arr 10 [] J ?_
    cases i
    exact ku K
  refine en ?_
  refine ch h J ?_ ?_ <;> intro h
  ·refine att 4 [] J ?_
   exact rt k h
  refine att 7 [] J ?_
  exact lb [] [] (t _ h)
 refine atr 4 [] J<|lq (nW ky J J) J<|qc h (cI N · (b.size:Int) 1 12 ·) J J J fun C h=>la J<|en ?_
 exact rt k h
theorem ou  (w0:av e d []) (b:bn)  {r:Bool} (h:lg N b=some r) :
  CB w0 prog 217 [.agg [iV b.K,.string b.S,iV b.V.K,iV b.V.N,.string b.V.S].toArray] (.bool r):=by
 refine eN func217 J ntmps217 J w0 fun m=>?_
 unfold lg at h
 refine sr<|lbx J fun u=>arr 6 [2,3] J<|lq (aU (vs:=[]) (C:=#[iV 0,iV 0,.string (⟨#[]⟩:ByteArray)]) vc jF J (ab)) J<|lq (zj mT J J J (r:=bq b.V (⟨0,0,(⟨#[]⟩:ByteArray)⟩:bi)) J) J<|art 14 [0,0] J ?_
 refine ch h J ?_ ?_ <;> intro h
 ·refine atr 4 [1,0] J<|qc h (xU N · b.S ·) J J J fun v h=>la J ?_
  obtain⟨q,c,h⟩:=bs h
  refine WL.cutN 2 [(17,.bool q),(2,.bool false)] ?_ (fun K=>?_)
  rotate_left
  ·refine sp 15 c J (fun c=>?_) fun c=>?_
   ·refine arr 2 [] J ?_
    cases c
    exact ku K
   ·refine arr 2 [] J ?_
    cases c
    exact ku K
  refine la J<|en ?_
  exact rt m h
 refine att 5 [] J ?_
 refine ch h J ?_ ?_ <;> intro h
 ·refine atr 4 [2,3] J<|qc h (vh N · b.V ·) J J J fun w h=>la J ?_
  obtain⟨s,i,h⟩:=bs h
  refine WL.cutN 4 [(27,.bool s),(2,.bool false)] ?_ (fun K=>?_)
  rotate_left
  ·refine sp 23 i J (fun i=>?_) fun i=>?_
   ·refine arr 4 [1,0] J ?_
    cases i
    exact ku K
   ·refine arr 4 [] J ?_
    cases i
    exact ku K
  refine la J<|en ?_
  exact rt m h
 refine att 5 [] J ?_
 refine ch h J ?_ ?_ <;> intro h
 ·refine atr 6 [1,0] J ?_
  obtain⟨t,k,h⟩:=bs h
  refine WL.cutN 2 [(35,.bool t),(2,.bool false)] ?_ (fun K=>?_)
  rotate_left
  ·refine sp 33 k J (fun k=>?_) fun k=>?_
   ·refine arr 2 [] J ?_
    cases k
    exact ku K
   ·refine arr 2 [] J ?_
    cases k
    exact ku K
  refine la J<|en ?_
  exact rt m h
 refine att 6 [] J ?_
 exact rt m h
theorem Ak (w0:av e d []) (b:au) (i:RSl bV 5 e n g b.Args) {r:Bool} (h:qY N b=some r) :
  CB w0 prog 173 [.agg [.string b.Kind,g,.bool b.Not].toArray] (.bool r):=by
 refine eN func173 J ntmps173 J w0 fun q=>?_
 unfold qY at h
 refine sr<|lbx J fun k=>art 8 [] J ?_
 refine lin (σ:=Int) (fun s=>[(1,pQ k),(3,iV s)]) (fun s=>St w0 d [(k,.cells #[.string b.Kind,g,.bool b.Not] 201 (0,0))] []) (fun m s=>gR N b m s=some r) (0) N h (sx [] [0]) (fun u v s hm=>?_)
 revert hm;revert s;intro s1 hm
 have h:gR N b (u+1) s1=some r:=hm
 show WT _ _ [(1,pQ k),(3,iV s1)] (St w0 d [(k,.cells #[.string b.Kind,g,.bool b.Not] 201 (0,0))] [])
 unfold gR at h
 refine atr 6 [1,0] J<|lnr i J<|la J<|en ?_
 refine ch h J ?_ ?_ <;> intro h
 ·refine atr 8 [1,0] J ?_
  obtain⟨w,t,h⟩:=bs h
  obtain⟨z,A,-,g1,B,C,x⟩:=i.el (aa t).2.2
  obtain⟨rfl,-⟩:=x
  refine lia i t J<|lhx 0 5 g1 J<|qc h (ou N · w ·) J J J fun D h=>la J<|en ?_
  refine ch h J ?_ ?_ <;> intro h
  ·refine att 4 [] J ?_
   exact rt q h
  refine att 7 [] J ?_
  exact lb [] [0] (v _ h)
 refine atr 5 [0,0] J<|qc h (gl N · b.Kind ·) J J J fun E h=>la J ?_
 obtain⟨y,c,h⟩:=bs h
 refine WL.cutN 5 [(26,.bool y)] ?_ (fun K=>?_)
 rotate_left
 ·refine sp 21 c J (fun c=>?_) fun c=>?_
  ·refine arr 2 [1,0] J<|ly J J<|lnr i J<|arr 2 [] J ?_
   cases c
   exact ku K
  ·refine arr 5 [] J ?_
   cases c
   exact ku K
 refine la J<|en ?_
 exact rt q h
theorem zb (w0:av e d []) (v:(List au)) (b:RSl bN 3 e o f v) {r:Bool} (h:p9 N v=some r) :
  CB w0 prog 102 [f] (.bool r):=by
 refine eN func102 J ntmps102 J w0 fun w=>?_
 unfold p9 at h
 refine att 10 [] J ?_
 refine lin (σ:=Int) (fun s=>[(0,f),(3,iV s)]) (fun s=>St w0 d [] []) (fun m s=>eT N v m s=some r) (0) N h (sx [] []) (fun C D s hm=>?_)
 revert hm;revert s;intro s1 hm
 have h:eT N v (C+1) s1=some r:=hm
 show WT _ _ [(0,f),(3,iV s1)] (St w0 d [] [])
 unfold eT at h
 refine atr 5 [] J<|lnr b J<|la J<|en ?_
 refine ch h J ?_ ?_ <;> intro h
 ·refine atr 9 [] J ?_
  obtain⟨E,i,h⟩:=bs h
  refine WL.cutN 7 [(19,.bool E),(0,f),(3,iV s1)] ?_ (fun K=>?_)
  rotate_left
  ·refine sp 12 i J (fun i=>?_) fun i=>?_
   ·refine arr 2 [] J<|ly J J ?_
    obtain⟨Z,x,i⟩:=bs i
    obtain⟨a6,F1,-,g1,a7,a8,F⟩:=b.el (aa x).2.2
    obtain⟨v1,G1,rfl,G,h1⟩:=F
    obtain rfl:=G.symm
    refine lia b x J<|ly J J<|lf kl J J J<|ly J J<|lhx 2 0 g1 J<|arr 2 [] J ?_
    cases i
    exact ku K
   ·refine arr 7 [] J ?_
    cases i
    exact ku K
  refine en ?_
  refine ch h J ?_ ?_ <;> intro h
  ·refine att 4 [] J ?_
   exact rt w h
  refine atr 5 [] J ?_
  obtain⟨H,y,h⟩:=bs h
  obtain⟨ab,F2,-,g2,ad,ae,I⟩:=b.el (aa y).2.2
  obtain⟨v2,G2,rfl,L,M⟩:=I
  obtain rfl:=L.symm
  refine lia b y J<|lhx 0 3 g2 J<|qd h (Ak N · H M ·) J J J fun x3 h=>arr 2 [] J ?_
  obtain⟨O,k,h⟩:=bs h
  refine WL.cutN 10 [(36,.bool O),(0,f),(3,iV s1)] ?_ (fun K=>?_)
  rotate_left
  ·refine sp 26 k J (fun k=>?_) fun k=>?_
   ·refine arr 10 [] J ?_
    cases k
    exact ku K
   ·refine arr 3 [] J ?_
    obtain⟨P,q,k⟩:=bs k
    refine WL.cutN 6 [(35,.bool P),(0,f),(3,iV s1),(26,.bool false)] ?_ (fun K=>?_)
    rotate_left
    ·refine sp 29 q J (fun q=>?_) fun q=>?_
     ·refine arr 2 [] J<|ly J J ?_
      obtain⟨x4,z,q⟩:=bs q
      obtain⟨af,F3,-,g3,ag,ah,Q⟩:=b.el (aa z).2.2
      obtain⟨v3,G3,rfl,R,h3⟩:=Q
      obtain rfl:=R.symm
      refine lia b z J<|ly J J<|lf kl J J J<|ly J J<|lhx 2 0 g3 J<|ly J J<|la J ?_
      cases q
      exact ku K
     ·refine arr 6 [] J ?_
      cases q
      exact ku K
    refine la J ?_
    cases k
    exact ku K
  refine la J ?_
  obtain⟨S,c,h⟩:=bs h
  refine WL.cutN 19 [(56,.bool S),(0,f),(3,iV s1)] ?_ (fun K=>?_)
  rotate_left
  ·refine sp 37 c J (fun c=>?_) fun c=>?_
   ·refine arr 19 [] J ?_
    cases c
    exact ku K
   ·refine arr 3 [] J ?_
    obtain⟨T,t,c⟩:=bs c
    refine WL.cutN 7 [(47,.bool T),(0,f),(3,iV s1),(37,.bool false)] ?_ (fun K=>?_)
    rotate_left
    ·refine sp 40 t J (fun t=>?_) fun t=>?_
     ·refine arr 3 [] J<|ly J J ?_
      obtain⟨x5,A,t⟩:=bs t
      obtain⟨ai,F4,-,g4,aj,ak,U⟩:=b.el (aa A).2.2
      obtain⟨v4,G4,rfl,V,h4⟩:=U
      obtain rfl:=V.symm
      refine lia b A J<|ly J J<|lf kl J J J<|ly J J<|lhx 2 0 g4 J<|ly J J<|la J ?_
      cases t
      exact ku K
     ·refine arr 7 [] J ?_
      cases t
      exact ku K
    refine ly J J<|la J ?_
    obtain⟨W,u,c⟩:=bs c
    refine WL.cutN 7 [(55,.bool W),(0,f),(3,iV s1),(37,.bool false)] ?_ (fun K=>?_)
    rotate_left
    ·refine sp 48 u J (fun u=>?_) fun u=>?_
     ·refine arr 2 [] J<|ly J J ?_
      obtain⟨x6,B,u⟩:=bs u
      obtain⟨al,F5,-,g5,an,ao,X⟩:=b.el (aa B).2.2
      obtain⟨v5,G5,rfl,Y,h5⟩:=X
      obtain rfl:=Y.symm
      refine lia b B J<|ly J J<|lf kl J J J<|ly J J<|lhx 2 0 g5 J<|arr 2 [] J ?_
      cases u
      exact ku K
     ·refine arr 7 [] J ?_
      cases u
      exact ku K
    refine la J ?_
    cases c
    exact ku K
  refine en ?_
  refine ch h J ?_ ?_ <;> intro h
  ·refine att 4 [] J ?_
   exact rt w h
  refine att 7 [] J ?_
  exact lb [] [] (D _ h)
 refine atr 4 [] J<|lnr b J<|qc h (cI N · (v.length:Int) 1 6 ·) J J J fun x7 h=>la J<|en ?_
 exact rt w h
theorem z6  (w0:av e d []) (b:ce)  {r:Bool} (h:pm N b=some r) :
  CB w0 prog 174 [.agg [iV b.Op,iV b.L.K,.string b.L.S,iV b.L.V.K,iV b.L.V.N,.string b.L.V.S,iV b.R.K,.string b.R.S,iV b.R.V.K,iV b.R.V.N,.string b.R.V.S].toArray] (.bool r):=by
 refine eN func174 J ntmps174 J w0 fun s=>?_
 unfold pm at h
 refine sr<|lbx J fun q=>arr 6 [0,0] J<|qc h (cI N · b.Op 1 3 ·) J J J fun x h=>la J ?_
 obtain⟨t,c,h⟩:=bs h
 refine WL.cutN 4 [(10,.bool t),(1,pQ q),(2,.bool false)] ?_ (fun K=>?_)
 rotate_left
 ·refine sp 6 c J (fun c=>?_) fun c=>?_
  ·refine arr 2 [1,5] J<|ly J J<|qc c (ou N · b.L ·) J J J fun y c=>la J ?_
   cases c
   exact ku K
  ·refine arr 4 [] J ?_
   cases c
   exact ku K
 refine la J ?_
 obtain⟨u,i,h⟩:=bs h
 refine WL.cutN 4 [(15,.bool u),(1,pQ q),(2,.bool false)] ?_ (fun K=>?_)
 rotate_left
 ·refine sp 11 i J (fun i=>?_) fun i=>?_
  ·refine arr 2 [6,5] J<|ly J J<|qc i (ou N · b.R ·) J J J fun z i=>la J ?_
   cases i
   exact ku K
  ·refine arr 4 [] J ?_
   cases i
   exact ku K
 refine la J ?_
 obtain⟨v,k,h⟩:=bs h
 refine WL.cutN 5 [(21,.bool v),(1,pQ q),(2,.bool false)] ?_ (fun K=>?_)
 rotate_left
 ·refine sp 16 k J (fun k=>?_) fun k=>?_
  ·refine arr 5 [1,0,0] J ?_
   cases k
   exact ku K
  ·refine arr 5 [] J ?_
   cases k
   exact ku K
 refine la J ?_
 obtain⟨w,m,h⟩:=bs h
 refine WL.cutN 5 [(27,.bool w),(2,.bool false)] ?_ (fun K=>?_)
 rotate_left
 ·refine sp 22 m J (fun m=>?_) fun m=>?_
  ·refine arr 5 [6,0,0] J ?_
   cases m
   exact ku K
  ·refine arr 5 [] J ?_
   cases m
   exact ku K
 refine la J<|en ?_
 exact rt s h
theorem yu (w0:av e d []) (q:(List ce)) (k:(List ByteArray)) (i:RSl bl 11 e o f q) (t:RSl RS 1 e pG1 l k) {r:Bool} (h:ni N q k=some r) :
  CB w0 prog 103 [f,l] (.bool r):=by
 refine eN func103 J ntmps103 J w0 fun u=>?_
 unfold ni at h
 refine att 10 [] J ?_
 refine lin (σ:=Int) (fun s=>[(0,f),(1,l),(5,iV s)]) (fun s=>St w0 d [] []) (fun m s=>fv N q k m s=some r) (0) N h (sx [] []) (fun y z s hm=>?_)
 revert hm;revert s;intro s1 hm
 have h:fv N q k (y+1) s1=some r:=hm
 show WT _ _ [(0,f),(1,l),(5,iV s1)] (St w0 d [] [])
 unfold fv at h
 refine atr 5 [] J<|lnr i J<|la J<|en ?_
 refine ch h J ?_ ?_ <;> intro h
 ·refine atr 7 [] J ?_
  obtain⟨A,v,h⟩:=bs h
  obtain⟨I,L,-,g1,M,O,B⟩:=i.el (aa v).2.2
  obtain⟨rfl,-⟩:=B
  refine lia i v J<|lhx 0 11 g1 J<|qc h (z6 N · A ·) J J J fun P h=>arr 2 [] J ?_
  obtain⟨C,b,h⟩:=bs h
  refine WL.cutN 9 [(27,.bool C),(0,f),(1,l),(5,iV s1)] ?_ (fun K=>?_)
  rotate_left
  ·refine sp 18 b J (fun b=>?_) fun b=>?_
   ·refine arr 9 [] J ?_
    cases b
    exact ku K
   ·refine arr 2 [] J<|ly J J ?_
    obtain⟨D,w,b⟩:=bs b
    obtain⟨Q,R,-,g2,S,T,E⟩:=i.el (aa w).2.2
    obtain⟨rfl,-⟩:=E
    refine lia i w J<|ly J J<|lf vG J J J<|ly J J<|lhx 1 5 g2 J<|ly J J<|la J<|ly J J<|qd b (jW N · D.L k t ·) J J J fun U b=>arr 2 [] J ?_
    cases b
    exact ku K
  refine la J ?_
  obtain⟨F,c,h⟩:=bs h
  refine WL.cutN 9 [(37,.bool F),(0,f),(1,l),(5,iV s1)] ?_ (fun K=>?_)
  rotate_left
  ·refine sp 28 c J (fun c=>?_) fun c=>?_
   ·refine arr 9 [] J ?_
    cases c
    exact ku K
   ·refine arr 2 [] J<|ly J J ?_
    obtain⟨G,x,c⟩:=bs c
    obtain⟨V,W,-,g3,X,Y,H⟩:=i.el (aa x).2.2
    obtain⟨rfl,-⟩:=H
    refine lia i x J<|ly J J<|lf w4 J J J<|ly J J<|lhx 6 5 g3 J<|ly J J<|la J<|ly J J<|qd c (jW N · G.R k t ·) J J J fun Z c=>arr 2 [] J ?_
    cases c
    exact ku K
  refine en ?_
  refine ch h J ?_ ?_ <;> intro h
  ·refine att 4 [] J ?_
   exact rt u h
  refine att 7 [] J ?_
  exact lb [] [] (z _ h)
 refine atr 4 [] J<|lnr i J<|art 3 [] J ?_
 exact rt u h
theorem pH  (w0:av e d []) (b:bn)  {r:Bool} (h:jN N b=some r) :
  CB w0 prog 258 [.agg [iV b.K,.string b.S,iV b.V.K,iV b.V.N,.string b.V.S].toArray] (.bool r):=by
 refine eN func258 J ntmps258 J w0 fun i=>?_
 unfold jN at h
 refine sr<|lbx J fun m=>arr 5 [5] J<|qc h (ou N · b ·) J J J fun q h=>la J ?_
 obtain⟨k,c,h⟩:=bs h
 refine WL.cutN 4 [(9,.bool k),(2,.bool false)] ?_ (fun K=>?_)
 rotate_left
 ·refine sp 5 c J (fun c=>?_) fun c=>?_
  ·refine arr 4 [0,0] J ?_
   cases c
   exact ku K
  ·refine arr 4 [] J ?_
   cases c
   exact ku K
 refine la J<|en ?_
 exact rt i h
end Go.Proofs.YtedmfnmbjglmbaaGreat
