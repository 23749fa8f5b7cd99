/- Printed by a program of ours: each Go function computes its Lean function. -/
import Derived.Test.YtedmfnmbjglmbaaGreatProg
import Derived.Test.YtedmfnmbjglmbaaGreatWCameWalk7
namespace Go.Proofs.YtedmfnmbjglmbaaGreat
open Eng Tryz
open Go.RowKit (Below)
set_option linter.unusedVariables false
set_option linter.unusedSimpArgs false

set_option maxRecDepth 100000
set_option maxHeartbeats 1000000
variable {e g:Hp} {f o t a j a1 b0 l p bY c9 c0:Value} {ai aE bX a6 aj bj b9 b8 pG3_0 b7 ad c3 pG1_1 pG1_2 pG3 pG2_1:List Nat} {n:Nat} (N:Nat)
theorem zD (w0:aD e g []) (z:ce) (al:RSl cK 4 e ai f z.Alphas) (H:RSl eA 2 e aE o z.Chains) {r:aN} (h:pJ N z=some r) :
  Calls prog 123 [.agg [f,o].toArray].toArray w0.w (bc g w0.w [] (fun Q Fs v=>∃ (I:Value) (R:List Nat) (K:Value) (S:List Nat),v = .agg [I,K].toArray∧Fs=[ob I,R,ob K,S]∧OSl bA 133 1 Q R I r.Alphas∧OSl br 100 1 Q S K r.Rules)):=by
 refine eN func123 J ntmps123 J w0 fun hF=>?_
 unfold pJ at h
 refine sr<|lbx J fun A=>lnz o8 J fun B=>en<|sr<|lq (bu (vs:=[]) (C:=#[.slice none 0 0,.slice none 0 0]) Ka o8 J (ae)) J<|lnz o8 J fun D=>soN 0 pZ J ⟨J,J,trivial⟩ J ?_
 refine art 7 [] J<|wtS<|wt0 ?_
 have k1:=OSl.nil bA 133 1 g
 refine lin (σ:=Hp × (List bF) × Value × List Nat × Int) (fun s=>[(1,pQ A),(2,pQ B),(3,pQ D),(4,iV s.2.2.2.2)]) (fun s=>St w0 s.1 [(D,.cells #[s.2.2.1,.slice none 0 0] 35 (0,0)),(B,.cells #[.slice none 0 0,.slice none 0 0] 35 (0,0)),(A,.cells #[f,o] 47 (0,0))] [s.2.2.2.1,ob s.2.2.1]) (fun m s=>jD N z m s.2.1 s.2.2.2.2=some r∧(OSl bA 133 1 s.1 s.2.2.2.1 s.2.2.1 s.2.1)) (g,([]:List bF),(.slice none 0 0),[],0) N ⟨h,k1⟩ (sx [0,0] [0,0,0]) (fun n1 an s hm=>?_)
 obtain⟨L,s1,d,k,s2⟩:=s
 obtain⟨h,b⟩:=hm
 dsimp only at h b ⊢
 unfold jD at h
 refine atr 6 [0,64] J<|lnr al J<|la J<|en ?_
 refine ch h J ?_ ?_ <;> intro h
 ·refine atr 6 [0,0] J<|lq (bu (vs:=[]) (C:=#[.slice none 0 0]) GI ta J (ae)) J ?_
  have T:RC bA 1 L ([(ob (.slice none 0 0)++[])]:List (List Nat)) [.slice none 0 0] ([(⟨[]⟩:bF)]:List bF):=RC.cons (c:=[.slice none 0 0]) (cells:=[]) ⟨.slice none 0 0,J,J,OSl.nil _ _ _ _⟩ J (RC.nil _ _ _)
  refine le' (bz (vs:=[(0,.agg [.slice none 0 0].toArray)]) (C:=#[.slice none 0 0]) bA.lasts sQ ta J J J J (ar Bk (aa (C':=[.slice none 0 0]) J J J J J (ae))) J T J (RC.kn bA.knows T)) J ?_
  rintro v1 ao D2 ⟨au,h1⟩
  replace h1:OSl bA 133 1 ao ((ob (.slice none 0 0)++[])) v1 ([(⟨[]⟩:bF)]:List bF):=by simpa[gf] using h1
  replace b:=b.f0 au
  refine wlL [((ob (.slice none 0 0)++[])),ob v1,k,ob d] (smg [] J (SP.eq (by simp[gf,cO]))) ?_
  obtain⟨x1,av,h⟩:=bs h
  refine le' (dS bA.lasts bA.one sQ GF J J J J J (js:=[3]) (Rr:=[((ob (.slice none 0 0)++[])),ob v1,k]) J b h1 (fun ap=>ap.q 2 J) (fun ap=>ap.q 0 J) av) J ?_
  rintro v2 aH D3 ⟨⟨aI,aJ⟩,U⟩
  refine wlL [(k++((ob (.slice none 0 0)++[]))),ob v2,ob v1] (smg [3,1] J (SP.eq NS))<|lf kj J J J<|so1 0 JT J U.one ?_
  refine art 7 [] J ?_
  exact lb [0,0] [0,0,0] (an (_,_,_,_,_) ⟨h,U⟩)
 refine att 7 [] J<|wtS<|wt0 ?_
 have k3:=OSl.nil br 100 1 L
 refine lin (σ:=Hp × (List aP) × Value × List Nat × Int) (fun s=>[(1,pQ A),(2,pQ B),(3,pQ D),(5,iV s.2.2.2.2)]) (fun s=>St w0 s.1 [(D,.cells #[d,s.2.2.1] 35 (0,0)),(B,.cells #[.slice none 0 0,.slice none 0 0] 35 (0,0)),(A,.cells #[f,o] 47 (0,0))] [s.2.2.2.1,ob s.2.2.1,k,ob d]) (fun m s=>fG N z s1 m s.2.1 s.2.2.2.2=some r∧(OSl bA 133 1 s.1 k d s1)∧(OSl br 100 1 s.1 s.2.2.2.1 s.2.2.1 s.2.1)) (L,([]:List aP),(.slice none 0 0),[],0) N ⟨h,b,k3⟩ (sx [0,0,0,0] [0,0,0]) (fun n2 ax s hm=>?_)
 obtain⟨V,W,w,x,X⟩:=s
 obtain⟨h,b,q⟩:=hm
 dsimp only at h b q ⊢
 unfold fG at h
 refine atr 6 [1,64] J<|lnr H J<|la J<|en ?_
 refine ch h J ?_ ?_ <;> intro h
 ·refine atr 5 [] J<|lq (bu (vs:=[]) (C:=#[.slice none 0 0]) H2 od J (ae)) J ?_
  refine ln (ip (C:=#[.slice none 0 0]) od J) J (fun Y=>?_)
  refine soN 0 wx J ⟨J,trivial⟩ J ?_
  refine art 7 [] J<|wtS<|wt0 ?_
  have k5:=OSl.nil aV 103 1 V
  refine lin (σ:=Hp × (List aq) × Value × List Nat × Int) (fun s=>[(1,pQ A),(2,pQ B),(3,pQ D),(5,iV X),(6,pQ Y),(7,iV s.2.2.2.2)]) (fun s=>St w0 s.1 [(Y,.cells #[s.2.2.1] 100 (0,0)),(D,.cells #[d,w] 35 (0,0)),(B,.cells #[.slice none 0 0,.slice none 0 0] 35 (0,0)),(A,.cells #[f,o] 47 (0,0))] [s.2.2.2.1,ob s.2.2.1,x,ob w,k,ob d]) (fun m s=>jM N z W X (fG N z s1 n2) m s.2.1 s.2.2.2.2=some r∧(OSl bA 133 1 s.1 k d s1)∧(OSl br 100 1 s.1 x w W)∧(OSl aV 103 1 s.1 s.2.2.2.1 s.2.2.1 s.2.1)) (V,([]:List aq),(.slice none 0 0),[],0) N ⟨h,b,q,k5⟩ (sx [0,0,0,0,0,0] [0,0,0,0]) (fun n3 ay s hm=>?_)
  obtain⟨Z,s5,u,y,s6⟩:=s
  obtain⟨h,b,q,E⟩:=hm
  dsimp only at h b q E ⊢
  unfold jM at h
  refine atr 7 [1,96] J ?_
  obtain⟨x2,a7,h⟩:=bs h
  obtain⟨aK,F1,-,g1,aL,aM,r1⟩:=H.el (a8 a7).2.2
  obtain⟨v3,G1,v4,G2,rfl,rfl,h3,h4⟩:=r1
  refine lia H a7 J<|lf vN J J J<|lhx 0 0 g1 J<|lnr h3 J<|la J<|en ?_
  refine ch h J ?_ ?_ <;> intro h
  ·refine atr 6 [0,0] J<|lq (bu (vs:=[]) (C:=#[.slice none 0 0]) L3 rG J (ae)) J ?_
   have ab:RC aV 1 Z ([(ob (.slice none 0 0)++[])]:List (List Nat)) [.slice none 0 0] ([(⟨[]⟩:aq)]:List aq):=RC.cons (c:=[.slice none 0 0]) (cells:=[]) ⟨.slice none 0 0,[],J,J,OSl.nil _ _ _ _⟩ J (RC.nil _ _ _)
   refine le' (bz (vs:=[(0,.agg [.slice none 0 0].toArray)]) (C:=#[.slice none 0 0]) aV.lasts sP rG J J J J (ar C6 (aa (C':=[.slice none 0 0]) J J J J J (ae))) J ab J (RC.kn aV.knows ab)) J ?_
   rintro v5 aA D6 ⟨M,O⟩
   replace O:OSl aV 103 1 aA ((ob (.slice none 0 0)++[])) v5 ([(⟨[]⟩:aq)]:List aq):=by simpa[gf] using O
   replace b:=b.f0 M
   replace q:=q.f0 M
   replace E:=E.f0 M
   refine wlL [((ob (.slice none 0 0)++[])),ob v5,y,ob u,x,ob w,k,ob d] (smg [] J (SP.eq (by simp[gf,cO]))) ?_
   obtain⟨x3,aB,h⟩:=bs h
   refine le' (dS aV.lasts aV.one sP Ib J J J J J (js:=[3]) (Rr:=[((ob (.slice none 0 0)++[])),ob v5,y,x,ob w,k,ob d]) J E O (fun ap=>ap.q 2 J) (fun ap=>ap.q 0 J) aB) J ?_
   rintro v6 aO D7 ⟨⟨F,af⟩,h6⟩
   replace b:=b.fr af (F.q 6 J) (F.q 5 J)
   replace q:=q.fr af (F.q 4 J) (F.q 3 J)
   refine wlL [(y++((ob (.slice none 0 0)++[]))),ob v6,ob v5,x,ob w,k,ob d] (smg [3,1] J (SP.eq NS))<|lf lQ J J J<|so1 0 Kh J h6.one ?_
   refine art 7 [] J ?_
   exact lb [0,0,1,1,1,1] [0,0,0,0] (ay (_,_,_,_,_) ⟨h,b,q,h6⟩)
  refine atr 4 [1,32] J<|lq (aw AS J (fun w1 hw=>hw.rgO (i:=0) J 0 1 [u] J) J) J ?_
  have ag:RC br 1 Z ([(ob u++y)]:List (List Nat)) [u] ([(⟨s5⟩:aP)]:List aP):=RC.cons (c:=[u]) (cells:=[]) ⟨u,y,J,J,E⟩ J (RC.nil _ _ _)
  refine le' (bz (vs:=[(0,.agg [u].toArray)]) (C:=#[u]) br.lasts Ac od J J J J (ar y8 (aa (C':=[u]) J J J J J (ae))) J ag J (RC.kn br.knows ag)) J ?_
  rintro G aC D8 ⟨ah,P⟩
  replace P:OSl br 100 1 aC ((ob u++y)) G ([(⟨s5⟩:aP)]:List aP):=by simpa[gf] using P
  replace b:=b.f0 ah
  replace q:=q.f0 ah
  refine wlL [((ob u++y)),ob G,x,ob w,k,ob d] (smg [2,1] J (SP.eq (by simp[gf,cO]))) ?_
  obtain⟨x4,aF,h⟩:=bs h
  refine le' (dS br.lasts br.one Ac CR J J J J J (js:=[3]) (Rr:=[((ob u++y)),ob G,x,k,ob d]) J q P (fun ap=>ap.q 2 J) (fun ap=>ap.q 0 J) aF) J ?_
  rintro v8 aQ D9 ⟨⟨ak,aG⟩,h8⟩
  replace b:=b.fr aG (ak.q 4 J) (ak.q 3 J)
  refine wlL [(x++((ob u++y))),ob v8,ob G,k,ob d] (smg [3,1] J (SP.eq NS))<|lf uT J J J<|so1 1 Gz J h8.one ?_
  refine art 7 [] J ?_
  exact lb [0,0,1,1] [1,1,1] (ax (_,_,_,_,_) ⟨h,b,h8⟩)
 refine atr 4 [2] J<|soN 1 pZ J ⟨b.one,q.one,trivial⟩ J ?_
 refine en ?_
 exact rtg [3,2,1,0] hF (az.one (aX wK J (fun w1 hw=>hw.rgO (i:=1) J 0 2 [d,w] J) J)) J (by cases h;exact fun w1 hw=>⟨d,k,w,x,rfl,rfl,b,q⟩)
theorem nI (w0:aD e g []) (c:ac) (d:Int) (k:RSl aY 3 e ai f c.Items) {r:aI × Bool} (h:lM N c d=some r) :
  Calls prog 191 [.agg [f,iV c.Next].toArray,iV d].toArray w0.w (bc g w0.w [] (fun F Fs v=>∃ (x:Value),v = .tuple #[.agg [.string r.1.Kind,x].toArray,.bool r.2]∧Fs=[ob x]∧OSl aU 95 3 F [] x r.1.Fields)):=by
 refine eN func191 J ntmps191 J w0 fun A=>?_
 unfold lM at h
 refine sr<|lbx J fun u=>lnz lz J fun w=>art 8 [] J ?_
 refine lin (σ:=Int) (fun s=>[(1,iV d),(2,pQ u),(4,pQ w),(6,iV s)]) (fun s=>St w0 g [(w,.cells #[.string (⟨#[]⟩:ByteArray),.slice none 0 0] 52 (0,0)),(u,.cells #[f,iV c.Next] 29 (0,0))] []) (fun m s=>gP N c d m s=some r) (0) N h (sx [] [0,0]) (fun G H s hm=>?_)
 revert hm;revert s;intro s1 hm
 have h:gP N c d (G+1) s1=some r:=hm
 show WT _ _ [(1,iV d),(2,pQ u),(4,pQ w),(6,iV s1)] (St w0 g [(w,.cells #[.string (⟨#[]⟩:ByteArray),.slice none 0 0] 52 (0,0)),(u,.cells #[f,iV c.Next] 29 (0,0))] [])
 unfold gP at h
 refine atr 6 [0,32] J<|lnr k J<|la J<|en ?_
 refine ch h J ?_ ?_ <;> intro h
 ·refine atr 8 [0,32] J ?_
  obtain⟨R,B,h⟩:=bs h
  obtain⟨S,T,-,g1,U,V,I⟩:=k.el (a8 B).2.2
  obtain⟨v1,W,rfl,K,h1⟩:=I
  obtain rfl:=K.symm
  refine lia k B J<|lf uW J J J<|lhx 0 0 g1 J<|art 3 [] J ?_
  refine ch h J ?_ ?_ <;> intro h
  ·refine atr 5 [0,32] J ?_
   obtain⟨L,D,h⟩:=bs h
   obtain⟨X,Y,-,g2,Z,a7,M⟩:=k.el (a8 D).2.2
   obtain⟨v2,G2,rfl,O,P⟩:=M
   obtain rfl:=O.symm
   refine lia k D J<|lf yr J J J<|lhx 1 2 g2 J<|kab h J J J (fun b z q=>u6 N b L.F (P.y z) q) ?_
   rintro Q h v3 aa F3 ⟨ab,af,v4,rfl,rfl,E⟩
   refine soN 0 mC J ⟨J,E.one,trivial⟩ J ?_
   refine la J<|en ?_
   exact rtg [0] A (az.two (aX mf J (fun y hw=>hw.rgO (i:=0) J 0 2 [.string Q.Kind,v4] J) J) J) J (by cases h;exact fun y hw=>⟨v4,rfl,rfl,E⟩)
  refine att 7 [] J ?_
  exact lb [] [0,0] (H _ h)
 refine xt J<|sr<|lq (bu (vs:=[]) (C:=#[.string (⟨#[]⟩:ByteArray),.slice none 0 0]) EW lz J (ae)) J<|soN 0 mC J ⟨J,J,trivial⟩ J ?_
 refine la J<|en ?_
 refine WT.ret A (az.two (aX mf J (fun y hw=>hw.rgO (i:=0) J 0 2 [.string (⟨#[]⟩:ByteArray),.slice none 0 0] J) J) J) (fun y hw=>?_)
 cases h
 replace hw:=hw.addNil
 refine aH (js:=[0]) hw J ⟨.slice none 0 0,J,J,OSl.nil _ _ _ _⟩
theorem ze (w0:aD e g []) (c:(List Int)) (b:Int) (d:RSl (RI .i64) 1 e bX t c) {r:Bool} (h:oQ N c b=some r) :
  CB w0 prog 227 [t,iV b] (.bool r):=by
 refine eN func227 J ntmps227 J w0 fun i=>?_
 unfold oQ at h
 refine att 10 [] J ?_
 refine lin (σ:=Int) (fun s=>[(0,t),(1,iV b),(5,iV s)]) (fun s=>St w0 g [] []) (fun m s=>gK N c b m s=some r) (0) N h (sx [] []) (fun q u s hm=>?_)
 revert hm;revert s;intro s1 hm
 have h:gK N c b (q+1) s1=some r:=hm
 show WT _ _ [(0,t),(1,iV b),(5,iV s1)] (St w0 g [] [])
 unfold gK at h
 refine atr 5 [] J<|lnr d J<|la J<|en ?_
 refine ch h J ?_ ?_ <;> intro h
 ·refine atr 7 [] J ?_
  obtain⟨w,k,h⟩:=bs h
  obtain⟨x,y,-,g1,z,A,v⟩:=d.el (a8 k).2.2
  obtain⟨rfl,-⟩:=v
  refine lia d k J<|lhx 0 0 g1 J<|art 3 [] J ?_
  refine ch h J ?_ ?_ <;> intro h
  ·refine att 4 [] J ?_
   exact rt i h
  refine att 7 [] J ?_
  exact lb [] [] (u _ h)
 refine att 5 [] J ?_
 exact rt i h
theorem vh (w0:aD e g [ob t,a6].flatten) (q:(List ao)) (i:Int) (B:OSl aT 105 2 g a6 t q) {r:(List ao)} (h:kv N q i=some r) :
  Calls prog 192 [t,iV i].toArray w0.w (bc g w0.w [ob t,a6].flatten (fun P Fs v=>∃ (x:Value) (D:List Nat),v=x∧Fs=[ob x,D]∧OSl aT 105 2 P D x r)):=by
 refine eL func192 J ntmps192 J (L:=[ob t,a6]) w0 (fun Q=>?_)
 unfold kv at h
 obtain⟨_,hlen,h⟩:=bs h
 have t0:=B.tail (HA hlen)
 refine atr 6 [] J ?_
 have R:RC aT 2 g ([]:List (List Nat)) [] ([]:List ao):=RC.nil _ _ _
 refine le' (bz (vs:=[]) (C:=#[]) aT.lasts eh ib J J J J (ar sN (ae)) J R J (by simpa using Kw.nil)) J ?_
 rintro v1 E D1 ⟨S,h1⟩
 replace h1:OSl aT 105 2 E [] v1 ([]:List ao):=by simpa[gf] using h1
 replace t0:=t0.f0 S
 refine art 8 [] J ?_
 refine lin (σ:=Hp × (List ao) × Value × List Nat × Int × List Nat) (fun s=>[(0,t),(1,iV i),(5,s.2.2.1),(6,iV s.2.2.2.2.1)]) (fun s=>St w0 s.1 [] [ob s.2.2.1,a6,ob t]) (fun m s=>dV N q i m s.2.1 s.2.2.2.2.1=some r∧(OSl aT 105 2 s.1 s.2.2.2.1 s.2.2.1 s.2.1)∧(SP (s.2.2.2.1++s.2.2.2.2.2) a6)∧(TSl aT 2 s.1 s.2.2.2.2.2 t q s.2.2.2.2.1)) (E,([]:List ao),v1,[],0,a6) N ⟨h,h1,SP.refl _,t0⟩ (sx [0,1,0] []) (fun n1 G s hm=>?_)
 obtain⟨T,s1,U,H,s2,Dt⟩:=s
 obtain⟨h,d,b,t1⟩:=hm
 dsimp only at h d b t1 ⊢
 unfold dV at h
 refine atr 5 [] J<|lno B J<|la J<|en ?_
 refine ch h J ?_ ?_ <;> intro h
 ·refine atr 7 [] J ?_
  obtain⟨u,y,h⟩:=bs h
  obtain⟨a8,F1,D9,-,g1,ab,V,w,t9⟩:=t1.step aT.knows y
  obtain⟨v2,v3,rfl,rfl,I,W⟩:=V
  refine lq (vF eh J J t1 y) J<|lf tm J J J<|lgx 0 0 g1 J<|la J<|qc h (ze N · u.Ids i I.rsl ·) J J J fun x2 h=>la J<|en ?_
  refine ch h J ?_ ?_ <;> intro h
  ·refine atr 4 [] J ?_
   obtain⟨X,z,h⟩:=bs h
   obtain rfl:u=X:=by rw[y] at z;exact Option.some.inj z
   refine lq (vF eh J J t1 z) J<|lgx 0 2 g1 J ?_
   have K:RC aT 2 T ([(ob v2++[])++((ob v3++[]))]:List (List Nat)) [v2,v3] ([u]:List ao):=RC.cons (c:=[v2,v3]) (cells:=[]) ⟨v2,v3,J,J,I,W⟩ J (RC.nil _ _ _)
   refine le' (bz (vs:=[(0,.agg [v2,v3].toArray)]) (C:=#[v2,v3]) aT.lasts eh ib J J J J (ar ve (aa (C':=[v2,v3]) J J J J J (ae))) J K J (RC.kn aT.knows K)) J ?_
   rintro v6 Y D3 ⟨M,A⟩
   replace A:OSl aT 105 2 Y ((ob v2++[])++((ob v3++[]))) v6 ([u]:List ao):=by simpa[gf] using A
   replace d:=d.f0 M
   replace t9:=t9.f0 M
   obtain⟨x4,Z,h⟩:=bs h
   refine le' (dS aT.lasts aT.one eh qw J J J J J (js:=[1]) (Rr:=[ob v6,a6,ob t]) J d A (fun ap=>Dj.sub (ap.q 1 J) b.inl) (fun ap=>Dj.sub (ap.q 1 J) (fun k hk=>b.inr k (by rw[w];exact gb.2 (.inl hk)))) Z) J ?_
   rintro v7 af D4 ⟨⟨O,a7⟩,h9⟩
   replace t9:=t9.fr a7 (O.q 2 J) (Dj.sub (O.q 1 J) (fun k hk=>b.inr k (by rw[w];exact gb.2 (.inr hk))))
   refine art 8 [] J ?_
   exact lb [0,1,1] [] (G (_,_,_,_,_,_) ⟨h,h9,b.next w,t9⟩)
  refine att 7 [] J ?_
  exact lb [0,0,0] [] (G (_,_,_,_,_,_) ⟨h,d,b.skip w,t9⟩)
 refine att 6 [] J ?_
 refine WT.ret Q (az.one J) (fun w1 hw=>?_)
 cases h
 replace hw:=hw.merge (js:=[1]) (F:=H) J (by simpa using b.out)
 refine aH (js:=[1,0]) hw J ⟨U,H,J,J,d⟩

theorem zk (w0:aD e g []) (d:(List au)) (b:ByteArray) (c:RSl aJ 4 e bX t d) {r:bN × Bool} (h:pr N d b=some r) :
  CB w0 prog 255 [t,.string b] (.tuple #[.agg [iV r.1.K,iV r.1.N,.string r.1.S].toArray,.bool r.2]):=by
 refine eN func255 J ntmps255 J w0 fun v=>?_
 unfold pr at h
 refine sr<|lnz jY J fun k=>art 8 [] J ?_
 refine lin (σ:=Int) (fun s=>[(0,t),(1,.string b),(4,pQ k),(6,iV s)]) (fun s=>St w0 g [(k,.cells #[iV 0,iV 0,.string (⟨#[]⟩:ByteArray)] 95 (0,0))] []) (fun m s=>iC N d b m s=some r) (0) N h (sx [] [0]) (fun y z s hm=>?_)
 revert hm;revert s;intro s1 hm
 have h:iC N d b (y+1) s1=some r:=hm
 show WT _ _ [(0,t),(1,.string b),(4,pQ k),(6,iV s1)] (St w0 g [(k,.cells #[iV 0,iV 0,.string (⟨#[]⟩:ByteArray)] 95 (0,0))] [])
 unfold iC at h
 refine atr 5 [] J<|lnr c J<|la J<|en ?_
 refine ch h J ?_ ?_ <;> intro h
 ·refine atr 7 [] J ?_
  obtain⟨D,w,h⟩:=bs h
  obtain⟨E,F,-,g1,G,H,A⟩:=c.el (a8 w).2.2
  obtain⟨rfl,-⟩:=A
  refine lia c w J<|lf Hf J J J<|lhx 0 0 g1 J<|art 3 [] J ?_
  refine ch h J ?_ ?_ <;> intro h
  ·refine atr 4 [] J ?_
   obtain⟨q,x,h⟩:=bs h
   obtain⟨I,K,-,g2,L,M,B⟩:=c.el (a8 x).2.2
   obtain⟨rfl,-⟩:=B
   refine lia c x J<|lf HU J J J<|lhx 1 3 g2 J<|soN 0 pL J ⟨J,J,J,trivial⟩ J ?_
   refine la J<|en ?_
   refine WT.ret v (az.two (aX l6 J (fun u hw=>hw.rgO (i:=0) J 0 3 [iV q.V.K,iV q.V.N,.string q.V.S] J) J) J) (fun u hw=>?_)
   cases h
   exact fe hw
  refine att 7 [] J ?_
  exact lb [] [0] (z _ h)
 refine xt J<|sr<|lq (bu (vs:=[]) (C:=#[iV 0,iV 0,.string (⟨#[]⟩:ByteArray)]) wW jY J (ae)) J<|soN 0 pL J ⟨J,J,J,trivial⟩ J ?_
 refine la J<|en ?_
 refine WT.ret v (az.two (aX l6 J (fun u hw=>hw.rgO (i:=0) J 0 3 [iV 0,iV 0,.string (⟨#[]⟩:ByteArray)] J) J) J) (fun u hw=>?_)
 cases h
 exact fe hw
theorem rX (w0:aD e g []) (y:ay) (G:aI) (R:(List au)) (O:RSl f8 5 e ai f y.Args) (z:RSl aU 3 e aj a G.Fields) (Z:RSl aJ 4 e bj j R) {r:(List au) × Bool} (h:kG N y G R=some r) :
  Calls prog 235 [.agg [.string y.Kind,f,.bool y.Not].toArray,.agg [.string G.Kind,a].toArray,j].toArray w0.w (bc g w0.w [] (fun al Fs v=>∃ (S:Value),v = .tuple #[S,.bool r.2]∧Fs=[ob S]∧OSl aJ 97 4 al [] S r.1)):=by
 refine eN func235 J ntmps235 J w0 fun T=>?_
 unfold kG at h
 refine sr<|lbx J fun q=>lbx J fun u=>arr 5 [] J<|le' (lJ aJ.lasts pI vn J J) J ?_
 rintro v1 aH D1 ⟨aK,h1⟩
 refine la J<|lu0 Z fun h2=>?_
 obtain⟨x1,ao,h⟩:=bs h
 refine le' (dM aJ.lasts aJ.one aJ.flat pI Cz J J J J J (js:=[0]) (Rr:=[]) J h1 h2 ao) J ?_
 rintro v2 aq D2 ⟨⟨aL,aM⟩,h3⟩
 refine arr 11 [0,32,0,0] J ?_
 obtain⟨b1,H,h⟩:=bs h
 refine WL.cutN 8 [(29,.bool b1),(2,j),(3,pQ q),(4,pQ u),(8,v2)] ?_ (fun K=>?_)
 rotate_left
 ·refine sp 21 H J (fun H=>?_) fun H=>?_
  ·refine arr 8 [] J ?_
   cases H
   exact ku K
  ·refine arr 2 [1,32] J<|ly J J<|lnr O J<|arr 2 [1,0] J<|ly J J<|lnr z J<|arr 2 [] J ?_
   cases H
   exact ku K
 refine en ?_
 refine ch h J ?_ ?_ <;> intro h
 ·refine att 6 [] J ?_
  exact rtg [0] T (az.two J J) J (by cases h;exact fun A hw=>⟨v2,rfl,rfl,h3⟩)
 refine att 7 [] J ?_
 refine lin (σ:=Hp × (List au) × Value × Int) (fun s=>[(2,j),(3,pQ q),(4,pQ u),(8,s.2.2.1),(9,iV s.2.2.2)]) (fun s=>St w0 s.1 [(u,.cells #[.string G.Kind,a] 52 (0,0)),(q,.cells #[.string y.Kind,f,.bool y.Not] 201 (0,0))] [ob s.2.2.1]) (fun m s=>gq N y G R m s.2.1 s.2.2.2=some r∧(OSl aJ 97 4 s.1 [] s.2.2.1 s.2.1)) (aq,x1,v2,0) N ⟨h,h3⟩ (sx [0] [0,0]) (fun n1 a7 s hm=>?_)
 obtain⟨av,s1,B,s2⟩:=s
 obtain⟨h,E⟩:=hm
 dsimp only at h E ⊢
 unfold gq at h
 refine atr 6 [1,32] J<|lnr O J<|la J<|en ?_
 refine ch h J ?_ ?_ <;> intro h
 ·refine atr 8 [1,32] J ?_
  obtain⟨i,ab,h⟩:=bs h
  obtain⟨aN,F1,-,g1,aO,aP,r1⟩:=O.el (a8 ab).2.2
  obtain⟨rfl,-⟩:=r1
  refine lia O ab J<|lhx 0 5 g1 J<|lnz kh J fun I=>soN 0 j6 J ⟨J,J,J,J,J,trivial⟩ J ?_
  refine arr 6 [1,0] J<|qc h (zk N · s1 i.S E.rsl ·) J J J fun L h=>arr 3 [] J<|lnz jY J fun af=>soN 0 pL J ⟨J,J,J,trivial⟩ J ?_
  refine art 4 [] J<|WT.draw mixed NQ (fun _ h=>h.drew)<|aqq 4 [0,32] J ?_
  obtain⟨b2,w,h⟩:=bs h
  refine WQ.cutN 9 [(62,.bool b2),(2,j),(3,pQ q),(4,pQ u),(8,B),(9,iV s2),(10,pQ I),(11,pQ af),(12,.bool L.2)] ?_ (fun K=>?_)
  rotate_left
  ·refine WQ.split (d:=53) J (fun U=>?_) (fun U=>?_)
   ·replace w:=lP w U
    refine aqq 5 [2,35,1,64] J<|WQ.yes J J ?_
    obtain⟨P,ag,w⟩:=bs w
    obtain⟨aQ,F2,-,g2,aR,aS,r2⟩:=z.el (a8 ag).2.2
    obtain⟨rfl,-⟩:=r2
    refine qq (an iX J J z ag) J<|WQ.yes J J<|qq (aw l6 J (fun A hw=>(g2.of_eq 0 3 J J:rg _ _ _ [iV P.K,iV P.N,.string P.S]).rangeAt hw.in0) J) J<|WQ.yes J J<|qq (tH oe J J J (r:=bQ i.V P) J) J<|WQ.q (Av J J) J J J ?_
    cases w
    exact kq K
   ·replace w:=mb w U
    refine aqq 9 [] J ?_
    cases w
    exact kq K
  refine qq (iZ J) J ?_
  obtain⟨b3,k,h⟩:=bs h
  refine WQ.cutN 16 [(79,.bool b3),(2,j),(3,pQ q),(4,pQ u),(8,B),(9,iV s2),(10,pQ I),(12,.bool L.2)] ?_ (fun K=>?_)
  rotate_left
  ·refine WQ.split (d:=63) J (fun V=>?_) (fun V=>?_)
   ·replace k:=lP k V
    refine aqq 16 [] J ?_
    cases k
    exact kq K
   ·replace k:=mb k V
    refine aqq 4 [0,32] J ?_
    obtain⟨b4,F,k⟩:=bs k
    refine WQ.cutN 2 [(69,.bool b4),(2,j),(3,pQ q),(4,pQ u),(8,B),(9,iV s2),(10,pQ I),(11,pQ af),(12,.bool L.2),(63,.bool false)] ?_ (fun K=>?_)
    rotate_left
    ·refine WQ.split (d:=67) J (fun W=>?_) (fun W=>?_)
     ·replace F:=lP F W
      refine aqq 2 [] J ?_
      cases F
      exact kq K
     ·replace F:=mb F W
      refine aqq 2 [] J ?_
      cases F
      exact kq K
    refine WQ.yes J J<|qq (iZ J) J ?_
    obtain⟨b5,x,k⟩:=bs k
    refine WQ.cutN 8 [(78,.bool b5),(2,j),(3,pQ q),(4,pQ u),(8,B),(9,iV s2),(10,pQ I),(12,.bool L.2),(63,.bool false)] ?_ (fun K=>?_)
    rotate_left
    ·refine WQ.split (d:=70) J (fun X=>?_) (fun X=>?_)
     ·replace x:=lP x X
      refine aqq 4 [3,1,64] J<|WQ.yes J J ?_
      obtain⟨Q,ah,x⟩:=bs x
      obtain⟨aT,F3,-,g3,aV,aW,r3⟩:=z.el (a8 ah).2.2
      obtain⟨rfl,-⟩:=r3
      refine qq (an iX J J z ah) J<|WQ.yes J J<|qq (aw l6 J (fun A hw=>(g3.of_eq 0 3 J J:rg _ _ _ [iV Q.K,iV Q.N,.string Q.S]).rangeAt hw.in0) J) J<|WQ.yes J J<|qq (tH oe J J J (r:=bQ L.1 Q) J) J<|WQ.yes J J<|WQ.q (Av J J) J J J ?_
      cases x
      exact kq K
     ·replace x:=mb x X
      refine aqq 8 [] J ?_
      cases x
      exact kq K
    refine WQ.q (rQ J J) J J J ?_
    cases k
    exact kq K
  refine WQ.nil ?_
  refine ch h J ?_ ?_ <;> intro h
  ·refine sr<|le' (lJ aJ.lasts pI vn J J) J ?_
   rintro v3 aX D3 ⟨aY,h4⟩
   refine la J<|lu0 Z fun h5=>?_
   obtain⟨x6,ax,h⟩:=bs h
   refine le' (dM aJ.lasts aJ.one aJ.flat pI Cz J J J J J (js:=[0]) (Rr:=[ob B]) J h4 h5 ax) J ?_
   rintro v4 aZ D4 ⟨⟨ba,bb⟩,h6⟩
   refine art 3 [] J ?_
   exact rtg [0] T (az.two J J) J (by cases h;exact fun A hw=>⟨v4,rfl,rfl,h6⟩)
  refine atr 7 [0,32] J ?_
  obtain⟨b6,M,h⟩:=bs h
  refine WL.cutN 3 [(89,.bool b6),(2,j),(3,pQ q),(4,pQ u),(8,B),(9,iV s2),(10,pQ I)] ?_ (fun K=>?_)
  rotate_left
  ·refine sp 86 M J (fun M=>?_) fun M=>?_
   ·refine arr 3 [] J ?_
    cases M
    exact ku K
   ·refine arr 3 [] J ?_
    cases M
    exact ku K
  refine en ?_
  refine ch h J ?_ ?_ <;> intro h
  ·refine wm [0,1,2,3] [] J<|amm 6 [0,1,1,2,32,3,1,4,64,5] [0,1,2,3] J J ?_
   obtain⟨b,ak,h⟩:=bs h
   obtain⟨bd,F4,-,g4,be,bf,r4⟩:=z.el (a8 ak).2.2
   obtain⟨rfl,-⟩:=r4
   refine mq 6 J NQ (kN [0,1,2,3]) (an iX J J z ak) J<|mq 7 J NQ (kN [0,1,2,3]) (aw l6 J (fun A hw=>(g4.of_eq 0 3 J J:rg _ _ _ [iV b.K,iV b.N,.string b.S]).rangeAt hw.1) J) J ?_
   refine mq 8 J NQ (kN [0,1,2,3]) (bu (vs:=[(0,.string i.S),(1,.agg [iV b.K,iV b.N,.string b.S].toArray)]) (C:=#[.string i.S,iV b.K,iV b.N,.string b.S]) JU vn J (aa (C':=[.string i.S,iV 0,iV 0,.string ⟨#[]⟩]) J J J J J (aa (C':=[.string i.S,iV b.K,iV b.N,.string b.S]) J J J J J (ae)))) J ?_
   have aA:RC aJ 4 av ([[]]:List (List Nat)) [.string i.S,iV b.K,iV b.N,.string b.S] ([(⟨i.S,b⟩:au)]:List au):=RC.cons (c:=[.string i.S,iV b.K,iV b.N,.string b.S]) (cells:=[]) ⟨J,J⟩ J (RC.nil _ _ _)
   refine WM.one 9 NQ (me J (fun _ v aB D A hq hw=>Kn.of Kf.nil (am [0,1,2,3] J) hw) (bz (vs:=[(0,.agg [.string i.S,iV b.K,iV b.N,.string b.S].toArray)]) (C:=#[.string i.S,iV b.K,iV b.N,.string b.S]) aJ.lasts pI vn J J J J (ar Ep (aa (C':=[.string i.S,iV b.K,iV b.N,.string b.S]) J J J J J (ae))) J aA J (by simpa using Kw.nil)) J ?_)
   rintro v5 aC D5 ⟨aF,Y⟩
   replace Y:OSl aJ 97 4 aC [] v5 ([(⟨i.S,b⟩:au)]:List au):=by simpa using Y
   replace E:=E.f0 aF
   obtain⟨x8,aG,h⟩:=bs h
   refine WM.one 10 NQ (me J (fun _ v aB D A hq hw=>Kn.of Kf.nil (am [0,1,2,3] J) hw) (dM aJ.lasts aJ.one aJ.flat pI Cz J J J J J (js:=[1]) (Rr:=[ob v5]) J E Y.rsl aG) J ?_)
   rintro v6 bg D6 ⟨⟨bh,bk⟩,h8⟩
   refine amm 1 [11] [0,1,2,3] J J<|WM.nil NQ<|att 6 [] J ?_
   exact lb [0] [2,2] (a7 (_,_,_,_) ⟨h,h8⟩)
  refine att 7 [] J ?_
  exact lb [0] [2,2] (a7 (_,_,_,_) ⟨h,E⟩)
 refine att 7 [] J ?_
 exact rtg [0] T (az.two J J) J (by cases h;exact fun A hw=>⟨B,rfl,rfl,E⟩)
theorem ol (w0:aD e g []) (d:af) (k:ac) (y:(List Int)) (E:RSl cS 3 e ai f d.Pats) (ar:RSl cH 11 e aE o d.Conds) (av:RSl hU 5 e b9 a1 d.Acts) (F:RSl aY 3 e aj a k.Items) (z:RSl (RI .i64) 1 e bj j y) {r:(List au) × Bool} (h:jo N d k y=some r) :
  Calls prog 228 [.agg [.string d.Name,iV d.Sal,f,o,a1].toArray,.agg [a,iV k.Next].toArray,j].toArray w0.w (bc g w0.w [] (fun T Fs v=>∃ (A:Value),v = .tuple #[A,.bool r.2]∧Fs=[ob A]∧OSl aJ 97 4 T [] A r.1)):=by
 refine eN func228 J ntmps228 J w0 fun G=>?_
 unfold jo at h
 refine sr<|lbx J fun u=>lbx J fun w=>arr 5 [] J<|le' (lJ aJ.lasts pI vn J J) J ?_
 rintro v1 U D1 ⟨ax,h1⟩
 refine art 8 [] J ?_
 refine lin (σ:=Hp × (List au) × Value × Int) (fun s=>[(2,j),(3,pQ u),(4,pQ w),(8,s.2.2.1),(9,iV s.2.2.2)]) (fun s=>St w0 s.1 [(w,.cells #[a,iV k.Next] 29 (0,0)),(u,.cells #[.string d.Name,iV d.Sal,f,o,a1] 87 (0,0))] [ob s.2.2.1]) (fun m s=>f7 N d k y m s.2.1 s.2.2.2=some r∧(OSl aJ 97 4 s.1 [] s.2.2.1 s.2.1)) (U,([]:List au),v1,0) N ⟨h,h1⟩ (sx [0] [0,0]) (fun V W s hm=>?_)
 obtain⟨ay,s1,q,s2⟩:=s
 obtain⟨h,c⟩:=hm
 dsimp only at h c ⊢
 unfold f7 at h
 refine atr 5 [] J<|lnr z J<|la J<|en ?_
 refine ch h J ?_ ?_ <;> intro h
 ·refine att 4 [] J ?_
  refine cut (σ:=Hp × Nat × (List bN) × Value × Bool × ByteArray) (fun s=>[(2,j),(3,pQ u),(4,pQ w),(8,q),(9,iV s2),(10,.pointer (some ⟨s.2.1,0,none⟩)),(11,.bool s.2.2.2.2.1)]) (fun s=>St w0 s.1 [(s.2.1,.cells #[.string s.2.2.2.2.2,s.2.2.2.1] 52 (0,0)),(w,.cells #[a,iV k.Next] 29 (0,0)),(u,.cells #[.string d.Name,iV d.Sal,f,o,a1] 87 (0,0))] [ob s.2.2.2.1,ob q]) (fun s=>lF N d s1 s2 (f7 N d k y V) s.2.2.1 s.2.2.2.2.1 s.2.2.2.2.2=some r∧(OSl aJ 97 4 s.1 [] q s1)∧(OSl aU 95 3 s.1 [] s.2.2.2.1 s.2.2.1)) (fun s hm=>?_) (fun K=>?_)
  ·clear h
   obtain⟨aA,aB,X,Y,s4,Z⟩:=s
   obtain⟨h,c,H⟩:=hm
   dsimp only at h c H ⊢
   unfold lF at h
   refine sq<|wm [0,1,2] [] J<|amm 3 [0,2,1,64,2] [0,1,2] J J ?_
   obtain⟨B,I,h⟩:=bs h
   obtain⟨aC,F3,-,g2,aF,aG,r2⟩:=E.el (a8 I).2.2
   obtain⟨v4,G1,rfl,a7,h3⟩:=r2
   obtain rfl:=a7.symm
   refine mq 3 J NQ (kN [0,1,2]) (an tb J J E I) J<|mq 4 J NQ (kN [0,1,2]) (aw wn J (fun i hw=>(g2.of_eq 0 3 J J:rg _ _ _ [.string B.Kind,v4,.bool B.Not]).rangeAt hw.1) J) J<|amm 2 [5,2,6] [0,1,2] J J ?_
   obtain⟨x4,aa,h⟩:=bs h
   refine WM.one 7 NQ (mc J (fun _ v L D i M hw=>Kn.of Kf.nil (ai3 0 1 2 J J J) hw) (bH (js:=[]) (R:=[ob Y,ob q]) DX J J (fun i hw ap O=>rX N (ba hw.fro) B (⟨Z,X⟩:aI) s1 (h3.y hw.up) H.rsl c.rsl  aa)) J ?_)
   rintro v5 aH F4 ⟨ab,ae,v6,rfl,rfl,h4⟩
   replace c:=c.fr ae (ab.q 1 J) dN
   refine amm 5 [8,9,10,11,12] [0,1,2] J J<|WM.nil NQ<|atr 6 [] J ?_
   obtain⟨b1,x,h⟩:=bs h
   refine WL.cutN 3 [(46,.bool b1),(2,j),(3,pQ u),(4,pQ w),(8,q),(9,iV s2),(12,v6)] ?_ (fun K=>?_)
   rotate_left
   ·refine sp 43 x J (fun x=>?_) fun x=>?_
    ·refine arr 3 [] J ?_
     cases x
     exact ku K
    ·refine arr 3 [] J ?_
     cases x
     exact ku K
   refine en ?_
   refine ch h J ?_ ?_ <;> intro h
   ·refine att 6 [] J ?_
    exact rtg [2] G (az.two J J) J (by cases h;exact fun i hw=>⟨q,rfl,rfl,c⟩)
   refine att 11 [] J ?_
   exact lb [0] [1,1] (W (_,_,_,_) ⟨h,h4⟩)
  refine wm [0,1] [] J<|amm 3 [0,2,1,2] [0,1] J J ?_
  obtain⟨C,P,h⟩:=bs h
  obtain⟨aK,F5,-,g3,aL,aM,r3⟩:=z.el (a8 P).2.2
  obtain⟨rfl,-⟩:=r3
  refine mq 3 J NQ (kN [0,1]) (an cq J J z P) J<|mq 4 J NQ (kN [0,1]) (aZ sD J (fun i hw=>(g3.of_eq 0 1 J J:rg _ _ _ [iV C]).rangeAt hw.1)) J ?_
  refine WM.two 5 9 NQ ?_ ?_
  ·obtain⟨x6,ag,h⟩:=bs h
   refine mc J (fun _ v L D i M hw=>Kn.of Kf.nil (ai2 0 1 J J) hw) (bH (js:=[]) (R:=[ob q]) ER J J (fun i hw ap O=>nI N (ba hw.fro) k C (F.y hw.up)  ag)) J ?_
   rintro v7 aN F6 ⟨ah,ak,v8,rfl,rfl,Q⟩
   replace c:=c.fr ak (ah.q 0 J) dN
   refine amm 3 [6,7,8] [0,1] J J ?_
   refine on1 9 (mn J (kB [1,2]) (nz lz) J (fun aO=>?_))
   refine on1 10 (msK 0 [1,2] J mC J ⟨J,Q.one,trivial⟩ J J ?_)
   refine amm 1 [11] [1,2] J J<|WM.nil NQ ?_
   exact wo [0,0] [0,0,0] (K (_,_,_,_,_,_) ⟨h,c,Q⟩)
  refine mn J (fun _ b i hw=>Kn.of Kf.nil (ai2 1 2 J J) hw) (nz lz) J (fun aP=>?_)
  obtain⟨x7,al,h⟩:=bs h
  refine WM.one 5 NQ (mc J (fun _ v L D i M hw=>Kn.of Kf.nil (ai2 1 2 J J) hw) (bH (js:=[]) (R:=[ob q]) ER J J (fun i hw ap O=>nI N (ba hw.fro) k C (F.y hw.up)  al)) J ?_)
  rintro v9 aQ F7 ⟨ao,aq,v10,rfl,rfl,S⟩
  replace c:=c.fr aq (ao.q 0 J) dN
  refine amm 3 [6,7,8] [1,2] J J ?_
  refine on1 10 (msK 0 [1,2] J mC J ⟨J,S.one,trivial⟩ J J ?_)
  refine amm 1 [11] [1,2] J J<|WM.nil NQ ?_
  exact wo [0,0] [0,0,0] (K (_,_,_,_,_,_) ⟨h,c,S⟩)
 refine att 7 [] J ?_
 exact rtg [0] G (az.two J J) J (by cases h;exact fun i hw=>⟨q,rfl,rfl,c⟩)
theorem tI (w0:aD e g []) (b:af) (d:aI) (q:(List au)) (y:RSl cS 3 e ai f b.Pats) (al:RSl cH 11 e aE o b.Conds) (ao:RSl hU 5 e b9 a1 b.Acts) (M:RSl aU 3 e aj a d.Fields) (O:RSl aJ 4 e bj j q) {r:(List Int)} (h:mS N b d q=some r) :
  Calls prog 229 [.agg [.string b.Name,iV b.Sal,f,o,a1].toArray,.agg [.string d.Kind,a].toArray,j].toArray w0.w (bc g w0.w [] (fun P Fs v=>∃ (z:Value),v=z∧Fs=[ob z]∧OSl (RI .i64) 3 1 P [] z r)):=by
 refine eN func229 J ntmps229 J w0 fun Q=>?_
 unfold mS at h
 refine sr<|lbx J fun u=>lbx J fun w=>arr 4 [] J<|le' (lJ (R:=RI .i64) RI.lasts cq mg J J) J ?_
 rintro v1 S D1 ⟨aq,h1⟩
 refine art 8 [] J ?_
 refine lin (σ:=Hp × (List Int) × Value × Int) (fun s=>[(2,j),(3,pQ u),(4,pQ w),(7,s.2.2.1),(8,iV s.2.2.2)]) (fun s=>St w0 s.1 [(w,.cells #[.string d.Kind,a] 52 (0,0)),(u,.cells #[.string b.Name,iV b.Sal,f,o,a1] 87 (0,0))] [ob s.2.2.1]) (fun m s=>ef N b d q m s.2.1 s.2.2.2=some r∧(OSl (RI .i64) 3 1 s.1 [] s.2.2.1 s.2.1)) (S,([]:List Int),v1,0) N ⟨h,h1⟩ (sx [0] [0,0]) (fun G H s hm=>?_)
 obtain⟨av,s1,x,s2⟩:=s
 obtain⟨h,k⟩:=hm
 dsimp only at h k ⊢
 unfold ef at h
 refine atr 6 [2,32] J<|lnr y J<|la J<|en ?_
 refine ch h J ?_ ?_ <;> intro h
 ·refine atr 8 [2,32] J ?_
  obtain⟨x1,I,h⟩:=bs h
  obtain⟨ax,F1,-,g1,ay,aA,T⟩:=y.el (a8 I).2.2
  obtain⟨v2,G1,rfl,U,h2⟩:=T
  obtain rfl:=U.symm
  refine lia y I J<|lf vS J J J<|lhx 2 0 g1 J<|en ?_
  refine ch h J ?_ ?_ <;> intro h
  ·refine sq<|wm [0,1] [] J<|amm 3 [0,2,1,32,2] [0,1] J J ?_
   obtain⟨A,L,h⟩:=bs h
   obtain⟨aB,F2,-,g2,aC,aF,V⟩:=y.el (a8 L).2.2
   obtain⟨v3,G2,rfl,W,X⟩:=V
   obtain rfl:=W.symm
   refine mq 3 J NQ (kN [0,1]) (an tb J J y L) J<|mq 4 J NQ (kN [0,1]) (aw wn J (fun B hw=>(g2.of_eq 0 3 J J:rg _ _ _ [.string A.Kind,v3,.bool A.Not]).rangeAt hw.1) J) J<|amm 2 [5,2,6] [0,1] J J ?_
   obtain⟨x3,Y,h⟩:=bs h
   refine WM.one 7 NQ (mc J (fun _ v aG D B hq hw=>Kn.of Kf.nil (ai2 0 1 J J) hw) (bH (js:=[]) (R:=[ob x]) DX J J (fun B hw ap hl=>rX N (ba hw.fro) A d q (X.y hw.up) (M.y hw.up) (O.y hw.up)  Y)) J ?_)
   rintro v4 E F3 ⟨Z,a7,v5,rfl,rfl,h4⟩
   replace k:=k.fr a7 (Z.q 0 J) dN
   refine amm 5 [8,9,10,11,12] [0,1] J J<|WM.nil NQ<|att 9 [] J ?_
   refine cut (σ:=Int) (fun s=>[(2,j),(3,pQ u),(4,pQ w),(7,x),(8,iV s2),(11,iV s)]) (fun s=>St w0 E [(w,.cells #[.string d.Kind,a] 52 (0,0)),(u,.cells #[.string b.Name,iV b.Sal,f,o,a1] 87 (0,0))] [ob x]) (fun s=>iL N s1 s2 (ef N b d q G) s=some r) (fun s hm=>?_) (fun K=>?_)
   ·clear h
    revert hm;revert s;intro i hm
    have h:iL N s1 s2 (ef N b d q G) i=some r:=hm
    show WT _ _ [(2,j),(3,pQ u),(4,pQ w),(7,x),(8,iV s2),(11,iV i)] (St w0 E [(w,.cells #[.string d.Kind,a] 52 (0,0)),(u,.cells #[.string b.Name,iV b.Sal,f,o,a1] 87 (0,0))] [ob x])
    unfold iL at h
    refine atr 3 [] J ?_
    have ab:RC (RI .i64) 1 E ([[]]:List (List Nat)) [iV i] ([i]:List Int):=RC.cons (c:=[iV i]) (cells:=[]) ⟨J,J⟩ J (RC.nil _ _ _)
    refine le' (bz (vs:=[(0,iV i)]) (C:=#[iV i]) RI.lasts cq mg J J J J (ar ki (aa (C':=[iV i]) J J J J J (ae))) J ab J (by simpa using Kw.nil)) J ?_
    rintro v6 ag D2 ⟨ah,F⟩
    replace F:OSl (RI .i64) 3 1 ag [] v6 ([i]:List Int):=by simpa using F
    replace k:=k.f0 ah
    obtain⟨x4,ak,h⟩:=bs h
    refine le' (dM RI.lasts RI.one RI.flat cq sh J J J J J (js:=[1]) (Rr:=[ob v6]) J k F.rsl ak) J ?_
    rintro v7 aH D3 ⟨⟨aK,aL⟩,h6⟩
    refine art 8 [] J ?_
    exact lb [0] [0,0] (H (_,_,_,_) ⟨h,h6⟩)
   refine ch h J ?_ ?_ <;> intro h
   ·refine att 3 [] J ?_
    exact wo [1] [0,0] (K _ h)
   refine WT.skip ?_
   exact wo [1] [0,0] (K _ h)
  refine att 7 [] J ?_
  exact lb [0] [0,0] (H (_,_,_,_) ⟨h,k⟩)
 refine att 6 [] J ?_
 exact rtg [0] Q (az.one J) J (by cases h;exact fun B hw=>⟨x,rfl,rfl,k⟩)
theorem sm (w0:aD e g [ob j,b8].flatten) (c:af) (d:ac) (U:(List ao)) (u:aI) (k:Int) (ab:RSl cS 3 e ai f c.Pats) (ae:RSl cH 11 e aE o c.Conds) (ag:RSl hU 5 e b9 a1 c.Acts) (ay:RSl aY 3 e aj a d.Items) (aA:OSl aT 105 2 g b8 j U) (aB:RSl aU 3 e pG3_0 b0 u.Fields) {r:(List ao)} (h:lU N c d U u k=some r) :
  Calls prog 193 [.agg [.string c.Name,iV c.Sal,f,o,a1].toArray,.agg [a,iV d.Next].toArray,j,.agg [.string u.Kind,b0].toArray,iV k].toArray w0.w (bc g w0.w [ob j,b8].flatten (fun aC Fs v=>∃ (ah:List Nat),v = .tuple #[]∧Fs=[ob j,ah]∧OSl aT 105 2 aC ah j r)):=by
 refine eL func193 J ntmps193 J (L:=[ob j,b8]) w0 (fun hF=>?_)
 unfold lU at h
 refine sr<|lbx J fun B=>lbx J fun C=>lbx J fun E=>art 6 [] J ?_
 refine lin (σ:=Hp × (List ao) × List Nat × Int) (fun s=>[(2,j),(4,iV k),(5,pQ B),(6,pQ C),(8,pQ E),(10,iV s.2.2.2)]) (fun s=>St w0 s.1 [(E,.cells #[.string u.Kind,b0] 52 (0,0)),(C,.cells #[a,iV d.Next] 29 (0,0)),(B,.cells #[.string c.Name,iV c.Sal,f,o,a1] 87 (0,0))] [ob j,s.2.2.1]) (fun m s=>cZ N c d u k m s.2.1 s.2.2.2=some r∧(OSl aT 105 2 s.1 s.2.2.1 j s.2.1)) (g,U,b8,0) N ⟨h,aA⟩ (sx [0,0] [0,0,0]) (fun n1 aF s hm=>?_)
 obtain⟨ak,s1,V,s2⟩:=s
 obtain⟨h,w⟩:=hm
 dsimp only at h w ⊢
 unfold cZ at h
 refine atr 5 [] J<|lno w J<|la J<|en ?_
 refine ch h J ?_ ?_ <;> intro h
 ·refine att 4 [] J<|WT.mix (Kn w0 ak (ob j) [(E,.cells #[.string u.Kind,b0] 52 (0,0)),(C,.cells #[a,iV d.Next] 29 (0,0)),(B,.cells #[.string c.Name,iV c.Sal,f,o,a1] 87 (0,0))]) (fun _=>true) mixed (fun _ h=>h.drew)<|mq 0 J NQ (kn Kf.id (ai3 0 1 2 J J J)) (aw tQ J (fun x hw=>hw.rgO (i:=2) J 0 5 [.string c.Name,iV c.Sal,f,o,a1] J) J) J ?_
  refine mq 1 J NQ (kn Kf.id (ai3 0 1 2 J J J)) (aw mD J (fun x hw=>hw.rgO (i:=1) J 0 2 [a,iV d.Next] J) J) J<|ma 2 J NQ (kn Kf.id (ai3 0 1 2 J J J)) J<|ma 3 J NQ (kn Kf.id (ai3 0 1 2 J J J)) J ?_
  obtain⟨x1,al,h⟩:=bs h
  obtain⟨aX,F1,-,g1,aG,b2,r1⟩:=w.elS (a8 al).2.2
  obtain⟨v1,v2,rfl,rfl,h1,h2⟩:=r1
  have h3:=h1.rsl
  have h4:=h2.rsl
  refine mq 4 J NQ (kn Kf.id (ai3 0 1 2 J J J)) (an eh J J w.rsl al) J<|mq 5 J NQ (kn Kf.id (ai3 0 1 2 J J J)) (ax tm J) J<|mq 6 J NQ (kn Kf.id (ai3 0 1 2 J J J)) (aZ sU J (fun x hw=>hw.rg aG (g1.of_eq 0 1 J J:rg _ _ _ [v1]))) J ?_
  obtain⟨P,aJ,h⟩:=bs h
  refine WM.one 7 NQ (mc J (fun _ v b3 D x hq hw=>Kn.of (Kf.id.st hq.2.1 (hq.1.r (i:=0) J)) (ai3 0 1 2 J J J) hw) (bH (js:=[]) (R:=[ob j,V]) IT J J (fun x hw ap hl=>ol N (ba hw.fro) c d x1.Ids (ab.y hw.up) (ae.y hw.up) (ag.y hw.up) (ay.y hw.up) h3  aJ)) J ?_)
  rintro v3 b4 F2 ⟨W,aq,v4,rfl,rfl,h5⟩
  replace w:=w.fr aq (W.q 0 J) (W.q 1 J)
  have H:=(Kf.id (F:=(ob j)):Kf ak _ _).st aq (W.q 0 J)
  refine ma 8 J NQ (kn H (ai3 0 1 2 J J J)) J<|ma 9 J NQ (kn H (ai3 0 1 2 J J J)) J<|ma 10 J NQ (kn H (ai3 0 1 2 J J J)) J<|ma 11 J NQ (kn H (ai3 0 1 2 J J J)) J<|ma 12 J NQ (kn H (ai3 0 1 2 J J J)) J<|WM.nil NQ<|atr 5 [69,2] J<|kab h J J J (fun b z q=>tI N b c u P.1 (ab.y z) (ae.y z) (ag.y z) (aB.y z) h5.rsl q) ?_
  rintro x3 h v5 aK F3 ⟨ar,aL,v6,rfl,rfl,y⟩
  replace w:=w.fr aL (ar.q 1 J) (ar.q 2 J)
  refine art 7 [] J ?_
  refine lin (σ:=Hp × (List ao) × List Nat × Int) (fun s=>[(2,j),(4,iV k),(5,pQ B),(6,pQ C),(8,pQ E),(10,iV s2),(12,.bool P.2),(13,v5),(14,iV s.2.2.2)]) (fun s=>St w0 s.1 [(E,.cells #[.string u.Kind,b0] 52 (0,0)),(C,.cells #[a,iV d.Next] 29 (0,0)),(B,.cells #[.string c.Name,iV c.Sal,f,o,a1] 87 (0,0))] [ob v5,ob j,s.2.2.1]) (fun m s=>ee N k s2 (cZ N c d u k n1) P x3 m s.2.1 s.2.2.2=some r∧(OSl aT 105 2 s.1 s.2.2.1 j s.2.1)∧(OSl (RI .i64) 3 1 s.1 [] v5 x3)) (aK,s1,V,0) N ⟨h,w,y⟩ (sx [0,1,1] [0,0,0]) (fun n2 aM s hm=>?_)
  obtain⟨aN,s3,D2,s4⟩:=s
  obtain⟨h,X,y⟩:=hm
  dsimp only at h X y ⊢
  unfold ee at h
  refine atr 5 [] J<|lno y J<|arr 2 [] J ?_
  obtain⟨b1,I,h⟩:=bs h
  refine WL.cutN 2 [(42,.bool b1),(2,j),(4,iV k),(5,pQ B),(6,pQ C),(8,pQ E),(10,iV s2),(12,.bool P.2),(13,v5),(14,iV s4)] ?_ (fun K=>?_)
  rotate_left
  ·refine sp 40 I J (fun I=>?_) fun I=>?_
   ·refine arr 2 [] J ?_
    cases I
    exact ku K
   ·refine arr 2 [] J ?_
    cases I
    exact ku K
  refine en ?_
  refine ch h J ?_ ?_ <;> intro h
  ·refine att 3 [] J ?_
   obtain⟨x4,Y,h⟩:=bs h
   obtain⟨b5,F4,Z,A,r2,H,aO⟩:=X.focus Y
   obtain⟨M,G,rfl,rfl,h8,O⟩:=r2
   refine wtL [ob M,ob G,Z,ob v5,ob j] (sre [2] [ob M,ob G,Z] J (by simpa[gf] using aO))<|WT.mix (Kn w0 aN (ob j++(ob G++ob v5)) [(E,.cells #[.string u.Kind,b0] 52 (0,0)),(C,.cells #[a,iV d.Next] 29 (0,0)),(B,.cells #[.string c.Name,iV c.Sal,f,o,a1] 87 (0,0))]) (fun i=>match i with | 22=>false | _=>true) mixed (fun _ h=>h.drew)<|ma 0 J NQ (kn Kf.id (ai3 0 1 2 J J J)) J<|ma 1 J NQ (kn Kf.id (ai3 0 1 2 J J J)) J ?_
   refine mq 2 J NQ (kn Kf.id (ai3 0 1 2 J J J)) (cQ eh J J A Y) J<|mq 3 J NQ (kn Kf.id (ai3 0 1 2 J J J)) (ax tq J) J<|mq 4 J NQ (kn Kf.id (ai3 0 1 2 J J J)) (aZ sU J (fun x hw=>hw.rg (gb.2 (.inl A.hb)) (A.rg.of_eq 1 1 J J:rg _ _ _ [G]))) J<|ma 5 J NQ (kn Kf.id (ai3 0 1 2 J J J)) J<|ma 6 J NQ (kn Kf.id (ai3 0 1 2 J J J)) J<|ma 7 J NQ (kn Kf.id (ai3 0 1 2 J J J)) J ?_
   refine mq 8 J NQ (kn Kf.id (ai3 0 1 2 J J J)) (cQ eh J J A Y) J<|mq 9 J NQ (kn Kf.id (ai3 0 1 2 J J J)) (ax tq J) J<|mq 10 J NQ (kn Kf.id (ai3 0 1 2 J J J)) (aZ sU J (fun x hw=>hw.rg (gb.2 (.inl A.hb)) (A.rg.of_eq 1 1 J J:rg _ _ _ [G]))) J<|ma 11 J NQ (kn Kf.id (ai3 0 1 2 J J J)) J ?_
   obtain⟨Q,au,h⟩:=bs h
   obtain⟨b6,F5,-,g2,aP,bb,r3⟩:=O.elS (a8 au).2.2
   obtain⟨rfl,-⟩:=r3
   refine mq 12 J NQ (kn Kf.id (ai3 0 1 2 J J J)) (an cq J J O.rsl au) J<|mq 13 J NQ (kn Kf.id (ai3 0 1 2 J J J)) (aZ sD J (fun x hw=>hw.rg (gb.2 (.inr (gb.2 (.inl aP)))) (g2.of_eq 0 1 J J:rg _ _ _ [iV Q]))) J<|ma 14 J NQ (kn Kf.id (ai3 0 1 2 J J J)) J<|ma 15 J NQ (kn Kf.id (ai3 0 1 2 J J J)) J<|ma 16 J NQ (kn Kf.id (ai3 0 1 2 J J J)) J ?_
   obtain⟨S,av,h⟩:=bs h
   obtain⟨bd,F6,-,g3,aQ,be,r4⟩:=y.elS (a8 av).2.2
   obtain⟨rfl,-⟩:=r4
   refine mq 17 J NQ (kn Kf.id (ai3 0 1 2 J J J)) (an cq J J y.rsl av) J<|mq 18 J NQ (kn Kf.id (ai3 0 1 2 J J J)) (aZ sD J (fun x hw=>hw.rg (gb.2 (.inr (gb.2 (.inr aQ)))) (g3.of_eq 0 1 J J:rg _ _ _ [iV S]))) J<|ma 19 J NQ (kn Kf.id (ai3 0 1 2 J J J)) J<|ma 20 J NQ (kn Kf.id (ai3 0 1 2 J J J)) J ?_
   obtain⟨x7,a7,h⟩:=bs h
   obtain⟨bf,F7,-,g4,bg,bh,r5⟩:=O.elS (a8 a7).2.2
   obtain⟨rfl,-⟩:=r5
   refine mq 21 J NQ (kn Kf.id (ai3 0 1 2 J J J)) (an cq J J O.rsl a7) J ?_
   refine WM.one 22 NQ (mu J (fun hc=>by cases hc) (Dp (js:=[1]) (Rr:=[ob M,Z,ob v5,ob j]) (vs:=[iV (wz (Q+(wz (k*S))))]) (x':=wz (Q+(wz (k*S)))) RI.lasts RI.flat zq J J J J ⟨J,trivial⟩ J O (ux a7) ⟨J,J⟩) J ?_)
   rintro aR D4 ⟨⟨T,aa⟩,aS⟩
   replace A:=A.fr aa (T.q 3 J) (T.q 1 J)
   replace y:=y.fr aa (T.q 2 J) dN
   replace h8:=h8.fr aa (T.q 0 J) dN
   refine WM.nil NQ<|att 6 [] J ?_
   have r6:aT aR _ [M,G] (⟨x4.Ids,(x4.Hits.set s4.toNat (wz (Q+(wz (k*S)))))⟩:ao):=⟨M,G,J,J,h8,aS⟩
   obtain⟨D5,aV,aW⟩:=A.unfocus r6 (aT.knows _ _ _ _ r6)
   refine wtL [D5,ob v5,ob j] (smg [1,0,0] J (by simpa[gf,cO] using aW)) ?_
   exact lb [1,1,0] [0,0,0] (aM (_,_,_,_) ⟨h,aV,y⟩)
  refine att 7 [] J ?_
  exact lb [1,1] [0,0,0] (aF (_,_,_,_) ⟨h,X⟩)
 refine xt J ?_
 refine WT.fin hF az.none (fun x hw=>?_)
 cases h
 refine aH (js:=[0,0]) hw J ⟨V,J,J,w⟩
theorem yn (w0:aD e g [[n],ob a,b7,ob l,ad].flatten) (y:bv) (H:aN) (u:ac) (A:Int) (au:RSl fb 5 e ai f y.Rules) (av:OSl bA 133 1 g b7 a H.Alphas) (k:OSl br 100 1 g ad l H.Rules) (ay:g n=some (.cells #[a,l] 35 (0,0))) (aQ:RSl aY 3 e c3 p u.Items) {r:aN} (h:o6 N y H u A=some r) :
  Calls prog 124 [.agg [.string y.Name,f].toArray,pQ n,.agg [p,iV u.Next].toArray,iV A].toArray w0.w (bc g w0.w [[n],ob a,b7,ob l,ad].flatten (fun aA Fs v=>∃ (aB:Value) (aR:List Nat) (aF:Value) (aS:List Nat),v = .tuple #[]∧Fs=[[n],ob aB,aR,ob aF,aS]∧OSl bA 133 1 aA aR aB r.Alphas∧OSl br 100 1 aA aS aF r.Rules∧aA n=some (.cells #[aB,aF] 35 (0,0)))):=by
 refine eL func124 J ntmps124 J (L:=[[n],ob a,b7,ob l,ad]) w0 (fun hF=>?_)
 unfold o6 at h
 refine sr<|lbx J fun D=>lbx J fun E=>arr 5 [2] J<|kab h J J J (fun b z q=>nI N b u A (aQ.y z) q) ?_
 rintro w h v1 bp F1 ⟨Y,aG,v2,rfl,rfl,h1⟩
 replace av:=av.fr aG (Y.q 1 J) (Y.q 2 J)
 replace k:=k.fr aG (Y.q 3 J) (Y.q 4 J)
 replace ay:=aG _ _ ((Y.q 0 J) _ NS) ay
 refine arr 3 [] J<|lnz lz J fun F=>soN 0 mC J ⟨J,h1.one,trivial⟩ J ?_
 refine art 8 [] J ?_
 refine lin (σ:=Hp × (List bF) × List Nat × Int) (fun s=>[(1,pQ n),(3,iV A),(4,pQ D),(6,pQ E),(8,pQ F),(10,iV s.2.2.2)]) (fun s=>St w0 s.1 [(F,.cells #[.string w.1.Kind,v2] 52 (0,0)),(E,.cells #[p,iV u.Next] 29 (0,0)),(D,.cells #[.string y.Name,f] 26 (0,0))] [ob v2,[n],ob a,s.2.2.1,ob l,ad]) (fun m s=>eK N y H u A w m s.2.1 s.2.2.2=some r∧(OSl bA 133 1 s.1 s.2.2.1 a s.2.1)∧(OSl br 100 1 s.1 ad l H.Rules)∧(OSl aU 95 3 s.1 [] v2 w.1.Fields)∧(s.1 n=some (.cells #[a,l] 35 (0,0)))) (bp,H.Alphas,b7,0) N ⟨h,av,k,h1,ay⟩ (sx [0,0,0,0,0,0] [0,0,0]) (fun n1 bq s hm=>?_)
 obtain⟨bt,s1,x,s2⟩:=s
 obtain⟨h,d,k,h1,U⟩:=hm
 dsimp only at h d k h1 U ⊢
 unfold eK at h
 refine atr 5 [] J<|lq (aC J) J<|lf kj J J J<|lgx 0 0 (bP U) J<|lno d J<|la J<|en ?_
 refine ch h J ?_ ?_ <;> intro h
 ·refine atr 5 [] J<|le' (lJ (R:=RI .i64) RI.lasts cq mg J J) J ?_
  rintro v3 bu D2 ⟨ah,h2⟩
  replace d:=d.f0 ah
  replace k:=k.f0 ah
  replace h1:=h1.f0 ah
  replace U:=ah _ _ NS U
  refine art 8 [] J ?_
  refine lin (σ:=Hp × (List Int) × Value × Int) (fun s=>[(1,pQ n),(3,iV A),(4,pQ D),(6,pQ E),(8,pQ F),(10,iV s2),(11,s.2.2.1),(12,iV s.2.2.2)]) (fun s=>St w0 s.1 [(F,.cells #[.string w.1.Kind,v2] 52 (0,0)),(E,.cells #[p,iV u.Next] 29 (0,0)),(D,.cells #[.string y.Name,f] 26 (0,0))] [ob s.2.2.1,ob v2,[n],ob a,x,ob l,ad]) (fun m s=>eJ N A s1 s2 (eK N y H u A w n1) m s.2.1 s.2.2.2=some r∧(OSl bA 133 1 s.1 x a s1)∧(OSl br 100 1 s.1 ad l H.Rules)∧(OSl aU 95 3 s.1 [] v2 w.1.Fields)∧(OSl (RI .i64) 3 1 s.1 [] s.2.2.1 s.2.1)∧(s.1 n=some (.cells #[a,l] 35 (0,0)))) (bu,([]:List Int),v3,0) N ⟨h,d,k,h1,h2,U⟩ (sx [0,0,0,0,0,0,0] [0,0,0]) (fun n2 aT s hm=>?_)
  obtain⟨bw,s3,u1,s4⟩:=s
  obtain⟨h,d,k,h1,I,B⟩:=hm
  dsimp only at h d k h1 I B ⊢
  unfold eJ at h
  refine atr 5 [] J<|lq (aC J) J<|lf kj J J J<|lgx 0 0 (bP B) J<|la J ?_
  obtain⟨x2,aW,h⟩:=bs h
  obtain⟨cy,F2,-,g1,cz,cA,r1⟩:=d.elS (a8 aW).2.2
  obtain⟨v4,rfl,rfl,h3⟩:=r1
  have h4:=h3.rsl
  refine lio d aW J<|lf kO J J J<|lgx 0 0 g1 J<|lnr h4 J<|la J<|en ?_
  refine ch h J ?_ ?_ <;> intro h
  ·refine atr 6 [] J<|lq (aC J) J<|lf kj J J J<|lgx 0 0 (bP B) J<|la J ?_
   obtain⟨x3,aX,h⟩:=bs h
   obtain⟨cB,F3,-,g2,cC,cD,r2⟩:=d.elS (a8 aX).2.2
   obtain⟨v5,rfl,rfl,h5⟩:=r2
   have h6:=h5.rsl
   refine lio d aX J<|lf kO J J J<|lgx 0 0 g2 J<|la J ?_
   obtain⟨x4,b1,h⟩:=bs h
   obtain⟨cE,F4,-,g3,cF,cG,r3⟩:=h6.el (a8 b1).2.2
   obtain⟨rfl,-⟩:=r3
   refine lia h6 b1 J<|lgx 0 0 g3 J<|art 3 [] J ?_
   refine ch h J ?_ ?_ <;> intro h
   ·refine atr 3 [] J<|lq (aC J) J<|lf kj J J J<|lgx 0 0 (bP B) J<|la J ?_
    obtain⟨x5,b2,h⟩:=bs h
    obtain⟨cH,F5,-,g4,cI,cJ,r4⟩:=d.elS (a8 b2).2.2
    obtain⟨v6,rfl,rfl,h7⟩:=r4
    have h8:=h7.rsl
    refine lio d b2 J<|lf kO J J J<|lgx 0 0 g4 J<|la J ?_
    obtain⟨S,b3,h⟩:=bs h
    obtain⟨cK,F6,-,g5,cL,cM,r5⟩:=h8.el (a8 b3).2.2
    obtain⟨rfl,-⟩:=r5
    refine lia h8 b3 J<|lgx 0 0 g5 J ?_
    have bB:RC (RI .i64) 1 bw ([[]]:List (List Nat)) [iV S] ([S]:List Int):=RC.cons (c:=[iV S]) (cells:=[]) ⟨J,J⟩ J (RC.nil _ _ _)
    refine le' (bz (vs:=[(0,iV S)]) (C:=#[iV S]) RI.lasts cq mg J J J J (ar ki (aa (C':=[iV S]) J J J J J (ae))) J bB J (by simpa using Kw.nil)) J ?_
    rintro v7 bC D3 ⟨Z,h9⟩
    replace h9:OSl (RI .i64) 3 1 bC [] v7 ([S]:List Int):=by simpa using h9
    replace d:=d.f0 Z
    replace k:=k.f0 Z
    replace h1:=h1.f0 Z
    replace I:=I.f0 Z
    replace B:=Z _ _ NS B
    obtain⟨x7,bD,h⟩:=bs h
    refine le' (dM RI.lasts RI.one RI.flat cq sh J J J J J (js:=[1]) (Rr:=[ob v7,ob v2,[n],ob a,x,ob l,ad]) J I h9.rsl bD) J ?_
    rintro v8 cN D4 ⟨⟨V,ak⟩,bE⟩
    replace d:=d.fr ak (V.q 3 J) (V.q 4 J)
    replace k:=k.fr ak (V.q 5 J) (V.q 6 J)
    replace h1:=h1.fr ak (V.q 1 J) dN
    replace B:=ak _ _ ((V.q 2 J) _ NS) B
    refine art 8 [] J ?_
    exact lb [0,1,1,1,1,1,1] [0,0,0] (aT (_,_,_,_) ⟨h,d,k,h1,bE,B⟩)
   refine att 7 [] J ?_
   exact lb [0,0,0,0,0,0,0] [0,0,0] (aT (_,_,_,_) ⟨h,d,k,h1,I,B⟩)
  refine atr 3 [] J<|lq (aC J) J<|lf kj J J J<|lgx 0 0 (bP B) J<|arr 2 [] J ?_
  obtain⟨x8,b4,h⟩:=bs h
  obtain⟨cP,F7,D5,b5,r6,cR,bG,cS⟩:=d.focusM b4
  obtain⟨v9,rfl,rfl,cT⟩:=r6
  refine wlL [ob v9,D5,ob u1,ob v2,[n],ob a,ob l,ad] (sre [4] [ob v9,D5] J (by simpa[gf] using bG))<|lih b5 b4 J<|lf kO J J J<|lu (us [5] [ob v9,D5,ob u1,ob v2,[n],ob l,ad] 0 bA.lasts td J J I.one J b5 J (fun ap=>ap.q 1 J)) J ?_
  rintro bI D6 ⟨⟨a7,al⟩,bJ⟩
  replace k:=k.fr al (a7.q 5 J) (a7.q 6 J)
  replace h1:=h1.fr al (a7.q 3 J) dN
  replace I:=I.fr al (a7.q 2 J) dN
  replace B:=al _ _ ((a7.q 4 J) _ NS) B
  refine art 7 [] J ?_
  have r7:bA bI _ [u1] (⟨s3⟩:bF):=⟨u1,J,J,I⟩
  obtain⟨D7,bK,bL⟩:=bJ.unfocus r7 (bA.knows _ _ _ _ r7)
  refine wtL [D7,ob a,ob v9,ob v2,[n],ob l,ad] (smg [3,2] J (by simpa[gf,cO] using bL)) ?_
  exact lb [3,3,1,0,1,1] [0,0,0] (bq (_,_,_,_) ⟨h,bK,k,h1,B⟩)
 refine att 6 [] J ?_
 refine lin (σ:=Hp × (List aP) × List Nat × Int) (fun s=>[(1,pQ n),(3,iV A),(4,pQ D),(6,pQ E),(8,pQ F),(13,iV s.2.2.2)]) (fun s=>St w0 s.1 [(F,.cells #[.string w.1.Kind,v2] 52 (0,0)),(E,.cells #[p,iV u.Next] 29 (0,0)),(D,.cells #[.string y.Name,f] 26 (0,0))] [ob v2,[n],ob a,x,ob l,s.2.2.1]) (fun m s=>eT N y u A w s1 m s.2.1 s.2.2.2=some r∧(OSl bA 133 1 s.1 x a s1)∧(OSl br 100 1 s.1 s.2.2.1 l s.2.1)∧(OSl aU 95 3 s.1 [] v2 w.1.Fields)∧(s.1 n=some (.cells #[a,l] 35 (0,0)))) (bt,H.Rules,ad,0) N ⟨h,d,k,h1,U⟩ (sx [0,0,0,0,0,0] [0,0,0]) (fun n3 bM s hm=>?_)
 obtain⟨bN,s5,D8,s6⟩:=s
 obtain⟨h,d,k5,h1,k6⟩:=hm
 dsimp only at h d k5 h1 k6 ⊢
 unfold eT at h
 refine atr 6 [1,64] J<|lnr au J<|la J<|en ?_
 refine ch h J ?_ ?_ <;> intro h
 ·refine atr 6 [] J<|lq (aC J) J<|lf uT J J J<|lgx 1 0 (bP k6) J<|la J ?_
  obtain⟨x9,b6,h⟩:=bs h
  obtain⟨cU,F8,G,aI,r8,cV,bO⟩:=k5.focus b6
  obtain⟨v10,aJ,rfl,rfl,bQ⟩:=r8
  refine wlL [ob v10,aJ,G,ob v2,[n],ob a,x,ob l] (sre [5] [ob v10,aJ,G] J (by simpa[gf] using bO))<|lih aI b6 J<|lf lQ J J J<|lgx 0 0 aI.rg J<|art 8 [] J ?_
  refine lin (σ:=Hp × (List aq) × List Nat × Int) (fun s=>[(1,pQ n),(3,iV A),(4,pQ D),(6,pQ E),(8,pQ F),(13,iV s6),(14,v10),(15,iV s.2.2.2)]) (fun s=>St w0 s.1 [(F,.cells #[.string w.1.Kind,v2] 52 (0,0)),(E,.cells #[p,iV u.Next] 29 (0,0)),(D,.cells #[.string y.Name,f] 26 (0,0))] [ob v10,s.2.2.1,G,ob v2,[n],ob a,x,ob l]) (fun m s=>fP N y u A w s5 s6 (eT N y u A w s1 n3) m s.2.1 s.2.2.2=some r∧(OSl bA 133 1 s.1 x a s1)∧(OSl aU 95 3 s.1 [] v2 w.1.Fields)∧(OSl aV 103 1 s.1 s.2.2.1 v10 s.2.1)∧(s.1 n=some (.cells #[a,l] 35 (0,0)))∧(HSl br 100 1 s.1 G l s5 s6.toNat [v10])) (bN,x9.Levels,aJ,0) N ⟨h,d,h1,bQ,k6,aI⟩ (sx [0,0,0,0,0,0,0,0] [0,0,0]) (fun n4 bR s hm=>?_)
  obtain⟨ba,s7,cW,s8⟩:=s
  obtain⟨h,d,h1,k8,K,M⟩:=hm
  dsimp only at h d h1 k8 K M ⊢
  unfold fP at h
  refine atr 5 [] J<|lno k8 J<|la J<|en ?_
  refine ch h J ?_ ?_ <;> intro h
  ·refine atr 8 [] J ?_
   obtain⟨bS,aK,h⟩:=bs h
   obtain⟨cX,F9,aL,W,r9,cY,bT⟩:=k8.focus aK
   obtain⟨v11,bb,rfl,rfl,bU⟩:=r9
   refine wlL [ob v11,bb,aL,ob v10,G,ob v2,[n],ob a,x,ob l] (sre [1] [ob v11,bb,aL] J (by simpa[gf] using bT))<|lih W aK J<|lf gZ J J J<|lgx 0 0 W.rg J<|la J<|kcb [0,0] h J J J J (fun b ap z q=>vh N b bS.Toks A bU q) ?_
   rintro bV h v12 cZ da ⟨O,ab,db,bd,rfl,rfl,ao⟩
   replace d:=d.fr ab (O.q 5 J) (O.q 6 J)
   replace M:=M.fr ab (O.q 7 J) (O.q 2 J)
   replace h1:=h1.fr ab (O.q 3 J) dN
   replace W:=W.fr ab (O.q 1 J) (O.q 0 J)
   replace K:=ab _ _ ((O.q 4 J) _ NS) K
   refine lih W aK J<|lf gZ J J J<|lu (us [3] [ob v12,bd,aL,G,ob v2,[n],ob a,x,ob l] 0 aV.lasts Aw J J ao.one J W J (fun ap=>ap.q 2 J)) J ?_
   rintro bW dc ⟨⟨P,af⟩,bZ⟩
   replace d:=d.fr af (P.q 6 J) (P.q 7 J)
   replace M:=M.fr af (P.q 8 J) (P.q 3 J)
   replace h1:=h1.fr af (P.q 4 J) dN
   replace ao:=ao.fr af (P.q 0 J) (P.q 1 J)
   replace K:=af _ _ ((P.q 5 J) _ NS) K
   refine art 7 [] J ?_
   have be:aV bW _ [v12] (⟨bV⟩:aq):=⟨v12,bd,J,J,ao⟩
   obtain⟨c4,c5,c6⟩:=bZ.unfocus be (aV.knows _ _ _ _ be)
   refine wtL [c4,ob v10,G,ob v2,[n],ob a,x,ob l] (smg [1,1,1] J (by simpa[gf,cO] using c6)) ?_
   exact lb [1,0,0,0,0,0,0,0] [0,0,0] (bR (_,_,_,_) ⟨h,d,h1,c5,K,M⟩)
  refine xt J<|WT.mix (Kn w0 ba (ob v10) [(F,.cells #[.string w.1.Kind,v2] 52 (0,0)),(E,.cells #[p,iV u.Next] 29 (0,0)),(D,.cells #[.string y.Name,f] 26 (0,0))]) (fun i=>match i with | 14=>false | _=>true) mixed (fun _ h=>h.drew)<|mq 5 J NQ (kn Kf.id (ai3 0 1 2 J J J)) (aw mD J (fun T hw=>hw.rgO (i:=1) J 0 2 [p,iV u.Next] J) J) J<|mq 13 J NQ (kn Kf.id (ai3 0 1 2 J J J)) (aw mf J (fun T hw=>hw.rgO (i:=0) J 0 2 [.string w.1.Kind,v2] J) J) J ?_
  refine mqT 0 [1,3,4,14] J NQ (kn Kf.id (ai3 0 1 2 J J J)) (ax xK J) J<|mqT 1 [3,4,14] J NQ (kn Kf.id (ai3 0 1 2 J J J)) (aZ JS J (fun T hw=>hw.rgO (i:=2) J 1 1 [f] J)) J<|mqT 2 [3,4,14] J NQ (kn Kf.id (ai3 0 1 2 J J J)) (iZ J) J ?_
  obtain⟨aM,bf,h⟩:=bs h
  obtain⟨dd,de,-,g6,df,dg,c7⟩:=au.el (a8 bf).2.2
  obtain⟨c8,G1,ca,G2,cb,G3,rfl,rfl,cc,cd,cf⟩:=c7
  refine mqT 3 [4,14] J NQ (kn Kf.id (ai3 0 1 2 J J J)) (an El J J au bf) J<|mq 4 J NQ (kn Kf.id (ai3 0 1 2 J J J)) (aw tQ J (fun T hw=>(g6.of_eq 0 5 J J:rg _ _ _ [.string aM.Name,iV aM.Sal,c8,ca,cb]).rangeAt hw.1) J) J<|mqT 6 [10,11,12,14] J NQ (kn Kf.id (ai3 0 1 2 J J J)) (iZ J) J<|mqT 7 [8,9,10,11,12,14] J NQ (kn Kf.id (ai3 0 1 2 J J J)) (iZ J) J ?_
  refine mqT 8 [9,10,11,12,14] J NQ (kn Kf.id (ai3 0 1 2 J J J)) (mK sP J J (k8.rslG aV.gives)) J<|mqT 9 [10,11,12,14] J NQ (kn Kf.id (ai3 0 1 2 J J J)) (EO J J) J ?_
  obtain⟨cg,bg,h⟩:=bs h
  obtain⟨dh,di,aO,X,cj,dj,ck⟩:=k8.focus bg
  obtain⟨v17,bh,rfl,rfl,cm⟩:=cj
  refine WM.conv (S':=St w0 ba [(F,.cells #[.string w.1.Kind,v2] 52 (0,0)),(E,.cells #[p,iV u.Next] 29 (0,0)),(D,.cells #[.string y.Name,f] 26 (0,0))] [ob v17,bh,aO,ob v10,G,ob v2,[n],ob a,x,ob l]) (fun T hw=>hw.re (js:=[1]) (Bs:=[ob v17,bh,aO]) J (by simpa[gf] using ck))<|mqT 10 [11,12,14] J NQ (kn Kf.id (ai3 0 1 2 J J J)) (cQ sP J J X bg) J<|mqT 11 [12,14] J NQ (kn Kf.id (ai3 0 1 2 J J J)) (ax gZ J) J ?_
  refine mq 12 J NQ (kn Kf.id (ai3 0 1 2 J J J)) (aZ Bd J (fun T hw=>hw.rg X.hb (X.rg.of_eq 0 1 J J:rg _ _ _ [v17]))) J ?_
  obtain⟨bk,cn,h⟩:=bs h
  refine WM.one 14 NQ (mc J (fun hc=>by cases hc) (bH (js:=[0,0]) (R:=[aO,ob v10,G,ob v2,[n],ob a,x,ob l]) ED J J (fun T hw ap hl=>sm N (bx hw ap hl) aM u cg.Toks w.1 (-1) (cc.y (hw.uo ap)) (cd.y (hw.uo ap)) (cf.y (hw.uo ap)) (aQ.y (hw.uo ap)) cm (h1.rsl.x (Dj.app (ap.q 3 J) dN))  cn)) J ?_)
  rintro dk bl dm ⟨Q,ag,cp,rfl,rfl,cr⟩
  replace d:=d.fr ag (Q.q 5 J) (Q.q 6 J)
  replace M:=M.fr ag (Q.q 7 J) (Q.q 2 J)
  replace h1:=h1.fr ag (Q.q 3 J) dN
  replace X:=X.fr ag (Q.q 1 J) (Q.q 0 J)
  replace K:=ag _ _ ((Q.q 4 J) _ NS) K
  refine WM.nil NQ<|att 6 [] J ?_
  have bm:aV bl _ [v17] (⟨bk⟩:aq):=⟨v17,cp,J,J,cr⟩
  obtain⟨bn,ct,cu⟩:=X.unfocus bm (aV.knows _ _ _ _ bm)
  refine wtL [bn,ob v10,G,ob v2,[n],ob a,x,ob l] (smg [0,0,0] J (by simpa[gf,cO] using cu)) ?_
  have bo:br bl _ [v10] (⟨(s7.set (wz ((s7.length:Int) - 1)).toNat (⟨bk⟩:aq))⟩:aP):=⟨v10,bn,J,J,ct⟩
  obtain⟨cv,cw,cx⟩:=M.unfocus bo (br.knows _ _ _ _ bo)
  refine wtL [cv,ob v2,[n],ob a,x,ob l] (smg [1,0,0] J (by simpa[gf,cO] using cx)) ?_
  exact lb [1,1,1,1,1,0] [0,0,0] (bM (_,_,_,_) ⟨h,d,cw,h1,K⟩)
 refine xt J ?_
 refine WT.fin hF az.none (fun T hw=>?_)
 cases h
 refine aH (js:=[1,1,1,1,1]) hw J ⟨a,x,l,D8,J,J,d,k5,k6⟩
theorem Br  (w0:aD e g []) (c:Int) (d:Int) (i:Int)  {r:Bool} (h:tf N c d i=some r) :
  CB w0 prog 46 [iV c,iV d,iV i] (.bool r):=by
 refine eN func46 J ntmps46 J w0 fun k=>?_
 unfold tf at h
 refine atr 10 [] J ?_
 obtain⟨m,b,h⟩:=bs h
 refine WL.cutN 4 [(14,.bool m),(6,.bool false)] ?_ (fun K=>?_)
 rotate_left
 ·refine sp 10 b J (fun b=>?_) fun b=>?_
  ·refine arr 4 [] J ?_
   cases b
   exact ku K
  ·refine arr 4 [] J ?_
   cases b
   exact ku K
 refine la J<|en ?_
 exact rt k h
theorem zb (w0:aD e g []) (b:av) (i:aI) (z:RSl aU 3 e ai f b.Consts) (A:RSl (RI .i64) 1 e aE o b.At) (w:RSl aU 3 e aj a i.Fields) {r:Bool} (h:pK N b i=some r) :
  CB w0 prog 194 [.agg [.string b.Kind,iV b.N,f,o].toArray,.agg [.string i.Kind,a].toArray] (.bool r):=by
 refine eN func194 J ntmps194 J w0 fun B=>?_
 unfold pK at h
 refine sr<|lbx J fun q=>lbx J fun u=>arr 11 [0,32,0,0] J ?_
 obtain⟨L,v,h⟩:=bs h
 refine WL.cutN 7 [(19,.bool L),(2,pQ q),(3,pQ u)] ?_ (fun K=>?_)
 rotate_left
 ·refine sp 12 v J (fun v=>?_) fun v=>?_
  ·refine arr 7 [] J ?_
   cases v
   exact ku K
  ·refine arr 4 [1,32,1,0] J<|ly J J<|lnr w J<|arr 2 [] J ?_
   cases v
   exact ku K
 refine en ?_
 refine ch h J ?_ ?_ <;> intro h
 ·refine att 4 [] J ?_
  exact rt B h
 refine att 7 [] J ?_
 refine lin (σ:=Int) (fun s=>[(2,pQ q),(3,pQ u),(5,iV s)]) (fun s=>St w0 g [(u,.cells #[.string i.Kind,a] 52 (0,0)),(q,.cells #[.string b.Kind,iV b.N,f,o] 137 (0,0))] []) (fun m s=>iF N b i m s=some r) (0) N h (sx [] [0,0]) (fun M O s hm=>?_)
 revert hm;revert s;intro s1 hm
 have h:iF N b i (M+1) s1=some r:=hm
 show WT _ _ [(2,pQ q),(3,pQ u),(5,iV s1)] (St w0 g [(u,.cells #[.string i.Kind,a] 52 (0,0)),(q,.cells #[.string b.Kind,iV b.N,f,o] 137 (0,0))] [])
 unfold iF at h
 refine atr 6 [3,32] J<|lnr A J<|la J<|en ?_
 refine ch h J ?_ ?_ <;> intro h
 ·refine atr 8 [3,32] J ?_
  obtain⟨E,F,h⟩:=bs h
  obtain⟨V,W,-,g1,X,Y,P⟩:=A.el (a8 F).2.2
  obtain⟨rfl,-⟩:=P
  refine lia A F J<|lhx 0 0 g1 J<|art 3 [] J<|WT.draw mixed NQ (fun _ h=>h.drew)<|aqq 3 [2,32] J<|qq (mK iX J J z) J<|aqq 2 [] J ?_
  obtain⟨Q,k,h⟩:=bs h
  refine WQ.cutN 8 [(45,.bool Q),(2,pQ q),(3,pQ u),(5,iV s1),(6,iV E)] ?_ (fun K=>?_)
  rotate_left
  ·refine WQ.split (d:=37) J (fun C=>?_) (fun C=>?_)
   ·replace k:=lP k C
    refine aqq 8 [] J ?_
    cases k
    exact kq K
   ·replace k:=mb k C
    refine aqq 3 [1,0] J<|WQ.yes J J<|qq (mK iX J J w) J<|WQ.yes J J<|qq (EO J J) J<|WQ.yes J J ?_
    obtain⟨Z,R,k⟩:=bs k
    refine qp (jk Lu J (fun G hw=>Br N (ba hw.fro) E 0 (wz ((i.Fields.length:Int) - 1)) R)) J<|aqq 2 [] J ?_
    cases k
    exact kq K
  refine qq (iZ J) J ?_
  obtain⟨S,c,h⟩:=bs h
  refine WQ.cutN 12 [(58,.bool S),(2,pQ q),(3,pQ u),(5,iV s1)] ?_ (fun K=>?_)
  rotate_left
  ·refine WQ.split (d:=46) J (fun D=>?_) (fun D=>?_)
   ·replace c:=lP c D
    refine aqq 12 [] J ?_
    cases c
    exact kq K
   ·replace c:=mb c D
    refine aqq 3 [1,0] J<|WQ.yes J J ?_
    obtain⟨x,H,c⟩:=bs c
    obtain⟨a7,F2,-,g2,aa,ab,T⟩:=w.el (a8 H).2.2
    obtain⟨rfl,-⟩:=T
    refine qq (an iX J J w H) J<|WQ.yes J J<|qq (aw l6 J (fun G hw=>(g2.of_eq 0 3 J J:rg _ _ _ [iV x.K,iV x.N,.string x.S]).rangeAt hw.in0) J) J<|aqq 3 [2,32] J<|WQ.yes J J ?_
    obtain⟨y,I,c⟩:=bs c
    obtain⟨ae,F3,-,g3,af,ag,U⟩:=z.el (a8 I).2.2
    obtain⟨rfl,-⟩:=U
    refine qq (an iX J J z I) J<|WQ.yes J J<|qq (aw l6 J (fun G hw=>(g3.of_eq 0 3 J J:rg _ _ _ [iV y.K,iV y.N,.string y.S]).rangeAt hw.in0) J) J<|WQ.yes J J<|qq (tH oe J J J (r:=bQ x y) J) J<|WQ.q (rQ J J) J J J ?_
    cases c
    exact kq K
  refine WQ.nil ?_
  refine ch h J ?_ ?_ <;> intro h
  ·refine att 4 [] J ?_
   exact rt B h
  refine att 7 [] J ?_
  exact lb [] [0,0] (O _ h)
 refine att 5 [] J ?_
 exact rt B h
theorem pH (w0:aD e g [ob t,a6].flatten) (F:(List ao)) (m:af) (u:ac) (G:(List Int)) (k:Int) (d:OSl aT 105 2 g a6 t F) (U:RSl cS 3 e aj a m.Pats) (V:RSl cH 11 e pG1_1 l m.Conds) (W:RSl hU 5 e pG1_2 bY m.Acts) (X:RSl aY 3 e c3 p u.Items) (Y:RSl (RI .i64) 1 e pG3 c9 G) {r:(List ao)} (h:kl N F m u G k=some r) :
  Calls prog 230 [t,.agg [.string m.Name,iV m.Sal,a,l,bY].toArray,.agg [p,iV u.Next].toArray,c9,iV k].toArray w0.w (bc g w0.w [ob t,a6].flatten (fun Z Fs v=>∃ (x:Value) (H:List Nat),v=x∧Fs=[ob x,H]∧OSl aT 105 2 Z H x r)):=by
 refine eL func230 J ntmps230 J (L:=[ob t,a6]) w0 (fun I=>?_)
 unfold kl at h
 refine sr<|lbx J fun ax=>lbx J fun ay=>arr 4 [] J<|le' (lJ (R:=RI .i64) RI.lasts cq mg J J) J ?_
 rintro v1 aA D1 ⟨a7,h1⟩
 replace d:=d.f0 a7
 refine la J<|lu0 Y fun h2=>?_
 obtain⟨x1,a8,h⟩:=bs h
 refine le' (dM RI.lasts RI.one RI.flat cq sh J J J J J (js:=[0]) (Rr:=[ob t,a6]) J h1 h2 a8) J ?_
 rintro v2 ab D2 ⟨⟨K,ag⟩,y⟩
 replace d:=d.fr ag (K.q 0 J) (K.q 1 J)
 refine la J ?_
 have ah:RC (RI .i64) 1 ab ([[]]:List (List Nat)) [iV k] ([k]:List Int):=RC.cons (c:=[iV k]) (cells:=[]) ⟨J,J⟩ J (RC.nil _ _ _)
 refine le' (bz (vs:=[(0,iV k)]) (C:=#[iV k]) RI.lasts cq mg J J J J (ar ki (aa (C':=[iV k]) J J J J J (ae))) J ah J (by simpa using Kw.nil)) J ?_
 rintro v3 ak D3 ⟨M,A⟩
 replace A:OSl (RI .i64) 3 1 ak [] v3 ([k]:List Int):=by simpa using A
 replace d:=d.f0 M
 replace y:=y.f0 M
 obtain⟨B,al,h⟩:=bs h
 refine le' (dM RI.lasts RI.one RI.flat cq sh J J J J J (js:=[1]) (Rr:=[ob v3,ob t,a6]) J y A.rsl al) J ?_
 rintro v4 aB D4 ⟨⟨O,an⟩,s⟩
 replace d:=d.fr an (O.q 1 J) (O.q 2 J)
 refine arr 7 [37,2] J<|kab h J J J (fun b z q=>ol N b m u B (U.y z) (V.y z) (W.y z) (X.y z) s.rsl q) ?_
 rintro x3 h v5 aC F1 ⟨D,P,v6,rfl,rfl,h6⟩
 replace d:=d.fr P (D.q 2 J) (D.q 3 J)
 replace s:=s.fr P (D.q 0 J) dN
 refine art 12 [] J ?_
 refine ch h J ?_ ?_ <;> intro h
 ·refine att 5 [] J ?_
  exact rtg [3,3] I (az.one J) J (by cases h;exact fun w1 hw=>⟨t,a6,rfl,rfl,d⟩)
 refine atr 5 [] J<|le' (lJ (R:=RI .i64) RI.lasts cq mg J J) J ?_
 rintro i aq D5 ⟨Q,S⟩
 replace d:=d.f0 Q
 replace s:=s.f0 Q
 refine lq (bu (vs:=[(0,v4),(1,i)]) (C:=#[v4,i]) Di ib J (aa (C':=[v4,.slice none 0 0]) J (d6 s.one) J J J (aa (C':=[v4,i]) J (d6 S.one) J J J (ae)))) J ?_
 have T:RC aT 2 aq ([(ob v4++[])++((ob i++[]))]:List (List Nat)) [v4,i] ([(⟨B,([]:List Int)⟩:ao)]:List ao):=RC.cons (c:=[v4,i]) (cells:=[]) ⟨v4,i,J,J,s,S⟩ J (RC.nil _ _ _)
 refine le' (bz (vs:=[(0,.agg [v4,i].toArray)]) (C:=#[v4,i]) aT.lasts eh ib J J J J (ar ve (aa (C':=[v4,i]) J J J J J (ae))) J T J (RC.kn aT.knows T)) J ?_
 rintro w au D6 ⟨av,E⟩
 replace E:OSl aT 105 2 au ((ob v4++[])++((ob i++[]))) w ([(⟨B,([]:List Int)⟩:ao)]:List ao):=by simpa[gf] using E
 replace d:=d.f0 av
 refine wlL [((ob v4++[])++((ob i++[]))),ob w,ob v6,ob v3,ob t,a6] (smg [3,1] J (SP.eq (by simp[gf,cO]))) ?_
 obtain⟨x4,aw,h⟩:=bs h
 refine le' (dS aT.lasts aT.one eh qw J J J J J (js:=[4]) (Rr:=[((ob v4++[])++((ob i++[]))),ob w,ob v6,ob v3,a6]) J d E (fun ap=>ap.q 4 J) (fun ap=>ap.q 0 J) aw) J ?_
 rintro v9 aF D7 ⟨⟨aG,aH⟩,h9⟩
 refine wlL [(a6++((ob v4++[])++((ob i++[])))),ob v9,ob w,ob v6,ob v3] (smg [5,1] J (SP.eq NS))<|la J<|en ?_
 exact rtg [1,0] I (az.one J) J (by cases h;exact fun w1 hw=>⟨v9,(a6++((ob v4++[])++((ob i++[])))),J,J,h9⟩)
theorem xk (w0:aD e g [ob p].flatten) (d:af) (k:ac) (x:ao) (H:RSl cS 3 e ai f d.Pats) (K:RSl cH 11 e aE o d.Conds) (M:RSl hU 5 e b9 a1 d.Acts) (I:RSl aY 3 e aj a k.Items) (c:OSl (RI .i64) 3 1 g [] p x.Ids) (aG:RSl (RI .i64) 1 e pG2_1 c0 x.Hits) {r:ao} (h:mL N d k x=some r) :
  Calls prog 231 [.agg [.string d.Name,iV d.Sal,f,o,a1].toArray,.agg [a,iV k.Next].toArray,.agg [p,c0].toArray].toArray w0.w (bc g w0.w [ob p].flatten (fun Y Fs v=>∃ (O:Value) (P:Value),v = .agg [O,P].toArray∧Fs=[ob O,ob P]∧OSl (RI .i64) 3 1 Y [] O r.Ids∧OSl (RI .i64) 3 1 Y [] P r.Hits)):=by
 refine eL func231 J ntmps231 J (L:=[ob p]) w0 (fun hF=>?_)
 unfold mL at h
 refine sr<|lbx J fun B=>lbx J fun C=>lbx J fun E=>lnz ib J fun F=>arr 7 [101,66,0,32] J<|kab h J J J (fun b z q=>ol N b d k x.Ids (H.y z) (K.y z) (M.y z) (I.y z) c.rsl q) ?_
 rintro G h v1 aH F1 ⟨ag,ah,v2,rfl,rfl,h1⟩
 replace c:=c.fr ah (ag.q 0 J) dN
 refine art 7 [] J<|wm [0,1,2,3] [8] J<|amm 2 [0,2,1,96] [0,1,2,3] J J<|mq 2 J NQ (kN [0,1,2,3]) (mK tb J J H) J<|amm 1 [3,101] [0,1,2,3] J J ?_
 obtain⟨x2,ak,h⟩:=bs h
 refine on1 4 (mp J (kS [0,1,2,3]) (pdP J (rT N · d H K M ak)) J ?_)
 refine amm 1 [5] [0,1,2,3] J J ?_
 obtain⟨x3,Z,h⟩:=bs h
 refine WM.one 6 NQ (me J (fun _ v al D u hq hw=>Kn.of Kf.nil (am [0,1,2,3] J) hw) (Dm (R:=(RI .i64)) cq mg N8 J J J (fun _=>⟨J,J⟩) J J (Int.le_refl _) Z (Hd Z)) J ?_)
 rintro v3 aq D1 ⟨a7,h2⟩
 replace c:=c.f0 a7
 replace h1:=h1.f0 a7
 refine amm 1 [7,1] [0,1,2,3] J J ?_
 refine on1 8 (ms1 1 J nk td J h2.one ?_)
 refine WM.nil NQ<|att 6 [] J ?_
 refine lin (σ:=Hp × (List Int) × Int) (fun s=>[(3,pQ B),(4,pQ C),(5,pQ E),(6,pQ F),(7,v2),(9,iV s.2.2)]) (fun s=>St w0 s.1 [(F,.cells #[.slice none 0 0,.slice none 0 0] 105 (0,0)),(E,.cells #[p,v3] 105 (0,0)),(C,.cells #[a,iV k.Next] 29 (0,0)),(B,.cells #[.string d.Name,iV d.Sal,f,o,a1] 87 (0,0))] [ob v3,ob v2,ob p]) (fun m s=>dK N d k x G m s.2.1 s.2.2=some r∧(OSl (RI .i64) 3 1 s.1 [] p x.Ids)∧(OSl aJ 97 4 s.1 [] v2 G.1)∧(OSl (RI .i64) 3 1 s.1 [] v3 s.2.1)) (aq,x3,0) N ⟨h,c,h1,h2⟩ (sx [0,0,0] [0,0,0,0]) (fun n1 ar s hm=>?_)
 obtain⟨aI,s1,s2⟩:=s
 obtain⟨h,c,h1,A⟩:=hm
 dsimp only at h c h1 A ⊢
 unfold dK at h
 refine atr 6 [0,64] J<|lnr I J<|la J<|en ?_
 refine ch h J ?_ ?_ <;> intro h
 ·refine att 4 [] J<|wm [0,1,2,3] [] J<|amm 4 [0,101,1,0,2,64,3] [0,1,2,3] J J ?_
  obtain⟨x4,aa,h⟩:=bs h
  obtain⟨aK,F2,-,g1,aL,aM,r1⟩:=I.el (a8 aa).2.2
  obtain⟨v4,G1,rfl,au,h3⟩:=r1
  obtain rfl:=au.symm
  refine mq 4 J NQ (kN [0,1,2,3]) (an mN J J I aa) J<|amm 1 [5,1] [0,1,2,3] J J<|mq 6 J NQ (kN [0,1,2,3]) (aw mf J (fun u hw=>(g1.of_eq 1 2 J J:rg _ _ _ [.string x4.F.Kind,v4]).rangeAt hw.1) J) J<|amm 1 [7] [0,1,2,3] J J ?_
  obtain⟨x5,av,h⟩:=bs h
  refine WM.one 8 NQ (mc J (fun _ v al D u hq hw=>Kn.of Kf.nil (am [0,1,2,3] J) hw) (bH (js:=[]) (R:=[ob v3,ob v2,ob p]) JB J J (fun u hw ap hl=>tI N (ba hw.fro) d x4.F G.1 (H.y hw.up) (K.y hw.up) (M.y hw.up) (h3.y hw.up) h1.rsl  av)) J ?_)
  rintro v5 ay F3 ⟨Q,S,v6,rfl,rfl,w⟩
  replace c:=c.fr S (Q.q 2 J) dN
  replace h1:=h1.fr S (Q.q 1 J) dN
  replace A:=A.fr S (Q.q 0 J) dN
  refine amm 1 [9] [0,1,2,3] J J<|WM.nil NQ<|att 5 [] J ?_
  refine lin (σ:=Hp × (List Int) × Int) (fun s=>[(3,pQ B),(4,pQ C),(5,pQ E),(6,pQ F),(7,v2),(9,iV s2),(10,v5),(11,iV s.2.2)]) (fun s=>St w0 s.1 [(F,.cells #[.slice none 0 0,.slice none 0 0] 105 (0,0)),(E,.cells #[p,v3] 105 (0,0)),(C,.cells #[a,iV k.Next] 29 (0,0)),(B,.cells #[.string d.Name,iV d.Sal,f,o,a1] 87 (0,0))] [ob v5,ob v3,ob v2,ob p]) (fun m s=>fa N s2 (dK N d k x G n1) x5 m s.2.1 s.2.2=some r∧(OSl (RI .i64) 3 1 s.1 [] p x.Ids)∧(OSl aJ 97 4 s.1 [] v2 G.1)∧(OSl (RI .i64) 3 1 s.1 [] v3 s.2.1)∧(OSl (RI .i64) 3 1 s.1 [] v5 x5)) (ay,s1,0) N ⟨h,c,h1,A,w⟩ (sx [0,0,0,0] [0,0,0,0]) (fun n2 aA s hm=>?_)
  obtain⟨aB,s3,s4⟩:=s
  obtain⟨h,c,h1,y,w⟩:=hm
  dsimp only at h c h1 y w ⊢
  unfold fa at h
  refine atr 5 [] J<|lno w J<|la J<|en ?_
  refine ch h J ?_ ?_ <;> intro h
  ·refine att 3 [] J<|WT.mix (Kn w0 aB (ob v3++ob v5) [(F,.cells #[.slice none 0 0,.slice none 0 0] 105 (0,0)),(E,.cells #[p,v3] 105 (0,0)),(C,.cells #[a,iV k.Next] 29 (0,0)),(B,.cells #[.string d.Name,iV d.Sal,f,o,a1] 87 (0,0))]) (fun i=>match i with | 14=>false | _=>true) mixed (fun _ h=>h.drew)<|mq 0 J NQ (kn Kf.id (am [0,1,2,3] J)) (ax tq J) J<|mq 1 J NQ (kn Kf.id (am [0,1,2,3] J)) (aZ sU J (fun u hw=>hw.rgO (i:=1) J 1 1 [v3] J)) J ?_
   refine ma 2 J NQ (kn Kf.id (am [0,1,2,3] J)) J<|mq 3 J NQ (kn Kf.id (am [0,1,2,3] J)) (ax tq J) J<|mq 4 J NQ (kn Kf.id (am [0,1,2,3] J)) (aZ sU J (fun u hw=>hw.rgO (i:=1) J 1 1 [v3] J)) J<|ma 5 J NQ (kn Kf.id (am [0,1,2,3] J)) J ?_
   obtain⟨T,ab,h⟩:=bs h
   obtain⟨aN,F4,-,g2,aC,aO,r2⟩:=y.elS (a8 ab).2.2
   obtain⟨rfl,-⟩:=r2
   refine mq 6 J NQ (kn Kf.id (am [0,1,2,3] J)) (an cq J J y.rsl ab) J<|mq 7 J NQ (kn Kf.id (am [0,1,2,3] J)) (aZ sD J (fun u hw=>hw.rg (gb.2 (.inl aC)) (g2.of_eq 0 1 J J:rg _ _ _ [iV T]))) J<|ma 8 J NQ (kn Kf.id (am [0,1,2,3] J)) J<|ma 9 J NQ (kn Kf.id (am [0,1,2,3] J)) J ?_
   obtain⟨U,ae,h⟩:=bs h
   obtain⟨aP,F5,-,g3,aF,aQ,r3⟩:=w.elS (a8 ae).2.2
   obtain⟨rfl,-⟩:=r3
   refine mq 10 J NQ (kn Kf.id (am [0,1,2,3] J)) (an cq J J w.rsl ae) J<|mq 11 J NQ (kn Kf.id (am [0,1,2,3] J)) (aZ sD J (fun u hw=>hw.rg (gb.2 (.inr aF)) (g3.of_eq 0 1 J J:rg _ _ _ [iV U]))) J<|ma 12 J NQ (kn Kf.id (am [0,1,2,3] J)) J ?_
   obtain⟨x8,V,h⟩:=bs h
   obtain⟨aR,F6,-,g4,aS,aT,r4⟩:=y.elS (a8 V).2.2
   obtain⟨rfl,-⟩:=r4
   refine mq 13 J NQ (kn Kf.id (am [0,1,2,3] J)) (an cq J J y.rsl V) J ?_
   refine WM.one 14 NQ (mu J (fun hc=>by cases hc) (Dp (js:=[1]) (Rr:=[ob v5,ob v2,ob p]) (vs:=[iV (wz (T+U))]) (x':=wz (T+U)) RI.lasts RI.flat zq J J J J ⟨J,trivial⟩ J y (ux V) ⟨J,J⟩) J ?_)
   rintro aU D2 ⟨⟨W,X⟩,h5⟩
   replace c:=c.fr X (W.q 2 J) dN
   replace h1:=h1.fr X (W.q 1 J) dN
   replace w:=w.fr X (W.q 0 J) dN
   refine WM.nil NQ<|att 6 [] J ?_
   exact lb [1,0,0,0] [0,0,0,0] (aA (_,_,_) ⟨h,c,h1,h5,w⟩)
  refine att 7 [] J ?_
  exact lb [1,1,1] [0,0,0,0] (ar (_,_,_) ⟨h,c,h1,y⟩)
 refine atr 4 [34] J<|soN 0 oX J ⟨c.one,A.one,trivial⟩ J ?_
 refine en ?_
 exact rtg [2,0] hF (az.one (aX Du J (fun u hw=>hw.rgO (i:=0) J 0 2 [p,v3] J) J)) J (by cases h;exact fun u hw=>⟨p,v3,rfl,rfl,c,A⟩)
end Go.Proofs.YtedmfnmbjglmbaaGreat
