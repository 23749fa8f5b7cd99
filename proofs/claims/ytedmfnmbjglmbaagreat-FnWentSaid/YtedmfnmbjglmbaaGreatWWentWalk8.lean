/- Printed by a program of ours: each Go function computes its Lean function. -/
import Derived.Test.YtedmfnmbjglmbaaGreatProg
import Derived.Test.YtedmfnmbjglmbaaGreatWWentWalk7
namespace Go.Proofs.YtedmfnmbjglmbaaGreat
open Eng Tryz
open Go.RowKit (Below)
set_option linter.unusedVariables false
set_option linter.unusedSimpArgs false
set_option maxRecDepth 100000
set_option maxHeartbeats 1000000
variable {e g:Hp} {f o t a j a1 aE l p c9 c0 bX:Value} {ai b0 c3 a6 aj bj b9 b8 pG3_0 b7 ad bY pG1_1 pG1_2 pG3 pG2_1:List Nat} {n:Nat} (N:Nat)
theorem A3 (w0:aA e g []) (z:bH) (al:RSl cF 4 e ai f z.Alphas) (H:RSl ei 2 e b0 o z.Chains) {r:aJ} (h:qD N z=some r) :
  Calls prog 123 [.agg [f,o].toArray].toArray w0.w (bc g w0.w [] (fun Q Fs v=>∃ (I:Value) (R:List Nat) (K:Value) (S:List Nat),v = .agg [I,K].toArray∧Fs=[ob I,R,ob K,S]∧OSl bb 133 1 Q R I r.Alphas∧OSl aZ 100 1 Q S K r.Rules)):=by
 refine eN func123 J ntmps123 J w0 fun hF=>?_
 unfold qD at h
 refine sr<|lbx J fun A=>lnz mM J fun B=>en<|sr<|lq (bE (vs:=[]) (C:=#[.slice none 0 0,.slice none 0 0]) KT mM J (af)) J<|lnz mM J fun D=>soN 0 oC J ⟨J,J,trivial⟩ J ?_
 refine art 7 [] J<|wtS<|wt0 ?_
 have k1:=OSl.nil bb 133 1 g
 refine lin (σ:=Hp × (List bk) × Value × List Nat × Int) (fun s=>[(1,pQ A),(2,pQ B),(3,pQ D),(4,iV s.2.2.2.2)]) (fun s=>St w0 s.1 [(D,.cells #[s.2.2.1,.slice none 0 0] 35 (0,0)),(B,.cells #[.slice none 0 0,.slice none 0 0] 35 (0,0)),(A,.cells #[f,o] 47 (0,0))] [s.2.2.2.1,ob s.2.2.1]) (fun m s=>jZ N z m s.2.1 s.2.2.2.2=some r∧(OSl bb 133 1 s.1 s.2.2.2.1 s.2.2.1 s.2.1)) (g,([]:List bk),(.slice none 0 0),[],0) N ⟨h,k1⟩ (sx [0,0] [0,0,0]) (fun n1 an s hm=>?_)
 obtain⟨L,s1,d,k,s2⟩:=s
 obtain⟨h,b⟩:=hm
 dsimp only at h b ⊢
 unfold jZ at h
 refine atr 6 [0,64] J<|lnr al J<|la J<|en ?_
 refine ch h J ?_ ?_<;>intro h
 ·refine atr 6 [0,0] J<|lq (bE (vs:=[]) (C:=#[.slice none 0 0]) Ii tM J (af)) J ?_
  have T:RC bb 1 L ([(ob (.slice none 0 0)++[])]:List (List Nat)) [.slice none 0 0] ([(⟨[]⟩:bk)]:List bk):=RC.cons (c:=[.slice none 0 0]) (cells:=[]) ⟨.slice none 0 0,J,J,OSl.nil _ _ _ _⟩ J (RC.nil _ _ _)
  refine le' (bC (vs:=[(0,.agg [.slice none 0 0].toArray)]) (C:=#[.slice none 0 0]) bb.lasts rn tM J J J J (av CU (aa (C':=[.slice none 0 0]) J J J J J (af))) J T J (RC.kn bb.knows T)) J ?_
  rintro v1 ao D2 ⟨aq,h1⟩
  replace h1:OSl bb 133 1 ao ((ob (.slice none 0 0)++[])) v1 ([(⟨[]⟩:bk)]:List bk):=by simpa[gi] using h1
  replace b:=b.f0 aq
  refine wlL [((ob (.slice none 0 0)++[])),ob v1,k,ob d] (smg [] J (SP.eq (by simp[gi,cK]))) ?_
  obtain⟨x1,au,h⟩:=bs h
  refine le' (em bb.lasts bb.one rn IY J J J J J (js:=[3]) (Rr:=[((ob (.slice none 0 0)++[])),ob v1,k]) J b h1 (fun ap=>ap.q 2 J) (fun ap=>ap.q 0 J) au) J ?_
  rintro v2 aI D3 ⟨⟨aK,aL⟩,U⟩
  refine wlL [(k++((ob (.slice none 0 0)++[]))),ob v2,ob v1] (smg [3,1] J (SP.eq OW))<|lf jq J J J<|so1 0 Ll J U.one ?_
  refine art 7 [] J ?_
  exact lb [0,0] [0,0,0] (an (_,_,_,_,_) ⟨h,U⟩)
 refine att 7 [] J<|wtS<|wt0 ?_
 have k3:=OSl.nil aZ 100 1 L
 refine lin (σ:=Hp × (List aH) × Value × List Nat × Int) (fun s=>[(1,pQ A),(2,pQ B),(3,pQ D),(5,iV s.2.2.2.2)]) (fun s=>St w0 s.1 [(D,.cells #[d,s.2.2.1] 35 (0,0)),(B,.cells #[.slice none 0 0,.slice none 0 0] 35 (0,0)),(A,.cells #[f,o] 47 (0,0))] [s.2.2.2.1,ob s.2.2.1,k,ob d]) (fun m s=>fM N z s1 m s.2.1 s.2.2.2.2=some r∧(OSl bb 133 1 s.1 k d s1)∧(OSl aZ 100 1 s.1 s.2.2.2.1 s.2.2.1 s.2.1)) (L,([]:List aH),(.slice none 0 0),[],0) N ⟨h,b,k3⟩ (sx [0,0,0,0] [0,0,0]) (fun n2 aw s hm=>?_)
 obtain⟨V,W,w,x,X⟩:=s
 obtain⟨h,b,q⟩:=hm
 dsimp only at h b q ⊢
 unfold fM at h
 refine atr 6 [1,64] J<|lnr H J<|la J<|en ?_
 refine ch h J ?_ ?_<;>intro h
 ·refine atr 5 [] J<|lq (bE (vs:=[]) (C:=#[.slice none 0 0]) I8 ny J (af)) J ?_
  refine ln (iu (C:=#[.slice none 0 0]) ny J) J (fun Y=>?_)
  refine soN 0 ve J ⟨J,trivial⟩ J ?_
  refine art 7 [] J<|wtS<|wt0 ?_
  have k5:=OSl.nil aS 103 1 V
  refine lin (σ:=Hp × (List ar) × Value × List Nat × Int) (fun s=>[(1,pQ A),(2,pQ B),(3,pQ D),(5,iV X),(6,pQ Y),(7,iV s.2.2.2.2)]) (fun s=>St w0 s.1 [(Y,.cells #[s.2.2.1] 100 (0,0)),(D,.cells #[d,w] 35 (0,0)),(B,.cells #[.slice none 0 0,.slice none 0 0] 35 (0,0)),(A,.cells #[f,o] 47 (0,0))] [s.2.2.2.1,ob s.2.2.1,x,ob w,k,ob d]) (fun m s=>kj N z W X (fM N z s1 n2) m s.2.1 s.2.2.2.2=some r∧(OSl bb 133 1 s.1 k d s1)∧(OSl aZ 100 1 s.1 x w W)∧(OSl aS 103 1 s.1 s.2.2.2.1 s.2.2.1 s.2.1)) (V,([]:List ar),(.slice none 0 0),[],0) N ⟨h,b,q,k5⟩ (sx [0,0,0,0,0,0] [0,0,0,0]) (fun n3 ax s hm=>?_)
  obtain⟨Z,s5,u,y,s6⟩:=s
  obtain⟨h,b,q,E⟩:=hm
  dsimp only at h b q E ⊢
  unfold kj at h
  refine atr 7 [1,96] J ?_
  obtain⟨x2,a7,h⟩:=bs h
  obtain⟨aM,F1,-,g1,aN,aO,r1⟩:=H.el (a8 a7).2.2
  obtain⟨v3,G1,v4,G2,rfl,rfl,h3,h4⟩:=r1
  refine lia H a7 J<|lf wT J J J<|lhx 0 0 g1 J<|lnr h3 J<|la J<|en ?_
  refine ch h J ?_ ?_<;>intro h
  ·refine atr 6 [0,0] J<|lq (bE (vs:=[]) (C:=#[.slice none 0 0]) LD rY J (af)) J ?_
   have ab:RC aS 1 Z ([(ob (.slice none 0 0)++[])]:List (List Nat)) [.slice none 0 0] ([(⟨[]⟩:ar)]:List ar):=RC.cons (c:=[.slice none 0 0]) (cells:=[]) ⟨.slice none 0 0,[],J,J,OSl.nil _ _ _ _⟩ J (RC.nil _ _ _)
   refine le' (bC (vs:=[(0,.agg [.slice none 0 0].toArray)]) (C:=#[.slice none 0 0]) aS.lasts qf rY J J J J (av Dv (aa (C':=[.slice none 0 0]) J J J J J (af))) J ab J (RC.kn aS.knows ab)) J ?_
   rintro v5 az D6 ⟨M,O⟩
   replace O:OSl aS 103 1 az ((ob (.slice none 0 0)++[])) v5 ([(⟨[]⟩:ar)]:List ar):=by simpa[gi] using O
   replace b:=b.f0 M
   replace q:=q.f0 M
   replace E:=E.f0 M
   refine wlL [((ob (.slice none 0 0)++[])),ob v5,y,ob u,x,ob w,k,ob d] (smg [] J (SP.eq (by simp[gi,cK]))) ?_
   obtain⟨x3,aC,h⟩:=bs h
   refine le' (em aS.lasts aS.one qf Hv J J J J J (js:=[3]) (Rr:=[((ob (.slice none 0 0)++[])),ob v5,y,x,ob w,k,ob d]) J E O (fun ap=>ap.q 2 J) (fun ap=>ap.q 0 J) aC) J ?_
   rintro v6 aP D7 ⟨⟨F,ae⟩,h6⟩
   replace b:=b.fr ae (F.q 6 J) (F.q 5 J)
   replace q:=q.fr ae (F.q 4 J) (F.q 3 J)
   refine wlL [(y++((ob (.slice none 0 0)++[]))),ob v6,ob v5,x,ob w,k,ob d] (smg [3,1] J (SP.eq OW))<|lf iA J J J<|so1 0 KX J h6.one ?_
   refine art 7 [] J ?_
   exact lb [0,0,1,1,1,1] [0,0,0,0] (ax (_,_,_,_,_) ⟨h,b,q,h6⟩)
  refine atr 4 [1,32] J<|lq (ay BP J (fun w1 hw=>hw.rgO (i:=0) J 0 1 [u] J) J) J ?_
  have ag:RC aZ 1 Z ([(ob u++y)]:List (List Nat)) [u] ([(⟨s5⟩:aH)]:List aH):=RC.cons (c:=[u]) (cells:=[]) ⟨u,y,J,J,E⟩ J (RC.nil _ _ _)
  refine le' (bC (vs:=[(0,.agg [u].toArray)]) (C:=#[u]) aZ.lasts AC ny J J J J (av yH (aa (C':=[u]) J J J J J (af))) J ag J (RC.kn aZ.knows ag)) J ?_
  rintro G aD D8 ⟨ah,P⟩
  replace P:OSl aZ 100 1 aD ((ob u++y)) G ([(⟨s5⟩:aH)]:List aH):=by simpa[gi] using P
  replace b:=b.f0 ah
  replace q:=q.f0 ah
  refine wlL [((ob u++y)),ob G,x,ob w,k,ob d] (smg [2,1] J (SP.eq (by simp[gi,cK]))) ?_
  obtain⟨x4,aF,h⟩:=bs h
  refine le' (em aZ.lasts aZ.one AC DX J J J J J (js:=[3]) (Rr:=[((ob u++y)),ob G,x,k,ob d]) J q P (fun ap=>ap.q 2 J) (fun ap=>ap.q 0 J) aF) J ?_
  rintro v8 aQ D9 ⟨⟨ak,aG⟩,h8⟩
  replace b:=b.fr aG (ak.q 4 J) (ak.q 3 J)
  refine wlL [(x++((ob u++y))),ob v8,ob G,k,ob d] (smg [3,1] J (SP.eq OW))<|lf vK J J J<|so1 1 HO J h8.one ?_
  refine art 7 [] J ?_
  exact lb [0,0,1,1] [1,1,1] (aw (_,_,_,_,_) ⟨h,b,h8⟩)
 refine atr 4 [2] J<|soN 1 oC J ⟨b.one,q.one,trivial⟩ J ?_
 refine en ?_
 exact rtg [3,2,1,0] hF (aB.one (bd uO J (fun w1 hw=>hw.rgO (i:=1) J 0 2 [d,w] J) J)) J (by cases h;exact fun w1 hw=>⟨d,k,w,x,rfl,rfl,b,q⟩)
theorem nX (w0:aA e g []) (c:ae) (d:Int) (k:RSl br 3 e ai f c.Items) {r:aL × Bool} (h:mb N c d=some r) :
  Calls prog 191 [.agg [f,iV c.Next].toArray,iV d].toArray w0.w (bc g w0.w [] (fun F Fs v=>∃ (x:Value),v = .tuple #[.agg [.string r.1.Kind,x].toArray,.bool r.2]∧Fs=[ob x]∧OSl aY 95 3 F [] x r.1.Fields)):=by
 refine eN func191 J ntmps191 J w0 fun A=>?_
 unfold mb at h
 refine sr<|lbx J fun u=>lnz ni J fun w=>art 8 [] J ?_
 refine lin (σ:=Int) (fun s=>[(1,iV d),(2,pQ u),(4,pQ w),(6,iV s)]) (fun s=>St w0 g [(w,.cells #[.string (⟨#[]⟩:Qr),.slice none 0 0] 52 (0,0)),(u,.cells #[f,iV c.Next] 29 (0,0))] []) (fun m s=>i7 N c d m s=some r) (0) N h (sx [] [0,0]) (fun G H s hm=>?_)
 revert hm;revert s;intro s1 hm
 have h:i7 N c d (G+1) s1=some r:=hm
 show WT _ _ [(1,iV d),(2,pQ u),(4,pQ w),(6,iV s1)] (St w0 g [(w,.cells #[.string (⟨#[]⟩:Qr),.slice none 0 0] 52 (0,0)),(u,.cells #[f,iV c.Next] 29 (0,0))] [])
 unfold i7 at h
 refine atr 6 [0,32] J<|lnr k J<|la J<|en ?_
 refine ch h J ?_ ?_<;>intro h
 ·refine atr 8 [0,32] J ?_
  obtain⟨R,B,h⟩:=bs h
  obtain⟨S,T,-,g1,U,V,I⟩:=k.el (a8 B).2.2
  obtain⟨v1,W,rfl,K,h1⟩:=I
  obtain rfl:=K.symm
  refine lia k B J<|lf tq J J J<|lhx 0 0 g1 J<|art 3 [] J ?_
  refine ch h J ?_ ?_<;>intro h
  ·refine atr 5 [0,32] J ?_
   obtain⟨L,D,h⟩:=bs h
   obtain⟨X,Y,-,g2,Z,a7,M⟩:=k.el (a8 D).2.2
   obtain⟨v2,G2,rfl,O,P⟩:=M
   obtain rfl:=O.symm
   refine lia k D J<|lf zp J J J<|lhx 1 2 g2 J<|kab h J J J (fun b z q=>uB N b L.F (P.y z) q) ?_
   rintro Q h v3 aa F3 ⟨ab,ag,v4,rfl,rfl,E⟩
   refine soN 0 oq J ⟨J,E.one,trivial⟩ J ?_
   refine la J<|en ?_
   exact rtg [0] A (aB.two (bd oU J (fun y hw=>hw.rgO (i:=0) J 0 2 [.string Q.Kind,v4] J) J) J) J (by cases h;exact fun y hw=>⟨v4,rfl,rfl,E⟩)
  refine att 7 [] J ?_
  exact lb [] [0,0] (H _ h)
 refine xt J<|sr<|lq (bE (vs:=[]) (C:=#[.string (⟨#[]⟩:Qr),.slice none 0 0]) ET ni J (af)) J<|soN 0 oq J ⟨J,J,trivial⟩ J ?_
 refine la J<|en ?_
 refine WT.ret A (aB.two (bd oU J (fun y hw=>hw.rgO (i:=0) J 0 2 [.string (⟨#[]⟩:Qr),.slice none 0 0] J) J) J) (fun y hw=>?_)
 cases h
 replace hw:=hw.addNil
 refine aK (js:=[0]) hw J ⟨.slice none 0 0,J,J,OSl.nil _ _ _ _⟩
theorem Ae (w0:aA e g []) (c:(List Int)) (b:Int) (d:RSl (RI .i64) 1 e c3 t c) {r:Bool} (h:pV N c b=some r) :
  CB w0 prog 227 [t,iV b] (.bool r):=by
 refine eN func227 J ntmps227 J w0 fun i=>?_
 unfold pV at h
 refine att 10 [] J ?_
 refine lin (σ:=Int) (fun s=>[(0,t),(1,iV b),(5,iV s)]) (fun s=>St w0 g [] []) (fun m s=>gZ N c b m s=some r) (0) N h (sx [] []) (fun q u s hm=>?_)
 revert hm;revert s;intro s1 hm
 have h:gZ N c b (q+1) s1=some r:=hm
 show WT _ _ [(0,t),(1,iV b),(5,iV s1)] (St w0 g [] [])
 unfold gZ at h
 refine atr 5 [] J<|lnr d J<|la J<|en ?_
 refine ch h J ?_ ?_<;>intro h
 ·refine atr 7 [] J ?_
  obtain⟨w,k,h⟩:=bs h
  obtain⟨x,y,-,g1,z,A,v⟩:=d.el (a8 k).2.2
  obtain⟨rfl,-⟩:=v
  refine lia d k J<|lhx 0 0 g1 J<|art 3 [] J ?_
  refine ch h J ?_ ?_<;>intro h
  ·refine att 4 [] J ?_
   exact rt i h
  refine att 7 [] J ?_
  exact lb [] [] (u _ h)
 refine att 5 [] J ?_
 exact rt i h
theorem vA (w0:aA e g [ob t,a6].flatten) (q:(List an)) (i:Int) (B:OSl aR 105 2 g a6 t q) {r:(List an)} (h:kH N q i=some r) :
  Calls prog 192 [t,iV i].toArray w0.w (bc g w0.w [ob t,a6].flatten (fun P Fs v=>∃ (x:Value) (D:List Nat),v=x∧Fs=[ob x,D]∧OSl aR 105 2 P D x r)):=by
 refine eL func192 J ntmps192 J (L:=[ob t,a6]) w0 (fun Q=>?_)
 unfold kH at h
 obtain⟨_,hlen,h⟩:=bs h
 have t0:=B.tail (zr hlen)
 refine atr 6 [] J ?_
 have R:RC aR 2 g ([]:List (List Nat)) [] ([]:List an):=RC.nil _ _ _
 refine le' (bC (vs:=[]) (C:=#[]) aR.lasts dl gS J J J J (av tz (af)) J R J (by simpa using Kw.nil)) J ?_
 rintro v1 E D1 ⟨S,h1⟩
 replace h1:OSl aR 105 2 E [] v1 ([]:List an):=by simpa[gi] using h1
 replace t0:=t0.f0 S
 refine art 8 [] J ?_
 refine lin (σ:=Hp × (List an) × Value × List Nat × Int × List Nat) (fun s=>[(0,t),(1,iV i),(5,s.2.2.1),(6,iV s.2.2.2.2.1)]) (fun s=>St w0 s.1 [] [ob s.2.2.1,a6,ob t]) (fun m s=>ef N q i m s.2.1 s.2.2.2.2.1=some r∧(OSl aR 105 2 s.1 s.2.2.2.1 s.2.2.1 s.2.1)∧(SP (s.2.2.2.1++s.2.2.2.2.2) a6)∧(TSl aR 2 s.1 s.2.2.2.2.2 t q s.2.2.2.2.1)) (E,([]:List an),v1,[],0,a6) N ⟨h,h1,SP.refl _,t0⟩ (sx [0,1,0] []) (fun n1 G s hm=>?_)
 obtain⟨T,s1,U,H,s2,Dt⟩:=s
 obtain⟨h,d,b,t1⟩:=hm
 dsimp only at h d b t1 ⊢
 unfold ef at h
 refine atr 5 [] J<|lno B J<|la J<|en ?_
 refine ch h J ?_ ?_<;>intro h
 ·refine atr 7 [] J ?_
  obtain⟨u,y,h⟩:=bs h
  obtain⟨a8,F1,D9,-,g1,ab,V,w,t9⟩:=t1.step aR.knows y
  obtain⟨v2,v3,rfl,rfl,I,W⟩:=V
  refine lq (wB dl J J t1 y) J<|lf ue J J J<|lgx 0 0 g1 J<|la J<|qc h (Ae N · u.Ids i I.rsl ·) J J J fun x2 h=>la J<|en ?_
  refine ch h J ?_ ?_<;>intro h
  ·refine atr 4 [] J ?_
   obtain⟨X,z,h⟩:=bs h
   obtain rfl:u=X:=by rw[y] at z;exact Option.some.inj z
   refine lq (wB dl J J t1 z) J<|lgx 0 2 g1 J ?_
   have K:RC aR 2 T ([(ob v2++[])++((ob v3++[]))]:List (List Nat)) [v2,v3] ([u]:List an):=RC.cons (c:=[v2,v3]) (cells:=[]) ⟨v2,v3,J,J,I,W⟩ J (RC.nil _ _ _)
   refine le' (bC (vs:=[(0,.agg [v2,v3].toArray)]) (C:=#[v2,v3]) aR.lasts dl gS J J J J (av w9 (aa (C':=[v2,v3]) J J J J J (af))) J K J (RC.kn aR.knows K)) J ?_
   rintro v6 Y D3 ⟨M,A⟩
   replace A:OSl aR 105 2 Y ((ob v2++[])++((ob v3++[]))) v6 ([u]:List an):=by simpa[gi] using A
   replace d:=d.f0 M
   replace t9:=t9.f0 M
   obtain⟨x4,Z,h⟩:=bs h
   refine le' (em aR.lasts aR.one dl rd J J J J J (js:=[1]) (Rr:=[ob v6,a6,ob t]) J d A (fun ap=>Dj.sub (ap.q 1 J) b.inl) (fun ap=>Dj.sub (ap.q 1 J) (fun k hk=>b.inr k (by rw[w];exact gf.2 (.inl hk)))) Z) J ?_
   rintro v7 ae D4 ⟨⟨O,a7⟩,h9⟩
   replace t9:=t9.fr a7 (O.q 2 J) (Dj.sub (O.q 1 J) (fun k hk=>b.inr k (by rw[w];exact gf.2 (.inr hk))))
   refine art 8 [] J ?_
   exact lb [0,1,1] [] (G (_,_,_,_,_,_) ⟨h,h9,b.next w,t9⟩)
  refine att 7 [] J ?_
  exact lb [0,0,0] [] (G (_,_,_,_,_,_) ⟨h,d,b.skip w,t9⟩)
 refine att 6 [] J ?_
 refine WT.ret Q (aB.one J) (fun w1 hw=>?_)
 cases h
 replace hw:=hw.merge (js:=[1]) (F:=H) J (by simpa using b.out)
 refine aK (js:=[1,0]) hw J ⟨U,H,J,J,d⟩
theorem zO (w0:aA e g []) (d:(List aw)) (b:Qr) (c:RSl aQ 4 e c3 t d) {r:bP × Bool} (h:qi N d b=some r) :
  CB w0 prog 255 [t,.string b] (.tuple #[.agg [iV r.1.K,iV r.1.N,.string r.1.S].toArray,.bool r.2]):=by
 refine eN func255 J ntmps255 J w0 fun v=>?_
 unfold qi at h
 refine sr<|lnz kW J fun k=>art 8 [] J ?_
 refine lin (σ:=Int) (fun s=>[(0,t),(1,.string b),(4,pQ k),(6,iV s)]) (fun s=>St w0 g [(k,.cells #[iV 0,iV 0,.string (⟨#[]⟩:Qr)] 95 (0,0))] []) (fun m s=>j7 N d b m s=some r) (0) N h (sx [] [0]) (fun y z s hm=>?_)
 revert hm;revert s;intro s1 hm
 have h:j7 N d b (y+1) s1=some r:=hm
 show WT _ _ [(0,t),(1,.string b),(4,pQ k),(6,iV s1)] (St w0 g [(k,.cells #[iV 0,iV 0,.string (⟨#[]⟩:Qr)] 95 (0,0))] [])
 unfold j7 at h
 refine atr 5 [] J<|lnr c J<|la J<|en ?_
 refine ch h J ?_ ?_<;>intro h
 ·refine atr 7 [] J ?_
  obtain⟨D,w,h⟩:=bs h
  obtain⟨E,F,-,g1,G,H,A⟩:=c.el (a8 w).2.2
  obtain⟨rfl,-⟩:=A
  refine lia c w J<|lf Ib J J J<|lhx 0 0 g1 J<|art 3 [] J ?_
  refine ch h J ?_ ?_<;>intro h
  ·refine atr 4 [] J ?_
   obtain⟨q,x,h⟩:=bs h
   obtain⟨I,K,-,g2,L,M,B⟩:=c.el (a8 x).2.2
   obtain⟨rfl,-⟩:=B
   refine lia c x J<|lf HH J J J<|lhx 1 3 g2 J<|soN 0 pL J ⟨J,J,J,trivial⟩ J ?_
   refine la J<|en ?_
   refine WT.ret v (aB.two (bd lR J (fun u hw=>hw.rgO (i:=0) J 0 3 [iV q.V.K,iV q.V.N,.string q.V.S] J) J) J) (fun u hw=>?_)
   cases h
   exact fC hw
  refine att 7 [] J ?_
  exact lb [] [0] (z _ h)
 refine xt J<|sr<|lq (bE (vs:=[]) (C:=#[iV 0,iV 0,.string (⟨#[]⟩:Qr)]) xI kW J (af)) J<|soN 0 pL J ⟨J,J,J,trivial⟩ J ?_
 refine la J<|en ?_
 refine WT.ret v (aB.two (bd lR J (fun u hw=>hw.rgO (i:=0) J 0 3 [iV 0,iV 0,.string (⟨#[]⟩:Qr)] J) J) J) (fun u hw=>?_)
 cases h
 exact fC hw
theorem sQ (w0:aA e g []) (y:az) (G:aL) (R:(List aw)) (O:RSl fu 5 e ai f y.Args) (z:RSl aY 3 e aj a G.Fields) (Z:RSl aQ 4 e bj j R) {r:(List aw) × Bool} (h:lz N y G R=some r) :
  Calls prog 235 [.agg [.string y.Kind,f,.bool y.Not].toArray,.agg [.string G.Kind,a].toArray,j].toArray w0.w (bc g w0.w [] (fun al Fs v=>∃ (S:Value),v = .tuple #[S,.bool r.2]∧Fs=[ob S]∧OSl aQ 97 4 al [] S r.1)):=by
 refine eN func235 J ntmps235 J w0 fun T=>?_
 unfold lz at h
 refine sr<|lbx J fun q=>lbx J fun u=>arr 5 [] J<|le' (mh aQ.lasts pU wa J J) J ?_
 rintro v1 aH D1 ⟨aI,h1⟩
 refine la J<|lu0 Z fun h2=>?_
 obtain⟨x1,an,h⟩:=bs h
 refine le' (dW aQ.lasts aQ.one aQ.flat pU Dg J J J J J (js:=[0]) (Rr:=[]) J h1 h2 an) J ?_
 rintro v2 ao D2 ⟨⟨aJ,aK⟩,h3⟩
 refine arr 11 [0,32,0,0] J ?_
 obtain⟨b1,H,h⟩:=bs h
 refine WL.cutN 8 [(29,.bool b1),(2,j),(3,pQ q),(4,pQ u),(8,v2)] ?_ (fun K=>?_)
 rotate_left
 ·refine sp 21 H J (fun H=>?_) fun H=>?_
  ·refine arr 8 [] J ?_
   cases H
   exact ku K
  ·refine arr 2 [1,32] J<|ly J J<|lnr O J<|arr 2 [1,0] J<|ly J J<|lnr z J<|arr 2 [] J ?_
   cases H
   exact ku K
 refine en ?_
 refine ch h J ?_ ?_<;>intro h
 ·refine att 6 [] J ?_
  exact rtg [0] T (aB.two J J) J (by cases h;exact fun A hw=>⟨v2,rfl,rfl,h3⟩)
 refine att 7 [] J ?_
 refine lin (σ:=Hp × (List aw) × Value × Int) (fun s=>[(2,j),(3,pQ q),(4,pQ u),(8,s.2.2.1),(9,iV s.2.2.2)]) (fun s=>St w0 s.1 [(u,.cells #[.string G.Kind,a] 52 (0,0)),(q,.cells #[.string y.Kind,f,.bool y.Not] 201 (0,0))] [ob s.2.2.1]) (fun m s=>gH N y G R m s.2.1 s.2.2.2=some r∧(OSl aQ 97 4 s.1 [] s.2.2.1 s.2.1)) (ao,x1,v2,0) N ⟨h,h3⟩ (sx [0] [0,0]) (fun n1 a7 s hm=>?_)
 obtain⟨ar,s1,B,s2⟩:=s
 obtain⟨h,E⟩:=hm
 dsimp only at h E ⊢
 unfold gH at h
 refine atr 6 [1,32] J<|lnr O J<|la J<|en ?_
 refine ch h J ?_ ?_<;>intro h
 ·refine atr 8 [1,32] J ?_
  obtain⟨i,ab,h⟩:=bs h
  obtain⟨aM,F1,-,g1,aN,aO,r1⟩:=O.el (a8 ab).2.2
  obtain⟨rfl,-⟩:=r1
  refine lia O ab J<|lhx 0 5 g1 J<|lnz kY J fun I=>soN 0 jm J ⟨J,J,J,J,J,trivial⟩ J ?_
  refine arr 6 [1,0] J<|qc h (zO N · s1 i.S E.rsl ·) J J J fun L h=>arr 3 [] J<|lnz kW J fun ae=>soN 0 pL J ⟨J,J,J,trivial⟩ J ?_
  refine art 4 [] J<|WT.draw mixed OU (fun _ h=>h.drew)<|aqq 4 [0,32] J ?_
  obtain⟨b2,w,h⟩:=bs h
  refine WQ.cutN 9 [(62,.bool b2),(2,j),(3,pQ q),(4,pQ u),(8,B),(9,iV s2),(10,pQ I),(11,pQ ae),(12,.bool L.2)] ?_ (fun K=>?_)
  rotate_left
  ·refine WQ.split (d:=53) J (fun U=>?_) (fun U=>?_)
   ·replace w:=mC w U
    refine aqq 5 [2,35,1,64] J<|WQ.yes J J ?_
    obtain⟨P,ag,w⟩:=bs w
    obtain⟨aP,F2,-,g2,aR,aS,r2⟩:=z.el (a8 ag).2.2
    obtain⟨rfl,-⟩:=r2
    refine qq (aq jr J J z ag) J<|WQ.yes J J<|qq (ay lR J (fun A hw=>(g2.of_eq 0 3 J J:rg _ _ _ [iV P.K,iV P.N,.string P.S]).rangeAt hw.in0) J) J<|WQ.yes J J<|qq (uF oN J J J (r:=bS i.V P) J) J<|WQ.q (Bu J J) J J J ?_
    cases w
    exact kq K
   ·replace w:=mE w U
    refine aqq 9 [] J ?_
    cases w
    exact kq K
  refine qq (jv J) J ?_
  obtain⟨b3,k,h⟩:=bs h
  refine WQ.cutN 16 [(79,.bool b3),(2,j),(3,pQ q),(4,pQ u),(8,B),(9,iV s2),(10,pQ I),(12,.bool L.2)] ?_ (fun K=>?_)
  rotate_left
  ·refine WQ.split (d:=63) J (fun V=>?_) (fun V=>?_)
   ·replace k:=mC k V
    refine aqq 16 [] J ?_
    cases k
    exact kq K
   ·replace k:=mE k V
    refine aqq 4 [0,32] J ?_
    obtain⟨b4,F,k⟩:=bs k
    refine WQ.cutN 2 [(69,.bool b4),(2,j),(3,pQ q),(4,pQ u),(8,B),(9,iV s2),(10,pQ I),(11,pQ ae),(12,.bool L.2),(63,.bool false)] ?_ (fun K=>?_)
    rotate_left
    ·refine WQ.split (d:=67) J (fun W=>?_) (fun W=>?_)
     ·replace F:=mC F W
      refine aqq 2 [] J ?_
      cases F
      exact kq K
     ·replace F:=mE F W
      refine aqq 2 [] J ?_
      cases F
      exact kq K
    refine WQ.yes J J<|qq (jv J) J ?_
    obtain⟨b5,x,k⟩:=bs k
    refine WQ.cutN 8 [(78,.bool b5),(2,j),(3,pQ q),(4,pQ u),(8,B),(9,iV s2),(10,pQ I),(12,.bool L.2),(63,.bool false)] ?_ (fun K=>?_)
    rotate_left
    ·refine WQ.split (d:=70) J (fun X=>?_) (fun X=>?_)
     ·replace x:=mC x X
      refine aqq 4 [3,1,64] J<|WQ.yes J J ?_
      obtain⟨Q,ah,x⟩:=bs x
      obtain⟨aT,F3,-,g3,aU,aV,r3⟩:=z.el (a8 ah).2.2
      obtain⟨rfl,-⟩:=r3
      refine qq (aq jr J J z ah) J<|WQ.yes J J<|qq (ay lR J (fun A hw=>(g3.of_eq 0 3 J J:rg _ _ _ [iV Q.K,iV Q.N,.string Q.S]).rangeAt hw.in0) J) J<|WQ.yes J J<|qq (uF oN J J J (r:=bS L.1 Q) J) J<|WQ.yes J J<|WQ.q (Bu J J) J J J ?_
      cases x
      exact kq K
     ·replace x:=mE x X
      refine aqq 8 [] J ?_
      cases x
      exact kq K
    refine WQ.q (sy J J) J J J ?_
    cases k
    exact kq K
  refine WQ.nil ?_
  refine ch h J ?_ ?_<;>intro h
  ·refine sr<|le' (mh aQ.lasts pU wa J J) J ?_
   rintro v3 aW D3 ⟨aX,h4⟩
   refine la J<|lu0 Z fun h5=>?_
   obtain⟨x6,au,h⟩:=bs h
   refine le' (dW aQ.lasts aQ.one aQ.flat pU Dg J J J J J (js:=[0]) (Rr:=[ob B]) J h4 h5 au) J ?_
   rintro v4 aZ D4 ⟨⟨ba,bb⟩,h6⟩
   refine art 3 [] J ?_
   exact rtg [0] T (aB.two J J) J (by cases h;exact fun A hw=>⟨v4,rfl,rfl,h6⟩)
  refine atr 7 [0,32] J ?_
  obtain⟨b6,M,h⟩:=bs h
  refine WL.cutN 3 [(89,.bool b6),(2,j),(3,pQ q),(4,pQ u),(8,B),(9,iV s2),(10,pQ I)] ?_ (fun K=>?_)
  rotate_left
  ·refine sp 86 M J (fun M=>?_) fun M=>?_
   ·refine arr 3 [] J ?_
    cases M
    exact ku K
   ·refine arr 3 [] J ?_
    cases M
    exact ku K
  refine en ?_
  refine ch h J ?_ ?_<;>intro h
  ·refine wm [0,1,2,3] [] J<|amm 6 [0,1,1,2,32,3,1,4,64,5] [0,1,2,3] J J ?_
   obtain⟨b,ak,h⟩:=bs h
   obtain⟨bd,F4,-,g4,be,bf,r4⟩:=z.el (a8 ak).2.2
   obtain⟨rfl,-⟩:=r4
   refine mq 6 J OU (kN [0,1,2,3]) (aq jr J J z ak) J<|mq 7 J OU (kN [0,1,2,3]) (ay lR J (fun A hw=>(g4.of_eq 0 3 J J:rg _ _ _ [iV b.K,iV b.N,.string b.S]).rangeAt hw.1) J) J ?_
   refine mq 8 J OU (kN [0,1,2,3]) (bE (vs:=[(0,.string i.S),(1,.agg [iV b.K,iV b.N,.string b.S].toArray)]) (C:=#[.string i.S,iV b.K,iV b.N,.string b.S]) Lh wa J (aa (C':=[.string i.S,iV 0,iV 0,.string ⟨#[]⟩]) J J J J J (aa (C':=[.string i.S,iV b.K,iV b.N,.string b.S]) J J J J J (af)))) J ?_
   have ax:RC aQ 4 ar ([[]]:List (List Nat)) [.string i.S,iV b.K,iV b.N,.string b.S] ([(⟨i.S,b⟩:aw)]:List aw):=RC.cons (c:=[.string i.S,iV b.K,iV b.N,.string b.S]) (cells:=[]) ⟨J,J⟩ J (RC.nil _ _ _)
   refine WM.one 9 OU (me J (fun _ v aC D A hq hw=>Kn.of Kf.nil (am [0,1,2,3] J) hw) (bC (vs:=[(0,.agg [.string i.S,iV b.K,iV b.N,.string b.S].toArray)]) (C:=#[.string i.S,iV b.K,iV b.N,.string b.S]) aQ.lasts pU wa J J J J (av EE (aa (C':=[.string i.S,iV b.K,iV b.N,.string b.S]) J J J J J (af))) J ax J (by simpa using Kw.nil)) J ?_)
   rintro v5 aD D5 ⟨aF,Y⟩
   replace Y:OSl aQ 97 4 aD [] v5 ([(⟨i.S,b⟩:aw)]:List aw):=by simpa using Y
   replace E:=E.f0 aF
   obtain⟨x8,aG,h⟩:=bs h
   refine WM.one 10 OU (me J (fun _ v aC D A hq hw=>Kn.of Kf.nil (am [0,1,2,3] J) hw) (dW aQ.lasts aQ.one aQ.flat pU Dg J J J J J (js:=[1]) (Rr:=[ob v5]) J E Y.rsl aG) J ?_)
   rintro v6 bg D6 ⟨⟨bh,bk⟩,h8⟩
   refine amm 1 [11] [0,1,2,3] J J<|WM.nil OU<|att 6 [] J ?_
   exact lb [0] [2,2] (a7 (_,_,_,_) ⟨h,h8⟩)
  refine att 7 [] J ?_
  exact lb [0] [2,2] (a7 (_,_,_,_) ⟨h,E⟩)
 refine att 7 [] J ?_
 exact rtg [0] T (aB.two J J) J (by cases h;exact fun A hw=>⟨B,rfl,rfl,E⟩)
theorem oR (w0:aA e g []) (d:ah) (k:ae) (y:(List Int)) (E:RSl cX 3 e ai f d.Pats) (au:RSl cL 11 e b0 o d.Conds) (av:RSl ij 5 e b9 a1 d.Acts) (F:RSl br 3 e aj a k.Items) (z:RSl (RI .i64) 1 e bj j y) {r:(List aw) × Bool} (h:jL N d k y=some r) :
  Calls prog 228 [.agg [.string d.Name,iV d.Sal,f,o,a1].toArray,.agg [a,iV k.Next].toArray,j].toArray w0.w (bc g w0.w [] (fun T Fs v=>∃ (A:Value),v = .tuple #[A,.bool r.2]∧Fs=[ob A]∧OSl aQ 97 4 T [] A r.1)):=by
 refine eN func228 J ntmps228 J w0 fun G=>?_
 unfold jL at h
 refine sr<|lbx J fun u=>lbx J fun w=>arr 5 [] J<|le' (mh aQ.lasts pU wa J J) J ?_
 rintro v1 U D1 ⟨ax,h1⟩
 refine art 8 [] J ?_
 refine lin (σ:=Hp × (List aw) × Value × Int) (fun s=>[(2,j),(3,pQ u),(4,pQ w),(8,s.2.2.1),(9,iV s.2.2.2)]) (fun s=>St w0 s.1 [(w,.cells #[a,iV k.Next] 29 (0,0)),(u,.cells #[.string d.Name,iV d.Sal,f,o,a1] 87 (0,0))] [ob s.2.2.1]) (fun m s=>ft N d k y m s.2.1 s.2.2.2=some r∧(OSl aQ 97 4 s.1 [] s.2.2.1 s.2.1)) (U,([]:List aw),v1,0) N ⟨h,h1⟩ (sx [0] [0,0]) (fun V W s hm=>?_)
 obtain⟨az,s1,q,s2⟩:=s
 obtain⟨h,c⟩:=hm
 dsimp only at h c ⊢
 unfold ft at h
 refine atr 5 [] J<|lnr z J<|la J<|en ?_
 refine ch h J ?_ ?_<;>intro h
 ·refine att 4 [] J ?_
  refine cut (σ:=Hp × Nat × (List bP) × Value × Bool × Qr) (fun s=>[(2,j),(3,pQ u),(4,pQ w),(8,q),(9,iV s2),(10,.pointer (some ⟨s.2.1,0,none⟩)),(11,.bool s.2.2.2.2.1)]) (fun s=>St w0 s.1 [(s.2.1,.cells #[.string s.2.2.2.2.2,s.2.2.2.1] 52 (0,0)),(w,.cells #[a,iV k.Next] 29 (0,0)),(u,.cells #[.string d.Name,iV d.Sal,f,o,a1] 87 (0,0))] [ob s.2.2.2.1,ob q]) (fun s=>m6 N d s1 s2 (ft N d k y V) s.2.2.1 s.2.2.2.2.1 s.2.2.2.2.2=some r∧(OSl aQ 97 4 s.1 [] q s1)∧(OSl aY 95 3 s.1 [] s.2.2.2.1 s.2.2.1)) (fun s hm=>?_) (fun K=>?_)
  ·clear h
   obtain⟨aC,aD,X,Y,s4,Z⟩:=s
   obtain⟨h,c,H⟩:=hm
   dsimp only at h c H ⊢
   unfold m6 at h
   refine sq<|wm [0,1,2] [] J<|amm 3 [0,2,1,64,2] [0,1,2] J J ?_
   obtain⟨B,I,h⟩:=bs h
   obtain⟨aF,F3,-,g2,aG,aH,r2⟩:=E.el (a8 I).2.2
   obtain⟨v4,G1,rfl,a7,h3⟩:=r2
   obtain rfl:=a7.symm
   refine mq 3 J OU (kN [0,1,2]) (aq tI J J E I) J<|mq 4 J OU (kN [0,1,2]) (ay wO J (fun i hw=>(g2.of_eq 0 3 J J:rg _ _ _ [.string B.Kind,v4,.bool B.Not]).rangeAt hw.1) J) J<|amm 2 [5,2,6] [0,1,2] J J ?_
   obtain⟨x4,aa,h⟩:=bs h
   refine WM.one 7 OU (mc J (fun _ v L D i M hw=>Kn.of Kf.nil (ai3 0 1 2 J J J) hw) (bJ (js:=[]) (R:=[ob Y,ob q]) EC J J (fun i hw ap O=>sQ N (ba hw.fro) B (⟨Z,X⟩:aL) s1 (h3.y hw.up) H.rsl c.rsl  aa)) J ?_)
   rintro v5 aI F4 ⟨ab,af,v6,rfl,rfl,h4⟩
   replace c:=c.fr af (ab.q 1 J) dN
   refine amm 5 [8,9,10,11,12] [0,1,2] J J<|WM.nil OU<|atr 6 [] J ?_
   obtain⟨b1,x,h⟩:=bs h
   refine WL.cutN 3 [(46,.bool b1),(2,j),(3,pQ u),(4,pQ w),(8,q),(9,iV s2),(12,v6)] ?_ (fun K=>?_)
   rotate_left
   ·refine sp 43 x J (fun x=>?_) fun x=>?_
    ·refine arr 3 [] J ?_
     cases x
     exact ku K
    ·refine arr 3 [] J ?_
     cases x
     exact ku K
   refine en ?_
   refine ch h J ?_ ?_<;>intro h
   ·refine att 6 [] J ?_
    exact rtg [2] G (aB.two J J) J (by cases h;exact fun i hw=>⟨q,rfl,rfl,c⟩)
   refine att 11 [] J ?_
   exact lb [0] [1,1] (W (_,_,_,_) ⟨h,h4⟩)
  refine wm [0,1] [] J<|amm 3 [0,2,1,2] [0,1] J J ?_
  obtain⟨C,P,h⟩:=bs h
  obtain⟨aJ,F5,-,g3,aK,aM,r3⟩:=z.el (a8 P).2.2
  obtain⟨rfl,-⟩:=r3
  refine mq 3 J OU (kN [0,1]) (aq bR J J z P) J<|mq 4 J OU (kN [0,1]) (aW tQ J (fun i hw=>(g3.of_eq 0 1 J J:rg _ _ _ [iV C]).rangeAt hw.1)) J ?_
  refine WM.two 5 9 OU ?_ ?_
  ·obtain⟨x6,ag,h⟩:=bs h
   refine mc J (fun _ v L D i M hw=>Kn.of Kf.nil (ai2 0 1 J J) hw) (bJ (js:=[]) (R:=[ob q]) EG J J (fun i hw ap O=>nX N (ba hw.fro) k C (F.y hw.up)  ag)) J ?_
   rintro v7 aN F6 ⟨ak,al,v8,rfl,rfl,Q⟩
   replace c:=c.fr al (ak.q 0 J) dN
   refine amm 3 [6,7,8] [0,1] J J ?_
   refine on1 9 (mn J (kB [1,2]) (nz ni) J (fun aO=>?_))
   refine on1 10 (msK 0 [1,2] J oq J ⟨J,Q.one,trivial⟩ J J ?_)
   refine amm 1 [11] [1,2] J J<|WM.nil OU ?_
   exact wo [0,0] [0,0,0] (K (_,_,_,_,_,_) ⟨h,c,Q⟩)
  refine mn J (fun _ b i hw=>Kn.of Kf.nil (ai2 1 2 J J) hw) (nz ni) J (fun aP=>?_)
  obtain⟨x7,an,h⟩:=bs h
  refine WM.one 5 OU (mc J (fun _ v L D i M hw=>Kn.of Kf.nil (ai2 1 2 J J) hw) (bJ (js:=[]) (R:=[ob q]) EG J J (fun i hw ap O=>nX N (ba hw.fro) k C (F.y hw.up)  an)) J ?_)
  rintro v9 aR F7 ⟨ao,ar,v10,rfl,rfl,S⟩
  replace c:=c.fr ar (ao.q 0 J) dN
  refine amm 3 [6,7,8] [1,2] J J ?_
  refine on1 10 (msK 0 [1,2] J oq J ⟨J,S.one,trivial⟩ J J ?_)
  refine amm 1 [11] [1,2] J J<|WM.nil OU ?_
  exact wo [0,0] [0,0,0] (K (_,_,_,_,_,_) ⟨h,c,S⟩)
 refine att 7 [] J ?_
 exact rtg [0] G (aB.two J J) J (by cases h;exact fun i hw=>⟨q,rfl,rfl,c⟩)
theorem uE (w0:aA e g []) (b:ah) (d:aL) (q:(List aw)) (y:RSl cX 3 e ai f b.Pats) (al:RSl cL 11 e b0 o b.Conds) (an:RSl ij 5 e b9 a1 b.Acts) (M:RSl aY 3 e aj a d.Fields) (O:RSl aQ 4 e bj j q) {r:(List Int)} (h:nK N b d q=some r) :
  Calls prog 229 [.agg [.string b.Name,iV b.Sal,f,o,a1].toArray,.agg [.string d.Kind,a].toArray,j].toArray w0.w (bc g w0.w [] (fun P Fs v=>∃ (z:Value),v=z∧Fs=[ob z]∧OSl (RI .i64) 3 1 P [] z r)):=by
 refine eN func229 J ntmps229 J w0 fun Q=>?_
 unfold nK at h
 refine sr<|lbx J fun u=>lbx J fun w=>arr 4 [] J<|le' (mh (R:=RI .i64) RI.lasts bR mj J J) J ?_
 rintro v1 S D1 ⟨ao,h1⟩
 refine art 8 [] J ?_
 refine lin (σ:=Hp × (List Int) × Value × Int) (fun s=>[(2,j),(3,pQ u),(4,pQ w),(7,s.2.2.1),(8,iV s.2.2.2)]) (fun s=>St w0 s.1 [(w,.cells #[.string d.Kind,a] 52 (0,0)),(u,.cells #[.string b.Name,iV b.Sal,f,o,a1] 87 (0,0))] [ob s.2.2.1]) (fun m s=>ej N b d q m s.2.1 s.2.2.2=some r∧(OSl (RI .i64) 3 1 s.1 [] s.2.2.1 s.2.1)) (S,([]:List Int),v1,0) N ⟨h,h1⟩ (sx [0] [0,0]) (fun G H s hm=>?_)
 obtain⟨ar,s1,x,s2⟩:=s
 obtain⟨h,k⟩:=hm
 dsimp only at h k ⊢
 unfold ej at h
 refine atr 6 [2,32] J<|lnr y J<|la J<|en ?_
 refine ch h J ?_ ?_<;>intro h
 ·refine atr 8 [2,32] J ?_
  obtain⟨x1,I,h⟩:=bs h
  obtain⟨au,F1,-,g1,ax,az,T⟩:=y.el (a8 I).2.2
  obtain⟨v2,G1,rfl,U,h2⟩:=T
  obtain rfl:=U.symm
  refine lia y I J<|lf wJ J J J<|lhx 2 0 g1 J<|en ?_
  refine ch h J ?_ ?_<;>intro h
  ·refine sq<|wm [0,1] [] J<|amm 3 [0,2,1,32,2] [0,1] J J ?_
   obtain⟨A,L,h⟩:=bs h
   obtain⟨aC,F2,-,g2,aD,aF,V⟩:=y.el (a8 L).2.2
   obtain⟨v3,G2,rfl,W,X⟩:=V
   obtain rfl:=W.symm
   refine mq 3 J OU (kN [0,1]) (aq tI J J y L) J<|mq 4 J OU (kN [0,1]) (ay wO J (fun B hw=>(g2.of_eq 0 3 J J:rg _ _ _ [.string A.Kind,v3,.bool A.Not]).rangeAt hw.1) J) J<|amm 2 [5,2,6] [0,1] J J ?_
   obtain⟨x3,Y,h⟩:=bs h
   refine WM.one 7 OU (mc J (fun _ v aG D B hq hw=>Kn.of Kf.nil (ai2 0 1 J J) hw) (bJ (js:=[]) (R:=[ob x]) EC J J (fun B hw ap hl=>sQ N (ba hw.fro) A d q (X.y hw.up) (M.y hw.up) (O.y hw.up)  Y)) J ?_)
   rintro v4 E F3 ⟨Z,a7,v5,rfl,rfl,h4⟩
   replace k:=k.fr a7 (Z.q 0 J) dN
   refine amm 5 [8,9,10,11,12] [0,1] J J<|WM.nil OU<|att 9 [] J ?_
   refine cut (σ:=Int) (fun s=>[(2,j),(3,pQ u),(4,pQ w),(7,x),(8,iV s2),(11,iV s)]) (fun s=>St w0 E [(w,.cells #[.string d.Kind,a] 52 (0,0)),(u,.cells #[.string b.Name,iV b.Sal,f,o,a1] 87 (0,0))] [ob x]) (fun s=>j0 N s1 s2 (ej N b d q G) s=some r) (fun s hm=>?_) (fun K=>?_)
   ·clear h
    revert hm;revert s;intro i hm
    have h:j0 N s1 s2 (ej N b d q G) i=some r:=hm
    show WT _ _ [(2,j),(3,pQ u),(4,pQ w),(7,x),(8,iV s2),(11,iV i)] (St w0 E [(w,.cells #[.string d.Kind,a] 52 (0,0)),(u,.cells #[.string b.Name,iV b.Sal,f,o,a1] 87 (0,0))] [ob x])
    unfold j0 at h
    refine atr 3 [] J ?_
    have ab:RC (RI .i64) 1 E ([[]]:List (List Nat)) [iV i] ([i]:List Int):=RC.cons (c:=[iV i]) (cells:=[]) ⟨J,J⟩ J (RC.nil _ _ _)
    refine le' (bC (vs:=[(0,iV i)]) (C:=#[iV i]) RI.lasts bR mj J J J J (av kL (aa (C':=[iV i]) J J J J J (af))) J ab J (by simpa using Kw.nil)) J ?_
    rintro v6 ae D2 ⟨ag,F⟩
    replace F:OSl (RI .i64) 3 1 ae [] v6 ([i]:List Int):=by simpa using F
    replace k:=k.f0 ag
    obtain⟨x4,ak,h⟩:=bs h
    refine le' (dW RI.lasts RI.one RI.flat bR tt J J J J J (js:=[1]) (Rr:=[ob v6]) J k F.rsl ak) J ?_
    rintro v7 aH D3 ⟨⟨aI,aJ⟩,h6⟩
    refine art 8 [] J ?_
    exact lb [0] [0,0] (H (_,_,_,_) ⟨h,h6⟩)
   refine ch h J ?_ ?_<;>intro h
   ·refine att 3 [] J ?_
    exact wo [1] [0,0] (K _ h)
   refine WT.skip ?_
   exact wo [1] [0,0] (K _ h)
  refine att 7 [] J ?_
  exact lb [0] [0,0] (H (_,_,_,_) ⟨h,k⟩)
 refine att 6 [] J ?_
 exact rtg [0] Q (aB.one J) J (by cases h;exact fun B hw=>⟨x,rfl,rfl,k⟩)
theorem tc (w0:aA e g [ob j,b8].flatten) (c:ah) (d:ae) (U:(List an)) (u:aL) (k:Int) (ab:RSl cX 3 e ai f c.Pats) (af:RSl cL 11 e b0 o c.Conds) (ag:RSl ij 5 e b9 a1 c.Acts) (az:RSl br 3 e aj a d.Items) (aC:OSl aR 105 2 g b8 j U) (aD:RSl aY 3 e pG3_0 aE u.Fields) {r:(List an)} (h:mG N c d U u k=some r) :
  Calls prog 193 [.agg [.string c.Name,iV c.Sal,f,o,a1].toArray,.agg [a,iV d.Next].toArray,j,.agg [.string u.Kind,aE].toArray,iV k].toArray w0.w (bc g w0.w [ob j,b8].flatten (fun aF Fs v=>∃ (ak:List Nat),v = .tuple #[]∧Fs=[ob j,ak]∧OSl aR 105 2 aF ak j r)):=by
 refine eL func193 J ntmps193 J (L:=[ob j,b8]) w0 (fun hF=>?_)
 unfold mG at h
 refine sr<|lbx J fun B=>lbx J fun C=>lbx J fun E=>art 6 [] J ?_
 refine lin (σ:=Hp × (List an) × List Nat × Int) (fun s=>[(2,j),(4,iV k),(5,pQ B),(6,pQ C),(8,pQ E),(10,iV s.2.2.2)]) (fun s=>St w0 s.1 [(E,.cells #[.string u.Kind,aE] 52 (0,0)),(C,.cells #[a,iV d.Next] 29 (0,0)),(B,.cells #[.string c.Name,iV c.Sal,f,o,a1] 87 (0,0))] [ob j,s.2.2.1]) (fun m s=>df N c d u k m s.2.1 s.2.2.2=some r∧(OSl aR 105 2 s.1 s.2.2.1 j s.2.1)) (g,U,b8,0) N ⟨h,aC⟩ (sx [0,0] [0,0,0]) (fun n1 aG s hm=>?_)
 obtain⟨al,s1,V,s2⟩:=s
 obtain⟨h,w⟩:=hm
 dsimp only at h w ⊢
 unfold df at h
 refine atr 5 [] J<|lno w J<|la J<|en ?_
 refine ch h J ?_ ?_<;>intro h
 ·refine att 4 [] J<|WT.mix (Kn w0 al (ob j) [(E,.cells #[.string u.Kind,aE] 52 (0,0)),(C,.cells #[a,iV d.Next] 29 (0,0)),(B,.cells #[.string c.Name,iV c.Sal,f,o,a1] 87 (0,0))]) (fun _=>true) mixed (fun _ h=>h.drew)<|mq 0 J OU (kn Kf.id (ai3 0 1 2 J J J)) (ay ur J (fun x hw=>hw.rgO (i:=2) J 0 5 [.string c.Name,iV c.Sal,f,o,a1] J) J) J ?_
  refine mq 1 J OU (kn Kf.id (ai3 0 1 2 J J J)) (ay oV J (fun x hw=>hw.rgO (i:=1) J 0 2 [a,iV d.Next] J) J) J<|ma 2 J OU (kn Kf.id (ai3 0 1 2 J J J)) J<|ma 3 J OU (kn Kf.id (ai3 0 1 2 J J J)) J ?_
  obtain⟨x1,ao,h⟩:=bs h
  obtain⟨aZ,F1,-,g1,aH,b2,r1⟩:=w.elS (a8 ao).2.2
  obtain⟨v1,v2,rfl,rfl,h1,h2⟩:=r1
  have h3:=h1.rsl
  have h4:=h2.rsl
  refine mq 4 J OU (kn Kf.id (ai3 0 1 2 J J J)) (aq dl J J w.rsl ao) J<|mq 5 J OU (kn Kf.id (ai3 0 1 2 J J J)) (au ue J) J<|mq 6 J OU (kn Kf.id (ai3 0 1 2 J J J)) (aW sR J (fun x hw=>hw.rg aH (g1.of_eq 0 1 J J:rg _ _ _ [v1]))) J ?_
  obtain⟨P,aI,h⟩:=bs h
  refine WM.one 7 OU (mc J (fun _ v b3 D x hq hw=>Kn.of (Kf.id.st hq.2.1 (hq.1.r (i:=0) J)) (ai3 0 1 2 J J J) hw) (bJ (js:=[]) (R:=[ob j,V]) Kq J J (fun x hw ap hl=>oR N (ba hw.fro) c d x1.Ids (ab.y hw.up) (af.y hw.up) (ag.y hw.up) (az.y hw.up) h3  aI)) J ?_)
  rintro v3 b4 F2 ⟨W,ar,v4,rfl,rfl,h5⟩
  replace w:=w.fr ar (W.q 0 J) (W.q 1 J)
  have H:=(Kf.id (F:=(ob j)):Kf al _ _).st ar (W.q 0 J)
  refine ma 8 J OU (kn H (ai3 0 1 2 J J J)) J<|ma 9 J OU (kn H (ai3 0 1 2 J J J)) J<|ma 10 J OU (kn H (ai3 0 1 2 J J J)) J<|ma 11 J OU (kn H (ai3 0 1 2 J J J)) J<|ma 12 J OU (kn H (ai3 0 1 2 J J J)) J<|WM.nil OU<|atr 5 [69,2] J<|kab h J J J (fun b z q=>uE N b c u P.1 (ab.y z) (af.y z) (ag.y z) (aD.y z) h5.rsl q) ?_
  rintro x3 h v5 aJ F3 ⟨av,aM,v6,rfl,rfl,y⟩
  replace w:=w.fr aM (av.q 1 J) (av.q 2 J)
  refine art 7 [] J ?_
  refine lin (σ:=Hp × (List an) × List Nat × Int) (fun s=>[(2,j),(4,iV k),(5,pQ B),(6,pQ C),(8,pQ E),(10,iV s2),(12,.bool P.2),(13,v5),(14,iV s.2.2.2)]) (fun s=>St w0 s.1 [(E,.cells #[.string u.Kind,aE] 52 (0,0)),(C,.cells #[a,iV d.Next] 29 (0,0)),(B,.cells #[.string c.Name,iV c.Sal,f,o,a1] 87 (0,0))] [ob v5,ob j,s.2.2.1]) (fun m s=>ey N k s2 (df N c d u k n1) P x3 m s.2.1 s.2.2.2=some r∧(OSl aR 105 2 s.1 s.2.2.1 j s.2.1)∧(OSl (RI .i64) 3 1 s.1 [] v5 x3)) (aJ,s1,V,0) N ⟨h,w,y⟩ (sx [0,1,1] [0,0,0]) (fun n2 aN s hm=>?_)
  obtain⟨aO,s3,D2,s4⟩:=s
  obtain⟨h,X,y⟩:=hm
  dsimp only at h X y ⊢
  unfold ey at h
  refine atr 5 [] J<|lno y J<|arr 2 [] J ?_
  obtain⟨b1,I,h⟩:=bs h
  refine WL.cutN 2 [(42,.bool b1),(2,j),(4,iV k),(5,pQ B),(6,pQ C),(8,pQ E),(10,iV s2),(12,.bool P.2),(13,v5),(14,iV s4)] ?_ (fun K=>?_)
  rotate_left
  ·refine sp 40 I J (fun I=>?_) fun I=>?_
   ·refine arr 2 [] J ?_
    cases I
    exact ku K
   ·refine arr 2 [] J ?_
    cases I
    exact ku K
  refine en ?_
  refine ch h J ?_ ?_<;>intro h
  ·refine att 3 [] J ?_
   obtain⟨x4,Y,h⟩:=bs h
   obtain⟨b5,F4,Z,A,r2,H,aP⟩:=X.focus Y
   obtain⟨M,G,rfl,rfl,h8,O⟩:=r2
   refine wtL [ob M,ob G,Z,ob v5,ob j] (sre [2] [ob M,ob G,Z] J (by simpa[gi] using aP))<|WT.mix (Kn w0 aO (ob j++(ob G++ob v5)) [(E,.cells #[.string u.Kind,aE] 52 (0,0)),(C,.cells #[a,iV d.Next] 29 (0,0)),(B,.cells #[.string c.Name,iV c.Sal,f,o,a1] 87 (0,0))]) (fun i=>match i with | 22=>false | _=>true) mixed (fun _ h=>h.drew)<|ma 0 J OU (kn Kf.id (ai3 0 1 2 J J J)) J<|ma 1 J OU (kn Kf.id (ai3 0 1 2 J J J)) J ?_
   refine mq 2 J OU (kn Kf.id (ai3 0 1 2 J J J)) (bT dl J J A Y) J<|mq 3 J OU (kn Kf.id (ai3 0 1 2 J J J)) (au u9 J) J<|mq 4 J OU (kn Kf.id (ai3 0 1 2 J J J)) (aW sR J (fun x hw=>hw.rg (gf.2 (.inl A.hb)) (A.rg.of_eq 1 1 J J:rg _ _ _ [G]))) J<|ma 5 J OU (kn Kf.id (ai3 0 1 2 J J J)) J<|ma 6 J OU (kn Kf.id (ai3 0 1 2 J J J)) J<|ma 7 J OU (kn Kf.id (ai3 0 1 2 J J J)) J ?_
   refine mq 8 J OU (kn Kf.id (ai3 0 1 2 J J J)) (bT dl J J A Y) J<|mq 9 J OU (kn Kf.id (ai3 0 1 2 J J J)) (au u9 J) J<|mq 10 J OU (kn Kf.id (ai3 0 1 2 J J J)) (aW sR J (fun x hw=>hw.rg (gf.2 (.inl A.hb)) (A.rg.of_eq 1 1 J J:rg _ _ _ [G]))) J<|ma 11 J OU (kn Kf.id (ai3 0 1 2 J J J)) J ?_
   obtain⟨Q,aw,h⟩:=bs h
   obtain⟨b6,F5,-,g2,aQ,bb,r3⟩:=O.elS (a8 aw).2.2
   obtain⟨rfl,-⟩:=r3
   refine mq 12 J OU (kn Kf.id (ai3 0 1 2 J J J)) (aq bR J J O.rsl aw) J<|mq 13 J OU (kn Kf.id (ai3 0 1 2 J J J)) (aW tQ J (fun x hw=>hw.rg (gf.2 (.inr (gf.2 (.inl aQ)))) (g2.of_eq 0 1 J J:rg _ _ _ [iV Q]))) J<|ma 14 J OU (kn Kf.id (ai3 0 1 2 J J J)) J<|ma 15 J OU (kn Kf.id (ai3 0 1 2 J J J)) J<|ma 16 J OU (kn Kf.id (ai3 0 1 2 J J J)) J ?_
   obtain⟨S,ax,h⟩:=bs h
   obtain⟨bd,F6,-,g3,aS,be,r4⟩:=y.elS (a8 ax).2.2
   obtain⟨rfl,-⟩:=r4
   refine mq 17 J OU (kn Kf.id (ai3 0 1 2 J J J)) (aq bR J J y.rsl ax) J<|mq 18 J OU (kn Kf.id (ai3 0 1 2 J J J)) (aW tQ J (fun x hw=>hw.rg (gf.2 (.inr (gf.2 (.inr aS)))) (g3.of_eq 0 1 J J:rg _ _ _ [iV S]))) J<|ma 19 J OU (kn Kf.id (ai3 0 1 2 J J J)) J<|ma 20 J OU (kn Kf.id (ai3 0 1 2 J J J)) J ?_
   obtain⟨x7,a7,h⟩:=bs h
   obtain⟨bf,F7,-,g4,bg,bh,r5⟩:=O.elS (a8 a7).2.2
   obtain⟨rfl,-⟩:=r5
   refine mq 21 J OU (kn Kf.id (ai3 0 1 2 J J J)) (aq bR J J O.rsl a7) J ?_
   refine WM.one 22 OU (mu J (fun hc=>by cases hc) (DK (js:=[1]) (Rr:=[ob M,Z,ob v5,ob j]) (vs:=[iV (wz (Q+(wz (k*S))))]) (x':=wz (Q+(wz (k*S)))) RI.lasts RI.flat zM J J J J ⟨J,trivial⟩ J O (th a7) ⟨J,J⟩) J ?_)
   rintro aT D4 ⟨⟨T,aa⟩,aU⟩
   replace A:=A.fr aa (T.q 3 J) (T.q 1 J)
   replace y:=y.fr aa (T.q 2 J) dN
   replace h8:=h8.fr aa (T.q 0 J) dN
   refine WM.nil OU<|att 6 [] J ?_
   have r6:aR aT _ [M,G] (⟨x4.Ids,(x4.Hits.set s4.toNat (wz (Q+(wz (k*S)))))⟩:an):=⟨M,G,J,J,h8,aU⟩
   obtain⟨D5,aV,aX⟩:=A.unfocus r6 (aR.knows _ _ _ _ r6)
   refine wtL [D5,ob v5,ob j] (smg [1,0,0] J (by simpa[gi,cK] using aX)) ?_
   exact lb [1,1,0] [0,0,0] (aN (_,_,_,_) ⟨h,aV,y⟩)
  refine att 7 [] J ?_
  exact lb [1,1] [0,0,0] (aG (_,_,_,_) ⟨h,X⟩)
 refine xt J ?_
 refine WT.fin hF aB.none (fun x hw=>?_)
 cases h
 refine aK (js:=[0,0]) hw J ⟨V,J,J,w⟩
theorem zu (w0:aA e g [[n],ob a,b7,ob l,ad].flatten) (y:bf) (H:aJ) (u:ae) (A:Int) (aw:RSl eK 5 e ai f y.Rules) (ax:OSl bb 133 1 g b7 a H.Alphas) (k:OSl aZ 100 1 g ad l H.Rules) (az:g n=some (.cells #[a,l] 35 (0,0))) (aR:RSl br 3 e bY p u.Items) {r:aJ} (h:ol N y H u A=some r) :
  Calls prog 124 [.agg [.string y.Name,f].toArray,pQ n,.agg [p,iV u.Next].toArray,iV A].toArray w0.w (bc g w0.w [[n],ob a,b7,ob l,ad].flatten (fun aC Fs v=>∃ (aD:Value) (aT:List Nat) (aF:Value) (aU:List Nat),v = .tuple #[]∧Fs=[[n],ob aD,aT,ob aF,aU]∧OSl bb 133 1 aC aT aD r.Alphas∧OSl aZ 100 1 aC aU aF r.Rules∧aC n=some (.cells #[aD,aF] 35 (0,0)))):=by
 refine eL func124 J ntmps124 J (L:=[[n],ob a,b7,ob l,ad]) w0 (fun hF=>?_)
 unfold ol at h
 refine sr<|lbx J fun D=>lbx J fun E=>arr 5 [2] J<|kab h J J J (fun b z q=>nX N b u A (aR.y z) q) ?_
 rintro w h v1 bw F1 ⟨Y,aG,v2,rfl,rfl,h1⟩
 replace ax:=ax.fr aG (Y.q 1 J) (Y.q 2 J)
 replace k:=k.fr aG (Y.q 3 J) (Y.q 4 J)
 replace az:=aG _ _ ((Y.q 0 J) _ OW) az
 refine arr 3 [] J<|lnz ni J fun F=>soN 0 oq J ⟨J,h1.one,trivial⟩ J ?_
 refine art 8 [] J ?_
 refine lin (σ:=Hp × (List bk) × List Nat × Int) (fun s=>[(1,pQ n),(3,iV A),(4,pQ D),(6,pQ E),(8,pQ F),(10,iV s.2.2.2)]) (fun s=>St w0 s.1 [(F,.cells #[.string w.1.Kind,v2] 52 (0,0)),(E,.cells #[p,iV u.Next] 29 (0,0)),(D,.cells #[.string y.Name,f] 26 (0,0))] [ob v2,[n],ob a,s.2.2.1,ob l,ad]) (fun m s=>eR N y H u A w m s.2.1 s.2.2.2=some r∧(OSl bb 133 1 s.1 s.2.2.1 a s.2.1)∧(OSl aZ 100 1 s.1 ad l H.Rules)∧(OSl aY 95 3 s.1 [] v2 w.1.Fields)∧(s.1 n=some (.cells #[a,l] 35 (0,0)))) (bw,H.Alphas,b7,0) N ⟨h,ax,k,h1,az⟩ (sx [0,0,0,0,0,0] [0,0,0]) (fun n1 bz s hm=>?_)
 obtain⟨bA,s1,x,s2⟩:=s
 obtain⟨h,d,k,h1,U⟩:=hm
 dsimp only at h d k h1 U ⊢
 unfold eR at h
 refine atr 5 [] J<|lq (aI J) J<|lf jq J J J<|lgx 0 0 (cn U) J<|lno d J<|la J<|en ?_
 refine ch h J ?_ ?_<;>intro h
 ·refine atr 5 [] J<|le' (mh (R:=RI .i64) RI.lasts bR mj J J) J ?_
  rintro v3 bB D2 ⟨ak,h2⟩
  replace d:=d.f0 ak
  replace k:=k.f0 ak
  replace h1:=h1.f0 ak
  replace U:=ak _ _ OW U
  refine art 8 [] J ?_
  refine lin (σ:=Hp × (List Int) × Value × Int) (fun s=>[(1,pQ n),(3,iV A),(4,pQ D),(6,pQ E),(8,pQ F),(10,iV s2),(11,s.2.2.1),(12,iV s.2.2.2)]) (fun s=>St w0 s.1 [(F,.cells #[.string w.1.Kind,v2] 52 (0,0)),(E,.cells #[p,iV u.Next] 29 (0,0)),(D,.cells #[.string y.Name,f] 26 (0,0))] [ob s.2.2.1,ob v2,[n],ob a,x,ob l,ad]) (fun m s=>fc N A s1 s2 (eR N y H u A w n1) m s.2.1 s.2.2.2=some r∧(OSl bb 133 1 s.1 x a s1)∧(OSl aZ 100 1 s.1 ad l H.Rules)∧(OSl aY 95 3 s.1 [] v2 w.1.Fields)∧(OSl (RI .i64) 3 1 s.1 [] s.2.2.1 s.2.1)∧(s.1 n=some (.cells #[a,l] 35 (0,0)))) (bB,([]:List Int),v3,0) N ⟨h,d,k,h1,h2,U⟩ (sx [0,0,0,0,0,0,0] [0,0,0]) (fun n2 aV s hm=>?_)
  obtain⟨bD,s3,u1,s4⟩:=s
  obtain⟨h,d,k,h1,I,B⟩:=hm
  dsimp only at h d k h1 I B ⊢
  unfold fc at h
  refine atr 5 [] J<|lq (aI J) J<|lf jq J J J<|lgx 0 0 (cn B) J<|la J ?_
  obtain⟨x2,aX,h⟩:=bs h
  obtain⟨cB,F2,-,g1,cC,cD,r1⟩:=d.elS (a8 aX).2.2
  obtain⟨v4,rfl,rfl,h3⟩:=r1
  have h4:=h3.rsl
  refine lio d aX J<|lf jx J J J<|lgx 0 0 g1 J<|lnr h4 J<|la J<|en ?_
  refine ch h J ?_ ?_<;>intro h
  ·refine atr 6 [] J<|lq (aI J) J<|lf jq J J J<|lgx 0 0 (cn B) J<|la J ?_
   obtain⟨x3,b1,h⟩:=bs h
   obtain⟨cE,F3,-,g2,cF,cG,r2⟩:=d.elS (a8 b1).2.2
   obtain⟨v5,rfl,rfl,h5⟩:=r2
   have h6:=h5.rsl
   refine lio d b1 J<|lf jx J J J<|lgx 0 0 g2 J<|la J ?_
   obtain⟨x4,b2,h⟩:=bs h
   obtain⟨cH,F4,-,g3,cI,cJ,r3⟩:=h6.el (a8 b2).2.2
   obtain⟨rfl,-⟩:=r3
   refine lia h6 b2 J<|lgx 0 0 g3 J<|art 3 [] J ?_
   refine ch h J ?_ ?_<;>intro h
   ·refine atr 3 [] J<|lq (aI J) J<|lf jq J J J<|lgx 0 0 (cn B) J<|la J ?_
    obtain⟨x5,b3,h⟩:=bs h
    obtain⟨cL,F5,-,g4,cM,cN,r4⟩:=d.elS (a8 b3).2.2
    obtain⟨v6,rfl,rfl,h7⟩:=r4
    have h8:=h7.rsl
    refine lio d b3 J<|lf jx J J J<|lgx 0 0 g4 J<|la J ?_
    obtain⟨S,b4,h⟩:=bs h
    obtain⟨cO,F6,-,g5,cP,cQ,r5⟩:=h8.el (a8 b4).2.2
    obtain⟨rfl,-⟩:=r5
    refine lia h8 b4 J<|lgx 0 0 g5 J ?_
    have bE:RC (RI .i64) 1 bD ([[]]:List (List Nat)) [iV S] ([S]:List Int):=RC.cons (c:=[iV S]) (cells:=[]) ⟨J,J⟩ J (RC.nil _ _ _)
    refine le' (bC (vs:=[(0,iV S)]) (C:=#[iV S]) RI.lasts bR mj J J J J (av kL (aa (C':=[iV S]) J J J J J (af))) J bE J (by simpa using Kw.nil)) J ?_
    rintro v7 bF D3 ⟨Z,h9⟩
    replace h9:OSl (RI .i64) 3 1 bF [] v7 ([S]:List Int):=by simpa using h9
    replace d:=d.f0 Z
    replace k:=k.f0 Z
    replace h1:=h1.f0 Z
    replace I:=I.f0 Z
    replace B:=Z _ _ OW B
    obtain⟨x7,bG,h⟩:=bs h
    refine le' (dW RI.lasts RI.one RI.flat bR tt J J J J J (js:=[1]) (Rr:=[ob v7,ob v2,[n],ob a,x,ob l,ad]) J I h9.rsl bG) J ?_
    rintro v8 cR D4 ⟨⟨V,al⟩,bH⟩
    replace d:=d.fr al (V.q 3 J) (V.q 4 J)
    replace k:=k.fr al (V.q 5 J) (V.q 6 J)
    replace h1:=h1.fr al (V.q 1 J) dN
    replace B:=al _ _ ((V.q 2 J) _ OW) B
    refine art 8 [] J ?_
    exact lb [0,1,1,1,1,1,1] [0,0,0] (aV (_,_,_,_) ⟨h,d,k,h1,bH,B⟩)
   refine att 7 [] J ?_
   exact lb [0,0,0,0,0,0,0] [0,0,0] (aV (_,_,_,_) ⟨h,d,k,h1,I,B⟩)
  refine atr 3 [] J<|lq (aI J) J<|lf jq J J J<|lgx 0 0 (cn B) J<|arr 2 [] J ?_
  obtain⟨x8,b5,h⟩:=bs h
  obtain⟨cS,F7,D5,b6,r6,cT,bI,cU⟩:=d.focusM b5
  obtain⟨v9,rfl,rfl,cV⟩:=r6
  refine wlL [ob v9,D5,ob u1,ob v2,[n],ob a,ob l,ad] (sre [4] [ob v9,D5] J (by simpa[gi] using bI))<|lih b6 b5 J<|lf jx J J J<|lu (us [5] [ob v9,D5,ob u1,ob v2,[n],ob l,ad] 0 bb.lasts sO J J I.one J b6 J (fun ap=>ap.q 1 J)) J ?_
  rintro bK D6 ⟨⟨a7,an⟩,bL⟩
  replace k:=k.fr an (a7.q 5 J) (a7.q 6 J)
  replace h1:=h1.fr an (a7.q 3 J) dN
  replace I:=I.fr an (a7.q 2 J) dN
  replace B:=an _ _ ((a7.q 4 J) _ OW) B
  refine art 7 [] J ?_
  have r7:bb bK _ [u1] (⟨s3⟩:bk):=⟨u1,J,J,I⟩
  obtain⟨D7,bM,bN⟩:=bL.unfocus r7 (bb.knows _ _ _ _ r7)
  refine wtL [D7,ob a,ob v9,ob v2,[n],ob l,ad] (smg [3,2] J (by simpa[gi,cK] using bN)) ?_
  exact lb [3,3,1,0,1,1] [0,0,0] (bz (_,_,_,_) ⟨h,bM,k,h1,B⟩)
 refine att 6 [] J ?_
 refine lin (σ:=Hp × (List aH) × List Nat × Int) (fun s=>[(1,pQ n),(3,iV A),(4,pQ D),(6,pQ E),(8,pQ F),(13,iV s.2.2.2)]) (fun s=>St w0 s.1 [(F,.cells #[.string w.1.Kind,v2] 52 (0,0)),(E,.cells #[p,iV u.Next] 29 (0,0)),(D,.cells #[.string y.Name,f] 26 (0,0))] [ob v2,[n],ob a,x,ob l,s.2.2.1]) (fun m s=>f8 N y u A w s1 m s.2.1 s.2.2.2=some r∧(OSl bb 133 1 s.1 x a s1)∧(OSl aZ 100 1 s.1 s.2.2.1 l s.2.1)∧(OSl aY 95 3 s.1 [] v2 w.1.Fields)∧(s.1 n=some (.cells #[a,l] 35 (0,0)))) (bA,H.Rules,ad,0) N ⟨h,d,k,h1,U⟩ (sx [0,0,0,0,0,0] [0,0,0]) (fun n3 bO s hm=>?_)
 obtain⟨bP,s5,D8,s6⟩:=s
 obtain⟨h,d,k5,h1,k6⟩:=hm
 dsimp only at h d k5 h1 k6 ⊢
 unfold f8 at h
 refine atr 6 [1,64] J<|lnr aw J<|la J<|en ?_
 refine ch h J ?_ ?_<;>intro h
 ·refine atr 6 [] J<|lq (aI J) J<|lf vK J J J<|lgx 1 0 (cn k6) J<|la J ?_
  obtain⟨x9,ba,h⟩:=bs h
  obtain⟨cW,F8,G,aL,r8,cX,bQ⟩:=k5.focus ba
  obtain⟨v10,aM,rfl,rfl,bS⟩:=r8
  refine wlL [ob v10,aM,G,ob v2,[n],ob a,x,ob l] (sre [5] [ob v10,aM,G] J (by simpa[gi] using bQ))<|lih aL ba J<|lf iA J J J<|lgx 0 0 aL.rg J<|art 8 [] J ?_
  refine lin (σ:=Hp × (List ar) × List Nat × Int) (fun s=>[(1,pQ n),(3,iV A),(4,pQ D),(6,pQ E),(8,pQ F),(13,iV s6),(14,v10),(15,iV s.2.2.2)]) (fun s=>St w0 s.1 [(F,.cells #[.string w.1.Kind,v2] 52 (0,0)),(E,.cells #[p,iV u.Next] 29 (0,0)),(D,.cells #[.string y.Name,f] 26 (0,0))] [ob v10,s.2.2.1,G,ob v2,[n],ob a,x,ob l]) (fun m s=>gr N y u A w s5 s6 (f8 N y u A w s1 n3) m s.2.1 s.2.2.2=some r∧(OSl bb 133 1 s.1 x a s1)∧(OSl aY 95 3 s.1 [] v2 w.1.Fields)∧(OSl aS 103 1 s.1 s.2.2.1 v10 s.2.1)∧(s.1 n=some (.cells #[a,l] 35 (0,0)))∧(HSl aZ 100 1 s.1 G l s5 s6.toNat [v10])) (bP,x9.Levels,aM,0) N ⟨h,d,h1,bS,k6,aL⟩ (sx [0,0,0,0,0,0,0,0] [0,0,0]) (fun n4 bU s hm=>?_)
  obtain⟨bd,s7,cY,s8⟩:=s
  obtain⟨h,d,h1,k8,K,M⟩:=hm
  dsimp only at h d h1 k8 K M ⊢
  unfold gr at h
  refine atr 5 [] J<|lno k8 J<|la J<|en ?_
  refine ch h J ?_ ?_<;>intro h
  ·refine atr 8 [] J ?_
   obtain⟨bV,aN,h⟩:=bs h
   obtain⟨cZ,F9,aO,W,r9,da,bW⟩:=k8.focus aN
   obtain⟨v11,be,rfl,rfl,bZ⟩:=r9
   refine wlL [ob v11,be,aO,ob v10,G,ob v2,[n],ob a,x,ob l] (sre [1] [ob v11,be,aO] J (by simpa[gi] using bW))<|lih W aN J<|lf fk J J J<|lgx 0 0 W.rg J<|la J<|kcb [0,0] h J J J J (fun b ap z q=>vA N b bV.Toks A bZ q) ?_
   rintro c4 h v12 db dc ⟨O,ab,dd,bg,rfl,rfl,ao⟩
   replace d:=d.fr ab (O.q 5 J) (O.q 6 J)
   replace M:=M.fr ab (O.q 7 J) (O.q 2 J)
   replace h1:=h1.fr ab (O.q 3 J) dN
   replace W:=W.fr ab (O.q 1 J) (O.q 0 J)
   replace K:=ab _ _ ((O.q 4 J) _ OW) K
   refine lih W aN J<|lf fk J J J<|lu (us [3] [ob v12,bg,aO,G,ob v2,[n],ob a,x,ob l] 0 aS.lasts zB J J ao.one J W J (fun ap=>ap.q 2 J)) J ?_
   rintro c5 de ⟨⟨P,ag⟩,c6⟩
   replace d:=d.fr ag (P.q 6 J) (P.q 7 J)
   replace M:=M.fr ag (P.q 8 J) (P.q 3 J)
   replace h1:=h1.fr ag (P.q 4 J) dN
   replace ao:=ao.fr ag (P.q 0 J) (P.q 1 J)
   replace K:=ag _ _ ((P.q 5 J) _ OW) K
   refine art 7 [] J ?_
   have bh:aS c5 _ [v12] (⟨c4⟩:ar):=⟨v12,bg,J,J,ao⟩
   obtain⟨c7,c8,ca⟩:=c6.unfocus bh (aS.knows _ _ _ _ bh)
   refine wtL [c7,ob v10,G,ob v2,[n],ob a,x,ob l] (smg [1,1,1] J (by simpa[gi,cK] using ca)) ?_
   exact lb [1,0,0,0,0,0,0,0] [0,0,0] (bU (_,_,_,_) ⟨h,d,h1,c8,K,M⟩)
  refine xt J<|WT.mix (Kn w0 bd (ob v10) [(F,.cells #[.string w.1.Kind,v2] 52 (0,0)),(E,.cells #[p,iV u.Next] 29 (0,0)),(D,.cells #[.string y.Name,f] 26 (0,0))]) (fun i=>match i with | 14=>false | _=>true) mixed (fun _ h=>h.drew)<|mq 5 J OU (kn Kf.id (ai3 0 1 2 J J J)) (ay oV J (fun T hw=>hw.rgO (i:=1) J 0 2 [p,iV u.Next] J) J) J<|mq 13 J OU (kn Kf.id (ai3 0 1 2 J J J)) (ay oU J (fun T hw=>hw.rgO (i:=0) J 0 2 [.string w.1.Kind,v2] J) J) J ?_
  refine mqT 0 [1,3,4,14] J OU (kn Kf.id (ai3 0 1 2 J J J)) (au yE J) J<|mqT 1 [3,4,14] J OU (kn Kf.id (ai3 0 1 2 J J J)) (aW Lr J (fun T hw=>hw.rgO (i:=2) J 1 1 [f] J)) J<|mqT 2 [3,4,14] J OU (kn Kf.id (ai3 0 1 2 J J J)) (jv J) J ?_
  obtain⟨aP,bl,h⟩:=bs h
  obtain⟨df,dg,-,g6,dh,di,cb⟩:=aw.el (a8 bl).2.2
  obtain⟨cc,G1,cd,G2,cf,G3,rfl,rfl,cg,cj,ck⟩:=cb
  refine mqT 3 [4,14] J OU (kn Kf.id (ai3 0 1 2 J J J)) (aq FN J J aw bl) J<|mq 4 J OU (kn Kf.id (ai3 0 1 2 J J J)) (ay ur J (fun T hw=>(g6.of_eq 0 5 J J:rg _ _ _ [.string aP.Name,iV aP.Sal,cc,cd,cf]).rangeAt hw.1) J) J<|mqT 6 [10,11,12,14] J OU (kn Kf.id (ai3 0 1 2 J J J)) (jv J) J<|mqT 7 [8,9,10,11,12,14] J OU (kn Kf.id (ai3 0 1 2 J J J)) (jv J) J ?_
  refine mqT 8 [9,10,11,12,14] J OU (kn Kf.id (ai3 0 1 2 J J J)) (mm qf J J (k8.rslG aS.gives)) J<|mqT 9 [10,11,12,14] J OU (kn Kf.id (ai3 0 1 2 J J J)) (Ct J J) J ?_
  obtain⟨cm,bm,h⟩:=bs h
  obtain⟨dj,dk,aQ,X,cp,dm,cq⟩:=k8.focus bm
  obtain⟨v17,bn,rfl,rfl,cr⟩:=cp
  refine WM.conv (S':=St w0 bd [(F,.cells #[.string w.1.Kind,v2] 52 (0,0)),(E,.cells #[p,iV u.Next] 29 (0,0)),(D,.cells #[.string y.Name,f] 26 (0,0))] [ob v17,bn,aQ,ob v10,G,ob v2,[n],ob a,x,ob l]) (fun T hw=>hw.re (js:=[1]) (Bs:=[ob v17,bn,aQ]) J (by simpa[gi] using cq))<|mqT 10 [11,12,14] J OU (kn Kf.id (ai3 0 1 2 J J J)) (bT qf J J X bm) J<|mqT 11 [12,14] J OU (kn Kf.id (ai3 0 1 2 J J J)) (au fk J) J ?_
  refine mq 12 J OU (kn Kf.id (ai3 0 1 2 J J J)) (aW xk J (fun T hw=>hw.rg X.hb (X.rg.of_eq 0 1 J J:rg _ _ _ [v17]))) J ?_
  obtain⟨bo,ct,h⟩:=bs h
  refine WM.one 14 OU (mc J (fun hc=>by cases hc) (bJ (js:=[0,0]) (R:=[aQ,ob v10,G,ob v2,[n],ob a,x,ob l]) FQ J J (fun T hw ap hl=>tc N (bx hw ap hl) aP u cm.Toks w.1 (-1) (cg.y (hw.uo ap)) (cj.y (hw.uo ap)) (ck.y (hw.uo ap)) (aR.y (hw.uo ap)) cr (h1.rsl.x (Dj.app (ap.q 3 J) dN))  ct)) J ?_)
  rintro dn bp dp ⟨Q,ah,cu,rfl,rfl,cv⟩
  replace d:=d.fr ah (Q.q 5 J) (Q.q 6 J)
  replace M:=M.fr ah (Q.q 7 J) (Q.q 2 J)
  replace h1:=h1.fr ah (Q.q 3 J) dN
  replace X:=X.fr ah (Q.q 1 J) (Q.q 0 J)
  replace K:=ah _ _ ((Q.q 4 J) _ OW) K
  refine WM.nil OU<|att 6 [] J ?_
  have bq:aS bp _ [v17] (⟨bo⟩:ar):=⟨v17,cu,J,J,cv⟩
  obtain⟨bt,cw,cx⟩:=X.unfocus bq (aS.knows _ _ _ _ bq)
  refine wtL [bt,ob v10,G,ob v2,[n],ob a,x,ob l] (smg [0,0,0] J (by simpa[gi,cK] using cx)) ?_
  have bu:aZ bp _ [v10] (⟨(s7.set (wz ((s7.length:Int) - 1)).toNat (⟨bo⟩:ar))⟩:aH):=⟨v10,bt,J,J,cw⟩
  obtain⟨cy,cz,cA⟩:=M.unfocus bu (aZ.knows _ _ _ _ bu)
  refine wtL [cy,ob v2,[n],ob a,x,ob l] (smg [1,0,0] J (by simpa[gi,cK] using cA)) ?_
  exact lb [1,1,1,1,1,0] [0,0,0] (bO (_,_,_,_) ⟨h,d,cz,h1,K⟩)
 refine xt J ?_
 refine WT.fin hF aB.none (fun T hw=>?_)
 cases h
 refine aK (js:=[1,1,1,1,1]) hw J ⟨a,x,l,D8,J,J,d,k5,k6⟩
theorem CW  (w0:aA e g []) (c:Int) (d:Int) (i:Int)  {r:Bool} (h:tL N c d i=some r) :
  CB w0 prog 46 [iV c,iV d,iV i] (.bool r):=by
 refine eN func46 J ntmps46 J w0 fun k=>?_
 unfold tL at h
 refine atr 10 [] J ?_
 obtain⟨m,b,h⟩:=bs h
 refine WL.cutN 4 [(14,.bool m),(6,.bool false)] ?_ (fun K=>?_)
 rotate_left
 ·refine sp 10 b J (fun b=>?_) fun b=>?_
  ·refine arr 4 [] J ?_
   cases b
   exact ku K
  ·refine arr 4 [] J ?_
   cases b
   exact ku K
 refine la J<|en ?_
 exact rt k h
theorem A4 (w0:aA e g []) (b:ax) (i:aL) (z:RSl aY 3 e ai f b.Consts) (A:RSl (RI .i64) 1 e b0 o b.At) (w:RSl aY 3 e aj a i.Fields) {r:Bool} (h:qe N b i=some r) :
  CB w0 prog 194 [.agg [.string b.Kind,iV b.N,f,o].toArray,.agg [.string i.Kind,a].toArray] (.bool r):=by
 refine eN func194 J ntmps194 J w0 fun B=>?_
 unfold qe at h
 refine sr<|lbx J fun q=>lbx J fun u=>arr 11 [0,32,0,0] J ?_
 obtain⟨L,v,h⟩:=bs h
 refine WL.cutN 7 [(19,.bool L),(2,pQ q),(3,pQ u)] ?_ (fun K=>?_)
 rotate_left
 ·refine sp 12 v J (fun v=>?_) fun v=>?_
  ·refine arr 7 [] J ?_
   cases v
   exact ku K
  ·refine arr 4 [1,32,1,0] J<|ly J J<|lnr w J<|arr 2 [] J ?_
   cases v
   exact ku K
 refine en ?_
 refine ch h J ?_ ?_<;>intro h
 ·refine att 4 [] J ?_
  exact rt B h
 refine att 7 [] J ?_
 refine lin (σ:=Int) (fun s=>[(2,pQ q),(3,pQ u),(5,iV s)]) (fun s=>St w0 g [(u,.cells #[.string i.Kind,a] 52 (0,0)),(q,.cells #[.string b.Kind,iV b.N,f,o] 137 (0,0))] []) (fun m s=>iS N b i m s=some r) (0) N h (sx [] [0,0]) (fun M O s hm=>?_)
 revert hm;revert s;intro s1 hm
 have h:iS N b i (M+1) s1=some r:=hm
 show WT _ _ [(2,pQ q),(3,pQ u),(5,iV s1)] (St w0 g [(u,.cells #[.string i.Kind,a] 52 (0,0)),(q,.cells #[.string b.Kind,iV b.N,f,o] 137 (0,0))] [])
 unfold iS at h
 refine atr 6 [3,32] J<|lnr A J<|la J<|en ?_
 refine ch h J ?_ ?_<;>intro h
 ·refine atr 8 [3,32] J ?_
  obtain⟨E,F,h⟩:=bs h
  obtain⟨V,W,-,g1,X,Y,P⟩:=A.el (a8 F).2.2
  obtain⟨rfl,-⟩:=P
  refine lia A F J<|lhx 0 0 g1 J<|art 3 [] J<|WT.draw mixed OU (fun _ h=>h.drew)<|aqq 3 [2,32] J<|qq (mm jr J J z) J<|aqq 2 [] J ?_
  obtain⟨Q,k,h⟩:=bs h
  refine WQ.cutN 8 [(45,.bool Q),(2,pQ q),(3,pQ u),(5,iV s1),(6,iV E)] ?_ (fun K=>?_)
  rotate_left
  ·refine WQ.split (d:=37) J (fun C=>?_) (fun C=>?_)
   ·replace k:=mC k C
    refine aqq 8 [] J ?_
    cases k
    exact kq K
   ·replace k:=mE k C
    refine aqq 3 [1,0] J<|WQ.yes J J<|qq (mm jr J J w) J<|WQ.yes J J<|qq (Ct J J) J<|WQ.yes J J ?_
    obtain⟨Z,R,k⟩:=bs k
    refine qp (jj M8 J (fun G hw=>CW N (ba hw.fro) E 0 (wz ((i.Fields.length:Int) - 1)) R)) J<|aqq 2 [] J ?_
    cases k
    exact kq K
  refine qq (jv J) J ?_
  obtain⟨S,c,h⟩:=bs h
  refine WQ.cutN 12 [(58,.bool S),(2,pQ q),(3,pQ u),(5,iV s1)] ?_ (fun K=>?_)
  rotate_left
  ·refine WQ.split (d:=46) J (fun D=>?_) (fun D=>?_)
   ·replace c:=mC c D
    refine aqq 12 [] J ?_
    cases c
    exact kq K
   ·replace c:=mE c D
    refine aqq 3 [1,0] J<|WQ.yes J J ?_
    obtain⟨x,H,c⟩:=bs c
    obtain⟨a7,F2,-,g2,aa,ab,T⟩:=w.el (a8 H).2.2
    obtain⟨rfl,-⟩:=T
    refine qq (aq jr J J w H) J<|WQ.yes J J<|qq (ay lR J (fun G hw=>(g2.of_eq 0 3 J J:rg _ _ _ [iV x.K,iV x.N,.string x.S]).rangeAt hw.in0) J) J<|aqq 3 [2,32] J<|WQ.yes J J ?_
    obtain⟨y,I,c⟩:=bs c
    obtain⟨ae,F3,-,g3,af,ag,U⟩:=z.el (a8 I).2.2
    obtain⟨rfl,-⟩:=U
    refine qq (aq jr J J z I) J<|WQ.yes J J<|qq (ay lR J (fun G hw=>(g3.of_eq 0 3 J J:rg _ _ _ [iV y.K,iV y.N,.string y.S]).rangeAt hw.in0) J) J<|WQ.yes J J<|qq (uF oN J J J (r:=bS x y) J) J<|WQ.q (sy J J) J J J ?_
    cases c
    exact kq K
  refine WQ.nil ?_
  refine ch h J ?_ ?_<;>intro h
  ·refine att 4 [] J ?_
   exact rt B h
  refine att 7 [] J ?_
  exact lb [] [0,0] (O _ h)
 refine att 5 [] J ?_
 exact rt B h
theorem qw (w0:aA e g [ob t,a6].flatten) (F:(List an)) (m:ah) (u:ae) (G:(List Int)) (k:Int) (d:OSl aR 105 2 g a6 t F) (U:RSl cX 3 e aj a m.Pats) (V:RSl cL 11 e pG1_1 l m.Conds) (W:RSl ij 5 e pG1_2 c9 m.Acts) (X:RSl br 3 e bY p u.Items) (Y:RSl (RI .i64) 1 e pG3 c0 G) {r:(List an)} (h:kZ N F m u G k=some r) :
  Calls prog 230 [t,.agg [.string m.Name,iV m.Sal,a,l,c9].toArray,.agg [p,iV u.Next].toArray,c0,iV k].toArray w0.w (bc g w0.w [ob t,a6].flatten (fun Z Fs v=>∃ (x:Value) (H:List Nat),v=x∧Fs=[ob x,H]∧OSl aR 105 2 Z H x r)):=by
 refine eL func230 J ntmps230 J (L:=[ob t,a6]) w0 (fun I=>?_)
 unfold kZ at h
 refine sr<|lbx J fun ay=>lbx J fun az=>arr 4 [] J<|le' (mh (R:=RI .i64) RI.lasts bR mj J J) J ?_
 rintro v1 aC D1 ⟨a7,h1⟩
 replace d:=d.f0 a7
 refine la J<|lu0 Y fun h2=>?_
 obtain⟨x1,a8,h⟩:=bs h
 refine le' (dW RI.lasts RI.one RI.flat bR tt J J J J J (js:=[0]) (Rr:=[ob t,a6]) J h1 h2 a8) J ?_
 rintro v2 ab D2 ⟨⟨K,ag⟩,y⟩
 replace d:=d.fr ag (K.q 0 J) (K.q 1 J)
 refine la J ?_
 have ak:RC (RI .i64) 1 ab ([[]]:List (List Nat)) [iV k] ([k]:List Int):=RC.cons (c:=[iV k]) (cells:=[]) ⟨J,J⟩ J (RC.nil _ _ _)
 refine le' (bC (vs:=[(0,iV k)]) (C:=#[iV k]) RI.lasts bR mj J J J J (av kL (aa (C':=[iV k]) J J J J J (af))) J ak J (by simpa using Kw.nil)) J ?_
 rintro v3 al D3 ⟨M,A⟩
 replace A:OSl (RI .i64) 3 1 al [] v3 ([k]:List Int):=by simpa using A
 replace d:=d.f0 M
 replace y:=y.f0 M
 obtain⟨B,ao,h⟩:=bs h
 refine le' (dW RI.lasts RI.one RI.flat bR tt J J J J J (js:=[1]) (Rr:=[ob v3,ob t,a6]) J y A.rsl ao) J ?_
 rintro v4 aD D4 ⟨⟨O,aq⟩,s⟩
 replace d:=d.fr aq (O.q 1 J) (O.q 2 J)
 refine arr 7 [37,2] J<|kab h J J J (fun b z q=>oR N b m u B (U.y z) (V.y z) (W.y z) (X.y z) s.rsl q) ?_
 rintro x3 h v5 aF F1 ⟨D,P,v6,rfl,rfl,h6⟩
 replace d:=d.fr P (D.q 2 J) (D.q 3 J)
 replace s:=s.fr P (D.q 0 J) dN
 refine art 12 [] J ?_
 refine ch h J ?_ ?_<;>intro h
 ·refine att 5 [] J ?_
  exact rtg [3,3] I (aB.one J) J (by cases h;exact fun w1 hw=>⟨t,a6,rfl,rfl,d⟩)
 refine atr 5 [] J<|le' (mh (R:=RI .i64) RI.lasts bR mj J J) J ?_
 rintro i ar D5 ⟨Q,S⟩
 replace d:=d.f0 Q
 replace s:=s.f0 Q
 refine lq (bE (vs:=[(0,v4),(1,i)]) (C:=#[v4,i]) DW gS J (aa (C':=[v4,.slice none 0 0]) J (dp s.one) J J J (aa (C':=[v4,i]) J (dp S.one) J J J (af)))) J ?_
 have T:RC aR 2 ar ([(ob v4++[])++((ob i++[]))]:List (List Nat)) [v4,i] ([(⟨B,([]:List Int)⟩:an)]:List an):=RC.cons (c:=[v4,i]) (cells:=[]) ⟨v4,i,J,J,s,S⟩ J (RC.nil _ _ _)
 refine le' (bC (vs:=[(0,.agg [v4,i].toArray)]) (C:=#[v4,i]) aR.lasts dl gS J J J J (av w9 (aa (C':=[v4,i]) J J J J J (af))) J T J (RC.kn aR.knows T)) J ?_
 rintro w au D6 ⟨aw,E⟩
 replace E:OSl aR 105 2 au ((ob v4++[])++((ob i++[]))) w ([(⟨B,([]:List Int)⟩:an)]:List an):=by simpa[gi] using E
 replace d:=d.f0 aw
 refine wlL [((ob v4++[])++((ob i++[]))),ob w,ob v6,ob v3,ob t,a6] (smg [3,1] J (SP.eq (by simp[gi,cK]))) ?_
 obtain⟨x4,ax,h⟩:=bs h
 refine le' (em aR.lasts aR.one dl rd J J J J J (js:=[4]) (Rr:=[((ob v4++[])++((ob i++[]))),ob w,ob v6,ob v3,a6]) J d E (fun ap=>ap.q 4 J) (fun ap=>ap.q 0 J) ax) J ?_
 rintro v9 aG D7 ⟨⟨aH,aI⟩,h9⟩
 refine wlL [(a6++((ob v4++[])++((ob i++[])))),ob v9,ob w,ob v6,ob v3] (smg [5,1] J (SP.eq OW))<|la J<|en ?_
 exact rtg [1,0] I (aB.one J) J (by cases h;exact fun w1 hw=>⟨v9,(a6++((ob v4++[])++((ob i++[])))),J,J,h9⟩)
theorem xQ (w0:aA e g [ob p].flatten) (d:ah) (k:ae) (x:an) (H:RSl cX 3 e ai f d.Pats) (K:RSl cL 11 e b0 o d.Conds) (M:RSl ij 5 e b9 a1 d.Acts) (I:RSl br 3 e aj a k.Items) (c:OSl (RI .i64) 3 1 g [] p x.Ids) (aH:RSl (RI .i64) 1 e pG2_1 bX x.Hits) {r:an} (h:mX N d k x=some r) :
  Calls prog 231 [.agg [.string d.Name,iV d.Sal,f,o,a1].toArray,.agg [a,iV k.Next].toArray,.agg [p,bX].toArray].toArray w0.w (bc g w0.w [ob p].flatten (fun Y Fs v=>∃ (O:Value) (P:Value),v = .agg [O,P].toArray∧Fs=[ob O,ob P]∧OSl (RI .i64) 3 1 Y [] O r.Ids∧OSl (RI .i64) 3 1 Y [] P r.Hits)):=by
 refine eL func231 J ntmps231 J (L:=[ob p]) w0 (fun hF=>?_)
 unfold mX at h
 refine sr<|lbx J fun B=>lbx J fun C=>lbx J fun E=>lnz gS J fun F=>arr 7 [101,66,0,32] J<|kab h J J J (fun b z q=>oR N b d k x.Ids (H.y z) (K.y z) (M.y z) (I.y z) c.rsl q) ?_
 rintro G h v1 aI F1 ⟨ag,ak,v2,rfl,rfl,h1⟩
 replace c:=c.fr ak (ag.q 0 J) dN
 refine art 7 [] J<|wm [0,1,2,3] [8] J<|amm 2 [0,2,1,96] [0,1,2,3] J J<|mq 2 J OU (kN [0,1,2,3]) (mm tI J J H) J<|amm 1 [3,101] [0,1,2,3] J J ?_
 obtain⟨x2,al,h⟩:=bs h
 refine on1 4 (mp J (kS [0,1,2,3]) (pdP J (sP N · d H K M al)) J ?_)
 refine amm 1 [5] [0,1,2,3] J J ?_
 obtain⟨x3,Z,h⟩:=bs h
 refine WM.one 6 OU (me J (fun _ v ao D u hq hw=>Kn.of Kf.nil (am [0,1,2,3] J) hw) (DI (R:=(RI .i64)) bR mj ON J J J (fun _=>⟨J,J⟩) J J (Int.le_refl _) Z (It Z)) J ?_)
 rintro v3 ar D1 ⟨a7,h2⟩
 replace c:=c.f0 a7
 replace h1:=h1.f0 a7
 refine amm 1 [7,1] [0,1,2,3] J J ?_
 refine on1 8 (ms1 1 J nk sO J h2.one ?_)
 refine WM.nil OU<|att 6 [] J ?_
 refine lin (σ:=Hp × (List Int) × Int) (fun s=>[(3,pQ B),(4,pQ C),(5,pQ E),(6,pQ F),(7,v2),(9,iV s.2.2)]) (fun s=>St w0 s.1 [(F,.cells #[.slice none 0 0,.slice none 0 0] 105 (0,0)),(E,.cells #[p,v3] 105 (0,0)),(C,.cells #[a,iV k.Next] 29 (0,0)),(B,.cells #[.string d.Name,iV d.Sal,f,o,a1] 87 (0,0))] [ob v3,ob v2,ob p]) (fun m s=>dU N d k x G m s.2.1 s.2.2=some r∧(OSl (RI .i64) 3 1 s.1 [] p x.Ids)∧(OSl aQ 97 4 s.1 [] v2 G.1)∧(OSl (RI .i64) 3 1 s.1 [] v3 s.2.1)) (ar,x3,0) N ⟨h,c,h1,h2⟩ (sx [0,0,0] [0,0,0,0]) (fun n1 av s hm=>?_)
 obtain⟨aJ,s1,s2⟩:=s
 obtain⟨h,c,h1,A⟩:=hm
 dsimp only at h c h1 A ⊢
 unfold dU at h
 refine atr 6 [0,64] J<|lnr I J<|la J<|en ?_
 refine ch h J ?_ ?_<;>intro h
 ·refine att 4 [] J<|wm [0,1,2,3] [] J<|amm 4 [0,101,1,0,2,64,3] [0,1,2,3] J J ?_
  obtain⟨x4,aa,h⟩:=bs h
  obtain⟨aK,F2,-,g1,aL,aM,r1⟩:=I.el (a8 aa).2.2
  obtain⟨v4,G1,rfl,aw,h3⟩:=r1
  obtain rfl:=aw.symm
  refine mq 4 J OU (kN [0,1,2,3]) (aq np J J I aa) J<|amm 1 [5,1] [0,1,2,3] J J<|mq 6 J OU (kN [0,1,2,3]) (ay oU J (fun u hw=>(g1.of_eq 1 2 J J:rg _ _ _ [.string x4.F.Kind,v4]).rangeAt hw.1) J) J<|amm 1 [7] [0,1,2,3] J J ?_
  obtain⟨x5,ax,h⟩:=bs h
  refine WM.one 8 OU (mc J (fun _ v ao D u hq hw=>Kn.of Kf.nil (am [0,1,2,3] J) hw) (bJ (js:=[]) (R:=[ob v3,ob v2,ob p]) KA J J (fun u hw ap hl=>uE N (ba hw.fro) d x4.F G.1 (H.y hw.up) (K.y hw.up) (M.y hw.up) (h3.y hw.up) h1.rsl  ax)) J ?_)
  rintro v5 az F3 ⟨Q,S,v6,rfl,rfl,w⟩
  replace c:=c.fr S (Q.q 2 J) dN
  replace h1:=h1.fr S (Q.q 1 J) dN
  replace A:=A.fr S (Q.q 0 J) dN
  refine amm 1 [9] [0,1,2,3] J J<|WM.nil OU<|att 5 [] J ?_
  refine lin (σ:=Hp × (List Int) × Int) (fun s=>[(3,pQ B),(4,pQ C),(5,pQ E),(6,pQ F),(7,v2),(9,iV s2),(10,v5),(11,iV s.2.2)]) (fun s=>St w0 s.1 [(F,.cells #[.slice none 0 0,.slice none 0 0] 105 (0,0)),(E,.cells #[p,v3] 105 (0,0)),(C,.cells #[a,iV k.Next] 29 (0,0)),(B,.cells #[.string d.Name,iV d.Sal,f,o,a1] 87 (0,0))] [ob v5,ob v3,ob v2,ob p]) (fun m s=>fv N s2 (dU N d k x G n1) x5 m s.2.1 s.2.2=some r∧(OSl (RI .i64) 3 1 s.1 [] p x.Ids)∧(OSl aQ 97 4 s.1 [] v2 G.1)∧(OSl (RI .i64) 3 1 s.1 [] v3 s.2.1)∧(OSl (RI .i64) 3 1 s.1 [] v5 x5)) (az,s1,0) N ⟨h,c,h1,A,w⟩ (sx [0,0,0,0] [0,0,0,0]) (fun n2 aC s hm=>?_)
  obtain⟨aD,s3,s4⟩:=s
  obtain⟨h,c,h1,y,w⟩:=hm
  dsimp only at h c h1 y w ⊢
  unfold fv at h
  refine atr 5 [] J<|lno w J<|la J<|en ?_
  refine ch h J ?_ ?_<;>intro h
  ·refine att 3 [] J<|WT.mix (Kn w0 aD (ob v3++ob v5) [(F,.cells #[.slice none 0 0,.slice none 0 0] 105 (0,0)),(E,.cells #[p,v3] 105 (0,0)),(C,.cells #[a,iV k.Next] 29 (0,0)),(B,.cells #[.string d.Name,iV d.Sal,f,o,a1] 87 (0,0))]) (fun i=>match i with | 14=>false | _=>true) mixed (fun _ h=>h.drew)<|mq 0 J OU (kn Kf.id (am [0,1,2,3] J)) (au u9 J) J<|mq 1 J OU (kn Kf.id (am [0,1,2,3] J)) (aW sR J (fun u hw=>hw.rgO (i:=1) J 1 1 [v3] J)) J ?_
   refine ma 2 J OU (kn Kf.id (am [0,1,2,3] J)) J<|mq 3 J OU (kn Kf.id (am [0,1,2,3] J)) (au u9 J) J<|mq 4 J OU (kn Kf.id (am [0,1,2,3] J)) (aW sR J (fun u hw=>hw.rgO (i:=1) J 1 1 [v3] J)) J<|ma 5 J OU (kn Kf.id (am [0,1,2,3] J)) J ?_
   obtain⟨T,ab,h⟩:=bs h
   obtain⟨aN,F4,-,g2,aF,aO,r2⟩:=y.elS (a8 ab).2.2
   obtain⟨rfl,-⟩:=r2
   refine mq 6 J OU (kn Kf.id (am [0,1,2,3] J)) (aq bR J J y.rsl ab) J<|mq 7 J OU (kn Kf.id (am [0,1,2,3] J)) (aW tQ J (fun u hw=>hw.rg (gf.2 (.inl aF)) (g2.of_eq 0 1 J J:rg _ _ _ [iV T]))) J<|ma 8 J OU (kn Kf.id (am [0,1,2,3] J)) J<|ma 9 J OU (kn Kf.id (am [0,1,2,3] J)) J ?_
   obtain⟨U,af,h⟩:=bs h
   obtain⟨aP,F5,-,g3,aG,aR,r3⟩:=w.elS (a8 af).2.2
   obtain⟨rfl,-⟩:=r3
   refine mq 10 J OU (kn Kf.id (am [0,1,2,3] J)) (aq bR J J w.rsl af) J<|mq 11 J OU (kn Kf.id (am [0,1,2,3] J)) (aW tQ J (fun u hw=>hw.rg (gf.2 (.inr aG)) (g3.of_eq 0 1 J J:rg _ _ _ [iV U]))) J<|ma 12 J OU (kn Kf.id (am [0,1,2,3] J)) J ?_
   obtain⟨x8,V,h⟩:=bs h
   obtain⟨aS,F6,-,g4,aT,aU,r4⟩:=y.elS (a8 V).2.2
   obtain⟨rfl,-⟩:=r4
   refine mq 13 J OU (kn Kf.id (am [0,1,2,3] J)) (aq bR J J y.rsl V) J ?_
   refine WM.one 14 OU (mu J (fun hc=>by cases hc) (DK (js:=[1]) (Rr:=[ob v5,ob v2,ob p]) (vs:=[iV (wz (T+U))]) (x':=wz (T+U)) RI.lasts RI.flat zM J J J J ⟨J,trivial⟩ J y (th V) ⟨J,J⟩) J ?_)
   rintro aV D2 ⟨⟨W,X⟩,h5⟩
   replace c:=c.fr X (W.q 2 J) dN
   replace h1:=h1.fr X (W.q 1 J) dN
   replace w:=w.fr X (W.q 0 J) dN
   refine WM.nil OU<|att 6 [] J ?_
   exact lb [1,0,0,0] [0,0,0,0] (aC (_,_,_) ⟨h,c,h1,h5,w⟩)
  refine att 7 [] J ?_
  exact lb [1,1,1] [0,0,0,0] (av (_,_,_) ⟨h,c,h1,y⟩)
 refine atr 4 [34] J<|soN 0 nI J ⟨c.one,A.one,trivial⟩ J ?_
 refine en ?_
 exact rtg [2,0] hF (aB.one (bd DJ J (fun u hw=>hw.rgO (i:=0) J 0 2 [p,v3] J) J)) J (by cases h;exact fun u hw=>⟨p,v3,rfl,rfl,c,A⟩)
end Go.Proofs.YtedmfnmbjglmbaaGreat
