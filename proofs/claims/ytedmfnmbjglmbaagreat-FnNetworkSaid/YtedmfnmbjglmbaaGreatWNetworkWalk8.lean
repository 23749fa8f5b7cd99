/- Printed by a program of ours: each Go function computes its Lean function. -/
import Derived.Test.YtedmfnmbjglmbaaGreatProg
import Derived.Test.YtedmfnmbjglmbaaGreatWNetworkWalk7
namespace Go.Proofs.YtedmfnmbjglmbaaGreat
open Eng Tryz
open Go.RowKit (Below)
set_option linter.unusedVariables false
set_option linter.unusedSimpArgs false

set_option maxRecDepth 100000
set_option maxHeartbeats 1000000
variable {e g:Hp} {f o t a j a1 aE l p bj c0 c3:Value} {ai ar bX a6 aj b9 b8 b7 pG3_0 b0 ad bY pG1_1 pG1_2 pG3 pG2_1:List Nat} {n:Nat} (N:Nat)
theorem Ak (w0:aA e g []) (z:cA) (al:RSl cP 4 e ai f z.Alphas) (H:RSl fw 2 e ar o z.Chains) {r:aY} (h:pW N z=some r) :
  Calls prog 123 [.agg [f,o].toArray].toArray w0.w (bc g w0.w [] (fun Q Fs v=>∃ (I:Value) (R:List Nat) (K:Value) (S:List Nat),v = .agg [I,K].toArray∧Fs=[ob I,R,ob K,S]∧OSl cz 133 1 Q R I r.Alphas∧OSl bU 100 1 Q S K r.Rules)):=by
 refine eN func123 J ntmps123 J w0 fun hF=>?_
 unfold pW at h
 refine sr<|lbx J fun A=>lnz tc J fun B=>en<|sr<|lq (bA (vs:=[]) (C:=#[.slice none 0 0,.slice none 0 0]) KM tc J (ae)) J<|lnz tc J fun D=>soN 0 uD J ⟨J,J,trivial⟩ J ?_
 refine art 7 [] J<|wtS<|wt0 ?_
 have k1:=OSl.nil cz 133 1 g
 refine lin (σ:=Hp × (List cn) × Value × List Nat × Int) (fun s=>[(1,pQ A),(2,pQ B),(3,pQ D),(4,iV s.2.2.2.2)]) (fun s=>St w0 s.1 [(D,.cells #[s.2.2.1,.slice none 0 0] 35 (0,0)),(B,.cells #[.slice none 0 0,.slice none 0 0] 35 (0,0)),(A,.cells #[f,o] 47 (0,0))] [s.2.2.2.1,ob s.2.2.1]) (fun m s=>ke N z m s.2.1 s.2.2.2.2=some r∧(OSl cz 133 1 s.1 s.2.2.2.1 s.2.2.1 s.2.1)) (g,([]:List cn),(.slice none 0 0),[],0) N ⟨h,k1⟩ (sx [0,0] [0,0,0]) (fun n1 an s hm=>?_)
 obtain⟨L,s1,d,k,s2⟩:=s
 obtain⟨h,b⟩:=hm
 dsimp only at h b ⊢
 unfold ke at h
 refine atr 6 [0,64] J<|lnr al J<|la J<|en ?_
 refine ch h J ?_ ?_ <;> intro h
 ·refine atr 6 [0,0] J<|lq (bA (vs:=[]) (C:=#[.slice none 0 0]) Mr yO J (ae)) J ?_
  have T:RC cz 1 L ([(ob (.slice none 0 0)++[])]:List (List Nat)) [.slice none 0 0] ([(⟨[]⟩:cn)]:List cn):=RC.cons (c:=[.slice none 0 0]) (cells:=[]) ⟨.slice none 0 0,J,J,OSl.nil _ _ _ _⟩ J (RC.nil _ _ _)
  refine le' (bv (vs:=[(0,.agg [.slice none 0 0].toArray)]) (C:=#[.slice none 0 0]) cz.lasts vF yO J J J J (ao Iv (aa (C':=[.slice none 0 0]) J J J J J (ae))) J T J (RC.kn cz.knows T)) J ?_
  rintro v1 aq D2 ⟨au,h1⟩
  replace h1:OSl cz 133 1 aq ((ob (.slice none 0 0)++[])) v1 ([(⟨[]⟩:cn)]:List cn):=by simpa[gi] using h1
  replace b:=b.f0 au
  refine wlL [((ob (.slice none 0 0)++[])),ob v1,k,ob d] (smg [] J (SP.eq (by simp[gi,cT]))) ?_
  obtain⟨x1,av,h⟩:=bs h
  refine le' (et cz.lasts cz.one vF Lv J J J J J (js:=[3]) (Rr:=[((ob (.slice none 0 0)++[])),ob v1,k]) J b h1 (fun ap=>ap.q 2 J) (fun ap=>ap.q 0 J) av) J ?_
  rintro v2 aI D3 ⟨⟨aJ,aK⟩,U⟩
  refine wlL [(k++((ob (.slice none 0 0)++[]))),ob v2,ob v1] (smg [3,1] J (SP.eq OZ))<|lf l5 J J J<|so1 0 Na J U.one ?_
  refine art 7 [] J ?_
  exact lb [0,0] [0,0,0] (an (_,_,_,_,_) ⟨h,U⟩)
 refine att 7 [] J<|wtS<|wt0 ?_
 have k3:=OSl.nil bU 100 1 L
 refine lin (σ:=Hp × (List aV) × Value × List Nat × Int) (fun s=>[(1,pQ A),(2,pQ B),(3,pQ D),(5,iV s.2.2.2.2)]) (fun s=>St w0 s.1 [(D,.cells #[d,s.2.2.1] 35 (0,0)),(B,.cells #[.slice none 0 0,.slice none 0 0] 35 (0,0)),(A,.cells #[f,o] 47 (0,0))] [s.2.2.2.1,ob s.2.2.1,k,ob d]) (fun m s=>fM N z s1 m s.2.1 s.2.2.2.2=some r∧(OSl cz 133 1 s.1 k d s1)∧(OSl bU 100 1 s.1 s.2.2.2.1 s.2.2.1 s.2.1)) (L,([]:List aV),(.slice none 0 0),[],0) N ⟨h,b,k3⟩ (sx [0,0,0,0] [0,0,0]) (fun n2 ax s hm=>?_)
 obtain⟨V,W,w,x,X⟩:=s
 obtain⟨h,b,q⟩:=hm
 dsimp only at h b q ⊢
 unfold fM at h
 refine atr 6 [1,64] J<|lnr H J<|la J<|en ?_
 refine ch h J ?_ ?_ <;> intro h
 ·refine atr 5 [] J<|lq (bA (vs:=[]) (C:=#[.slice none 0 0]) HR tv J (ae)) J ?_
  refine ln (nh (C:=#[.slice none 0 0]) tv J) J (fun Y=>?_)
  refine soN 0 C3 J ⟨J,trivial⟩ J ?_
  refine art 7 [] J<|wtS<|wt0 ?_
  have k5:=OSl.nil bo 103 1 V
  refine lin (σ:=Hp × (List aw) × Value × List Nat × Int) (fun s=>[(1,pQ A),(2,pQ B),(3,pQ D),(5,iV X),(6,pQ Y),(7,iV s.2.2.2.2)]) (fun s=>St w0 s.1 [(Y,.cells #[s.2.2.1] 100 (0,0)),(D,.cells #[d,w] 35 (0,0)),(B,.cells #[.slice none 0 0,.slice none 0 0] 35 (0,0)),(A,.cells #[f,o] 47 (0,0))] [s.2.2.2.1,ob s.2.2.1,x,ob w,k,ob d]) (fun m s=>kl N z W X (fM N z s1 n2) m s.2.1 s.2.2.2.2=some r∧(OSl cz 133 1 s.1 k d s1)∧(OSl bU 100 1 s.1 x w W)∧(OSl bo 103 1 s.1 s.2.2.2.1 s.2.2.1 s.2.1)) (V,([]:List aw),(.slice none 0 0),[],0) N ⟨h,b,q,k5⟩ (sx [0,0,0,0,0,0] [0,0,0,0]) (fun n3 az s hm=>?_)
  obtain⟨Z,s5,u,y,s6⟩:=s
  obtain⟨h,b,q,E⟩:=hm
  dsimp only at h b q E ⊢
  unfold kl at h
  refine atr 7 [1,96] J ?_
  obtain⟨x2,a7,h⟩:=bs h
  obtain⟨aL,F1,-,g1,aM,aN,r1⟩:=H.el (a8 a7).2.2
  obtain⟨v3,G1,v4,G2,rfl,rfl,h3,h4⟩:=r1
  refine lia H a7 J<|lf wE J J J<|lhx 0 0 g1 J<|lnr h3 J<|la J<|en ?_
  refine ch h J ?_ ?_ <;> intro h
  ·refine atr 6 [0,0] J<|lq (bA (vs:=[]) (C:=#[.slice none 0 0]) Lq yT J (ae)) J ?_
   have ab:RC bo 1 Z ([(ob (.slice none 0 0)++[])]:List (List Nat)) [.slice none 0 0] ([(⟨[]⟩:aw)]:List aw):=RC.cons (c:=[.slice none 0 0]) (cells:=[]) ⟨.slice none 0 0,[],J,J,OSl.nil _ _ _ _⟩ J (RC.nil _ _ _)
   refine le' (bv (vs:=[(0,.agg [.slice none 0 0].toArray)]) (C:=#[.slice none 0 0]) bo.lasts vI yT J J J J (ao IZ (aa (C':=[.slice none 0 0]) J J J J J (ae))) J ab J (RC.kn bo.knows ab)) J ?_
   rintro v5 aB D6 ⟨M,O⟩
   replace O:OSl bo 103 1 aB ((ob (.slice none 0 0)++[])) v5 ([(⟨[]⟩:aw)]:List aw):=by simpa[gi] using O
   replace b:=b.f0 M
   replace q:=q.f0 M
   replace E:=E.f0 M
   refine wlL [((ob (.slice none 0 0)++[])),ob v5,y,ob u,x,ob w,k,ob d] (smg [] J (SP.eq (by simp[gi,cT]))) ?_
   obtain⟨x3,aD,h⟩:=bs h
   refine le' (et bo.lasts bo.one vI ML J J J J J (js:=[3]) (Rr:=[((ob (.slice none 0 0)++[])),ob v5,y,x,ob w,k,ob d]) J E O (fun ap=>ap.q 2 J) (fun ap=>ap.q 0 J) aD) J ?_
   rintro v6 aO D7 ⟨⟨F,af⟩,h6⟩
   replace b:=b.fr af (F.q 6 J) (F.q 5 J)
   replace q:=q.fr af (F.q 4 J) (F.q 3 J)
   refine wlL [(y++((ob (.slice none 0 0)++[]))),ob v6,ob v5,x,ob w,k,ob d] (smg [3,1] J (SP.eq OZ))<|lf nG J J J<|so1 0 Ni J h6.one ?_
   refine art 7 [] J ?_
   exact lb [0,0,1,1,1,1] [0,0,0,0] (az (_,_,_,_,_) ⟨h,b,q,h6⟩)
  refine atr 4 [1,32] J<|lq (ay DN J (fun w1 hw=>hw.rgO (i:=0) J 0 1 [u] J) J) J ?_
  have ag:RC bU 1 Z ([(ob u++y)]:List (List Nat)) [u] ([(⟨s5⟩:aV)]:List aV):=RC.cons (c:=[u]) (cells:=[]) ⟨u,y,J,J,E⟩ J (RC.nil _ _ _)
  refine le' (bv (vs:=[(0,.agg [u].toArray)]) (C:=#[u]) bU.lasts EZ tv J J J J (ao Dd (aa (C':=[u]) J J J J J (ae))) J ag J (RC.kn bU.knows ag)) J ?_
  rintro G aF D8 ⟨ah,P⟩
  replace P:OSl bU 100 1 aF ((ob u++y)) G ([(⟨s5⟩:aV)]:List aV):=by simpa[gi] using P
  replace b:=b.f0 ah
  replace q:=q.f0 ah
  refine wlL [((ob u++y)),ob G,x,ob w,k,ob d] (smg [2,1] J (SP.eq (by simp[gi,cT]))) ?_
  obtain⟨x4,aG,h⟩:=bs h
  refine le' (et bU.lasts bU.one EZ HT J J J J J (js:=[3]) (Rr:=[((ob u++y)),ob G,x,k,ob d]) J q P (fun ap=>ap.q 2 J) (fun ap=>ap.q 0 J) aG) J ?_
  rintro v8 aP D9 ⟨⟨ak,aH⟩,h8⟩
  replace b:=b.fr aH (ak.q 4 J) (ak.q 3 J)
  refine wlL [(x++((ob u++y))),ob v8,ob G,k,ob d] (smg [3,1] J (SP.eq OZ))<|lf yp J J J<|so1 1 KE J h8.one ?_
  refine art 7 [] J ?_
  exact lb [0,0,1,1] [1,1,1] (ax (_,_,_,_,_) ⟨h,b,h8⟩)
 refine atr 4 [2] J<|soN 1 uD J ⟨b.one,q.one,trivial⟩ J ?_
 refine en ?_
 exact rtg [3,2,1,0] hF (aC.one (bf Az J (fun w1 hw=>hw.rgO (i:=1) J 0 2 [d,w] J) J)) J (by cases h;exact fun w1 hw=>⟨d,k,w,x,rfl,rfl,b,q⟩)
theorem o3 (w0:aA e g []) (c:af) (d:Int) (k:RSl bm 3 e ai f c.Items) {r:aL × Bool} (h:mb N c d=some r) :
  Calls prog 191 [.agg [f,iV c.Next].toArray,iV d].toArray w0.w (bc g w0.w [] (fun F Fs v=>∃ (x:Value),v = .tuple #[.agg [.string r.1.Kind,x].toArray,.bool r.2]∧Fs=[ob x]∧OSl aS 95 3 F [] x r.1.Fields)):=by
 refine eN func191 J ntmps191 J w0 fun A=>?_
 unfold mb at h
 refine sr<|lbx J fun u=>lnz nv J fun w=>art 8 [] J ?_
 refine lin (σ:=Int) (fun s=>[(1,iV d),(2,pQ u),(4,pQ w),(6,iV s)]) (fun s=>St w0 g [(w,.cells #[.string (⟨#[]⟩:ByteArray),.slice none 0 0] 52 (0,0)),(u,.cells #[f,iV c.Next] 29 (0,0))] []) (fun m s=>gZ N c d m s=some r) (0) N h (sx [] [0,0]) (fun G H s hm=>?_)
 revert hm;revert s;intro s1 hm
 have h:gZ N c d (G+1) s1=some r:=hm
 show WT _ _ [(1,iV d),(2,pQ u),(4,pQ w),(6,iV s1)] (St w0 g [(w,.cells #[.string (⟨#[]⟩:ByteArray),.slice none 0 0] 52 (0,0)),(u,.cells #[f,iV c.Next] 29 (0,0))] [])
 unfold gZ at h
 refine atr 6 [0,32] J<|lnr k J<|la J<|en ?_
 refine ch h J ?_ ?_ <;> intro h
 ·refine atr 8 [0,32] J ?_
  obtain⟨R,B,h⟩:=bs h
  obtain⟨S,T,-,g1,U,V,I⟩:=k.el (a8 B).2.2
  obtain⟨v1,W,rfl,K,h1⟩:=I
  obtain rfl:=K.symm
  refine lia k B J<|lf tL J J J<|lhx 0 0 g1 J<|art 3 [] J ?_
  refine ch h J ?_ ?_ <;> intro h
  ·refine atr 5 [0,32] J ?_
   obtain⟨L,D,h⟩:=bs h
   obtain⟨X,Y,-,g2,Z,a7,M⟩:=k.el (a8 D).2.2
   obtain⟨v2,G2,rfl,O,P⟩:=M
   obtain rfl:=O.symm
   refine lia k D J<|lf yr J J J<|lhx 1 2 g2 J<|kab h J J J (fun b z q=>uT N b L.F (P.y z) q) ?_
   rintro Q h v3 aa F3 ⟨ab,ag,v4,rfl,rfl,E⟩
   refine soN 0 oZ J ⟨J,E.one,trivial⟩ J ?_
   refine la J<|en ?_
   exact rtg [0] A (aC.two (bf nw J (fun y hw=>hw.rgO (i:=0) J 0 2 [.string Q.Kind,v4] J) J) J) J (by cases h;exact fun y hw=>⟨v4,rfl,rfl,E⟩)
  refine att 7 [] J ?_
  exact lb [] [0,0] (H _ h)
 refine xt J<|sr<|lq (bA (vs:=[]) (C:=#[.string (⟨#[]⟩:ByteArray),.slice none 0 0]) FP nv J (ae)) J<|soN 0 oZ J ⟨J,J,trivial⟩ J ?_
 refine la J<|en ?_
 refine WT.ret A (aC.two (bf nw J (fun y hw=>hw.rgO (i:=0) J 0 2 [.string (⟨#[]⟩:ByteArray),.slice none 0 0] J) J) J) (fun y hw=>?_)
 cases h
 replace hw:=hw.addNil
 refine aK (js:=[0]) hw J ⟨.slice none 0 0,J,J,OSl.nil _ _ _ _⟩
theorem Ac (w0:aA e g []) (c:(List Int)) (b:Int) (d:RSl (RI .i64) 1 e bX t c) {r:Bool} (h:pK N c b=some r) :
  CB w0 prog 227 [t,iV b] (.bool r):=by
 refine eN func227 J ntmps227 J w0 fun i=>?_
 unfold pK at h
 refine att 10 [] J ?_
 refine lin (σ:=Int) (fun s=>[(0,t),(1,iV b),(5,iV s)]) (fun s=>St w0 g [] []) (fun m s=>i9 N c b m s=some r) (0) N h (sx [] []) (fun q u s hm=>?_)
 revert hm;revert s;intro s1 hm
 have h:i9 N c b (q+1) s1=some r:=hm
 show WT _ _ [(0,t),(1,iV b),(5,iV s1)] (St w0 g [] [])
 unfold i9 at h
 refine atr 5 [] J<|lnr d J<|la J<|en ?_
 refine ch h J ?_ ?_ <;> intro h
 ·refine atr 7 [] J ?_
  obtain⟨w,k,h⟩:=bs h
  obtain⟨x,y,-,g1,z,A,v⟩:=d.el (a8 k).2.2
  obtain⟨rfl,-⟩:=v
  refine lia d k J<|lhx 0 0 g1 J<|art 3 [] J ?_
  refine ch h J ?_ ?_ <;> intro h
  ·refine att 4 [] J ?_
   exact rt i h
  refine att 7 [] J ?_
  exact lb [] [] (u _ h)
 refine att 5 [] J ?_
 exact rt i h
theorem w8 (w0:aA e g [ob t,a6].flatten) (q:(List an)) (i:Int) (B:OSl aU 105 2 g a6 t q) {r:(List an)} (h:kO N q i=some r) :
  Calls prog 192 [t,iV i].toArray w0.w (bc g w0.w [ob t,a6].flatten (fun P Fs v=>∃ (x:Value) (D:List Nat),v=x∧Fs=[ob x,D]∧OSl aU 105 2 P D x r)):=by
 refine eL func192 J ntmps192 J (L:=[ob t,a6]) w0 (fun Q=>?_)
 unfold kO at h
 obtain⟨_,hlen,h⟩:=bs h
 have t0:=B.tail (Hg hlen)
 refine atr 6 [] J ?_
 have R:RC aU 2 g ([]:List (List Nat)) [] ([]:List an):=RC.nil _ _ _
 refine le' (bv (vs:=[]) (C:=#[]) aU.lasts eB kv J J J J (ao tJ (ae)) J R J (by simpa using Kw.nil)) J ?_
 rintro v1 E D1 ⟨S,h1⟩
 replace h1:OSl aU 105 2 E [] v1 ([]:List an):=by simpa[gi] using h1
 replace t0:=t0.f0 S
 refine art 8 [] J ?_
 refine lin (σ:=Hp × (List an) × Value × List Nat × Int × List Nat) (fun s=>[(0,t),(1,iV i),(5,s.2.2.1),(6,iV s.2.2.2.2.1)]) (fun s=>St w0 s.1 [] [ob s.2.2.1,a6,ob t]) (fun m s=>dS N q i m s.2.1 s.2.2.2.2.1=some r∧(OSl aU 105 2 s.1 s.2.2.2.1 s.2.2.1 s.2.1)∧(SP (s.2.2.2.1++s.2.2.2.2.2) a6)∧(TSl aU 2 s.1 s.2.2.2.2.2 t q s.2.2.2.2.1)) (E,([]:List an),v1,[],0,a6) N ⟨h,h1,SP.refl _,t0⟩ (sx [0,1,0] []) (fun n1 G s hm=>?_)
 obtain⟨T,s1,U,H,s2,Dt⟩:=s
 obtain⟨h,d,b,t1⟩:=hm
 dsimp only at h d b t1 ⊢
 unfold dS at h
 refine atr 5 [] J<|lno B J<|la J<|en ?_
 refine ch h J ?_ ?_ <;> intro h
 ·refine atr 7 [] J ?_
  obtain⟨u,y,h⟩:=bs h
  obtain⟨a8,F1,D9,-,g1,ab,V,w,t9⟩:=t1.step aU.knows y
  obtain⟨v2,v3,rfl,rfl,I,W⟩:=V
  refine lq (vA eB J J t1 y) J<|lf un J J J<|lgx 0 0 g1 J<|la J<|qc h (Ac N · u.Ids i I.rsl ·) J J J fun x2 h=>la J<|en ?_
  refine ch h J ?_ ?_ <;> intro h
  ·refine atr 4 [] J ?_
   obtain⟨X,z,h⟩:=bs h
   obtain rfl:u=X:=by rw[y] at z;exact Option.some.inj z
   refine lq (vA eB J J t1 z) J<|lgx 0 2 g1 J ?_
   have K:RC aU 2 T ([(ob v2++[])++((ob v3++[]))]:List (List Nat)) [v2,v3] ([u]:List an):=RC.cons (c:=[v2,v3]) (cells:=[]) ⟨v2,v3,J,J,I,W⟩ J (RC.nil _ _ _)
   refine le' (bv (vs:=[(0,.agg [v2,v3].toArray)]) (C:=#[v2,v3]) aU.lasts eB kv J J J J (ao yE (aa (C':=[v2,v3]) J J J J J (ae))) J K J (RC.kn aU.knows K)) J ?_
   rintro v6 Y D3 ⟨M,A⟩
   replace A:OSl aU 105 2 Y ((ob v2++[])++((ob v3++[]))) v6 ([u]:List an):=by simpa[gi] using A
   replace d:=d.f0 M
   replace t9:=t9.f0 M
   obtain⟨x4,Z,h⟩:=bs h
   refine le' (et aU.lasts aU.one eB sJ J J J J J (js:=[1]) (Rr:=[ob v6,a6,ob t]) J d A (fun ap=>Dj.sub (ap.q 1 J) b.inl) (fun ap=>Dj.sub (ap.q 1 J) (fun k hk=>b.inr k (by rw[w];exact gh.2 (.inl hk)))) Z) J ?_
   rintro v7 af D4 ⟨⟨O,a7⟩,h9⟩
   replace t9:=t9.fr a7 (O.q 2 J) (Dj.sub (O.q 1 J) (fun k hk=>b.inr k (by rw[w];exact gh.2 (.inr hk))))
   refine art 8 [] J ?_
   exact lb [0,1,1] [] (G (_,_,_,_,_,_) ⟨h,h9,b.next w,t9⟩)
  refine att 7 [] J ?_
  exact lb [0,0,0] [] (G (_,_,_,_,_,_) ⟨h,d,b.skip w,t9⟩)
 refine att 6 [] J ?_
 refine WT.ret Q (aC.one J) (fun w1 hw=>?_)
 cases h
 replace hw:=hw.merge (js:=[1]) (F:=H) J (by simpa using b.out)
 refine aK (js:=[1,0]) hw J ⟨U,H,J,J,d⟩

theorem uR (w0:aA e g []) (d:(List aq)) (b:ByteArray) (c:RSl aG 4 e bX t d) {r:bn × Bool} (h:nW N d b=some r) :
  CB w0 prog 255 [t,.string b] (.tuple #[.agg [iV r.1.K,iV r.1.N,.string r.1.S].toArray,.bool r.2]):=by
 refine eN func255 J ntmps255 J w0 fun v=>?_
 unfold nW at h
 refine sr<|lnz jg J fun k=>art 8 [] J ?_
 refine lin (σ:=Int) (fun s=>[(0,t),(1,.string b),(4,pQ k),(6,iV s)]) (fun s=>St w0 g [(k,.cells #[iV 0,iV 0,.string (⟨#[]⟩:ByteArray)] 95 (0,0))] []) (fun m s=>j7 N d b m s=some r) (0) N h (sx [] [0]) (fun y z s hm=>?_)
 revert hm;revert s;intro s1 hm
 have h:j7 N d b (y+1) s1=some r:=hm
 show WT _ _ [(0,t),(1,.string b),(4,pQ k),(6,iV s1)] (St w0 g [(k,.cells #[iV 0,iV 0,.string (⟨#[]⟩:ByteArray)] 95 (0,0))] [])
 unfold j7 at h
 refine atr 5 [] J<|lnr c J<|la J<|en ?_
 refine ch h J ?_ ?_ <;> intro h
 ·refine atr 7 [] J ?_
  obtain⟨D,w,h⟩:=bs h
  obtain⟨E,F,-,g1,G,H,A⟩:=c.el (a8 w).2.2
  obtain⟨rfl,-⟩:=A
  refine lia c w J<|lf H9 J J J<|lhx 0 0 g1 J<|art 3 [] J ?_
  refine ch h J ?_ ?_ <;> intro h
  ·refine atr 4 [] J ?_
   obtain⟨q,x,h⟩:=bs h
   obtain⟨I,K,-,g2,L,M,B⟩:=c.el (a8 x).2.2
   obtain⟨rfl,-⟩:=B
   refine lia c x J<|lf HX J J J<|lhx 1 3 g2 J<|soN 0 mj J ⟨J,J,J,trivial⟩ J ?_
   refine la J<|en ?_
   refine WT.ret v (aC.two (bf kz J (fun u hw=>hw.rgO (i:=0) J 0 3 [iV q.V.K,iV q.V.N,.string q.V.S] J) J) J) (fun u hw=>?_)
   cases h
   exact dQ hw
  refine att 7 [] J ?_
  exact lb [] [0] (z _ h)
 refine xt J<|sr<|lq (bA (vs:=[]) (C:=#[iV 0,iV 0,.string (⟨#[]⟩:ByteArray)]) uI jg J (ae)) J<|soN 0 mj J ⟨J,J,J,trivial⟩ J ?_
 refine la J<|en ?_
 refine WT.ret v (aC.two (bf kz J (fun u hw=>hw.rgO (i:=0) J 0 3 [iV 0,iV 0,.string (⟨#[]⟩:ByteArray)] J) J) J) (fun u hw=>?_)
 cases h
 exact dQ hw
theorem lU (w0:aA e g []) (y:az) (G:aL) (R:(List aq)) (O:RSl f8 5 e ai f y.Args) (z:RSl aS 3 e aj a G.Fields) (Z:RSl aG 4 e b9 j R) {r:(List aq) × Bool} (h:iJ N y G R=some r) :
  Calls prog 235 [.agg [.string y.Kind,f,.bool y.Not].toArray,.agg [.string G.Kind,a].toArray,j].toArray w0.w (bc g w0.w [] (fun an Fs v=>∃ (S:Value),v = .tuple #[S,.bool r.2]∧Fs=[ob S]∧OSl aG 97 4 an [] S r.1)):=by
 refine eN func235 J ntmps235 J w0 fun T=>?_
 unfold iJ at h
 refine sr<|lbx J fun q=>lbx J fun u=>arr 5 [] J<|le' (gT aG.lasts lA rE J J) J ?_
 rintro v1 aJ D1 ⟨aK,h1⟩
 refine la J<|lu0 Z fun h2=>?_
 obtain⟨x1,au,h⟩:=bs h
 refine le' (cG aG.lasts aG.one aG.flat lA xu J J J J J (js:=[0]) (Rr:=[]) J h1 h2 au) J ?_
 rintro v2 av D2 ⟨⟨aM,aN⟩,h3⟩
 refine arr 11 [0,32,0,0] J ?_
 obtain⟨b1,H,h⟩:=bs h
 refine WL.cutN 8 [(29,.bool b1),(2,j),(3,pQ q),(4,pQ u),(8,v2)] ?_ (fun K=>?_)
 rotate_left
 ·refine sp 21 H J (fun H=>?_) fun H=>?_
  ·refine arr 8 [] J ?_
   cases H
   exact ku K
  ·refine arr 2 [1,32] J<|ly J J<|lnr O J<|arr 2 [1,0] J<|ly J J<|lnr z J<|arr 2 [] J ?_
   cases H
   exact ku K
 refine en ?_
 refine ch h J ?_ ?_ <;> intro h
 ·refine att 6 [] J ?_
  exact rtg [0] T (aC.two J J) J (by cases h;exact fun A hw=>⟨v2,rfl,rfl,h3⟩)
 refine att 7 [] J ?_
 refine lin (σ:=Hp × (List aq) × Value × Int) (fun s=>[(2,j),(3,pQ q),(4,pQ u),(8,s.2.2.1),(9,iV s.2.2.2)]) (fun s=>St w0 s.1 [(u,.cells #[.string G.Kind,a] 52 (0,0)),(q,.cells #[.string y.Kind,f,.bool y.Not] 201 (0,0))] [ob s.2.2.1]) (fun m s=>gE N y G R m s.2.1 s.2.2.2=some r∧(OSl aG 97 4 s.1 [] s.2.2.1 s.2.1)) (av,x1,v2,0) N ⟨h,h3⟩ (sx [0] [0,0]) (fun n1 a7 s hm=>?_)
 obtain⟨aw,s1,B,s2⟩:=s
 obtain⟨h,E⟩:=hm
 dsimp only at h E ⊢
 unfold gE at h
 refine atr 6 [1,32] J<|lnr O J<|la J<|en ?_
 refine ch h J ?_ ?_ <;> intro h
 ·refine atr 8 [1,32] J ?_
  obtain⟨i,ab,h⟩:=bs h
  obtain⟨aO,F1,-,g1,aP,aQ,r1⟩:=O.el (a8 ab).2.2
  obtain⟨rfl,-⟩:=r1
  refine lia O ab J<|lhx 0 5 g1 J<|lnz kt J fun I=>soN 0 jo J ⟨J,J,J,J,J,trivial⟩ J ?_
  refine arr 6 [1,0] J<|qc h (uR N · s1 i.S E.rsl ·) J J J fun L h=>arr 3 [] J<|lnz jg J fun af=>soN 0 mj J ⟨J,J,J,trivial⟩ J ?_
  refine art 4 [] J<|WT.draw mixed OX (fun _ h=>h.drew)<|aqq 4 [0,32] J ?_
  obtain⟨b2,w,h⟩:=bs h
  refine WQ.cutN 9 [(62,.bool b2),(2,j),(3,pQ q),(4,pQ u),(8,B),(9,iV s2),(10,pQ I),(11,pQ af),(12,.bool L.2)] ?_ (fun K=>?_)
  rotate_left
  ·refine WQ.split (d:=53) J (fun U=>?_) (fun U=>?_)
   ·replace w:=iE w U
    refine aqq 5 [2,35,1,64] J<|WQ.yes J J ?_
    obtain⟨P,ag,w⟩:=bs w
    obtain⟨aR,F2,-,g2,aT,aU,r2⟩:=z.el (a8 ag).2.2
    obtain⟨rfl,-⟩:=r2
    refine qq (ak jq J J z ag) J<|WQ.yes J J<|qq (ay kz J (fun A hw=>(g2.of_eq 0 3 J J:rg _ _ _ [iV P.K,iV P.N,.string P.S]).rangeAt hw.in0) J) J<|WQ.yes J J<|qq (u9 mi J J J (r:=bp i.V P) J) J<|WQ.q (sA J J) J J J ?_
    cases w
    exact kq K
   ·replace w:=iF w U
    refine aqq 9 [] J ?_
    cases w
    exact kq K
  refine qq (ga J) J ?_
  obtain⟨b3,k,h⟩:=bs h
  refine WQ.cutN 16 [(79,.bool b3),(2,j),(3,pQ q),(4,pQ u),(8,B),(9,iV s2),(10,pQ I),(12,.bool L.2)] ?_ (fun K=>?_)
  rotate_left
  ·refine WQ.split (d:=63) J (fun V=>?_) (fun V=>?_)
   ·replace k:=iE k V
    refine aqq 16 [] J ?_
    cases k
    exact kq K
   ·replace k:=iF k V
    refine aqq 4 [0,32] J ?_
    obtain⟨b4,F,k⟩:=bs k
    refine WQ.cutN 2 [(69,.bool b4),(2,j),(3,pQ q),(4,pQ u),(8,B),(9,iV s2),(10,pQ I),(11,pQ af),(12,.bool L.2),(63,.bool false)] ?_ (fun K=>?_)
    rotate_left
    ·refine WQ.split (d:=67) J (fun W=>?_) (fun W=>?_)
     ·replace F:=iE F W
      refine aqq 2 [] J ?_
      cases F
      exact kq K
     ·replace F:=iF F W
      refine aqq 2 [] J ?_
      cases F
      exact kq K
    refine WQ.yes J J<|qq (ga J) J ?_
    obtain⟨b5,x,k⟩:=bs k
    refine WQ.cutN 8 [(78,.bool b5),(2,j),(3,pQ q),(4,pQ u),(8,B),(9,iV s2),(10,pQ I),(12,.bool L.2),(63,.bool false)] ?_ (fun K=>?_)
    rotate_left
    ·refine WQ.split (d:=70) J (fun X=>?_) (fun X=>?_)
     ·replace x:=iE x X
      refine aqq 4 [3,1,64] J<|WQ.yes J J ?_
      obtain⟨Q,ah,x⟩:=bs x
      obtain⟨aV,F3,-,g3,aW,aX,r3⟩:=z.el (a8 ah).2.2
      obtain⟨rfl,-⟩:=r3
      refine qq (ak jq J J z ah) J<|WQ.yes J J<|qq (ay kz J (fun A hw=>(g3.of_eq 0 3 J J:rg _ _ _ [iV Q.K,iV Q.N,.string Q.S]).rangeAt hw.in0) J) J<|WQ.yes J J<|qq (u9 mi J J J (r:=bp L.1 Q) J) J<|WQ.yes J J<|WQ.q (sA J J) J J J ?_
      cases x
      exact kq K
     ·replace x:=iF x X
      refine aqq 8 [] J ?_
      cases x
      exact kq K
    refine WQ.q (rc J J) J J J ?_
    cases k
    exact kq K
  refine WQ.nil ?_
  refine ch h J ?_ ?_ <;> intro h
  ·refine sr<|le' (gT aG.lasts lA rE J J) J ?_
   rintro v3 aY D3 ⟨aZ,h4⟩
   refine la J<|lu0 Z fun h5=>?_
   obtain⟨x6,ax,h⟩:=bs h
   refine le' (cG aG.lasts aG.one aG.flat lA xu J J J J J (js:=[0]) (Rr:=[ob B]) J h4 h5 ax) J ?_
   rintro v4 ba D4 ⟨⟨bb,bd⟩,h6⟩
   refine art 3 [] J ?_
   exact rtg [0] T (aC.two J J) J (by cases h;exact fun A hw=>⟨v4,rfl,rfl,h6⟩)
  refine atr 7 [0,32] J ?_
  obtain⟨b6,M,h⟩:=bs h
  refine WL.cutN 3 [(89,.bool b6),(2,j),(3,pQ q),(4,pQ u),(8,B),(9,iV s2),(10,pQ I)] ?_ (fun K=>?_)
  rotate_left
  ·refine sp 86 M J (fun M=>?_) fun M=>?_
   ·refine arr 3 [] J ?_
    cases M
    exact ku K
   ·refine arr 3 [] J ?_
    cases M
    exact ku K
  refine en ?_
  refine ch h J ?_ ?_ <;> intro h
  ·refine wm [0,1,2,3] [] J<|amm 6 [0,1,1,2,32,3,1,4,64,5] [0,1,2,3] J J ?_
   obtain⟨b,al,h⟩:=bs h
   obtain⟨be,F4,-,g4,bf,bg,r4⟩:=z.el (a8 al).2.2
   obtain⟨rfl,-⟩:=r4
   refine mq 6 J OX (kN [0,1,2,3]) (ak jq J J z al) J<|mq 7 J OX (kN [0,1,2,3]) (ay kz J (fun A hw=>(g4.of_eq 0 3 J J:rg _ _ _ [iV b.K,iV b.N,.string b.S]).rangeAt hw.1) J) J ?_
   refine mq 8 J OX (kN [0,1,2,3]) (bA (vs:=[(0,.string i.S),(1,.agg [iV b.K,iV b.N,.string b.S].toArray)]) (C:=#[.string i.S,iV b.K,iV b.N,.string b.S]) Lg rE J (aa (C':=[.string i.S,iV 0,iV 0,.string ⟨#[]⟩]) J J J J J (aa (C':=[.string i.S,iV b.K,iV b.N,.string b.S]) J J J J J (ae)))) J ?_
   have aB:RC aG 4 aw ([[]]:List (List Nat)) [.string i.S,iV b.K,iV b.N,.string b.S] ([(⟨i.S,b⟩:aq)]:List aq):=RC.cons (c:=[.string i.S,iV b.K,iV b.N,.string b.S]) (cells:=[]) ⟨J,J⟩ J (RC.nil _ _ _)
   refine WM.one 9 OX (me J (fun _ v aD D A hq hw=>Kn.of Kf.nil (am [0,1,2,3] J) hw) (bv (vs:=[(0,.agg [.string i.S,iV b.K,iV b.N,.string b.S].toArray)]) (C:=#[.string i.S,iV b.K,iV b.N,.string b.S]) aG.lasts lA rE J J J J (ao FC (aa (C':=[.string i.S,iV b.K,iV b.N,.string b.S]) J J J J J (ae))) J aB J (by simpa using Kw.nil)) J ?_)
   rintro v5 aF D5 ⟨aH,Y⟩
   replace Y:OSl aG 97 4 aF [] v5 ([(⟨i.S,b⟩:aq)]:List aq):=by simpa using Y
   replace E:=E.f0 aH
   obtain⟨x8,aI,h⟩:=bs h
   refine WM.one 10 OX (me J (fun _ v aD D A hq hw=>Kn.of Kf.nil (am [0,1,2,3] J) hw) (cG aG.lasts aG.one aG.flat lA xu J J J J J (js:=[1]) (Rr:=[ob v5]) J E Y.rsl aI) J ?_)
   rintro v6 bh D6 ⟨⟨bk,bl⟩,h8⟩
   refine amm 1 [11] [0,1,2,3] J J<|WM.nil OX<|att 6 [] J ?_
   exact lb [0] [2,2] (a7 (_,_,_,_) ⟨h,h8⟩)
  refine att 7 [] J ?_
  exact lb [0] [2,2] (a7 (_,_,_,_) ⟨h,E⟩)
 refine att 7 [] J ?_
 exact rtg [0] T (aC.two J J) J (by cases h;exact fun A hw=>⟨B,rfl,rfl,E⟩)
theorem oY (w0:aA e g []) (d:ah) (k:af) (y:(List Int)) (E:RSl cI 3 e ai f d.Pats) (aw:RSl bT 11 e ar o d.Conds) (ax:RSl fm 5 e b8 a1 d.Acts) (F:RSl bm 3 e aj a k.Items) (z:RSl (RI .i64) 1 e b9 j y) {r:(List aq) × Bool} (h:jK N d k y=some r) :
  Calls prog 228 [.agg [.string d.Name,iV d.Sal,f,o,a1].toArray,.agg [a,iV k.Next].toArray,j].toArray w0.w (bc g w0.w [] (fun T Fs v=>∃ (A:Value),v = .tuple #[A,.bool r.2]∧Fs=[ob A]∧OSl aG 97 4 T [] A r.1)):=by
 refine eN func228 J ntmps228 J w0 fun G=>?_
 unfold jK at h
 refine sr<|lbx J fun u=>lbx J fun w=>arr 5 [] J<|le' (gT aG.lasts lA rE J J) J ?_
 rintro v1 U D1 ⟨az,h1⟩
 refine art 8 [] J ?_
 refine lin (σ:=Hp × (List aq) × Value × Int) (fun s=>[(2,j),(3,pQ u),(4,pQ w),(8,s.2.2.1),(9,iV s.2.2.2)]) (fun s=>St w0 s.1 [(w,.cells #[a,iV k.Next] 29 (0,0)),(u,.cells #[.string d.Name,iV d.Sal,f,o,a1] 87 (0,0))] [ob s.2.2.1]) (fun m s=>fd N d k y m s.2.1 s.2.2.2=some r∧(OSl aG 97 4 s.1 [] s.2.2.1 s.2.1)) (U,([]:List aq),v1,0) N ⟨h,h1⟩ (sx [0] [0,0]) (fun V W s hm=>?_)
 obtain⟨aB,s1,q,s2⟩:=s
 obtain⟨h,c⟩:=hm
 dsimp only at h c ⊢
 unfold fd at h
 refine atr 5 [] J<|lnr z J<|la J<|en ?_
 refine ch h J ?_ ?_ <;> intro h
 ·refine att 4 [] J ?_
  refine cut (σ:=Hp × Nat × (List bn) × Value × Bool × ByteArray) (fun s=>[(2,j),(3,pQ u),(4,pQ w),(8,q),(9,iV s2),(10,.pointer (some ⟨s.2.1,0,none⟩)),(11,.bool s.2.2.2.2.1)]) (fun s=>St w0 s.1 [(s.2.1,.cells #[.string s.2.2.2.2.2,s.2.2.2.1] 52 (0,0)),(w,.cells #[a,iV k.Next] 29 (0,0)),(u,.cells #[.string d.Name,iV d.Sal,f,o,a1] 87 (0,0))] [ob s.2.2.2.1,ob q]) (fun s=>lW N d s1 s2 (fd N d k y V) s.2.2.1 s.2.2.2.2.1 s.2.2.2.2.2=some r∧(OSl aG 97 4 s.1 [] q s1)∧(OSl aS 95 3 s.1 [] s.2.2.2.1 s.2.2.1)) (fun s hm=>?_) (fun K=>?_)
  ·clear h
   obtain⟨aD,aF,X,Y,s4,Z⟩:=s
   obtain⟨h,c,H⟩:=hm
   dsimp only at h c H ⊢
   unfold lW at h
   refine sq<|wm [0,1,2] [] J<|amm 3 [0,2,1,64,2] [0,1,2] J J ?_
   obtain⟨B,I,h⟩:=bs h
   obtain⟨aH,F3,-,g2,aI,aJ,r2⟩:=E.el (a8 I).2.2
   obtain⟨v4,G1,rfl,a7,h3⟩:=r2
   obtain rfl:=a7.symm
   refine mq 3 J OX (kN [0,1,2]) (ak rO J J E I) J<|mq 4 J OX (kN [0,1,2]) (ay tV J (fun i hw=>(g2.of_eq 0 3 J J:rg _ _ _ [.string B.Kind,v4,.bool B.Not]).rangeAt hw.1) J) J<|amm 2 [5,2,6] [0,1,2] J J ?_
   obtain⟨x4,aa,h⟩:=bs h
   refine WM.one 7 OX (mc J (fun _ v L D i M hw=>Kn.of Kf.nil (ai3 0 1 2 J J J) hw) (bL (js:=[]) (R:=[ob Y,ob q]) xY J J (fun i hw ap O=>lU N (ba hw.fro) B (⟨Z,X⟩:aL) s1 (h3.y hw.up) H.rsl c.rsl  aa)) J ?_)
   rintro v5 aK F4 ⟨ab,ae,v6,rfl,rfl,h4⟩
   replace c:=c.fr ae (ab.q 1 J) dN
   refine amm 5 [8,9,10,11,12] [0,1,2] J J<|WM.nil OX<|atr 6 [] J ?_
   obtain⟨b1,x,h⟩:=bs h
   refine WL.cutN 3 [(46,.bool b1),(2,j),(3,pQ u),(4,pQ w),(8,q),(9,iV s2),(12,v6)] ?_ (fun K=>?_)
   rotate_left
   ·refine sp 43 x J (fun x=>?_) fun x=>?_
    ·refine arr 3 [] J ?_
     cases x
     exact ku K
    ·refine arr 3 [] J ?_
     cases x
     exact ku K
   refine en ?_
   refine ch h J ?_ ?_ <;> intro h
   ·refine att 6 [] J ?_
    exact rtg [2] G (aC.two J J) J (by cases h;exact fun i hw=>⟨q,rfl,rfl,c⟩)
   refine att 11 [] J ?_
   exact lb [0] [1,1] (W (_,_,_,_) ⟨h,h4⟩)
  refine wm [0,1] [] J<|amm 3 [0,2,1,2] [0,1] J J ?_
  obtain⟨C,P,h⟩:=bs h
  obtain⟨aM,F5,-,g3,aN,aO,r3⟩:=z.el (a8 P).2.2
  obtain⟨rfl,-⟩:=r3
  refine mq 3 J OX (kN [0,1]) (ak bw J J z P) J<|mq 4 J OX (kN [0,1]) (aW u6 J (fun i hw=>(g3.of_eq 0 1 J J:rg _ _ _ [iV C]).rangeAt hw.1)) J ?_
  refine WM.two 5 9 OX ?_ ?_
  ·obtain⟨x6,ag,h⟩:=bs h
   refine mc J (fun _ v L D i M hw=>Kn.of Kf.nil (ai2 0 1 J J) hw) (bL (js:=[]) (R:=[ob q]) FG J J (fun i hw ap O=>o3 N (ba hw.fro) k C (F.y hw.up)  ag)) J ?_
   rintro v7 aP F6 ⟨al,an,v8,rfl,rfl,Q⟩
   replace c:=c.fr an (al.q 0 J) dN
   refine amm 3 [6,7,8] [0,1] J J ?_
   refine on1 9 (mn J (kB [1,2]) (nz nv) J (fun aQ=>?_))
   refine on1 10 (msK 0 [1,2] J oZ J ⟨J,Q.one,trivial⟩ J J ?_)
   refine amm 1 [11] [1,2] J J<|WM.nil OX ?_
   exact wo [0,0] [0,0,0] (K (_,_,_,_,_,_) ⟨h,c,Q⟩)
  refine mn J (fun _ b i hw=>Kn.of Kf.nil (ai2 1 2 J J) hw) (nz nv) J (fun aR=>?_)
  obtain⟨x7,ao,h⟩:=bs h
  refine WM.one 5 OX (mc J (fun _ v L D i M hw=>Kn.of Kf.nil (ai2 1 2 J J) hw) (bL (js:=[]) (R:=[ob q]) FG J J (fun i hw ap O=>o3 N (ba hw.fro) k C (F.y hw.up)  ao)) J ?_)
  rintro v9 aT F7 ⟨au,av,v10,rfl,rfl,S⟩
  replace c:=c.fr av (au.q 0 J) dN
  refine amm 3 [6,7,8] [1,2] J J ?_
  refine on1 10 (msK 0 [1,2] J oZ J ⟨J,S.one,trivial⟩ J J ?_)
  refine amm 1 [11] [1,2] J J<|WM.nil OX ?_
  exact wo [0,0] [0,0,0] (K (_,_,_,_,_,_) ⟨h,c,S⟩)
 refine att 7 [] J ?_
 exact rtg [0] G (aC.two J J) J (by cases h;exact fun i hw=>⟨q,rfl,rfl,c⟩)
theorem uL (w0:aA e g []) (b:ah) (d:aL) (q:(List aq)) (y:RSl cI 3 e ai f b.Pats) (an:RSl bT 11 e ar o b.Conds) (au:RSl fm 5 e b8 a1 b.Acts) (M:RSl aS 3 e aj a d.Fields) (O:RSl aG 4 e b9 j q) {r:(List Int)} (h:nR N b d q=some r) :
  Calls prog 229 [.agg [.string b.Name,iV b.Sal,f,o,a1].toArray,.agg [.string d.Kind,a].toArray,j].toArray w0.w (bc g w0.w [] (fun P Fs v=>∃ (z:Value),v=z∧Fs=[ob z]∧OSl (RI .i64) 3 1 P [] z r)):=by
 refine eN func229 J ntmps229 J w0 fun Q=>?_
 unfold nR at h
 refine sr<|lbx J fun u=>lbx J fun w=>arr 4 [] J<|le' (gT (R:=RI .i64) RI.lasts bw jR J J) J ?_
 rintro v1 S D1 ⟨av,h1⟩
 refine art 8 [] J ?_
 refine lin (σ:=Hp × (List Int) × Value × Int) (fun s=>[(2,j),(3,pQ u),(4,pQ w),(7,s.2.2.1),(8,iV s.2.2.2)]) (fun s=>St w0 s.1 [(w,.cells #[.string d.Kind,a] 52 (0,0)),(u,.cells #[.string b.Name,iV b.Sal,f,o,a1] 87 (0,0))] [ob s.2.2.1]) (fun m s=>dY N b d q m s.2.1 s.2.2.2=some r∧(OSl (RI .i64) 3 1 s.1 [] s.2.2.1 s.2.1)) (S,([]:List Int),v1,0) N ⟨h,h1⟩ (sx [0] [0,0]) (fun G H s hm=>?_)
 obtain⟨aw,s1,x,s2⟩:=s
 obtain⟨h,k⟩:=hm
 dsimp only at h k ⊢
 unfold dY at h
 refine atr 6 [2,32] J<|lnr y J<|la J<|en ?_
 refine ch h J ?_ ?_ <;> intro h
 ·refine atr 8 [2,32] J ?_
  obtain⟨x1,I,h⟩:=bs h
  obtain⟨ax,F1,-,g1,az,aB,T⟩:=y.el (a8 I).2.2
  obtain⟨v2,G1,rfl,U,h2⟩:=T
  obtain rfl:=U.symm
  refine lia y I J<|lf mB J J J<|lhx 2 0 g1 J<|en ?_
  refine ch h J ?_ ?_ <;> intro h
  ·refine sq<|wm [0,1] [] J<|amm 3 [0,2,1,32,2] [0,1] J J ?_
   obtain⟨A,L,h⟩:=bs h
   obtain⟨aD,F2,-,g2,aF,aH,V⟩:=y.el (a8 L).2.2
   obtain⟨v3,G2,rfl,W,X⟩:=V
   obtain rfl:=W.symm
   refine mq 3 J OX (kN [0,1]) (ak rO J J y L) J<|mq 4 J OX (kN [0,1]) (ay tV J (fun B hw=>(g2.of_eq 0 3 J J:rg _ _ _ [.string A.Kind,v3,.bool A.Not]).rangeAt hw.1) J) J<|amm 2 [5,2,6] [0,1] J J ?_
   obtain⟨x3,Y,h⟩:=bs h
   refine WM.one 7 OX (mc J (fun _ v aI D B hq hw=>Kn.of Kf.nil (ai2 0 1 J J) hw) (bL (js:=[]) (R:=[ob x]) xY J J (fun B hw ap hl=>lU N (ba hw.fro) A d q (X.y hw.up) (M.y hw.up) (O.y hw.up)  Y)) J ?_)
   rintro v4 E F3 ⟨Z,a7,v5,rfl,rfl,h4⟩
   replace k:=k.fr a7 (Z.q 0 J) dN
   refine amm 5 [8,9,10,11,12] [0,1] J J<|WM.nil OX<|att 9 [] J ?_
   refine cut (σ:=Int) (fun s=>[(2,j),(3,pQ u),(4,pQ w),(7,x),(8,iV s2),(11,iV s)]) (fun s=>St w0 E [(w,.cells #[.string d.Kind,a] 52 (0,0)),(u,.cells #[.string b.Name,iV b.Sal,f,o,a1] 87 (0,0))] [ob x]) (fun s=>iX N s1 s2 (dY N b d q G) s=some r) (fun s hm=>?_) (fun K=>?_)
   ·clear h
    revert hm;revert s;intro i hm
    have h:iX N s1 s2 (dY N b d q G) i=some r:=hm
    show WT _ _ [(2,j),(3,pQ u),(4,pQ w),(7,x),(8,iV s2),(11,iV i)] (St w0 E [(w,.cells #[.string d.Kind,a] 52 (0,0)),(u,.cells #[.string b.Name,iV b.Sal,f,o,a1] 87 (0,0))] [ob x])
    unfold iX at h
    refine atr 3 [] J ?_
    have ab:RC (RI .i64) 1 E ([[]]:List (List Nat)) [iV i] ([i]:List Int):=RC.cons (c:=[iV i]) (cells:=[]) ⟨J,J⟩ J (RC.nil _ _ _)
    refine le' (bv (vs:=[(0,iV i)]) (C:=#[iV i]) RI.lasts bw jR J J J J (ao jm (aa (C':=[iV i]) J J J J J (ae))) J ab J (by simpa using Kw.nil)) J ?_
    rintro v6 af D2 ⟨ag,F⟩
    replace F:OSl (RI .i64) 3 1 af [] v6 ([i]:List Int):=by simpa using F
    replace k:=k.f0 ag
    obtain⟨x4,al,h⟩:=bs h
    refine le' (cG RI.lasts RI.one RI.flat bw oK J J J J J (js:=[1]) (Rr:=[ob v6]) J k F.rsl al) J ?_
    rintro v7 aJ D3 ⟨⟨aK,aM⟩,h6⟩
    refine art 8 [] J ?_
    exact lb [0] [0,0] (H (_,_,_,_) ⟨h,h6⟩)
   refine ch h J ?_ ?_ <;> intro h
   ·refine att 3 [] J ?_
    exact wo [1] [0,0] (K _ h)
   refine WT.skip ?_
   exact wo [1] [0,0] (K _ h)
  refine att 7 [] J ?_
  exact lb [0] [0,0] (H (_,_,_,_) ⟨h,k⟩)
 refine att 6 [] J ?_
 exact rtg [0] Q (aC.one J) J (by cases h;exact fun B hw=>⟨x,rfl,rfl,k⟩)
theorem tS (w0:aA e g [ob j,b7].flatten) (c:ah) (d:af) (U:(List an)) (u:aL) (k:Int) (ab:RSl cI 3 e ai f c.Pats) (ae:RSl bT 11 e ar o c.Conds) (ag:RSl fm 5 e b8 a1 c.Acts) (az:RSl bm 3 e aj a d.Items) (aD:OSl aU 105 2 g b7 j U) (aF:RSl aS 3 e pG3_0 aE u.Fields) {r:(List an)} (h:mA N c d U u k=some r) :
  Calls prog 193 [.agg [.string c.Name,iV c.Sal,f,o,a1].toArray,.agg [a,iV d.Next].toArray,j,.agg [.string u.Kind,aE].toArray,iV k].toArray w0.w (bc g w0.w [ob j,b7].flatten (fun aG Fs v=>∃ (al:List Nat),v = .tuple #[]∧Fs=[ob j,al]∧OSl aU 105 2 aG al j r)):=by
 refine eL func193 J ntmps193 J (L:=[ob j,b7]) w0 (fun hF=>?_)
 unfold mA at h
 refine sr<|lbx J fun B=>lbx J fun C=>lbx J fun E=>art 6 [] J ?_
 refine lin (σ:=Hp × (List an) × List Nat × Int) (fun s=>[(2,j),(4,iV k),(5,pQ B),(6,pQ C),(8,pQ E),(10,iV s.2.2.2)]) (fun s=>St w0 s.1 [(E,.cells #[.string u.Kind,aE] 52 (0,0)),(C,.cells #[a,iV d.Next] 29 (0,0)),(B,.cells #[.string c.Name,iV c.Sal,f,o,a1] 87 (0,0))] [ob j,s.2.2.1]) (fun m s=>d4 N c d u k m s.2.1 s.2.2.2=some r∧(OSl aU 105 2 s.1 s.2.2.1 j s.2.1)) (g,U,b7,0) N ⟨h,aD⟩ (sx [0,0] [0,0,0]) (fun n1 aH s hm=>?_)
 obtain⟨ao,s1,V,s2⟩:=s
 obtain⟨h,w⟩:=hm
 dsimp only at h w ⊢
 unfold d4 at h
 refine atr 5 [] J<|lno w J<|la J<|en ?_
 refine ch h J ?_ ?_ <;> intro h
 ·refine att 4 [] J<|WT.mix (Kn w0 ao (ob j) [(E,.cells #[.string u.Kind,aE] 52 (0,0)),(C,.cells #[a,iV d.Next] 29 (0,0)),(B,.cells #[.string c.Name,iV c.Sal,f,o,a1] 87 (0,0))]) (fun _=>true) mixed (fun _ h=>h.drew)<|mq 0 J OX (kn Kf.id (ai3 0 1 2 J J J)) (ay rL J (fun x hw=>hw.rgO (i:=2) J 0 5 [.string c.Name,iV c.Sal,f,o,a1] J) J) J ?_
  refine mq 1 J OX (kn Kf.id (ai3 0 1 2 J J J)) (ay sm J (fun x hw=>hw.rgO (i:=1) J 0 2 [a,iV d.Next] J) J) J<|ma 2 J OX (kn Kf.id (ai3 0 1 2 J J J)) J<|ma 3 J OX (kn Kf.id (ai3 0 1 2 J J J)) J ?_
  obtain⟨x1,aq,h⟩:=bs h
  obtain⟨b2,F1,-,g1,aI,b3,r1⟩:=w.elS (a8 aq).2.2
  obtain⟨v1,v2,rfl,rfl,h1,h2⟩:=r1
  have h3:=h1.rsl
  have h4:=h2.rsl
  refine mq 4 J OX (kn Kf.id (ai3 0 1 2 J J J)) (ak eB J J w.rsl aq) J<|mq 5 J OX (kn Kf.id (ai3 0 1 2 J J J)) (aB un J) J<|mq 6 J OX (kn Kf.id (ai3 0 1 2 J J J)) (aW tQ J (fun x hw=>hw.rg aI (g1.of_eq 0 1 J J:rg _ _ _ [v1]))) J ?_
  obtain⟨P,aJ,h⟩:=bs h
  refine WM.one 7 OX (mc J (fun _ v b4 D x hq hw=>Kn.of (Kf.id.st hq.2.1 (hq.1.r (i:=0) J)) (ai3 0 1 2 J J J) hw) (bL (js:=[]) (R:=[ob j,V]) J7 J J (fun x hw ap hl=>oY N (ba hw.fro) c d x1.Ids (ab.y hw.up) (ae.y hw.up) (ag.y hw.up) (az.y hw.up) h3  aJ)) J ?_)
  rintro v3 b5 F2 ⟨W,au,v4,rfl,rfl,h5⟩
  replace w:=w.fr au (W.q 0 J) (W.q 1 J)
  have H:=(Kf.id (F:=(ob j)):Kf ao _ _).st au (W.q 0 J)
  refine ma 8 J OX (kn H (ai3 0 1 2 J J J)) J<|ma 9 J OX (kn H (ai3 0 1 2 J J J)) J<|ma 10 J OX (kn H (ai3 0 1 2 J J J)) J<|ma 11 J OX (kn H (ai3 0 1 2 J J J)) J<|ma 12 J OX (kn H (ai3 0 1 2 J J J)) J<|WM.nil OX<|atr 5 [69,2] J<|kab h J J J (fun b z q=>uL N b c u P.1 (ab.y z) (ae.y z) (ag.y z) (aF.y z) h5.rsl q) ?_
  rintro x3 h v5 aM F3 ⟨av,aN,v6,rfl,rfl,y⟩
  replace w:=w.fr aN (av.q 1 J) (av.q 2 J)
  refine art 7 [] J ?_
  refine lin (σ:=Hp × (List an) × List Nat × Int) (fun s=>[(2,j),(4,iV k),(5,pQ B),(6,pQ C),(8,pQ E),(10,iV s2),(12,.bool P.2),(13,v5),(14,iV s.2.2.2)]) (fun s=>St w0 s.1 [(E,.cells #[.string u.Kind,aE] 52 (0,0)),(C,.cells #[a,iV d.Next] 29 (0,0)),(B,.cells #[.string c.Name,iV c.Sal,f,o,a1] 87 (0,0))] [ob v5,ob j,s.2.2.1]) (fun m s=>dV N k s2 (d4 N c d u k n1) P x3 m s.2.1 s.2.2.2=some r∧(OSl aU 105 2 s.1 s.2.2.1 j s.2.1)∧(OSl (RI .i64) 3 1 s.1 [] v5 x3)) (aM,s1,V,0) N ⟨h,w,y⟩ (sx [0,1,1] [0,0,0]) (fun n2 aO s hm=>?_)
  obtain⟨aP,s3,D2,s4⟩:=s
  obtain⟨h,X,y⟩:=hm
  dsimp only at h X y ⊢
  unfold dV at h
  refine atr 5 [] J<|lno y J<|arr 2 [] J ?_
  obtain⟨b1,I,h⟩:=bs h
  refine WL.cutN 2 [(42,.bool b1),(2,j),(4,iV k),(5,pQ B),(6,pQ C),(8,pQ E),(10,iV s2),(12,.bool P.2),(13,v5),(14,iV s4)] ?_ (fun K=>?_)
  rotate_left
  ·refine sp 40 I J (fun I=>?_) fun I=>?_
   ·refine arr 2 [] J ?_
    cases I
    exact ku K
   ·refine arr 2 [] J ?_
    cases I
    exact ku K
  refine en ?_
  refine ch h J ?_ ?_ <;> intro h
  ·refine att 3 [] J ?_
   obtain⟨x4,Y,h⟩:=bs h
   obtain⟨b6,F4,Z,A,r2,H,aQ⟩:=X.focus Y
   obtain⟨M,G,rfl,rfl,h8,O⟩:=r2
   refine wtL [ob M,ob G,Z,ob v5,ob j] (sre [2] [ob M,ob G,Z] J (by simpa[gi] using aQ))<|WT.mix (Kn w0 aP (ob j++(ob G++ob v5)) [(E,.cells #[.string u.Kind,aE] 52 (0,0)),(C,.cells #[a,iV d.Next] 29 (0,0)),(B,.cells #[.string c.Name,iV c.Sal,f,o,a1] 87 (0,0))]) (fun i=>match i with | 22=>false | _=>true) mixed (fun _ h=>h.drew)<|ma 0 J OX (kn Kf.id (ai3 0 1 2 J J J)) J<|ma 1 J OX (kn Kf.id (ai3 0 1 2 J J J)) J ?_
   refine mq 2 J OX (kn Kf.id (ai3 0 1 2 J J J)) (cO eB J J A Y) J<|mq 3 J OX (kn Kf.id (ai3 0 1 2 J J J)) (aB uu J) J<|mq 4 J OX (kn Kf.id (ai3 0 1 2 J J J)) (aW tQ J (fun x hw=>hw.rg (gh.2 (.inl A.hb)) (A.rg.of_eq 1 1 J J:rg _ _ _ [G]))) J<|ma 5 J OX (kn Kf.id (ai3 0 1 2 J J J)) J<|ma 6 J OX (kn Kf.id (ai3 0 1 2 J J J)) J<|ma 7 J OX (kn Kf.id (ai3 0 1 2 J J J)) J ?_
   refine mq 8 J OX (kn Kf.id (ai3 0 1 2 J J J)) (cO eB J J A Y) J<|mq 9 J OX (kn Kf.id (ai3 0 1 2 J J J)) (aB uu J) J<|mq 10 J OX (kn Kf.id (ai3 0 1 2 J J J)) (aW tQ J (fun x hw=>hw.rg (gh.2 (.inl A.hb)) (A.rg.of_eq 1 1 J J:rg _ _ _ [G]))) J<|ma 11 J OX (kn Kf.id (ai3 0 1 2 J J J)) J ?_
   obtain⟨Q,aw,h⟩:=bs h
   obtain⟨bb,F5,-,g2,aR,bd,r3⟩:=O.elS (a8 aw).2.2
   obtain⟨rfl,-⟩:=r3
   refine mq 12 J OX (kn Kf.id (ai3 0 1 2 J J J)) (ak bw J J O.rsl aw) J<|mq 13 J OX (kn Kf.id (ai3 0 1 2 J J J)) (aW u6 J (fun x hw=>hw.rg (gh.2 (.inr (gh.2 (.inl aR)))) (g2.of_eq 0 1 J J:rg _ _ _ [iV Q]))) J<|ma 14 J OX (kn Kf.id (ai3 0 1 2 J J J)) J<|ma 15 J OX (kn Kf.id (ai3 0 1 2 J J J)) J<|ma 16 J OX (kn Kf.id (ai3 0 1 2 J J J)) J ?_
   obtain⟨S,ax,h⟩:=bs h
   obtain⟨be,F6,-,g3,aT,bf,r4⟩:=y.elS (a8 ax).2.2
   obtain⟨rfl,-⟩:=r4
   refine mq 17 J OX (kn Kf.id (ai3 0 1 2 J J J)) (ak bw J J y.rsl ax) J<|mq 18 J OX (kn Kf.id (ai3 0 1 2 J J J)) (aW u6 J (fun x hw=>hw.rg (gh.2 (.inr (gh.2 (.inr aT)))) (g3.of_eq 0 1 J J:rg _ _ _ [iV S]))) J<|ma 19 J OX (kn Kf.id (ai3 0 1 2 J J J)) J<|ma 20 J OX (kn Kf.id (ai3 0 1 2 J J J)) J ?_
   obtain⟨x7,a7,h⟩:=bs h
   obtain⟨bg,F7,-,g4,bh,bk,r5⟩:=O.elS (a8 a7).2.2
   obtain⟨rfl,-⟩:=r5
   refine mq 21 J OX (kn Kf.id (ai3 0 1 2 J J J)) (ak bw J J O.rsl a7) J ?_
   refine WM.one 22 OX (mu J (fun hc=>by cases hc) (Ej (js:=[1]) (Rr:=[ob M,Z,ob v5,ob j]) (vs:=[iV (wz (Q+(wz (k*S))))]) (x':=wz (Q+(wz (k*S)))) RI.lasts RI.flat A6 J J J J ⟨J,trivial⟩ J O (va a7) ⟨J,J⟩) J ?_)
   rintro aV D4 ⟨⟨T,aa⟩,aX⟩
   replace A:=A.fr aa (T.q 3 J) (T.q 1 J)
   replace y:=y.fr aa (T.q 2 J) dN
   replace h8:=h8.fr aa (T.q 0 J) dN
   refine WM.nil OX<|att 6 [] J ?_
   have r6:aU aV _ [M,G] (⟨x4.Ids,(x4.Hits.set s4.toNat (wz (Q+(wz (k*S)))))⟩:an):=⟨M,G,J,J,h8,aX⟩
   obtain⟨D5,aY,aZ⟩:=A.unfocus r6 (aU.knows _ _ _ _ r6)
   refine wtL [D5,ob v5,ob j] (smg [1,0,0] J (by simpa[gi,cT] using aZ)) ?_
   exact lb [1,1,0] [0,0,0] (aO (_,_,_,_) ⟨h,aY,y⟩)
  refine att 7 [] J ?_
  exact lb [1,1] [0,0,0] (aH (_,_,_,_) ⟨h,X⟩)
 refine xt J ?_
 refine WT.fin hF aC.none (fun x hw=>?_)
 cases h
 refine aK (js:=[0,0]) hw J ⟨V,J,J,w⟩
theorem yj (w0:aA e g [[n],ob a,b0,ob l,ad].flatten) (y:bq) (H:aY) (u:af) (A:Int) (av:RSl eC 5 e ai f y.Rules) (ax:OSl cz 133 1 g b0 a H.Alphas) (k:OSl bU 100 1 g ad l H.Rules) (az:g n=some (.cells #[a,l] 35 (0,0))) (aQ:RSl bm 3 e bY p u.Items) {r:aY} (h:oN N y H u A=some r) :
  Calls prog 124 [.agg [.string y.Name,f].toArray,pQ n,.agg [p,iV u.Next].toArray,iV A].toArray w0.w (bc g w0.w [[n],ob a,b0,ob l,ad].flatten (fun aD Fs v=>∃ (aF:Value) (aR:List Nat) (aG:Value) (aT:List Nat),v = .tuple #[]∧Fs=[[n],ob aF,aR,ob aG,aT]∧OSl cz 133 1 aD aR aF r.Alphas∧OSl bU 100 1 aD aT aG r.Rules∧aD n=some (.cells #[aF,aG] 35 (0,0)))):=by
 refine eL func124 J ntmps124 J (L:=[[n],ob a,b0,ob l,ad]) w0 (fun hF=>?_)
 unfold oN at h
 refine sr<|lbx J fun D=>lbx J fun E=>arr 5 [2] J<|kab h J J J (fun b z q=>o3 N b u A (aQ.y z) q) ?_
 rintro w h v1 bt F1 ⟨Y,aH,v2,rfl,rfl,h1⟩
 replace ax:=ax.fr aH (Y.q 1 J) (Y.q 2 J)
 replace k:=k.fr aH (Y.q 3 J) (Y.q 4 J)
 replace az:=aH _ _ ((Y.q 0 J) _ OZ) az
 refine arr 3 [] J<|lnz nv J fun F=>soN 0 oZ J ⟨J,h1.one,trivial⟩ J ?_
 refine art 8 [] J ?_
 refine lin (σ:=Hp × (List cn) × List Nat × Int) (fun s=>[(1,pQ n),(3,iV A),(4,pQ D),(6,pQ E),(8,pQ F),(10,iV s.2.2.2)]) (fun s=>St w0 s.1 [(F,.cells #[.string w.1.Kind,v2] 52 (0,0)),(E,.cells #[p,iV u.Next] 29 (0,0)),(D,.cells #[.string y.Name,f] 26 (0,0))] [ob v2,[n],ob a,s.2.2.1,ob l,ad]) (fun m s=>eX N y H u A w m s.2.1 s.2.2.2=some r∧(OSl cz 133 1 s.1 s.2.2.1 a s.2.1)∧(OSl bU 100 1 s.1 ad l H.Rules)∧(OSl aS 95 3 s.1 [] v2 w.1.Fields)∧(s.1 n=some (.cells #[a,l] 35 (0,0)))) (bt,H.Alphas,b0,0) N ⟨h,ax,k,h1,az⟩ (sx [0,0,0,0,0,0] [0,0,0]) (fun n1 bu s hm=>?_)
 obtain⟨bz,s1,x,s2⟩:=s
 obtain⟨h,d,k,h1,U⟩:=hm
 dsimp only at h d k h1 U ⊢
 unfold eX at h
 refine atr 5 [] J<|lq (aI J) J<|lf l5 J J J<|lgx 0 0 (cC U) J<|lno d J<|la J<|en ?_
 refine ch h J ?_ ?_ <;> intro h
 ·refine atr 5 [] J<|le' (gT (R:=RI .i64) RI.lasts bw jR J J) J ?_
  rintro v3 bA D2 ⟨al,h2⟩
  replace d:=d.f0 al
  replace k:=k.f0 al
  replace h1:=h1.f0 al
  replace U:=al _ _ OZ U
  refine art 8 [] J ?_
  refine lin (σ:=Hp × (List Int) × Value × Int) (fun s=>[(1,pQ n),(3,iV A),(4,pQ D),(6,pQ E),(8,pQ F),(10,iV s2),(11,s.2.2.1),(12,iV s.2.2.2)]) (fun s=>St w0 s.1 [(F,.cells #[.string w.1.Kind,v2] 52 (0,0)),(E,.cells #[p,iV u.Next] 29 (0,0)),(D,.cells #[.string y.Name,f] 26 (0,0))] [ob s.2.2.1,ob v2,[n],ob a,x,ob l,ad]) (fun m s=>eS N A s1 s2 (eX N y H u A w n1) m s.2.1 s.2.2.2=some r∧(OSl cz 133 1 s.1 x a s1)∧(OSl bU 100 1 s.1 ad l H.Rules)∧(OSl aS 95 3 s.1 [] v2 w.1.Fields)∧(OSl (RI .i64) 3 1 s.1 [] s.2.2.1 s.2.1)∧(s.1 n=some (.cells #[a,l] 35 (0,0)))) (bA,([]:List Int),v3,0) N ⟨h,d,k,h1,h2,U⟩ (sx [0,0,0,0,0,0,0] [0,0,0]) (fun n2 aU s hm=>?_)
  obtain⟨bB,s3,u1,s4⟩:=s
  obtain⟨h,d,k,h1,I,B⟩:=hm
  dsimp only at h d k h1 I B ⊢
  unfold eS at h
  refine atr 5 [] J<|lq (aI J) J<|lf l5 J J J<|lgx 0 0 (cC B) J<|la J ?_
  obtain⟨x2,aX,h⟩:=bs h
  obtain⟨cx,F2,-,g1,cy,cA,r1⟩:=d.elS (a8 aX).2.2
  obtain⟨v4,rfl,rfl,h3⟩:=r1
  have h4:=h3.rsl
  refine lio d aX J<|lf lm J J J<|lgx 0 0 g1 J<|lnr h4 J<|la J<|en ?_
  refine ch h J ?_ ?_ <;> intro h
  ·refine atr 6 [] J<|lq (aI J) J<|lf l5 J J J<|lgx 0 0 (cC B) J<|la J ?_
   obtain⟨x3,aZ,h⟩:=bs h
   obtain⟨cB,F3,-,g2,cD,cE,r2⟩:=d.elS (a8 aZ).2.2
   obtain⟨v5,rfl,rfl,h5⟩:=r2
   have h6:=h5.rsl
   refine lio d aZ J<|lf lm J J J<|lgx 0 0 g2 J<|la J ?_
   obtain⟨x4,b1,h⟩:=bs h
   obtain⟨cF,F4,-,g3,cH,cI,r3⟩:=h6.el (a8 b1).2.2
   obtain⟨rfl,-⟩:=r3
   refine lia h6 b1 J<|lgx 0 0 g3 J<|art 3 [] J ?_
   refine ch h J ?_ ?_ <;> intro h
   ·refine atr 3 [] J<|lq (aI J) J<|lf l5 J J J<|lgx 0 0 (cC B) J<|la J ?_
    obtain⟨x5,b2,h⟩:=bs h
    obtain⟨cJ,F5,-,g4,cK,cL,r4⟩:=d.elS (a8 b2).2.2
    obtain⟨v6,rfl,rfl,h7⟩:=r4
    have h8:=h7.rsl
    refine lio d b2 J<|lf lm J J J<|lgx 0 0 g4 J<|la J ?_
    obtain⟨S,b3,h⟩:=bs h
    obtain⟨cM,F6,-,g5,cN,cP,r5⟩:=h8.el (a8 b3).2.2
    obtain⟨rfl,-⟩:=r5
    refine lia h8 b3 J<|lgx 0 0 g5 J ?_
    have bC:RC (RI .i64) 1 bB ([[]]:List (List Nat)) [iV S] ([S]:List Int):=RC.cons (c:=[iV S]) (cells:=[]) ⟨J,J⟩ J (RC.nil _ _ _)
    refine le' (bv (vs:=[(0,iV S)]) (C:=#[iV S]) RI.lasts bw jR J J J J (ao jm (aa (C':=[iV S]) J J J J J (ae))) J bC J (by simpa using Kw.nil)) J ?_
    rintro v7 bD D3 ⟨Z,h9⟩
    replace h9:OSl (RI .i64) 3 1 bD [] v7 ([S]:List Int):=by simpa using h9
    replace d:=d.f0 Z
    replace k:=k.f0 Z
    replace h1:=h1.f0 Z
    replace I:=I.f0 Z
    replace B:=Z _ _ OZ B
    obtain⟨x7,bE,h⟩:=bs h
    refine le' (cG RI.lasts RI.one RI.flat bw oK J J J J J (js:=[1]) (Rr:=[ob v7,ob v2,[n],ob a,x,ob l,ad]) J I h9.rsl bE) J ?_
    rintro v8 cQ D4 ⟨⟨V,an⟩,bF⟩
    replace d:=d.fr an (V.q 3 J) (V.q 4 J)
    replace k:=k.fr an (V.q 5 J) (V.q 6 J)
    replace h1:=h1.fr an (V.q 1 J) dN
    replace B:=an _ _ ((V.q 2 J) _ OZ) B
    refine art 8 [] J ?_
    exact lb [0,1,1,1,1,1,1] [0,0,0] (aU (_,_,_,_) ⟨h,d,k,h1,bF,B⟩)
   refine att 7 [] J ?_
   exact lb [0,0,0,0,0,0,0] [0,0,0] (aU (_,_,_,_) ⟨h,d,k,h1,I,B⟩)
  refine atr 3 [] J<|lq (aI J) J<|lf l5 J J J<|lgx 0 0 (cC B) J<|arr 2 [] J ?_
  obtain⟨x8,b4,h⟩:=bs h
  obtain⟨cR,F7,D5,b5,r6,cS,bG,cU⟩:=d.focusM b4
  obtain⟨v9,rfl,rfl,cV⟩:=r6
  refine wlL [ob v9,D5,ob u1,ob v2,[n],ob a,ob l,ad] (sre [4] [ob v9,D5] J (by simpa[gi] using bG))<|lih b5 b4 J<|lf lm J J J<|lu (us [5] [ob v9,D5,ob u1,ob v2,[n],ob l,ad] 0 cz.lasts tB J J I.one J b5 J (fun ap=>ap.q 1 J)) J ?_
  rintro bH D6 ⟨⟨a7,aq⟩,bI⟩
  replace k:=k.fr aq (a7.q 5 J) (a7.q 6 J)
  replace h1:=h1.fr aq (a7.q 3 J) dN
  replace I:=I.fr aq (a7.q 2 J) dN
  replace B:=aq _ _ ((a7.q 4 J) _ OZ) B
  refine art 7 [] J ?_
  have r7:cz bH _ [u1] (⟨s3⟩:cn):=⟨u1,J,J,I⟩
  obtain⟨D7,bJ,bK⟩:=bI.unfocus r7 (cz.knows _ _ _ _ r7)
  refine wtL [D7,ob a,ob v9,ob v2,[n],ob l,ad] (smg [3,2] J (by simpa[gi,cT] using bK)) ?_
  exact lb [3,3,1,0,1,1] [0,0,0] (bu (_,_,_,_) ⟨h,bJ,k,h1,B⟩)
 refine att 6 [] J ?_
 refine lin (σ:=Hp × (List aV) × List Nat × Int) (fun s=>[(1,pQ n),(3,iV A),(4,pQ D),(6,pQ E),(8,pQ F),(13,iV s.2.2.2)]) (fun s=>St w0 s.1 [(F,.cells #[.string w.1.Kind,v2] 52 (0,0)),(E,.cells #[p,iV u.Next] 29 (0,0)),(D,.cells #[.string y.Name,f] 26 (0,0))] [ob v2,[n],ob a,x,ob l,s.2.2.1]) (fun m s=>eI N y u A w s1 m s.2.1 s.2.2.2=some r∧(OSl cz 133 1 s.1 x a s1)∧(OSl bU 100 1 s.1 s.2.2.1 l s.2.1)∧(OSl aS 95 3 s.1 [] v2 w.1.Fields)∧(s.1 n=some (.cells #[a,l] 35 (0,0)))) (bz,H.Rules,ad,0) N ⟨h,d,k,h1,U⟩ (sx [0,0,0,0,0,0] [0,0,0]) (fun n3 bM s hm=>?_)
 obtain⟨bN,s5,D8,s6⟩:=s
 obtain⟨h,d,k5,h1,k6⟩:=hm
 dsimp only at h d k5 h1 k6 ⊢
 unfold eI at h
 refine atr 6 [1,64] J<|lnr av J<|la J<|en ?_
 refine ch h J ?_ ?_ <;> intro h
 ·refine atr 6 [] J<|lq (aI J) J<|lf yp J J J<|lgx 1 0 (cC k6) J<|la J ?_
  obtain⟨x9,b6,h⟩:=bs h
  obtain⟨cW,F8,G,aJ,r8,cX,bO⟩:=k5.focus b6
  obtain⟨v10,aL,rfl,rfl,bP⟩:=r8
  refine wlL [ob v10,aL,G,ob v2,[n],ob a,x,ob l] (sre [5] [ob v10,aL,G] J (by simpa[gi] using bO))<|lih aJ b6 J<|lf nG J J J<|lgx 0 0 aJ.rg J<|art 8 [] J ?_
  refine lin (σ:=Hp × (List aw) × List Nat × Int) (fun s=>[(1,pQ n),(3,iV A),(4,pQ D),(6,pQ E),(8,pQ F),(13,iV s6),(14,v10),(15,iV s.2.2.2)]) (fun s=>St w0 s.1 [(F,.cells #[.string w.1.Kind,v2] 52 (0,0)),(E,.cells #[p,iV u.Next] 29 (0,0)),(D,.cells #[.string y.Name,f] 26 (0,0))] [ob v10,s.2.2.1,G,ob v2,[n],ob a,x,ob l]) (fun m s=>gq N y u A w s5 s6 (eI N y u A w s1 n3) m s.2.1 s.2.2.2=some r∧(OSl cz 133 1 s.1 x a s1)∧(OSl aS 95 3 s.1 [] v2 w.1.Fields)∧(OSl bo 103 1 s.1 s.2.2.1 v10 s.2.1)∧(s.1 n=some (.cells #[a,l] 35 (0,0)))∧(HSl bU 100 1 s.1 G l s5 s6.toNat [v10])) (bN,x9.Levels,aL,0) N ⟨h,d,h1,bP,k6,aJ⟩ (sx [0,0,0,0,0,0,0,0] [0,0,0]) (fun n4 bQ s hm=>?_)
  obtain⟨ba,s7,cY,s8⟩:=s
  obtain⟨h,d,h1,k8,K,M⟩:=hm
  dsimp only at h d h1 k8 K M ⊢
  unfold gq at h
  refine atr 5 [] J<|lno k8 J<|la J<|en ?_
  refine ch h J ?_ ?_ <;> intro h
  ·refine atr 8 [] J ?_
   obtain⟨bR,aM,h⟩:=bs h
   obtain⟨cZ,F9,aN,W,r9,da,bS⟩:=k8.focus aM
   obtain⟨v11,bb,rfl,rfl,bT⟩:=r9
   refine wlL [ob v11,bb,aN,ob v10,G,ob v2,[n],ob a,x,ob l] (sre [1] [ob v11,bb,aN] J (by simpa[gi] using bS))<|lih W aM J<|lf ig J J J<|lgx 0 0 W.rg J<|la J<|kcb [0,0] h J J J J (fun b ap z q=>w8 N b bR.Toks A bT q) ?_
   rintro bV h v12 db dc ⟨O,ab,dd,bd,rfl,rfl,au⟩
   replace d:=d.fr ab (O.q 5 J) (O.q 6 J)
   replace M:=M.fr ab (O.q 7 J) (O.q 2 J)
   replace h1:=h1.fr ab (O.q 3 J) dN
   replace W:=W.fr ab (O.q 1 J) (O.q 0 J)
   replace K:=ab _ _ ((O.q 4 J) _ OZ) K
   refine lih W aM J<|lf ig J J J<|lu (us [3] [ob v12,bd,aN,G,ob v2,[n],ob a,x,ob l] 0 bo.lasts Eo J J au.one J W J (fun ap=>ap.q 2 J)) J ?_
   rintro bW de ⟨⟨P,ag⟩,bZ⟩
   replace d:=d.fr ag (P.q 6 J) (P.q 7 J)
   replace M:=M.fr ag (P.q 8 J) (P.q 3 J)
   replace h1:=h1.fr ag (P.q 4 J) dN
   replace au:=au.fr ag (P.q 0 J) (P.q 1 J)
   replace K:=ag _ _ ((P.q 5 J) _ OZ) K
   refine art 7 [] J ?_
   have be:bo bW _ [v12] (⟨bV⟩:aw):=⟨v12,bd,J,J,au⟩
   obtain⟨c4,c5,c6⟩:=bZ.unfocus be (bo.knows _ _ _ _ be)
   refine wtL [c4,ob v10,G,ob v2,[n],ob a,x,ob l] (smg [1,1,1] J (by simpa[gi,cT] using c6)) ?_
   exact lb [1,0,0,0,0,0,0,0] [0,0,0] (bQ (_,_,_,_) ⟨h,d,h1,c5,K,M⟩)
  refine xt J<|WT.mix (Kn w0 ba (ob v10) [(F,.cells #[.string w.1.Kind,v2] 52 (0,0)),(E,.cells #[p,iV u.Next] 29 (0,0)),(D,.cells #[.string y.Name,f] 26 (0,0))]) (fun i=>match i with | 14=>false | _=>true) mixed (fun _ h=>h.drew)<|mq 5 J OX (kn Kf.id (ai3 0 1 2 J J J)) (ay sm J (fun T hw=>hw.rgO (i:=1) J 0 2 [p,iV u.Next] J) J) J<|mq 13 J OX (kn Kf.id (ai3 0 1 2 J J J)) (ay nw J (fun T hw=>hw.rgO (i:=0) J 0 2 [.string w.1.Kind,v2] J) J) J ?_
  refine mqT 0 [1,3,4,14] J OX (kn Kf.id (ai3 0 1 2 J J J)) (aB yR J) J<|mqT 1 [3,4,14] J OX (kn Kf.id (ai3 0 1 2 J J J)) (aW L4 J (fun T hw=>hw.rgO (i:=2) J 1 1 [f] J)) J<|mqT 2 [3,4,14] J OX (kn Kf.id (ai3 0 1 2 J J J)) (ga J) J ?_
  obtain⟨aO,bf,h⟩:=bs h
  obtain⟨df,dg,-,g6,dh,di,c7⟩:=av.el (a8 bf).2.2
  obtain⟨c8,G1,c9,G2,ca,G3,rfl,rfl,cb,cc,cd⟩:=c7
  refine mqT 3 [4,14] J OX (kn Kf.id (ai3 0 1 2 J J J)) (ak yW J J av bf) J<|mq 4 J OX (kn Kf.id (ai3 0 1 2 J J J)) (ay rL J (fun T hw=>(g6.of_eq 0 5 J J:rg _ _ _ [.string aO.Name,iV aO.Sal,c8,c9,ca]).rangeAt hw.1) J) J<|mqT 6 [10,11,12,14] J OX (kn Kf.id (ai3 0 1 2 J J J)) (ga J) J<|mqT 7 [8,9,10,11,12,14] J OX (kn Kf.id (ai3 0 1 2 J J J)) (ga J) J ?_
  refine mqT 8 [9,10,11,12,14] J OX (kn Kf.id (ai3 0 1 2 J J J)) (mP vI J J (k8.rslG bo.gives)) J<|mqT 9 [10,11,12,14] J OX (kn Kf.id (ai3 0 1 2 J J J)) (FI J J) J ?_
  obtain⟨cf,bg,h⟩:=bs h
  obtain⟨dj,dk,aP,X,cg,dm,cj⟩:=k8.focus bg
  obtain⟨v17,bh,rfl,rfl,ck⟩:=cg
  refine WM.conv (S':=St w0 ba [(F,.cells #[.string w.1.Kind,v2] 52 (0,0)),(E,.cells #[p,iV u.Next] 29 (0,0)),(D,.cells #[.string y.Name,f] 26 (0,0))] [ob v17,bh,aP,ob v10,G,ob v2,[n],ob a,x,ob l]) (fun T hw=>hw.re (js:=[1]) (Bs:=[ob v17,bh,aP]) J (by simpa[gi] using cj))<|mqT 10 [11,12,14] J OX (kn Kf.id (ai3 0 1 2 J J J)) (cO vI J J X bg) J<|mqT 11 [12,14] J OX (kn Kf.id (ai3 0 1 2 J J J)) (aB ig J) J ?_
  refine mq 12 J OX (kn Kf.id (ai3 0 1 2 J J J)) (aW Bd J (fun T hw=>hw.rg X.hb (X.rg.of_eq 0 1 J J:rg _ _ _ [v17]))) J ?_
  obtain⟨bk,cm,h⟩:=bs h
  refine WM.one 14 OX (mc J (fun hc=>by cases hc) (bL (js:=[0,0]) (R:=[aP,ob v10,G,ob v2,[n],ob a,x,ob l]) Ez J J (fun T hw ap hl=>tS N (bx hw ap hl) aO u cf.Toks w.1 (-1) (cb.y (hw.uo ap)) (cc.y (hw.uo ap)) (cd.y (hw.uo ap)) (aQ.y (hw.uo ap)) ck (h1.rsl.x (Dj.app (ap.q 3 J) dN))  cm)) J ?_)
  rintro dn bl dp ⟨Q,ah,cp,rfl,rfl,cq⟩
  replace d:=d.fr ah (Q.q 5 J) (Q.q 6 J)
  replace M:=M.fr ah (Q.q 7 J) (Q.q 2 J)
  replace h1:=h1.fr ah (Q.q 3 J) dN
  replace X:=X.fr ah (Q.q 1 J) (Q.q 0 J)
  replace K:=ah _ _ ((Q.q 4 J) _ OZ) K
  refine WM.nil OX<|att 6 [] J ?_
  have bn:bo bl _ [v17] (⟨bk⟩:aw):=⟨v17,cp,J,J,cq⟩
  obtain⟨bp,cr,ct⟩:=X.unfocus bn (bo.knows _ _ _ _ bn)
  refine wtL [bp,ob v10,G,ob v2,[n],ob a,x,ob l] (smg [0,0,0] J (by simpa[gi,cT] using ct)) ?_
  have br:bU bl _ [v10] (⟨(s7.set (wz ((s7.length:Int) - 1)).toNat (⟨bk⟩:aw))⟩:aV):=⟨v10,bp,J,J,cr⟩
  obtain⟨cu,cv,cw⟩:=M.unfocus br (bU.knows _ _ _ _ br)
  refine wtL [cu,ob v2,[n],ob a,x,ob l] (smg [1,0,0] J (by simpa[gi,cT] using cw)) ?_
  exact lb [1,1,1,1,1,0] [0,0,0] (bM (_,_,_,_) ⟨h,d,cv,h1,K⟩)
 refine xt J ?_
 refine WT.fin hF aC.none (fun T hw=>?_)
 cases h
 refine aK (js:=[1,1,1,1,1]) hw J ⟨a,x,l,D8,J,J,d,k5,k6⟩
theorem d9  (w0:aA e g []) (c:Int) (d:Int) (i:Int)  {r:Bool} (h:ev N c d i=some r) :
  CB w0 prog 46 [iV c,iV d,iV i] (.bool r):=by
 refine eN func46 J ntmps46 J w0 fun k=>?_
 unfold ev at h
 refine atr 10 [] J ?_
 obtain⟨m,b,h⟩:=bs h
 refine WL.cutN 4 [(14,.bool m),(6,.bool false)] ?_ (fun K=>?_)
 rotate_left
 ·refine sp 10 b J (fun b=>?_) fun b=>?_
  ·refine arr 4 [] J ?_
   cases b
   exact ku K
  ·refine arr 4 [] J ?_
   cases b
   exact ku K
 refine la J<|en ?_
 exact rt k h
theorem zN (w0:aA e g []) (b:ax) (i:aL) (z:RSl aS 3 e ai f b.Consts) (A:RSl (RI .i64) 1 e ar o b.At) (w:RSl aS 3 e aj a i.Fields) {r:Bool} (h:q9 N b i=some r) :
  CB w0 prog 194 [.agg [.string b.Kind,iV b.N,f,o].toArray,.agg [.string i.Kind,a].toArray] (.bool r):=by
 refine eN func194 J ntmps194 J w0 fun B=>?_
 unfold q9 at h
 refine sr<|lbx J fun q=>lbx J fun u=>arr 11 [0,32,0,0] J ?_
 obtain⟨L,v,h⟩:=bs h
 refine WL.cutN 7 [(19,.bool L),(2,pQ q),(3,pQ u)] ?_ (fun K=>?_)
 rotate_left
 ·refine sp 12 v J (fun v=>?_) fun v=>?_
  ·refine arr 7 [] J ?_
   cases v
   exact ku K
  ·refine arr 4 [1,32,1,0] J<|ly J J<|lnr w J<|arr 2 [] J ?_
   cases v
   exact ku K
 refine en ?_
 refine ch h J ?_ ?_ <;> intro h
 ·refine att 4 [] J ?_
  exact rt B h
 refine att 7 [] J ?_
 refine lin (σ:=Int) (fun s=>[(2,pQ q),(3,pQ u),(5,iV s)]) (fun s=>St w0 g [(u,.cells #[.string i.Kind,a] 52 (0,0)),(q,.cells #[.string b.Kind,iV b.N,f,o] 137 (0,0))] []) (fun m s=>jb N b i m s=some r) (0) N h (sx [] [0,0]) (fun M O s hm=>?_)
 revert hm;revert s;intro s1 hm
 have h:jb N b i (M+1) s1=some r:=hm
 show WT _ _ [(2,pQ q),(3,pQ u),(5,iV s1)] (St w0 g [(u,.cells #[.string i.Kind,a] 52 (0,0)),(q,.cells #[.string b.Kind,iV b.N,f,o] 137 (0,0))] [])
 unfold jb at h
 refine atr 6 [3,32] J<|lnr A J<|la J<|en ?_
 refine ch h J ?_ ?_ <;> intro h
 ·refine atr 8 [3,32] J ?_
  obtain⟨E,F,h⟩:=bs h
  obtain⟨V,W,-,g1,X,Y,P⟩:=A.el (a8 F).2.2
  obtain⟨rfl,-⟩:=P
  refine lia A F J<|lhx 0 0 g1 J<|art 3 [] J<|WT.draw mixed OX (fun _ h=>h.drew)<|aqq 3 [2,32] J<|qq (mP jq J J z) J<|aqq 2 [] J ?_
  obtain⟨Q,k,h⟩:=bs h
  refine WQ.cutN 8 [(45,.bool Q),(2,pQ q),(3,pQ u),(5,iV s1),(6,iV E)] ?_ (fun K=>?_)
  rotate_left
  ·refine WQ.split (d:=37) J (fun C=>?_) (fun C=>?_)
   ·replace k:=iE k C
    refine aqq 8 [] J ?_
    cases k
    exact kq K
   ·replace k:=iF k C
    refine aqq 3 [1,0] J<|WQ.yes J J<|qq (mP jq J J w) J<|WQ.yes J J<|qq (FI J J) J<|WQ.yes J J ?_
    obtain⟨Z,R,k⟩:=bs k
    refine qp (fj Hx J (fun G hw=>d9 N (ba hw.fro) E 0 (wz ((i.Fields.length:Int) - 1)) R)) J<|aqq 2 [] J ?_
    cases k
    exact kq K
  refine qq (ga J) J ?_
  obtain⟨S,c,h⟩:=bs h
  refine WQ.cutN 12 [(58,.bool S),(2,pQ q),(3,pQ u),(5,iV s1)] ?_ (fun K=>?_)
  rotate_left
  ·refine WQ.split (d:=46) J (fun D=>?_) (fun D=>?_)
   ·replace c:=iE c D
    refine aqq 12 [] J ?_
    cases c
    exact kq K
   ·replace c:=iF c D
    refine aqq 3 [1,0] J<|WQ.yes J J ?_
    obtain⟨x,H,c⟩:=bs c
    obtain⟨a7,F2,-,g2,aa,ab,T⟩:=w.el (a8 H).2.2
    obtain⟨rfl,-⟩:=T
    refine qq (ak jq J J w H) J<|WQ.yes J J<|qq (ay kz J (fun G hw=>(g2.of_eq 0 3 J J:rg _ _ _ [iV x.K,iV x.N,.string x.S]).rangeAt hw.in0) J) J<|aqq 3 [2,32] J<|WQ.yes J J ?_
    obtain⟨y,I,c⟩:=bs c
    obtain⟨ae,F3,-,g3,af,ag,U⟩:=z.el (a8 I).2.2
    obtain⟨rfl,-⟩:=U
    refine qq (ak jq J J z I) J<|WQ.yes J J<|qq (ay kz J (fun G hw=>(g3.of_eq 0 3 J J:rg _ _ _ [iV y.K,iV y.N,.string y.S]).rangeAt hw.in0) J) J<|WQ.yes J J<|qq (u9 mi J J J (r:=bp x y) J) J<|WQ.q (rc J J) J J J ?_
    cases c
    exact kq K
  refine WQ.nil ?_
  refine ch h J ?_ ?_ <;> intro h
  ·refine att 4 [] J ?_
   exact rt B h
  refine att 7 [] J ?_
  exact lb [] [0,0] (O _ h)
 refine att 5 [] J ?_
 exact rt B h
theorem qn (w0:aA e g [ob t,a6].flatten) (F:(List an)) (m:ah) (u:af) (G:(List Int)) (k:Int) (d:OSl aU 105 2 g a6 t F) (U:RSl cI 3 e aj a m.Pats) (V:RSl bT 11 e pG1_1 l m.Conds) (W:RSl fm 5 e pG1_2 bj m.Acts) (X:RSl bm 3 e bY p u.Items) (Y:RSl (RI .i64) 1 e pG3 c0 G) {r:(List an)} (h:kU N F m u G k=some r) :
  Calls prog 230 [t,.agg [.string m.Name,iV m.Sal,a,l,bj].toArray,.agg [p,iV u.Next].toArray,c0,iV k].toArray w0.w (bc g w0.w [ob t,a6].flatten (fun Z Fs v=>∃ (x:Value) (H:List Nat),v=x∧Fs=[ob x,H]∧OSl aU 105 2 Z H x r)):=by
 refine eL func230 J ntmps230 J (L:=[ob t,a6]) w0 (fun I=>?_)
 unfold kU at h
 refine sr<|lbx J fun az=>lbx J fun aB=>arr 4 [] J<|le' (gT (R:=RI .i64) RI.lasts bw jR J J) J ?_
 rintro v1 aD D1 ⟨a7,h1⟩
 replace d:=d.f0 a7
 refine la J<|lu0 Y fun h2=>?_
 obtain⟨x1,a8,h⟩:=bs h
 refine le' (cG RI.lasts RI.one RI.flat bw oK J J J J J (js:=[0]) (Rr:=[ob t,a6]) J h1 h2 a8) J ?_
 rintro v2 ab D2 ⟨⟨K,ag⟩,y⟩
 replace d:=d.fr ag (K.q 0 J) (K.q 1 J)
 refine la J ?_
 have ak:RC (RI .i64) 1 ab ([[]]:List (List Nat)) [iV k] ([k]:List Int):=RC.cons (c:=[iV k]) (cells:=[]) ⟨J,J⟩ J (RC.nil _ _ _)
 refine le' (bv (vs:=[(0,iV k)]) (C:=#[iV k]) RI.lasts bw jR J J J J (ao jm (aa (C':=[iV k]) J J J J J (ae))) J ak J (by simpa using Kw.nil)) J ?_
 rintro v3 al D3 ⟨M,A⟩
 replace A:OSl (RI .i64) 3 1 al [] v3 ([k]:List Int):=by simpa using A
 replace d:=d.f0 M
 replace y:=y.f0 M
 obtain⟨B,aq,h⟩:=bs h
 refine le' (cG RI.lasts RI.one RI.flat bw oK J J J J J (js:=[1]) (Rr:=[ob v3,ob t,a6]) J y A.rsl aq) J ?_
 rintro v4 aF D4 ⟨⟨O,au⟩,s⟩
 replace d:=d.fr au (O.q 1 J) (O.q 2 J)
 refine arr 7 [37,2] J<|kab h J J J (fun b z q=>oY N b m u B (U.y z) (V.y z) (W.y z) (X.y z) s.rsl q) ?_
 rintro x3 h v5 aG F1 ⟨D,P,v6,rfl,rfl,h6⟩
 replace d:=d.fr P (D.q 2 J) (D.q 3 J)
 replace s:=s.fr P (D.q 0 J) dN
 refine art 12 [] J ?_
 refine ch h J ?_ ?_ <;> intro h
 ·refine att 5 [] J ?_
  exact rtg [3,3] I (aC.one J) J (by cases h;exact fun w1 hw=>⟨t,a6,rfl,rfl,d⟩)
 refine atr 5 [] J<|le' (gT (R:=RI .i64) RI.lasts bw jR J J) J ?_
 rintro i av D5 ⟨Q,S⟩
 replace d:=d.f0 Q
 replace s:=s.f0 Q
 refine lq (bA (vs:=[(0,v4),(1,i)]) (C:=#[v4,i]) IV kv J (aa (C':=[v4,.slice none 0 0]) J (cN s.one) J J J (aa (C':=[v4,i]) J (cN S.one) J J J (ae)))) J ?_
 have T:RC aU 2 av ([(ob v4++[])++((ob i++[]))]:List (List Nat)) [v4,i] ([(⟨B,([]:List Int)⟩:an)]:List an):=RC.cons (c:=[v4,i]) (cells:=[]) ⟨v4,i,J,J,s,S⟩ J (RC.nil _ _ _)
 refine le' (bv (vs:=[(0,.agg [v4,i].toArray)]) (C:=#[v4,i]) aU.lasts eB kv J J J J (ao yE (aa (C':=[v4,i]) J J J J J (ae))) J T J (RC.kn aU.knows T)) J ?_
 rintro w aw D6 ⟨ax,E⟩
 replace E:OSl aU 105 2 aw ((ob v4++[])++((ob i++[]))) w ([(⟨B,([]:List Int)⟩:an)]:List an):=by simpa[gi] using E
 replace d:=d.f0 ax
 refine wlL [((ob v4++[])++((ob i++[]))),ob w,ob v6,ob v3,ob t,a6] (smg [3,1] J (SP.eq (by simp[gi,cT]))) ?_
 obtain⟨x4,ay,h⟩:=bs h
 refine le' (et aU.lasts aU.one eB sJ J J J J J (js:=[4]) (Rr:=[((ob v4++[])++((ob i++[]))),ob w,ob v6,ob v3,a6]) J d E (fun ap=>ap.q 4 J) (fun ap=>ap.q 0 J) ay) J ?_
 rintro v9 aH D7 ⟨⟨aI,aJ⟩,h9⟩
 refine wlL [(a6++((ob v4++[])++((ob i++[])))),ob v9,ob w,ob v6,ob v3] (smg [5,1] J (SP.eq OZ))<|la J<|en ?_
 exact rtg [1,0] I (aC.one J) J (by cases h;exact fun w1 hw=>⟨v9,(a6++((ob v4++[])++((ob i++[])))),J,J,h9⟩)
theorem xH (w0:aA e g [ob p].flatten) (d:ah) (k:af) (x:an) (H:RSl cI 3 e ai f d.Pats) (K:RSl bT 11 e ar o d.Conds) (M:RSl fm 5 e b8 a1 d.Acts) (I:RSl bm 3 e aj a k.Items) (c:OSl (RI .i64) 3 1 g [] p x.Ids) (aJ:RSl (RI .i64) 1 e pG2_1 c3 x.Hits) {r:an} (h:mS N d k x=some r) :
  Calls prog 231 [.agg [.string d.Name,iV d.Sal,f,o,a1].toArray,.agg [a,iV k.Next].toArray,.agg [p,c3].toArray].toArray w0.w (bc g w0.w [ob p].flatten (fun Y Fs v=>∃ (O:Value) (P:Value),v = .agg [O,P].toArray∧Fs=[ob O,ob P]∧OSl (RI .i64) 3 1 Y [] O r.Ids∧OSl (RI .i64) 3 1 Y [] P r.Hits)):=by
 refine eL func231 J ntmps231 J (L:=[ob p]) w0 (fun hF=>?_)
 unfold mS at h
 refine sr<|lbx J fun B=>lbx J fun C=>lbx J fun E=>lnz kv J fun F=>arr 7 [101,66,0,32] J<|kab h J J J (fun b z q=>oY N b d k x.Ids (H.y z) (K.y z) (M.y z) (I.y z) c.rsl q) ?_
 rintro G h v1 aK F1 ⟨ag,al,v2,rfl,rfl,h1⟩
 replace c:=c.fr al (ag.q 0 J) dN
 refine art 7 [] J<|wm [0,1,2,3] [8] J<|amm 2 [0,2,1,96] [0,1,2,3] J J<|mq 2 J OX (kN [0,1,2,3]) (mP rO J J H) J<|amm 1 [3,101] [0,1,2,3] J J ?_
 obtain⟨x2,ao,h⟩:=bs h
 refine on1 4 (mp J (kS [0,1,2,3]) (pdP J (lZ N · d H K M ao)) J ?_)
 refine amm 1 [5] [0,1,2,3] J J ?_
 obtain⟨x3,Z,h⟩:=bs h
 refine WM.one 6 OX (me J (fun _ v aq D u hq hw=>Kn.of Kf.nil (am [0,1,2,3] J) hw) (DW (R:=(RI .i64)) bw jR OD J J J (fun _=>⟨J,J⟩) J J (Int.le_refl _) Z (IF Z)) J ?_)
 rintro v3 au D1 ⟨a7,h2⟩
 replace c:=c.f0 a7
 replace h1:=h1.f0 a7
 refine amm 1 [7,1] [0,1,2,3] J J ?_
 refine on1 8 (ms1 1 J nk tB J h2.one ?_)
 refine WM.nil OX<|att 6 [] J ?_
 refine lin (σ:=Hp × (List Int) × Int) (fun s=>[(3,pQ B),(4,pQ C),(5,pQ E),(6,pQ F),(7,v2),(9,iV s.2.2)]) (fun s=>St w0 s.1 [(F,.cells #[.slice none 0 0,.slice none 0 0] 105 (0,0)),(E,.cells #[p,v3] 105 (0,0)),(C,.cells #[a,iV k.Next] 29 (0,0)),(B,.cells #[.string d.Name,iV d.Sal,f,o,a1] 87 (0,0))] [ob v3,ob v2,ob p]) (fun m s=>dL N d k x G m s.2.1 s.2.2=some r∧(OSl (RI .i64) 3 1 s.1 [] p x.Ids)∧(OSl aG 97 4 s.1 [] v2 G.1)∧(OSl (RI .i64) 3 1 s.1 [] v3 s.2.1)) (au,x3,0) N ⟨h,c,h1,h2⟩ (sx [0,0,0] [0,0,0,0]) (fun n1 av s hm=>?_)
 obtain⟨aL,s1,s2⟩:=s
 obtain⟨h,c,h1,A⟩:=hm
 dsimp only at h c h1 A ⊢
 unfold dL at h
 refine atr 6 [0,64] J<|lnr I J<|la J<|en ?_
 refine ch h J ?_ ?_ <;> intro h
 ·refine att 4 [] J<|wm [0,1,2,3] [] J<|amm 4 [0,101,1,0,2,64,3] [0,1,2,3] J J ?_
  obtain⟨x4,aa,h⟩:=bs h
  obtain⟨aM,F2,-,g1,aN,aO,r1⟩:=I.el (a8 aa).2.2
  obtain⟨v4,G1,rfl,aw,h3⟩:=r1
  obtain rfl:=aw.symm
  refine mq 4 J OX (kN [0,1,2,3]) (ak p9 J J I aa) J<|amm 1 [5,1] [0,1,2,3] J J<|mq 6 J OX (kN [0,1,2,3]) (ay nw J (fun u hw=>(g1.of_eq 1 2 J J:rg _ _ _ [.string x4.F.Kind,v4]).rangeAt hw.1) J) J<|amm 1 [7] [0,1,2,3] J J ?_
  obtain⟨x5,ax,h⟩:=bs h
  refine WM.one 8 OX (mc J (fun _ v aq D u hq hw=>Kn.of Kf.nil (am [0,1,2,3] J) hw) (bL (js:=[]) (R:=[ob v3,ob v2,ob p]) Kt J J (fun u hw ap hl=>uL N (ba hw.fro) d x4.F G.1 (H.y hw.up) (K.y hw.up) (M.y hw.up) (h3.y hw.up) h1.rsl  ax)) J ?_)
  rintro v5 az F3 ⟨Q,S,v6,rfl,rfl,w⟩
  replace c:=c.fr S (Q.q 2 J) dN
  replace h1:=h1.fr S (Q.q 1 J) dN
  replace A:=A.fr S (Q.q 0 J) dN
  refine amm 1 [9] [0,1,2,3] J J<|WM.nil OX<|att 5 [] J ?_
  refine lin (σ:=Hp × (List Int) × Int) (fun s=>[(3,pQ B),(4,pQ C),(5,pQ E),(6,pQ F),(7,v2),(9,iV s2),(10,v5),(11,iV s.2.2)]) (fun s=>St w0 s.1 [(F,.cells #[.slice none 0 0,.slice none 0 0] 105 (0,0)),(E,.cells #[p,v3] 105 (0,0)),(C,.cells #[a,iV k.Next] 29 (0,0)),(B,.cells #[.string d.Name,iV d.Sal,f,o,a1] 87 (0,0))] [ob v5,ob v3,ob v2,ob p]) (fun m s=>fe N s2 (dL N d k x G n1) x5 m s.2.1 s.2.2=some r∧(OSl (RI .i64) 3 1 s.1 [] p x.Ids)∧(OSl aG 97 4 s.1 [] v2 G.1)∧(OSl (RI .i64) 3 1 s.1 [] v3 s.2.1)∧(OSl (RI .i64) 3 1 s.1 [] v5 x5)) (az,s1,0) N ⟨h,c,h1,A,w⟩ (sx [0,0,0,0] [0,0,0,0]) (fun n2 aD s hm=>?_)
  obtain⟨aF,s3,s4⟩:=s
  obtain⟨h,c,h1,y,w⟩:=hm
  dsimp only at h c h1 y w ⊢
  unfold fe at h
  refine atr 5 [] J<|lno w J<|la J<|en ?_
  refine ch h J ?_ ?_ <;> intro h
  ·refine att 3 [] J<|WT.mix (Kn w0 aF (ob v3++ob v5) [(F,.cells #[.slice none 0 0,.slice none 0 0] 105 (0,0)),(E,.cells #[p,v3] 105 (0,0)),(C,.cells #[a,iV k.Next] 29 (0,0)),(B,.cells #[.string d.Name,iV d.Sal,f,o,a1] 87 (0,0))]) (fun i=>match i with | 14=>false | _=>true) mixed (fun _ h=>h.drew)<|mq 0 J OX (kn Kf.id (am [0,1,2,3] J)) (aB uu J) J<|mq 1 J OX (kn Kf.id (am [0,1,2,3] J)) (aW tQ J (fun u hw=>hw.rgO (i:=1) J 1 1 [v3] J)) J ?_
   refine ma 2 J OX (kn Kf.id (am [0,1,2,3] J)) J<|mq 3 J OX (kn Kf.id (am [0,1,2,3] J)) (aB uu J) J<|mq 4 J OX (kn Kf.id (am [0,1,2,3] J)) (aW tQ J (fun u hw=>hw.rgO (i:=1) J 1 1 [v3] J)) J<|ma 5 J OX (kn Kf.id (am [0,1,2,3] J)) J ?_
   obtain⟨T,ab,h⟩:=bs h
   obtain⟨aP,F4,-,g2,aH,aQ,r2⟩:=y.elS (a8 ab).2.2
   obtain⟨rfl,-⟩:=r2
   refine mq 6 J OX (kn Kf.id (am [0,1,2,3] J)) (ak bw J J y.rsl ab) J<|mq 7 J OX (kn Kf.id (am [0,1,2,3] J)) (aW u6 J (fun u hw=>hw.rg (gh.2 (.inl aH)) (g2.of_eq 0 1 J J:rg _ _ _ [iV T]))) J<|ma 8 J OX (kn Kf.id (am [0,1,2,3] J)) J<|ma 9 J OX (kn Kf.id (am [0,1,2,3] J)) J ?_
   obtain⟨U,ae,h⟩:=bs h
   obtain⟨aR,F5,-,g3,aI,aS,r3⟩:=w.elS (a8 ae).2.2
   obtain⟨rfl,-⟩:=r3
   refine mq 10 J OX (kn Kf.id (am [0,1,2,3] J)) (ak bw J J w.rsl ae) J<|mq 11 J OX (kn Kf.id (am [0,1,2,3] J)) (aW u6 J (fun u hw=>hw.rg (gh.2 (.inr aI)) (g3.of_eq 0 1 J J:rg _ _ _ [iV U]))) J<|ma 12 J OX (kn Kf.id (am [0,1,2,3] J)) J ?_
   obtain⟨x8,V,h⟩:=bs h
   obtain⟨aT,F6,-,g4,aU,aV,r4⟩:=y.elS (a8 V).2.2
   obtain⟨rfl,-⟩:=r4
   refine mq 13 J OX (kn Kf.id (am [0,1,2,3] J)) (ak bw J J y.rsl V) J ?_
   refine WM.one 14 OX (mu J (fun hc=>by cases hc) (Ej (js:=[1]) (Rr:=[ob v5,ob v2,ob p]) (vs:=[iV (wz (T+U))]) (x':=wz (T+U)) RI.lasts RI.flat A6 J J J J ⟨J,trivial⟩ J y (va V) ⟨J,J⟩) J ?_)
   rintro aX D2 ⟨⟨W,X⟩,h5⟩
   replace c:=c.fr X (W.q 2 J) dN
   replace h1:=h1.fr X (W.q 1 J) dN
   replace w:=w.fr X (W.q 0 J) dN
   refine WM.nil OX<|att 6 [] J ?_
   exact lb [1,0,0,0] [0,0,0,0] (aD (_,_,_) ⟨h,c,h1,h5,w⟩)
  refine att 7 [] J ?_
  exact lb [1,1,1] [0,0,0,0] (av (_,_,_) ⟨h,c,h1,y⟩)
 refine atr 4 [34] J<|soN 0 t8 J ⟨c.one,A.one,trivial⟩ J ?_
 refine en ?_
 exact rtg [2,0] hF (aC.one (bf Er J (fun u hw=>hw.rgO (i:=0) J 0 2 [p,v3] J) J)) J (by cases h;exact fun u hw=>⟨p,v3,rfl,rfl,c,A⟩)
end Go.Proofs.YtedmfnmbjglmbaaGreat
