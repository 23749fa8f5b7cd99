/- Printed by a program of ours: each Go function computes its Lean function. -/
import Derived.Test.YtedmfnmbjglmbaaGreatProg
import Derived.Test.YtedmfnmbjglmbaaGreatWCameWalk4
import Derived.Test.YtedmfnmbjglmbaaGreatEV
namespace Go.Proofs.YtedmfnmbjglmbaaGreat
open Eng Tryz
open Go.RowKit (Below)
set_option linter.unusedVariables false
set_option linter.unusedSimpArgs false

set_option maxRecDepth 100000
set_option maxHeartbeats 1000000
variable {e f:Hp} {a n j o l p ad b5 b0:Value} {b4 aj t ai a6 aE b8 b7 b6 g:List Nat} (N:Nat)
theorem j9 {d:Nat} {i:List Value} (w0:aD e f []) (b:(List ao)) (k:(List ao)) (q:ao→ao→Option (Bool)) (u:RSl dW 2 e b4 a b) (v:RSl dW 2 e aj n k) (I:Fun prog d=true) (K:∀ {c:Hp} {w':World},FrH [] f c→In c w'→∀ (w:ao) (x:ao) {z:Value} {L:List Nat} {A:Value} {M:List Nat} {B:Value} {O:List Nat} {C:Value} {P:List Nat} (_:RSl (RI .i64) 1 c L z w.Ids) (_:RSl (RI .i64) 1 c M A w.Hits) (_:RSl (RI .i64) 1 c O B x.Ids) (_:RSl (RI .i64) 1 c P C x.Hits) {r:Bool},q w x=some r→Calls prog d (([.agg [z,A].toArray,.agg [B,C].toArray]:List Value)++i).toArray w' (lw (.bool r) w')) {r:Bool} (h:cE N b k q=some r) :
  CB w0 prog 182 [a,n,.func (.func d) #[] i.toArray] (.bool r):=by
 refine eN func182 J ntmps182 J w0 fun y=>?_
 unfold cE at h
 refine atr 8 [] J<|lnr u J<|la J<|lnr v J<|la J<|en ?_
 refine ch h J ?_ ?_ <;> intro h
 ·refine att 4 [] J ?_
  exact rt y h
 refine atr 5 [] J<|lnr u J<|art 3 [] J ?_
 refine lin (σ:=Int) (fun s=>[(1,n),(2,.func (.func d) #[] i.toArray),(15,a),(16,iV (b.length:Int)),(17,iV s)]) (fun s=>St w0 f [] []) (fun m s=>aK N b k q m s=some r) (0) N h (sx [] []) (fun Q R s hm=>?_)
 revert hm;revert s;intro s1 hm
 have h:aK N b k q (Q+1) s1=some r:=hm
 show WT _ _ [(1,n),(2,.func (.func d) #[] i.toArray),(15,a),(16,iV (b.length:Int)),(17,iV s1)] (St w0 f [] [])
 unfold aK at h
 refine att 5 [] J ?_
 refine ch h J ?_ ?_ <;> intro h
 ·refine atr 6 [] J ?_
  obtain⟨S,D,h⟩:=bs h
  obtain⟨X,Y,-,g1,Z,a1,T⟩:=u.el (a8 D).2.2
  obtain⟨v1,G1,v2,G2,rfl,rfl,h1,E⟩:=T
  refine lia u D J<|lhx 0 2 g1 J<|lnz ib J fun a7=>la J<|soN 0 oX J ⟨h1.one,E.one,trivial⟩ J ?_
  refine arr 5 [] J ?_
  obtain⟨U,F,h⟩:=bs h
  obtain⟨aa,F2,-,g2,ab,ae,V⟩:=v.el (a8 F).2.2
  obtain⟨v3,G3,v4,G4,rfl,rfl,G,H⟩:=V
  refine lia v F J<|lhx 0 2 g2 J<|lnz ib J fun af=>soN 0 oX J ⟨G.one,H.one,trivial⟩ J ?_
  refine arr 6 [34,2] J ?_
  obtain⟨x3,W,h⟩:=bs h
  refine lp (kK I J J (fun w1 hw=>K hw.frB hw.fro S U (h1.y hw.up) (E.y hw.up) (G.y hw.up) (H.y hw.up) W)) J<|la J<|en ?_
  refine ch h J ?_ ?_ <;> intro h
  ·refine att 4 [] J ?_
   exact rt y h
  refine att 6 [] J ?_
  exact lb [] [] (R _ h)
 refine att 5 [] J ?_
 exact rt y h
theorem yp (w0:aD e f []) (b:ao) (c:ao) (d:RSl (RI .i64) 1 e t j b.Ids) (i:RSl (RI .i64) 1 e ai o b.Hits) (k:RSl (RI .i64) 1 e a6 l c.Ids) (m:RSl (RI .i64) 1 e aE p c.Hits) {r:Bool} (h:lV N b c=some r) :
  CB w0 prog 183 [.agg [j,o].toArray,.agg [l,p].toArray] (.bool r):=by
 refine eN func183 J ntmps183 J w0 fun q=>?_
 unfold lV at h
 refine sr<|lbx J fun s=>lbx J fun u=>arr 6 [34,2] J<|qd h (lN N · b c d i k m ·) J J J fun v h=>art 3 [] J ?_
 exact rt q h
theorem wd (w0:aD e f []) (s:aq) (u:aq) (c:RSl dW 2 e t j s.Toks) (m:RSl dW 2 e a6 l u.Toks) {r:Bool} (h:iA N s u=some r) :
  CB w0 prog 114 [.agg [j].toArray,.agg [l].toArray] (.bool r):=by
 refine eN func114 J ntmps114 J w0 fun B=>?_
 unfold iA at h
 refine sr ?_
 refine ln (wM (C:=#[j]) J J) J (fun Y=>?_)
 refine ln (wM (C:=#[l]) J J) J (fun Z=>?_)
 refine arr 7 [0,32] J<|lnr c J<|arr 2 [0,0] J<|lnr m J<|la J<|en ?_
 refine ch h J ?_ ?_ <;> intro h
 ·refine att 4 [] J ?_
  exact rt B h
 refine att 2 [] J<|wm [0,1] [] J<|amm 4 [0,0,1,32,3,0,4,0] [0,1] J J ?_
 obtain⟨I,K,h⟩:=bs h
 refine WM.one 2 NQ (mc J (fun _ v L D w M hw=>Kn.of Kf.nil (ai2 0 1 J J) hw) (bH (js:=[]) (R:=[]) EF J J (fun w hw ap O=>kA N (ba hw.fro) s.Toks (c.y hw.up)  K)) J ?_)
 rintro v1 a7 F1 ⟨a8,aa,v2,D1,rfl,rfl,h1,x⟩
 obtain⟨P,Q,h⟩:=bs h
 refine WM.one 5 NQ (mc J (fun _ v L D w M hw=>Kn.of Kf.nil (ai2 0 1 J J) hw) (bH (js:=[]) (R:=[ob v1]) EF J J (fun w hw ap O=>kA N (ba hw.fro) u.Toks (m.y hw.up)  Q)) J ?_)
 rintro v3 ab F2 ⟨E,S,v4,D2,rfl,rfl,y,i2⟩
 replace h1:=h1.fr S (E.q 0 J) (Dj.sub (E.o c.old) x)
 refine amm 2 [6,7] [0,1] J J<|WM.nil NQ<|sr<|la J<|kcb [1] h J J J J (fun b ap z q=>jh N b I (cY N) h1 Ez (fun F d a0 i=>fun f0 f1 f2 f3=>fun k=>lN N (ba d) a0 i f0 f1 f2 f3 k) (Dj.sub (ap.o c.old) x) q) ?_
 rintro T h v5 ae F3 ⟨G,U,D3,rfl,rfl,A,i3⟩
 replace y:=y.fr U (G.q 0 J) (Dj.sub (G.o m.old) i2)
 refine arr 4 [] J<|kcb [1] h J J J J (fun b ap z q=>jh N b P (cY N) y Ez (fun F d a0 i=>fun f0 f1 f2 f3=>fun k=>lN N (ba d) a0 i f0 f1 f2 f3 k) (Dj.sub (ap.o m.old) i2) q) ?_
 rintro V h v6 af F4 ⟨H,W,D4,rfl,rfl,X,i4⟩
 replace A:=A.fr W (H.q 0 J) (Dj.sub (Dj.sub (H.o c.old) x) i3)
 refine arr 5 [] J<|qc h (j9 N · T V (lV N) A.rsl X.rsl Jl (fun F d a0 i=>fun f0 f1 f2 f3=>fun k=>yp N (ba d) a0 i f0 f1 f2 f3 k) ·) J J J fun x5 h=>la J<|en ?_
 exact rt B h
theorem vc (w0:aD e f []) (c:aP) (d:aP) (i:RSl iv 1 e t j c.Levels) (k:RSl iv 1 e a6 l d.Levels) {r:Bool} (h:fS N c d=some r) :
  CB w0 prog 112 [.agg [j].toArray,.agg [l].toArray] (.bool r):=by
 refine eN func112 J ntmps112 J w0 fun m=>?_
 unfold fS at h
 refine sr ?_
 refine ln (wM (C:=#[j]) J J) J (fun w=>?_)
 refine ln (wM (C:=#[l]) J J) J (fun x=>?_)
 refine arr 8 [0,32,0,0] J<|qz h (fun b z q=>gX N b c.Levels d.Levels (iA N) (i.y z) (k.y z) Jz (fun y s a0 u=>fun f0 f1=>fun v=>wd N (ba s) a0 u f0 f1 v) q) J J J fun A h=>la J<|en ?_
 exact rt m h
theorem yG (w0:aD e f []) (d:aN) (i:aN) (u:RSl im 1 e t j d.Alphas) (v:RSl l7 1 e ai o d.Rules) (w:RSl im 1 e a6 l i.Alphas) (x:RSl l7 1 e aE p i.Rules) {r:Bool} (h:nS N d i=some r) :
  CB w0 prog 49 [.agg [j,o].toArray,.agg [l,p].toArray] (.bool r):=by
 refine eN func49 J ntmps49 J w0 fun y=>?_
 unfold nS at h
 refine sr<|lbx J fun C=>lbx J fun D=>arr 8 [0,32,0,0] J<|qz h (fun b z q=>ja N b d.Alphas i.Alphas (i7 N) (u.y z) (w.y z) Iw (fun A k a0 m=>fun f0 f1=>fun s=>uK N (ba k) a0 m f0 f1 s) q) J J J fun E h=>arr 6 [] J ?_
 obtain⟨B,c,h⟩:=bs h
 refine WL.cutN 6 [(18,.bool B),(4,.bool false)] ?_ (fun K=>?_)
 rotate_left
 ·refine sp 12 c J (fun c=>?_) fun c=>?_
  ·refine arr 4 [1,32,1,0] J<|ly J J<|qz c (fun b z q=>j7 N b d.Rules i.Rules (fS N) (v.y z) (x.y z) Ix (fun A k a0 m=>fun f0 f1=>fun s=>vc N (ba k) a0 m f0 f1 s) q) J J J fun F c=>la J ?_
   cases c
   exact ku K
  ·refine arr 6 [] J ?_
   cases c
   exact ku K
 refine la J<|en ?_
 exact rt y h
theorem xd (w0:aD e f []) (k:bv) (q:aN) (c:ac) (u:RSl fb 5 e t j k.Rules) (x:RSl im 1 e a6 l q.Alphas) (y:RSl l7 1 e aE p q.Rules) (w:RSl aY 3 e b8 ad c.Items) {r:Bool} (h:mF N k q c=some r) :
  CB w0 prog 13 [.agg [.string k.Name,j].toArray,.agg [l,p].toArray,.agg [ad,iV c.Next].toArray] (.bool r):=by
 refine eN func13 J ntmps13 J w0 fun s=>?_
 unfold mF at h
 refine sr<|lbx J fun H=>lbx J fun I=>lbx J fun K=>art 3 [] J<|wm [0,1,2] [] J<|amm 1 [0,66] [0,1,2] J J ?_
 obtain⟨L,A,h⟩:=bs h
 refine on1 1 (mp J (kS [0,1,2]) (pdP J (rH N · k u A)) J ?_)
 refine amm 1 [2] [0,1,2] J J ?_
 refine WM.split (d:=9) J (fun c1=>?_) (fun c1=>?_)
 ·replace h:=lP h c1
  refine mqG 3 [4,5,6,7,8,9,10,11,12,13] J NQ (kN [0,1,2]) (aw mD J (fun m hw=>hw.rgO (i:=0) J 0 2 [ad,iV c.Next] J) J) J ?_
  obtain⟨M,B,h⟩:=bs h
  refine on1 4 (mpG J (kS [0,1,2]) (pdP J (mr N · c w B)) J ?_)
  refine amm 2 [5,6] [0,1,2] J J ?_
  refine WM.split (d:=13) J (fun c2=>?_) (fun c2=>?_)
  ·replace h:=lP h c2
   refine mqG 7 [11,12,13] J NQ (kN [0,1,2]) (aw wK J (fun m hw=>hw.rgO (i:=1) J 0 2 [l,p] J) J) J<|mqG 8 [10,11,12,13] J NQ (kN [0,1,2]) (aw Eg J (fun m hw=>hw.rgO (i:=2) J 0 2 [.string k.Name,j] J) J) J<|mqG 9 [10,11,12,13] J NQ (kN [0,1,2]) (aw mD J (fun m hw=>hw.rgO (i:=0) J 0 2 [ad,iV c.Next] J) J) J ?_
   obtain⟨C,E,h⟩:=bs h
   refine WM.one 10 NQ (mcG J (fun _ v O D m P hw=>Kn.of Kf.nil (ai3 0 1 2 J J J) hw) (bH (js:=[]) (R:=[]) L7 J J (fun m hw ap Q=>AA N (ba hw.fro) k c (u.y hw.up) (w.y hw.up)  E)) J ?_)
   rintro v1 S T ⟨U,V,v2,W,v3,X,rfl,rfl,h1,F⟩
   obtain⟨Y,G,h⟩:=bs h
   refine on1 11 (mpG J (kS [0,1,2]) (pzP J (fun b z=>yG N b q C (x.y z) (y.y z) (h1.rslG bA.gives) (F.rslG br.gives) G)) J ?_)
   refine amm 2 [12,13] [0,1,2] J J<|WM.nil NQ ?_
   exact rt s h
  replace h:=mb h c2
  refine mno 7 [11,12,13] J NQ (kn Kf.nil (ai3 0 1 2 J J J)) J (.inl J) J J<|mno 8 [10,11,12,13] J NQ (kn Kf.nil (ai3 0 1 2 J J J)) J (.inl J) J J<|mno 9 [10,11,12,13] J NQ (kn Kf.nil (ai3 0 1 2 J J J)) J (.inl J) J J<|mno 10 [11,12,13] J NQ (kn Kf.nil (ai3 0 1 2 J J J)) J (.inl J) J J<|mno 11 [12,13] J NQ (kn Kf.nil (ai3 0 1 2 J J J)) J (.inl J) J J<|amm 2 [12,13] [0,1,2] J J<|WM.nil NQ ?_
  exact rt s h
 replace h:=mb h c1
 refine mno 3 [4,5,6,7,8,9,10,11,12,13] J NQ (kn Kf.nil (ai3 0 1 2 J J J)) J (.inl J) J J<|mno 4 [5,6,7,8,9,10,11,12,13] J NQ (kn Kf.nil (ai3 0 1 2 J J J)) J (.inl J) J J<|amm 2 [5,6] [0,1,2] J J<|mno 7 [11,12,13] J NQ (kn Kf.nil (ai3 0 1 2 J J J)) J (.inl J) J J<|mno 8 [10,11,12,13] J NQ (kn Kf.nil (ai3 0 1 2 J J J)) J (.inl J) J J<|mno 9 [10,11,12,13] J NQ (kn Kf.nil (ai3 0 1 2 J J J)) J (.inl J) J J ?_
 refine mno 10 [11,12,13] J NQ (kn Kf.nil (ai3 0 1 2 J J J)) J (.inl J) J J<|mno 11 [12,13] J NQ (kn Kf.nil (ai3 0 1 2 J J J)) J (.inl J) J J<|amm 2 [12,13] [0,1,2] J J<|WM.nil NQ ?_
 exact rt s h
theorem gU {d:Nat} {i:List Value} (w0:aD e f []) (b:(List a7)) (k:(List a7)) (q:a7→a7→Option (Bool)) (u:RSl dO 3 e b4 a b) (x:RSl dO 3 e aj n k) (I:Fun prog d=true) (K:∀ {c:Hp} {w':World},FrH [] f c→In c w'→∀ (v:a7) (w:a7) {z:Value} {L:List Nat} {A:Value} {M:List Nat} {B:Value} {O:List Nat} {C:Value} {P:List Nat} (_:RSl (RI .i64) 1 c L z v.Ids) (_:RSl aJ 4 c M A v.Binds) (_:RSl (RI .i64) 1 c O B w.Ids) (_:RSl aJ 4 c P C w.Binds) {r:Bool},q v w=some r→Calls prog d (([.agg [iV v.Rule,z,A].toArray,.agg [iV w.Rule,B,C].toArray]:List Value)++i).toArray w' (lw (.bool r) w')) {r:Bool} (h:bg N b k q=some r) :
  CB w0 prog 50 [a,n,.func (.func d) #[] i.toArray] (.bool r):=by
 refine eN func50 J ntmps50 J w0 fun y=>?_
 unfold bg at h
 refine atr 8 [] J<|lnr u J<|la J<|lnr x J<|la J<|en ?_
 refine ch h J ?_ ?_ <;> intro h
 ·refine att 4 [] J ?_
  exact rt y h
 refine atr 5 [] J<|lnr u J<|art 3 [] J ?_
 refine lin (σ:=Int) (fun s=>[(1,n),(2,.func (.func d) #[] i.toArray),(15,a),(16,iV (b.length:Int)),(17,iV s)]) (fun s=>St w0 f [] []) (fun m s=>aS N b k q m s=some r) (0) N h (sx [] []) (fun Q R s hm=>?_)
 revert hm;revert s;intro s1 hm
 have h:aS N b k q (Q+1) s1=some r:=hm
 show WT _ _ [(1,n),(2,.func (.func d) #[] i.toArray),(15,a),(16,iV (b.length:Int)),(17,iV s1)] (St w0 f [] [])
 unfold aS at h
 refine att 5 [] J ?_
 refine ch h J ?_ ?_ <;> intro h
 ·refine atr 6 [] J ?_
  obtain⟨S,D,h⟩:=bs h
  obtain⟨X,Y,-,g1,Z,a1,T⟩:=u.el (a8 D).2.2
  obtain⟨v1,G1,v2,G2,rfl,rfl,h1,E⟩:=T
  refine lia u D J<|lhx 0 3 g1 J<|lnz wD J fun aa=>la J<|soN 0 sJ J ⟨J,h1.one,E.one,trivial⟩ J ?_
  refine arr 5 [] J ?_
  obtain⟨U,F,h⟩:=bs h
  obtain⟨ab,F2,-,g2,ae,af,V⟩:=x.el (a8 F).2.2
  obtain⟨v3,G3,v4,G4,rfl,rfl,G,H⟩:=V
  refine lia x F J<|lhx 0 3 g2 J<|lnz wD J fun ag=>soN 0 sJ J ⟨J,G.one,H.one,trivial⟩ J ?_
  refine arr 6 [35,3] J ?_
  obtain⟨x3,W,h⟩:=bs h
  refine lp (kK I J J (fun w1 hw=>K hw.frB hw.fro S U (h1.y hw.up) (E.y hw.up) (G.y hw.up) (H.y hw.up) W)) J<|la J<|en ?_
  refine ch h J ?_ ?_ <;> intro h
  ·refine att 4 [] J ?_
   exact rt y h
  refine att 6 [] J ?_
  exact lb [] [] (R _ h)
 refine att 5 [] J ?_
 exact rt y h
theorem rj (w0:aD e f []) (c:a7) (d:a7) (i:RSl (RI .i64) 1 e t j c.Ids) (s:RSl aJ 4 e ai o c.Binds) (k:RSl (RI .i64) 1 e a6 l d.Ids) (u:RSl aJ 4 e aE p d.Binds) {r:Bool} (h:jK N c d=some r) :
  CB w0 prog 28 [.agg [iV c.Rule,j,o].toArray,.agg [iV d.Rule,l,p].toArray] (.bool r):=by
 refine eN func28 J ntmps28 J w0 fun m=>?_
 unfold jK at h
 refine sr<|lbx J fun v=>lbx J fun w=>arr 10 [0,32,0,0] J ?_
 obtain⟨q,b,h⟩:=bs h
 refine WL.cutN 6 [(16,.bool q),(4,.bool false)] ?_ (fun K=>?_)
 rotate_left
 ·refine sp 10 b J (fun b=>?_) fun b=>?_
  ·refine arr 4 [1,32,1,0] J<|ly J J<|qd b (eQ N · c.Ids d.Ids i k ·) J J J fun x b=>la J ?_
   cases b
   exact ku K
  ·refine arr 6 [] J ?_
   cases b
   exact ku K
 refine la J<|en ?_
 exact rt m h
theorem oq (w0:aD e f []) (b:(List au)) (i:(List au)) (k:RSl aJ 4 e b4 a b) (q:RSl aJ 4 e aj n i) {r:Bool} (h:dQ N b i=some r) :
  CB w0 prog 52 [a,n] (.bool r):=by
 refine eN func52 J ntmps52 J w0 fun u=>?_
 unfold dQ at h
 refine atr 8 [] J<|lnr k J<|la J<|lnr q J<|la J<|en ?_
 refine ch h J ?_ ?_ <;> intro h
 ·refine att 4 [] J ?_
  exact rt u h
 refine atr 5 [] J<|lnr k J<|art 3 [] J ?_
 refine lin (σ:=Int) (fun s=>[(0,a),(1,n),(12,iV (b.length:Int)),(13,iV s)]) (fun s=>St w0 f [] []) (fun m s=>cm N b i m s=some r) (0) N h (sx [] []) (fun x y s hm=>?_)
 revert hm;revert s;intro s1 hm
 have h:cm N b i (x+1) s1=some r:=hm
 show WT _ _ [(0,a),(1,n),(12,iV (b.length:Int)),(13,iV s1)] (St w0 f [] [])
 unfold cm at h
 refine att 5 [] J ?_
 refine ch h J ?_ ?_ <;> intro h
 ·refine att 9 [] J<|WT.draw mixed NQ (fun _ h=>h.drew)<|aqq 2 [] J ?_
  obtain⟨c,v,h⟩:=bs h
  obtain⟨C,D,-,g1,E,F,z⟩:=k.el (a8 v).2.2
  obtain⟨rfl,-⟩:=z
  refine qq (an pI J J k v) J<|qq (aw Kj J (fun A hw=>(g1.of_eq 0 4 J J:rg _ _ _ [.string c.Name,iV c.V.K,iV c.V.N,.string c.V.S]).rangeAt hw.in0) J) J<|aqq 2 [] J ?_
  obtain⟨d,w,h⟩:=bs h
  obtain⟨G,H,-,g2,I,K,B⟩:=q.el (a8 w).2.2
  obtain⟨rfl,-⟩:=B
  refine qq (an pI J J q w) J<|qq (aw Kj J (fun A hw=>(g2.of_eq 0 4 J J:rg _ _ _ [.string d.Name,iV d.V.K,iV d.V.N,.string d.V.S]).rangeAt hw.in0) J) J<|qq (tH KR J J J (r:=tp c d) J) J<|WQ.nil ?_
  refine ch h J ?_ ?_ <;> intro h
  ·refine att 4 [] J ?_
   exact rt u h
  refine att 6 [] J ?_
  exact lb [] [] (y _ h)
 refine att 5 [] J ?_
 exact rt u h
theorem uI (w0:aD e f []) (c:a7) (d:a7) (m:RSl (RI .i64) 1 e t j c.Ids) (i:RSl aJ 4 e ai o c.Binds) (q:RSl (RI .i64) 1 e a6 l d.Ids) (k:RSl aJ 4 e aE p d.Binds) {r:Bool} (h:fN N c d=some r) :
  CB w0 prog 51 [.agg [iV c.Rule,j,o].toArray,.agg [iV d.Rule,l,p].toArray] (.bool r):=by
 refine eN func51 J ntmps51 J w0 fun s=>?_
 unfold fN at h
 refine sr<|lbx J fun v=>lbx J fun w=>arr 6 [35,3] J<|qd h (rj N · c d m i q k ·) J J J fun x h=>la J ?_
 obtain⟨u,b,h⟩:=bs h
 refine WL.cutN 6 [(14,.bool u),(4,.bool false)] ?_ (fun K=>?_)
 rotate_left
 ·refine sp 8 b J (fun b=>?_) fun b=>?_
  ·refine arr 4 [2,32,2,0] J<|ly J J<|qd b (oq N · c.Binds d.Binds i k ·) J J J fun y b=>la J ?_
   cases b
   exact ku K
  ·refine arr 6 [] J ?_
   cases b
   exact ku K
 refine la J<|en ?_
 exact rt s h
theorem yQ (w0:aD e f []) (c:(List a7)) (d:(List a7)) (i:RSl dO 3 e b4 a c) (k:RSl dO 3 e aj n d) {r:Bool} (h:nY N c d=some r) :
  CB w0 prog 14 [a,n] (.bool r):=by
 refine eN func14 J ntmps14 J w0 fun m=>?_
 unfold nY at h
 refine atr 8 [] J<|qz h (fun b z q=>gU N b c d (fN N) (i.y z) (k.y z) LM (fun w s a0 u=>fun f0 f1 f2 f3=>fun v=>uI N (ba s) a0 u f0 f1 f2 f3 v) q) J J J fun x h=>la J<|en ?_
 exact rt m h
theorem xh (w0:aD e f []) (c:af) (d:ac) (i:(List Int)) (u:RSl cS 3 e t j c.Pats) (w:RSl cH 11 e ai o c.Conds) (x:RSl hU 5 e b7 b5 c.Acts) (y:RSl aY 3 e a6 l d.Items) (m:RSl (RI .i64) 1 e b6 b0 i) {r:(List au) × Bool} (h:mE N c d i=some r) :
  Calls prog 53 [.agg [.string c.Name,iV c.Sal,j,o,b5].toArray,.agg [l,iV d.Next].toArray,b0].toArray w0.w (bc f w0.w [] (fun A Fs v=>∃ (k:Value),v = .tuple #[k,.bool r.2]∧Fs=[ob k]∧OSl aJ 97 4 A [] k r.1)):=by
 refine eN func53 J ntmps53 J w0 fun s=>?_
 unfold mE at h
 refine sr<|lbx J fun E=>lbx J fun F=>arr 6 [37] J<|kab h J J J (fun b z q=>qh N b c false (u.y z) (w.y z) (x.y z) q) ?_
 rintro B h v1 G H ⟨I,K,v2,L,rfl,rfl,h1,M⟩
 refine arr 6 [] J<|lnr m J<|la J<|lno h1 J<|la J<|en ?_
 refine ch h J ?_ ?_ <;> intro h
 ·refine att 5 [] J ?_
  refine WT.ret s (az.two J J) (fun C hw=>?_)
  cases h
  replace hw:=hw.addNil
  refine aH (js:=[0]) hw J ⟨.slice none 0 0,J,J,OSl.nil _ _ _ _⟩
 refine atr 6 [2] J<|kab h J J J (fun b z q=>pO N b B d i h1.rsl (y.y z) (m.y z) q) ?_
 rintro O h v3 P Q ⟨R,S,v4,rfl,rfl,D⟩
 refine art 5 [] J ?_
 exact rtg [0] s (az.two J J) J (by cases h;exact fun C hw=>⟨v4,rfl,rfl,D⟩)
theorem zh (w0:aD e f []) (b:ao) (v:RSl (RI .i64) 1 e t j b.Ids) (c:RSl (RI .i64) 1 e ai o b.Hits) {r:Bool} (h:pj N b=some r) :
  CB w0 prog 54 [.agg [j,o].toArray] (.bool r):=by
 refine eN func54 J ntmps54 J w0 fun d=>?_
 unfold pj at h
 refine sr<|lbx J fun w=>arr 7 [1,0] J<|lnr c J<|art 3 [] J ?_
 refine lin (σ:=Int) (fun s=>[(6,o),(7,iV (b.Hits.length:Int)),(8,iV s)]) (fun s=>St w0 f [] []) (fun m s=>gL N b m s=some r) (0) N h (sx [] []) (fun k q s hm=>?_)
 revert hm;revert s;intro s1 hm
 have h:gL N b (k+1) s1=some r:=hm
 show WT _ _ [(6,o),(7,iV (b.Hits.length:Int)),(8,iV s1)] (St w0 f [] [])
 unfold gL at h
 refine att 5 [] J ?_
 refine ch h J ?_ ?_ <;> intro h
 ·refine atr 5 [] J ?_
  obtain⟨x,i,h⟩:=bs h
  obtain⟨y,z,-,g1,A,B,u⟩:=c.el (a8 i).2.2
  obtain⟨rfl,-⟩:=u
  refine lia c i J<|lhx 0 0 g1 J<|art 7 [] J ?_
  refine ch h J ?_ ?_ <;> intro h
  ·refine att 4 [] J ?_
   exact rt d h
  refine att 6 [] J ?_
  exact lb [] [] (q _ h)
 refine att 5 [] J ?_
 exact rt d h
theorem tT (w0:aD e f []) (b:cJ) (d:(List au)) (q:RSl aJ 4 e aj n d) {r:bN × Bool} (h:mZ N b d=some r) :
  CB w0 prog 185 [.agg [iV b.K,.string b.S,iV b.V.K,iV b.V.N,.string b.V.S].toArray,n] (.tuple #[.agg [iV r.1.K,iV r.1.N,.string r.1.S].toArray,.bool r.2]):=by
 refine eN func185 J ntmps185 J w0 fun k=>?_
 unfold mZ at h
 refine sr<|lbx J fun s=>lnz jY J fun u=>art 14 [0,32] J ?_
 refine ch h J ?_ ?_ <;> intro h
 ·refine atr 4 [2,35] J<|soN 0 pL J ⟨J,J,J,trivial⟩ J ?_
  refine la J<|en ?_
  refine WT.ret k (az.two (aX l6 J (fun c hw=>hw.rgO (i:=0) J 0 3 [iV b.V.K,iV b.V.N,.string b.V.S] J) J) J) (fun c hw=>?_)
  cases h
  exact fe hw
 refine att 5 [] J ?_
 refine ch h J ?_ ?_ <;> intro h
 ·refine atr 5 [1,32] J<|qd h (tM N · d b.S q ·) J J J fun m h=>arr 2 [] J<|soN 0 pL J ⟨J,J,J,trivial⟩ J ?_
  refine la J<|en ?_
  refine WT.ret k (az.two (aX l6 J (fun c hw=>hw.rgO (i:=0) J 0 3 [iV m.1.K,iV m.1.N,.string m.1.S] J) J) J) (fun c hw=>?_)
  cases h
  exact fe hw
 refine atr 4 [] J<|lq (bu (vs:=[]) (C:=#[iV 0,iV 0,.string (⟨#[]⟩:ByteArray)]) wW jY J (ae)) J<|soN 0 pL J ⟨J,J,J,trivial⟩ J ?_
 refine la J<|en ?_
 refine WT.ret k (az.two (aX l6 J (fun c hw=>hw.rgO (i:=0) J 0 3 [iV 0,iV 0,.string (⟨#[]⟩:ByteArray)] J) J) J) (fun c hw=>?_)
 cases h
 exact fe hw
theorem mP  (w0:aD e f []) (b:ByteArray)  {r:Bool} (h:hP N b=some r) :
  CB w0 prog 264 [.string b] (.bool r):=by
 refine eN func264 J ntmps264 J w0 fun c=>?_
 unfold hP at h
 refine att 11 [] J ?_
 exact rt c h
theorem qK  (w0:aD e f []) (c:ByteArray) (d:ByteArray)  {r:Int} (h:fM N c d=some r) :
  CB w0 prog 252 [.string c,.string d] (iV r):=by
 refine eN func252 J ntmps252 J w0 fun b=>?_
 unfold fM at h
 refine atr 7 [] J<|qc h (mP N · c ·) J J J fun i h=>arr 5 [] J<|qc h (mP N · d ·) J J J fun k h=>art 7 [] J ?_
 refine ch h J ?_ ?_ <;> intro h
 ·refine att 5 [] J ?_
  refine ch h J ?_ ?_ <;> intro h
  ·refine att 4 [] J ?_
   exact rt b h
  refine att 5 [] J ?_
  exact rt b h
 refine att 6 [] J ?_
 refine ch h J ?_ ?_ <;> intro h
 ·refine att 4 [] J ?_
  exact rt b h
 refine atr 6 [] J<|lq (MD J J) J<|en ?_
 refine ch h J ?_ ?_ <;> intro h
 ·refine att 4 [] J ?_
  exact rt b h
 refine atr 6 [] J<|lq (Mb J J) J<|en ?_
 refine ch h J ?_ ?_ <;> intro h
 ·refine att 4 [] J ?_
  exact rt b h
 refine att 5 [] J ?_
 exact rt b h
theorem uH  (w0:aD e f []) (k:bN) (m:bN)  {r:Int} (h:lH N k m=some r) :
  CB w0 prog 224 [.agg [iV k.K,iV k.N,.string k.S].toArray,.agg [iV m.K,iV m.N,.string m.S].toArray] (iV r):=by
 refine eN func224 J ntmps224 J w0 fun q=>?_
 unfold lH at h
 refine sr<|lbx J fun A=>lbx J fun B=>art 3 [] J<|wm [0,1] [] J<|amm 12 [0,0,1,32,2,0,3,0,5,1,6,32,7,1,8,0,10,2,11,32,12,2,13,0] [0,1] J J ?_
 obtain⟨b,s,h⟩:=bs h
 refine on1 4 (mp J (kS [0,1]) (pcP J (fT N · k.K m.K s)) J ?_)
 obtain⟨d,u,h⟩:=bs h
 refine on1 9 (mp J (kS [0,1]) (pcP J (fT N · k.N m.N u)) J ?_)
 obtain⟨i,w,h⟩:=bs h
 refine on1 14 (mp J (kS [0,1]) (pcP J (qK N · k.S m.S w)) J ?_)
 have x:RC (RI .i64) 1 f ([[],[],[]]:List (List Nat)) [iV b,iV d,iV i] ([b,d,i]:List Int):=RC.cons (c:=[iV b]) (cells:=[iV d,iV i]) ⟨J,J⟩ J (RC.cons (c:=[iV d]) (cells:=[iV i]) ⟨J,J⟩ J (RC.cons (c:=[iV i]) (cells:=[]) ⟨J,J⟩ J (RC.nil _ _ _)))
 refine WM.one 15 NQ (me J (fun _ v E D F G hw=>Kn.of Kf.nil (ai2 0 1 J J) hw) (bz (vs:=[(0,iV b),(1,iV d),(2,iV i)]) (C:=#[iV b,iV d,iV i]) RI.lasts cq mg J J J J (ar KM (aa (C':=[iV b,iV 0,iV 0]) J J J J J (aa (C':=[iV b,iV d,iV 0]) J J J J J (aa (C':=[iV b,iV d,iV i]) J J J J J (ae))))) J x J (by simpa using Kw.nil)) J ?_)
 rintro v1 y H ⟨I,h1⟩
 replace h1:OSl (RI .i64) 3 1 y [] v1 ([b,d,i]:List Int):=by simpa using h1
 obtain⟨K,z,h⟩:=bs h
 refine on1 16 (mp J (kS [0,1]) (pcP J (og N · ([b,d,i]:List Int) h1.rsl z)) J ?_)
 refine amm 1 [17] [0,1] J J<|WM.nil NQ ?_
 exact rt q h
theorem yt  (w0:aD e f []) (b:bN) (c:bN)  {r:Bool} (h:nZ N b c=some r) :
  CB w0 prog 186 [.agg [iV b.K,iV b.N,.string b.S].toArray,.agg [iV c.K,iV c.N,.string c.S].toArray] (.bool r):=by
 refine eN func186 J ntmps186 J w0 fun d=>?_
 unfold nZ at h
 refine sr<|lbx J fun i=>lbx J fun k=>arr 6 [35,3] J<|qc h (uH N · b c ·) J J J fun m h=>art 3 [] J ?_
 exact rt d h
theorem AO (w0:aD e f []) (b:f9) (i:(List au)) (q:RSl aJ 4 e aj n i) {r:Bool} (h:qZ N b i=some r) :
  CB w0 prog 117 [.agg [iV b.Op,iV b.L.K,.string b.L.S,iV b.L.V.K,iV b.L.V.N,.string b.L.V.S,iV b.R.K,.string b.R.S,iV b.R.V.K,iV b.R.V.N,.string b.R.V.S].toArray,n] (.bool r):=by
 refine eN func117 J ntmps117 J w0 fun c=>?_
 unfold qZ at h
 refine sr<|lbx J fun s=>arr 7 [1,5] J<|qd h (tT N · b.L i q ·) J J J fun k h=>arr 3 [] J<|lnz jY J fun u=>soN 0 pL J ⟨J,J,J,trivial⟩ J ?_
 refine arr 7 [6,37] J<|qd h (tT N · b.R i q ·) J J J fun m h=>arr 3 [] J<|lnz jY J fun v=>soN 0 pL J ⟨J,J,J,trivial⟩ J ?_
 refine arr 8 [] J ?_
 obtain⟨w,d,h⟩:=bs h
 refine WL.cutN 3 [(28,.bool w),(2,pQ s),(5,pQ u),(7,pQ v)] ?_ (fun K=>?_)
 rotate_left
 ·refine sp 25 d J (fun d=>?_) fun d=>?_
  ·refine arr 3 [] J ?_
   cases d
   exact ku K
  ·refine arr 3 [] J ?_
   cases d
   exact ku K
 refine en ?_
 refine ch h J ?_ ?_ <;> intro h
 ·refine att 4 [] J ?_
  exact rt c h
 refine att 13 [0,64] J ?_
 refine ch h J ?_ ?_ <;> intro h
 ·refine atr 4 [35,3] J<|lq (DU oe J J J (r:=bQ k.1 m.1) J) J<|la J<|en ?_
  exact rt c h
 refine att 5 [] J ?_
 refine ch h J ?_ ?_ <;> intro h
 ·refine atr 4 [35,3] J<|lq (tH oe J J J (r:=bQ k.1 m.1) J) J<|la J<|en ?_
  exact rt c h
 refine att 5 [] J ?_
 refine ch h J ?_ ?_ <;> intro h
 ·refine atr 4 [35,3] J<|qc h (yt N · k.1 m.1 ·) J J J fun x h=>la J<|en ?_
  exact rt c h
 refine att 6 [] J ?_
 exact rt c h
theorem t8 (w0:aD e f []) (b:(List f9)) (c:(List au)) (d:RSl cH 11 e b4 a b) (q:RSl aJ 4 e aj n c) {r:Bool} (h:lS N b c=some r) :
  CB w0 prog 55 [a,n] (.bool r):=by
 refine eN func55 J ntmps55 J w0 fun i=>?_
 unfold lS at h
 refine atr 8 [] J<|lnr d J<|art 3 [] J ?_
 refine lin (σ:=Int) (fun s=>[(1,n),(7,a),(8,iV (b.length:Int)),(9,iV s)]) (fun s=>St w0 f [] []) (fun m s=>fQ N b c m s=some r) (0) N h (sx [] []) (fun u v s hm=>?_)
 revert hm;revert s;intro s1 hm
 have h:fQ N b c (u+1) s1=some r:=hm
 show WT _ _ [(1,n),(7,a),(8,iV (b.length:Int)),(9,iV s1)] (St w0 f [] [])
 unfold fQ at h
 refine att 5 [] J ?_
 refine ch h J ?_ ?_ <;> intro h
 ·refine atr 5 [] J ?_
  obtain⟨w,k,h⟩:=bs h
  obtain⟨y,z,-,g1,A,B,x⟩:=d.el (a8 k).2.2
  obtain⟨rfl,-⟩:=x
  refine lia d k J<|lhx 0 11 g1 J<|lnz uu J fun C=>soN 0 yF J ⟨J,J,J,J,J,J,J,J,J,J,J,trivial⟩ J ?_
  refine arr 5 [11] J<|qd h (AO N · w c q ·) J J J fun D h=>la J<|en ?_
  refine ch h J ?_ ?_ <;> intro h
  ·refine att 4 [] J ?_
   exact rt i h
  refine att 6 [] J ?_
  exact lb [] [] (v _ h)
 refine att 5 [] J ?_
 exact rt i h
theorem gv {x:Nat} {y:List Value} (w0:aD e f [ob a,g].flatten) (E:(List a7)) (i:Int) (w:Int) (z:a7→a7→Option (Int)) (af:OSl aO 63 3 f g a E) (ag:Fun prog x=true) (ah:∀ {q:Hp} {w':World},FrH [ob a,g].flatten f q→In q w'→∀ (A:a7) (B:a7) {M:Value} {ak:List Nat} {O:Value} {al:List Nat} {P:Value} {ao:List Nat} {Q:Value} {aq:List Nat} (_:RSl (RI .i64) 1 q ak M A.Ids) (_:RSl aJ 4 q al O A.Binds) (_:RSl (RI .i64) 1 q ao P B.Ids) (_:RSl aJ 4 q aq Q B.Binds) {r:Int},z A B=some r→Calls prog x (([.agg [iV A.Rule,M,O].toArray,.agg [iV B.Rule,P,Q].toArray]:List Value)++y).toArray w' (lw (iV r) w')) {r:(List a7)} (h:bT N E i w z=some r) :
  Calls prog 187 [a,iV i,iV w,.func (.func x) #[] y.toArray].toArray w0.w (bc f w0.w [ob a,g].flatten (fun q Fs v=>∃ (R:List Nat),v = .tuple #[]∧Fs=[ob a,R]∧OSl aO 63 3 q R a r)):=by
 refine eL func187 J ntmps187 J (L:=[ob a,g]) w0 (fun hF=>?_)
 unfold bT at h
 refine att 7 [] J ?_
 refine lin (σ:=Hp × (List a7) × List Nat × Int) (fun s=>[(0,a),(1,iV i),(2,iV w),(3,.func (.func x) #[] y.toArray),(8,iV s.2.2.2)]) (fun s=>St w0 s.1 [] [ob a,s.2.2.1]) (fun m s=>bk N i w z m s.2.1 s.2.2.2=some r∧(OSl aO 63 3 s.1 s.2.2.1 a s.2.1)) (f,E,g,wz (i+1)) N ⟨h,af⟩ (sx [0,0] []) (fun n1 ar s hm=>?_)
 obtain⟨au,s1,S,s2⟩:=s
 obtain⟨h,F⟩:=hm
 dsimp only at h F ⊢
 unfold bk at h
 refine att 7 [] J ?_
 refine ch h J ?_ ?_ <;> intro h
 ·refine att 9 [] J ?_
  refine lin (σ:=Hp × (List a7) × List Nat × Int) (fun s=>[(0,a),(1,iV i),(2,iV w),(3,.func (.func x) #[] y.toArray),(8,iV s2),(9,iV s.2.2.2)]) (fun s=>St w0 s.1 [] [ob a,s.2.2.1]) (fun m s=>bE N i z s2 (bk N i w z n1) m s.2.1 s.2.2.2=some r∧(OSl aO 63 3 s.1 s.2.2.1 a s.2.1)) (au,s1,S,s2) N ⟨h,F⟩ (sx [0,0] []) (fun n2 av s hm=>?_)
  obtain⟨aP,s3,T,s4⟩:=s
  obtain⟨h,b⟩:=hm
  dsimp only at h b ⊢
  unfold bE at h
  refine sq<|sq<|WT.draw mixed NQ (fun _ h=>h.drew)<|aqq 4 [] J ?_
  obtain⟨b1,c,h⟩:=bs h
  refine WQ.cutN 13 [(34,.bool b1),(0,a),(1,iV i),(2,iV w),(3,.func (.func x) #[] y.toArray),(8,iV s2),(9,iV s4)] ?_ (fun K=>?_)
  rotate_left
  ·refine WQ.split (d:=21) J (fun c2=>?_) (fun c2=>?_)
   ·replace c:=lP c c2
    refine aqq 3 [] J<|WQ.yes J J ?_
    obtain⟨U,V,c⟩:=bs c
    obtain⟨aQ,F1,-,g1,aR,aS,r1⟩:=b.elS (a8 V).2.2
    obtain⟨v1,v2,rfl,rfl,h1,h2⟩:=r1
    have h3:=h1.rsl
    have h4:=h2.rsl
    refine qq (an i9 J J b.rsl V) J<|WQ.yes J J<|qq (aw jQ J (fun u hw=>(g1.of_eq 0 3 J J:rg _ _ _ [iV U.Rule,v1,v2]).rangeAt hw.fro) J) J<|aqq 3 [] J<|WQ.yes J J ?_
    obtain⟨W,X,c⟩:=bs c
    obtain⟨aT,F2,-,g2,aU,aV,r2⟩:=b.elS (a8 X).2.2
    obtain⟨v3,v4,rfl,rfl,h5,h6⟩:=r2
    have h7:=h5.rsl
    have h8:=h6.rsl
    refine qq (an i9 J J b.rsl X) J<|WQ.yes J J<|qq (aw jQ J (fun u hw=>(g2.of_eq 0 3 J J:rg _ _ _ [iV W.Rule,v3,v4]).rangeAt hw.fro) J) J<|WQ.yes J J ?_
    obtain⟨x3,ax,c⟩:=bs c
    refine qp (kK ag J J (fun u hw=>ah hw.frB hw.fro U W h3 h4 h7 h8 ax)) J<|aqq 2 [] J ?_
    cases c
    exact kq K
   ·replace c:=mb c c2
    refine aqq 13 [] J ?_
    cases c
    exact kq K
  refine WQ.nil ?_
  refine ch h J ?_ ?_ <;> intro h
  ·refine att 3 [] J<|WT.mix (fun _=>True) (fun _=>true) mixed (fun _ h=>h.drew)<|ma 0 J NQ (fun _ _=>trivial) J<|ma 1 J NQ (fun _ _=>trivial) J<|ma 2 J NQ (fun _ _=>trivial) J<|ma 3 J NQ (fun _ _=>trivial) J<|ma 4 J NQ (fun _ _=>trivial) J<|ma 5 J NQ (fun _ _=>trivial) J<|ma 6 J NQ (fun _ _=>trivial) J<|ma 7 J NQ (fun _ _=>trivial) J ?_
   obtain⟨G,C,h⟩:=bs h
   obtain⟨aW,F3,-,g3,aX,aY,r3⟩:=b.elS (a8 C).2.2
   obtain⟨v5,v6,rfl,rfl,h9,ay⟩:=r3
   have aA:=h9.rsl
   have aB:=ay.rsl
   refine mq 8 J NQ (fun _ _=>trivial) (an i9 J J b.rsl C) J<|ma 10 J NQ (fun _ _=>trivial) J<|ma 11 J NQ (fun _ _=>trivial) J ?_
   obtain⟨Y,D,h⟩:=bs h
   obtain⟨aZ,F4,-,g4,b2,Z,r4⟩:=b.elS (a8 D).2.2
   obtain⟨v7,v8,rfl,rfl,aC,aF⟩:=r4
   have H:=aC.rsl
   have I:=aF.rsl
   refine mq 12 J NQ (fun _ _=>trivial) (an i9 J J b.rsl D) J ?_
   refine WM.qq2 9 13 J J (aw jQ J (fun u hw=>(g3.of_eq 0 3 J J:rg _ _ _ [iV G.Rule,v5,v6]).rangeAt hw.fro) J) (aw jQ J (fun u hw=>(g4.of_eq 0 3 J J:rg _ _ _ [iV Y.Rule,v7,v8]).rangeAt hw.fro) J) (aw jQ J (fun u hw=>(g4.of_eq 0 3 J J:rg _ _ _ [iV Y.Rule,v7,v8]).rangeAt hw.fro) J) (aw jQ J (fun u hw=>(g3.of_eq 0 3 J J:rg _ _ _ [iV G.Rule,v5,v6]).rangeAt hw.fro) J) J J (fun _ _=>trivial) J J NQ NQ NQ ?_
   obtain⟨x6,a1,h⟩:=bs h
   obtain⟨b3,F5,-,g5,b9,ba,r5⟩:=b.elS (a8 a1).2.2
   obtain⟨v9,v10,rfl,rfl,aG,aI⟩:=r5
   have bb:=aG.rsl
   have bd:=aI.rsl
   refine mq 14 J NQ (fun _ _=>trivial) (an i9 J J b.rsl a1) J ?_
   refine WM.one 15 NQ (mu J (fun _ _ _ _ _ _=>trivial) (En (js:=[0]) (Rr:=[T]) (vs:=[iV G.Rule,v5,v6]) aO.lasts sJ J J J J ⟨J,aA.one,aB.one,trivial⟩ J b (a8 D).2.2 (a8 C).2.2 g4 J g3 (fun ap=>ap.q 0 J)) J ?_)
   rintro be D3 ⟨⟨aa,ab⟩,ae⟩
   replace H:=H.fr ab (Dj.sub (aa.q 0 J) (fun k h=>Z k (gb.2 (.inl h))))
   replace I:=I.fr ab (Dj.sub (aa.q 0 J) (fun k h=>Z k (gb.2 (.inr h))))
   obtain⟨x7,aK,h⟩:=bs h
   refine mq 16 J NQ (fun _ _=>trivial) (oz i9 J J ae aK NS) J ?_
   refine WM.one 17 NQ (mu J (fun _ _ _ _ _ _=>trivial) (DS (js:=[0]) (Rr:=[T]) aO.lasts sJ J J J ⟨J,H.one,I.one,trivial⟩ J ae (a8 D).2.2 (a8 C).2.2 (fun ap=>ap.q 0 J)) J ?_)
   rintro aL D4 ⟨⟨bf,bg⟩,aM,aN⟩
   refine WM.conv (S':=St w0 aL [] [D4,ob a]) (fun u hw=>hw.merge (js:=[1]) J (by simpa[gf,cO] using aM))<|WM.nil NQ<|att 6 [] J ?_
   exact lb [1,0] [] (av (_,_,_,_) ⟨h,aN⟩)
  refine att 7 [] J ?_
  exact lb [0,0] [] (ar (_,_,_,_) ⟨h,b⟩)
 refine xt J ?_
 refine WT.fin hF az.none (fun u hw=>?_)
 cases h
 refine aH (js:=[0,0]) hw J ⟨S,J,J,F⟩
theorem eH {A:Nat} {G:List Value} (w0:aD e f [ob a,g].flatten) (B:(List a7)) (i:Int) (q:Int) (u:Int) (H:a7→a7→Option (Int)) (W:OSl aO 63 3 f g a B) (ak:Fun prog A=true) (al:∀ {c:Hp} {w':World},FrH [ob a,g].flatten f c→In c w'→∀ (w:a7) (x:a7) {I:Value} {X:List Nat} {K:Value} {Y:List Nat} {M:Value} {Z:List Nat} {O:Value} {a1:List Nat} (_:RSl (RI .i64) 1 c X I w.Ids) (_:RSl aJ 4 c Y K w.Binds) (_:RSl (RI .i64) 1 c Z M x.Ids) (_:RSl aJ 4 c a1 O x.Binds) {r:Int},H w x=some r→Calls prog A (([.agg [iV w.Rule,I,K].toArray,.agg [iV x.Rule,M,O].toArray]:List Value)++G).toArray w' (lw (iV r) w')) {r:(List a7)} (h:bV N B i q u H=some r) :
  Calls prog 253 [a,iV i,iV q,iV u,.func (.func A) #[] G.toArray].toArray w0.w (bc f w0.w [ob a,g].flatten (fun c Fs v=>∃ (P:List Nat),v = .tuple #[]∧Fs=[ob a,P]∧OSl aO 63 3 c P a r)):=by
 refine eL func253 J ntmps253 J (L:=[ob a,g]) w0 (fun hF=>?_)
 unfold bV at h
 refine att 5 [] J ?_
 refine lin (σ:=Hp × (List a7) × List Nat × Int) (fun s=>[(0,a),(1,iV i),(2,iV q),(3,iV u),(10,iV s.2.2.2)]) (fun s=>St w0 s.1 [] [ob a,s.2.2.1]) (fun m s=>bB N i q u m s.2.1 s.2.2.2=some r∧(OSl aO 63 3 s.1 s.2.2.1 a s.2.1)) (f,B,g,0) N ⟨h,W⟩ (sx [0,0] []) (fun n1 aa s hm=>?_)
 obtain⟨ao,s1,C,s2⟩:=s
 obtain⟨h,b⟩:=hm
 dsimp only at h b ⊢
 unfold bB at h
 refine att 7 [] J ?_
 refine ch h J ?_ ?_ <;> intro h
 ·refine att 3 [] J<|WT.mix (fun _=>True) (fun _=>true) mixed (fun _ h=>h.drew)<|ma 0 J NQ (fun _ _=>trivial) J<|ma 1 J NQ (fun _ _=>trivial) J<|ma 2 J NQ (fun _ _=>trivial) J<|ma 3 J NQ (fun _ _=>trivial) J<|ma 4 J NQ (fun _ _=>trivial) J<|ma 5 J NQ (fun _ _=>trivial) J<|ma 6 J NQ (fun _ _=>trivial) J<|ma 7 J NQ (fun _ _=>trivial) J<|ma 8 J NQ (fun _ _=>trivial) J ?_
  refine ma 9 J NQ (fun _ _=>trivial) J<|ma 10 J NQ (fun _ _=>trivial) J<|ma 11 J NQ (fun _ _=>trivial) J ?_
  obtain⟨D,y,h⟩:=bs h
  obtain⟨aq,F1,-,g1,ar,au,r1⟩:=b.elS (a8 y).2.2
  obtain⟨v1,v2,rfl,rfl,h1,h2⟩:=r1
  have h3:=h1.rsl
  have h4:=h2.rsl
  refine mq 12 J NQ (fun _ _=>trivial) (an i9 J J b.rsl y) J<|ma 14 J NQ (fun _ _=>trivial) J<|ma 15 J NQ (fun _ _=>trivial) J<|ma 16 J NQ (fun _ _=>trivial) J<|ma 17 J NQ (fun _ _=>trivial) J ?_
  obtain⟨Q,z,h⟩:=bs h
  obtain⟨av,F2,-,g2,ax,R,r2⟩:=b.elS (a8 z).2.2
  obtain⟨v3,v4,rfl,rfl,h5,h6⟩:=r2
  have E:=h5.rsl
  have F:=h6.rsl
  refine mq 18 J NQ (fun _ _=>trivial) (an i9 J J b.rsl z) J ?_
  refine WM.qq2 13 19 J J (aw jQ J (fun d hw=>(g1.of_eq 0 3 J J:rg _ _ _ [iV D.Rule,v1,v2]).rangeAt hw.fro) J) (aw jQ J (fun d hw=>(g2.of_eq 0 3 J J:rg _ _ _ [iV Q.Rule,v3,v4]).rangeAt hw.fro) J) (aw jQ J (fun d hw=>(g2.of_eq 0 3 J J:rg _ _ _ [iV Q.Rule,v3,v4]).rangeAt hw.fro) J) (aw jQ J (fun d hw=>(g1.of_eq 0 3 J J:rg _ _ _ [iV D.Rule,v1,v2]).rangeAt hw.fro) J) J J (fun _ _=>trivial) J J NQ NQ NQ ?_
  obtain⟨x3,S,h⟩:=bs h
  obtain⟨ay,F3,-,g3,aA,aB,r3⟩:=b.elS (a8 S).2.2
  obtain⟨v5,v6,rfl,rfl,h9,ab⟩:=r3
  have aC:=h9.rsl
  have aF:=ab.rsl
  refine mq 20 J NQ (fun _ _=>trivial) (an i9 J J b.rsl S) J ?_
  refine WM.one 21 NQ (mu J (fun _ _ _ _ _ _=>trivial) (En (js:=[0]) (Rr:=[C]) (vs:=[iV D.Rule,v1,v2]) aO.lasts sJ J J J J ⟨J,h3.one,h4.one,trivial⟩ J b (a8 z).2.2 (a8 y).2.2 g2 J g1 (fun ap=>ap.q 0 J)) J ?_)
  rintro aG D2 ⟨⟨T,U⟩,V⟩
  replace E:=E.fr U (Dj.sub (T.q 0 J) (fun k h=>R k (gb.2 (.inl h))))
  replace F:=F.fr U (Dj.sub (T.q 0 J) (fun k h=>R k (gb.2 (.inr h))))
  obtain⟨x4,ae,h⟩:=bs h
  refine mq 22 J NQ (fun _ _=>trivial) (oz i9 J J V ae NS) J ?_
  refine WM.one 23 NQ (mu J (fun _ _ _ _ _ _=>trivial) (DS (js:=[0]) (Rr:=[C]) aO.lasts sJ J J J ⟨J,E.one,F.one,trivial⟩ J V (a8 z).2.2 (a8 y).2.2 (fun ap=>ap.q 0 J)) J ?_)
  rintro af D3 ⟨⟨aI,aK⟩,ag,ah⟩
  refine WM.conv (S':=St w0 af [] [D3,ob a]) (fun d hw=>hw.merge (js:=[1]) J (by simpa[gf,cO] using ag))<|WM.nil NQ<|att 6 [] J ?_
  exact lb [1,0] [] (aa (_,_,_,_) ⟨h,ah⟩)
 refine xt J ?_
 refine WT.fin hF az.none (fun d hw=>?_)
 cases h
 refine aH (js:=[0,0]) hw J ⟨C,J,J,b⟩
theorem oa {q:Nat} {y:List Value} (w0:aD e f [ob a,g].flatten) (z:(List a7)) (A:Int) (b:Int) (B:Int) (d:a7→a7→Option (Int)) (P:OSl aO 63 3 f g a z) (C:Fun prog q=true) (D:∀ {c:Hp} {w':World},FrH [ob a,g].flatten f c→In c w'→∀ (u:a7) (w:a7) {F:Value} {Q:List Nat} {G:Value} {S:List Nat} {H:Value} {T:List Nat} {I:Value} {U:List Nat} (_:RSl (RI .i64) 1 c Q F u.Ids) (_:RSl aJ 4 c S G u.Binds) (_:RSl (RI .i64) 1 c T H w.Ids) (_:RSl aJ 4 c U I w.Binds) {r:Int},d u w=some r→Calls prog q (([.agg [iV u.Rule,F,G].toArray,.agg [iV w.Rule,H,I].toArray]:List Value)++y).toArray w' (lw (iV r) w')) {r:(List a7)} (h:dt N z A b B d=some r) :
  Calls prog 225 [a,iV A,iV b,iV B,.func (.func q) #[] y.toArray].toArray w0.w (bc f w0.w [ob a,g].flatten (fun c Fs v=>∃ (K:List Nat),v = .tuple #[]∧Fs=[ob a,K]∧OSl aO 63 3 c K a r)):=by
 refine eL func225 J ntmps225 J (L:=[ob a,g]) w0 (fun V=>?_)
 unfold dt at h
 refine att 16 [] J ?_
 refine lin (σ:=Hp × (List a7) × List Nat × Int × Int) (fun s=>[(0,a),(2,iV b),(4,.func (.func q) #[] y.toArray),(10,iV s.2.2.2.1),(11,iV s.2.2.2.2)]) (fun s=>St w0 s.1 [] [ob a,s.2.2.1]) (fun m s=>bm N b d m s.2.1 s.2.2.2.1 s.2.2.2.2=some r∧(OSl aO 63 3 s.1 s.2.2.1 a s.2.1)) (f,z,g,wz (b - A),wz (B - b)) N ⟨h,P⟩ (sx [0,0] []) (fun n1 M s hm=>?_)
 obtain⟨a1,s1,D1,s2,O⟩:=s
 obtain⟨h,x⟩:=hm
 dsimp only at h x ⊢
 unfold bm at h
 refine att 7 [] J ?_
 refine ch h J ?_ ?_ <;> intro h
 ·refine att 8 [] J ?_
  refine ch h J ?_ ?_ <;> intro h
  ·refine atr 9 [] J ?_
   obtain⟨x1,W,h⟩:=bs h
   refine lc (bH (js:=[0,0]) (R:=[]) AY J J (fun E hw ap i=>eH N (bx hw ap i) s1 (wz (b - s2)) b O d x C (fun k=>D (hw.frX ap k))  W)) J ?_
   rintro v1 a8 F1 ⟨aa,ab,D2,rfl,rfl,h1⟩
   refine art 8 [] J ?_
   exact lb [0,0] [] (M (_,_,_,_,_) ⟨h,h1⟩)
  refine atr 13 [] J ?_
  obtain⟨x2,X,h⟩:=bs h
  refine lc (bH (js:=[0,0]) (R:=[]) AY J J (fun E hw ap i=>eH N (bx hw ap i) s1 (wz (b - s2)) (wz ((wz (b+O)) - s2)) s2 d x C (fun k=>D (hw.frX ap k))  X)) J ?_
  rintro v2 ae F2 ⟨af,ag,D3,rfl,rfl,Y⟩
  refine art 8 [] J ?_
  exact lb [0,0] [] (M (_,_,_,_,_) ⟨h,Y⟩)
 refine atr 9 [] J ?_
 obtain⟨x3,Z,h⟩:=bs h
 refine lc (bH (js:=[0,0]) (R:=[]) AY J J (fun E hw ap i=>eH N (bx hw ap i) s1 (wz (b - s2)) b s2 d x C (fun k=>D (hw.frX ap k))  Z)) J ?_
 rintro v3 ah F3 ⟨ak,al,D4,rfl,rfl,h3⟩
 refine en ?_
 refine WT.fin V az.none (fun E hw=>?_)
 cases h
 refine aH (js:=[0,0]) hw J ⟨D4,J,J,h3⟩
theorem iO (N:Nat):∀ {e f:Hp} {a:Value} {g:List Nat} {q:Nat} {w:List Value} (w0:aD e f [ob a,g].flatten) (z:(List a7)) (b:Int) (d:Int) (c:Int) (x:a7→a7→Option (Int)) (u:OSl aO 63 3 f g a z) (D:Fun prog q=true) (E:∀ {C:Hp} {w':World},FrH [ob a,g].flatten f C→In C w'→∀ (O:a7) (P:a7) {ak:Value} {b9:List Nat} {al:Value} {ba:List Nat} {ao:Value} {bb:List Nat} {aq:Value} {bd:List Nat} (_:RSl (RI .i64) 1 C b9 ak O.Ids) (_:RSl aJ 4 C ba al O.Binds) (_:RSl (RI .i64) 1 C bb ao P.Ids) (_:RSl aJ 4 C bd aq P.Binds) {r:Int},x O P=some r→Calls prog q (([.agg [iV O.Rule,ak,al].toArray,.agg [iV P.Rule,ao,aq].toArray]:List Value)++w).toArray w' (lw (iV r) w')) {r:(List a7)} (h:aA N z b d c x=some r),
  Calls prog 188 [a,iV b,iV d,iV c,.func (.func q) #[] w.toArray].toArray w0.w (bc f w0.w [ob a,g].flatten (fun C Fs v=>∃ (ar:List Nat),v = .tuple #[]∧Fs=[ob a,ar]∧OSl aO 63 3 C ar a r)):=by
 induction N with
 | zero=>intros;rename_i h;simp[aA] at h
 | succ N ih=>
 intro e f a g q w w0 z b d c x u D E r h
 refine eL func188 J ntmps188 J (L:=[ob a,g]) w0 (fun Q=>?_)
 unfold aA at h
 refine att 8 [] J ?_
 refine ch h J ?_ ?_ <;> intro h
 ·refine att 12 [] J ?_
  refine lin (σ:=Int × Int) (fun s=>[(0,a),(1,iV b),(4,.func (.func q) #[] w.toArray),(10,iV s.1),(11,iV s.2)]) (fun s=>St w0 f [] [ob a,g]) (fun m s=>bo N z b x m s.1 s.2=some r) (d,c) N h (sx [0,0] []) (fun n1 au s hm=>?_)
  obtain⟨s1,s2⟩:=s
  have h:bo N z b x (n1+1) s1 s2=some r:=hm
  show WT _ _ [(0,a),(1,iV b),(4,.func (.func q) #[] w.toArray),(10,iV s1),(11,iV s2)] (St w0 f [] [ob a,g])
  unfold bo at h
  refine att 7 [] J ?_
  refine ch h J ?_ ?_ <;> intro h
  ·refine atr 7 [] J<|lq (nA zm sk J) J<|lq (A4 J J (by decide)) J<|lq (nA sk zm J) J<|art 3 [] J<|WT.draw mixed NQ (fun _ h=>h.drew)<|aqq 3 [] J ?_
   obtain⟨x1,av,h⟩:=bs h
   obtain⟨cq,F1,-,g1,cr,cv,r1⟩:=u.elS (a8 av).2.2
   obtain⟨v1,v2,rfl,rfl,h1,h2⟩:=r1
   have h3:=h1.rsl
   have h4:=h2.rsl
   refine qq (an i9 J J u.rsl av) J<|qq (aw jQ J (fun i hw=>(g1.of_eq 0 3 J J:rg _ _ _ [iV x1.Rule,v1,v2]).rangeAt hw.fro) J) J<|aqq 2 [] J ?_
   obtain⟨x2,ax,h⟩:=bs h
   obtain⟨cx,F2,-,g2,cy,cA,r2⟩:=u.elS (a8 ax).2.2
   obtain⟨v3,v4,rfl,rfl,h5,h6⟩:=r2
   have h7:=h5.rsl
   have h8:=h6.rsl
   refine qq (an i9 J J u.rsl ax) J<|qq (aw jQ J (fun i hw=>(g2.of_eq 0 3 J J:rg _ _ _ [iV x2.Rule,v3,v4]).rangeAt hw.fro) J) J ?_
   obtain⟨x3,be,h⟩:=bs h
   refine qp (kK D J J (fun i hw=>E hw.frB hw.fro x1 x2 h3 h4 h7 h8 be)) J<|aqt 2 [] J ?_
   refine ch h J ?_ ?_ <;> intro h
   ·refine att 6 [] J ?_
    exact lb [0,0] [] (au (_,_) h)
   refine att 5 [] J ?_
   exact lb [0,0] [] (au (_,_) h)
  refine att 8 [] J ?_
  refine lin (σ:=Hp × (List a7) × List Nat × Int) (fun s=>[(0,a),(10,iV s1),(13,iV s.2.2.2)]) (fun s=>St w0 s.1 [] [ob a,s.2.2.1]) (fun m s=>cu N s1 m s.2.1 s.2.2.2=some r∧(OSl aO 63 3 s.1 s.2.2.1 a s.2.1)) (f,z,g,b) N ⟨h,u⟩ (sx [0,0] []) (fun n2 bf s hm=>?_)
  obtain⟨cB,s3,X,s4⟩:=s
  obtain⟨h,A⟩:=hm
  dsimp only at h A ⊢
  unfold cu at h
  refine att 8 [] J ?_
  refine ch h J ?_ ?_ <;> intro h
  ·refine att 3 [] J<|WT.mix (fun _=>True) (fun _=>true) mixed (fun _ h=>h.drew)<|ma 0 J NQ (fun _ _=>trivial) J<|ma 1 J NQ (fun _ _=>trivial) J<|ma 2 J NQ (fun _ _=>trivial) J<|ma 3 J NQ (fun _ _=>trivial) J<|ma 4 J NQ (fun _ _=>trivial) J<|ma 5 J NQ (fun _ _=>trivial) J<|ma 6 J NQ (fun _ _=>trivial) J<|ma 7 J NQ (fun _ _=>trivial) J ?_
   obtain⟨Y,S,h⟩:=bs h
   obtain⟨cC,F3,-,g3,cD,cE,r3⟩:=A.elS (a8 S).2.2
   obtain⟨v5,v6,rfl,rfl,h9,bg⟩:=r3
   have bh:=h9.rsl
   have bj:=bg.rsl
   refine mq 8 J NQ (fun _ _=>trivial) (an i9 J J A.rsl S) J<|ma 10 J NQ (fun _ _=>trivial) J<|ma 11 J NQ (fun _ _=>trivial) J ?_
   obtain⟨x5,T,h⟩:=bs h
   obtain⟨cF,F4,-,g4,cG,ay,r4⟩:=A.elS (a8 T).2.2
   obtain⟨v7,v8,rfl,rfl,bk,bl⟩:=r4
   have Z:=bk.rsl
   have a1:=bl.rsl
   refine mq 12 J NQ (fun _ _=>trivial) (an i9 J J A.rsl T) J ?_
   refine WM.qq2 9 13 J J (aw jQ J (fun i hw=>(g3.of_eq 0 3 J J:rg _ _ _ [iV Y.Rule,v5,v6]).rangeAt hw.fro) J) (aw jQ J (fun i hw=>(g4.of_eq 0 3 J J:rg _ _ _ [iV x5.Rule,v7,v8]).rangeAt hw.fro) J) (aw jQ J (fun i hw=>(g4.of_eq 0 3 J J:rg _ _ _ [iV x5.Rule,v7,v8]).rangeAt hw.fro) J) (aw jQ J (fun i hw=>(g3.of_eq 0 3 J J:rg _ _ _ [iV Y.Rule,v5,v6]).rangeAt hw.fro) J) J J (fun _ _=>trivial) J J NQ NQ NQ ?_
   obtain⟨x6,aB,h⟩:=bs h
   obtain⟨cH,F5,-,g5,cI,cJ,r5⟩:=A.elS (a8 aB).2.2
   obtain⟨v9,v10,rfl,rfl,bm,bn⟩:=r5
   have cK:=bm.rsl
   have cL:=bn.rsl
   refine mq 14 J NQ (fun _ _=>trivial) (an i9 J J A.rsl aB) J ?_
   refine WM.one 15 NQ (mu J (fun _ _ _ _ _ _=>trivial) (En (js:=[0]) (Rr:=[X]) (vs:=[iV Y.Rule,v5,v6]) aO.lasts sJ J J J J ⟨J,bh.one,bj.one,trivial⟩ J A (a8 T).2.2 (a8 S).2.2 g4 J g3 (fun ap=>ap.q 0 J)) J ?_)
   rintro cM D2 ⟨⟨aC,aF⟩,aG⟩
   replace Z:=Z.fr aF (Dj.sub (aC.q 0 J) (fun k h=>ay k (gb.2 (.inl h))))
   replace a1:=a1.fr aF (Dj.sub (aC.q 0 J) (fun k h=>ay k (gb.2 (.inr h))))
   obtain⟨x7,br,h⟩:=bs h
   refine mq 16 J NQ (fun _ _=>trivial) (oz i9 J J aG br NS) J ?_
   refine WM.one 17 NQ (mu J (fun _ _ _ _ _ _=>trivial) (DS (js:=[0]) (Rr:=[X]) aO.lasts sJ J J J ⟨J,Z.one,a1.one,trivial⟩ J aG (a8 T).2.2 (a8 S).2.2 (fun ap=>ap.q 0 J)) J ?_)
   rintro bt D3 ⟨⟨cN,cP⟩,bu,bw⟩
   refine WM.conv (S':=St w0 bt [] [D3,ob a]) (fun i hw=>hw.merge (js:=[1]) J (by simpa[gf,cO] using bu))<|WM.nil NQ<|att 6 [] J ?_
   exact lb [1,0] [] (bf (_,_,_,_) ⟨h,bw⟩)
  refine xt J ?_
  exact rtg [0,0] Q az.none J (by cases h;exact fun i hw=>⟨X,rfl,rfl,A⟩)
 refine att 9 [] J ?_
 refine ch h J ?_ ?_ <;> intro h
 ·refine att 12 [] J ?_
  refine lin (σ:=Int × Int) (fun s=>[(0,a),(2,iV d),(4,.func (.func q) #[] w.toArray),(14,iV s.1),(15,iV s.2)]) (fun s=>St w0 f [] [ob a,g]) (fun m s=>bp N z d x m s.1 s.2=some r) (b,d) N h (sx [0,0] []) (fun n3 aI s hm=>?_)
  obtain⟨U,s6⟩:=s
  have h:bp N z d x (n3+1) U s6=some r:=hm
  show WT _ _ [(0,a),(2,iV d),(4,.func (.func q) #[] w.toArray),(14,iV U),(15,iV s6)] (St w0 f [] [ob a,g])
  unfold bp at h
  refine att 7 [] J ?_
  refine ch h J ?_ ?_ <;> intro h
  ·refine atr 7 [] J<|lq (nA zm sk J) J<|lq (A4 J J (by decide)) J<|lq (nA sk zm J) J<|art 3 [] J<|WT.draw mixed NQ (fun _ h=>h.drew)<|aqq 3 [] J ?_
   obtain⟨x8,aK,h⟩:=bs h
   obtain⟨cQ,F6,-,g6,cR,cS,r6⟩:=u.elS (a8 aK).2.2
   obtain⟨v11,v12,rfl,rfl,bz,bA⟩:=r6
   have bB:=bz.rsl
   have bC:=bA.rsl
   refine qq (an i9 J J u.rsl aK) J<|qq (aw jQ J (fun i hw=>(g6.of_eq 0 3 J J:rg _ _ _ [iV x8.Rule,v11,v12]).rangeAt hw.fro) J) J<|aqq 2 [] J ?_
   obtain⟨x9,aL,h⟩:=bs h
   obtain⟨cT,F7,-,g7,cU,cV,r7⟩:=u.elS (a8 aL).2.2
   obtain⟨bD,bE,rfl,rfl,bF,bG⟩:=r7
   have bJ:=bF.rsl
   have bK:=bG.rsl
   refine qq (an i9 J J u.rsl aL) J<|qq (aw jQ J (fun i hw=>(g7.of_eq 0 3 J J:rg _ _ _ [iV x9.Rule,bD,bE]).rangeAt hw.fro) J) J ?_
   obtain⟨cW,bL,h⟩:=bs h
   refine qp (kK D J J (fun i hw=>E hw.frB hw.fro x8 x9 bB bC bJ bK bL)) J<|aqt 3 [] J ?_
   refine ch h J ?_ ?_ <;> intro h
   ·refine att 6 [] J ?_
    exact lb [0,0] [] (aI (_,_) h)
   refine att 5 [] J ?_
   exact lb [0,0] [] (aI (_,_) h)
  refine att 8 [] J ?_
  refine lin (σ:=Hp × (List a7) × List Nat × Int) (fun s=>[(0,a),(14,iV U),(17,iV s.2.2.2)]) (fun s=>St w0 s.1 [] [ob a,s.2.2.1]) (fun m s=>cw N U m s.2.1 s.2.2.2=some r∧(OSl aO 63 3 s.1 s.2.2.1 a s.2.1)) (f,z,g,d) N ⟨h,u⟩ (sx [0,0] []) (fun n4 bM s hm=>?_)
  obtain⟨cX,s7,D4,s8⟩:=s
  obtain⟨h,B⟩:=hm
  dsimp only at h B ⊢
  unfold cw at h
  refine att 7 [] J ?_
  refine ch h J ?_ ?_ <;> intro h
  ·refine att 3 [] J<|WT.mix (fun _=>True) (fun _=>true) mixed (fun _ h=>h.drew)<|ma 0 J NQ (fun _ _=>trivial) J<|ma 1 J NQ (fun _ _=>trivial) J<|ma 2 J NQ (fun _ _=>trivial) J<|ma 3 J NQ (fun _ _=>trivial) J<|ma 4 J NQ (fun _ _=>trivial) J<|ma 5 J NQ (fun _ _=>trivial) J<|ma 6 J NQ (fun _ _=>trivial) J<|ma 7 J NQ (fun _ _=>trivial) J ?_
   obtain⟨aa,V,h⟩:=bs h
   obtain⟨cY,F8,-,g8,cZ,da,r8⟩:=B.elS (a8 V).2.2
   obtain⟨ab,ae,rfl,rfl,bN,bO⟩:=r8
   have bP:=bN.rsl
   have bQ:=bO.rsl
   refine mq 8 J NQ (fun _ _=>trivial) (an i9 J J B.rsl V) J<|ma 10 J NQ (fun _ _=>trivial) J<|ma 11 J NQ (fun _ _=>trivial) J ?_
   obtain⟨aM,W,h⟩:=bs h
   obtain⟨db,F9,-,g9,dc,aN,r9⟩:=B.elS (a8 W).2.2
   obtain⟨v17,aP,rfl,rfl,bR,bS⟩:=r9
   have af:=bR.rsl
   have ag:=bS.rsl
   refine mq 12 J NQ (fun _ _=>trivial) (an i9 J J B.rsl W) J ?_
   refine WM.qq2 9 13 J J (aw jQ J (fun i hw=>(g8.of_eq 0 3 J J:rg _ _ _ [iV aa.Rule,ab,ae]).rangeAt hw.fro) J) (aw jQ J (fun i hw=>(g9.of_eq 0 3 J J:rg _ _ _ [iV aM.Rule,v17,aP]).rangeAt hw.fro) J) (aw jQ J (fun i hw=>(g9.of_eq 0 3 J J:rg _ _ _ [iV aM.Rule,v17,aP]).rangeAt hw.fro) J) (aw jQ J (fun i hw=>(g8.of_eq 0 3 J J:rg _ _ _ [iV aa.Rule,ab,ae]).rangeAt hw.fro) J) J J (fun _ _=>trivial) J J NQ NQ NQ ?_
   obtain⟨dd,aQ,h⟩:=bs h
   obtain⟨de,df,-,g10,dg,dh,bT⟩:=B.elS (a8 aQ).2.2
   obtain⟨di,v20,rfl,rfl,bU,bV⟩:=bT
   have dj:=bU.rsl
   have dk:=bV.rsl
   refine mq 14 J NQ (fun _ _=>trivial) (an i9 J J B.rsl aQ) J ?_
   refine WM.one 15 NQ (mu J (fun _ _ _ _ _ _=>trivial) (En (js:=[0]) (Rr:=[D4]) (vs:=[iV aa.Rule,ab,ae]) aO.lasts sJ J J J J ⟨J,bP.one,bQ.one,trivial⟩ J B (a8 W).2.2 (a8 V).2.2 g9 J g8 (fun ap=>ap.q 0 J)) J ?_)
   rintro dm D5 ⟨⟨aR,aS⟩,aT⟩
   replace af:=af.fr aS (Dj.sub (aR.q 0 J) (fun k h=>aN k (gb.2 (.inl h))))
   replace ag:=ag.fr aS (Dj.sub (aR.q 0 J) (fun k h=>aN k (gb.2 (.inr h))))
   obtain⟨dn,bW,h⟩:=bs h
   refine mq 16 J NQ (fun _ _=>trivial) (oz i9 J J aT bW NS) J ?_
   refine WM.one 17 NQ (mu J (fun _ _ _ _ _ _=>trivial) (DS (js:=[0]) (Rr:=[D4]) aO.lasts sJ J J J ⟨J,af.one,ag.one,trivial⟩ J aT (a8 W).2.2 (a8 V).2.2 (fun ap=>ap.q 0 J)) J ?_)
   rintro bX D6 ⟨⟨dp,dq⟩,bY,bZ⟩
   refine WM.conv (S':=St w0 bX [] [D6,ob a]) (fun i hw=>hw.merge (js:=[1]) J (by simpa[gf,cO] using bY))<|WM.nil NQ<|att 6 [] J ?_
   exact lb [1,0] [] (bM (_,_,_,_) ⟨h,bZ⟩)
  refine xt J ?_
  exact rtg [0,0] Q az.none J (by cases h;exact fun i hw=>⟨D4,rfl,rfl,B⟩)
 refine atr 6 [] J<|lq (nA zm sk J) J<|lq (A4 J J (by decide)) J<|lq (nA sk zm J) J<|art 21 [] J ?_
 refine cut (σ:=Int × Int) (fun s=>[(0,a),(1,iV b),(2,iV d),(3,iV c),(4,.func (.func q) #[] w.toArray),(18,iV (wz (fc .u64 (IntKind.u64.wrap (wz (b+c))) 1))),(19,iV (wz ((wz (fc .u64 (IntKind.u64.wrap (wz (b+c))) 1))+d))),(20,iV s.1),(21,iV s.2)]) (fun s=>St w0 f [] [ob a,g]) (fun s=>bI N z b d c x (aA N) s.1 s.2=some r) (fun s hm=>?_) (fun K=>?_)
 ·clear h
  obtain⟨s9,ah⟩:=s
  have h:bI N z b d c x (aA N) s9 ah=some r:=hm
  show WT _ _ [(0,a),(1,iV b),(2,iV d),(3,iV c),(4,.func (.func q) #[] w.toArray),(18,iV (wz (fc .u64 (IntKind.u64.wrap (wz (b+c))) 1))),(19,iV (wz ((wz (fc .u64 (IntKind.u64.wrap (wz (b+c))) 1))+d))),(20,iV s9),(21,iV ah)] (St w0 f [] [ob a,g])
  unfold bI at h
  refine att 8 [] J ?_
  refine lin (σ:=Int × Int) (fun s=>[(0,a),(1,iV b),(2,iV d),(3,iV c),(4,.func (.func q) #[] w.toArray),(18,iV (wz (fc .u64 (IntKind.u64.wrap (wz (b+c))) 1))),(19,iV (wz ((wz (fc .u64 (IntKind.u64.wrap (wz (b+c))) 1))+d))),(20,iV s.1),(21,iV s.2),(22,iV (wz ((wz ((wz (fc .u64 (IntKind.u64.wrap (wz (b+c))) 1))+d)) - 1)))]) (fun s=>St w0 f [] [ob a,g]) (fun m s=>bq N z b d c x (aA N) m s.1 s.2=some r) (s9,ah) N h (sx [0,0] []) (fun n6 aU s hm=>?_)
  obtain⟨y,aV⟩:=s
  have h:bq N z b d c x (aA N) (n6+1) y aV=some r:=hm
  show WT _ _ [(0,a),(1,iV b),(2,iV d),(3,iV c),(4,.func (.func q) #[] w.toArray),(18,iV (wz (fc .u64 (IntKind.u64.wrap (wz (b+c))) 1))),(19,iV (wz ((wz (fc .u64 (IntKind.u64.wrap (wz (b+c))) 1))+d))),(20,iV y),(21,iV aV),(22,iV (wz ((wz ((wz (fc .u64 (IntKind.u64.wrap (wz (b+c))) 1))+d)) - 1)))] (St w0 f [] [ob a,g])
  unfold bq at h
  refine att 7 [] J ?_
  refine ch h J ?_ ?_ <;> intro h
  ·refine atr 7 [] J<|lq (nA zm sk J) J<|lq (A4 J J (by decide)) J<|lq (nA sk zm J) J<|art 3 [] J<|WT.draw mixed NQ (fun _ h=>h.drew)<|aqq 5 [] J ?_
   obtain⟨aW,aX,h⟩:=bs h
   obtain⟨dr,ds,-,g11,dt,du,c0⟩:=u.elS (a8 aX).2.2
   obtain⟨v21,v22,rfl,rfl,c3,c4⟩:=c0
   have c5:=c3.rsl
   have c6:=c4.rsl
   refine qq (an i9 J J u.rsl aX) J<|qq (aw jQ J (fun i hw=>(g11.of_eq 0 3 J J:rg _ _ _ [iV aW.Rule,v21,v22]).rangeAt hw.fro) J) J<|aqq 2 [] J ?_
   obtain⟨aY,aZ,h⟩:=bs h
   obtain⟨dv,dw,-,g12,dx,dy,c7⟩:=u.elS (a8 aZ).2.2
   obtain⟨v23,v24,rfl,rfl,c8,c9⟩:=c7
   have ca:=c8.rsl
   have cb:=c9.rsl
   refine qq (an i9 J J u.rsl aZ) J<|qq (aw jQ J (fun i hw=>(g12.of_eq 0 3 J J:rg _ _ _ [iV aY.Rule,v23,v24]).rangeAt hw.fro) J) J ?_
   obtain⟨dz,cc,h⟩:=bs h
   refine qp (kK D J J (fun i hw=>E hw.frB hw.fro aW aY c5 c6 ca cb cc)) J<|aqt 3 [] J ?_
   refine ch h J ?_ ?_ <;> intro h
   ·refine att 6 [] J ?_
    exact lb [0,0] [] (aU (_,_) h)
   refine att 5 [] J ?_
   exact lb [0,0] [] (aU (_,_) h)
  refine atr 15 [] J ?_
  obtain⟨b1,F,h⟩:=bs h
  refine WL.cutN 4 [(185,.bool b1),(0,a),(1,iV b),(2,iV d),(3,iV c),(4,.func (.func q) #[] w.toArray),(18,iV (wz (fc .u64 (IntKind.u64.wrap (wz (b+c))) 1))),(20,iV y),(24,iV (wz ((wz ((wz (fc .u64 (IntKind.u64.wrap (wz (b+c))) 1))+d)) - y)))] ?_ (fun K=>?_)
  rotate_left
  ·refine sp 181 F J (fun F=>?_) fun F=>?_
   ·refine arr 4 [] J ?_
    cases F
    exact ku K
   ·refine arr 4 [] J ?_
    cases F
    exact ku K
  refine en ?_
  refine cut (σ:=Hp × (List a7) × List Nat) (fun s=>[(0,a),(1,iV b),(3,iV c),(4,.func (.func q) #[] w.toArray),(18,iV (wz (fc .u64 (IntKind.u64.wrap (wz (b+c))) 1))),(20,iV y),(24,iV (wz ((wz ((wz (fc .u64 (IntKind.u64.wrap (wz (b+c))) 1))+d)) - y)))]) (fun s=>St w0 s.1 [] [ob a,s.2.2]) (fun s=>cz N b d c x (aA N) y s.2.1=some r∧(OSl aO 63 3 s.1 s.2.2 a s.2.1)) (fun s hm=>?_) (fun K=>?_)
  ·clear h
   obtain⟨dA,cd,D7⟩:=s
   obtain⟨h,k3⟩:=hm
   dsimp only at h k3 ⊢
   unfold cz at h
   refine atr 7 [] J ?_
   obtain⟨b2,G,h⟩:=bs h
   refine WL.cutN 4 [(199,.bool b2),(0,a),(1,iV b),(3,iV c),(4,.func (.func q) #[] w.toArray),(18,iV (wz (fc .u64 (IntKind.u64.wrap (wz (b+c))) 1))),(20,iV y),(24,iV (wz ((wz ((wz (fc .u64 (IntKind.u64.wrap (wz (b+c))) 1))+d)) - y)))] ?_ (fun K=>?_)
   rotate_left
   ·refine sp 195 G J (fun G=>?_) fun G=>?_
    ·refine arr 4 [] J ?_
     cases G
     exact ku K
    ·refine arr 4 [] J ?_
     cases G
     exact ku K
   refine en ?_
   refine cut (σ:=Hp × (List a7) × List Nat) (fun s=>[(0,a),(3,iV c),(4,.func (.func q) #[] w.toArray),(18,iV (wz (fc .u64 (IntKind.u64.wrap (wz (b+c))) 1))),(24,iV (wz ((wz ((wz (fc .u64 (IntKind.u64.wrap (wz (b+c))) 1))+d)) - y)))]) (fun s=>St w0 s.1 [] [ob a,s.2.2]) (fun s=>ct N b d c x (aA N) y s.2.1=some r∧(OSl aO 63 3 s.1 s.2.2 a s.2.1)) (fun s hm=>?_) (fun K=>?_)
   ·clear h
    obtain⟨dB,cf,D8⟩:=s
    obtain⟨h,k4⟩:=hm
    dsimp only at h k4 ⊢
    unfold ct at h
    refine atr 6 [] J ?_
    obtain⟨b3,H,h⟩:=bs h
    refine WL.cutN 4 [(213,.bool b3),(0,a),(3,iV c),(4,.func (.func q) #[] w.toArray),(18,iV (wz (fc .u64 (IntKind.u64.wrap (wz (b+c))) 1))),(24,iV (wz ((wz ((wz (fc .u64 (IntKind.u64.wrap (wz (b+c))) 1))+d)) - y)))] ?_ (fun K=>?_)
    rotate_left
    ·refine sp 209 H J (fun H=>?_) fun H=>?_
     ·refine arr 4 [] J ?_
      cases H
      exact ku K
     ·refine arr 4 [] J ?_
      cases H
      exact ku K
    refine en ?_
    refine ch h J ?_ ?_ <;> intro h
    ·refine atr 6 [] J ?_
     obtain⟨dC,cg,h⟩:=bs h
     refine lc (bH (js:=[0,0]) (R:=[]) xu J J (fun i hw ap I=>ih (bx hw ap I) cf (wz (fc .u64 (IntKind.u64.wrap (wz (b+c))) 1)) (wz ((wz ((wz (fc .u64 (IntKind.u64.wrap (wz (b+c))) 1))+d)) - y)) c x k4 D (fun M=>E (hw.frX ap M))  cg)) J ?_
     rintro v25 dD dE ⟨dF,dG,D9,rfl,rfl,cj⟩
     refine en ?_
     refine WT.fin Q az.none (fun i hw=>?_)
     cases h
     refine aH (js:=[0,0]) hw J ⟨D9,J,J,cj⟩
    refine WT.skip ?_
    refine WT.fin Q az.none (fun i hw=>?_)
    cases h
    refine aH (js:=[0,0]) hw J ⟨D8,J,J,k4⟩
   refine ch h J ?_ ?_ <;> intro h
   ·refine atr 6 [] J ?_
    obtain⟨dH,ck,h⟩:=bs h
    refine lc (bH (js:=[0,0]) (R:=[]) xu J J (fun i hw ap I=>ih (bx hw ap I) cd b y (wz (fc .u64 (IntKind.u64.wrap (wz (b+c))) 1)) x k3 D (fun M=>E (hw.frX ap M))  ck)) J ?_
    rintro v26 dI dJ ⟨dK,dL,dM,rfl,rfl,cm⟩
    refine en ?_
    exact wo [0,0] [] (K (_,_,_) ⟨h,cm⟩)
   refine WT.skip ?_
   exact wo [0,0] [] (K (_,_,_) ⟨h,k3⟩)
  refine ch h J ?_ ?_ <;> intro h
  ·refine atr 6 [] J ?_
   obtain⟨dN,cn,h⟩:=bs h
   refine lc (bH (js:=[0,0]) (R:=[]) IB J J (fun i hw ap I=>oa N (bx hw ap I) z y d (wz ((wz ((wz (fc .u64 (IntKind.u64.wrap (wz (b+c))) 1))+d)) - y)) x u D (fun M=>E (hw.frX ap M))  cn)) J ?_
   rintro dO dP dQ ⟨dR,dS,dT,rfl,rfl,cp⟩
   refine en ?_
   exact wo [0,0] [] (K (_,_,_) ⟨h,cp⟩)
  refine WT.skip ?_
  exact wo [0,0] [] (K (_,_,_) ⟨h,u⟩)
 refine ch h J ?_ ?_ <;> intro h
 ·refine att 11 [] J ?_
  exact wo [0,0] [] (K (_,_) h)
 refine att 9 [] J ?_
 exact wo [0,0] [] (K (_,_) h)
theorem nL {q:Nat} {u:List Value} (w0:aD e f [ob a,g].flatten) (E:(List a7)) (b:Int) (c:a7→a7→Option (Int)) (T:OSl aO 63 3 f g a E) (x:Fun prog q=true) (y:∀ {d:Hp} {w':World},FrH [ob a,g].flatten f d→In d w'→∀ (z:a7) (A:a7) {H:Value} {U:List Nat} {I:Value} {V:List Nat} {K:Value} {W:List Nat} {M:Value} {X:List Nat} (_:RSl (RI .i64) 1 d U H z.Ids) (_:RSl aJ 4 d V I z.Binds) (_:RSl (RI .i64) 1 d W K A.Ids) (_:RSl aJ 4 d X M A.Binds) {r:Int},c z A=some r→Calls prog q (([.agg [iV z.Rule,H,I].toArray,.agg [iV A.Rule,K,M].toArray]:List Value)++u).toArray w' (lw (iV r) w')) {r:(List a7)} (h:eR N E b c=some r) :
  Calls prog 118 [a,iV b,.func (.func q) #[] u.toArray].toArray w0.w (bc f w0.w [ob a,g].flatten (fun d Fs v=>∃ (O:List Nat),v = .tuple #[]∧Fs=[ob a,O]∧OSl aO 63 3 d O a r)):=by
 refine eL func118 J ntmps118 J (L:=[ob a,g]) w0 (fun Y=>?_)
 unfold eR at h
 refine att 12 [] J ?_
 refine lin (σ:=Hp × (List a7) × List Nat × Int × Int) (fun s=>[(0,a),(1,iV b),(2,.func (.func q) #[] u.toArray),(6,iV 20),(7,iV s.2.2.2.1),(8,iV s.2.2.2.2)]) (fun s=>St w0 s.1 [] [ob a,s.2.2.1]) (fun m s=>bW N b c m s.2.1 s.2.2.2.1 s.2.2.2.2=some r∧(OSl aO 63 3 s.1 s.2.2.1 a s.2.1)) (f,E,g,0,20) N ⟨h,T⟩ (sx [0,0] []) (fun n1 Z s hm=>?_)
 obtain⟨ah,s1,D1,s2,s3⟩:=s
 obtain⟨h,F⟩:=hm
 dsimp only at h F ⊢
 unfold bW at h
 refine att 7 [] J ?_
 refine ch h J ?_ ?_ <;> intro h
 ·refine atr 8 [] J ?_
  obtain⟨x1,a1,h⟩:=bs h
  refine lc (bH (js:=[0,0]) (R:=[]) Es J J (fun B hw ap i=>gv N (bx hw ap i) s1 s2 s3 c F x (fun k=>y (hw.frX ap k))  a1)) J ?_
  rintro v1 ak F1 ⟨al,an,D2,rfl,rfl,h1⟩
  refine art 13 [] J ?_
  exact lb [0,0] [] (Z (_,_,_,_,_) ⟨h,h1⟩)
 refine atr 7 [] J ?_
 obtain⟨x2,a8,h⟩:=bs h
 refine lc (bH (js:=[0,0]) (R:=[]) Es J J (fun B hw ap i=>gv N (bx hw ap i) s1 s2 b c F x (fun k=>y (hw.frX ap k))  a8)) J ?_
 rintro v2 aa F2 ⟨ao,aq,D3,rfl,rfl,h2⟩
 refine en<|blk ?_
 refine lin (σ:=Hp × (List a7) × List Nat × Int) (fun s=>[(0,a),(1,iV b),(2,.func (.func q) #[] u.toArray),(6,iV s.2.2.2)]) (fun s=>St w0 s.1 [] [ob a,s.2.2.1]) (fun m s=>bn N b c m s.2.1 s.2.2.2=some r∧(OSl aO 63 3 s.1 s.2.2.1 a s.2.1)) (aa,x2,D3,20) N ⟨h,h2⟩ (sx [0,0] []) (fun n2 P s hm=>?_)
 obtain⟨ab,s4,Q,w⟩:=s
 obtain⟨h,G⟩:=hm
 dsimp only at h G ⊢
 unfold bn at h
 refine att 7 [] J ?_
 refine ch h J ?_ ?_ <;> intro h
 ·refine att 11 [] J ?_
  refine lin (σ:=Hp × (List a7) × List Nat × Int × Int) (fun s=>[(0,a),(1,iV b),(2,.func (.func q) #[] u.toArray),(6,iV w),(7,iV s.2.2.2.1),(8,iV s.2.2.2.2)]) (fun s=>St w0 s.1 [] [ob a,s.2.2.1]) (fun m s=>cF N b c w (bn N b c n2) m s.2.1 s.2.2.2.1 s.2.2.2.2=some r∧(OSl aO 63 3 s.1 s.2.2.1 a s.2.1)) (ab,s4,Q,0,wz (2*w)) N ⟨h,G⟩ (sx [0,0] []) (fun n3 ae s hm=>?_)
  obtain⟨ar,S,D5,C,s8⟩:=s
  obtain⟨h,D⟩:=hm
  dsimp only at h D ⊢
  unfold cF at h
  refine att 7 [] J ?_
  refine ch h J ?_ ?_ <;> intro h
  ·refine atr 11 [] J ?_
   obtain⟨x3,af,h⟩:=bs h
   refine lc (bH (js:=[0,0]) (R:=[]) xu J J (fun B hw ap i=>iO N (bx hw ap i) S C (wz (C+w)) s8 c D x (fun k=>y (hw.frX ap k))  af)) J ?_
   rintro v3 au F3 ⟨av,aw,D6,rfl,rfl,h3⟩
   refine art 14 [] J ?_
   exact lb [0,0] [] (ae (_,_,_,_,_) ⟨h,h3⟩)
  refine att 15 [] J ?_
  refine ch h J ?_ ?_ <;> intro h
  ·refine atr 6 [] J ?_
   obtain⟨x4,ag,h⟩:=bs h
   refine lc (bH (js:=[0,0]) (R:=[]) xu J J (fun B hw ap i=>iO N (bx hw ap i) S C (wz (C+w)) b c D x (fun k=>y (hw.frX ap k))  ag)) J ?_
   rintro v4 ax F4 ⟨ay,aA,D7,rfl,rfl,h4⟩
   refine art 7 [] J ?_
   exact lb [0,0] [] (P (_,_,_,_) ⟨h,h4⟩)
  refine att 7 [] J ?_
  exact lb [0,0] [] (P (_,_,_,_) ⟨h,D⟩)
 refine xt J ?_
 refine WT.fin Y az.none (fun B hw=>?_)
 cases h
 refine aH (js:=[0,0]) hw J ⟨Q,J,J,G⟩
theorem jS {k:Nat} {q:List Value} (w0:aD e f [ob a,g].flatten) (c:(List a7)) (m:a7→a7→Option (Int)) (s:OSl aO 63 3 f g a c) (A:Fun prog k=true) (B:∀ {b:Hp} {w':World},FrH [ob a,g].flatten f b→In b w'→∀ (d:a7) (i:a7) {u:Value} {C:List Nat} {w:Value} {D:List Nat} {x:Value} {E:List Nat} {y:Value} {F:List Nat} (_:RSl (RI .i64) 1 b C u d.Ids) (_:RSl aJ 4 b D w d.Binds) (_:RSl (RI .i64) 1 b E x i.Ids) (_:RSl aJ 4 b F y i.Binds) {r:Int},m d i=some r→Calls prog k (([.agg [iV d.Rule,u,w].toArray,.agg [iV i.Rule,x,y].toArray]:List Value)++q).toArray w' (lw (iV r) w')) {r:(List a7)} (h:cr N c m=some r) :
  Calls prog 57 [a,.func (.func k) #[] q.toArray].toArray w0.w (bc f w0.w [ob a,g].flatten (fun b Fs v=>∃ (z:List Nat),v = .tuple #[]∧Fs=[ob a,z]∧OSl aO 63 3 b z a r)):=by
 refine eL func57 J ntmps57 J (L:=[ob a,g]) w0 (fun G=>?_)
 unfold cr at h
 refine atr 3 [] J<|lno s J<|la J ?_
 obtain⟨P,H,h⟩:=bs h
 refine lc (bH (js:=[0,0]) (R:=[]) Jo J J (fun I hw ap K=>nL N (bx hw ap K) c (c.length:Int) m s A (fun M=>B (hw.frX ap M))  H)) J ?_
 rintro v1 Q S ⟨T,U,O,rfl,rfl,h1⟩
 refine en ?_
 refine WT.fin G az.none (fun I hw=>?_)
 cases h
 refine aH (js:=[0,0]) hw J ⟨O,J,J,h1⟩
theorem sd (w0:aD e f []) (i:a7) (k:a7) (m:RSl (RI .i64) 1 e t j i.Ids) (A:RSl aJ 4 e ai o i.Binds) (q:RSl (RI .i64) 1 e a6 l k.Ids) (B:RSl aJ 4 e aE p k.Binds) {r:Int} (h:ep N i k=some r) :
  CB w0 prog 58 [.agg [iV i.Rule,j,o].toArray,.agg [iV k.Rule,l,p].toArray] (iV r):=by
 refine eN func58 J ntmps58 J w0 fun s=>?_
 unfold ep at h
 refine sr<|lbx J fun E=>lbx J fun F=>art 3 [] J<|wm [0,1] [] J<|amm 6 [0,0,1,32,2,0,3,0,5,1,6,32] [0,1] J J<|mq 7 J NQ (kN [0,1]) (mK cq J J m) J<|amm 2 [8,1,9,0] [0,1] J J<|mq 10 J NQ (kN [0,1]) (mK cq J J q) J ?_
 obtain⟨b,u,h⟩:=bs h
 refine on1 4 (mp J (kS [0,1]) (pcP J (fT N · i.Rule k.Rule u)) J ?_)
 obtain⟨d,w,h⟩:=bs h
 refine on1 11 (mp J (kS [0,1]) (pcP J (fT N · (i.Ids.length:Int) (k.Ids.length:Int) w)) J ?_)
 have x:RC (RI .i64) 1 f ([[],[]]:List (List Nat)) [iV b,iV d] ([b,d]:List Int):=RC.cons (c:=[iV b]) (cells:=[iV d]) ⟨J,J⟩ J (RC.cons (c:=[iV d]) (cells:=[]) ⟨J,J⟩ J (RC.nil _ _ _))
 refine WM.one 12 NQ (me J (fun _ v G D H I hw=>Kn.of Kf.nil (ai2 0 1 J J) hw) (bz (vs:=[(0,iV b),(1,iV d)]) (C:=#[iV b,iV d]) RI.lasts cq mg J J J J (ar HP (aa (C':=[iV b,iV 0]) J J J J J (aa (C':=[iV b,iV d]) J J J J J (ae)))) J x J (by simpa using Kw.nil)) J ?_)
 rintro v1 y K ⟨L,h1⟩
 replace h1:OSl (RI .i64) 3 1 y [] v1 ([b,d]:List Int):=by simpa using h1
 obtain⟨M,z,h⟩:=bs h
 refine on1 13 (mp J (kS [0,1]) (pcP J (og N · ([b,d]:List Int) h1.rsl z)) J ?_)
 refine amm 1 [14] [0,1] J J<|WM.nil NQ<|att 6 [] J ?_
 refine ch h J ?_ ?_ <;> intro h
 ·refine atr 5 [1,32,1,0] J<|qd h (iB N · i.Ids k.Ids m q ·) J J J fun O h=>art 7 [] J ?_
  exact rt s h
 refine att 6 [] J ?_
 exact rt s h
theorem vD (w0:aD e f []) (i:bv) (F:aN) (w:ac) (T:RSl fb 5 e t j i.Rules) (b9:RSl im 1 e a6 l F.Alphas) (G:RSl l7 1 e aE p F.Rules) (aG:RSl aY 3 e b8 ad w.Items) {r:(List a7)} (h:n9 N i F w=some r) :
  Calls prog 15 [.agg [.string i.Name,j].toArray,.agg [l,p].toArray,.agg [ad,iV w.Next].toArray].toArray w0.w (bc f w0.w [] (fun aH Fs v=>∃ (U:Value) (ag:List Nat),v=U∧Fs=[ob U,ag]∧OSl aO 63 3 aH ag U r)):=by
 refine eN func15 J ntmps15 J w0 fun hF=>?_
 unfold n9 at h
 refine sr<|lbx J fun bb=>lbx J fun y=>lbx J fun A=>arr 11 [1,64] J<|lnr T J<|art 3 [] J<|wtS<|wt0 ?_
 have k1:=OSl.nil aO 63 3 f
 refine lin (σ:=Hp × (List a7) × Value × List Nat × Int) (fun s=>[(4,pQ y),(5,pQ A),(7,s.2.2.1),(17,j),(18,iV (i.Rules.length:Int)),(19,iV s.2.2.2.2)]) (fun s=>St w0 s.1 [(A,.cells #[ad,iV w.Next] 29 (0,0)),(y,.cells #[l,p] 35 (0,0))] [s.2.2.2.1,ob s.2.2.1]) (fun m s=>io N i F w m s.2.1 s.2.2.2.2=some r∧(OSl aO 63 3 s.1 s.2.2.2.1 s.2.2.1 s.2.1)) (f,([]:List a7),(.slice none 0 0),[],0) N ⟨h,k1⟩ (sx [0,0] [0,0]) (fun n1 ah s hm=>?_)
 obtain⟨ak,s1,k,x,s2⟩:=s
 obtain⟨h,d⟩:=hm
 dsimp only at h d ⊢
 unfold io at h
 refine att 5 [] J ?_
 refine ch h J ?_ ?_ <;> intro h
 ·refine atr 6 [] J ?_
  obtain⟨H,al,h⟩:=bs h
  obtain⟨bd,F1,-,g1,be,bf,r1⟩:=T.el (a8 al).2.2
  obtain⟨v1,G1,v2,G2,v3,G3,rfl,rfl,h1,V,h3⟩:=r1
  refine lia T al J<|lhx 0 5 g1 J<|lnz uY J fun I=>la J<|soN 0 yh J ⟨J,J,h1.one,V.one,h3.one,trivial⟩ J ?_
  refine arr 7 [1,64] J<|lnr G J<|arr 2 [] J ?_
  obtain⟨b1,B,h⟩:=bs h
  refine WL.cutN 9 [(38,.bool b1),(4,pQ y),(5,pQ A),(7,k),(8,iV s2),(9,pQ I),(17,j),(18,iV (i.Rules.length:Int)),(19,iV s2)] ?_ (fun K=>?_)
  rotate_left
  ·refine sp 29 B J (fun B=>?_) fun B=>?_
   ·refine arr 9 [] J ?_
    cases B
    exact ku K
   ·refine arr 3 [1,64] J<|ly J J ?_
    obtain⟨x2,an,B⟩:=bs B
    obtain⟨bg,F2,-,g2,bh,bj,r2⟩:=G.el (a8 an).2.2
    obtain⟨v4,G4,rfl,aI,h4⟩:=r2
    obtain rfl:=aI.symm
    refine lia G an J<|ly J J<|lf lQ J J J<|ly J J<|lhx 0 0 g2 J<|ly J J<|lnr h4 J<|arr 2 [] J ?_
    cases B
    exact ku K
  refine en ?_
  refine ch h J ?_ ?_ <;> intro h
  ·refine att 5 [] J ?_
   exact lb [0,0] [1,1] (ah (_,_,_,_,_) ⟨h,d⟩)
  refine atr 6 [1,64] J ?_
  obtain⟨x3,ao,h⟩:=bs h
  obtain⟨bk,F3,-,g3,bl,bm,r3⟩:=G.el (a8 ao).2.2
  obtain⟨v5,G5,rfl,aJ,W⟩:=r3
  obtain rfl:=aJ.symm
  refine lia G ao J<|lf lQ J J J<|lhx 0 0 g3 J<|arr 11 [] J<|lnr W J<|la J ?_
  obtain⟨P,aq,h⟩:=bs h
  obtain⟨bn,F4,-,g4,bo,bp,r4⟩:=W.el (a8 aq).2.2
  obtain⟨v6,G6,rfl,aK,X⟩:=r4
  obtain rfl:=aK.symm
  refine lia W aq J<|lf gZ J J J<|lhx 0 0 g4 J<|lnr X J<|art 3 [] J<|wtS<|wt0 ?_
  have k3:=OSl.nil aO 63 3 ak
  refine lin (σ:=Hp × (List a7) × Value × List Nat × Int) (fun s=>[(4,pQ y),(5,pQ A),(7,k),(8,iV s2),(9,pQ I),(11,s.2.2.1),(17,j),(18,iV (i.Rules.length:Int)),(19,iV s2),(51,v6),(52,iV (P.Toks.length:Int)),(53,iV s.2.2.2.2)]) (fun s=>St w0 s.1 [(I,.cells #[.string H.Name,iV H.Sal,v1,v2,v3] 87 (0,0)),(A,.cells #[ad,iV w.Next] 29 (0,0)),(y,.cells #[l,p] 35 (0,0))] [s.2.2.2.1,ob s.2.2.1,x,ob k]) (fun m s=>fA N w s1 s2 (io N i F w n1) H P m s.2.1 s.2.2.2.2=some r∧(OSl aO 63 3 s.1 x k s1)∧(OSl aO 63 3 s.1 s.2.2.2.1 s.2.2.1 s.2.1)) (ak,([]:List a7),(.slice none 0 0),[],0) N ⟨h,d,k3⟩ (sx [0,0,0,0] [0,0,0]) (fun n2 au s hm=>?_)
  obtain⟨bq,s3,L,Y,s4⟩:=s
  obtain⟨h,d,u⟩:=hm
  dsimp only at h d u ⊢
  unfold fA at h
  refine att 5 [] J ?_
  refine ch h J ?_ ?_ <;> intro h
  ·refine atr 5 [] J ?_
   obtain⟨Z,av,h⟩:=bs h
   obtain⟨br,F5,-,g5,bt,bw,r5⟩:=X.el (a8 av).2.2
   obtain⟨v7,G7,v8,G8,rfl,rfl,Q,h8⟩:=r5
   refine lia X av J<|lhx 0 2 g5 J<|lnz ib J fun aw=>soN 0 oX J ⟨Q.one,h8.one,trivial⟩ J ?_
   refine arr 7 [37,66,0,0] J<|kab h J J J (fun b z q=>xh N b H w Z.Ids (h1.y z) (V.y z) (h3.y z) (aG.y z) (Q.y z) q) ?_
   rintro x6 h v9 bx F6 ⟨R,ax,v10,rfl,rfl,M⟩
   replace d:=d.fr ax (R.q 3 J) (R.q 2 J)
   replace u:=u.fr ax (R.q 1 J) (R.q 0 J)
   refine arr 10 [] J ?_
   obtain⟨b2,D,h⟩:=bs h
   refine WL.cutN 3 [(69,.bool b2),(4,pQ y),(5,pQ A),(7,k),(8,iV s2),(9,pQ I),(11,L),(13,pQ aw),(14,v10),(17,j),(18,iV (i.Rules.length:Int)),(19,iV s2),(51,v6),(52,iV (P.Toks.length:Int)),(53,iV s4)] ?_ (fun K=>?_)
   rotate_left
   ·refine sp 66 D J (fun D=>?_) fun D=>?_
    ·refine ly J J<|ld2 Du 0 J<|ly J J<|qd D (zh N · Z Q h8 ·) J J J fun x7 D=>la J ?_
     cases D
     exact ku K
    ·refine arr 3 [] J ?_
     cases D
     exact ku K
   refine la J ?_
   obtain⟨b3,E,h⟩:=bs h
   refine WL.cutN 5 [(75,.bool b3),(4,pQ y),(5,pQ A),(7,k),(8,iV s2),(9,pQ I),(11,L),(13,pQ aw),(14,v10),(17,j),(18,iV (i.Rules.length:Int)),(19,iV s2),(51,v6),(52,iV (P.Toks.length:Int)),(53,iV s4)] ?_ (fun K=>?_)
   rotate_left
   ·refine sp 70 E J (fun E=>?_) fun E=>?_
    ·refine arr 3 [3,32] J<|ly J J<|qz E (fun b z q=>t8 N b H.Conds x6.1 (V.y z) M.rsl q) J J J fun x8 E=>la J ?_
     cases E
     exact ku K
    ·refine arr 5 [] J ?_
     cases E
     exact ku K
   refine en ?_
   refine ch h J ?_ ?_ <;> intro h
   ·refine atr 5 [0,0] J<|kab h J J J (fun b z q=>cM N b Z.Ids (Q.y z) q) ?_
    rintro x9 h v11 aL F7 ⟨O,ab,v12,rfl,rfl,ay⟩
    replace d:=d.fr ab (O.q 4 J) (O.q 3 J)
    replace u:=u.fr ab (O.q 2 J) (O.q 1 J)
    replace M:=M.fr ab (O.q 0 J) dN
    refine la J<|lq (bu (vs:=[(0,iV s2),(1,v11),(2,v10)]) (C:=#[iV s2,v11,v10]) Kl wD J (aa (C':=[iV s2,.slice none 0 0,.slice none 0 0]) J J J J J (aa (C':=[iV s2,v11,.slice none 0 0]) J (d6 ay.one) J J J (aa (C':=[iV s2,v11,v10]) J (d6 M.one) J J J (ae))))) J ?_
    have aA:RC aO 3 aL ([(ob v11++[])++((ob v10++[]))]:List (List Nat)) [iV s2,v11,v10] ([(⟨s2,x9,x6.1⟩:a7)]:List a7):=RC.cons (c:=[iV s2,v11,v10]) (cells:=[]) ⟨v11,v10,J,J,ay,M⟩ J (RC.nil _ _ _)
    refine le' (bz (vs:=[(0,.agg [iV s2,v11,v10].toArray)]) (C:=#[iV s2,v11,v10]) aO.lasts i9 wD J J J J (ar AJ (aa (C':=[iV s2,v11,v10]) J J J J J (ae))) J aA J (RC.kn aO.knows aA)) J ?_
    rintro S aM D3 ⟨aB,af⟩
    replace af:OSl aO 63 3 aM ((ob v11++[])++((ob v10++[]))) S ([(⟨s2,x9,x6.1⟩:a7)]:List a7):=by simpa[gf] using af
    replace d:=d.f0 aB
    replace u:=u.f0 aB
    refine wlL [((ob v11++[])++((ob v10++[]))),ob S,Y,ob L,x,ob k] (smg [1,1] J (SP.eq (by simp[gf,cO]))) ?_
    obtain⟨bA,aP,h⟩:=bs h
    refine le' (dS aO.lasts aO.one i9 Eh J J J J J (js:=[3]) (Rr:=[((ob v11++[])++((ob v10++[]))),ob S,Y,x,ob k]) J u af (fun ap=>ap.q 2 J) (fun ap=>ap.q 0 J) aP) J ?_
    rintro aQ bB D4 ⟨⟨aC,aR⟩,aS⟩
    replace d:=d.fr aR (aC.q 4 J) (aC.q 3 J)
    refine wlL [(Y++((ob v11++[])++((ob v10++[])))),ob aQ,ob S,x,ob k] (smg [3,1] J (SP.eq NS))<|art 7 [] J ?_
    exact lb [0,0,1,1] [1,1,1] (au (_,_,_,_,_) ⟨h,d,aS⟩)
   refine att 6 [] J ?_
   exact lb [1,1,1,1] [1,1,1] (au (_,_,_,_,_) ⟨h,d,u⟩)
  refine atr 4 [] J<|kcb [1,0] h J J J J (fun b ap z q=>jS N b s3 (ep N) u KW (fun bC aT a0 a1=>fun f0 f1 f2 f3=>fun hr=>sd N (ba aT) a0 a1 f0 f1 f2 f3 hr) q) ?_
  rintro bD h bE bF F8 ⟨aF,aU,D5,rfl,rfl,aV⟩
  replace d:=d.fr aU (aF.q 1 J) (aF.q 0 J)
  refine arr 4 [] J ?_
  obtain⟨bG,aW,h⟩:=bs h
  refine le' (dS aO.lasts aO.one i9 Eh J J J J J (js:=[3]) (Rr:=[ob L,D5,x]) J d aV (fun ap=>ap.q 2 J) (fun ap=>ap.q 1 J) aW) J ?_
  rintro aX bH D6 ⟨⟨bI,bJ⟩,aZ⟩
  refine wlL [(x++D5),ob aX,ob L] (smg [3,2] J (SP.eq NS))<|art 7 [] J ?_
  exact lb [0,0] [1,1] (ah (_,_,_,_,_) ⟨h,aZ⟩)
 refine att 6 [] J ?_
 exact rtg [1,0] hF (az.one J) J (by cases h;exact fun w1 hw=>⟨k,x,rfl,rfl,d⟩)
theorem yj (w0:aD e f []) (b:af) (c:ac) (i:(List au)) (q:RSl cS 3 e t j b.Pats) (E:RSl cH 11 e ai o b.Conds) (F:RSl hU 5 e b7 b5 b.Acts) (w:RSl aY 3 e a6 l c.Items) (x:RSl aJ 4 e b6 b0 i) {r:Bool} (h:o1 N b c i=some r) :
  CB w0 prog 226 [.agg [.string b.Name,iV b.Sal,j,o,b5].toArray,.agg [l,iV c.Next].toArray,b0] (.bool r):=by
 refine eN func226 J ntmps226 J w0 fun u=>?_
 unfold o1 at h
 refine sr<|lbx J fun G=>lbx J fun k=>arr 7 [2,32] J<|lnr q J<|art 3 [] J ?_
 refine lin (σ:=Int) (fun s=>[(2,b0),(4,pQ k),(10,j),(11,iV (b.Pats.length:Int)),(12,iV s)]) (fun s=>St w0 f [(k,.cells #[l,iV c.Next] 29 (0,0))] []) (fun m s=>fL N b c i m s=some r) (0) N h (sx [] [0]) (fun y z s hm=>?_)
 revert hm;revert s;intro s1 hm
 have h:fL N b c i (y+1) s1=some r:=hm
 show WT _ _ [(2,b0),(4,pQ k),(10,j),(11,iV (b.Pats.length:Int)),(12,iV s1)] (St w0 f [(k,.cells #[l,iV c.Next] 29 (0,0))] [])
 unfold fL at h
 refine att 5 [] J ?_
 refine ch h J ?_ ?_ <;> intro h
 ·refine atr 5 [] J ?_
  obtain⟨A,v,h⟩:=bs h
  obtain⟨H,I,-,g1,L,M,B⟩:=q.el (a8 v).2.2
  obtain⟨v1,O,rfl,C,h1⟩:=B
  obtain rfl:=C.symm
  refine lia q v J<|lhx 0 3 g1 J<|lnz lI J fun P=>soN 0 pD J ⟨J,h1.one,J,trivial⟩ J ?_
  refine arr 6 [2,0] J ?_
  obtain⟨D,d,h⟩:=bs h
  refine WL.cutN 6 [(24,.bool D),(2,b0),(4,pQ k),(10,j),(11,iV (b.Pats.length:Int)),(12,iV s1)] ?_ (fun K=>?_)
  rotate_left
  ·refine sp 18 d J (fun d=>?_) fun d=>?_
   ·refine arr 3 [3,34] J<|ly J J<|qd d (tL N · A c i h1 w x ·) J J J fun Q d=>arr 2 [] J ?_
    cases d
    exact ku K
   ·refine arr 6 [] J ?_
    cases d
    exact ku K
  refine en ?_
  refine ch h J ?_ ?_ <;> intro h
  ·refine att 4 [] J ?_
   exact rt u h
  refine att 6 [] J ?_
  exact lb [] [1] (z _ h)
 refine att 5 [] J ?_
 exact rt u h
end Go.Proofs.YtedmfnmbjglmbaaGreat
