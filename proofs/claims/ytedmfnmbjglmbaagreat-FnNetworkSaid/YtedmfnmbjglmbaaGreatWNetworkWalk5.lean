/- Printed by a program of ours: each Go function computes its Lean function. -/
import Derived.Test.YtedmfnmbjglmbaaGreatProg
import Derived.Test.YtedmfnmbjglmbaaGreatWNetworkWalk4
import Derived.Test.YtedmfnmbjglmbaaGreatEV
namespace Go.Proofs.YtedmfnmbjglmbaaGreat
open Eng Tryz
open Go.RowKit (Below)
set_option linter.unusedVariables false
set_option linter.unusedSimpArgs false

set_option maxRecDepth 100000
set_option maxHeartbeats 1000000
variable {e f:Hp} {a n j o l p ad b4 aj:Value} {b0 aE t ai a6 ar b6 b5 b7 g:List Nat} (N:Nat)
theorem jx {d:Nat} {i:List Value} (w0:aA e f []) (b:(List an)) (k:(List an)) (q:an→an→Option (Bool)) (u:RSl dU 2 e b0 a b) (v:RSl dU 2 e aE n k) (I:Fun prog d=true) (K:∀ {c:Hp} {w':World},FrH [] f c→In c w'→∀ (w:an) (x:an) {z:Value} {L:List Nat} {A:Value} {M:List Nat} {B:Value} {O:List Nat} {C:Value} {P:List Nat} (_:RSl (RI .i64) 1 c L z w.Ids) (_:RSl (RI .i64) 1 c M A w.Hits) (_:RSl (RI .i64) 1 c O B x.Ids) (_:RSl (RI .i64) 1 c P C x.Hits) {r:Bool},q w x=some r→Calls prog d (([.agg [z,A].toArray,.agg [B,C].toArray]:List Value)++i).toArray w' (mM (.bool r) w')) {r:Bool} (h:cD N b k q=some r) :
  CB w0 prog 182 [a,n,.func (.func d) #[] i.toArray] (.bool r):=by
 refine eN func182 J ntmps182 J w0 fun y=>?_
 unfold cD at h
 refine atr 8 [] J<|lnr u J<|la J<|lnr v J<|la J<|en ?_
 refine ch h J ?_ ?_ <;> intro h
 ·refine att 4 [] J ?_
  exact rt y h
 refine atr 5 [] J<|lnr u J<|art 3 [] J ?_
 refine lin (σ:=Int) (fun s=>[(1,n),(2,.func (.func d) #[] i.toArray),(15,a),(16,iV (b.length:Int)),(17,iV s)]) (fun s=>St w0 f [] []) (fun m s=>aM N b k q m s=some r) (0) N h (sx [] []) (fun Q R s hm=>?_)
 revert hm;revert s;intro s1 hm
 have h:aM N b k q (Q+1) s1=some r:=hm
 show WT _ _ [(1,n),(2,.func (.func d) #[] i.toArray),(15,a),(16,iV (b.length:Int)),(17,iV s1)] (St w0 f [] [])
 unfold aM at h
 refine att 5 [] J ?_
 refine ch h J ?_ ?_ <;> intro h
 ·refine atr 6 [] J ?_
  obtain⟨S,D,h⟩:=bs h
  obtain⟨X,Y,-,g1,Z,a1,T⟩:=u.el (a8 D).2.2
  obtain⟨v1,G1,v2,G2,rfl,rfl,h1,E⟩:=T
  refine lia u D J<|lhx 0 2 g1 J<|lnz kv J fun a7=>la J<|soN 0 t8 J ⟨h1.one,E.one,trivial⟩ J ?_
  refine arr 5 [] J ?_
  obtain⟨U,F,h⟩:=bs h
  obtain⟨aa,F2,-,g2,ab,ae,V⟩:=v.el (a8 F).2.2
  obtain⟨v3,G3,v4,G4,rfl,rfl,G,H⟩:=V
  refine lia v F J<|lhx 0 2 g2 J<|lnz kv J fun af=>soN 0 t8 J ⟨G.one,H.one,trivial⟩ J ?_
  refine arr 6 [34,2] J ?_
  obtain⟨x3,W,h⟩:=bs h
  refine lp (m3 I J J (fun w1 hw=>K hw.frB hw.fro S U (h1.y hw.up) (E.y hw.up) (G.y hw.up) (H.y hw.up) W)) J<|la J<|en ?_
  refine ch h J ?_ ?_ <;> intro h
  ·refine att 4 [] J ?_
   exact rt y h
  refine att 6 [] J ?_
  exact lb [] [] (R _ h)
 refine att 5 [] J ?_
 exact rt y h
theorem yq (w0:aA e f []) (b:an) (c:an) (d:RSl (RI .i64) 1 e t j b.Ids) (i:RSl (RI .i64) 1 e ai o b.Hits) (k:RSl (RI .i64) 1 e a6 l c.Ids) (m:RSl (RI .i64) 1 e ar p c.Hits) {r:Bool} (h:mr N b c=some r) :
  CB w0 prog 183 [.agg [j,o].toArray,.agg [l,p].toArray] (.bool r):=by
 refine eN func183 J ntmps183 J w0 fun q=>?_
 unfold mr at h
 refine sr<|lbx J fun s=>lbx J fun u=>arr 6 [34,2] J<|qd h (m7 N · b c d i k m ·) J J J fun v h=>art 3 [] J ?_
 exact rt q h
theorem wR (w0:aA e f []) (s:aw) (u:aw) (c:RSl dU 2 e t j s.Toks) (m:RSl dU 2 e a6 l u.Toks) {r:Bool} (h:jc N s u=some r) :
  CB w0 prog 114 [.agg [j].toArray,.agg [l].toArray] (.bool r):=by
 refine eN func114 J ntmps114 J w0 fun B=>?_
 unfold jc at h
 refine sr ?_
 refine ln (xy (C:=#[j]) J J) J (fun Y=>?_)
 refine ln (xy (C:=#[l]) J J) J (fun Z=>?_)
 refine arr 7 [0,32] J<|lnr c J<|arr 2 [0,0] J<|lnr m J<|la J<|en ?_
 refine ch h J ?_ ?_ <;> intro h
 ·refine att 4 [] J ?_
  exact rt B h
 refine att 2 [] J<|wm [0,1] [] J<|amm 4 [0,0,1,32,3,0,4,0] [0,1] J J ?_
 obtain⟨I,K,h⟩:=bs h
 refine WM.one 2 OX (mc J (fun _ v L D w M hw=>Kn.of Kf.nil (ai2 0 1 J J) hw) (bL (js:=[]) (R:=[]) EQ J J (fun w hw ap O=>kL N (ba hw.fro) s.Toks (c.y hw.up)  K)) J ?_)
 rintro v1 a7 F1 ⟨a8,aa,v2,D1,rfl,rfl,h1,x⟩
 obtain⟨P,Q,h⟩:=bs h
 refine WM.one 5 OX (mc J (fun _ v L D w M hw=>Kn.of Kf.nil (ai2 0 1 J J) hw) (bL (js:=[]) (R:=[ob v1]) EQ J J (fun w hw ap O=>kL N (ba hw.fro) u.Toks (m.y hw.up)  Q)) J ?_)
 rintro v3 ab F2 ⟨E,S,v4,D2,rfl,rfl,y,i2⟩
 replace h1:=h1.fr S (E.q 0 J) (Dj.sub (E.o c.old) x)
 refine amm 2 [6,7] [0,1] J J<|WM.nil OX<|sr<|la J<|kcb [1] h J J J J (fun b ap z q=>jE N b I (cY N) h1 FE (fun F d a0 i=>fun f0 f1 f2 f3=>fun k=>m7 N (ba d) a0 i f0 f1 f2 f3 k) (Dj.sub (ap.o c.old) x) q) ?_
 rintro T h v5 ae F3 ⟨G,U,D3,rfl,rfl,A,i3⟩
 replace y:=y.fr U (G.q 0 J) (Dj.sub (G.o m.old) i2)
 refine arr 4 [] J<|kcb [1] h J J J J (fun b ap z q=>jE N b P (cY N) y FE (fun F d a0 i=>fun f0 f1 f2 f3=>fun k=>m7 N (ba d) a0 i f0 f1 f2 f3 k) (Dj.sub (ap.o m.old) i2) q) ?_
 rintro V h v6 af F4 ⟨H,W,D4,rfl,rfl,X,i4⟩
 replace A:=A.fr W (H.q 0 J) (Dj.sub (Dj.sub (H.o c.old) x) i3)
 refine arr 5 [] J<|qc h (jx N · T V (mr N) A.rsl X.rsl JE (fun F d a0 i=>fun f0 f1 f2 f3=>fun k=>yq N (ba d) a0 i f0 f1 f2 f3 k) ·) J J J fun x5 h=>la J<|en ?_
 exact rt B h
theorem w5 (w0:aA e f []) (c:aV) (d:aV) (i:RSl iR 1 e t j c.Levels) (k:RSl iR 1 e a6 l d.Levels) {r:Bool} (h:fU N c d=some r) :
  CB w0 prog 112 [.agg [j].toArray,.agg [l].toArray] (.bool r):=by
 refine eN func112 J ntmps112 J w0 fun m=>?_
 unfold fU at h
 refine sr ?_
 refine ln (xy (C:=#[j]) J J) J (fun w=>?_)
 refine ln (xy (C:=#[l]) J J) J (fun x=>?_)
 refine arr 8 [0,32,0,0] J<|qz h (fun b z q=>ie N b c.Levels d.Levels (jc N) (i.y z) (k.y z) K0 (fun y s a0 u=>fun f0 f1=>fun v=>wR N (ba s) a0 u f0 f1 v) q) J J J fun A h=>la J<|en ?_
 exact rt m h
theorem yI (w0:aA e f []) (d:aY) (i:aY) (u:RSl jO 1 e t j d.Alphas) (v:RSl oE 1 e ai o d.Rules) (w:RSl jO 1 e a6 l i.Alphas) (x:RSl oE 1 e ar p i.Rules) {r:Bool} (h:og N d i=some r) :
  CB w0 prog 49 [.agg [j,o].toArray,.agg [l,p].toArray] (.bool r):=by
 refine eN func49 J ntmps49 J w0 fun y=>?_
 unfold og at h
 refine sr<|lbx J fun C=>lbx J fun D=>arr 8 [0,32,0,0] J<|qz h (fun b z q=>jv N b d.Alphas i.Alphas (iC N) (u.y z) (w.y z) Jp (fun A k a0 m=>fun f0 f1=>fun s=>wu N (ba k) a0 m f0 f1 s) q) J J J fun E h=>arr 6 [] J ?_
 obtain⟨B,c,h⟩:=bs h
 refine WL.cutN 6 [(18,.bool B),(4,.bool false)] ?_ (fun K=>?_)
 rotate_left
 ·refine sp 12 c J (fun c=>?_) fun c=>?_
  ·refine arr 4 [1,32,1,0] J<|ly J J<|qz c (fun b z q=>jw N b d.Rules i.Rules (fU N) (v.y z) (x.y z) Kv (fun A k a0 m=>fun f0 f1=>fun s=>w5 N (ba k) a0 m f0 f1 s) q) J J J fun F c=>la J ?_
   cases c
   exact ku K
  ·refine arr 6 [] J ?_
   cases c
   exact ku K
 refine la J<|en ?_
 exact rt y h
theorem xI (w0:aA e f []) (k:bq) (q:aY) (c:af) (u:RSl eC 5 e t j k.Rules) (x:RSl jO 1 e a6 l q.Alphas) (y:RSl oE 1 e ar p q.Rules) (w:RSl bm 3 e b6 ad c.Items) {r:Bool} (h:mX N k q c=some r) :
  CB w0 prog 13 [.agg [.string k.Name,j].toArray,.agg [l,p].toArray,.agg [ad,iV c.Next].toArray] (.bool r):=by
 refine eN func13 J ntmps13 J w0 fun s=>?_
 unfold mX at h
 refine sr<|lbx J fun H=>lbx J fun I=>lbx J fun K=>art 3 [] J<|wm [0,1,2] [] J<|amm 1 [0,66] [0,1,2] J J ?_
 obtain⟨L,A,h⟩:=bs h
 refine on1 1 (mp J (kS [0,1,2]) (pdP J (sL N · k u A)) J ?_)
 refine amm 1 [2] [0,1,2] J J ?_
 refine WM.split (d:=9) J (fun c1=>?_) (fun c1=>?_)
 ·replace h:=iE h c1
  refine mqG 3 [4,5,6,7,8,9,10,11,12,13] J OX (kN [0,1,2]) (ay sm J (fun m hw=>hw.rgO (i:=0) J 0 2 [ad,iV c.Next] J) J) J ?_
  obtain⟨M,B,h⟩:=bs h
  refine on1 4 (mpG J (kS [0,1,2]) (pdP J (tF N · c w B)) J ?_)
  refine amm 2 [5,6] [0,1,2] J J ?_
  refine WM.split (d:=13) J (fun c2=>?_) (fun c2=>?_)
  ·replace h:=iE h c2
   refine mqG 7 [11,12,13] J OX (kN [0,1,2]) (ay Az J (fun m hw=>hw.rgO (i:=1) J 0 2 [l,p] J) J) J<|mqG 8 [10,11,12,13] J OX (kN [0,1,2]) (ay Fi J (fun m hw=>hw.rgO (i:=2) J 0 2 [.string k.Name,j] J) J) J<|mqG 9 [10,11,12,13] J OX (kN [0,1,2]) (ay sm J (fun m hw=>hw.rgO (i:=0) J 0 2 [ad,iV c.Next] J) J) J ?_
   obtain⟨C,E,h⟩:=bs h
   refine WM.one 10 OX (mcG J (fun _ v O D m P hw=>Kn.of Kf.nil (ai3 0 1 2 J J J) hw) (bL (js:=[]) (R:=[]) MA J J (fun m hw ap Q=>Bf N (ba hw.fro) k c (u.y hw.up) (w.y hw.up)  E)) J ?_)
   rintro v1 S T ⟨U,V,v2,W,v3,X,rfl,rfl,h1,F⟩
   obtain⟨Y,G,h⟩:=bs h
   refine on1 11 (mpG J (kS [0,1,2]) (pzP J (fun b z=>yI N b q C (x.y z) (y.y z) (h1.rslG cz.gives) (F.rslG bU.gives) G)) J ?_)
   refine amm 2 [12,13] [0,1,2] J J<|WM.nil OX ?_
   exact rt s h
  replace h:=iF h c2
  refine mno 7 [11,12,13] J OX (kn Kf.nil (ai3 0 1 2 J J J)) J (.inl J) J J<|mno 8 [10,11,12,13] J OX (kn Kf.nil (ai3 0 1 2 J J J)) J (.inl J) J J<|mno 9 [10,11,12,13] J OX (kn Kf.nil (ai3 0 1 2 J J J)) J (.inl J) J J<|mno 10 [11,12,13] J OX (kn Kf.nil (ai3 0 1 2 J J J)) J (.inl J) J J<|mno 11 [12,13] J OX (kn Kf.nil (ai3 0 1 2 J J J)) J (.inl J) J J<|amm 2 [12,13] [0,1,2] J J<|WM.nil OX ?_
  exact rt s h
 replace h:=iF h c1
 refine mno 3 [4,5,6,7,8,9,10,11,12,13] J OX (kn Kf.nil (ai3 0 1 2 J J J)) J (.inl J) J J<|mno 4 [5,6,7,8,9,10,11,12,13] J OX (kn Kf.nil (ai3 0 1 2 J J J)) J (.inl J) J J<|amm 2 [5,6] [0,1,2] J J<|mno 7 [11,12,13] J OX (kn Kf.nil (ai3 0 1 2 J J J)) J (.inl J) J J<|mno 8 [10,11,12,13] J OX (kn Kf.nil (ai3 0 1 2 J J J)) J (.inl J) J J<|mno 9 [10,11,12,13] J OX (kn Kf.nil (ai3 0 1 2 J J J)) J (.inl J) J J ?_
 refine mno 10 [11,12,13] J OX (kn Kf.nil (ai3 0 1 2 J J J)) J (.inl J) J J<|mno 11 [12,13] J OX (kn Kf.nil (ai3 0 1 2 J J J)) J (.inl J) J J<|amm 2 [12,13] [0,1,2] J J<|WM.nil OX ?_
 exact rt s h
theorem im {d:Nat} {i:List Value} (w0:aA e f []) (b:(List a7)) (k:(List a7)) (q:a7→a7→Option (Bool)) (u:RSl cM 3 e b0 a b) (x:RSl cM 3 e aE n k) (I:Fun prog d=true) (K:∀ {c:Hp} {w':World},FrH [] f c→In c w'→∀ (v:a7) (w:a7) {z:Value} {L:List Nat} {A:Value} {M:List Nat} {B:Value} {O:List Nat} {C:Value} {P:List Nat} (_:RSl (RI .i64) 1 c L z v.Ids) (_:RSl aG 4 c M A v.Binds) (_:RSl (RI .i64) 1 c O B w.Ids) (_:RSl aG 4 c P C w.Binds) {r:Bool},q v w=some r→Calls prog d (([.agg [iV v.Rule,z,A].toArray,.agg [iV w.Rule,B,C].toArray]:List Value)++i).toArray w' (mM (.bool r) w')) {r:Bool} (h:be N b k q=some r) :
  CB w0 prog 50 [a,n,.func (.func d) #[] i.toArray] (.bool r):=by
 refine eN func50 J ntmps50 J w0 fun y=>?_
 unfold be at h
 refine atr 8 [] J<|lnr u J<|la J<|lnr x J<|la J<|en ?_
 refine ch h J ?_ ?_ <;> intro h
 ·refine att 4 [] J ?_
  exact rt y h
 refine atr 5 [] J<|lnr u J<|art 3 [] J ?_
 refine lin (σ:=Int) (fun s=>[(1,n),(2,.func (.func d) #[] i.toArray),(15,a),(16,iV (b.length:Int)),(17,iV s)]) (fun s=>St w0 f [] []) (fun m s=>aQ N b k q m s=some r) (0) N h (sx [] []) (fun Q R s hm=>?_)
 revert hm;revert s;intro s1 hm
 have h:aQ N b k q (Q+1) s1=some r:=hm
 show WT _ _ [(1,n),(2,.func (.func d) #[] i.toArray),(15,a),(16,iV (b.length:Int)),(17,iV s1)] (St w0 f [] [])
 unfold aQ at h
 refine att 5 [] J ?_
 refine ch h J ?_ ?_ <;> intro h
 ·refine atr 6 [] J ?_
  obtain⟨S,D,h⟩:=bs h
  obtain⟨X,Y,-,g1,Z,a1,T⟩:=u.el (a8 D).2.2
  obtain⟨v1,G1,v2,G2,rfl,rfl,h1,E⟩:=T
  refine lia u D J<|lhx 0 3 g1 J<|lnz nA J fun aa=>la J<|soN 0 tu J ⟨J,h1.one,E.one,trivial⟩ J ?_
  refine arr 5 [] J ?_
  obtain⟨U,F,h⟩:=bs h
  obtain⟨ab,F2,-,g2,ae,af,V⟩:=x.el (a8 F).2.2
  obtain⟨v3,G3,v4,G4,rfl,rfl,G,H⟩:=V
  refine lia x F J<|lhx 0 3 g2 J<|lnz nA J fun ag=>soN 0 tu J ⟨J,G.one,H.one,trivial⟩ J ?_
  refine arr 6 [35,3] J ?_
  obtain⟨x3,W,h⟩:=bs h
  refine lp (m3 I J J (fun w1 hw=>K hw.frB hw.fro S U (h1.y hw.up) (E.y hw.up) (G.y hw.up) (H.y hw.up) W)) J<|la J<|en ?_
  refine ch h J ?_ ?_ <;> intro h
  ·refine att 4 [] J ?_
   exact rt y h
  refine att 6 [] J ?_
  exact lb [] [] (R _ h)
 refine att 5 [] J ?_
 exact rt y h
theorem xe (w0:aA e f []) (c:a7) (d:a7) (i:RSl (RI .i64) 1 e t j c.Ids) (s:RSl aG 4 e ai o c.Binds) (k:RSl (RI .i64) 1 e a6 l d.Ids) (u:RSl aG 4 e ar p d.Binds) {r:Bool} (h:lM N c d=some r) :
  CB w0 prog 28 [.agg [iV c.Rule,j,o].toArray,.agg [iV d.Rule,l,p].toArray] (.bool r):=by
 refine eN func28 J ntmps28 J w0 fun m=>?_
 unfold lM at h
 refine sr<|lbx J fun v=>lbx J fun w=>arr 10 [0,32,0,0] J ?_
 obtain⟨q,b,h⟩:=bs h
 refine WL.cutN 6 [(16,.bool q),(4,.bool false)] ?_ (fun K=>?_)
 rotate_left
 ·refine sp 10 b J (fun b=>?_) fun b=>?_
  ·refine arr 4 [1,32,1,0] J<|ly J J<|qd b (eO N · c.Ids d.Ids i k ·) J J J fun x b=>la J ?_
   cases b
   exact ku K
  ·refine arr 6 [] J ?_
   cases b
   exact ku K
 refine la J<|en ?_
 exact rt m h
theorem oR (w0:aA e f []) (b:(List aq)) (i:(List aq)) (k:RSl aG 4 e b0 a b) (q:RSl aG 4 e aE n i) {r:Bool} (h:dP N b i=some r) :
  CB w0 prog 52 [a,n] (.bool r):=by
 refine eN func52 J ntmps52 J w0 fun u=>?_
 unfold dP at h
 refine atr 8 [] J<|lnr k J<|la J<|lnr q J<|la J<|en ?_
 refine ch h J ?_ ?_ <;> intro h
 ·refine att 4 [] J ?_
  exact rt u h
 refine atr 5 [] J<|lnr k J<|art 3 [] J ?_
 refine lin (σ:=Int) (fun s=>[(0,a),(1,n),(12,iV (b.length:Int)),(13,iV s)]) (fun s=>St w0 f [] []) (fun m s=>ce N b i m s=some r) (0) N h (sx [] []) (fun x y s hm=>?_)
 revert hm;revert s;intro s1 hm
 have h:ce N b i (x+1) s1=some r:=hm
 show WT _ _ [(0,a),(1,n),(12,iV (b.length:Int)),(13,iV s1)] (St w0 f [] [])
 unfold ce at h
 refine att 5 [] J ?_
 refine ch h J ?_ ?_ <;> intro h
 ·refine att 9 [] J<|WT.draw mixed OX (fun _ h=>h.drew)<|aqq 2 [] J ?_
  obtain⟨c,v,h⟩:=bs h
  obtain⟨C,D,-,g1,E,F,z⟩:=k.el (a8 v).2.2
  obtain⟨rfl,-⟩:=z
  refine qq (ak lA J J k v) J<|qq (ay KI J (fun A hw=>(g1.of_eq 0 4 J J:rg _ _ _ [.string c.Name,iV c.V.K,iV c.V.N,.string c.V.S]).rangeAt hw.in0) J) J<|aqq 2 [] J ?_
  obtain⟨d,w,h⟩:=bs h
  obtain⟨G,H,-,g2,I,K,B⟩:=q.el (a8 w).2.2
  obtain⟨rfl,-⟩:=B
  refine qq (ak lA J J q w) J<|qq (ay KI J (fun A hw=>(g2.of_eq 0 4 J J:rg _ _ _ [.string d.Name,iV d.V.K,iV d.V.N,.string d.V.S]).rangeAt hw.in0) J) J<|qq (u9 LI J J J (r:=um c d) J) J<|WQ.nil ?_
  refine ch h J ?_ ?_ <;> intro h
  ·refine att 4 [] J ?_
   exact rt u h
  refine att 6 [] J ?_
  exact lb [] [] (y _ h)
 refine att 5 [] J ?_
 exact rt u h
theorem vP (w0:aA e f []) (c:a7) (d:a7) (m:RSl (RI .i64) 1 e t j c.Ids) (i:RSl aG 4 e ai o c.Binds) (q:RSl (RI .i64) 1 e a6 l d.Ids) (k:RSl aG 4 e ar p d.Binds) {r:Bool} (h:gg N c d=some r) :
  CB w0 prog 51 [.agg [iV c.Rule,j,o].toArray,.agg [iV d.Rule,l,p].toArray] (.bool r):=by
 refine eN func51 J ntmps51 J w0 fun s=>?_
 unfold gg at h
 refine sr<|lbx J fun v=>lbx J fun w=>arr 6 [35,3] J<|qd h (xe N · c d m i q k ·) J J J fun x h=>la J ?_
 obtain⟨u,b,h⟩:=bs h
 refine WL.cutN 6 [(14,.bool u),(4,.bool false)] ?_ (fun K=>?_)
 rotate_left
 ·refine sp 8 b J (fun b=>?_) fun b=>?_
  ·refine arr 4 [2,32,2,0] J<|ly J J<|qd b (oR N · c.Binds d.Binds i k ·) J J J fun y b=>la J ?_
   cases b
   exact ku K
  ·refine arr 6 [] J ?_
   cases b
   exact ku K
 refine la J<|en ?_
 exact rt s h
theorem to (w0:aA e f []) (c:(List a7)) (d:(List a7)) (i:RSl cM 3 e b0 a c) (k:RSl cM 3 e aE n d) {r:Bool} (h:mw N c d=some r) :
  CB w0 prog 14 [a,n] (.bool r):=by
 refine eN func14 J ntmps14 J w0 fun m=>?_
 unfold mw at h
 refine atr 8 [] J<|qz h (fun b z q=>im N b c d (gg N) (i.y z) (k.y z) MP (fun w s a0 u=>fun f0 f1 f2 f3=>fun v=>vP N (ba s) a0 u f0 f1 f2 f3 v) q) J J J fun x h=>la J<|en ?_
 exact rt m h
theorem xM (w0:aA e f []) (c:ah) (d:af) (i:(List Int)) (u:RSl cI 3 e t j c.Pats) (w:RSl bT 11 e ai o c.Conds) (x:RSl fm 5 e b5 b4 c.Acts) (y:RSl bm 3 e a6 l d.Items) (m:RSl (RI .i64) 1 e b7 aj i) {r:(List aq) × Bool} (h:mV N c d i=some r) :
  Calls prog 53 [.agg [.string c.Name,iV c.Sal,j,o,b4].toArray,.agg [l,iV d.Next].toArray,aj].toArray w0.w (bc f w0.w [] (fun A Fs v=>∃ (k:Value),v = .tuple #[k,.bool r.2]∧Fs=[ob k]∧OSl aG 97 4 A [] k r.1)):=by
 refine eN func53 J ntmps53 J w0 fun s=>?_
 unfold mV at h
 refine sr<|lbx J fun E=>lbx J fun F=>arr 6 [37] J<|kab h J J J (fun b z q=>rb N b c false (u.y z) (w.y z) (x.y z) q) ?_
 rintro B h v1 G H ⟨I,K,v2,L,rfl,rfl,h1,M⟩
 refine arr 6 [] J<|lnr m J<|la J<|lno h1 J<|la J<|en ?_
 refine ch h J ?_ ?_ <;> intro h
 ·refine att 5 [] J ?_
  refine WT.ret s (aC.two J J) (fun C hw=>?_)
  cases h
  replace hw:=hw.addNil
  refine aK (js:=[0]) hw J ⟨.slice none 0 0,J,J,OSl.nil _ _ _ _⟩
 refine atr 6 [2] J<|kab h J J J (fun b z q=>qw N b B d i h1.rsl (y.y z) (m.y z) q) ?_
 rintro O h v3 P Q ⟨R,S,v4,rfl,rfl,D⟩
 refine art 5 [] J ?_
 exact rtg [0] s (aC.two J J) J (by cases h;exact fun C hw=>⟨v4,rfl,rfl,D⟩)
theorem An (w0:aA e f []) (b:an) (v:RSl (RI .i64) 1 e t j b.Ids) (c:RSl (RI .i64) 1 e ai o b.Hits) {r:Bool} (h:qF N b=some r) :
  CB w0 prog 54 [.agg [j,o].toArray] (.bool r):=by
 refine eN func54 J ntmps54 J w0 fun d=>?_
 unfold qF at h
 refine sr<|lbx J fun w=>arr 7 [1,0] J<|lnr c J<|art 3 [] J ?_
 refine lin (σ:=Int) (fun s=>[(6,o),(7,iV (b.Hits.length:Int)),(8,iV s)]) (fun s=>St w0 f [] []) (fun m s=>ib N b m s=some r) (0) N h (sx [] []) (fun k q s hm=>?_)
 revert hm;revert s;intro s1 hm
 have h:ib N b (k+1) s1=some r:=hm
 show WT _ _ [(6,o),(7,iV (b.Hits.length:Int)),(8,iV s1)] (St w0 f [] [])
 unfold ib at h
 refine att 5 [] J ?_
 refine ch h J ?_ ?_ <;> intro h
 ·refine atr 5 [] J ?_
  obtain⟨x,i,h⟩:=bs h
  obtain⟨y,z,-,g1,A,B,u⟩:=c.el (a8 i).2.2
  obtain⟨rfl,-⟩:=u
  refine lia c i J<|lhx 0 0 g1 J<|art 7 [] J ?_
  refine ch h J ?_ ?_ <;> intro h
  ·refine att 4 [] J ?_
   exact rt d h
  refine att 6 [] J ?_
  exact lb [] [] (q _ h)
 refine att 5 [] J ?_
 exact rt d h
theorem uV (w0:aA e f []) (b:bZ) (d:(List aq)) (q:RSl aG 4 e aE n d) {r:bn × Bool} (h:nJ N b d=some r) :
  CB w0 prog 185 [.agg [iV b.K,.string b.S,iV b.V.K,iV b.V.N,.string b.V.S].toArray,n] (.tuple #[.agg [iV r.1.K,iV r.1.N,.string r.1.S].toArray,.bool r.2]):=by
 refine eN func185 J ntmps185 J w0 fun k=>?_
 unfold nJ at h
 refine sr<|lbx J fun s=>lnz jg J fun u=>art 14 [0,32] J ?_
 refine ch h J ?_ ?_ <;> intro h
 ·refine atr 4 [2,35] J<|soN 0 mj J ⟨J,J,J,trivial⟩ J ?_
  refine la J<|en ?_
  refine WT.ret k (aC.two (bf kz J (fun c hw=>hw.rgO (i:=0) J 0 3 [iV b.V.K,iV b.V.N,.string b.V.S] J) J) J) (fun c hw=>?_)
  cases h
  exact dQ hw
 refine att 5 [] J ?_
 refine ch h J ?_ ?_ <;> intro h
 ·refine atr 5 [1,32] J<|qd h (uC N · d b.S q ·) J J J fun m h=>arr 2 [] J<|soN 0 mj J ⟨J,J,J,trivial⟩ J ?_
  refine la J<|en ?_
  refine WT.ret k (aC.two (bf kz J (fun c hw=>hw.rgO (i:=0) J 0 3 [iV m.1.K,iV m.1.N,.string m.1.S] J) J) J) (fun c hw=>?_)
  cases h
  exact dQ hw
 refine atr 4 [] J<|lq (bA (vs:=[]) (C:=#[iV 0,iV 0,.string (⟨#[]⟩:ByteArray)]) uI jg J (ae)) J<|soN 0 mj J ⟨J,J,J,trivial⟩ J ?_
 refine la J<|en ?_
 refine WT.ret k (aC.two (bf kz J (fun c hw=>hw.rgO (i:=0) J 0 3 [iV 0,iV 0,.string (⟨#[]⟩:ByteArray)] J) J) J) (fun c hw=>?_)
 cases h
 exact dQ hw
theorem nr  (w0:aA e f []) (b:ByteArray)  {r:Bool} (h:iz N b=some r) :
  CB w0 prog 264 [.string b] (.bool r):=by
 refine eN func264 J ntmps264 J w0 fun c=>?_
 unfold iz at h
 refine att 11 [] J ?_
 exact rt c h
theorem rH  (w0:aA e f []) (c:ByteArray) (d:ByteArray)  {r:Int} (h:fQ N c d=some r) :
  CB w0 prog 252 [.string c,.string d] (iV r):=by
 refine eN func252 J ntmps252 J w0 fun b=>?_
 unfold fQ at h
 refine atr 7 [] J<|qc h (nr N · c ·) J J J fun i h=>arr 5 [] J<|qc h (nr N · d ·) J J J fun k h=>art 7 [] J ?_
 refine ch h J ?_ ?_ <;> intro h
 ·refine att 5 [] J ?_
  refine ch h J ?_ ?_ <;> intro h
  ·refine att 4 [] J ?_
   exact rt b h
  refine att 5 [] J ?_
  exact rt b h
 refine att 6 [] J ?_
 refine ch h J ?_ ?_ <;> intro h
 ·refine att 4 [] J ?_
  exact rt b h
 refine atr 6 [] J<|lq (KP J J) J<|en ?_
 refine ch h J ?_ ?_ <;> intro h
 ·refine att 4 [] J ?_
  exact rt b h
 refine atr 6 [] J<|lq (No J J) J<|en ?_
 refine ch h J ?_ ?_ <;> intro h
 ·refine att 4 [] J ?_
  exact rt b h
 refine att 5 [] J ?_
 exact rt b h
theorem vm  (w0:aA e f []) (k:bn) (m:bn)  {r:Int} (h:m4 N k m=some r) :
  CB w0 prog 224 [.agg [iV k.K,iV k.N,.string k.S].toArray,.agg [iV m.K,iV m.N,.string m.S].toArray] (iV r):=by
 refine eN func224 J ntmps224 J w0 fun q=>?_
 unfold m4 at h
 refine sr<|lbx J fun A=>lbx J fun B=>art 3 [] J<|wm [0,1] [] J<|amm 12 [0,0,1,32,2,0,3,0,5,1,6,32,7,1,8,0,10,2,11,32,12,2,13,0] [0,1] J J ?_
 obtain⟨b,s,h⟩:=bs h
 refine on1 4 (mp J (kS [0,1]) (pcP J (fP N · k.K m.K s)) J ?_)
 obtain⟨d,u,h⟩:=bs h
 refine on1 9 (mp J (kS [0,1]) (pcP J (fP N · k.N m.N u)) J ?_)
 obtain⟨i,w,h⟩:=bs h
 refine on1 14 (mp J (kS [0,1]) (pcP J (rH N · k.S m.S w)) J ?_)
 have x:RC (RI .i64) 1 f ([[],[],[]]:List (List Nat)) [iV b,iV d,iV i] ([b,d,i]:List Int):=RC.cons (c:=[iV b]) (cells:=[iV d,iV i]) ⟨J,J⟩ J (RC.cons (c:=[iV d]) (cells:=[iV i]) ⟨J,J⟩ J (RC.cons (c:=[iV i]) (cells:=[]) ⟨J,J⟩ J (RC.nil _ _ _)))
 refine WM.one 15 OX (me J (fun _ v E D F G hw=>Kn.of Kf.nil (ai2 0 1 J J) hw) (bv (vs:=[(0,iV b),(1,iV d),(2,iV i)]) (C:=#[iV b,iV d,iV i]) RI.lasts bw jR J J J J (ao Mx (aa (C':=[iV b,iV 0,iV 0]) J J J J J (aa (C':=[iV b,iV d,iV 0]) J J J J J (aa (C':=[iV b,iV d,iV i]) J J J J J (ae))))) J x J (by simpa using Kw.nil)) J ?_)
 rintro v1 y H ⟨I,h1⟩
 replace h1:OSl (RI .i64) 3 1 y [] v1 ([b,d,i]:List Int):=by simpa using h1
 obtain⟨K,z,h⟩:=bs h
 refine on1 16 (mp J (kS [0,1]) (pcP J (oT N · ([b,d,i]:List Int) h1.rsl z)) J ?_)
 refine amm 1 [17] [0,1] J J<|WM.nil OX ?_
 exact rt q h
theorem yd  (w0:aA e f []) (b:bn) (c:bn)  {r:Bool} (h:o9 N b c=some r) :
  CB w0 prog 186 [.agg [iV b.K,iV b.N,.string b.S].toArray,.agg [iV c.K,iV c.N,.string c.S].toArray] (.bool r):=by
 refine eN func186 J ntmps186 J w0 fun d=>?_
 unfold o9 at h
 refine sr<|lbx J fun i=>lbx J fun k=>arr 6 [35,3] J<|qc h (vm N · b c ·) J J J fun m h=>art 3 [] J ?_
 exact rt d h
theorem Bz (w0:aA e f []) (b:cX) (i:(List aq)) (q:RSl aG 4 e aE n i) {r:Bool} (h:rS N b i=some r) :
  CB w0 prog 117 [.agg [iV b.Op,iV b.L.K,.string b.L.S,iV b.L.V.K,iV b.L.V.N,.string b.L.V.S,iV b.R.K,.string b.R.S,iV b.R.V.K,iV b.R.V.N,.string b.R.V.S].toArray,n] (.bool r):=by
 refine eN func117 J ntmps117 J w0 fun c=>?_
 unfold rS at h
 refine sr<|lbx J fun s=>arr 7 [1,5] J<|qd h (uV N · b.L i q ·) J J J fun k h=>arr 3 [] J<|lnz jg J fun u=>soN 0 mj J ⟨J,J,J,trivial⟩ J ?_
 refine arr 7 [6,37] J<|qd h (uV N · b.R i q ·) J J J fun m h=>arr 3 [] J<|lnz jg J fun v=>soN 0 mj J ⟨J,J,J,trivial⟩ J ?_
 refine arr 8 [] J ?_
 obtain⟨w,d,h⟩:=bs h
 refine WL.cutN 3 [(28,.bool w),(2,pQ s),(5,pQ u),(7,pQ v)] ?_ (fun K=>?_)
 rotate_left
 ·refine sp 25 d J (fun d=>?_) fun d=>?_
  ·refine arr 3 [] J ?_
   cases d
   exact ku K
  ·refine arr 3 [] J ?_
   cases d
   exact ku K
 refine en ?_
 refine ch h J ?_ ?_ <;> intro h
 ·refine att 4 [] J ?_
  exact rt c h
 refine att 13 [0,64] J ?_
 refine ch h J ?_ ?_ <;> intro h
 ·refine atr 4 [35,3] J<|lq (yG mi J J J (r:=bp k.1 m.1) J) J<|la J<|en ?_
  exact rt c h
 refine att 5 [] J ?_
 refine ch h J ?_ ?_ <;> intro h
 ·refine atr 4 [35,3] J<|lq (u9 mi J J J (r:=bp k.1 m.1) J) J<|la J<|en ?_
  exact rt c h
 refine att 5 [] J ?_
 refine ch h J ?_ ?_ <;> intro h
 ·refine atr 4 [35,3] J<|qc h (yd N · k.1 m.1 ·) J J J fun x h=>la J<|en ?_
  exact rt c h
 refine att 6 [] J ?_
 exact rt c h
theorem tl (w0:aA e f []) (b:(List cX)) (c:(List aq)) (d:RSl bT 11 e b0 a b) (q:RSl aG 4 e aE n c) {r:Bool} (h:mt N b c=some r) :
  CB w0 prog 55 [a,n] (.bool r):=by
 refine eN func55 J ntmps55 J w0 fun i=>?_
 unfold mt at h
 refine atr 8 [] J<|lnr d J<|art 3 [] J ?_
 refine lin (σ:=Int) (fun s=>[(1,n),(7,a),(8,iV (b.length:Int)),(9,iV s)]) (fun s=>St w0 f [] []) (fun m s=>fN N b c m s=some r) (0) N h (sx [] []) (fun u v s hm=>?_)
 revert hm;revert s;intro s1 hm
 have h:fN N b c (u+1) s1=some r:=hm
 show WT _ _ [(1,n),(7,a),(8,iV (b.length:Int)),(9,iV s1)] (St w0 f [] [])
 unfold fN at h
 refine att 5 [] J ?_
 refine ch h J ?_ ?_ <;> intro h
 ·refine atr 5 [] J ?_
  obtain⟨w,k,h⟩:=bs h
  obtain⟨y,z,-,g1,A,B,x⟩:=d.el (a8 k).2.2
  obtain⟨rfl,-⟩:=x
  refine lia d k J<|lhx 0 11 g1 J<|lnz vg J fun C=>soN 0 zu J ⟨J,J,J,J,J,J,J,J,J,J,J,trivial⟩ J ?_
  refine arr 5 [11] J<|qd h (Bz N · w c q ·) J J J fun D h=>la J<|en ?_
  refine ch h J ?_ ?_ <;> intro h
  ·refine att 4 [] J ?_
   exact rt i h
  refine att 6 [] J ?_
  exact lb [] [] (v _ h)
 refine att 5 [] J ?_
 exact rt i h
theorem gF {x:Nat} {y:List Value} (w0:aA e f [ob a,g].flatten) (E:(List a7)) (i:Int) (w:Int) (z:a7→a7→Option (Int)) (af:OSl av 63 3 f g a E) (ag:Fun prog x=true) (ah:∀ {q:Hp} {w':World},FrH [ob a,g].flatten f q→In q w'→∀ (A:a7) (B:a7) {M:Value} {al:List Nat} {O:Value} {an:List Nat} {P:Value} {ao:List Nat} {Q:Value} {aq:List Nat} (_:RSl (RI .i64) 1 q al M A.Ids) (_:RSl aG 4 q an O A.Binds) (_:RSl (RI .i64) 1 q ao P B.Ids) (_:RSl aG 4 q aq Q B.Binds) {r:Int},z A B=some r→Calls prog x (([.agg [iV A.Rule,M,O].toArray,.agg [iV B.Rule,P,Q].toArray]:List Value)++y).toArray w' (mM (iV r) w')) {r:(List a7)} (h:bN N E i w z=some r) :
  Calls prog 187 [a,iV i,iV w,.func (.func x) #[] y.toArray].toArray w0.w (bc f w0.w [ob a,g].flatten (fun q Fs v=>∃ (R:List Nat),v = .tuple #[]∧Fs=[ob a,R]∧OSl av 63 3 q R a r)):=by
 refine eL func187 J ntmps187 J (L:=[ob a,g]) w0 (fun hF=>?_)
 unfold bN at h
 refine att 7 [] J ?_
 refine lin (σ:=Hp × (List a7) × List Nat × Int) (fun s=>[(0,a),(1,iV i),(2,iV w),(3,.func (.func x) #[] y.toArray),(8,iV s.2.2.2)]) (fun s=>St w0 s.1 [] [ob a,s.2.2.1]) (fun m s=>bg N i w z m s.2.1 s.2.2.2=some r∧(OSl av 63 3 s.1 s.2.2.1 a s.2.1)) (f,E,g,wz (i+1)) N ⟨h,af⟩ (sx [0,0] []) (fun n1 au s hm=>?_)
 obtain⟨aw,s1,S,s2⟩:=s
 obtain⟨h,F⟩:=hm
 dsimp only at h F ⊢
 unfold bg at h
 refine att 7 [] J ?_
 refine ch h J ?_ ?_ <;> intro h
 ·refine att 9 [] J ?_
  refine lin (σ:=Hp × (List a7) × List Nat × Int) (fun s=>[(0,a),(1,iV i),(2,iV w),(3,.func (.func x) #[] y.toArray),(8,iV s2),(9,iV s.2.2.2)]) (fun s=>St w0 s.1 [] [ob a,s.2.2.1]) (fun m s=>bE N i z s2 (bg N i w z n1) m s.2.1 s.2.2.2=some r∧(OSl av 63 3 s.1 s.2.2.1 a s.2.1)) (aw,s1,S,s2) N ⟨h,F⟩ (sx [0,0] []) (fun n2 ax s hm=>?_)
  obtain⟨aQ,s3,T,s4⟩:=s
  obtain⟨h,b⟩:=hm
  dsimp only at h b ⊢
  unfold bE at h
  refine sq<|sq<|WT.draw mixed OX (fun _ h=>h.drew)<|aqq 4 [] J ?_
  obtain⟨b1,c,h⟩:=bs h
  refine WQ.cutN 13 [(34,.bool b1),(0,a),(1,iV i),(2,iV w),(3,.func (.func x) #[] y.toArray),(8,iV s2),(9,iV s4)] ?_ (fun K=>?_)
  rotate_left
  ·refine WQ.split (d:=21) J (fun c2=>?_) (fun c2=>?_)
   ·replace c:=iE c c2
    refine aqq 3 [] J<|WQ.yes J J ?_
    obtain⟨U,V,c⟩:=bs c
    obtain⟨aR,F1,-,g1,aS,aT,r1⟩:=b.elS (a8 V).2.2
    obtain⟨v1,v2,rfl,rfl,h1,h2⟩:=r1
    have h3:=h1.rsl
    have h4:=h2.rsl
    refine qq (ak ep J J b.rsl V) J<|WQ.yes J J<|qq (ay ky J (fun u hw=>(g1.of_eq 0 3 J J:rg _ _ _ [iV U.Rule,v1,v2]).rangeAt hw.fro) J) J<|aqq 3 [] J<|WQ.yes J J ?_
    obtain⟨W,X,c⟩:=bs c
    obtain⟨aU,F2,-,g2,aV,aW,r2⟩:=b.elS (a8 X).2.2
    obtain⟨v3,v4,rfl,rfl,h5,h6⟩:=r2
    have h7:=h5.rsl
    have h8:=h6.rsl
    refine qq (ak ep J J b.rsl X) J<|WQ.yes J J<|qq (ay ky J (fun u hw=>(g2.of_eq 0 3 J J:rg _ _ _ [iV W.Rule,v3,v4]).rangeAt hw.fro) J) J<|WQ.yes J J ?_
    obtain⟨x3,az,c⟩:=bs c
    refine qp (m3 ag J J (fun u hw=>ah hw.frB hw.fro U W h3 h4 h7 h8 az)) J<|aqq 2 [] J ?_
    cases c
    exact kq K
   ·replace c:=iF c c2
    refine aqq 13 [] J ?_
    cases c
    exact kq K
  refine WQ.nil ?_
  refine ch h J ?_ ?_ <;> intro h
  ·refine att 3 [] J<|WT.mix (fun _=>True) (fun _=>true) mixed (fun _ h=>h.drew)<|ma 0 J OX (fun _ _=>trivial) J<|ma 1 J OX (fun _ _=>trivial) J<|ma 2 J OX (fun _ _=>trivial) J<|ma 3 J OX (fun _ _=>trivial) J<|ma 4 J OX (fun _ _=>trivial) J<|ma 5 J OX (fun _ _=>trivial) J<|ma 6 J OX (fun _ _=>trivial) J<|ma 7 J OX (fun _ _=>trivial) J ?_
   obtain⟨G,C,h⟩:=bs h
   obtain⟨aX,F3,-,g3,aY,aZ,r3⟩:=b.elS (a8 C).2.2
   obtain⟨v5,v6,rfl,rfl,h9,aB⟩:=r3
   have aD:=h9.rsl
   have aF:=aB.rsl
   refine mq 8 J OX (fun _ _=>trivial) (ak ep J J b.rsl C) J<|ma 10 J OX (fun _ _=>trivial) J<|ma 11 J OX (fun _ _=>trivial) J ?_
   obtain⟨Y,D,h⟩:=bs h
   obtain⟨b2,F4,-,g4,b3,Z,r4⟩:=b.elS (a8 D).2.2
   obtain⟨v7,v8,rfl,rfl,aH,aI⟩:=r4
   have H:=aH.rsl
   have I:=aI.rsl
   refine mq 12 J OX (fun _ _=>trivial) (ak ep J J b.rsl D) J ?_
   refine WM.qq2 9 13 J J (ay ky J (fun u hw=>(g3.of_eq 0 3 J J:rg _ _ _ [iV G.Rule,v5,v6]).rangeAt hw.fro) J) (ay ky J (fun u hw=>(g4.of_eq 0 3 J J:rg _ _ _ [iV Y.Rule,v7,v8]).rangeAt hw.fro) J) (ay ky J (fun u hw=>(g4.of_eq 0 3 J J:rg _ _ _ [iV Y.Rule,v7,v8]).rangeAt hw.fro) J) (ay ky J (fun u hw=>(g3.of_eq 0 3 J J:rg _ _ _ [iV G.Rule,v5,v6]).rangeAt hw.fro) J) J J (fun _ _=>trivial) J J OX OX OX ?_
   obtain⟨x6,a1,h⟩:=bs h
   obtain⟨b8,F5,-,g5,b9,ba,r5⟩:=b.elS (a8 a1).2.2
   obtain⟨v9,v10,rfl,rfl,aJ,aL⟩:=r5
   have bb:=aJ.rsl
   have bd:=aL.rsl
   refine mq 14 J OX (fun _ _=>trivial) (ak ep J J b.rsl a1) J ?_
   refine WM.one 15 OX (mu J (fun _ _ _ _ _ _=>trivial) (EM (js:=[0]) (Rr:=[T]) (vs:=[iV G.Rule,v5,v6]) av.lasts tu J J J J ⟨J,aD.one,aF.one,trivial⟩ J b (a8 D).2.2 (a8 C).2.2 g4 J g3 (fun ap=>ap.q 0 J)) J ?_)
   rintro be D3 ⟨⟨aa,ab⟩,ae⟩
   replace H:=H.fr ab (Dj.sub (aa.q 0 J) (fun k h=>Z k (gh.2 (.inl h))))
   replace I:=I.fr ab (Dj.sub (aa.q 0 J) (fun k h=>Z k (gh.2 (.inr h))))
   obtain⟨x7,aM,h⟩:=bs h
   refine mq 16 J OX (fun _ _=>trivial) (pt ep J J ae aM OZ) J ?_
   refine WM.one 17 OX (mu J (fun _ _ _ _ _ _=>trivial) (EE (js:=[0]) (Rr:=[T]) av.lasts tu J J J ⟨J,H.one,I.one,trivial⟩ J ae (a8 D).2.2 (a8 C).2.2 (fun ap=>ap.q 0 J)) J ?_)
   rintro aN D4 ⟨⟨bf,bh⟩,aO,aP⟩
   refine WM.conv (S':=St w0 aN [] [D4,ob a]) (fun u hw=>hw.merge (js:=[1]) J (by simpa[gi,cT] using aO))<|WM.nil OX<|att 6 [] J ?_
   exact lb [1,0] [] (ax (_,_,_,_) ⟨h,aP⟩)
  refine att 7 [] J ?_
  exact lb [0,0] [] (au (_,_,_,_) ⟨h,b⟩)
 refine xt J ?_
 refine WT.fin hF aC.none (fun u hw=>?_)
 cases h
 refine aK (js:=[0,0]) hw J ⟨S,J,J,F⟩
theorem f9 {A:Nat} {G:List Value} (w0:aA e f [ob a,g].flatten) (B:(List a7)) (i:Int) (q:Int) (u:Int) (H:a7→a7→Option (Int)) (W:OSl av 63 3 f g a B) (al:Fun prog A=true) (an:∀ {c:Hp} {w':World},FrH [ob a,g].flatten f c→In c w'→∀ (w:a7) (x:a7) {I:Value} {X:List Nat} {K:Value} {Y:List Nat} {M:Value} {Z:List Nat} {O:Value} {a1:List Nat} (_:RSl (RI .i64) 1 c X I w.Ids) (_:RSl aG 4 c Y K w.Binds) (_:RSl (RI .i64) 1 c Z M x.Ids) (_:RSl aG 4 c a1 O x.Binds) {r:Int},H w x=some r→Calls prog A (([.agg [iV w.Rule,I,K].toArray,.agg [iV x.Rule,M,O].toArray]:List Value)++G).toArray w' (mM (iV r) w')) {r:(List a7)} (h:bP N B i q u H=some r) :
  Calls prog 253 [a,iV i,iV q,iV u,.func (.func A) #[] G.toArray].toArray w0.w (bc f w0.w [ob a,g].flatten (fun c Fs v=>∃ (P:List Nat),v = .tuple #[]∧Fs=[ob a,P]∧OSl av 63 3 c P a r)):=by
 refine eL func253 J ntmps253 J (L:=[ob a,g]) w0 (fun hF=>?_)
 unfold bP at h
 refine att 5 [] J ?_
 refine lin (σ:=Hp × (List a7) × List Nat × Int) (fun s=>[(0,a),(1,iV i),(2,iV q),(3,iV u),(10,iV s.2.2.2)]) (fun s=>St w0 s.1 [] [ob a,s.2.2.1]) (fun m s=>bB N i q u m s.2.1 s.2.2.2=some r∧(OSl av 63 3 s.1 s.2.2.1 a s.2.1)) (f,B,g,0) N ⟨h,W⟩ (sx [0,0] []) (fun n1 aa s hm=>?_)
 obtain⟨ao,s1,C,s2⟩:=s
 obtain⟨h,b⟩:=hm
 dsimp only at h b ⊢
 unfold bB at h
 refine att 7 [] J ?_
 refine ch h J ?_ ?_ <;> intro h
 ·refine att 3 [] J<|WT.mix (fun _=>True) (fun _=>true) mixed (fun _ h=>h.drew)<|ma 0 J OX (fun _ _=>trivial) J<|ma 1 J OX (fun _ _=>trivial) J<|ma 2 J OX (fun _ _=>trivial) J<|ma 3 J OX (fun _ _=>trivial) J<|ma 4 J OX (fun _ _=>trivial) J<|ma 5 J OX (fun _ _=>trivial) J<|ma 6 J OX (fun _ _=>trivial) J<|ma 7 J OX (fun _ _=>trivial) J<|ma 8 J OX (fun _ _=>trivial) J ?_
  refine ma 9 J OX (fun _ _=>trivial) J<|ma 10 J OX (fun _ _=>trivial) J<|ma 11 J OX (fun _ _=>trivial) J ?_
  obtain⟨D,y,h⟩:=bs h
  obtain⟨aq,F1,-,g1,au,aw,r1⟩:=b.elS (a8 y).2.2
  obtain⟨v1,v2,rfl,rfl,h1,h2⟩:=r1
  have h3:=h1.rsl
  have h4:=h2.rsl
  refine mq 12 J OX (fun _ _=>trivial) (ak ep J J b.rsl y) J<|ma 14 J OX (fun _ _=>trivial) J<|ma 15 J OX (fun _ _=>trivial) J<|ma 16 J OX (fun _ _=>trivial) J<|ma 17 J OX (fun _ _=>trivial) J ?_
  obtain⟨Q,z,h⟩:=bs h
  obtain⟨ax,F2,-,g2,az,R,r2⟩:=b.elS (a8 z).2.2
  obtain⟨v3,v4,rfl,rfl,h5,h6⟩:=r2
  have E:=h5.rsl
  have F:=h6.rsl
  refine mq 18 J OX (fun _ _=>trivial) (ak ep J J b.rsl z) J ?_
  refine WM.qq2 13 19 J J (ay ky J (fun d hw=>(g1.of_eq 0 3 J J:rg _ _ _ [iV D.Rule,v1,v2]).rangeAt hw.fro) J) (ay ky J (fun d hw=>(g2.of_eq 0 3 J J:rg _ _ _ [iV Q.Rule,v3,v4]).rangeAt hw.fro) J) (ay ky J (fun d hw=>(g2.of_eq 0 3 J J:rg _ _ _ [iV Q.Rule,v3,v4]).rangeAt hw.fro) J) (ay ky J (fun d hw=>(g1.of_eq 0 3 J J:rg _ _ _ [iV D.Rule,v1,v2]).rangeAt hw.fro) J) J J (fun _ _=>trivial) J J OX OX OX ?_
  obtain⟨x3,S,h⟩:=bs h
  obtain⟨aB,F3,-,g3,aD,aF,r3⟩:=b.elS (a8 S).2.2
  obtain⟨v5,v6,rfl,rfl,h9,ab⟩:=r3
  have aH:=h9.rsl
  have aI:=ab.rsl
  refine mq 20 J OX (fun _ _=>trivial) (ak ep J J b.rsl S) J ?_
  refine WM.one 21 OX (mu J (fun _ _ _ _ _ _=>trivial) (EM (js:=[0]) (Rr:=[C]) (vs:=[iV D.Rule,v1,v2]) av.lasts tu J J J J ⟨J,h3.one,h4.one,trivial⟩ J b (a8 z).2.2 (a8 y).2.2 g2 J g1 (fun ap=>ap.q 0 J)) J ?_)
  rintro aJ D2 ⟨⟨T,U⟩,V⟩
  replace E:=E.fr U (Dj.sub (T.q 0 J) (fun k h=>R k (gh.2 (.inl h))))
  replace F:=F.fr U (Dj.sub (T.q 0 J) (fun k h=>R k (gh.2 (.inr h))))
  obtain⟨x4,ae,h⟩:=bs h
  refine mq 22 J OX (fun _ _=>trivial) (pt ep J J V ae OZ) J ?_
  refine WM.one 23 OX (mu J (fun _ _ _ _ _ _=>trivial) (EE (js:=[0]) (Rr:=[C]) av.lasts tu J J J ⟨J,E.one,F.one,trivial⟩ J V (a8 z).2.2 (a8 y).2.2 (fun ap=>ap.q 0 J)) J ?_)
  rintro af D3 ⟨⟨aL,aM⟩,ag,ah⟩
  refine WM.conv (S':=St w0 af [] [D3,ob a]) (fun d hw=>hw.merge (js:=[1]) J (by simpa[gi,cT] using ag))<|WM.nil OX<|att 6 [] J ?_
  exact lb [1,0] [] (aa (_,_,_,_) ⟨h,ah⟩)
 refine xt J ?_
 refine WT.fin hF aC.none (fun d hw=>?_)
 cases h
 refine aK (js:=[0,0]) hw J ⟨C,J,J,b⟩
theorem oq {q:Nat} {y:List Value} (w0:aA e f [ob a,g].flatten) (z:(List a7)) (A:Int) (b:Int) (B:Int) (d:a7→a7→Option (Int)) (P:OSl av 63 3 f g a z) (C:Fun prog q=true) (D:∀ {c:Hp} {w':World},FrH [ob a,g].flatten f c→In c w'→∀ (u:a7) (w:a7) {F:Value} {Q:List Nat} {G:Value} {S:List Nat} {H:Value} {T:List Nat} {I:Value} {U:List Nat} (_:RSl (RI .i64) 1 c Q F u.Ids) (_:RSl aG 4 c S G u.Binds) (_:RSl (RI .i64) 1 c T H w.Ids) (_:RSl aG 4 c U I w.Binds) {r:Int},d u w=some r→Calls prog q (([.agg [iV u.Rule,F,G].toArray,.agg [iV w.Rule,H,I].toArray]:List Value)++y).toArray w' (mM (iV r) w')) {r:(List a7)} (h:dD N z A b B d=some r) :
  Calls prog 225 [a,iV A,iV b,iV B,.func (.func q) #[] y.toArray].toArray w0.w (bc f w0.w [ob a,g].flatten (fun c Fs v=>∃ (K:List Nat),v = .tuple #[]∧Fs=[ob a,K]∧OSl av 63 3 c K a r)):=by
 refine eL func225 J ntmps225 J (L:=[ob a,g]) w0 (fun V=>?_)
 unfold dD at h
 refine att 16 [] J ?_
 refine lin (σ:=Hp × (List a7) × List Nat × Int × Int) (fun s=>[(0,a),(2,iV b),(4,.func (.func q) #[] y.toArray),(10,iV s.2.2.2.1),(11,iV s.2.2.2.2)]) (fun s=>St w0 s.1 [] [ob a,s.2.2.1]) (fun m s=>bk N b d m s.2.1 s.2.2.2.1 s.2.2.2.2=some r∧(OSl av 63 3 s.1 s.2.2.1 a s.2.1)) (f,z,g,wz (b - A),wz (B - b)) N ⟨h,P⟩ (sx [0,0] []) (fun n1 M s hm=>?_)
 obtain⟨a1,s1,D1,s2,O⟩:=s
 obtain⟨h,x⟩:=hm
 dsimp only at h x ⊢
 unfold bk at h
 refine att 7 [] J ?_
 refine ch h J ?_ ?_ <;> intro h
 ·refine att 8 [] J ?_
  refine ch h J ?_ ?_ <;> intro h
  ·refine atr 9 [] J ?_
   obtain⟨x1,W,h⟩:=bs h
   refine lc (bL (js:=[0,0]) (R:=[]) Bq J J (fun E hw ap i=>f9 N (bx hw ap i) s1 (wz (b - s2)) b O d x C (fun k=>D (hw.frX ap k))  W)) J ?_
   rintro v1 a8 F1 ⟨aa,ab,D2,rfl,rfl,h1⟩
   refine art 8 [] J ?_
   exact lb [0,0] [] (M (_,_,_,_,_) ⟨h,h1⟩)
  refine atr 13 [] J ?_
  obtain⟨x2,X,h⟩:=bs h
  refine lc (bL (js:=[0,0]) (R:=[]) Bq J J (fun E hw ap i=>f9 N (bx hw ap i) s1 (wz (b - s2)) (wz ((wz (b+O)) - s2)) s2 d x C (fun k=>D (hw.frX ap k))  X)) J ?_
  rintro v2 ae F2 ⟨af,ag,D3,rfl,rfl,Y⟩
  refine art 8 [] J ?_
  exact lb [0,0] [] (M (_,_,_,_,_) ⟨h,Y⟩)
 refine atr 9 [] J ?_
 obtain⟨x3,Z,h⟩:=bs h
 refine lc (bL (js:=[0,0]) (R:=[]) Bq J J (fun E hw ap i=>f9 N (bx hw ap i) s1 (wz (b - s2)) b s2 d x C (fun k=>D (hw.frX ap k))  Z)) J ?_
 rintro v3 ah F3 ⟨ak,al,D4,rfl,rfl,h3⟩
 refine en ?_
 refine WT.fin V aC.none (fun E hw=>?_)
 cases h
 refine aK (js:=[0,0]) hw J ⟨D4,J,J,h3⟩
theorem jd (N:Nat):∀ {e f:Hp} {a:Value} {g:List Nat} {q:Nat} {w:List Value} (w0:aA e f [ob a,g].flatten) (z:(List a7)) (b:Int) (d:Int) (c:Int) (x:a7→a7→Option (Int)) (u:OSl av 63 3 f g a z) (D:Fun prog q=true) (E:∀ {C:Hp} {w':World},FrH [ob a,g].flatten f C→In C w'→∀ (O:a7) (P:a7) {al:Value} {b9:List Nat} {an:Value} {ba:List Nat} {ao:Value} {bb:List Nat} {aq:Value} {bd:List Nat} (_:RSl (RI .i64) 1 C b9 al O.Ids) (_:RSl aG 4 C ba an O.Binds) (_:RSl (RI .i64) 1 C bb ao P.Ids) (_:RSl aG 4 C bd aq P.Binds) {r:Int},x O P=some r→Calls prog q (([.agg [iV O.Rule,al,an].toArray,.agg [iV P.Rule,ao,aq].toArray]:List Value)++w).toArray w' (mM (iV r) w')) {r:(List a7)} (h:aD N z b d c x=some r),
  Calls prog 188 [a,iV b,iV d,iV c,.func (.func q) #[] w.toArray].toArray w0.w (bc f w0.w [ob a,g].flatten (fun C Fs v=>∃ (au:List Nat),v = .tuple #[]∧Fs=[ob a,au]∧OSl av 63 3 C au a r)):=by
 induction N with
 | zero=>intros;rename_i h;simp[aD] at h
 | succ N ih=>
 intro e f a g q w w0 z b d c x u D E r h
 refine eL func188 J ntmps188 J (L:=[ob a,g]) w0 (fun Q=>?_)
 unfold aD at h
 refine att 8 [] J ?_
 refine ch h J ?_ ?_ <;> intro h
 ·refine att 12 [] J ?_
  refine lin (σ:=Int × Int) (fun s=>[(0,a),(1,iV b),(4,.func (.func q) #[] w.toArray),(10,iV s.1),(11,iV s.2)]) (fun s=>St w0 f [] [ob a,g]) (fun m s=>bu N z b x m s.1 s.2=some r) (d,c) N h (sx [0,0] []) (fun n1 aw s hm=>?_)
  obtain⟨s1,s2⟩:=s
  have h:bu N z b x (n1+1) s1 s2=some r:=hm
  show WT _ _ [(0,a),(1,iV b),(4,.func (.func q) #[] w.toArray),(10,iV s1),(11,iV s2)] (St w0 f [] [ob a,g])
  unfold bu at h
  refine att 7 [] J ?_
  refine ch h J ?_ ?_ <;> intro h
  ·refine atr 7 [] J<|lq (kx vJ tA J) J<|lq (AN J J (by decide)) J<|lq (kx tA vJ J) J<|art 3 [] J<|WT.draw mixed OX (fun _ h=>h.drew)<|aqq 3 [] J ?_
   obtain⟨x1,ax,h⟩:=bs h
   obtain⟨cv,F1,-,g1,cw,cx,r1⟩:=u.elS (a8 ax).2.2
   obtain⟨v1,v2,rfl,rfl,h1,h2⟩:=r1
   have h3:=h1.rsl
   have h4:=h2.rsl
   refine qq (ak ep J J u.rsl ax) J<|qq (ay ky J (fun i hw=>(g1.of_eq 0 3 J J:rg _ _ _ [iV x1.Rule,v1,v2]).rangeAt hw.fro) J) J<|aqq 2 [] J ?_
   obtain⟨x2,az,h⟩:=bs h
   obtain⟨cy,F2,-,g2,cz,cA,r2⟩:=u.elS (a8 az).2.2
   obtain⟨v3,v4,rfl,rfl,h5,h6⟩:=r2
   have h7:=h5.rsl
   have h8:=h6.rsl
   refine qq (ak ep J J u.rsl az) J<|qq (ay ky J (fun i hw=>(g2.of_eq 0 3 J J:rg _ _ _ [iV x2.Rule,v3,v4]).rangeAt hw.fro) J) J ?_
   obtain⟨x3,be,h⟩:=bs h
   refine qp (m3 D J J (fun i hw=>E hw.frB hw.fro x1 x2 h3 h4 h7 h8 be)) J<|aqt 2 [] J ?_
   refine ch h J ?_ ?_ <;> intro h
   ·refine att 6 [] J ?_
    exact lb [0,0] [] (aw (_,_) h)
   refine att 5 [] J ?_
   exact lb [0,0] [] (aw (_,_) h)
  refine att 8 [] J ?_
  refine lin (σ:=Hp × (List a7) × List Nat × Int) (fun s=>[(0,a),(10,iV s1),(13,iV s.2.2.2)]) (fun s=>St w0 s.1 [] [ob a,s.2.2.1]) (fun m s=>ct N s1 m s.2.1 s.2.2.2=some r∧(OSl av 63 3 s.1 s.2.2.1 a s.2.1)) (f,z,g,b) N ⟨h,u⟩ (sx [0,0] []) (fun n2 bf s hm=>?_)
  obtain⟨cB,s3,X,s4⟩:=s
  obtain⟨h,A⟩:=hm
  dsimp only at h A ⊢
  unfold ct at h
  refine att 8 [] J ?_
  refine ch h J ?_ ?_ <;> intro h
  ·refine att 3 [] J<|WT.mix (fun _=>True) (fun _=>true) mixed (fun _ h=>h.drew)<|ma 0 J OX (fun _ _=>trivial) J<|ma 1 J OX (fun _ _=>trivial) J<|ma 2 J OX (fun _ _=>trivial) J<|ma 3 J OX (fun _ _=>trivial) J<|ma 4 J OX (fun _ _=>trivial) J<|ma 5 J OX (fun _ _=>trivial) J<|ma 6 J OX (fun _ _=>trivial) J<|ma 7 J OX (fun _ _=>trivial) J ?_
   obtain⟨Y,S,h⟩:=bs h
   obtain⟨cC,F3,-,g3,cD,cE,r3⟩:=A.elS (a8 S).2.2
   obtain⟨v5,v6,rfl,rfl,h9,bg⟩:=r3
   have bh:=h9.rsl
   have bj:=bg.rsl
   refine mq 8 J OX (fun _ _=>trivial) (ak ep J J A.rsl S) J<|ma 10 J OX (fun _ _=>trivial) J<|ma 11 J OX (fun _ _=>trivial) J ?_
   obtain⟨x5,T,h⟩:=bs h
   obtain⟨cF,F4,-,g4,cG,aB,r4⟩:=A.elS (a8 T).2.2
   obtain⟨v7,v8,rfl,rfl,bk,bl⟩:=r4
   have Z:=bk.rsl
   have a1:=bl.rsl
   refine mq 12 J OX (fun _ _=>trivial) (ak ep J J A.rsl T) J ?_
   refine WM.qq2 9 13 J J (ay ky J (fun i hw=>(g3.of_eq 0 3 J J:rg _ _ _ [iV Y.Rule,v5,v6]).rangeAt hw.fro) J) (ay ky J (fun i hw=>(g4.of_eq 0 3 J J:rg _ _ _ [iV x5.Rule,v7,v8]).rangeAt hw.fro) J) (ay ky J (fun i hw=>(g4.of_eq 0 3 J J:rg _ _ _ [iV x5.Rule,v7,v8]).rangeAt hw.fro) J) (ay ky J (fun i hw=>(g3.of_eq 0 3 J J:rg _ _ _ [iV Y.Rule,v5,v6]).rangeAt hw.fro) J) J J (fun _ _=>trivial) J J OX OX OX ?_
   obtain⟨x6,aF,h⟩:=bs h
   obtain⟨cH,F5,-,g5,cI,cJ,r5⟩:=A.elS (a8 aF).2.2
   obtain⟨v9,v10,rfl,rfl,bm,bn⟩:=r5
   have cK:=bm.rsl
   have cL:=bn.rsl
   refine mq 14 J OX (fun _ _=>trivial) (ak ep J J A.rsl aF) J ?_
   refine WM.one 15 OX (mu J (fun _ _ _ _ _ _=>trivial) (EM (js:=[0]) (Rr:=[X]) (vs:=[iV Y.Rule,v5,v6]) av.lasts tu J J J J ⟨J,bh.one,bj.one,trivial⟩ J A (a8 T).2.2 (a8 S).2.2 g4 J g3 (fun ap=>ap.q 0 J)) J ?_)
   rintro cM D2 ⟨⟨aH,aI⟩,aJ⟩
   replace Z:=Z.fr aI (Dj.sub (aH.q 0 J) (fun k h=>aB k (gh.2 (.inl h))))
   replace a1:=a1.fr aI (Dj.sub (aH.q 0 J) (fun k h=>aB k (gh.2 (.inr h))))
   obtain⟨x7,bo,h⟩:=bs h
   refine mq 16 J OX (fun _ _=>trivial) (pt ep J J aJ bo OZ) J ?_
   refine WM.one 17 OX (mu J (fun _ _ _ _ _ _=>trivial) (EE (js:=[0]) (Rr:=[X]) av.lasts tu J J J ⟨J,Z.one,a1.one,trivial⟩ J aJ (a8 T).2.2 (a8 S).2.2 (fun ap=>ap.q 0 J)) J ?_)
   rintro bp D3 ⟨⟨cN,cO⟩,bq,bw⟩
   refine WM.conv (S':=St w0 bp [] [D3,ob a]) (fun i hw=>hw.merge (js:=[1]) J (by simpa[gi,cT] using bq))<|WM.nil OX<|att 6 [] J ?_
   exact lb [1,0] [] (bf (_,_,_,_) ⟨h,bw⟩)
  refine xt J ?_
  exact rtg [0,0] Q aC.none J (by cases h;exact fun i hw=>⟨X,rfl,rfl,A⟩)
 refine att 9 [] J ?_
 refine ch h J ?_ ?_ <;> intro h
 ·refine att 12 [] J ?_
  refine lin (σ:=Int × Int) (fun s=>[(0,a),(2,iV d),(4,.func (.func q) #[] w.toArray),(14,iV s.1),(15,iV s.2)]) (fun s=>St w0 f [] [ob a,g]) (fun m s=>br N z d x m s.1 s.2=some r) (b,d) N h (sx [0,0] []) (fun n3 aL s hm=>?_)
  obtain⟨U,s6⟩:=s
  have h:br N z d x (n3+1) U s6=some r:=hm
  show WT _ _ [(0,a),(2,iV d),(4,.func (.func q) #[] w.toArray),(14,iV U),(15,iV s6)] (St w0 f [] [ob a,g])
  unfold br at h
  refine att 7 [] J ?_
  refine ch h J ?_ ?_ <;> intro h
  ·refine atr 7 [] J<|lq (kx vJ tA J) J<|lq (AN J J (by decide)) J<|lq (kx tA vJ J) J<|art 3 [] J<|WT.draw mixed OX (fun _ h=>h.drew)<|aqq 3 [] J ?_
   obtain⟨x8,aM,h⟩:=bs h
   obtain⟨cP,F6,-,g6,cQ,cR,r6⟩:=u.elS (a8 aM).2.2
   obtain⟨v11,v12,rfl,rfl,bz,bA⟩:=r6
   have bB:=bz.rsl
   have bC:=bA.rsl
   refine qq (ak ep J J u.rsl aM) J<|qq (ay ky J (fun i hw=>(g6.of_eq 0 3 J J:rg _ _ _ [iV x8.Rule,v11,v12]).rangeAt hw.fro) J) J<|aqq 2 [] J ?_
   obtain⟨x9,aN,h⟩:=bs h
   obtain⟨cS,F7,-,g7,cU,cV,r7⟩:=u.elS (a8 aN).2.2
   obtain⟨bD,bE,rfl,rfl,bF,bH⟩:=r7
   have bI:=bF.rsl
   have bJ:=bH.rsl
   refine qq (ak ep J J u.rsl aN) J<|qq (ay ky J (fun i hw=>(g7.of_eq 0 3 J J:rg _ _ _ [iV x9.Rule,bD,bE]).rangeAt hw.fro) J) J ?_
   obtain⟨cW,bK,h⟩:=bs h
   refine qp (m3 D J J (fun i hw=>E hw.frB hw.fro x8 x9 bB bC bI bJ bK)) J<|aqt 3 [] J ?_
   refine ch h J ?_ ?_ <;> intro h
   ·refine att 6 [] J ?_
    exact lb [0,0] [] (aL (_,_) h)
   refine att 5 [] J ?_
   exact lb [0,0] [] (aL (_,_) h)
  refine att 8 [] J ?_
  refine lin (σ:=Hp × (List a7) × List Nat × Int) (fun s=>[(0,a),(14,iV U),(17,iV s.2.2.2)]) (fun s=>St w0 s.1 [] [ob a,s.2.2.1]) (fun m s=>cr N U m s.2.1 s.2.2.2=some r∧(OSl av 63 3 s.1 s.2.2.1 a s.2.1)) (f,z,g,d) N ⟨h,u⟩ (sx [0,0] []) (fun n4 bM s hm=>?_)
  obtain⟨cX,s7,D4,s8⟩:=s
  obtain⟨h,B⟩:=hm
  dsimp only at h B ⊢
  unfold cr at h
  refine att 7 [] J ?_
  refine ch h J ?_ ?_ <;> intro h
  ·refine att 3 [] J<|WT.mix (fun _=>True) (fun _=>true) mixed (fun _ h=>h.drew)<|ma 0 J OX (fun _ _=>trivial) J<|ma 1 J OX (fun _ _=>trivial) J<|ma 2 J OX (fun _ _=>trivial) J<|ma 3 J OX (fun _ _=>trivial) J<|ma 4 J OX (fun _ _=>trivial) J<|ma 5 J OX (fun _ _=>trivial) J<|ma 6 J OX (fun _ _=>trivial) J<|ma 7 J OX (fun _ _=>trivial) J ?_
   obtain⟨aa,V,h⟩:=bs h
   obtain⟨cY,F8,-,g8,cZ,da,r8⟩:=B.elS (a8 V).2.2
   obtain⟨ab,ae,rfl,rfl,bN,bO⟩:=r8
   have bP:=bN.rsl
   have bQ:=bO.rsl
   refine mq 8 J OX (fun _ _=>trivial) (ak ep J J B.rsl V) J<|ma 10 J OX (fun _ _=>trivial) J<|ma 11 J OX (fun _ _=>trivial) J ?_
   obtain⟨aO,W,h⟩:=bs h
   obtain⟨db,F9,-,g9,dc,aP,r9⟩:=B.elS (a8 W).2.2
   obtain⟨v17,aQ,rfl,rfl,bR,bS⟩:=r9
   have af:=bR.rsl
   have ag:=bS.rsl
   refine mq 12 J OX (fun _ _=>trivial) (ak ep J J B.rsl W) J ?_
   refine WM.qq2 9 13 J J (ay ky J (fun i hw=>(g8.of_eq 0 3 J J:rg _ _ _ [iV aa.Rule,ab,ae]).rangeAt hw.fro) J) (ay ky J (fun i hw=>(g9.of_eq 0 3 J J:rg _ _ _ [iV aO.Rule,v17,aQ]).rangeAt hw.fro) J) (ay ky J (fun i hw=>(g9.of_eq 0 3 J J:rg _ _ _ [iV aO.Rule,v17,aQ]).rangeAt hw.fro) J) (ay ky J (fun i hw=>(g8.of_eq 0 3 J J:rg _ _ _ [iV aa.Rule,ab,ae]).rangeAt hw.fro) J) J J (fun _ _=>trivial) J J OX OX OX ?_
   obtain⟨dd,aR,h⟩:=bs h
   obtain⟨de,df,-,g10,dg,dh,bT⟩:=B.elS (a8 aR).2.2
   obtain⟨di,v20,rfl,rfl,bU,bV⟩:=bT
   have dj:=bU.rsl
   have dk:=bV.rsl
   refine mq 14 J OX (fun _ _=>trivial) (ak ep J J B.rsl aR) J ?_
   refine WM.one 15 OX (mu J (fun _ _ _ _ _ _=>trivial) (EM (js:=[0]) (Rr:=[D4]) (vs:=[iV aa.Rule,ab,ae]) av.lasts tu J J J J ⟨J,bP.one,bQ.one,trivial⟩ J B (a8 W).2.2 (a8 V).2.2 g9 J g8 (fun ap=>ap.q 0 J)) J ?_)
   rintro dm D5 ⟨⟨aS,aT⟩,aU⟩
   replace af:=af.fr aT (Dj.sub (aS.q 0 J) (fun k h=>aP k (gh.2 (.inl h))))
   replace ag:=ag.fr aT (Dj.sub (aS.q 0 J) (fun k h=>aP k (gh.2 (.inr h))))
   obtain⟨dn,bW,h⟩:=bs h
   refine mq 16 J OX (fun _ _=>trivial) (pt ep J J aU bW OZ) J ?_
   refine WM.one 17 OX (mu J (fun _ _ _ _ _ _=>trivial) (EE (js:=[0]) (Rr:=[D4]) av.lasts tu J J J ⟨J,af.one,ag.one,trivial⟩ J aU (a8 W).2.2 (a8 V).2.2 (fun ap=>ap.q 0 J)) J ?_)
   rintro bX D6 ⟨⟨dp,dq⟩,bY,bZ⟩
   refine WM.conv (S':=St w0 bX [] [D6,ob a]) (fun i hw=>hw.merge (js:=[1]) J (by simpa[gi,cT] using bY))<|WM.nil OX<|att 6 [] J ?_
   exact lb [1,0] [] (bM (_,_,_,_) ⟨h,bZ⟩)
  refine xt J ?_
  exact rtg [0,0] Q aC.none J (by cases h;exact fun i hw=>⟨D4,rfl,rfl,B⟩)
 refine atr 6 [] J<|lq (kx vJ tA J) J<|lq (AN J J (by decide)) J<|lq (kx tA vJ J) J<|art 21 [] J ?_
 refine cut (σ:=Int × Int) (fun s=>[(0,a),(1,iV b),(2,iV d),(3,iV c),(4,.func (.func q) #[] w.toArray),(18,iV (wz (fg .u64 (IntKind.u64.wrap (wz (b+c))) 1))),(19,iV (wz ((wz (fg .u64 (IntKind.u64.wrap (wz (b+c))) 1))+d))),(20,iV s.1),(21,iV s.2)]) (fun s=>St w0 f [] [ob a,g]) (fun s=>bG N z b d c x (aD N) s.1 s.2=some r) (fun s hm=>?_) (fun K=>?_)
 ·clear h
  obtain⟨s9,ah⟩:=s
  have h:bG N z b d c x (aD N) s9 ah=some r:=hm
  show WT _ _ [(0,a),(1,iV b),(2,iV d),(3,iV c),(4,.func (.func q) #[] w.toArray),(18,iV (wz (fg .u64 (IntKind.u64.wrap (wz (b+c))) 1))),(19,iV (wz ((wz (fg .u64 (IntKind.u64.wrap (wz (b+c))) 1))+d))),(20,iV s9),(21,iV ah)] (St w0 f [] [ob a,g])
  unfold bG at h
  refine att 8 [] J ?_
  refine lin (σ:=Int × Int) (fun s=>[(0,a),(1,iV b),(2,iV d),(3,iV c),(4,.func (.func q) #[] w.toArray),(18,iV (wz (fg .u64 (IntKind.u64.wrap (wz (b+c))) 1))),(19,iV (wz ((wz (fg .u64 (IntKind.u64.wrap (wz (b+c))) 1))+d))),(20,iV s.1),(21,iV s.2),(22,iV (wz ((wz ((wz (fg .u64 (IntKind.u64.wrap (wz (b+c))) 1))+d)) - 1)))]) (fun s=>St w0 f [] [ob a,g]) (fun m s=>bt N z b d c x (aD N) m s.1 s.2=some r) (s9,ah) N h (sx [0,0] []) (fun n6 aV s hm=>?_)
  obtain⟨y,aW⟩:=s
  have h:bt N z b d c x (aD N) (n6+1) y aW=some r:=hm
  show WT _ _ [(0,a),(1,iV b),(2,iV d),(3,iV c),(4,.func (.func q) #[] w.toArray),(18,iV (wz (fg .u64 (IntKind.u64.wrap (wz (b+c))) 1))),(19,iV (wz ((wz (fg .u64 (IntKind.u64.wrap (wz (b+c))) 1))+d))),(20,iV y),(21,iV aW),(22,iV (wz ((wz ((wz (fg .u64 (IntKind.u64.wrap (wz (b+c))) 1))+d)) - 1)))] (St w0 f [] [ob a,g])
  unfold bt at h
  refine att 7 [] J ?_
  refine ch h J ?_ ?_ <;> intro h
  ·refine atr 7 [] J<|lq (kx vJ tA J) J<|lq (AN J J (by decide)) J<|lq (kx tA vJ J) J<|art 3 [] J<|WT.draw mixed OX (fun _ h=>h.drew)<|aqq 5 [] J ?_
   obtain⟨aX,aY,h⟩:=bs h
   obtain⟨dr,ds,-,g11,dt,du,c0⟩:=u.elS (a8 aY).2.2
   obtain⟨v21,v22,rfl,rfl,c3,c4⟩:=c0
   have c5:=c3.rsl
   have c6:=c4.rsl
   refine qq (ak ep J J u.rsl aY) J<|qq (ay ky J (fun i hw=>(g11.of_eq 0 3 J J:rg _ _ _ [iV aX.Rule,v21,v22]).rangeAt hw.fro) J) J<|aqq 2 [] J ?_
   obtain⟨aZ,b8,h⟩:=bs h
   obtain⟨dv,dw,-,g12,dx,dy,c7⟩:=u.elS (a8 b8).2.2
   obtain⟨v23,v24,rfl,rfl,c8,c9⟩:=c7
   have ca:=c8.rsl
   have cb:=c9.rsl
   refine qq (ak ep J J u.rsl b8) J<|qq (ay ky J (fun i hw=>(g12.of_eq 0 3 J J:rg _ _ _ [iV aZ.Rule,v23,v24]).rangeAt hw.fro) J) J ?_
   obtain⟨dz,cc,h⟩:=bs h
   refine qp (m3 D J J (fun i hw=>E hw.frB hw.fro aX aZ c5 c6 ca cb cc)) J<|aqt 3 [] J ?_
   refine ch h J ?_ ?_ <;> intro h
   ·refine att 6 [] J ?_
    exact lb [0,0] [] (aV (_,_) h)
   refine att 5 [] J ?_
   exact lb [0,0] [] (aV (_,_) h)
  refine atr 15 [] J ?_
  obtain⟨b1,F,h⟩:=bs h
  refine WL.cutN 4 [(185,.bool b1),(0,a),(1,iV b),(2,iV d),(3,iV c),(4,.func (.func q) #[] w.toArray),(18,iV (wz (fg .u64 (IntKind.u64.wrap (wz (b+c))) 1))),(20,iV y),(24,iV (wz ((wz ((wz (fg .u64 (IntKind.u64.wrap (wz (b+c))) 1))+d)) - y)))] ?_ (fun K=>?_)
  rotate_left
  ·refine sp 181 F J (fun F=>?_) fun F=>?_
   ·refine arr 4 [] J ?_
    cases F
    exact ku K
   ·refine arr 4 [] J ?_
    cases F
    exact ku K
  refine en ?_
  refine cut (σ:=Hp × (List a7) × List Nat) (fun s=>[(0,a),(1,iV b),(3,iV c),(4,.func (.func q) #[] w.toArray),(18,iV (wz (fg .u64 (IntKind.u64.wrap (wz (b+c))) 1))),(20,iV y),(24,iV (wz ((wz ((wz (fg .u64 (IntKind.u64.wrap (wz (b+c))) 1))+d)) - y)))]) (fun s=>St w0 s.1 [] [ob a,s.2.2]) (fun s=>cu N b d c x (aD N) y s.2.1=some r∧(OSl av 63 3 s.1 s.2.2 a s.2.1)) (fun s hm=>?_) (fun K=>?_)
  ·clear h
   obtain⟨dA,cd,D7⟩:=s
   obtain⟨h,k3⟩:=hm
   dsimp only at h k3 ⊢
   unfold cu at h
   refine atr 7 [] J ?_
   obtain⟨b2,G,h⟩:=bs h
   refine WL.cutN 4 [(199,.bool b2),(0,a),(1,iV b),(3,iV c),(4,.func (.func q) #[] w.toArray),(18,iV (wz (fg .u64 (IntKind.u64.wrap (wz (b+c))) 1))),(20,iV y),(24,iV (wz ((wz ((wz (fg .u64 (IntKind.u64.wrap (wz (b+c))) 1))+d)) - y)))] ?_ (fun K=>?_)
   rotate_left
   ·refine sp 195 G J (fun G=>?_) fun G=>?_
    ·refine arr 4 [] J ?_
     cases G
     exact ku K
    ·refine arr 4 [] J ?_
     cases G
     exact ku K
   refine en ?_
   refine cut (σ:=Hp × (List a7) × List Nat) (fun s=>[(0,a),(3,iV c),(4,.func (.func q) #[] w.toArray),(18,iV (wz (fg .u64 (IntKind.u64.wrap (wz (b+c))) 1))),(24,iV (wz ((wz ((wz (fg .u64 (IntKind.u64.wrap (wz (b+c))) 1))+d)) - y)))]) (fun s=>St w0 s.1 [] [ob a,s.2.2]) (fun s=>cq N b d c x (aD N) y s.2.1=some r∧(OSl av 63 3 s.1 s.2.2 a s.2.1)) (fun s hm=>?_) (fun K=>?_)
   ·clear h
    obtain⟨dB,cf,D8⟩:=s
    obtain⟨h,k4⟩:=hm
    dsimp only at h k4 ⊢
    unfold cq at h
    refine atr 6 [] J ?_
    obtain⟨b3,H,h⟩:=bs h
    refine WL.cutN 4 [(213,.bool b3),(0,a),(3,iV c),(4,.func (.func q) #[] w.toArray),(18,iV (wz (fg .u64 (IntKind.u64.wrap (wz (b+c))) 1))),(24,iV (wz ((wz ((wz (fg .u64 (IntKind.u64.wrap (wz (b+c))) 1))+d)) - y)))] ?_ (fun K=>?_)
    rotate_left
    ·refine sp 209 H J (fun H=>?_) fun H=>?_
     ·refine arr 4 [] J ?_
      cases H
      exact ku K
     ·refine arr 4 [] J ?_
      cases H
      exact ku K
    refine en ?_
    refine ch h J ?_ ?_ <;> intro h
    ·refine atr 6 [] J ?_
     obtain⟨dC,cg,h⟩:=bs h
     refine lc (bL (js:=[0,0]) (R:=[]) xQ J J (fun i hw ap I=>ih (bx hw ap I) cf (wz (fg .u64 (IntKind.u64.wrap (wz (b+c))) 1)) (wz ((wz ((wz (fg .u64 (IntKind.u64.wrap (wz (b+c))) 1))+d)) - y)) c x k4 D (fun M=>E (hw.frX ap M))  cg)) J ?_
     rintro v25 dD dE ⟨dF,dG,D9,rfl,rfl,cj⟩
     refine en ?_
     refine WT.fin Q aC.none (fun i hw=>?_)
     cases h
     refine aK (js:=[0,0]) hw J ⟨D9,J,J,cj⟩
    refine WT.skip ?_
    refine WT.fin Q aC.none (fun i hw=>?_)
    cases h
    refine aK (js:=[0,0]) hw J ⟨D8,J,J,k4⟩
   refine ch h J ?_ ?_ <;> intro h
   ·refine atr 6 [] J ?_
    obtain⟨dH,ck,h⟩:=bs h
    refine lc (bL (js:=[0,0]) (R:=[]) xQ J J (fun i hw ap I=>ih (bx hw ap I) cd b y (wz (fg .u64 (IntKind.u64.wrap (wz (b+c))) 1)) x k3 D (fun M=>E (hw.frX ap M))  ck)) J ?_
    rintro v26 dI dJ ⟨dK,dL,dM,rfl,rfl,cm⟩
    refine en ?_
    exact wo [0,0] [] (K (_,_,_) ⟨h,cm⟩)
   refine WT.skip ?_
   exact wo [0,0] [] (K (_,_,_) ⟨h,k3⟩)
  refine ch h J ?_ ?_ <;> intro h
  ·refine atr 6 [] J ?_
   obtain⟨dN,cn,h⟩:=bs h
   refine lc (bL (js:=[0,0]) (R:=[]) Je J J (fun i hw ap I=>oq N (bx hw ap I) z y d (wz ((wz ((wz (fg .u64 (IntKind.u64.wrap (wz (b+c))) 1))+d)) - y)) x u D (fun M=>E (hw.frX ap M))  cn)) J ?_
   rintro dO dP dQ ⟨dR,dS,dT,rfl,rfl,cp⟩
   refine en ?_
   exact wo [0,0] [] (K (_,_,_) ⟨h,cp⟩)
  refine WT.skip ?_
  exact wo [0,0] [] (K (_,_,_) ⟨h,u⟩)
 refine ch h J ?_ ?_ <;> intro h
 ·refine att 11 [] J ?_
  exact wo [0,0] [] (K (_,_) h)
 refine att 9 [] J ?_
 exact wo [0,0] [] (K (_,_) h)
theorem oa {q:Nat} {u:List Value} (w0:aA e f [ob a,g].flatten) (E:(List a7)) (b:Int) (c:a7→a7→Option (Int)) (T:OSl av 63 3 f g a E) (x:Fun prog q=true) (y:∀ {d:Hp} {w':World},FrH [ob a,g].flatten f d→In d w'→∀ (z:a7) (A:a7) {H:Value} {U:List Nat} {I:Value} {V:List Nat} {K:Value} {W:List Nat} {M:Value} {X:List Nat} (_:RSl (RI .i64) 1 d U H z.Ids) (_:RSl aG 4 d V I z.Binds) (_:RSl (RI .i64) 1 d W K A.Ids) (_:RSl aG 4 d X M A.Binds) {r:Int},c z A=some r→Calls prog q (([.agg [iV z.Rule,H,I].toArray,.agg [iV A.Rule,K,M].toArray]:List Value)++u).toArray w' (mM (iV r) w')) {r:(List a7)} (h:eQ N E b c=some r) :
  Calls prog 118 [a,iV b,.func (.func q) #[] u.toArray].toArray w0.w (bc f w0.w [ob a,g].flatten (fun d Fs v=>∃ (O:List Nat),v = .tuple #[]∧Fs=[ob a,O]∧OSl av 63 3 d O a r)):=by
 refine eL func118 J ntmps118 J (L:=[ob a,g]) w0 (fun Y=>?_)
 unfold eQ at h
 refine att 12 [] J ?_
 refine lin (σ:=Hp × (List a7) × List Nat × Int × Int) (fun s=>[(0,a),(1,iV b),(2,.func (.func q) #[] u.toArray),(6,iV 20),(7,iV s.2.2.2.1),(8,iV s.2.2.2.2)]) (fun s=>St w0 s.1 [] [ob a,s.2.2.1]) (fun m s=>bQ N b c m s.2.1 s.2.2.2.1 s.2.2.2.2=some r∧(OSl av 63 3 s.1 s.2.2.1 a s.2.1)) (f,E,g,0,20) N ⟨h,T⟩ (sx [0,0] []) (fun n1 Z s hm=>?_)
 obtain⟨ah,s1,D1,s2,s3⟩:=s
 obtain⟨h,F⟩:=hm
 dsimp only at h F ⊢
 unfold bQ at h
 refine att 7 [] J ?_
 refine ch h J ?_ ?_ <;> intro h
 ·refine atr 8 [] J ?_
  obtain⟨x1,a1,h⟩:=bs h
  refine lc (bL (js:=[0,0]) (R:=[]) FK J J (fun B hw ap i=>gF N (bx hw ap i) s1 s2 s3 c F x (fun k=>y (hw.frX ap k))  a1)) J ?_
  rintro v1 ak F1 ⟨al,an,D2,rfl,rfl,h1⟩
  refine art 13 [] J ?_
  exact lb [0,0] [] (Z (_,_,_,_,_) ⟨h,h1⟩)
 refine atr 7 [] J ?_
 obtain⟨x2,a8,h⟩:=bs h
 refine lc (bL (js:=[0,0]) (R:=[]) FK J J (fun B hw ap i=>gF N (bx hw ap i) s1 s2 b c F x (fun k=>y (hw.frX ap k))  a8)) J ?_
 rintro v2 aa F2 ⟨ao,aq,D3,rfl,rfl,h2⟩
 refine en<|blk ?_
 refine lin (σ:=Hp × (List a7) × List Nat × Int) (fun s=>[(0,a),(1,iV b),(2,.func (.func q) #[] u.toArray),(6,iV s.2.2.2)]) (fun s=>St w0 s.1 [] [ob a,s.2.2.1]) (fun m s=>bl N b c m s.2.1 s.2.2.2=some r∧(OSl av 63 3 s.1 s.2.2.1 a s.2.1)) (aa,x2,D3,20) N ⟨h,h2⟩ (sx [0,0] []) (fun n2 P s hm=>?_)
 obtain⟨ab,s4,Q,w⟩:=s
 obtain⟨h,G⟩:=hm
 dsimp only at h G ⊢
 unfold bl at h
 refine att 7 [] J ?_
 refine ch h J ?_ ?_ <;> intro h
 ·refine att 11 [] J ?_
  refine lin (σ:=Hp × (List a7) × List Nat × Int × Int) (fun s=>[(0,a),(1,iV b),(2,.func (.func q) #[] u.toArray),(6,iV w),(7,iV s.2.2.2.1),(8,iV s.2.2.2.2)]) (fun s=>St w0 s.1 [] [ob a,s.2.2.1]) (fun m s=>cF N b c w (bl N b c n2) m s.2.1 s.2.2.2.1 s.2.2.2.2=some r∧(OSl av 63 3 s.1 s.2.2.1 a s.2.1)) (ab,s4,Q,0,wz (2*w)) N ⟨h,G⟩ (sx [0,0] []) (fun n3 ae s hm=>?_)
  obtain⟨au,S,D5,C,s8⟩:=s
  obtain⟨h,D⟩:=hm
  dsimp only at h D ⊢
  unfold cF at h
  refine att 7 [] J ?_
  refine ch h J ?_ ?_ <;> intro h
  ·refine atr 11 [] J ?_
   obtain⟨x3,af,h⟩:=bs h
   refine lc (bL (js:=[0,0]) (R:=[]) xQ J J (fun B hw ap i=>jd N (bx hw ap i) S C (wz (C+w)) s8 c D x (fun k=>y (hw.frX ap k))  af)) J ?_
   rintro v3 aw F3 ⟨ax,ay,D6,rfl,rfl,h3⟩
   refine art 14 [] J ?_
   exact lb [0,0] [] (ae (_,_,_,_,_) ⟨h,h3⟩)
  refine att 15 [] J ?_
  refine ch h J ?_ ?_ <;> intro h
  ·refine atr 6 [] J ?_
   obtain⟨x4,ag,h⟩:=bs h
   refine lc (bL (js:=[0,0]) (R:=[]) xQ J J (fun B hw ap i=>jd N (bx hw ap i) S C (wz (C+w)) b c D x (fun k=>y (hw.frX ap k))  ag)) J ?_
   rintro v4 az F4 ⟨aB,aD,D7,rfl,rfl,h4⟩
   refine art 7 [] J ?_
   exact lb [0,0] [] (P (_,_,_,_) ⟨h,h4⟩)
  refine att 7 [] J ?_
  exact lb [0,0] [] (P (_,_,_,_) ⟨h,D⟩)
 refine xt J ?_
 refine WT.fin Y aC.none (fun B hw=>?_)
 cases h
 refine aK (js:=[0,0]) hw J ⟨Q,J,J,G⟩
theorem kE {k:Nat} {q:List Value} (w0:aA e f [ob a,g].flatten) (c:(List a7)) (m:a7→a7→Option (Int)) (s:OSl av 63 3 f g a c) (A:Fun prog k=true) (B:∀ {b:Hp} {w':World},FrH [ob a,g].flatten f b→In b w'→∀ (d:a7) (i:a7) {u:Value} {C:List Nat} {w:Value} {D:List Nat} {x:Value} {E:List Nat} {y:Value} {F:List Nat} (_:RSl (RI .i64) 1 b C u d.Ids) (_:RSl aG 4 b D w d.Binds) (_:RSl (RI .i64) 1 b E x i.Ids) (_:RSl aG 4 b F y i.Binds) {r:Int},m d i=some r→Calls prog k (([.agg [iV d.Rule,u,w].toArray,.agg [iV i.Rule,x,y].toArray]:List Value)++q).toArray w' (mM (iV r) w')) {r:(List a7)} (h:cm N c m=some r) :
  Calls prog 57 [a,.func (.func k) #[] q.toArray].toArray w0.w (bc f w0.w [ob a,g].flatten (fun b Fs v=>∃ (z:List Nat),v = .tuple #[]∧Fs=[ob a,z]∧OSl av 63 3 b z a r)):=by
 refine eL func57 J ntmps57 J (L:=[ob a,g]) w0 (fun G=>?_)
 unfold cm at h
 refine atr 3 [] J<|lno s J<|la J ?_
 obtain⟨P,H,h⟩:=bs h
 refine lc (bL (js:=[0,0]) (R:=[]) JO J J (fun I hw ap K=>oa N (bx hw ap K) c (c.length:Int) m s A (fun M=>B (hw.frX ap M))  H)) J ?_
 rintro v1 Q S ⟨T,U,O,rfl,rfl,h1⟩
 refine en ?_
 refine WT.fin G aC.none (fun I hw=>?_)
 cases h
 refine aK (js:=[0,0]) hw J ⟨O,J,J,h1⟩
theorem tf (w0:aA e f []) (i:a7) (k:a7) (m:RSl (RI .i64) 1 e t j i.Ids) (A:RSl aG 4 e ai o i.Binds) (q:RSl (RI .i64) 1 e a6 l k.Ids) (B:RSl aG 4 e ar p k.Binds) {r:Int} (h:eu N i k=some r) :
  CB w0 prog 58 [.agg [iV i.Rule,j,o].toArray,.agg [iV k.Rule,l,p].toArray] (iV r):=by
 refine eN func58 J ntmps58 J w0 fun s=>?_
 unfold eu at h
 refine sr<|lbx J fun E=>lbx J fun F=>art 3 [] J<|wm [0,1] [] J<|amm 6 [0,0,1,32,2,0,3,0,5,1,6,32] [0,1] J J<|mq 7 J OX (kN [0,1]) (mP bw J J m) J<|amm 2 [8,1,9,0] [0,1] J J<|mq 10 J OX (kN [0,1]) (mP bw J J q) J ?_
 obtain⟨b,u,h⟩:=bs h
 refine on1 4 (mp J (kS [0,1]) (pcP J (fP N · i.Rule k.Rule u)) J ?_)
 obtain⟨d,w,h⟩:=bs h
 refine on1 11 (mp J (kS [0,1]) (pcP J (fP N · (i.Ids.length:Int) (k.Ids.length:Int) w)) J ?_)
 have x:RC (RI .i64) 1 f ([[],[]]:List (List Nat)) [iV b,iV d] ([b,d]:List Int):=RC.cons (c:=[iV b]) (cells:=[iV d]) ⟨J,J⟩ J (RC.cons (c:=[iV d]) (cells:=[]) ⟨J,J⟩ J (RC.nil _ _ _))
 refine WM.one 12 OX (me J (fun _ v G D H I hw=>Kn.of Kf.nil (ai2 0 1 J J) hw) (bv (vs:=[(0,iV b),(1,iV d)]) (C:=#[iV b,iV d]) RI.lasts bw jR J J J J (ao HA (aa (C':=[iV b,iV 0]) J J J J J (aa (C':=[iV b,iV d]) J J J J J (ae)))) J x J (by simpa using Kw.nil)) J ?_)
 rintro v1 y K ⟨L,h1⟩
 replace h1:OSl (RI .i64) 3 1 y [] v1 ([b,d]:List Int):=by simpa using h1
 obtain⟨M,z,h⟩:=bs h
 refine on1 13 (mp J (kS [0,1]) (pcP J (oT N · ([b,d]:List Int) h1.rsl z)) J ?_)
 refine amm 1 [14] [0,1] J J<|WM.nil OX<|att 6 [] J ?_
 refine ch h J ?_ ?_ <;> intro h
 ·refine atr 5 [1,32,1,0] J<|qd h (ja N · i.Ids k.Ids m q ·) J J J fun O h=>art 7 [] J ?_
  exact rt s h
 refine att 6 [] J ?_
 exact rt s h
theorem Bx (w0:aA e f []) (i:bq) (F:aY) (w:af) (T:RSl eC 5 e t j i.Rules) (b9:RSl jO 1 e a6 l F.Alphas) (G:RSl oE 1 e ar p F.Rules) (aJ:RSl bm 3 e b6 ad w.Items) {r:(List a7)} (h:pB N i F w=some r) :
  Calls prog 15 [.agg [.string i.Name,j].toArray,.agg [l,p].toArray,.agg [ad,iV w.Next].toArray].toArray w0.w (bc f w0.w [] (fun aK Fs v=>∃ (U:Value) (ah:List Nat),v=U∧Fs=[ob U,ah]∧OSl av 63 3 aK ah U r)):=by
 refine eN func15 J ntmps15 J w0 fun hF=>?_
 unfold pB at h
 refine sr<|lbx J fun bb=>lbx J fun y=>lbx J fun A=>arr 11 [1,64] J<|lnr T J<|art 3 [] J<|wtS<|wt0 ?_
 have k1:=OSl.nil av 63 3 f
 refine lin (σ:=Hp × (List a7) × Value × List Nat × Int) (fun s=>[(4,pQ y),(5,pQ A),(7,s.2.2.1),(17,j),(18,iV (i.Rules.length:Int)),(19,iV s.2.2.2.2)]) (fun s=>St w0 s.1 [(A,.cells #[ad,iV w.Next] 29 (0,0)),(y,.cells #[l,p] 35 (0,0))] [s.2.2.2.1,ob s.2.2.1]) (fun m s=>iU N i F w m s.2.1 s.2.2.2.2=some r∧(OSl av 63 3 s.1 s.2.2.2.1 s.2.2.1 s.2.1)) (f,([]:List a7),(.slice none 0 0),[],0) N ⟨h,k1⟩ (sx [0,0] [0,0]) (fun n1 ak s hm=>?_)
 obtain⟨al,s1,k,x,s2⟩:=s
 obtain⟨h,d⟩:=hm
 dsimp only at h d ⊢
 unfold iU at h
 refine att 5 [] J ?_
 refine ch h J ?_ ?_ <;> intro h
 ·refine atr 6 [] J ?_
  obtain⟨H,an,h⟩:=bs h
  obtain⟨bd,F1,-,g1,be,bf,r1⟩:=T.el (a8 an).2.2
  obtain⟨v1,G1,v2,G2,v3,G3,rfl,rfl,h1,V,h3⟩:=r1
  refine lia T an J<|lhx 0 5 g1 J<|lnz wx J fun I=>la J<|soN 0 yK J ⟨J,J,h1.one,V.one,h3.one,trivial⟩ J ?_
  refine arr 7 [1,64] J<|lnr G J<|arr 2 [] J ?_
  obtain⟨b1,B,h⟩:=bs h
  refine WL.cutN 9 [(38,.bool b1),(4,pQ y),(5,pQ A),(7,k),(8,iV s2),(9,pQ I),(17,j),(18,iV (i.Rules.length:Int)),(19,iV s2)] ?_ (fun K=>?_)
  rotate_left
  ·refine sp 29 B J (fun B=>?_) fun B=>?_
   ·refine arr 9 [] J ?_
    cases B
    exact ku K
   ·refine arr 3 [1,64] J<|ly J J ?_
    obtain⟨x2,aq,B⟩:=bs B
    obtain⟨bg,F2,-,g2,bh,bj,r2⟩:=G.el (a8 aq).2.2
    obtain⟨v4,G4,rfl,aL,h4⟩:=r2
    obtain rfl:=aL.symm
    refine lia G aq J<|ly J J<|lf nG J J J<|ly J J<|lhx 0 0 g2 J<|ly J J<|lnr h4 J<|arr 2 [] J ?_
    cases B
    exact ku K
  refine en ?_
  refine ch h J ?_ ?_ <;> intro h
  ·refine att 5 [] J ?_
   exact lb [0,0] [1,1] (ak (_,_,_,_,_) ⟨h,d⟩)
  refine atr 6 [1,64] J ?_
  obtain⟨x3,au,h⟩:=bs h
  obtain⟨bk,F3,-,g3,bl,bn,r3⟩:=G.el (a8 au).2.2
  obtain⟨v5,G5,rfl,aM,W⟩:=r3
  obtain rfl:=aM.symm
  refine lia G au J<|lf nG J J J<|lhx 0 0 g3 J<|arr 11 [] J<|lnr W J<|la J ?_
  obtain⟨P,aw,h⟩:=bs h
  obtain⟨bo,F4,-,g4,bp,br,r4⟩:=W.el (a8 aw).2.2
  obtain⟨v6,G6,rfl,aN,X⟩:=r4
  obtain rfl:=aN.symm
  refine lia W aw J<|lf ig J J J<|lhx 0 0 g4 J<|lnr X J<|art 3 [] J<|wtS<|wt0 ?_
  have k3:=OSl.nil av 63 3 al
  refine lin (σ:=Hp × (List a7) × Value × List Nat × Int) (fun s=>[(4,pQ y),(5,pQ A),(7,k),(8,iV s2),(9,pQ I),(11,s.2.2.1),(17,j),(18,iV (i.Rules.length:Int)),(19,iV s2),(51,v6),(52,iV (P.Toks.length:Int)),(53,iV s.2.2.2.2)]) (fun s=>St w0 s.1 [(I,.cells #[.string H.Name,iV H.Sal,v1,v2,v3] 87 (0,0)),(A,.cells #[ad,iV w.Next] 29 (0,0)),(y,.cells #[l,p] 35 (0,0))] [s.2.2.2.1,ob s.2.2.1,x,ob k]) (fun m s=>fB N w s1 s2 (iU N i F w n1) H P m s.2.1 s.2.2.2.2=some r∧(OSl av 63 3 s.1 x k s1)∧(OSl av 63 3 s.1 s.2.2.2.1 s.2.2.1 s.2.1)) (al,([]:List a7),(.slice none 0 0),[],0) N ⟨h,d,k3⟩ (sx [0,0,0,0] [0,0,0]) (fun n2 ax s hm=>?_)
  obtain⟨bt,s3,L,Y,s4⟩:=s
  obtain⟨h,d,u⟩:=hm
  dsimp only at h d u ⊢
  unfold fB at h
  refine att 5 [] J ?_
  refine ch h J ?_ ?_ <;> intro h
  ·refine atr 5 [] J ?_
   obtain⟨Z,ay,h⟩:=bs h
   obtain⟨bu,F5,-,g5,bw,bx,r5⟩:=X.el (a8 ay).2.2
   obtain⟨v7,G7,v8,G8,rfl,rfl,Q,h8⟩:=r5
   refine lia X ay J<|lhx 0 2 g5 J<|lnz kv J fun az=>soN 0 t8 J ⟨Q.one,h8.one,trivial⟩ J ?_
   refine arr 7 [37,66,0,0] J<|kab h J J J (fun b z q=>xM N b H w Z.Ids (h1.y z) (V.y z) (h3.y z) (aJ.y z) (Q.y z) q) ?_
   rintro x6 h v9 bz F6 ⟨R,aB,v10,rfl,rfl,M⟩
   replace d:=d.fr aB (R.q 3 J) (R.q 2 J)
   replace u:=u.fr aB (R.q 1 J) (R.q 0 J)
   refine arr 10 [] J ?_
   obtain⟨b2,D,h⟩:=bs h
   refine WL.cutN 3 [(69,.bool b2),(4,pQ y),(5,pQ A),(7,k),(8,iV s2),(9,pQ I),(11,L),(13,pQ az),(14,v10),(17,j),(18,iV (i.Rules.length:Int)),(19,iV s2),(51,v6),(52,iV (P.Toks.length:Int)),(53,iV s4)] ?_ (fun K=>?_)
   rotate_left
   ·refine sp 66 D J (fun D=>?_) fun D=>?_
    ·refine ly J J<|ld2 Er 0 J<|ly J J<|qd D (An N · Z Q h8 ·) J J J fun x7 D=>la J ?_
     cases D
     exact ku K
    ·refine arr 3 [] J ?_
     cases D
     exact ku K
   refine la J ?_
   obtain⟨b3,E,h⟩:=bs h
   refine WL.cutN 5 [(75,.bool b3),(4,pQ y),(5,pQ A),(7,k),(8,iV s2),(9,pQ I),(11,L),(13,pQ az),(14,v10),(17,j),(18,iV (i.Rules.length:Int)),(19,iV s2),(51,v6),(52,iV (P.Toks.length:Int)),(53,iV s4)] ?_ (fun K=>?_)
   rotate_left
   ·refine sp 70 E J (fun E=>?_) fun E=>?_
    ·refine arr 3 [3,32] J<|ly J J<|qz E (fun b z q=>tl N b H.Conds x6.1 (V.y z) M.rsl q) J J J fun x8 E=>la J ?_
     cases E
     exact ku K
    ·refine arr 5 [] J ?_
     cases E
     exact ku K
   refine en ?_
   refine ch h J ?_ ?_ <;> intro h
   ·refine atr 5 [0,0] J<|kab h J J J (fun b z q=>fb N b Z.Ids (Q.y z) q) ?_
    rintro x9 h v11 aO F7 ⟨O,ab,v12,rfl,rfl,aD⟩
    replace d:=d.fr ab (O.q 4 J) (O.q 3 J)
    replace u:=u.fr ab (O.q 2 J) (O.q 1 J)
    replace M:=M.fr ab (O.q 0 J) dN
    refine la J<|lq (bA (vs:=[(0,iV s2),(1,v11),(2,v10)]) (C:=#[iV s2,v11,v10]) Cm nA J (aa (C':=[iV s2,.slice none 0 0,.slice none 0 0]) J J J J J (aa (C':=[iV s2,v11,.slice none 0 0]) J (cN aD.one) J J J (aa (C':=[iV s2,v11,v10]) J (cN M.one) J J J (ae))))) J ?_
    have aF:RC av 3 aO ([(ob v11++[])++((ob v10++[]))]:List (List Nat)) [iV s2,v11,v10] ([(⟨s2,x9,x6.1⟩:a7)]:List a7):=RC.cons (c:=[iV s2,v11,v10]) (cells:=[]) ⟨v11,v10,J,J,aD,M⟩ J (RC.nil _ _ _)
    refine le' (bv (vs:=[(0,.agg [iV s2,v11,v10].toArray)]) (C:=#[iV s2,v11,v10]) av.lasts ep nA J J J J (ao sB (aa (C':=[iV s2,v11,v10]) J J J J J (ae))) J aF J (RC.kn av.knows aF)) J ?_
    rintro S aP D3 ⟨aG,ag⟩
    replace ag:OSl av 63 3 aP ((ob v11++[])++((ob v10++[]))) S ([(⟨s2,x9,x6.1⟩:a7)]:List a7):=by simpa[gi] using ag
    replace d:=d.f0 aG
    replace u:=u.f0 aG
    refine wlL [((ob v11++[])++((ob v10++[]))),ob S,Y,ob L,x,ob k] (smg [1,1] J (SP.eq (by simp[gi,cT]))) ?_
    obtain⟨bB,aQ,h⟩:=bs h
    refine le' (et av.lasts av.one ep xk J J J J J (js:=[3]) (Rr:=[((ob v11++[])++((ob v10++[]))),ob S,Y,x,ob k]) J u ag (fun ap=>ap.q 2 J) (fun ap=>ap.q 0 J) aQ) J ?_
    rintro aR bC D4 ⟨⟨aH,aS⟩,aT⟩
    replace d:=d.fr aS (aH.q 4 J) (aH.q 3 J)
    refine wlL [(Y++((ob v11++[])++((ob v10++[])))),ob aR,ob S,x,ob k] (smg [3,1] J (SP.eq OZ))<|art 7 [] J ?_
    exact lb [0,0,1,1] [1,1,1] (ax (_,_,_,_,_) ⟨h,d,aT⟩)
   refine att 6 [] J ?_
   exact lb [1,1,1,1] [1,1,1] (ax (_,_,_,_,_) ⟨h,d,u⟩)
  refine atr 4 [] J<|kcb [1,0] h J J J J (fun b ap z q=>kE N b s3 (eu N) u MG (fun bD aU a0 a1=>fun f0 f1 f2 f3=>fun hr=>tf N (ba aU) a0 a1 f0 f1 f2 f3 hr) q) ?_
  rintro bE h bF bG F8 ⟨aI,aV,D5,rfl,rfl,aW⟩
  replace d:=d.fr aV (aI.q 1 J) (aI.q 0 J)
  refine arr 4 [] J ?_
  obtain⟨bH,aX,h⟩:=bs h
  refine le' (et av.lasts av.one ep xk J J J J J (js:=[3]) (Rr:=[ob L,D5,x]) J d aW (fun ap=>ap.q 2 J) (fun ap=>ap.q 1 J) aX) J ?_
  rintro aZ bI D6 ⟨⟨bJ,bK⟩,b8⟩
  refine wlL [(x++D5),ob aZ,ob L] (smg [3,2] J (SP.eq OZ))<|art 7 [] J ?_
  exact lb [0,0] [1,1] (ak (_,_,_,_,_) ⟨h,b8⟩)
 refine att 6 [] J ?_
 exact rtg [1,0] hF (aC.one J) J (by cases h;exact fun w1 hw=>⟨k,x,rfl,rfl,d⟩)
theorem yF (w0:aA e f []) (b:ah) (c:af) (i:(List aq)) (q:RSl cI 3 e t j b.Pats) (E:RSl bT 11 e ai o b.Conds) (F:RSl fm 5 e b5 b4 b.Acts) (w:RSl bm 3 e a6 l c.Items) (x:RSl aG 4 e b7 aj i) {r:Bool} (h:oh N b c i=some r) :
  CB w0 prog 226 [.agg [.string b.Name,iV b.Sal,j,o,b4].toArray,.agg [l,iV c.Next].toArray,aj] (.bool r):=by
 refine eN func226 J ntmps226 J w0 fun u=>?_
 unfold oh at h
 refine sr<|lbx J fun G=>lbx J fun k=>arr 7 [2,32] J<|lnr q J<|art 3 [] J ?_
 refine lin (σ:=Int) (fun s=>[(2,aj),(4,pQ k),(10,j),(11,iV (b.Pats.length:Int)),(12,iV s)]) (fun s=>St w0 f [(k,.cells #[l,iV c.Next] 29 (0,0))] []) (fun m s=>gp N b c i m s=some r) (0) N h (sx [] [0]) (fun y z s hm=>?_)
 revert hm;revert s;intro s1 hm
 have h:gp N b c i (y+1) s1=some r:=hm
 show WT _ _ [(2,aj),(4,pQ k),(10,j),(11,iV (b.Pats.length:Int)),(12,iV s1)] (St w0 f [(k,.cells #[l,iV c.Next] 29 (0,0))] [])
 unfold gp at h
 refine att 5 [] J ?_
 refine ch h J ?_ ?_ <;> intro h
 ·refine atr 5 [] J ?_
  obtain⟨A,v,h⟩:=bs h
  obtain⟨H,I,-,g1,L,M,B⟩:=q.el (a8 v).2.2
  obtain⟨v1,O,rfl,C,h1⟩:=B
  obtain rfl:=C.symm
  refine lia q v J<|lhx 0 3 g1 J<|lnz mg J fun P=>soN 0 pO J ⟨J,h1.one,J,trivial⟩ J ?_
  refine arr 6 [2,0] J ?_
  obtain⟨D,d,h⟩:=bs h
  refine WL.cutN 6 [(24,.bool D),(2,aj),(4,pQ k),(10,j),(11,iV (b.Pats.length:Int)),(12,iV s1)] ?_ (fun K=>?_)
  rotate_left
  ·refine sp 18 d J (fun d=>?_) fun d=>?_
   ·refine arr 3 [3,34] J<|ly J J<|qd d (uU N · A c i h1 w x ·) J J J fun Q d=>arr 2 [] J ?_
    cases d
    exact ku K
   ·refine arr 6 [] J ?_
    cases d
    exact ku K
  refine en ?_
  refine ch h J ?_ ?_ <;> intro h
  ·refine att 4 [] J ?_
   exact rt u h
  refine att 6 [] J ?_
  exact lb [] [1] (z _ h)
 refine att 5 [] J ?_
 exact rt u h
end Go.Proofs.YtedmfnmbjglmbaaGreat
