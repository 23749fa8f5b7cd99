/- Printed by a program of ours: each Go function computes its Lean function. -/
import Derived.Test.YtedmfnmbjglmbaaGreatProg
import Derived.Test.YtedmfnmbjglmbaaGreatWSetsWalk4
namespace Go.Proofs.YtedmfnmbjglmbaaGreat
open Eng Tryz
open Go.RowKit (Below)
set_option linter.unusedVariables false
set_option linter.unusedSimpArgs false

set_option maxRecDepth 100000
set_option maxHeartbeats 1000000
variable {e f:Hp} {j l g p o t b4 ar:Value} {ad a6 n b2 aE b3 pG2_0 b5:List Nat} {a:Nat} (N:Nat)
theorem iL {d:Nat} {i:List Value} (w0:av e f []) (b:(List ah)) (k:(List ah)) (q:ah→ah→Option (Bool)) (u:RSl cL 2 e ad j b) (v:RSl cL 2 e a6 l k) (I:Fun prog d=true) (K:∀ {c:Hp} {w':World},FrH [] f c→In c w'→∀ (w:ah) (x:ah) {z:Value} {L:List Nat} {A:Value} {M:List Nat} {B:Value} {O:List Nat} {C:Value} {P:List Nat} (_:RSl (RI .i64) 1 c L z w.Ids) (_:RSl (RI .i64) 1 c M A w.Hits) (_:RSl (RI .i64) 1 c O B x.Ids) (_:RSl (RI .i64) 1 c P C x.Hits) {r:Bool},q w x=some r→Calls prog d (([.agg [z,A].toArray,.agg [B,C].toArray]:List Value)++i).toArray w' (pV (.bool r) w')) {r:Bool} (h:bS N b k q=some r) :
  CB w0 prog 182 [j,l,.func (.func d) #[] i.toArray] (.bool r):=by
 refine eN func182 J ntmps182 J w0 fun y=>?_
 unfold bS at h
 refine atr 8 [] J<|lnr u J<|la J<|lnr v J<|la J<|en ?_
 refine ch h J ?_ ?_ <;> intro h
 ·refine att 4 [] J ?_
  exact rt y h
 refine atr 5 [] J<|lnr u J<|art 3 [] J ?_
 refine lin (σ:=Int) (fun s=>[(1,l),(2,.func (.func d) #[] i.toArray),(15,j),(16,iV (b.length:Int)),(17,iV s)]) (fun s=>St w0 f [] []) (fun m s=>aL N b k q m s=some r) (0) N h (sx [] []) (fun Q R s hm=>?_)
 revert hm;revert s;intro s1 hm
 have h:aL N b k q (Q+1) s1=some r:=hm
 show WT _ _ [(1,l),(2,.func (.func d) #[] i.toArray),(15,j),(16,iV (b.length:Int)),(17,iV s1)] (St w0 f [] [])
 unfold aL at h
 refine att 5 [] J ?_
 refine ch h J ?_ ?_ <;> intro h
 ·refine atr 6 [] J ?_
  obtain⟨S,D,h⟩:=bs h
  obtain⟨X,Y,-,g1,Z,a1,T⟩:=u.el (aa D).2.2
  obtain⟨v1,G1,v2,G2,rfl,rfl,h1,E⟩:=T
  refine lia u D J<|lhx 0 2 g1 J<|lnz fa J fun a7=>la J<|soN 0 sC J ⟨h1.one,E.one,trivial⟩ J ?_
  refine arr 5 [] J ?_
  obtain⟨U,F,h⟩:=bs h
  obtain⟨a8,F2,-,g2,ab,ae,V⟩:=v.el (aa F).2.2
  obtain⟨v3,G3,v4,G4,rfl,rfl,G,H⟩:=V
  refine lia v F J<|lhx 0 2 g2 J<|lnz fa J fun af=>soN 0 sC J ⟨G.one,H.one,trivial⟩ J ?_
  refine arr 6 [34,2] J ?_
  obtain⟨x3,W,h⟩:=bs h
  refine lp (th I J J (fun w1 hw=>K hw.frB hw.fro S U (h1.y hw.up) (E.y hw.up) (G.y hw.up) (H.y hw.up) W)) J<|la J<|en ?_
  refine ch h J ?_ ?_ <;> intro h
  ·refine att 4 [] J ?_
   exact rt y h
  refine att 6 [] J ?_
  exact lb [] [] (R _ h)
 refine att 5 [] J ?_
 exact rt y h
theorem ye (w0:av e f []) (b:ah) (c:ah) (d:RSl (RI .i64) 1 e n g b.Ids) (i:RSl (RI .i64) 1 e b2 p b.Hits) (k:RSl (RI .i64) 1 e aE o c.Ids) (m:RSl (RI .i64) 1 e b3 t c.Hits) {r:Bool} (h:lC N b c=some r) :
  CB w0 prog 183 [.agg [g,p].toArray,.agg [o,t].toArray] (.bool r):=by
 refine eN func183 J ntmps183 J w0 fun q=>?_
 unfold lC at h
 refine sr<|lbx J fun s=>lbx J fun u=>arr 6 [34,2] J<|qd h (l8 N · b c d i k m ·) J J J fun v h=>art 3 [] J ?_
 exact rt q h
theorem vA (w0:av e f []) (s:ao) (u:ao) (c:RSl cL 2 e n g s.Toks) (m:RSl cL 2 e aE o u.Toks) {r:Bool} (h:ig N s u=some r) :
  CB w0 prog 114 [.agg [g].toArray,.agg [o].toArray] (.bool r):=by
 refine eN func114 J ntmps114 J w0 fun B=>?_
 unfold ig at h
 refine sr ?_
 refine ln (w5 (C:=#[g]) J J) J (fun Y=>?_)
 refine ln (w5 (C:=#[o]) J J) J (fun Z=>?_)
 refine arr 7 [0,32] J<|lnr c J<|arr 2 [0,0] J<|lnr m J<|la J<|en ?_
 refine ch h J ?_ ?_ <;> intro h
 ·refine att 4 [] J ?_
  exact rt B h
 refine att 2 [] J<|wm [0,1] [] J<|amm 4 [0,0,1,32,3,0,4,0] [0,1] J J ?_
 obtain⟨I,K,h⟩:=bs h
 refine WM.one 2 MA (mc J (fun _ v L D w M hw=>Kn.of Kf.nil (ai2 0 1 J J) hw) (bt (js:=[]) (R:=[]) DV J J (fun w hw ap O=>ke N (ba hw.fro) s.Toks (c.y hw.up)  K)) J ?_)
 rintro v1 a7 F1 ⟨a8,aa,v2,D1,rfl,rfl,h1,x⟩
 obtain⟨P,Q,h⟩:=bs h
 refine WM.one 5 MA (mc J (fun _ v L D w M hw=>Kn.of Kf.nil (ai2 0 1 J J) hw) (bt (js:=[]) (R:=[ob v1]) DV J J (fun w hw ap O=>ke N (ba hw.fro) u.Toks (m.y hw.up)  Q)) J ?_)
 rintro v3 ab F2 ⟨E,S,v4,D2,rfl,rfl,y,i2⟩
 replace h1:=h1.fr S (E.q 0 J) (Dj.sub (E.o c.old) x)
 refine amm 2 [6,7] [0,1] J J<|WM.nil MA<|sr<|la J<|kcb [1] h J J J J (fun b ap z q=>iT N b I (cE N) h1 Dw (fun F d a0 i=>fun f0 f1 f2 f3=>fun k=>l8 N (ba d) a0 i f0 f1 f2 f3 k) (Dj.sub (ap.o c.old) x) q) ?_
 rintro T h v5 ae F3 ⟨G,U,D3,rfl,rfl,A,i3⟩
 replace y:=y.fr U (G.q 0 J) (Dj.sub (G.o m.old) i2)
 refine arr 4 [] J<|kcb [1] h J J J J (fun b ap z q=>iT N b P (cE N) y Dw (fun F d a0 i=>fun f0 f1 f2 f3=>fun k=>l8 N (ba d) a0 i f0 f1 f2 f3 k) (Dj.sub (ap.o m.old) i2) q) ?_
 rintro V h v6 af F4 ⟨H,W,D4,rfl,rfl,X,i4⟩
 replace A:=A.fr W (H.q 0 J) (Dj.sub (Dj.sub (H.o c.old) x) i3)
 refine arr 5 [] J<|qc h (iL N · T V (lC N) A.rsl X.rsl Ir (fun F d a0 i=>fun f0 f1 f2 f3=>fun k=>ye N (ba d) a0 i f0 f1 f2 f3 k) ·) J J J fun x5 h=>la J<|en ?_
 exact rt B h
theorem uA (w0:av e f []) (c:aP) (d:aP) (i:RSl gV 1 e n g c.Levels) (k:RSl gV 1 e aE o d.Levels) {r:Bool} (h:ff N c d=some r) :
  CB w0 prog 112 [.agg [g].toArray,.agg [o].toArray] (.bool r):=by
 refine eN func112 J ntmps112 J w0 fun m=>?_
 unfold ff at h
 refine sr ?_
 refine ln (w5 (C:=#[g]) J J) J (fun w=>?_)
 refine ln (w5 (C:=#[o]) J J) J (fun x=>?_)
 refine arr 8 [0,32,0,0] J<|qz h (fun b z q=>gt N b c.Levels d.Levels (ig N) (i.y z) (k.y z) It (fun y s a0 u=>fun f0 f1=>fun v=>vA N (ba s) a0 u f0 f1 v) q) J J J fun A h=>la J<|en ?_
 exact rt m h
theorem xY (w0:av e f []) (d:aI) (i:aI) (u:RSl iv 1 e n g d.Alphas) (v:RSl lw 1 e b2 p d.Rules) (w:RSl iv 1 e aE o i.Alphas) (x:RSl lw 1 e b3 t i.Rules) {r:Bool} (h:nv N d i=some r) :
  CB w0 prog 49 [.agg [g,p].toArray,.agg [o,t].toArray] (.bool r):=by
 refine eN func49 J ntmps49 J w0 fun y=>?_
 unfold nv at h
 refine sr<|lbx J fun C=>lbx J fun D=>arr 8 [0,32,0,0] J<|qz h (fun b z q=>iK N b d.Alphas i.Alphas (gz N) (u.y z) (w.y z) Im (fun A k a0 m=>fun f0 f1=>fun s=>vo N (ba k) a0 m f0 f1 s) q) J J J fun E h=>arr 6 [] J ?_
 obtain⟨B,c,h⟩:=bs h
 refine WL.cutN 6 [(18,.bool B),(4,.bool false)] ?_ (fun K=>?_)
 rotate_left
 ·refine sp 12 c J (fun c=>?_) fun c=>?_
  ·refine arr 4 [1,32,1,0] J<|ly J J<|qz c (fun b z q=>iM N b d.Rules i.Rules (ff N) (v.y z) (x.y z) Iq (fun A k a0 m=>fun f0 f1=>fun s=>uA N (ba k) a0 m f0 f1 s) q) J J J fun F c=>la J ?_
   cases c
   exact ku K
  ·refine arr 6 [] J ?_
   cases c
   exact ku K
 refine la J<|en ?_
 exact rt y h
theorem wv (w0:av e f []) (k:bo) (q:aI) (c:ag) (u:RSl cr 5 e n g k.Rules) (x:RSl iv 1 e aE o q.Alphas) (y:RSl lw 1 e b3 t q.Rules) (w:RSl bj 3 e pG2_0 b4 c.Items) {r:Bool} (h:lR N k q c=some r) :
  CB w0 prog 13 [.agg [.string k.Name,g].toArray,.agg [o,t].toArray,.agg [b4,iV c.Next].toArray] (.bool r):=by
 refine eN func13 J ntmps13 J w0 fun s=>?_
 unfold lR at h
 refine sr<|lbx J fun H=>lbx J fun I=>lbx J fun K=>art 3 [] J<|wm [0,1,2] [] J<|amm 1 [0,66] [0,1,2] J J ?_
 obtain⟨L,A,h⟩:=bs h
 refine on1 1 (mp J (kS [0,1,2]) (pdP J (Au N · k u A)) J ?_)
 refine amm 1 [2] [0,1,2] J J ?_
 refine WM.split (d:=9) J (fun c1=>?_) (fun c1=>?_)
 ·replace h:=fR h c1
  refine mqG 3 [4,5,6,7,8,9,10,11,12,13] J MA (kN [0,1,2]) (aC rm J (fun m hw=>hw.rgO (i:=0) J 0 2 [b4,iV c.Next] J) J) J ?_
  obtain⟨M,B,h⟩:=bs h
  refine on1 4 (mpG J (kS [0,1,2]) (pdP J (xG N · c w B)) J ?_)
  refine amm 2 [5,6] [0,1,2] J J ?_
  refine WM.split (d:=13) J (fun c2=>?_) (fun c2=>?_)
  ·replace h:=fR h c2
   refine mqG 7 [11,12,13] J MA (kN [0,1,2]) (aC vr J (fun m hw=>hw.rgO (i:=1) J 0 2 [o,t] J) J) J<|mqG 8 [10,11,12,13] J MA (kN [0,1,2]) (aC BE J (fun m hw=>hw.rgO (i:=2) J 0 2 [.string k.Name,g] J) J) J<|mqG 9 [10,11,12,13] J MA (kN [0,1,2]) (aC rm J (fun m hw=>hw.rgO (i:=0) J 0 2 [b4,iV c.Next] J) J) J ?_
   obtain⟨C,E,h⟩:=bs h
   refine WM.one 10 MA (mcG J (fun _ v O D m P hw=>Kn.of Kf.nil (ai3 0 1 2 J J J) hw) (bt (js:=[]) (R:=[]) KE J J (fun m hw ap Q=>AE N (ba hw.fro) k c (u.y hw.up) (w.y hw.up)  E)) J ?_)
   rintro v1 S T ⟨U,V,v2,W,v3,X,rfl,rfl,h1,F⟩
   obtain⟨Y,G,h⟩:=bs h
   refine on1 11 (mpG J (kS [0,1,2]) (pzP J (fun b z=>xY N b q C (x.y z) (y.y z) (h1.rslG bk.gives) (F.rslG bc.gives) G)) J ?_)
   refine amm 2 [12,13] [0,1,2] J J<|WM.nil MA ?_
   exact rt s h
  replace h:=fO h c2
  refine mno 7 [11,12,13] J MA (kn Kf.nil (ai3 0 1 2 J J J)) J (.inl J) J J<|mno 8 [10,11,12,13] J MA (kn Kf.nil (ai3 0 1 2 J J J)) J (.inl J) J J<|mno 9 [10,11,12,13] J MA (kn Kf.nil (ai3 0 1 2 J J J)) J (.inl J) J J<|mno 10 [11,12,13] J MA (kn Kf.nil (ai3 0 1 2 J J J)) J (.inl J) J J<|mno 11 [12,13] J MA (kn Kf.nil (ai3 0 1 2 J J J)) J (.inl J) J J<|amm 2 [12,13] [0,1,2] J J<|WM.nil MA ?_
  exact rt s h
 replace h:=fO h c1
 refine mno 3 [4,5,6,7,8,9,10,11,12,13] J MA (kn Kf.nil (ai3 0 1 2 J J J)) J (.inl J) J J<|mno 4 [5,6,7,8,9,10,11,12,13] J MA (kn Kf.nil (ai3 0 1 2 J J J)) J (.inl J) J J<|amm 2 [5,6] [0,1,2] J J<|mno 7 [11,12,13] J MA (kn Kf.nil (ai3 0 1 2 J J J)) J (.inl J) J J<|mno 8 [10,11,12,13] J MA (kn Kf.nil (ai3 0 1 2 J J J)) J (.inl J) J J<|mno 9 [10,11,12,13] J MA (kn Kf.nil (ai3 0 1 2 J J J)) J (.inl J) J J ?_
 refine mno 10 [11,12,13] J MA (kn Kf.nil (ai3 0 1 2 J J J)) J (.inl J) J J<|mno 11 [12,13] J MA (kn Kf.nil (ai3 0 1 2 J J J)) J (.inl J) J J<|amm 2 [12,13] [0,1,2] J J<|WM.nil MA ?_
 exact rt s h
theorem gr {d:Nat} {i:List Value} (w0:av e f []) (b:(List aj)) (k:(List aj)) (q:aj→aj→Option (Bool)) (u:RSl dH 3 e ad j b) (x:RSl dH 3 e a6 l k) (I:Fun prog d=true) (K:∀ {c:Hp} {w':World},FrH [] f c→In c w'→∀ (v:aj) (w:aj) {z:Value} {L:List Nat} {A:Value} {M:List Nat} {B:Value} {O:List Nat} {C:Value} {P:List Nat} (_:RSl (RI .i64) 1 c L z v.Ids) (_:RSl aB 4 c M A v.Binds) (_:RSl (RI .i64) 1 c O B w.Ids) (_:RSl aB 4 c P C w.Binds) {r:Bool},q v w=some r→Calls prog d (([.agg [iV v.Rule,z,A].toArray,.agg [iV w.Rule,B,C].toArray]:List Value)++i).toArray w' (pV (.bool r) w')) {r:Bool} (h:bd N b k q=some r) :
  CB w0 prog 50 [j,l,.func (.func d) #[] i.toArray] (.bool r):=by
 refine eN func50 J ntmps50 J w0 fun y=>?_
 unfold bd at h
 refine atr 8 [] J<|lnr u J<|la J<|lnr x J<|la J<|en ?_
 refine ch h J ?_ ?_ <;> intro h
 ·refine att 4 [] J ?_
  exact rt y h
 refine atr 5 [] J<|lnr u J<|art 3 [] J ?_
 refine lin (σ:=Int) (fun s=>[(1,l),(2,.func (.func d) #[] i.toArray),(15,j),(16,iV (b.length:Int)),(17,iV s)]) (fun s=>St w0 f [] []) (fun m s=>aS N b k q m s=some r) (0) N h (sx [] []) (fun Q R s hm=>?_)
 revert hm;revert s;intro s1 hm
 have h:aS N b k q (Q+1) s1=some r:=hm
 show WT _ _ [(1,l),(2,.func (.func d) #[] i.toArray),(15,j),(16,iV (b.length:Int)),(17,iV s1)] (St w0 f [] [])
 unfold aS at h
 refine att 5 [] J ?_
 refine ch h J ?_ ?_ <;> intro h
 ·refine atr 6 [] J ?_
  obtain⟨S,D,h⟩:=bs h
  obtain⟨X,Y,-,g1,Z,a1,T⟩:=u.el (aa D).2.2
  obtain⟨v1,G1,v2,G2,rfl,rfl,h1,E⟩:=T
  refine lia u D J<|lhx 0 3 g1 J<|lnz mm J fun a7=>la J<|soN 0 IV J ⟨J,h1.one,E.one,trivial⟩ J ?_
  refine arr 5 [] J ?_
  obtain⟨U,F,h⟩:=bs h
  obtain⟨a8,F2,-,g2,ab,ae,V⟩:=x.el (aa F).2.2
  obtain⟨v3,G3,v4,G4,rfl,rfl,G,H⟩:=V
  refine lia x F J<|lhx 0 3 g2 J<|lnz mm J fun af=>soN 0 IV J ⟨J,G.one,H.one,trivial⟩ J ?_
  refine arr 6 [35,3] J ?_
  obtain⟨x3,W,h⟩:=bs h
  refine lp (th I J J (fun w1 hw=>K hw.frB hw.fro S U (h1.y hw.up) (E.y hw.up) (G.y hw.up) (H.y hw.up) W)) J<|la J<|en ?_
  refine ch h J ?_ ?_ <;> intro h
  ·refine att 4 [] J ?_
   exact rt y h
  refine att 6 [] J ?_
  exact lb [] [] (R _ h)
 refine att 5 [] J ?_
 exact rt y h
theorem rc (w0:av e f []) (c:aj) (d:aj) (i:RSl (RI .i64) 1 e n g c.Ids) (s:RSl aB 4 e b2 p c.Binds) (k:RSl (RI .i64) 1 e aE o d.Ids) (u:RSl aB 4 e b3 t d.Binds) {r:Bool} (h:jz N c d=some r) :
  CB w0 prog 28 [.agg [iV c.Rule,g,p].toArray,.agg [iV d.Rule,o,t].toArray] (.bool r):=by
 refine eN func28 J ntmps28 J w0 fun m=>?_
 unfold jz at h
 refine sr<|lbx J fun v=>lbx J fun w=>arr 10 [0,32,0,0] J ?_
 obtain⟨q,b,h⟩:=bs h
 refine WL.cutN 6 [(16,.bool q),(4,.bool false)] ?_ (fun K=>?_)
 rotate_left
 ·refine sp 10 b J (fun b=>?_) fun b=>?_
  ·refine arr 4 [1,32,1,0] J<|ly J J<|qd b (j6 N · c.Ids d.Ids i k ·) J J J fun x b=>la J ?_
   cases b
   exact ku K
  ·refine arr 6 [] J ?_
   cases b
   exact ku K
 refine la J<|en ?_
 exact rt m h
theorem nU (w0:av e f []) (b:(List aq)) (i:(List aq)) (k:RSl aB 4 e ad j b) (q:RSl aB 4 e a6 l i) {r:Bool} (h:d9 N b i=some r) :
  CB w0 prog 52 [j,l] (.bool r):=by
 refine eN func52 J ntmps52 J w0 fun u=>?_
 unfold d9 at h
 refine atr 8 [] J<|lnr k J<|la J<|lnr q J<|la J<|en ?_
 refine ch h J ?_ ?_ <;> intro h
 ·refine att 4 [] J ?_
  exact rt u h
 refine atr 5 [] J<|lnr k J<|art 3 [] J ?_
 refine lin (σ:=Int) (fun s=>[(0,j),(1,l),(12,iV (b.length:Int)),(13,iV s)]) (fun s=>St w0 f [] []) (fun m s=>bJ N b i m s=some r) (0) N h (sx [] []) (fun x y s hm=>?_)
 revert hm;revert s;intro s1 hm
 have h:bJ N b i (x+1) s1=some r:=hm
 show WT _ _ [(0,j),(1,l),(12,iV (b.length:Int)),(13,iV s1)] (St w0 f [] [])
 unfold bJ at h
 refine att 5 [] J ?_
 refine ch h J ?_ ?_ <;> intro h
 ·refine att 9 [] J<|WT.draw mixed MA (fun _ h=>h.drew)<|aqq 2 [] J ?_
  obtain⟨c,v,h⟩:=bs h
  obtain⟨C,D,-,g1,E,F,z⟩:=k.el (aa v).2.2
  obtain⟨rfl,-⟩:=z
  refine qq (ae gJ J J k v) J<|qq (aC DW J (fun A hw=>(g1.of_eq 0 4 J J:rg _ _ _ [.string c.Name,iV c.V.K,iV c.V.N,.string c.V.S]).rangeAt hw.in0) J) J<|aqq 2 [] J ?_
  obtain⟨d,w,h⟩:=bs h
  obtain⟨G,H,-,g2,I,K,B⟩:=q.el (aa w).2.2
  obtain⟨rfl,-⟩:=B
  refine qq (ae gJ J J q w) J<|qq (aC DW J (fun A hw=>(g2.of_eq 0 4 J J:rg _ _ _ [.string d.Name,iV d.V.K,iV d.V.N,.string d.V.S]).rangeAt hw.in0) J) J<|qq (sW Gt J J J (r:=oG c d) J) J<|WQ.nil ?_
  refine ch h J ?_ ?_ <;> intro h
  ·refine att 4 [] J ?_
   exact rt u h
  refine att 6 [] J ?_
  exact lb [] [] (y _ h)
 refine att 5 [] J ?_
 exact rt u h
theorem uU (w0:av e f []) (c:aj) (d:aj) (m:RSl (RI .i64) 1 e n g c.Ids) (i:RSl aB 4 e b2 p c.Binds) (q:RSl (RI .i64) 1 e aE o d.Ids) (k:RSl aB 4 e b3 t d.Binds) {r:Bool} (h:fk N c d=some r) :
  CB w0 prog 51 [.agg [iV c.Rule,g,p].toArray,.agg [iV d.Rule,o,t].toArray] (.bool r):=by
 refine eN func51 J ntmps51 J w0 fun s=>?_
 unfold fk at h
 refine sr<|lbx J fun v=>lbx J fun w=>arr 6 [35,3] J<|qd h (rc N · c d m i q k ·) J J J fun x h=>la J ?_
 obtain⟨u,b,h⟩:=bs h
 refine WL.cutN 6 [(14,.bool u),(4,.bool false)] ?_ (fun K=>?_)
 rotate_left
 ·refine sp 8 b J (fun b=>?_) fun b=>?_
  ·refine arr 4 [2,32,2,0] J<|ly J J<|qd b (nU N · c.Binds d.Binds i k ·) J J J fun y b=>la J ?_
   cases b
   exact ku K
  ·refine arr 6 [] J ?_
   cases b
   exact ku K
 refine la J<|en ?_
 exact rt s h
theorem t6 (w0:av e f []) (c:(List aj)) (d:(List aj)) (i:RSl dH 3 e ad j c) (k:RSl dH 3 e a6 l d) {r:Bool} (h:lE N c d=some r) :
  CB w0 prog 14 [j,l] (.bool r):=by
 refine eN func14 J ntmps14 J w0 fun m=>?_
 unfold lE at h
 refine atr 8 [] J<|qz h (fun b z q=>gr N b c d (fk N) (i.y z) (k.y z) Ju (fun w s a0 u=>fun f0 f1 f2 f3=>fun v=>uU N (ba s) a0 u f0 f1 f2 f3 v) q) J J J fun x h=>la J<|en ?_
 exact rt m h
theorem vd (w0:av e f []) (c:(List Int)) (b:RSl (RI .u8) 1 e ad j c) {r:a8} (h:oI N c=some r) :
  Calls prog 34 [j].toArray w0.w (be f w0.w [] (fun i Fs v=>∃ (b0:Nat) (q:Value) (u:List Nat),v=pQ b0∧Fs=[[b0]]∧RSl (RI .u8) 1 i u q r.b∧(∀ k∈u,k∈ad)∧i b0=some (.cells #[q,iV r.i,iV r.h] 144 (0,0)))):=by
 refine eN func34 J ntmps34 J w0 fun x=>?_
 unfold oI at h
 refine atr 7 [] J<|lnr b J<|art 9 [] J ?_
 refine lin (σ:=Int × Int) (fun s=>[(0,j),(3,iV s.1),(4,iV s.2)]) (fun s=>St w0 f [] []) (fun m s=>j9 N c m s.1 s.2=some r) (wz (354354+(c.length:Int)),0) N h (sx [] []) (fun y z s hm=>?_)
 obtain⟨s1,s2⟩:=s
 have h:j9 N c (y+1) s1 s2=some r:=hm
 show WT _ _ [(0,j),(3,iV s1),(4,iV s2)] (St w0 f [] [])
 unfold j9 at h
 refine atr 5 [] J<|lnr b J<|arr 2 [] J ?_
 obtain⟨A,d,h⟩:=bs h
 refine WL.cutN 3 [(15,.bool A),(0,j),(3,iV s1),(4,iV s2)] ?_ (fun K=>?_)
 rotate_left
 ·refine sp 12 d J (fun d=>?_) fun d=>?_
  ·refine arr 3 [] J ?_
   cases d
   exact ku K
  ·refine arr 3 [] J ?_
   cases d
   exact ku K
 refine en ?_
 refine ch h J ?_ ?_ <;> intro h
 ·refine atr 8 [] J ?_
  obtain⟨F,w,h⟩:=bs h
  obtain⟨G,H,-,g1,I,L,B⟩:=b.el (aa w).2.2
  obtain⟨rfl,-⟩:=B
  refine lia b w J<|lhx 0 0 g1 J<|lq (tf EN ES J) J<|arr 2 [] J<|lq (GV J J) J<|art 8 [] J ?_
  exact lb [] [] (z (_,_) h)
 refine atr 5 [] J<|lq (aU (vs:=[(0,j),(2,iV s1)]) (C:=#[j,iV 0,iV s1]) JQ Ki J (a7 (C':=[j,iV 0,iV 0]) J (bh b.one) J J J (a7 (C':=[j,iV 0,iV s1]) J J J J J (ab)))) J<|lbx J fun D=>la J<|en ?_
 refine WT.frz (js:=[0]) (R:=[]) J (fun M O E=>?_)
 exact rtg [0] x (aA.one J) J (by cases h;exact fun P hw=>⟨D,j,ad,rfl,rfl,(b.y hw.up),(fun k hk=>hk),E⟩)
theorem nf (w0:av e f [[a]].flatten) (b:a8) (c:RSl (RI .u8) 1 e n g b.b) (d:f a=some (.cells #[g,iV b.i,iV b.h] 144 (0,0))) {r:Int × a8} (h:jU N b=some r) :
  Calls prog 143 [pQ a].toArray w0.w (be f w0.w [[a]].flatten (fun q Fs v=>v=iV r.1∧Fs=[[a]]∧r.2.b=b.b∧q a=some (.cells #[g,iV r.2.i,iV r.2.h] 144 (0,0)))):=by
 refine eL func143 J ntmps143 J (L:=[[a]]) w0 (fun i=>?_)
 unfold jU at h
 refine atr 8 [] J<|lq (aG J) J<|lf zp J J J<|lgx 2 0 (bZ d) J<|arr 2 [] J<|lq (aG J) J<|lf zp J J J ?_
 refine WL.thw (js:=[0]) (R:=[]) J d (fun y z A=>?_)
 refine so1 0 vv J J ?_
 refine en<|sq<|WT.draw mixed MA (fun _ h=>h.drew)<|qq (de J) J<|qq (aG J) J<|aqq 2 [2,0] J<|qq (IW J J (by decide)) J<|qq (de J) J<|qq (aG J) J<|aqq 2 [2,0] J<|qq (IW J J (by decide)) J<|qq (KR J J) J<|qq (GV J J) J<|aqt 4 [] J<|WT.draw mixed MA (fun _ h=>h.drew)<|qq (de J) J<|qq (aG J) J<|aqq 3 [1,0] J<|qq (aG J) J<|aqq 2 [0,0] J<|qq (mF Bx J J c) J<|aqt 2 [] J ?_
 refine ch h J ?_ ?_ <;> intro h
 ·refine sq<|WT.draw mixed MA (fun _ h=>h.drew)<|aqq 2 [] J<|qq (aG J) J<|aqq 3 [0,0] J<|qq (aG J) J<|aqq 2 [1,0] J ?_
  obtain⟨s,k,h⟩:=bs h
  obtain⟨B,C,-,g1,D,E,u⟩:=c.el (aa k).2.2
  obtain⟨rfl,-⟩:=u
  refine qq (ae Bx J J c k) J<|qq (az LT J (fun m hw=>(g1.of_eq 0 1 J J:rg _ _ _ [.int .u8 s]).rangeAt hw.in0)) J<|qq (tf EN ES J) J<|qq (Ja J J) J<|qq (GV J J) J<|aqr 5 [] J<|lq (aG J) J<|arr 3 [1,0] J<|lq (aG J) J<|lf EE J J J<|so1 0 vv J J ?_
  refine art 6 [] J ?_
  refine WT.frz (js:=[0]) (R:=[]) J (fun F G w=>?_)
  exact rtg [0] i (aA.one J) J (by cases h;exact fun m hw=>⟨rfl,rfl,rfl,w⟩)
 refine att 6 [] J ?_
 refine WT.frz (js:=[0]) (R:=[]) J (fun H I x=>?_)
 exact rtg [0] i (aA.one J) J (by cases h;exact fun m hw=>⟨rfl,rfl,rfl,x⟩)
theorem aJ (w0:av e f [[a]].flatten) (c:a8) (m:Int) (d:RSl (RI .u8) 1 e n g c.b) (i:f a=some (.cells #[g,iV c.i,iV c.h] 144 (0,0))) {r:Int × a8} (h:aV N c m=some r) :
  Calls prog 75 [pQ a,iV m].toArray w0.w (be f w0.w [[a]].flatten (fun x Fs v=>v=iV r.1∧Fs=[[a]]∧r.2.b=c.b∧x a=some (.cells #[g,iV r.2.i,iV r.2.h] 144 (0,0)))):=by
 refine eL func75 J ntmps75 J (L:=[[a]]) w0 (fun k=>?_)
 unfold aV at h
 refine att 10 [] J ?_
 refine ch h J ?_ ?_ <;> intro h
 ·refine att 4 [] J ?_
  exact rtg [0] k (aA.one J) J (by cases h;exact fun s hw=>⟨rfl,rfl,rfl,i⟩)
 refine att 7 [] J ?_
 refine ch h J ?_ ?_ <;> intro h
 ·refine sr<|la J<|kcb [0] h J J J J (fun b ap z q=>nf N b c (d.y z) i q) ?_
  rintro E h v1 F G ⟨H,I,rfl,rfl,K,h1⟩
  refine la J ?_
  obtain⟨M,y,h⟩:=bs h
  refine lq (Gu J J y) J<|la J<|en ?_
  exact rtg [0] k (aA.one J) J (by cases h;exact fun s hw=>⟨rfl,rfl,rfl,h1⟩)
 refine atr 4 [] J<|kcb [0] h J J J J (fun b ap z q=>nf N b c (d.y z) i q) ?_
 rintro u h v2 O P ⟨Q,R,rfl,rfl,S,A⟩
 refine arr 5 [] J<|kcb [0] h J J J J (fun b ap z q=>nf N b (⟨c.b,u.2.i,u.2.h⟩:a8) (d.y z) A q) ?_
 rintro w h v3 T U ⟨V,W,rfl,rfl,X,B⟩
 refine arr 5 [] J<|kcb [0] h J J J J (fun b ap z q=>nf N b (⟨c.b,w.2.i,w.2.h⟩:a8) (d.y z) B q) ?_
 rintro Y h v4 Z F4 ⟨a1,a7,rfl,rfl,e4,C⟩
 refine arr 12 [] J ?_
 obtain⟨x6,D,h⟩:=bs h
 refine lq (Gu J J D) J<|la J<|en ?_
 exact rtg [0] k (aA.one J) J (by cases h;exact fun s hw=>⟨rfl,rfl,rfl,C⟩)
theorem bT (w0:av e f [[a]].flatten) (c:a8) (d:(List ByteArray)) (m:RSl (RI .u8) 1 e n g c.b) (s:f a=some (.cells #[g,iV c.i,iV c.h] 144 (0,0))) (i:RSl RS 1 e a6 l d) {r:ByteArray × a8} (h:cH N c d=some r) :
  Calls prog 88 [pQ a,l].toArray w0.w (be f w0.w [[a]].flatten (fun u Fs v=>v = .string r.1∧Fs=[[a]]∧r.2.b=c.b∧u a=some (.cells #[g,iV r.2.i,iV r.2.h] 144 (0,0)))):=by
 refine eL func88 J ntmps88 J (L:=[[a]]) w0 (fun w=>?_)
 unfold cH at h
 refine atr 9 [] J<|lnr i J<|kcb [0] h J J J J (fun b ap z q=>aJ N b c (d.length:Int) (m.y z) s q) ?_
 rintro y h v1 A B ⟨C,D,rfl,rfl,E,h1⟩
 obtain⟨F,k,h⟩:=bs h
 obtain⟨G,H,-,g1,I,K,x⟩:=i.el (aa k).2.2
 obtain⟨rfl,-⟩:=x
 refine lia i k J<|lhx 0 0 g1 J<|la J<|en ?_
 exact rtg [0] w (aA.one J) J (by cases h;exact fun M hw=>⟨rfl,rfl,rfl,h1⟩)
theorem cj (w0:av e f [[a]].flatten) (c:a8) (d:Int) (i:RSl (RI .u8) 1 e n g c.b) (k:f a=some (.cells #[g,iV c.i,iV c.h] 144 (0,0))) {r:Bool × a8} (h:cw N c d=some r) :
  Calls prog 37 [pQ a,iV d].toArray w0.w (be f w0.w [[a]].flatten (fun m Fs v=>v = .bool r.1∧Fs=[[a]]∧r.2.b=c.b∧m a=some (.cells #[g,iV r.2.i,iV r.2.h] 144 (0,0)))):=by
 refine eL func37 J ntmps37 J (L:=[[a]]) w0 (fun s=>?_)
 unfold cw at h
 refine atr 8 [] J<|kcb [0] h J J J J (fun b ap z q=>aJ N b c d (i.y z) k q) ?_
 rintro u h v1 w x ⟨y,A,rfl,rfl,B,h1⟩
 refine art 3 [] J ?_
 exact rtg [0] s (aA.one J) J (by cases h;exact fun C hw=>⟨rfl,rfl,rfl,h1⟩)
theorem lS (w0:av e f [[a]].flatten) (c:a8) (d:(List Int)) (m:RSl (RI .u8) 1 e n g c.b) (s:f a=some (.cells #[g,iV c.i,iV c.h] 144 (0,0))) (i:RSl (RI .i64) 1 e a6 l d) {r:Int × a8} (h:kg N c d=some r) :
  Calls prog 94 [pQ a,l].toArray w0.w (be f w0.w [[a]].flatten (fun u Fs v=>v=iV r.1∧Fs=[[a]]∧r.2.b=c.b∧u a=some (.cells #[g,iV r.2.i,iV r.2.h] 144 (0,0)))):=by
 refine eL func94 J ntmps94 J (L:=[[a]]) w0 (fun w=>?_)
 unfold kg at h
 refine atr 9 [] J<|lnr i J<|kcb [0] h J J J J (fun b ap z q=>aJ N b c (d.length:Int) (m.y z) s q) ?_
 rintro y h v1 A B ⟨C,D,rfl,rfl,E,h1⟩
 obtain⟨F,k,h⟩:=bs h
 obtain⟨G,H,-,g1,I,K,x⟩:=i.el (aa k).2.2
 obtain⟨rfl,-⟩:=x
 refine lia i k J<|lhx 0 0 g1 J<|la J<|en ?_
 exact rtg [0] w (aA.one J) J (by cases h;exact fun M hw=>⟨rfl,rfl,rfl,h1⟩)
theorem rB (w0:av e f []) (c:(List ByteArray)) (b:ByteArray) (d:RSl RS 1 e ad j c) {r:Bool} (h:mL N c b=some r) :
  CB w0 prog 172 [j,.string b] (.bool r):=by
 refine eN func172 J ntmps172 J w0 fun i=>?_
 unfold mL at h
 refine att 10 [] J ?_
 refine lin (σ:=Int) (fun s=>[(0,j),(1,.string b),(5,iV s)]) (fun s=>St w0 f [] []) (fun m s=>j0 N c b m s=some r) (0) N h (sx [] []) (fun q u s hm=>?_)
 revert hm;revert s;intro s1 hm
 have h:j0 N c b (q+1) s1=some r:=hm
 show WT _ _ [(0,j),(1,.string b),(5,iV s1)] (St w0 f [] [])
 unfold j0 at h
 refine atr 5 [] J<|lnr d J<|la J<|en ?_
 refine ch h J ?_ ?_ <;> intro h
 ·refine atr 7 [] J ?_
  obtain⟨w,k,h⟩:=bs h
  obtain⟨x,y,-,g1,z,A,v⟩:=d.el (aa k).2.2
  obtain⟨rfl,-⟩:=v
  refine lia d k J<|lhx 0 0 g1 J<|art 3 [] J ?_
  refine ch h J ?_ ?_ <;> intro h
  ·refine att 4 [] J ?_
   exact rt i h
  refine att 7 [] J ?_
  exact lb [] [] (u _ h)
 refine att 5 [] J ?_
 exact rt i h
theorem yP (w0:av e f []) (d:au) (i:RSl bV 5 e n g d.Args) {r:(List ByteArray)} (h:pC N d=some r) :
  Calls prog 171 [.agg [.string d.Kind,g,.bool d.Not].toArray].toArray w0.w (be f w0.w [] (fun E Fs v=>∃ (u:Value),v=u∧Fs=[ob u]∧OSl RS 9 1 E [] u r)):=by
 refine eN func171 J ntmps171 J w0 fun F=>?_
 unfold pC at h
 refine sr<|lbx J fun w=>arr 4 [] J<|le' (cO RS.lasts eE ot J J) J ?_
 rintro v1 G V ⟨W,h1⟩
 refine art 8 [] J ?_
 refine lin (σ:=Hp × (List ByteArray) × Value × Int) (fun s=>[(1,pQ w),(3,s.2.2.1),(4,iV s.2.2.2)]) (fun s=>St w0 s.1 [(w,.cells #[.string d.Kind,g,.bool d.Not] 201 (0,0))] [ob s.2.2.1]) (fun m s=>gp N d m s.2.1 s.2.2.2=some r∧(OSl RS 9 1 s.1 [] s.2.2.1 s.2.1)) (G,([]:List ByteArray),v1,0) N ⟨h,h1⟩ (sx [0] [0]) (fun X y s hm=>?_)
 obtain⟨H,s1,z,s2⟩:=s
 obtain⟨h,k⟩:=hm
 dsimp only at h k ⊢
 unfold gp at h
 refine atr 6 [1,0] J<|lnr i J<|la J<|en ?_
 refine ch h J ?_ ?_ <;> intro h
 ·refine atr 8 [1,0] J ?_
  obtain⟨Y,A,h⟩:=bs h
  obtain⟨Z,F1,-,g1,a1,a8,I⟩:=i.el (aa A).2.2
  obtain⟨rfl,-⟩:=I
  refine lia i A J<|lf A8 J J J<|lhx 0 0 g1 J<|arr 2 [] J ?_
  obtain⟨L,b,h⟩:=bs h
  refine WL.cutN 10 [(30,.bool L),(1,pQ w),(3,z),(4,iV s2)] ?_ (fun K=>?_)
  rotate_left
  ·refine sp 20 b J (fun b=>?_) fun b=>?_
   ·refine arr 4 [1,0] J<|ly J J ?_
    obtain⟨M,B,b⟩:=bs b
    obtain⟨ae,F2,-,g2,af,ag,O⟩:=i.el (aa B).2.2
    obtain⟨rfl,-⟩:=O
    refine lia i B J<|ly J J<|lf zB J J J<|ly J J<|lhx 1 0 g2 J<|ly J J<|qc b (rB N · s1 M.S k.rsl ·) J J J fun x3 b=>arr 2 [] J ?_
    cases b
    exact ku K
   ·refine arr 10 [] J ?_
    cases b
    exact ku K
  refine en ?_
  refine ch h J ?_ ?_ <;> intro h
  ·refine atr 5 [1,0] J ?_
   obtain⟨q,D,h⟩:=bs h
   obtain⟨ah,F3,-,g3,ai,aj,P⟩:=i.el (aa D).2.2
   obtain⟨rfl,-⟩:=P
   refine lia i D J<|lf zB J J J<|lhx 1 0 g3 J ?_
   have Q:RC RS 1 H ([[]]:List (List Nat)) [.string q.S] ([q.S]:List ByteArray):=RC.cons (c:=[.string q.S]) (cells:=[]) ⟨J,J⟩ J (RC.nil _ _ _)
   refine le' (aQ (vs:=[(0,.string q.S)]) (C:=#[.string q.S]) RS.lasts eE ot J J J J (ac Cx (a7 (C':=[.string q.S]) J J J J J (ab))) J Q J (by simpa using Kw.nil)) J ?_
   rintro v2 R D2 ⟨S,x⟩
   replace x:OSl RS 9 1 R [] v2 ([q.S]:List ByteArray):=by simpa using x
   replace k:=k.f0 S
   obtain⟨x5,T,h⟩:=bs h
   refine le' (bg RS.lasts RS.one RS.flat eE Jx J J J J J (js:=[1]) (Rr:=[ob v2]) J k x.rsl T) J ?_
   rintro v3 ak D3 ⟨⟨al,an⟩,U⟩
   refine art 8 [] J ?_
   exact lb [0] [0] (y (_,_,_,_) ⟨h,U⟩)
  refine att 7 [] J ?_
  exact lb [0] [0] (y (_,_,_,_) ⟨h,k⟩)
 refine att 6 [] J ?_
 exact rtg [0] F (aA.one J) J (by cases h;exact fun w1 hw=>⟨z,rfl,rfl,k⟩)
theorem ta (w0:av e f []) (i:ai) (x:RSl bN 3 e n g i.Pats) (al:RSl bl 11 e b2 p i.Conds) (an:RSl dK 5 e b5 ar i.Acts) {r:(List ByteArray)} (h:iN N i=some r) :
  Calls prog 101 [.agg [.string i.Name,iV i.Sal,g,p,ar].toArray].toArray w0.w (be f w0.w [] (fun P Fs v=>∃ (B:Value),v=B∧Fs=[ob B]∧OSl RS 9 1 P [] B r)):=by
 refine eN func101 J ntmps101 J w0 fun Q=>?_
 unfold iN at h
 refine sr<|lbx J fun y=>arr 4 [] J<|le' (cO RS.lasts eE ot J J) J ?_
 rintro v1 R D1 ⟨ao,h1⟩
 refine art 8 [] J ?_
 refine lin (σ:=Hp × (List ByteArray) × Value × Int) (fun s=>[(1,pQ y),(3,s.2.2.1),(4,iV s.2.2.2)]) (fun s=>St w0 s.1 [(y,.cells #[.string i.Name,iV i.Sal,g,p,ar] 87 (0,0))] [ob s.2.2.1]) (fun m s=>cR N i m s.2.1 s.2.2.2=some r∧(OSl RS 9 1 s.1 [] s.2.2.1 s.2.1)) (R,([]:List ByteArray),v1,0) N ⟨h,h1⟩ (sx [0] [0]) (fun S T s hm=>?_)
 obtain⟨aq,s1,E,s2⟩:=s
 obtain⟨h,A⟩:=hm
 dsimp only at h A ⊢
 unfold cR at h
 refine atr 6 [2,0] J<|lnr x J<|la J<|en ?_
 refine ch h J ?_ ?_ <;> intro h
 ·refine atr 8 [2,0] J ?_
  obtain⟨U,F,h⟩:=bs h
  obtain⟨au,F1,-,g1,aw,ax,V⟩:=x.el (aa F).2.2
  obtain⟨v2,G1,rfl,W,X⟩:=V
  obtain rfl:=W.symm
  refine lia x F J<|lhx 0 3 g1 J<|kab h J J J (fun b z q=>yP N b U (X.y z) q) ?_
  rintro G h v3 Y F2 ⟨Z,a1,v4,rfl,rfl,d⟩
  replace A:=A.fr a1 (Z.q 0 J) dN
  refine art 7 [] J ?_
  refine lin (σ:=Hp × (List ByteArray) × Value × Int) (fun s=>[(1,pQ y),(3,s.2.2.1),(4,iV s2),(5,v3),(6,iV s.2.2.2)]) (fun s=>St w0 s.1 [(y,.cells #[.string i.Name,iV i.Sal,g,p,ar] 87 (0,0))] [ob v3,ob s.2.2.1]) (fun m s=>cY N i s2 (cR N i S) G m s.2.1 s.2.2.2=some r∧(OSl RS 9 1 s.1 [] s.2.2.1 s.2.1)∧(OSl RS 9 1 s.1 [] v3 G)) (Y,s1,E,0) N ⟨h,A,d⟩ (sx [0,0] [0]) (fun n2 H s hm=>?_)
  obtain⟨a8,s3,u2,s4⟩:=s
  obtain⟨h,k,d⟩:=hm
  dsimp only at h k d ⊢
  unfold cY at h
  refine atr 5 [] J<|lno d J<|arr 2 [] J ?_
  obtain⟨b1,u,h⟩:=bs h
  refine WL.cutN 8 [(33,.bool b1),(1,pQ y),(3,u2),(4,iV s2),(5,v3),(6,iV s4)] ?_ (fun K=>?_)
  rotate_left
  ·refine sp 25 u J (fun u=>?_) fun u=>?_
   ·refine arr 3 [2,0] J<|ly J J ?_
    obtain⟨x3,I,u⟩:=bs u
    obtain⟨ay,F3,-,g2,az,aB,r2⟩:=x.el (aa I).2.2
    obtain⟨v5,G2,rfl,ae,h4⟩:=r2
    obtain rfl:=ae.symm
    refine lia x I J<|ly J J<|lf kl J J J<|ly J J<|lhx 2 0 g2 J<|arr 2 [] J ?_
    cases u
    exact ku K
   ·refine arr 8 [] J ?_
    cases u
    exact ku K
  refine en ?_
  refine ch h J ?_ ?_ <;> intro h
  ·refine atr 8 [] J ?_
   obtain⟨x4,L,h⟩:=bs h
   obtain⟨aC,F4,-,g3,aD,aF,r3⟩:=d.elS (aa L).2.2
   obtain⟨rfl,-⟩:=r3
   refine lio d L J<|lgx 0 0 g3 J<|qc h (rB N · s3 x4 k.rsl ·) J J J fun x5 h=>la J<|en ?_
   refine ch h J ?_ ?_ <;> intro h
   ·refine atr 4 [] J ?_
    obtain⟨w,M,h⟩:=bs h
    obtain⟨aG,F5,-,g4,aH,aI,r4⟩:=d.elS (aa M).2.2
    obtain⟨rfl,-⟩:=r4
    refine lio d M J<|lgx 0 0 g4 J ?_
    have af:RC RS 1 a8 ([[]]:List (List Nat)) [.string w] ([w]:List ByteArray):=RC.cons (c:=[.string w]) (cells:=[]) ⟨J,J⟩ J (RC.nil _ _ _)
    refine le' (aQ (vs:=[(0,.string w)]) (C:=#[.string w]) RS.lasts eE ot J J J J (ac Cx (a7 (C':=[.string w]) J J J J J (ab))) J af J (by simpa using Kw.nil)) J ?_
    rintro v6 ag D2 ⟨O,D⟩
    replace D:OSl RS 9 1 ag [] v6 ([w]:List ByteArray):=by simpa using D
    replace k:=k.f0 O
    replace d:=d.f0 O
    obtain⟨x7,ah,h⟩:=bs h
    refine le' (bg RS.lasts RS.one RS.flat eE Jx J J J J J (js:=[2]) (Rr:=[ob v6,ob v3]) J k D.rsl ah) J ?_
    rintro v7 aJ D3 ⟨⟨aj,ak⟩,h6⟩
    replace d:=d.fr ak (aj.q 1 J) dN
    refine art 8 [] J ?_
    exact lb [2,0] [0] (H (_,_,_,_) ⟨h,h6,d⟩)
   refine att 7 [] J ?_
   exact lb [0,0] [0] (H (_,_,_,_) ⟨h,k,d⟩)
  refine att 7 [] J ?_
  exact lb [1] [0] (T (_,_,_,_) ⟨h,k⟩)
 refine att 6 [] J ?_
 exact rtg [0] Q (aA.one J) J (by cases h;exact fun w1 hw=>⟨E,rfl,rfl,A⟩)
theorem kQ (w0:av e f []) (b:ai) (d:RSl bN 3 e n g b.Pats) (x:RSl bl 11 e b2 p b.Conds) (y:RSl dK 5 e b5 ar b.Acts) {r:Int} (h:gT N b=some r) :
  CB w0 prog 105 [.agg [.string b.Name,iV b.Sal,g,p,ar].toArray] (iV r):=by
 refine eN func105 J ntmps105 J w0 fun q=>?_
 unfold gT at h
 refine sr<|lbx J fun c=>art 12 [] J ?_
 refine lin (σ:=Int × Int) (fun s=>[(1,pQ c),(3,iV s.1),(4,iV s.2)]) (fun s=>St w0 f [(c,.cells #[.string b.Name,iV b.Sal,g,p,ar] 87 (0,0))] []) (fun m s=>dD N b m s.1 s.2=some r) (0,0) N h (sx [] [0]) (fun u i s hm=>?_)
 obtain⟨s1,s2⟩:=s
 have h:dD N b (u+1) s1 s2=some r:=hm
 show WT _ _ [(1,pQ c),(3,iV s1),(4,iV s2)] (St w0 f [(c,.cells #[.string b.Name,iV b.Sal,g,p,ar] 87 (0,0))] [])
 unfold dD at h
 refine atr 6 [2,0] J<|lnr d J<|la J<|en ?_
 refine ch h J ?_ ?_ <;> intro h
 ·refine atr 8 [2,0] J ?_
  obtain⟨z,k,h⟩:=bs h
  obtain⟨A,B,-,g1,C,D,v⟩:=d.el (aa k).2.2
  obtain⟨v1,E,rfl,w,h1⟩:=v
  obtain rfl:=w.symm
  refine lia d k J<|lf kl J J J<|lhx 2 0 g1 J<|la J<|en ?_
  refine ch h J ?_ ?_ <;> intro h
  ·refine att 11 [] J ?_
   exact lb [] [0] (i (_,_) h)
  refine att 7 [] J ?_
  exact lb [] [0] (i (_,_) h)
 refine att 6 [] J ?_
 exact rt q h
theorem oO (w0:av e f [[a]].flatten) (d:a8) (u:RSl (RI .u8) 1 e n g d.b) (A:f a=some (.cells #[g,iV d.i,iV d.h] 144 (0,0))) {r:bi × a8} (h:jK N d=some r) :
  Calls prog 126 [pQ a].toArray w0.w (be f w0.w [[a]].flatten (fun B Fs v=>v = .agg [iV r.1.K,iV r.1.N,.string r.1.S].toArray∧Fs=[[a]]∧r.2.b=d.b∧B a=some (.cells #[g,iV r.2.i,iV r.2.h] 144 (0,0)))):=by
 refine eL func126 J ntmps126 J (L:=[[a]]) w0 (fun y=>?_)
 unfold jK at h
 refine sr<|lnz jF J fun K=>arr 5 [] J<|kcb [0] h J J J J (fun b ap z q=>cj N b d 2 (u.y z) A q) ?_
 rintro k h v1 D M ⟨O,P,rfl,rfl,Q,h1⟩
 refine en ?_
 refine ch h J ?_ ?_ <;> intro h
 ·refine sr<|la J<|kcb [0] h J J J J (fun b ap z q=>aJ N b (⟨d.b,k.2.i,k.2.h⟩:a8) 3 (u.y z) h1 q) ?_
  rintro m h v2 R S ⟨T,U,rfl,rfl,V,E⟩
  refine la J<|lq (aU (vs:=[(0,iV 1),(1,iV (wz (1+m.1)))]) (C:=#[iV 1,iV (wz (1+m.1)),.string (⟨#[]⟩:ByteArray)]) vc jF J (a7 (C':=[iV 1,iV 0,.string ⟨#[]⟩]) J J J J J (a7 (C':=[iV 1,iV (wz (1+m.1)),.string ⟨#[]⟩]) J J J J J (ab)))) J<|soN 0 oN J ⟨J,J,J,trivial⟩ J ?_
  refine en ?_
  exact rtg [0] y (aA.one (aZ kM J (fun w hw=>hw.rgO (i:=0) J 0 3 [iV 1,iV (wz (1+m.1)),.string (⟨#[]⟩:ByteArray)] J) J)) J (by cases h;exact fun w hw=>⟨rfl,rfl,rfl,E⟩)
 refine atr 4 [] J ?_
 have F:RC RS 1 D ([[],[]]:List (List Nat)) [.string (⟨#[97]⟩:ByteArray),.string (⟨#[98]⟩:ByteArray)] ([(⟨#[97]⟩:ByteArray),(⟨#[98]⟩:ByteArray)]:List ByteArray):=RC.cons (c:=[.string (⟨#[97]⟩:ByteArray)]) (cells:=[.string (⟨#[98]⟩:ByteArray)]) ⟨J,J⟩ J (RC.cons (c:=[.string (⟨#[98]⟩:ByteArray)]) (cells:=[]) ⟨J,J⟩ J (RC.nil _ _ _))
 refine le' (aQ (vs:=[(0,.string (⟨#[97]⟩:ByteArray)),(1,.string (⟨#[98]⟩:ByteArray))]) (C:=#[.string (⟨#[97]⟩:ByteArray),.string (⟨#[98]⟩:ByteArray)]) RS.lasts eE ot J J J J (ac vJ (a7 (C':=[.string (⟨#[97]⟩:ByteArray),.string ⟨#[]⟩]) J J J J J (a7 (C':=[.string (⟨#[97]⟩:ByteArray),.string (⟨#[98]⟩:ByteArray)]) J J J J J (ab)))) J F J (by simpa using Kw.nil)) J ?_
 rintro v3 G W ⟨H,x⟩
 replace x:OSl RS 9 1 G [] v3 ([(⟨#[97]⟩:ByteArray),(⟨#[98]⟩:ByteArray)]:List ByteArray):=by simpa using x
 replace h1:=H _ _ MC h1
 refine kcb [1] h J J J J (fun b ap z q=>bT N b (⟨d.b,k.2.i,k.2.h⟩:a8) ([(⟨#[97]⟩:ByteArray),(⟨#[98]⟩:ByteArray)]:List ByteArray) (u.y z) h1 (x.rsl.x (Dj.app (ap.q 0 J) dN)) q) ?_
 rintro s h v4 X Y ⟨Z,a1,rfl,rfl,e3,I⟩
 refine lq (aU (vs:=[(0,iV 2),(2,.string s.1)]) (C:=#[iV 2,iV 0,.string s.1]) vc jF J (a7 (C':=[iV 2,iV 0,.string ⟨#[]⟩]) J J J J J (a7 (C':=[iV 2,iV 0,.string s.1]) J J J J J (ab)))) J<|soN 0 oN J ⟨J,J,J,trivial⟩ J ?_
 refine en ?_
 exact rtg [0] y (aA.one (aZ kM J (fun w hw=>hw.rgO (i:=0) J 0 3 [iV 2,iV 0,.string s.1] J) J)) J (by cases h;exact fun w hw=>⟨rfl,rfl,rfl,I⟩)
theorem rG  (w0:av e f []) (b:bi)  {r:bn} (h:rn N b=some r) :
  CB w0 prog 207 [.agg [iV b.K,iV b.N,.string b.S].toArray] (.agg [iV r.K,.string r.S,iV r.V.K,iV r.V.N,.string r.V.S].toArray):=by
 refine eN func207 J ntmps207 J w0 fun c=>?_
 unfold rn at h
 refine sr<|lbx J fun k=>lnz fS J fun m=>arr 4 [35] J<|lq (aU (vs:=[(0,iV 2),(2,.agg [iV b.K,iV b.N,.string b.S].toArray)]) (C:=#[iV 2,.string (⟨#[]⟩:ByteArray),iV b.K,iV b.N,.string b.S]) sK fS J (a7 (C':=[iV 2,.string ⟨#[]⟩,iV 0,iV 0,.string ⟨#[]⟩]) J J J J J (a7 (C':=[iV 2,.string ⟨#[]⟩,iV b.K,iV b.N,.string b.S]) J J J J J (ab)))) J<|soN 0 gL J ⟨J,J,J,J,J,trivial⟩ J ?_
 refine en ?_
 refine WT.ret c (aA.one (aZ mJ J (fun d hw=>hw.rgO (i:=0) J 0 5 [iV 2,.string (⟨#[]⟩:ByteArray),iV b.K,iV b.N,.string b.S] J) J)) (fun d hw=>?_)
 cases h
 exact eG hw
theorem rK  (w0:av e f []) (b:ByteArray)  {r:bn} (h:qQ N b=some r) :
  CB w0 prog 208 [.string b] (.agg [iV r.K,.string r.S,iV r.V.K,iV r.V.N,.string r.V.S].toArray):=by
 refine eN func208 J ntmps208 J w0 fun c=>?_
 unfold qQ at h
 refine sr<|lnz fS J fun k=>arr 4 [] J<|lq (aU (vs:=[(0,iV 1),(1,.string b)]) (C:=#[iV 1,.string b,iV 0,iV 0,.string (⟨#[]⟩:ByteArray)]) sK fS J (a7 (C':=[iV 1,.string ⟨#[]⟩,iV 0,iV 0,.string ⟨#[]⟩]) J J J J J (a7 (C':=[iV 1,.string b,iV 0,iV 0,.string ⟨#[]⟩]) J J J J J (ab)))) J<|soN 0 gL J ⟨J,J,J,J,J,trivial⟩ J ?_
 refine en ?_
 refine WT.ret c (aA.one (aZ mJ J (fun d hw=>hw.rgO (i:=0) J 0 5 [iV 1,.string b,iV 0,iV 0,.string (⟨#[]⟩:ByteArray)] J) J)) (fun d hw=>?_)
 cases h
 exact eG hw
theorem m8 (w0:av e f [[a]].flatten) (d:a8) (w:RSl (RI .u8) 1 e n g d.b) (A:f a=some (.cells #[g,iV d.i,iV d.h] 144 (0,0))) {r:bn × a8} (h:ko N d=some r) :
  Calls prog 205 [pQ a].toArray w0.w (be f w0.w [[a]].flatten (fun B Fs v=>v = .agg [iV r.1.K,.string r.1.S,iV r.1.V.K,iV r.1.V.N,.string r.1.V.S].toArray∧Fs=[[a]]∧r.2.b=d.b∧B a=some (.cells #[g,iV r.2.i,iV r.2.h] 144 (0,0)))):=by
 refine eL func205 J ntmps205 J (L:=[[a]]) w0 (fun x=>?_)
 unfold ko at h
 refine sr<|lnz fS J fun O=>arr 5 [] J<|kcb [0] h J J J J (fun b ap z q=>aJ N b d 6 (w.y z) A q) ?_
 rintro u h v1 D P ⟨Q,R,rfl,rfl,S,h1⟩
 refine art 7 [] J ?_
 refine ch h J ?_ ?_ <;> intro h
 ·refine sr<|lq (aU (vs:=[(0,iV 3)]) (C:=#[iV 3,.string (⟨#[]⟩:ByteArray),iV 0,iV 0,.string (⟨#[]⟩:ByteArray)]) sK fS J (a7 (C':=[iV 3,.string ⟨#[]⟩,iV 0,iV 0,.string ⟨#[]⟩]) J J J J J (ab))) J<|soN 0 gL J ⟨J,J,J,J,J,trivial⟩ J ?_
  refine en ?_
  exact rtg [0] x (aA.one (aZ mJ J (fun k hw=>hw.rgO (i:=0) J 0 5 [iV 3,.string (⟨#[]⟩:ByteArray),iV 0,iV 0,.string (⟨#[]⟩:ByteArray)] J) J)) J (by cases h;exact fun k hw=>⟨rfl,rfl,rfl,h1⟩)
 refine att 5 [] J ?_
 refine ch h J ?_ ?_ <;> intro h
 ·refine sr<|la J<|kcb [0] h J J J J (fun b ap z q=>oO N b (⟨d.b,u.2.i,u.2.h⟩:a8) (w.y z) h1 q) ?_
  rintro E h v2 T U ⟨V,W,rfl,rfl,X,F⟩
  refine qc h (rG N · E.1 ·) J J J fun m h=>soN 0 gL J ⟨J,J,J,J,J,trivial⟩ J ?_
  refine en ?_
  exact rtg [0] x (aA.one (aZ mJ J (fun k hw=>hw.rgO (i:=0) J 0 5 [iV m.K,.string m.S,iV m.V.K,iV m.V.N,.string m.V.S] J) J)) J (by cases h;exact fun k hw=>⟨rfl,rfl,rfl,F⟩)
 refine atr 5 [] J ?_
 have G:RC RS 1 D ([[],[],[],[]]:List (List Nat)) [.string (⟨#[88]⟩:ByteArray),.string (⟨#[89]⟩:ByteArray),.string (⟨#[90]⟩:ByteArray),.string (⟨#[88]⟩:ByteArray)] ([(⟨#[88]⟩:ByteArray),(⟨#[89]⟩:ByteArray),(⟨#[90]⟩:ByteArray),(⟨#[88]⟩:ByteArray)]:List ByteArray):=RC.cons (c:=[.string (⟨#[88]⟩:ByteArray)]) (cells:=[.string (⟨#[89]⟩:ByteArray),.string (⟨#[90]⟩:ByteArray),.string (⟨#[88]⟩:ByteArray)]) ⟨J,J⟩ J (RC.cons (c:=[.string (⟨#[89]⟩:ByteArray)]) (cells:=[.string (⟨#[90]⟩:ByteArray),.string (⟨#[88]⟩:ByteArray)]) ⟨J,J⟩ J (RC.cons (c:=[.string (⟨#[90]⟩:ByteArray)]) (cells:=[.string (⟨#[88]⟩:ByteArray)]) ⟨J,J⟩ J (RC.cons (c:=[.string (⟨#[88]⟩:ByteArray)]) (cells:=[]) ⟨J,J⟩ J (RC.nil _ _ _))))
 refine le' (aQ (vs:=[(0,.string (⟨#[88]⟩:ByteArray)),(1,.string (⟨#[89]⟩:ByteArray)),(2,.string (⟨#[90]⟩:ByteArray)),(3,.string (⟨#[88]⟩:ByteArray))]) (C:=#[.string (⟨#[88]⟩:ByteArray),.string (⟨#[89]⟩:ByteArray),.string (⟨#[90]⟩:ByteArray),.string (⟨#[88]⟩:ByteArray)]) RS.lasts eE ot J J J J (ac AS (a7 (C':=[.string (⟨#[88]⟩:ByteArray),.string ⟨#[]⟩,.string ⟨#[]⟩,.string ⟨#[]⟩]) J J J J J (a7 (C':=[.string (⟨#[88]⟩:ByteArray),.string (⟨#[89]⟩:ByteArray),.string ⟨#[]⟩,.string ⟨#[]⟩]) J J J J J (a7 (C':=[.string (⟨#[88]⟩:ByteArray),.string (⟨#[89]⟩:ByteArray),.string (⟨#[90]⟩:ByteArray),.string ⟨#[]⟩]) J J J J J (a7 (C':=[.string (⟨#[88]⟩:ByteArray),.string (⟨#[89]⟩:ByteArray),.string (⟨#[90]⟩:ByteArray),.string (⟨#[88]⟩:ByteArray)]) J J J J J (ab)))))) J G J (by simpa using Kw.nil)) J ?_
 rintro v3 H Y ⟨I,y⟩
 replace y:OSl RS 9 1 H [] v3 ([(⟨#[88]⟩:ByteArray),(⟨#[89]⟩:ByteArray),(⟨#[90]⟩:ByteArray),(⟨#[88]⟩:ByteArray)]:List ByteArray):=by simpa using y
 replace h1:=I _ _ MC h1
 refine kcb [1] h J J J J (fun b ap z q=>bT N b (⟨d.b,u.2.i,u.2.h⟩:a8) ([(⟨#[88]⟩:ByteArray),(⟨#[89]⟩:ByteArray),(⟨#[90]⟩:ByteArray),(⟨#[88]⟩:ByteArray)]:List ByteArray) (w.y z) h1 (y.rsl.x (Dj.app (ap.q 0 J) dN)) q) ?_
 rintro K h v4 Z F3 ⟨a1,aa,rfl,rfl,e3,M⟩
 refine qc h (rK N · K.1 ·) J J J fun s h=>soN 0 gL J ⟨J,J,J,J,J,trivial⟩ J ?_
 refine en ?_
 exact rtg [0] x (aA.one (aZ mJ J (fun k hw=>hw.rgO (i:=0) J 0 5 [iV s.K,.string s.S,iV s.V.K,iV s.V.N,.string s.V.S] J) J)) J (by cases h;exact fun k hw=>⟨rfl,rfl,rfl,M⟩)
theorem qF (w0:av e f [[a]].flatten) (w:a8) (u:Bool) (P:RSl (RI .u8) 1 e n g w.b) (G:f a=some (.cells #[g,iV w.i,iV w.h] 144 (0,0))) {r:au × a8} (h:kZ N w u=some r) :
  Calls prog 150 [pQ a,.bool u].toArray w0.w (be f w0.w [[a]].flatten (fun Q Fs v=>∃ (H:Value),v = .agg [.string r.1.Kind,H,.bool r.1.Not].toArray∧Fs=[ob H,[a]]∧OSl bV 171 5 Q [] H r.1.Args∧r.2.b=w.b∧Q a=some (.cells #[g,iV r.2.i,iV r.2.h] 144 (0,0)))):=by
 refine eL func150 J ntmps150 J (L:=[[a]]) w0 (fun W=>?_)
 unfold kZ at h
 refine sr<|lnz jB J fun y=>arr 4 [] J ?_
 have X:RC RS 1 f ([[],[],[],[]]:List (List Nat)) [.string (⟨#[111,114,100,101,114]⟩:ByteArray),.string (⟨#[112,97,105,100]⟩:ByteArray),.string (⟨#[105,116,101,109]⟩:ByteArray),.string (⟨#[111,114,100,101,114]⟩:ByteArray)] ([(⟨#[111,114,100,101,114]⟩:ByteArray),(⟨#[112,97,105,100]⟩:ByteArray),(⟨#[105,116,101,109]⟩:ByteArray),(⟨#[111,114,100,101,114]⟩:ByteArray)]:List ByteArray):=RC.cons (c:=[.string (⟨#[111,114,100,101,114]⟩:ByteArray)]) (cells:=[.string (⟨#[112,97,105,100]⟩:ByteArray),.string (⟨#[105,116,101,109]⟩:ByteArray),.string (⟨#[111,114,100,101,114]⟩:ByteArray)]) ⟨J,J⟩ J (RC.cons (c:=[.string (⟨#[112,97,105,100]⟩:ByteArray)]) (cells:=[.string (⟨#[105,116,101,109]⟩:ByteArray),.string (⟨#[111,114,100,101,114]⟩:ByteArray)]) ⟨J,J⟩ J (RC.cons (c:=[.string (⟨#[105,116,101,109]⟩:ByteArray)]) (cells:=[.string (⟨#[111,114,100,101,114]⟩:ByteArray)]) ⟨J,J⟩ J (RC.cons (c:=[.string (⟨#[111,114,100,101,114]⟩:ByteArray)]) (cells:=[]) ⟨J,J⟩ J (RC.nil _ _ _))))
 refine le' (aQ (vs:=[(0,.string (⟨#[111,114,100,101,114]⟩:ByteArray)),(1,.string (⟨#[112,97,105,100]⟩:ByteArray)),(2,.string (⟨#[105,116,101,109]⟩:ByteArray)),(3,.string (⟨#[111,114,100,101,114]⟩:ByteArray))]) (C:=#[.string (⟨#[111,114,100,101,114]⟩:ByteArray),.string (⟨#[112,97,105,100]⟩:ByteArray),.string (⟨#[105,116,101,109]⟩:ByteArray),.string (⟨#[111,114,100,101,114]⟩:ByteArray)]) RS.lasts eE ot J J J J (ac AS (a7 (C':=[.string (⟨#[111,114,100,101,114]⟩:ByteArray),.string ⟨#[]⟩,.string ⟨#[]⟩,.string ⟨#[]⟩]) J J J J J (a7 (C':=[.string (⟨#[111,114,100,101,114]⟩:ByteArray),.string (⟨#[112,97,105,100]⟩:ByteArray),.string ⟨#[]⟩,.string ⟨#[]⟩]) J J J J J (a7 (C':=[.string (⟨#[111,114,100,101,114]⟩:ByteArray),.string (⟨#[112,97,105,100]⟩:ByteArray),.string (⟨#[105,116,101,109]⟩:ByteArray),.string ⟨#[]⟩]) J J J J J (a7 (C':=[.string (⟨#[111,114,100,101,114]⟩:ByteArray),.string (⟨#[112,97,105,100]⟩:ByteArray),.string (⟨#[105,116,101,109]⟩:ByteArray),.string (⟨#[111,114,100,101,114]⟩:ByteArray)]) J J J J J (ab)))))) J X J (by simpa using Kw.nil)) J ?_
 rintro v1 Y D1 ⟨Z,h1⟩
 replace h1:OSl RS 9 1 Y [] v1 ([(⟨#[111,114,100,101,114]⟩:ByteArray),(⟨#[112,97,105,100]⟩:ByteArray),(⟨#[105,116,101,109]⟩:ByteArray),(⟨#[111,114,100,101,114]⟩:ByteArray)]:List ByteArray):=by simpa using h1
 replace G:=Z _ _ MC G
 refine kcb [1] h J J J J (fun b ap z q=>bT N b w ([(⟨#[111,114,100,101,114]⟩:ByteArray),(⟨#[112,97,105,100]⟩:ByteArray),(⟨#[105,116,101,109]⟩:ByteArray),(⟨#[111,114,100,101,114]⟩:ByteArray)]:List ByteArray) (P.y z) G (h1.rsl.x (Dj.app (ap.q 0 J) dN)) q) ?_
 rintro k h v2 F F1 ⟨an,ao,rfl,rfl,e1,h2⟩
 refine la J<|lq (aU (vs:=[(0,.string k.1),(2,.bool u)]) (C:=#[.string k.1,.slice none 0 0,.bool u]) Kx jB J (a7 (C':=[.string k.1,.slice none 0 0,.bool false]) J J J J J (a7 (C':=[.string k.1,.slice none 0 0,.bool u]) J J J J J (ab)))) J<|lnz jB J fun A=>soN 0 o1 J ⟨J,J,J,trivial⟩ J ?_
 refine art 12 [0,0] J ?_
 refine cut (σ:=Int) (fun s=>[(0,pQ a),(4,pQ y),(5,pQ A),(6,iV s)]) (fun s=>St w0 F [(A,.cells #[.string k.1,.slice none 0 0,.bool u] 201 (0,0)),(y,.cells #[.string (⟨#[]⟩:ByteArray),.slice none 0 0,.bool false] 201 (0,0))] [[a]]) (fun s=>kD N w u k s=some r) (fun s hm=>?_) (fun K=>?_)
 ·clear h
  revert hm;revert s;intro s1 hm
  have h:kD N w u k s1=some r:=hm
  show WT _ _ [(0,pQ a),(4,pQ y),(5,pQ A),(6,iV s1)] (St w0 F [(A,.cells #[.string k.1,.slice none 0 0,.bool u] 201 (0,0)),(y,.cells #[.string (⟨#[]⟩:ByteArray),.slice none 0 0,.bool false] 201 (0,0))] [[a]])
  unfold kD at h
  refine att 6 [] J<|wtS ?_
  have k1:=OSl.nil bV 171 5 F
  refine lin (σ:=Hp × (List bn) × Value × Int × Int × Int) (fun s=>[(0,pQ a),(4,pQ y),(5,pQ A),(6,iV s1),(7,iV s.2.2.2.1)]) (fun s=>St w0 s.1 [(A,.cells #[.string k.1,s.2.2.1,.bool u] 201 (0,0)),(y,.cells #[.string (⟨#[]⟩:ByteArray),.slice none 0 0,.bool false] 201 (0,0))] [ob s.2.2.1,[a]]) (fun m s=>jA N w u k s1 m s.2.1 s.2.2.2.1 s.2.2.2.2.1 s.2.2.2.2.2=some r∧(OSl bV 171 5 s.1 [] s.2.2.1 s.2.1)∧(s.1 a=some (.cells #[g,iV s.2.2.2.2.1,iV s.2.2.2.2.2] 144 (0,0)))) (F,([]:List bn),(.slice none 0 0),0,k.2.i,k.2.h) N ⟨h,k1,h2⟩ (sx [0,0] [0,0]) (fun n2 a1 s hm=>?_)
  obtain⟨aq,s2,I,s3,s4,s5⟩:=s
  obtain⟨h,x,M⟩:=hm
  dsimp only at h x M ⊢
  unfold jA at h
  refine att 7 [] J ?_
  refine ch h J ?_ ?_ <;> intro h
  ·refine att 3 [] J<|wm [0,1] [7] J<|amm 3 [0,1,1,0,2] [0,1] J J ?_
   obtain⟨d,aa,h⟩:=bs h
   refine WM.one 3 MA (mc J (fun _ v S D B T hw=>Kn.of Kf.nil (ai2 0 1 J J) hw) (bt (js:=[1]) (R:=[ob I]) wO J J (fun B hw ap hl=>m8 N (bx hw ap hl) (⟨w.b,s4,s5⟩:a8) (P.y (hw.uo ap)) M  aa)) J ?_)
   rintro v3 ae F2 ⟨af,ag,rfl,rfl,e2,E⟩
   replace x:=x.fr ag (af.q 0 J) dN
   have ah:RC bV 5 ae ([[]]:List (List Nat)) [iV d.1.K,.string d.1.S,iV d.1.V.K,iV d.1.V.N,.string d.1.V.S] ([d.1]:List bn):=RC.cons (c:=[iV d.1.K,.string d.1.S,iV d.1.V.K,iV d.1.V.N,.string d.1.V.S]) (cells:=[]) ⟨J,J⟩ J (RC.nil _ _ _)
   refine WM.one 4 MA (me J (fun _ v S D B T hw=>Kn.of Kf.nil (ai2 0 1 J J) hw) (aQ (vs:=[(0,.agg [iV d.1.K,.string d.1.S,iV d.1.V.K,iV d.1.V.N,.string d.1.V.S].toArray)]) (C:=#[iV d.1.K,.string d.1.S,iV d.1.V.K,iV d.1.V.N,.string d.1.V.S]) bV.lasts nY fS J J J J (ac vn (a7 (C':=[iV d.1.K,.string d.1.S,iV d.1.V.K,iV d.1.V.N,.string d.1.V.S]) J J J J J (ab))) J ah J (by simpa using Kw.nil)) J ?_)
   rintro v4 ai D2 ⟨U,O⟩
   replace O:OSl bV 171 5 ai [] v4 ([d.1]:List bn):=by simpa using O
   replace x:=x.f0 U
   replace E:=U _ _ MC E
   obtain⟨x3,aj,h⟩:=bs h
   refine WM.one 5 MA (me J (fun _ v S D B T hw=>Kn.of Kf.nil (ai2 0 1 J J) hw) (bg bV.lasts bV.one bV.flat nY AY J J J J J (js:=[2]) (Rr:=[ob v4,[a]]) J x O.rsl aj) J ?_)
   rintro v5 aw D3 ⟨⟨ak,al⟩,V⟩
   replace E:=al _ _ ((ak.q 1 J) _ MC) E
   refine amm 1 [6,1] [0,1] J J ?_
   refine on1 7 (ms1 0 J nk AK J V.one ?_)
   refine WM.nil MA<|att 6 [] J ?_
   exact lb [0,1] [0,0] (a1 (_,_,_,_,_,_) ⟨h,V,E⟩)
  refine atr 4 [3] J<|soN 1 o1 J ⟨J,x.one,J,trivial⟩ J ?_
  refine en ?_
  exact rtg [0,0] W (aA.one (aZ sm J (fun B hw=>hw.rgO (i:=1) J 0 3 [.string k.1,I,.bool u] J) J)) J (by cases h;exact fun B hw=>⟨I,rfl,rfl,x,rfl,M⟩)
 refine ch h J ?_ ?_ <;> intro h
 ·refine att 3 [] J ?_
  exact wo [0] [0,0] (K _ h)
 refine WT.skip ?_
 exact wo [0] [0,0] (K _ h)
theorem ow (w0:av e f [[a]].flatten) (d:a8) (u:RSl (RI .u8) 1 e n g d.b) (A:f a=some (.cells #[g,iV d.i,iV d.h] 144 (0,0))) {r:bn × a8} (h:lD N d=some r) :
  Calls prog 206 [pQ a].toArray w0.w (be f w0.w [[a]].flatten (fun B Fs v=>v = .agg [iV r.1.K,.string r.1.S,iV r.1.V.K,iV r.1.V.N,.string r.1.V.S].toArray∧Fs=[[a]]∧r.2.b=d.b∧B a=some (.cells #[g,iV r.2.i,iV r.2.h] 144 (0,0)))):=by
 refine eL func206 J ntmps206 J (L:=[[a]]) w0 (fun y=>?_)
 unfold lD at h
 refine sr<|lnz fS J fun O=>arr 5 [] J<|kcb [0] h J J J J (fun b ap z q=>cj N b d 3 (u.y z) A q) ?_
 rintro s h v1 D P ⟨Q,R,rfl,rfl,S,h1⟩
 refine en ?_
 refine ch h J ?_ ?_ <;> intro h
 ·refine sr<|la J<|kcb [0] h J J J J (fun b ap z q=>oO N b (⟨d.b,s.2.i,s.2.h⟩:a8) (u.y z) h1 q) ?_
  rintro E h v2 T U ⟨V,W,rfl,rfl,X,F⟩
  refine qc h (rG N · E.1 ·) J J J fun k h=>soN 0 gL J ⟨J,J,J,J,J,trivial⟩ J ?_
  refine en ?_
  exact rtg [0] y (aA.one (aZ mJ J (fun w hw=>hw.rgO (i:=0) J 0 5 [iV k.K,.string k.S,iV k.V.K,iV k.V.N,.string k.V.S] J) J)) J (by cases h;exact fun w hw=>⟨rfl,rfl,rfl,F⟩)
 refine atr 4 [] J ?_
 have G:RC RS 1 D ([[],[]]:List (List Nat)) [.string (⟨#[88]⟩:ByteArray),.string (⟨#[89]⟩:ByteArray)] ([(⟨#[88]⟩:ByteArray),(⟨#[89]⟩:ByteArray)]:List ByteArray):=RC.cons (c:=[.string (⟨#[88]⟩:ByteArray)]) (cells:=[.string (⟨#[89]⟩:ByteArray)]) ⟨J,J⟩ J (RC.cons (c:=[.string (⟨#[89]⟩:ByteArray)]) (cells:=[]) ⟨J,J⟩ J (RC.nil _ _ _))
 refine le' (aQ (vs:=[(0,.string (⟨#[88]⟩:ByteArray)),(1,.string (⟨#[89]⟩:ByteArray))]) (C:=#[.string (⟨#[88]⟩:ByteArray),.string (⟨#[89]⟩:ByteArray)]) RS.lasts eE ot J J J J (ac vJ (a7 (C':=[.string (⟨#[88]⟩:ByteArray),.string ⟨#[]⟩]) J J J J J (a7 (C':=[.string (⟨#[88]⟩:ByteArray),.string (⟨#[89]⟩:ByteArray)]) J J J J J (ab)))) J G J (by simpa using Kw.nil)) J ?_
 rintro v3 H Y ⟨I,x⟩
 replace x:OSl RS 9 1 H [] v3 ([(⟨#[88]⟩:ByteArray),(⟨#[89]⟩:ByteArray)]:List ByteArray):=by simpa using x
 replace h1:=I _ _ MC h1
 refine kcb [1] h J J J J (fun b ap z q=>bT N b (⟨d.b,s.2.i,s.2.h⟩:a8) ([(⟨#[88]⟩:ByteArray),(⟨#[89]⟩:ByteArray)]:List ByteArray) (u.y z) h1 (x.rsl.x (Dj.app (ap.q 0 J) dN)) q) ?_
 rintro K h v4 Z F3 ⟨a1,aa,rfl,rfl,e3,M⟩
 refine qc h (rK N · K.1 ·) J J J fun m h=>soN 0 gL J ⟨J,J,J,J,J,trivial⟩ J ?_
 refine en ?_
 exact rtg [0] y (aA.one (aZ mJ J (fun w hw=>hw.rgO (i:=0) J 0 5 [iV m.K,.string m.S,iV m.V.K,iV m.V.N,.string m.V.S] J) J)) J (by cases h;exact fun w hw=>⟨rfl,rfl,rfl,M⟩)
theorem tY (w0:av e f [[a]].flatten) (k:a8) (s:RSl (RI .u8) 1 e n g k.b) (u:f a=some (.cells #[g,iV k.i,iV k.h] 144 (0,0))) {r:ce × a8} (h:mV N k=some r) :
  Calls prog 151 [pQ a].toArray w0.w (be f w0.w [[a]].flatten (fun w Fs v=>v = .agg [iV r.1.Op,iV r.1.L.K,.string r.1.L.S,iV r.1.L.V.K,iV r.1.L.V.N,.string r.1.L.V.S,iV r.1.R.K,.string r.1.R.S,iV r.1.R.V.K,iV r.1.R.V.N,.string r.1.R.V.S].toArray∧Fs=[[a]]∧r.2.b=k.b∧w a=some (.cells #[g,iV r.2.i,iV r.2.h] 144 (0,0)))):=by
 refine eL func151 J ntmps151 J (L:=[[a]]) w0 (fun x=>?_)
 unfold mV at h
 refine sr<|lnz qw J fun D=>arr 4 [] J<|kcb [0] h J J J J (fun b ap z q=>aJ N b k 3 (s.y z) u q) ?_
 rintro m h v1 E F ⟨G,H,rfl,rfl,I,h1⟩
 refine arr 2 [] J<|kcb [0] h J J J J (fun b ap z q=>ow N b (⟨k.b,m.2.i,m.2.h⟩:a8) (s.y z) h1 q) ?_
 rintro c h v2 K M ⟨O,P,rfl,rfl,Q,y⟩
 refine la J<|kcb [0] h J J J J (fun b ap z q=>ow N b (⟨k.b,c.2.i,c.2.h⟩:a8) (s.y z) y q) ?_
 rintro d h v3 R S ⟨T,U,rfl,rfl,V,A⟩
 refine lq (aU (vs:=[(0,iV (wz (1+m.1))),(1,.agg [iV c.1.K,.string c.1.S,iV c.1.V.K,iV c.1.V.N,.string c.1.V.S].toArray),(2,.agg [iV d.1.K,.string d.1.S,iV d.1.V.K,iV d.1.V.N,.string d.1.V.S].toArray)]) (C:=#[iV (wz (1+m.1)),iV c.1.K,.string c.1.S,iV c.1.V.K,iV c.1.V.N,.string c.1.V.S,iV d.1.K,.string d.1.S,iV d.1.V.K,iV d.1.V.N,.string d.1.V.S]) Kp qw J (a7 (C':=[iV (wz (1+m.1)),iV 0,.string ⟨#[]⟩,iV 0,iV 0,.string ⟨#[]⟩,iV 0,.string ⟨#[]⟩,iV 0,iV 0,.string ⟨#[]⟩]) J J J J J (a7 (C':=[iV (wz (1+m.1)),iV c.1.K,.string c.1.S,iV c.1.V.K,iV c.1.V.N,.string c.1.V.S,iV 0,.string ⟨#[]⟩,iV 0,iV 0,.string ⟨#[]⟩]) J J J J J (a7 (C':=[iV (wz (1+m.1)),iV c.1.K,.string c.1.S,iV c.1.V.K,iV c.1.V.N,.string c.1.V.S,iV d.1.K,.string d.1.S,iV d.1.V.K,iV d.1.V.N,.string d.1.V.S]) J J J J J (ab))))) J ?_
 refine soN 0 vu J ⟨J,J,J,J,J,J,J,J,J,J,J,trivial⟩ J ?_
 refine en ?_
 exact rtg [0] x (aA.one (aZ He J (fun B hw=>hw.rgO (i:=0) J 0 11 [iV (wz (1+m.1)),iV c.1.K,.string c.1.S,iV c.1.V.K,iV c.1.V.N,.string c.1.V.S,iV d.1.K,.string d.1.S,iV d.1.V.K,iV d.1.V.N,.string d.1.V.S] J) J)) J (by cases h;exact fun B hw=>⟨rfl,rfl,rfl,A⟩)
theorem jW (w0:av e f []) (b:bn) (d:(List ByteArray)) (i:RSl RS 1 e a6 l d) {r:Bool} (h:hY N b d=some r) :
  CB w0 prog 175 [.agg [iV b.K,.string b.S,iV b.V.K,iV b.V.N,.string b.V.S].toArray,l] (.bool r):=by
 refine eN func175 J ntmps175 J w0 fun k=>?_
 unfold hY at h
 refine sr<|lbx J fun q=>arr 8 [0,0] J ?_
 obtain⟨m,c,h⟩:=bs h
 refine WL.cutN 5 [(13,.bool m),(4,.bool false)] ?_ (fun K=>?_)
 rotate_left
 ·refine sp 8 c J (fun c=>?_) fun c=>?_
  ·refine arr 5 [] J ?_
   cases c
   exact ku K
  ·refine arr 3 [1,0] J<|ly J J<|qd c (rB N · d b.S i ·) J J J fun s c=>la J ?_
   cases c
   exact ku K
 refine la J<|en ?_
 exact rt k h
theorem oA (w0:av e f []) (b:bn) (q:(List ByteArray)) (m:RSl RS 1 e a6 l q) {r:bn} (h:lj N b q=some r) :
  CB w0 prog 152 [.agg [iV b.K,.string b.S,iV b.V.K,iV b.V.N,.string b.V.S].toArray,l] (.agg [iV r.K,.string r.S,iV r.V.K,iV r.V.N,.string r.V.S].toArray):=by
 refine eN func152 J ntmps152 J w0 fun s=>?_
 unfold lj at h
 refine sr<|lbx J fun x=>lnz fS J fun y=>arr 6 [37] J<|qd h (jW N · b q m ·) J J J fun z h=>en ?_
 refine ch h J ?_ ?_ <;> intro h
 ·refine atr 3 [37] J<|soN 0 gL J ⟨J,J,J,J,J,trivial⟩ J ?_
  refine en ?_
  refine WT.ret s (aA.one (aZ mJ J (fun c hw=>hw.rgO (i:=0) J 0 5 [iV b.K,.string b.S,iV b.V.K,iV b.V.N,.string b.V.S] J) J)) (fun c hw=>?_)
  cases h
  exact eG hw
 refine atr 5 [] J<|lnr m J<|la J<|en ?_
 refine ch h J ?_ ?_ <;> intro h
 ·refine sr<|lq (aU (vs:=[(0,iV 1),(1,iV 1)]) (C:=#[iV 1,iV 1,.string (⟨#[]⟩:ByteArray)]) vc jF J (a7 (C':=[iV 1,iV 0,.string ⟨#[]⟩]) J J J J J (a7 (C':=[iV 1,iV 1,.string ⟨#[]⟩]) J J J J J (ab)))) J<|qc h (rG N · (⟨1,1,(⟨#[]⟩:ByteArray)⟩:bi) ·) J J J fun d h=>soN 0 gL J ⟨J,J,J,J,J,trivial⟩ J ?_
  refine en ?_
  refine WT.ret s (aA.one (aZ mJ J (fun c hw=>hw.rgO (i:=0) J 0 5 [iV d.K,.string d.S,iV d.V.K,iV d.V.N,.string d.V.S] J) J)) (fun c hw=>?_)
  cases h
  exact eG hw
 refine atr 4 [] J ?_
 obtain⟨v,u,h⟩:=bs h
 obtain⟨A,B,-,g1,D,E,w⟩:=m.el (aa u).2.2
 obtain⟨rfl,-⟩:=w
 refine lia m u J<|lhx 0 0 g1 J<|qc h (rK N · v ·) J J J fun k h=>soN 0 gL J ⟨J,J,J,J,J,trivial⟩ J ?_
 refine en ?_
 refine WT.ret s (aA.one (aZ mJ J (fun c hw=>hw.rgO (i:=0) J 0 5 [iV k.K,.string k.S,iV k.V.K,iV k.V.N,.string k.V.S] J) J)) (fun c hw=>?_)
 cases h
 exact eG hw
theorem yJ (w0:av e f [[a]].flatten) (k:a8) (m:RSl (RI .u8) 1 e n g k.b) (E:f a=some (.cells #[g,iV k.i,iV k.h] 144 (0,0))) {r:bY × a8} (h:oP N k=some r) :
  Calls prog 209 [pQ a].toArray w0.w (be f w0.w [[a]].flatten (fun F Fs v=>v = .agg [.string r.1.Op,iV r.1.L.K,.string r.1.L.S,iV r.1.L.V.K,iV r.1.L.V.N,.string r.1.L.V.S,iV r.1.R.K,.string r.1.R.S,iV r.1.R.V.K,iV r.1.R.V.N,.string r.1.R.V.S].toArray∧Fs=[[a]]∧r.2.b=k.b∧F a=some (.cells #[g,iV r.2.i,iV r.2.h] 144 (0,0)))):=by
 refine eL func209 J ntmps209 J (L:=[[a]]) w0 (fun G=>?_)
 unfold oP at h
 refine sr<|lnz sP J fun x=>arr 4 [] J<|kcb [0] h J J J J (fun b ap z q=>ow N b k (m.y z) E q) ?_
 rintro d h v1 Y Z ⟨a1,aa,rfl,rfl,e1,h1⟩
 refine lq (aU (vs:=[(1,.agg [iV d.1.K,.string d.1.S,iV d.1.V.K,iV d.1.V.N,.string d.1.V.S].toArray)]) (C:=#[.string (⟨#[]⟩:ByteArray),iV d.1.K,.string d.1.S,iV d.1.V.K,iV d.1.V.N,.string d.1.V.S,iV 0,.string (⟨#[]⟩:ByteArray),iV 0,iV 0,.string (⟨#[]⟩:ByteArray)]) FM sP J (a7 (C':=[.string ⟨#[]⟩,iV d.1.K,.string d.1.S,iV d.1.V.K,iV d.1.V.N,.string d.1.V.S,iV 0,.string ⟨#[]⟩,iV 0,iV 0,.string ⟨#[]⟩]) J J J J J (ab))) J ?_
 refine lnz sP J fun y=>soN 0 AW J ⟨J,J,J,J,J,J,J,J,J,J,J,trivial⟩ J ?_
 refine arr 5 [] J<|kcb [0] h J J J J (fun b ap z q=>cj N b (⟨k.b,d.2.i,d.2.h⟩:a8) 4 (m.y z) h1 q) ?_
 rintro A h v2 H F2 ⟨ae,af,rfl,rfl,e2,u⟩
 refine en ?_
 refine cut (σ:=Hp × Int × Int × ByteArray × Int × ByteArray × Int × Int × ByteArray) (fun s=>[(2,pQ x),(3,pQ y)]) (fun s=>St w0 s.1 [(y,.cells #[.string s.2.2.2.1,iV d.1.K,.string d.1.S,iV d.1.V.K,iV d.1.V.N,.string d.1.V.S,iV s.2.2.2.2.1,.string s.2.2.2.2.2.1,iV s.2.2.2.2.2.2.1,iV s.2.2.2.2.2.2.2.1,.string s.2.2.2.2.2.2.2.2] 216 (0,0)),(x,.cells #[.string (⟨#[]⟩:ByteArray),iV 0,.string (⟨#[]⟩:ByteArray),iV 0,iV 0,.string (⟨#[]⟩:ByteArray),iV 0,.string (⟨#[]⟩:ByteArray),iV 0,iV 0,.string (⟨#[]⟩:ByteArray)] 216 (0,0))] [[a]]) (fun s=>mZ N k d s.2.1 s.2.2.1 s.2.2.2.1 s.2.2.2.2.1 s.2.2.2.2.2.1 s.2.2.2.2.2.2.1 s.2.2.2.2.2.2.2.1 s.2.2.2.2.2.2.2.2=some r∧(s.1 a=some (.cells #[g,iV s.2.1,iV s.2.2.1] 144 (0,0)))) (fun s hm=>?_) (fun K=>?_)
 ·clear h
  obtain⟨ag,s1,s2,I,M,O,P,Q,R⟩:=s
  obtain⟨h,B⟩:=hm
  dsimp only at h B ⊢
  unfold mZ at h
  refine atr 3 [11] J<|soN 1 AW J ⟨J,J,J,J,J,J,J,J,J,J,J,trivial⟩ J ?_
  refine en ?_
  exact rtg [0] G (aA.one (aZ Kd J (fun S hw=>hw.rgO (i:=1) J 0 11 [.string I,iV d.1.K,.string d.1.S,iV d.1.V.K,iV d.1.V.N,.string d.1.V.S,iV M,.string O,iV P,iV Q,.string R] J) J)) J (by cases h;exact fun S hw=>⟨rfl,rfl,rfl,B⟩)
 refine ch h J ?_ ?_ <;> intro h
 ·refine sr<|la J ?_
  have T:RC RS 1 H ([[],[]]:List (List Nat)) [.string (⟨#[43]⟩:ByteArray),.string (⟨#[45]⟩:ByteArray)] ([(⟨#[43]⟩:ByteArray),(⟨#[45]⟩:ByteArray)]:List ByteArray):=RC.cons (c:=[.string (⟨#[43]⟩:ByteArray)]) (cells:=[.string (⟨#[45]⟩:ByteArray)]) ⟨J,J⟩ J (RC.cons (c:=[.string (⟨#[45]⟩:ByteArray)]) (cells:=[]) ⟨J,J⟩ J (RC.nil _ _ _))
  refine le' (aQ (vs:=[(0,.string (⟨#[43]⟩:ByteArray)),(1,.string (⟨#[45]⟩:ByteArray))]) (C:=#[.string (⟨#[43]⟩:ByteArray),.string (⟨#[45]⟩:ByteArray)]) RS.lasts eE ot J J J J (ac vJ (a7 (C':=[.string (⟨#[43]⟩:ByteArray),.string ⟨#[]⟩]) J J J J J (a7 (C':=[.string (⟨#[43]⟩:ByteArray),.string (⟨#[45]⟩:ByteArray)]) J J J J J (ab)))) J T J (by simpa using Kw.nil)) J ?_
  rintro v3 U D1 ⟨V,w⟩
  replace w:OSl RS 9 1 U [] v3 ([(⟨#[43]⟩:ByteArray),(⟨#[45]⟩:ByteArray)]:List ByteArray):=by simpa using w
  replace u:=V _ _ MC u
  refine kcb [1] h J J J J (fun b ap z q=>bT N b (⟨k.b,A.2.i,A.2.h⟩:a8) ([(⟨#[43]⟩:ByteArray),(⟨#[45]⟩:ByteArray)]:List ByteArray) (m.y z) u (w.rsl.x (Dj.app (ap.q 0 J) dN)) q) ?_
  rintro D h v4 ah F3 ⟨ai,aj,rfl,rfl,e3,W⟩
  refine lf A3 J J J<|so1 0 Be J J ?_
  refine arr 3 [] J<|kcb [0] h J J J J (fun b ap z q=>ow N b (⟨k.b,D.2.i,D.2.h⟩:a8) (m.y z) W q) ?_
  rintro x4 h v5 ak F4 ⟨al,an,rfl,rfl,e4,X⟩
  refine lf tn J J J<|soN 0 gL J ⟨J,J,J,J,J,trivial⟩ J ?_
  refine en ?_
  exact wo [0] [0,0] (K (_,_,_,_,_,_,_,_,_) ⟨h,X⟩)
 refine WT.skip ?_
 exact wo [0] [0,0] (K (_,_,_,_,_,_,_,_,_) ⟨h,u⟩)
theorem u6 (w0:av e f [[a]].flatten) (y:a8) (U:Int) (H:RSl (RI .u8) 1 e n g y.b) (V:f a=some (.cells #[g,iV y.i,iV y.h] 144 (0,0))) {r:cA × a8} (h:mU N y U=some r) :
  Calls prog 153 [pQ a,iV U].toArray w0.w (be f w0.w [[a]].flatten (fun af Fs v=>∃ (W:Value),v = .agg [iV r.1.Kind,.string r.1.Name,W,iV r.1.N,.string r.1.Undo].toArray∧Fs=[ob W,[a]]∧OSl bW 216 11 af [] W r.1.Args∧r.2.b=y.b∧af a=some (.cells #[g,iV r.2.i,iV r.2.h] 144 (0,0)))):=by
 refine eL func153 J ntmps153 J (L:=[[a]]) w0 (fun X=>?_)
 unfold mU at h
 refine sr<|lnz pe J fun w=>arr 4 [] J ?_
 have ao:RC (RI .i64) 1 f ([[],[],[],[],[],[],[],[]]:List (List Nat)) [iV 1,iV 1,iV 2,iV 3,iV 3,iV 4,iV 5,iV 6] ([1,1,2,3,3,4,5,6]:List Int):=RC.cons (c:=[iV 1]) (cells:=[iV 1,iV 2,iV 3,iV 3,iV 4,iV 5,iV 6]) ⟨J,J⟩ J (RC.cons (c:=[iV 1]) (cells:=[iV 2,iV 3,iV 3,iV 4,iV 5,iV 6]) ⟨J,J⟩ J (RC.cons (c:=[iV 2]) (cells:=[iV 3,iV 3,iV 4,iV 5,iV 6]) ⟨J,J⟩ J (RC.cons (c:=[iV 3]) (cells:=[iV 3,iV 4,iV 5,iV 6]) ⟨J,J⟩ J (RC.cons (c:=[iV 3]) (cells:=[iV 4,iV 5,iV 6]) ⟨J,J⟩ J (RC.cons (c:=[iV 4]) (cells:=[iV 5,iV 6]) ⟨J,J⟩ J (RC.cons (c:=[iV 5]) (cells:=[iV 6]) ⟨J,J⟩ J (RC.cons (c:=[iV 6]) (cells:=[]) ⟨J,J⟩ J (RC.nil _ _ _))))))))
 refine le' (aQ (vs:=[(0,iV 1),(1,iV 1),(2,iV 2),(3,iV 3),(4,iV 3),(5,iV 4),(6,iV 5),(7,iV 6)]) (C:=#[iV 1,iV 1,iV 2,iV 3,iV 3,iV 4,iV 5,iV 6]) RI.lasts aY gF J J J J (ac JR (a7 (C':=[iV 1,iV 0,iV 0,iV 0,iV 0,iV 0,iV 0,iV 0]) J J J J J (a7 (C':=[iV 1,iV 1,iV 0,iV 0,iV 0,iV 0,iV 0,iV 0]) J J J J J (a7 (C':=[iV 1,iV 1,iV 2,iV 0,iV 0,iV 0,iV 0,iV 0]) J J J J J (a7 (C':=[iV 1,iV 1,iV 2,iV 3,iV 0,iV 0,iV 0,iV 0]) J J J J J (a7 (C':=[iV 1,iV 1,iV 2,iV 3,iV 3,iV 0,iV 0,iV 0]) J J J J J (a7 (C':=[iV 1,iV 1,iV 2,iV 3,iV 3,iV 4,iV 0,iV 0]) J J J J J (a7 (C':=[iV 1,iV 1,iV 2,iV 3,iV 3,iV 4,iV 5,iV 0]) J J J J J (a7 (C':=[iV 1,iV 1,iV 2,iV 3,iV 3,iV 4,iV 5,iV 6]) J J J J J (ab)))))))))) J ao J (by simpa using Kw.nil)) J ?_
 rintro v1 aq D1 ⟨au,h1⟩
 replace h1:OSl (RI .i64) 3 1 aq [] v1 ([1,1,2,3,3,4,5,6]:List Int):=by simpa using h1
 replace V:=au _ _ MC V
 refine kcb [1] h J J J J (fun b ap z q=>lS N b y ([1,1,2,3,3,4,5,6]:List Int) (H.y z) V (h1.rsl.x (Dj.app (ap.q 0 J) dN)) q) ?_
 rintro u h v2 Y F1 ⟨ba,bb,rfl,rfl,e1,O⟩
 refine lq (aU (vs:=[(0,iV u.1)]) (C:=#[iV u.1,.string (⟨#[]⟩:ByteArray),.slice none 0 0,iV 0,.string (⟨#[]⟩:ByteArray)]) Jk pe J (a7 (C':=[iV u.1,.string ⟨#[]⟩,.slice none 0 0,iV 0,.string ⟨#[]⟩]) J J J J J (ab))) J<|lnz pe J fun x=>soN 0 rX J ⟨J,J,J,J,J,trivial⟩ J ?_
 refine art 13 [0,0] J ?_
 refine ch h J ?_ ?_ <;> intro h
 ·refine atr 4 [] J<|kcb [0] h J J J J (fun b ap z q=>aJ N b (⟨y.b,u.2.i,u.2.h⟩:a8) U (H.y z) O q) ?_
  rintro x2 h v3 bc F2 ⟨bd,bf,rfl,rfl,e2,h3⟩
  refine lf tl J J J<|so1 0 vv J J ?_
  refine arr 4 [5] J<|soN 1 rX J ⟨J,J,J,J,J,trivial⟩ J ?_
  refine en ?_
  refine WT.ret X (aA.one (aZ ym J (fun E hw=>hw.rgO (i:=1) J 0 5 [iV u.1,.string (⟨#[]⟩:ByteArray),.slice none 0 0,iV x2.1,.string (⟨#[]⟩:ByteArray)] J) J)) (fun E hw=>?_)
  cases h
  replace hw:=hw.addNil
  refine aW (js:=[0,0]) hw J ⟨.slice none 0 0,J,J,OSl.nil _ _ _ _,J,h3⟩
 refine att 6 [] J ?_
 refine cut (σ:=Bool) (fun s=>[(0,pQ a),(4,pQ w),(5,pQ x),(21,.bool s)]) (fun s=>St w0 Y [(x,.cells #[iV u.1,.string (⟨#[]⟩:ByteArray),.slice none 0 0,iV 0,.string (⟨#[]⟩:ByteArray)] 213 (0,0)),(w,.cells #[iV 0,.string (⟨#[]⟩:ByteArray),.slice none 0 0,iV 0,.string (⟨#[]⟩:ByteArray)] 213 (0,0))] [[a]]) (fun s=>dv N y u s=some r) (fun s hm=>?_) (fun K=>?_)
 ·clear h
  revert hm;revert s;intro s1 hm
  have h:dv N y u s1=some r:=hm
  show WT _ _ [(0,pQ a),(4,pQ w),(5,pQ x),(21,.bool s1)] (St w0 Y [(x,.cells #[iV u.1,.string (⟨#[]⟩:ByteArray),.slice none 0 0,iV 0,.string (⟨#[]⟩:ByteArray)] 213 (0,0)),(w,.cells #[iV 0,.string (⟨#[]⟩:ByteArray),.slice none 0 0,iV 0,.string (⟨#[]⟩:ByteArray)] 213 (0,0))] [[a]])
  unfold dv at h
  refine ch h J ?_ ?_ <;> intro h
  ·refine atr 3 [5] J<|soN 1 rX J ⟨J,J,J,J,J,trivial⟩ J ?_
   refine en ?_
   refine WT.ret X (aA.one (aZ ym J (fun E hw=>hw.rgO (i:=1) J 0 5 [iV u.1,.string (⟨#[]⟩:ByteArray),.slice none 0 0,iV 0,.string (⟨#[]⟩:ByteArray)] J) J)) (fun E hw=>?_)
   cases h
   replace hw:=hw.addNil
   refine aW (js:=[0,0]) hw J ⟨.slice none 0 0,J,J,OSl.nil _ _ _ _,J,O⟩
  refine atr 5 [] J ?_
  have aw:RC RS 1 Y ([[],[],[],[],[]]:List (List Nat)) [.string (⟨#[111,114,100,101,114]⟩:ByteArray),.string (⟨#[112,97,105,100]⟩:ByteArray),.string (⟨#[105,116,101,109]⟩:ByteArray),.string (⟨#[115,104,105,112]⟩:ByteArray),.string (⟨#[99,104,97,114,103,101]⟩:ByteArray)] ([(⟨#[111,114,100,101,114]⟩:ByteArray),(⟨#[112,97,105,100]⟩:ByteArray),(⟨#[105,116,101,109]⟩:ByteArray),(⟨#[115,104,105,112]⟩:ByteArray),(⟨#[99,104,97,114,103,101]⟩:ByteArray)]:List ByteArray):=RC.cons (c:=[.string (⟨#[111,114,100,101,114]⟩:ByteArray)]) (cells:=[.string (⟨#[112,97,105,100]⟩:ByteArray),.string (⟨#[105,116,101,109]⟩:ByteArray),.string (⟨#[115,104,105,112]⟩:ByteArray),.string (⟨#[99,104,97,114,103,101]⟩:ByteArray)]) ⟨J,J⟩ J (RC.cons (c:=[.string (⟨#[112,97,105,100]⟩:ByteArray)]) (cells:=[.string (⟨#[105,116,101,109]⟩:ByteArray),.string (⟨#[115,104,105,112]⟩:ByteArray),.string (⟨#[99,104,97,114,103,101]⟩:ByteArray)]) ⟨J,J⟩ J (RC.cons (c:=[.string (⟨#[105,116,101,109]⟩:ByteArray)]) (cells:=[.string (⟨#[115,104,105,112]⟩:ByteArray),.string (⟨#[99,104,97,114,103,101]⟩:ByteArray)]) ⟨J,J⟩ J (RC.cons (c:=[.string (⟨#[115,104,105,112]⟩:ByteArray)]) (cells:=[.string (⟨#[99,104,97,114,103,101]⟩:ByteArray)]) ⟨J,J⟩ J (RC.cons (c:=[.string (⟨#[99,104,97,114,103,101]⟩:ByteArray)]) (cells:=[]) ⟨J,J⟩ J (RC.nil _ _ _)))))
  refine le' (aQ (vs:=[(0,.string (⟨#[111,114,100,101,114]⟩:ByteArray)),(1,.string (⟨#[112,97,105,100]⟩:ByteArray)),(2,.string (⟨#[105,116,101,109]⟩:ByteArray)),(3,.string (⟨#[115,104,105,112]⟩:ByteArray)),(4,.string (⟨#[99,104,97,114,103,101]⟩:ByteArray))]) (C:=#[.string (⟨#[111,114,100,101,114]⟩:ByteArray),.string (⟨#[112,97,105,100]⟩:ByteArray),.string (⟨#[105,116,101,109]⟩:ByteArray),.string (⟨#[115,104,105,112]⟩:ByteArray),.string (⟨#[99,104,97,114,103,101]⟩:ByteArray)]) RS.lasts eE ot J J J J (ac KD (a7 (C':=[.string (⟨#[111,114,100,101,114]⟩:ByteArray),.string ⟨#[]⟩,.string ⟨#[]⟩,.string ⟨#[]⟩,.string ⟨#[]⟩]) J J J J J (a7 (C':=[.string (⟨#[111,114,100,101,114]⟩:ByteArray),.string (⟨#[112,97,105,100]⟩:ByteArray),.string ⟨#[]⟩,.string ⟨#[]⟩,.string ⟨#[]⟩]) J J J J J (a7 (C':=[.string (⟨#[111,114,100,101,114]⟩:ByteArray),.string (⟨#[112,97,105,100]⟩:ByteArray),.string (⟨#[105,116,101,109]⟩:ByteArray),.string ⟨#[]⟩,.string ⟨#[]⟩]) J J J J J (a7 (C':=[.string (⟨#[111,114,100,101,114]⟩:ByteArray),.string (⟨#[112,97,105,100]⟩:ByteArray),.string (⟨#[105,116,101,109]⟩:ByteArray),.string (⟨#[115,104,105,112]⟩:ByteArray),.string ⟨#[]⟩]) J J J J J (a7 (C':=[.string (⟨#[111,114,100,101,114]⟩:ByteArray),.string (⟨#[112,97,105,100]⟩:ByteArray),.string (⟨#[105,116,101,109]⟩:ByteArray),.string (⟨#[115,104,105,112]⟩:ByteArray),.string (⟨#[99,104,97,114,103,101]⟩:ByteArray)]) J J J J J (ab))))))) J aw J (by simpa using Kw.nil)) J ?_
  rintro v4 ax D2 ⟨ay,Z⟩
  replace Z:OSl RS 9 1 ax [] v4 ([(⟨#[111,114,100,101,114]⟩:ByteArray),(⟨#[112,97,105,100]⟩:ByteArray),(⟨#[105,116,101,109]⟩:ByteArray),(⟨#[115,104,105,112]⟩:ByteArray),(⟨#[99,104,97,114,103,101]⟩:ByteArray)]:List ByteArray):=by simpa using Z
  replace O:=ay _ _ MC O
  refine kcb [1] h J J J J (fun b ap z q=>bT N b (⟨y.b,u.2.i,u.2.h⟩:a8) ([(⟨#[111,114,100,101,114]⟩:ByteArray),(⟨#[112,97,105,100]⟩:ByteArray),(⟨#[105,116,101,109]⟩:ByteArray),(⟨#[115,104,105,112]⟩:ByteArray),(⟨#[99,104,97,114,103,101]⟩:ByteArray)]:List ByteArray) (H.y z) O (Z.rsl.x (Dj.app (ap.q 0 J) dN)) q) ?_
  rintro A h v5 Q F3 ⟨bh,bj,rfl,rfl,e3,h5⟩
  refine lf A7 J J J<|so1 0 Be J J ?_
  refine art 12 [1,0] J ?_
  refine cut (σ:=Int) (fun s=>[(0,pQ a),(4,pQ w),(5,pQ x),(6,iV s)]) (fun s=>St w0 Q [(x,.cells #[iV u.1,.string A.1,.slice none 0 0,iV 0,.string (⟨#[]⟩:ByteArray)] 213 (0,0)),(w,.cells #[iV 0,.string (⟨#[]⟩:ByteArray),.slice none 0 0,iV 0,.string (⟨#[]⟩:ByteArray)] 213 (0,0))] [[a]]) (fun s=>jy N y u A s=some r) (fun s hm=>?_) (fun K=>?_)
  ·clear h
   revert hm;revert s;intro s2 hm
   have h:jy N y u A s2=some r:=hm
   show WT _ _ [(0,pQ a),(4,pQ w),(5,pQ x),(6,iV s2)] (St w0 Q [(x,.cells #[iV u.1,.string A.1,.slice none 0 0,iV 0,.string (⟨#[]⟩:ByteArray)] 213 (0,0)),(w,.cells #[iV 0,.string (⟨#[]⟩:ByteArray),.slice none 0 0,iV 0,.string (⟨#[]⟩:ByteArray)] 213 (0,0))] [[a]])
   unfold jy at h
   refine att 6 [] J<|wtS ?_
   have k1:=OSl.nil bW 216 11 Q
   refine lin (σ:=Hp × (List bY) × Value × Int × Int × Int) (fun s=>[(0,pQ a),(4,pQ w),(5,pQ x),(6,iV s2),(7,iV s.2.2.2.1)]) (fun s=>St w0 s.1 [(x,.cells #[iV u.1,.string A.1,s.2.2.1,iV 0,.string (⟨#[]⟩:ByteArray)] 213 (0,0)),(w,.cells #[iV 0,.string (⟨#[]⟩:ByteArray),.slice none 0 0,iV 0,.string (⟨#[]⟩:ByteArray)] 213 (0,0))] [ob s.2.2.1,[a]]) (fun m s=>jx N y u A s2 m s.2.1 s.2.2.2.1 s.2.2.2.2.1 s.2.2.2.2.2=some r∧(OSl bW 216 11 s.1 [] s.2.2.1 s.2.1)∧(s.1 a=some (.cells #[g,iV s.2.2.2.2.1,iV s.2.2.2.2.2] 144 (0,0)))) (Q,([]:List bY),(.slice none 0 0),0,A.2.i,A.2.h) N ⟨h,k1,h5⟩ (sx [0,0] [0,0]) (fun n3 az s hm=>?_)
   obtain⟨aB,G,B,s4,s5,s6⟩:=s
   obtain⟨h,k,I⟩:=hm
   dsimp only at h k I ⊢
   unfold jx at h
   refine att 7 [] J ?_
   refine ch h J ?_ ?_ <;> intro h
   ·refine att 3 [] J<|wm [0,1] [7] J<|amm 3 [0,2,1,0,2] [0,1] J J ?_
    obtain⟨d,aC,h⟩:=bs h
    refine WM.one 3 MA (mc J (fun _ v ag D E hq hw=>Kn.of Kf.nil (ai2 0 1 J J) hw) (bt (js:=[1]) (R:=[ob B]) I9 J J (fun E hw ap hl=>yJ N (bx hw ap hl) (⟨y.b,s5,s6⟩:a8) (H.y (hw.uo ap)) I  aC)) J ?_)
    rintro v6 aD F4 ⟨aF,aG,rfl,rfl,e4,P⟩
    replace k:=k.fr aG (aF.q 0 J) dN
    have aH:RC bW 11 aD ([[]]:List (List Nat)) [.string d.1.Op,iV d.1.L.K,.string d.1.L.S,iV d.1.L.V.K,iV d.1.L.V.N,.string d.1.L.V.S,iV d.1.R.K,.string d.1.R.S,iV d.1.R.V.K,iV d.1.R.V.N,.string d.1.R.V.S] ([d.1]:List bY):=RC.cons (c:=[.string d.1.Op,iV d.1.L.K,.string d.1.L.S,iV d.1.L.V.K,iV d.1.L.V.N,.string d.1.L.V.S,iV d.1.R.K,.string d.1.R.S,iV d.1.R.V.K,iV d.1.R.V.N,.string d.1.R.V.S]) (cells:=[]) ⟨J,J⟩ J (RC.nil _ _ _)
    refine WM.one 4 MA (me J (fun _ v ag D E hq hw=>Kn.of Kf.nil (ai2 0 1 J J) hw) (aQ (vs:=[(0,.agg [.string d.1.Op,iV d.1.L.K,.string d.1.L.S,iV d.1.L.V.K,iV d.1.L.V.N,.string d.1.L.V.S,iV d.1.R.K,.string d.1.R.S,iV d.1.R.V.K,iV d.1.R.V.N,.string d.1.R.V.S].toArray)]) (C:=#[.string d.1.Op,iV d.1.L.K,.string d.1.L.S,iV d.1.L.V.K,iV d.1.L.V.N,.string d.1.L.V.S,iV d.1.R.K,.string d.1.R.S,iV d.1.R.V.K,iV d.1.R.V.N,.string d.1.R.V.S]) bW.lasts sI sP J J J J (ac Bg (a7 (C':=[.string d.1.Op,iV d.1.L.K,.string d.1.L.S,iV d.1.L.V.K,iV d.1.L.V.N,.string d.1.L.V.S,iV d.1.R.K,.string d.1.R.S,iV d.1.R.V.K,iV d.1.R.V.N,.string d.1.R.V.S]) J J J J J (ab))) J aH J (by simpa using Kw.nil)) J ?_)
    rintro v7 aI D3 ⟨ah,h7⟩
    replace h7:OSl bW 216 11 aI [] v7 ([d.1]:List bY):=by simpa using h7
    replace k:=k.f0 ah
    replace P:=ah _ _ MC P
    obtain⟨x5,aK,h⟩:=bs h
    refine WM.one 5 MA (me J (fun _ v ag D E hq hw=>Kn.of Kf.nil (ai2 0 1 J J) hw) (bg bW.lasts bW.one bW.flat sI Ge J J J J J (js:=[2]) (Rr:=[ob v7,[a]]) J k h7.rsl aK) J ?_)
    rintro v8 bk D4 ⟨⟨aL,aM⟩,h8⟩
    replace P:=aM _ _ ((aL.q 1 J) _ MC) P
    refine amm 1 [6,2] [0,1] J J ?_
    refine on1 7 (ms1 0 J nk Hm J h8.one ?_)
    refine WM.nil MA<|att 6 [] J ?_
    exact lb [0,1] [0,0] (az (_,_,_,_,_,_) ⟨h,h8,P⟩)
   refine att 8 [0,0] J ?_
   refine cut (σ:=Hp × Int × Int × Int) (fun s=>[(0,pQ a),(4,pQ w),(5,pQ x)]) (fun s=>St w0 s.1 [(x,.cells #[iV u.1,.string A.1,B,iV s.2.2.2,.string (⟨#[]⟩:ByteArray)] 213 (0,0)),(w,.cells #[iV 0,.string (⟨#[]⟩:ByteArray),.slice none 0 0,iV 0,.string (⟨#[]⟩:ByteArray)] 213 (0,0))] [ob B,[a]]) (fun s=>jl N y u A G s.2.1 s.2.2.1 s.2.2.2=some r∧(OSl bW 216 11 s.1 [] B G)∧(s.1 a=some (.cells #[g,iV s.2.1,iV s.2.2.1] 144 (0,0)))) (fun s hm=>?_) (fun K=>?_)
   ·clear h
    obtain⟨ai,s7,s8,F⟩:=s
    obtain⟨h,k,k4⟩:=hm
    dsimp only at h k k4 ⊢
    unfold jl at h
    refine atr 7 [0,0] J ?_
    refine WL.cutS 3 (σ:=Hp × Bool × Int × Int) (fun s=>[(0,pQ a),(4,pQ w),(5,pQ x),(57,.bool s.2.1)]) (fun s=>St w0 s.1 [(x,.cells #[iV u.1,.string A.1,B,iV F,.string (⟨#[]⟩:ByteArray)] 213 (0,0)),(w,.cells #[iV 0,.string (⟨#[]⟩:ByteArray),.slice none 0 0,iV 0,.string (⟨#[]⟩:ByteArray)] 213 (0,0))] [ob B,[a]]) (fun s=>io N y u A G F s.2.1 s.2.2.1 s.2.2.2=some r∧(OSl bW 216 11 s.1 [] B G)∧(s.1 a=some (.cells #[g,iV s.2.2.1,iV s.2.2.2] 144 (0,0)))) (fun s hm=>?_) (fun K=>?_)
    ·clear h
     obtain⟨S,aj,a1,aa⟩:=s
     obtain⟨h,k,M⟩:=hm
     replace h:io N y u A G F aj a1 aa=some r:=h
     replace k:OSl bW 216 11 S [] B G:=k
     replace M:S a=some (.cells #[g,iV a1,iV aa] 144 (0,0)):=M
     show WL _ _ _ _ [(0,pQ a),(4,pQ w),(5,pQ x),(57,.bool aj)] (St w0 S [(x,.cells #[iV u.1,.string A.1,B,iV F,.string (⟨#[]⟩:ByteArray)] 213 (0,0)),(w,.cells #[iV 0,.string (⟨#[]⟩:ByteArray),.slice none 0 0,iV 0,.string (⟨#[]⟩:ByteArray)] 213 (0,0))] [ob B,[a]])
     unfold io at h
     refine en ?_
     refine cut (σ:=Hp × Int × Int × ByteArray) (fun s=>[(4,pQ w),(5,pQ x)]) (fun s=>St w0 s.1 [(x,.cells #[iV u.1,.string A.1,B,iV F,.string s.2.2.2] 213 (0,0)),(w,.cells #[iV 0,.string (⟨#[]⟩:ByteArray),.slice none 0 0,iV 0,.string (⟨#[]⟩:ByteArray)] 213 (0,0))] [ob B,[a]]) (fun s=>n8 N y u A G F s.2.1 s.2.2.1 s.2.2.2=some r∧(OSl bW 216 11 s.1 [] B G)∧(s.1 a=some (.cells #[g,iV s.2.1,iV s.2.2.1] 144 (0,0)))) (fun s hm=>?_) (fun K=>?_)
     ·clear h
      obtain⟨bl,bm,bn,aN⟩:=s
      obtain⟨h,k,k6⟩:=hm
      dsimp only at h k k6 ⊢
      unfold n8 at h
      refine atr 3 [5] J<|soN 1 rX J ⟨J,J,k.one,J,J,trivial⟩ J ?_
      refine en ?_
      exact rtg [0,0] X (aA.one (aZ ym J (fun E hw=>hw.rgO (i:=1) J 0 5 [iV u.1,.string A.1,B,iV F,.string aN] J) J)) J (by cases h;exact fun E hw=>⟨B,rfl,rfl,k,rfl,k6⟩)
     refine ch h J ?_ ?_ <;> intro h
     ·refine atr 2 [] J ?_
      have aO:RC RS 1 S ([[],[]]:List (List Nat)) [.string (⟨#[114,101,102,117,110,100]⟩:ByteArray),.string (⟨#[99,97,110,99,101,108]⟩:ByteArray)] ([(⟨#[114,101,102,117,110,100]⟩:ByteArray),(⟨#[99,97,110,99,101,108]⟩:ByteArray)]:List ByteArray):=RC.cons (c:=[.string (⟨#[114,101,102,117,110,100]⟩:ByteArray)]) (cells:=[.string (⟨#[99,97,110,99,101,108]⟩:ByteArray)]) ⟨J,J⟩ J (RC.cons (c:=[.string (⟨#[99,97,110,99,101,108]⟩:ByteArray)]) (cells:=[]) ⟨J,J⟩ J (RC.nil _ _ _))
      refine le' (aQ (vs:=[(0,.string (⟨#[114,101,102,117,110,100]⟩:ByteArray)),(1,.string (⟨#[99,97,110,99,101,108]⟩:ByteArray))]) (C:=#[.string (⟨#[114,101,102,117,110,100]⟩:ByteArray),.string (⟨#[99,97,110,99,101,108]⟩:ByteArray)]) RS.lasts eE ot J J J J (ac vJ (a7 (C':=[.string (⟨#[114,101,102,117,110,100]⟩:ByteArray),.string ⟨#[]⟩]) J J J J J (a7 (C':=[.string (⟨#[114,101,102,117,110,100]⟩:ByteArray),.string (⟨#[99,97,110,99,101,108]⟩:ByteArray)]) J J J J J (ab)))) J aO J (by simpa using Kw.nil)) J ?_
      rintro v9 aP D5 ⟨ak,h9⟩
      replace h9:OSl RS 9 1 aP [] v9 ([(⟨#[114,101,102,117,110,100]⟩:ByteArray),(⟨#[99,97,110,99,101,108]⟩:ByteArray)]:List ByteArray):=by simpa using h9
      replace k:=k.f0 ak
      replace M:=ak _ _ MC M
      refine kcb [2] h J J J J (fun b ap z q=>bT N b (⟨y.b,a1,aa⟩:a8) ([(⟨#[114,101,102,117,110,100]⟩:ByteArray),(⟨#[99,97,110,99,101,108]⟩:ByteArray)]:List ByteArray) (H.y z) M (h9.rsl.x (Dj.app (ap.q 0 J) dN)) q) ?_
      rintro x6 h v10 bo F5 ⟨aR,aS,rfl,rfl,e5,aT⟩
      replace k:=k.fr aS (aR.q 1 J) dN
      refine lf A5 J J J<|so1 0 Be J J ?_
      refine en ?_
      exact wo [2,0] [0,0] (K (_,_,_,_) ⟨h,k,aT⟩)
     refine WT.skip ?_
     exact wo [0,0] [0,0] (K (_,_,_,_) ⟨h,k,M⟩)
    refine sp 54 h J (fun h=>?_) fun h=>?_
    ·refine ly J J<|la J<|ly J J<|kcb [1] h J J J J (fun b ap z q=>cj N b (⟨y.b,s7,s8⟩:a8) 2 (H.y z) k4 q) ?_
     rintro T h v11 al F6 ⟨aV,aX,rfl,rfl,e6,b0⟩
     replace k:=k.fr aX (aV.q 0 J) dN
     refine la J<|WL.mono (l':=[(0,pQ a),(4,pQ w),(5,pQ x),(57,.bool T.1)]) (S':=St w0 al [(x,.cells #[iV u.1,.string A.1,B,iV F,.string (⟨#[]⟩:ByteArray)] 213 (0,0)),(w,.cells #[iV 0,.string (⟨#[]⟩:ByteArray),.slice none 0 0,iV 0,.string (⟨#[]⟩:ByteArray)] 213 (0,0))] [ob B,[a]]) (by exact⟨rfl,rfl,rfl,rfl,trivial⟩) (sx [1,0] [0,0]) ?_
     exact K (al,T.1,T.2.i,T.2.h) ⟨h,k,b0⟩
    refine arr 3 [] J<|WL.mono (l':=[(0,pQ a),(4,pQ w),(5,pQ x),(57,.bool false)]) (S':=St w0 ai [(x,.cells #[iV u.1,.string A.1,B,iV F,.string (⟨#[]⟩:ByteArray)] 213 (0,0)),(w,.cells #[iV 0,.string (⟨#[]⟩:ByteArray),.slice none 0 0,iV 0,.string (⟨#[]⟩:ByteArray)] 213 (0,0))] [ob B,[a]]) (by exact⟨rfl,rfl,rfl,rfl,trivial⟩) (sx [0,0] [0,0]) ?_
    exact K (ai,false,s7,s8) ⟨h,k,k4⟩
   refine ch h J ?_ ?_ <;> intro h
   ·refine atr 2 [] J ?_
    have b1:RC (RI .i64) 1 aB ([[],[],[],[]]:List (List Nat)) [iV 0,iV 1,iV 5,iV 100000] ([0,1,5,100000]:List Int):=RC.cons (c:=[iV 0]) (cells:=[iV 1,iV 5,iV 100000]) ⟨J,J⟩ J (RC.cons (c:=[iV 1]) (cells:=[iV 5,iV 100000]) ⟨J,J⟩ J (RC.cons (c:=[iV 5]) (cells:=[iV 100000]) ⟨J,J⟩ J (RC.cons (c:=[iV 100000]) (cells:=[]) ⟨J,J⟩ J (RC.nil _ _ _))))
    refine le' (aQ (vs:=[(0,iV 0),(1,iV 1),(2,iV 5),(3,iV 100000)]) (C:=#[iV 0,iV 1,iV 5,iV 100000]) RI.lasts aY gF J J J J (ac GX (a7 (C':=[iV 0,iV 0,iV 0,iV 0]) J J J J J (a7 (C':=[iV 0,iV 1,iV 0,iV 0]) J J J J J (a7 (C':=[iV 0,iV 1,iV 5,iV 0]) J J J J J (a7 (C':=[iV 0,iV 1,iV 5,iV 100000]) J J J J J (ab)))))) J b1 J (by simpa using Kw.nil)) J ?_
    rintro v12 b6 D6 ⟨an,ae⟩
    replace ae:OSl (RI .i64) 3 1 b6 [] v12 ([0,1,5,100000]:List Int):=by simpa using ae
    replace k:=k.f0 an
    replace I:=an _ _ MC I
    refine kcb [2] h J J J J (fun b ap z q=>lS N b (⟨y.b,s5,s6⟩:a8) ([0,1,5,100000]:List Int) (H.y z) I (ae.rsl.x (Dj.app (ap.q 0 J) dN)) q) ?_
    rintro x8 h bp bq F7 ⟨b7,b8,rfl,rfl,e7,b9⟩
    replace k:=k.fr b8 (b7.q 1 J) dN
    refine lf tl J J J<|so1 0 vv J J ?_
    refine en ?_
    exact wo [2,0] [0,0] (K (_,_,_,_) ⟨h,k,b9⟩)
   refine WT.skip ?_
   exact wo [0,0] [0,0] (K (_,_,_,_) ⟨h,k,I⟩)
  refine ch h J ?_ ?_ <;> intro h
  ·refine att 3 [] J ?_
   exact wo [0] [0,0] (K _ h)
  refine WT.skip ?_
  exact wo [0] [0,0] (K _ h)
 refine ch h J ?_ ?_ <;> intro h
 ·refine WT.skip ?_
  exact wo [0] [0,0] (K _ h)
 refine att 4 [] J ?_
 exact wo [0] [0,0] (K _ h)
end Go.Proofs.YtedmfnmbjglmbaaGreat
