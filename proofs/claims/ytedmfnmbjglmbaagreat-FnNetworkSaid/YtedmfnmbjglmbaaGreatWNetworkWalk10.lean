/- Printed by a program of ours: each Go function computes its Lean function. -/
import Derived.Test.YtedmfnmbjglmbaaGreatProg
import Derived.Test.YtedmfnmbjglmbaaGreatWNetworkWalk9
namespace Go.Proofs.YtedmfnmbjglmbaaGreat
open Eng Tryz
open Go.RowKit (Below)
set_option linter.unusedVariables false
set_option linter.unusedSimpArgs false

set_option maxRecDepth 100000
set_option maxHeartbeats 1000000
variable {e a:Hp} {f j g n l k p:Value} {a1 ad o ai aj a6 pG2:List Nat} (N:Nat)
theorem zM (w0:aA e a []) (v:(List az)) (b:RSl cI 3 e a1 f v) {r:Bool} (h:pS N v=some r) :
  CB w0 prog 102 [f] (.bool r):=by
 refine eN func102 J ntmps102 J w0 fun w=>?_
 unfold pS at h
 refine att 10 [] J ?_
 refine lin (σ:=Int) (fun s=>[(0,f),(3,iV s)]) (fun s=>St w0 a [] []) (fun m s=>fu N v m s=some r) (0) N h (sx [] []) (fun C D s hm=>?_)
 revert hm;revert s;intro s1 hm
 have h:fu N v (C+1) s1=some r:=hm
 show WT _ _ [(0,f),(3,iV s1)] (St w0 a [] [])
 unfold fu at h
 refine atr 5 [] J<|lnr b J<|la J<|en ?_
 refine ch h J ?_ ?_ <;> intro h
 ·refine atr 9 [] J ?_
  obtain⟨E,d,h⟩:=bs h
  refine WL.cutN 7 [(19,.bool E),(0,f),(3,iV s1)] ?_ (fun K=>?_)
  rotate_left
  ·refine sp 12 d J (fun d=>?_) fun d=>?_
   ·refine arr 2 [] J<|ly J J ?_
    obtain⟨Z,x,d⟩:=bs d
    obtain⟨a7,F1,-,g1,aa,ab,F⟩:=b.el (a8 x).2.2
    obtain⟨v1,G1,rfl,G,h1⟩:=F
    obtain rfl:=G.symm
    refine lia b x J<|ly J J<|lf mB J J J<|ly J J<|lhx 2 0 g1 J<|arr 2 [] J ?_
    cases d
    exact ku K
   ·refine arr 7 [] J ?_
    cases d
    exact ku K
  refine en ?_
  refine ch h J ?_ ?_ <;> intro h
  ·refine att 4 [] J ?_
   exact rt w h
  refine atr 5 [] J ?_
  obtain⟨H,y,h⟩:=bs h
  obtain⟨ae,F2,-,g2,af,ag,I⟩:=b.el (a8 y).2.2
  obtain⟨v2,G2,rfl,L,M⟩:=I
  obtain rfl:=L.symm
  refine lia b y J<|lhx 0 3 g2 J<|qd h (Bl N · H M ·) J J J fun x3 h=>arr 2 [] J ?_
  obtain⟨O,i,h⟩:=bs h
  refine WL.cutN 10 [(36,.bool O),(0,f),(3,iV s1)] ?_ (fun K=>?_)
  rotate_left
  ·refine sp 26 i J (fun i=>?_) fun i=>?_
   ·refine arr 10 [] J ?_
    cases i
    exact ku K
   ·refine arr 3 [] J ?_
    obtain⟨P,q,i⟩:=bs i
    refine WL.cutN 6 [(35,.bool P),(0,f),(3,iV s1),(26,.bool false)] ?_ (fun K=>?_)
    rotate_left
    ·refine sp 29 q J (fun q=>?_) fun q=>?_
     ·refine arr 2 [] J<|ly J J ?_
      obtain⟨x4,z,q⟩:=bs q
      obtain⟨ah,F3,-,g3,ak,al,Q⟩:=b.el (a8 z).2.2
      obtain⟨v3,G3,rfl,R,h3⟩:=Q
      obtain rfl:=R.symm
      refine lia b z J<|ly J J<|lf mB J J J<|ly J J<|lhx 2 0 g3 J<|ly J J<|la J ?_
      cases q
      exact ku K
     ·refine arr 6 [] J ?_
      cases q
      exact ku K
    refine la J ?_
    cases i
    exact ku K
  refine la J ?_
  obtain⟨S,c,h⟩:=bs h
  refine WL.cutN 19 [(56,.bool S),(0,f),(3,iV s1)] ?_ (fun K=>?_)
  rotate_left
  ·refine sp 37 c J (fun c=>?_) fun c=>?_
   ·refine arr 19 [] J ?_
    cases c
    exact ku K
   ·refine arr 3 [] J ?_
    obtain⟨T,t,c⟩:=bs c
    refine WL.cutN 7 [(47,.bool T),(0,f),(3,iV s1),(37,.bool false)] ?_ (fun K=>?_)
    rotate_left
    ·refine sp 40 t J (fun t=>?_) fun t=>?_
     ·refine arr 3 [] J<|ly J J ?_
      obtain⟨x5,A,t⟩:=bs t
      obtain⟨an,F4,-,g4,ao,aq,U⟩:=b.el (a8 A).2.2
      obtain⟨v4,G4,rfl,V,h4⟩:=U
      obtain rfl:=V.symm
      refine lia b A J<|ly J J<|lf mB J J J<|ly J J<|lhx 2 0 g4 J<|ly J J<|la J ?_
      cases t
      exact ku K
     ·refine arr 7 [] J ?_
      cases t
      exact ku K
    refine ly J J<|la J ?_
    obtain⟨W,u,c⟩:=bs c
    refine WL.cutN 7 [(55,.bool W),(0,f),(3,iV s1),(37,.bool false)] ?_ (fun K=>?_)
    rotate_left
    ·refine sp 48 u J (fun u=>?_) fun u=>?_
     ·refine arr 2 [] J<|ly J J ?_
      obtain⟨x6,B,u⟩:=bs u
      obtain⟨ar,F5,-,g5,au,av,X⟩:=b.el (a8 B).2.2
      obtain⟨v5,G5,rfl,Y,h5⟩:=X
      obtain rfl:=Y.symm
      refine lia b B J<|ly J J<|lf mB J J J<|ly J J<|lhx 2 0 g5 J<|arr 2 [] J ?_
      cases u
      exact ku K
     ·refine arr 7 [] J ?_
      cases u
      exact ku K
    refine la J ?_
    cases c
    exact ku K
  refine en ?_
  refine ch h J ?_ ?_ <;> intro h
  ·refine att 4 [] J ?_
   exact rt w h
  refine att 7 [] J ?_
  exact lb [] [] (D _ h)
 refine atr 4 [] J<|lnr b J<|qc h (d9 N · (v.length:Int) 1 6 ·) J J J fun x7 h=>la J<|en ?_
 exact rt w h
theorem zT  (w0:aA e a []) (b:cX)  {r:Bool} (h:pY N b=some r) :
  CB w0 prog 174 [.agg [iV b.Op,iV b.L.K,.string b.L.S,iV b.L.V.K,iV b.L.V.N,.string b.L.V.S,iV b.R.K,.string b.R.S,iV b.R.V.K,iV b.R.V.N,.string b.R.V.S].toArray] (.bool r):=by
 refine eN func174 J ntmps174 J w0 fun s=>?_
 unfold pY at h
 refine sr<|lbx J fun q=>arr 6 [0,0] J<|qc h (d9 N · b.Op 1 3 ·) J J J fun x h=>la J ?_
 obtain⟨t,c,h⟩:=bs h
 refine WL.cutN 4 [(10,.bool t),(1,pQ q),(2,.bool false)] ?_ (fun K=>?_)
 rotate_left
 ·refine sp 6 c J (fun c=>?_) fun c=>?_
  ·refine arr 2 [1,5] J<|ly J J<|qc c (pf N · b.L ·) J J J fun y c=>la J ?_
   cases c
   exact ku K
  ·refine arr 4 [] J ?_
   cases c
   exact ku K
 refine la J ?_
 obtain⟨u,d,h⟩:=bs h
 refine WL.cutN 4 [(15,.bool u),(1,pQ q),(2,.bool false)] ?_ (fun K=>?_)
 rotate_left
 ·refine sp 11 d J (fun d=>?_) fun d=>?_
  ·refine arr 2 [6,5] J<|ly J J<|qc d (pf N · b.R ·) J J J fun z d=>la J ?_
   cases d
   exact ku K
  ·refine arr 4 [] J ?_
   cases d
   exact ku K
 refine la J ?_
 obtain⟨v,i,h⟩:=bs h
 refine WL.cutN 5 [(21,.bool v),(1,pQ q),(2,.bool false)] ?_ (fun K=>?_)
 rotate_left
 ·refine sp 16 i J (fun i=>?_) fun i=>?_
  ·refine arr 5 [1,0,0] J ?_
   cases i
   exact ku K
  ·refine arr 5 [] J ?_
   cases i
   exact ku K
 refine la J ?_
 obtain⟨w,m,h⟩:=bs h
 refine WL.cutN 5 [(27,.bool w),(2,.bool false)] ?_ (fun K=>?_)
 rotate_left
 ·refine sp 22 m J (fun m=>?_) fun m=>?_
  ·refine arr 5 [6,0,0] J ?_
   cases m
   exact ku K
  ·refine arr 5 [] J ?_
   cases m
   exact ku K
 refine la J<|en ?_
 exact rt s h
theorem ze (w0:aA e a []) (q:(List cX)) (i:(List ByteArray)) (d:RSl bT 11 e a1 f q) (t:RSl RS 1 e ad j i) {r:Bool} (h:ow N q i=some r) :
  CB w0 prog 103 [f,j] (.bool r):=by
 refine eN func103 J ntmps103 J w0 fun u=>?_
 unfold ow at h
 refine att 10 [] J ?_
 refine lin (σ:=Int) (fun s=>[(0,f),(1,j),(5,iV s)]) (fun s=>St w0 a [] []) (fun m s=>fX N q i m s=some r) (0) N h (sx [] []) (fun y z s hm=>?_)
 revert hm;revert s;intro s1 hm
 have h:fX N q i (y+1) s1=some r:=hm
 show WT _ _ [(0,f),(1,j),(5,iV s1)] (St w0 a [] [])
 unfold fX at h
 refine atr 5 [] J<|lnr d J<|la J<|en ?_
 refine ch h J ?_ ?_ <;> intro h
 ·refine atr 7 [] J ?_
  obtain⟨A,v,h⟩:=bs h
  obtain⟨I,L,-,g1,M,O,B⟩:=d.el (a8 v).2.2
  obtain⟨rfl,-⟩:=B
  refine lia d v J<|lhx 0 11 g1 J<|qc h (zT N · A ·) J J J fun P h=>arr 2 [] J ?_
  obtain⟨C,b,h⟩:=bs h
  refine WL.cutN 9 [(27,.bool C),(0,f),(1,j),(5,iV s1)] ?_ (fun K=>?_)
  rotate_left
  ·refine sp 18 b J (fun b=>?_) fun b=>?_
   ·refine arr 9 [] J ?_
    cases b
    exact ku K
   ·refine arr 2 [] J<|ly J J ?_
    obtain⟨D,w,b⟩:=bs b
    obtain⟨Q,R,-,g2,S,T,E⟩:=d.el (a8 w).2.2
    obtain⟨rfl,-⟩:=E
    refine lia d w J<|ly J J<|lf AJ J J J<|ly J J<|lhx 1 5 g2 J<|ly J J<|la J<|ly J J<|qd b (kM N · D.L i t ·) J J J fun U b=>arr 2 [] J ?_
    cases b
    exact ku K
  refine la J ?_
  obtain⟨F,c,h⟩:=bs h
  refine WL.cutN 9 [(37,.bool F),(0,f),(1,j),(5,iV s1)] ?_ (fun K=>?_)
  rotate_left
  ·refine sp 28 c J (fun c=>?_) fun c=>?_
   ·refine arr 9 [] J ?_
    cases c
    exact ku K
   ·refine arr 2 [] J<|ly J J ?_
    obtain⟨G,x,c⟩:=bs c
    obtain⟨V,W,-,g3,X,Y,H⟩:=d.el (a8 x).2.2
    obtain⟨rfl,-⟩:=H
    refine lia d x J<|ly J J<|lf Au J J J<|ly J J<|lhx 6 5 g3 J<|ly J J<|la J<|ly J J<|qd c (kM N · G.R i t ·) J J J fun Z c=>arr 2 [] J ?_
    cases c
    exact ku K
  refine en ?_
  refine ch h J ?_ ?_ <;> intro h
  ·refine att 4 [] J ?_
   exact rt u h
  refine att 7 [] J ?_
  exact lb [] [] (z _ h)
 refine atr 4 [] J<|lnr d J<|art 3 [] J ?_
 exact rt u h
theorem pM  (w0:aA e a []) (b:bZ)  {r:Bool} (h:kT N b=some r) :
  CB w0 prog 258 [.agg [iV b.K,.string b.S,iV b.V.K,iV b.V.N,.string b.V.S].toArray] (.bool r):=by
 refine eN func258 J ntmps258 J w0 fun d=>?_
 unfold kT at h
 refine sr<|lbx J fun m=>arr 5 [5] J<|qc h (pf N · b ·) J J J fun q h=>la J ?_
 obtain⟨i,c,h⟩:=bs h
 refine WL.cutN 4 [(9,.bool i),(2,.bool false)] ?_ (fun K=>?_)
 rotate_left
 ·refine sp 5 c J (fun c=>?_) fun c=>?_
  ·refine arr 4 [0,0] J ?_
   cases c
   exact ku K
  ·refine arr 4 [] J ?_
   cases c
   exact ku K
 refine la J<|en ?_
 exact rt d h
theorem A5  (w0:aA e a []) (b:d5)  {r:Bool} (h:pP N b=some r) :
  CB w0 prog 241 [.agg [.string b.Op,iV b.L.K,.string b.L.S,iV b.L.V.K,iV b.L.V.N,.string b.L.V.S,iV b.R.K,.string b.R.S,iV b.R.V.K,iV b.R.V.N,.string b.R.V.S].toArray] (.bool r):=by
 refine eN func241 J ntmps241 J w0 fun m=>?_
 unfold pP at h
 refine sr<|lbx J fun i=>art 14 [0,0] J ?_
 refine ch h J ?_ ?_ <;> intro h
 ·refine atr 4 [1,5] J<|qc h (pM N · b.L ·) J J J fun u h=>la J ?_
  obtain⟨q,d,h⟩:=bs h
  refine WL.cutN 5 [(15,.bool q),(2,.bool false)] ?_ (fun K=>?_)
  rotate_left
  ·refine sp 10 d J (fun d=>?_) fun d=>?_
   ·refine arr 2 [6,5] J<|ly J J<|lq (bA (vs:=[]) (C:=#[iV 0,.string (⟨#[]⟩:ByteArray),iV 0,iV 0,.string (⟨#[]⟩:ByteArray)]) zc kt J (ae)) J<|ly J J<|lq (yG EF J J J (r:=om b.R (⟨0,(⟨#[]⟩:ByteArray),(⟨0,0,(⟨#[]⟩:ByteArray)⟩:bn)⟩:bZ)) J) J<|la J ?_
    cases d
    exact ku K
   ·refine arr 5 [] J ?_
    cases d
    exact ku K
  refine la J<|en ?_
  exact rt m h
 refine att 6 [] J ?_
 refine cut (σ:=Bool) (fun s=>[(1,pQ i),(16,.bool s)]) (fun s=>St w0 a [(i,.cells #[.string b.Op,iV b.L.K,.string b.L.S,iV b.L.V.K,iV b.L.V.N,.string b.L.V.S,iV b.R.K,.string b.R.S,iV b.R.V.K,iV b.R.V.N,.string b.R.V.S] 216 (0,0))] []) (fun s=>ko N b s=some r) (fun s hm=>?_) (fun K=>?_)
 ·clear h
  revert hm;revert s;intro s1 hm
  have h:ko N b s1=some r:=hm
  show WT _ _ [(1,pQ i),(16,.bool s1)] (St w0 a [(i,.cells #[.string b.Op,iV b.L.K,.string b.L.S,iV b.L.V.K,iV b.L.V.N,.string b.L.V.S,iV b.R.K,.string b.R.S,iV b.R.V.K,iV b.R.V.N,.string b.R.V.S] 216 (0,0))] [])
  unfold ko at h
  refine ch h J ?_ ?_ <;> intro h
  ·refine atr 4 [1,5] J<|qc h (pM N · b.L ·) J J J fun v h=>la J ?_
   obtain⟨t,c,h⟩:=bs h
   refine WL.cutN 4 [(26,.bool t)] ?_ (fun K=>?_)
   rotate_left
   ·refine sp 22 c J (fun c=>?_) fun c=>?_
    ·refine arr 2 [6,5] J<|ly J J<|qc c (pM N · b.R ·) J J J fun w c=>la J ?_
     cases c
     exact ku K
    ·refine arr 4 [] J ?_
     cases c
     exact ku K
   refine la J<|en ?_
   exact rt m h
  refine att 6 [] J ?_
  exact rt m h
 refine ch h J ?_ ?_ <;> intro h
 ·refine WT.skip ?_
  exact wo [] [0] (K _ h)
 refine att 4 [] J ?_
 exact wo [] [0] (K _ h)
theorem rp (w0:aA e a []) (b:(List d5)) (c:RSl de 11 e a1 f b) {r:Bool} (h:m6 N b=some r) :
  CB w0 prog 218 [f] (.bool r):=by
 refine eN func218 J ntmps218 J w0 fun d=>?_
 unfold m6 at h
 refine att 10 [] J ?_
 refine lin (σ:=Int) (fun s=>[(0,f),(3,iV s)]) (fun s=>St w0 a [] []) (fun m s=>gW N b m s=some r) (0) N h (sx [] []) (fun q t s hm=>?_)
 revert hm;revert s;intro s1 hm
 have h:gW N b (q+1) s1=some r:=hm
 show WT _ _ [(0,f),(3,iV s1)] (St w0 a [] [])
 unfold gW at h
 refine atr 5 [] J<|lnr c J<|la J<|en ?_
 refine ch h J ?_ ?_ <;> intro h
 ·refine atr 7 [] J ?_
  obtain⟨u,i,h⟩:=bs h
  obtain⟨w,x,-,g1,y,z,v⟩:=c.el (a8 i).2.2
  obtain⟨rfl,-⟩:=v
  refine lia c i J<|lhx 0 11 g1 J<|qc h (A5 N · u ·) J J J fun A h=>la J<|en ?_
  refine ch h J ?_ ?_ <;> intro h
  ·refine att 4 [] J ?_
   exact rt d h
  refine att 7 [] J ?_
  exact lb [] [] (t _ h)
 refine atr 4 [] J<|lnr c J<|art 3 [] J ?_
 exact rt d h
theorem BG (w0:aA e a []) (b:ei) (F:RSl de 11 e o g b.Args) {r:Bool} (h:rN N b=some r) :
  CB w0 prog 176 [.agg [iV b.Kind,.string b.Name,g,iV b.N,.string b.Undo].toArray] (.bool r):=by
 refine eN func176 J ntmps176 J w0 fun w=>?_
 unfold rN at h
 refine sr<|lbx J fun c=>arr 8 [1,0] J ?_
 obtain⟨G,x,h⟩:=bs h
 refine WL.cutN 5 [(12,.bool G),(1,pQ c)] ?_ (fun K=>?_)
 rotate_left
 ·refine sp 7 x J (fun x=>?_) fun x=>?_
  ·refine arr 2 [2,0] J<|ly J J<|lnr F J<|arr 2 [] J ?_
   cases x
   exact ku K
  ·refine arr 5 [] J ?_
   cases x
   exact ku K
 refine la J ?_
 obtain⟨y,z,h⟩:=bs h
 refine WL.cutN 4 [(17,.bool y),(1,pQ c)] ?_ (fun K=>?_)
 rotate_left
 ·refine sp 13 z J (fun z=>?_) fun z=>?_
  ·refine arr 4 [4,0] J ?_
   cases z
   exact ku K
  ·refine arr 4 [] J ?_
   cases z
   exact ku K
 refine art 14 [0,0] J ?_
 refine ch h J ?_ ?_ <;> intro h
 ·refine atr 4 [1,0] J<|qc h (i7 N · b.Name ·) J J J fun W h=>la J ?_
  obtain⟨H,d,h⟩:=bs h
  refine WL.cutN 4 [(29,.bool H),(1,pQ c)] ?_ (fun K=>?_)
  rotate_left
  ·refine sp 25 d J (fun d=>?_) fun d=>?_
   ·refine arr 2 [2,0] J<|ly J J<|qd d (rp N · b.Args F ·) J J J fun X d=>la J ?_
    cases d
    exact ku K
   ·refine arr 4 [] J ?_
    cases d
    exact ku K
  refine la J ?_
  obtain⟨I,A,h⟩:=bs h
  refine WL.cutN 4 [(34,.bool I),(1,pQ c)] ?_ (fun K=>?_)
  rotate_left
  ·refine sp 30 A J (fun A=>?_) fun A=>?_
   ·refine arr 4 [3,0] J ?_
    cases A
    exact ku K
   ·refine arr 4 [] J ?_
    cases A
    exact ku K
  refine la J ?_
  obtain⟨L,B,h⟩:=bs h
  refine WL.cutN 4 [(39,.bool L)] ?_ (fun K=>?_)
  rotate_left
  ·refine sp 35 B J (fun B=>?_) fun B=>?_
   ·refine arr 4 [4,0] J ?_
    cases B
    exact ku K
   ·refine arr 4 [] J ?_
    cases B
    exact ku K
  refine la J<|en ?_
  exact rt w h
 refine att 5 [] J ?_
 refine ch h J ?_ ?_ <;> intro h
 ·refine atr 4 [1,0] J<|qc h (i7 N · b.Name ·) J J J fun Y h=>la J ?_
  obtain⟨M,i,h⟩:=bs h
  refine WL.cutN 4 [(49,.bool M),(1,pQ c)] ?_ (fun K=>?_)
  rotate_left
  ·refine sp 45 i J (fun i=>?_) fun i=>?_
   ·refine arr 2 [2,0] J<|ly J J<|qd i (rp N · b.Args F ·) J J J fun Z i=>la J ?_
    cases i
    exact ku K
   ·refine arr 4 [] J ?_
    cases i
    exact ku K
  refine la J ?_
  obtain⟨O,C,h⟩:=bs h
  refine WL.cutN 4 [(54,.bool O),(1,pQ c)] ?_ (fun K=>?_)
  rotate_left
  ·refine sp 50 C J (fun C=>?_) fun C=>?_
   ·refine arr 4 [3,0] J ?_
    cases C
    exact ku K
   ·refine arr 4 [] J ?_
    cases C
    exact ku K
  refine la J ?_
  obtain⟨P,m,h⟩:=bs h
  refine WL.cutN 9 [(64,.bool P)] ?_ (fun K=>?_)
  rotate_left
  ·refine sp 55 m J (fun m=>?_) fun m=>?_
   ·refine arr 4 [4,0] J ?_
    obtain⟨Q,q,m⟩:=bs m
    refine WL.cutN 4 [(63,.bool Q),(55,.bool true)] ?_ (fun K=>?_)
    rotate_left
    ·refine sp 59 q J (fun q=>?_) fun q=>?_
     ·refine arr 4 [] J ?_
      cases q
      exact ku K
     ·refine arr 2 [4,0] J<|ly J J<|qc q (i7 N · b.Undo ·) J J J fun x5 q=>ly J J<|la J ?_
      cases q
      exact ku K
    refine la J ?_
    cases m
    exact ku K
   ·refine arr 9 [] J ?_
    cases m
    exact ku K
  refine la J<|en ?_
  exact rt w h
 refine att 5 [] J ?_
 refine ch h J ?_ ?_ <;> intro h
 ·refine atr 4 [1,0] J<|qc h (i7 N · b.Name ·) J J J fun x6 h=>la J ?_
  obtain⟨R,t,h⟩:=bs h
  refine WL.cutN 4 [(74,.bool R),(1,pQ c)] ?_ (fun K=>?_)
  rotate_left
  ·refine sp 70 t J (fun t=>?_) fun t=>?_
   ·refine arr 2 [2,0] J<|ly J J<|qd t (rp N · b.Args F ·) J J J fun x7 t=>la J ?_
    cases t
    exact ku K
   ·refine arr 4 [] J ?_
    cases t
    exact ku K
  refine la J ?_
  obtain⟨S,u,h⟩:=bs h
  refine WL.cutN 4 [(79,.bool S),(1,pQ c)] ?_ (fun K=>?_)
  rotate_left
  ·refine sp 75 u J (fun u=>?_) fun u=>?_
   ·refine arr 2 [3,0] J<|ly J J<|qc u (d9 N · b.N 0 100000 ·) J J J fun x8 u=>la J ?_
    cases u
    exact ku K
   ·refine arr 4 [] J ?_
    cases u
    exact ku K
  refine la J ?_
  obtain⟨T,D,h⟩:=bs h
  refine WL.cutN 4 [(84,.bool T)] ?_ (fun K=>?_)
  rotate_left
  ·refine sp 80 D J (fun D=>?_) fun D=>?_
   ·refine arr 4 [4,0] J ?_
    cases D
    exact ku K
   ·refine arr 4 [] J ?_
    cases D
    exact ku K
  refine la J<|en ?_
  exact rt w h
 refine att 5 [] J ?_
 refine ch h J ?_ ?_ <;> intro h
 ·refine atr 4 [] J ?_
  obtain⟨U,v,h⟩:=bs h
  refine WL.cutN 4 [(92,.bool U)] ?_ (fun K=>?_)
  rotate_left
  ·refine sp 88 v J (fun v=>?_) fun v=>?_
   ·refine arr 2 [3,0] J<|ly J J<|qc v (d9 N · b.N 0 7 ·) J J J fun x9 v=>la J ?_
    cases v
    exact ku K
   ·refine arr 4 [] J ?_
    cases v
    exact ku K
  refine la J<|en ?_
  exact rt w h
 refine att 6 [] J ?_
 refine cut (σ:=Bool) (fun s=>[(1,pQ c),(3,.bool y),(93,.bool s)]) (fun s=>St w0 a [(c,.cells #[iV b.Kind,.string b.Name,g,iV b.N,.string b.Undo] 213 (0,0))] []) (fun s=>l8 N b y s=some r) (fun s hm=>?_) (fun K=>?_)
 ·clear h
  revert hm;revert s;intro s1 hm
  have h:l8 N b y s1=some r:=hm
  show WT _ _ [(1,pQ c),(3,.bool y),(93,.bool s1)] (St w0 a [(c,.cells #[iV b.Kind,.string b.Name,g,iV b.N,.string b.Undo] 213 (0,0))] [])
  unfold l8 at h
  refine ch h J ?_ ?_ <;> intro h
  ·refine atr 4 [] J ?_
   obtain⟨V,E,h⟩:=bs h
   refine WL.cutN 4 [(101,.bool V)] ?_ (fun K=>?_)
   rotate_left
   ·refine sp 97 E J (fun E=>?_) fun E=>?_
    ·refine arr 4 [3,0] J ?_
     cases E
     exact ku K
    ·refine arr 4 [] J ?_
     cases E
     exact ku K
   refine la J<|en ?_
   exact rt w h
  refine att 6 [] J ?_
  exact rt w h
 refine ch h J ?_ ?_ <;> intro h
 ·refine WT.skip ?_
  exact wo [] [0] (K _ h)
 refine att 4 [] J ?_
 exact wo [] [0] (K _ h)
theorem Ah (w0:aA e a []) (q:(List ei)) (i:(List ByteArray)) (c:Int) (b:RSl fm 5 e a1 f q) (x:RSl RS 1 e ad j i) {r:Bool} (h:qG N q i c=some r) :
  CB w0 prog 104 [f,j,iV c] (.bool r):=by
 refine eN func104 J ntmps104 J w0 fun v=>?_
 unfold qG at h
 refine att 10 [] J ?_
 refine lin (σ:=Int) (fun s=>[(0,f),(1,j),(2,iV c),(7,iV s)]) (fun s=>St w0 a [] []) (fun m s=>ed N q i c m s=some r) (0) N h (sx [] []) (fun w I s hm=>?_)
 revert hm;revert s;intro s1 hm
 have h:ed N q i c (w+1) s1=some r:=hm
 show WT _ _ [(0,f),(1,j),(2,iV c),(7,iV s1)] (St w0 a [] [])
 unfold ed at h
 refine atr 5 [] J<|lnr b J<|la J<|en ?_
 refine ch h J ?_ ?_ <;> intro h
 ·refine atr 8 [] J ?_
  obtain⟨L,y,h⟩:=bs h
  obtain⟨ae,F1,-,g1,af,ag,M⟩:=b.el (a8 y).2.2
  obtain⟨v1,G1,rfl,O,h1⟩:=M
  obtain rfl:=O.symm
  refine lia b y J<|lhx 0 5 g1 J<|qd h (BG N · L h1 ·) J J J fun x2 h=>arr 2 [] J ?_
  obtain⟨P,t,h⟩:=bs h
  refine WL.cutN 16 [(37,.bool P),(0,f),(1,j),(2,iV c),(7,iV s1)] ?_ (fun K=>?_)
  rotate_left
  ·refine sp 21 t J (fun t=>?_) fun t=>?_
   ·refine arr 16 [] J ?_
    cases t
    exact ku K
   ·refine arr 2 [] J<|ly J J ?_
    obtain⟨x3,z,t⟩:=bs t
    obtain⟨ah,F2,-,g2,ak,al,Q⟩:=b.el (a8 z).2.2
    obtain⟨v2,G2,rfl,R,h2⟩:=Q
    obtain rfl:=R.symm
    refine lia b z J<|ly J J<|lf GB J J J<|ly J J<|lhx 0 0 g2 J<|arr 2 [] J ?_
    obtain⟨S,u,t⟩:=bs t
    refine WL.cutN 8 [(36,.bool S),(0,f),(1,j),(2,iV c),(7,iV s1),(21,.bool false)] ?_ (fun K=>?_)
    rotate_left
    ·refine sp 28 u J (fun u=>?_) fun u=>?_
     ·refine arr 2 [] J<|ly J J ?_
      obtain⟨x4,A,u⟩:=bs u
      obtain⟨an,F3,-,g3,ao,aq,T⟩:=b.el (a8 A).2.2
      obtain⟨v3,G3,rfl,U,h3⟩:=T
      obtain rfl:=U.symm
      refine lia b A J<|ly J J<|lf wN J J J<|ly J J<|lhx 3 0 g3 J<|arr 3 [] J ?_
      cases u
      exact ku K
     ·refine arr 8 [] J ?_
      cases u
      exact ku K
    refine la J ?_
    cases t
    exact ku K
  refine en ?_
  refine ch h J ?_ ?_ <;> intro h
  ·refine att 4 [] J ?_
   exact rt v h
  refine att 6 [] J ?_
  refine lin (σ:=Int) (fun s=>[(0,f),(1,j),(2,iV c),(7,iV s1),(8,iV s)]) (fun s=>St w0 a [] []) (fun m s=>i8 N q i s1 (ed N q i c w) m s=some r) (0) N h (sx [] []) (fun V W s hm=>?_)
  revert hm;revert s;intro s2 hm
  have h:i8 N q i s1 (ed N q i c w) (V+1) s2=some r:=hm
  show WT _ _ [(0,f),(1,j),(2,iV c),(7,iV s1),(8,iV s2)] (St w0 a [] [])
  unfold i8 at h
  refine atr 6 [] J ?_
  obtain⟨x5,B,h⟩:=bs h
  obtain⟨ar,F4,-,g4,au,av,X⟩:=b.el (a8 B).2.2
  obtain⟨v4,G4,rfl,Y,Z⟩:=X
  obtain rfl:=Y.symm
  refine lia b B J<|lf nM J J J<|lhx 2 0 g4 J<|lnr Z J<|la J<|en ?_
  refine ch h J ?_ ?_ <;> intro h
  ·refine atr 7 [] J ?_
   obtain⟨x6,C,h⟩:=bs h
   obtain⟨aw,F5,-,g5,ax,ay,r5⟩:=b.el (a8 C).2.2
   obtain⟨v5,G5,rfl,a7,D⟩:=r5
   obtain rfl:=a7.symm
   refine lia b C J<|lf nM J J J<|lhx 2 0 g5 J<|la J ?_
   obtain⟨x7,E,h⟩:=bs h
   obtain⟨az,F6,-,g6,aB,aC,r6⟩:=D.el (a8 E).2.2
   obtain⟨rfl,-⟩:=r6
   refine lia D E J<|lf wF J J J<|lhx 1 5 g6 J<|la J<|qd h (kM N · x7.L i x ·) J J J fun x8 h=>arr 2 [] J ?_
   obtain⟨b3,d,h⟩:=bs h
   refine WL.cutN 13 [(73,.bool b3),(0,f),(1,j),(2,iV c),(7,iV s1),(8,iV s2)] ?_ (fun K=>?_)
   rotate_left
   ·refine sp 60 d J (fun d=>?_) fun d=>?_
    ·refine arr 13 [] J ?_
     cases d
     exact ku K
    ·refine arr 2 [] J<|ly J J ?_
     obtain⟨x9,F,d⟩:=bs d
     obtain⟨aD,F7,-,g7,aE,aF,r7⟩:=b.el (a8 F).2.2
     obtain⟨v6,G6,rfl,aa,G⟩:=r7
     obtain rfl:=aa.symm
     refine lia b F J<|ly J J<|lf nM J J J<|ly J J<|lhx 2 0 g7 J<|ly J J<|la J<|ly J J ?_
     obtain⟨ab,H,d⟩:=bs d
     obtain⟨aG,F8,-,g8,aH,aI,r8⟩:=G.el (a8 H).2.2
     obtain⟨rfl,-⟩:=r8
     refine lia G H J<|ly J J<|lf uh J J J<|ly J J<|lhx 6 5 g8 J<|ly J J<|la J<|ly J J<|qd d (kM N · ab.R i x ·) J J J fun aJ d=>arr 2 [] J ?_
     cases d
     exact ku K
   refine en ?_
   refine ch h J ?_ ?_ <;> intro h
   ·refine att 4 [] J ?_
    exact rt v h
   refine att 7 [] J ?_
   exact lb [] [] (W _ h)
  refine att 7 [] J ?_
  exact lb [] [] (I _ h)
 refine atr 4 [] J<|lnr b J<|qc h (d9 N · (q.length:Int) 1 6 ·) J J J fun aK h=>la J<|en ?_
 exact rt v h
theorem A1 (w0:aA e a []) (c:ah) (v:RSl cI 3 e o g c.Pats) (w:RSl bT 11 e ai n c.Conds) (x:RSl fm 5 e aj l c.Acts) {r:Bool} (h:qD N c=some r) :
  CB w0 prog 43 [.agg [.string c.Name,iV c.Sal,g,n,l].toArray] (.bool r):=by
 refine eN func43 J ntmps43 J w0 fun D=>?_
 unfold qD at h
 refine sr<|lbx J fun y=>arr 5 [5] J<|kab h J J J (fun b z q=>tz N b c (v.y z) (w.y z) (x.y z) q) ?_
 rintro C h v1 S T ⟨U,V,v2,rfl,rfl,h1⟩
 refine art 3 [] J<|WT.draw mixed OX (fun _ h=>h.drew)<|aqq 2 [0,0] J ?_
 obtain⟨W,E,h⟩:=bs h
 refine qp (fj LB J (fun u hw=>i7 N (ba hw.fro) c.Name E)) J<|qq (ga J) J ?_
 obtain⟨F,m,h⟩:=bs h
 refine WQ.cutN 4 [(13,.bool F),(1,pQ y),(3,v1)] ?_ (fun K=>?_)
 rotate_left
 ·refine WQ.split (d:=9) J (fun c1=>?_) (fun c1=>?_)
  ·replace m:=iE m c1
   refine aqq 2 [1,0] J<|WQ.yes J J ?_
   obtain⟨X,G,m⟩:=bs m
   refine qp (fj Hx J (fun u hw=>d9 N (ba hw.fro) c.Sal (-100) 100 G)) J<|WQ.q (sA J J) J J J ?_
   cases m
   exact kq K
  ·replace m:=iF m c1
   refine aqq 4 [] J ?_
   cases m
   exact kq K
 refine qq (ga J) J ?_
 obtain⟨H,s,h⟩:=bs h
 refine WQ.cutN 4 [(18,.bool H),(1,pQ y),(3,v1)] ?_ (fun K=>?_)
 rotate_left
 ·refine WQ.split (d:=14) J (fun c2=>?_) (fun c2=>?_)
  ·replace s:=iE s c2
   refine aqq 2 [2,0] J<|WQ.yes J J ?_
   obtain⟨Y,I,s⟩:=bs s
   refine qp (fj Kl J (fun u hw=>zM N (ba hw.in0) c.Pats v I)) J<|WQ.q (sA J J) J J J ?_
   cases s
   exact kq K
  ·replace s:=iF s c2
   refine aqq 4 [] J ?_
   cases s
   exact kq K
 refine qq (ga J) J ?_
 obtain⟨L,t,h⟩:=bs h
 refine WQ.cutN 5 [(24,.bool L),(1,pQ y),(3,v1)] ?_ (fun K=>?_)
 rotate_left
 ·refine WQ.split (d:=19) J (fun A=>?_) (fun A=>?_)
  ·replace t:=iE t A
   refine aqq 3 [3,0] J<|WQ.yes J J ?_
   obtain⟨Z,M,t⟩:=bs t
   refine qp (fj Jq J (fun u hw=>ze N (ba hw.fro) c.Conds C (w.y hw.up) h1.rsl M)) J<|WQ.q (sA J J) J J J ?_
   cases t
   exact kq K
  ·replace t:=iF t A
   refine aqq 5 [] J ?_
   cases t
   exact kq K
 refine qq (ga J) J ?_
 obtain⟨O,i,h⟩:=bs h
 refine WQ.cutN 7 [(32,.bool O)] ?_ (fun K=>?_)
 rotate_left
 ·refine WQ.split (d:=25) J (fun B=>?_) (fun B=>?_)
  ·replace i:=iE i B
   refine aqq 4 [4,0,5] J<|WQ.yes J J ?_
   obtain⟨P,Q,i⟩:=bs i
   refine qp (fj Kx J (fun u hw=>lZ N (ba hw.in0) c v w x Q)) J<|WQ.yes J J ?_
   obtain⟨x7,R,i⟩:=bs i
   refine qp (fj JU J (fun u hw=>Ah N (ba hw.fro) c.Acts C P (x.y hw.up) h1.rsl R)) J<|WQ.q (sA J J) J J J ?_
   cases i
   exact kq K
  ·replace i:=iF i B
   refine aqq 7 [] J ?_
   cases i
   exact kq K
 refine aqt 2 [] J ?_
 exact rt D h
theorem zP (w0:aA e a []) (b:bq) (c:ByteArray) (i:RSl eC 5 e o g b.Rules) {r:Int} (h:qQ N b c=some r) :
  CB w0 prog 44 [.agg [.string b.Name,g].toArray,.string c] (iV r):=by
 refine eN func44 J ntmps44 J w0 fun q=>?_
 unfold qQ at h
 refine sr<|lbx J fun d=>art 8 [] J ?_
 refine lin (σ:=Int) (fun s=>[(1,.string c),(2,pQ d),(5,iV s)]) (fun s=>St w0 a [(d,.cells #[.string b.Name,g] 26 (0,0))] []) (fun m s=>ia N b c m s=some r) (0) N h (sx [] [0]) (fun u v s hm=>?_)
 revert hm;revert s;intro s1 hm
 have h:ia N b c (u+1) s1=some r:=hm
 show WT _ _ [(1,.string c),(2,pQ d),(5,iV s1)] (St w0 a [(d,.cells #[.string b.Name,g] 26 (0,0))] [])
 unfold ia at h
 refine atr 6 [1,0] J<|lnr i J<|la J<|en ?_
 refine ch h J ?_ ?_ <;> intro h
 ·refine atr 8 [1,0] J ?_
  obtain⟨x,t,h⟩:=bs h
  obtain⟨y,z,-,g1,A,B,w⟩:=i.el (a8 t).2.2
  obtain⟨v1,C,v2,D,v3,E,rfl,rfl,h1,F,G⟩:=w
  refine lia i t J<|lf Cw J J J<|lhx 0 0 g1 J<|art 3 [] J ?_
  refine ch h J ?_ ?_ <;> intro h
  ·refine att 5 [] J ?_
   exact rt q h
  refine att 7 [] J ?_
  exact lb [] [0] (v _ h)
 refine att 5 [] J ?_
 exact rt q h
theorem Bk (w0:aA e a []) (b:bq) (i:RSl eC 5 e o g b.Rules) {r:Bool} (h:rY N b=some r) :
  CB w0 prog 11 [.agg [.string b.Name,g].toArray] (.bool r):=by
 refine eN func11 J ntmps11 J w0 fun w=>?_
 unfold rY at h
 refine sr<|lbx J fun t=>art 8 [] J ?_
 refine lin (σ:=Int) (fun s=>[(1,pQ t),(3,iV s)]) (fun s=>St w0 a [(t,.cells #[.string b.Name,g] 26 (0,0))] []) (fun m s=>gP N b m s=some r) (0) N h (sx [] [0]) (fun A B s hm=>?_)
 revert hm;revert s;intro s1 hm
 have h:gP N b (A+1) s1=some r:=hm
 show WT _ _ [(1,pQ t),(3,iV s1)] (St w0 a [(t,.cells #[.string b.Name,g] 26 (0,0))] [])
 unfold gP at h
 refine atr 6 [1,0] J<|lnr i J<|la J<|en ?_
 refine ch h J ?_ ?_ <;> intro h
 ·refine att 4 [] J<|WT.draw mixed OX (fun _ h=>h.drew)<|aqq 3 [1,0] J ?_
  obtain⟨u,x,h⟩:=bs h
  obtain⟨M,O,-,g1,P,Q,C⟩:=i.el (a8 x).2.2
  obtain⟨v1,R,v2,S,v3,T,rfl,rfl,h1,D,E⟩:=C
  refine qq (ak yW J J i x) J<|qq (ay rL J (fun v hw=>(g1.of_eq 0 5 J J:rg _ _ _ [.string u.Name,iV u.Sal,v1,v2,v3]).rangeAt hw.in0) J) J ?_
  obtain⟨U,F,h⟩:=bs h
  refine qp (fj LW J (fun v hw=>A1 N (ba hw.in0) u h1 D E F)) J<|aqq 2 [] J ?_
  obtain⟨G,c,h⟩:=bs h
  refine WQ.cutN 11 [(29,.bool G),(1,pQ t),(3,iV s1)] ?_ (fun K=>?_)
  rotate_left
  ·refine WQ.split (d:=18) J (fun c2=>?_) (fun c2=>?_)
   ·replace c:=iE c c2
    refine aqq 11 [] J ?_
    cases c
    exact kq K
   ·replace c:=iF c c2
    refine aqq 4 [2,1,0] J<|WQ.yes J J ?_
    obtain⟨y,z,c⟩:=bs c
    obtain⟨V,W,-,g2,X,Y,H⟩:=i.el (a8 z).2.2
    obtain⟨v4,Z,v5,G5,v6,G6,rfl,rfl,h4,h5,h6⟩:=H
    refine qq (ak yW J J i z) J<|WQ.yes J J<|qq (aB Cw J) J<|WQ.yes J J<|qq (aW Nt J (fun v hw=>(g2.of_eq 0 1 J J:rg _ _ _ [.string y.Name]).rangeAt hw.in0)) J<|WQ.yes J J ?_
    obtain⟨x4,I,c⟩:=bs c
    refine qp (fj Mj J (fun v hw=>zP N (ba hw.in0) b y.Name i I)) J<|aqq 3 [] J ?_
    cases c
    exact kq K
  refine WQ.nil ?_
  refine ch h J ?_ ?_ <;> intro h
  ·refine att 4 [] J ?_
   exact rt w h
  refine att 7 [] J ?_
  exact lb [] [0] (B _ h)
 refine atr 5 [0,0] J<|qc h (i7 N · b.Name ·) J J J fun x5 h=>la J ?_
 obtain⟨L,q,h⟩:=bs h
 refine WL.cutN 5 [(38,.bool L)] ?_ (fun K=>?_)
 rotate_left
 ·refine sp 33 q J (fun q=>?_) fun q=>?_
  ·refine arr 2 [1,0] J<|ly J J<|lnr i J<|ly J J<|qc q (d9 N · (b.Rules.length:Int) 1 12 ·) J J J fun x6 q=>la J ?_
   cases q
   exact ku K
  ·refine arr 5 [] J ?_
   cases q
   exact ku K
 refine la J<|en ?_
 exact rt w h
theorem Ae (w0:aA e a []) (b:(List bn)) (c:RSl aS 3 e a1 f b) {r:Bool} (h:sI N b=some r) :
  CB w0 prog 107 [f] (.bool r):=by
 refine eN func107 J ntmps107 J w0 fun d=>?_
 unfold sI at h
 refine att 10 [] J ?_
 refine lin (σ:=Int) (fun s=>[(0,f),(3,iV s)]) (fun s=>St w0 a [] []) (fun m s=>fv N b m s=some r) (0) N h (sx [] []) (fun q t s hm=>?_)
 revert hm;revert s;intro s1 hm
 have h:fv N b (q+1) s1=some r:=hm
 show WT _ _ [(0,f),(3,iV s1)] (St w0 a [] [])
 unfold fv at h
 refine atr 5 [] J<|lnr c J<|la J<|en ?_
 refine ch h J ?_ ?_ <;> intro h
 ·refine atr 7 [] J ?_
  obtain⟨u,i,h⟩:=bs h
  obtain⟨w,x,-,g1,y,z,v⟩:=c.el (a8 i).2.2
  obtain⟨rfl,-⟩:=v
  refine lia c i J<|lhx 0 3 g1 J<|qc h (wb N · u ·) J J J fun A h=>la J<|en ?_
  refine ch h J ?_ ?_ <;> intro h
  ·refine att 4 [] J ?_
   exact rt d h
  refine att 7 [] J ?_
  exact lb [] [] (t _ h)
 refine atr 4 [] J<|lnr c J<|art 3 [] J ?_
 exact rt d h
theorem zV (w0:aA e a []) (c:aL) (d:RSl aS 3 e o g c.Fields) {r:Bool} (h:qR N c=some r) :
  CB w0 prog 47 [.agg [.string c.Kind,g].toArray] (.bool r):=by
 refine eN func47 J ntmps47 J w0 fun i=>?_
 unfold qR at h
 refine sr<|lbx J fun q=>arr 6 [0,0] J<|qc h (i7 N · c.Kind ·) J J J fun s h=>la J ?_
 obtain⟨m,b,h⟩:=bs h
 refine WL.cutN 4 [(10,.bool m),(2,.bool false)] ?_ (fun K=>?_)
 rotate_left
 ·refine sp 6 b J (fun b=>?_) fun b=>?_
  ·refine arr 2 [1,0] J<|ly J J<|qd b (Ae N · c.Fields d ·) J J J fun t b=>la J ?_
   cases b
   exact ku K
  ·refine arr 4 [] J ?_
   cases b
   exact ku K
 refine la J<|en ?_
 exact rt i h
theorem zB (w0:aA e a []) (c:af) (u:RSl bm 3 e o g c.Items) {r:Bool} (h:oG N c=some r) :
  CB w0 prog 12 [.agg [g,iV c.Next].toArray] (.bool r):=by
 refine eN func12 J ntmps12 J w0 fun z=>?_
 unfold oG at h
 refine sr<|lbx J fun b=>arr 7 [1,0] J<|qc h (d9 N · c.Next 1 1000000 ·) J J J fun x1 h=>arr 2 [] J ?_
 obtain⟨L,x,h⟩:=bs h
 refine WL.cutN 5 [(14,.bool L),(1,pQ b)] ?_ (fun K=>?_)
 rotate_left
 ·refine sp 9 x J (fun x=>?_) fun x=>?_
  ·refine arr 5 [] J ?_
   cases x
   exact ku K
  ·refine arr 2 [0,0] J<|ly J J<|lnr u J<|arr 2 [] J ?_
   cases x
   exact ku K
 refine en ?_
 refine ch h J ?_ ?_ <;> intro h
 ·refine att 4 [] J ?_
  exact rt z h
 refine att 7 [] J ?_
 refine lin (σ:=Int) (fun s=>[(1,pQ b),(3,iV s)]) (fun s=>St w0 a [(b,.cells #[g,iV c.Next] 29 (0,0))] []) (fun m s=>iB N c m s=some r) (0) N h (sx [] [0]) (fun M O s hm=>?_)
 revert hm;revert s;intro s1 hm
 have h:iB N c (M+1) s1=some r:=hm
 show WT _ _ [(1,pQ b),(3,iV s1)] (St w0 a [(b,.cells #[g,iV c.Next] 29 (0,0))] [])
 unfold iB at h
 refine atr 6 [0,0] J<|lnr u J<|la J<|en ?_
 refine ch h J ?_ ?_ <;> intro h
 ·refine atr 8 [0,0] J ?_
  obtain⟨F,G,h⟩:=bs h
  obtain⟨aa,F1,-,g1,ab,ae,P⟩:=u.el (a8 G).2.2
  obtain⟨v1,G1,rfl,Q,h1⟩:=P
  obtain rfl:=Q.symm
  refine lia u G J<|lhx 0 3 g1 J<|lnz tI J fun y=>soN 0 yY J ⟨J,J,h1.one,trivial⟩ J ?_
  refine en<|sq<|WT.draw mixed OX (fun _ h=>h.drew)<|aqq 2 [1,2] J ?_
  obtain⟨x3,R,h⟩:=bs h
  refine qp (fj Lu J (fun H hw=>zV N (ba hw.in0) F.F h1 R)) J<|aqq 2 [] J ?_
  obtain⟨S,v,h⟩:=bs h
  refine WQ.cutN 4 [(35,.bool S),(1,pQ b),(3,iV s1),(4,pQ y)] ?_ (fun K=>?_)
  rotate_left
  ·refine WQ.split (d:=31) J (fun A=>?_) (fun A=>?_)
   ·replace v:=iE v A
    refine aqq 4 [] J ?_
    cases v
    exact kq K
   ·replace v:=iF v A
    refine aqq 4 [0,0] J ?_
    cases v
    exact kq K
  refine qq (ga J) J ?_
  obtain⟨T,w,h⟩:=bs h
  refine WQ.cutN 6 [(42,.bool T),(1,pQ b),(3,iV s1),(4,pQ y)] ?_ (fun K=>?_)
  rotate_left
  ·refine WQ.split (d:=36) J (fun B=>?_) (fun B=>?_)
   ·replace w:=iE w B
    refine aqq 6 [] J ?_
    cases w
    exact kq K
   ·replace w:=iF w B
    refine aqq 6 [0,0,1,32] J ?_
    cases w
    exact kq K
  refine qq (ga J) J ?_
  obtain⟨U,i,h⟩:=bs h
  refine WQ.cutN 15 [(58,.bool U),(1,pQ b),(3,iV s1),(4,pQ y)] ?_ (fun K=>?_)
  rotate_left
  ·refine WQ.split (d:=43) J (fun C=>?_) (fun C=>?_)
   ·replace i:=iE i C
    refine aqq 15 [] J ?_
    cases i
    exact kq K
   ·replace i:=iF i C
    refine aqq 3 [] J ?_
    obtain⟨V,q,i⟩:=bs i
    refine WQ.cutN 11 [(57,.bool V),(1,pQ b),(3,iV s1),(4,pQ y),(43,.bool false)] ?_ (fun K=>?_)
    rotate_left
    ·refine WQ.split (d:=46) J (fun D=>?_) (fun D=>?_)
     ·replace q:=iE q D
      refine aqq 4 [0,32] J<|WQ.yes J J ?_
      obtain⟨W,I,q⟩:=bs q
      obtain⟨ag,F2,-,g2,ah,al,X⟩:=u.el (a8 I).2.2
      obtain⟨v2,G2,rfl,Y,h2⟩:=X
      obtain rfl:=Y.symm
      refine qq (ak p9 J J u I) J<|WQ.yes J J<|qq (aB tL J) J<|WQ.yes J J<|qq (aW u6 J (fun H hw=>(g2.of_eq 0 1 J J:rg _ _ _ [iV W.Id]).rangeAt hw.in0)) J<|aqq 4 [0,0] J ?_
      cases q
      exact kq K
     ·replace q:=iF q D
      refine aqq 11 [] J ?_
      cases q
      exact kq K
    refine WQ.q (rc J J) J J J ?_
    cases i
    exact kq K
  refine qq (ga J) J ?_
  obtain⟨Z,t,h⟩:=bs h
  refine WQ.cutN 8 [(67,.bool Z),(1,pQ b),(3,iV s1)] ?_ (fun K=>?_)
  rotate_left
  ·refine WQ.split (d:=59) J (fun E=>?_) (fun E=>?_)
   ·replace t:=iE t E
    refine aqq 8 [] J ?_
    cases t
    exact kq K
   ·replace t:=iF t E
    refine aqq 3 [34,1,2] J<|WQ.yes J J ?_
    obtain⟨x5,a7,t⟩:=bs t
    refine qp (fj IA J (fun H hw=>tn N (ba hw.in0) c F.F u h1 a7)) J<|aqq 4 [0,0] J ?_
    cases t
    exact kq K
  refine WQ.nil ?_
  refine ch h J ?_ ?_ <;> intro h
  ·refine att 4 [] J ?_
   exact rt z h
  refine att 7 [] J ?_
  exact lb [] [1] (O _ h)
 refine att 5 [] J ?_
 exact rt z h
theorem z7 (w0:aA e a []) (b:ah) (c:af) (d:(List aq)) (u:RSl cI 3 e o g b.Pats) (a7:RSl bT 11 e ai n b.Conds) (aa:RSl fm 5 e aj l b.Acts) (w:RSl bm 3 e a6 k c.Items) (H:RSl aG 4 e pG2 p d) {r:Bool} (h:oc N b c d=some r) :
  CB w0 prog 233 [.agg [.string b.Name,iV b.Sal,g,n,l].toArray,.agg [k,iV c.Next].toArray,p] (.bool r):=by
 refine eN func233 J ntmps233 J w0 fun A=>?_
 unfold oc at h
 refine sr<|lbx J fun i=>lbx J fun q=>art 8 [] J ?_
 refine lin (σ:=Hp × Int) (fun s=>[(2,p),(3,pQ i),(4,pQ q),(7,iV s.2)]) (fun s=>St w0 s.1 [(q,.cells #[k,iV c.Next] 29 (0,0)),(i,.cells #[.string b.Name,iV b.Sal,g,n,l] 87 (0,0))] []) (fun m s=>d6 N b c d m s.2=some r) (a,0) N h (sx [] [0,0]) (fun x I s hm=>?_)
 obtain⟨B,s1⟩:=s
 have h:d6 N b c d (x+1) s1=some r:=hm
 show WT _ _ [(2,p),(3,pQ i),(4,pQ q),(7,iV s1)] (St w0 B [(q,.cells #[k,iV c.Next] 29 (0,0)),(i,.cells #[.string b.Name,iV b.Sal,g,n,l] 87 (0,0))] [])
 unfold d6 at h
 refine atr 6 [2,32] J<|lnr u J<|la J<|en ?_
 refine ch h J ?_ ?_ <;> intro h
 ·refine att 8 [] J ?_
  refine lin (σ:=Hp × Int) (fun s=>[(2,p),(3,pQ i),(4,pQ q),(7,iV s1),(8,iV s.2)]) (fun s=>St w0 s.1 [(q,.cells #[k,iV c.Next] 29 (0,0)),(i,.cells #[.string b.Name,iV b.Sal,g,n,l] 87 (0,0))] []) (fun m s=>eU N b c d s1 (d6 N b c d x) m s.2=some r) (B,0) N h (sx [] [0,0]) (fun L M s hm=>?_)
  obtain⟨O,s2⟩:=s
  have h:eU N b c d s1 (d6 N b c d x) (L+1) s2=some r:=hm
  show WT _ _ [(2,p),(3,pQ i),(4,pQ q),(7,iV s1),(8,iV s2)] (St w0 O [(q,.cells #[k,iV c.Next] 29 (0,0)),(i,.cells #[.string b.Name,iV b.Sal,g,n,l] 87 (0,0))] [])
  unfold eU at h
  refine atr 6 [0,0] J<|lnr w J<|arr 2 [] J ?_
  obtain⟨P,t,h⟩:=bs h
  refine WL.cutN 7 [(30,.bool P),(2,p),(3,pQ i),(4,pQ q),(7,iV s1),(8,iV s2)] ?_ (fun K=>?_)
  rotate_left
  ·refine sp 23 t J (fun t=>?_) fun t=>?_
   ·refine arr 3 [2,32] J<|ly J J ?_
    obtain⟨x1,C,t⟩:=bs t
    obtain⟨ab,F1,-,g1,ae,ag,Q⟩:=u.el (a8 C).2.2
    obtain⟨v1,G1,rfl,S,h1⟩:=Q
    obtain rfl:=S.symm
    refine lia u C J<|ly J J<|lf mB J J J<|ly J J<|lhx 2 0 g1 J<|la J ?_
    cases t
    exact ku K
   ·refine arr 7 [] J ?_
    cases t
    exact ku K
  refine en ?_
  refine ch h J ?_ ?_ <;> intro h
  ·refine att 4 [] J<|wm [0,1] [] J<|amm 3 [0,2,1,32,2] [0,1] J J ?_
   obtain⟨y,E,h⟩:=bs h
   obtain⟨al,F2,-,g2,an,ao,T⟩:=u.el (a8 E).2.2
   obtain⟨v2,G2,rfl,U,V⟩:=T
   obtain rfl:=U.symm
   refine mq 3 J OX (kN [0,1]) (ak rO J J u E) J<|mq 4 J OX (kN [0,1]) (ay tV J (fun z hw=>(g2.of_eq 0 3 J J:rg _ _ _ [.string y.Kind,v2,.bool y.Not]).rangeAt hw.1) J) J<|amm 3 [5,0,6,0,7] [0,1] J J ?_
   obtain⟨F,G,h⟩:=bs h
   obtain⟨ar,F3,-,g3,au,av,W⟩:=w.el (a8 G).2.2
   obtain⟨v3,G3,rfl,X,Y⟩:=W
   obtain rfl:=X.symm
   refine mq 8 J OX (kN [0,1]) (ak p9 J J w G) J<|amm 1 [9,1] [0,1] J J<|mq 10 J OX (kN [0,1]) (ay nw J (fun z hw=>(g3.of_eq 1 2 J J:rg _ _ _ [.string F.F.Kind,v3]).rangeAt hw.1) J) J<|amm 1 [11] [0,1] J J ?_
   obtain⟨x4,Z,h⟩:=bs h
   refine WM.one 12 OX (mc J (fun _ v aw D z hq hw=>Kn.of Kf.nil (ai2 0 1 J J) hw) (bL (js:=[]) (R:=[]) xY J J (fun z hw ap hl=>lU N (ba hw.fro) y F.F d (V.y hw.up) (Y.y hw.up) (H.y hw.up)  Z)) J ?_)
   rintro v4 ax F4 ⟨az,aB,v5,rfl,rfl,h4⟩
   refine amm 5 [13,14,15,16,17] [0,1] J J<|WM.nil OX<|att 4 [] J ?_
   refine ch h J ?_ ?_ <;> intro h
   ·refine att 4 [] J ?_
    exact rt A h
   refine att 7 [] J ?_
   exact lb [] [0,0] (M (_,_) h)
  refine att 7 [] J ?_
  exact lb [] [0,0] (I (_,_) h)
 refine att 5 [] J ?_
 exact rt A h
theorem uE (w0:aA e a []) (b:bZ) (d:(List aq)) (s:RSl aG 4 e ad j d) {r:bn × Bool} (h:nN N b d=some r) :
  CB w0 prog 265 [.agg [iV b.K,.string b.S,iV b.V.K,iV b.V.N,.string b.V.S].toArray,j] (.tuple #[.agg [iV r.1.K,iV r.1.N,.string r.1.S].toArray,.bool r.2]):=by
 refine eN func265 J ntmps265 J w0 fun m=>?_
 unfold nN at h
 refine sr<|lbx J fun t=>lnz jg J fun u=>art 14 [0,32] J ?_
 refine ch h J ?_ ?_ <;> intro h
 ·refine atr 4 [2,35] J<|soN 0 mj J ⟨J,J,J,trivial⟩ J ?_
  refine la J<|en ?_
  refine WT.ret m (aC.two (bf kz J (fun c hw=>hw.rgO (i:=0) J 0 3 [iV b.V.K,iV b.V.N,.string b.V.S] J) J) J) (fun c hw=>?_)
  cases h
  exact dQ hw
 refine att 5 [] J ?_
 refine ch h J ?_ ?_ <;> intro h
 ·refine atr 5 [1,32] J<|qd h (uR N · d b.S s ·) J J J fun q h=>arr 2 [] J<|soN 0 mj J ⟨J,J,J,trivial⟩ J ?_
  refine la J<|en ?_
  refine WT.ret m (aC.two (bf kz J (fun c hw=>hw.rgO (i:=0) J 0 3 [iV q.1.K,iV q.1.N,.string q.1.S] J) J) J) (fun c hw=>?_)
  cases h
  exact dQ hw
 refine atr 4 [] J<|lq (bA (vs:=[]) (C:=#[iV 0,iV 0,.string (⟨#[]⟩:ByteArray)]) uI jg J (ae)) J<|soN 0 mj J ⟨J,J,J,trivial⟩ J ?_
 refine la J<|en ?_
 refine WT.ret m (aC.two (bf kz J (fun c hw=>hw.rgO (i:=0) J 0 3 [iV 0,iV 0,.string (⟨#[]⟩:ByteArray)] J) J) J) (fun c hw=>?_)
 cases h
 exact dQ hw
theorem zj  (w0:aA e a []) (b:bn) (c:bn)  {r:Bool} (h:oC N b c=some r) :
  CB w0 prog 266 [.agg [iV b.K,iV b.N,.string b.S].toArray,.agg [iV c.K,iV c.N,.string c.S].toArray] (.bool r):=by
 refine eN func266 J ntmps266 J w0 fun d=>?_
 unfold oC at h
 refine sr<|lbx J fun i=>lbx J fun m=>art 13 [0,32,0,0] J ?_
 refine ch h J ?_ ?_ <;> intro h
 ·refine att 9 [0,32,0,0] J ?_
  exact rt d h
 refine att 9 [1,32,1,0] J ?_
 refine ch h J ?_ ?_ <;> intro h
 ·refine att 9 [1,32,1,0] J ?_
  exact rt d h
 refine atr 8 [2,32,2,0] J<|lq (KP J J) J<|la J<|en ?_
 exact rt d h
theorem Be (w0:aA e a []) (b:cX) (i:(List aq)) (s:RSl aG 4 e ad j i) {r:Bool} (h:ss N b i=some r) :
  CB w0 prog 254 [.agg [iV b.Op,iV b.L.K,.string b.L.S,iV b.L.V.K,iV b.L.V.N,.string b.L.V.S,iV b.R.K,.string b.R.S,iV b.R.V.K,iV b.R.V.N,.string b.R.V.S].toArray,j] (.bool r):=by
 refine eN func254 J ntmps254 J w0 fun c=>?_
 unfold ss at h
 refine sr<|lbx J fun t=>arr 7 [1,5] J<|qd h (uE N · b.L i s ·) J J J fun m h=>arr 3 [] J<|lnz jg J fun u=>soN 0 mj J ⟨J,J,J,trivial⟩ J ?_
 refine arr 7 [6,37] J<|qd h (uE N · b.R i s ·) J J J fun q h=>arr 3 [] J<|lnz jg J fun v=>soN 0 mj J ⟨J,J,J,trivial⟩ J ?_
 refine arr 8 [] J ?_
 obtain⟨w,d,h⟩:=bs h
 refine WL.cutN 3 [(28,.bool w),(2,pQ t),(5,pQ u),(7,pQ v)] ?_ (fun K=>?_)
 rotate_left
 ·refine sp 25 d J (fun d=>?_) fun d=>?_
  ·refine arr 3 [] J ?_
   cases d
   exact ku K
  ·refine arr 3 [] J ?_
   cases d
   exact ku K
 refine en ?_
 refine ch h J ?_ ?_ <;> intro h
 ·refine att 4 [] J ?_
  exact rt c h
 refine att 13 [0,64] J ?_
 refine ch h J ?_ ?_ <;> intro h
 ·refine atr 4 [35,3] J<|lq (yG mi J J J (r:=bp m.1 q.1) J) J<|la J<|en ?_
  exact rt c h
 refine att 5 [] J ?_
 refine ch h J ?_ ?_ <;> intro h
 ·refine atr 4 [35,3] J<|lq (u9 mi J J J (r:=bp m.1 q.1) J) J<|la J<|en ?_
  exact rt c h
 refine att 5 [] J ?_
 refine ch h J ?_ ?_ <;> intro h
 ·refine atr 4 [35,3] J<|qc h (zj N · m.1 q.1 ·) J J J fun x h=>la J<|en ?_
  exact rt c h
 refine att 6 [] J ?_
 exact rt c h
theorem zD (w0:aA e a []) (c:(List cX)) (b:(List aq)) (d:RSl bT 11 e a1 f c) (t:RSl aG 4 e ad j b) {r:Bool} (h:oH N c b=some r) :
  CB w0 prog 234 [f,j] (.bool r):=by
 refine eN func234 J ntmps234 J w0 fun i=>?_
 unfold oH at h
 refine att 10 [] J ?_
 refine lin (σ:=Int) (fun s=>[(0,f),(1,j),(5,iV s)]) (fun s=>St w0 a [] []) (fun m s=>fO N c b m s=some r) (0) N h (sx [] []) (fun u v s hm=>?_)
 revert hm;revert s;intro s1 hm
 have h:fO N c b (u+1) s1=some r:=hm
 show WT _ _ [(0,f),(1,j),(5,iV s1)] (St w0 a [] [])
 unfold fO at h
 refine atr 5 [] J<|lnr d J<|la J<|en ?_
 refine ch h J ?_ ?_ <;> intro h
 ·refine atr 7 [] J ?_
  obtain⟨w,q,h⟩:=bs h
  obtain⟨y,z,-,g1,A,B,x⟩:=d.el (a8 q).2.2
  obtain⟨rfl,-⟩:=x
  refine lia d q J<|lhx 0 11 g1 J<|la J<|qd h (Be N · w b t ·) J J J fun C h=>la J<|en ?_
  refine ch h J ?_ ?_ <;> intro h
  ·refine att 4 [] J ?_
   exact rt i h
  refine att 7 [] J ?_
  exact lb [] [] (v _ h)
 refine att 5 [] J ?_
 exact rt i h
theorem yD (N:Nat):∀ {e a:Hp} {f k P Q S ar au:Value} {A a6 bR bS bU bV bW:List Nat} {q:Nat} (w0:aA e a [[q],ob f,A].flatten) (p0:(List a7)) (w:ah) (G:af) (p3:(List Int)) (Y:(List aq)) (u:OSl av 63 3 a A f p0) (t:a q=some (.cells #[f] 41 (0,0))) (Z:RSl cI 3 e a6 k w.Pats) (ag:RSl bT 11 e bR P w.Conds) (aw:RSl fm 5 e bS Q w.Acts) (V:RSl bm 3 e bU S G.Items) (M:RSl (RI .i64) 1 e bV ar p3) (W:RSl aG 4 e bW au Y) {r:(List a7)} (h:gu N p0 w G p3 Y=some r),
  Calls prog 201 [pQ q,.agg [.string w.Name,iV w.Sal,k,P,Q].toArray,.agg [S,iV G.Next].toArray,ar,au].toArray w0.w (bc a w0.w [[q],ob f,A].flatten (fun bX Fs v=>∃ (bk:Value) (bY:List Nat),v = .tuple #[]∧Fs=[[q],ob bk,bY]∧OSl av 63 3 bX bY bk r∧bX q=some (.cells #[bk] 41 (0,0)))):=by
 induction N with
 | zero=>intros;rename_i h;simp[gu] at h
 | succ N ih=>
 intro e a f k P Q S ar au A a6 bR bS bU bV bW q w0 p0 w G p3 Y u t Z ag aw V M W r h
 refine eL func201 J ntmps201 J (L:=[[q],ob f,A]) w0 (fun hF=>?_)
 unfold gu at h
 refine sr<|lbx J fun T=>lbx J fun U=>arr 5 [] J<|lnr M J<|ld5 rL 1 J<|qd h (lZ N · w Z ag aw ·) J J J fun x1 h=>la J<|en ?_
 refine ch h J ?_ ?_ <;> intro h
 ·refine atr 6 [37,2] J<|qd h (z7 N · w G Y Z ag aw V W ·) J J J fun x2 h=>arr 2 [] J ?_
  obtain⟨b1,al,h⟩:=bs h
  refine WL.cutN 5 [(28,.bool b1),(0,pQ q),(3,ar),(4,au)] ?_ (fun K=>?_)
  rotate_left
  ·refine sp 23 al J (fun al=>?_) fun al=>?_
   ·refine arr 3 [3,32] J<|ly J J<|qd al (zD N · w.Conds Y ag W ·) J J J fun x3 al=>la J ?_
    cases al
    exact ku K
   ·refine arr 5 [] J ?_
    cases al
    exact ku K
  refine en ?_
  refine ch h J ?_ ?_ <;> intro h
  ·refine cut (σ:=Hp × (List a7) × Value × List Nat) (fun s=>[]) (fun s=>St w0 s.1 [(q,.cells #[s.2.2.1] 41 (0,0))] [s.2.2.2,ob s.2.2.1]) (fun s=>nq N s.2.1=some r∧(OSl av 63 3 s.1 s.2.2.2 s.2.2.1 s.2.1)) (fun s hm=>?_) (fun K=>?_)
   ·clear h
    obtain⟨ef,s1,u1,D7⟩:=s
    obtain⟨h,k1⟩:=hm
    dsimp only at h k1 ⊢
    unfold nq at h
    refine WT.frz (js:=[0]) (R:=[]) J (fun eg cZ k2=>?_)
    replace k1:=k1.f0 cZ
    exact rtg [0,1,0] hF aC.none J (by cases h;exact fun d hw=>⟨u1,D7,rfl,rfl,k1,k2⟩)
   refine WT.mix (Kn w0 a [q] [(U,.cells #[S,iV G.Next] 29 (0,0)),(T,.cells #[.string w.Name,iV w.Sal,k,P,Q] 87 (0,0))]) (fun i=>match i with | 14=>false | _=>true) mixed (fun _ h=>h.drew)<|ma 0 J OX (kn Kf.id (ai2 0 1 J J)) J<|ma 1 J OX (kn Kf.id (ai2 0 1 J J)) J<|mq 2 J OX (kn Kf.id (ai2 0 1 J J)) (aI J) J ?_
   refine mq 3 J OX (kn Kf.id (ai2 0 1 J J)) (aW L8 J (fun d hw=>hw.rg OZ ((cC t).of_eq 0 1 J J:rg _ _ _ [f]))) J<|ma 5 J OX (kn Kf.id (ai2 0 1 J J)) J<|ma 8 J OX (kn Kf.id (ai2 0 1 J J)) J ?_
   refine WM.two 4 7 OX ?_ ?_
   ·refine me J (fun _ v z D d b hw=>Kn.of (Kf.id.se b.1) (ai2 0 1 J J) hw) (gT (R:=RI .i64) RI.lasts bw jR J J) J ?_
    rintro v7 eh D8 ⟨aO,h9⟩
    replace u:=u.f0 aO
    replace t:=aO _ _ OZ t
    refine WM.two 6 7 OX ?_ ?_
    ·first | refine mu0 M fun bZ=>?_ | refine iu0 M fun bZ=>?_
     obtain⟨x7,da,h⟩:=bs h
     have c0:=(Kf.id (F:=[q]):Kf a _ _).se aO
     refine me J (fun _ v z D d b hw=>Kn.of (c0.st b.1.2 (b.1.1.r (i:=0) J)) (ai2 0 1 J J) hw) (cG RI.lasts RI.one RI.flat bw oK J J J J J (js:=[0]) (Rr:=[[q],ob f,A]) J h9 bZ da) J ?_
     rintro H ei D9 ⟨⟨aP,bl⟩,ax⟩
     replace u:=u.fr bl (aP.q 1 J) (aP.q 2 J)
     replace t:=bl _ _ ((aP.q 0 J) _ OZ) t
     have c3:=c0.st bl (aP.q 0 J)
     refine WM.one 7 OX (me J (fun _ v z D d b hw=>Kn.of (c3.se b.1) (ai2 0 1 J J) hw) (gT aG.lasts lA rE J J) J ?_)
     rintro v9 ej ek ⟨aQ,db⟩
     replace u:=u.f0 aQ
     replace ax:=ax.f0 aQ
     replace t:=aQ _ _ OZ t
     first | refine mu0 W fun c4=>?_ | refine iu0 W fun c4=>?_
     obtain⟨x8,dc,h⟩:=bs h
     have c5:=c3.se aQ
     refine WM.one 9 OX (me J (fun _ v z D d b hw=>Kn.of (c5.st b.1.2 (b.1.1.r (i:=1) J)) (ai2 0 1 J J) hw) (cG aG.lasts aG.one aG.flat lA xu J J J J J (js:=[0]) (Rr:=[ob H,[q],ob f,A]) J db c4 dc) J ?_)
     rintro v10 dd el ⟨⟨az,aR⟩,c6⟩
     replace u:=u.fr aR (az.q 2 J) (az.q 3 J)
     replace ax:=ax.fr aR (az.q 0 J) dN
     replace t:=aR _ _ ((az.q 1 J) _ OZ) t
     have bn:=c5.st aR (az.q 1 J)
     refine mq 10 J OX (kn bn (ai2 0 1 J J)) (bA (vs:=[(1,H),(2,v10)]) (C:=#[iV 0,H,v10]) Cm nA J (aa (C':=[iV 0,H,.slice none 0 0]) J (cN ax.one) J J J (aa (C':=[iV 0,H,v10]) J (cN c6.one) J J J (ae)))) J ?_
     have c7:RC av 3 dd ([(ob H++[])++((ob v10++[]))]:List (List Nat)) [iV 0,H,v10] ([(⟨0,x7,x8⟩:a7)]:List a7):=RC.cons (c:=[iV 0,H,v10]) (cells:=[]) ⟨H,v10,J,J,ax,c6⟩ J (RC.nil _ _ _)
     refine WM.one 11 OX (me J (fun _ v z D d b hw=>Kn.of (bn.se b.1) (ai2 0 1 J J) hw) (bv (vs:=[(0,.agg [iV 0,H,v10].toArray)]) (C:=#[iV 0,H,v10]) av.lasts ep nA J J J J (ao sB (aa (C':=[iV 0,H,v10]) J J J J J (ae))) J c7 J (RC.kn av.knows c7)) J ?_)
     rintro v11 c8 eo ⟨bo,bp⟩
     replace bp:OSl av 63 3 c8 ((ob H++[])++((ob v10++[]))) v11 ([(⟨0,x7,x8⟩:a7)]:List a7):=by simpa[gi] using bp
     replace u:=u.f0 bo
     replace t:=bo _ _ OZ t
     refine WM.conv (S':=St w0 c8 [(U,.cells #[S,iV G.Next] 29 (0,0)),(T,.cells #[.string w.Name,iV w.Sal,k,P,Q] 87 (0,0))] [((ob H++[])++((ob v10++[]))),ob v11,[q],ob f,A]) (fun d hw=>hw.merge (js:=[2,1]) J (SP.eq (by simp[gi,cT]))) ?_
     obtain⟨x9,de,h⟩:=bs h
     have c9:=bn.se bo
     refine WM.one 12 OX (me J (fun _ v z D d b hw=>Kn.of (c9.st b.1.2 (b.1.1.r (i:=2) J)) (ai2 0 1 J J) hw) (et av.lasts av.one ep xk J J J J J (js:=[3]) (Rr:=[((ob H++[])++((ob v10++[]))),ob v11,[q],A]) J u bp (fun ap=>ap.q 3 J) (fun ap=>ap.q 0 J) de) J ?_)
     rintro v12 df er ⟨⟨ca,cb⟩,aS⟩
     replace t:=cb _ _ ((ca.q 2 J) _ OZ) t
     refine WM.conv (S':=St w0 df [(U,.cells #[S,iV G.Next] 29 (0,0)),(T,.cells #[.string w.Name,iV w.Sal,k,P,Q] 87 (0,0))] [(A++((ob H++[])++((ob v10++[])))),ob v12,ob v11,[q]]) (fun d hw=>hw.merge (js:=[4,1]) J (SP.eq OZ)) ?_
     have dg:=c9.st cb (ca.q 2 J)
     refine mq 13 J OX (kn dg (ai2 0 1 J J)) (aI J) J ?_
     refine WM.thw (js:=[3]) (R:=[(A++((ob H++[])++((ob v10++[])))),ob v12,ob v11]) J t (fun eu cc dh=>?_)
     replace aS:=aS.fr dh (cc.q 1 J) (cc.q 0 J)
     refine on1 14 (ms1 0 J nk CX J aS.one ?_)
     refine WM.nil OX ?_
     exact wo [0,0] [0] (K (_,_,_,_) ⟨h,aS⟩)
    have cd:=(Kf.id (F:=[q]):Kf a _ _).se aO
    refine me J (fun _ v z D d b hw=>Kn.of (cd.se b.1) (ai2 0 1 J J) hw) (gT aG.lasts lA rE J J) J ?_
    rintro di ev ew ⟨aT,bq⟩
    replace u:=u.f0 aT
    replace h9:=h9.f0 aT
    replace t:=aT _ _ OZ t
    first | refine mu0 M fun cf=>?_ | refine iu0 M fun cf=>?_
    obtain⟨cg,dj,h⟩:=bs h
    have cj:=cd.se aT
    refine WM.one 6 OX (me J (fun _ v z D d b hw=>Kn.of (cj.st b.1.2 (b.1.1.r (i:=1) J)) (ai2 0 1 J J) hw) (cG RI.lasts RI.one RI.flat bw oK J J J J J (js:=[1]) (Rr:=[ob di,[q],ob f,A]) J h9 cf dj) J ?_)
    rintro I ey ez ⟨⟨aB,aU⟩,aV⟩
    replace u:=u.fr aU (aB.q 2 J) (aB.q 3 J)
    replace bq:=bq.fr aU (aB.q 0 J) dN
    replace t:=aU _ _ ((aB.q 1 J) _ OZ) t
    first | refine mu0 W fun ck=>?_ | refine iu0 W fun ck=>?_
    obtain⟨cm,dk,h⟩:=bs h
    have cn:=cj.st aU (aB.q 1 J)
    refine WM.one 9 OX (me J (fun _ v z D d b hw=>Kn.of (cn.st b.1.2 (b.1.1.r (i:=1) J)) (ai2 0 1 J J) hw) (cG aG.lasts aG.one aG.flat lA xu J J J J J (js:=[1]) (Rr:=[ob I,[q],ob f,A]) J bq ck dk) J ?_)
    rintro O dm eA ⟨⟨aD,aX⟩,cp⟩
    replace u:=u.fr aX (aD.q 2 J) (aD.q 3 J)
    replace aV:=aV.fr aX (aD.q 0 J) dN
    replace t:=aX _ _ ((aD.q 1 J) _ OZ) t
    have br:=cn.st aX (aD.q 1 J)
    refine mq 10 J OX (kn br (ai2 0 1 J J)) (bA (vs:=[(1,I),(2,O)]) (C:=#[iV 0,I,O]) Cm nA J (aa (C':=[iV 0,I,.slice none 0 0]) J (cN aV.one) J J J (aa (C':=[iV 0,I,O]) J (cN cp.one) J J J (ae)))) J ?_
    have cq:RC av 3 dm ([(ob I++[])++((ob O++[]))]:List (List Nat)) [iV 0,I,O] ([(⟨0,cg,cm⟩:a7)]:List a7):=RC.cons (c:=[iV 0,I,O]) (cells:=[]) ⟨I,O,J,J,aV,cp⟩ J (RC.nil _ _ _)
    refine WM.one 11 OX (me J (fun _ v z D d b hw=>Kn.of (br.se b.1) (ai2 0 1 J J) hw) (bv (vs:=[(0,.agg [iV 0,I,O].toArray)]) (C:=#[iV 0,I,O]) av.lasts ep nA J J J J (ao sB (aa (C':=[iV 0,I,O]) J J J J J (ae))) J cq J (RC.kn av.knows cq)) J ?_)
    rintro aE cr eB ⟨bt,bu⟩
    replace bu:OSl av 63 3 cr ((ob I++[])++((ob O++[]))) aE ([(⟨0,cg,cm⟩:a7)]:List a7):=by simpa[gi] using bu
    replace u:=u.f0 bt
    replace t:=bt _ _ OZ t
    refine WM.conv (S':=St w0 cr [(U,.cells #[S,iV G.Next] 29 (0,0)),(T,.cells #[.string w.Name,iV w.Sal,k,P,Q] 87 (0,0))] [((ob I++[])++((ob O++[]))),ob aE,[q],ob f,A]) (fun d hw=>hw.merge (js:=[2,1]) J (SP.eq (by simp[gi,cT]))) ?_
    obtain⟨eC,dn,h⟩:=bs h
    have ct:=br.se bt
    refine WM.one 12 OX (me J (fun _ v z D d b hw=>Kn.of (ct.st b.1.2 (b.1.1.r (i:=2) J)) (ai2 0 1 J J) hw) (et av.lasts av.one ep xk J J J J J (js:=[3]) (Rr:=[((ob I++[])++((ob O++[]))),ob aE,[q],A]) J u bu (fun ap=>ap.q 3 J) (fun ap=>ap.q 0 J) dn) J ?_)
    rintro v17 dp eD ⟨⟨cu,cv⟩,aY⟩
    replace t:=cv _ _ ((cu.q 2 J) _ OZ) t
    refine WM.conv (S':=St w0 dp [(U,.cells #[S,iV G.Next] 29 (0,0)),(T,.cells #[.string w.Name,iV w.Sal,k,P,Q] 87 (0,0))] [(A++((ob I++[])++((ob O++[])))),ob v17,ob aE,[q]]) (fun d hw=>hw.merge (js:=[4,1]) J (SP.eq OZ)) ?_
    have dq:=ct.st cv (cu.q 2 J)
    refine mq 13 J OX (kn dq (ai2 0 1 J J)) (aI J) J ?_
    refine WM.thw (js:=[3]) (R:=[(A++((ob I++[])++((ob O++[])))),ob v17,ob aE]) J t (fun eE cw dr=>?_)
    replace aY:=aY.fr dr (cw.q 1 J) (cw.q 0 J)
    refine on1 14 (ms1 0 J nk CX J aY.one ?_)
    refine WM.nil OX ?_
    exact wo [0,0] [0] (K (_,_,_,_) ⟨h,aY⟩)
   refine me J (fun _ v z D d b hw=>Kn.of (Kf.id.se b.1) (ai2 0 1 J J) hw) (gT aG.lasts lA rE J J) J ?_
   rintro ds eF eG ⟨bz,aF⟩
   replace u:=u.f0 bz
   replace t:=bz _ _ OZ t
   have cx:=(Kf.id (F:=[q]):Kf a _ _).se bz
   refine WM.one 4 OX (me J (fun _ v z D d b hw=>Kn.of (cx.se b.1) (ai2 0 1 J J) hw) (gT (R:=RI .i64) RI.lasts bw jR J J) J ?_)
   rintro eH eI eJ ⟨aZ,dt⟩
   replace u:=u.f0 aZ
   replace aF:=aF.f0 aZ
   replace t:=aZ _ _ OZ t
   first | refine mu0 M fun cy=>?_ | refine iu0 M fun cy=>?_
   obtain⟨cz,du,h⟩:=bs h
   have cA:=cx.se aZ
   refine WM.one 6 OX (me J (fun _ v z D d b hw=>Kn.of (cA.st b.1.2 (b.1.1.r (i:=1) J)) (ai2 0 1 J J) hw) (cG RI.lasts RI.one RI.flat bw oK J J J J J (js:=[0]) (Rr:=[ob ds,[q],ob f,A]) J dt cy du) J ?_)
   rintro v20 eK eM ⟨⟨aH,b0⟩,b2⟩
   replace u:=u.fr b0 (aH.q 2 J) (aH.q 3 J)
   replace aF:=aF.fr b0 (aH.q 0 J) dN
   replace t:=b0 _ _ ((aH.q 1 J) _ OZ) t
   first | refine mu0 W fun cB=>?_ | refine iu0 W fun cB=>?_
   obtain⟨cD,dv,h⟩:=bs h
   have cE:=cA.st b0 (aH.q 1 J)
   refine WM.one 9 OX (me J (fun _ v z D d b hw=>Kn.of (cE.st b.1.2 (b.1.1.r (i:=1) J)) (ai2 0 1 J J) hw) (cG aG.lasts aG.one aG.flat lA xu J J J J J (js:=[1]) (Rr:=[ob v20,[q],ob f,A]) J aF cB dv) J ?_)
   rintro v21 dw eN ⟨⟨aJ,b3⟩,cF⟩
   replace u:=u.fr b3 (aJ.q 2 J) (aJ.q 3 J)
   replace b2:=b2.fr b3 (aJ.q 0 J) dN
   replace t:=b3 _ _ ((aJ.q 1 J) _ OZ) t
   have bB:=cE.st b3 (aJ.q 1 J)
   refine mq 10 J OX (kn bB (ai2 0 1 J J)) (bA (vs:=[(1,v20),(2,v21)]) (C:=#[iV 0,v20,v21]) Cm nA J (aa (C':=[iV 0,v20,.slice none 0 0]) J (cN b2.one) J J J (aa (C':=[iV 0,v20,v21]) J (cN cF.one) J J J (ae)))) J ?_
   have cH:RC av 3 dw ([(ob v20++[])++((ob v21++[]))]:List (List Nat)) [iV 0,v20,v21] ([(⟨0,cz,cD⟩:a7)]:List a7):=RC.cons (c:=[iV 0,v20,v21]) (cells:=[]) ⟨v20,v21,J,J,b2,cF⟩ J (RC.nil _ _ _)
   refine WM.one 11 OX (me J (fun _ v z D d b hw=>Kn.of (bB.se b.1) (ai2 0 1 J J) hw) (bv (vs:=[(0,.agg [iV 0,v20,v21].toArray)]) (C:=#[iV 0,v20,v21]) av.lasts ep nA J J J J (ao sB (aa (C':=[iV 0,v20,v21]) J J J J J (ae))) J cH J (RC.kn av.knows cH)) J ?_)
   rintro v22 cJ eO ⟨bC,bD⟩
   replace bD:OSl av 63 3 cJ ((ob v20++[])++((ob v21++[]))) v22 ([(⟨0,cz,cD⟩:a7)]:List a7):=by simpa[gi] using bD
   replace u:=u.f0 bC
   replace t:=bC _ _ OZ t
   refine WM.conv (S':=St w0 cJ [(U,.cells #[S,iV G.Next] 29 (0,0)),(T,.cells #[.string w.Name,iV w.Sal,k,P,Q] 87 (0,0))] [((ob v20++[])++((ob v21++[]))),ob v22,[q],ob f,A]) (fun d hw=>hw.merge (js:=[2,1]) J (SP.eq (by simp[gi,cT]))) ?_
   obtain⟨eP,dx,h⟩:=bs h
   have cK:=bB.se bC
   refine WM.one 12 OX (me J (fun _ v z D d b hw=>Kn.of (cK.st b.1.2 (b.1.1.r (i:=2) J)) (ai2 0 1 J J) hw) (et av.lasts av.one ep xk J J J J J (js:=[3]) (Rr:=[((ob v20++[])++((ob v21++[]))),ob v22,[q],A]) J u bD (fun ap=>ap.q 3 J) (fun ap=>ap.q 0 J) dx) J ?_)
   rintro v23 dy eQ ⟨⟨cL,cM⟩,b4⟩
   replace t:=cM _ _ ((cL.q 2 J) _ OZ) t
   refine WM.conv (S':=St w0 dy [(U,.cells #[S,iV G.Next] 29 (0,0)),(T,.cells #[.string w.Name,iV w.Sal,k,P,Q] 87 (0,0))] [(A++((ob v20++[])++((ob v21++[])))),ob v23,ob v22,[q]]) (fun d hw=>hw.merge (js:=[4,1]) J (SP.eq OZ)) ?_
   have dz:=cK.st cM (cL.q 2 J)
   refine mq 13 J OX (kn dz (ai2 0 1 J J)) (aI J) J ?_
   refine WM.thw (js:=[3]) (R:=[(A++((ob v20++[])++((ob v21++[])))),ob v23,ob v22]) J t (fun eR cO dA=>?_)
   replace b4:=b4.fr dA (cO.q 1 J) (cO.q 0 J)
   refine on1 14 (ms1 0 J nk CX J b4.one ?_)
   refine WM.nil OX ?_
   exact wo [0,0] [0] (K (_,_,_,_) ⟨h,b4⟩)
  refine WT.skip ?_
  exact rtg [0,0,0] hF aC.none J (by cases h;exact fun d hw=>⟨f,A,rfl,rfl,u,t⟩)
 refine att 6 [] J ?_
 refine lin (σ:=Hp × (List a7) × Value × List Nat × Int) (fun s=>[(0,pQ q),(3,ar),(4,au),(6,pQ T),(7,pQ U),(10,iV s.2.2.2.2)]) (fun s=>St w0 s.1 [(U,.cells #[S,iV G.Next] 29 (0,0)),(T,.cells #[.string w.Name,iV w.Sal,k,P,Q] 87 (0,0))] [[q],ob s.2.2.1,s.2.2.2.1]) (fun m s=>fa N w G p3 Y (gu N) m s.2.1 s.2.2.2.2=some r∧(OSl av 63 3 s.1 s.2.2.2.1 s.2.2.1 s.2.1)∧(s.1 q=some (.cells #[s.2.2.1] 41 (0,0)))) (a,p0,f,A,0) N ⟨h,u,t⟩ (sx [0,0,0] [0,0]) (fun n2 cP s hm=>?_)
 obtain⟨eS,s2,u2,ab,s3⟩:=s
 obtain⟨h,x,y⟩:=hm
 dsimp only at h x y ⊢
 unfold fa at h
 refine atr 6 [0,0] J<|lnr V J<|la J<|en ?_
 refine ch h J ?_ ?_ <;> intro h
 ·refine att 4 [] J<|wm [0,1] [] J<|amm 3 [0,2,1,32,2] [0,1] J J<|mq 3 J OX (kN [0,1]) (mP bw J J M) J ?_
  obtain⟨bE,cQ,h⟩:=bs h
  obtain⟨eT,F1,-,g1,eU,eV,r1⟩:=Z.el (a8 cQ).2.2
  obtain⟨v24,G1,rfl,dB,dC⟩:=r1
  obtain rfl:=dB.symm
  refine mq 4 J OX (kN [0,1]) (ak rO J J Z cQ) J<|mq 5 J OX (kN [0,1]) (ay tV J (fun d hw=>(g1.of_eq 0 3 J J:rg _ _ _ [.string bE.Kind,v24,.bool bE.Not]).rangeAt hw.1) J) J<|amm 3 [6,0,7,0,8] [0,1] J J ?_
  obtain⟨cR,cS,h⟩:=bs h
  obtain⟨eW,F2,-,g2,eX,eY,r2⟩:=V.el (a8 cS).2.2
  obtain⟨v25,G2,rfl,dD,dE⟩:=r2
  obtain rfl:=dD.symm
  refine mq 9 J OX (kN [0,1]) (ak p9 J J V cS) J<|amm 1 [10,1] [0,1] J J<|mq 11 J OX (kN [0,1]) (ay nw J (fun d hw=>(g2.of_eq 1 2 J J:rg _ _ _ [.string cR.F.Kind,v25]).rangeAt hw.1) J) J<|amm 1 [12] [0,1] J J ?_
  obtain⟨bF,dF,h⟩:=bs h
  refine WM.one 13 OX (mc J (fun _ v z D d b hw=>Kn.of Kf.nil (ai2 0 1 J J) hw) (bL (js:=[]) (R:=[[q],ob u2,ab]) xY J J (fun d hw ap hl=>lU N (ba hw.fro) bE cR.F Y (dC.y hw.up) (dE.y hw.up) (W.y hw.up)  dF)) J ?_)
  rintro v26 dG F3 ⟨bG,cU,X,rfl,rfl,B⟩
  replace x:=x.fr cU (bG.q 1 J) (bG.q 2 J)
  replace y:=cU _ _ ((bG.q 0 J) _ OZ) y
  refine amm 5 [14,15,16,17,18] [0,1] J J<|WM.nil OX<|att 4 [] J ?_
  refine ch h J ?_ ?_ <;> intro h
  ·refine cut (σ:=Hp × (List a7) × Value × List Nat) (fun s=>[(0,pQ q),(3,ar),(4,au),(6,pQ T),(7,pQ U),(10,iV s3)]) (fun s=>St w0 s.1 [(U,.cells #[S,iV G.Next] 29 (0,0)),(T,.cells #[.string w.Name,iV w.Sal,k,P,Q] 87 (0,0))] [[q],ob s.2.2.1,s.2.2.2]) (fun s=>mQ N s3 (fa N w G p3 Y (gu N) n2) s.2.1=some r∧(OSl av 63 3 s.1 s.2.2.2 s.2.2.1 s.2.1)∧(s.1 q=some (.cells #[s.2.2.1] 41 (0,0)))) (fun s hm=>?_) (fun K=>?_)
   ·clear h
    obtain⟨eZ,s4,u3,fb⟩:=s
    obtain⟨h,k5,k6⟩:=hm
    dsimp only at h k5 k6 ⊢
    unfold mQ at h
    refine att 6 [] J ?_
    exact lb [0,0,0] [0,0] (cP (_,_,_,_,_) ⟨h,k5,k6⟩)
   refine wm [0,1] [15] J<|amm 8 [0,1,37,2,2,14,4,6,0,7,0,8] [0,1] J J ?_
   obtain⟨E,cV,h⟩:=bs h
   obtain⟨fc,F6,-,g4,fe,ff,r4⟩:=V.el (a8 cV).2.2
   obtain⟨v35,G4,rfl,dH,fg⟩:=r4
   obtain rfl:=dH.symm
   refine mqT 9 [10,11,12,13,15] J OX (kN [0,1]) (ak p9 J J V cV) J<|amm 1 [10,0] [0,1] J J<|mqT 11 [12,13,15] J OX (kN [0,1]) (aW u6 J (fun d hw=>(g4.of_eq 0 1 J J:rg _ _ _ [iV E.Id]).rangeAt hw.1)) J ?_
   refine WM.two 3 12 OX ?_ ?_
   ·refine me J (fun _ v z D d b hw=>Kn.of Kf.nil (ai2 0 1 J J) hw) (gT (R:=RI .i64) RI.lasts bw jR J J) J ?_
    rintro fh dI fi ⟨bH,b5⟩
    replace x:=x.f0 bH
    replace B:=B.f0 bH
    replace y:=bH _ _ OZ y
    refine WM.two 5 12 OX ?_ ?_
    ·first | refine mu0 M fun cW=>?_ | refine iu0 M fun cW=>?_
     obtain⟨fj,dJ,h⟩:=bs h
     refine me J (fun _ v z D d b hw=>Kn.of Kf.nil (ai2 0 1 J J) hw) (cG RI.lasts RI.one RI.flat bw oK J J J J J (js:=[0]) (Rr:=[ob X,[q],ob u2,ab]) J b5 cW dJ) J ?_
     rintro v37 dK fk ⟨⟨b6,bI⟩,bJ⟩
     replace x:=x.fr bI (b6.q 2 J) (b6.q 3 J)
     replace B:=B.fr bI (b6.q 0 J) dN
     replace y:=bI _ _ ((b6.q 1 J) _ OZ) y
     have dL:RC (RI .i64) 1 dK ([[]]:List (List Nat)) [iV E.Id] ([E.Id]:List Int):=RC.cons (c:=[iV E.Id]) (cells:=[]) ⟨J,J⟩ J (RC.nil _ _ _)
     refine WM.one 12 OX (me J (fun _ v z D d b hw=>Kn.of Kf.nil (ai2 0 1 J J) hw) (bv (vs:=[(0,iV E.Id)]) (C:=#[iV E.Id]) RI.lasts bw jR J J J J (ao jm (aa (C':=[iV E.Id]) J J J J J (ae))) J dL J (by simpa using Kw.nil)) J ?_)
     rintro bK dM fl ⟨b7,bM⟩
     replace bM:OSl (RI .i64) 3 1 dM [] bK ([E.Id]:List Int):=by simpa using bM
     replace x:=x.f0 b7
     replace B:=B.f0 b7
     replace bJ:=bJ.f0 b7
     replace y:=b7 _ _ OZ y
     obtain⟨dO,dP,h⟩:=bs h
     refine WM.one 13 OX (me J (fun _ v z D d b hw=>Kn.of Kf.nil (ai2 0 1 J J) hw) (cG RI.lasts RI.one RI.flat bw oK J J J J J (js:=[1]) (Rr:=[ob bK,ob X,[q],ob u2,ab]) J bJ bM.rsl dP) J ?_)
     rintro v39 fo fp ⟨⟨b8,bN⟩,dQ⟩
     replace x:=x.fr bN (b8.q 3 J) (b8.q 4 J)
     replace B:=B.fr bN (b8.q 1 J) dN
     replace y:=bN _ _ ((b8.q 2 J) _ OZ) y
     obtain⟨fq,dR,h⟩:=bs h
     refine WM.one 15 OX (mc J (fun hc=>by cases hc) (bL (js:=[3,3,3]) (R:=[ob v39,ob bK,ob X]) BY J J (fun d hw ap hl=>ih (bx hw ap hl) s2 w G dO bF.1 x y (Z.y (hw.uo ap)) (ag.y (hw.uo ap)) (aw.y (hw.uo ap)) (V.y (hw.uo ap)) (dQ.rsl.x (Dj.app (ap.q 0 J) dN)) (B.rsl.x (Dj.app (ap.q 2 J) dN))  dR)) J ?_)
     rintro v40 fr F7 ⟨fs,ft,v41,fu,rfl,rfl,dS,dT⟩
     refine WM.nil OX ?_
     exact wo [0,0,0] [0,0] (K (_,_,_,_) ⟨h,dS,dT⟩)
    have dU:RC (RI .i64) 1 dI ([[]]:List (List Nat)) [iV E.Id] ([E.Id]:List Int):=RC.cons (c:=[iV E.Id]) (cells:=[]) ⟨J,J⟩ J (RC.nil _ _ _)
    refine me J (fun _ v z D d b hw=>Kn.of Kf.nil (ai2 0 1 J J) hw) (bv (vs:=[(0,iV E.Id)]) (C:=#[iV E.Id]) RI.lasts bw jR J J J J (ao jm (aa (C':=[iV E.Id]) J J J J J (ae))) J dU J (by simpa using Kw.nil)) J ?_
    rintro b9 dV fv ⟨bb,aL⟩
    replace aL:OSl (RI .i64) 3 1 dV [] b9 ([E.Id]:List Int):=by simpa using aL
    replace x:=x.f0 bb
    replace B:=B.f0 bb
    replace b5:=b5.f0 bb
    replace y:=bb _ _ OZ y
    first | refine mu0 M fun cX=>?_ | refine iu0 M fun cX=>?_
    obtain⟨fw,dW,h⟩:=bs h
    refine WM.one 5 OX (me J (fun _ v z D d b hw=>Kn.of Kf.nil (ai2 0 1 J J) hw) (cG RI.lasts RI.one RI.flat bw oK J J J J J (js:=[1]) (Rr:=[ob b9,ob X,[q],ob u2,ab]) J b5 cX dW) J ?_)
    rintro fx fy fz ⟨⟨aM,bd⟩,dX⟩
    replace x:=x.fr bd (aM.q 3 J) (aM.q 4 J)
    replace B:=B.fr bd (aM.q 1 J) dN
    replace aL:=aL.fr bd (aM.q 0 J) dN
    replace y:=bd _ _ ((aM.q 2 J) _ OZ) y
    obtain⟨dY,dZ,h⟩:=bs h
    refine WM.one 13 OX (me J (fun _ v z D d b hw=>Kn.of Kf.nil (ai2 0 1 J J) hw) (cG RI.lasts RI.one RI.flat bw oK J J J J J (js:=[0]) (Rr:=[ob b9,ob X,[q],ob u2,ab]) J dX aL.rsl dZ) J ?_)
    rintro v44 fA fB ⟨⟨be,bO⟩,e0⟩
    replace x:=x.fr bO (be.q 3 J) (be.q 4 J)
    replace B:=B.fr bO (be.q 1 J) dN
    replace y:=bO _ _ ((be.q 2 J) _ OZ) y
    obtain⟨fC,e1,h⟩:=bs h
    refine WM.one 15 OX (mc J (fun hc=>by cases hc) (bL (js:=[3,3,3]) (R:=[ob v44,ob b9,ob X]) BY J J (fun d hw ap hl=>ih (bx hw ap hl) s2 w G dY bF.1 x y (Z.y (hw.uo ap)) (ag.y (hw.uo ap)) (aw.y (hw.uo ap)) (V.y (hw.uo ap)) (e0.rsl.x (Dj.app (ap.q 0 J) dN)) (B.rsl.x (Dj.app (ap.q 2 J) dN))  e1)) J ?_)
    rintro v45 fD F8 ⟨fE,fF,v46,fG,rfl,rfl,e2,e3⟩
    refine WM.nil OX ?_
    exact wo [0,0,0] [0,0] (K (_,_,_,_) ⟨h,e2,e3⟩)
   have e4:RC (RI .i64) 1 dG ([[]]:List (List Nat)) [iV E.Id] ([E.Id]:List Int):=RC.cons (c:=[iV E.Id]) (cells:=[]) ⟨J,J⟩ J (RC.nil _ _ _)
   refine me J (fun _ v z D d b hw=>Kn.of Kf.nil (ai2 0 1 J J) hw) (bv (vs:=[(0,iV E.Id)]) (C:=#[iV E.Id]) RI.lasts bw jR J J J J (ao jm (aa (C':=[iV E.Id]) J J J J J (ae))) J e4 J (by simpa using Kw.nil)) J ?_
   rintro bf e5 fH ⟨bP,an⟩
   replace an:OSl (RI .i64) 3 1 e5 [] bf ([E.Id]:List Int):=by simpa using an
   replace x:=x.f0 bP
   replace B:=B.f0 bP
   replace y:=bP _ _ OZ y
   refine WM.one 3 OX (me J (fun _ v z D d b hw=>Kn.of Kf.nil (ai2 0 1 J J) hw) (gT (R:=RI .i64) RI.lasts bw jR J J) J ?_)
   rintro fI fJ fK ⟨bg,e6⟩
   replace x:=x.f0 bg
   replace B:=B.f0 bg
   replace an:=an.f0 bg
   replace y:=bg _ _ OZ y
   first | refine mu0 M fun cY=>?_ | refine iu0 M fun cY=>?_
   obtain⟨fL,e7,h⟩:=bs h
   refine WM.one 5 OX (me J (fun _ v z D d b hw=>Kn.of Kf.nil (ai2 0 1 J J) hw) (cG RI.lasts RI.one RI.flat bw oK J J J J J (js:=[0]) (Rr:=[ob bf,ob X,[q],ob u2,ab]) J e6 cY e7) J ?_)
   rintro v49 fM fN ⟨⟨aN,bh⟩,e8⟩
   replace x:=x.fr bh (aN.q 3 J) (aN.q 4 J)
   replace B:=B.fr bh (aN.q 1 J) dN
   replace an:=an.fr bh (aN.q 0 J) dN
   replace y:=bh _ _ ((aN.q 2 J) _ OZ) y
   obtain⟨e9,ea,h⟩:=bs h
   refine WM.one 13 OX (me J (fun _ v z D d b hw=>Kn.of Kf.nil (ai2 0 1 J J) hw) (cG RI.lasts RI.one RI.flat bw oK J J J J J (js:=[0]) (Rr:=[ob bf,ob X,[q],ob u2,ab]) J e8 an.rsl ea) J ?_)
   rintro v50 fO fP ⟨⟨bj,bQ⟩,eb⟩
   replace x:=x.fr bQ (bj.q 3 J) (bj.q 4 J)
   replace B:=B.fr bQ (bj.q 1 J) dN
   replace y:=bQ _ _ ((bj.q 2 J) _ OZ) y
   obtain⟨fQ,ec,h⟩:=bs h
   refine WM.one 15 OX (mc J (fun hc=>by cases hc) (bL (js:=[3,3,3]) (R:=[ob v50,ob bf,ob X]) BY J J (fun d hw ap hl=>ih (bx hw ap hl) s2 w G e9 bF.1 x y (Z.y (hw.uo ap)) (ag.y (hw.uo ap)) (aw.y (hw.uo ap)) (V.y (hw.uo ap)) (eb.rsl.x (Dj.app (ap.q 0 J) dN)) (B.rsl.x (Dj.app (ap.q 2 J) dN))  ec)) J ?_)
   rintro v51 fR F9 ⟨fS,fT,fU,fV,rfl,rfl,ed,ee⟩
   refine WM.nil OX ?_
   exact wo [0,0,0] [0,0] (K (_,_,_,_) ⟨h,ed,ee⟩)
  refine att 7 [] J ?_
  exact lb [1,1,1] [0,0] (cP (_,_,_,_,_) ⟨h,x,y⟩)
 refine xt J ?_
 refine WT.fin hF aC.none (fun d hw=>?_)
 cases h
 refine aK (js:=[0,0,0]) hw J ⟨u2,ab,J,J,x,y⟩
theorem C0 (w0:aA e a []) (c:ah) (d:af) (B:RSl cI 3 e o g c.Pats) (D:RSl bT 11 e ai n c.Conds) (E:RSl fm 5 e aj l c.Acts) (F:RSl bm 3 e a6 k d.Items) {r:(List a7)} (h:sd N c d=some r) :
  Calls prog 142 [.agg [.string c.Name,iV c.Sal,g,n,l].toArray,.agg [k,iV d.Next].toArray].toArray w0.w (bc a w0.w [] (fun G Fs v=>∃ (m:Value) (u:List Nat),v=m∧Fs=[ob m,u]∧OSl av 63 3 G u m r)):=by
 refine eN func142 J ntmps142 J w0 fun H=>?_
 unfold sd at h
 refine sr<|lbx J fun w=>lbx J fun x=>arr 4 [] J ?_
 have I:RC av 3 a ([]:List (List Nat)) [] ([]:List a7):=RC.nil _ _ _
 refine le' (bv (vs:=[]) (C:=#[]) av.lasts ep nA J J J J (ao C6 (ae)) J I J (by simpa using Kw.nil)) J ?_
 rintro v1 y S ⟨T,h1⟩
 replace h1:OSl av 63 3 y [] v1 ([]:List a7):=by simpa[gi] using h1
 refine WL.conv (S':=St w0 y [(x,.cells #[k,iV d.Next] 29 (0,0)),(w,.cells #[.string c.Name,iV c.Sal,g,n,l] 87 (0,0))] [[],ob v1]) (fun K hw=>hw.addNil) ?_
 refine ln (nh (C:=#[.slice none 0 0]) KR J) J (fun U=>?_)
 refine so1 0 CX J h1.one ?_
 refine arr 5 [69,34] J<|le' (gT (R:=RI .i64) RI.lasts bw jR J J) J ?_
 rintro v2 V W ⟨L,i⟩
 replace h1:=h1.f0 L
 refine le' (gT aG.lasts lA rE J J) J ?_
 rintro v3 X Y ⟨A,s⟩
 replace h1:=h1.f0 A
 replace i:=i.f0 A
 refine WL.frz (js:=[0]) (R:=[(x,.cells #[k,iV d.Next] 29 (0,0)),(w,.cells #[.string c.Name,iV c.Sal,g,n,l] 87 (0,0))]) J (fun Z t M=>?_)
 replace h1:=h1.f0 t
 replace i:=i.f0 t
 replace s:=s.f0 t
 refine kcb [0,3,2] h J J J J (fun b ap z q=>yD N b ([]:List a7) c d ([]:List Int) ([]:List aq) h1 M (B.y z) (D.y z) (E.y z) (F.y z) (i.rsl.x (Dj.app (ap.q 1 J) dN)) (s.rsl.x (Dj.app (ap.q 0 J) dN)) q) ?_
 rintro x1 h v4 a8 F1 ⟨aa,ab,v5,O,rfl,rfl,P,Q⟩
 refine en<|sr<|lgx 0 0 (cC Q) J<|la J<|en ?_
 exact rtg [1,1] H (aC.one J) J (by cases h;exact fun K hw=>⟨v5,O,rfl,rfl,P⟩)
end Go.Proofs.YtedmfnmbjglmbaaGreat
