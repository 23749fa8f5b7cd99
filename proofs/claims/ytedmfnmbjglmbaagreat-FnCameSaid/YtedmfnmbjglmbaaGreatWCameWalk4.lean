/- Printed by a program of ours: each Go function computes its Lean function. -/
import Derived.Test.YtedmfnmbjglmbaaGreatProg
import Derived.Test.YtedmfnmbjglmbaaGreatWCameWalk3
namespace Go.Proofs.YtedmfnmbjglmbaaGreat
open Eng Tryz
open Go.RowKit (Below)
set_option linter.unusedVariables false
set_option linter.unusedSimpArgs false

set_option maxRecDepth 100000
set_option maxHeartbeats 1000000
variable {a b:Hp} {d e g k f i:Value} {pD0 j pG1 pG0_0 pG0_1 pG1_0 pG1_1:List Nat} (N:Nat)
theorem og (w0:aD a b []) (c:(List Int)) (l:RSl (RI .i64) 1 a j d c) {r:Int} (h:gE N c=some r) :
  CB w0 prog 119 [d] (iV r):=by
 refine eN func119 J ntmps119 J w0 fun n=>?_
 unfold gE at h
 refine atr 12 [] J<|lnr l J<|art 3 [] J ?_
 refine lin (σ:=Int) (fun s=>[(3,iV 0),(6,d),(7,iV (c.length:Int)),(8,iV s)]) (fun s=>St w0 b [] []) (fun m s=>gn N c m s=some r) (0) N h (sx [] []) (fun p q s hm=>?_)
 revert hm;revert s;intro s1 hm
 have h:gn N c (p+1) s1=some r:=hm
 show WT _ _ [(3,iV 0),(6,d),(7,iV (c.length:Int)),(8,iV s1)] (St w0 b [] [])
 unfold gn at h
 refine att 5 [] J ?_
 refine ch h J ?_ ?_ <;> intro h
 ·refine atr 5 [] J ?_
  obtain⟨u,o,h⟩:=bs h
  obtain⟨v,w,-,g1,x,y,t⟩:=l.el (a8 o).2.2
  obtain⟨rfl,-⟩:=t
  refine lia l o J<|lhx 0 0 g1 J<|art 8 [] J ?_
  refine ch h J ?_ ?_ <;> intro h
  ·refine att 5 [] J ?_
   exact rt n h
  refine att 6 [] J ?_
  exact lb [] [] (q _ h)
 refine att 6 [] J ?_
 exact rt n h
theorem pf  (w0:aD a b []) (c:Int)  {r:Bool} (h:jw N c=some r) :
  CB w0 prog 189 [iV c] (.bool r):=by
 refine eN func189 J ntmps189 J w0 fun l=>?_
 unfold jw at h
 refine att 11 [] J ?_
 exact rt l h
theorem fT  (w0:aD a b []) (l:Int) (m:Int)  {r:Int} (h:dd N l m=some r) :
  CB w0 prog 120 [iV l,iV m] (iV r):=by
 refine eN func120 J ntmps120 J w0 fun c=>?_
 unfold dd at h
 refine atr 7 [] J<|qc h (pf N · l ·) J J J fun n h=>arr 5 [] J<|qc h (pf N · m ·) J J J fun o h=>art 7 [] J ?_
 refine ch h J ?_ ?_ <;> intro h
 ·refine att 5 [] J ?_
  refine ch h J ?_ ?_ <;> intro h
  ·refine att 4 [] J ?_
   exact rt c h
  refine att 5 [] J ?_
  exact rt c h
 refine att 6 [] J ?_
 refine ch h J ?_ ?_ <;> intro h
 ·refine att 4 [] J ?_
  exact rt c h
 refine att 8 [] J ?_
 refine ch h J ?_ ?_ <;> intro h
 ·refine att 4 [] J ?_
  exact rt c h
 refine att 8 [] J ?_
 refine ch h J ?_ ?_ <;> intro h
 ·refine att 4 [] J ?_
  exact rt c h
 refine att 5 [] J ?_
 exact rt c h
theorem iB (w0:aD a b []) (c:(List Int)) (l:(List Int)) (n:RSl (RI .i64) 1 a j d c) (o:RSl (RI .i64) 1 a pG1 e l) {r:Int} (h:d8 N c l=some r) :
  CB w0 prog 121 [d,e] (iV r):=by
 refine eN func121 J ntmps121 J w0 fun p=>?_
 unfold d8 at h
 refine atr 8 [] J<|lnr n J<|art 3 [] J ?_
 refine lin (σ:=Int) (fun s=>[(0,d),(1,e),(9,d),(10,iV (c.length:Int)),(11,iV s)]) (fun s=>St w0 b [] []) (fun m s=>bR N c l m s=some r) (0) N h (sx [] []) (fun u v s hm=>?_)
 revert hm;revert s;intro s1 hm
 have h:bR N c l (u+1) s1=some r:=hm
 show WT _ _ [(0,d),(1,e),(9,d),(10,iV (c.length:Int)),(11,iV s1)] (St w0 b [] [])
 unfold bR at h
 refine att 5 [] J ?_
 refine ch h J ?_ ?_ <;> intro h
 ·refine atr 6 [] J ?_
  obtain⟨w,q,h⟩:=bs h
  obtain⟨A,B,-,g1,C,D,x⟩:=n.el (a8 q).2.2
  obtain⟨rfl,-⟩:=x
  refine lia n q J<|lhx 0 0 g1 J<|arr 8 [] J<|lnr o J<|la J<|en ?_
  refine ch h J ?_ ?_ <;> intro h
  ·refine att 4 [] J ?_
   exact rt p h
  refine atr 5 [] J ?_
  obtain⟨y,t,h⟩:=bs h
  obtain⟨E,F,-,g2,G,H,z⟩:=o.el (a8 t).2.2
  obtain⟨rfl,-⟩:=z
  refine lia o t J<|lhx 0 0 g2 J<|arr 6 [] J<|qc h (fT N · w y ·) J J J fun I h=>art 7 [] J ?_
  refine ch h J ?_ ?_ <;> intro h
  ·refine att 5 [] J ?_
   exact rt p h
  refine att 6 [] J ?_
  exact lb [] [] (v _ h)
 refine atr 5 [] J<|lnr n J<|la J<|lnr o J<|la J<|en ?_
 refine ch h J ?_ ?_ <;> intro h
 ·refine att 4 [] J ?_
  exact rt p h
 refine att 5 [] J ?_
 exact rt p h
theorem lN (w0:aD a b []) (n:ao) (o:ao) (p:RSl (RI .i64) 1 a pG0_0 g n.Ids) (q:RSl (RI .i64) 1 a pG0_1 k n.Hits) (s:RSl (RI .i64) 1 a pG1_0 f o.Ids) (t:RSl (RI .i64) 1 a pG1_1 i o.Hits) {r:Int} (h:cY N n o=some r) :
  CB w0 prog 181 [.agg [g,k].toArray,.agg [f,i].toArray] (iV r):=by
 refine eN func181 J ntmps181 J w0 fun u=>?_
 unfold cY at h
 refine sr<|lbx J fun B=>lbx J fun E=>art 3 [] J<|wm [0,1] [] J<|amm 8 [0,0,1,32,2,0,3,0,5,1,6,32,7,1,8,0] [0,1] J J ?_
 obtain⟨l,w,h⟩:=bs h
 refine on1 4 (mp J (kS [0,1]) (pdP J (iB N · n.Ids o.Ids p s w)) J ?_)
 obtain⟨m,x,h⟩:=bs h
 refine on1 9 (mp J (kS [0,1]) (pdP J (iB N · n.Hits o.Hits q t x)) J ?_)
 have y:RC (RI .i64) 1 b ([[],[]]:List (List Nat)) [iV l,iV m] ([l,m]:List Int):=RC.cons (c:=[iV l]) (cells:=[iV m]) ⟨J,J⟩ J (RC.cons (c:=[iV m]) (cells:=[]) ⟨J,J⟩ J (RC.nil _ _ _))
 refine WM.one 10 NQ (me J (fun _ v F D G H hw=>Kn.of Kf.nil (ai2 0 1 J J) hw) (bz (vs:=[(0,iV l),(1,iV m)]) (C:=#[iV l,iV m]) RI.lasts cq mg J J J J (ar HP (aa (C':=[iV l,iV 0]) J J J J J (aa (C':=[iV l,iV m]) J J J J J (ae)))) J y J (by simpa using Kw.nil)) J ?_)
 rintro v1 z I ⟨K,h1⟩
 replace h1:OSl (RI .i64) 3 1 z [] v1 ([l,m]:List Int):=by simpa using h1
 obtain⟨L,A,h⟩:=bs h
 refine on1 11 (mp J (kS [0,1]) (pcP J (og N · ([l,m]:List Int) h1.rsl A)) J ?_)
 refine amm 1 [12] [0,1] J J<|WM.nil NQ ?_
 exact rt u h
end Go.Proofs.YtedmfnmbjglmbaaGreat
