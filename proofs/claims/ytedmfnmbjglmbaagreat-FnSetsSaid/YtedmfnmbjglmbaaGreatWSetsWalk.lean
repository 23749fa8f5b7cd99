/- Printed by a program of ours: each Go function computes its Lean function. -/
import Derived.Test.YtedmfnmbjglmbaaGreatProg
import Derived.Test.YtedmfnmbjglmbaaGreatWSetsWalk10
namespace Go.Proofs.YtedmfnmbjglmbaaGreat
open Eng Tryz
open Go.RowKit (Below)
set_option linter.unusedVariables false
set_option linter.unusedSimpArgs false

set_option maxRecDepth 100000
set_option maxHeartbeats 8000000
variable {a c:Hp} {e f k l b0 j g n:Value} {a1 o aE ar pG0_2 ad a6 c0:List Nat} (N:Nat)
theorem yM  (w0:av a c []) (b:bY)  {r:Bool} (h:pD N b=some r) :
  CB w0 prog 241 [.agg [.string b.Op,iV b.L.K,.string b.L.S,iV b.L.V.K,iV b.L.V.N,.string b.L.V.S,iV b.R.K,.string b.R.S,iV b.R.V.K,iV b.R.V.N,.string b.R.V.S].toArray] (.bool r):=by
 refine eN func241 J ntmps241 J w0 fun p=>?_
 unfold pD at h
 refine sr<|lbx J fun m=>art 14 [0,0] J ?_
 refine ch h J ?_ ?_ <;> intro h
 ·refine atr 4 [1,5] J<|qc h (pH N · b.L ·) J J J fun u h=>la J ?_
  obtain⟨q,i,h⟩:=bs h
  refine WL.cutN 5 [(15,.bool q),(2,.bool false)] ?_ (fun K=>?_)
  rotate_left
  ·refine sp 10 i J (fun i=>?_) fun i=>?_
   ·refine arr 2 [6,5] J<|ly J J<|lq (aU (vs:=[]) (C:=#[iV 0,.string (⟨#[]⟩:ByteArray),iV 0,iV 0,.string (⟨#[]⟩:ByteArray)]) sK fS J (ab)) J<|ly J J<|lq (zj Dk J J J (r:=nB b.R (⟨0,(⟨#[]⟩:ByteArray),(⟨0,0,(⟨#[]⟩:ByteArray)⟩:bi)⟩:bn)) J) J<|la J ?_
    cases i
    exact ku K
   ·refine arr 5 [] J ?_
    cases i
    exact ku K
  refine la J<|en ?_
  exact rt p h
 refine att 6 [] J ?_
 refine cut (σ:=Bool) (fun s=>[(1,pQ m),(16,.bool s)]) (fun s=>St w0 c [(m,.cells #[.string b.Op,iV b.L.K,.string b.L.S,iV b.L.V.K,iV b.L.V.N,.string b.L.V.S,iV b.R.K,.string b.R.S,iV b.R.V.K,iV b.R.V.N,.string b.R.V.S] 216 (0,0))] []) (fun s=>jp N b s=some r) (fun s hm=>?_) (fun K=>?_)
 ·clear h
  revert hm;revert s;intro s1 hm
  have h:jp N b s1=some r:=hm
  show WT _ _ [(1,pQ m),(16,.bool s1)] (St w0 c [(m,.cells #[.string b.Op,iV b.L.K,.string b.L.S,iV b.L.V.K,iV b.L.V.N,.string b.L.V.S,iV b.R.K,.string b.R.S,iV b.R.V.K,iV b.R.V.N,.string b.R.V.S] 216 (0,0))] [])
  unfold jp at h
  refine ch h J ?_ ?_ <;> intro h
  ·refine atr 4 [1,5] J<|qc h (pH N · b.L ·) J J J fun v h=>la J ?_
   obtain⟨t,d,h⟩:=bs h
   refine WL.cutN 4 [(26,.bool t)] ?_ (fun K=>?_)
   rotate_left
   ·refine sp 22 d J (fun d=>?_) fun d=>?_
    ·refine arr 2 [6,5] J<|ly J J<|qc d (pH N · b.R ·) J J J fun w d=>la J ?_
     cases d
     exact ku K
    ·refine arr 4 [] J ?_
     cases d
     exact ku K
   refine la J<|en ?_
   exact rt p h
  refine att 6 [] J ?_
  exact rt p h
 refine ch h J ?_ ?_ <;> intro h
 ·refine WT.skip ?_
  exact wo [] [0] (K _ h)
 refine att 4 [] J ?_
 exact wo [] [0] (K _ h)
theorem qv (w0:av a c []) (b:(List bY)) (d:RSl bW 11 a a1 e b) {r:Bool} (h:l5 N b=some r) :
  CB w0 prog 218 [e] (.bool r):=by
 refine eN func218 J ntmps218 J w0 fun i=>?_
 unfold l5 at h
 refine att 10 [] J ?_
 refine lin (σ:=Int) (fun s=>[(0,e),(3,iV s)]) (fun s=>St w0 c [] []) (fun m s=>gm N b m s=some r) (0) N h (sx [] []) (fun q t s hm=>?_)
 revert hm;revert s;intro s1 hm
 have h:gm N b (q+1) s1=some r:=hm
 show WT _ _ [(0,e),(3,iV s1)] (St w0 c [] [])
 unfold gm at h
 refine atr 5 [] J<|lnr d J<|la J<|en ?_
 refine ch h J ?_ ?_ <;> intro h
 ·refine atr 7 [] J ?_
  obtain⟨u,p,h⟩:=bs h
  obtain⟨w,x,-,g1,y,z,v⟩:=d.el (aa p).2.2
  obtain⟨rfl,-⟩:=v
  refine lia d p J<|lhx 0 11 g1 J<|qc h (yM N · u ·) J J J fun A h=>la J<|en ?_
  refine ch h J ?_ ?_ <;> intro h
  ·refine att 4 [] J ?_
   exact rt i h
  refine att 7 [] J ?_
  exact lb [] [] (t _ h)
 refine atr 4 [] J<|lnr d J<|art 3 [] J ?_
 exact rt i h
theorem AU (w0:av a c []) (b:cA) (F:RSl bW 11 a o f b.Args) {r:Bool} (h:qL N b=some r) :
  CB w0 prog 176 [.agg [iV b.Kind,.string b.Name,f,iV b.N,.string b.Undo].toArray] (.bool r):=by
 refine eN func176 J ntmps176 J w0 fun w=>?_
 unfold qL at h
 refine sr<|lbx J fun d=>arr 8 [1,0] J ?_
 obtain⟨G,x,h⟩:=bs h
 refine WL.cutN 5 [(12,.bool G),(1,pQ d)] ?_ (fun K=>?_)
 rotate_left
 ·refine sp 7 x J (fun x=>?_) fun x=>?_
  ·refine arr 2 [2,0] J<|ly J J<|lnr F J<|arr 2 [] J ?_
   cases x
   exact ku K
  ·refine arr 5 [] J ?_
   cases x
   exact ku K
 refine la J ?_
 obtain⟨y,z,h⟩:=bs h
 refine WL.cutN 4 [(17,.bool y),(1,pQ d)] ?_ (fun K=>?_)
 rotate_left
 ·refine sp 13 z J (fun z=>?_) fun z=>?_
  ·refine arr 4 [4,0] J ?_
   cases z
   exact ku K
  ·refine arr 4 [] J ?_
   cases z
   exact ku K
 refine art 14 [0,0] J ?_
 refine ch h J ?_ ?_ <;> intro h
 ·refine atr 4 [1,0] J<|qc h (gl N · b.Name ·) J J J fun W h=>la J ?_
  obtain⟨H,i,h⟩:=bs h
  refine WL.cutN 4 [(29,.bool H),(1,pQ d)] ?_ (fun K=>?_)
  rotate_left
  ·refine sp 25 i J (fun i=>?_) fun i=>?_
   ·refine arr 2 [2,0] J<|ly J J<|qd i (qv N · b.Args F ·) J J J fun X i=>la J ?_
    cases i
    exact ku K
   ·refine arr 4 [] J ?_
    cases i
    exact ku K
  refine la J ?_
  obtain⟨I,A,h⟩:=bs h
  refine WL.cutN 4 [(34,.bool I),(1,pQ d)] ?_ (fun K=>?_)
  rotate_left
  ·refine sp 30 A J (fun A=>?_) fun A=>?_
   ·refine arr 4 [3,0] J ?_
    cases A
    exact ku K
   ·refine arr 4 [] J ?_
    cases A
    exact ku K
  refine la J ?_
  obtain⟨L,B,h⟩:=bs h
  refine WL.cutN 4 [(39,.bool L)] ?_ (fun K=>?_)
  rotate_left
  ·refine sp 35 B J (fun B=>?_) fun B=>?_
   ·refine arr 4 [4,0] J ?_
    cases B
    exact ku K
   ·refine arr 4 [] J ?_
    cases B
    exact ku K
  refine la J<|en ?_
  exact rt w h
 refine att 5 [] J ?_
 refine ch h J ?_ ?_ <;> intro h
 ·refine atr 4 [1,0] J<|qc h (gl N · b.Name ·) J J J fun Y h=>la J ?_
  obtain⟨M,m,h⟩:=bs h
  refine WL.cutN 4 [(49,.bool M),(1,pQ d)] ?_ (fun K=>?_)
  rotate_left
  ·refine sp 45 m J (fun m=>?_) fun m=>?_
   ·refine arr 2 [2,0] J<|ly J J<|qd m (qv N · b.Args F ·) J J J fun Z m=>la J ?_
    cases m
    exact ku K
   ·refine arr 4 [] J ?_
    cases m
    exact ku K
  refine la J ?_
  obtain⟨O,C,h⟩:=bs h
  refine WL.cutN 4 [(54,.bool O),(1,pQ d)] ?_ (fun K=>?_)
  rotate_left
  ·refine sp 50 C J (fun C=>?_) fun C=>?_
   ·refine arr 4 [3,0] J ?_
    cases C
    exact ku K
   ·refine arr 4 [] J ?_
    cases C
    exact ku K
  refine la J ?_
  obtain⟨P,p,h⟩:=bs h
  refine WL.cutN 9 [(64,.bool P)] ?_ (fun K=>?_)
  rotate_left
  ·refine sp 55 p J (fun p=>?_) fun p=>?_
   ·refine arr 4 [4,0] J ?_
    obtain⟨Q,q,p⟩:=bs p
    refine WL.cutN 4 [(63,.bool Q),(55,.bool true)] ?_ (fun K=>?_)
    rotate_left
    ·refine sp 59 q J (fun q=>?_) fun q=>?_
     ·refine arr 4 [] J ?_
      cases q
      exact ku K
     ·refine arr 2 [4,0] J<|ly J J<|qc q (gl N · b.Undo ·) J J J fun x5 q=>ly J J<|la J ?_
      cases q
      exact ku K
    refine la J ?_
    cases p
    exact ku K
   ·refine arr 9 [] J ?_
    cases p
    exact ku K
  refine la J<|en ?_
  exact rt w h
 refine att 5 [] J ?_
 refine ch h J ?_ ?_ <;> intro h
 ·refine atr 4 [1,0] J<|qc h (gl N · b.Name ·) J J J fun x6 h=>la J ?_
  obtain⟨R,t,h⟩:=bs h
  refine WL.cutN 4 [(74,.bool R),(1,pQ d)] ?_ (fun K=>?_)
  rotate_left
  ·refine sp 70 t J (fun t=>?_) fun t=>?_
   ·refine arr 2 [2,0] J<|ly J J<|qd t (qv N · b.Args F ·) J J J fun x7 t=>la J ?_
    cases t
    exact ku K
   ·refine arr 4 [] J ?_
    cases t
    exact ku K
  refine la J ?_
  obtain⟨S,u,h⟩:=bs h
  refine WL.cutN 4 [(79,.bool S),(1,pQ d)] ?_ (fun K=>?_)
  rotate_left
  ·refine sp 75 u J (fun u=>?_) fun u=>?_
   ·refine arr 2 [3,0] J<|ly J J<|qc u (cI N · b.N 0 100000 ·) J J J fun x8 u=>la J ?_
    cases u
    exact ku K
   ·refine arr 4 [] J ?_
    cases u
    exact ku K
  refine la J ?_
  obtain⟨T,D,h⟩:=bs h
  refine WL.cutN 4 [(84,.bool T)] ?_ (fun K=>?_)
  rotate_left
  ·refine sp 80 D J (fun D=>?_) fun D=>?_
   ·refine arr 4 [4,0] J ?_
    cases D
    exact ku K
   ·refine arr 4 [] J ?_
    cases D
    exact ku K
  refine la J<|en ?_
  exact rt w h
 refine att 5 [] J ?_
 refine ch h J ?_ ?_ <;> intro h
 ·refine atr 4 [] J ?_
  obtain⟨U,v,h⟩:=bs h
  refine WL.cutN 4 [(92,.bool U)] ?_ (fun K=>?_)
  rotate_left
  ·refine sp 88 v J (fun v=>?_) fun v=>?_
   ·refine arr 2 [3,0] J<|ly J J<|qc v (cI N · b.N 0 7 ·) J J J fun x9 v=>la J ?_
    cases v
    exact ku K
   ·refine arr 4 [] J ?_
    cases v
    exact ku K
  refine la J<|en ?_
  exact rt w h
 refine att 6 [] J ?_
 refine cut (σ:=Bool) (fun s=>[(1,pQ d),(3,.bool y),(93,.bool s)]) (fun s=>St w0 c [(d,.cells #[iV b.Kind,.string b.Name,f,iV b.N,.string b.Undo] 213 (0,0))] []) (fun s=>km N b y s=some r) (fun s hm=>?_) (fun K=>?_)
 ·clear h
  revert hm;revert s;intro s1 hm
  have h:km N b y s1=some r:=hm
  show WT _ _ [(1,pQ d),(3,.bool y),(93,.bool s1)] (St w0 c [(d,.cells #[iV b.Kind,.string b.Name,f,iV b.N,.string b.Undo] 213 (0,0))] [])
  unfold km at h
  refine ch h J ?_ ?_ <;> intro h
  ·refine atr 4 [] J ?_
   obtain⟨V,E,h⟩:=bs h
   refine WL.cutN 4 [(101,.bool V)] ?_ (fun K=>?_)
   rotate_left
   ·refine sp 97 E J (fun E=>?_) fun E=>?_
    ·refine arr 4 [3,0] J ?_
     cases E
     exact ku K
    ·refine arr 4 [] J ?_
     cases E
     exact ku K
   refine la J<|en ?_
   exact rt w h
  refine att 6 [] J ?_
  exact rt w h
 refine ch h J ?_ ?_ <;> intro h
 ·refine WT.skip ?_
  exact wo [] [0] (K _ h)
 refine att 4 [] J ?_
 exact wo [] [0] (K _ h)
theorem yX (w0:av a c []) (q:(List cA)) (p:(List ByteArray)) (d:Int) (b:RSl dK 5 a a1 e q) (x:RSl RS 1 a aE k p) {r:Bool} (h:pM N q p d=some r) :
  CB w0 prog 104 [e,k,iV d] (.bool r):=by
 refine eN func104 J ntmps104 J w0 fun v=>?_
 unfold pM at h
 refine att 10 [] J ?_
 refine lin (σ:=Int) (fun s=>[(0,e),(1,k),(2,iV d),(7,iV s)]) (fun s=>St w0 c [] []) (fun m s=>dA N q p d m s=some r) (0) N h (sx [] []) (fun w I s hm=>?_)
 revert hm;revert s;intro s1 hm
 have h:dA N q p d (w+1) s1=some r:=hm
 show WT _ _ [(0,e),(1,k),(2,iV d),(7,iV s1)] (St w0 c [] [])
 unfold dA at h
 refine atr 5 [] J<|lnr b J<|la J<|en ?_
 refine ch h J ?_ ?_ <;> intro h
 ·refine atr 8 [] J ?_
  obtain⟨L,y,h⟩:=bs h
  obtain⟨ae,F1,-,g1,af,ag,M⟩:=b.el (aa y).2.2
  obtain⟨v1,G1,rfl,O,h1⟩:=M
  obtain rfl:=O.symm
  refine lia b y J<|lhx 0 5 g1 J<|qd h (AU N · L h1 ·) J J J fun x2 h=>arr 2 [] J ?_
  obtain⟨P,t,h⟩:=bs h
  refine WL.cutN 16 [(37,.bool P),(0,e),(1,k),(2,iV d),(7,iV s1)] ?_ (fun K=>?_)
  rotate_left
  ·refine sp 21 t J (fun t=>?_) fun t=>?_
   ·refine arr 16 [] J ?_
    cases t
    exact ku K
   ·refine arr 2 [] J<|ly J J ?_
    obtain⟨x3,z,t⟩:=bs t
    obtain⟨ah,F2,-,g2,ai,aj,Q⟩:=b.el (aa z).2.2
    obtain⟨v2,G2,rfl,R,h2⟩:=Q
    obtain rfl:=R.symm
    refine lia b z J<|ly J J<|lf zK J J J<|ly J J<|lhx 0 0 g2 J<|arr 2 [] J ?_
    obtain⟨S,u,t⟩:=bs t
    refine WL.cutN 8 [(36,.bool S),(0,e),(1,k),(2,iV d),(7,iV s1),(21,.bool false)] ?_ (fun K=>?_)
    rotate_left
    ·refine sp 28 u J (fun u=>?_) fun u=>?_
     ·refine arr 2 [] J<|ly J J ?_
      obtain⟨x4,A,u⟩:=bs u
      obtain⟨ak,F3,-,g3,al,an,T⟩:=b.el (aa A).2.2
      obtain⟨v3,G3,rfl,U,h3⟩:=T
      obtain rfl:=U.symm
      refine lia b A J<|ly J J<|lf tl J J J<|ly J J<|lhx 3 0 g3 J<|arr 3 [] J ?_
      cases u
      exact ku K
     ·refine arr 8 [] J ?_
      cases u
      exact ku K
    refine la J ?_
    cases t
    exact ku K
  refine en ?_
  refine ch h J ?_ ?_ <;> intro h
  ·refine att 4 [] J ?_
   exact rt v h
  refine att 6 [] J ?_
  refine lin (σ:=Int) (fun s=>[(0,e),(1,k),(2,iV d),(7,iV s1),(8,iV s)]) (fun s=>St w0 c [] []) (fun m s=>gq N q p s1 (dA N q p d w) m s=some r) (0) N h (sx [] []) (fun V W s hm=>?_)
  revert hm;revert s;intro s2 hm
  have h:gq N q p s1 (dA N q p d w) (V+1) s2=some r:=hm
  show WT _ _ [(0,e),(1,k),(2,iV d),(7,iV s1),(8,iV s2)] (St w0 c [] [])
  unfold gq at h
  refine atr 6 [] J ?_
  obtain⟨x5,B,h⟩:=bs h
  obtain⟨ao,F4,-,g4,aq,au,X⟩:=b.el (aa B).2.2
  obtain⟨v4,G4,rfl,Y,Z⟩:=X
  obtain rfl:=Y.symm
  refine lia b B J<|lf mN J J J<|lhx 2 0 g4 J<|lnr Z J<|la J<|en ?_
  refine ch h J ?_ ?_ <;> intro h
  ·refine atr 7 [] J ?_
   obtain⟨x6,C,h⟩:=bs h
   obtain⟨aw,F5,-,g5,ax,ay,r5⟩:=b.el (aa C).2.2
   obtain⟨v5,G5,rfl,a7,D⟩:=r5
   obtain rfl:=a7.symm
   refine lia b C J<|lf mN J J J<|lhx 2 0 g5 J<|la J ?_
   obtain⟨x7,E,h⟩:=bs h
   obtain⟨az,F6,-,g6,aA,aB,r6⟩:=D.el (aa E).2.2
   obtain⟨rfl,-⟩:=r6
   refine lia D E J<|lf vL J J J<|lhx 1 5 g6 J<|la J<|qd h (jW N · x7.L p x ·) J J J fun x8 h=>arr 2 [] J ?_
   obtain⟨b3,i,h⟩:=bs h
   refine WL.cutN 13 [(73,.bool b3),(0,e),(1,k),(2,iV d),(7,iV s1),(8,iV s2)] ?_ (fun K=>?_)
   rotate_left
   ·refine sp 60 i J (fun i=>?_) fun i=>?_
    ·refine arr 13 [] J ?_
     cases i
     exact ku K
    ·refine arr 2 [] J<|ly J J ?_
     obtain⟨x9,F,i⟩:=bs i
     obtain⟨aC,F7,-,g7,aD,aF,r7⟩:=b.el (aa F).2.2
     obtain⟨v6,G6,rfl,a8,G⟩:=r7
     obtain rfl:=a8.symm
     refine lia b F J<|ly J J<|lf mN J J J<|ly J J<|lhx 2 0 g7 J<|ly J J<|la J<|ly J J ?_
     obtain⟨ab,H,i⟩:=bs i
     obtain⟨aG,F8,-,g8,aH,aI,r8⟩:=G.el (aa H).2.2
     obtain⟨rfl,-⟩:=r8
     refine lia G H J<|ly J J<|lf tn J J J<|ly J J<|lhx 6 5 g8 J<|ly J J<|la J<|ly J J<|qd i (jW N · ab.R p x ·) J J J fun aJ i=>arr 2 [] J ?_
     cases i
     exact ku K
   refine en ?_
   refine ch h J ?_ ?_ <;> intro h
   ·refine att 4 [] J ?_
    exact rt v h
   refine att 7 [] J ?_
   exact lb [] [] (W _ h)
  refine att 7 [] J ?_
  exact lb [] [] (I _ h)
 refine atr 4 [] J<|lnr b J<|qc h (cI N · (q.length:Int) 1 6 ·) J J J fun aK h=>la J<|en ?_
 exact rt v h
theorem yI (w0:av a c []) (i:ai) (v:RSl bN 3 a o f i.Pats) (w:RSl bl 11 a ar l i.Conds) (x:RSl dK 5 a pG0_2 b0 i.Acts) {r:Bool} (h:pf N i=some r) :
  CB w0 prog 43 [.agg [.string i.Name,iV i.Sal,f,l,b0].toArray] (.bool r):=by
 refine eN func43 J ntmps43 J w0 fun D=>?_
 unfold pf at h
 refine sr<|lbx J fun y=>arr 5 [5] J<|kab h J J J (fun b z q=>ta N b i (v.y z) (w.y z) (x.y z) q) ?_
 rintro C h v1 S T ⟨U,V,v2,rfl,rfl,h1⟩
 refine art 3 [] J<|WT.draw mixed MA (fun _ h=>h.drew)<|aqq 2 [0,0] J ?_
 obtain⟨W,E,h⟩:=bs h
 refine qp (cK K9 J (fun u hw=>gl N (ba hw.fro) i.Name E)) J<|qq (de J) J ?_
 obtain⟨F,p,h⟩:=bs h
 refine WQ.cutN 4 [(13,.bool F),(1,pQ y),(3,v1)] ?_ (fun K=>?_)
 rotate_left
 ·refine WQ.split (d:=9) J (fun c1=>?_) (fun c1=>?_)
  ·replace p:=fR p c1
   refine aqq 2 [1,0] J<|WQ.yes J J ?_
   obtain⟨X,G,p⟩:=bs p
   refine qp (cK Hq J (fun u hw=>cI N (ba hw.fro) i.Sal (-100) 100 G)) J<|WQ.q (m3 J J) J J J ?_
   cases p
   exact kq K
  ·replace p:=fO p c1
   refine aqq 4 [] J ?_
   cases p
   exact kq K
 refine qq (de J) J ?_
 obtain⟨H,s,h⟩:=bs h
 refine WQ.cutN 4 [(18,.bool H),(1,pQ y),(3,v1)] ?_ (fun K=>?_)
 rotate_left
 ·refine WQ.split (d:=14) J (fun c2=>?_) (fun c2=>?_)
  ·replace s:=fR s c2
   refine aqq 2 [2,0] J<|WQ.yes J J ?_
   obtain⟨Y,I,s⟩:=bs s
   refine qp (cK HG J (fun u hw=>zb N (ba hw.in0) i.Pats v I)) J<|WQ.q (m3 J J) J J J ?_
   cases s
   exact kq K
  ·replace s:=fO s c2
   refine aqq 4 [] J ?_
   cases s
   exact kq K
 refine qq (de J) J ?_
 obtain⟨L,t,h⟩:=bs h
 refine WQ.cutN 5 [(24,.bool L),(1,pQ y),(3,v1)] ?_ (fun K=>?_)
 rotate_left
 ·refine WQ.split (d:=19) J (fun A=>?_) (fun A=>?_)
  ·replace t:=fR t A
   refine aqq 3 [3,0] J<|WQ.yes J J ?_
   obtain⟨Z,M,t⟩:=bs t
   refine qp (cK HV J (fun u hw=>yu N (ba hw.fro) i.Conds C (w.y hw.up) h1.rsl M)) J<|WQ.q (m3 J J) J J J ?_
   cases t
   exact kq K
  ·replace t:=fO t A
   refine aqq 5 [] J ?_
   cases t
   exact kq K
 refine qq (de J) J ?_
 obtain⟨O,m,h⟩:=bs h
 refine WQ.cutN 7 [(32,.bool O)] ?_ (fun K=>?_)
 rotate_left
 ·refine WQ.split (d:=25) J (fun B=>?_) (fun B=>?_)
  ·replace m:=fR m B
   refine aqq 4 [4,0,5] J<|WQ.yes J J ?_
   obtain⟨P,Q,m⟩:=bs m
   refine qp (cK Ip J (fun u hw=>kQ N (ba hw.in0) i v w x Q)) J<|WQ.yes J J ?_
   obtain⟨x7,R,m⟩:=bs m
   refine qp (cK IC J (fun u hw=>yX N (ba hw.fro) i.Acts C P (x.y hw.up) h1.rsl R)) J<|WQ.q (m3 J J) J J J ?_
   cases m
   exact kq K
  ·replace m:=fO m B
   refine aqq 7 [] J ?_
   cases m
   exact kq K
 refine aqt 2 [] J ?_
 exact rt D h
theorem yR (w0:av a c []) (b:bo) (d:ByteArray) (p:RSl cr 5 a o f b.Rules) {r:Int} (h:pK N b d=some r) :
  CB w0 prog 44 [.agg [.string b.Name,f].toArray,.string d] (iV r):=by
 refine eN func44 J ntmps44 J w0 fun q=>?_
 unfold pK at h
 refine sr<|lbx J fun i=>art 8 [] J ?_
 refine lin (σ:=Int) (fun s=>[(1,.string d),(2,pQ i),(5,iV s)]) (fun s=>St w0 c [(i,.cells #[.string b.Name,f] 26 (0,0))] []) (fun m s=>fX N b d m s=some r) (0) N h (sx [] [0]) (fun u v s hm=>?_)
 revert hm;revert s;intro s1 hm
 have h:fX N b d (u+1) s1=some r:=hm
 show WT _ _ [(1,.string d),(2,pQ i),(5,iV s1)] (St w0 c [(i,.cells #[.string b.Name,f] 26 (0,0))] [])
 unfold fX at h
 refine atr 6 [1,0] J<|lnr p J<|la J<|en ?_
 refine ch h J ?_ ?_ <;> intro h
 ·refine atr 8 [1,0] J ?_
  obtain⟨x,t,h⟩:=bs h
  obtain⟨y,z,-,g1,A,B,w⟩:=p.el (aa t).2.2
  obtain⟨v1,C,v2,D,v3,E,rfl,rfl,h1,F,G⟩:=w
  refine lia p t J<|lf xe J J J<|lhx 0 0 g1 J<|art 3 [] J ?_
  refine ch h J ?_ ?_ <;> intro h
  ·refine att 5 [] J ?_
   exact rt q h
  refine att 7 [] J ?_
  exact lb [] [0] (v _ h)
 refine att 5 [] J ?_
 exact rt q h
theorem Am (w0:av a c []) (b:bo) (p:RSl cr 5 a o f b.Rules) {r:Bool} (h:rh N b=some r) :
  CB w0 prog 11 [.agg [.string b.Name,f].toArray] (.bool r):=by
 refine eN func11 J ntmps11 J w0 fun w=>?_
 unfold rh at h
 refine sr<|lbx J fun t=>art 8 [] J ?_
 refine lin (σ:=Int) (fun s=>[(1,pQ t),(3,iV s)]) (fun s=>St w0 c [(t,.cells #[.string b.Name,f] 26 (0,0))] []) (fun m s=>fU N b m s=some r) (0) N h (sx [] [0]) (fun A B s hm=>?_)
 revert hm;revert s;intro s1 hm
 have h:fU N b (A+1) s1=some r:=hm
 show WT _ _ [(1,pQ t),(3,iV s1)] (St w0 c [(t,.cells #[.string b.Name,f] 26 (0,0))] [])
 unfold fU at h
 refine atr 6 [1,0] J<|lnr p J<|la J<|en ?_
 refine ch h J ?_ ?_ <;> intro h
 ·refine att 4 [] J<|WT.draw mixed MA (fun _ h=>h.drew)<|aqq 3 [1,0] J ?_
  obtain⟨u,x,h⟩:=bs h
  obtain⟨M,O,-,g1,P,Q,C⟩:=p.el (aa x).2.2
  obtain⟨v1,R,v2,S,v3,T,rfl,rfl,h1,D,E⟩:=C
  refine qq (ae si J J p x) J<|qq (aC o7 J (fun v hw=>(g1.of_eq 0 5 J J:rg _ _ _ [.string u.Name,iV u.Sal,v1,v2,v3]).rangeAt hw.in0) J) J ?_
  obtain⟨U,F,h⟩:=bs h
  refine qp (cK Jn J (fun v hw=>yI N (ba hw.in0) u h1 D E F)) J<|aqq 2 [] J ?_
  obtain⟨G,i,h⟩:=bs h
  refine WQ.cutN 11 [(29,.bool G),(1,pQ t),(3,iV s1)] ?_ (fun K=>?_)
  rotate_left
  ·refine WQ.split (d:=18) J (fun c2=>?_) (fun c2=>?_)
   ·replace i:=fR i c2
    refine aqq 11 [] J ?_
    cases i
    exact kq K
   ·replace i:=fO i c2
    refine aqq 4 [2,1,0] J<|WQ.yes J J ?_
    obtain⟨y,z,i⟩:=bs i
    obtain⟨V,W,-,g2,X,Y,H⟩:=p.el (aa z).2.2
    obtain⟨v4,Z,v5,G5,v6,G6,rfl,rfl,h4,h5,h6⟩:=H
    refine qq (ae si J J p z) J<|WQ.yes J J<|qq (ak xe J) J<|WQ.yes J J<|qq (az Lb J (fun v hw=>(g2.of_eq 0 1 J J:rg _ _ _ [.string y.Name]).rangeAt hw.in0)) J<|WQ.yes J J ?_
    obtain⟨x4,I,i⟩:=bs i
    refine qp (cK Kh J (fun v hw=>yR N (ba hw.in0) b y.Name p I)) J<|aqq 3 [] J ?_
    cases i
    exact kq K
  refine WQ.nil ?_
  refine ch h J ?_ ?_ <;> intro h
  ·refine att 4 [] J ?_
   exact rt w h
  refine att 7 [] J ?_
  exact lb [] [0] (B _ h)
 refine atr 5 [0,0] J<|qc h (gl N · b.Name ·) J J J fun x5 h=>la J ?_
 obtain⟨L,q,h⟩:=bs h
 refine WL.cutN 5 [(38,.bool L)] ?_ (fun K=>?_)
 rotate_left
 ·refine sp 33 q J (fun q=>?_) fun q=>?_
  ·refine arr 2 [1,0] J<|ly J J<|lnr p J<|ly J J<|qc q (cI N · (b.Rules.length:Int) 1 12 ·) J J J fun x6 q=>la J ?_
   cases q
   exact ku K
  ·refine arr 5 [] J ?_
   cases q
   exact ku K
 refine la J<|en ?_
 exact rt w h
theorem yZ (w0:av a c []) (b:(List bi)) (d:RSl aX 3 a a1 e b) {r:Bool} (h:rM N b=some r) :
  CB w0 prog 107 [e] (.bool r):=by
 refine eN func107 J ntmps107 J w0 fun i=>?_
 unfold rM at h
 refine att 10 [] J ?_
 refine lin (σ:=Int) (fun s=>[(0,e),(3,iV s)]) (fun s=>St w0 c [] []) (fun m s=>eM N b m s=some r) (0) N h (sx [] []) (fun q t s hm=>?_)
 revert hm;revert s;intro s1 hm
 have h:eM N b (q+1) s1=some r:=hm
 show WT _ _ [(0,e),(3,iV s1)] (St w0 c [] [])
 unfold eM at h
 refine atr 5 [] J<|lnr d J<|la J<|en ?_
 refine ch h J ?_ ?_ <;> intro h
 ·refine atr 7 [] J ?_
  obtain⟨u,p,h⟩:=bs h
  obtain⟨w,x,-,g1,y,z,v⟩:=d.el (aa p).2.2
  obtain⟨rfl,-⟩:=v
  refine lia d p J<|lhx 0 3 g1 J<|qc h (vh N · u ·) J J J fun A h=>la J<|en ?_
  refine ch h J ?_ ?_ <;> intro h
  ·refine att 4 [] J ?_
   exact rt i h
  refine att 7 [] J ?_
  exact lb [] [] (t _ h)
 refine atr 4 [] J<|lnr d J<|art 3 [] J ?_
 exact rt i h
theorem za (w0:av a c []) (d:aH) (i:RSl aX 3 a o f d.Fields) {r:Bool} (h:po N d=some r) :
  CB w0 prog 47 [.agg [.string d.Kind,f].toArray] (.bool r):=by
 refine eN func47 J ntmps47 J w0 fun m=>?_
 unfold po at h
 refine sr<|lbx J fun q=>arr 6 [0,0] J<|qc h (gl N · d.Kind ·) J J J fun s h=>la J ?_
 obtain⟨p,b,h⟩:=bs h
 refine WL.cutN 4 [(10,.bool p),(2,.bool false)] ?_ (fun K=>?_)
 rotate_left
 ·refine sp 6 b J (fun b=>?_) fun b=>?_
  ·refine arr 2 [1,0] J<|ly J J<|qd b (yZ N · d.Fields i ·) J J J fun t b=>la J ?_
   cases b
   exact ku K
  ·refine arr 4 [] J ?_
   cases b
   exact ku K
 refine la J<|en ?_
 exact rt m h
theorem xk (w0:av a c []) (i:ag) (u:RSl bj 3 a o f i.Items) {r:Bool} (h:nj N i=some r) :
  CB w0 prog 12 [.agg [f,iV i.Next].toArray] (.bool r):=by
 refine eN func12 J ntmps12 J w0 fun z=>?_
 unfold nj at h
 refine sr<|lbx J fun b=>arr 7 [1,0] J<|qc h (cI N · i.Next 1 1000000 ·) J J J fun x1 h=>arr 2 [] J ?_
 obtain⟨L,x,h⟩:=bs h
 refine WL.cutN 5 [(14,.bool L),(1,pQ b)] ?_ (fun K=>?_)
 rotate_left
 ·refine sp 9 x J (fun x=>?_) fun x=>?_
  ·refine arr 5 [] J ?_
   cases x
   exact ku K
  ·refine arr 2 [0,0] J<|ly J J<|lnr u J<|arr 2 [] J ?_
   cases x
   exact ku K
 refine en ?_
 refine ch h J ?_ ?_ <;> intro h
 ·refine att 4 [] J ?_
  exact rt z h
 refine att 7 [] J ?_
 refine lin (σ:=Int) (fun s=>[(1,pQ b),(3,iV s)]) (fun s=>St w0 c [(b,.cells #[f,iV i.Next] 29 (0,0))] []) (fun m s=>gA N i m s=some r) (0) N h (sx [] [0]) (fun M O s hm=>?_)
 revert hm;revert s;intro s1 hm
 have h:gA N i (M+1) s1=some r:=hm
 show WT _ _ [(1,pQ b),(3,iV s1)] (St w0 c [(b,.cells #[f,iV i.Next] 29 (0,0))] [])
 unfold gA at h
 refine atr 6 [0,0] J<|lnr u J<|la J<|en ?_
 refine ch h J ?_ ?_ <;> intro h
 ·refine atr 8 [0,0] J ?_
  obtain⟨F,G,h⟩:=bs h
  obtain⟨a8,F1,-,g1,ab,af,P⟩:=u.el (aa G).2.2
  obtain⟨v1,G1,rfl,Q,h1⟩:=P
  obtain rfl:=Q.symm
  refine lia u G J<|lhx 0 3 g1 J<|lnz tN J fun y=>soN 0 zL J ⟨J,J,h1.one,trivial⟩ J ?_
  refine en<|sq<|WT.draw mixed MA (fun _ h=>h.drew)<|aqq 2 [1,2] J ?_
  obtain⟨x3,R,h⟩:=bs h
  refine qp (cK Jh J (fun H hw=>za N (ba hw.in0) F.F h1 R)) J<|aqq 2 [] J ?_
  obtain⟨S,v,h⟩:=bs h
  refine WQ.cutN 4 [(35,.bool S),(1,pQ b),(3,iV s1),(4,pQ y)] ?_ (fun K=>?_)
  rotate_left
  ·refine WQ.split (d:=31) J (fun A=>?_) (fun A=>?_)
   ·replace v:=fR v A
    refine aqq 4 [] J ?_
    cases v
    exact kq K
   ·replace v:=fO v A
    refine aqq 4 [0,0] J ?_
    cases v
    exact kq K
  refine qq (de J) J ?_
  obtain⟨T,w,h⟩:=bs h
  refine WQ.cutN 6 [(42,.bool T),(1,pQ b),(3,iV s1),(4,pQ y)] ?_ (fun K=>?_)
  rotate_left
  ·refine WQ.split (d:=36) J (fun B=>?_) (fun B=>?_)
   ·replace w:=fR w B
    refine aqq 6 [] J ?_
    cases w
    exact kq K
   ·replace w:=fO w B
    refine aqq 6 [0,0,1,32] J ?_
    cases w
    exact kq K
  refine qq (de J) J ?_
  obtain⟨U,p,h⟩:=bs h
  refine WQ.cutN 15 [(58,.bool U),(1,pQ b),(3,iV s1),(4,pQ y)] ?_ (fun K=>?_)
  rotate_left
  ·refine WQ.split (d:=43) J (fun C=>?_) (fun C=>?_)
   ·replace p:=fR p C
    refine aqq 15 [] J ?_
    cases p
    exact kq K
   ·replace p:=fO p C
    refine aqq 3 [] J ?_
    obtain⟨V,q,p⟩:=bs p
    refine WQ.cutN 11 [(57,.bool V),(1,pQ b),(3,iV s1),(4,pQ y),(43,.bool false)] ?_ (fun K=>?_)
    rotate_left
    ·refine WQ.split (d:=46) J (fun D=>?_) (fun D=>?_)
     ·replace q:=fR q D
      refine aqq 4 [0,32] J<|WQ.yes J J ?_
      obtain⟨W,I,q⟩:=bs q
      obtain⟨ah,F2,-,g2,ai,aj,X⟩:=u.el (aa I).2.2
      obtain⟨v2,G2,rfl,Y,h2⟩:=X
      obtain rfl:=Y.symm
      refine qq (ae lL J J u I) J<|WQ.yes J J<|qq (ak sZ J) J<|WQ.yes J J<|qq (az rd J (fun H hw=>(g2.of_eq 0 1 J J:rg _ _ _ [iV W.Id]).rangeAt hw.in0)) J<|aqq 4 [0,0] J ?_
      cases q
      exact kq K
     ·replace q:=fO q D
      refine aqq 11 [] J ?_
      cases q
      exact kq K
    refine WQ.q (qh J J) J J J ?_
    cases p
    exact kq K
  refine qq (de J) J ?_
  obtain⟨Z,t,h⟩:=bs h
  refine WQ.cutN 8 [(67,.bool Z),(1,pQ b),(3,iV s1)] ?_ (fun K=>?_)
  rotate_left
  ·refine WQ.split (d:=59) J (fun E=>?_) (fun E=>?_)
   ·replace t:=fR t E
    refine aqq 8 [] J ?_
    cases t
    exact kq K
   ·replace t:=fO t E
    refine aqq 3 [34,1,2] J<|WQ.yes J J ?_
    obtain⟨x5,a7,t⟩:=bs t
    refine qp (cK FT J (fun H hw=>sH N (ba hw.in0) i F.F u h1 a7)) J<|aqq 4 [0,0] J ?_
    cases t
    exact kq K
  refine WQ.nil ?_
  refine ch h J ?_ ?_ <;> intro h
  ·refine att 4 [] J ?_
   exact rt z h
  refine att 7 [] J ?_
  exact lb [] [1] (O _ h)
 refine att 5 [] J ?_
 exact rt z h
theorem AR (w0:av a c []) (p:bo) (t:bO) (d:ag) (ai:RSl cr 5 a o f p.Rules) (M:RSl cz 4 a ad j t.Alphas) (O:RSl fC 2 a a6 g t.Chains) (x:RSl bj 3 a c0 n d.Items) {r:aI} (h:td N p t d=some r) :
  Calls prog 79 [.agg [.string p.Name,f].toArray,.agg [j,g].toArray,.agg [n,iV d.Next].toArray].toArray w0.w (be c w0.w [] (fun P Fs v=>∃ (B:Value) (Q:List Nat) (D:Value) (S:List Nat),v = .agg [B,D].toArray∧Fs=[ob B,Q,ob D,S]∧OSl bk 133 1 P Q B r.Alphas∧OSl bc 100 1 P S D r.Rules)):=by
 refine eN func79 J ntmps79 J w0 fun hF=>?_
 unfold td at h
 refine sr<|lbx J fun E=>lbx J fun F=>lbx J fun G=>lnz lJ J fun H=>arr 4 [66] J<|kab h J J J (fun b z q=>tK N b t (M.y z) (O.y z) q) ?_
 rintro T h v1 aj F1 ⟨ao,aq,v2,D1,v3,D2,rfl,rfl,h1,U⟩
 refine lnz lJ J fun V=>soN 0 mj J ⟨h1.one,U.one,trivial⟩ J ?_
 refine art 7 [] J ?_
 refine lin (σ:=Hp × (List bm) × Value × List Nat × (List aP) × Value × List Nat × Int) (fun s=>[(3,pQ E),(4,pQ F),(5,pQ G),(6,pQ H),(7,pQ V),(8,iV s.2.2.2.2.2.2.2)]) (fun s=>St w0 s.1 [(V,.cells #[s.2.2.1,s.2.2.2.2.2.1] 35 (0,0)),(H,.cells #[.slice none 0 0,.slice none 0 0] 35 (0,0)),(G,.cells #[n,iV d.Next] 29 (0,0)),(F,.cells #[j,g] 47 (0,0)),(E,.cells #[.string p.Name,f] 26 (0,0))] [ob s.2.2.1,s.2.2.2.1,ob s.2.2.2.2.2.1,s.2.2.2.2.2.2.1]) (fun m s=>hU N p t d m s.2.1 s.2.2.2.2.1 s.2.2.2.2.2.2.2=some r∧(OSl bk 133 1 s.1 s.2.2.2.1 s.2.2.1 s.2.1)∧(OSl bc 100 1 s.1 s.2.2.2.2.2.2.1 s.2.2.2.2.2.1 s.2.2.2.2.1)) (aj,T.Alphas,v2,D1,T.Rules,v3,D2,0) N ⟨h,h1,U⟩ (sx [0,0,0,0] [0,0,0,0,0]) (fun n1 ak s hm=>?_)
 obtain⟨au,s1,W,D3,s2,X,D4,y⟩:=s
 obtain⟨h,u,w⟩:=hm
 dsimp only at h u w ⊢
 unfold hU at h
 refine atr 6 [0,64] J<|lnr x J<|la J<|en ?_
 refine ch h J ?_ ?_ <;> intro h
 ·refine att 3 [] J<|wm [0,1,2,3,4] [16] J<|amm 6 [0,130,1,98,2,0,3,64,4,5] [0,1,2,3,4] J J ?_
  obtain⟨x2,Y,h⟩:=bs h
  refine mqT 6 [9,16] J MA (kN [0,1,2,3,4]) (zt lL J J x Y) J ?_
  obtain⟨F2,Z,aw⟩:=x.sub Y
  refine amm 2 [7,1,8,64] [0,1,2,3,4] J J<|mq 9 J MA (kN [0,1,2,3,4]) (aU (vs:=[(0,(slc n (0:Int).toNat (wz (y+1)).toNat 3)),(1,iV d.Next)]) (C:=#[(slc n (0:Int).toNat (wz (y+1)).toNat 3),iV d.Next]) Dp sF J (a7 (C':=[(slc n (0:Int).toNat (wz (y+1)).toNat 3),iV 0]) J (bh Z.one) J J J (a7 (C':=[(slc n (0:Int).toNat (wz (y+1)).toNat 3),iV d.Next]) J J J J J (ab)))) J<|amm 3 [10,0,11,64,12] [0,1,2,3,4] J J ?_
  obtain⟨x3,a8,h⟩:=bs h
  obtain⟨ax,F3,-,g1,ay,aB,r1⟩:=x.el (aa a8).2.2
  obtain⟨v4,G1,rfl,al,h4⟩:=r1
  obtain rfl:=al.symm
  refine mqT 13 [14,15,16] J MA (kN [0,1,2,3,4]) (ae lL J J x a8) J<|amm 1 [14,0] [0,1,2,3,4] J J<|mq 15 J MA (kN [0,1,2,3,4]) (az rd J (fun I hw=>(g1.of_eq 0 1 J J:rg _ _ _ [iV x3.Id]).rangeAt hw.1)) J ?_
  refine WM.frz (js:=[0]) (R:=[(H,.cells #[.slice none 0 0,.slice none 0 0] 35 (0,0)),(G,.cells #[n,iV d.Next] 29 (0,0)),(F,.cells #[j,g] 47 (0,0)),(E,.cells #[.string p.Name,f] 26 (0,0))]) J (fun aC af k3=>?_)
  replace u:=u.f0 af
  replace w:=w.f0 af
  obtain⟨x4,an,h⟩:=bs h
  refine WM.one 16 MA (mc J (fun hc=>by cases hc) (bt (js:=[0,0,0,0,0]) (R:=[]) HI J J (fun I hw ap hl=>tT N (bx hw ap hl) p t (⟨s1,s2⟩:aI) (⟨x2,d.Next⟩:ag) x3.Id (ai.y (hw.uo ap)) (M.y (hw.uo ap)) (O.y (hw.uo ap)) u w k3 (Z.y (hw.uo ap))  an)) J ?_)
  rintro v5 aD F4 ⟨aF,aG,v6,D5,v7,D6,rfl,rfl,K,L,h7⟩
  refine WM.nil MA<|att 6 [] J ?_
  refine WT.thw (js:=[0]) (R:=[ob v6,D5,ob v7,D6]) J h7 (fun aH A ah=>?_)
  replace K:=K.fr ah (A.q 0 J) (A.q 1 J)
  replace L:=L.fr ah (A.q 2 J) (A.q 3 J)
  exact lb [0,0,0,0] [0,0,0,0,0] (ak (_,_,_,_,_,_,_,_) ⟨h,K,L⟩)
 refine atr 4 [2] J<|soN 1 mj J ⟨u.one,w.one,trivial⟩ J ?_
 refine en ?_
 exact rtg [0,0,0,0] hF (aA.one (aZ vr J (fun I hw=>hw.rgO (i:=1) J 0 2 [W,X] J) J)) J (by cases h;exact fun I hw=>⟨W,D3,X,D4,rfl,rfl,u,w⟩)
theorem xd (w0:av a c []) (q:(List ah)) (b:Int) (d:Int) (p:RSl cL 2 a a1 e q) {r:Bool} (h:nL N q b d=some r) :
  CB w0 prog 147 [e,iV b,iV d] (.bool r):=by
 refine eN func147 J ntmps147 J w0 fun t=>?_
 unfold nL at h
 refine att 10 [] J ?_
 refine lin (σ:=Int) (fun s=>[(0,e),(1,iV b),(2,iV d),(7,iV s)]) (fun s=>St w0 c [] []) (fun m s=>fw N q b d m s=some r) (0) N h (sx [] []) (fun w x s hm=>?_)
 revert hm;revert s;intro s1 hm
 have h:fw N q b d (w+1) s1=some r:=hm
 show WT _ _ [(0,e),(1,iV b),(2,iV d),(7,iV s1)] (St w0 c [] [])
 unfold fw at h
 refine atr 5 [] J<|lnr p J<|la J<|en ?_
 refine ch h J ?_ ?_ <;> intro h
 ·refine atr 7 [] J ?_
  obtain⟨C,u,h⟩:=bs h
  obtain⟨D,E,-,g1,F,G,y⟩:=p.el (aa u).2.2
  obtain⟨v1,H,v2,I,rfl,rfl,h1,L⟩:=y
  refine lia p u J<|lf oD J J J<|lhx 0 0 g1 J<|lnr h1 J<|arr 3 [] J ?_
  obtain⟨z,i,h⟩:=bs h
  refine WL.cutN 9 [(31,.bool z),(0,e),(1,iV b),(2,iV d),(7,iV s1)] ?_ (fun K=>?_)
  rotate_left
  ·refine sp 22 i J (fun i=>?_) fun i=>?_
   ·refine arr 9 [] J ?_
    cases i
    exact ku K
   ·refine arr 2 [] J<|ly J J ?_
    obtain⟨M,v,i⟩:=bs i
    obtain⟨O,P,-,g2,Q,R,A⟩:=p.el (aa v).2.2
    obtain⟨v3,S,v4,T,rfl,rfl,U,B⟩:=A
    refine lia p v J<|ly J J<|lf oH J J J<|ly J J<|lhx 1 0 g2 J<|ly J J<|lnr B J<|arr 3 [] J ?_
    cases i
    exact ku K
  refine en ?_
  refine ch h J ?_ ?_ <;> intro h
  ·refine att 4 [] J ?_
   exact rt t h
  refine att 7 [] J ?_
  exact lb [] [] (x _ h)
 refine att 5 [] J ?_
 exact rt t h
theorem wC (w0:av a c []) (d:bO) (b:aI) (G:RSl cz 4 a o f d.Alphas) (u:RSl fC 2 a ar l d.Chains) (H:RSl iv 1 a ad j b.Alphas) (t:RSl lw 1 a a6 g b.Rules) {r:Bool} (h:m9 N d b=some r) :
  CB w0 prog 80 [.agg [f,l].toArray,.agg [j,g].toArray] (.bool r):=by
 refine eN func80 J ntmps80 J w0 fun x=>?_
 unfold m9 at h
 refine sr<|lbx J fun i=>lbx J fun p=>arr 7 [0,0] J<|lnr H J<|arr 2 [0,32] J<|lnr G J<|arr 2 [] J ?_
 obtain⟨I,v,h⟩:=bs h
 refine WL.cutN 8 [(24,.bool I),(2,pQ i),(3,pQ p)] ?_ (fun K=>?_)
 rotate_left
 ·refine sp 16 v J (fun v=>?_) fun v=>?_
  ·refine arr 8 [] J ?_
   cases v
   exact ku K
  ·refine arr 2 [1,0] J<|ly J J<|lnr t J<|arr 2 [1,32] J<|ly J J<|lnr u J<|arr 2 [] J ?_
   cases v
   exact ku K
 refine en ?_
 refine ch h J ?_ ?_ <;> intro h
 ·refine att 4 [] J ?_
  exact rt x h
 refine att 7 [] J ?_
 refine lin (σ:=Int) (fun s=>[(2,pQ i),(3,pQ p),(5,iV s)]) (fun s=>St w0 c [(p,.cells #[j,g] 35 (0,0)),(i,.cells #[f,l] 47 (0,0))] []) (fun m s=>bP N d b m s=some r) (0) N h (sx [] [0,0]) (fun w L s hm=>?_)
 revert hm;revert s;intro s1 hm
 have h:bP N d b (w+1) s1=some r:=hm
 show WT _ _ [(2,pQ i),(3,pQ p),(5,iV s1)] (St w0 c [(p,.cells #[j,g] 35 (0,0)),(i,.cells #[f,l] 47 (0,0))] [])
 unfold bP at h
 refine atr 6 [1,0] J<|lnr t J<|la J<|en ?_
 refine ch h J ?_ ?_ <;> intro h
 ·refine atr 8 [1,32] J ?_
  obtain⟨q,A,h⟩:=bs h
  obtain⟨a7,F1,-,g1,a8,ab,M⟩:=u.el (aa A).2.2
  obtain⟨v1,G1,v2,G2,rfl,rfl,h1,h2⟩:=M
  refine lia u A J<|lf tt J J J<|lhx 0 0 g1 J<|lnr h1 J<|arr 8 [1,0] J ?_
  obtain⟨x2,B,h⟩:=bs h
  obtain⟨ae,F2,-,g2,af,ag,O⟩:=t.el (aa B).2.2
  obtain⟨v3,G3,rfl,P,Q⟩:=O
  obtain rfl:=P.symm
  refine lia t B J<|lf fD J J J<|lhx 0 0 g2 J<|lnr Q J<|art 3 [] J ?_
  refine ch h J ?_ ?_ <;> intro h
  ·refine att 4 [] J ?_
   exact rt x h
  refine att 6 [] J ?_
  refine lin (σ:=Int) (fun s=>[(2,pQ i),(3,pQ p),(5,iV s1),(6,iV (q.Pos.length:Int)),(7,iV s)]) (fun s=>St w0 c [(p,.cells #[j,g] 35 (0,0)),(i,.cells #[f,l] 47 (0,0))] []) (fun m s=>cp N d b s1 (bP N d b w) q m s=some r) (0) N h (sx [] [0,0]) (fun y R s hm=>?_)
  revert hm;revert s;intro s2 hm
  have h:cp N d b s1 (bP N d b w) q (y+1) s2=some r:=hm
  show WT _ _ [(2,pQ i),(3,pQ p),(5,iV s1),(6,iV (q.Pos.length:Int)),(7,iV s2)] (St w0 c [(p,.cells #[j,g] 35 (0,0)),(i,.cells #[f,l] 47 (0,0))] [])
  unfold cp at h
  refine att 7 [] J ?_
  refine ch h J ?_ ?_ <;> intro h
  ·refine att 15 [] J ?_
   refine cut (σ:=Int) (fun s=>[(2,pQ i),(3,pQ p),(5,iV s1),(6,iV (q.Pos.length:Int)),(7,iV s2),(8,iV s)]) (fun s=>St w0 c [(p,.cells #[j,g] 35 (0,0)),(i,.cells #[f,l] 47 (0,0))] []) (fun s=>fG N b s1 s2 (cp N d b s1 (bP N d b w) q y) s=some r) (fun s hm=>?_) (fun K=>?_)
   ·clear h
    revert hm;revert s;intro z hm
    have h:fG N b s1 s2 (cp N d b s1 (bP N d b w) q y) z=some r:=hm
    show WT _ _ [(2,pQ i),(3,pQ p),(5,iV s1),(6,iV (q.Pos.length:Int)),(7,iV s2),(8,iV z)] (St w0 c [(p,.cells #[j,g] 35 (0,0)),(i,.cells #[f,l] 47 (0,0))] [])
    unfold fG at h
    refine atr 5 [1,0] J ?_
    obtain⟨x3,C,h⟩:=bs h
    obtain⟨ah,F3,-,g3,ai,aj,S⟩:=t.el (aa C).2.2
    obtain⟨v4,G4,rfl,T,D⟩:=S
    obtain rfl:=T.symm
    refine lia t C J<|lf fD J J J<|lhx 0 0 g3 J<|la J ?_
    obtain⟨U,E,h⟩:=bs h
    obtain⟨ak,F4,-,g4,al,an,V⟩:=D.el (aa E).2.2
    obtain⟨v5,G5,rfl,W,X⟩:=V
    obtain rfl:=W.symm
    refine lia D E J<|lf dR J J J<|lhx 0 0 g4 J<|arr 3 [] J<|qd h (xd N · U.Toks (wz (s2+1)) z X ·) J J J fun x5 h=>la J<|en ?_
    refine ch h J ?_ ?_ <;> intro h
    ·refine att 4 [] J ?_
     exact rt x h
    refine att 7 [] J ?_
    exact lb [] [0,0] (R _ h)
   refine ch h J ?_ ?_ <;> intro h
   ·refine atr 4 [1,32] J ?_
    obtain⟨x6,F,h⟩:=bs h
    obtain⟨ao,F5,-,g5,aq,au,Y⟩:=u.el (aa F).2.2
    obtain⟨v6,G6,v7,G7,rfl,rfl,h6,Z⟩:=Y
    refine lia u F J<|lf vz J J J<|lhx 1 0 g5 J<|lnr Z J<|la J<|en ?_
    exact wo [] [0,0] (K _ h)
   refine WT.skip ?_
   exact wo [] [0,0] (K _ h)
  refine att 7 [] J ?_
  exact lb [] [0,0] (L _ h)
 refine att 5 [] J ?_
 exact rt x h
theorem tJ (w0:av a c []) (t:(List ah)) (i:ah) (p:RSl cL 2 a a1 e t) (y:RSl (RI .i64) 1 a ad j i.Ids) (z:RSl (RI .i64) 1 a a6 g i.Hits) {r:Bool} (h:mD N t i=some r) :
  CB w0 prog 148 [e,.agg [j,g].toArray] (.bool r):=by
 refine eN func148 J ntmps148 J w0 fun v=>?_
 unfold mD at h
 refine sr<|lbx J fun q=>art 8 [] J ?_
 refine lin (σ:=Int) (fun s=>[(0,e),(3,pQ q),(5,iV s)]) (fun s=>St w0 c [(q,.cells #[j,g] 105 (0,0))] []) (fun m s=>ga N t i m s=some r) (0) N h (sx [] [0]) (fun A B s hm=>?_)
 revert hm;revert s;intro s1 hm
 have h:ga N t i (A+1) s1=some r:=hm
 show WT _ _ [(0,e),(3,pQ q),(5,iV s1)] (St w0 c [(q,.cells #[j,g] 105 (0,0))] [])
 unfold ga at h
 refine atr 5 [] J<|lnr p J<|la J<|en ?_
 refine ch h J ?_ ?_ <;> intro h
 ·refine att 4 [] J<|WT.draw mixed MA (fun _ h=>h.drew)<|aqq 2 [] J ?_
  obtain⟨C,w,h⟩:=bs h
  obtain⟨M,O,-,g1,P,Q,D⟩:=p.el (aa w).2.2
  obtain⟨v1,R,v2,S,rfl,rfl,h1,T⟩:=D
  refine qq (ae ci J J p w) J<|qq (ak oD J) J<|qq (az lz J (fun u hw=>(g1.of_eq 0 1 J J:rg _ _ _ [v1]).rangeAt hw.in0)) J<|aqq 2 [0,0] J ?_
  obtain⟨U,E,h⟩:=bs h
  refine qp (cK CT J (fun u hw=>mh N (ba hw.in0) C.Ids i.Ids h1 y E)) J<|qq (de J) J ?_
  obtain⟨F,b,h⟩:=bs h
  refine WQ.cutN 9 [(29,.bool F),(0,e),(3,pQ q),(5,iV s1)] ?_ (fun K=>?_)
  rotate_left
  ·refine WQ.split (d:=20) J (fun c2=>?_) (fun c2=>?_)
   ·replace b:=fR b c2
    refine aqq 2 [] J<|WQ.yes J J ?_
    obtain⟨G,x,b⟩:=bs b
    obtain⟨V,W,-,g2,X,Y,H⟩:=p.el (aa x).2.2
    obtain⟨v3,Z,v4,G4,rfl,rfl,h3,I⟩:=H
    refine qq (ae ci J J p x) J<|WQ.yes J J<|qq (ak oH J) J<|WQ.yes J J<|qq (az lz J (fun u hw=>(g2.of_eq 1 1 J J:rg _ _ _ [v4]).rangeAt hw.in0)) J<|aqq 2 [1,0] J<|WQ.yes J J ?_
    obtain⟨x4,L,b⟩:=bs b
    refine qp (cK CT J (fun u hw=>mh N (ba hw.in0) G.Hits i.Hits I z L)) J<|WQ.q (m3 J J) J J J ?_
    cases b
    exact kq K
   ·replace b:=fO b c2
    refine aqq 9 [] J ?_
    cases b
    exact kq K
  refine WQ.nil ?_
  refine ch h J ?_ ?_ <;> intro h
  ·refine att 4 [] J ?_
   exact rt v h
  refine att 7 [] J ?_
  exact lb [] [0] (B _ h)
 refine att 5 [] J ?_
 exact rt v h
theorem wG (w0:av a c []) (d:(List ah)) (i:(List ah)) (p:RSl cL 2 a a1 e d) (q:RSl cL 2 a aE k i) {r:Bool} (h:lW N d i=some r) :
  CB w0 prog 82 [e,k] (.bool r):=by
 refine eN func82 J ntmps82 J w0 fun t=>?_
 unfold lW at h
 refine atr 8 [] J<|lnr p J<|la J<|lnr q J<|la J<|en ?_
 refine ch h J ?_ ?_ <;> intro h
 ·refine att 4 [] J ?_
  exact rt t h
 refine att 7 [] J ?_
 refine lin (σ:=Int) (fun s=>[(0,e),(1,k),(5,iV s)]) (fun s=>St w0 c [] []) (fun m s=>eA N d i m s=some r) (0) N h (sx [] []) (fun w x s hm=>?_)
 revert hm;revert s;intro s1 hm
 have h:eA N d i (w+1) s1=some r:=hm
 show WT _ _ [(0,e),(1,k),(5,iV s1)] (St w0 c [] [])
 unfold eA at h
 refine atr 5 [] J<|lnr p J<|la J<|en ?_
 refine ch h J ?_ ?_ <;> intro h
 ·refine atr 8 [] J ?_
  obtain⟨y,u,h⟩:=bs h
  obtain⟨G,H,-,g1,I,L,z⟩:=p.el (aa u).2.2
  obtain⟨v1,M,v2,O,rfl,rfl,h1,A⟩:=z
  refine lia p u J<|lhx 0 2 g1 J<|qd h (tJ N · i y q h1 A ·) J J J fun P h=>arr 2 [] J ?_
  obtain⟨B,b,h⟩:=bs h
  refine WL.cutN 8 [(32,.bool B),(0,e),(1,k),(5,iV s1)] ?_ (fun K=>?_)
  rotate_left
  ·refine sp 24 b J (fun b=>?_) fun b=>?_
   ·refine arr 8 [] J ?_
    cases b
    exact ku K
   ·refine arr 3 [] J<|ly J J ?_
    obtain⟨C,v,b⟩:=bs b
    obtain⟨Q,R,-,g2,S,T,D⟩:=q.el (aa v).2.2
    obtain⟨v3,U,v4,V,rfl,rfl,E,F⟩:=D
    refine lia q v J<|ly J J<|lhx 0 2 g2 J<|ly J J<|qd b (tJ N · d C p E F ·) J J J fun W b=>arr 2 [] J ?_
    cases b
    exact ku K
  refine en ?_
  refine ch h J ?_ ?_ <;> intro h
  ·refine att 4 [] J ?_
   exact rt t h
  refine att 7 [] J ?_
  exact lb [] [] (x _ h)
 refine att 5 [] J ?_
 exact rt t h
theorem wy (w0:av a c []) (w:bo) (i:aI) (C:ag) (H:RSl cr 5 a o f w.Rules) (F:RSl iv 1 a ad j i.Alphas) (x:RSl lw 1 a a6 g i.Rules) (O:RSl bj 3 a c0 n C.Items) {r:Bool} (h:lN N w i C=some r) :
  CB w0 prog 31 [.agg [.string w.Name,f].toArray,.agg [j,g].toArray,.agg [n,iV C.Next].toArray] (.bool r):=by
 refine eN func31 J ntmps31 J w0 fun D=>?_
 unfold lN at h
 refine sr<|lbx J fun a8=>lbx J fun d=>lbx J fun ab=>arr 6 [66] J<|qd h (Am N · w H ·) J J J fun x1 h=>arr 2 [] J ?_
 obtain⟨b1,u,h⟩:=bs h
 refine WL.cutN 4 [(19,.bool b1),(3,pQ a8),(4,pQ d),(5,pQ ab)] ?_ (fun K=>?_)
 rotate_left
 ·refine sp 15 u J (fun u=>?_) fun u=>?_
  ·refine arr 4 [] J ?_
   cases u
   exact ku K
  ·refine ly J J<|ld2 rm 0 J<|ly J J<|qd u (xk N · C O ·) J J J fun x2 u=>arr 2 [] J ?_
   cases u
   exact ku K
 refine en ?_
 refine ch h J ?_ ?_ <;> intro h
 ·refine att 4 [] J ?_
  exact rt D h
 refine atr 4 [66] J<|kab h J J J (fun b z q=>tW N b w (H.y z) q) ?_
 rintro P h v1 aF F1 ⟨aG,aH,v2,D1,v3,D2,X1,rfl,rfl,h1,i1,E⟩
 refine lnz tH J fun aJ=>soN 0 wi J ⟨h1.one,E.one,trivial⟩ J ?_
 refine arr 6 [98,2,34] J<|kab h J J J (fun b z q=>AR N b w P C (H.y z) h1.rsl (E.rslG bC.gives) (O.y z) q) ?_
 rintro t h v4 y F2 ⟨G,Q,v5,A,v6,B,rfl,rfl,I,L⟩
 replace h1:=h1.fr Q (G.q 0 J) (Dj.sub (G.q 3 J) i1)
 replace E:=E.fr Q (G.q 1 J) (G.q 2 J)
 refine lnz lJ J fun p=>soN 0 mj J ⟨I.one,L.one,trivial⟩ J ?_
 refine arr 6 [34,98] J<|qz h (fun b z q=>wC N b P i h1.rsl (E.rslG bC.gives) (F.y z) (x.y z) q) J J J fun x6 h=>la J<|en ?_
 refine ch h J ?_ ?_ <;> intro h
 ·refine att 4 [] J ?_
  exact rt D h
 refine att 7 [] J ?_
 refine lin (σ:=Int) (fun s=>[(4,pQ d),(8,pQ p),(9,iV s)]) (fun s=>St w0 y [(p,.cells #[v5,v6] 35 (0,0)),(d,.cells #[j,g] 35 (0,0))] [ob v5,A,ob v6,B]) (fun m s=>dC N i t m s=some r) (0) N h (sx [0,0,0,0] [0,2]) (fun n1 af s hm=>?_)
 revert hm;revert s;intro s1 hm
 have h:dC N i t (n1+1) s1=some r:=hm
 show WT _ _ [(4,pQ d),(8,pQ p),(9,iV s1)] (St w0 y [(p,.cells #[v5,v6] 35 (0,0)),(d,.cells #[j,g] 35 (0,0))] [ob v5,A,ob v6,B])
 unfold dC at h
 refine atr 6 [0,32] J<|lnr F J<|la J<|en ?_
 refine ch h J ?_ ?_ <;> intro h
 ·refine att 4 [] J<|WT.draw mixed MA (fun _ h=>h.drew)<|aqq 3 [0,32] J ?_
  obtain⟨x7,R,h⟩:=bs h
  obtain⟨aK,F3,-,g1,aL,aM,r1⟩:=F.el (aa R).2.2
  obtain⟨v7,G1,rfl,ah,h5⟩:=r1
  obtain rfl:=ah.symm
  refine qq (ae oc J J F R) J<|qq (ak gw J) J<|qq (az lz J (fun v hw=>(g1.of_eq 0 1 J J:rg _ _ _ [v7]).rangeAt hw.in0)) J<|aqq 3 [0,0] J ?_
  obtain⟨x8,S,h⟩:=bs h
  obtain⟨aN,F4,-,g2,aO,aP,r2⟩:=I.elS (aa S).2.2
  obtain⟨v8,rfl,rfl,h6⟩:=r2
  have h7:=h6.rsl
  refine qq (ae oc J J I.rsl S) J<|qq (ak gw J) J<|qq (az lz J (fun v hw=>(g2.of_eq 0 1 J J:rg _ _ _ [v8]).rangeAt hw.fro)) J ?_
  obtain⟨x9,ai,h⟩:=bs h
  refine qp (cK CT J (fun v hw=>mh N (ba hw.fro) x7.L x8.L (h5.y hw.up) h7 ai)) J<|aqt 2 [] J ?_
  refine ch h J ?_ ?_ <;> intro h
  ·refine att 4 [] J ?_
   exact rt D h
  refine att 7 [] J ?_
  exact lb [0,0,0,0] [0,0] (af _ h)
 refine att 7 [] J ?_
 refine lin (σ:=Int) (fun s=>[(4,pQ d),(8,pQ p),(10,iV s)]) (fun s=>St w0 y [(p,.cells #[v5,v6] 35 (0,0)),(d,.cells #[j,g] 35 (0,0))] [ob v5,A,ob v6,B]) (fun m s=>cC N i t m s=some r) (0) N h (sx [0,0,0,0] [0,0]) (fun M aj s hm=>?_)
 revert hm;revert s;intro s2 hm
 have h:cC N i t (M+1) s2=some r:=hm
 show WT _ _ [(4,pQ d),(8,pQ p),(10,iV s2)] (St w0 y [(p,.cells #[v5,v6] 35 (0,0)),(d,.cells #[j,g] 35 (0,0))] [ob v5,A,ob v6,B])
 unfold cC at h
 refine atr 6 [1,32] J<|lnr x J<|la J<|en ?_
 refine ch h J ?_ ?_ <;> intro h
 ·refine att 8 [] J ?_
  refine lin (σ:=Int) (fun s=>[(4,pQ d),(8,pQ p),(10,iV s2),(11,iV s)]) (fun s=>St w0 y [(p,.cells #[v5,v6] 35 (0,0)),(d,.cells #[j,g] 35 (0,0))] [ob v5,A,ob v6,B]) (fun m s=>dJ N i t s2 (cC N i t M) m s=some r) (0) N h (sx [0,0,0,0] [0,0]) (fun n3 al s hm=>?_)
  revert hm;revert s;intro T hm
  have h:dJ N i t s2 (cC N i t M) (n3+1) T=some r:=hm
  show WT _ _ [(4,pQ d),(8,pQ p),(10,iV s2),(11,iV T)] (St w0 y [(p,.cells #[v5,v6] 35 (0,0)),(d,.cells #[j,g] 35 (0,0))] [ob v5,A,ob v6,B])
  unfold dJ at h
  refine atr 7 [1,32] J ?_
  obtain⟨aQ,U,h⟩:=bs h
  obtain⟨aR,F5,-,g3,aS,aU,r3⟩:=x.el (aa U).2.2
  obtain⟨v9,G2,rfl,an,h8⟩:=r3
  obtain rfl:=an.symm
  refine lia x U J<|lf fD J J J<|lhx 0 0 g3 J<|lnr h8 J<|la J<|en ?_
  refine ch h J ?_ ?_ <;> intro h
  ·refine att 4 [] J<|WT.draw mixed MA (fun _ h=>h.drew)<|aqq 3 [1,32] J ?_
   obtain⟨aV,V,h⟩:=bs h
   obtain⟨aW,F6,-,g4,aX,aY,r4⟩:=x.el (aa V).2.2
   obtain⟨v10,G3,rfl,ao,W⟩:=r4
   obtain rfl:=ao.symm
   refine qq (ae qJ J J x V) J<|qq (ak fD J) J<|qq (az wW J (fun v hw=>(g4.of_eq 0 1 J J:rg _ _ _ [v10]).rangeAt hw.in0)) J<|qq (de J) J ?_
   obtain⟨aq,X,h⟩:=bs h
   obtain⟨aZ,F7,-,g5,b2,b3,r5⟩:=W.el (aa X).2.2
   obtain⟨v11,G4,rfl,au,aw⟩:=r5
   obtain rfl:=au.symm
   refine qq (ae o8 J J W X) J<|qq (ak dR J) J<|qq (az sk J (fun v hw=>(g5.of_eq 0 1 J J:rg _ _ _ [v11]).rangeAt hw.in0)) J<|aqq 3 [1,0] J ?_
   obtain⟨b4,Y,h⟩:=bs h
   obtain⟨b5,F8,-,g6,b6,b7,r6⟩:=L.elS (aa Y).2.2
   obtain⟨v12,D5,rfl,rfl,ax⟩:=r6
   have Z:=ax.rslG aT.gives
   refine qq (ae qJ J J L.rsl Y) J<|qq (ak fD J) J<|qq (az wW J (fun v hw=>(g6.of_eq 0 1 J J:rg _ _ _ [v12]).rangeAt hw.fro)) J<|qq (de J) J ?_
   obtain⟨ay,a7,h⟩:=bs h
   obtain⟨b8,F9,-,g7,b9,bb,r7⟩:=Z.el (aa a7).2.2
   obtain⟨aA,G5,rfl,aB,aC⟩:=r7
   obtain rfl:=aB.symm
   refine qq (ae o8 J J Z a7) J<|qq (ak dR J) J<|qq (az sk J (fun v hw=>(g7.of_eq 0 1 J J:rg _ _ _ [aA]).rangeAt hw.fro)) J ?_
   obtain⟨bc,aD,h⟩:=bs h
   refine qp (cK Ky J (fun v hw=>wG N (ba hw.fro) aq.Toks ay.Toks (aw.y hw.up) aC aD)) J<|aqt 2 [] J ?_
   refine ch h J ?_ ?_ <;> intro h
   ·refine att 4 [] J ?_
    exact rt D h
   refine att 7 [] J ?_
   exact lb [0,0,0,0] [0,0] (al _ h)
  refine att 7 [] J ?_
  exact lb [0,0,0,0] [0,0] (aj _ h)
 refine att 5 [] J ?_
 exact rt D h
theorem zh (w0:av a c []) (x:(List Int)) (C:RSl (RI .u8) 1 a a1 e x) {r:Bool} (h:pG N x=some r) :
  CB w0 prog 6 [e] (.bool r):=by
 refine eN func6 J ntmps6 J w0 fun M=>?_
 unfold pG at h
 refine atr 8 [] J<|qd h (CE N · x C ·) J J J fun x1 h=>en ?_
 refine ch h J ?_ ?_ <;> intro h
 ·refine att 4 [] J ?_
  exact rt M h
 refine atr 4 [] J<|kab h J J J (fun b z q=>uy N b x (C.y z) q) ?_
 rintro u h v1 O F1 ⟨ax,ay,v2,D1,v3,P,Q,rfl,rfl,h1,Y,v⟩
 refine arr 9 [] J<|lno h1 J<|la J<|lno v J<|art 9 [] J ?_
 refine lin (σ:=Bool × Int) (fun s=>[(0,e),(3,v2),(4,v3),(5,.bool s.1),(6,iV s.2)]) (fun s=>St w0 O [] [ob v2,ob v3,P,Q]) (fun m s=>ir N x u m s.1 s.2=some r) (decide ((u.1.length:Int)=(u.2.length:Int)),0) N h (sx [0,0,0,0] []) (fun Z a7 s hm=>?_)
 obtain⟨s1,s2⟩:=s
 have h:ir N x u (Z+1) s1 s2=some r:=hm
 show WT _ _ [(0,e),(3,v2),(4,v3),(5,.bool s1),(6,iV s2)] (St w0 O [] [ob v2,ob v3,P,Q])
 unfold ir at h
 refine atr 5 [] J<|lno h1 J<|arr 2 [] J ?_
 obtain⟨b1,A,h⟩:=bs h
 refine WL.cutN 2 [(28,.bool b1),(0,e),(3,v2),(4,v3),(5,.bool s1),(6,iV s2)] ?_ (fun K=>?_)
 rotate_left
 ·refine sp 26 A J (fun A=>?_) fun A=>?_
  ·refine arr 2 [] J ?_
   cases A
   exact ku K
  ·refine arr 2 [] J ?_
   cases A
   exact ku K
 refine en ?_
 refine ch h J ?_ ?_ <;> intro h
 ·refine att 3 [] J<|WT.draw mixed MA (fun _ h=>h.drew)<|aqq 2 [] J ?_
  obtain⟨R,S,h⟩:=bs h
  obtain⟨aA,F2,-,g1,aB,aF,r1⟩:=h1.elS (aa S).2.2
  obtain⟨v4,G1,v5,G2,rfl,rfl,h3,h4⟩:=r1
  refine qq (ae je J J h1.rsl S) J<|qq (aC IT J (fun t hw=>(g1.of_eq 0 3 J J:rg _ _ _ [iV R.Rule,v4,v5]).rangeAt hw.fro) J) J<|aqq 2 [] J ?_
  obtain⟨T,U,h⟩:=bs h
  obtain⟨aG,F3,-,g2,aH,aI,r2⟩:=v.elS (aa U).2.2
  obtain⟨v6,v7,rfl,rfl,h5,h6⟩:=r2
  have h7:=h5.rsl
  have h8:=h6.rsl
  refine qq (ae je J J v.rsl U) J<|qq (aC IT J (fun t hw=>(g2.of_eq 0 3 J J:rg _ _ _ [iV T.Rule,v6,v7]).rangeAt hw.fro) J) J ?_
  obtain⟨x6,a8,h⟩:=bs h
  refine qp (cK Kb J (fun t hw=>rc N (ba hw.fro) R T h3 h4 h7 h8 a8)) J<|qq (de J) J ?_
  obtain⟨b2,i,h⟩:=bs h
  refine WQ.cutN 12 [(52,.bool b2),(0,e),(3,v2),(4,v3),(5,.bool s1),(6,iV s2)] ?_ (fun K=>?_)
  rotate_left
  ·refine WQ.split (d:=40) J (fun D=>?_) (fun D=>?_)
   ·replace i:=fR i D
    refine aqq 2 [] J<|WQ.yes J J ?_
    obtain⟨x7,V,i⟩:=bs i
    obtain⟨aJ,F4,-,g3,aK,aL,r3⟩:=h1.elS (aa V).2.2
    obtain⟨v8,G3,v9,G4,rfl,rfl,h9,ab⟩:=r3
    refine qq (ae je J J h1.rsl V) J<|WQ.yes J J<|qq (ak C3 J) J<|WQ.yes J J<|qq (az Gx J (fun t hw=>(g3.of_eq 2 1 J J:rg _ _ _ [v9]).rangeAt hw.fro)) J<|aqq 2 [] J<|WQ.yes J J ?_
    obtain⟨x8,W,i⟩:=bs i
    obtain⟨aM,F5,-,g4,aN,aO,r4⟩:=v.elS (aa W).2.2
    obtain⟨v10,v11,rfl,rfl,af,ag⟩:=r4
    have aP:=af.rsl
    have ah:=ag.rsl
    refine qq (ae je J J v.rsl W) J<|WQ.yes J J<|qq (ak C3 J) J<|WQ.yes J J<|qq (az Gx J (fun t hw=>(g4.of_eq 2 1 J J:rg _ _ _ [v11]).rangeAt hw.fro)) J<|WQ.yes J J ?_
    obtain⟨x9,ai,i⟩:=bs i
    refine qp (cK JZ J (fun t hw=>vZ N (ba hw.fro) x7.Binds x8.Binds ab ah ai)) J<|WQ.q (m3 J J) J J J ?_
    cases i
    exact kq K
   ·replace i:=fO i D
    refine aqq 12 [] J ?_
    cases i
    exact kq K
  refine aqt 8 [] J ?_
  exact lb [0,0,0,0] [] (a7 (_,_) h)
 refine atr 4 [] J<|kab h J J J (fun b z q=>tw N b x (C.y z) q) ?_
 rintro y h v12 aQ F6 ⟨B,X,aR,D3,aS,D4,aT,D5,aU,D6,X2,rfl,rfl,E,i2,F,G,H,i3⟩
 replace h1:=h1.fr X (B.q 0 J) (Dj.sub (B.q 3 J) Y)
 replace v:=v.fr X (B.q 1 J) (B.q 2 J)
 refine arr 4 [] J<|lnz sY J fun aj=>lnz lJ J fun al=>lnz sF J fun an=>soN 2 sD J ⟨J,E.one,trivial⟩ J ?_
 refine soN 1 mj J ⟨F.one,G.one,trivial⟩ J ?_
 refine soN 0 xL J ⟨H.one,J,trivial⟩ J ?_
 refine en<|sq<|WT.draw mixed MA (fun _ h=>h.drew)<|aqq 2 [] J ?_
 obtain⟨aV,ao,h⟩:=bs h
 refine qp (cK Fm J (fun t hw=>t6 N (ba hw.fro) u.1 u.2 h1.rsl (v.rslG aD.gives) ao)) J<|qq (de J) J<|qq (Fv Iz J J) J<|qq (de J) J ?_
 obtain⟨b3,w,h⟩:=bs h
 refine WQ.cutN 4 [(68,.bool b3),(7,pQ aj),(8,pQ al),(9,pQ an)] ?_ (fun K=>?_)
 rotate_left
 ·refine WQ.split (d:=64) J (fun I=>?_) (fun I=>?_)
  ·replace w:=fR w I
   refine aqq 2 [] J<|WQ.yes J J ?_
   obtain⟨aW,aq,w⟩:=bs w
   refine qp (cK Fm J (fun t hw=>t6 N (ba hw.fro) u.1 u.1 h1.rsl h1.rsl aq)) J<|WQ.q (m3 J J) J J J ?_
   cases w
   exact kq K
  ·replace w:=fO w I
   refine aqq 4 [] J ?_
   cases w
   exact kq K
 refine qq (de J) J ?_
 obtain⟨b4,p,h⟩:=bs h
 refine WQ.cutN 10 [(79,.bool b4)] ?_ (fun K=>?_)
 rotate_left
 ·refine WQ.split (d:=69) J (fun L=>?_) (fun L=>?_)
  ·replace p:=fR p L
   refine aqq 3 [66,34,2] J<|WQ.yes J J ?_
   obtain⟨aX,au,p⟩:=bs p
   refine qp (cK JW J (fun t hw=>wv N (ba hw.fro) y.1 y.2.1 y.2.2 E.rsl (F.rslG bk.gives) (G.rslG bc.gives) H.rsl au)) J<|aqq 3 [66,34,2] J<|WQ.yes J J ?_
   obtain⟨aY,aw,p⟩:=bs p
   refine qp (cK JH J (fun t hw=>wy N (ba hw.fro) y.1 y.2.1 y.2.2 E.rsl (F.rslG bk.gives) (G.rslG bc.gives) H.rsl aw)) J<|WQ.yes J J<|qq (Fv Iz J J) J<|WQ.q (m3 J J) J J J ?_
   cases p
   exact kq K
  ·replace p:=fO p L
   refine aqq 10 [] J ?_
   cases p
   exact kq K
 refine aqt 2 [] J ?_
 exact rt M h
end Go.Proofs.YtedmfnmbjglmbaaGreat
