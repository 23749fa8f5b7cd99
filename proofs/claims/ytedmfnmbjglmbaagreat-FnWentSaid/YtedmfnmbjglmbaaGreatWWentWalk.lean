/- Printed by a program of ours: each Go function computes its Lean function. -/
import Derived.Test.YtedmfnmbjglmbaaGreatProg
import Derived.Test.YtedmfnmbjglmbaaGreatWWentWalk9
import Derived.Test.YtedmfnmbjglmbaaGreatEZ
import Derived.Test.YtedmfnmbjglmbaaGreatEV
namespace Go.Proofs.YtedmfnmbjglmbaaGreat
open Eng Tryz
open Go.RowKit (Below)
set_option linter.unusedVariables false
set_option linter.unusedSimpArgs false
set_option maxRecDepth 100000
set_option maxHeartbeats 8000000
variable {a d:Hp} {f a6 n l g j o e:Value} {ai bj b3 b4 b9 b8 b7 b0 aE b5 ad aj:List Nat} {b6 p:Nat} (N:Nat)
theorem BR (w0:aA a d []) (i:bH) (k:bf) (y:RSl cF 4 a ai f i.Alphas) (A:RSl ei 2 a bj a6 i.Chains) (u:RSl eK 5 a b3 n k.Rules) {r:Bool} (h:rG N i k=some r) :
  CB w0 prog 32 [.agg [f,a6].toArray,.agg [.string k.Name,n].toArray] (.bool r):=by
 refine eN func32 J ntmps32 J w0 fun v=>?_
 unfold rG at h
 refine sr<|lbx J fun D=>lbx J fun E=>arr 6 [2] J<|qd h (sG N · k u ·) J J J fun F h=>la J<|en ?_
 refine ch h J ?_ ?_<;>intro h
 ·refine att 4 [] J ?_
  exact rt v h
 refine atr 4 [2] J<|kab h J J J (fun b z q=>we N b k (u.y z) q) ?_
 rintro w h v1 G H ⟨I,L,v2,M,v3,O,rfl,rfl,h1,x⟩
 refine lnz tl J fun P=>soN 0 w4 J ⟨h1.one,x.one,trivial⟩ J ?_
 refine arr 7 [0,64,0,0] J<|qz h (fun b z q=>ic N b i.Alphas w.Alphas (eP N) (y.y z) (h1.rslG dv.gives) M9 (fun B m a0 s=>fun f0 f1 f2 f3=>fun t=>rz N (ba m) a0 s f0 f1 f2 f3 t) q) J J J fun Q h=>la J ?_
 obtain⟨C,c,h⟩:=bs h
 refine WL.cutN 6 [(22,.bool C)] ?_ (fun K=>?_)
 rotate_left
 ·refine sp 16 c J (fun c=>?_) fun c=>?_
  ·refine arr 4 [1,64,1,0] J<|ly J J<|qz c (fun b z q=>ib N b i.Chains w.Chains (fQ N) (A.y z) (x.rslG bK.gives) LV (fun B m a0 s=>fun f0 f1 f2 f3=>fun t=>xn N (ba m) a0 s f0 f1 f2 f3 t) q) J J J fun R c=>la J ?_
   cases c
   exact ku K
  ·refine arr 6 [] J ?_
   cases c
   exact ku K
 refine la J<|en ?_
 exact rt v h
theorem A8 (w0:aA a d []) (q:bH) (b:aJ) (S:RSl cF 4 a ai f q.Alphas) (F:RSl ei 2 a bj a6 q.Chains) (T:RSl iv 1 a b3 n b.Alphas) (A:RSl lH 1 a b4 l b.Rules) {r:Bool} (h:pO N q b=some r) :
  CB w0 prog 130 [.agg [f,a6].toArray,.agg [n,l].toArray] (.bool r):=by
 refine eN func130 J ntmps130 J w0 fun B=>?_
 unfold pO at h
 refine sr<|lbx J fun c=>lbx J fun U=>arr 7 [0,0] J<|lnr T J<|arr 2 [0,32] J<|lnr S J<|arr 2 [] J ?_
 obtain⟨V,x,h⟩:=bs h
 refine WL.cutN 8 [(28,.bool V),(2,pQ c),(3,pQ U)] ?_ (fun K=>?_)
 rotate_left
 ·refine sp 20 x J (fun x=>?_) fun x=>?_
  ·refine arr 8 [] J ?_
   cases x
   exact ku K
  ·refine arr 2 [1,0] J<|ly J J<|lnr A J<|arr 2 [1,32] J<|ly J J<|lnr F J<|arr 2 [] J ?_
   cases x
   exact ku K
 refine en ?_
 refine ch h J ?_ ?_<;>intro h
 ·refine att 4 [] J ?_
  exact rt B h
 refine atr 6 [1,0] J<|lnr A J<|art 3 [] J ?_
 refine lin (σ:=Int) (fun s=>[(2,pQ c),(30,l),(31,iV (b.Rules.length:Int)),(32,iV s)]) (fun s=>St w0 d [(c,.cells #[f,a6] 47 (0,0))] []) (fun m s=>cN N q b m s=some r) (0) N h (sx [] [1]) (fun t W s hm=>?_)
 revert hm;revert s;intro s1 hm
 have h:cN N q b (t+1) s1=some r:=hm
 show WT _ _ [(2,pQ c),(30,l),(31,iV (b.Rules.length:Int)),(32,iV s1)] (St w0 d [(c,.cells #[f,a6] 47 (0,0))] [])
 unfold cN at h
 refine att 5 [] J ?_
 refine ch h J ?_ ?_<;>intro h
 ·refine atr 6 [] J ?_
  obtain⟨i,I,h⟩:=bs h
  obtain⟨ab,F1,-,g1,ae,af,X⟩:=A.el (a8 I).2.2
  obtain⟨v1,G1,rfl,Y,h1⟩:=X
  obtain rfl:=Y.symm
  refine lia A I J<|lhx 0 1 g1 J ?_
  refine ln (iu (C:=#[.slice none 0 0]) ny J) J (fun ag=>?_)
  refine la J<|soN 0 ve J ⟨h1.one,trivial⟩ J ?_
  refine arr 6 [1,32] J ?_
  obtain⟨w,L,h⟩:=bs h
  obtain⟨ah,F2,-,g2,ak,al,Z⟩:=F.el (a8 L).2.2
  obtain⟨v2,G2,v3,G3,rfl,rfl,G,M⟩:=Z
  refine lia F L J<|lhx 0 2 g2 J<|lnz sc J fun k=>soN 0 zA J ⟨G.one,M.one,trivial⟩ J ?_
  refine arr 6 [0,32] J<|lnr h1 J<|arr 2 [0,0] J<|lnr G J<|la J<|en ?_
  refine ch h J ?_ ?_<;>intro h
  ·refine att 4 [] J ?_
   exact rt B h
  refine atr 5 [0,32] J<|lnr h1 J<|art 3 [] J ?_
  refine lin (σ:=Int) (fun s=>[(2,pQ c),(7,pQ k),(30,l),(31,iV (b.Rules.length:Int)),(32,iV s1),(50,v1),(51,iV (i.Levels.length:Int)),(52,iV s)]) (fun s=>St w0 d [(k,.cells #[v2,v3] 141 (0,0)),(c,.cells #[f,a6] 47 (0,0))] []) (fun m s=>cY N s1 (cN N q b t) i w m s=some r) (0) N h (sx [] [0,1]) (fun y a1 s hm=>?_)
  revert hm;revert s;intro s2 hm
  have h:cY N s1 (cN N q b t) i w (y+1) s2=some r:=hm
  show WT _ _ [(2,pQ c),(7,pQ k),(30,l),(31,iV (b.Rules.length:Int)),(32,iV s1),(50,v1),(51,iV (i.Levels.length:Int)),(52,iV s2)] (St w0 d [(k,.cells #[v2,v3] 141 (0,0)),(c,.cells #[f,a6] 47 (0,0))] [])
  unfold cY at h
  refine att 5 [] J ?_
  refine ch h J ?_ ?_<;>intro h
  ·refine atr 6 [] J ?_
   obtain⟨u,O,h⟩:=bs h
   obtain⟨an,F3,-,g3,ao,aq,r3⟩:=h1.el (a8 O).2.2
   obtain⟨v4,G4,rfl,a7,D⟩:=r3
   obtain rfl:=a7.symm
   refine lia h1 O J<|lhx 0 1 g3 J ?_
   refine ln (iu (C:=#[.slice none 0 0]) rY J) J (fun E=>?_)
   refine la J<|soN 0 Bj J ⟨D.one,trivial⟩ J ?_
   refine arr 11 [0,32] J<|lnr G J<|art 3 [] J ?_
   refine cut (σ:=Int) (fun s=>[(2,pQ c),(7,pQ k),(8,iV s2),(9,pQ E),(10,iV s),(30,l),(31,iV (b.Rules.length:Int)),(32,iV s1),(50,v1),(51,iV (i.Levels.length:Int)),(52,iV s2)]) (fun s=>St w0 d [(E,.cells #[v4] 103 (0,0)),(k,.cells #[v2,v3] 141 (0,0)),(c,.cells #[f,a6] 47 (0,0))] []) (fun s=>iY N s2 (cY N s1 (cN N q b t) i w y) u s=some r) (fun s hm=>?_) (fun K=>?_)
   ·clear h
    revert hm;revert s;intro v hm
    have h:iY N s2 (cY N s1 (cN N q b t) i w y) u v=some r:=hm
    show WT _ _ [(2,pQ c),(7,pQ k),(8,iV s2),(9,pQ E),(10,iV v),(30,l),(31,iV (b.Rules.length:Int)),(32,iV s1),(50,v1),(51,iV (i.Levels.length:Int)),(52,iV s2)] (St w0 d [(E,.cells #[v4] 103 (0,0)),(k,.cells #[v2,v3] 141 (0,0)),(c,.cells #[f,a6] 47 (0,0))] [])
    unfold iY at h
    refine atr 4 [0,0] J<|lnr D J<|art 3 [] J ?_
    refine lin (σ:=Int) (fun s=>[(2,pQ c),(7,pQ k),(8,iV s2),(10,iV v),(30,l),(31,iV (b.Rules.length:Int)),(32,iV s1),(50,v1),(51,iV (i.Levels.length:Int)),(52,iV s2),(67,v4),(68,iV (u.Toks.length:Int)),(69,iV s)]) (fun s=>St w0 d [(k,.cells #[v2,v3] 141 (0,0)),(c,.cells #[f,a6] 47 (0,0))] []) (fun m s=>fU N s2 (cY N s1 (cN N q b t) i w y) u v m s=some r) (0) N h (sx [] [1,1]) (fun n4 aa s hm=>?_)
    revert hm;revert s;intro H hm
    have h:fU N s2 (cY N s1 (cN N q b t) i w y) u v (n4+1) H=some r:=hm
    show WT _ _ [(2,pQ c),(7,pQ k),(8,iV s2),(10,iV v),(30,l),(31,iV (b.Rules.length:Int)),(32,iV s1),(50,v1),(51,iV (i.Levels.length:Int)),(52,iV s2),(67,v4),(68,iV (u.Toks.length:Int)),(69,iV H)] (St w0 d [(k,.cells #[v2,v3] 141 (0,0)),(c,.cells #[f,a6] 47 (0,0))] [])
    unfold fU at h
    refine att 5 [] J ?_
    refine ch h J ?_ ?_<;>intro h
    ·refine atr 5 [] J ?_
     obtain⟨x4,P,h⟩:=bs h
     obtain⟨ar,F4,-,g4,au,av,r4⟩:=D.el (a8 P).2.2
     obtain⟨v5,G5,v6,G6,rfl,rfl,Q,R⟩:=r4
     refine lia D P J<|lhx 0 2 g4 J<|lnz gS J fun aw=>soN 0 nI J ⟨Q.one,R.one,trivial⟩ J ?_
     refine arr 5 [0,0] J<|lnr Q J<|arr 4 [] J ?_
     obtain⟨b2,z,h⟩:=bs h
     refine WL.cutN 6 [(85,.bool b2),(2,pQ c),(7,pQ k),(8,iV s2),(10,iV v),(30,l),(31,iV (b.Rules.length:Int)),(32,iV s1),(50,v1),(51,iV (i.Levels.length:Int)),(52,iV s2),(67,v4),(68,iV (u.Toks.length:Int)),(69,iV H)] ?_ (fun K=>?_)
     rotate_left
     ·refine sp 79 z J (fun z=>?_) fun z=>?_
      ·refine arr 6 [] J ?_
       cases z
       exact ku K
      ·refine arr 2 [1,0] J<|ly J J<|lnr R J<|arr 3 [] J ?_
       cases z
       exact ku K
     refine en ?_
     refine ch h J ?_ ?_<;>intro h
     ·refine att 4 [] J ?_
      exact rt B h
     refine att 6 [] J ?_
     exact lb [] [1,1] (aa _ h)
    refine att 6 [] J ?_
    exact lb [] [0,0] (a1 _ h)
   refine ch h J ?_ ?_<;>intro h
   ·refine atr 3 [1,32] J<|lnr M J<|la J<|en ?_
    exact wo [] [0,0,0] (K _ h)
   refine WT.skip ?_
   exact wo [] [0,0,0] (K _ h)
  refine att 6 [] J ?_
  exact lb [] [1] (W _ h)
 refine att 5 [] J ?_
 exact rt B h
theorem uL (w0:aA a d []) (t:bf) (k:bH) (u:aJ) (m:ae) (s:Int) (B:RSl eK 5 a ai f t.Rules) (v:RSl cF 4 a b3 n k.Alphas) (w:RSl ei 2 a b4 l k.Chains) (C:RSl iv 1 a b9 g u.Alphas) (D:RSl lH 1 a b8 j u.Rules) (x:RSl br 3 a b7 o m.Items) {r:Bool} (h:nH N t k u m s=some r) :
  CB w0 prog 67 [.agg [.string t.Name,f].toArray,.agg [n,l].toArray,.agg [g,j].toArray,.agg [o,iV m.Next].toArray,iV s] (.bool r):=by
 refine eN func67 J ntmps67 J w0 fun y=>?_
 unfold nH at h
 refine sr<|lbx J fun I=>lbx J fun E=>lbx J fun F=>lbx J fun A=>arr 7 [66,98] J<|qd h (BR N · k t v w B ·) J J J fun L h=>arr 2 [] J ?_
 obtain⟨G,c,h⟩:=bs h
 refine WL.cutN 4 [(21,.bool G),(4,iV s),(6,pQ E),(7,pQ F),(8,pQ A)] ?_ (fun K=>?_)
 rotate_left
 ·refine sp 17 c J (fun c=>?_) fun c=>?_
  ·refine arr 4 [] J ?_
   cases c
   exact ku K
  ·refine ly J J<|ld2 oV 0 J<|ly J J<|qd c (n9 N · m x ·) J J J fun M c=>arr 2 [] J ?_
   cases c
   exact ku K
 refine la J ?_
 obtain⟨H,i,h⟩:=bs h
 refine WL.cutN 5 [(27,.bool H),(4,iV s),(8,pQ A)] ?_ (fun K=>?_)
 rotate_left
 ·refine sp 22 i J (fun i=>?_) fun i=>?_
  ·refine arr 5 [] J ?_
   cases i
   exact ku K
  ·refine arr 2 [66,34] J<|ly J J<|qd i (A8 N · k u v w C D ·) J J J fun O i=>arr 2 [] J ?_
   cases i
   exact ku K
 refine en ?_
 refine ch h J ?_ ?_<;>intro h
 ·refine att 4 [] J ?_
  exact rt y h
 refine atr 5 [2] J<|kab h J J J (fun b z q=>o2 N b m s (x.y z) q) ?_
 rintro P h v1 Q R ⟨S,T,v2,rfl,rfl,h1⟩
 refine arr 3 [] J<|lnz ni J fun U=>soN 0 oq J ⟨J,h1.one,trivial⟩ J ?_
 refine art 7 [] J ?_
 exact rt y h
theorem zi (w0:aA a d []) (c:bf) (k:bH) (m:aJ) (t:ae) (u:Int) (C:RSl eK 5 a ai f c.Rules) (D:RSl cF 4 a b3 n k.Alphas) (E:RSl ei 2 a b4 l k.Chains) (F:RSl iv 1 a b9 g m.Alphas) (G:RSl lH 1 a b8 j m.Rules) (H:RSl br 3 a b7 o t.Items) {r:aJ} (h:oD N c k m t u=some r) :
  Calls prog 21 [.agg [.string c.Name,f].toArray,.agg [n,l].toArray,.agg [g,j].toArray,.agg [o,iV t.Next].toArray,iV u].toArray w0.w (bc d w0.w [] (fun I Fs v=>∃ (w:Value) (L:List Nat) (x:Value) (M:List Nat),v = .agg [w,x].toArray∧Fs=[ob w,L,ob x,M]∧OSl bb 133 1 I L w r.Alphas∧OSl aZ 100 1 I M x r.Rules)):=by
 refine eN func21 J ntmps21 J w0 fun Q=>?_
 unfold oD at h
 refine sr<|lbx J fun X=>lbx J fun Y=>lbx J fun Z=>lbx J fun a1=>lnz mM J fun O=>arr 4 [66] J<|kab h J J J (fun b z q=>tN N b m (F.y z) (G.y z) q) ?_
 rintro R h v1 a7 F1 ⟨a8,aa,v2,D1,v3,D2,rfl,rfl,h1,y⟩
 refine lnz mM J fun P=>soN 0 oC J ⟨h1.one,y.one,trivial⟩ J ?_
 refine arr 9 [162,130,98,66] J<|qd h (uL N · c k m t u C D E F G H ·) J J J fun x2 h=>en ?_
 refine cut (σ:=Hp × (List bk) × List Nat × (List aH) × List Nat) (fun s=>[(10,pQ O),(11,pQ P)]) (fun s=>St w0 s.1 [(P,.cells #[v2,v3] 35 (0,0)),(O,.cells #[.slice none 0 0,.slice none 0 0] 35 (0,0))] [ob v2,s.2.2.1,ob v3,s.2.2.2.2]) (fun s=>kT N s.2.1 s.2.2.2.1=some r∧(OSl bb 133 1 s.1 s.2.2.1 v2 s.2.1)∧(OSl aZ 100 1 s.1 s.2.2.2.2 v3 s.2.2.2.1)) (fun s hm=>?_) (fun K=>?_)
 ·clear h
  obtain⟨ab,s1,S,s2,T⟩:=s
  obtain⟨h,A,B⟩:=hm
  dsimp only at h A B ⊢
  unfold kT at h
  refine atr 3 [2] J<|soN 1 oC J ⟨A.one,B.one,trivial⟩ J ?_
  refine en ?_
  exact rtg [0,0,0,0] Q (aB.one (bd uO J (fun U hw=>hw.rgO (i:=1) J 0 2 [v2,v3] J) J)) J (by cases h;exact fun U hw=>⟨v2,S,v3,T,rfl,rfl,A,B⟩)
 refine ch h J ?_ ?_<;>intro h
 ·refine atr 6 [162,130,2,66] J<|kcb [0,0,0,0] h J J J J (fun b ap z q=>tA N b c k R t u (C.y z) (D.y z) (E.y z) h1 y (H.y z) q) ?_
  rintro x3 h v4 af F2 ⟨ag,ah,D5,D6,rfl,rfl,V,W⟩
  refine en ?_
  exact wo [0,0,0,0] [0,0] (K (_,_,_,_,_) ⟨h,V,W⟩)
 refine WT.skip ?_
 exact wo [0,0,0,0] [0,0] (K (_,_,_,_,_) ⟨h,h1,y⟩)
theorem Ep (w0:aA a d []) (c:(List Int)) (b:Int) (i:RSl (RI .i64) 1 a b0 e c) {r:Bool} (h:vI N c b=some r) :
  CB w0 prog 23 [e,iV b] (.bool r):=by
 refine eN func23 J ntmps23 J w0 fun k=>?_
 unfold vI at h
 refine att 10 [] J ?_
 refine lin (σ:=Int) (fun s=>[(0,e),(1,iV b),(5,iV s)]) (fun s=>St w0 d [] []) (fun m s=>l5 N c b m s=some r) (0) N h (sx [] []) (fun t u s hm=>?_)
 revert hm;revert s;intro s1 hm
 have h:l5 N c b (t+1) s1=some r:=hm
 show WT _ _ [(0,e),(1,iV b),(5,iV s1)] (St w0 d [] [])
 unfold l5 at h
 refine atr 5 [] J<|lnr i J<|la J<|en ?_
 refine ch h J ?_ ?_<;>intro h
 ·refine atr 7 [] J ?_
  obtain⟨w,q,h⟩:=bs h
  obtain⟨x,y,-,g1,z,A,v⟩:=i.el (a8 q).2.2
  obtain⟨rfl,-⟩:=v
  refine lia i q J<|lhx 0 0 g1 J<|art 3 [] J ?_
  refine ch h J ?_ ?_<;>intro h
  ·refine att 4 [] J ?_
   exact rt k h
  refine att 7 [] J ?_
  exact lb [] [] (u _ h)
 refine att 5 [] J ?_
 exact rt k h
theorem GJ (w0:aA a d []) (c:(List Int)) (i:Int) (b:RSl (RI .u8) 1 a b0 e c) {r:Int} (h:yQ N c i=some r) :
  CB w0 prog 24 [e,iV i] (iV r):=by
 refine eN func24 J ntmps24 J w0 fun k=>?_
 unfold yQ at h
 refine atr 9 [] J<|lnr b J<|la J<|en ?_
 refine ch h J ?_ ?_<;>intro h
 ·refine atr 4 [] J ?_
  obtain⟨s,m,h⟩:=bs h
  obtain⟨t,u,-,g1,v,w,q⟩:=b.el (a8 m).2.2
  obtain⟨rfl,-⟩:=q
  refine lia b m J<|lhx 0 0 g1 J<|lq (mP LI zG J) J<|la J<|en ?_
  exact rt k h
 refine atr 6 [] J<|lnr b J<|arr 2 [] J<|lq (Le J J (by decide)) J<|la J<|en ?_
 exact rt k h
theorem vr (w0:aA a d []) (b:Int) (c:Int) (i:a b6=some (.cells #[iV c] 3 (0,0))) {r:Bool} (h:jW N b c=some r) :
  CB w0 prog 137 [iV b,pQ b6] (.bool r):=by
 refine eN func137 J ntmps137 J w0 fun k=>?_
 unfold jW at h
 refine atr 7 [] J<|lhx 0 0 (cn i) J<|art 3 [] J ?_
 exact rt k h
theorem qg {c:Nat} {i:List Value} (w0:aA a d []) (b:(List Int)) (k:Int→Option (Bool)) (q:RSl (RI .i64) 1 a b0 e b) (x:Fun prog c=true) (y:∀ {t:Hp} {w':World},FrH [] d t→In t w'→∀ (u:Int)   {r:Bool},k u=some r→Calls prog c (([iV u]:List Value)++i).toArray w' (lg (.bool r) w')) {r:Int} (h:gC N b k=some r) :
  CB w0 prog 198 [e,.func (.func c) #[] i.toArray] (iV r):=by
 refine eN func198 J ntmps198 J w0 fun v=>?_
 unfold gC at h
 refine atr 8 [] J<|lnr q J<|art 3 [] J ?_
 refine lin (σ:=Int) (fun s=>[(0,e),(1,.func (.func c) #[] i.toArray),(7,iV (b.length:Int)),(8,iV s)]) (fun s=>St w0 d [] []) (fun m s=>c8 N b k m s=some r) (0) N h (sx [] []) (fun z A s hm=>?_)
 revert hm;revert s;intro s1 hm
 have h:c8 N b k (z+1) s1=some r:=hm
 show WT _ _ [(0,e),(1,.func (.func c) #[] i.toArray),(7,iV (b.length:Int)),(8,iV s1)] (St w0 d [] [])
 unfold c8 at h
 refine att 5 [] J ?_
 refine ch h J ?_ ?_<;>intro h
 ·refine atr 13 [] J ?_
  obtain⟨B,w,h⟩:=bs h
  obtain⟨E,F,-,g1,G,H,C⟩:=q.el (a8 w).2.2
  obtain⟨rfl,-⟩:=C
  refine lia q w J<|lhx 0 0 g1 J ?_
  obtain⟨I,D,h⟩:=bs h
  refine lp (je x J J (fun K hw=>y hw.frB hw.fro B D)) J<|en ?_
  refine ch h J ?_ ?_<;>intro h
  ·refine att 5 [] J ?_
   exact rt v h
  refine att 6 [] J ?_
  exact lb [] [] (A _ h)
 refine att 5 [] J ?_
 exact rt v h
theorem ph {A:Nat} {C:List Value} (w0:aA a d [ob e].flatten) (q:(List Int)) (D:Int→Option (Bool)) (H:OSl (RI .i64) 3 1 d [] e q) (P:Fun prog A=true) (Q:∀ {E:Hp} {w':World},FrH [ob e].flatten d E→In E w'→∀ (R:Int)   {r:Bool},D R=some r→Calls prog A (([iV R]:List Value)++C).toArray w' (lg (.bool r) w')) {r:(List Int)} (h:eu N q D=some r) :
  Calls prog 138 [e,.func (.func A) #[] C.toArray].toArray w0.w (bc d w0.w [ob e].flatten (fun E Fs v=>∃ (I:Value),v=I∧Fs=[ob I]∧OSl (RI .i64) 3 1 E [] I r)):=by
 refine eL func138 J ntmps138 J (L:=[ob e]) w0 (fun S=>?_)
 unfold eu at h
 obtain⟨_,hlen,h⟩:=bs h
 replace hlen:=zr hlen
 refine atr 8 [] J ?_
 obtain⟨F,ae,h⟩:=bs h
 refine lp (jj Je J (fun w hw=>qg N (ba hw.fro) q D H.rsl P (fun af=>Q (hw.frX (Ap.none _ _ []) af)) ae)) J<|art 8 [] J ?_
 refine ch h J ?_ ?_<;>intro h
 ·refine att 5 [] J ?_
  exact rtg [0] S (aB.one J) J (by cases h;exact fun w hw=>⟨e,rfl,rfl,H⟩)
 obtain⟨x2,T,h⟩:=bs h
 obtain⟨t,ht,h⟩:=bs h
 replace h:=Option.some.inj h
 obtain⟨D1,gh,K⟩:=H.gap T
 obtain⟨i0,i1,-⟩:=a8 T
 replace K:=SP.is_nil K
 refine att 9 [] J ?_
 refine Bk (σ:=Hp × (List Int) × (List Int) × List Nat × Int × Int) (fun s=>[(0,e),(1,.func (.func A) #[] C.toArray),(5,iV s.2.2.2.2.1),(6,iV s.2.2.2.2.2)]) (fun s=>St w0 s.1 [] [ob e]) (fun m s=>s.2.2.1.length < m∧(∃ t,zH D s.2.2.1=some t∧s.2.1++t=r)∧GSl (RI .i64) 3 1 s.1 s.2.2.2.1 e q.length s.2.1 s.2.2.1∧s.2.2.2.1=[]∧s.2.2.2.2.1=(s.2.1.length:Int)∧s.2.2.2.2.2+(s.2.2.1.length:Int)=(q.length:Int)∧s.2.1.length+s.2.2.1.length < q.length) (d,q.take F.toNat,q.drop (F.toNat+1),D1,F,wz (F+1)) (q.length+1) ⟨by simp;omega,⟨t,ht,h⟩,gh,K,by simp;omega,Gj i0 OV (by simp;omega),by simp;omega⟩ ⟨rfl,rfl,rfl,rfl,trivial⟩ (fun w hw=>hw) (fun s hm=>Nat.not_lt_zero _ hm.1) (fun U V s hm=>?_)
 obtain⟨M,ys,zs,D2,x,y⟩:=s
 obtain⟨hm0,⟨t1,k,B⟩,u,sp1,e1,e2,lt1⟩:=hm
 dsimp only at hm0 k B u sp1 e1 e2 lt1
 show WT _ _ [(0,e),(1,.func (.func A) #[] C.toArray),(5,iV x),(6,iV y)] (St w0 M [] [ob e])
 refine atr 5 [] J<|lq (J3 bR J J u.form) J<|la J<|en ?_
 refine cd J (fun c2=>?_) (fun c2=>?_)
 ·replace c2:=of_decide_eq_true c2
  obtain⟨z,c,rfl⟩:∃ z c,zs=z :: c:=by cases zs with | nil=>simp at e2;omega | cons z c=>exact⟨z,c,rfl⟩
  simp only[List.length_cons] at e2 lt1 hm0
  obtain⟨av,F1,W,aw,g1,ax,r1,ag,X,Y⟩:=u.next
  rw[show q.length - (c.length+1)=y.toNat by omega] at g1
  simp only[zH] at k
  obtain⟨b,hb,k⟩:=bs k
  obtain⟨t2,Z,k⟩:=bs k
  replace k:=Option.some.inj k
  refine att 4 [] J ?_
  obtain⟨rfl,ah⟩:=r1
  subst ah
  refine atr 3 [] J<|lq (oX bR J J u OV OV) J<|lgx 0 0 g1 J<|arr 6 [] J<|lp (je P J J (fun w hw=>Q hw.frB hw.fro z hb)) J<|la J<|en ?_
  refine cd J (fun O=>?_) (fun O=>?_)
  ·have ak:b=false:=by simpa using O
   subst ak
   refine atr 5 [] J<|lq (oX bR J J u OV OV) J ?_
   have d3:W=[]:=SP.is_nil (sp1 ▸ (SP.right _ _).trans Y)
   subst d3
   refine lu (KR (js:=[0]) (Rr:=[]) (vs:=[iV z]) RI.lasts zM J J J J ⟨J,trivial⟩ J X OV OV (show RI .i64 M [] [iV z] z from ⟨J,J⟩) ag (fun ap=>Dj.nil _) (fun ap=>Dj.nil _)) J ?_
   rintro a1 D4 ⟨⟨al,an⟩,ao,G⟩
   have d4:D4=[]:=SP.is_nil (by simpa using ao)
   subst d4
   refine art 12 [] J ?_
   exact Cf (V (a1,ys++[z],c,([]:List Nat),wz (x+1),wz (y+1)) ⟨by show c.length < U;omega,⟨t2,Z,by rw[← B,← k];simp⟩,G,rfl,NN OV OV (by simp;omega),Gj OV OV (by show y+1+(c.length:Int)=_;omega),by show (ys++[z]).length+c.length < _;simp;omega⟩) ⟨J,J,J,J,trivial⟩ (fun w hw=>hw)
  have aq:b=true:=by simpa using O
  subst aq
  refine att 7 [] J ?_
  exact Cf (V (M,ys,c,W,x,wz (y+1)) ⟨by show c.length < U;omega,⟨t2,Z,by rw[← B,← k];rfl⟩,X,SP.is_nil (sp1 ▸ (SP.right _ _).trans Y),e1,Gj OV OV (by show y+1+(c.length:Int)=_;omega),by show ys.length+c.length < _;omega⟩) ⟨J,J,J,J,trivial⟩ (fun w hw=>hw)
 replace c2:=of_decide_eq_false c2
 have ar:zs=[]:=oj.1 OV
 subst ar
 simp only[List.length_nil,Nat.add_zero] at lt1 e2
 have au:t1=[]:=by simpa[zH] using k.symm
 subst au
 rw[List.append_nil] at B
 subst B
 have a7:x.toNat=ys.length:=by omega
 refine atr 5 [] J<|lq (I2 bR J J u OV OV) J<|leU (FU (i:=x.toNat) (js:=[0]) (Rr:=[]) RI.lasts bR mj J J J J J u a7 lt1 (fun ap=>by rw[sp1];exact Dj.nil _)) J ?_
 rintro v a1 D4 ⟨⟨al,an⟩,G⟩
 refine arr 5 [] J<|lq (J9 bR J J G OV OV) J<|la J<|en ?_
 obtain⟨aa,ab⟩:=G.done
 rw[← a7] at aa ab
 refine WT.ret S (aB.one J) (fun w hw=>?_)
 subst sp1
 refine aK (js:=[0]) hw J ⟨slc e 0 x.toNat 1,J,by rw[ab],aa⟩
theorem nO {c:Nat} {i:List Value} (w0:aA a d []) (b:(List an)) (k:an→Option (Bool)) (t:RSl dY 2 a b0 e b) (z:Fun prog c=true) (A:∀ {q:Hp} {w':World},FrH [] d q→In q w'→∀ (u:an) {v:Value} {B:List Nat} {w:Value} {C:List Nat} (_:RSl (RI .i64) 1 q B v u.Ids) (_:RSl (RI .i64) 1 q C w u.Hits) {r:Bool},k u=some r→Calls prog c (([.agg [v,w].toArray]:List Value)++i).toArray w' (lg (.bool r) w')) {r:Int} (h:eI N b k=some r) :
  CB w0 prog 199 [e,.func (.func c) #[] i.toArray] (iV r):=by
 refine eN func199 J ntmps199 J w0 fun x=>?_
 unfold eI at h
 refine atr 8 [] J<|lnr t J<|art 3 [] J ?_
 refine lin (σ:=Int) (fun s=>[(0,e),(1,.func (.func c) #[] i.toArray),(7,iV (b.length:Int)),(8,iV s)]) (fun s=>St w0 d [] []) (fun m s=>bA N b k m s=some r) (0) N h (sx [] []) (fun D E s hm=>?_)
 revert hm;revert s;intro s1 hm
 have h:bA N b k (D+1) s1=some r:=hm
 show WT _ _ [(0,e),(1,.func (.func c) #[] i.toArray),(7,iV (b.length:Int)),(8,iV s1)] (St w0 d [] [])
 unfold bA at h
 refine att 5 [] J ?_
 refine ch h J ?_ ?_<;>intro h
 ·refine atr 13 [] J ?_
  obtain⟨F,y,h⟩:=bs h
  obtain⟨K,L,-,g1,M,O,G⟩:=t.el (a8 y).2.2
  obtain⟨v1,P,v2,Q,rfl,rfl,h1,H⟩:=G
  refine lia t y J<|lhx 0 2 g1 J ?_
  obtain⟨R,I,h⟩:=bs h
  refine lp (je z J J (fun S hw=>A hw.frB hw.fro F (h1.y hw.up) (H.y hw.up) I)) J<|en ?_
  refine ch h J ?_ ?_<;>intro h
  ·refine att 5 [] J ?_
   exact rt x h
  refine att 6 [] J ?_
  exact lb [] [] (E _ h)
 refine att 5 [] J ?_
 exact rt x h
theorem nu {D:Nat} {G:List Value} (w0:aA a d [ob e,aE].flatten) (u:(List an)) (H:an→Option (Bool)) (Q:OSl aR 105 2 d aE e u) (W:Fun prog D=true) (X:∀ {y:Hp} {w':World},FrH [ob e,aE].flatten d y→In y w'→∀ (R:an) {Y:Value} {ao:List Nat} {Z:Value} {aq:List Nat} (_:RSl (RI .i64) 1 y ao Y R.Ids) (_:RSl (RI .i64) 1 y aq Z R.Hits) {r:Bool},H R=some r→Calls prog D (([.agg [Y,Z].toArray]:List Value)++G).toArray w' (lg (.bool r) w')) {r:(List an)} (h:dd N u H=some r) :
  Calls prog 139 [e,.func (.func D) #[] G.toArray].toArray w0.w (bc d w0.w [ob e,aE].flatten (fun y Fs v=>∃ (S:Value) (a1:List Nat),v=S∧Fs=[ob S,a1]∧OSl aR 105 2 y a1 S r)):=by
 refine eL func139 J ntmps139 J (L:=[ob e,aE]) w0 (fun hF=>?_)
 unfold dd at h
 obtain⟨_,hlen,h⟩:=bs h
 replace hlen:=zr hlen
 refine atr 8 [] J ?_
 obtain⟨I,ar,h⟩:=bs h
 refine lp (jj KG J (fun w hw=>nO N (ba hw.fro) u H (Q.rslG aR.gives) W (fun au=>X (hw.frX (Ap.none _ _ []) au)) ar)) J<|art 8 [] J ?_
 refine ch h J ?_ ?_<;>intro h
 ·refine att 5 [] J ?_
  exact rtg [0,0] hF (aB.one J) J (by cases h;exact fun w hw=>⟨e,aE,rfl,rfl,Q⟩)
 obtain⟨x2,a7,h⟩:=bs h
 obtain⟨t,ht,h⟩:=bs h
 replace h:=Option.some.inj h
 obtain⟨D1,gh,aa⟩:=Q.gap a7
 obtain⟨i0,i1,-⟩:=a8 a7
 refine att 9 [] J ?_
 refine Bk (σ:=Hp × (List an) × (List an) × List Nat × Int × Int) (fun s=>[(0,e),(1,.func (.func D) #[] G.toArray),(5,iV s.2.2.2.2.1),(6,iV s.2.2.2.2.2)]) (fun s=>St w0 s.1 [] [s.2.2.2.1,ob e]) (fun m s=>s.2.2.1.length < m∧(∃ t,zH H s.2.2.1=some t∧s.2.1++t=r)∧GSl aR 105 2 s.1 s.2.2.2.1 e u.length s.2.1 s.2.2.1∧SP s.2.2.2.1 aE∧s.2.2.2.2.1=(s.2.1.length:Int)∧s.2.2.2.2.2+(s.2.2.1.length:Int)=(u.length:Int)∧s.2.1.length+s.2.2.1.length < u.length) (d,u.take I.toNat,u.drop (I.toNat+1),D1,I,wz (I+1)) (u.length+1) ⟨by simp;omega,⟨t,ht,h⟩,gh,aa,by simp;omega,Gj i0 OV (by simp;omega),by simp;omega⟩ ⟨rfl,rfl,rfl,rfl,trivial⟩ (fun w hw=>hw.merge (js:=[1]) (F:=D1) J (by simpa using aa)) (fun s hm=>Nat.not_lt_zero _ hm.1) (fun n1 ab s hm=>?_)
 obtain⟨T,ys,zs,K,A,B⟩:=s
 obtain⟨hm0,⟨t1,q,E⟩,x,sp1,e1,e2,lt1⟩:=hm
 dsimp only at hm0 q E x sp1 e1 e2 lt1
 show WT _ _ [(0,e),(1,.func (.func D) #[] G.toArray),(5,iV A),(6,iV B)] (St w0 T [] [K,ob e])
 refine atr 5 [] J<|lq (J3 dl J J x.form) J<|la J<|en ?_
 refine cd J (fun c2=>?_) (fun c2=>?_)
 ·replace c2:=of_decide_eq_true c2
  obtain⟨z,c,rfl⟩:∃ z c,zs=z :: c:=by cases zs with | nil=>simp at e2;omega | cons z c=>exact⟨z,c,rfl⟩
  simp only[List.length_cons] at e2 lt1 hm0
  obtain⟨aG,F1,D3,aH,g1,aI,r1,av,ae,C⟩:=x.next
  rw[show u.length - (c.length+1)=B.toNat by omega] at g1
  simp only[zH] at q
  obtain⟨b,hb,q⟩:=bs q
  obtain⟨t2,af,q⟩:=bs q
  replace q:=Option.some.inj q
  refine att 4 [] J ?_
  obtain⟨v1,v2,rfl,rfl,h1,M⟩:=r1
  refine atr 3 [] J<|lq (oX dl J J x OV OV) J<|lgx 0 2 g1 J<|lnz gS J fun aw=>soN 0 nI J ⟨h1.one,M.one,trivial⟩ J ?_
  refine arr 5 [2] J<|lp (je W J J (fun w hw=>X hw.frB hw.fro z h1.rsl M.rsl hb)) J<|la J<|en ?_
  refine cd J (fun U=>?_) (fun U=>?_)
  ·have ax:b=false:=by simpa using U
   subst ax
   refine atr 5 [2] J<|lq (oX dl J J x OV OV) J<|lu (KR (js:=[1]) (Rr:=[K]) (vs:=[v1,v2]) aR.lasts nI J J J J ⟨h1.one,M.one,trivial⟩ J ae OV OV (⟨v1,v2,J,J,h1,M⟩:aR T _ [v1,v2] z) av (fun ap=>Dj.sub (ap.q 0 J) (fun k hk=>C.mem (gf.2 (.inr hk)))) (fun ap=>Dj.sub (ap.q 0 J) (fun k hk=>C.mem (gf.2 (.inl hk))))) J ?_
   rintro V O ⟨⟨ay,az⟩,ag,P⟩
   refine WL.conv (S':=St w0 V [(aw,.cells #[v1,v2] 105 (0,0))] [O,ob e]) (fun w hw=>hw.merge (js:=[1]) (F:=O) J (by simpa using ag.trans C))<|art 12 [] J ?_
   exact Cf (ab (V,ys++[z],c,O,wz (A+1),wz (B+1)) ⟨by show c.length < n1;omega,⟨t2,af,by rw[← E,← q];simp⟩,P,(ag.trans C).trans sp1,NN OV OV (by simp;omega),Gj OV OV (by show B+1+(c.length:Int)=_;omega),by show (ys++[z]).length+c.length < _;simp;omega⟩) ⟨J,J,J,J,trivial⟩ (fun w hw=>hw.selO (js:=[]) J)
  have aC:b=true:=by simpa using U
  subst aC
  refine att 7 [] J ?_
  exact Cf (ab (T,ys,c,D3,A,wz (B+1)) ⟨by show c.length < n1;omega,⟨t2,af,by rw[← E,← q];rfl⟩,ae,((SP.right _ _).trans C).trans sp1,e1,Gj OV OV (by show B+1+(c.length:Int)=_;omega),by show ys.length+c.length < _;omega⟩) ⟨J,J,J,J,trivial⟩ (fun w hw=>(hw.merge (js:=[0]) (F:=D3) J (by simpa using (SP.right _ _).trans C)).selO (js:=[]) J)
 replace c2:=of_decide_eq_false c2
 have aD:zs=[]:=oj.1 OV
 subst aD
 simp only[List.length_nil,Nat.add_zero] at lt1 e2
 have aF:t1=[]:=by simpa[zH] using q.symm
 subst aF
 rw[List.append_nil] at E
 subst E
 have ah:A.toNat=ys.length:=by omega
 refine atr 5 [] J<|lq (I2 dl J J x OV OV) J<|leU (FU (i:=A.toNat) (js:=[1]) (Rr:=[K]) aR.lasts dl gS J J J J J x ah lt1 (fun ap=>ap.r (i:=0) J)) J ?_
 rintro v V O ⟨⟨ay,az⟩,P⟩
 refine arr 5 [] J<|lq (J9 dl J J P OV OV) J<|la J<|en ?_
 obtain⟨ak,al⟩:=P.done
 rw[← ah] at ak al
 refine WT.ret hF (aB.one J) (fun w hw=>?_)
 refine aK (js:=[0,0]) hw J ⟨slc e 0 A.toNat 2,K,J,by rw[al],ak⟩
theorem sC (w0:aA a d []) (b:(List Int)) (c:Int) (i:RSl (RI .i64) 1 a b0 e b) {r:Int} (h:jg N b c=some r) :
  CB w0 prog 200 [e,iV c] (iV r):=by
 refine eN func200 J ntmps200 J w0 fun k=>?_
 unfold jg at h
 refine atr 8 [] J<|lnr i J<|art 3 [] J ?_
 refine lin (σ:=Int) (fun s=>[(0,e),(1,iV c),(7,iV (b.length:Int)),(8,iV s)]) (fun s=>St w0 d [] []) (fun m s=>cT N b c m s=some r) (0) N h (sx [] []) (fun t u s hm=>?_)
 revert hm;revert s;intro s1 hm
 have h:cT N b c (t+1) s1=some r:=hm
 show WT _ _ [(0,e),(1,iV c),(7,iV (b.length:Int)),(8,iV s1)] (St w0 d [] [])
 unfold cT at h
 refine att 5 [] J ?_
 refine ch h J ?_ ?_<;>intro h
 ·refine atr 13 [] J ?_
  obtain⟨w,q,h⟩:=bs h
  obtain⟨x,y,-,g1,z,A,v⟩:=i.el (a8 q).2.2
  obtain⟨rfl,-⟩:=v
  refine lia i q J<|lhx 0 0 g1 J<|la J<|en ?_
  refine ch h J ?_ ?_<;>intro h
  ·refine att 5 [] J ?_
   exact rt k h
  refine att 6 [] J ?_
  exact lb [] [] (u _ h)
 refine att 5 [] J ?_
 exact rt k h
theorem qF (w0:aA a d []) (b:(List Int)) (c:Int) (i:RSl (RI .i64) 1 a b0 e b) {r:Bool} (h:fa N b c=some r) :
  CB w0 prog 141 [e,iV c] (.bool r):=by
 refine eN func141 J ntmps141 J w0 fun k=>?_
 unfold fa at h
 refine atr 8 [] J<|qd h (sC N · b c i ·) J J J fun m h=>art 3 [] J ?_
 exact rt k h
theorem vf (w0:aA a d []) (b:an) (c:Int) (i:RSl (RI .i64) 1 a ai f b.Ids) (q:RSl (RI .i64) 1 a bj a6 b.Hits) (k:a b6=some (.cells #[iV c] 3 (0,0))) {r:Bool} (h:iz N b c=some r) :
  CB w0 prog 140 [.agg [f,a6].toArray,pQ b6] (.bool r):=by
 refine eN func140 J ntmps140 J w0 fun m=>?_
 unfold iz at h
 refine sr<|lbx J fun s=>arr 6 [0,0] J<|lhx 0 0 (cn k) J<|qd h (qF N · b.Ids c i ·) J J J fun t h=>la J<|en ?_
 exact rt m h
theorem xT (w0:aA a d [ob g,b5,ob j,ad].flatten) (q:bf) (O:bH) (y:aJ) (t:ae) (u:Int) (ao:RSl eK 5 a ai f q.Rules) (bV:RSl cF 4 a b3 n O.Alphas) (aq:RSl ei 2 a b4 l O.Chains) (aa:OSl bb 133 1 d b5 g y.Alphas) (z:OSl aZ 100 1 d ad j y.Rules) (aM:RSl br 3 a b7 o t.Items) {r:(List bk) × (List aH)} (h:mZ N q O y t u=some r) :
  Calls prog 71 [.agg [.string q.Name,f].toArray,.agg [n,l].toArray,.agg [g,j].toArray,.agg [o,iV t.Next].toArray,iV u].toArray w0.w (bc d w0.w [ob g,b5,ob j,ad].flatten (fun aN Fs v=>∃ (aO:List Nat) (aP:List Nat),v = .tuple #[]∧Fs=[ob g,aO,ob j,aP]∧OSl bb 133 1 aN aO g r.1∧OSl aZ 100 1 aN aP j r.2)):=by
 refine eL func71 J ntmps71 J (L:=[ob g,b5,ob j,ad]) w0 (fun hF=>?_)
 unfold mZ at h
 refine sr<|lbx J fun B=>lbx J fun E=>lbx J fun G=>lbx J fun H=>?_
 refine ln (vD (C:=#[iV u]) J (J)) J (fun b=>?_)
 refine en<|sr ?_
 refine WL.frz (js:=[0]) (R:=[(H,.cells #[o,iV t.Next] 29 (0,0)),(G,.cells #[g,j] 35 (0,0)),(E,.cells #[n,l] 47 (0,0)),(B,.cells #[.string q.Name,f] 26 (0,0))]) J (fun b2 aQ k1=>?_)
 replace aa:=aa.f0 aQ
 replace z:=z.f0 aQ
 refine lq (uY J) J<|arr 7 [0,32] J<|lno aa J<|art 3 [] J ?_
 refine lin (σ:=Hp × (List bk) × List Nat × Int) (fun s=>[(5,pQ B),(6,pQ E),(7,pQ G),(8,pQ H),(9,pQ b),(10,.func (.func 137) #[] [pQ b].toArray),(18,iV (y.Alphas.length:Int)),(19,iV s.2.2.2)]) (fun s=>St w0 s.1 [(H,.cells #[o,iV t.Next] 29 (0,0)),(G,.cells #[g,j] 35 (0,0)),(E,.cells #[n,l] 47 (0,0)),(B,.cells #[.string q.Name,f] 26 (0,0))] [[b],ob g,s.2.2.1,ob j,ad]) (fun m s=>fw N q O y t u m s.2.1 s.2.2.2=some r∧(OSl bb 133 1 s.1 s.2.2.1 g s.2.1)∧(OSl aZ 100 1 s.1 ad j y.Rules)∧(s.1 b=some (.cells #[iV u] 3 (0,0)))) (b2,y.Alphas,b5,0) N ⟨h,aa,z,k1⟩ (sx [0,0,0,0,0] [0,0,0,0]) (fun n1 bd s hm=>?_)
 obtain⟨av,s1,w,s2⟩:=s
 obtain⟨h,k,z,P⟩:=hm
 dsimp only at h k z P ⊢
 unfold fw at h
 refine att 5 [] J ?_
 refine ch h J ?_ ?_<;>intro h
 ·refine att 8 [] J ?_
  obtain⟨x1,aw,h⟩:=bs h
  obtain⟨bW,F1,D2,h1,r1,ax,be⟩:=k.focus aw
  obtain⟨v1,rfl,rfl,h2⟩:=r1
  refine wtL [ob v1,D2,[b],ob g,ob j,ad] (sre [2] [ob v1,D2] J (by simpa[gi] using be))<|WT.mix (Kn w0 av (ob g) [(H,.cells #[o,iV t.Next] 29 (0,0)),(G,.cells #[g,j] 35 (0,0)),(E,.cells #[n,l] 47 (0,0)),(B,.cells #[.string q.Name,f] 26 (0,0))]) (fun i=>match i with | 13=>false | _=>true) mixed (fun _ h=>h.drew)<|mq 0 J OU (kn Kf.id (am [0,1,2,3] J)) (au jq J) J ?_
  refine mq 1 J OU (kn Kf.id (am [0,1,2,3] J)) (aW yx J (fun c hw=>hw.rgO (i:=1) J 0 1 [g] J)) J<|ma 2 J OU (kn Kf.id (am [0,1,2,3] J)) J<|mq 3 J OU (kn Kf.id (am [0,1,2,3] J)) (au jq J) J<|mq 4 J OU (kn Kf.id (am [0,1,2,3] J)) (aW yx J (fun c hw=>hw.rgO (i:=1) J 0 1 [g] J)) J<|ma 5 J OU (kn Kf.id (am [0,1,2,3] J)) J<|mq 6 J OU (kn Kf.id (am [0,1,2,3] J)) (bT rn J J h1 aw) J ?_
  refine mq 7 J OU (kn Kf.id (am [0,1,2,3] J)) (au jx J) J<|mq 8 J OU (kn Kf.id (am [0,1,2,3] J)) (aW sR J (fun c hw=>hw.rg h1.hb (h1.rg.of_eq 0 1 J J:rg _ _ _ [v1]))) J<|ma 9 J OU (kn Kf.id (am [0,1,2,3] J)) J ?_
  obtain⟨x2,bg,h⟩:=bs h
  refine WM.one 10 OU (mc J (fun _ v aR D c K hw=>Kn.of (Kf.id.st K.2.1 (K.1.r (i:=2) J)) (am [0,1,2,3] J) hw) (bJ (js:=[0]) (R:=[D2,[b],ob g,ob j,ad]) K8 J J (fun c hw ap W=>ph N (bx hw ap W) x1.L (fun a0=>jW N a0 u) h2 KE (fun az aC a0=>fun hr=>vr N (ba aC) a0 u  (az _ _ ((ap.q 1 J) _ OW) P) hr)  bg)) J ?_)
  rintro v2 bX F2 ⟨X,ab,v3,rfl,rfl,h3⟩
  replace h1:=h1.fr ab (X.q 2 J) (X.q 0 J)
  replace z:=z.fr ab (X.q 3 J) (X.q 4 J)
  replace P:=ab _ _ ((X.q 1 J) _ OW) P
  have ax:=(Kf.id (F:=(ob g)):Kf av _ _).st ab (X.q 2 J)
  refine mqT 11 [12,13] J OU (kn ax (am [0,1,2,3] J)) (bT rn J J h1 aw) J<|mq 12 J OU (kn ax (am [0,1,2,3] J)) (au jx J) J ?_
  refine WM.one 13 OU (mu J (fun Z=>by cases Z) (us [3] [ob v2,D2,[b],ob j,ad] 0 bb.lasts sO J J h3.one J h1 J (fun ap=>ap.q 1 J)) J ?_)
  rintro bh D3 ⟨⟨af,aD⟩,h4⟩
  replace z:=z.fr aD (af.q 3 J) (af.q 4 J)
  replace h3:=h3.fr aD (af.q 0 J) dN
  replace P:=aD _ _ ((af.q 2 J) _ OW) P
  refine WM.nil OU<|att 5 [] J ?_
  have r2:bb bh _ [v2] (⟨x2⟩:bk):=⟨v2,J,J,h3⟩
  obtain⟨D4,h5,bl⟩:=h4.unfocus r2 (bb.knows _ _ _ _ r2)
  refine wtL [D4,ob g,[b],ob j,ad] (smg [1,1] J (by simpa[gi,cK] using bl)) ?_
  exact lb [2,1,0,0,0] [0,0,0,0] (bd (_,_,_,_) ⟨h,h5,z,P⟩)
 refine atr 5 [1,32] J<|lno z J<|art 3 [] J ?_
 refine lin (σ:=Hp × (List aH) × List Nat × Int) (fun s=>[(5,pQ B),(6,pQ E),(7,pQ G),(8,pQ H),(9,pQ b),(37,j),(38,iV (y.Rules.length:Int)),(39,iV s.2.2.2)]) (fun s=>St w0 s.1 [(H,.cells #[o,iV t.Next] 29 (0,0)),(G,.cells #[g,j] 35 (0,0)),(E,.cells #[n,l] 47 (0,0)),(B,.cells #[.string q.Name,f] 26 (0,0))] [[b],ob g,w,ob j,s.2.2.1]) (fun m s=>eB N q O y t u s1 m s.2.1 s.2.2.2=some r∧(OSl bb 133 1 s.1 w g s1)∧(OSl aZ 100 1 s.1 s.2.2.1 j s.2.1)∧(s.1 b=some (.cells #[iV u] 3 (0,0)))) (av,y.Rules,ad,0) N ⟨h,k,z,P⟩ (sx [0,0,0,0,0] [0,0,0,0]) (fun n2 bm s hm=>?_)
 obtain⟨bn,s3,D5,s4⟩:=s
 obtain⟨h,k,k4,k5⟩:=hm
 dsimp only at h k k4 k5 ⊢
 unfold eB at h
 refine att 5 [] J ?_
 refine ch h J ?_ ?_<;>intro h
 ·refine atr 6 [] J ?_
  obtain⟨x3,aT,h⟩:=bs h
  obtain⟨bY,F3,A,h6,r3,aF,bo⟩:=k4.focus aT
  obtain⟨v4,D7,rfl,rfl,h7⟩:=r3
  refine wlL [ob v4,D7,A,[b],ob g,w,ob j] (sre [4] [ob v4,D7,A] J (by simpa[gi] using bo))<|lih h6 aT J<|lgx 0 1 h6.rg J ?_
  refine ln (iu (C:=#[.slice none 0 0]) ny J) J (fun a1=>?_)
  refine la J<|soN 0 ve J ⟨h7.one,trivial⟩ J ?_
  refine arr 6 [0,0] J<|lno h7 J<|art 3 [] J ?_
  refine lin (σ:=Hp × (List ar) × List Nat × Int) (fun s=>[(5,pQ B),(6,pQ E),(7,pQ G),(8,pQ H),(9,pQ b),(12,iV s4),(13,pQ a1),(37,j),(38,iV (y.Rules.length:Int)),(39,iV s4),(46,iV (x3.Levels.length:Int)),(47,iV s.2.2.2)]) (fun s=>St w0 s.1 [(a1,.cells #[v4] 100 (0,0)),(H,.cells #[o,iV t.Next] 29 (0,0)),(G,.cells #[g,j] 35 (0,0)),(E,.cells #[n,l] 47 (0,0)),(B,.cells #[.string q.Name,f] 26 (0,0))] [ob v4,s.2.2.1,A,[b],ob g,w,ob j]) (fun m s=>fq N q O t u s1 s3 s4 (eB N q O y t u s1 n2) x3 m s.2.1 s.2.2.2=some r∧(OSl bb 133 1 s.1 w g s1)∧(OSl aS 103 1 s.1 s.2.2.1 v4 s.2.1)∧(s.1 b=some (.cells #[iV u] 3 (0,0)))∧(HSl aZ 100 1 s.1 A j s3 s4.toNat [v4])) (bn,x3.Levels,D7,0) N ⟨h,k,h7,k5,h6⟩ (sx [0,0,0,0,0,0,0] [0,0,0,0,0]) (fun n3 bp s hm=>?_)
  obtain⟨ag,s5,D8,s6⟩:=s
  obtain⟨h,k,k7,x,I⟩:=hm
  dsimp only at h k k7 x I ⊢
  unfold fq at h
  refine att 5 [] J ?_
  refine ch h J ?_ ?_<;>intro h
  ·refine att 8 [] J ?_
   obtain⟨x4,aG,h⟩:=bs h
   obtain⟨bZ,F4,D9,T,r4,c0,bq⟩:=k7.focus aG
   obtain⟨v5,aU,rfl,rfl,h9⟩:=r4
   refine wtL [ob v5,aU,D9,ob v4,A,[b],ob g,w,ob j] (sre [1] [ob v5,aU,D9] J (by simpa[gi] using bq))<|WT.mix (Kn w0 ag (ob v4) [(a1,.cells #[v4] 100 (0,0)),(H,.cells #[o,iV t.Next] 29 (0,0)),(G,.cells #[g,j] 35 (0,0)),(E,.cells #[n,l] 47 (0,0)),(B,.cells #[.string q.Name,f] 26 (0,0))]) (fun i=>match i with | 13=>false | _=>true) mixed (fun _ h=>h.drew)<|mq 0 J OU (kn Kf.id (am [0,1,2,3,4] J)) (au iA J) J ?_
   refine mq 1 J OU (kn Kf.id (am [0,1,2,3,4] J)) (aW AX J (fun c hw=>hw.rgO (i:=0) J 0 1 [v4] J)) J<|ma 2 J OU (kn Kf.id (am [0,1,2,3,4] J)) J<|mq 3 J OU (kn Kf.id (am [0,1,2,3,4] J)) (au iA J) J<|mq 4 J OU (kn Kf.id (am [0,1,2,3,4] J)) (aW AX J (fun c hw=>hw.rgO (i:=0) J 0 1 [v4] J)) J<|ma 5 J OU (kn Kf.id (am [0,1,2,3,4] J)) J ?_
   refine mq 6 J OU (kn Kf.id (am [0,1,2,3,4] J)) (bT qf J J T aG) J<|mq 7 J OU (kn Kf.id (am [0,1,2,3,4] J)) (au fk J) J<|mq 8 J OU (kn Kf.id (am [0,1,2,3,4] J)) (aW xk J (fun c hw=>hw.rg T.hb (T.rg.of_eq 0 1 J J:rg _ _ _ [v5]))) J<|mq 9 J OU (kn Kf.id (am [0,1,2,3,4] J)) (uY J) J ?_
   obtain⟨x5,bt,h⟩:=bs h
   refine WM.one 10 OU (mc J (fun _ v aR D c K hw=>Kn.of (Kf.id.st K.2.1 (K.1.r (i:=1) J)) (am [0,1,2,3,4] J) hw) (bJ (js:=[0,0]) (R:=[D9,ob v4,A,[b],ob g,w,ob j]) Jr J J (fun c hw ap W=>nu N (bx hw ap W) x4.Toks (fun a0=>iz N a0 u) h9 Jx (fun az aC a0=>fun f0 f1=>fun hr=>vf N (ba aC) a0 u f0 f1 (az _ _ ((ap.q 3 J) _ OW) x) hr)  bt)) J ?_)
   rintro v6 c3 F5 ⟨Q,a7,v7,aV,rfl,rfl,ah⟩
   replace k:=k.fr a7 (Q.q 4 J) (Q.q 5 J)
   replace I:=I.fr a7 (Q.q 6 J) (Q.q 2 J)
   replace T:=T.fr a7 (Q.q 1 J) (Q.q 0 J)
   replace x:=a7 _ _ ((Q.q 3 J) _ OW) x
   have aF:=(Kf.id (F:=(ob v4)):Kf ag _ _).st a7 (Q.q 1 J)
   refine mqT 11 [12,13] J OU (kn aF (am [0,1,2,3,4] J)) (bT qf J J T aG) J<|mq 12 J OU (kn aF (am [0,1,2,3,4] J)) (au fk J) J ?_
   refine WM.one 13 OU (mu J (fun Z=>by cases Z) (us [3] [ob v6,aV,D9,A,[b],ob g,w,ob j] 0 aS.lasts zB J J ah.one J T J (fun ap=>ap.q 2 J)) J ?_)
   rintro bu c4 ⟨⟨U,ak⟩,bw⟩
   replace k:=k.fr ak (U.q 5 J) (U.q 6 J)
   replace I:=I.fr ak (U.q 7 J) (U.q 3 J)
   replace ah:=ah.fr ak (U.q 0 J) (U.q 1 J)
   replace x:=ak _ _ ((U.q 4 J) _ OW) x
   refine WM.nil OU<|att 5 [] J ?_
   have r5:aS bu _ [v6] (⟨x5⟩:ar):=⟨v6,aV,J,J,ah⟩
   obtain⟨bz,bA,bB⟩:=bw.unfocus r5 (aS.knows _ _ _ _ r5)
   refine wtL [bz,ob v4,A,[b],ob g,w,ob j] (smg [1,1,1] J (by simpa[gi,cK] using bB)) ?_
   exact lb [1,0,0,0,0,0,0] [0,0,0,0,0] (bp (_,_,_,_) ⟨h,k,bA,x,I⟩)
  refine xt J<|WT.mix (Kn w0 ag ([b]++ob v4) [(a1,.cells #[v4] 100 (0,0)),(H,.cells #[o,iV t.Next] 29 (0,0)),(G,.cells #[g,j] 35 (0,0)),(E,.cells #[n,l] 47 (0,0)),(B,.cells #[.string q.Name,f] 26 (0,0))]) (fun i=>match i with | 16=>false | _=>true) mixed (fun _ h=>h.drew)<|mqT 0 [6,16] J OU (kn Kf.id (am [0,1,2,3,4] J)) (ay CJ J (fun c hw=>hw.rgO (i:=4) J 0 2 [.string q.Name,f] J) J) J ?_
  refine mqT 1 [6,16] J OU (kn Kf.id (am [0,1,2,3,4] J)) (ay Da J (fun c hw=>hw.rgO (i:=3) J 0 2 [n,l] J) J) J<|mqT 2 [6,16] J OU (kn Kf.id (am [0,1,2,3,4] J)) (ay uO J (fun c hw=>hw.rgO (i:=2) J 0 2 [g,j] J) J) J<|mqT 3 [6,16] J OU (kn Kf.id (am [0,1,2,3,4] J)) (ay oV J (fun c hw=>hw.rgO (i:=1) J 0 2 [o,iV t.Next] J) J) J ?_
  refine mqT 4 [6,16] J OU (kn Kf.id (am [0,1,2,3,4] J)) (aW tQ J (fun c hw=>hw.rg (gf.2 (.inl OW)) ((cn x).of_eq 0 1 J J:rg _ _ _ [iV u]))) J<|mqT 5 [6,16] J OU (kn Kf.id (am [0,1,2,3,4] J)) (jv J) J<|mqT 7 [8,13,14,15,16] J OU (kn Kf.id (am [0,1,2,3,4] J)) (au iA J) J<|mqT 8 [13,14,15,16] J OU (kn Kf.id (am [0,1,2,3,4] J)) (aW AX J (fun c hw=>hw.rgO (i:=0) J 0 1 [v4] J)) J ?_
  refine mqT 9 [10,11,12,13,14,15,16] J OU (kn Kf.id (am [0,1,2,3,4] J)) (au iA J) J<|mqT 10 [11,12,13,14,15,16] J OU (kn Kf.id (am [0,1,2,3,4] J)) (aW AX J (fun c hw=>hw.rgO (i:=0) J 0 1 [v4] J)) J<|mqT 11 [12,13,14,15,16] J OU (kn Kf.id (am [0,1,2,3,4] J)) (mm qf J J (k7.rslG aS.gives)) J<|mqT 12 [13,14,15,16] J OU (kn Kf.id (am [0,1,2,3,4] J)) (Ct J J) J ?_
  obtain⟨x6,aX,h⟩:=bs h
  obtain⟨c5,F6,al,S,r6,c6,bC⟩:=k7.focus aX
  obtain⟨Y,aI,rfl,rfl,aL⟩:=r6
  refine WM.conv (S':=St w0 ag [(a1,.cells #[v4] 100 (0,0)),(H,.cells #[o,iV t.Next] 29 (0,0)),(G,.cells #[g,j] 35 (0,0)),(E,.cells #[n,l] 47 (0,0)),(B,.cells #[.string q.Name,f] 26 (0,0))] [ob Y,aI,al,ob v4,A,[b],ob g,w,ob j]) (fun c hw=>hw.re (js:=[1]) (Bs:=[ob Y,aI,al]) J (by simpa[gi] using bC))<|mqT 13 [14,15,16] J OU (kn Kf.id (am [0,1,2,3,4] J)) (bT qf J J S aX) J ?_
  refine mqT 14 [15,16] J OU (kn Kf.id (am [0,1,2,3,4] J)) (au fk J) J<|mq 15 J OU (kn Kf.id (am [0,1,2,3,4] J)) (aW xk J (fun c hw=>hw.rg (gf.2 (.inr S.hb)) (S.rg.of_eq 0 1 J J:rg _ _ _ [Y]))) J ?_
  obtain⟨x7,bD,h⟩:=bs h
  refine WM.one 6 OU (mc J (fun _ v aR D c K hw=>Kn.of (Kf.id.st K.2.1 (Dj.app (K.1.r (i:=5) J) (K.1.r (i:=3) J))) (am [0,1,2,3,4] J) hw) (bJ (js:=[]) (R:=[ob Y,aI,al,ob v4,A,[b],ob g,w,ob j]) Kk J J (fun c hw ap W=>sZ N (ba hw.fro) q O (⟨s1,s3⟩:aJ) t u s4 (ao.y hw.up) (aq.y hw.up) (k.rslG bb.gives) (aM.y hw.up)  bD)) J ?_)
  rintro v9 c7 F7 ⟨M,a8,v10,c8,v11,c9,v12,G1,ca,G2,cb,G3,cc,G4,rfl,rfl,bE,i1,bF,i2,bG,i3,bI,i4,bK,i5,bL,i6⟩
  replace k:=k.fr a8 (M.q 6 J) (M.q 7 J)
  replace I:=I.fr a8 (M.q 8 J) (M.q 4 J)
  replace S:=S.fr a8 (M.q 3 J) (M.q 2 J)
  replace aL:=aL.fr a8 (M.q 0 J) (M.q 1 J)
  replace x:=a8 _ _ ((M.q 5 J) _ OW) x
  obtain⟨x8,bM,h⟩:=bs h
  refine WM.one 16 OU (mc J (fun Z=>by cases Z) (bJ (js:=[2,2]) (R:=[ob v10,ob v11,al,ob v4,A,[b],ob g,w,ob j]) FC J J (fun c hw ap W=>oW N (bx hw ap W) x7 x6.Toks (-1) (bE.rsl.x (Dj.app (ap.q 0 J) (Dj.sub (ap.o ao.old) i1))) (bF.rsl.x (Dj.app (ap.q 1 J) (Dj.sub (ap.o ao.old) i2))) (bG.x (Dj.sub (ap.o aq.old) i3)) (bI.x (Dj.sub (ap.o aq.old) i4)) (bK.x (Dj.sub (Dj.app (ap.q 6 J) (ap.q 7 J)) i5)) (bL.x (Dj.sub (ap.o aM.old) i6)) aL  bM)) J ?_)
  rintro cd aY F8 ⟨V,an,bN,rfl,rfl,bO⟩
  replace k:=k.fr an (V.q 6 J) (V.q 7 J)
  replace I:=I.fr an (V.q 8 J) (V.q 4 J)
  replace S:=S.fr an (V.q 3 J) (V.q 2 J)
  replace x:=an _ _ ((V.q 5 J) _ OW) x
  refine WM.nil OU<|att 5 [] J ?_
  have r7:aS aY _ [Y] (⟨x8⟩:ar):=⟨Y,bN,J,J,bO⟩
  obtain⟨b1,bP,bQ⟩:=S.unfocus r7 (aS.knows _ _ _ _ r7)
  refine wtL [b1,ob v10,ob v11,ob v4,A,[b],ob g,w,ob j] (smg [0,0,2] J (by simpa[gi,cK] using bQ)) ?_
  have r8:aZ aY _ [v4] (⟨(s5.set (wz ((s5.length:Int) - 1)).toNat (⟨x8⟩:ar))⟩:aH):=⟨v4,b1,J,J,bP⟩
  obtain⟨bR,bS,bU⟩:=I.unfocus r8 (aZ.knows _ _ _ _ r8)
  refine wtL [bR,ob v10,ob v11,[b],ob g,w,ob j] (smg [3,0,2] J (by simpa[gi,cK] using bU)) ?_
  exact lb [3,3,3,3,0] [1,1,1,1] (bm (_,_,_,_) ⟨h,k,bS,x⟩)
 refine xt J ?_
 refine WT.fin hF aB.none (fun c hw=>?_)
 cases h
 refine aK (js:=[1,1,1,1]) hw J ⟨w,D5,J,J,k,k4⟩
theorem xX (w0:aA a d []) (c:bf) (k:bH) (m:aJ) (t:ae) (u:Int) (C:RSl eK 5 a ai f c.Rules) (D:RSl cF 4 a b3 n k.Alphas) (E:RSl ei 2 a b4 l k.Chains) (F:RSl iv 1 a b9 g m.Alphas) (G:RSl lH 1 a b8 j m.Rules) (H:RSl br 3 a b7 o t.Items) {r:aJ} (h:n8 N c k m t u=some r) :
  Calls prog 25 [.agg [.string c.Name,f].toArray,.agg [n,l].toArray,.agg [g,j].toArray,.agg [o,iV t.Next].toArray,iV u].toArray w0.w (bc d w0.w [] (fun I Fs v=>∃ (w:Value) (L:List Nat) (x:Value) (M:List Nat),v = .agg [w,x].toArray∧Fs=[ob w,L,ob x,M]∧OSl bb 133 1 I L w r.Alphas∧OSl aZ 100 1 I M x r.Rules)):=by
 refine eN func25 J ntmps25 J w0 fun Q=>?_
 unfold n8 at h
 refine sr<|lbx J fun X=>lbx J fun Y=>lbx J fun Z=>lbx J fun a1=>lnz mM J fun O=>arr 4 [66] J<|kab h J J J (fun b z q=>tN N b m (F.y z) (G.y z) q) ?_
 rintro R h v1 a7 F1 ⟨a8,aa,v2,D1,v3,D2,rfl,rfl,h1,y⟩
 refine lnz mM J fun P=>soN 0 oC J ⟨h1.one,y.one,trivial⟩ J ?_
 refine arr 9 [162,130,98,66] J<|qd h (uL N · c k m t u C D E F G H ·) J J J fun x2 h=>en ?_
 refine cut (σ:=Hp × (List bk) × List Nat × (List aH) × List Nat) (fun s=>[(10,pQ O),(11,pQ P)]) (fun s=>St w0 s.1 [(P,.cells #[v2,v3] 35 (0,0)),(O,.cells #[.slice none 0 0,.slice none 0 0] 35 (0,0))] [ob v2,s.2.2.1,ob v3,s.2.2.2.2]) (fun s=>jX N s.2.1 s.2.2.2.1=some r∧(OSl bb 133 1 s.1 s.2.2.1 v2 s.2.1)∧(OSl aZ 100 1 s.1 s.2.2.2.2 v3 s.2.2.2.1)) (fun s hm=>?_) (fun K=>?_)
 ·clear h
  obtain⟨ab,s1,S,s2,T⟩:=s
  obtain⟨h,A,B⟩:=hm
  dsimp only at h A B ⊢
  unfold jX at h
  refine atr 3 [2] J<|soN 1 oC J ⟨A.one,B.one,trivial⟩ J ?_
  refine en ?_
  exact rtg [0,0,0,0] Q (aB.one (bd uO J (fun U hw=>hw.rgO (i:=1) J 0 2 [v2,v3] J) J)) J (by cases h;exact fun U hw=>⟨v2,S,v3,T,rfl,rfl,A,B⟩)
 refine ch h J ?_ ?_<;>intro h
 ·refine atr 6 [162,130,2,66] J<|kcb [0,0,0,0] h J J J J (fun b ap z q=>xT N b c k R t u (C.y z) (D.y z) (E.y z) h1 y (H.y z) q) ?_
  rintro x3 h v4 af F2 ⟨ag,ah,D5,D6,rfl,rfl,V,W⟩
  refine en ?_
  exact wo [0,0,0,0] [0,0] (K (_,_,_,_,_) ⟨h,V,W⟩)
 refine WT.skip ?_
 exact wo [0,0,0,0] [0,0] (K (_,_,_,_,_) ⟨h,h1,y⟩)
theorem wW (w0:aA a d []) (k:ae) (A:RSl br 3 a ai f k.Items) {r:ae} (h:lU N k=some r) :
  Calls prog 62 [.agg [f,iV k.Next].toArray].toArray w0.w (bc d w0.w [] (fun Q Fs v=>∃ (B:Value) (F:List Nat),v = .agg [B,iV r.Next].toArray∧Fs=[ob B,F]∧OSl cM 66 3 Q F B r.Items)):=by
 refine eN func62 J ntmps62 J w0 fun S=>?_
 unfold lU at h
 refine sr<|lbx J fun ag=>lnz sU J fun y=>arr 5 [1,32] J<|lq (bE (vs:=[(1,iV k.Next)]) (C:=#[.slice none 0 0,iV k.Next]) I3 sU J (aa (C':=[.slice none 0 0,iV k.Next]) J J J J J (af))) J<|lnz sU J fun z=>soN 0 vF J ⟨J,J,trivial⟩ J ?_
 refine arr 6 [0,64] J<|lnr A J<|art 3 [] J<|wtS<|wt0 ?_
 have T:=OSl.nil cM 66 3 d
 refine lin (σ:=Hp × (List ak) × Value × List Nat × Int) (fun s=>[(2,pQ y),(3,pQ z),(10,f),(11,iV (k.Items.length:Int)),(12,iV s.2.2.2.2)]) (fun s=>St w0 s.1 [(z,.cells #[s.2.2.1,iV k.Next] 29 (0,0)),(y,.cells #[.slice none 0 0,iV 0] 29 (0,0))] [s.2.2.2.1,ob s.2.2.1]) (fun m s=>fE N k m s.2.1 s.2.2.2.2=some r∧(OSl cM 66 3 s.1 s.2.2.2.1 s.2.2.1 s.2.1)) (d,([]:List ak),(.slice none 0 0),[],0) N ⟨h,T⟩ (sx [0,0] [0,0]) (fun n1 U s hm=>?_)
 obtain⟨ah,s1,w,x,s2⟩:=s
 obtain⟨h,t⟩:=hm
 dsimp only at h t ⊢
 unfold fE at h
 refine att 5 [] J ?_
 refine ch h J ?_ ?_<;>intro h
 ·refine atr 5 [] J ?_
  obtain⟨b,G,h⟩:=bs h
  obtain⟨al,F1,-,g1,an,ao,V⟩:=A.el (a8 G).2.2
  obtain⟨v1,G1,rfl,W,h1⟩:=V
  obtain rfl:=W.symm
  refine lia A G J<|lhx 0 3 g1 J<|lnz qM J fun H=>soN 0 xF J ⟨J,J,h1.one,trivial⟩ J ?_
  refine en<|wm [0,1,2] [11] J<|amm 6 [0,0,1,32,2,0,3,0,4,1,5,2] [0,1,2] J J ?_
  obtain⟨q,X,h⟩:=bs h
  refine WM.one 6 OU (mc J (fun _ v I D u K hw=>Kn.of Kf.nil (ai3 0 1 2 J J J) hw) (bJ (js:=[]) (R:=[x,ob w]) KC J J (fun u hw ap hl=>sV N (ba hw.fro) b.F (h1.y hw.up)  X)) J ?_)
  rintro v2 Y F2 ⟨L,Z,v3,rfl,rfl,h2⟩
  replace t:=t.fr Z (L.q 1 J) (L.q 0 J)
  refine mq 7 J OU (kN [0,1,2]) (bE (vs:=[(0,iV b.Id),(1,.agg [.string q.Kind,v3].toArray)]) (C:=#[iV b.Id,.string q.Kind,v3]) Lo qM J (aa (C':=[iV b.Id,.string ⟨#[]⟩,.slice none 0 0]) J J J J J (aa (C':=[iV b.Id,.string q.Kind,v3]) J J J J J (af)))) J ?_
  have M:RC cM 3 Y ([(ob v3++[])]:List (List Nat)) [iV b.Id,.string q.Kind,v3] ([(⟨b.Id,q⟩:ak)]:List ak):=RC.cons (c:=[iV b.Id,.string q.Kind,v3]) (cells:=[]) ⟨v3,J,J,h2⟩ J (RC.nil _ _ _)
  refine WM.one 8 OU (me J (fun _ v I D u K hw=>Kn.of Kf.nil (ai3 0 1 2 J J J) hw) (bC (vs:=[(0,.agg [iV b.Id,.string q.Kind,v3].toArray)]) (C:=#[iV b.Id,.string q.Kind,v3]) cM.lasts np qM J J J J (av Bd (aa (C':=[iV b.Id,.string q.Kind,v3]) J J J J J (af))) J M J (RC.kn cM.knows M)) J ?_)
  rintro v4 O D2 ⟨a1,E⟩
  replace E:OSl cM 66 3 O ((ob v3++[])) v4 ([(⟨b.Id,q⟩:ak)]:List ak):=by simpa[gi] using E
  replace t:=t.f0 a1
  refine WM.conv (S':=St w0 O [(H,.cells #[iV b.Id,.string b.F.Kind,v1] 66 (0,0)),(z,.cells #[w,iV k.Next] 29 (0,0)),(y,.cells #[.slice none 0 0,iV 0] 29 (0,0))] [((ob v3++[])),ob v4,x,ob w]) (fun u hw=>hw.merge (js:=[1]) J (SP.eq (by simp[gi,cK]))) ?_
  obtain⟨x3,a7,h⟩:=bs h
  refine WM.one 9 OU (me J (fun _ v I D u K hw=>Kn.of Kf.nil (ai3 0 1 2 J J J) hw) (em cM.lasts cM.one np EW J J J J J (js:=[3]) (Rr:=[((ob v3++[])),ob v4,x]) J t E (fun ap=>ap.q 2 J) (fun ap=>ap.q 0 J) a7) J ?_)
  rintro v5 ab D3 ⟨⟨aq,ar⟩,P⟩
  refine WM.conv (S':=St w0 ab [(H,.cells #[iV b.Id,.string b.F.Kind,v1] 66 (0,0)),(z,.cells #[w,iV k.Next] 29 (0,0)),(y,.cells #[.slice none 0 0,iV 0] 29 (0,0))] [(x++((ob v3++[]))),ob v5,ob v4]) (fun u hw=>hw.merge (js:=[3,1]) J (SP.eq OW))<|amm 1 [10,0] [0,1,2] J J ?_
  refine on1 11 (ms1 1 J nk FT J P.one ?_)
  refine WM.nil OU<|att 5 [] J ?_
  exact lb [0,0] [1,1] (U (_,_,_,_,_) ⟨h,P⟩)
 refine atr 4 [2] J<|soN 1 vF J ⟨t.one,J,trivial⟩ J ?_
 refine en ?_
 exact rtg [1,0] S (aB.one (bd oV J (fun u hw=>hw.rgO (i:=1) J 0 2 [w,iV k.Next] J) J)) J (by cases h;exact fun u hw=>⟨w,x,rfl,rfl,t⟩)
theorem tO (w0:aA a d [[p],ob f,aj].flatten) (b:ae) (q:Int) (c:OSl cM 66 3 d aj f b.Items) (k:d p=some (.cells #[f,iV b.Next] 29 (0,0))) {r:Bool × ae} (h:iQ N b q=some r) :
  Calls prog 72 [pQ p,iV q].toArray w0.w (bc d w0.w [[p],ob f,aj].flatten (fun A Fs v=>∃ (y:Value) (B:List Nat),v = .bool r.1∧Fs=[[p],ob y,B]∧OSl cM 66 3 A B y r.2.Items∧A p=some (.cells #[y,iV r.2.Next] 29 (0,0)))):=by
 refine eL func72 J ntmps72 J (L:=[[p],ob f,aj]) w0 (fun C=>?_)
 unfold iQ at h
 refine atr 8 [] J<|lq (aI J) J<|lf jR J J J<|lgx 0 0 (cn k) J<|lno c J<|art 3 [] J ?_
 refine lin (σ:=Int) (fun s=>[(0,pQ p),(1,iV q),(10,f),(11,iV (b.Items.length:Int)),(12,iV s)]) (fun s=>St w0 d [] [[p],ob f,aj]) (fun m s=>dQ N b q m s=some r) (0) N h (sx [0,0,0] []) (fun Q S s hm=>?_)
 revert hm;revert s;intro s1 hm
 have h:dQ N b q (Q+1) s1=some r:=hm
 show WT _ _ [(0,pQ p),(1,iV q),(10,f),(11,iV (b.Items.length:Int)),(12,iV s1)] (St w0 d [] [[p],ob f,aj])
 unfold dQ at h
 refine att 5 [] J ?_
 refine ch h J ?_ ?_<;>intro h
 ·refine atr 6 [] J ?_
  obtain⟨t,E,h⟩:=bs h
  obtain⟨a1,F1,-,g1,a7,aa,T⟩:=c.elS (a8 E).2.2
  obtain⟨v1,rfl,rfl,h1⟩:=T
  have U:=h1.rsl
  refine lio c E J<|lgx 0 3 g1 J<|lnz qM J fun z=>la J<|soN 0 xF J ⟨J,J,U.one,trivial⟩ J ?_
  refine art 8 [0,0] J ?_
  refine ch h J ?_ ?_<;>intro h
  ·refine sq<|WT.mix (Kn w0 d [p] [(z,.cells #[iV t.Id,.string t.F.Kind,v1] 66 (0,0))]) (fun i=>match i with | 17=>false | _=>true) mixed (fun _ h=>h.drew)<|ma 0 J OU (kn Kf.id (am [0] J)) J<|ma 1 J OU (kn Kf.id (am [0] J)) J<|mq 2 J OU (kn Kf.id (am [0] J)) (aI J) J<|mq 3 J OU (kn Kf.id (am [0] J)) (au jR J) J ?_
   refine mq 4 J OU (kn Kf.id (am [0] J)) (aW IZ J (fun w hw=>hw.rg OW ((cn k).of_eq 0 1 J J:rg _ _ _ [f]))) J<|ma 5 J OU (kn Kf.id (am [0] J)) J ?_
   obtain⟨x2,G,h⟩:=bs h
   refine mq 6 J OU (kn Kf.id (am [0] J)) (If np J J (c.rslG cM.gives) G) J<|ma 7 J OU (kn Kf.id (am [0] J)) J<|mq 8 J OU (kn Kf.id (am [0] J)) (aI J) J<|mq 9 J OU (kn Kf.id (am [0] J)) (au jR J) J<|mq 10 J OU (kn Kf.id (am [0] J)) (aW IZ J (fun w hw=>hw.rg OW ((cn k).of_eq 0 1 J J:rg _ _ _ [f]))) J<|ma 11 J OU (kn Kf.id (am [0] J)) J<|ma 12 J OU (kn Kf.id (am [0] J)) J ?_
   obtain⟨x3,H,h⟩:=bs h
   refine mq 13 J OU (kn Kf.id (am [0] J)) (NQ np J J (c.rslG cM.gives) H) J ?_
   obtain⟨x4,V,h⟩:=bs h
   refine WM.one 14 OU (me J (fun _ v ab D w I hw=>Kn.of (Kf.id.st I.1.2 (I.1.1.r (i:=0) J)) (am [0] J) hw) (ND cM.lasts cM.one np EW J J J J J (js:=[1]) (Rr:=[[p],aj]) J c G H (fun ap=>ap.q 1 J) V) J ?_)
   rintro v2 W x ⟨⟨K,M⟩,X,u⟩
   replace k:=M _ _ ((K.q 0 J) _ OW) k
   refine WM.conv (S':=St w0 W [(z,.cells #[iV t.Id,.string t.F.Kind,v1] 66 (0,0))] [x,ob v2,[p]]) (fun w hw=>hw.merge (js:=[2]) (F:=x) J (by simpa[gi,cK] using X)) ?_
   have O:=(Kf.id (F:=[p]):Kf d _ _).st M (K.q 0 J)
   refine mqT 15 [16,17] J OU (kn O (am [0] J)) (aI J) J<|mq 16 J OU (kn O (am [0] J)) (au jR J) J ?_
   refine WM.thw (js:=[2]) (R:=[x,ob v2]) J k (fun af P Y=>?_)
   replace u:=u.fr Y (P.q 1 J) (P.q 0 J)
   refine on1 17 (ms1 0 J nk FT J u.one ?_)
   refine WM.nil OU<|att 4 [] J ?_
   refine WT.frz (js:=[0]) (R:=[(z,.cells #[iV t.Id,.string t.F.Kind,v1] 66 (0,0))]) J (fun ag Z k1=>?_)
   replace u:=u.f0 Z
   exact rtg [0,1,0] C (aB.one J) J (by cases h;exact fun w hw=>⟨v2,x,rfl,rfl,u,k1⟩)
  refine att 6 [] J ?_
  exact lb [0,0,0] [] (S _ h)
 refine att 5 [] J ?_
 exact rtg [0,0,0] C (aB.one J) J (by cases h;exact fun w hw=>⟨f,aj,rfl,rfl,c,k⟩)
theorem zJ (w0:aA a d []) (m:ae) (y:Int) (F:RSl br 3 a ai f m.Items) {r:ae × Bool} (h:o8 N m y=some r) :
  Calls prog 26 [.agg [f,iV m.Next].toArray,iV y].toArray w0.w (bc d w0.w [] (fun P Fs v=>∃ (A:Value) (G:List Nat),v = .tuple #[.agg [A,iV r.1.Next].toArray,.bool r.2]∧Fs=[ob A,G]∧OSl cM 66 3 P G A r.1.Items)):=by
 refine eN func26 J ntmps26 J w0 fun Q=>?_
 unfold o8 at h
 refine sr<|lbx J fun S=>lnz sU J fun c=>arr 5 [34] J<|kab h J J J (fun b z q=>wW N b m (F.y z) q) ?_
 rintro w h v1 H Y ⟨Z,a1,v2,I,rfl,rfl,h1⟩
 refine lnz sU J fun k=>soN 0 vF J ⟨h1.one,J,trivial⟩ J ?_
 refine arr 4 [66] J<|qd h (n9 N · m F ·) J J J fun x2 h=>la J ?_
 refine WL.cutS 3 (σ:=Hp × (List ak) × Value × List Nat × Bool × Int) (fun s=>[(4,pQ c),(6,pQ k),(15,.bool s.2.2.2.2.1)]) (fun s=>St w0 s.1 [(k,.cells #[s.2.2.1,iV s.2.2.2.2.2] 29 (0,0)),(c,.cells #[.slice none 0 0,iV 0] 29 (0,0))] [ob s.2.2.1,s.2.2.2.1]) (fun s=>ji N s.2.1 s.2.2.2.2.1 s.2.2.2.2.2=some r∧(OSl cM 66 3 s.1 s.2.2.2.1 s.2.2.1 s.2.1)) (fun s hm=>?_) (fun K=>?_)
 ·clear h
  obtain⟨L,s1,t,B,s2,C⟩:=s
  obtain⟨h,x⟩:=hm
  replace h:ji N s1 s2 C=some r:=h
  replace x:OSl cM 66 3 L B t s1:=x
  show WL _ _ _ _ [(4,pQ c),(6,pQ k),(15,.bool s2)] (St w0 L [(k,.cells #[t,iV C] 29 (0,0)),(c,.cells #[.slice none 0 0,iV 0] 29 (0,0))] [ob t,B])
  unfold ji at h
  refine arr 6 [2] J<|soN 1 vF J ⟨x.one,J,trivial⟩ J ?_
  refine la J<|en ?_
  exact rtg [0,0] Q (aB.two (bd oV J (fun T hw=>hw.rgO (i:=1) J 0 2 [t,iV C] J) J) J) J (by cases h;exact fun T hw=>⟨t,B,rfl,rfl,x⟩)
 refine sp 12 h J (fun h=>?_) fun h=>?_
 ·refine ly J J<|la J<|ly J J ?_
  refine WL.frz (js:=[0]) (R:=[(c,.cells #[.slice none 0 0,iV 0] 29 (0,0)),(S,.cells #[f,iV m.Next] 29 (0,0))]) J (fun a7 U V=>?_)
  replace h1:=h1.f0 U
  refine kcb [0,0,0] h J J J J (fun b ap z q=>tO N b w y h1 V q) ?_
  rintro u h v3 a8 F2 ⟨aa,ab,v4,D,rfl,rfl,E,W⟩
  refine la J ?_
  refine WL.thw (js:=[0]) (R:=[ob v4,D]) J W (fun M O X=>?_)
  replace E:=E.fr X (O.q 0 J) (O.q 1 J)
  refine WL.mono (l':=[(4,pQ c),(6,pQ k),(15,.bool u.1)]) (S':=St w0 M [(k,.cells #[v4,iV u.2.Next] 29 (0,0)),(c,.cells #[.slice none 0 0,iV 0] 29 (0,0))] [ob v4,D]) (by exact⟨rfl,rfl,rfl,trivial⟩) (sx [0,0] [0,0]) ?_
  exact K (M,u.2.Items,v4,D,u.1,u.2.Next) ⟨h,E⟩
 refine arr 3 [] J<|WL.mono (l':=[(4,pQ c),(6,pQ k),(15,.bool false)]) (S':=St w0 H [(k,.cells #[v2,iV w.Next] 29 (0,0)),(c,.cells #[.slice none 0 0,iV 0] 29 (0,0))] [ob v2,I]) (by exact⟨rfl,rfl,rfl,trivial⟩) (sx [0,0] [0,0]) ?_
 exact K (H,w.Items,v2,I,false,w.Next) ⟨h,h1⟩
theorem Aa (w0:aA a d []) (p0:(List Int)) (ao:RSl (RI .u8) 1 a b0 e p0) {r:Bool} (h:qj N p0=some r) :
  CB w0 prog 5 [e] (.bool r):=by
 refine eN func5 J ntmps5 J w0 fun hF=>?_
 unfold qj at h
 refine atr 8 [] J<|qd h (E7 N · p0 ao ·) J J J fun x1 h=>en ?_
 refine ch h J ?_ ?_<;>intro h
 ·refine att 4 [] J ?_
  exact rt hF h
 refine atr 4 [] J<|kab h J J J (fun b z q=>yW N b p0 (ao.y z) q) ?_
 rintro c h v1 ay F1 ⟨bl,bm,v2,O,v3,D2,v4,D3,v5,P,v6,Q,v,D6,Z,rfl,rfl,h1,R,i1,S,k,t,i,i2⟩
 refine arr 5 [] J<|lnz yC J fun A=>lnz tl J fun ak=>lnz mM J fun B=>lnz sU J fun C=>soN 3 B1 J ⟨J,h1.one,trivial⟩ J ?_
 refine soN 2 w4 J ⟨R.one,S.one,trivial⟩ J ?_
 refine soN 1 oC J ⟨k.one,t.one,trivial⟩ J ?_
 refine soN 0 vF J ⟨i.one,J,trivial⟩ J ?_
 refine arr 6 [0,0] J<|lno i J<|la J<|en ?_
 refine ch h J ?_ ?_<;>intro h
 ·refine atr 5 [98,34,2] J<|qc h (sN N · c.1 c.2.2.1 c.2.2.2 (h1.rslG d8.gives) (k.rslG bb.gives) (t.rslG aZ.gives) i.rsl ·) J J J fun x4 h=>la J ?_
  refine WL.cutS 7 (σ:=Hp × Bool) (fun s=>[(39,.bool s.2)]) (fun s=>St w0 s.1 [] []) (fun s=>kz N s.2=some r) (fun s hm=>?_) (fun K=>?_)
  ·clear h
   obtain⟨aN,s1⟩:=s
   have h:kz N s1=some r:=hm
   show WL _ _ _ _ [(39,.bool s1)] (St w0 aN [] [])
   unfold kz at h
   refine la J<|en ?_
   exact rt hF h
  refine sp 32 h J (fun h=>?_) fun h=>?_
  ·refine arr 3 [98,34,2] J<|ly J J<|kab h J J J (fun b z q=>p9 N b c.1 c.2.2.1 c.2.2.2 (h1.rslG d8.gives) (k.rslG bb.gives) (t.rslG aZ.gives) i.rsl q) ?_
   rintro x5 h v8 az F2 ⟨bn,bo,v9,D7,rfl,rfl,h7⟩
   refine ly J J<|lno h7 J<|arr 2 [] J<|WL.mono (l':=[(39,.bool (decide ((x5.length:Int)=0)))]) (S':=St w0 az [] []) (by exact⟨rfl,trivial⟩) (sx [] []) ?_
   exact K (az,decide ((x5.length:Int)=0)) h
  refine arr 7 [] J<|WL.mono (l':=[(39,.bool false)]) (S':=St w0 ay [] []) (by exact⟨rfl,trivial⟩) (sx [] []) ?_
  exact K (ay,false) h
 refine att 2 [] J<|WT.draw mixed OU (fun _ h=>h.drew)<|aqq 3 [0,0] J ?_
 obtain⟨x6,aO,h⟩:=bs h
 refine qp (jj Mj J (fun w1 hw=>GJ N (ba hw.in0) p0 2 ao aO)) J<|aqq 2 [0,0] J<|qq (mm np J J i.rsl) J ?_
 obtain⟨x7,aP,h⟩:=bs h
 refine qq (Eu J J aP) J ?_
 obtain⟨T,aB,h⟩:=bs h
 obtain⟨bp,F3,-,g1,bq,bt,r1⟩:=i.elS (a8 aB).2.2
 obtain⟨v10,G1,rfl,aQ,h8⟩:=r1
 obtain rfl:=aQ.symm
 refine qq (aq np J J i.rsl aB) J<|qq (au tq J) J<|qq (aW tQ J (fun w1 hw=>(g1.of_eq 0 1 J J:rg _ _ _ [iV T.Id]).rangeAt hw.fro)) J<|aqr 9 [98,66,34,2] J<|kab h J J J (fun b z q=>xX N b c.1 c.2.1 c.2.2.1 c.2.2.2 T.Id (h1.rslG d8.gives) R.rsl (S.rslG bK.gives) (k.rslG bb.gives) (t.rslG aZ.gives) i.rsl q) ?_
 rintro x9 h v11 bu F4 ⟨D,aa,v12,D8,ab,D9,rfl,rfl,E,F⟩
 replace h1:=h1.fr aa (D.q 0 J) (D.q 1 J)
 replace R:=R.fr aa (D.q 2 J) (Dj.sub (D.q 10 J) i1)
 replace S:=S.fr aa (D.q 3 J) (D.q 4 J)
 replace k:=k.fr aa (D.q 5 J) (D.q 6 J)
 replace t:=t.fr aa (D.q 7 J) (D.q 8 J)
 replace i:=i.fr aa (D.q 9 J) (Dj.sub (D.q 10 J) i2)
 refine lnz mM J fun al=>soN 0 oC J ⟨E.one,F.one,trivial⟩ J ?_
 refine arr 5 [34] J<|kab h J J J (fun b z q=>zJ N b c.2.2.2 T.Id i.rsl q) ?_
 rintro H h bw bx F5 ⟨w,V,ae,ar,rfl,rfl,I⟩
 replace h1:=h1.fr V (w.q 4 J) (w.q 5 J)
 replace R:=R.fr V (w.q 6 J) (Dj.sub (w.q 14 J) i1)
 replace S:=S.fr V (w.q 7 J) (w.q 8 J)
 replace k:=k.fr V (w.q 9 J) (w.q 10 J)
 replace t:=t.fr V (w.q 11 J) (w.q 12 J)
 replace i:=i.fr V (w.q 13 J) (Dj.sub (w.q 14 J) i2)
 replace E:=E.fr V (w.q 0 J) (w.q 1 J)
 replace F:=F.fr V (w.q 2 J) (w.q 3 J)
 refine arr 3 [] J<|lnz sU J fun af=>soN 0 vF J ⟨I.one,J,trivial⟩ J ?_
 refine arr 7 [162,34,2] J<|kab h J J J (fun b z q=>p9 N b c.1 x9 H.1 (h1.rslG d8.gives) (E.rslG bb.gives) (F.rslG aZ.gives) (I.rslG cM.gives) q) ?_
 rintro av h ag aC F6 ⟨u,U,v17,aw,rfl,rfl,L⟩
 replace h1:=h1.fr U (u.q 6 J) (u.q 7 J)
 replace I:=I.fr U (u.q 0 J) (u.q 1 J)
 replace R:=R.fr U (u.q 8 J) (Dj.sub (u.q 16 J) i1)
 replace S:=S.fr U (u.q 9 J) (u.q 10 J)
 replace k:=k.fr U (u.q 11 J) (u.q 12 J)
 replace t:=t.fr U (u.q 13 J) (u.q 14 J)
 replace i:=i.fr U (u.q 15 J) (Dj.sub (u.q 16 J) i2)
 replace E:=E.fr U (u.q 2 J) (u.q 3 J)
 replace F:=F.fr U (u.q 4 J) (u.q 5 J)
 refine art 8 [] J ?_
 refine lin (σ:=Int) (fun s=>[(3,pQ A),(4,pQ ak),(5,pQ B),(6,pQ C),(7,iV T.Id),(8,pQ al),(9,pQ af),(10,.bool H.2),(11,ag),(12,iV s)]) (fun s=>St w0 aC [(af,.cells #[ae,iV H.1.Next] 29 (0,0)),(al,.cells #[v12,ab] 35 (0,0)),(C,.cells #[v,iV c.2.2.2.Next] 29 (0,0)),(B,.cells #[v5,v6] 35 (0,0)),(ak,.cells #[v3,v4] 47 (0,0)),(A,.cells #[.string c.1.Name,v2] 26 (0,0))] [ob ag,aw,ob ae,ar,ob v12,D8,ob ab,D9,ob v2,O,ob v3,ob v4,D3,ob v5,P,ob v6,Q,ob v,Z]) (fun m s=>i8 N c T x9 H av m s=some r) (0) N h (fun w1 hw=>(hw.sel (js:=[0,0,0,0,0,0,0,0,0,0,0,0,0,0,0,0,0,0,0]) J).selO (js:=[0,0,0,0,0,0]) J) (fun n2 aR s hm=>?_)
 revert hm;revert s;intro s2 hm
 have h:i8 N c T x9 H av (n2+1) s2=some r:=hm
 show WT _ _ [(3,pQ A),(4,pQ ak),(5,pQ B),(6,pQ C),(7,iV T.Id),(8,pQ al),(9,pQ af),(10,.bool H.2),(11,ag),(12,iV s2)] (St w0 aC [(af,.cells #[ae,iV H.1.Next] 29 (0,0)),(al,.cells #[v12,ab] 35 (0,0)),(C,.cells #[v,iV c.2.2.2.Next] 29 (0,0)),(B,.cells #[v5,v6] 35 (0,0)),(ak,.cells #[v3,v4] 47 (0,0)),(A,.cells #[.string c.1.Name,v2] 26 (0,0))] [ob ag,aw,ob ae,ar,ob v12,D8,ob ab,D9,ob v2,O,ob v3,ob v4,D3,ob v5,P,ob v6,Q,ob v,Z])
 unfold i8 at h
 refine atr 5 [] J<|lno L J<|la J<|en ?_
 refine ch h J ?_ ?_<;>intro h
 ·refine atr 7 [] J ?_
  obtain⟨aS,aD,h⟩:=bs h
  obtain⟨bz,F7,-,g2,bA,bB,r2⟩:=L.elS (a8 aD).2.2
  obtain⟨bC,bD,rfl,rfl,aT,aU⟩:=r2
  have aV:=aT.rsl
  have bE:=aU.rsl
  refine lio L aD J<|lf Hi J J J<|lgx 1 0 g2 J<|la J<|qc h (Ep N · aS.Ids T.Id aV ·) J J J fun bF h=>en ?_
  refine ch h J ?_ ?_<;>intro h
  ·refine att 4 [] J ?_
   exact rt hF h
  refine att 7 [] J ?_
  exact lb [0,0,0,0,0,0,0,0,0,0,0,0,0,0,0,0,0,0,0] [0,0,0,0,0,0] (aR _ h)
 refine atr 8 [162,130,34,66] J<|kab h J J J (fun b z q=>zi N b c.1 c.2.1 x9 c.2.2.2 T.Id (h1.rslG d8.gives) R.rsl (S.rslG bK.gives) (E.rslG bb.gives) (F.rslG aZ.gives) i.rsl q) ?_
 rintro aX h v20 bG F8 ⟨x,W,v21,aY,v22,b2,rfl,rfl,aF,aG⟩
 replace h1:=h1.fr W (x.q 8 J) (x.q 9 J)
 replace I:=I.fr W (x.q 2 J) (x.q 3 J)
 replace L:=L.fr W (x.q 0 J) (x.q 1 J)
 replace k:=k.fr W (x.q 13 J) (x.q 14 J)
 replace t:=t.fr W (x.q 15 J) (x.q 16 J)
 replace i:=i.fr W (x.q 17 J) (Dj.sub (x.q 18 J) i2)
 replace E:=E.fr W (x.q 4 J) (x.q 5 J)
 replace F:=F.fr W (x.q 6 J) (x.q 7 J)
 refine lnz mM J fun bc=>soN 0 oC J ⟨aF.one,aG.one,trivial⟩ J ?_
 refine arr 6 [194,2,98] J<|kab h J J J (fun b z q=>p9 N b c.1 aX c.2.2.2 (h1.rslG d8.gives) (aF.rslG bb.gives) (aG.rslG aZ.gives) i.rsl q) ?_
 rintro an h v23 ax F9 ⟨y,X,v24,a1,rfl,rfl,M⟩
 replace h1:=h1.fr X (y.q 12 J) (y.q 13 J)
 replace I:=I.fr X (y.q 6 J) (y.q 7 J)
 replace L:=L.fr X (y.q 4 J) (y.q 5 J)
 replace k:=k.fr X (y.q 17 J) (y.q 18 J)
 replace t:=t.fr X (y.q 19 J) (y.q 20 J)
 replace i:=i.fr X (y.q 21 J) (Dj.sub (y.q 22 J) i2)
 replace E:=E.fr X (y.q 8 J) (y.q 9 J)
 replace F:=F.fr X (y.q 10 J) (y.q 11 J)
 refine art 3 [] J<|kEn [3,5,6,8,9,10,11,14] J<|kSt (St w0 ax [(bc,.cells #[v21,v22] 35 (0,0)),(af,.cells #[ae,iV H.1.Next] 29 (0,0)),(al,.cells #[v12,ab] 35 (0,0)),(C,.cells #[v,iV c.2.2.2.Next] 29 (0,0)),(B,.cells #[v5,v6] 35 (0,0)),(ak,.cells #[v3,v4] 47 (0,0)),(A,.cells #[.string c.1.Name,v2] 26 (0,0))] [ob v23,a1,ob v21,aY,ob v22,b2,ob ag,aw,ob ae,ar,ob v12,D8,ob ab,D9,ob v2,O,ob v3,ob v4,D3,ob v5,P,ob v6,Q,ob v,Z])<|atr 3 [] J ?_
 obtain⟨b1,a7,h⟩:=bs h
 refine WL.cutN 5 [(96,.bool b1),(3,pQ A),(5,pQ B),(6,pQ C),(9,pQ af),(11,ag),(14,v23)] ?_ (fun K=>?_)
 rotate_left
 ·refine sp 91 a7 J (fun a7=>?_) fun a7=>?_
  ·refine arr 3 [194,66,34] J<|ly J J<|qc a7 (sN N · c.1 x9 H.1 (h1.rslG d8.gives) (E.rslG bb.gives) (F.rslG aZ.gives) (I.rslG cM.gives) ·) J J J fun bH a7=>la J ?_
   cases a7
   exact ku K
  ·refine arr 5 [] J ?_
   cases a7
   exact ku K
 refine la J ?_
 refine WL.cutS 6 (σ:=Hp × Bool) (fun s=>[(3,pQ A),(5,pQ B),(6,pQ C),(14,v23),(103,.bool s.2)]) (fun s=>St w0 s.1 [(C,.cells #[v,iV c.2.2.2.Next] 29 (0,0)),(B,.cells #[v5,v6] 35 (0,0)),(A,.cells #[.string c.1.Name,v2] 26 (0,0))] [ob v23,a1,ob v2,O,ob v5,P,ob v6,Q,ob v,Z]) (fun s=>ko N c an s.2=some r∧(OSl d8 87 5 s.1 O v2 c.1.Rules)∧(OSl aM 63 3 s.1 a1 v23 an)∧(OSl bb 133 1 s.1 P v5 c.2.2.1.Alphas)∧(OSl aZ 100 1 s.1 Q v6 c.2.2.1.Rules)∧(OSl br 66 3 s.1 D6 v c.2.2.2.Items)) (fun s hm=>?_) (fun K=>?_)
 ·clear h
  obtain⟨Y,s3⟩:=s
  obtain⟨h,h1,M,k,t,i⟩:=hm
  replace h:ko N c an s3=some r:=h
  replace h1:OSl d8 87 5 Y O v2 c.1.Rules:=h1
  replace M:OSl aM 63 3 Y a1 v23 an:=M
  replace k:OSl bb 133 1 Y P v5 c.2.2.1.Alphas:=k
  replace t:OSl aZ 100 1 Y Q v6 c.2.2.1.Rules:=t
  replace i:OSl br 66 3 Y D6 v c.2.2.2.Items:=i
  show WL _ _ _ _ [(3,pQ A),(5,pQ B),(6,pQ C),(14,v23),(103,.bool s3)] (St w0 Y [(C,.cells #[v,iV c.2.2.2.Next] 29 (0,0)),(B,.cells #[v5,v6] 35 (0,0)),(A,.cells #[.string c.1.Name,v2] 26 (0,0))] [ob v23,a1,ob v2,O,ob v5,P,ob v6,Q,ob v,Z])
  unfold ko at h
  refine la J ?_
  refine WL.cutS 7 (σ:=Hp × Bool) (fun s=>[(111,.bool s.2)]) (fun s=>St w0 s.1 [] []) (fun s=>kg N s.2=some r) (fun s hm=>?_) (fun K=>?_)
  ·clear h
   obtain⟨bd,s4⟩:=s
   have h:kg N s4=some r:=hm
   show WL _ _ _ _ [(111,.bool s4)] (St w0 bd [] [])
   unfold kg at h
   refine la J<|en ?_
   exact rt hF h
  refine sp 104 h J (fun h=>?_) fun h=>?_
  ·refine arr 4 [66,34,2] J<|ly J J<|kab h J J J (fun b z q=>p9 N b c.1 c.2.2.1 c.2.2.2 (h1.rslG d8.gives) (k.rslG bb.gives) (t.rslG aZ.gives) i.rsl q) ?_
   rintro be h v25 aH bI ⟨aI,bf,v26,bJ,rfl,rfl,bg⟩
   replace M:=M.fr bf (aI.q 0 J) (aI.q 1 J)
   refine ly J J<|qc h (tP N · an be (M.rslG aM.gives) (bg.rslG aM.gives) ·) J J J fun aJ h=>la J<|WL.mono (l':=[(111,.bool aJ)]) (S':=St w0 aH [] []) (by exact⟨rfl,trivial⟩) (sx [] []) ?_
   exact K (aH,aJ) h
  refine arr 7 [] J<|WL.mono (l':=[(111,.bool false)]) (S':=St w0 Y [] []) (by exact⟨rfl,trivial⟩) (sx [] []) ?_
  exact K (Y,false) h
 refine sp 97 h J (fun h=>?_) fun h=>?_
 ·refine arr 3 [194,34] J<|ly J J<|kab h J J J (fun b z q=>wt N b c.1 H.1 (h1.rslG d8.gives) (I.rslG cM.gives) q) ?_
  rintro bh h bL aK bM ⟨G,ah,v28,bN,X2,rfl,rfl,bk,i3⟩
  replace h1:=h1.fr ah (G.q 14 J) (G.q 15 J)
  replace L:=L.fr ah (G.q 6 J) (G.q 7 J)
  replace M:=M.fr ah (G.q 0 J) (G.q 1 J)
  replace k:=k.fr ah (G.q 19 J) (G.q 20 J)
  replace t:=t.fr ah (G.q 21 J) (G.q 22 J)
  replace i:=i.fr ah (G.q 23 J) (Dj.sub (G.q 24 J) i2)
  refine ly J J<|qc h (tP N · av bh (L.rslG aM.gives) bk.rsl ·) J J J fun aL h=>la J<|WL.mono (l':=[(3,pQ A),(5,pQ B),(6,pQ C),(14,v23),(103,.bool aL)]) (S':=St w0 aK [(C,.cells #[v,iV c.2.2.2.Next] 29 (0,0)),(B,.cells #[v5,v6] 35 (0,0)),(A,.cells #[.string c.1.Name,v2] 26 (0,0))] [ob v23,a1,ob v2,O,ob v5,P,ob v6,Q,ob v,Z]) (by exact⟨rfl,rfl,rfl,rfl,rfl,trivial⟩) (sx [2,2,14,14,17,17,17,17,17,17] [3,3,4]) ?_
  exact K (aK,aL) ⟨h,h1,M,k,t,i⟩
 refine arr 6 [] J<|WL.mono (l':=[(3,pQ A),(5,pQ B),(6,pQ C),(14,v23),(103,.bool false)]) (S':=St w0 ax [(C,.cells #[v,iV c.2.2.2.Next] 29 (0,0)),(B,.cells #[v5,v6] 35 (0,0)),(A,.cells #[.string c.1.Name,v2] 26 (0,0))] [ob v23,a1,ob v2,O,ob v5,P,ob v6,Q,ob v,Z]) (by exact⟨rfl,rfl,rfl,rfl,rfl,trivial⟩) (sx [0,0,12,12,15,15,15,15,15,15] [3,3,4]) ?_
 exact K (ax,false) ⟨h,h1,M,k,t,i⟩
end Go.Proofs.YtedmfnmbjglmbaaGreat
