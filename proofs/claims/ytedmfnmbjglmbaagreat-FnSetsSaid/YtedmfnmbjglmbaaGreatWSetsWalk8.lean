/- Printed by a program of ours: each Go function computes its Lean function. -/
import Derived.Test.YtedmfnmbjglmbaaGreatProg
import Derived.Test.YtedmfnmbjglmbaaGreatWSetsWalk7
namespace Go.Proofs.YtedmfnmbjglmbaaGreat
open Eng Tryz
open Go.RowKit (Below)
set_option linter.unusedVariables false
set_option linter.unusedSimpArgs false

set_option maxRecDepth 100000
set_option maxHeartbeats 1000000
variable {f d:Hp} {e j l b4 o b6 n ad a1:Value} {a6 g p aE b8 pG1 b0 b5 ar b9 b7:List Nat} {a:Nat} (N:Nat)
theorem tO (w0:av f d [[a]].flatten) (G:a8) (H:ai) (Q:RSl (RI .u8) 1 f a6 e G.b) (T:d a=some (.cells #[e,iV G.i,iV G.h] 144 (0,0))) (B:RSl bN 3 f g j H.Pats) (I:RSl bl 11 f p l H.Conds) (E:RSl dK 5 f aE b4 H.Acts) {r:ai × a8} (h:mI N G H=some r) :
  Calls prog 93 [pQ a,.agg [.string H.Name,iV H.Sal,j,l,b4].toArray].toArray w0.w (be d w0.w [[a]].flatten (fun aw Fs v=>∃ (aS:Value) (bj:List Nat) (bk:Value) (bm:List Nat) (bn:Value) (bo:List Nat) (X:List Nat),v = .agg [.string r.1.Name,iV r.1.Sal,aS,bk,bn].toArray∧Fs=[ob aS,[a],X]∧OSl bN 201 3 aw bj aS r.1.Pats∧(∀ k∈bj,k∈(X++g))∧RSl bl 11 aw bm bk r.1.Conds∧(∀ k∈bm,k∈(X++p))∧RSl dK 5 aw bo bn r.1.Acts∧(∀ k∈bo,k∈(X++aE))∧r.2.b=G.b∧aw a=some (.cells #[e,iV r.2.i,iV r.2.h] 144 (0,0)))):=by
 refine eL func93 J ntmps93 J (L:=[[a]]) w0 (fun hF=>?_)
 unfold mI at h
 refine sr<|lbx J fun U=>lnz sU J fun V=>en<|sr ?_
 have bJ:RC cJ 3 d ([]:List (List Nat)) [] ([]:List au):=RC.nil _ _ _
 refine le' (aQ (vs:=[]) (C:=#[]) cJ.lasts og jB J J J J (ac Hd (ab)) J bJ J (by simpa using Kw.nil)) J ?_
 rintro v1 bp D1 ⟨bK,h1⟩
 replace h1:OSl cJ 201 3 bp [] v1 ([]:List au):=by simpa[gk] using h1
 replace T:=bK _ _ MC T
 refine WL.conv (S':=St w0 bp [(V,.cells #[.string (⟨#[]⟩:ByteArray),iV 0,.slice none 0 0,.slice none 0 0,.slice none 0 0] 87 (0,0)),(U,.cells #[.string H.Name,iV H.Sal,j,l,b4] 87 (0,0))] [[],ob v1,[a]]) (fun P hw=>hw.addNil)<|arr 2 [2,32] J<|lu0 B fun h2=>?_
 obtain⟨x1,bL,h⟩:=bs h
 replace h1:=h1.gives cJ.gives
 refine le' (Cs bN.lasts bN.knows bN.one og yk J J J J J (js:=[1]) (Rr:=[[],[a]]) J h1 h2 (fun ap=>dN) (fun ap=>(ap.o B.old)) bL) J ?_
 rintro v2 cw D2 ⟨⟨bM,bO⟩,x,w⟩
 replace T:=bO _ _ ((bM.q 1 J) _ MC) T
 refine lf xx J J J<|so1 1 DJ J w.one ?_
 refine arr 5 [] J<|kcb [2] h J J J J (fun b ap z q=>aJ N b G 10 (Q.y z) T q) ?_
 rintro O h v3 aT F1 ⟨bq,bP,rfl,rfl,e1,y⟩
 replace w:=w.fr bP (bq.q 0 J) (Dj.sub (bq.o B.old) (fun k hk=>(by simpa using x k hk:k∈g)))
 refine art 7 [] J<|wt0<|tu I fun u=>tu E fun t=>?_
 refine cut (σ:=Hp × List Nat × (List au) × Value × List Nat × Int × Int × ByteArray × Int × (List ce) × Value × List Nat × (List cA) × Value × List Nat) (fun s=>[(3,pQ U),(4,pQ V)]) (fun s=>St w0 s.1 [(V,.cells #[.string (⟨#[]⟩:ByteArray),iV 0,.slice none 0 0,.slice none 0 0,.slice none 0 0] 87 (0,0)),(U,.cells #[.string s.2.2.2.2.2.2.2.1,iV s.2.2.2.2.2.2.2.2.1,s.2.2.2.1,s.2.2.2.2.2.2.2.2.2.2.1,s.2.2.2.2.2.2.2.2.2.2.2.2.2.1] 87 (0,0))] [s.2.1,[a],ob s.2.2.2.1]) (fun s=>dW N G s.2.2.1 s.2.2.2.2.2.1 s.2.2.2.2.2.2.1 s.2.2.2.2.2.2.2.1 s.2.2.2.2.2.2.2.2.1 s.2.2.2.2.2.2.2.2.2.1 s.2.2.2.2.2.2.2.2.2.2.2.2.1=some r∧(OSl bN 201 3 s.1 s.2.2.2.2.1 s.2.2.2.1 s.2.2.1)∧(∀ k∈s.2.2.2.2.1,k∈(g++s.2.1))∧(s.1 a=some (.cells #[e,iV s.2.2.2.2.2.1,iV s.2.2.2.2.2.2.1] 144 (0,0)))∧(RSl bl 11 s.1 s.2.2.2.2.2.2.2.2.2.2.2.1 s.2.2.2.2.2.2.2.2.2.2.1 s.2.2.2.2.2.2.2.2.2.1)∧(∀ k∈s.2.2.2.2.2.2.2.2.2.2.2.1,k∈(p++s.2.1))∧(RSl dK 5 s.1 s.2.2.2.2.2.2.2.2.2.2.2.2.2.2 s.2.2.2.2.2.2.2.2.2.2.2.2.2.1 s.2.2.2.2.2.2.2.2.2.2.2.2.1)∧(∀ k∈s.2.2.2.2.2.2.2.2.2.2.2.2.2.2,k∈(aE++s.2.1))) (fun s hm=>?_) (fun K=>?_)
 ·clear h
  obtain⟨cx,W,s1,u1,D4,s2,s3,s4,s5,s6,u2,H1,s7,u3,H2⟩:=s
  obtain⟨h,k1,i1,k2,k3,i2,k4,i3⟩:=hm
  dsimp only at h k1 i1 k2 k3 i2 k4 i3 ⊢
  unfold dW at h
  refine atr 4 [37] J<|soN 0 tZ J ⟨J,J,k1.one,k3.one,k4.one,trivial⟩ J ?_
  refine en ?_
  refine WT.ret hF (aA.one (aZ o7 J (fun P hw=>hw.rgO (i:=0) J 0 5 [.string s4,iV s5,u1,u2,u3] J) J)) (fun P hw=>?_)
  cases h
  replace hw:=hw.merge (js:=[0]) (F:=[W].flatten) J (SP.eq MC)
  refine aW (js:=[2,1,0]) hw J ⟨u1,D4,u2,H1,u3,H2,[W].flatten,J,J,k1,(fun k hk=>((gb.1 (i1 k hk)).elim (fun h=>(gb.2 (.inr h))) (fun h=>(gb.2 (.inl (hR.2 ⟨W,MC,h⟩)))))),k3,(fun k hk=>((gb.1 (i2 k hk)).elim (fun h=>(gb.2 (.inr h))) (fun h=>(gb.2 (.inl (hR.2 ⟨W,MC,h⟩)))))),k4,(fun k hk=>((gb.1 (i3 k hk)).elim (fun h=>(gb.2 (.inr h))) (fun h=>(gb.2 (.inl (hR.2 ⟨W,MC,h⟩)))))),J,k2⟩
 refine ch h J ?_ ?_ <;> intro h
 ·refine atr 2 [] J ?_
  have bQ:RC RS 1 aT ([[],[],[]]:List (List Nat)) [.string (⟨#[]⟩:ByteArray),.string (⟨#[65]⟩:ByteArray),.string (⟨#[120]⟩:ByteArray)] ([(⟨#[]⟩:ByteArray),(⟨#[65]⟩:ByteArray),(⟨#[120]⟩:ByteArray)]:List ByteArray):=RC.cons (c:=[.string (⟨#[]⟩:ByteArray)]) (cells:=[.string (⟨#[65]⟩:ByteArray),.string (⟨#[120]⟩:ByteArray)]) ⟨J,J⟩ J (RC.cons (c:=[.string (⟨#[65]⟩:ByteArray)]) (cells:=[.string (⟨#[120]⟩:ByteArray)]) ⟨J,J⟩ J (RC.cons (c:=[.string (⟨#[120]⟩:ByteArray)]) (cells:=[]) ⟨J,J⟩ J (RC.nil _ _ _)))
  refine le' (aQ (vs:=[(0,.string (⟨#[]⟩:ByteArray)),(1,.string (⟨#[65]⟩:ByteArray)),(2,.string (⟨#[120]⟩:ByteArray))]) (C:=#[.string (⟨#[]⟩:ByteArray),.string (⟨#[65]⟩:ByteArray),.string (⟨#[120]⟩:ByteArray)]) RS.lasts eE ot J J J J (ac sX (a7 (C':=[.string (⟨#[]⟩:ByteArray),.string ⟨#[]⟩,.string ⟨#[]⟩]) J J J J J (a7 (C':=[.string (⟨#[]⟩:ByteArray),.string (⟨#[65]⟩:ByteArray),.string ⟨#[]⟩]) J J J J J (a7 (C':=[.string (⟨#[]⟩:ByteArray),.string (⟨#[65]⟩:ByteArray),.string (⟨#[120]⟩:ByteArray)]) J J J J J (ab))))) J bQ J (by simpa using Kw.nil)) J ?_
  rintro v4 bR D5 ⟨ax,h7⟩
  replace h7:OSl RS 9 1 bR [] v4 ([(⟨#[]⟩:ByteArray),(⟨#[65]⟩:ByteArray),(⟨#[120]⟩:ByteArray)]:List ByteArray):=by simpa using h7
  replace u:=u.f0 ax
  replace t:=t.f0 ax
  replace w:=w.f0 ax
  replace y:=ax _ _ MC y
  refine kcb [2] h J J J J (fun b ap z q=>bT N b (⟨G.b,O.2.i,O.2.h⟩:a8) ([(⟨#[]⟩:ByteArray),(⟨#[65]⟩:ByteArray),(⟨#[120]⟩:ByteArray)]:List ByteArray) (Q.y z) y (h7.rsl.x (Dj.app (ap.q 0 J) dN)) q) ?_
  rintro x3 h v5 cy F2 ⟨ay,aU,rfl,rfl,e2,h8⟩
  replace u:=u.fr aU (ay.o I.old)
  replace t:=t.fr aU (ay.o E.old)
  replace w:=w.fr aU (ay.q 2 J) (Dj.sub (ay.o B.old) (fun k hk=>(by simpa using x k hk:k∈g)))
  refine lf xe J J J<|so1 1 Be J J ?_
  refine en ?_
  exact wo [2,0,1] [0,0] (K (_,_,_,_,_,_,_,_,_,_,_,_,_,_,_) ⟨h,w,(fun k hk=>(gb.2 (.inl ((fun k hk=>(by simpa using x k hk:k∈g)) k hk)))),h8,u,(fun k hk=>(gb.2 (.inl hk))),t,(fun k hk=>(gb.2 (.inl hk)))⟩)
 refine att 5 [] J ?_
 refine ch h J ?_ ?_ <;> intro h
 ·refine atr 2 [] J ?_
  have bS:RC (RI .i64) 1 aT ([[],[],[]]:List (List Nat)) [iV (-101),iV 101,iV 100] ([(-101),101,100]:List Int):=RC.cons (c:=[iV (-101)]) (cells:=[iV 101,iV 100]) ⟨J,J⟩ J (RC.cons (c:=[iV 101]) (cells:=[iV 100]) ⟨J,J⟩ J (RC.cons (c:=[iV 100]) (cells:=[]) ⟨J,J⟩ J (RC.nil _ _ _)))
  refine le' (aQ (vs:=[(0,iV (-101)),(1,iV 101),(2,iV 100)]) (C:=#[iV (-101),iV 101,iV 100]) RI.lasts aY gF J J J J (ac Jw (a7 (C':=[iV (-101),iV 0,iV 0]) J J J J J (a7 (C':=[iV (-101),iV 101,iV 0]) J J J J J (a7 (C':=[iV (-101),iV 101,iV 100]) J J J J J (ab))))) J bS J (by simpa using Kw.nil)) J ?_
  rintro v6 bU D6 ⟨az,h9⟩
  replace h9:OSl (RI .i64) 3 1 bU [] v6 ([(-101),101,100]:List Int):=by simpa using h9
  replace u:=u.f0 az
  replace t:=t.f0 az
  replace w:=w.f0 az
  replace y:=az _ _ MC y
  refine kcb [2] h J J J J (fun b ap z q=>lS N b (⟨G.b,O.2.i,O.2.h⟩:a8) ([(-101),101,100]:List Int) (Q.y z) y (h9.rsl.x (Dj.app (ap.q 0 J) dN)) q) ?_
  rintro x4 h v7 cz F3 ⟨aB,aV,rfl,rfl,e3,bV⟩
  replace u:=u.fr aV (aB.o I.old)
  replace t:=t.fr aV (aB.o E.old)
  replace w:=w.fr aV (aB.q 2 J) (Dj.sub (aB.o B.old) (fun k hk=>(by simpa using x k hk:k∈g)))
  refine lf GM J J J<|so1 1 vv J J ?_
  refine en ?_
  exact wo [2,0,1] [0,0] (K (_,_,_,_,_,_,_,_,_,_,_,_,_,_,_) ⟨h,w,(fun k hk=>(gb.2 (.inl ((fun k hk=>(by simpa using x k hk:k∈g)) k hk)))),bV,u,(fun k hk=>(gb.2 (.inl hk))),t,(fun k hk=>(gb.2 (.inl hk)))⟩)
 refine att 5 [] J ?_
 refine ch h J ?_ ?_ <;> intro h
 ·refine wm [0,1] [7] J<|amm 3 [0,2,1,32,2] [0,1] J J ?_
  obtain⟨M,bW,h⟩:=bs h
  refine WM.one 3 MA (mc J (fun _ v br D P hq hw=>Kn.of Kf.nil (ai2 0 1 J J) hw) (bt (js:=[1]) (R:=[[],ob v2,[]]) HZ J J (fun P hw ap hl=>Az N (bx hw ap hl) (⟨G.b,O.2.i,O.2.h⟩:a8) (Q.y (hw.uo ap)) y  bW)) J ?_)
  rintro v8 bX F4 ⟨aC,aX,v9,rfl,rfl,bY,e4,Y⟩
  replace u:=u.fr aX (aC.o I.old)
  replace t:=t.fr aX (aC.o E.old)
  replace w:=w.fr aX (aC.q 1 J) (Dj.sub (aC.o B.old) (fun k hk=>(by simpa using x k hk:k∈g)))
  have bu:RC cJ 3 bX ([(ob v9++[])]:List (List Nat)) [.string M.1.Kind,v9,.bool M.1.Not] ([M.1]:List au):=RC.cons (c:=[.string M.1.Kind,v9,.bool M.1.Not]) (cells:=[]) ⟨v9,J,J,bY⟩ J (RC.nil _ _ _)
  refine WM.one 4 MA (me J (fun _ v br D P hq hw=>Kn.of Kf.nil (ai2 0 1 J J) hw) (aQ (vs:=[(0,.agg [.string M.1.Kind,v9,.bool M.1.Not].toArray)]) (C:=#[.string M.1.Kind,v9,.bool M.1.Not]) cJ.lasts og jB J J J J (ac vi (a7 (C':=[.string M.1.Kind,v9,.bool M.1.Not]) J J J J J (ab))) J bu J (RC.kn cJ.knows bu)) J ?_)
  rintro v10 bw D7 ⟨aD,b1⟩
  replace b1:OSl cJ 201 3 bw ((ob v9++[])) v10 ([M.1]:List au):=by simpa[gk] using b1
  replace u:=u.f0 aD
  replace t:=t.f0 aD
  replace w:=w.f0 aD
  replace Y:=aD _ _ MC Y
  refine WM.conv (S':=St w0 bw [(V,.cells #[.string (⟨#[]⟩:ByteArray),iV 0,.slice none 0 0,.slice none 0 0,.slice none 0 0] 87 (0,0)),(U,.cells #[.string H.Name,iV H.Sal,v2,l,b4] 87 (0,0))] [((ob v9++[])),ob v10,[a],[],ob v2,[]]) (fun P hw=>hw.merge (js:=[1]) J (SP.eq (by simp[gk,bH]))) ?_
  obtain⟨x6,bZ,h⟩:=bs h
  refine WM.one 5 MA (me J (fun _ v br D P hq hw=>Kn.of Kf.nil (ai2 0 1 J J) hw) (cq bN.lasts bN.one og yk J J J J J (js:=[4]) (Rr:=[((ob v9++[])),ob v10,[a],[],[]]) J w (b1.gives cJ.gives) (fun ap=>(Dj.sub (ap.o B.old) (fun k hk=>(by simpa using x k hk:k∈g)))) (fun ap=>ap.q 0 J) bZ) J ?_)
  rintro v11 cB D8 ⟨⟨b2,b3⟩,bz⟩
  replace u:=u.fr b3 (b2.o I.old)
  replace t:=t.fr b3 (b2.o E.old)
  replace Y:=b3 _ _ ((b2.q 2 J) _ MC) Y
  refine amm 1 [6,2] [0,1] J J ?_
  refine on1 7 (ms1 1 J nk DJ J bz.one ?_)
  refine WM.nil MA<|wtL [([]++(((ob v9++[])))),ob v11,ob v10,[a],[]] (smg [4,1] J (SP.eq (by simp[gk]))) ?_
  exact wo [0,2,0] [0,0] (K (_,_,_,_,_,_,_,_,_,_,_,_,_,_,_) ⟨h,bz,(fun k hk=>((gb.1 hk).elim (fun h=>(gb.2 (.inl ((fun k hk=>(by simpa using x k hk:k∈g)) k h)))) (fun h=>(gb.2 (.inr ((fun k hk=>(gb.2 (.inr hk))) k h)))))),Y,u,(fun k hk=>(gb.2 (.inl hk))),t,(fun k hk=>(gb.2 (.inl hk)))⟩)
 refine att 5 [] J ?_
 refine ch h J ?_ ?_ <;> intro h
 ·refine rgn<|le' (cO bl.lasts zu qw J J) J ?_
  rintro v12 cC D9 ⟨aF,c0⟩
  replace u:=u.f0 aF
  replace t:=t.f0 aF
  replace w:=w.f0 aF
  replace y:=aF _ _ MC y
  refine arr 2 [3,32] J ?_
  obtain⟨x7,c3,h⟩:=bs h
  refine le' (bg bl.lasts bl.one bl.flat zu CN J J J J J (js:=[0]) (Rr:=[[],[a],ob v2,[]]) J c0 u c3) J ?_
  rintro cD cE cF ⟨⟨Z,aG⟩,aa⟩
  replace u:=u.fr aG (Z.o I.old)
  replace t:=t.fr aG (Z.o E.old)
  replace w:=w.fr aG (Z.q 2 J) (Dj.sub (Z.o B.old) (fun k hk=>(by simpa using x k hk:k∈g)))
  replace y:=aG _ _ ((Z.q 1 J) _ MC) y
  refine la J<|kcb [2] h J J J J (fun b ap z q=>AD N b (⟨G.b,O.2.i,O.2.h⟩:a8) (Q.y z) y q) ?_
  rintro m h cG c4 F5 ⟨ae,aH,rfl,rfl,e5,af⟩
  replace u:=u.fr aH (ae.o I.old)
  replace t:=t.fr aH (ae.o E.old)
  replace w:=w.fr aH (ae.q 2 J) (Dj.sub (ae.o B.old) (fun k hk=>(by simpa using x k hk:k∈g)))
  replace aa:=aa.fr aH (ae.q 0 J) dN
  have c5:RC bl 11 c4 ([[]]:List (List Nat)) [iV m.1.Op,iV m.1.L.K,.string m.1.L.S,iV m.1.L.V.K,iV m.1.L.V.N,.string m.1.L.V.S,iV m.1.R.K,.string m.1.R.S,iV m.1.R.V.K,iV m.1.R.V.N,.string m.1.R.V.S] ([m.1]:List ce):=RC.cons (c:=[iV m.1.Op,iV m.1.L.K,.string m.1.L.S,iV m.1.L.V.K,iV m.1.L.V.N,.string m.1.L.V.S,iV m.1.R.K,.string m.1.R.S,iV m.1.R.V.K,iV m.1.R.V.N,.string m.1.R.V.S]) (cells:=[]) ⟨J,J⟩ J (RC.nil _ _ _)
  refine le' (aQ (vs:=[(0,.agg [iV m.1.Op,iV m.1.L.K,.string m.1.L.S,iV m.1.L.V.K,iV m.1.L.V.N,.string m.1.L.V.S,iV m.1.R.K,.string m.1.R.S,iV m.1.R.V.K,iV m.1.R.V.N,.string m.1.R.V.S].toArray)]) (C:=#[iV m.1.Op,iV m.1.L.K,.string m.1.L.S,iV m.1.L.V.K,iV m.1.L.V.N,.string m.1.L.V.S,iV m.1.R.K,.string m.1.R.S,iV m.1.R.V.K,iV m.1.R.V.N,.string m.1.R.V.S]) bl.lasts zu qw J J J J (ac Bj (a7 (C':=[iV m.1.Op,iV m.1.L.K,.string m.1.L.S,iV m.1.L.V.K,iV m.1.L.V.N,.string m.1.L.V.S,iV m.1.R.K,.string m.1.R.S,iV m.1.R.V.K,iV m.1.R.V.N,.string m.1.R.V.S]) J J J J J (ab))) J c5 J (by simpa using Kw.nil)) J ?_
  rintro ba c6 cH ⟨ag,bb⟩
  replace bb:OSl bl 173 11 c6 [] ba ([m.1]:List ce):=by simpa using bb
  replace u:=u.f0 ag
  replace t:=t.f0 ag
  replace w:=w.f0 ag
  replace aa:=aa.f0 ag
  replace af:=ag _ _ MC af
  obtain⟨x9,c7,h⟩:=bs h
  refine le' (bg bl.lasts bl.one bl.flat zu CN J J J J J (js:=[2]) (Rr:=[ob ba,[a],[],ob v2,[]]) J aa bb.rsl c7) J ?_
  rintro c8 cI cK ⟨⟨ah,aI⟩,bA⟩
  replace u:=u.fr aI (ah.o I.old)
  replace t:=t.fr aI (ah.o E.old)
  replace w:=w.fr aI (ah.q 3 J) (Dj.sub (ah.o B.old) (fun k hk=>(by simpa using x k hk:k∈g)))
  replace af:=aI _ _ ((ah.q 1 J) _ MC) af
  refine lf C5 J J J<|so1 1 IZ J bA.one ?_
  refine en ?_
  have c9:=bA.rsl
  refine wtL [([]++(ob c8)),ob ba,[a],ob v2,[]] (smg [3,0] J (SP.eq (by simp[gk]))) ?_
  exact wo [0,1,1] [0,0] (K (_,_,_,_,_,_,_,_,_,_,_,_,_,_,_) ⟨h,w,(fun k hk=>(gb.2 (.inl ((fun k hk=>(by simpa using x k hk:k∈g)) k hk)))),af,c9,(fun k hk=>(gb.2 (.inr ((fun k hk=>(gb.2 (.inr hk))) k (iD k hk))))),t,(fun k hk=>(gb.2 (.inl hk)))⟩)
 refine att 5 [] J ?_
 refine ch h J ?_ ?_ <;> intro h
 ·refine rgn ?_
  have ca:RC fE 5 aT ([]:List (List Nat)) [] ([]:List cA):=RC.nil _ _ _
  refine le' (aQ (vs:=[]) (C:=#[]) fE.lasts xQ pe J J J J (ac GZ (ab)) J ca J (by simpa using Kw.nil)) J ?_
  rintro v17 bB cL ⟨aK,aj⟩
  replace aj:OSl fE 213 5 bB [] v17 ([]:List cA):=by simpa[gk] using aj
  replace u:=u.f0 aK
  replace t:=t.f0 aK
  replace w:=w.f0 aK
  replace y:=aK _ _ MC y
  refine WL.conv (S':=St w0 bB [(V,.cells #[.string (⟨#[]⟩:ByteArray),iV 0,.slice none 0 0,.slice none 0 0,.slice none 0 0] 87 (0,0)),(U,.cells #[.string H.Name,iV H.Sal,v2,l,b4] 87 (0,0))] [[],ob v17,[],[a],ob v2,[]]) (fun P hw=>hw.addNil)<|arr 2 [4,32] J ?_
  obtain⟨cM,cb,h⟩:=bs h
  replace aj:=aj.gives fE.gives
  refine le' (Cs dK.lasts dK.knows dK.one xQ CC J J J J J (js:=[1]) (Rr:=[[],[],[a],ob v2,[]]) J aj t (fun ap=>dN) (fun ap=>(ap.o E.old)) cb) J ?_
  rintro cc cN cP ⟨⟨ak,aL⟩,bc,al⟩
  replace u:=u.fr aL (ak.o I.old)
  replace t:=t.fr aL (ak.o E.old)
  replace w:=w.fr aL (ak.q 3 J) (Dj.sub (ak.o B.old) (fun k hk=>(by simpa using x k hk:k∈g)))
  replace y:=aL _ _ ((ak.q 2 J) _ MC) y
  refine la J<|kcb [3] h J J J J (fun b ap z q=>Ay N b (⟨G.b,O.2.i,O.2.h⟩:a8) (Q.y z) y q) ?_
  rintro A h cQ cd F7 ⟨S,aM,v20,rfl,rfl,cf,e7,an⟩
  replace u:=u.fr aM (S.o I.old)
  replace t:=t.fr aM (S.o E.old)
  replace w:=w.fr aM (S.q 3 J) (Dj.sub (S.o B.old) (fun k hk=>(by simpa using x k hk:k∈g)))
  replace al:=al.fr aM (S.q 0 J) (Dj.sub (S.o E.old) (fun k hk=>(by simpa using bc k hk:k∈aE)))
  have bC:RC fE 5 cd ([(ob v20++[])]:List (List Nat)) [iV A.1.Kind,.string A.1.Name,v20,iV A.1.N,.string A.1.Undo] ([A.1]:List cA):=RC.cons (c:=[iV A.1.Kind,.string A.1.Name,v20,iV A.1.N,.string A.1.Undo]) (cells:=[]) ⟨v20,J,J,cf⟩ J (RC.nil _ _ _)
  refine le' (aQ (vs:=[(0,.agg [iV A.1.Kind,.string A.1.Name,v20,iV A.1.N,.string A.1.Undo].toArray)]) (C:=#[iV A.1.Kind,.string A.1.Name,v20,iV A.1.N,.string A.1.Undo]) fE.lasts xQ pe J J J J (ac Cb (a7 (C':=[iV A.1.Kind,.string A.1.Name,v20,iV A.1.N,.string A.1.Undo]) J J J J J (ab))) J bC J (RC.kn fE.knows bC)) J ?_
  rintro v21 cg cR ⟨ao,bd⟩
  replace bd:OSl fE 213 5 cg ((ob v20++[])) v21 ([A.1]:List cA):=by simpa[gk] using bd
  replace u:=u.f0 ao
  replace t:=t.f0 ao
  replace w:=w.f0 ao
  replace al:=al.f0 ao
  replace an:=ao _ _ MC an
  refine wlL [((ob v20++[])),ob v21,[a],ob cc,[],[],ob v2,[]] (smg [1] J (SP.eq (by simp[gk,bH]))) ?_
  obtain⟨cS,cj,h⟩:=bs h
  refine le' (cq dK.lasts dK.one xQ CC J J J J J (js:=[3]) (Rr:=[((ob v20++[])),ob v21,[a],[],[],ob v2,[]]) J al (bd.gives fE.gives) (fun ap=>(Dj.sub (ap.o E.old) (fun k hk=>(by simpa using bc k hk:k∈aE)))) (fun ap=>ap.q 0 J) cj) J ?_
  rintro v22 cT cU ⟨⟨aq,aN⟩,bD⟩
  replace u:=u.fr aN (aq.o I.old)
  replace t:=t.fr aN (aq.o E.old)
  replace w:=w.fr aN (aq.q 5 J) (Dj.sub (aq.o B.old) (fun k hk=>(by simpa using x k hk:k∈g)))
  replace an:=aN _ _ ((aq.q 2 J) _ MC) an
  refine lf y0 J J J<|so1 1 FZ J bD.one ?_
  refine en ?_
  have ck:=bD.rsl
  refine wtL [([]++(ob v22++(((ob v20++[]))))),ob v21,[a],[],ob v2,[]] (smg [5,0,0] J (SP.eq (by simp[gk]))) ?_
  exact wo [0,1,2] [0,0] (K (_,_,_,_,_,_,_,_,_,_,_,_,_,_,_) ⟨h,w,(fun k hk=>(gb.2 (.inl ((fun k hk=>(by simpa using x k hk:k∈g)) k hk)))),an,u,(fun k hk=>(gb.2 (.inl hk))),ck,(fun k hk=>((gb.1 hk).elim (fun h=>(gb.2 (.inr ((fun k hk=>(gb.2 (.inr (gb.2 (.inl hk))))) k h)))) (fun h=>((gb.1 h).elim (fun h=>(gb.2 (.inl ((fun k hk=>(by simpa using bc k hk:k∈aE)) k h)))) (fun h=>(gb.2 (.inr ((fun k hk=>(gb.2 (.inr (gb.2 (.inr hk))))) k h))))))))⟩)
 refine att 5 [] J ?_
 refine ch h J ?_ ?_ <;> intro h
 ·refine atr 3 [2,32] J ?_
  obtain⟨bf,bE,h⟩:=bs h
  obtain⟨cV,F9,cm,bF,r1,cW,aO⟩:=w.focus bE
  obtain⟨v23,G1,rfl,cn,bh⟩:=r1
  obtain rfl:=cn.symm
  refine lih bF bE J<|lf kl J J J<|lu (us [2] [[],[a],[]] 2 bN.lasts LV J J J J bF J (fun ap=>(Dj.sub (Dj.sub (ap.o B.old) (fun k hk=>(by simpa using x k hk:k∈g))) (fun k hk=>aO.mem (gb.2 (.inr hk)))))) J ?_
  rintro cp cX ⟨⟨aP,aR⟩,cr⟩
  replace bh:=bh.fr aR (Dj.sub (aP.o B.old) (fun k h=>(fun k hk=>(by simpa using x k hk:k∈g)) k (aO.mem (gb.2 (.inl h)))))
  replace u:=u.fr aR (aP.o I.old)
  replace t:=t.fr aR (aP.o E.old)
  replace y:=aR _ _ ((aP.q 1 J) _ MC) y
  refine en ?_
  have r2:bN cp _ [.string bf.Kind,v23,.bool true] (⟨bf.Kind,bf.Args,true⟩:au):=⟨v23,G1,J,J,bh⟩
  obtain⟨cY,ct,cu⟩:=cr.unfocus r2 (bN.knows _ _ _ _ r2)
  exact wo [1,1,0] [0,0] (K (_,_,_,_,_,_,_,_,_,_,_,_,_,_,_) ⟨h,ct,(fun k hk=>((gb.1 ((fun k hk=>(by simpa[gk] using cu.mem hk:k∈(G1++cm))) k hk)).elim (fun h=>(gb.2 (.inl ((fun k h=>(fun k hk=>(by simpa using x k hk:k∈g)) k (aO.mem (gb.2 (.inl h)))) k h)))) (fun h=>(gb.2 (.inl ((fun k hk=>(fun k hk=>(by simpa using x k hk:k∈g)) k (aO.mem (gb.2 (.inr hk)))) k h)))))),y,u,(fun k hk=>(gb.2 (.inl hk))),t,(fun k hk=>(gb.2 (.inl hk)))⟩)
 refine att 5 [] J ?_
 refine ch h J ?_ ?_ <;> intro h
 ·refine atr 3 [4,32] J ?_
  obtain⟨cZ,bG,h⟩:=bs h
  refine lq (zt xQ J J t bG) J ?_
  obtain⟨da,bI,cv⟩:=t.sub bG
  refine lf y0 J J J<|so1 1 FZ J bI.one ?_
  refine en ?_
  exact wo [0,0,0] [0,0] (K (_,_,_,_,_,_,_,_,_,_,_,_,_,_,_) ⟨h,w,(fun k hk=>(gb.2 (.inl ((fun k hk=>(by simpa using x k hk:k∈g)) k hk)))),y,u,(fun k hk=>(gb.2 (.inl hk))),bI,(fun k hk=>(gb.2 (.inl (cv k hk))))⟩)
 refine WT.skip ?_
 exact wo [0,0,0] [0,0] (K (_,_,_,_,_,_,_,_,_,_,_,_,_,_,_) ⟨h,w,(fun k hk=>(gb.2 (.inl ((fun k hk=>(by simpa using x k hk:k∈g)) k hk)))),y,u,(fun k hk=>(gb.2 (.inl hk))),t,(fun k hk=>(gb.2 (.inl hk)))⟩)
theorem B3 (w0:av f d [[a]].flatten) (m:a8) (B:RSl (RI .u8) 1 f a6 e m.b) (M:d a=some (.cells #[e,iV m.i,iV m.h] 144 (0,0))) {r:ai × a8} (h:ra N m=some r) :
  Calls prog 92 [pQ a].toArray w0.w (be d w0.w [[a]].flatten (fun D Fs v=>∃ (O:Value) (W:List Nat) (Y:Value) (Z:List Nat) (aa:Value) (ae:List Nat) (X:List Nat),v = .agg [.string r.1.Name,iV r.1.Sal,O,Y,aa].toArray∧Fs=[ob O,[a],X]∧OSl bN 201 3 D W O r.1.Pats∧(∀ k∈W,k∈X)∧RSl bl 11 D Z Y r.1.Conds∧(∀ k∈Z,k∈X)∧RSl dK 5 D ae aa r.1.Acts∧(∀ k∈ae,k∈X)∧r.2.b=m.b∧D a=some (.cells #[e,iV r.2.i,iV r.2.h] 144 (0,0)))):=by
 refine eL func92 J ntmps92 J (L:=[[a]]) w0 (fun hF=>?_)
 unfold ra at h
 refine sr<|lnz sU J fun af=>arr 5 [] J ?_
 have al:RC RS 1 d ([[],[],[]]:List (List Nat)) [.string (⟨#[114,49]⟩:ByteArray),.string (⟨#[114,50]⟩:ByteArray),.string (⟨#[115,104,105,112]⟩:ByteArray)] ([(⟨#[114,49]⟩:ByteArray),(⟨#[114,50]⟩:ByteArray),(⟨#[115,104,105,112]⟩:ByteArray)]:List ByteArray):=RC.cons (c:=[.string (⟨#[114,49]⟩:ByteArray)]) (cells:=[.string (⟨#[114,50]⟩:ByteArray),.string (⟨#[115,104,105,112]⟩:ByteArray)]) ⟨J,J⟩ J (RC.cons (c:=[.string (⟨#[114,50]⟩:ByteArray)]) (cells:=[.string (⟨#[115,104,105,112]⟩:ByteArray)]) ⟨J,J⟩ J (RC.cons (c:=[.string (⟨#[115,104,105,112]⟩:ByteArray)]) (cells:=[]) ⟨J,J⟩ J (RC.nil _ _ _)))
 refine le' (aQ (vs:=[(0,.string (⟨#[114,49]⟩:ByteArray)),(1,.string (⟨#[114,50]⟩:ByteArray)),(2,.string (⟨#[115,104,105,112]⟩:ByteArray))]) (C:=#[.string (⟨#[114,49]⟩:ByteArray),.string (⟨#[114,50]⟩:ByteArray),.string (⟨#[115,104,105,112]⟩:ByteArray)]) RS.lasts eE ot J J J J (ac sX (a7 (C':=[.string (⟨#[114,49]⟩:ByteArray),.string ⟨#[]⟩,.string ⟨#[]⟩]) J J J J J (a7 (C':=[.string (⟨#[114,49]⟩:ByteArray),.string (⟨#[114,50]⟩:ByteArray),.string ⟨#[]⟩]) J J J J J (a7 (C':=[.string (⟨#[114,49]⟩:ByteArray),.string (⟨#[114,50]⟩:ByteArray),.string (⟨#[115,104,105,112]⟩:ByteArray)]) J J J J J (ab))))) J al J (by simpa using Kw.nil)) J ?_
 rintro v1 an D1 ⟨ao,h1⟩
 replace h1:OSl RS 9 1 an [] v1 ([(⟨#[114,49]⟩:ByteArray),(⟨#[114,50]⟩:ByteArray),(⟨#[115,104,105,112]⟩:ByteArray)]:List ByteArray):=by simpa using h1
 replace M:=ao _ _ MC M
 refine kcb [1] h J J J J (fun b ap z q=>bT N b m ([(⟨#[114,49]⟩:ByteArray),(⟨#[114,50]⟩:ByteArray),(⟨#[115,104,105,112]⟩:ByteArray)]:List ByteArray) (B.y z) M (h1.rsl.x (Dj.app (ap.q 0 J) dN)) q) ?_
 rintro P h v2 aw F1 ⟨ax,ay,rfl,rfl,e1,h2⟩
 refine kcb [0] h J J J J (fun b ap z q=>tR N b (⟨m.b,P.2.i,P.2.h⟩:a8) P.1 (B.y z) h2 q) ?_
 rintro Q h v3 az F2 ⟨aB,aC,v4,u,v5,v6,w,rfl,rfl,t,E,G,e2,h6⟩
 refine lnz sU J fun ag=>soN 0 tZ J ⟨J,J,t.one,E.one,G.one,trivial⟩ J ?_
 refine arr 5 [] J<|kcb [5] h J J J J (fun b ap z q=>cj N b (⟨m.b,Q.2.i,Q.2.h⟩:a8) 3 (B.y z) h6 q) ?_
 rintro x3 h v7 aD F3 ⟨x,R,rfl,rfl,e3,h7⟩
 replace t:=t.fr R (x.q 0 J) (x.q 1 J)
 replace E:=E.fr R (x.q 2 J) dN
 replace G:=G.fr R (x.q 3 J) (x.q 4 J)
 refine en<|wt0 ?_
 have H:=E.rsl
 have I:=(G.rslG fE.gives)
 replace t:=t.gives cJ.gives
 refine cut (σ:=Hp × List Nat × (List au) × Value × List Nat × Int × Int × ByteArray × Int × (List ce) × Value × List Nat × (List cA) × Value × List Nat) (fun s=>[(2,pQ af),(3,pQ ag)]) (fun s=>St w0 s.1 [(ag,.cells #[.string s.2.2.2.2.2.2.2.1,iV s.2.2.2.2.2.2.2.2.1,s.2.2.2.1,s.2.2.2.2.2.2.2.2.2.2.1,s.2.2.2.2.2.2.2.2.2.2.2.2.2.1] 87 (0,0)),(af,.cells #[.string (⟨#[]⟩:ByteArray),iV 0,.slice none 0 0,.slice none 0 0,.slice none 0 0] 87 (0,0))] [s.2.1,[a],ob s.2.2.2.1,u,ob v5,ob v6,w]) (fun s=>ov N m s.2.2.1 s.2.2.2.2.2.1 s.2.2.2.2.2.2.1 s.2.2.2.2.2.2.2.1 s.2.2.2.2.2.2.2.2.1 s.2.2.2.2.2.2.2.2.2.1 s.2.2.2.2.2.2.2.2.2.2.2.2.1=some r∧(OSl bN 201 3 s.1 s.2.2.2.2.1 s.2.2.2.1 s.2.2.1)∧(∀ k∈s.2.2.2.2.1,k∈(u++s.2.1))∧(s.1 a=some (.cells #[e,iV s.2.2.2.2.2.1,iV s.2.2.2.2.2.2.1] 144 (0,0)))∧(RSl bl 11 s.1 s.2.2.2.2.2.2.2.2.2.2.2.1 s.2.2.2.2.2.2.2.2.2.2.1 s.2.2.2.2.2.2.2.2.2.1)∧(∀ k∈s.2.2.2.2.2.2.2.2.2.2.2.1,k∈(ob v5++s.2.1))∧(RSl dK 5 s.1 s.2.2.2.2.2.2.2.2.2.2.2.2.2.2 s.2.2.2.2.2.2.2.2.2.2.2.2.2.1 s.2.2.2.2.2.2.2.2.2.2.2.2.1)∧(∀ k∈s.2.2.2.2.2.2.2.2.2.2.2.2.2.2,k∈(ob v6++(w++s.2.1)))) (fun s hm=>?_) (fun K=>?_)
 ·clear h
  obtain⟨aF,y,s1,u1,D4,s2,s3,s4,s5,s6,u2,H1,s7,u3,H2⟩:=s
  obtain⟨h,S,i1,k2,T,i2,U,i3⟩:=hm
  dsimp only at h S i1 k2 T i2 U i3 ⊢
  unfold ov at h
  refine atr 3 [5] J<|soN 1 tZ J ⟨J,J,S.one,T.one,U.one,trivial⟩ J ?_
  refine en ?_
  refine WT.ret hF (aA.one (aZ o7 J (fun w1 hw=>hw.rgO (i:=1) J 0 5 [.string s4,iV s5,u1,u2,u3] J) J)) (fun w1 hw=>?_)
  cases h
  replace hw:=hw.merge (js:=[3,0,2,2,2]) (F:=[u,y,ob v5,ob v6,w].flatten) J (SP.eq MC)
  refine aW (js:=[2,1,0]) hw J ⟨u1,D4,u2,H1,u3,H2,[u,y,ob v5,ob v6,w].flatten,J,J,S,(fun k hk=>((gb.1 (i1 k hk)).elim (fun h=>(hR.2 ⟨u,MC,h⟩)) (fun h=>(hR.2 ⟨y,MC,h⟩)))),T,(fun k hk=>((gb.1 (i2 k hk)).elim (fun h=>(hR.2 ⟨ob v5,MC,h⟩)) (fun h=>(hR.2 ⟨y,MC,h⟩)))),U,(fun k hk=>((gb.1 (i3 k hk)).elim (fun h=>(hR.2 ⟨ob v6,MC,h⟩)) (fun h=>((gb.1 h).elim (fun h=>(hR.2 ⟨w,MC,h⟩)) (fun h=>(hR.2 ⟨y,MC,h⟩)))))),J,k2⟩
 refine ch h J ?_ ?_ <;> intro h
 ·refine atr 3 [5] J<|kcb [1] h J J J J (fun b ap z q=>tO N b (⟨m.b,x3.2.i,x3.2.h⟩:a8) Q.1 (B.y z) h7 (t.rsl.x (Dj.app (ap.q 1 J) (ap.q 2 J))) (H.x (Dj.sub (ap.q 3 J) iD)) (I.x (Dj.app (ap.q 4 J) (ap.q 5 J))) q) ?_
  rintro x4 h v8 aG F6 ⟨A,V,v9,D5,v10,G1,v11,G2,X2,rfl,rfl,ah,i4,aj,i5,ak,i6,e6,aq⟩
  replace H:=H.fr V (Dj.sub (A.q 3 J) iD)
  replace I:=I.fr V (Dj.app (A.q 4 J) (A.q 5 J))
  replace t:=t.fr V (A.q 1 J) (A.q 2 J)
  refine soN 0 tZ J ⟨J,J,ah.one,aj.one,ak.one,trivial⟩ J ?_
  refine en<|wtL [([]++(X2++(ob v4))),ob v9,[a],u,ob v5,ob v6,w,ob v1] (smg [3,2,2] J (SP.eq (by simp[gk]))) ?_
  exact wo [0,1,0,0,0,0,0] [0,0] (K (_,_,_,_,_,_,_,_,_,_,_,_,_,_,_) ⟨h,ah,(fun k hk=>((gb.1 (i4 k hk)).elim (fun h=>(gb.2 (.inr ((fun k hk=>(gb.2 (.inr (gb.2 (.inl hk))))) k h)))) (fun h=>((gb.1 h).elim (fun h=>(gb.2 (.inr ((fun k hk=>(gb.2 (.inr (gb.2 (.inr hk))))) k h)))) (fun h=>(gb.2 (.inl h))))))),aq,aj,(fun k hk=>((gb.1 (i5 k hk)).elim (fun h=>(gb.2 (.inr ((fun k hk=>(gb.2 (.inr (gb.2 (.inl hk))))) k h)))) (fun h=>(gb.2 (.inl (iD k h)))))),ak,(fun k hk=>((gb.1 (i6 k hk)).elim (fun h=>(gb.2 (.inr (gb.2 (.inr ((fun k hk=>(gb.2 (.inr (gb.2 (.inl hk))))) k h)))))) (fun h=>((gb.1 h).elim (fun h=>(gb.2 (.inl h))) (fun h=>(gb.2 (.inr (gb.2 (.inl h)))))))))⟩)
 refine WT.skip ?_
 exact wo [0,0,0,0,0,0,0] [0,0] (K (_,_,_,_,_,_,_,_,_,_,_,_,_,_,_) ⟨h,t,(fun k hk=>(gb.2 (.inl hk))),h7,H,(fun k hk=>(gb.2 (.inl (iD k hk)))),I,(fun k hk=>((gb.1 hk).elim (fun h=>(gb.2 (.inl h))) (fun h=>(gb.2 (.inr (gb.2 (.inl h)))))))⟩)
theorem yU (w0:av f d [[a]].flatten) (w:a8) (I:RSl (RI .u8) 1 f a6 e w.b) (aO:d a=some (.cells #[e,iV w.i,iV w.h] 144 (0,0))) {r:bo × a8} (h:oU N w=some r) :
  Calls prog 38 [pQ a].toArray w0.w (be d w0.w [[a]].flatten (fun ao Fs v=>∃ (Y:Value) (aq:List Nat) (X:List Nat),v = .agg [.string r.1.Name,Y].toArray∧Fs=[ob Y,[a],X]∧OSl cr 87 5 ao aq Y r.1.Rules∧(∀ k∈aq,k∈X)∧r.2.b=w.b∧ao a=some (.cells #[e,iV r.2.i,iV r.2.h] 144 (0,0)))):=by
 refine eL func38 J ntmps38 J (L:=[[a]]) w0 (fun hF=>?_)
 unfold oU at h
 refine sr<|lnz sY J fun T=>arr 4 [] J<|kcb [0] h J J J J (fun b ap z q=>pw N b w (I.y z) aO q) ?_
 rintro U h v1 bu F1 ⟨bw,bz,v2,m,rfl,rfl,h1,e1,h2⟩
 refine lnz sY J fun V=>soN 0 sD J ⟨J,h1.one,trivial⟩ J ?_
 refine arr 5 [] J<|kcb [2] h J J J J (fun b ap z q=>aJ N b (⟨w.b,U.2.i,U.2.h⟩:a8) 10 (I.y z) h2 q) ?_
 rintro E h v3 W F2 ⟨au,aP,rfl,rfl,e2,B⟩
 replace h1:=h1.fr aP (au.q 0 J) (au.q 1 J)
 refine art 7 [] J<|wt0 ?_
 replace h1:=h1.gives dM.gives
 refine cut (σ:=Hp × List Nat × (List ai) × Value × List Nat × Int × Int × ByteArray) (fun s=>[(2,pQ T),(3,pQ V)]) (fun s=>St w0 s.1 [(V,.cells #[.string s.2.2.2.2.2.2.2,s.2.2.2.1] 26 (0,0)),(T,.cells #[.string (⟨#[]⟩:ByteArray),.slice none 0 0] 26 (0,0))] [s.2.1,[a],ob s.2.2.2.1,m]) (fun s=>i8 N w s.2.2.1 s.2.2.2.2.2.1 s.2.2.2.2.2.2.1 s.2.2.2.2.2.2.2=some r∧(OSl cr 87 5 s.1 s.2.2.2.2.1 s.2.2.2.1 s.2.2.1)∧(∀ k∈s.2.2.2.2.1,k∈(m++s.2.1))∧(s.1 a=some (.cells #[e,iV s.2.2.2.2.2.1,iV s.2.2.2.2.2.2.1] 144 (0,0)))) (fun s hm=>?_) (fun K=>?_)
 ·clear h
  obtain⟨bA,Z,s1,u1,D2,s2,s3,s4⟩:=s
  obtain⟨h,k1,i1,k2⟩:=hm
  dsimp only at h k1 i1 k2 ⊢
  unfold i8 at h
  refine atr 4 [2] J<|soN 1 sD J ⟨J,k1.one,trivial⟩ J ?_
  refine en ?_
  refine WT.ret hF (aA.one (aZ BE J (fun x hw=>hw.rgO (i:=1) J 0 2 [.string s4,u1] J) J)) (fun x hw=>?_)
  cases h
  replace hw:=hw.merge (js:=[3,0]) (F:=[m,Z].flatten) J (SP.eq MC)
  refine aW (js:=[2,1,0]) hw J ⟨u1,D2,[m,Z].flatten,J,J,k1,(fun k hk=>((gb.1 (i1 k hk)).elim (fun h=>(hR.2 ⟨m,MC,h⟩)) (fun h=>(hR.2 ⟨Z,MC,h⟩)))),J,k2⟩
 refine ch h J ?_ ?_ <;> intro h
 ·refine atr 2 [] J ?_
  have aR:RC RS 1 W ([[],[]]:List (List Nat)) [.string (⟨#[]⟩:ByteArray),.string (⟨#[65]⟩:ByteArray)] ([(⟨#[]⟩:ByteArray),(⟨#[65]⟩:ByteArray)]:List ByteArray):=RC.cons (c:=[.string (⟨#[]⟩:ByteArray)]) (cells:=[.string (⟨#[65]⟩:ByteArray)]) ⟨J,J⟩ J (RC.cons (c:=[.string (⟨#[65]⟩:ByteArray)]) (cells:=[]) ⟨J,J⟩ J (RC.nil _ _ _))
  refine le' (aQ (vs:=[(0,.string (⟨#[]⟩:ByteArray)),(1,.string (⟨#[65]⟩:ByteArray))]) (C:=#[.string (⟨#[]⟩:ByteArray),.string (⟨#[65]⟩:ByteArray)]) RS.lasts eE ot J J J J (ac vJ (a7 (C':=[.string (⟨#[]⟩:ByteArray),.string ⟨#[]⟩]) J J J J J (a7 (C':=[.string (⟨#[]⟩:ByteArray),.string (⟨#[65]⟩:ByteArray)]) J J J J J (ab)))) J aR J (by simpa using Kw.nil)) J ?_
  rintro v4 aS D3 ⟨aw,h4⟩
  replace h4:OSl RS 9 1 aS [] v4 ([(⟨#[]⟩:ByteArray),(⟨#[65]⟩:ByteArray)]:List ByteArray):=by simpa using h4
  replace h1:=h1.f0 aw
  replace B:=aw _ _ MC B
  refine kcb [2] h J J J J (fun b ap z q=>bT N b (⟨w.b,E.2.i,E.2.h⟩:a8) ([(⟨#[]⟩:ByteArray),(⟨#[65]⟩:ByteArray)]:List ByteArray) (I.y z) B (h4.rsl.x (Dj.app (ap.q 0 J) dN)) q) ?_
  rintro x3 h v5 bB F3 ⟨ax,aT,rfl,rfl,e3,h5⟩
  replace h1:=h1.fr aT (ax.q 2 J) (ax.q 3 J)
  refine lf Gg J J J<|so1 0 Be J J ?_
  refine en ?_
  exact wo [2,0,1,1] [0,0] (K (_,_,_,_,_,_,_,_) ⟨h,h1,(fun k hk=>(gb.2 (.inl hk))),h5⟩)
 refine att 5 [] J ?_
 refine ch h J ?_ ?_ <;> intro h
 ·refine wm [0,1] [7] J<|amm 3 [0,1,1,0,2] [0,1] J J ?_
  obtain⟨u,aU,h⟩:=bs h
  refine WM.one 3 MA (mc J (fun _ v af D x M hw=>Kn.of Kf.nil (ai2 0 1 J J) hw) (bt (js:=[1]) (R:=[[],ob v2,m]) JK J J (fun x hw ap hl=>B3 N (bx hw ap hl) (⟨w.b,E.2.i,E.2.h⟩:a8) (I.y (hw.uo ap)) B  aU)) J ?_)
  rintro v6 aV F4 ⟨ay,aX,t,O,G,P,v9,Q,X2,rfl,rfl,h6,i2,h7,i3,h8,i4,e4,S⟩
  replace h1:=h1.fr aX (ay.q 1 J) (ay.q 2 J)
  have aB:RC cr 5 aV ([(ob t++O)++(P++(Q))]:List (List Nat)) [.string u.1.Name,iV u.1.Sal,t,G,v9] ([u.1]:List ai):=RC.cons (c:=[.string u.1.Name,iV u.1.Sal,t,G,v9]) (cells:=[]) ⟨t,(ob t++O),G,P,v9,Q,J,J,h6.rsl,h7,h8⟩ J (RC.nil _ _ _)
  refine WM.one 4 MA (me J (fun _ v af D x M hw=>Kn.of Kf.nil (ai2 0 1 J J) hw) (aQ (vs:=[(0,.agg [.string u.1.Name,iV u.1.Sal,t,G,v9].toArray)]) (C:=#[.string u.1.Name,iV u.1.Sal,t,G,v9]) cr.lasts si sU J J J J (ac DF (a7 (C':=[.string u.1.Name,iV u.1.Sal,t,G,v9]) J J J J J (ab))) J aB J (RC.kn cr.knows aB)) J ?_)
  rintro v10 aY D5 ⟨aD,ag⟩
  replace ag:OSl cr 87 5 aY ((ob t++O)++(P++(Q))) v10 ([u.1]:List ai):=by simpa[gk] using ag
  replace h1:=h1.f0 aD
  replace S:=aD _ _ MC S
  obtain⟨x6,b1,h⟩:=bs h
  refine WM.one 5 MA (me J (fun _ v af D x M hw=>Kn.of Kf.nil (ai2 0 1 J J) hw) (cq cr.lasts cr.one si J3 J J J J J (js:=[5]) (Rr:=[ob v10,ob t,[a],X2,[],m]) J h1 ag (fun ap=>ap.q 5 J) (fun ap=>(Dj.sub (Dj.app (Dj.app (ap.q 1 J) (Dj.sub (ap.q 3 J) i2)) (Dj.app (Dj.sub (ap.q 3 J) i3) (Dj.sub (ap.q 3 J) i4))) (fun k hk=>(by simpa[gk] using hk:k∈((ob t++O)++(P++Q)))))) b1) J ?_)
  rintro v11 bC D6 ⟨⟨b2,b3⟩,aF⟩
  replace S:=b3 _ _ ((b2.q 2 J) _ MC) S
  refine amm 1 [6,1] [0,1] J J ?_
  refine on1 7 (ms1 0 J nk Gj J aF.one ?_)
  refine WM.nil MA<|wtL [([]++(ob t++(X2))),ob v11,ob v10,[a],m] (smg [5,2,3] J (SP.eq (by simp[gk]))) ?_
  exact wo [0,2,0,1] [0,0] (K (_,_,_,_,_,_,_,_) ⟨h,aF,(fun k hk=>((gb.1 hk).elim (fun h=>(gb.2 (.inl h))) (fun h=>((gb.1 ((fun k hk=>(by simpa[gk] using hk:k∈((ob t++O)++(P++Q)))) k h)).elim (fun h=>((gb.1 h).elim (fun h=>(gb.2 (.inr ((fun k hk=>(gb.2 (.inr (gb.2 (.inl hk))))) k h)))) (fun h=>(gb.2 (.inr ((fun k hk=>(gb.2 (.inr (gb.2 (.inr hk))))) k (i2 k h))))))) (fun h=>((gb.1 h).elim (fun h=>(gb.2 (.inr ((fun k hk=>(gb.2 (.inr (gb.2 (.inr hk))))) k (i3 k h))))) (fun h=>(gb.2 (.inr ((fun k hk=>(gb.2 (.inr (gb.2 (.inr hk))))) k (i4 k h))))))))))),S⟩)
 refine att 5 [] J ?_
 refine ch h J ?_ ?_ <;> intro h
 ·refine WT.mix (Kn w0 W (ob v2) [(V,.cells #[.string U.1.Name,v2] 26 (0,0)),(T,.cells #[.string (⟨#[]⟩:ByteArray),.slice none 0 0] 26 (0,0))]) (fun i=>match i with | 9=>false | _=>true) mixed (fun _ h=>h.drew)<|mq 0 J MA (kn Kf.id (ai2 0 1 J J)) (ak qN J) J<|mq 1 J MA (kn Kf.id (ai2 0 1 J J)) (az E8 J (fun x hw=>hw.rgO (i:=0) J 1 1 [v2] J)) J<|ma 2 J MA (kn Kf.id (ai2 0 1 J J)) J<|mq 3 J MA (kn Kf.id (ai2 0 1 J J)) (ak qN J) J ?_
  refine mq 4 J MA (kn Kf.id (ai2 0 1 J J)) (az E8 J (fun x hw=>hw.rgO (i:=0) J 1 1 [v2] J)) J ?_
  obtain⟨x7,aG,h⟩:=bs h
  obtain⟨bD,F5,-,g1,ba,y,r1⟩:=h1.elS (aa aG).2.2
  obtain⟨v12,G3,bb,G4,bc,G5,rfl,rfl,bd,bf,bg⟩:=r1
  refine mq 5 J MA (kn Kf.id (ai2 0 1 J J)) (ae si J J h1.rsl aG) J<|mq 6 J MA (kn Kf.id (ai2 0 1 J J)) (aC o7 J (fun x hw=>hw.rg ba (g1.of_eq 0 5 J J:rg _ _ _ [.string x7.Name,iV x7.Sal,v12,bb,bc])) J) J ?_
  obtain⟨H,bh,h⟩:=bs h
  refine WM.one 7 MA (mc J (fun _ v af D x M hw=>Kn.of (Kf.id.st M.2.1 (M.1.r (i:=1) J)) (ai2 0 1 J J) hw) (bt (js:=[1]) (R:=[[],ob v2,m]) JP J J (fun x hw ap hl=>tO N (bx hw ap hl) (⟨w.b,E.2.i,E.2.h⟩:a8) x7 (I.y (hw.uo ap)) B (bd.x (Dj.sub (ap.q 2 J) (fun k h=>y k (gb.2 (.inl h))))) (bf.x (Dj.sub (ap.q 2 J) (fun k h=>y k (gb.2 (.inr (gb.2 (.inl h))))))) (bg.x (Dj.sub (ap.q 2 J) (fun k h=>y k (gb.2 (.inr (gb.2 (.inr h)))))))  bh)) J ?_)
  rintro bE bj F6 ⟨ah,aH,A,D7,v17,G6,aj,G7,X3,rfl,rfl,bk,i5,aI,i6,aK,i7,e5,al⟩
  replace h1:=h1.fr aH (ah.q 1 J) (ah.q 2 J)
  obtain⟨bF,an,h⟩:=bs h
  obtain⟨bG,F7,-,g2,bH,bI,r2⟩:=h1.elS (aa an).2.2
  obtain⟨bJ,G8,v20,G9,v21,bK,rfl,rfl,bL,bM,bN⟩:=r2
  have bl:=(Kf.id (F:=(ob v2)):Kf W _ _).st aH (ah.q 1 J)
  refine mq 8 J MA (kn bl (ai2 0 1 J J)) (ae si J J h1.rsl an) J ?_
  have aL:=bk.rsl
  have r3:cr bj ((ob A++D7)++(G6++(G7))) [.string H.1.Name,iV H.1.Sal,A,v17,aj] H.1:=⟨A,(ob A++D7),v17,G6,aj,G7,J,J,aL,aI,aK⟩
  refine WM.one 9 MA (mu J (fun hc=>by cases hc) (Jj (js:=[4]) (Rr:=[ob A,[a],X3,[],m]) (vs:=[.string H.1.Name,iV H.1.Sal,A,v17,aj]) (x':=H.1) cr.lasts tZ J J J J ⟨J,J,aL.one,aI.one,aK.one,trivial⟩ J h1 (sv an) r3 (cr.knows _ _ _ _ r3) (fun ap=>ap.q 4 J) (fun ap=>by simpa using (Dj.app (Dj.app (ap.q 0 rfl) (Dj.sub (Dj.app (ap.q 2 J) (Dj.sub (ap.q 4 J) (fun k h=>y k (gb.2 (.inl h))))) i5)) (Dj.app (Dj.sub (Dj.app (ap.q 2 J) (Dj.sub (ap.q 4 J) (fun k h=>y k (gb.2 (.inr (gb.2 (.inl h))))))) i6) (Dj.sub (Dj.app (ap.q 2 J) (Dj.sub (ap.q 4 J) (fun k h=>y k (gb.2 (.inr (gb.2 (.inr h))))))) i7))))) J ?_)
  rintro bO D8 ⟨⟨bm,bn⟩,bp,bq⟩
  replace al:=bn _ _ ((bm.q 1 J) _ MC) al
  refine WM.nil MA<|wtL [([]++(ob A++(X3))),ob v2,[a],m] (smg [4,1,2] J (SP.eq (by simp[gk]))) ?_
  exact wo [0,1,0,0] [0,0] (K (_,_,_,_,_,_,_,_) ⟨h,bq,(fun k hk=>((gb.1 ((fun k hk=>(by simpa[gk] using bp.mem hk:k∈(m++((ob A++D7)++(G6++G7))))) k hk)).elim (fun h=>(gb.2 (.inl h))) (fun h=>((gb.1 h).elim (fun h=>((gb.1 h).elim (fun h=>(gb.2 (.inr ((fun k hk=>(gb.2 (.inr (gb.2 (.inl hk))))) k h)))) (fun h=>((gb.1 (i5 k h)).elim (fun h=>(gb.2 (.inr ((fun k hk=>(gb.2 (.inr (gb.2 (.inr hk))))) k h)))) (fun h=>(gb.2 (.inl ((fun k h=>y k (gb.2 (.inl h))) k h)))))))) (fun h=>((gb.1 h).elim (fun h=>((gb.1 (i6 k h)).elim (fun h=>(gb.2 (.inr ((fun k hk=>(gb.2 (.inr (gb.2 (.inr hk))))) k h)))) (fun h=>(gb.2 (.inl ((fun k h=>y k (gb.2 (.inr (gb.2 (.inl h))))) k h)))))) (fun h=>((gb.1 (i7 k h)).elim (fun h=>(gb.2 (.inr ((fun k hk=>(gb.2 (.inr (gb.2 (.inr hk))))) k h)))) (fun h=>(gb.2 (.inl ((fun k h=>y k (gb.2 (.inr (gb.2 (.inr h))))) k h)))))))))))),al⟩)
 refine att 5 [] J ?_
 refine ch h J ?_ ?_ <;> intro h
 ·refine atr 3 [1,0] J ?_
  obtain⟨bP,aM,h⟩:=bs h
  refine lq (zt si J J h1.rsl aM) J ?_
  obtain⟨D9,aN,br,e7⟩:=h1.pre aM
  refine WL.conv (S':=St w0 W [(V,.cells #[.string U.1.Name,v2] 26 (0,0)),(T,.cells #[.string (⟨#[]⟩:ByteArray),.slice none 0 0] 26 (0,0))] [[],[a],ob (slc v2 0 (0:Int).toNat 5),m]) (fun x hw=>by first | simpa only[e7,List.cons_append,List.nil_append] using hw | (simp only[e7];exact hw))<|lf qN J J J<|so1 0 Gj J aN.one ?_
  refine en ?_
  exact wo [0,0,0,0] [0,0] (K (_,_,_,_,_,_,_,_) ⟨h,aN,(fun k hk=>(gb.2 (.inl ((fun k h=>br.mem h) k hk)))),B⟩)
 refine WT.skip ?_
 exact wo [0,0,0,0] [0,0] (K (_,_,_,_,_,_,_,_) ⟨h,h1,(fun k hk=>(gb.2 (.inl hk))),B⟩)
theorem mh (w0:av f d []) (b:(List Int)) (c:(List Int)) (i:RSl (RI .i64) 1 f b8 o b) (k:RSl (RI .i64) 1 f pG1 b6 c) {r:Bool} (h:iR N b c=some r) :
  CB w0 prog 81 [o,b6] (.bool r):=by
 refine eN func81 J ntmps81 J w0 fun q=>?_
 unfold iR at h
 refine atr 8 [] J<|lnr i J<|la J<|lnr k J<|la J<|en ?_
 refine ch h J ?_ ?_ <;> intro h
 ·refine att 4 [] J ?_
  exact rt q h
 refine att 7 [] J ?_
 refine lin (σ:=Int) (fun s=>[(0,o),(1,b6),(5,iV s)]) (fun s=>St w0 d [] []) (fun m s=>iI N b c m s=some r) (0) N h (sx [] []) (fun v w s hm=>?_)
 revert hm;revert s;intro s1 hm
 have h:iI N b c (v+1) s1=some r:=hm
 show WT _ _ [(0,o),(1,b6),(5,iV s1)] (St w0 d [] [])
 unfold iI at h
 refine atr 5 [] J<|lnr i J<|la J<|en ?_
 refine ch h J ?_ ?_ <;> intro h
 ·refine att 4 [] J<|WT.draw mixed MA (fun _ h=>h.drew)<|aqq 2 [] J ?_
  obtain⟨x,t,h⟩:=bs h
  obtain⟨C,D,-,g1,E,F,y⟩:=i.el (aa t).2.2
  obtain⟨rfl,-⟩:=y
  refine qq (ae aY J J i t) J<|qq (az rd J (fun z hw=>(g1.of_eq 0 1 J J:rg _ _ _ [iV x]).rangeAt hw.in0)) J<|aqq 2 [] J ?_
  obtain⟨A,u,h⟩:=bs h
  obtain⟨G,H,-,g2,I,K,B⟩:=k.el (aa u).2.2
  obtain⟨rfl,-⟩:=B
  refine qq (ae aY J J k u) J<|qq (az rd J (fun z hw=>(g2.of_eq 0 1 J J:rg _ _ _ [iV A]).rangeAt hw.in0)) J<|aqt 2 [] J ?_
  refine ch h J ?_ ?_ <;> intro h
  ·refine att 4 [] J ?_
   exact rt q h
  refine att 7 [] J ?_
  exact lb [] [] (w _ h)
 refine att 5 [] J ?_
 exact rt q h
theorem vT (w0:av f d []) (b:ax) (c:ax) (t:RSl aX 3 f a6 e b.Consts) (u:RSl (RI .i64) 1 f b0 n b.At) (v:RSl aX 3 f g j c.Consts) (w:RSl (RI .i64) 1 f p l c.At) {r:Bool} (h:kJ N b c=some r) :
  CB w0 prog 203 [.agg [.string b.Kind,iV b.N,e,n].toArray,.agg [.string c.Kind,iV c.N,j,l].toArray] (.bool r):=by
 refine eN func203 J ntmps203 J w0 fun x=>?_
 unfold kJ at h
 refine sr<|lbx J fun q=>lbx J fun s=>arr 10 [0,32,0,0] J ?_
 obtain⟨y,m,h⟩:=bs h
 refine WL.cutN 6 [(16,.bool y),(2,pQ q),(3,pQ s),(4,.bool false)] ?_ (fun K=>?_)
 rotate_left
 ·refine sp 10 m J (fun m=>?_) fun m=>?_
  ·refine arr 6 [1,32,1,0] J ?_
   cases m
   exact ku K
  ·refine arr 6 [] J ?_
   cases m
   exact ku K
 refine la J ?_
 obtain⟨z,i,h⟩:=bs h
 refine WL.cutN 6 [(23,.bool z),(2,pQ q),(3,pQ s),(4,.bool false)] ?_ (fun K=>?_)
 rotate_left
 ·refine sp 17 i J (fun i=>?_) fun i=>?_
  ·refine arr 4 [3,32,3,0] J<|ly J J<|qd i (mh N · b.At c.At u w ·) J J J fun B i=>la J ?_
   cases i
   exact ku K
  ·refine arr 6 [] J ?_
   cases i
   exact ku K
 refine la J ?_
 obtain⟨A,k,h⟩:=bs h
 refine WL.cutN 6 [(30,.bool A),(4,.bool false)] ?_ (fun K=>?_)
 rotate_left
 ·refine sp 24 k J (fun k=>?_) fun k=>?_
  ·refine arr 4 [2,32,2,0] J<|ly J J<|qd k (pY N · b.Consts c.Consts t v ·) J J J fun C k=>la J ?_
   cases k
   exact ku K
  ·refine arr 6 [] J ?_
   cases k
   exact ku K
 refine la J<|en ?_
 exact rt x h
theorem xX (w0:av f d [[a],ob e].flatten) (x:bO) (b:ax) (u:OSl cz 137 4 d b5 e x.Alphas) (ao:RSl fC 2 f b0 n x.Chains) (q:d a=some (.cells #[e,n] 47 (0,0))) (z:RSl aX 3 f g j b.Consts) (A:RSl (RI .i64) 1 f p l b.At) (a8:Dj b5 [[a],ob e].flatten) {r:Int × bO} (h:nr N x b=some r) :
  Calls prog 145 [pQ a,.agg [.string b.Kind,iV b.N,j,l].toArray].toArray w0.w (be d w0.w [[a],ob e].flatten (fun M Fs v=>∃ (G:Value) (O:List Nat),v=iV r.1∧Fs=[[a],ob G]∧OSl cz 137 4 M O G r.2.Alphas∧(∀ k∈O,k∈(b5++(g++p)))∧r.2.Chains=x.Chains∧M a=some (.cells #[G,n] 47 (0,0)))):=by
 refine eL func145 J ntmps145 J (L:=[[a],ob e]) w0 (fun P=>?_)
 have Q:=Old.mk w0 u.kn a8
 unfold nr at h
 refine sr<|lbx J fun y=>art 8 [] J ?_
 refine lin (σ:=Int) (fun s=>[(0,pQ a),(3,pQ y),(5,iV s)]) (fun s=>St w0 d [(y,.cells #[.string b.Kind,iV b.N,j,l] 137 (0,0))] [[a],ob e]) (fun m s=>fd N x b m s=some r) (0) N h (sx [0,0] [0]) (fun n1 af s hm=>?_)
 revert hm;revert s;intro s1 hm
 have h:fd N x b (n1+1) s1=some r:=hm
 show WT _ _ [(0,pQ a),(3,pQ y),(5,iV s1)] (St w0 d [(y,.cells #[.string b.Kind,iV b.N,j,l] 137 (0,0))] [[a],ob e])
 unfold fd at h
 refine atr 5 [] J<|lq (aG J) J<|lf oK J J J<|lgx 0 0 (bZ q) J<|lno u J<|la J<|en ?_
 refine ch h J ?_ ?_ <;> intro h
 ·refine att 4 [] J<|WT.draw mixed MA (fun _ h=>h.drew)<|qq (de J) J<|qq (aG J) J<|qq (ak oK J) J<|qq (az Gh J (fun t hw=>((bZ q).of_eq 0 1 J J:rg _ _ _ [e]).rangeAt hw.fro)) J<|qq (de J) J ?_
  obtain⟨H,S,h⟩:=bs h
  obtain⟨aq,F1,-,g1,au,aw,r1⟩:=u.elS (aa S).2.2
  obtain⟨v1,G1,v2,G2,rfl,rfl,h1,h2⟩:=r1
  refine qq (ae zU J J u.rsl S) J<|qq (aC uh J (fun t hw=>(g1.of_eq 0 4 J J:rg _ _ _ [.string H.Kind,iV H.N,v1,v2]).rangeAt hw.fro) J) J<|qq (aC uh J (fun t hw=>hw.rgO (i:=0) J 0 4 [.string b.Kind,iV b.N,j,l] J) J) J ?_
  obtain⟨x2,ag,h⟩:=bs h
  refine qp (cK Ht J (fun t hw=>vT N (ba hw.fro) H b h1 h2 (z.y hw.up) (A.y hw.up) ag)) J<|WQ.nil ?_
  refine ch h J ?_ ?_ <;> intro h
  ·refine att 5 [] J ?_
   exact rtg [0,0] P (aA.one J) J (by cases h;exact fun t hw=>⟨e,b5,rfl,rfl,u,(fun k hk=>(gb.2 (.inl hk))),J,q⟩)
  refine att 7 [] J ?_
  exact lb [0,0] [0] (af _ h)
 refine xt J<|sq<|WT.mix (Kn w0 d [a] [(y,.cells #[.string b.Kind,iV b.N,j,l] 137 (0,0))]) (fun i=>match i with | 10=>false | _=>true) mixed (fun _ h=>h.drew)<|ma 0 J MA (kn Kf.id (am [0] J)) J<|ma 1 J MA (kn Kf.id (am [0] J)) J<|mq 2 J MA (kn Kf.id (am [0] J)) (aG J) J<|mq 3 J MA (kn Kf.id (am [0] J)) (ak oK J) J ?_
 refine mq 4 J MA (kn Kf.id (am [0] J)) (az Gh J (fun t hw=>hw.rg MC ((bZ q).of_eq 0 1 J J:rg _ _ _ [e]))) J<|mq 5 J MA (kn Kf.id (am [0] J)) (aC uh J (fun t hw=>hw.rgO (i:=0) J 0 4 [.string b.Kind,iV b.N,j,l] J) J) J ?_
 first | refine mu0 z fun T=>?_ | refine iu0 z fun T=>?_
 first | refine mu0 A fun U=>?_ | refine iu0 A fun U=>?_
 have V:RC cz 4 d ([g++(p)]:List (List Nat)) [.string b.Kind,iV b.N,j,l] ([b]:List ax):=RC.cons (c:=[.string b.Kind,iV b.N,j,l]) (cells:=[]) ⟨j,g,l,p,J,J,T,U⟩ J (RC.nil _ _ _)
 refine WM.one 6 MA (me J (fun _ v ah D t B hw=>Kn.of (Kf.id.se B.1) (am [0] J) hw) (aQ (vs:=[(0,.agg [.string b.Kind,iV b.N,j,l].toArray)]) (C:=#[.string b.Kind,iV b.N,j,l]) cz.lasts zU oZ J J J J (ac BJ (a7 (C':=[.string b.Kind,iV b.N,j,l]) J J J J J (ab))) J V J (RC.kn cz.knows V)) J ?_)
 rintro v3 ai D1 ⟨I,K⟩
 replace K:OSl cz 137 4 ai (g++(p)) v3 ([b]:List ax):=by simpa[gk] using K
 replace u:=u.f0 I
 replace q:=I _ _ MC q
 obtain⟨x3,aj,h⟩:=bs h
 have W:=(Kf.id (F:=[a]):Kf d _ _).se I
 refine WM.one 7 MA (me J (fun _ v ah D t B hw=>Kn.of (W.st B.1.2 (B.1.1.r (i:=1) J)) (am [0] J) hw) (cq cz.lasts cz.one zU H8 J J J J J (js:=[2]) (Rr:=[ob v3,[a]]) J u K (fun ap=>(ap.o Q)) (fun ap=>(Dj.sub (Dj.app (ap.o z.old) (ap.o A.old)) (fun k hk=>(by simpa[gk] using hk:k∈(g++p))))) aj) J ?_)
 rintro v4 ay D2 ⟨⟨X,Y⟩,w⟩
 replace q:=Y _ _ ((X.q 1 J) _ MC) q
 have Z:=W.st Y (X.q 1 J)
 refine mqT 8 [9,10] J MA (kn Z (am [0] J)) (aG J) J<|mq 9 J MA (kn Z (am [0] J)) (ak oK J) J ?_
 refine WM.thw (js:=[2]) (R:=[ob v4,ob v3]) J q (fun aB E al=>?_)
 replace w:=w.fr al (E.q 0 J) (Dj.app (E.o Q) (Dj.sub (Dj.app (E.o z.old) (E.o A.old)) (fun k hk=>(by simpa[gk] using hk:k∈(g++p)))))
 refine on1 10 (ms1 0 J nk J5 J w.one ?_)
 refine WM.nil MA<|sr<|la J<|lq (aG J) J<|arr 2 [0,0] J<|lno w J<|art 3 [] J ?_
 refine WT.frz (js:=[0]) (R:=[(y,.cells #[.string b.Kind,iV b.N,j,l] 137 (0,0))]) J (fun aD an k1=>?_)
 replace w:=w.f0 an
 exact rtg [0,0] P (aA.one J) J (by cases h;exact fun t hw=>⟨v4,(b5++(g++(p))),J,J,w,(fun k hk=>((gb.1 hk).elim (fun h=>(gb.2 (.inl h))) (fun h=>((gb.1 ((fun k hk=>(by simpa[gk] using hk:k∈(g++p))) k h)).elim (fun h=>(gb.2 (.inr (gb.2 (.inl h))))) (fun h=>(gb.2 (.inr (gb.2 (.inr h))))))))),J,k1⟩)
theorem yr (w0:av f d []) (k:au) (w:RSl bV 5 f a6 e k.Args) {r:ax} (h:nu N k=some r) :
  Calls prog 146 [.agg [.string k.Kind,e,.bool k.Not].toArray].toArray w0.w (be d w0.w [] (fun F Fs v=>∃ (z:Value) (A:Value),v = .agg [.string r.Kind,iV r.N,z,A].toArray∧Fs=[ob z,ob A]∧OSl aX 95 3 F [] z r.Consts∧OSl (RI .i64) 3 1 F [] A r.At)):=by
 refine eN func146 J ntmps146 J w0 fun S=>?_
 unfold nu at h
 refine sr<|lbx J fun G=>lnz oZ J fun H=>arr 7 [0,32,1,32] J<|lnr w J<|lq (aU (vs:=[(0,.string k.Kind),(1,iV (k.Args.length:Int))]) (C:=#[.string k.Kind,iV (k.Args.length:Int),.slice none 0 0,.slice none 0 0]) GS oZ J (a7 (C':=[.string k.Kind,iV 0,.slice none 0 0,.slice none 0 0]) J J J J J (a7 (C':=[.string k.Kind,iV (k.Args.length:Int),.slice none 0 0,.slice none 0 0]) J J J J J (ab)))) J<|lnz oZ J fun I=>?_
 refine soN 0 ux J ⟨J,J,J,J,trivial⟩ J ?_
 refine art 7 [] J<|wtS ?_
 have T:=OSl.nil aX 95 3 d
 refine wtS ?_
 have U:=OSl.nil (RI .i64) 3 1 d
 refine lin (σ:=Hp × (List bi) × Value × (List Int) × Value × Int) (fun s=>[(1,pQ G),(2,pQ H),(3,pQ I),(4,iV s.2.2.2.2.2)]) (fun s=>St w0 s.1 [(I,.cells #[.string k.Kind,iV (k.Args.length:Int),s.2.2.1,s.2.2.2.2.1] 137 (0,0)),(H,.cells #[.string (⟨#[]⟩:ByteArray),iV 0,.slice none 0 0,.slice none 0 0] 137 (0,0)),(G,.cells #[.string k.Kind,e,.bool k.Not] 201 (0,0))] [ob s.2.2.2.2.1,ob s.2.2.1]) (fun m s=>fg N k m s.2.1 s.2.2.2.1 s.2.2.2.2.2=some r∧(OSl aX 95 3 s.1 [] s.2.2.1 s.2.1)∧(OSl (RI .i64) 3 1 s.1 [] s.2.2.2.2.1 s.2.2.2.1)) (d,([]:List bi),(.slice none 0 0),([]:List Int),(.slice none 0 0),0) N ⟨h,T,U⟩ (sx [0,0] [0,0,0]) (fun n1 K s hm=>?_)
 obtain⟨V,s1,L,s2,B,t⟩:=s
 obtain⟨h,u,q⟩:=hm
 dsimp only at h u q ⊢
 unfold fg at h
 refine atr 6 [1,64] J<|lnr w J<|la J<|en ?_
 refine ch h J ?_ ?_ <;> intro h
 ·refine atr 8 [1,64] J ?_
  obtain⟨x1,M,h⟩:=bs h
  obtain⟨aq,F1,-,g1,aw,ay,W⟩:=w.el (aa M).2.2
  obtain⟨rfl,-⟩:=W
  refine lia w M J<|lf A8 J J J<|lhx 0 0 g1 J<|la J<|en ?_
  refine ch h J ?_ ?_ <;> intro h
  ·refine sq<|wm [0,1,2] [11] J<|amm 5 [0,2,1,0,2,1,3,64,4] [0,1,2] J J ?_
   obtain⟨b,O,h⟩:=bs h
   obtain⟨az,F2,-,g2,aB,aD,X⟩:=w.el (aa O).2.2
   obtain⟨rfl,-⟩:=X
   refine mq 5 J MA (kN [0,1,2]) (ae nY J J w O) J<|amm 1 [6,2] [0,1,2] J J<|mq 7 J MA (kN [0,1,2]) (aC kM J (fun y hw=>(g2.of_eq 2 3 J J:rg _ _ _ [iV b.V.K,iV b.V.N,.string b.V.S]).rangeAt hw.1) J) J ?_
   have Y:RC aX 3 V ([[]]:List (List Nat)) [iV b.V.K,iV b.V.N,.string b.V.S] ([b.V]:List bi):=RC.cons (c:=[iV b.V.K,iV b.V.N,.string b.V.S]) (cells:=[]) ⟨J,J⟩ J (RC.nil _ _ _)
   refine WM.one 8 MA (me J (fun _ v Z D y hq hw=>Kn.of Kf.nil (ai3 0 1 2 J J J) hw) (aQ (vs:=[(0,.agg [iV b.V.K,iV b.V.N,.string b.V.S].toArray)]) (C:=#[iV b.V.K,iV b.V.N,.string b.V.S]) aX.lasts iB jF J J J J (ac AV (a7 (C':=[iV b.V.K,iV b.V.N,.string b.V.S]) J J J J J (ab))) J Y J (by simpa using Kw.nil)) J ?_)
   rintro v1 a8 D1 ⟨P,h1⟩
   replace h1:OSl aX 95 3 a8 [] v1 ([b.V]:List bi):=by simpa using h1
   replace u:=u.f0 P
   replace q:=q.f0 P
   obtain⟨x3,af,h⟩:=bs h
   refine WM.one 9 MA (me J (fun _ v Z D y hq hw=>Kn.of Kf.nil (ai3 0 1 2 J J J) hw) (bg aX.lasts aX.one aX.flat iB C8 J J J J J (js:=[2]) (Rr:=[ob v1,ob B]) J u h1.rsl af) J ?_)
   rintro v2 ag D2 ⟨⟨ah,ai⟩,x⟩
   replace q:=q.fr ai (ah.q 1 J) dN
   refine amm 1 [10,2] [0,1,2] J J ?_
   refine on1 11 (ms1 0 J nk E7 J x.one ?_)
   refine WM.nil MA<|atr 4 [3,0] J ?_
   have aj:RC (RI .i64) 1 ag ([[]]:List (List Nat)) [iV t] ([t]:List Int):=RC.cons (c:=[iV t]) (cells:=[]) ⟨J,J⟩ J (RC.nil _ _ _)
   refine le' (aQ (vs:=[(0,iV t)]) (C:=#[iV t]) RI.lasts aY gF J J J J (ac ij (a7 (C':=[iV t]) J J J J J (ab))) J aj J (by simpa using Kw.nil)) J ?_
   rintro v3 ak D3 ⟨Q,E⟩
   replace E:OSl (RI .i64) 3 1 ak [] v3 ([t]:List Int):=by simpa using E
   replace x:=x.f0 Q
   replace q:=q.f0 Q
   obtain⟨x4,al,h⟩:=bs h
   refine le' (bg RI.lasts RI.one RI.flat aY jH J J J J J (js:=[3]) (Rr:=[ob v3,ob v2,ob v1]) J q E.rsl al) J ?_
   rintro v4 aF D4 ⟨⟨an,ao⟩,R⟩
   replace x:=x.fr ao (an.q 1 J) dN
   refine lf zM J J J<|so1 0 qU J R.one ?_
   refine art 7 [] J ?_
   exact lb [0,1] [0,0,0] (K (_,_,_,_,_,_) ⟨h,x,R⟩)
  refine att 7 [] J ?_
  exact lb [0,0] [0,0,0] (K (_,_,_,_,_,_) ⟨h,u,q⟩)
 refine atr 4 [4] J<|soN 1 ux J ⟨J,J,u.one,q.one,trivial⟩ J ?_
 refine en ?_
 exact rtg [1,0] S (aA.one (aZ uh J (fun y hw=>hw.rgO (i:=1) J 0 4 [.string k.Kind,iV (k.Args.length:Int),L,B] J) J)) J (by cases h;exact fun y hw=>⟨L,B,rfl,rfl,u,q⟩)
theorem tW (w0:av f d []) (L:bo) (V:RSl cr 5 f a6 e L.Rules) {r:bO} (h:mC N L=some r) :
  Calls prog 78 [.agg [.string L.Name,e].toArray].toArray w0.w (be d w0.w [] (fun aG Fs v=>∃ (aq:Value) (aH:List Nat) (au:Value) (aI:List Nat) (X:List Nat),v = .agg [aq,au].toArray∧Fs=[ob aq,ob au,aI,X]∧OSl cz 137 4 aG aH aq r.Alphas∧(∀ k∈aH,k∈X)∧OSl bC 141 2 aG aI au r.Chains)):=by
 refine eN func78 J ntmps78 J w0 fun hF=>?_
 unfold mC at h
 refine sr<|lbx J fun W=>lnz tH J fun Y=>en<|sr<|lq (aU (vs:=[]) (C:=#[.slice none 0 0,.slice none 0 0]) KK tH J (ab)) J<|lnz tH J fun T=>soN 0 wi J ⟨J,J,trivial⟩ J ?_
 refine art 7 [] J<|wt0<|wtS ?_
 have k1:=OSl.nil cz 137 4 d
 refine wtS<|wt0 ?_
 have k2:=OSl.nil bC 141 2 d
 refine lin (σ:=Hp × List Nat × (List ax) × Value × List Nat × (List aR) × Value × List Nat × Int) (fun s=>[(1,pQ W),(2,pQ Y),(3,pQ T),(4,iV s.2.2.2.2.2.2.2.2)]) (fun s=>St w0 s.1 [(T,.cells #[s.2.2.2.1,s.2.2.2.2.2.2.1] 47 (0,0)),(Y,.cells #[.slice none 0 0,.slice none 0 0] 47 (0,0)),(W,.cells #[.string L.Name,e] 26 (0,0))] [s.2.2.2.2.2.2.2.1,ob s.2.2.2.2.2.2.1,ob s.2.2.2.1,s.2.1]) (fun m s=>dV N L m s.2.2.1 s.2.2.2.2.2.1 s.2.2.2.2.2.2.2.2=some r∧(OSl cz 137 4 s.1 s.2.2.2.2.1 s.2.2.2.1 s.2.2.1)∧(∀ k∈s.2.2.2.2.1,k∈s.2.1)∧(OSl bC 141 2 s.1 s.2.2.2.2.2.2.2.1 s.2.2.2.2.2.2.1 s.2.2.2.2.2.1)) (d,[],([]:List ax),(.slice none 0 0),[],([]:List aR),(.slice none 0 0),[],0) N ⟨h,k1,MC,k2⟩ (sx [0,0,0,0] [0,0,0]) (fun n1 b1 s hm=>?_)
 obtain⟨aw,A,s1,u1,D1,s2,G,E,s3⟩:=s
 obtain⟨h,k3,i1,t⟩:=hm
 dsimp only at h k3 i1 t ⊢
 unfold dV at h
 refine atr 6 [1,64] J<|lnr V J<|la J<|en ?_
 refine ch h J ?_ ?_ <;> intro h
 ·refine atr 5 [] J<|lq (aU (vs:=[]) (C:=#[.slice none 0 0,.slice none 0 0]) Kg vN J (ab)) J<|lnz vN J fun ay=>soN 0 Hl J ⟨J,J,trivial⟩ J ?_
  refine art 7 [] J<|wt0<|wtS ?_
  have k5:=OSl.nil (RI .i64) 3 1 aw
  refine wtS ?_
  have k6:=OSl.nil (RI .i64) 3 1 aw
  refine lin (σ:=Hp × List Nat × (List ax) × Value × List Nat × (List Int) × Value × (List Int) × Value × Int) (fun s=>[(1,pQ W),(2,pQ Y),(3,pQ T),(4,iV s3),(5,pQ ay),(6,iV s.2.2.2.2.2.2.2.2.2)]) (fun s=>St w0 s.1 [(ay,.cells #[s.2.2.2.2.2.2.2.2.1,s.2.2.2.2.2.2.1] 141 (0,0)),(T,.cells #[s.2.2.2.1,G] 47 (0,0)),(Y,.cells #[.slice none 0 0,.slice none 0 0] 47 (0,0)),(W,.cells #[.string L.Name,e] 26 (0,0))] [ob s.2.2.2.2.2.2.2.2.1,ob s.2.2.2.2.2.2.1,s.2.1,E,ob G,ob s.2.2.2.1,A]) (fun m s=>f8 N L s2 s3 (dV N L n1) m s.2.2.1 s.2.2.2.2.2.1 s.2.2.2.2.2.2.2.1 s.2.2.2.2.2.2.2.2.2=some r∧(OSl cz 137 4 s.1 s.2.2.2.2.1 s.2.2.2.1 s.2.2.1)∧(∀ k∈s.2.2.2.2.1,k∈(A++s.2.1))∧(OSl bC 141 2 s.1 E G s2)∧(OSl (RI .i64) 3 1 s.1 [] s.2.2.2.2.2.2.1 s.2.2.2.2.2.1)∧(OSl (RI .i64) 3 1 s.1 [] s.2.2.2.2.2.2.2.2.1 s.2.2.2.2.2.2.2.1)) (aw,[],s1,u1,D1,([]:List Int),(.slice none 0 0),([]:List Int),(.slice none 0 0),0) N ⟨h,k3,(fun k hk=>(gb.2 (.inl (i1 k hk)))),t,k5,k6⟩ (sx [0,0,0,0,0,0,0] [0,0,0,0]) (fun n2 aJ s hm=>?_)
  obtain⟨b2,I,s4,u3,D3,s5,x,s6,y,s7⟩:=s
  obtain⟨h,H,i2,t,u,w⟩:=hm
  dsimp only at h H i2 t u w ⊢
  unfold f8 at h
  refine atr 7 [1,96] J ?_
  obtain⟨x1,aK,h⟩:=bs h
  obtain⟨bp,F1,-,g1,bq,br,r1⟩:=V.el (aa aK).2.2
  obtain⟨v1,G1,v2,G2,v3,G3,rfl,rfl,h1,h2,h3⟩:=r1
  refine lia V aK J<|lf xx J J J<|lhx 2 0 g1 J<|lnr h1 J<|la J<|en ?_
  refine ch h J ?_ ?_ <;> intro h
  ·refine atr 8 [1,96] J ?_
   obtain⟨x2,aL,h⟩:=bs h
   obtain⟨bt,F2,-,g2,bu,bw,r2⟩:=V.el (aa aL).2.2
   obtain⟨v4,G4,v5,G5,v6,G6,rfl,rfl,h4,h5,h6⟩:=r2
   refine lia V aL J<|lf xx J J J<|lhx 2 0 g2 J<|la J ?_
   obtain⟨x3,aM,h⟩:=bs h
   obtain⟨bx,F3,-,g3,bz,bA,r3⟩:=h4.el (aa aM).2.2
   obtain⟨v7,G7,rfl,b3,h7⟩:=r3
   obtain rfl:=b3.symm
   refine lia h4 aM J<|lhx 0 3 g3 J<|lnz jB J fun ba=>soN 0 o1 J ⟨J,h7.one,J,trivial⟩ J ?_
   refine arr 4 [3] J<|kab h J J J (fun b z q=>yr N b x3 (h7.y z) q) ?_
   rintro x4 h v8 bB F4 ⟨S,ae,v9,v10,rfl,rfl,h8,h9⟩
   replace H:=H.fr ae (S.q 5 J) (Dj.sub (Dj.app (S.q 6 J) (S.q 2 J)) i2)
   replace t:=t.fr ae (S.q 4 J) (S.q 3 J)
   replace u:=u.fr ae (S.q 1 J) dN
   replace w:=w.fr ae (S.q 0 J) dN
   refine WL.frz (js:=[2]) (R:=[(ba,.cells #[.string x3.Kind,v7,.bool x3.Not] 201 (0,0)),(ay,.cells #[y,x] 141 (0,0)),(Y,.cells #[.slice none 0 0,.slice none 0 0] 47 (0,0)),(W,.cells #[.string L.Name,e] 26 (0,0))]) J (fun bD U bb=>?_)
   replace H:=H.f0 U
   replace t:=t.f0 U
   replace u:=u.f0 U
   replace w:=w.f0 U
   replace h8:=h8.f0 U
   replace h9:=h9.f0 U
   refine kcb [0,7] h J J J J (fun b ap z q=>xX N b (⟨s4,s2⟩:bO) x4 H ((t.rslG bC.gives).x (Dj.app (ap.q 6 J) (ap.q 5 J))) bb (h8.rsl.x (Dj.app (ap.q 0 J) dN)) (h9.rsl.x (Dj.app (ap.q 1 J) dN)) (Dj.sub (Dj.app (ap.q 7 J) (ap.q 4 J)) i2) q) ?_
   rintro B h v11 aN F5 ⟨af,az,v12,D4,rfl,rfl,D,i3,e1,K⟩
   replace t:=t.fr az (af.q 6 J) (af.q 5 J)
   replace u:=u.fr az (af.q 3 J) dN
   replace w:=w.fr az (af.q 2 J) dN
   refine art 7 [2,0] J ?_
   refine ch h J ?_ ?_ <;> intro h
   ·refine atr 4 [1,32] J ?_
    have bc:RC (RI .i64) 1 aN ([[]]:List (List Nat)) [iV B.1] ([B.1]:List Int):=RC.cons (c:=[iV B.1]) (cells:=[]) ⟨J,J⟩ J (RC.nil _ _ _)
    refine le' (aQ (vs:=[(0,iV B.1)]) (C:=#[iV B.1]) RI.lasts aY gF J J J J (ac ij (a7 (C':=[iV B.1]) J J J J J (ab))) J bc J (by simpa using Kw.nil)) J ?_
    rintro ag bd D5 ⟨Z,aB⟩
    replace aB:OSl (RI .i64) 3 1 bd [] ag ([B.1]:List Int):=by simpa using aB
    replace t:=t.f0 Z
    replace u:=u.f0 Z
    replace w:=w.f0 Z
    replace D:=D.f0 Z
    replace K:=Z _ _ MC K
    obtain⟨x6,bf,h⟩:=bs h
    refine le' (bg RI.lasts RI.one RI.flat aY jH J J J J J (js:=[6]) (Rr:=[ob ag,[T],ob v12,ob v9,ob v10,ob y,I,E,ob G,A]) J u aB.rsl bf) J ?_
    rintro aO bE D6 ⟨⟨M,ah⟩,ai⟩
    replace t:=t.fr ah (M.q 8 J) (M.q 7 J)
    replace w:=w.fr ah (M.q 5 J) dN
    replace D:=D.fr ah (M.q 2 J) (Dj.sub (Dj.app (Dj.sub (Dj.app (M.q 9 J) (M.q 6 J)) i2) (Dj.app (Dj.sub (M.q 3 J) iD) (Dj.sub (M.q 4 J) iD))) i3)
    replace K:=ah _ _ ((M.q 1 J) _ MC) K
    refine lf vz J J J<|so1 1 qU J ai.one ?_
    refine art 7 [] J ?_
    refine WT.thw (js:=[2]) (R:=[ob aO,ob ag,ob v12,ob v9,ob v10,ob y,I,E,ob G,A]) J K (fun bF O aj=>?_)
    replace t:=t.fr aj (O.q 8 J) (O.q 7 J)
    replace ai:=ai.fr aj (O.q 0 J) dN
    replace w:=w.fr aj (O.q 5 J) dN
    replace D:=D.fr aj (O.q 2 J) (Dj.sub (Dj.app (Dj.sub (Dj.app (O.q 9 J) (O.q 6 J)) i2) (Dj.app (Dj.sub (O.q 3 J) iD) (Dj.sub (O.q 4 J) iD))) i3)
    refine wtL [(I++(ob v9++(ob v10))),ob aO,ob ag,ob v12,ob y,E,ob G,A] (smg [6,3,3] J (SP.eq (by simp[gk]))) ?_
    exact lb [4,1,0,2,2,1,1] [2,0,1,1] (aJ (_,_,_,_,_,_,_,_,_,_) ⟨h,D,(fun k hk=>((gb.1 (i3 k hk)).elim (fun h=>((gb.1 (i2 k h)).elim (fun h=>(gb.2 (.inl h))) (fun h=>(gb.2 (.inr ((fun k hk=>(gb.2 (.inl hk))) k h)))))) (fun h=>((gb.1 h).elim (fun h=>(gb.2 (.inr ((fun k hk=>(gb.2 (.inr (gb.2 (.inl hk))))) k (iD k h))))) (fun h=>(gb.2 (.inr ((fun k hk=>(gb.2 (.inr (gb.2 (.inr hk))))) k (iD k h))))))))),t,ai,w⟩)
   refine atr 4 [0,32] J ?_
   have bh:RC (RI .i64) 1 aN ([[]]:List (List Nat)) [iV B.1] ([B.1]:List Int):=RC.cons (c:=[iV B.1]) (cells:=[]) ⟨J,J⟩ J (RC.nil _ _ _)
   refine le' (aQ (vs:=[(0,iV B.1)]) (C:=#[iV B.1]) RI.lasts aY gF J J J J (ac ij (a7 (C':=[iV B.1]) J J J J J (ab))) J bh J (by simpa using Kw.nil)) J ?_
   rintro ak bj D7 ⟨a8,aC⟩
   replace aC:OSl (RI .i64) 3 1 bj [] ak ([B.1]:List Int):=by simpa using aC
   replace t:=t.f0 a8
   replace u:=u.f0 a8
   replace w:=w.f0 a8
   replace D:=D.f0 a8
   replace K:=a8 _ _ MC K
   obtain⟨x7,bk,h⟩:=bs h
   refine le' (bg RI.lasts RI.one RI.flat aY jH J J J J J (js:=[5]) (Rr:=[ob ak,[T],ob v12,ob v9,ob v10,ob x,I,E,ob G,A]) J w aC.rsl bk) J ?_
   rintro aP bG D8 ⟨⟨P,al⟩,an⟩
   replace t:=t.fr al (P.q 8 J) (P.q 7 J)
   replace u:=u.fr al (P.q 5 J) dN
   replace D:=D.fr al (P.q 2 J) (Dj.sub (Dj.app (Dj.sub (Dj.app (P.q 9 J) (P.q 6 J)) i2) (Dj.app (Dj.sub (P.q 3 J) iD) (Dj.sub (P.q 4 J) iD))) i3)
   replace K:=al _ _ ((P.q 1 J) _ MC) K
   refine lf tt J J J<|so1 1 qU J an.one ?_
   refine art 7 [] J ?_
   refine WT.thw (js:=[2]) (R:=[ob aP,ob ak,ob v12,ob v9,ob v10,ob x,I,E,ob G,A]) J K (fun bI Q ao=>?_)
   replace t:=t.fr ao (Q.q 8 J) (Q.q 7 J)
   replace u:=u.fr ao (Q.q 5 J) dN
   replace an:=an.fr ao (Q.q 0 J) dN
   replace D:=D.fr ao (Q.q 2 J) (Dj.sub (Dj.app (Dj.sub (Dj.app (Q.q 9 J) (Q.q 6 J)) i2) (Dj.app (Dj.sub (Q.q 3 J) iD) (Dj.sub (Q.q 4 J) iD))) i3)
   refine wtL [(I++(ob v9++(ob v10))),ob aP,ob ak,ob v12,ob x,E,ob G,A] (smg [6,3,3] J (SP.eq (by simp[gk]))) ?_
   exact lb [1,3,0,2,2,1,1] [2,0,1,1] (aJ (_,_,_,_,_,_,_,_,_,_) ⟨h,D,(fun k hk=>((gb.1 (i3 k hk)).elim (fun h=>((gb.1 (i2 k h)).elim (fun h=>(gb.2 (.inl h))) (fun h=>(gb.2 (.inr ((fun k hk=>(gb.2 (.inl hk))) k h)))))) (fun h=>((gb.1 h).elim (fun h=>(gb.2 (.inr ((fun k hk=>(gb.2 (.inr (gb.2 (.inl hk))))) k (iD k h))))) (fun h=>(gb.2 (.inr ((fun k hk=>(gb.2 (.inr (gb.2 (.inr hk))))) k (iD k h))))))))),t,u,an⟩)
  refine atr 5 [1,32,2] J ?_
  have aS:RC bC 2 b2 ([(ob y++[])++((ob x++[]))]:List (List Nat)) [y,x] ([(⟨s6,s5⟩:aR)]:List aR):=RC.cons (c:=[y,x]) (cells:=[]) ⟨y,x,J,J,w,u⟩ J (RC.nil _ _ _)
  refine le' (aQ (vs:=[(0,.agg [y,x].toArray)]) (C:=#[y,x]) bC.lasts A4 vN J J J J (ac BX (a7 (C':=[y,x]) J J J J J (ab))) J aS J (RC.kn bC.knows aS)) J ?_
  rintro v17 bl D9 ⟨aT,aD⟩
  replace aD:OSl bC 141 2 bl ((ob y++[])++((ob x++[]))) v17 ([(⟨s6,s5⟩:aR)]:List aR):=by simpa[gk] using aD
  replace H:=H.f0 aT
  replace t:=t.f0 aT
  refine wlL [((ob y++[])++((ob x++[]))),ob v17,I,E,ob G,ob u3,A] (smg [1,1] J (SP.eq (by simp[gk,bH]))) ?_
  obtain⟨x8,bm,h⟩:=bs h
  refine le' (cq bC.lasts bC.one A4 FY J J J J J (js:=[4]) (Rr:=[((ob y++[])++((ob x++[]))),ob v17,I,E,ob u3,A]) J t aD (fun ap=>ap.q 3 J) (fun ap=>ap.q 0 J) bm) J ?_
  rintro aV bJ bK ⟨⟨aF,bn⟩,aX⟩
  replace H:=H.fr bn (aF.q 4 J) (Dj.sub (Dj.app (aF.q 5 J) (aF.q 2 J)) i2)
  refine wlL [(E++((ob y++[])++((ob x++[])))),ob aV,ob v17,I,ob u3,A] (smg [4,1] J (SP.eq MC))<|lf Cd J J J<|so1 1 Jf J aX.one ?_
  refine art 7 [] J<|wtL [(A++(I)),(E++((ob y++[])++((ob x++[])))),ob aV,ob v17,ob u3] (smg [5,3] J (SP.eq (by simp[gk]))) ?_
  exact lb [1,1,2,0] [1,1,1] (b1 (_,_,_,_,_,_,_,_,_) ⟨h,H,(fun k hk=>((gb.1 (i2 k hk)).elim (fun h=>((fun k hk=>(gb.2 (.inl hk))) k h)) (fun h=>((fun k hk=>(gb.2 (.inr hk))) k h)))),aX⟩)
 refine atr 4 [2] J<|soN 1 wi J ⟨k3.one,t.one,trivial⟩ J ?_
 refine en ?_
 refine WT.ret hF (aA.one (aZ FQ J (fun w1 hw=>hw.rgO (i:=1) J 0 2 [u1,G] J) J)) (fun w1 hw=>?_)
 cases h
 replace hw:=hw.merge (js:=[3]) (F:=[A].flatten) J (SP.eq MC)
 refine aW (js:=[3,2,1,0]) hw J ⟨u1,D1,G,E,[A].flatten,J,J,k3,(fun k hk=>(hR.2 ⟨A,MC,(i1 k hk)⟩)),t⟩
theorem tK (w0:av f d []) (z:bO) (aj:RSl cz 4 f a6 e z.Alphas) (H:RSl fC 2 f b0 n z.Chains) {r:aI} (h:mE N z=some r) :
  Calls prog 123 [.agg [e,n].toArray].toArray w0.w (be d w0.w [] (fun Q Fs v=>∃ (I:Value) (R:List Nat) (K:Value) (S:List Nat),v = .agg [I,K].toArray∧Fs=[ob I,R,ob K,S]∧OSl bk 133 1 Q R I r.Alphas∧OSl bc 100 1 Q S K r.Rules)):=by
 refine eN func123 J ntmps123 J w0 fun hF=>?_
 unfold mE at h
 refine sr<|lbx J fun A=>lnz lJ J fun B=>en<|sr<|lq (aU (vs:=[]) (C:=#[.slice none 0 0,.slice none 0 0]) Gv lJ J (ab)) J<|lnz lJ J fun D=>soN 0 mj J ⟨J,J,trivial⟩ J ?_
 refine art 7 [] J<|wtS<|wt0 ?_
 have k1:=OSl.nil bk 133 1 d
 refine lin (σ:=Hp × (List bm) × Value × List Nat × Int) (fun s=>[(1,pQ A),(2,pQ B),(3,pQ D),(4,iV s.2.2.2.2)]) (fun s=>St w0 s.1 [(D,.cells #[s.2.2.1,.slice none 0 0] 35 (0,0)),(B,.cells #[.slice none 0 0,.slice none 0 0] 35 (0,0)),(A,.cells #[e,n] 47 (0,0))] [s.2.2.2.1,ob s.2.2.1]) (fun m s=>jn N z m s.2.1 s.2.2.2.2=some r∧(OSl bk 133 1 s.1 s.2.2.2.1 s.2.2.1 s.2.1)) (d,([]:List bm),(.slice none 0 0),[],0) N ⟨h,k1⟩ (sx [0,0] [0,0,0]) (fun n1 ak s hm=>?_)
 obtain⟨L,s1,k,q,s2⟩:=s
 obtain⟨h,b⟩:=hm
 dsimp only at h b ⊢
 unfold jn at h
 refine atr 6 [0,64] J<|lnr aj J<|la J<|en ?_
 refine ch h J ?_ ?_ <;> intro h
 ·refine atr 6 [0,0] J<|lq (aU (vs:=[]) (C:=#[.slice none 0 0]) GO uw J (ab)) J ?_
  have T:RC bk 1 L ([(ob (.slice none 0 0)++[])]:List (List Nat)) [.slice none 0 0] ([(⟨[]⟩:bm)]:List bm):=RC.cons (c:=[.slice none 0 0]) (cells:=[]) ⟨.slice none 0 0,J,J,OSl.nil _ _ _ _⟩ J (RC.nil _ _ _)
  refine le' (aQ (vs:=[(0,.agg [.slice none 0 0].toArray)]) (C:=#[.slice none 0 0]) bk.lasts oc uw J J J J (ac BA (a7 (C':=[.slice none 0 0]) J J J J J (ab))) J T J (RC.kn bk.knows T)) J ?_
  rintro v1 al D2 ⟨an,h1⟩
  replace h1:OSl bk 133 1 al ((ob (.slice none 0 0)++[])) v1 ([(⟨[]⟩:bm)]:List bm):=by simpa[gk] using h1
  replace b:=b.f0 an
  refine wlL [((ob (.slice none 0 0)++[])),ob v1,q,ob k] (smg [] J (SP.eq (by simp[gk,bH]))) ?_
  obtain⟨x1,aq,h⟩:=bs h
  refine le' (cq bk.lasts bk.one oc GR J J J J J (js:=[3]) (Rr:=[((ob (.slice none 0 0)++[])),ob v1,q]) J b h1 (fun ap=>ap.q 2 J) (fun ap=>ap.q 0 J) aq) J ?_
  rintro v2 aF D3 ⟨⟨aG,aH⟩,U⟩
  refine wlL [(q++((ob (.slice none 0 0)++[]))),ob v2,ob v1] (smg [3,1] J (SP.eq MC))<|lf iG J J J<|so1 0 J1 J U.one ?_
  refine art 7 [] J ?_
  exact lb [0,0] [0,0,0] (ak (_,_,_,_,_) ⟨h,U⟩)
 refine att 7 [] J<|wtS<|wt0 ?_
 have k3:=OSl.nil bc 100 1 L
 refine lin (σ:=Hp × (List aP) × Value × List Nat × Int) (fun s=>[(1,pQ A),(2,pQ B),(3,pQ D),(5,iV s.2.2.2.2)]) (fun s=>St w0 s.1 [(D,.cells #[k,s.2.2.1] 35 (0,0)),(B,.cells #[.slice none 0 0,.slice none 0 0] 35 (0,0)),(A,.cells #[e,n] 47 (0,0))] [s.2.2.2.1,ob s.2.2.1,q,ob k]) (fun m s=>eX N z s1 m s.2.1 s.2.2.2.2=some r∧(OSl bk 133 1 s.1 q k s1)∧(OSl bc 100 1 s.1 s.2.2.2.1 s.2.2.1 s.2.1)) (L,([]:List aP),(.slice none 0 0),[],0) N ⟨h,b,k3⟩ (sx [0,0,0,0] [0,0,0]) (fun n2 au s hm=>?_)
 obtain⟨V,W,w,x,X⟩:=s
 obtain⟨h,b,t⟩:=hm
 dsimp only at h b t ⊢
 unfold eX at h
 refine atr 6 [1,64] J<|lnr H J<|la J<|en ?_
 refine ch h J ?_ ?_ <;> intro h
 ·refine atr 5 [] J<|lq (aU (vs:=[]) (C:=#[.slice none 0 0]) AI mO J (ab)) J ?_
  refine ln (mf (C:=#[.slice none 0 0]) mO J) J (fun Y=>?_)
  refine soN 0 yf J ⟨J,trivial⟩ J ?_
  refine art 7 [] J<|wtS<|wt0 ?_
  have k5:=OSl.nil aT 103 1 V
  refine lin (σ:=Hp × (List ao) × Value × List Nat × Int) (fun s=>[(1,pQ A),(2,pQ B),(3,pQ D),(5,iV X),(6,pQ Y),(7,iV s.2.2.2.2)]) (fun s=>St w0 s.1 [(Y,.cells #[s.2.2.1] 100 (0,0)),(D,.cells #[k,w] 35 (0,0)),(B,.cells #[.slice none 0 0,.slice none 0 0] 35 (0,0)),(A,.cells #[e,n] 47 (0,0))] [s.2.2.2.1,ob s.2.2.1,x,ob w,q,ob k]) (fun m s=>ju N z W X (eX N z s1 n2) m s.2.1 s.2.2.2.2=some r∧(OSl bk 133 1 s.1 q k s1)∧(OSl bc 100 1 s.1 x w W)∧(OSl aT 103 1 s.1 s.2.2.2.1 s.2.2.1 s.2.1)) (V,([]:List ao),(.slice none 0 0),[],0) N ⟨h,b,t,k5⟩ (sx [0,0,0,0,0,0] [0,0,0,0]) (fun n3 aw s hm=>?_)
  obtain⟨Z,s5,u,y,s6⟩:=s
  obtain⟨h,b,t,E⟩:=hm
  dsimp only at h b t E ⊢
  unfold ju at h
  refine atr 7 [1,96] J ?_
  obtain⟨x2,a8,h⟩:=bs h
  obtain⟨aJ,F1,-,g1,aK,aL,r1⟩:=H.el (aa a8).2.2
  obtain⟨v3,G1,v4,G2,rfl,rfl,h3,h4⟩:=r1
  refine lia H a8 J<|lf tt J J J<|lhx 0 0 g1 J<|lnr h3 J<|la J<|en ?_
  refine ch h J ?_ ?_ <;> intro h
  ·refine atr 6 [0,0] J<|lq (aU (vs:=[]) (C:=#[.slice none 0 0]) GE ut J (ab)) J ?_
   have ae:RC aT 1 Z ([(ob (.slice none 0 0)++[])]:List (List Nat)) [.slice none 0 0] ([(⟨[]⟩:ao)]:List ao):=RC.cons (c:=[.slice none 0 0]) (cells:=[]) ⟨.slice none 0 0,[],J,J,OSl.nil _ _ _ _⟩ J (RC.nil _ _ _)
   refine le' (aQ (vs:=[(0,.agg [.slice none 0 0].toArray)]) (C:=#[.slice none 0 0]) aT.lasts o8 ut J J J J (ac Bh (a7 (C':=[.slice none 0 0]) J J J J J (ab))) J ae J (RC.kn aT.knows ae)) J ?_
   rintro v5 ax D6 ⟨M,O⟩
   replace O:OSl aT 103 1 ax ((ob (.slice none 0 0)++[])) v5 ([(⟨[]⟩:ao)]:List ao):=by simpa[gk] using O
   replace b:=b.f0 M
   replace t:=t.f0 M
   replace E:=E.f0 M
   refine wlL [((ob (.slice none 0 0)++[])),ob v5,y,ob u,x,ob w,q,ob k] (smg [] J (SP.eq (by simp[gk,bH]))) ?_
   obtain⟨x3,ay,h⟩:=bs h
   refine le' (cq aT.lasts aT.one o8 Gw J J J J J (js:=[3]) (Rr:=[((ob (.slice none 0 0)++[])),ob v5,y,x,ob w,q,ob k]) J E O (fun ap=>ap.q 2 J) (fun ap=>ap.q 0 J) ay) J ?_
   rintro v6 aM D7 ⟨⟨F,af⟩,h6⟩
   replace b:=b.fr af (F.q 6 J) (F.q 5 J)
   replace t:=t.fr af (F.q 4 J) (F.q 3 J)
   refine wlL [(y++((ob (.slice none 0 0)++[]))),ob v6,ob v5,x,ob w,q,ob k] (smg [3,1] J (SP.eq MC))<|lf fD J J J<|so1 0 J6 J h6.one ?_
   refine art 7 [] J ?_
   exact lb [0,0,1,1,1,1] [0,0,0,0] (aw (_,_,_,_,_) ⟨h,b,t,h6⟩)
  refine atr 4 [1,32] J<|lq (aC AB J (fun w1 hw=>hw.rgO (i:=0) J 0 1 [u] J) J) J ?_
  have ag:RC bc 1 Z ([(ob u++y)]:List (List Nat)) [u] ([(⟨s5⟩:aP)]:List aP):=RC.cons (c:=[u]) (cells:=[]) ⟨u,y,J,J,E⟩ J (RC.nil _ _ _)
  refine le' (aQ (vs:=[(0,.agg [u].toArray)]) (C:=#[u]) bc.lasts qJ mO J J J J (ac ve (a7 (C':=[u]) J J J J J (ab))) J ag J (RC.kn bc.knows ag)) J ?_
  rintro G az D8 ⟨ah,P⟩
  replace P:OSl bc 100 1 az ((ob u++y)) G ([(⟨s5⟩:aP)]:List aP):=by simpa[gk] using P
  replace b:=b.f0 ah
  replace t:=t.f0 ah
  refine wlL [((ob u++y)),ob G,x,ob w,q,ob k] (smg [2,1] J (SP.eq (by simp[gk,bH]))) ?_
  obtain⟨x4,aB,h⟩:=bs h
  refine le' (cq bc.lasts bc.one qJ Ai J J J J J (js:=[3]) (Rr:=[((ob u++y)),ob G,x,q,ob k]) J t P (fun ap=>ap.q 2 J) (fun ap=>ap.q 0 J) aB) J ?_
  rintro v8 aN D9 ⟨⟨ai,aD⟩,h8⟩
  replace b:=b.fr aD (ai.q 4 J) (ai.q 3 J)
  refine wlL [(x++((ob u++y))),ob v8,ob G,q,ob k] (smg [3,1] J (SP.eq MC))<|lf pO J J J<|so1 1 Ea J h8.one ?_
  refine art 7 [] J ?_
  exact lb [0,0,1,1] [1,1,1] (au (_,_,_,_,_) ⟨h,b,h8⟩)
 refine atr 4 [2] J<|soN 1 mj J ⟨b.one,t.one,trivial⟩ J ?_
 refine en ?_
 exact rtg [3,2,1,0] hF (aA.one (aZ vr J (fun w1 hw=>hw.rgO (i:=1) J 0 2 [k,w] J) J)) J (by cases h;exact fun w1 hw=>⟨k,q,w,x,rfl,rfl,b,t⟩)
theorem n9 (w0:av f d []) (c:ag) (k:Int) (t:RSl bj 3 f a6 e c.Items) {r:aH × Bool} (h:l7 N c k=some r) :
  Calls prog 191 [.agg [e,iV c.Next].toArray,iV k].toArray w0.w (be d w0.w [] (fun F Fs v=>∃ (x:Value),v = .tuple #[.agg [.string r.1.Kind,x].toArray,.bool r.2]∧Fs=[ob x]∧OSl aX 95 3 F [] x r.1.Fields)):=by
 refine eN func191 J ntmps191 J w0 fun A=>?_
 unfold l7 at h
 refine sr<|lbx J fun u=>lnz mr J fun w=>art 8 [] J ?_
 refine lin (σ:=Int) (fun s=>[(1,iV k),(2,pQ u),(4,pQ w),(6,iV s)]) (fun s=>St w0 d [(w,.cells #[.string (⟨#[]⟩:ByteArray),.slice none 0 0] 52 (0,0)),(u,.cells #[e,iV c.Next] 29 (0,0))] []) (fun m s=>fY N c k m s=some r) (0) N h (sx [] [0,0]) (fun G H s hm=>?_)
 revert hm;revert s;intro s1 hm
 have h:fY N c k (G+1) s1=some r:=hm
 show WT _ _ [(1,iV k),(2,pQ u),(4,pQ w),(6,iV s1)] (St w0 d [(w,.cells #[.string (⟨#[]⟩:ByteArray),.slice none 0 0] 52 (0,0)),(u,.cells #[e,iV c.Next] 29 (0,0))] [])
 unfold fY at h
 refine atr 6 [0,32] J<|lnr t J<|la J<|en ?_
 refine ch h J ?_ ?_ <;> intro h
 ·refine atr 8 [0,32] J ?_
  obtain⟨R,B,h⟩:=bs h
  obtain⟨S,T,-,g1,U,V,I⟩:=t.el (aa B).2.2
  obtain⟨v1,W,rfl,K,h1⟩:=I
  obtain rfl:=K.symm
  refine lia t B J<|lf sZ J J J<|lhx 0 0 g1 J<|art 3 [] J ?_
  refine ch h J ?_ ?_ <;> intro h
  ·refine atr 5 [0,32] J ?_
   obtain⟨L,D,h⟩:=bs h
   obtain⟨X,Y,-,g2,Z,a7,M⟩:=t.el (aa D).2.2
   obtain⟨v2,G2,rfl,O,P⟩:=M
   obtain rfl:=O.symm
   refine lia t D J<|lf Bf J J J<|lhx 1 2 g2 J<|kab h J J J (fun b z q=>tD N b L.F (P.y z) q) ?_
   rintro Q h v3 a8 F3 ⟨ae,af,v4,rfl,rfl,E⟩
   refine soN 0 o9 J ⟨J,E.one,trivial⟩ J ?_
   refine la J<|en ?_
   exact rtg [0] A (aA.two (aZ nT J (fun y hw=>hw.rgO (i:=0) J 0 2 [.string Q.Kind,v4] J) J) J) J (by cases h;exact fun y hw=>⟨v4,rfl,rfl,E⟩)
  refine att 7 [] J ?_
  exact lb [] [0,0] (H _ h)
 refine xt J<|sr<|lq (aU (vs:=[]) (C:=#[.string (⟨#[]⟩:ByteArray),.slice none 0 0]) E9 mr J (ab)) J<|soN 0 o9 J ⟨J,J,trivial⟩ J ?_
 refine la J<|en ?_
 refine WT.ret A (aA.two (aZ nT J (fun y hw=>hw.rgO (i:=0) J 0 2 [.string (⟨#[]⟩:ByteArray),.slice none 0 0] J) J) J) (fun y hw=>?_)
 cases h
 replace hw:=hw.addNil
 refine aW (js:=[0]) hw J ⟨.slice none 0 0,J,J,OSl.nil _ _ _ _⟩
theorem yV (w0:av f d []) (c:(List Int)) (b:Int) (i:RSl (RI .i64) 1 f b8 o c) {r:Bool} (h:pB N c b=some r) :
  CB w0 prog 227 [o,iV b] (.bool r):=by
 refine eN func227 J ntmps227 J w0 fun k=>?_
 unfold pB at h
 refine att 10 [] J ?_
 refine lin (σ:=Int) (fun s=>[(0,o),(1,iV b),(5,iV s)]) (fun s=>St w0 d [] []) (fun m s=>gn N c b m s=some r) (0) N h (sx [] []) (fun t u s hm=>?_)
 revert hm;revert s;intro s1 hm
 have h:gn N c b (t+1) s1=some r:=hm
 show WT _ _ [(0,o),(1,iV b),(5,iV s1)] (St w0 d [] [])
 unfold gn at h
 refine atr 5 [] J<|lnr i J<|la J<|en ?_
 refine ch h J ?_ ?_ <;> intro h
 ·refine atr 7 [] J ?_
  obtain⟨w,q,h⟩:=bs h
  obtain⟨x,y,-,g1,z,A,v⟩:=i.el (aa q).2.2
  obtain⟨rfl,-⟩:=v
  refine lia i q J<|lhx 0 0 g1 J<|art 3 [] J ?_
  refine ch h J ?_ ?_ <;> intro h
  ·refine att 4 [] J ?_
   exact rt k h
  refine att 7 [] J ?_
  exact lb [] [] (u _ h)
 refine att 5 [] J ?_
 exact rt k h
theorem uW (w0:av f d [ob o,ar].flatten) (t:(List ah)) (q:Int) (B:OSl aF 105 2 d ar o t) {r:(List ah)} (h:jL N t q=some r) :
  Calls prog 192 [o,iV q].toArray w0.w (be d w0.w [ob o,ar].flatten (fun P Fs v=>∃ (x:Value) (D:List Nat),v=x∧Fs=[ob x,D]∧OSl aF 105 2 P D x r)):=by
 refine eL func192 J ntmps192 J (L:=[ob o,ar]) w0 (fun Q=>?_)
 unfold jL at h
 obtain⟨_,hlen,h⟩:=bs h
 have t0:=B.tail (FP hlen)
 refine atr 6 [] J ?_
 have R:RC aF 2 d ([]:List (List Nat)) [] ([]:List ah):=RC.nil _ _ _
 refine le' (aQ (vs:=[]) (C:=#[]) aF.lasts ci fa J J J J (ac qX (ab)) J R J (by simpa using Kw.nil)) J ?_
 rintro v1 E D1 ⟨S,h1⟩
 replace h1:OSl aF 105 2 E [] v1 ([]:List ah):=by simpa[gk] using h1
 replace t0:=t0.f0 S
 refine art 8 [] J ?_
 refine lin (σ:=Hp × (List ah) × Value × List Nat × Int × List Nat) (fun s=>[(0,o),(1,iV q),(5,s.2.2.1),(6,iV s.2.2.2.2.1)]) (fun s=>St w0 s.1 [] [ob s.2.2.1,ar,ob o]) (fun m s=>dm N t q m s.2.1 s.2.2.2.2.1=some r∧(OSl aF 105 2 s.1 s.2.2.2.1 s.2.2.1 s.2.1)∧(SP (s.2.2.2.1++s.2.2.2.2.2) ar)∧(TSl aF 2 s.1 s.2.2.2.2.2 o t s.2.2.2.2.1)) (E,([]:List ah),v1,[],0,ar) N ⟨h,h1,SP.refl _,t0⟩ (sx [0,1,0] []) (fun n1 G s hm=>?_)
 obtain⟨T,s1,U,H,s2,Dt⟩:=s
 obtain⟨h,i,b,t1⟩:=hm
 dsimp only at h i b t1 ⊢
 unfold dm at h
 refine atr 5 [] J<|lno B J<|la J<|en ?_
 refine ch h J ?_ ?_ <;> intro h
 ·refine atr 7 [] J ?_
  obtain⟨u,y,h⟩:=bs h
  obtain⟨aa,F1,D9,-,g1,ae,V,w,t9⟩:=t1.step aF.knows y
  obtain⟨v2,v3,rfl,rfl,I,W⟩:=V
  refine lq (uN ci J J t1 y) J<|lf oD J J J<|lgx 0 0 g1 J<|la J<|qc h (yV N · u.Ids q I.rsl ·) J J J fun x2 h=>la J<|en ?_
  refine ch h J ?_ ?_ <;> intro h
  ·refine atr 4 [] J ?_
   obtain⟨X,z,h⟩:=bs h
   obtain rfl:u=X:=by rw[y] at z;exact Option.some.inj z
   refine lq (uN ci J J t1 z) J<|lgx 0 2 g1 J ?_
   have K:RC aF 2 T ([(ob v2++[])++((ob v3++[]))]:List (List Nat)) [v2,v3] ([u]:List ah):=RC.cons (c:=[v2,v3]) (cells:=[]) ⟨v2,v3,J,J,I,W⟩ J (RC.nil _ _ _)
   refine le' (aQ (vs:=[(0,.agg [v2,v3].toArray)]) (C:=#[v2,v3]) aF.lasts ci fa J J J J (ac pA (a7 (C':=[v2,v3]) J J J J J (ab))) J K J (RC.kn aF.knows K)) J ?_
   rintro v6 Y D3 ⟨M,A⟩
   replace A:OSl aF 105 2 Y ((ob v2++[])++((ob v3++[]))) v6 ([u]:List ah):=by simpa[gk] using A
   replace i:=i.f0 M
   replace t9:=t9.f0 M
   obtain⟨x4,Z,h⟩:=bs h
   refine le' (cq aF.lasts aF.one ci mQ J J J J J (js:=[1]) (Rr:=[ob v6,ar,ob o]) J i A (fun ap=>Dj.sub (ap.q 1 J) b.inl) (fun ap=>Dj.sub (ap.q 1 J) (fun k hk=>b.inr k (by rw[w];exact gb.2 (.inl hk)))) Z) J ?_
   rintro v7 af D4 ⟨⟨O,a8⟩,h9⟩
   replace t9:=t9.fr a8 (O.q 2 J) (Dj.sub (O.q 1 J) (fun k hk=>b.inr k (by rw[w];exact gb.2 (.inr hk))))
   refine art 8 [] J ?_
   exact lb [0,1,1] [] (G (_,_,_,_,_,_) ⟨h,h9,b.next w,t9⟩)
  refine att 7 [] J ?_
  exact lb [0,0,0] [] (G (_,_,_,_,_,_) ⟨h,i,b.skip w,t9⟩)
 refine att 6 [] J ?_
 refine WT.ret Q (aA.one J) (fun w1 hw=>?_)
 cases h
 replace hw:=hw.merge (js:=[1]) (F:=H) J (by simpa using b.out)
 refine aW (js:=[1,0]) hw J ⟨U,H,J,J,i⟩

theorem o6 (w0:av f d []) (i:ai) (q:ag) (y:(List Int)) (E:RSl bN 3 f a6 e i.Pats) (au:RSl bl 11 f b0 n i.Conds) (aw:RSl dK 5 f b9 ad i.Acts) (F:RSl bj 3 f g j q.Items) (z:RSl (RI .i64) 1 f b7 a1 y) {r:(List aq) × Bool} (h:j8 N i q y=some r) :
  Calls prog 228 [.agg [.string i.Name,iV i.Sal,e,n,ad].toArray,.agg [j,iV q.Next].toArray,a1].toArray w0.w (be d w0.w [] (fun T Fs v=>∃ (A:Value),v = .tuple #[A,.bool r.2]∧Fs=[ob A]∧OSl aB 97 4 T [] A r.1)):=by
 refine eN func228 J ntmps228 J w0 fun G=>?_
 unfold j8 at h
 refine sr<|lbx J fun u=>lbx J fun w=>arr 5 [] J<|le' (cO aB.lasts gJ oe J J) J ?_
 rintro v1 U D1 ⟨ax,h1⟩
 refine art 8 [] J ?_
 refine lin (σ:=Hp × (List aq) × Value × Int) (fun s=>[(2,a1),(3,pQ u),(4,pQ w),(8,s.2.2.1),(9,iV s.2.2.2)]) (fun s=>St w0 s.1 [(w,.cells #[j,iV q.Next] 29 (0,0)),(u,.cells #[.string i.Name,iV i.Sal,e,n,ad] 87 (0,0))] [ob s.2.2.1]) (fun m s=>eB N i q y m s.2.1 s.2.2.2=some r∧(OSl aB 97 4 s.1 [] s.2.2.1 s.2.1)) (U,([]:List aq),v1,0) N ⟨h,h1⟩ (sx [0] [0,0]) (fun V W s hm=>?_)
 obtain⟨ay,s1,t,s2⟩:=s
 obtain⟨h,c⟩:=hm
 dsimp only at h c ⊢
 unfold eB at h
 refine atr 5 [] J<|lnr z J<|la J<|en ?_
 refine ch h J ?_ ?_ <;> intro h
 ·refine att 4 [] J ?_
  refine cut (σ:=Hp × Nat × (List bi) × Value × Bool × ByteArray) (fun s=>[(2,a1),(3,pQ u),(4,pQ w),(8,t),(9,iV s2),(10,.pointer (some ⟨s.2.1,0,none⟩)),(11,.bool s.2.2.2.2.1)]) (fun s=>St w0 s.1 [(s.2.1,.cells #[.string s.2.2.2.2.2,s.2.2.2.1] 52 (0,0)),(w,.cells #[j,iV q.Next] 29 (0,0)),(u,.cells #[.string i.Name,iV i.Sal,e,n,ad] 87 (0,0))] [ob s.2.2.2.1,ob t]) (fun s=>kP N i s1 s2 (eB N i q y V) s.2.2.1 s.2.2.2.2.1 s.2.2.2.2.2=some r∧(OSl aB 97 4 s.1 [] t s1)∧(OSl aX 95 3 s.1 [] s.2.2.2.1 s.2.2.1)) (fun s hm=>?_) (fun K=>?_)
  ·clear h
   obtain⟨aD,aF,X,Y,s4,Z⟩:=s
   obtain⟨h,c,H⟩:=hm
   dsimp only at h c H ⊢
   unfold kP at h
   refine sq<|wm [0,1,2] [] J<|amm 3 [0,2,1,64,2] [0,1,2] J J ?_
   obtain⟨B,I,h⟩:=bs h
   obtain⟨aG,F3,-,g2,aI,aJ,r2⟩:=E.el (aa I).2.2
   obtain⟨v4,G1,rfl,a7,h3⟩:=r2
   obtain rfl:=a7.symm
   refine mq 3 J MA (kN [0,1,2]) (ae og J J E I) J<|mq 4 J MA (kN [0,1,2]) (aC sm J (fun k hw=>(g2.of_eq 0 3 J J:rg _ _ _ [.string B.Kind,v4,.bool B.Not]).rangeAt hw.1) J) J<|amm 2 [5,2,6] [0,1,2] J J ?_
   obtain⟨x4,a8,h⟩:=bs h
   refine WM.one 7 MA (mc J (fun _ v L D k M hw=>Kn.of Kf.nil (ai3 0 1 2 J J J) hw) (bt (js:=[]) (R:=[ob Y,ob t]) wU J J (fun k hw ap O=>kR N (ba hw.fro) B (⟨Z,X⟩:aH) s1 (h3.y hw.up) H.rsl c.rsl  a8)) J ?_)
   rintro v5 aK F4 ⟨ab,af,v6,rfl,rfl,h4⟩
   replace c:=c.fr af (ab.q 1 J) dN
   refine amm 5 [8,9,10,11,12] [0,1,2] J J<|WM.nil MA<|atr 6 [] J ?_
   obtain⟨b1,x,h⟩:=bs h
   refine WL.cutN 3 [(46,.bool b1),(2,a1),(3,pQ u),(4,pQ w),(8,t),(9,iV s2),(12,v6)] ?_ (fun K=>?_)
   rotate_left
   ·refine sp 43 x J (fun x=>?_) fun x=>?_
    ·refine arr 3 [] J ?_
     cases x
     exact ku K
    ·refine arr 3 [] J ?_
     cases x
     exact ku K
   refine en ?_
   refine ch h J ?_ ?_ <;> intro h
   ·refine att 6 [] J ?_
    exact rtg [2] G (aA.two J J) J (by cases h;exact fun k hw=>⟨t,rfl,rfl,c⟩)
   refine att 11 [] J ?_
   exact lb [0] [1,1] (W (_,_,_,_) ⟨h,h4⟩)
  refine wm [0,1] [] J<|amm 3 [0,2,1,2] [0,1] J J ?_
  obtain⟨C,P,h⟩:=bs h
  obtain⟨aL,F5,-,g3,aM,aN,r3⟩:=z.el (aa P).2.2
  obtain⟨rfl,-⟩:=r3
  refine mq 3 J MA (kN [0,1]) (ae aY J J z P) J<|mq 4 J MA (kN [0,1]) (az rd J (fun k hw=>(g3.of_eq 0 1 J J:rg _ _ _ [iV C]).rangeAt hw.1)) J ?_
  refine WM.two 5 9 MA ?_ ?_
  ·obtain⟨x6,ah,h⟩:=bs h
   refine mc J (fun _ v L D k M hw=>Kn.of Kf.nil (ai2 0 1 J J) hw) (bt (js:=[]) (R:=[ob t]) Dh J J (fun k hw ap O=>n9 N (ba hw.fro) q C (F.y hw.up)  ah)) J ?_
   rintro v7 aO F6 ⟨aj,ak,v8,rfl,rfl,Q⟩
   replace c:=c.fr ak (aj.q 0 J) dN
   refine amm 3 [6,7,8] [0,1] J J ?_
   refine on1 9 (mn J (kB [1,2]) (nz mr) J (fun aP=>?_))
   refine on1 10 (msK 0 [1,2] J o9 J ⟨J,Q.one,trivial⟩ J J ?_)
   refine amm 1 [11] [1,2] J J<|WM.nil MA ?_
   exact wo [0,0] [0,0,0] (K (_,_,_,_,_,_) ⟨h,c,Q⟩)
  refine mn J (fun _ b k hw=>Kn.of Kf.nil (ai2 1 2 J J) hw) (nz mr) J (fun aQ=>?_)
  obtain⟨x7,al,h⟩:=bs h
  refine WM.one 5 MA (mc J (fun _ v L D k M hw=>Kn.of Kf.nil (ai2 1 2 J J) hw) (bt (js:=[]) (R:=[ob t]) Dh J J (fun k hw ap O=>n9 N (ba hw.fro) q C (F.y hw.up)  al)) J ?_)
  rintro v9 aR F7 ⟨an,ao,v10,rfl,rfl,S⟩
  replace c:=c.fr ao (an.q 0 J) dN
  refine amm 3 [6,7,8] [1,2] J J ?_
  refine on1 10 (msK 0 [1,2] J o9 J ⟨J,S.one,trivial⟩ J J ?_)
  refine amm 1 [11] [1,2] J J<|WM.nil MA ?_
  exact wo [0,0] [0,0,0] (K (_,_,_,_,_,_) ⟨h,c,S⟩)
 refine att 7 [] J ?_
 exact rtg [0] G (aA.two J J) J (by cases h;exact fun k hw=>⟨t,rfl,rfl,c⟩)
theorem tS (w0:av f d []) (b:ai) (i:aH) (t:(List aq)) (y:RSl bN 3 f a6 e b.Pats) (ak:RSl bl 11 f b0 n b.Conds) (al:RSl dK 5 f b9 ad b.Acts) (M:RSl aX 3 f g j i.Fields) (O:RSl aB 4 f b7 a1 t) {r:(List Int)} (h:mH N b i t=some r) :
  Calls prog 229 [.agg [.string b.Name,iV b.Sal,e,n,ad].toArray,.agg [.string i.Kind,j].toArray,a1].toArray w0.w (be d w0.w [] (fun P Fs v=>∃ (z:Value),v=z∧Fs=[ob z]∧OSl (RI .i64) 3 1 P [] z r)):=by
 refine eN func229 J ntmps229 J w0 fun Q=>?_
 unfold mH at h
 refine sr<|lbx J fun u=>lbx J fun w=>arr 4 [] J<|le' (cO (R:=RI .i64) RI.lasts aY gF J J) J ?_
 rintro v1 S D1 ⟨an,h1⟩
 refine art 8 [] J ?_
 refine lin (σ:=Hp × (List Int) × Value × Int) (fun s=>[(2,a1),(3,pQ u),(4,pQ w),(7,s.2.2.1),(8,iV s.2.2.2)]) (fun s=>St w0 s.1 [(w,.cells #[.string i.Kind,j] 52 (0,0)),(u,.cells #[.string b.Name,iV b.Sal,e,n,ad] 87 (0,0))] [ob s.2.2.1]) (fun m s=>dB N b i t m s.2.1 s.2.2.2=some r∧(OSl (RI .i64) 3 1 s.1 [] s.2.2.1 s.2.1)) (S,([]:List Int),v1,0) N ⟨h,h1⟩ (sx [0] [0,0]) (fun G H s hm=>?_)
 obtain⟨ao,s1,x,s2⟩:=s
 obtain⟨h,q⟩:=hm
 dsimp only at h q ⊢
 unfold dB at h
 refine atr 6 [2,32] J<|lnr y J<|la J<|en ?_
 refine ch h J ?_ ?_ <;> intro h
 ·refine atr 8 [2,32] J ?_
  obtain⟨x1,I,h⟩:=bs h
  obtain⟨au,F1,-,g1,aw,ax,T⟩:=y.el (aa I).2.2
  obtain⟨v2,G1,rfl,U,h2⟩:=T
  obtain rfl:=U.symm
  refine lia y I J<|lf kl J J J<|lhx 2 0 g1 J<|en ?_
  refine ch h J ?_ ?_ <;> intro h
  ·refine sq<|wm [0,1] [] J<|amm 3 [0,2,1,32,2] [0,1] J J ?_
   obtain⟨A,L,h⟩:=bs h
   obtain⟨ay,F2,-,g2,az,aD,V⟩:=y.el (aa L).2.2
   obtain⟨v3,G2,rfl,W,X⟩:=V
   obtain rfl:=W.symm
   refine mq 3 J MA (kN [0,1]) (ae og J J y L) J<|mq 4 J MA (kN [0,1]) (aC sm J (fun B hw=>(g2.of_eq 0 3 J J:rg _ _ _ [.string A.Kind,v3,.bool A.Not]).rangeAt hw.1) J) J<|amm 2 [5,2,6] [0,1] J J ?_
   obtain⟨x3,Y,h⟩:=bs h
   refine WM.one 7 MA (mc J (fun _ v aF D B hq hw=>Kn.of Kf.nil (ai2 0 1 J J) hw) (bt (js:=[]) (R:=[ob x]) wU J J (fun B hw ap hl=>kR N (ba hw.fro) A i t (X.y hw.up) (M.y hw.up) (O.y hw.up)  Y)) J ?_)
   rintro v4 E F3 ⟨Z,a8,v5,rfl,rfl,h4⟩
   replace q:=q.fr a8 (Z.q 0 J) dN
   refine amm 5 [8,9,10,11,12] [0,1] J J<|WM.nil MA<|att 9 [] J ?_
   refine cut (σ:=Int) (fun s=>[(2,a1),(3,pQ u),(4,pQ w),(7,x),(8,iV s2),(11,iV s)]) (fun s=>St w0 E [(w,.cells #[.string i.Kind,j] 52 (0,0)),(u,.cells #[.string b.Name,iV b.Sal,e,n,ad] 87 (0,0))] [ob x]) (fun s=>i9 N s1 s2 (dB N b i t G) s=some r) (fun s hm=>?_) (fun K=>?_)
   ·clear h
    revert hm;revert s;intro k hm
    have h:i9 N s1 s2 (dB N b i t G) k=some r:=hm
    show WT _ _ [(2,a1),(3,pQ u),(4,pQ w),(7,x),(8,iV s2),(11,iV k)] (St w0 E [(w,.cells #[.string i.Kind,j] 52 (0,0)),(u,.cells #[.string b.Name,iV b.Sal,e,n,ad] 87 (0,0))] [ob x])
    unfold i9 at h
    refine atr 3 [] J ?_
    have af:RC (RI .i64) 1 E ([[]]:List (List Nat)) [iV k] ([k]:List Int):=RC.cons (c:=[iV k]) (cells:=[]) ⟨J,J⟩ J (RC.nil _ _ _)
    refine le' (aQ (vs:=[(0,iV k)]) (C:=#[iV k]) RI.lasts aY gF J J J J (ac ij (a7 (C':=[iV k]) J J J J J (ab))) J af J (by simpa using Kw.nil)) J ?_
    rintro v6 ag D2 ⟨ah,F⟩
    replace F:OSl (RI .i64) 3 1 ag [] v6 ([k]:List Int):=by simpa using F
    replace q:=q.f0 ah
    obtain⟨x4,aj,h⟩:=bs h
    refine le' (bg RI.lasts RI.one RI.flat aY jH J J J J J (js:=[1]) (Rr:=[ob v6]) J q F.rsl aj) J ?_
    rintro v7 aG D3 ⟨⟨aI,aJ⟩,h6⟩
    refine art 8 [] J ?_
    exact lb [0] [0,0] (H (_,_,_,_) ⟨h,h6⟩)
   refine ch h J ?_ ?_ <;> intro h
   ·refine att 3 [] J ?_
    exact wo [1] [0,0] (K _ h)
   refine WT.skip ?_
   exact wo [1] [0,0] (K _ h)
  refine att 7 [] J ?_
  exact lb [0] [0,0] (H (_,_,_,_) ⟨h,q⟩)
 refine att 6 [] J ?_
 exact rtg [0] Q (aA.one J) J (by cases h;exact fun B hw=>⟨x,rfl,rfl,q⟩)
end Go.Proofs.YtedmfnmbjglmbaaGreat
