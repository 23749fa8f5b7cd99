/- Printed by a program of ours: Lean functions of plain data for the Go functions. -/
import Derived.Test.YtedmfnmbjglmbaaGreatEN
import Derived.Test.YtedmfnmbjglmbaaGreatES
namespace Go.Proofs.YtedmfnmbjglmbaaGreat
open Eng IntKind
set_option linter.unusedVariables false
set_option linter.unusedSimpArgs false

structure bN where
  K:Int
  N:Int
  S:ByteArray
  deriving DecidableEq
def aU (a:Hp) (F:List Nat) (cs:List Value) (x:bN):Prop:=cs=[.int .i64 x.K,.int .i64 x.N,.string x.S]∧F=[]
theorem aU.lasts:cB aU:=fun _ _ _ _ _ _ _ _ h=>h
instance:LS aU:=⟨aU.lasts⟩
theorem aU.knows:dv aU:=fun _ _ _ _ h=>h.2 ▸ Kw.nil
theorem aU.flat:wt aU:=fun _ _ _ _ h=>h.2
theorem aU.one:gt aU:=fun _ _ _ _ h=>by obtain⟨rfl,-⟩:=h;exact One.all ⟨rfl,rfl,rfl,trivial⟩
structure cJ where
  K:Int
  S:ByteArray
  V:bN
  deriving DecidableEq
def f8 (a:Hp) (F:List Nat) (cs:List Value) (x:cJ):Prop:=cs=[.int .i64 x.K,.string x.S,.int .i64 x.V.K,.int .i64 x.V.N,.string x.V.S]∧F=[]
theorem f8.lasts:cB f8:=fun _ _ _ _ _ _ _ _ h=>h
instance:LS f8:=⟨f8.lasts⟩
theorem f8.knows:dv f8:=fun _ _ _ _ h=>h.2 ▸ Kw.nil
theorem f8.flat:wt f8:=fun _ _ _ _ h=>h.2
theorem f8.one:gt f8:=fun _ _ _ _ h=>by obtain⟨rfl,-⟩:=h;exact One.all ⟨rfl,rfl,rfl,rfl,rfl,trivial⟩
structure ay where
  Kind:ByteArray
  Args:(List cJ)
  Not:Bool
  deriving DecidableEq
def cS (c:Hp) (F:List Nat) (cs:List Value) (x:ay):Prop:=
  ∃ (a:Value) (b:List Nat),cs=[.string x.Kind,a,.bool x.Not]∧F=b∧RSl f8 5 c b a x.Args
theorem cS.lasts:cB cS:=fun X h i F cs x c a ⟨d,e,f,b,g⟩=>by
  rw[b] at a
  exact⟨d,e,f,b,g.frame f8.lasts c (fun k hk=>a k (by simp[hk]))⟩
instance:LS cS:=⟨cS.lasts⟩
theorem cS.knows:dv cS:=fun c F cs x ⟨d,e,f,a,b⟩=>a ▸ b.kn
theorem cS.one:gt cS:=fun _ _ _ _ h=>by obtain⟨b,c,rfl,-,a⟩:=h;exact One.all ⟨rfl,a.one,rfl,trivial⟩
def eB (b:Hp) (F:List Nat) (cs:List Value) (x:ay):Prop:=
  ∃ (a:Value),cs=[.string x.Kind,a,.bool x.Not]∧F=(ob a++[])∧OSl f8 171 5 b [] a x.Args
theorem eB.lasts:cB eB:=fun X g h F cs x c a ⟨d,e,b,f⟩=>by
  rw[b] at a
  exact⟨d,e,b,f.frame f8.lasts c (fun k hk=>a k (by simp[hk])) (Dj.nil _)⟩
instance:LS eB:=⟨eB.lasts⟩
theorem eB.knows:dv eB:=fun c F cs x ⟨d,e,b,a⟩=>b ▸ (a.knO.app a.kn)
theorem eB.one:gt eB:=fun _ _ _ _ h=>by obtain⟨b,rfl,-,a⟩:=h;exact One.all ⟨rfl,a.one,rfl,trivial⟩
theorem eB.gives:eu eB cS:=fun e F cs x ⟨a,b,c,d⟩=>⟨a,ob a++[],b,c,d.rslG (eu.refl _)⟩
structure f9 where
  Op:Int
  L:cJ
  R:cJ
  deriving DecidableEq
def cH (a:Hp) (F:List Nat) (cs:List Value) (x:f9):Prop:=cs=[.int .i64 x.Op,.int .i64 x.L.K,.string x.L.S,.int .i64 x.L.V.K,.int .i64 x.L.V.N,.string x.L.V.S,.int .i64 x.R.K,.string x.R.S,.int .i64 x.R.V.K,.int .i64 x.R.V.N,.string x.R.V.S]∧F=[]
theorem cH.lasts:cB cH:=fun _ _ _ _ _ _ _ _ h=>h
instance:LS cH:=⟨cH.lasts⟩
theorem cH.knows:dv cH:=fun _ _ _ _ h=>h.2 ▸ Kw.nil
theorem cH.flat:wt cH:=fun _ _ _ _ h=>h.2
theorem cH.one:gt cH:=fun _ _ _ _ h=>by obtain⟨rfl,-⟩:=h;exact One.all ⟨rfl,rfl,rfl,rfl,rfl,rfl,rfl,rfl,rfl,rfl,rfl,trivial⟩
structure dY where
  Op:ByteArray
  L:cJ
  R:cJ
  deriving DecidableEq
def dF (a:Hp) (F:List Nat) (cs:List Value) (x:dY):Prop:=cs=[.string x.Op,.int .i64 x.L.K,.string x.L.S,.int .i64 x.L.V.K,.int .i64 x.L.V.N,.string x.L.V.S,.int .i64 x.R.K,.string x.R.S,.int .i64 x.R.V.K,.int .i64 x.R.V.N,.string x.R.V.S]∧F=[]
theorem dF.lasts:cB dF:=fun _ _ _ _ _ _ _ _ h=>h
instance:LS dF:=⟨dF.lasts⟩
theorem dF.knows:dv dF:=fun _ _ _ _ h=>h.2 ▸ Kw.nil
theorem dF.flat:wt dF:=fun _ _ _ _ h=>h.2
theorem dF.one:gt dF:=fun _ _ _ _ h=>by obtain⟨rfl,-⟩:=h;exact One.all ⟨rfl,rfl,rfl,rfl,rfl,rfl,rfl,rfl,rfl,rfl,rfl,trivial⟩
structure fd where
  Kind:Int
  Name:ByteArray
  Args:(List dY)
  N:Int
  Undo:ByteArray
  deriving DecidableEq
def hU (c:Hp) (F:List Nat) (cs:List Value) (x:fd):Prop:=
  ∃ (a:Value) (b:List Nat),cs=[.int .i64 x.Kind,.string x.Name,a,.int .i64 x.N,.string x.Undo]∧F=b∧RSl dF 11 c b a x.Args
theorem hU.lasts:cB hU:=fun X h i F cs x c a ⟨d,e,f,b,g⟩=>by
  rw[b] at a
  exact⟨d,e,f,b,g.frame dF.lasts c (fun k hk=>a k (by simp[hk]))⟩
instance:LS hU:=⟨hU.lasts⟩
theorem hU.knows:dv hU:=fun c F cs x ⟨d,e,f,a,b⟩=>a ▸ b.kn
theorem hU.one:gt hU:=fun _ _ _ _ h=>by obtain⟨b,c,rfl,-,a⟩:=h;exact One.all ⟨rfl,rfl,a.one,rfl,rfl,trivial⟩
def jR (b:Hp) (F:List Nat) (cs:List Value) (x:fd):Prop:=
  ∃ (a:Value),cs=[.int .i64 x.Kind,.string x.Name,a,.int .i64 x.N,.string x.Undo]∧F=(ob a++[])∧OSl dF 216 11 b [] a x.Args
theorem jR.lasts:cB jR:=fun X g h F cs x c a ⟨d,e,b,f⟩=>by
  rw[b] at a
  exact⟨d,e,b,f.frame dF.lasts c (fun k hk=>a k (by simp[hk])) (Dj.nil _)⟩
instance:LS jR:=⟨jR.lasts⟩
theorem jR.knows:dv jR:=fun c F cs x ⟨d,e,b,a⟩=>b ▸ (a.knO.app a.kn)
theorem jR.one:gt jR:=fun _ _ _ _ h=>by obtain⟨b,rfl,-,a⟩:=h;exact One.all ⟨rfl,rfl,a.one,rfl,rfl,trivial⟩
theorem jR.gives:eu jR hU:=fun e F cs x ⟨a,b,c,d⟩=>⟨a,ob a++[],b,c,d.rslG (eu.refl _)⟩
structure af where
  Name:ByteArray
  Sal:Int
  Pats:(List ay)
  Conds:(List f9)
  Acts:(List fd)
  deriving DecidableEq
def fb (a:Hp) (F:List Nat) (cs:List Value) (x:af):Prop:=
  ∃ (b:Value) (c:List Nat) (s1:Value) (d:List Nat) (s2:Value) (e:List Nat),cs=[.string x.Name,.int .i64 x.Sal,b,s1,s2]∧F=c++(d++(e))∧RSl cS 3 a c b x.Pats∧RSl cH 11 a d s1 x.Conds∧RSl hU 5 a e s2 x.Acts
theorem fb.lasts:cB fb:=fun X l m F cs x b a ⟨d,e,s1,f,s2,g,h,c,i,h1,j⟩=>by
  rw[c] at a
  exact⟨d,e,s1,f,s2,g,h,c,i.frame cS.lasts b (fun k hk=>a k (by simp[hk])),h1.frame cH.lasts b (fun k hk=>a k (by simp[hk])),j.frame hU.lasts b (fun k hk=>a k (by simp[hk]))⟩
instance:LS fb:=⟨fb.lasts⟩
theorem fb.knows:dv fb:=fun d F cs x ⟨e,f,s1,g,s2,h,i,a,b,h1,c⟩=>a ▸ (b.kn.app (h1.kn.app c.kn))
theorem fb.one:gt fb:=fun _ _ _ _ h=>by obtain⟨c,d,s1,e,s2,f,rfl,-,a,h1,b⟩:=h;exact One.all ⟨rfl,rfl,a.one,h1.one,b.one,trivial⟩
def dT (a:Hp) (F:List Nat) (cs:List Value) (x:af):Prop:=
  ∃ (b:Value) (c:List Nat) (s1:Value) (s2:Value) (d:List Nat),cs=[.string x.Name,.int .i64 x.Sal,b,s1,s2]∧F=(ob b++c)++((ob s1++[])++((ob s2++d)))∧OSl eB 201 3 a c b x.Pats∧OSl cH 173 11 a [] s1 x.Conds∧OSl jR 213 5 a d s2 x.Acts
theorem dT.lasts:cB dT:=fun X j l F cs x b a ⟨d,e,s1,s2,f,g,c,h,h1,i⟩=>by
  rw[c] at a
  exact⟨d,e,s1,s2,f,g,c,h.frame eB.lasts b (fun k hk=>a k (by simp[hk])) (fun k hk=>a k (by simp[hk])),h1.frame cH.lasts b (fun k hk=>a k (by simp[hk])) (Dj.nil _),i.frame jR.lasts b (fun k hk=>a k (by simp[hk])) (fun k hk=>a k (by simp[hk]))⟩
instance:LS dT:=⟨dT.lasts⟩
theorem dT.knows:dv dT:=fun d F cs x ⟨e,f,s1,s2,g,h,c,a,h1,b⟩=>c ▸ ((a.knO.app a.kn).app ((h1.knO.app h1.kn).app (b.knO.app b.kn)))
theorem dT.one:gt dT:=fun _ _ _ _ h=>by obtain⟨c,d,s1,s2,e,rfl,-,a,h1,b⟩:=h;exact One.all ⟨rfl,rfl,a.one,h1.one,b.one,trivial⟩
theorem dT.gives:eu dT fb:=fun h F cs x ⟨a,b,s1,s2,c,d,e,f,h1,g⟩=>⟨a,ob a++b,s1,ob s1++[],s2,ob s2++c,d,e,f.rslG eB.gives,h1.rslG (eu.refl _),g.rslG jR.gives⟩
def bQ (x y:bN):Bool:=((x.K == y.K) && ((x.N == y.N) && (seq x.S y.S && true)))
theorem AU (a b:ByteArray):seq a b=decide (a=b):=by
  unfold seq
  by_cases h:a=b
  · subst h;simp
  · have : ¬ a.toList=b.toList:=fun e=>h (by rw[ByteArray.toList_eq,ByteArray.toList_eq] at e;exact ByteArray.ext (Array.toList_inj.1 e))
    simp[h,this]
theorem iw (x y:bN):bQ x y=decide (x=y):=by
  obtain⟨a0,a,a2⟩:=x;obtain⟨b0,b,c⟩:=y
  rw[sY]
  simp only[bQ,AU,ti,gm,beq_iff_eq,decide_eq_true_eq,bN.mk.injEq,and_assoc]
def qG (x y:cJ):Bool:=((x.K == y.K) && (seq x.S y.S && ((x.V.K == y.V.K) && ((x.V.N == y.V.N) && (seq x.V.S y.V.S && true)))))

theorem BV (x y:cJ):qG x y=decide (x=y):=by
  obtain⟨a0,a1,⟨a20,a21,a22⟩⟩:=x;obtain⟨b0,b1,⟨a,b,c⟩⟩:=y
  rw[sY]
  simp only[qG,AU,ti,gm,beq_iff_eq,decide_eq_true_eq,cJ.mk.injEq,bN.mk.injEq,and_assoc]
structure bv where
  Name:ByteArray
  Rules:(List af)
  deriving DecidableEq
def vm (c:Hp) (F:List Nat) (cs:List Value) (x:bv):Prop:=
  ∃ (a:Value) (b:List Nat),cs=[.string x.Name,a]∧F=b∧RSl fb 5 c b a x.Rules
theorem vm.lasts:cB vm:=fun X h i F cs x c a ⟨d,e,f,b,g⟩=>by
  rw[b] at a
  exact⟨d,e,f,b,g.frame fb.lasts c (fun k hk=>a k (by simp[hk]))⟩
instance:LS vm:=⟨vm.lasts⟩
theorem vm.knows:dv vm:=fun c F cs x ⟨d,e,f,a,b⟩=>a ▸ b.kn
theorem vm.one:gt vm:=fun _ _ _ _ h=>by obtain⟨b,c,rfl,-,a⟩:=h;exact One.all ⟨rfl,a.one,trivial⟩
def tO (c:Hp) (F:List Nat) (cs:List Value) (x:bv):Prop:=
  ∃ (a:Value) (b:List Nat),cs=[.string x.Name,a]∧F=(ob a++b)∧OSl dT 87 5 c b a x.Rules
theorem tO.lasts:cB tO:=fun X h i F cs x c a ⟨d,e,f,b,g⟩=>by
  rw[b] at a
  exact⟨d,e,f,b,g.frame dT.lasts c (fun k hk=>a k (by simp[hk])) (fun k hk=>a k (by simp[hk]))⟩
instance:LS tO:=⟨tO.lasts⟩
theorem tO.knows:dv tO:=fun c F cs x ⟨d,e,f,b,a⟩=>b ▸ (a.knO.app a.kn)
theorem tO.one:gt tO:=fun _ _ _ _ h=>by obtain⟨b,c,rfl,-,a⟩:=h;exact One.all ⟨rfl,a.one,trivial⟩
theorem tO.gives:eu tO vm:=fun f F cs x ⟨a,b,c,d,e⟩=>⟨a,ob a++b,c,d,e.rslG dT.gives⟩
structure aI where
  Kind:ByteArray
  Fields:(List bN)
  deriving DecidableEq
def rL (c:Hp) (F:List Nat) (cs:List Value) (x:aI):Prop:=
  ∃ (a:Value) (b:List Nat),cs=[.string x.Kind,a]∧F=b∧RSl aU 3 c b a x.Fields
theorem rL.lasts:cB rL:=fun X h i F cs x c a ⟨d,e,f,b,g⟩=>by
  rw[b] at a
  exact⟨d,e,f,b,g.frame aU.lasts c (fun k hk=>a k (by simp[hk]))⟩
instance:LS rL:=⟨rL.lasts⟩
theorem rL.knows:dv rL:=fun c F cs x ⟨d,e,f,a,b⟩=>a ▸ b.kn
theorem rL.one:gt rL:=fun _ _ _ _ h=>by obtain⟨b,c,rfl,-,a⟩:=h;exact One.all ⟨rfl,a.one,trivial⟩
def qy (b:Hp) (F:List Nat) (cs:List Value) (x:aI):Prop:=
  ∃ (a:Value),cs=[.string x.Kind,a]∧F=(ob a++[])∧OSl aU 95 3 b [] a x.Fields
theorem qy.lasts:cB qy:=fun X g h F cs x c a ⟨d,e,b,f⟩=>by
  rw[b] at a
  exact⟨d,e,b,f.frame aU.lasts c (fun k hk=>a k (by simp[hk])) (Dj.nil _)⟩
instance:LS qy:=⟨qy.lasts⟩
theorem qy.knows:dv qy:=fun c F cs x ⟨d,e,b,a⟩=>b ▸ (a.knO.app a.kn)
theorem qy.one:gt qy:=fun _ _ _ _ h=>by obtain⟨b,rfl,-,a⟩:=h;exact One.all ⟨rfl,a.one,trivial⟩
theorem qy.gives:eu qy rL:=fun e F cs x ⟨a,b,c,d⟩=>⟨a,ob a++[],b,c,d.rslG (eu.refl _)⟩
structure ag where
  Id:Int
  F:aI
  deriving DecidableEq
def aY (c:Hp) (F:List Nat) (cs:List Value) (x:ag):Prop:=
  ∃ (a:Value) (b:List Nat),cs=[.int .i64 x.Id,.string x.F.Kind,a]∧F=b∧RSl aU 3 c b a x.F.Fields
theorem aY.lasts:cB aY:=fun X h i F cs x c a ⟨d,e,f,b,g⟩=>by
  rw[b] at a
  exact⟨d,e,f,b,g.frame aU.lasts c (fun k hk=>a k (by simp[hk]))⟩
instance:LS aY:=⟨aY.lasts⟩
theorem aY.knows:dv aY:=fun c F cs x ⟨d,e,f,a,b⟩=>a ▸ b.kn
theorem aY.one:gt aY:=fun _ _ _ _ h=>by obtain⟨b,c,rfl,-,a⟩:=h;exact One.all ⟨rfl,rfl,a.one,trivial⟩
def cR (b:Hp) (F:List Nat) (cs:List Value) (x:ag):Prop:=
  ∃ (a:Value),cs=[.int .i64 x.Id,.string x.F.Kind,a]∧F=(ob a++[])∧OSl aU 95 3 b [] a x.F.Fields
theorem cR.lasts:cB cR:=fun X g h F cs x c a ⟨d,e,b,f⟩=>by
  rw[b] at a
  exact⟨d,e,b,f.frame aU.lasts c (fun k hk=>a k (by simp[hk])) (Dj.nil _)⟩
instance:LS cR:=⟨cR.lasts⟩
theorem cR.knows:dv cR:=fun c F cs x ⟨d,e,b,a⟩=>b ▸ (a.knO.app a.kn)
theorem cR.one:gt cR:=fun _ _ _ _ h=>by obtain⟨b,rfl,-,a⟩:=h;exact One.all ⟨rfl,rfl,a.one,trivial⟩
theorem cR.gives:eu cR aY:=fun e F cs x ⟨a,b,c,d⟩=>⟨a,ob a++[],b,c,d.rslG (eu.refl _)⟩
structure ac where
  Items:(List ag)
  Next:Int
  deriving DecidableEq
def oE (c:Hp) (F:List Nat) (cs:List Value) (x:ac):Prop:=
  ∃ (a:Value) (b:List Nat),cs=[a,.int .i64 x.Next]∧F=b∧RSl aY 3 c b a x.Items
theorem oE.lasts:cB oE:=fun X h i F cs x c a ⟨d,e,f,b,g⟩=>by
  rw[b] at a
  exact⟨d,e,f,b,g.frame aY.lasts c (fun k hk=>a k (by simp[hk]))⟩
instance:LS oE:=⟨oE.lasts⟩
theorem oE.knows:dv oE:=fun c F cs x ⟨d,e,f,a,b⟩=>a ▸ b.kn
theorem oE.one:gt oE:=fun _ _ _ _ h=>by obtain⟨b,c,rfl,-,a⟩:=h;exact One.all ⟨a.one,rfl,trivial⟩
def nw (c:Hp) (F:List Nat) (cs:List Value) (x:ac):Prop:=
  ∃ (a:Value) (b:List Nat),cs=[a,.int .i64 x.Next]∧F=(ob a++b)∧OSl cR 66 3 c b a x.Items
theorem nw.lasts:cB nw:=fun X h i F cs x c a ⟨d,e,f,b,g⟩=>by
  rw[b] at a
  exact⟨d,e,f,b,g.frame cR.lasts c (fun k hk=>a k (by simp[hk])) (fun k hk=>a k (by simp[hk]))⟩
instance:LS nw:=⟨nw.lasts⟩
theorem nw.knows:dv nw:=fun c F cs x ⟨d,e,f,b,a⟩=>b ▸ (a.knO.app a.kn)
theorem nw.one:gt nw:=fun _ _ _ _ h=>by obtain⟨b,c,rfl,-,a⟩:=h;exact One.all ⟨a.one,rfl,trivial⟩
theorem nw.gives:eu nw oE:=fun f F cs x ⟨a,b,c,d,e⟩=>⟨a,ob a++b,c,d,e.rslG cR.gives⟩
structure av where
  Kind:ByteArray
  N:Int
  Consts:(List bN)
  At:(List Int)
  deriving DecidableEq
def cK (a:Hp) (F:List Nat) (cs:List Value) (x:av):Prop:=
  ∃ (b:Value) (c:List Nat) (s1:Value) (d:List Nat),cs=[.string x.Kind,.int .i64 x.N,b,s1]∧F=c++(d)∧RSl aU 3 a c b x.Consts∧RSl (RI .i64) 1 a d s1 x.At
theorem cK.lasts:cB cK:=fun X i j F cs x b a ⟨d,e,s1,f,g,c,h,h1⟩=>by
  rw[c] at a
  exact⟨d,e,s1,f,g,c,h.frame aU.lasts b (fun k hk=>a k (by simp[hk])),h1.frame RI.lasts b (fun k hk=>a k (by simp[hk]))⟩
instance:LS cK:=⟨cK.lasts⟩
theorem cK.knows:dv cK:=fun c F cs x ⟨d,e,s1,f,g,a,b,h1⟩=>a ▸ (b.kn.app h1.kn)
theorem cK.one:gt cK:=fun _ _ _ _ h=>by obtain⟨b,c,s1,d,rfl,-,a,h1⟩:=h;exact One.all ⟨rfl,rfl,a.one,h1.one,trivial⟩
def de (b:Hp) (F:List Nat) (cs:List Value) (x:av):Prop:=
  ∃ (a:Value) (s1:Value),cs=[.string x.Kind,.int .i64 x.N,a,s1]∧F=(ob a++[])++((ob s1++[]))∧OSl aU 95 3 b [] a x.Consts∧OSl (RI .i64) 3 1 b [] s1 x.At
theorem de.lasts:cB de:=fun X g h F cs x b a ⟨d,s1,e,c,f,h1⟩=>by
  rw[c] at a
  exact⟨d,s1,e,c,f.frame aU.lasts b (fun k hk=>a k (by simp[hk])) (Dj.nil _),h1.frame RI.lasts b (fun k hk=>a k (by simp[hk])) (Dj.nil _)⟩
instance:LS de:=⟨de.lasts⟩
theorem de.knows:dv de:=fun c F cs x ⟨d,s1,e,b,a,h1⟩=>b ▸ ((a.knO.app a.kn).app (h1.knO.app h1.kn))
theorem de.one:gt de:=fun _ _ _ _ h=>by obtain⟨b,s1,rfl,-,a,h1⟩:=h;exact One.all ⟨rfl,rfl,a.one,h1.one,trivial⟩
theorem de.gives:eu de cK:=fun e F cs x ⟨a,s1,b,c,d,h1⟩=>⟨a,ob a++[],s1,ob s1++[],b,c,d.rslG (eu.refl _),h1.rslG (eu.refl _)⟩
structure aG where
  Pos:(List Int)
  Neg:(List Int)
  deriving DecidableEq
def eA (a:Hp) (F:List Nat) (cs:List Value) (x:aG):Prop:=
  ∃ (b:Value) (c:List Nat) (s1:Value) (d:List Nat),cs=[b,s1]∧F=c++(d)∧RSl (RI .i64) 1 a c b x.Pos∧RSl (RI .i64) 1 a d s1 x.Neg
theorem eA.lasts:cB eA:=fun X i j F cs x b a ⟨d,e,s1,f,g,c,h,h1⟩=>by
  rw[c] at a
  exact⟨d,e,s1,f,g,c,h.frame RI.lasts b (fun k hk=>a k (by simp[hk])),h1.frame RI.lasts b (fun k hk=>a k (by simp[hk]))⟩
instance:LS eA:=⟨eA.lasts⟩
theorem eA.knows:dv eA:=fun c F cs x ⟨d,e,s1,f,g,a,b,h1⟩=>a ▸ (b.kn.app h1.kn)
theorem eA.one:gt eA:=fun _ _ _ _ h=>by obtain⟨b,c,s1,d,rfl,-,a,h1⟩:=h;exact One.all ⟨a.one,h1.one,trivial⟩
def bJ (b:Hp) (F:List Nat) (cs:List Value) (x:aG):Prop:=
  ∃ (a:Value) (s1:Value),cs=[a,s1]∧F=(ob a++[])++((ob s1++[]))∧OSl (RI .i64) 3 1 b [] a x.Pos∧OSl (RI .i64) 3 1 b [] s1 x.Neg
theorem bJ.lasts:cB bJ:=fun X g h F cs x b a ⟨d,s1,e,c,f,h1⟩=>by
  rw[c] at a
  exact⟨d,s1,e,c,f.frame RI.lasts b (fun k hk=>a k (by simp[hk])) (Dj.nil _),h1.frame RI.lasts b (fun k hk=>a k (by simp[hk])) (Dj.nil _)⟩
instance:LS bJ:=⟨bJ.lasts⟩
theorem bJ.knows:dv bJ:=fun c F cs x ⟨d,s1,e,b,a,h1⟩=>b ▸ ((a.knO.app a.kn).app (h1.knO.app h1.kn))
theorem bJ.one:gt bJ:=fun _ _ _ _ h=>by obtain⟨b,s1,rfl,-,a,h1⟩:=h;exact One.all ⟨a.one,h1.one,trivial⟩
theorem bJ.gives:eu bJ eA:=fun e F cs x ⟨a,s1,b,c,d,h1⟩=>⟨a,ob a++[],s1,ob s1++[],b,c,d.rslG (eu.refl _),h1.rslG (eu.refl _)⟩
structure ce where
  Alphas:(List av)
  Chains:(List aG)
  deriving DecidableEq
def vG (a:Hp) (F:List Nat) (cs:List Value) (x:ce):Prop:=
  ∃ (b:Value) (c:List Nat) (s1:Value) (d:List Nat),cs=[b,s1]∧F=c++(d)∧RSl cK 4 a c b x.Alphas∧RSl eA 2 a d s1 x.Chains
theorem vG.lasts:cB vG:=fun X i j F cs x b a ⟨d,e,s1,f,g,c,h,h1⟩=>by
  rw[c] at a
  exact⟨d,e,s1,f,g,c,h.frame cK.lasts b (fun k hk=>a k (by simp[hk])),h1.frame eA.lasts b (fun k hk=>a k (by simp[hk]))⟩
instance:LS vG:=⟨vG.lasts⟩
theorem vG.knows:dv vG:=fun c F cs x ⟨d,e,s1,f,g,a,b,h1⟩=>a ▸ (b.kn.app h1.kn)
theorem vG.one:gt vG:=fun _ _ _ _ h=>by obtain⟨b,c,s1,d,rfl,-,a,h1⟩:=h;exact One.all ⟨a.one,h1.one,trivial⟩
def ua (b:Hp) (F:List Nat) (cs:List Value) (x:ce):Prop:=
  ∃ (a:Value) (c:List Nat) (s1:Value) (d:List Nat),cs=[a,s1]∧F=(ob a++c)++((ob s1++d))∧OSl de 137 4 b c a x.Alphas∧OSl bJ 141 2 b d s1 x.Chains
theorem ua.lasts:cB ua:=fun X i j F cs x b a ⟨d,e,s1,f,g,c,h,h1⟩=>by
  rw[c] at a
  exact⟨d,e,s1,f,g,c,h.frame de.lasts b (fun k hk=>a k (by simp[hk])) (fun k hk=>a k (by simp[hk])),h1.frame bJ.lasts b (fun k hk=>a k (by simp[hk])) (fun k hk=>a k (by simp[hk]))⟩
instance:LS ua:=⟨ua.lasts⟩
theorem ua.knows:dv ua:=fun c F cs x ⟨d,e,s1,f,g,b,a,h1⟩=>b ▸ ((a.knO.app a.kn).app (h1.knO.app h1.kn))
theorem ua.one:gt ua:=fun _ _ _ _ h=>by obtain⟨b,c,s1,d,rfl,-,a,h1⟩:=h;exact One.all ⟨a.one,h1.one,trivial⟩
theorem ua.gives:eu ua vG:=fun g F cs x ⟨a,b,s1,c,d,e,f,h1⟩=>⟨a,ob a++b,s1,ob s1++c,d,e,f.rslG de.gives,h1.rslG bJ.gives⟩
structure bF where
  L:(List Int)
  deriving DecidableEq
def im (c:Hp) (F:List Nat) (cs:List Value) (x:bF):Prop:=
  ∃ (a:Value) (b:List Nat),cs=[a]∧F=b∧RSl (RI .i64) 1 c b a x.L
theorem im.lasts:cB im:=fun X h i F cs x c a ⟨d,e,f,b,g⟩=>by
  rw[b] at a
  exact⟨d,e,f,b,g.frame RI.lasts c (fun k hk=>a k (by simp[hk]))⟩
instance:LS im:=⟨im.lasts⟩
theorem im.knows:dv im:=fun c F cs x ⟨d,e,f,a,b⟩=>a ▸ b.kn
theorem im.one:gt im:=fun _ _ _ _ h=>by obtain⟨b,c,rfl,-,a⟩:=h;exact One.all ⟨a.one,trivial⟩
def bA (b:Hp) (F:List Nat) (cs:List Value) (x:bF):Prop:=
  ∃ (a:Value),cs=[a]∧F=(ob a++[])∧OSl (RI .i64) 3 1 b [] a x.L
theorem bA.lasts:cB bA:=fun X g h F cs x c a ⟨d,e,b,f⟩=>by
  rw[b] at a
  exact⟨d,e,b,f.frame RI.lasts c (fun k hk=>a k (by simp[hk])) (Dj.nil _)⟩
instance:LS bA:=⟨bA.lasts⟩
theorem bA.knows:dv bA:=fun c F cs x ⟨d,e,b,a⟩=>b ▸ (a.knO.app a.kn)
theorem bA.one:gt bA:=fun _ _ _ _ h=>by obtain⟨b,rfl,-,a⟩:=h;exact One.all ⟨a.one,trivial⟩
theorem bA.gives:eu bA im:=fun e F cs x ⟨a,b,c,d⟩=>⟨a,ob a++[],b,c,d.rslG (eu.refl _)⟩
structure ao where
  Ids:(List Int)
  Hits:(List Int)
  deriving DecidableEq
def dW (a:Hp) (F:List Nat) (cs:List Value) (x:ao):Prop:=
  ∃ (b:Value) (c:List Nat) (s1:Value) (d:List Nat),cs=[b,s1]∧F=c++(d)∧RSl (RI .i64) 1 a c b x.Ids∧RSl (RI .i64) 1 a d s1 x.Hits
theorem dW.lasts:cB dW:=fun X i j F cs x b a ⟨d,e,s1,f,g,c,h,h1⟩=>by
  rw[c] at a
  exact⟨d,e,s1,f,g,c,h.frame RI.lasts b (fun k hk=>a k (by simp[hk])),h1.frame RI.lasts b (fun k hk=>a k (by simp[hk]))⟩
instance:LS dW:=⟨dW.lasts⟩
theorem dW.knows:dv dW:=fun c F cs x ⟨d,e,s1,f,g,a,b,h1⟩=>a ▸ (b.kn.app h1.kn)
theorem dW.one:gt dW:=fun _ _ _ _ h=>by obtain⟨b,c,s1,d,rfl,-,a,h1⟩:=h;exact One.all ⟨a.one,h1.one,trivial⟩
def aT (b:Hp) (F:List Nat) (cs:List Value) (x:ao):Prop:=
  ∃ (a:Value) (s1:Value),cs=[a,s1]∧F=(ob a++[])++((ob s1++[]))∧OSl (RI .i64) 3 1 b [] a x.Ids∧OSl (RI .i64) 3 1 b [] s1 x.Hits
theorem aT.lasts:cB aT:=fun X g h F cs x b a ⟨d,s1,e,c,f,h1⟩=>by
  rw[c] at a
  exact⟨d,s1,e,c,f.frame RI.lasts b (fun k hk=>a k (by simp[hk])) (Dj.nil _),h1.frame RI.lasts b (fun k hk=>a k (by simp[hk])) (Dj.nil _)⟩
instance:LS aT:=⟨aT.lasts⟩
theorem aT.knows:dv aT:=fun c F cs x ⟨d,s1,e,b,a,h1⟩=>b ▸ ((a.knO.app a.kn).app (h1.knO.app h1.kn))
theorem aT.one:gt aT:=fun _ _ _ _ h=>by obtain⟨b,s1,rfl,-,a,h1⟩:=h;exact One.all ⟨a.one,h1.one,trivial⟩
theorem aT.gives:eu aT dW:=fun e F cs x ⟨a,s1,b,c,d,h1⟩=>⟨a,ob a++[],s1,ob s1++[],b,c,d.rslG (eu.refl _),h1.rslG (eu.refl _)⟩
structure aq where
  Toks:(List ao)
  deriving DecidableEq
def iv (c:Hp) (F:List Nat) (cs:List Value) (x:aq):Prop:=
  ∃ (a:Value) (b:List Nat),cs=[a]∧F=b∧RSl dW 2 c b a x.Toks
theorem iv.lasts:cB iv:=fun X h i F cs x c a ⟨d,e,f,b,g⟩=>by
  rw[b] at a
  exact⟨d,e,f,b,g.frame dW.lasts c (fun k hk=>a k (by simp[hk]))⟩
instance:LS iv:=⟨iv.lasts⟩
theorem iv.knows:dv iv:=fun c F cs x ⟨d,e,f,a,b⟩=>a ▸ b.kn
theorem iv.one:gt iv:=fun _ _ _ _ h=>by obtain⟨b,c,rfl,-,a⟩:=h;exact One.all ⟨a.one,trivial⟩
def aV (c:Hp) (F:List Nat) (cs:List Value) (x:aq):Prop:=
  ∃ (a:Value) (b:List Nat),cs=[a]∧F=(ob a++b)∧OSl aT 105 2 c b a x.Toks
theorem aV.lasts:cB aV:=fun X h i F cs x c a ⟨d,e,f,b,g⟩=>by
  rw[b] at a
  exact⟨d,e,f,b,g.frame aT.lasts c (fun k hk=>a k (by simp[hk])) (fun k hk=>a k (by simp[hk]))⟩
instance:LS aV:=⟨aV.lasts⟩
theorem aV.knows:dv aV:=fun c F cs x ⟨d,e,f,b,a⟩=>b ▸ (a.knO.app a.kn)
theorem aV.one:gt aV:=fun _ _ _ _ h=>by obtain⟨b,c,rfl,-,a⟩:=h;exact One.all ⟨a.one,trivial⟩
theorem aV.gives:eu aV iv:=fun f F cs x ⟨a,b,c,d,e⟩=>⟨a,ob a++b,c,d,e.rslG aT.gives⟩
structure aP where
  Levels:(List aq)
  deriving DecidableEq
def l7 (c:Hp) (F:List Nat) (cs:List Value) (x:aP):Prop:=
  ∃ (a:Value) (b:List Nat),cs=[a]∧F=b∧RSl iv 1 c b a x.Levels
theorem l7.lasts:cB l7:=fun X h i F cs x c a ⟨d,e,f,b,g⟩=>by
  rw[b] at a
  exact⟨d,e,f,b,g.frame iv.lasts c (fun k hk=>a k (by simp[hk]))⟩
instance:LS l7:=⟨l7.lasts⟩
theorem l7.knows:dv l7:=fun c F cs x ⟨d,e,f,a,b⟩=>a ▸ b.kn
theorem l7.one:gt l7:=fun _ _ _ _ h=>by obtain⟨b,c,rfl,-,a⟩:=h;exact One.all ⟨a.one,trivial⟩
def br (c:Hp) (F:List Nat) (cs:List Value) (x:aP):Prop:=
  ∃ (a:Value) (b:List Nat),cs=[a]∧F=(ob a++b)∧OSl aV 103 1 c b a x.Levels
theorem br.lasts:cB br:=fun X h i F cs x c a ⟨d,e,f,b,g⟩=>by
  rw[b] at a
  exact⟨d,e,f,b,g.frame aV.lasts c (fun k hk=>a k (by simp[hk])) (fun k hk=>a k (by simp[hk]))⟩
instance:LS br:=⟨br.lasts⟩
theorem br.knows:dv br:=fun c F cs x ⟨d,e,f,b,a⟩=>b ▸ (a.knO.app a.kn)
theorem br.one:gt br:=fun _ _ _ _ h=>by obtain⟨b,c,rfl,-,a⟩:=h;exact One.all ⟨a.one,trivial⟩
theorem br.gives:eu br l7:=fun f F cs x ⟨a,b,c,d,e⟩=>⟨a,ob a++b,c,d,e.rslG aV.gives⟩
structure aN where
  Alphas:(List bF)
  Rules:(List aP)
  deriving DecidableEq
def uV (a:Hp) (F:List Nat) (cs:List Value) (x:aN):Prop:=
  ∃ (b:Value) (c:List Nat) (s1:Value) (d:List Nat),cs=[b,s1]∧F=c++(d)∧RSl im 1 a c b x.Alphas∧RSl l7 1 a d s1 x.Rules
theorem uV.lasts:cB uV:=fun X i j F cs x b a ⟨d,e,s1,f,g,c,h,h1⟩=>by
  rw[c] at a
  exact⟨d,e,s1,f,g,c,h.frame im.lasts b (fun k hk=>a k (by simp[hk])),h1.frame l7.lasts b (fun k hk=>a k (by simp[hk]))⟩
instance:LS uV:=⟨uV.lasts⟩
theorem uV.knows:dv uV:=fun c F cs x ⟨d,e,s1,f,g,a,b,h1⟩=>a ▸ (b.kn.app h1.kn)
theorem uV.one:gt uV:=fun _ _ _ _ h=>by obtain⟨b,c,s1,d,rfl,-,a,h1⟩:=h;exact One.all ⟨a.one,h1.one,trivial⟩
def ud (b:Hp) (F:List Nat) (cs:List Value) (x:aN):Prop:=
  ∃ (a:Value) (c:List Nat) (s1:Value) (d:List Nat),cs=[a,s1]∧F=(ob a++c)++((ob s1++d))∧OSl bA 133 1 b c a x.Alphas∧OSl br 100 1 b d s1 x.Rules
theorem ud.lasts:cB ud:=fun X i j F cs x b a ⟨d,e,s1,f,g,c,h,h1⟩=>by
  rw[c] at a
  exact⟨d,e,s1,f,g,c,h.frame bA.lasts b (fun k hk=>a k (by simp[hk])) (fun k hk=>a k (by simp[hk])),h1.frame br.lasts b (fun k hk=>a k (by simp[hk])) (fun k hk=>a k (by simp[hk]))⟩
instance:LS ud:=⟨ud.lasts⟩
theorem ud.knows:dv ud:=fun c F cs x ⟨d,e,s1,f,g,b,a,h1⟩=>b ▸ ((a.knO.app a.kn).app (h1.knO.app h1.kn))
theorem ud.one:gt ud:=fun _ _ _ _ h=>by obtain⟨b,c,s1,d,rfl,-,a,h1⟩:=h;exact One.all ⟨a.one,h1.one,trivial⟩
theorem ud.gives:eu ud uV:=fun g F cs x ⟨a,b,s1,c,d,e,f,h1⟩=>⟨a,ob a++b,s1,ob s1++c,d,e,f.rslG bA.gives,h1.rslG br.gives⟩
structure dl where
  pos:(List ay)
  neg:(List ay)
  chain:aG
  alphas:(List bF)
  s:ac
  id:Int
  deriving DecidableEq
def mt (a:Hp) (F:List Nat) (cs:List Value) (x:dl):Prop:=
  ∃ (b:Value) (c:List Nat) (s1:Value) (d:List Nat) (s2:Value) (e:List Nat) (f:Value) (g:List Nat) (h:Value) (i:List Nat) (j:Value) (k:List Nat),cs=[b,s1,s2,f,h,j,.int .i64 x.s.Next,.int .i64 x.id]∧F=c++(d++(e++(g++(i++(k)))))∧RSl cS 3 a c b x.pos∧RSl cS 3 a d s1 x.neg∧RSl (RI .i64) 1 a e s2 x.chain.Pos∧RSl (RI .i64) 1 a g f x.chain.Neg∧RSl im 1 a i h x.alphas∧RSl aY 3 a k j x.s.Items
theorem mt.lasts:cB mt:=fun X u v F cs x b a ⟨d,e,s1,f,s2,g,h,i,j,l,m,n,o,c,p,h1,q,r,s,t⟩=>by
  rw[c] at a
  exact⟨d,e,s1,f,s2,g,h,i,j,l,m,n,o,c,p.frame cS.lasts b (fun k hk=>a k (by simp[hk])),h1.frame cS.lasts b (fun k hk=>a k (by simp[hk])),q.frame RI.lasts b (fun k hk=>a k (by simp[hk])),r.frame RI.lasts b (fun k hk=>a k (by simp[hk])),s.frame im.lasts b (fun k hk=>a k (by simp[hk])),t.frame aY.lasts b (fun k hk=>a k (by simp[hk]))⟩
instance:LS mt:=⟨mt.lasts⟩
theorem mt.knows:dv mt:=fun g F cs x ⟨h,i,s1,j,s2,k,l,m,n,o,p,q,r,a,b,h1,c,d,e,f⟩=>a ▸ (b.kn.app (h1.kn.app (c.kn.app (d.kn.app (e.kn.app f.kn)))))
theorem mt.one:gt mt:=fun _ _ _ _ h=>by obtain⟨f,g,s1,i,s2,j,k,l,m,n,o,p,rfl,-,a,h1,b,c,d,e⟩:=h;exact One.all ⟨a.one,h1.one,b.one,c.one,d.one,e.one,rfl,rfl,trivial⟩
def lA (a:Hp) (F:List Nat) (cs:List Value) (x:dl):Prop:=
  ∃ (b:Value) (f:List Nat) (s1:Value) (g:List Nat) (s2:Value) (c:Value) (d:Value) (h:List Nat) (e:Value) (i:List Nat),cs=[b,s1,s2,c,d,e,.int .i64 x.s.Next,.int .i64 x.id]∧F=(ob b++f)++((ob s1++g)++((ob s2++[])++((ob c++[])++((ob d++h)++((ob e++i))))))∧OSl eB 201 3 a f b x.pos∧OSl eB 201 3 a g s1 x.neg∧OSl (RI .i64) 3 1 a [] s2 x.chain.Pos∧OSl (RI .i64) 3 1 a [] c x.chain.Neg∧OSl bA 133 1 a h d x.alphas∧OSl cR 66 3 a i e x.s.Items
theorem lA.lasts:cB lA:=fun X s t F cs x b a ⟨d,e,s1,f,s2,g,h,i,j,l,m,c,n,h1,o,p,q,r⟩=>by
  rw[c] at a
  exact⟨d,e,s1,f,s2,g,h,i,j,l,m,c,n.frame eB.lasts b (fun k hk=>a k (by simp[hk])) (fun k hk=>a k (by simp[hk])),h1.frame eB.lasts b (fun k hk=>a k (by simp[hk])) (fun k hk=>a k (by simp[hk])),o.frame RI.lasts b (fun k hk=>a k (by simp[hk])) (Dj.nil _),p.frame RI.lasts b (fun k hk=>a k (by simp[hk])) (Dj.nil _),q.frame bA.lasts b (fun k hk=>a k (by simp[hk])) (fun k hk=>a k (by simp[hk])),r.frame cR.lasts b (fun k hk=>a k (by simp[hk])) (fun k hk=>a k (by simp[hk]))⟩
instance:LS lA:=⟨lA.lasts⟩
theorem lA.knows:dv lA:=fun g F cs x ⟨h,i,s1,j,s2,k,l,m,n,o,p,f,a,h1,b,c,d,e⟩=>f ▸ ((a.knO.app a.kn).app ((h1.knO.app h1.kn).app ((b.knO.app b.kn).app ((c.knO.app c.kn).app ((d.knO.app d.kn).app (e.knO.app e.kn))))))
theorem lA.one:gt lA:=fun _ _ _ _ h=>by obtain⟨f,g,s1,i,s2,j,k,l,m,n,rfl,-,a,h1,b,c,d,e⟩:=h;exact One.all ⟨a.one,h1.one,b.one,c.one,d.one,e.one,rfl,rfl,trivial⟩
theorem lA.gives:eu lA mt:=fun p F cs x ⟨a,e,s1,f,s2,b,c,g,d,h,i,j,k,h1,l,m,n,o⟩=>⟨a,ob a++e,s1,ob s1++f,s2,ob s2++[],b,ob b++[],c,ob c++g,d,ob d++h,i,j,k.rslG eB.gives,h1.rslG eB.gives,l.rslG (eu.refl _),m.rslG (eu.refl _),n.rslG bA.gives,o.rslG cR.gives⟩
structure au where
  Name:ByteArray
  V:bN
  deriving DecidableEq
def aJ (a:Hp) (F:List Nat) (cs:List Value) (x:au):Prop:=cs=[.string x.Name,.int .i64 x.V.K,.int .i64 x.V.N,.string x.V.S]∧F=[]
theorem aJ.lasts:cB aJ:=fun _ _ _ _ _ _ _ _ h=>h
instance:LS aJ:=⟨aJ.lasts⟩
theorem aJ.knows:dv aJ:=fun _ _ _ _ h=>h.2 ▸ Kw.nil
theorem aJ.flat:wt aJ:=fun _ _ _ _ h=>h.2
theorem aJ.one:gt aJ:=fun _ _ _ _ h=>by obtain⟨rfl,-⟩:=h;exact One.all ⟨rfl,rfl,rfl,rfl,trivial⟩
structure a7 where
  Rule:Int
  Ids:(List Int)
  Binds:(List au)
  deriving DecidableEq
def dO (a:Hp) (F:List Nat) (cs:List Value) (x:a7):Prop:=
  ∃ (b:Value) (c:List Nat) (s1:Value) (d:List Nat),cs=[.int .i64 x.Rule,b,s1]∧F=c++(d)∧RSl (RI .i64) 1 a c b x.Ids∧RSl aJ 4 a d s1 x.Binds
theorem dO.lasts:cB dO:=fun X i j F cs x b a ⟨d,e,s1,f,g,c,h,h1⟩=>by
  rw[c] at a
  exact⟨d,e,s1,f,g,c,h.frame RI.lasts b (fun k hk=>a k (by simp[hk])),h1.frame aJ.lasts b (fun k hk=>a k (by simp[hk]))⟩
instance:LS dO:=⟨dO.lasts⟩
theorem dO.knows:dv dO:=fun c F cs x ⟨d,e,s1,f,g,a,b,h1⟩=>a ▸ (b.kn.app h1.kn)
theorem dO.one:gt dO:=fun _ _ _ _ h=>by obtain⟨b,c,s1,d,rfl,-,a,h1⟩:=h;exact One.all ⟨rfl,a.one,h1.one,trivial⟩
def aO (b:Hp) (F:List Nat) (cs:List Value) (x:a7):Prop:=
  ∃ (a:Value) (s1:Value),cs=[.int .i64 x.Rule,a,s1]∧F=(ob a++[])++((ob s1++[]))∧OSl (RI .i64) 3 1 b [] a x.Ids∧OSl aJ 97 4 b [] s1 x.Binds
theorem aO.lasts:cB aO:=fun X g h F cs x b a ⟨d,s1,e,c,f,h1⟩=>by
  rw[c] at a
  exact⟨d,s1,e,c,f.frame RI.lasts b (fun k hk=>a k (by simp[hk])) (Dj.nil _),h1.frame aJ.lasts b (fun k hk=>a k (by simp[hk])) (Dj.nil _)⟩
instance:LS aO:=⟨aO.lasts⟩
theorem aO.knows:dv aO:=fun c F cs x ⟨d,s1,e,b,a,h1⟩=>b ▸ ((a.knO.app a.kn).app (h1.knO.app h1.kn))
theorem aO.one:gt aO:=fun _ _ _ _ h=>by obtain⟨b,s1,rfl,-,a,h1⟩:=h;exact One.all ⟨rfl,a.one,h1.one,trivial⟩
theorem aO.gives:eu aO dO:=fun e F cs x ⟨a,s1,b,c,d,h1⟩=>⟨a,ob a++[],s1,ob s1++[],b,c,d.rslG (eu.refl _),h1.rslG (eu.refl _)⟩
def tp (x y:au):Bool:=(seq x.Name y.Name && ((x.V.K == y.V.K) && ((x.V.N == y.V.N) && (seq x.V.S y.V.S && true))))

theorem Ay (x y:au):tp x y=decide (x=y):=by
  obtain⟨a0,⟨a,b,a12⟩⟩:=x;obtain⟨b0,⟨c,d,e⟩⟩:=y
  rw[sY]
  simp only[tp,AU,ti,gm,beq_iff_eq,decide_eq_true_eq,au.mk.injEq,bN.mk.injEq,and_assoc]
structure ab where
  b:(List Int)
  i:Int
  h:Int
  deriving DecidableEq
def oI (c:Hp) (F:List Nat) (cs:List Value) (x:ab):Prop:=
  ∃ (a:Value) (b:List Nat),cs=[a,.int .i64 x.i,.int .i64 x.h]∧F=b∧RSl (RI .u8) 1 c b a x.b
theorem oI.lasts:cB oI:=fun X h i F cs x c a ⟨d,e,f,b,g⟩=>by
  rw[b] at a
  exact⟨d,e,f,b,g.frame RI.lasts c (fun k hk=>a k (by simp[hk]))⟩
instance:LS oI:=⟨oI.lasts⟩
theorem oI.knows:dv oI:=fun c F cs x ⟨d,e,f,a,b⟩=>a ▸ b.kn
theorem oI.one:gt oI:=fun _ _ _ _ h=>by obtain⟨b,c,rfl,-,a⟩:=h;exact One.all ⟨a.one,rfl,rfl,trivial⟩
def nB (b:Hp) (F:List Nat) (cs:List Value) (x:ab):Prop:=
  ∃ (a:Value),cs=[a,.int .i64 x.i,.int .i64 x.h]∧F=(ob a++[])∧OSl (RI .u8) 5 1 b [] a x.b
theorem nB.lasts:cB nB:=fun X g h F cs x c a ⟨d,e,b,f⟩=>by
  rw[b] at a
  exact⟨d,e,b,f.frame RI.lasts c (fun k hk=>a k (by simp[hk])) (Dj.nil _)⟩
instance:LS nB:=⟨nB.lasts⟩
theorem nB.knows:dv nB:=fun c F cs x ⟨d,e,b,a⟩=>b ▸ (a.knO.app a.kn)
theorem nB.one:gt nB:=fun _ _ _ _ h=>by obtain⟨b,rfl,-,a⟩:=h;exact One.all ⟨a.one,rfl,rfl,trivial⟩
theorem nB.gives:eu nB oI:=fun e F cs x ⟨a,b,c,d⟩=>⟨a,ob a++[],b,c,d.rslG (eu.refl _)⟩
def xx (N:Nat) (a:(List Int)):Option (Bool):=
  some (decide (1048576 < (a.length:Int)))
def kz (N:Nat) (a:Int):Option (Bool):=
  ((if decide (97≤a) then some (decide (a≤122)) else some false).bind fun b=>some b)
def pX (N:Nat) (a:Int):Option (Bool):=
  ((if decide (48≤a) then some (decide (a≤57)) else some false).bind fun b=>some b)
def iR (N:Nat) (a:Int):Option (Bool):=
  ((kz N a).bind fun b=>((if b then some true else ((pX N a).bind fun c=>some c)).bind fun d=>((if d then some true else some (decide (a=95))).bind fun e=>some e)))
def fw (N:Nat) (a:ByteArray):Nat→Int→Option (Bool)
  | 0,_=>none
  | k+1,s1=>
    (if decide (s1 < (a.size:Int)) then ((idx a.data.toList s1).bind fun b=>((iR N (b.toNat:Int)).bind fun c=>(if !c then some false else ((fw N a k) (i64.wrap (s1+1)))))) else some true)
def mU (N:Nat) (a:ByteArray) (b:Int):Option (Bool):=
  (if decide (b < (a.size:Int)) then some false else fw N a N 0)
def ia (N:Nat) (a:ByteArray):Option (Bool):=
  ((if decide (0 < (a.size:Int)) then ((idx a.data.toList 0).bind fun b=>((kz N (b.toNat:Int)).bind fun c=>some c)) else some false).bind fun d=>((if d then ((mU N a 12).bind fun e=>some e) else some false).bind fun f=>some f))
def dB (N:Nat) (a:Int) (b:Int) (c:Int):Option (Bool):=
  ((if decide (b≤a) then some (decide (a≤c)) else some false).bind fun d=>some d)
def ej (N:Nat) (a:af):Nat→Int→Int→Option (Int)
  | 0,_,_=>none
  | k+1,s1,s2=>
    (if decide (s2 < (a.Pats.length:Int)) then ((idx a.Pats s2).bind fun b=>(if !b.Not then ((ej N a k) (i64.wrap (s1+1)) (i64.wrap (s2+1))) else ((ej N a k) s1 (i64.wrap (s2+1))))) else some s1)
def jq (N:Nat) (a:af):Option (Int):=
  ej N a N 0 0
def oL (N:Nat) (a:bN):Option (Bool):=
  (if decide (a.K=1) then ((dB N a.N (-1000000000) 1000000000).bind fun b=>((if b then some (seq a.S (⟨#[]⟩:ByteArray)) else some false).bind fun c=>some c)) else (if decide (a.K=2) then ((if decide (a.N=0) then ((mU N a.S 20).bind fun d=>some d) else some false).bind fun e=>some e) else some false))
def lR (N:Nat) (a:Int):Option (Bool):=
  ((if decide (65≤a) then some (decide (a≤90)) else some false).bind fun b=>some b)
def ir (N:Nat) (a:ByteArray):Nat→Int→Option (Bool)
  | 0,_=>none
  | k+1,s1=>
    (if decide (s1 < (a.size:Int)) then ((idx a.data.toList s1).bind fun b=>((iR N (b.toNat:Int)).bind fun c=>((if !c then ((idx a.data.toList s1).bind fun d=>((lR N (d.toNat:Int)).bind fun e=>some (!e))) else some false).bind fun f=>(if f then some false else ((ir N a k) (i64.wrap (s1+1))))))) else some true)
def qR (N:Nat) (a:ByteArray):Option (Bool):=
  ((if decide ((a.size:Int) < 1) then some true else some (decide (12 < (a.size:Int)))).bind fun b=>((if b then some true else ((idx a.data.toList 0).bind fun c=>((lR N (c.toNat:Int)).bind fun d=>some (!d)))).bind fun e=>(if e then some false else ir N a N 0)))
def oK (N:Nat) (a:cJ):Option (Bool):=
  (if decide (a.K=1) then ((qR N a.S).bind fun b=>((if b then some (bQ a.V (⟨0,0,(⟨#[]⟩:ByteArray)⟩:bN)) else some false).bind fun c=>some c)) else (if decide (a.K=2) then ((if seq a.S (⟨#[]⟩:ByteArray) then ((oL N a.V).bind fun d=>some d) else some false).bind fun e=>some e) else (if decide (a.K=3) then ((if seq a.S (⟨#[]⟩:ByteArray) then some (bQ a.V (⟨0,0,(⟨#[]⟩:ByteArray)⟩:bN)) else some false).bind fun f=>some f) else some false)))
def iz (N:Nat) (a:ay):Nat→Int→Option (Bool)
  | 0,_=>none
  | k+1,s1=>
    (if decide (s1 < (a.Args.length:Int)) then ((idx a.Args s1).bind fun b=>((oK N b).bind fun c=>(if !c then some false else ((iz N a k) (i64.wrap (s1+1)))))) else some true)
def qW (N:Nat) (a:ay):Option (Bool):=
  ((ia N a.Kind).bind fun b=>((if !b then some true else some (decide (5 < (a.Args.length:Int)))).bind fun c=>(if c then some false else iz N a N 0)))
def fx (N:Nat) (a:af):Nat→Int→Option (Bool)
  | 0,_=>none
  | k+1,s1=>
    (if decide (s1 < (a.Pats.length:Int)) then ((idx a.Pats s1).bind fun b=>((qW N b).bind fun c=>((if !c then some true else ((jq N a).bind fun d=>some (b.Not != (decide (d≤s1))))).bind fun e=>(if e then some false else ((fx N a k) (i64.wrap (s1+1))))))) else some true)
def pg (N:Nat) (a:af):Option (Bool):=
  ((dB N (a.Pats.length:Int) 1 6).bind fun b=>((if !b then some true else ((jq N a).bind fun c=>((dB N c 1 3).bind fun d=>some (!d)))).bind fun e=>(if e then some false else fx N a N 0)))
def jp (N:Nat) (a:cJ):Option (Bool):=
  ((if !decide (a.K=3) then ((oK N a).bind fun b=>some b) else some false).bind fun c=>some c)
def oR (N:Nat) (a:f9):Option (Bool):=
  ((dB N a.Op 1 3).bind fun b=>((if b then ((jp N a.L).bind fun c=>some c) else some false).bind fun d=>((if d then ((jp N a.R).bind fun e=>some e) else some false).bind fun f=>some f)))
def jB (N:Nat) (a:dY) (s1:Bool):Option (Bool):=
  (if s1 then ((jp N a.L).bind fun b=>((if b then ((jp N a.R).bind fun c=>some c) else some false).bind fun d=>some d)) else some false)
def pM (N:Nat) (a:dY):Option (Bool):=
  (if seq a.Op (⟨#[]⟩:ByteArray) then ((jp N a.L).bind fun b=>((if b then some (qG a.R (⟨0,(⟨#[]⟩:ByteArray),(⟨0,0,(⟨#[]⟩:ByteArray)⟩:bN)⟩:cJ)) else some false).bind fun c=>some c)) else (if seq a.Op (⟨#[43]⟩:ByteArray) then jB N a (seq a.Op (⟨#[43]⟩:ByteArray)) else jB N a (seq a.Op (⟨#[45]⟩:ByteArray))))
def fm (N:Nat) (a:fd):Nat→Int→Option (Bool)
  | 0,_=>none
  | k+1,s1=>
    (if decide (s1 < (a.Args.length:Int)) then ((idx a.Args s1).bind fun b=>((pM N b).bind fun c=>(if !c then some false else ((fm N a k) (i64.wrap (s1+1)))))) else some true)
def lO (N:Nat) (a:fd):Option (Bool):=
  ((ia N a.Name).bind fun b=>((if !b then some true else some (decide (5 < (a.Args.length:Int)))).bind fun c=>(if c then some false else fm N a N 0)))
def rm (N:Nat) (a:ByteArray):Option (Bool):=
  ((if seq a (⟨#[]⟩:ByteArray) then some true else ((ia N a).bind fun b=>some b)).bind fun c=>some c)
def kL (N:Nat) (a:fd) (b:Bool) (s1:Bool):Option (Bool):=
  (if s1 then ((if b then some (decide (a.N=0)) else some false).bind fun c=>((if c then some (seq a.Undo (⟨#[]⟩:ByteArray)) else some false).bind fun d=>some d)) else some false)
def rd (N:Nat) (a:fd):Option (Bool):=
  ((if seq a.Name (⟨#[]⟩:ByteArray) then some (decide ((a.Args.length:Int)=0)) else some false).bind fun b=>(if decide (a.Kind=1) then ((lO N a).bind fun c=>((if c then some (decide (a.N=0)) else some false).bind fun d=>((if d then some (seq a.Undo (⟨#[]⟩:ByteArray)) else some false).bind fun e=>some e))) else (if decide (a.Kind=2) then ((if b then ((dB N a.N 0 7).bind fun f=>some f) else some false).bind fun g=>((if g then some (seq a.Undo (⟨#[]⟩:ByteArray)) else some false).bind fun h=>some h)) else (if decide (a.Kind=3) then ((lO N a).bind fun i=>((if i then some (decide (a.N=0)) else some false).bind fun j=>((if j then ((rm N a.Undo).bind fun k=>some k) else some false).bind fun l=>some l))) else (if decide (a.Kind=4) then ((lO N a).bind fun m=>((if m then ((dB N a.N 0 100000).bind fun n=>some n) else some false).bind fun o=>((if o then some (seq a.Undo (⟨#[]⟩:ByteArray)) else some false).bind fun p=>some p))) else (if decide (a.Kind=5) then kL N a b (decide (a.Kind=5)) else kL N a b (decide (a.Kind=6))))))))
def bG (N:Nat) (a:(List ByteArray)) (b:ByteArray):Nat→Int→Option (Int)
  | 0,_=>none
  | k+1,s1=>
    (if decide (s1 < (a.length:Int)) then ((idx a s1).bind fun c=>(if seq b c then some s1 else ((bG N a b k) (i64.wrap (s1+1))))) else some (-1))
def dP (N:Nat) (a:(List ByteArray)) (b:ByteArray):Option (Int):=
  bG N a b N 0
def cL (N:Nat) (a:(List ByteArray)) (b:ByteArray):Option (Bool):=
  ((dP N a b).bind fun c=>some (decide (0≤c)))
def o7 (N:Nat) (a:(List ByteArray)) (b:ByteArray):Option ((List ByteArray)):=
  ((cL N a b).bind fun c=>(if c then some a else ((app a ([b]:List ByteArray)).bind fun d=>some d)))
def fJ (N:Nat) (a:(List cJ)):Nat→(List ByteArray)→Int→Option ((List ByteArray))
  | 0,_,_=>none
  | k+1,s1,s2=>
    (if decide (s2 < (a.length:Int)) then ((idx a s2).bind fun b=>(if decide (b.K=1) then ((o7 N s1 b.S).bind fun c=>((fJ N a k) c (i64.wrap (s2+1)))) else ((fJ N a k) s1 (i64.wrap (s2+1))))) else some s1)
def jX (N:Nat) (a:(List ByteArray)) (b:(List cJ)):Option ((List ByteArray)):=
  fJ N b N a 0
def fK (N:Nat) (a:af):Nat→(List ByteArray)→Int→Option ((List ByteArray))
  | 0,_,_=>none
  | k+1,s1,s2=>
    (if decide (s2 < (a.Pats.length:Int)) then ((idx a.Pats s2).bind fun b=>(if !b.Not then ((jX N s1 b.Args).bind fun c=>((fK N a k) c (i64.wrap (s2+1)))) else ((fK N a k) s1 (i64.wrap (s2+1))))) else some s1)
def m6 (N:Nat) (a:af):Option ((List ByteArray)):=
  fK N a N ([]:List ByteArray) 0
def eZ (N:Nat) (c:Int) (d:(List ByteArray)→Int→Option ((List ByteArray))) (a:fd):Nat→(List ByteArray)→Int→Option ((List ByteArray))
  | 0,_,_=>none
  | k+1,e,b=>
    (if decide (b < (a.Args.length:Int)) then ((idx a.Args b).bind fun f=>((jX N e ([f.L,f.R]:List cJ)).bind fun g=>((eZ N c d a k) g (i64.wrap (b+1))))) else (d e (i64.wrap (c+1))))
def dJ (N:Nat) (a:af):Nat→(List ByteArray)→Int→Option ((List ByteArray))
  | 0,_,_=>none
  | k+1,c,b=>
    (if decide (b < (a.Acts.length:Int)) then ((idx a.Acts b).bind fun d=>eZ N b (dJ N a k) d N c 0) else some c)
def gr (N:Nat) (a:af):Nat→(List ByteArray)→Int→Option ((List ByteArray))
  | 0,_,_=>none
  | k+1,s1,s2=>
    (if decide (s2 < (a.Conds.length:Int)) then ((idx a.Conds s2).bind fun b=>((jX N s1 ([b.L,b.R]:List cJ)).bind fun c=>((gr N a k) c (i64.wrap (s2+1))))) else dJ N a N s1 0)
def mI (N:Nat) (a:af):Option ((List ByteArray)):=
  gr N a N ([]:List ByteArray) 0
def fy (N:Nat) (c:(List ByteArray)) (a:(List ByteArray)):Nat→Int→Option (Bool)
  | 0,_=>none
  | k+1,b=>
    (if decide (b < (a.length:Int)) then ((idx a b).bind fun d=>((cL N c d).bind fun e=>(if !e then some false else ((fy N c a k) (i64.wrap (b+1)))))) else some true)
def fo (N:Nat) (a:af):Nat→Int→Option (Bool)
  | 0,_=>none
  | k+1,s2=>
    (if decide (s2 < (a.Acts.length:Int)) then ((idx a.Acts s2).bind fun b=>((rd N b).bind fun c=>((if !c then some true else ((if decide (b.Kind=2) then ((jq N a).bind fun d=>some (decide (d≤b.N))) else some false).bind fun e=>some e)).bind fun f=>(if f then some false else ((fo N a k) (i64.wrap (s2+1))))))) else ((m6 N a).bind fun g=>((mI N a).bind fun h=>fy N g h N 0)))
def fB (N:Nat) (a:af):Nat→Int→Option (Bool)
  | 0,_=>none
  | k+1,s1=>
    (if decide (s1 < (a.Conds.length:Int)) then ((idx a.Conds s1).bind fun b=>((oR N b).bind fun c=>(if !c then some false else ((fB N a k) (i64.wrap (s1+1)))))) else fo N a N 0)
def ph (N:Nat) (a:af):Option (Bool):=
  ((ia N a.Name).bind fun b=>((if !b then some true else ((dB N a.Sal (-100) 100).bind fun c=>some (!c))).bind fun d=>((if d then some true else ((pg N a).bind fun e=>some (!e))).bind fun f=>(if f then some false else ((if decide (6 < (a.Conds.length:Int)) then some true else ((dB N (a.Acts.length:Int) 1 6).bind fun g=>some (!g))).bind fun h=>(if h then some false else fB N a N 0))))))
def bl (N:Nat) (a:(List af)) (b:af→Option (Bool)):Nat→Int→Option (Int)
  | 0,_=>none
  | k+1,s1=>
    (if decide (s1 < (a.length:Int)) then ((idx a s1).bind fun c=>((b c).bind fun d=>(if d then some s1 else ((bl N a b k) (i64.wrap (s1+1)))))) else some (-1))
def dU (N:Nat) (a:(List af)) (b:af→Option (Bool)):Option (Int):=
  bl N a b N 0
def jC (N:Nat) (a:af) (b:ByteArray):Option (Bool):=
  some (seq a.Name b)
def po (N:Nat) (a:bv) (b:ByteArray):Option (Int):=
  ((dU N a.Rules (fun a0=>jC N a0 b)).bind fun c=>some c)
def gF (N:Nat) (a:bv):Nat→Int→Option (Bool)
  | 0,_=>none
  | k+1,s1=>
    (if decide (s1 < (a.Rules.length:Int)) then ((idx a.Rules s1).bind fun b=>((ph N b).bind fun c=>((if !c then some true else ((po N a b.Name).bind fun d=>some (!decide (d=s1)))).bind fun e=>(if e then some false else ((gF N a k) (i64.wrap (s1+1))))))) else some true)
def mX (N:Nat) (a:bv):Option (Bool):=
  ((ia N a.Name).bind fun b=>((if !b then some true else ((dB N (a.Rules.length:Int) 1 12).bind fun c=>some (!c))).bind fun d=>(if d then some false else gF N a N 0)))
def fF (N:Nat) (a:aI):Nat→Int→Option (Bool)
  | 0,_=>none
  | k+1,s1=>
    (if decide (s1 < (a.Fields.length:Int)) then ((idx a.Fields s1).bind fun b=>((oL N b).bind fun c=>(if !c then some false else ((fF N a k) (i64.wrap (s1+1)))))) else some true)
def mQ (N:Nat) (a:aI):Option (Bool):=
  ((ia N a.Kind).bind fun b=>((if !b then some true else some (decide (5 < (a.Fields.length:Int)))).bind fun c=>(if c then some false else fF N a N 0)))
def bD (N:Nat) (a:(List bN)) (b:(List bN)):Nat→Int→Option (Bool)
  | 0,_=>none
  | k+1,s1=>
    (if decide (s1 < (a.length:Int)) then ((idx a s1).bind fun c=>((idx b s1).bind fun d=>(if !(bQ c d) then some false else ((bD N a b k) (i64.wrap (s1+1)))))) else some true)
def cG (N:Nat) (a:(List bN)) (b:(List bN)):Option (Bool):=
  (if !decide ((a.length:Int)=(b.length:Int)) then some false else bD N a b N 0)
def kI (N:Nat) (a:aI) (b:aI):Option (Bool):=
  ((if seq a.Kind b.Kind then ((cG N a.Fields b.Fields).bind fun c=>some c) else some false).bind fun d=>some d)
def eG (N:Nat) (s1:Int) (b:Int→Option (Bool)) (c:ag) (a:(List ag)):Nat→Int→Option (Bool)
  | 0,_=>none
  | k+1,s2=>
    (if decide (s2 < (a.length:Int)) then ((idx a s2).bind fun d=>((kI N c.F d.F).bind fun e=>(if e then some false else ((eG N s1 b c a k) (i64.wrap (s2+1)))))) else (b (i64.wrap (s1+1))))
def dD (N:Nat) (a:ac):Nat→Int→Option (Bool)
  | 0,_=>none
  | k+1,s1=>
    (if decide (s1 < (a.Items.length:Int)) then ((idx a.Items s1).bind fun b=>((mQ N b.F).bind fun c=>((if !c then some true else ((dB N b.Id 1 (i64.wrap (a.Next - 1))).bind fun d=>some (!d))).bind fun e=>((if e then some true else ((if decide (0 < s1) then ((idx a.Items (i64.wrap (s1 - 1))).bind fun f=>some (decide (b.Id≤f.Id))) else some false).bind fun g=>some g)).bind fun h=>(if h then some false else ((ssl a.Items 0 s1).bind fun i=>eG N s1 (dD N a k) b i N 0)))))) else some true)
def jg (N:Nat) (a:ac):Option (Bool):=
  ((if decide (40 < (a.Items.length:Int)) then some true else ((dB N a.Next 1 1000000).bind fun b=>some (!b))).bind fun c=>(if c then some false else dD N a N 0))
def ez (N:Nat) (a:(List bN)):Option ((List bN)):=
  ((app ([]:List bN) a).bind fun b=>some b)
def gA (N:Nat) (a:aI):Option (aI):=
  ((ez N a.Fields).bind fun b=>some (⟨a.Kind,b⟩:aI))
def gN (N:Nat) (a:ac) (b:Int):Nat→Int→Option (aI × Bool)
  | 0,_=>none
  | k+1,s1=>
    (if decide (s1 < (a.Items.length:Int)) then ((idx a.Items s1).bind fun c=>(if decide (c.Id=b) then ((gA N c.F).bind fun d=>some (d,true)) else ((gN N a b k) (i64.wrap (s1+1))))) else some ((⟨(⟨#[]⟩:ByteArray),[]⟩:aI),false))
def kx (N:Nat) (a:ac) (b:Int):Option (aI × Bool):=
  gN N a b N 0
def iD (N:Nat) (a:av) (b:aI):Nat→Int→Option (Bool)
  | 0,_=>none
  | k+1,s1=>
    (if decide (s1 < (a.At.length:Int)) then ((idx a.At s1).bind fun c=>((if decide (c < 0) then some true else some (decide ((b.Fields.length:Int)≤c))).bind fun d=>((if d then some true else some (decide ((a.Consts.length:Int)≤s1))).bind fun e=>((if e then some true else ((idx b.Fields c).bind fun f=>((idx a.Consts s1).bind fun g=>some (!(bQ f g))))).bind fun h=>(if h then some false else ((iD N a b k) (i64.wrap (s1+1)))))))) else some true)
def pB (N:Nat) (a:av) (b:aI):Option (Bool):=
  ((if !seq b.Kind a.Kind then some true else some (!decide ((b.Fields.length:Int)=a.N))).bind fun c=>(if c then some false else iD N a b N 0))
def je (N:Nat) (a:af) (b:Bool):Nat→(List ay)→Int→Option ((List ay))
  | 0,_,_=>none
  | k+1,s1,s2=>
    (if decide (s2 < (a.Pats.length:Int)) then ((idx a.Pats s2).bind fun c=>(if (c.Not == b) then ((app s1 ([c]:List ay)).bind fun d=>((je N a b k) d (i64.wrap (s2+1)))) else ((je N a b k) s1 (i64.wrap (s2+1))))) else some s1)
def nW (N:Nat) (a:af) (b:Bool):Option ((List ay)):=
  je N a b N ([]:List ay) 0
def oD (N:Nat) (c:bv) (d:ce) (e:aN) (f:ac) (g:Int) (a:Int):Option (dl):=
  ((idx c.Rules a).bind fun b=>((idx d.Chains a).bind fun h=>((nW N b false).bind fun i=>((nW N b true).bind fun j=>some (⟨i,j,h,e.Alphas,f,g⟩:dl)))))
def bt (N:Nat) (a:(List au)):Option ((List au)):=
  ((app ([]:List au) a).bind fun b=>some b)
def iM (N:Nat) (a:(List au)) (b:ByteArray):Nat→Int→Option (bN × Bool)
  | 0,_=>none
  | k+1,s1=>
    (if decide (s1 < (a.length:Int)) then ((idx a s1).bind fun c=>(if seq c.Name b then some (c.V,true) else ((iM N a b k) (i64.wrap (s1+1))))) else some ((⟨0,0,(⟨#[]⟩:ByteArray)⟩:bN),false))
def nf (N:Nat) (a:(List au)) (b:ByteArray):Option (bN × Bool):=
  iM N a b N 0
def em (N:Nat) (a:ay) (c:aI) (b:(List au)):Nat→(List au)→Int→Option ((List au) × Bool)
  | 0,_,_=>none
  | k+1,s1,s2=>
    (if decide (s2 < (a.Args.length:Int)) then ((idx a.Args s2).bind fun d=>((idx c.Fields s2).bind fun e=>(if decide (d.K=2) then (if !(bQ d.V e) then ((bt N b).bind fun g=>some (g,false)) else ((em N a c b k) s1 (i64.wrap (s2+1)))) else (if decide (d.K=1) then ((nf N s1 d.S).bind fun f=>((if f.2 then some (!(bQ f.1 e)) else some false).bind fun h=>(if h then ((bt N b).bind fun i=>some (i,false)) else (if !f.2 then ((app s1 ([(⟨d.S,e⟩:au)]:List au)).bind fun j=>((em N a c b k) j (i64.wrap (s2+1)))) else ((em N a c b k) s1 (i64.wrap (s2+1))))))) else ((em N a c b k) s1 (i64.wrap (s2+1))))))) else some (s1,true))
def iy (N:Nat) (a:ay) (b:aI) (c:(List au)):Option ((List au) × Bool):=
  ((if !seq b.Kind a.Kind then some true else some (!decide ((b.Fields.length:Int)=(a.Args.length:Int)))).bind fun d=>(if d then ((bt N c).bind fun e=>some (e,false)) else ((bt N c).bind fun f=>em N a b c N f 0)))
def dX (N:Nat) (b:(List ay)) (c:ac) (a:(List Int)):Nat→(List au)→Int→Option ((List au) × Bool)
  | 0,_,_=>none
  | k+1,s1,s2=>
    (if decide (s2 < (a.length:Int)) then ((idx a s2).bind fun f=>((kx N c f).bind fun d=>(if !d.2 then some ([],false) else ((idx b s2).bind fun g=>((iy N g d.1 s1).bind fun e=>(if !e.2 then some ([],false) else ((dX N b c a k) e.1 (i64.wrap (s2+1))))))))) else some (s1,true))
def ik (N:Nat) (a:(List ay)) (b:ac) (c:(List Int)):Option ((List au) × Bool):=
  dX N a b c N ([]:List au) 0
def cP (N:Nat) (c:dl) (d:Int) (e:aI × Bool) (s1:(List ao)) (s2:Int) (f:(List ao)→Int→Option ((List ao))) (g:ao) (h:(List au) × Bool):Nat→(List Int)→Int→Option ((List ao))
  | 0,_,_=>none
  | k+1,b,a=>
    (if decide (a < (c.neg.length:Int)) then ((idx c.neg a).bind fun i=>((iy N i e.1 h.1).bind fun j=>(if j.2 then ((idx b a).bind fun l=>((idx b a).bind fun m=>((cP N c d e s1 s2 f g h k) (b.set a.toNat (i64.wrap (l+d))) (i64.wrap (a+1))))) else ((cP N c d e s1 s2 f g h k) b (i64.wrap (a+1)))))) else (f (s1.set s2.toNat (⟨g.Ids,b⟩:ao)) (i64.wrap (s2+1))))
def cp (N:Nat) (a:dl) (b:(List ao)) (c:Int) (d:aI × Bool):Nat→(List ao)→Int→Option ((List ao))
  | 0,_,_=>none
  | k+1,s1,s2=>
    (if decide (s2 < (b.length:Int)) then ((idx s1 s2).bind fun e=>((ik N a.pos a.s e.Ids).bind fun f=>(if !f.2 then ((cp N a b c d k) s1 (i64.wrap (s2+1))) else cP N a c d s1 s2 (cp N a b c d k) e f N e.Hits 0))) else some s1)
def gV (N:Nat) (a:dl) (b:(List ao)) (c:Int):Option ((List ao)):=
  ((kx N a.s a.id).bind fun d=>cp N a b c d N b 0)
def ev (N:Nat) (a:(List ao)):Option ((List ao)):=
  ((app ([]:List ao) a).bind fun b=>some b)
def eI (N:Nat) (a:(List ao)):Option ((List ao)):=
  ((app ([]:List ao) a).bind fun b=>some b)
def bh (N:Nat) (a:(List Int)):Option ((List Int)):=
  ((app ([]:List Int) a).bind fun b=>some b)
def fE (N:Nat) (b:ay) (a:ac) (c:(List au)):Nat→Int→Int→Option (Int)
  | 0,_,_=>none
  | k+1,s1,s2=>
    (if decide (s2 < (a.Items.length:Int)) then ((idx a.Items s2).bind fun d=>((iy N b d.F c).bind fun e=>(if e.2 then ((fE N b a c k) (i64.wrap (s1+1)) (i64.wrap (s2+1))) else ((fE N b a c k) s1 (i64.wrap (s2+1)))))) else some s1)
def nu (N:Nat) (a:ay) (b:ac) (c:(List au)):Option (Int):=
  fE N a b c N 0 0
def cV (N:Nat) (s1:(List ao)) (s2:Int) (a:(List ao)→Int→Option ((List ao))) (b:(List Int)) (c:(List Int)):Option ((List ao)):=
  ((app s1 ([(⟨b,c⟩:ao)]:List ao)).bind fun d=>(a d (i64.wrap (s2+1))))
def cU (N:Nat) (a:dl) (s1:(List ao)) (s2:Int) (c:(List ao)→Int→Option ((List ao))) (d:(List Int)) (e:(List au) × Bool):Nat→(List Int)→Int→Option ((List ao))
  | 0,_,_=>none
  | k+1,f,b=>
    (if decide (b < (a.neg.length:Int)) then ((idx a.neg b).bind fun g=>((nu N g a.s e.1).bind fun h=>((app f ([h]:List Int)).bind fun i=>((cU N a s1 s2 c d e k) i (i64.wrap (b+1)))))) else cV N s1 s2 c d f)
def bU (N:Nat) (a:dl) (c:(List Int)) (b:(List Int)):Nat→(List ao)→Int→Option ((List ao))
  | 0,_,_=>none
  | k+1,s1,s2=>
    (if decide (s2 < (b.length:Int)) then ((idx b s2).bind fun f=>((bh N c).bind fun g=>((app g ([f]:List Int)).bind fun d=>((ik N a.pos a.s d).bind fun e=>(if !e.2 then ((bU N a c b k) s1 (i64.wrap (s2+1))) else (if decide ((d.length:Int)=(a.pos.length:Int)) then cU N a s1 s2 (bU N a c b k) d e N ([]:List Int) 0 else cV N s1 s2 (bU N a c b k) d ([]:List Int))))))) else some s1)
def eM (N:Nat) (a:dl) (b:(List Int)) (c:(List Int)):Option ((List ao)):=
  bU N a b c N ([]:List ao) 0
def cN (N:Nat) (s1:(List aq)) (a:Int) (d:(List aq)→(List ao)→(List ao)→Int→Option ((List aq))) (b:(List ao)):Option ((List aq)):=
  ((idx s1 a).bind fun c=>((eI N c.Toks).bind fun e=>((app c.Toks b).bind fun f=>(d (s1.set a.toNat (⟨f⟩:aq)) e b (i64.wrap (a+1))))))
def dC (N:Nat) (a:dl) (s1:(List aq)) (b:(List ao)) (c:Int) (e:(List aq)→(List ao)→(List ao)→Int→Option ((List aq))):Nat→(List ao)→Int→Option ((List aq))
  | 0,_,_=>none
  | k+1,f,d=>
    (if decide (d < (b.length:Int)) then ((idx b d).bind fun g=>((idx a.chain.Pos c).bind fun h=>((idx a.alphas h).bind fun i=>((eM N a g.Ids i.L).bind fun j=>((app f j).bind fun l=>((dC N a s1 b c e k) l (i64.wrap (d+1)))))))) else cN N s1 c e f)
def dI (N:Nat) (a:dl) (s1:(List aq)) (s2:(List ao)) (c:(List ao)) (d:Int) (e:(List aq)→(List ao)→(List ao)→Int→Option ((List aq))):Nat→(List ao)→Int→Option ((List aq))
  | 0,_,_=>none
  | k+1,f,b=>
    (if decide (b < (s2.length:Int)) then ((idx s2 b).bind fun g=>((eM N a g.Ids ([a.id]:List Int)).bind fun h=>((app f h).bind fun i=>((dI N a s1 s2 c d e k) i (i64.wrap (b+1)))))) else dC N a s1 c d e N f 0)
def cn (N:Nat) (a:dl) (c:(List aq)):Nat→(List aq)→(List ao)→(List ao)→Int→Option ((List aq))
  | 0,_,_,_,_=>none
  | k+1,s1,s2,d,b=>
    (if decide (b < (c.length:Int)) then (if decide (b=0) then ((eM N a [] ([a.id]:List Int)).bind fun e=>cN N s1 b (cn N a c k) e) else dI N a s1 s2 d b (cn N a c k) N ([]:List ao) 0) else some s1)
def ig (N:Nat) (b:dl) (a:(List aq)):Option ((List aq)):=
  cn N b a N a ([]:List ao) ([]:List ao) 0
def eF (N:Nat) (d:bv) (e:ce) (f:aN) (g:ac) (h:Int) (s1:(List bF)):Nat→(List aP)→Int→Option ((List bF) × (List aP))
  | 0,_,_=>none
  | k+1,b,a=>
    (if decide (a < (f.Rules.length:Int)) then ((idx b a).bind fun c=>((oD N d e (⟨s1,b⟩:aN) g h a).bind fun i=>((idx c.Levels (i64.wrap ((c.Levels.length:Int) - 1))).bind fun j=>((gV N i j.Toks 1).bind fun l=>((ig N i (c.Levels.set (i64.wrap ((c.Levels.length:Int) - 1)).toNat (⟨l⟩:aq))).bind fun m=>((eF N d e f g h s1 k) (b.set a.toNat (⟨m⟩:aP)) (i64.wrap (a+1)))))))) else some (s1,b))
def eE (N:Nat) (d:bv) (a:ce) (b:aN) (e:ac) (c:Int) (f:aI × Bool):Nat→(List bF)→Int→Option ((List bF) × (List aP))
  | 0,_,_=>none
  | k+1,s1,s2=>
    (if decide (s2 < (a.Alphas.length:Int)) then ((idx a.Alphas s2).bind fun g=>((pB N g f.1).bind fun h=>(if h then ((idx s1 s2).bind fun i=>((app i.L ([c]:List Int)).bind fun j=>((eE N d a b e c f k) (s1.set s2.toNat (⟨j⟩:bF)) (i64.wrap (s2+1))))) else ((eE N d a b e c f k) s1 (i64.wrap (s2+1)))))) else eF N d a b e c s1 N b.Rules 0)
def m3 (N:Nat) (d:bv) (e:ce) (a:aN) (b:ac) (c:Int):Option ((List bF) × (List aP)):=
  ((kx N b c).bind fun f=>eE N d e a b c f N a.Alphas 0)
def cX (N:Nat) (a:(List Int)) (b:(List Int)):Nat→Int→Option (Bool)
  | 0,_=>none
  | k+1,s1=>
    (if decide (s1 < (a.length:Int)) then ((idx a s1).bind fun c=>((idx b s1).bind fun d=>(if !decide (c=d) then some false else ((cX N a b k) (i64.wrap (s1+1)))))) else some true)
def co (N:Nat) (a:(List Int)) (b:(List Int)):Option (Bool):=
  (if !decide ((a.length:Int)=(b.length:Int)) then some false else cX N a b N 0)
def eD (N:Nat) (a:av) (b:av):Option (Bool):=
  ((if seq a.Kind b.Kind then some (decide (a.N=b.N)) else some false).bind fun c=>((if c then ((cG N a.Consts b.Consts).bind fun d=>some d) else some false).bind fun e=>((if e then ((co N a.At b.At).bind fun f=>some f) else some false).bind fun g=>some g)))
def ga (N:Nat) (a:ay):Nat→(List bN)→(List Int)→Int→Option (av)
  | 0,_,_,_=>none
  | k+1,s1,s2,b=>
    (if decide (b < (a.Args.length:Int)) then ((idx a.Args b).bind fun c=>(if decide (c.K=2) then ((app s1 ([c.V]:List bN)).bind fun d=>((app s2 ([b]:List Int)).bind fun e=>((ga N a k) d e (i64.wrap (b+1))))) else ((ga N a k) s1 s2 (i64.wrap (b+1))))) else some (⟨a.Kind,(a.Args.length:Int),s1,s2⟩:av))
def nM (N:Nat) (a:ay):Option (av):=
  ga N a N ([]:List bN) ([]:List Int) 0
def du (N:Nat) (a:ce) (b:av):Nat→Int→Option (Int × ce)
  | 0,_=>none
  | k+1,s1=>
    (if decide (s1 < (a.Alphas.length:Int)) then ((idx a.Alphas s1).bind fun d=>((eD N d b).bind fun e=>(if e then some (s1,a) else ((du N a b k) (i64.wrap (s1+1)))))) else ((app a.Alphas ([b]:List av)).bind fun c=>some (i64.wrap ((c.length:Int) - 1),(⟨c,a.Chains⟩:ce))))
def jr (N:Nat) (a:ce) (b:ay):Option (Int × ce):=
  ((nM N b).bind fun c=>du N a c N 0)
def gD (N:Nat) (s2:(List aG)) (d:Int) (e:(List av)→(List aG)→Int→Option (ce)) (a:af):Nat→(List av)→(List Int)→(List Int)→Int→Option (ce)
  | 0,_,_,_,_=>none
  | k+1,h,f,g,b=>
    (if decide (b < (a.Pats.length:Int)) then ((idx a.Pats b).bind fun i=>((jr N (⟨h,s2⟩:ce) i).bind fun c=>(if i.Not then ((app f ([c.1]:List Int)).bind fun j=>((gD N s2 d e a k) c.2.Alphas j g (i64.wrap (b+1)))) else ((app g ([c.1]:List Int)).bind fun l=>((gD N s2 d e a k) c.2.Alphas f l (i64.wrap (b+1))))))) else ((app s2 ([(⟨g,f⟩:aG)]:List aG)).bind fun m=>(e h m (i64.wrap (d+1)))))
def fH (N:Nat) (a:bv):Nat→(List av)→(List aG)→Int→Option (ce)
  | 0,_,_,_=>none
  | k+1,s1,s2,b=>
    (if decide (b < (a.Rules.length:Int)) then ((idx a.Rules b).bind fun c=>gD N s2 b (fH N a k) c N s1 ([]:List Int) ([]:List Int) 0) else some (⟨s1,s2⟩:ce))
def oJ (N:Nat) (a:bv):Option (ce):=
  fH N a N ([]:List av) ([]:List aG) 0
def iG (N:Nat) (a:ce) (b:(List bF)):Nat→(List aP)→Int→Option (aN)
  | 0,_,_=>none
  | k+1,s1,s2=>
    (if decide (s2 < (a.Chains.length:Int)) then ((idx a.Chains s2).bind fun c=>((mk (⟨([]:List ao)⟩:aq) (c.Pos.length:Int)).bind fun d=>((app s1 ([(⟨d⟩:aP)]:List aP)).bind fun e=>((iG N a b k) e (i64.wrap (s2+1)))))) else some (⟨b,s1⟩:aN))
def pt (N:Nat) (a:ce):Option (aN):=
  ((mk (⟨([]:List Int)⟩:bF) (a.Alphas.length:Int)).bind fun b=>iG N a b N ([]:List aP) 0)
def iu (N:Nat) (c:bv) (a:ac) (d:ce):Nat→(List bF)→(List aP)→Int→Option (aN)
  | 0,_,_,_=>none
  | k+1,s1,s2,b=>
    (if decide (b < (a.Items.length:Int)) then ((idx a.Items b).bind fun f=>((ssl a.Items 0 (i64.wrap (b+1))).bind fun g=>((m3 N c d (⟨s1,s2⟩:aN) (⟨g,a.Next⟩:ac) f.Id).bind fun e=>((iu N c a d k) e.1 e.2 (i64.wrap (b+1)))))) else some (⟨s1,s2⟩:aN))
def tA (N:Nat) (a:bv) (d:ac):Option (aN):=
  ((oJ N a).bind fun b=>((pt N b).bind fun c=>iu N a d b N c.Alphas c.Rules 0))
def aL (N:Nat) (a:(List bF)) (b:(List bF)) (c:bF→bF→Option (Bool)):Nat→Int→Option (Bool)
  | 0,_=>none
  | k+1,s1=>
    (if decide (s1 < (a.length:Int)) then ((idx a s1).bind fun d=>((idx b s1).bind fun e=>((c d e).bind fun f=>(if !f then some false else ((aL N a b c k) (i64.wrap (s1+1))))))) else some true)
def bM (N:Nat) (a:(List bF)) (b:(List bF)) (c:bF→bF→Option (Bool)):Option (Bool):=
  (if !decide ((a.length:Int)=(b.length:Int)) then some false else aL N a b c N 0)
def i7 (N:Nat) (a:bF) (b:bF):Option (Bool):=
  ((co N a.L b.L).bind fun c=>some c)
def aM (N:Nat) (a:(List aP)) (b:(List aP)) (c:aP→aP→Option (Bool)):Nat→Int→Option (Bool)
  | 0,_=>none
  | k+1,s1=>
    (if decide (s1 < (a.length:Int)) then ((idx a s1).bind fun d=>((idx b s1).bind fun e=>((c d e).bind fun f=>(if !f then some false else ((aM N a b c k) (i64.wrap (s1+1))))))) else some true)
def bL (N:Nat) (a:(List aP)) (b:(List aP)) (c:aP→aP→Option (Bool)):Option (Bool):=
  (if !decide ((a.length:Int)=(b.length:Int)) then some false else aM N a b c N 0)
def aB (N:Nat) (a:(List aq)) (b:(List aq)) (c:aq→aq→Option (Bool)):Nat→Int→Option (Bool)
  | 0,_=>none
  | k+1,s1=>
    (if decide (s1 < (a.length:Int)) then ((idx a s1).bind fun d=>((idx b s1).bind fun e=>((c d e).bind fun f=>(if !f then some false else ((aB N a b c k) (i64.wrap (s1+1))))))) else some true)
def bK (N:Nat) (a:(List aq)) (b:(List aq)) (c:aq→aq→Option (Bool)):Option (Bool):=
  (if !decide ((a.length:Int)=(b.length:Int)) then some false else aB N a b c N 0)
noncomputable def eO (N:Nat) (a:(List ao)) (b:ao→ao→Option (Int)):Option ((List ao)):=
  Cu a b
def gn (N:Nat) (a:(List Int)):Nat→Int→Option (Int)
  | 0,_=>none
  | k+1,s1=>
    (if decide (s1 < (a.length:Int)) then ((idx a s1).bind fun b=>(if !decide (b=0) then some b else ((gn N a k) (i64.wrap (s1+1))))) else some 0)
def gE (N:Nat) (a:(List Int)):Option (Int):=
  gn N a N 0
def jw (N:Nat) (a:Int):Option (Bool):=
  some (!decide (a=a))
def dd (N:Nat) (a:Int) (b:Int):Option (Int):=
  ((jw N a).bind fun d=>((jw N b).bind fun c=>(if d then (if c then some 0 else some (-1)) else (if c then some 1 else (if decide (a < b) then some (-1) else (if decide (b < a) then some 1 else some 0))))))
def bR (N:Nat) (a:(List Int)) (b:(List Int)):Nat→Int→Option (Int)
  | 0,_=>none
  | k+1,s1=>
    (if decide (s1 < (a.length:Int)) then ((idx a s1).bind fun d=>(if decide ((b.length:Int)≤s1) then some 1 else ((idx b s1).bind fun e=>((dd N d e).bind fun c=>(if !decide (c=0) then some c else ((bR N a b k) (i64.wrap (s1+1)))))))) else (if decide ((a.length:Int) < (b.length:Int)) then some (-1) else some 0))
def d8 (N:Nat) (a:(List Int)) (b:(List Int)):Option (Int):=
  bR N a b N 0
def cY (N:Nat) (a:ao) (b:ao):Option (Int):=
  ((d8 N a.Ids b.Ids).bind fun c=>((d8 N a.Hits b.Hits).bind fun d=>((gE N ([c,d]:List Int)).bind fun e=>some e)))
def aK (N:Nat) (a:(List ao)) (b:(List ao)) (c:ao→ao→Option (Bool)):Nat→Int→Option (Bool)
  | 0,_=>none
  | k+1,s1=>
    (if decide (s1 < (a.length:Int)) then ((idx a s1).bind fun d=>((idx b s1).bind fun e=>((c d e).bind fun f=>(if !f then some false else ((aK N a b c k) (i64.wrap (s1+1))))))) else some true)
def cE (N:Nat) (a:(List ao)) (b:(List ao)) (c:ao→ao→Option (Bool)):Option (Bool):=
  (if !decide ((a.length:Int)=(b.length:Int)) then some false else aK N a b c N 0)
def lV (N:Nat) (a:ao) (b:ao):Option (Bool):=
  ((cY N a b).bind fun c=>some (decide (c=0)))
noncomputable def iA (N:Nat) (a:aq) (b:aq):Option (Bool):=
  (if !decide ((a.Toks.length:Int)=(b.Toks.length:Int)) then some false else ((ev N a.Toks).bind fun c=>((ev N b.Toks).bind fun d=>((eO N c (cY N)).bind fun e=>((eO N d (cY N)).bind fun f=>((cE N e f (lV N)).bind fun g=>some g))))))
noncomputable def fS (N:Nat) (a:aP) (b:aP):Option (Bool):=
  ((bK N a.Levels b.Levels (iA N)).bind fun c=>some c)
noncomputable def nS (N:Nat) (a:aN) (b:aN):Option (Bool):=
  ((bM N a.Alphas b.Alphas (i7 N)).bind fun c=>((if c then ((bL N a.Rules b.Rules (fS N)).bind fun d=>some d) else some false).bind fun e=>some e))
noncomputable def mF (N:Nat) (a:bv) (c:aN) (b:ac):Option (Bool):=
  ((mX N a).bind fun d=>(if d then ((jg N b).bind fun e=>(if e then ((tA N a b).bind fun f=>((nS N c f).bind fun g=>some g)) else some false)) else some false))
def aS (N:Nat) (a:(List a7)) (b:(List a7)) (c:a7→a7→Option (Bool)):Nat→Int→Option (Bool)
  | 0,_=>none
  | k+1,s1=>
    (if decide (s1 < (a.length:Int)) then ((idx a s1).bind fun d=>((idx b s1).bind fun e=>((c d e).bind fun f=>(if !f then some false else ((aS N a b c k) (i64.wrap (s1+1))))))) else some true)
def bg (N:Nat) (a:(List a7)) (b:(List a7)) (c:a7→a7→Option (Bool)):Option (Bool):=
  (if !decide ((a.length:Int)=(b.length:Int)) then some false else aS N a b c N 0)
def jK (N:Nat) (a:a7) (b:a7):Option (Bool):=
  ((if decide (a.Rule=b.Rule) then ((co N a.Ids b.Ids).bind fun c=>some c) else some false).bind fun d=>some d)
def cm (N:Nat) (a:(List au)) (b:(List au)):Nat→Int→Option (Bool)
  | 0,_=>none
  | k+1,s1=>
    (if decide (s1 < (a.length:Int)) then ((idx a s1).bind fun c=>((idx b s1).bind fun d=>(if !(tp c d) then some false else ((cm N a b k) (i64.wrap (s1+1)))))) else some true)
def dQ (N:Nat) (a:(List au)) (b:(List au)):Option (Bool):=
  (if !decide ((a.length:Int)=(b.length:Int)) then some false else cm N a b N 0)
def fN (N:Nat) (a:a7) (b:a7):Option (Bool):=
  ((jK N a b).bind fun c=>((if c then ((dQ N a.Binds b.Binds).bind fun d=>some d) else some false).bind fun e=>some e))
def nY (N:Nat) (a:(List a7)) (b:(List a7)):Option (Bool):=
  ((bg N a b (fN N)).bind fun c=>some c)
def mE (N:Nat) (d:af) (e:ac) (a:(List Int)):Option ((List au) × Bool):=
  ((nW N d false).bind fun b=>(if !decide ((a.length:Int)=(b.length:Int)) then some ([],false) else ((ik N b e a).bind fun c=>some (c.1,c.2))))
def gL (N:Nat) (a:ao):Nat→Int→Option (Bool)
  | 0,_=>none
  | k+1,s1=>
    (if decide (s1 < (a.Hits.length:Int)) then ((idx a.Hits s1).bind fun b=>(if !decide (b=0) then some false else ((gL N a k) (i64.wrap (s1+1))))) else some true)
def pj (N:Nat) (a:ao):Option (Bool):=
  gL N a N 0
def mZ (N:Nat) (a:cJ) (c:(List au)):Option (bN × Bool):=
  (if decide (a.K=2) then some (a.V,true) else (if decide (a.K=1) then ((nf N c a.S).bind fun b=>some (b.1,b.2)) else some ((⟨0,0,(⟨#[]⟩:ByteArray)⟩:bN),false)))
def hP (N:Nat) (a:ByteArray):Option (Bool):=
  some (!seq a a)
def fM (N:Nat) (a:ByteArray) (b:ByteArray):Option (Int):=
  ((hP N a).bind fun d=>((hP N b).bind fun c=>(if d then (if c then some 0 else some (-1)) else (if c then some 1 else (if slt a b then some (-1) else (if (!slt a b && !seq a b) then some 1 else some 0))))))
def lH (N:Nat) (a:bN) (b:bN):Option (Int):=
  ((dd N a.K b.K).bind fun c=>((dd N a.N b.N).bind fun d=>((fM N a.S b.S).bind fun e=>((gE N ([c,d,e]:List Int)).bind fun f=>some f))))
def nZ (N:Nat) (a:bN) (b:bN):Option (Bool):=
  ((lH N a b).bind fun c=>some (decide (c < 0)))
def qZ (N:Nat) (a:f9) (d:(List au)):Option (Bool):=
  ((mZ N a.L d).bind fun b=>((mZ N a.R d).bind fun c=>((if !b.2 then some true else some (!c.2)).bind fun e=>(if e then some false else (if decide (a.Op=1) then some (bQ b.1 c.1) else (if decide (a.Op=2) then some (!(bQ b.1 c.1)) else (if decide (a.Op=3) then ((nZ N b.1 c.1).bind fun f=>some f) else some false)))))))
def fQ (N:Nat) (a:(List f9)) (b:(List au)):Nat→Int→Option (Bool)
  | 0,_=>none
  | k+1,s1=>
    (if decide (s1 < (a.length:Int)) then ((idx a s1).bind fun c=>((qZ N c b).bind fun d=>(if !d then some false else ((fQ N a b k) (i64.wrap (s1+1)))))) else some true)
def lS (N:Nat) (a:(List f9)) (b:(List au)):Option (Bool):=
  fQ N a b N 0
def bE (N:Nat) (c:Int) (d:a7→a7→Option (Int)) (s2:Int) (e:(List a7)→Int→Option ((List a7))):Nat→(List a7)→Int→Option ((List a7))
  | 0,_,_=>none
  | k+1,b,a=>
    ((if decide (c < a) then ((idx b a).bind fun g=>((idx b (i64.wrap (a - 1))).bind fun h=>((d g h).bind fun i=>some (decide (i < 0))))) else some false).bind fun j=>(if j then ((idx b (i64.wrap (a - 1))).bind fun f=>((idx b a).bind fun l=>((idx b a).bind fun m=>((idx (b.set a.toNat f) (i64.wrap (a - 1))).bind fun n=>((bE N c d s2 e k) ((b.set a.toNat f).set (i64.wrap (a - 1)).toNat l) (i64.wrap (a - 1))))))) else (e b (i64.wrap (s2+1)))))
def bk (N:Nat) (a:Int) (b:Int) (c:a7→a7→Option (Int)):Nat→(List a7)→Int→Option ((List a7))
  | 0,_,_=>none
  | k+1,s1,s2=>
    (if decide (s2 < b) then bE N a c s2 (bk N a b c k) N s1 s2 else some s1)
def bT (N:Nat) (b:(List a7)) (a:Int) (c:Int) (d:a7→a7→Option (Int)):Option ((List a7)):=
  bk N a c d N b (i64.wrap (a+1))
def bB (N:Nat) (a:Int) (b:Int) (c:Int):Nat→(List a7)→Int→Option ((List a7))
  | 0,_,_=>none
  | k+1,s1,s2=>
    (if decide (s2 < c) then ((idx s1 (i64.wrap (b+s2))).bind fun d=>((idx s1 (i64.wrap (a+s2))).bind fun e=>((idx s1 (i64.wrap (a+s2))).bind fun f=>((idx (s1.set (i64.wrap (a+s2)).toNat d) (i64.wrap (b+s2))).bind fun g=>((bB N a b c k) ((s1.set (i64.wrap (a+s2)).toNat d).set (i64.wrap (b+s2)).toNat e) (i64.wrap (s2+1))))))) else some s1)
def bV (N:Nat) (a:(List a7)) (b:Int) (c:Int) (d:Int) (e:a7→a7→Option (Int)):Option ((List a7)):=
  bB N b c d N a 0
def bm (N:Nat) (a:Int) (c:a7→a7→Option (Int)):Nat→(List a7)→Int→Int→Option ((List a7))
  | 0,_,_,_=>none
  | k+1,s1,s2,b=>
    (if !decide (s2=b) then (if decide (b < s2) then ((bV N s1 (i64.wrap (a - s2)) a b c).bind fun d=>((bm N a c k) d (i64.wrap (s2 - b)) b)) else ((bV N s1 (i64.wrap (a - s2)) (i64.wrap ((i64.wrap (a+b)) - s2)) s2 c).bind fun e=>((bm N a c k) e s2 (i64.wrap (b - s2))))) else ((bV N s1 (i64.wrap (a - s2)) a s2 c).bind fun f=>some f))
def dt (N:Nat) (b:(List a7)) (c:Int) (a:Int) (d:Int) (e:a7→a7→Option (Int)):Option ((List a7)):=
  bm N a e N b (i64.wrap (a - c)) (i64.wrap (d - a))
def cu (N:Nat) (s1:Int):Nat→(List a7)→Int→Option ((List a7))
  | 0,_,_=>none
  | k+1,b,a=>
    (if decide (a < i64.wrap (s1 - 1)) then ((idx b (i64.wrap (a+1))).bind fun c=>((idx b a).bind fun d=>((idx b a).bind fun e=>((idx (b.set a.toNat c) (i64.wrap (a+1))).bind fun f=>((cu N s1 k) ((b.set a.toNat c).set (i64.wrap (a+1)).toNat d) (i64.wrap (a+1))))))) else some b)
def bo (N:Nat) (a:(List a7)) (b:Int) (c:a7→a7→Option (Int)):Nat→Int→Int→Option ((List a7))
  | 0,_,_=>none
  | k+1,s1,s2=>
    (if decide (s1 < s2) then ((idx a (i64.wrap (fc .u64 (IntKind.u64.wrap (i64.wrap (s1+s2))) 1))).bind fun d=>((idx a b).bind fun e=>((c d e).bind fun f=>(if decide (f < 0) then ((bo N a b c k) (i64.wrap ((i64.wrap (fc .u64 (IntKind.u64.wrap (i64.wrap (s1+s2))) 1))+1)) s2) else ((bo N a b c k) s1 (i64.wrap (fc .u64 (IntKind.u64.wrap (i64.wrap (s1+s2))) 1))))))) else cu N s1 N a b)
def cw (N:Nat) (c:Int):Nat→(List a7)→Int→Option ((List a7))
  | 0,_,_=>none
  | k+1,b,a=>
    (if decide (c < a) then ((idx b (i64.wrap (a - 1))).bind fun d=>((idx b a).bind fun e=>((idx b a).bind fun f=>((idx (b.set a.toNat d) (i64.wrap (a - 1))).bind fun g=>((cw N c k) ((b.set a.toNat d).set (i64.wrap (a - 1)).toNat e) (i64.wrap (a - 1))))))) else some b)
def bp (N:Nat) (b:(List a7)) (d:Int) (e:a7→a7→Option (Int)):Nat→Int→Int→Option ((List a7))
  | 0,_,_=>none
  | k+1,a,c=>
    (if decide (a < c) then ((idx b d).bind fun f=>((idx b (i64.wrap (fc .u64 (IntKind.u64.wrap (i64.wrap (a+c))) 1))).bind fun g=>((e f g).bind fun h=>(if !(decide (h < 0)) then ((bp N b d e k) (i64.wrap ((i64.wrap (fc .u64 (IntKind.u64.wrap (i64.wrap (a+c))) 1))+1)) c) else ((bp N b d e k) a (i64.wrap (fc .u64 (IntKind.u64.wrap (i64.wrap (a+c))) 1))))))) else cw N a N b d)
def ct (N:Nat) (b:Int) (c:Int) (a:Int) (f:a7→a7→Option (Int)) (g:(List a7)→Int→Int→Int→(a7→a7→Option (Int))→Option ((List a7))) (d:Int) (e:(List a7)):Option ((List a7)):=
  ((if decide ((i64.wrap (fc .u64 (IntKind.u64.wrap (i64.wrap (b+a))) 1)) < i64.wrap ((i64.wrap ((i64.wrap (fc .u64 (IntKind.u64.wrap (i64.wrap (b+a))) 1))+c)) - d)) then some (decide (i64.wrap ((i64.wrap ((i64.wrap (fc .u64 (IntKind.u64.wrap (i64.wrap (b+a))) 1))+c)) - d) < a)) else some false).bind fun h=>(if h then ((g e (i64.wrap (fc .u64 (IntKind.u64.wrap (i64.wrap (b+a))) 1)) (i64.wrap ((i64.wrap ((i64.wrap (fc .u64 (IntKind.u64.wrap (i64.wrap (b+a))) 1))+c)) - d)) a f).bind fun i=>some i) else some e))
def cz (N:Nat) (a:Int) (f:Int) (c:Int) (d:a7→a7→Option (Int)) (e:(List a7)→Int→Int→Int→(a7→a7→Option (Int))→Option ((List a7))) (b:Int) (g:(List a7)):Option ((List a7)):=
  ((if decide (a < b) then some (decide (b < (i64.wrap (fc .u64 (IntKind.u64.wrap (i64.wrap (a+c))) 1)))) else some false).bind fun h=>(if h then ((e g a b (i64.wrap (fc .u64 (IntKind.u64.wrap (i64.wrap (a+c))) 1)) d).bind fun i=>ct N a f c d e b i) else ct N a f c d e b g))
def bq (N:Nat) (e:(List a7)) (c:Int) (b:Int) (d:Int) (f:a7→a7→Option (Int)) (h:(List a7)→Int→Int→Int→(a7→a7→Option (Int))→Option ((List a7))):Nat→Int→Int→Option ((List a7))
  | 0,_,_=>none
  | k+1,a,g=>
    (if decide (a < g) then ((idx e (i64.wrap ((i64.wrap ((i64.wrap ((i64.wrap (fc .u64 (IntKind.u64.wrap (i64.wrap (c+d))) 1))+b)) - 1)) - (i64.wrap (fc .u64 (IntKind.u64.wrap (i64.wrap (a+g))) 1))))).bind fun i=>((idx e (i64.wrap (fc .u64 (IntKind.u64.wrap (i64.wrap (a+g))) 1))).bind fun j=>((f i j).bind fun l=>(if !(decide (l < 0)) then ((bq N e c b d f h k) (i64.wrap ((i64.wrap (fc .u64 (IntKind.u64.wrap (i64.wrap (a+g))) 1))+1)) g) else ((bq N e c b d f h k) a (i64.wrap (fc .u64 (IntKind.u64.wrap (i64.wrap (a+g))) 1))))))) else ((if decide (a < b) then some (decide (b < i64.wrap ((i64.wrap ((i64.wrap (fc .u64 (IntKind.u64.wrap (i64.wrap (c+d))) 1))+b)) - a))) else some false).bind fun m=>(if m then ((dt N e a b (i64.wrap ((i64.wrap ((i64.wrap (fc .u64 (IntKind.u64.wrap (i64.wrap (c+d))) 1))+b)) - a)) f).bind fun n=>cz N c b d f h a n) else cz N c b d f h a e)))
def bI (N:Nat) (a:(List a7)) (b:Int) (c:Int) (d:Int) (e:a7→a7→Option (Int)) (f:(List a7)→Int→Int→Int→(a7→a7→Option (Int))→Option ((List a7))) (g:Int) (h:Int):Option ((List a7)):=
  bq N a b c d e f N g h
def aA:Nat→(List a7)→Int→Int→Int→(a7→a7→Option (Int))→Option ((List a7))
  | 0,_,_,_,_,_=>none
  | N+1,d,b,a,c,e=>
    (if decide (i64.wrap (a - b)=1) then bo N d b e N a c else (if decide (i64.wrap (c - a)=1) then bp N d a e N b a else (if decide ((i64.wrap (fc .u64 (IntKind.u64.wrap (i64.wrap (b+c))) 1)) < a) then bI N d b a c e (aA N) (i64.wrap ((i64.wrap ((i64.wrap (fc .u64 (IntKind.u64.wrap (i64.wrap (b+c))) 1))+a)) - c)) (i64.wrap (fc .u64 (IntKind.u64.wrap (i64.wrap (b+c))) 1)) else bI N d b a c e (aA N) b a)))
def cF (N:Nat) (c:Int) (e:a7→a7→Option (Int)) (a:Int) (f:(List a7)→Int→Option ((List a7))):Nat→(List a7)→Int→Int→Option ((List a7))
  | 0,_,_,_=>none
  | k+1,g,b,d=>
    (if decide (d≤c) then ((aA N g b (i64.wrap (b+a)) d e).bind fun h=>((cF N c e a f k) h d (i64.wrap (d+(i64.wrap (2*a)))))) else (if decide (i64.wrap (b+a) < c) then ((aA N g b (i64.wrap (b+a)) c e).bind fun i=>(f i (i64.wrap (a*2)))) else (f g (i64.wrap (a*2)))))
def bn (N:Nat) (a:Int) (c:a7→a7→Option (Int)):Nat→(List a7)→Int→Option ((List a7))
  | 0,_,_=>none
  | k+1,d,b=>
    (if decide (b < a) then cF N a c b (bn N a c k) N d 0 (i64.wrap (2*b)) else some d)
def bW (N:Nat) (a:Int) (b:a7→a7→Option (Int)):Nat→(List a7)→Int→Int→Option ((List a7))
  | 0,_,_,_=>none
  | k+1,s1,s2,c=>
    (if decide (c≤a) then ((bT N s1 s2 c b).bind fun d=>((bW N a b k) d c (i64.wrap (c+20)))) else ((bT N s1 s2 a b).bind fun e=>bn N a b N e 20))
def eR (N:Nat) (a:(List a7)) (b:Int) (c:a7→a7→Option (Int)):Option ((List a7)):=
  bW N b c N a 0 20
def cr (N:Nat) (a:(List a7)) (b:a7→a7→Option (Int)):Option ((List a7)):=
  ((eR N a (a.length:Int) b).bind fun c=>some c)
def ep (N:Nat) (a:a7) (b:a7):Option (Int):=
  ((dd N a.Rule b.Rule).bind fun d=>((dd N (a.Ids.length:Int) (b.Ids.length:Int)).bind fun e=>((gE N ([d,e]:List Int)).bind fun c=>(if decide (c=0) then ((d8 N a.Ids b.Ids).bind fun f=>some f) else some c))))
def fA (N:Nat) (d:ac) (s1:(List a7)) (s2:Int) (e:(List a7)→Int→Option ((List a7))) (a:af) (b:aq):Nat→(List a7)→Int→Option ((List a7))
  | 0,_,_=>none
  | k+1,f,c=>
    (if decide (c < (b.Toks.length:Int)) then ((idx b.Toks c).bind fun g=>((mE N a d g.Ids).bind fun h=>((if h.2 then ((pj N g).bind fun i=>some i) else some false).bind fun j=>((if j then ((lS N a.Conds h.1).bind fun l=>some l) else some false).bind fun m=>(if m then ((bh N g.Ids).bind fun n=>((app f ([(⟨s2,n,h.1⟩:a7)]:List a7)).bind fun o=>((fA N d s1 s2 e a b k) o (i64.wrap (c+1))))) else ((fA N d s1 s2 e a b k) f (i64.wrap (c+1)))))))) else ((cr N f (ep N)).bind fun p=>((app s1 p).bind fun q=>(e q (i64.wrap (s2+1))))))
def io (N:Nat) (b:bv) (a:aN) (c:ac):Nat→(List a7)→Int→Option ((List a7))
  | 0,_,_=>none
  | k+1,s1,s2=>
    (if decide (s2 < (b.Rules.length:Int)) then ((idx b.Rules s2).bind fun e=>((if decide ((a.Rules.length:Int)≤s2) then some true else ((idx a.Rules s2).bind fun f=>some (decide ((f.Levels.length:Int)=0)))).bind fun g=>(if g then ((io N b a c k) s1 (i64.wrap (s2+1))) else ((idx a.Rules s2).bind fun d=>((idx d.Levels (i64.wrap ((d.Levels.length:Int) - 1))).bind fun h=>fA N c s1 s2 (io N b a c k) e h N ([]:List a7) 0))))) else some s1)
def n9 (N:Nat) (a:bv) (b:aN) (c:ac):Option ((List a7)):=
  io N a b c N ([]:List a7) 0
def fL (N:Nat) (a:af) (b:ac) (c:(List au)):Nat→Int→Option (Bool)
  | 0,_=>none
  | k+1,s1=>
    (if decide (s1 < (a.Pats.length:Int)) then ((idx a.Pats s1).bind fun d=>((if d.Not then ((nu N d b c).bind fun e=>some (decide (0 < e))) else some false).bind fun f=>(if f then some true else ((fL N a b c k) (i64.wrap (s1+1)))))) else some false)
def o1 (N:Nat) (a:af) (b:ac) (c:(List au)):Option (Bool):=
  fL N a b c N 0
def mH (N:Nat) (s2:Int) (a:(List a7)→Int→Option ((List a7))) (b:(List a7)):Option ((List a7)):=
  (a b (i64.wrap (s2+1)))
def eP (N:Nat) (c:af) (a:ac) (b:(List Int)) (d:(List au)) (e:(List a7)→af→ac→(List Int)→(List au)→Option ((List a7))) (f:(List ay)):Nat→(List a7)→Int→Option ((List a7))
  | 0,_,_=>none
  | k+1,s1,s2=>
    (if decide (s2 < (a.Items.length:Int)) then ((idx a.Items s2).bind fun g=>((idx f (b.length:Int)).bind fun i=>((iy N i g.F d).bind fun h=>(if h.2 then ((bh N b).bind fun j=>((app j ([g.Id]:List Int)).bind fun l=>((e s1 c a l h.1).bind fun m=>mH N s2 (eP N c a b d e f k) m))) else ((eP N c a b d e f k) s1 (i64.wrap (s2+1))))))) else some s1)
def fX:Nat→(List a7)→af→ac→(List Int)→(List au)→Option ((List a7))
  | 0,_,_,_,_,_=>none
  | N+1,c,a,e,d,b=>
    ((nW N a false).bind fun f=>(if decide ((d.length:Int)=(f.length:Int)) then ((o1 N a e b).bind fun g=>((if !g then ((lS N a.Conds b).bind fun h=>some h) else some false).bind fun i=>(if i then ((bh N d).bind fun j=>((bt N b).bind fun k=>((app c ([(⟨0,j,k⟩:a7)]:List a7)).bind fun l=>some l))) else some c))) else eP N a e d b (fX N) f N c 0))
def lC (N:Nat) (a:af) (b:ac):Option ((List a7)):=
  ((fX N ([]:List a7) a b [] []).bind fun c=>some c)
def jj (N:Nat) (s2:Int) (c:(List a7)→Int→Option ((List a7))) (a:(List a7)):Nat→(List a7)→Int→Option ((List a7))
  | 0,_,_=>none
  | k+1,d,b=>
    (if decide (b < (a.length:Int)) then ((idx a b).bind fun e=>((app d ([(⟨s2,e.Ids,e.Binds⟩:a7)]:List a7)).bind fun f=>((jj N s2 c a k) f (i64.wrap (b+1))))) else (c d (i64.wrap (s2+1))))
def gC (N:Nat) (a:bv) (b:ac):Nat→(List a7)→Int→Option ((List a7))
  | 0,_,_=>none
  | k+1,s1,s2=>
    (if decide (s2 < (a.Rules.length:Int)) then ((idx a.Rules s2).bind fun c=>((lC N c b).bind fun d=>jj N s2 (gC N a b k) d N s1 0)) else some s1)
def rc (N:Nat) (a:bv) (b:ac):Option ((List a7)):=
  gC N a b N ([]:List a7) 0
def jT (N:Nat) (a:bv) (b:ac):Option ((List a7)):=
  ((mX N a).bind fun c=>((if !c then some true else ((jg N b).bind fun d=>some (!d))).bind fun e=>(if e then some [] else ((rc N a b).bind fun f=>some f))))
def jm (N:Nat) (a:(List Int)):Nat→Int→Int→Option (ab)
  | 0,_,_=>none
  | k+1,s1,s2=>
    ((if decide (s2 < (a.length:Int)) then some (decide (s2 < 4000)) else some false).bind fun b=>(if b then ((idx a s2).bind fun c=>((jm N a k) (xW .i64 (i64.wrap ((i64.wrap ((i64.wrap (s1*137))+(i64.wrap c)))+11)) 1073741823) (i64.wrap (s2+1)))) else some (⟨a,0,s1⟩:ab)))
def oN (N:Nat) (a:(List Int)):Option (ab):=
  jm N a N (i64.wrap (354354+(a.length:Int))) 0
def kC (N:Nat) (a:ab):Option (Int × ab):=
  (if decide (a.i < (a.b.length:Int)) then ((idx a.b a.i).bind fun b=>some ((xW .i64 (i64.wrap ((xW .i64 (Jk .i64 (fc .i64 (i64.wrap ((i64.wrap (a.h*6364136223846793005))+1442695040888963407)) 33) (fc .i64 (i64.wrap ((i64.wrap (a.h*6364136223846793005))+1442695040888963407)) 47)) 255)+(i64.wrap b))) 255),(⟨a.b,i64.wrap (a.i+1),i64.wrap ((i64.wrap (a.h*6364136223846793005))+1442695040888963407)⟩:ab))) else some ((xW .i64 (Jk .i64 (fc .i64 (i64.wrap ((i64.wrap (a.h*6364136223846793005))+1442695040888963407)) 33) (fc .i64 (i64.wrap ((i64.wrap (a.h*6364136223846793005))+1442695040888963407)) 47)) 255),(⟨a.b,a.i,i64.wrap ((i64.wrap (a.h*6364136223846793005))+1442695040888963407)⟩:ab)))
def cA (N:Nat) (a:ab) (b:Int):Option (Int × ab):=
  (if decide (b≤0) then some (0,a) else (if decide (b≤256) then ((kC N a).bind fun c=>((FJ c.1 b).bind fun g=>some (g,(⟨a.b,c.2.i,c.2.h⟩:ab)))) else ((kC N a).bind fun d=>((kC N (⟨a.b,d.2.i,d.2.h⟩:ab)).bind fun e=>((kC N (⟨a.b,e.2.i,e.2.h⟩:ab)).bind fun f=>((FJ (i64.wrap ((i64.wrap ((i64.wrap (d.1*65536))+(i64.wrap (e.1*256))))+f.1)) b).bind fun h=>some (h,(⟨a.b,f.2.i,f.2.h⟩:ab))))))))
def gT (N:Nat) (b:ab) (c:(List ByteArray)):Option (ByteArray × ab):=
  ((cA N b (c.length:Int)).bind fun a=>((idx c a.1).bind fun d=>some (d,(⟨b.b,a.2.i,a.2.h⟩:ab))))
def ff (N:Nat) (b:ab) (c:Int):Option (Bool × ab):=
  ((cA N b c).bind fun a=>some (decide (a.1=0),(⟨b.b,a.2.i,a.2.h⟩:ab)))
def nq (N:Nat) (b:ab) (c:(List Int)):Option (Int × ab):=
  ((cA N b (c.length:Int)).bind fun a=>((idx c a.1).bind fun d=>some (d,(⟨b.b,a.2.i,a.2.h⟩:ab))))
def jl (N:Nat) (a:(List ByteArray)) (b:ByteArray):Nat→Int→Option (Bool)
  | 0,_=>none
  | k+1,s1=>
    (if decide (s1 < (a.length:Int)) then ((idx a s1).bind fun c=>(if seq c b then some true else ((jl N a b k) (i64.wrap (s1+1))))) else some false)
def mW (N:Nat) (a:(List ByteArray)) (b:ByteArray):Option (Bool):=
  jl N a b N 0
def gG (N:Nat) (a:ay):Nat→(List ByteArray)→Int→Option ((List ByteArray))
  | 0,_,_=>none
  | k+1,s1,s2=>
    (if decide (s2 < (a.Args.length:Int)) then ((idx a.Args s2).bind fun b=>((if decide (b.K=1) then ((idx a.Args s2).bind fun c=>((mW N s1 c.S).bind fun d=>some (!d))) else some false).bind fun e=>(if e then ((idx a.Args s2).bind fun f=>((app s1 ([f.S]:List ByteArray)).bind fun g=>((gG N a k) g (i64.wrap (s2+1))))) else ((gG N a k) s1 (i64.wrap (s2+1)))))) else some s1)
def oU (N:Nat) (a:ay):Option ((List ByteArray)):=
  gG N a N ([]:List ByteArray) 0
def dy (N:Nat) (d:af) (s2:Int) (e:(List ByteArray)→Int→Option ((List ByteArray))) (a:(List ByteArray)):Nat→(List ByteArray)→Int→Option ((List ByteArray))
  | 0,_,_=>none
  | k+1,c,b=>
    ((if decide (b < (a.length:Int)) then ((idx d.Pats s2).bind fun f=>some (!f.Not)) else some false).bind fun g=>(if g then ((idx a b).bind fun h=>((mW N c h).bind fun i=>(if !i then ((idx a b).bind fun j=>((app c ([j]:List ByteArray)).bind fun l=>((dy N d s2 e a k) l (i64.wrap (b+1))))) else ((dy N d s2 e a k) c (i64.wrap (b+1)))))) else (e c (i64.wrap (s2+1)))))
def dH (N:Nat) (a:af):Nat→(List ByteArray)→Int→Option ((List ByteArray))
  | 0,_,_=>none
  | k+1,s1,s2=>
    (if decide (s2 < (a.Pats.length:Int)) then ((idx a.Pats s2).bind fun b=>((oU N b).bind fun c=>dy N a s2 (dH N a k) c N s1 0)) else some s1)
def m4 (N:Nat) (a:af):Option ((List ByteArray)):=
  dH N a N ([]:List ByteArray) 0
def ek (N:Nat) (a:af):Nat→Int→Int→Option (Int)
  | 0,_,_=>none
  | k+1,s1,s2=>
    (if decide (s2 < (a.Pats.length:Int)) then ((idx a.Pats s2).bind fun b=>(if !b.Not then ((ek N a k) (i64.wrap (s1+1)) (i64.wrap (s2+1))) else ((ek N a k) s1 (i64.wrap (s2+1))))) else some s1)
def kE (N:Nat) (a:af):Option (Int):=
  ek N a N 0 0
def kD (N:Nat) (a:ab):Option (bN × ab):=
  ((ff N a 2).bind fun b=>(if b.1 then ((cA N (⟨a.b,b.2.i,b.2.h⟩:ab) 3).bind fun c=>some ((⟨1,i64.wrap (1+c.1),(⟨#[]⟩:ByteArray)⟩:bN),(⟨a.b,c.2.i,c.2.h⟩:ab))) else ((gT N (⟨a.b,b.2.i,b.2.h⟩:ab) ([(⟨#[97]⟩:ByteArray),(⟨#[98]⟩:ByteArray)]:List ByteArray)).bind fun d=>some ((⟨2,0,d.1⟩:bN),(⟨a.b,d.2.i,d.2.h⟩:ab)))))
def rh (N:Nat) (a:bN):Option (cJ):=
  some (⟨2,(⟨#[]⟩:ByteArray),a⟩:cJ)
def qQ (N:Nat) (a:ByteArray):Option (cJ):=
  some (⟨1,a,(⟨0,0,(⟨#[]⟩:ByteArray)⟩:bN)⟩:cJ)
def qT (N:Nat) (b:ab):Option (cJ × ab):=
  ((cA N b 6).bind fun a=>(if decide (a.1=0) then some ((⟨3,(⟨#[]⟩:ByteArray),(⟨0,0,(⟨#[]⟩:ByteArray)⟩:bN)⟩:cJ),(⟨b.b,a.2.i,a.2.h⟩:ab)) else (if decide (a.1=1) then ((kD N (⟨b.b,a.2.i,a.2.h⟩:ab)).bind fun c=>((rh N c.1).bind fun e=>some (e,(⟨b.b,c.2.i,c.2.h⟩:ab)))) else ((gT N (⟨b.b,a.2.i,a.2.h⟩:ab) ([(⟨#[88]⟩:ByteArray),(⟨#[89]⟩:ByteArray),(⟨#[90]⟩:ByteArray),(⟨#[88]⟩:ByteArray)]:List ByteArray)).bind fun d=>((qQ N d.1).bind fun f=>some (f,(⟨b.b,d.2.i,d.2.h⟩:ab)))))))
def jG (N:Nat) (a:ab) (c:Bool) (d:ByteArray × ab) (s1:Int):Nat→(List cJ)→Int→Int→Int→Option (ay × ab)
  | 0,_,_,_,_=>none
  | k+1,s2,e,f,g=>
    (if decide (e < s1) then ((qT N (⟨a.b,f,g⟩:ab)).bind fun b=>((app s2 ([b.1]:List cJ)).bind fun h=>((jG N a c d s1 k) h (i64.wrap (e+1)) b.2.i b.2.h))) else some ((⟨d.1,s2,c⟩:ay),(⟨a.b,f,g⟩:ab)))
def l8 (N:Nat) (b:ab) (c:Bool) (a:ByteArray × ab) (s1:Int):Option (ay × ab):=
  jG N b c a s1 N ([]:List cJ) 0 a.2.i a.2.h
def mY (N:Nat) (a:ab) (c:Bool):Option (ay × ab):=
  ((gT N a ([(⟨#[111,114,100,101,114]⟩:ByteArray),(⟨#[112,97,105,100]⟩:ByteArray),(⟨#[105,116,101,109]⟩:ByteArray),(⟨#[111,114,100,101,114]⟩:ByteArray)]:List ByteArray)).bind fun b=>(if seq b.1 (⟨#[105,116,101,109]⟩:ByteArray) then l8 N a c b 2 else l8 N a c b 1))
def m5 (N:Nat) (a:ab):Option (cJ × ab):=
  ((ff N a 3).bind fun b=>(if b.1 then ((kD N (⟨a.b,b.2.i,b.2.h⟩:ab)).bind fun c=>((rh N c.1).bind fun e=>some (e,(⟨a.b,c.2.i,c.2.h⟩:ab)))) else ((gT N (⟨a.b,b.2.i,b.2.h⟩:ab) ([(⟨#[88]⟩:ByteArray),(⟨#[89]⟩:ByteArray)]:List ByteArray)).bind fun d=>((qQ N d.1).bind fun f=>some (f,(⟨a.b,d.2.i,d.2.h⟩:ab))))))
def pS (N:Nat) (a:ab):Option (f9 × ab):=
  ((cA N a 3).bind fun b=>((m5 N (⟨a.b,b.2.i,b.2.h⟩:ab)).bind fun c=>((m5 N (⟨a.b,c.2.i,c.2.h⟩:ab)).bind fun d=>some ((⟨i64.wrap (1+b.1),c.1,d.1⟩:f9),(⟨a.b,d.2.i,d.2.h⟩:ab)))))
def nP (N:Nat) (a:cJ) (b:(List ByteArray)):Option (Bool):=
  ((if !decide (a.K=1) then some true else ((mW N b a.S).bind fun c=>some c)).bind fun d=>some d)
def m7 (N:Nat) (b:cJ) (a:(List ByteArray)):Option (cJ):=
  ((nP N b a).bind fun c=>(if c then some b else (if decide ((a.length:Int)=0) then ((rh N (⟨1,1,(⟨#[]⟩:ByteArray)⟩:bN)).bind fun d=>some d) else ((idx a 0).bind fun e=>((qQ N e).bind fun f=>some f)))))
def nC (N:Nat) (a:ab) (b:cJ × ab) (s1:Int) (s2:Int) (c:ByteArray) (d:Int) (e:ByteArray) (f:Int) (g:Int) (h:ByteArray):Option (dY × ab):=
  some ((⟨c,b.1,(⟨d,e,(⟨f,g,h⟩:bN)⟩:cJ)⟩:dY),(⟨a.b,s1,s2⟩:ab))
def pA (N:Nat) (b:ab):Option (dY × ab):=
  ((m5 N b).bind fun d=>((ff N (⟨b.b,d.2.i,d.2.h⟩:ab) 4).bind fun c=>(if c.1 then ((gT N (⟨b.b,c.2.i,c.2.h⟩:ab) ([(⟨#[43]⟩:ByteArray),(⟨#[45]⟩:ByteArray)]:List ByteArray)).bind fun e=>((m5 N (⟨b.b,e.2.i,e.2.h⟩:ab)).bind fun a=>nC N b d a.2.i a.2.h e.1 a.1.K a.1.S a.1.V.K a.1.V.N a.1.V.S)) else nC N b d c.2.i c.2.h (⟨#[]⟩:ByteArray) 0 (⟨#[]⟩:ByteArray) 0 0 (⟨#[]⟩:ByteArray))))
def nD (N:Nat) (a:ab) (b:Int × ab) (c:ByteArray × ab) (d:(List dY)) (e:Int) (f:Int) (g:Int) (h:ByteArray):Option (fd × ab):=
  some ((⟨b.1,c.1,d,e,h⟩:fd),(⟨a.b,f,g⟩:ab))
def iJ (N:Nat) (a:ab) (c:Int × ab) (d:ByteArray × ab) (e:(List dY)) (f:Int) (i:Bool) (g:Int) (h:Int):Option (fd × ab):=
  (if i then ((gT N (⟨a.b,g,h⟩:ab) ([(⟨#[114,101,102,117,110,100]⟩:ByteArray),(⟨#[99,97,110,99,101,108]⟩:ByteArray)]:List ByteArray)).bind fun b=>nD N a c d e f b.2.i b.2.h b.1) else nD N a c d e f g h (⟨#[]⟩:ByteArray))
def jF (N:Nat) (a:ab) (b:Int × ab) (d:ByteArray × ab) (e:(List dY)) (f:Int) (g:Int) (h:Int):Option (fd × ab):=
  (if decide (b.1=3) then ((ff N (⟨a.b,f,g⟩:ab) 2).bind fun c=>iJ N a b d e h c.1 c.2.i c.2.h) else iJ N a b d e h false f g)
def jH (N:Nat) (a:ab) (b:Int × ab) (c:ByteArray × ab) (s2:Int):Nat→(List dY)→Int→Int→Int→Option (fd × ab)
  | 0,_,_,_,_=>none
  | k+1,d,i,e,f=>
    (if decide (i < s2) then ((pA N (⟨a.b,e,f⟩:ab)).bind fun g=>((app d ([g.1]:List dY)).bind fun j=>((jH N a b c s2 k) j (i64.wrap (i+1)) g.2.i g.2.h))) else (if decide (b.1=4) then ((nq N (⟨a.b,e,f⟩:ab) ([0,1,5,100000]:List Int)).bind fun h=>jF N a b c d h.2.i h.2.h h.1) else jF N a b c d e f 0))
def jz (N:Nat) (b:ab) (c:Int × ab) (a:ByteArray × ab) (s2:Int):Option (fd × ab):=
  jH N b c a s2 N ([]:List dY) 0 a.2.i a.2.h
def ed (N:Nat) (b:ab) (a:Int × ab) (s1:Bool):Option (fd × ab):=
  (if s1 then some ((⟨a.1,(⟨#[]⟩:ByteArray),[],0,(⟨#[]⟩:ByteArray)⟩:fd),(⟨b.b,a.2.i,a.2.h⟩:ab)) else ((gT N (⟨b.b,a.2.i,a.2.h⟩:ab) ([(⟨#[111,114,100,101,114]⟩:ByteArray),(⟨#[112,97,105,100]⟩:ByteArray),(⟨#[105,116,101,109]⟩:ByteArray),(⟨#[115,104,105,112]⟩:ByteArray),(⟨#[99,104,97,114,103,101]⟩:ByteArray)]:List ByteArray)).bind fun c=>(if seq c.1 (⟨#[105,116,101,109]⟩:ByteArray) then jz N b a c 2 else jz N b a c 1)))
def oY (N:Nat) (b:ab) (d:Int):Option (fd × ab):=
  ((nq N b ([1,1,2,3,3,4,5,6]:List Int)).bind fun a=>(if decide (a.1=2) then ((cA N (⟨b.b,a.2.i,a.2.h⟩:ab) d).bind fun c=>some ((⟨a.1,(⟨#[]⟩:ByteArray),[],c.1,(⟨#[]⟩:ByteArray)⟩:fd),(⟨b.b,c.2.i,c.2.h⟩:ab))) else (if decide (a.1=5) then ed N b a (decide (a.1=5)) else ed N b a (decide (a.1=6)))))
def gH (N:Nat) (e:(List ByteArray)) (f:(List fd)) (g:Int) (h:(List fd)→Int→Int→Int→Option (af × ab)) (a:fd × ab):Nat→(List dY)→Int→Option (af × ab)
  | 0,_,_=>none
  | k+1,d,b=>
    (if decide (b < (d.length:Int)) then ((idx d b).bind fun c=>((m7 N c.L e).bind fun i=>(if !seq c.Op (⟨#[]⟩:ByteArray) then ((m7 N c.R e).bind fun j=>((gH N e f g h a k) (d.set b.toNat (⟨c.Op,i,j⟩:dY)) (i64.wrap (b+1)))) else ((gH N e f g h a k) (d.set b.toNat (⟨c.Op,i,c.R⟩:dY)) (i64.wrap (b+1)))))) else ((app f ([(⟨a.1.Kind,a.1.Name,d,a.1.N,a.1.Undo⟩:fd)]:List fd)).bind fun l=>(h l (i64.wrap (g - 1)) a.2.i a.2.h)))
def gR (N:Nat) (a:ab) (b:ByteArray) (c:Int × ab) (d:(List ay)) (g:(List ByteArray)) (e:(List f9)):Nat→(List fd)→Int→Int→Int→Option (af × ab)
  | 0,_,_,_,_=>none
  | k+1,f,h,i,j=>
    (if decide (0 < h) then ((kE N (⟨b,c.1,d,e,f⟩:af)).bind fun m=>((oY N (⟨a.b,i,j⟩:ab) m).bind fun l=>gH N g f h (gR N a b c d g e k) l N l.1.Args 0)) else some ((⟨b,c.1,d,e,f⟩:af),(⟨a.b,i,j⟩:ab)))
def jL (N:Nat) (b:ab) (c:ByteArray) (d:Int × ab) (e:(List ay)) (f:(List ByteArray)) (g:(List f9)) (h:Int) (i:Int):Option (af × ab):=
  ((cA N (⟨b.b,h,i⟩:ab) 3).bind fun a=>gR N b c d e f g N ([]:List fd) (i64.wrap (1+a.1)) a.2.i a.2.h)
def jA (N:Nat) (c:ab) (e:ByteArray) (f:Int × ab) (g:(List ay)) (h:Int) (i:Int):Option (af × ab):=
  ((m4 N (⟨e,f.1,g,[],[]⟩:af)).bind fun d=>((ff N (⟨c.b,h,i⟩:ab) 3).bind fun a=>(if a.1 then ((pS N (⟨c.b,a.2.i,a.2.h⟩:ab)).bind fun b=>((m7 N b.1.L d).bind fun j=>((m7 N b.1.R d).bind fun k=>((app ([]:List f9) ([(⟨b.1.Op,j,k⟩:f9)]:List f9)).bind fun l=>jL N c e f g d l b.2.i b.2.h)))) else jL N c e f g d ([]:List f9) a.2.i a.2.h)))
def jJ (N:Nat) (a:ab) (c:ByteArray) (d:Int × ab):Nat→(List ay)→Int→Int→Int→Option (af × ab)
  | 0,_,_,_,_=>none
  | k+1,s1,s2,g,h=>
    (if decide (0 < s2) then ((mY N (⟨a.b,g,h⟩:ab) false).bind fun e=>((app s1 ([e.1]:List ay)).bind fun i=>((jJ N a c d k) i (i64.wrap (s2 - 1)) e.2.i e.2.h))) else ((ff N (⟨a.b,g,h⟩:ab) 3).bind fun b=>(if b.1 then ((mY N (⟨a.b,b.2.i,b.2.h⟩:ab) true).bind fun f=>((app s1 ([f.1]:List ay)).bind fun j=>jA N a c d j f.2.i f.2.h)) else jA N a c d s1 b.2.i b.2.h)))
def pE (N:Nat) (a:ab) (d:ByteArray):Option (af × ab):=
  ((nq N a ([0,0,5,(-5),100]:List Int)).bind fun b=>((cA N (⟨a.b,b.2.i,b.2.h⟩:ab) 3).bind fun c=>jJ N a d b N ([]:List ay) (i64.wrap (1+c.1)) c.2.i c.2.h))
def iT (N:Nat) (b:ab) (d:ByteArray × ab):Nat→(List af)→Int→Int→Int→Option (bv × ab)
  | 0,_,_,_,_=>none
  | k+1,s1,s2,e,f=>
    ((cA N (⟨b.b,e,f⟩:ab) 4).bind fun a=>((if decide (s2 < i64.wrap (1+a.1)) then some (decide (s2 < 4)) else some false).bind fun g=>(if g then ((idx ([(⟨#[114,49]⟩:ByteArray),(⟨#[114,50]⟩:ByteArray),(⟨#[114,51]⟩:ByteArray),(⟨#[114,52]⟩:ByteArray)]:List ByteArray) s2).bind fun h=>((pE N (⟨b.b,a.2.i,a.2.h⟩:ab) h).bind fun c=>((app s1 ([c.1]:List af)).bind fun i=>((iT N b d k) i (i64.wrap (s2+1)) c.2.i c.2.h)))) else some ((⟨d.1,s1⟩:bv),(⟨b.b,a.2.i,a.2.h⟩:ab)))))
def nV (N:Nat) (b:ab):Option (bv × ab):=
  ((gT N b ([(⟨#[102,108,111,119]⟩:ByteArray),(⟨#[115,104,105,112]⟩:ByteArray),(⟨#[120]⟩:ByteArray)]:List ByteArray)).bind fun a=>iT N b a N ([]:List af) 0 a.2.i a.2.h)
def eS (N:Nat) (a:(List bN)) (b:(List bN)):Nat→Int→Option (Bool)
  | 0,_=>none
  | k+1,s1=>
    (if decide (s1 < (a.length:Int)) then ((idx a s1).bind fun c=>((idx b s1).bind fun d=>(if !(bQ c d) then some false else ((eS N a b k) (i64.wrap (s1+1)))))) else some true)
def j0 (N:Nat) (a:(List bN)) (b:(List bN)):Option (Bool):=
  (if !decide ((a.length:Int)=(b.length:Int)) then some false else eS N a b N 0)
def mB (N:Nat) (a:aI) (b:aI):Option (Bool):=
  ((if seq a.Kind b.Kind then ((j0 N a.Fields b.Fields).bind fun c=>some c) else some false).bind fun d=>some d)
def jd (N:Nat) (a:ac) (b:aI):Nat→Int→Option (Int)
  | 0,_=>none
  | k+1,s1=>
    (if decide (s1 < (a.Items.length:Int)) then ((idx a.Items s1).bind fun c=>((mB N c.F b).bind fun d=>(if d then ((idx a.Items s1).bind fun e=>some e.Id) else ((jd N a b k) (i64.wrap (s1+1)))))) else some 0)
def qL (N:Nat) (a:ac) (b:aI):Option (Int):=
  jd N a b N 0
def jy (N:Nat) (a:ab) (c:ByteArray × ab) (s2:Int):Nat→(List bN)→Int→Int→Int→Option (aI × ab)
  | 0,_,_,_,_=>none
  | k+1,d,e,f,g=>
    (if decide (e < s2) then ((kD N (⟨a.b,f,g⟩:ab)).bind fun b=>((app d ([b.1]:List bN)).bind fun h=>((jy N a c s2 k) h (i64.wrap (e+1)) b.2.i b.2.h))) else some ((⟨c.1,d⟩:aI),(⟨a.b,f,g⟩:ab)))
def lg (N:Nat) (a:ab) (b:ByteArray × ab) (s2:Int) (c:Int) (d:Int):Option (aI × ab):=
  jy N a b s2 N ([]:List bN) 0 c d
def iI (N:Nat) (b:ab) (c:ByteArray × ab) (s1:Int):Option (aI × ab):=
  ((ff N (⟨b.b,c.2.i,c.2.h⟩:ab) 12).bind fun a=>(if a.1 then ((cA N (⟨b.b,a.2.i,a.2.h⟩:ab) 6).bind fun d=>lg N b c d.1 d.2.i d.2.h) else lg N b c s1 a.2.i a.2.h))
def jU (N:Nat) (a:ab):Option (aI × ab):=
  ((gT N a ([(⟨#[111,114,100,101,114]⟩:ByteArray),(⟨#[112,97,105,100]⟩:ByteArray),(⟨#[105,116,101,109]⟩:ByteArray),(⟨#[111,114,100,101,114]⟩:ByteArray)]:List ByteArray)).bind fun b=>(if seq b.1 (⟨#[105,116,101,109]⟩:ByteArray) then iI N a b 2 else iI N a b 1))
def iQ (N:Nat) (a:(List Int)) (b:(List Int)):Nat→Int→Option (Bool)
  | 0,_=>none
  | k+1,s1=>
    (if decide (s1 < (a.length:Int)) then ((idx a s1).bind fun c=>((idx b s1).bind fun d=>(if !decide (c=d) then some false else ((iQ N a b k) (i64.wrap (s1+1)))))) else some true)
def nQ (N:Nat) (a:(List Int)) (b:(List Int)):Option (Bool):=
  (if !decide ((a.length:Int)=(b.length:Int)) then some false else iQ N a b N 0)
def lx (N:Nat) (a:av) (b:av):Option (Bool):=
  ((if seq a.Kind b.Kind then some (decide (a.N=b.N)) else some false).bind fun c=>((if c then ((nQ N a.At b.At).bind fun d=>some d) else some false).bind fun e=>((if e then ((j0 N a.Consts b.Consts).bind fun f=>some f) else some false).bind fun g=>some g)))
def fV (N:Nat) (a:ce) (b:av):Nat→Int→Option (Int × ce)
  | 0,_=>none
  | k+1,s1=>
    (if decide (s1 < (a.Alphas.length:Int)) then ((idx a.Alphas s1).bind fun d=>((lx N d b).bind fun e=>(if e then some (s1,a) else ((fV N a b k) (i64.wrap (s1+1)))))) else ((app a.Alphas ([b]:List av)).bind fun c=>some (i64.wrap ((c.length:Int) - 1),(⟨c,a.Chains⟩:ce))))
def nN (N:Nat) (a:ce) (b:av):Option (Int × ce):=
  fV N a b N 0
def fW (N:Nat) (a:ay):Nat→(List bN)→(List Int)→Int→Option (av)
  | 0,_,_,_=>none
  | k+1,s1,s2,b=>
    (if decide (b < (a.Args.length:Int)) then ((idx a.Args b).bind fun c=>(if decide (c.K=2) then ((idx a.Args b).bind fun d=>((app s1 ([d.V]:List bN)).bind fun e=>((app s2 ([b]:List Int)).bind fun f=>((fW N a k) e f (i64.wrap (b+1)))))) else ((fW N a k) s1 s2 (i64.wrap (b+1))))) else some (⟨a.Kind,(a.Args.length:Int),s1,s2⟩:av))
def nX (N:Nat) (a:ay):Option (av):=
  fW N a N ([]:List bN) ([]:List Int) 0
def fv (N:Nat) (b:bv) (s2:(List aG)) (a:Int) (e:(List av)→(List aG)→Int→Option (ce)):Nat→(List av)→(List Int)→(List Int)→Int→Option (ce)
  | 0,_,_,_,_=>none
  | k+1,h,f,g,c=>
    ((idx b.Rules a).bind fun j=>(if decide (c < (j.Pats.length:Int)) then ((idx b.Rules a).bind fun l=>((idx l.Pats c).bind fun i=>((nX N i).bind fun m=>((nN N (⟨h,s2⟩:ce) m).bind fun d=>(if i.Not then ((app f ([d.1]:List Int)).bind fun n=>((fv N b s2 a e k) d.2.Alphas n g (i64.wrap (c+1)))) else ((app g ([d.1]:List Int)).bind fun o=>((fv N b s2 a e k) d.2.Alphas f o (i64.wrap (c+1))))))))) else ((app s2 ([(⟨g,f⟩:aG)]:List aG)).bind fun p=>(e h p (i64.wrap (a+1))))))
def eC (N:Nat) (a:bv):Nat→(List av)→(List aG)→Int→Option (ce)
  | 0,_,_,_=>none
  | k+1,s1,s2,b=>
    (if decide (b < (a.Rules.length:Int)) then fv N a s2 b (eC N a k) N s1 ([]:List Int) ([]:List Int) 0 else some (⟨s1,s2⟩:ce))
def pT (N:Nat) (a:bv):Option (ce):=
  eC N a N ([]:List av) ([]:List aG) 0
def fC (N:Nat) (a:ac) (b:Int):Nat→(List ag)→Int→Option (Bool × ac)
  | 0,_,_=>none
  | k+1,s1,s2=>
    (if decide (s2 < (a.Items.length:Int)) then ((idx a.Items s2).bind fun c=>(if !decide (c.Id=b) then ((idx a.Items s2).bind fun d=>((app s1 ([d]:List ag)).bind fun e=>((fC N a b k) e (i64.wrap (s2+1))))) else ((fC N a b k) s1 (i64.wrap (s2+1))))) else some (decide ((s1.length:Int) < (a.Items.length:Int)),(⟨s1,a.Next⟩:ac)))
def mR (N:Nat) (a:ac) (b:Int):Option (Bool × ac):=
  fC N a b N ([]:List ag) 0
def iH (N:Nat) (a:aI):Option (aI):=
  ((app ([]:List bN) a.Fields).bind fun b=>some (⟨a.Kind,b⟩:aI))
def gz (N:Nat) (a:ac) (b:aI):Option (Int × ac):=
  ((qL N a b).bind fun c=>(if decide (0 < c) then some (c,a) else ((if decide (40≤(a.Items.length:Int)) then some true else some (decide (1000000≤a.Next))).bind fun d=>(if d then some (0,a) else ((iH N b).bind fun e=>((app a.Items ([(⟨a.Next,e⟩:ag)]:List ag)).bind fun f=>some (i64.wrap ((i64.wrap (a.Next+1)) - 1),(⟨f,i64.wrap (a.Next+1)⟩:ac))))))))
def jM (N:Nat) (b:ce) (c:(List aP)) (a:Int) (d:(List aP)→Int→Option (aN)):Nat→(List aq)→Int→Option (aN)
  | 0,_,_=>none
  | k+1,e,f=>
    ((idx b.Chains a).bind fun g=>(if decide (f < (g.Pos.length:Int)) then ((app e ([(⟨[]⟩:aq)]:List aq)).bind fun h=>((jM N b c a d k) h (i64.wrap (f+1)))) else ((app c ([(⟨e⟩:aP)]:List aP)).bind fun i=>(d i (i64.wrap (a+1))))))
def fG (N:Nat) (a:ce) (s1:(List bF)):Nat→(List aP)→Int→Option (aN)
  | 0,_,_=>none
  | k+1,b,c=>
    (if decide (c < (a.Chains.length:Int)) then jM N a b c (fG N a s1 k) N ([]:List aq) 0 else some (⟨s1,b⟩:aN))
def jD (N:Nat) (a:ce):Nat→(List bF)→Int→Option (aN)
  | 0,_,_=>none
  | k+1,s1,s2=>
    (if decide (s2 < (a.Alphas.length:Int)) then ((app s1 ([(⟨[]⟩:bF)]:List bF)).bind fun b=>((jD N a k) b (i64.wrap (s2+1)))) else fG N a s1 N ([]:List aP) 0)
def pJ (N:Nat) (a:ce):Option (aN):=
  jD N a N ([]:List bF) 0
def gP (N:Nat) (a:ac) (b:Int):Nat→Int→Option (aI × Bool)
  | 0,_=>none
  | k+1,s1=>
    (if decide (s1 < (a.Items.length:Int)) then ((idx a.Items s1).bind fun c=>(if decide (c.Id=b) then ((idx a.Items s1).bind fun d=>((iH N d.F).bind fun e=>some (e,true))) else ((gP N a b k) (i64.wrap (s1+1))))) else some ((⟨(⟨#[]⟩:ByteArray),[]⟩:aI),false))
def lM (N:Nat) (a:ac) (b:Int):Option (aI × Bool):=
  gP N a b N 0
def gK (N:Nat) (a:(List Int)) (b:Int):Nat→Int→Option (Bool)
  | 0,_=>none
  | k+1,s1=>
    (if decide (s1 < (a.length:Int)) then ((idx a s1).bind fun c=>(if decide (c=b) then some true else ((gK N a b k) (i64.wrap (s1+1))))) else some false)
def oQ (N:Nat) (a:(List Int)) (b:Int):Option (Bool):=
  gK N a b N 0
def dV (N:Nat) (a:(List ao)) (b:Int):Nat→(List ao)→Int→Option ((List ao))
  | 0,_,_=>none
  | k+1,s1,s2=>
    (if decide (s2 < (a.length:Int)) then ((idx a s2).bind fun c=>((oQ N c.Ids b).bind fun d=>(if !d then ((idx a s2).bind fun e=>((app s1 ([e]:List ao)).bind fun f=>((dV N a b k) f (i64.wrap (s2+1))))) else ((dV N a b k) s1 (i64.wrap (s2+1)))))) else some s1)
def kv (N:Nat) (a:(List ao)) (b:Int):Option ((List ao)):=
  ((C2 a).bind fun _=>dV N a b N ([]:List ao) 0)
def iC (N:Nat) (a:(List au)) (b:ByteArray):Nat→Int→Option (bN × Bool)
  | 0,_=>none
  | k+1,s1=>
    (if decide (s1 < (a.length:Int)) then ((idx a s1).bind fun c=>(if seq c.Name b then ((idx a s1).bind fun d=>some (d.V,true)) else ((iC N a b k) (i64.wrap (s1+1))))) else some ((⟨0,0,(⟨#[]⟩:ByteArray)⟩:bN),false))
def pr (N:Nat) (a:(List au)) (b:ByteArray):Option (bN × Bool):=
  iC N a b N 0
def gq (N:Nat) (c:ay) (b:aI) (d:(List au)):Nat→(List au)→Int→Option ((List au) × Bool)
  | 0,_,_=>none
  | k+1,s1,s2=>
    (if decide (s2 < (c.Args.length:Int)) then ((idx c.Args s2).bind fun a=>((pr N s1 a.S).bind fun e=>((if decide (a.K=2) then ((idx b.Fields s2).bind fun f=>some (!(bQ a.V f))) else some false).bind fun g=>((if g then some true else ((if decide (a.K=1) then some e.2 else some false).bind fun h=>((if h then ((idx b.Fields s2).bind fun i=>some (!(bQ e.1 i))) else some false).bind fun j=>some j))).bind fun l=>(if l then ((app ([]:List au) d).bind fun m=>some (m,false)) else ((if decide (a.K=1) then some (!e.2) else some false).bind fun n=>(if n then ((idx b.Fields s2).bind fun o=>((app s1 ([(⟨a.S,o⟩:au)]:List au)).bind fun p=>((gq N c b d k) p (i64.wrap (s2+1))))) else ((gq N c b d k) s1 (i64.wrap (s2+1)))))))))) else some (s1,true))
def kG (N:Nat) (a:ay) (b:aI) (c:(List au)):Option ((List au) × Bool):=
  ((app ([]:List au) c).bind fun d=>((if !seq a.Kind b.Kind then some true else some (!decide ((a.Args.length:Int)=(b.Fields.length:Int)))).bind fun e=>(if e then some (d,false) else gq N a b c N d 0)))
def lF (N:Nat) (b:af) (s1:(List au)) (s2:Int) (c:(List au)→Int→Option ((List au) × Bool)) (d:(List bN)) (e:Bool) (f:ByteArray):Option ((List au) × Bool):=
  ((idx b.Pats s2).bind fun g=>((kG N g (⟨f,d⟩:aI) s1).bind fun a=>((if !e then some true else some (!a.2)).bind fun h=>(if h then some (s1,false) else (c a.1 (i64.wrap (s2+1)))))))
def f7 (N:Nat) (c:af) (d:ac) (a:(List Int)):Nat→(List au)→Int→Option ((List au) × Bool)
  | 0,_,_=>none
  | k+1,s1,s2=>
    (if decide (s2 < (a.length:Int)) then ((idx a s2).bind fun e=>((lM N d e).bind fun b=>lF N c s1 s2 (f7 N c d a k) b.1.Fields b.2 b.1.Kind)) else some (s1,true))
def jo (N:Nat) (a:af) (b:ac) (c:(List Int)):Option ((List au) × Bool):=
  f7 N a b c N ([]:List au) 0
def iL (N:Nat) (s1:(List Int)) (s2:Int) (a:(List Int)→Int→Option ((List Int))) (b:Int):Option ((List Int)):=
  ((app s1 ([b]:List Int)).bind fun c=>(a c (i64.wrap (s2+1))))
def ef (N:Nat) (a:af) (b:aI) (c:(List au)):Nat→(List Int)→Int→Option ((List Int))
  | 0,_,_=>none
  | k+1,s1,s2=>
    (if decide (s2 < (a.Pats.length:Int)) then ((idx a.Pats s2).bind fun d=>(if d.Not then ((idx a.Pats s2).bind fun e=>((kG N e b c).bind fun f=>(if f.2 then iL N s1 s2 (ef N a b c k) 1 else iL N s1 s2 (ef N a b c k) 0))) else ((ef N a b c k) s1 (i64.wrap (s2+1))))) else some s1)
def mS (N:Nat) (a:af) (b:aI) (c:(List au)):Option ((List Int)):=
  ef N a b c N ([]:List Int) 0
def ee (N:Nat) (e:Int) (s2:Int) (f:(List ao)→Int→Option ((List ao))) (g:(List au) × Bool) (c:(List Int)):Nat→(List ao)→Int→Option ((List ao))
  | 0,_,_=>none
  | k+1,d,a=>
    ((if decide (a < (c.length:Int)) then some g.2 else some false).bind fun h=>(if h then ((idx d s2).bind fun b=>((idx b.Hits a).bind fun i=>((idx c a).bind fun j=>((idx b.Hits a).bind fun l=>((ee N e s2 f g c k) (d.set s2.toNat (⟨b.Ids,(b.Hits.set a.toNat (i64.wrap (i+(i64.wrap (e*j)))))⟩:ao)) (i64.wrap (a+1))))))) else (f d (i64.wrap (s2+1)))))
def cZ (N:Nat) (a:af) (b:ac) (c:aI) (d:Int):Nat→(List ao)→Int→Option ((List ao))
  | 0,_,_=>none
  | k+1,s1,s2=>
    (if decide (s2 < (s1.length:Int)) then ((idx s1 s2).bind fun f=>((jo N a b f.Ids).bind fun e=>((mS N a c e.1).bind fun g=>ee N d s2 (cZ N a b c d k) e g N s1 0))) else some s1)
def lU (N:Nat) (a:af) (b:ac) (c:(List ao)) (d:aI) (e:Int):Option ((List ao)):=
  cZ N a b d e N c 0
def eJ (N:Nat) (b:Int) (s1:(List bF)) (s2:Int) (c:(List bF)→Int→Option (aN)):Nat→(List Int)→Int→Option (aN)
  | 0,_,_=>none
  | k+1,d,a=>
    ((idx s1 s2).bind fun e=>(if decide (a < (e.L.length:Int)) then ((idx s1 s2).bind fun f=>((idx f.L a).bind fun g=>(if !decide (g=b) then ((idx s1 s2).bind fun h=>((idx h.L a).bind fun i=>((app d ([i]:List Int)).bind fun j=>((eJ N b s1 s2 c k) j (i64.wrap (a+1)))))) else ((eJ N b s1 s2 c k) d (i64.wrap (a+1)))))) else ((idx s1 s2).bind fun l=>(c (s1.set s2.toNat (⟨d⟩:bF)) (i64.wrap (s2+1))))))
def fP (N:Nat) (d:bv) (e:ac) (f:Int) (g:aI × Bool) (h:(List aP)) (b:Int) (i:(List aP)→Int→Option (aN)):Nat→(List aq)→Int→Option (aN)
  | 0,_,_=>none
  | k+1,a,c=>
    (if decide (c < (a.length:Int)) then ((idx a c).bind fun j=>((kv N j.Toks f).bind fun l=>((fP N d e f g h b i k) (a.set c.toNat (⟨l⟩:aq)) (i64.wrap (c+1))))) else ((idx d.Rules b).bind fun m=>((idx a (i64.wrap ((a.length:Int) - 1))).bind fun n=>((lU N m e n.Toks g.1 (-1)).bind fun o=>(i (h.set b.toNat (⟨(a.set (i64.wrap ((a.length:Int) - 1)).toNat (⟨o⟩:aq))⟩:aP)) (i64.wrap (b+1)))))))
def eT (N:Nat) (a:bv) (d:ac) (e:Int) (f:aI × Bool) (s1:(List bF)):Nat→(List aP)→Int→Option (aN)
  | 0,_,_=>none
  | k+1,b,c=>
    (if decide (c < (a.Rules.length:Int)) then ((idx b c).bind fun g=>fP N a d e f b c (eT N a d e f s1 k) N g.Levels 0) else some (⟨s1,b⟩:aN))
def eK (N:Nat) (b:bv) (c:aN) (d:ac) (a:Int) (e:aI × Bool):Nat→(List bF)→Int→Option (aN)
  | 0,_,_=>none
  | k+1,s1,s2=>
    (if decide (s2 < (s1.length:Int)) then eJ N a s1 s2 (eK N b c d a e k) N ([]:List Int) 0 else eT N b d a e s1 N c.Rules 0)
def o6 (N:Nat) (d:bv) (a:aN) (b:ac) (c:Int):Option (aN):=
  ((lM N b c).bind fun e=>eK N d a b c e N a.Alphas 0)
def tf (N:Nat) (a:Int) (b:Int) (c:Int):Option (Bool):=
  ((if decide (b≤a) then some (decide (a≤c)) else some false).bind fun d=>some d)
def iF (N:Nat) (a:av) (b:aI):Nat→Int→Option (Bool)
  | 0,_=>none
  | k+1,s1=>
    (if decide (s1 < (a.At.length:Int)) then ((idx a.At s1).bind fun c=>((if decide ((a.Consts.length:Int)≤s1) then some true else ((tf N c 0 (i64.wrap ((b.Fields.length:Int) - 1))).bind fun d=>some (!d))).bind fun e=>((if e then some true else ((idx b.Fields c).bind fun f=>((idx a.Consts s1).bind fun g=>some (!(bQ f g))))).bind fun h=>(if h then some false else ((iF N a b k) (i64.wrap (s1+1))))))) else some true)
def pK (N:Nat) (a:av) (b:aI):Option (Bool):=
  ((if !seq a.Kind b.Kind then some true else some (!decide (a.N=(b.Fields.length:Int)))).bind fun c=>(if c then some false else iF N a b N 0))
def kl (N:Nat) (a:(List ao)) (c:af) (d:ac) (e:(List Int)) (f:Int):Option ((List ao)):=
  ((app ([]:List Int) e).bind fun g=>((app g ([f]:List Int)).bind fun b=>((jo N c d b).bind fun h=>(if !h.2 then some a else ((app a ([(⟨b,([]:List Int)⟩:ao)]:List ao)).bind fun i=>some i)))))
def fa (N:Nat) (s2:Int) (d:(List Int)→Int→Option (ao)) (c:(List Int)):Nat→(List Int)→Int→Option (ao)
  | 0,_,_=>none
  | k+1,b,a=>
    (if decide (a < (c.length:Int)) then ((idx b a).bind fun e=>((idx c a).bind fun f=>((idx b a).bind fun g=>((fa N s2 d c k) (b.set a.toNat (i64.wrap (e+f))) (i64.wrap (a+1)))))) else (d b (i64.wrap (s2+1))))
def dK (N:Nat) (b:af) (a:ac) (c:ao) (d:(List au) × Bool):Nat→(List Int)→Int→Option (ao)
  | 0,_,_=>none
  | k+1,s1,s2=>
    (if decide (s2 < (a.Items.length:Int)) then ((idx a.Items s2).bind fun e=>((mS N b e.F d.1).bind fun f=>fa N s2 (dK N b a c d k) f N s1 0)) else some (⟨c.Ids,s1⟩:ao))
def mL (N:Nat) (a:af) (b:ac) (c:ao):Option (ao):=
  ((jo N a b c.Ids).bind fun d=>((kE N a).bind fun e=>((mk 0 (i64.wrap ((a.Pats.length:Int) - e))).bind fun f=>dK N a b c d N f 0)))
def gg (N:Nat) (d:af) (e:ac) (s2:(List ao)) (a:bF) (b:Int) (f:(List ao)→Int→Option (aN)):Nat→(List ao)→Int→Option (aN)
  | 0,_,_=>none
  | k+1,g,c=>
    (if decide (c < (a.L.length:Int)) then ((idx s2 b).bind fun h=>((idx a.L c).bind fun i=>((kl N g d e h.Ids i).bind fun j=>((gg N d e s2 a b f k) j (i64.wrap (c+1)))))) else (f g (i64.wrap (b+1))))
def cD (N:Nat) (d:af) (e:ac) (f:aP) (s1:(List aq)) (a:Int) (g:(List aq)→(List ao)→Int→Option (aN)):Nat→(List ao)→Int→Option (aN)
  | 0,_,_=>none
  | k+1,b,c=>
    ((if decide (c < (b.length:Int)) then some (decide (a=i64.wrap ((f.Levels.length:Int) - 1))) else some false).bind fun h=>(if h then ((idx b c).bind fun i=>((mL N d e i).bind fun j=>((cD N d e f s1 a g k) (b.set c.toNat j) (i64.wrap (c+1))))) else ((idx s1 a).bind fun l=>((app l.Toks b).bind fun m=>(g (s1.set a.toNat (⟨m⟩:aq)) b (i64.wrap (a+1)))))))
def eW (N:Nat) (a:af) (b:ac) (c:aP) (s1:(List aq)) (s2:(List ao)) (d:Int) (e:(List aq)→(List ao)→Int→Option (aN)) (f:bF):Nat→(List ao)→Int→Option (aN)
  | 0,_,_=>none
  | k+1,g,h=>
    (if decide (h < (s2.length:Int)) then gg N a b s2 f h (eW N a b c s1 s2 d e f k) N g 0 else cD N a b c s1 d e N g 0)
def ei (N:Nat) (b:af) (c:aG) (f:aN) (d:ac) (g:Int) (h:(List Bool)) (i:aP) (s1:(List aq)) (s2:(List ao)) (a:Int) (j:(List aq)→(List ao)→Int→Option (aN)) (l:Int):Nat→(List ao)→Int→Option (aN)
  | 0,_,_=>none
  | k+1,m,e=>
    ((if decide (e < l) then ((idx c.Pos a).bind fun n=>((idx h n).bind fun o=>some o)) else some false).bind fun p=>(if p then ((idx s1 (i64.wrap (a - 1))).bind fun q=>((idx q.Toks e).bind fun r=>((kl N m b d r.Ids g).bind fun s=>((ei N b c f d g h i s1 s2 a j l k) s (i64.wrap (e+1)))))) else ((idx c.Pos a).bind fun t=>((idx f.Alphas t).bind fun u=>eW N b d i s1 s2 a j u N m 0))))
def iW (N:Nat) (a:af) (b:aG) (c:aN) (d:ac) (e:Int) (f:(List Bool)) (g:aP) (s1:(List aq)) (s2:(List ao)) (h:Int) (i:(List aq)→(List ao)→Int→Option (aN)) (j:(List ao)) (k:Int):Option (aN):=
  ei N a b c d e f g s1 s2 h i k N j 0
def hJ (N:Nat) (b:af) (c:aG) (d:aN) (e:ac) (f:Int) (g:(List Bool)) (h:aP) (s1:(List aq)) (s2:(List ao)) (a:Int) (i:(List aq)→(List ao)→Int→Option (aN)) (j:(List ao)):Option (aN):=
  (if decide (0 < a) then ((idx s1 (i64.wrap (a - 1))).bind fun k=>iW N b c d e f g h s1 s2 a i j (i64.wrap ((k.Toks.length:Int) - (s2.length:Int)))) else iW N b c d e f g h s1 s2 a i j 0)
def bC (N:Nat) (b:af) (c:aG) (a:aN) (i:Int) (d:ac) (e:Int) (f:(List Bool)) (g:aP):Nat→(List aq)→(List ao)→Int→Option (aN)
  | 0,_,_,_=>none
  | k+1,s1,s2,h=>
    (if decide (h≤i64.wrap ((g.Levels.length:Int) - 1)) then ((if decide (h=0) then ((idx c.Pos 0).bind fun j=>((idx f j).bind fun l=>some l)) else some false).bind fun m=>(if m then ((kl N ([]:List ao) b d ([]:List Int) e).bind fun n=>hJ N b c a d e f g s1 s2 h (bC N b c a i d e f g k) n) else hJ N b c a d e f g s1 s2 h (bC N b c a i d e f g k) ([]:List ao))) else some (⟨a.Alphas,(a.Rules.set i.toNat (⟨s1⟩:aP))⟩:aN))
def oc (N:Nat) (b:af) (f:aG) (c:aN) (d:Int) (e:ac) (g:Int) (h:aI) (i:(List Bool)):Option (aN):=
  ((idx c.Rules d).bind fun a=>((idx a.Levels (i64.wrap ((a.Levels.length:Int) - 1))).bind fun j=>((lU N b e j.Toks h 1).bind fun k=>bC N b f c d e g i a N (a.Levels.set (i64.wrap ((a.Levels.length:Int) - 1)).toNat (⟨k⟩:aq)) ([]:List ao) 0)))
def gQ (N:Nat) (b:bv) (c:ce) (d:ac) (e:Int) (f:aI × Bool) (s1:(List bF)) (s2:(List Bool)):Nat→(List aP)→Int→Option (aN)
  | 0,_,_=>none
  | k+1,g,a=>
    (if decide (a < (b.Rules.length:Int)) then ((idx b.Rules a).bind fun h=>((idx c.Chains a).bind fun i=>((oc N h i (⟨s1,g⟩:aN) a d e f.1 s2).bind fun j=>((gQ N b c d e f s1 s2 k) j.Rules (i64.wrap (a+1)))))) else some (⟨s1,g⟩:aN))
def fk (N:Nat) (e:bv) (b:ce) (f:aN) (g:ac) (c:Int) (d:aI × Bool):Nat→(List bF)→(List Bool)→Int→Option (aN)
  | 0,_,_,_=>none
  | k+1,s1,s2,a=>
    (if decide (a < (b.Alphas.length:Int)) then ((idx b.Alphas a).bind fun j=>((pK N j d.1).bind fun h=>((app s2 ([h]:List Bool)).bind fun i=>(if h then ((idx s1 a).bind fun l=>((app l.L ([c]:List Int)).bind fun m=>((fk N e b f g c d k) (s1.set a.toNat (⟨m⟩:bF)) i (i64.wrap (a+1))))) else ((fk N e b f g c d k) s1 i (i64.wrap (a+1))))))) else gQ N e b g c d s1 s2 N f.Rules 0)
def pe (N:Nat) (d:bv) (e:ce) (a:aN) (b:ac) (c:Int):Option (aN):=
  ((lM N b c).bind fun f=>fk N d e a b c f N a.Alphas ([]:List Bool) 0)
def fR (N:Nat) (b:ab) (c:bv × ab) (f:ce):Nat→(List bF)→(List aP)→(List ag)→Int→Int→Int→Int→Option (bv × ce × aN × ac × ab)
  | 0,_,_,_,_,_,_,_=>none
  | k+1,s1,s2,a,h,l,m,d=>
    (if decide (0 < h) then ((ff N (⟨b.b,l,m⟩:ab) 4).bind fun g=>((if g.1 then some (decide (0 < (a.length:Int))) else some false).bind fun r=>(if r then ((cA N (⟨b.b,g.2.i,g.2.h⟩:ab) (a.length:Int)).bind fun j=>((idx a j.1).bind fun n=>((o6 N c.1 (⟨s1,s2⟩:aN) (⟨a,d⟩:ac) n.Id).bind fun o=>((mR N (⟨a,d⟩:ac) n.Id).bind fun p=>((fR N b c f k) o.Alphas o.Rules p.2.Items (i64.wrap (h - 1)) j.2.i j.2.h p.2.Next))))) else ((jU N (⟨b.b,g.2.i,g.2.h⟩:ab)).bind fun e=>((qL N (⟨a,d⟩:ac) e.1).bind fun s=>(if decide (s=0) then ((gz N (⟨a,d⟩:ac) e.1).bind fun i=>((pe N c.1 f (⟨s1,s2⟩:aN) i.2 i.1).bind fun q=>((fR N b c f k) q.Alphas q.Rules i.2.Items (i64.wrap (h - 1)) e.2.i e.2.h i.2.Next))) else ((fR N b c f k) s1 s2 a (i64.wrap (h - 1)) e.2.i e.2.h d))))))) else some (c.1,f,(⟨s1,s2⟩:aN),(⟨a,d⟩:ac),(⟨b.b,l,m⟩:ab)))
def nU (N:Nat) (b:ab):Option (bv × ce × aN × ac × ab):=
  ((nV N b).bind fun a=>((pT N a.1).bind fun d=>((pJ N d).bind fun e=>((cA N (⟨b.b,a.2.i,a.2.h⟩:ab) 10).bind fun c=>fR N b a d N e.Alphas e.Rules ([]:List ag) c.1 c.2.i c.2.h 1))))
def o9 (N:Nat) (b:(List Int)):Option (bv × ce × aN × ac):=
  ((oN N b).bind fun c=>((nU N c).bind fun a=>some (a.1,a.2.1,a.2.2.1,a.2.2.2.1)))
def gJ (N:Nat) (a:ab):Nat→(List ag)→Int→Int→Int→Int→Option (ac × ab)
  | 0,_,_,_,_,_=>none
  | k+1,s1,s2,f,g,c=>
    (if decide (0 < s2) then ((ff N (⟨a.b,f,g⟩:ab) 5).bind fun b=>((if b.1 then some (decide (0 < (s1.length:Int))) else some false).bind fun j=>(if j then ((cA N (⟨a.b,b.2.i,b.2.h⟩:ab) (s1.length:Int)).bind fun d=>((idx s1 d.1).bind fun l=>((mR N (⟨s1,c⟩:ac) l.Id).bind fun h=>((gJ N a k) h.2.Items (i64.wrap (s2 - 1)) d.2.i d.2.h h.2.Next)))) else ((jU N (⟨a.b,b.2.i,b.2.h⟩:ab)).bind fun e=>((gz N (⟨s1,c⟩:ac) e.1).bind fun i=>((gJ N a k) i.2.Items (i64.wrap (s2 - 1)) e.2.i e.2.h i.2.Next)))))) else some ((⟨s1,c⟩:ac),(⟨a.b,f,g⟩:ab)))
def p8 (N:Nat) (b:ab):Option (ac × ab):=
  ((cA N b 9).bind fun a=>gJ N b N ([]:List ag) a.1 a.2.i a.2.h 1)
def lh (N:Nat) (c:(List Int)):Option (ac × aI):=
  ((oN N c).bind fun b=>((p8 N b).bind fun a=>((jU N (⟨b.b,a.2.i,a.2.h⟩:ab)).bind fun d=>some (a.1,d.1))))
def fg (N:Nat) (a:ac):Nat→(List ag)→Int→Option (ac)
  | 0,_,_=>none
  | k+1,s1,s2=>
    (if decide (s2 < (a.Items.length:Int)) then ((idx a.Items s2).bind fun b=>((gA N b.F).bind fun c=>((app s1 ([(⟨b.Id,c⟩:ag)]:List ag)).bind fun d=>((fg N a k) d (i64.wrap (s2+1)))))) else some (⟨s1,a.Next⟩:ac))
def lm (N:Nat) (a:ac):Option (ac):=
  fg N a N ([]:List ag) 0
def jc (N:Nat) (a:ac) (b:aI):Nat→Int→Option (Int)
  | 0,_=>none
  | k+1,s1=>
    (if decide (s1 < (a.Items.length:Int)) then ((idx a.Items s1).bind fun c=>((kI N c.F b).bind fun d=>(if d then some c.Id else ((jc N a b k) (i64.wrap (s1+1)))))) else some 0)
def qI (N:Nat) (a:ac) (b:aI):Option (Int):=
  jc N a b N 0
def kH (N:Nat) (a:ac) (b:aI):Option (Int × Bool × ac):=
  ((qI N a b).bind fun c=>(if !decide (c=0) then some (c,true,a) else ((if decide (40≤(a.Items.length:Int)) then some true else some (decide (a.Next=1000000))).bind fun d=>(if d then some (0,false,a) else ((gA N b).bind fun e=>((app a.Items ([(⟨a.Next,e⟩:ag)]:List ag)).bind fun f=>some (i64.wrap ((i64.wrap (a.Next+1)) - 1),true,(⟨f,i64.wrap (a.Next+1)⟩:ac))))))))
def pi (N:Nat) (b:ac) (c:aI):Option (ac × Int × Bool):=
  ((lm N b).bind fun d=>((jg N b).bind fun e=>((if !e then some true else ((mQ N c).bind fun f=>some (!f))).bind fun g=>(if g then some (d,0,false) else ((kH N d c).bind fun a=>some (a.2.2,a.1,a.2.1))))))
def fU (N:Nat) (c:(List aq)) (d:Int) (e:(List aq)→Int→Option (aN)) (a:aq):Nat→(List ao)→Int→Option (aN)
  | 0,_,_=>none
  | k+1,f,b=>
    (if decide (b < (a.Toks.length:Int)) then ((idx a.Toks b).bind fun g=>((bh N g.Ids).bind fun h=>((bh N g.Hits).bind fun i=>((app f ([(⟨h,i⟩:ao)]:List ao)).bind fun j=>((fU N c d e a k) j (i64.wrap (b+1))))))) else ((app c ([(⟨f⟩:aq)]:List aq)).bind fun l=>(e l (i64.wrap (d+1)))))
def eV (N:Nat) (c:(List aP)) (d:Int) (e:(List aP)→Int→Option (aN)) (a:aP):Nat→(List aq)→Int→Option (aN)
  | 0,_,_=>none
  | k+1,f,b=>
    (if decide (b < (a.Levels.length:Int)) then ((idx a.Levels b).bind fun g=>fU N f b (eV N c d e a k) g N ([]:List ao) 0) else ((app c ([(⟨f⟩:aP)]:List aP)).bind fun h=>(e h (i64.wrap (d+1)))))
def dZ (N:Nat) (a:aN) (s1:(List bF)):Nat→(List aP)→Int→Option (aN)
  | 0,_,_=>none
  | k+1,c,b=>
    (if decide (b < (a.Rules.length:Int)) then ((idx a.Rules b).bind fun d=>eV N c b (dZ N a s1 k) d N ([]:List aq) 0) else some (⟨s1,c⟩:aN))
def i8 (N:Nat) (a:aN):Nat→(List bF)→Int→Option (aN)
  | 0,_,_=>none
  | k+1,s1,s2=>
    (if decide (s2 < (a.Alphas.length:Int)) then ((idx a.Alphas s2).bind fun b=>((bh N b.L).bind fun c=>((app s1 ([(⟨c⟩:bF)]:List bF)).bind fun d=>((i8 N a k) d (i64.wrap (s2+1)))))) else dZ N a s1 N ([]:List aP) 0)
def o0 (N:Nat) (a:aN):Option (aN):=
  i8 N a N ([]:List bF) 0
def aQ (N:Nat) (a:(List av)) (b:(List av)) (c:av→av→Option (Bool)):Nat→Int→Option (Bool)
  | 0,_=>none
  | k+1,s1=>
    (if decide (s1 < (a.length:Int)) then ((idx a s1).bind fun d=>((idx b s1).bind fun e=>((c d e).bind fun f=>(if !f then some false else ((aQ N a b c k) (i64.wrap (s1+1))))))) else some true)
def bf (N:Nat) (a:(List av)) (b:(List av)) (c:av→av→Option (Bool)):Option (Bool):=
  (if !decide ((a.length:Int)=(b.length:Int)) then some false else aQ N a b c N 0)
def aR (N:Nat) (a:(List aG)) (b:(List aG)) (c:aG→aG→Option (Bool)):Nat→Int→Option (Bool)
  | 0,_=>none
  | k+1,s1=>
    (if decide (s1 < (a.length:Int)) then ((idx a s1).bind fun d=>((idx b s1).bind fun e=>((c d e).bind fun f=>(if !f then some false else ((aR N a b c k) (i64.wrap (s1+1))))))) else some true)
def be (N:Nat) (a:(List aG)) (b:(List aG)) (c:aG→aG→Option (Bool)):Option (Bool):=
  (if !decide ((a.length:Int)=(b.length:Int)) then some false else aR N a b c N 0)
def fD (N:Nat) (a:aG) (b:aG):Option (Bool):=
  ((co N a.Pos b.Pos).bind fun c=>((if c then ((co N a.Neg b.Neg).bind fun d=>some d) else some false).bind fun e=>some e))
def qO (N:Nat) (a:ce) (b:bv):Option (Bool):=
  ((mX N b).bind fun d=>(if !d then some false else ((oJ N b).bind fun c=>((bf N a.Alphas c.Alphas (eD N)).bind fun e=>((if e then ((be N a.Chains c.Chains (fD N)).bind fun f=>some f) else some false).bind fun g=>some g)))))
def fq (N:Nat) (s2:Int) (c:Int→Option (Bool)) (a:aq) (d:Int):Nat→Int→Option (Bool)
  | 0,_=>none
  | k+1,b=>
    (if decide (b < (a.Toks.length:Int)) then ((idx a.Toks b).bind fun e=>((if !decide ((e.Ids.length:Int)=i64.wrap (s2+1)) then some true else some (!decide ((e.Hits.length:Int)=d))).bind fun f=>(if f then some false else ((fq N s2 c a d k) (i64.wrap (b+1)))))) else (c (i64.wrap (s2+1))))
def iE (N:Nat) (s2:Int) (a:Int→Option (Bool)) (b:aq) (c:Int):Option (Bool):=
  fq N s2 a b c N 0
def cT (N:Nat) (s1:Int) (c:Int→Option (Bool)) (a:aP) (b:aG):Nat→Int→Option (Bool)
  | 0,_=>none
  | k+1,s2=>
    (if decide (s2 < (a.Levels.length:Int)) then ((idx a.Levels s2).bind fun d=>(if decide (s2=i64.wrap ((b.Pos.length:Int) - 1)) then iE N s2 (cT N s1 c a b k) d (b.Neg.length:Int) else iE N s2 (cT N s1 c a b k) d 0)) else (c (i64.wrap (s1+1))))
def cI (N:Nat) (b:ce) (a:aN):Nat→Int→Option (Bool)
  | 0,_=>none
  | k+1,s1=>
    (if decide (s1 < (a.Rules.length:Int)) then ((idx a.Rules s1).bind fun c=>((idx b.Chains s1).bind fun d=>(if !decide ((c.Levels.length:Int)=(d.Pos.length:Int)) then some false else cT N s1 (cI N b a k) c d N 0))) else some true)
def pn (N:Nat) (a:ce) (b:aN):Option (Bool):=
  ((if !decide ((b.Alphas.length:Int)=(a.Alphas.length:Int)) then some true else some (!decide ((b.Rules.length:Int)=(a.Chains.length:Int)))).bind fun c=>(if c then some false else cI N a b N 0))
def pu (N:Nat) (c:bv) (a:ce) (d:aN) (b:ac) (e:Int):Option (Bool):=
  ((qO N a c).bind fun f=>((if !f then some true else ((jg N b).bind fun g=>some (!g))).bind fun h=>((if h then some true else ((pn N a d).bind fun i=>some (!i))).bind fun j=>(if j then some false else ((kx N b e).bind fun k=>some k.2)))))
def jZ (N:Nat) (s1:(List bF)) (s2:(List aP)):Option (aN):=
  some (⟨s1,s2⟩:aN)
def nR (N:Nat) (b:bv) (c:ce) (d:aN) (e:ac) (f:Int):Option (aN):=
  ((o0 N d).bind fun a=>((pu N b c d e f).bind fun h=>(if h then ((m3 N b c a e f).bind fun g=>jZ N g.1 g.2) else jZ N a.Alphas a.Rules)))
def bb (N:Nat) (a:(List a7)) (b:a7→Option (Bool)):Nat→Int→Option (Int)
  | 0,_=>none
  | k+1,s1=>
    (if decide (s1 < (a.length:Int)) then ((idx a s1).bind fun c=>((b c).bind fun d=>(if d then some s1 else ((bb N a b k) (i64.wrap (s1+1)))))) else some (-1))
def dp (N:Nat) (a:(List a7)) (b:a7→Option (Bool)):Option (Int):=
  bb N a b N 0
def cW (N:Nat) (a:(List a7)) (b:a7→Option (Bool)):Option (Bool):=
  ((dp N a b).bind fun c=>some (decide (0≤c)))
def ic (N:Nat) (a:a7) (b:a7):Option (Bool):=
  ((jK N a b).bind fun c=>some c)
def ml (N:Nat) (a:(List a7)) (b:a7):Option (Bool):=
  ((cW N a (fun a0=>ic N a0 b)).bind fun c=>some c)
def kr (N:Nat) (a:(List Int)) (b:Int):Nat→Int→Option (Bool)
  | 0,_=>none
  | k+1,s1=>
    (if decide (s1 < (a.length:Int)) then ((idx a s1).bind fun c=>(if decide (c=b) then some true else ((kr N a b k) (i64.wrap (s1+1))))) else some false)
def va (N:Nat) (a:(List Int)) (b:Int):Option (Bool):=
  kr N a b N 0
noncomputable def jx (N:Nat) (s2:Bool):Option (Bool):=
  some s2
noncomputable def gO (N:Nat) (c:bv × ce × aN × ac) (d:(List a7)) (b:ac × Int × Bool) (e:aN) (a:(List a7)):Nat→Int→Option (Bool)
  | 0,_=>none
  | k+1,s1=>
    (if decide (s1 < (a.length:Int)) then ((idx a s1).bind fun f=>((ml N d f).bind fun g=>((if !g then ((idx a s1).bind fun h=>((va N h.Ids b.2.1).bind fun i=>some (!i))) else some false).bind fun j=>(if j then some false else ((gO N c d b e a k) (i64.wrap (s1+1))))))) else ((mF N c.1 e b.1).bind fun l=>(if l then ((jT N c.1 b.1).bind fun m=>((nY N a m).bind fun n=>jx N n)) else jx N false)))
noncomputable def pG (N:Nat) (c:(List Int)):Option (Bool):=
  ((xx N c).bind fun f=>(if f then some true else ((o9 N c).bind fun a=>((lh N c).bind fun d=>((n9 N a.1 a.2.2.1 a.2.2.2).bind fun g=>((pi N a.2.2.2 d.2).bind fun b=>((if !b.2.2 then some true else some (decide ((b.1.Items.length:Int)=(a.2.2.2.Items.length:Int)))).bind fun h=>(if h then ((if !b.2.2 then some (decide ((a.2.2.2.Items.length:Int)=40)) else some false).bind fun i=>((if i then some true else ((if b.2.2 then ((qI N a.2.2.2 d.2).bind fun j=>some (decide (j=b.2.1))) else some false).bind fun k=>some k)).bind fun l=>some l)) else ((nR N a.1 a.2.1 a.2.2.1 b.1 b.2.1).bind fun e=>((n9 N a.1 e b.1).bind fun m=>gO N a g b e m N 0))))))))))
end Go.Proofs.YtedmfnmbjglmbaaGreat
