/- Printed by a program of ours: Lean functions of plain data for the Go functions. -/
import Derived.Test.YtedmfnmbjglmbaaGreatEN
import Derived.Test.YtedmfnmbjglmbaaGreatES
namespace Go.Proofs.YtedmfnmbjglmbaaGreat
open Eng IntKind
set_option linter.unusedVariables false
set_option linter.unusedSimpArgs false

structure bi where
  K:Int
  N:Int
  S:ByteArray
  deriving DecidableEq
def aX (a:Hp) (F:List Nat) (cs:List Value) (x:bi):Prop:=cs=[.int .i64 x.K,.int .i64 x.N,.string x.S]∧F=[]
theorem aX.lasts:bQ aX:=fun _ _ _ _ _ _ _ _ h=>h
instance:LS aX:=⟨aX.lasts⟩
theorem aX.knows:cZ aX:=fun _ _ _ _ h=>h.2 ▸ Kw.nil
theorem aX.flat:vD aX:=fun _ _ _ _ h=>h.2
theorem aX.one:fP aX:=fun _ _ _ _ h=>by obtain⟨rfl,-⟩:=h;exact One.all ⟨rfl,rfl,rfl,trivial⟩
structure bn where
  K:Int
  S:ByteArray
  V:bi
  deriving DecidableEq
def bV (a:Hp) (F:List Nat) (cs:List Value) (x:bn):Prop:=cs=[.int .i64 x.K,.string x.S,.int .i64 x.V.K,.int .i64 x.V.N,.string x.V.S]∧F=[]
theorem bV.lasts:bQ bV:=fun _ _ _ _ _ _ _ _ h=>h
instance:LS bV:=⟨bV.lasts⟩
theorem bV.knows:cZ bV:=fun _ _ _ _ h=>h.2 ▸ Kw.nil
theorem bV.flat:vD bV:=fun _ _ _ _ h=>h.2
theorem bV.one:fP bV:=fun _ _ _ _ h=>by obtain⟨rfl,-⟩:=h;exact One.all ⟨rfl,rfl,rfl,rfl,rfl,trivial⟩
structure au where
  Kind:ByteArray
  Args:(List bn)
  Not:Bool
  deriving DecidableEq
def bN (c:Hp) (F:List Nat) (cs:List Value) (x:au):Prop:=
  ∃ (a:Value) (b:List Nat),cs=[.string x.Kind,a,.bool x.Not]∧F=b∧RSl bV 5 c b a x.Args
theorem bN.lasts:bQ bN:=fun X h i F cs x c a ⟨d,e,f,b,g⟩=>by
  rw[b] at a
  exact⟨d,e,f,b,g.frame bV.lasts c (fun k hk=>a k (by simp[hk]))⟩
instance:LS bN:=⟨bN.lasts⟩
theorem bN.knows:cZ bN:=fun c F cs x ⟨d,e,f,a,b⟩=>a ▸ b.kn
theorem bN.one:fP bN:=fun _ _ _ _ h=>by obtain⟨b,c,rfl,-,a⟩:=h;exact One.all ⟨rfl,a.one,rfl,trivial⟩
def cJ (b:Hp) (F:List Nat) (cs:List Value) (x:au):Prop:=
  ∃ (a:Value),cs=[.string x.Kind,a,.bool x.Not]∧F=(ob a++[])∧OSl bV 171 5 b [] a x.Args
theorem cJ.lasts:bQ cJ:=fun X g h F cs x c a ⟨d,e,b,f⟩=>by
  rw[b] at a
  exact⟨d,e,b,f.frame bV.lasts c (fun k hk=>a k (by simp[hk])) (Dj.nil _)⟩
instance:LS cJ:=⟨cJ.lasts⟩
theorem cJ.knows:cZ cJ:=fun c F cs x ⟨d,e,b,a⟩=>b ▸ (a.knO.app a.kn)
theorem cJ.one:fP cJ:=fun _ _ _ _ h=>by obtain⟨b,rfl,-,a⟩:=h;exact One.all ⟨rfl,a.one,rfl,trivial⟩
theorem cJ.gives:dQ cJ bN:=fun e F cs x ⟨a,b,c,d⟩=>⟨a,ob a++[],b,c,d.rslG (dQ.refl _)⟩
structure ce where
  Op:Int
  L:bn
  R:bn
  deriving DecidableEq
def bl (a:Hp) (F:List Nat) (cs:List Value) (x:ce):Prop:=cs=[.int .i64 x.Op,.int .i64 x.L.K,.string x.L.S,.int .i64 x.L.V.K,.int .i64 x.L.V.N,.string x.L.V.S,.int .i64 x.R.K,.string x.R.S,.int .i64 x.R.V.K,.int .i64 x.R.V.N,.string x.R.V.S]∧F=[]
theorem bl.lasts:bQ bl:=fun _ _ _ _ _ _ _ _ h=>h
instance:LS bl:=⟨bl.lasts⟩
theorem bl.knows:cZ bl:=fun _ _ _ _ h=>h.2 ▸ Kw.nil
theorem bl.flat:vD bl:=fun _ _ _ _ h=>h.2
theorem bl.one:fP bl:=fun _ _ _ _ h=>by obtain⟨rfl,-⟩:=h;exact One.all ⟨rfl,rfl,rfl,rfl,rfl,rfl,rfl,rfl,rfl,rfl,rfl,trivial⟩
structure bY where
  Op:ByteArray
  L:bn
  R:bn
  deriving DecidableEq
def bW (a:Hp) (F:List Nat) (cs:List Value) (x:bY):Prop:=cs=[.string x.Op,.int .i64 x.L.K,.string x.L.S,.int .i64 x.L.V.K,.int .i64 x.L.V.N,.string x.L.V.S,.int .i64 x.R.K,.string x.R.S,.int .i64 x.R.V.K,.int .i64 x.R.V.N,.string x.R.V.S]∧F=[]
theorem bW.lasts:bQ bW:=fun _ _ _ _ _ _ _ _ h=>h
instance:LS bW:=⟨bW.lasts⟩
theorem bW.knows:cZ bW:=fun _ _ _ _ h=>h.2 ▸ Kw.nil
theorem bW.flat:vD bW:=fun _ _ _ _ h=>h.2
theorem bW.one:fP bW:=fun _ _ _ _ h=>by obtain⟨rfl,-⟩:=h;exact One.all ⟨rfl,rfl,rfl,rfl,rfl,rfl,rfl,rfl,rfl,rfl,rfl,trivial⟩
structure cA where
  Kind:Int
  Name:ByteArray
  Args:(List bY)
  N:Int
  Undo:ByteArray
  deriving DecidableEq
def dK (c:Hp) (F:List Nat) (cs:List Value) (x:cA):Prop:=
  ∃ (a:Value) (b:List Nat),cs=[.int .i64 x.Kind,.string x.Name,a,.int .i64 x.N,.string x.Undo]∧F=b∧RSl bW 11 c b a x.Args
theorem dK.lasts:bQ dK:=fun X h i F cs x c a ⟨d,e,f,b,g⟩=>by
  rw[b] at a
  exact⟨d,e,f,b,g.frame bW.lasts c (fun k hk=>a k (by simp[hk]))⟩
instance:LS dK:=⟨dK.lasts⟩
theorem dK.knows:cZ dK:=fun c F cs x ⟨d,e,f,a,b⟩=>a ▸ b.kn
theorem dK.one:fP dK:=fun _ _ _ _ h=>by obtain⟨b,c,rfl,-,a⟩:=h;exact One.all ⟨rfl,rfl,a.one,rfl,rfl,trivial⟩
def fE (b:Hp) (F:List Nat) (cs:List Value) (x:cA):Prop:=
  ∃ (a:Value),cs=[.int .i64 x.Kind,.string x.Name,a,.int .i64 x.N,.string x.Undo]∧F=(ob a++[])∧OSl bW 216 11 b [] a x.Args
theorem fE.lasts:bQ fE:=fun X g h F cs x c a ⟨d,e,b,f⟩=>by
  rw[b] at a
  exact⟨d,e,b,f.frame bW.lasts c (fun k hk=>a k (by simp[hk])) (Dj.nil _)⟩
instance:LS fE:=⟨fE.lasts⟩
theorem fE.knows:cZ fE:=fun c F cs x ⟨d,e,b,a⟩=>b ▸ (a.knO.app a.kn)
theorem fE.one:fP fE:=fun _ _ _ _ h=>by obtain⟨b,rfl,-,a⟩:=h;exact One.all ⟨rfl,rfl,a.one,rfl,rfl,trivial⟩
theorem fE.gives:dQ fE dK:=fun e F cs x ⟨a,b,c,d⟩=>⟨a,ob a++[],b,c,d.rslG (dQ.refl _)⟩
structure ai where
  Name:ByteArray
  Sal:Int
  Pats:(List au)
  Conds:(List ce)
  Acts:(List cA)
  deriving DecidableEq
def cr (a:Hp) (F:List Nat) (cs:List Value) (x:ai):Prop:=
  ∃ (b:Value) (c:List Nat) (s1:Value) (d:List Nat) (s2:Value) (e:List Nat),cs=[.string x.Name,.int .i64 x.Sal,b,s1,s2]∧F=c++(d++(e))∧RSl bN 3 a c b x.Pats∧RSl bl 11 a d s1 x.Conds∧RSl dK 5 a e s2 x.Acts
theorem cr.lasts:bQ cr:=fun X l m F cs x b a ⟨d,e,s1,f,s2,g,h,c,i,h1,j⟩=>by
  rw[c] at a
  exact⟨d,e,s1,f,s2,g,h,c,i.frame bN.lasts b (fun k hk=>a k (by simp[hk])),h1.frame bl.lasts b (fun k hk=>a k (by simp[hk])),j.frame dK.lasts b (fun k hk=>a k (by simp[hk]))⟩
instance:LS cr:=⟨cr.lasts⟩
theorem cr.knows:cZ cr:=fun d F cs x ⟨e,f,s1,g,s2,h,i,a,b,h1,c⟩=>a ▸ (b.kn.app (h1.kn.app c.kn))
theorem cr.one:fP cr:=fun _ _ _ _ h=>by obtain⟨c,d,s1,e,s2,f,rfl,-,a,h1,b⟩:=h;exact One.all ⟨rfl,rfl,a.one,h1.one,b.one,trivial⟩
def dM (a:Hp) (F:List Nat) (cs:List Value) (x:ai):Prop:=
  ∃ (b:Value) (c:List Nat) (s1:Value) (s2:Value) (d:List Nat),cs=[.string x.Name,.int .i64 x.Sal,b,s1,s2]∧F=(ob b++c)++((ob s1++[])++((ob s2++d)))∧OSl cJ 201 3 a c b x.Pats∧OSl bl 173 11 a [] s1 x.Conds∧OSl fE 213 5 a d s2 x.Acts
theorem dM.lasts:bQ dM:=fun X j l F cs x b a ⟨d,e,s1,s2,f,g,c,h,h1,i⟩=>by
  rw[c] at a
  exact⟨d,e,s1,s2,f,g,c,h.frame cJ.lasts b (fun k hk=>a k (by simp[hk])) (fun k hk=>a k (by simp[hk])),h1.frame bl.lasts b (fun k hk=>a k (by simp[hk])) (Dj.nil _),i.frame fE.lasts b (fun k hk=>a k (by simp[hk])) (fun k hk=>a k (by simp[hk]))⟩
instance:LS dM:=⟨dM.lasts⟩
theorem dM.knows:cZ dM:=fun d F cs x ⟨e,f,s1,s2,g,h,c,a,h1,b⟩=>c ▸ ((a.knO.app a.kn).app ((h1.knO.app h1.kn).app (b.knO.app b.kn)))
theorem dM.one:fP dM:=fun _ _ _ _ h=>by obtain⟨c,d,s1,s2,e,rfl,-,a,h1,b⟩:=h;exact One.all ⟨rfl,rfl,a.one,h1.one,b.one,trivial⟩
theorem dM.gives:dQ dM cr:=fun h F cs x ⟨a,b,s1,s2,c,d,e,f,h1,g⟩=>⟨a,ob a++b,s1,ob s1++[],s2,ob s2++c,d,e,f.rslG cJ.gives,h1.rslG (dQ.refl _),g.rslG fE.gives⟩
def bq (x y:bi):Bool:=((x.K == y.K) && ((x.N == y.N) && (seq x.S y.S && true)))
theorem Aq (a b:ByteArray):seq a b=decide (a=b):=by
  unfold seq
  by_cases h:a=b
  · subst h;simp
  · have : ¬ a.toList=b.toList:=fun e=>h (by rw[ByteArray.toList_eq,ByteArray.toList_eq] at e;exact ByteArray.ext (Array.toList_inj.1 e))
    simp[h,this]
theorem hP (x y:bi):bq x y=decide (x=y):=by
  obtain⟨a0,a,a2⟩:=x;obtain⟨b0,b,c⟩:=y
  rw[qu]
  simp only[bq,Aq,q7,gI,beq_iff_eq,decide_eq_true_eq,bi.mk.injEq,and_assoc]
def nB (x y:bn):Bool:=((x.K == y.K) && (seq x.S y.S && ((x.V.K == y.V.K) && ((x.V.N == y.V.N) && (seq x.V.S y.V.S && true)))))

theorem B7 (x y:bn):nB x y=decide (x=y):=by
  obtain⟨a0,a1,⟨a20,a21,a22⟩⟩:=x;obtain⟨b0,b1,⟨a,b,c⟩⟩:=y
  rw[qu]
  simp only[nB,Aq,q7,gI,beq_iff_eq,decide_eq_true_eq,bn.mk.injEq,bi.mk.injEq,and_assoc]
structure bo where
  Name:ByteArray
  Rules:(List ai)
  deriving DecidableEq
def uP (c:Hp) (F:List Nat) (cs:List Value) (x:bo):Prop:=
  ∃ (a:Value) (b:List Nat),cs=[.string x.Name,a]∧F=b∧RSl cr 5 c b a x.Rules
theorem uP.lasts:bQ uP:=fun X h i F cs x c a ⟨d,e,f,b,g⟩=>by
  rw[b] at a
  exact⟨d,e,f,b,g.frame cr.lasts c (fun k hk=>a k (by simp[hk]))⟩
instance:LS uP:=⟨uP.lasts⟩
theorem uP.knows:cZ uP:=fun c F cs x ⟨d,e,f,a,b⟩=>a ▸ b.kn
theorem uP.one:fP uP:=fun _ _ _ _ h=>by obtain⟨b,c,rfl,-,a⟩:=h;exact One.all ⟨rfl,a.one,trivial⟩
def tC (c:Hp) (F:List Nat) (cs:List Value) (x:bo):Prop:=
  ∃ (a:Value) (b:List Nat),cs=[.string x.Name,a]∧F=(ob a++b)∧OSl dM 87 5 c b a x.Rules
theorem tC.lasts:bQ tC:=fun X h i F cs x c a ⟨d,e,f,b,g⟩=>by
  rw[b] at a
  exact⟨d,e,f,b,g.frame dM.lasts c (fun k hk=>a k (by simp[hk])) (fun k hk=>a k (by simp[hk]))⟩
instance:LS tC:=⟨tC.lasts⟩
theorem tC.knows:cZ tC:=fun c F cs x ⟨d,e,f,b,a⟩=>b ▸ (a.knO.app a.kn)
theorem tC.one:fP tC:=fun _ _ _ _ h=>by obtain⟨b,c,rfl,-,a⟩:=h;exact One.all ⟨rfl,a.one,trivial⟩
theorem tC.gives:dQ tC uP:=fun f F cs x ⟨a,b,c,d,e⟩=>⟨a,ob a++b,c,d,e.rslG dM.gives⟩
structure aH where
  Kind:ByteArray
  Fields:(List bi)
  deriving DecidableEq
def rO (c:Hp) (F:List Nat) (cs:List Value) (x:aH):Prop:=
  ∃ (a:Value) (b:List Nat),cs=[.string x.Kind,a]∧F=b∧RSl aX 3 c b a x.Fields
theorem rO.lasts:bQ rO:=fun X h i F cs x c a ⟨d,e,f,b,g⟩=>by
  rw[b] at a
  exact⟨d,e,f,b,g.frame aX.lasts c (fun k hk=>a k (by simp[hk]))⟩
instance:LS rO:=⟨rO.lasts⟩
theorem rO.knows:cZ rO:=fun c F cs x ⟨d,e,f,a,b⟩=>a ▸ b.kn
theorem rO.one:fP rO:=fun _ _ _ _ h=>by obtain⟨b,c,rfl,-,a⟩:=h;exact One.all ⟨rfl,a.one,trivial⟩
def qm (b:Hp) (F:List Nat) (cs:List Value) (x:aH):Prop:=
  ∃ (a:Value),cs=[.string x.Kind,a]∧F=(ob a++[])∧OSl aX 95 3 b [] a x.Fields
theorem qm.lasts:bQ qm:=fun X g h F cs x c a ⟨d,e,b,f⟩=>by
  rw[b] at a
  exact⟨d,e,b,f.frame aX.lasts c (fun k hk=>a k (by simp[hk])) (Dj.nil _)⟩
instance:LS qm:=⟨qm.lasts⟩
theorem qm.knows:cZ qm:=fun c F cs x ⟨d,e,b,a⟩=>b ▸ (a.knO.app a.kn)
theorem qm.one:fP qm:=fun _ _ _ _ h=>by obtain⟨b,rfl,-,a⟩:=h;exact One.all ⟨rfl,a.one,trivial⟩
theorem qm.gives:dQ qm rO:=fun e F cs x ⟨a,b,c,d⟩=>⟨a,ob a++[],b,c,d.rslG (dQ.refl _)⟩
structure aw where
  Id:Int
  F:aH
  deriving DecidableEq
def bj (c:Hp) (F:List Nat) (cs:List Value) (x:aw):Prop:=
  ∃ (a:Value) (b:List Nat),cs=[.int .i64 x.Id,.string x.F.Kind,a]∧F=b∧RSl aX 3 c b a x.F.Fields
theorem bj.lasts:bQ bj:=fun X h i F cs x c a ⟨d,e,f,b,g⟩=>by
  rw[b] at a
  exact⟨d,e,f,b,g.frame aX.lasts c (fun k hk=>a k (by simp[hk]))⟩
instance:LS bj:=⟨bj.lasts⟩
theorem bj.knows:cZ bj:=fun c F cs x ⟨d,e,f,a,b⟩=>a ▸ b.kn
theorem bj.one:fP bj:=fun _ _ _ _ h=>by obtain⟨b,c,rfl,-,a⟩:=h;exact One.all ⟨rfl,rfl,a.one,trivial⟩
def fK (b:Hp) (F:List Nat) (cs:List Value) (x:aw):Prop:=
  ∃ (a:Value),cs=[.int .i64 x.Id,.string x.F.Kind,a]∧F=(ob a++[])∧OSl aX 95 3 b [] a x.F.Fields
theorem fK.lasts:bQ fK:=fun X g h F cs x c a ⟨d,e,b,f⟩=>by
  rw[b] at a
  exact⟨d,e,b,f.frame aX.lasts c (fun k hk=>a k (by simp[hk])) (Dj.nil _)⟩
instance:LS fK:=⟨fK.lasts⟩
theorem fK.knows:cZ fK:=fun c F cs x ⟨d,e,b,a⟩=>b ▸ (a.knO.app a.kn)
theorem fK.one:fP fK:=fun _ _ _ _ h=>by obtain⟨b,rfl,-,a⟩:=h;exact One.all ⟨rfl,rfl,a.one,trivial⟩
theorem fK.gives:dQ fK bj:=fun e F cs x ⟨a,b,c,d⟩=>⟨a,ob a++[],b,c,d.rslG (dQ.refl _)⟩
structure ag where
  Items:(List aw)
  Next:Int
  deriving DecidableEq
def om (c:Hp) (F:List Nat) (cs:List Value) (x:ag):Prop:=
  ∃ (a:Value) (b:List Nat),cs=[a,.int .i64 x.Next]∧F=b∧RSl bj 3 c b a x.Items
theorem om.lasts:bQ om:=fun X h i F cs x c a ⟨d,e,f,b,g⟩=>by
  rw[b] at a
  exact⟨d,e,f,b,g.frame bj.lasts c (fun k hk=>a k (by simp[hk]))⟩
instance:LS om:=⟨om.lasts⟩
theorem om.knows:cZ om:=fun c F cs x ⟨d,e,f,a,b⟩=>a ▸ b.kn
theorem om.one:fP om:=fun _ _ _ _ h=>by obtain⟨b,c,rfl,-,a⟩:=h;exact One.all ⟨a.one,rfl,trivial⟩
def mW (c:Hp) (F:List Nat) (cs:List Value) (x:ag):Prop:=
  ∃ (a:Value) (b:List Nat),cs=[a,.int .i64 x.Next]∧F=(ob a++b)∧OSl fK 66 3 c b a x.Items
theorem mW.lasts:bQ mW:=fun X h i F cs x c a ⟨d,e,f,b,g⟩=>by
  rw[b] at a
  exact⟨d,e,f,b,g.frame fK.lasts c (fun k hk=>a k (by simp[hk])) (fun k hk=>a k (by simp[hk]))⟩
instance:LS mW:=⟨mW.lasts⟩
theorem mW.knows:cZ mW:=fun c F cs x ⟨d,e,f,b,a⟩=>b ▸ (a.knO.app a.kn)
theorem mW.one:fP mW:=fun _ _ _ _ h=>by obtain⟨b,c,rfl,-,a⟩:=h;exact One.all ⟨a.one,rfl,trivial⟩
theorem mW.gives:dQ mW om:=fun f F cs x ⟨a,b,c,d,e⟩=>⟨a,ob a++b,c,d,e.rslG fK.gives⟩
structure ax where
  Kind:ByteArray
  N:Int
  Consts:(List bi)
  At:(List Int)
  deriving DecidableEq
def cz (a:Hp) (F:List Nat) (cs:List Value) (x:ax):Prop:=
  ∃ (b:Value) (c:List Nat) (s1:Value) (d:List Nat),cs=[.string x.Kind,.int .i64 x.N,b,s1]∧F=c++(d)∧RSl aX 3 a c b x.Consts∧RSl (RI .i64) 1 a d s1 x.At
theorem cz.lasts:bQ cz:=fun X i j F cs x b a ⟨d,e,s1,f,g,c,h,h1⟩=>by
  rw[c] at a
  exact⟨d,e,s1,f,g,c,h.frame aX.lasts b (fun k hk=>a k (by simp[hk])),h1.frame RI.lasts b (fun k hk=>a k (by simp[hk]))⟩
instance:LS cz:=⟨cz.lasts⟩
theorem cz.knows:cZ cz:=fun c F cs x ⟨d,e,s1,f,g,a,b,h1⟩=>a ▸ (b.kn.app h1.kn)
theorem cz.one:fP cz:=fun _ _ _ _ h=>by obtain⟨b,c,s1,d,rfl,-,a,h1⟩:=h;exact One.all ⟨rfl,rfl,a.one,h1.one,trivial⟩
def cP (b:Hp) (F:List Nat) (cs:List Value) (x:ax):Prop:=
  ∃ (a:Value) (s1:Value),cs=[.string x.Kind,.int .i64 x.N,a,s1]∧F=(ob a++[])++((ob s1++[]))∧OSl aX 95 3 b [] a x.Consts∧OSl (RI .i64) 3 1 b [] s1 x.At
theorem cP.lasts:bQ cP:=fun X g h F cs x b a ⟨d,s1,e,c,f,h1⟩=>by
  rw[c] at a
  exact⟨d,s1,e,c,f.frame aX.lasts b (fun k hk=>a k (by simp[hk])) (Dj.nil _),h1.frame RI.lasts b (fun k hk=>a k (by simp[hk])) (Dj.nil _)⟩
instance:LS cP:=⟨cP.lasts⟩
theorem cP.knows:cZ cP:=fun c F cs x ⟨d,s1,e,b,a,h1⟩=>b ▸ ((a.knO.app a.kn).app (h1.knO.app h1.kn))
theorem cP.one:fP cP:=fun _ _ _ _ h=>by obtain⟨b,s1,rfl,-,a,h1⟩:=h;exact One.all ⟨rfl,rfl,a.one,h1.one,trivial⟩
theorem cP.gives:dQ cP cz:=fun e F cs x ⟨a,s1,b,c,d,h1⟩=>⟨a,ob a++[],s1,ob s1++[],b,c,d.rslG (dQ.refl _),h1.rslG (dQ.refl _)⟩
structure aR where
  Pos:(List Int)
  Neg:(List Int)
  deriving DecidableEq
def fC (a:Hp) (F:List Nat) (cs:List Value) (x:aR):Prop:=
  ∃ (b:Value) (c:List Nat) (s1:Value) (d:List Nat),cs=[b,s1]∧F=c++(d)∧RSl (RI .i64) 1 a c b x.Pos∧RSl (RI .i64) 1 a d s1 x.Neg
theorem fC.lasts:bQ fC:=fun X i j F cs x b a ⟨d,e,s1,f,g,c,h,h1⟩=>by
  rw[c] at a
  exact⟨d,e,s1,f,g,c,h.frame RI.lasts b (fun k hk=>a k (by simp[hk])),h1.frame RI.lasts b (fun k hk=>a k (by simp[hk]))⟩
instance:LS fC:=⟨fC.lasts⟩
theorem fC.knows:cZ fC:=fun c F cs x ⟨d,e,s1,f,g,a,b,h1⟩=>a ▸ (b.kn.app h1.kn)
theorem fC.one:fP fC:=fun _ _ _ _ h=>by obtain⟨b,c,s1,d,rfl,-,a,h1⟩:=h;exact One.all ⟨a.one,h1.one,trivial⟩
def bC (b:Hp) (F:List Nat) (cs:List Value) (x:aR):Prop:=
  ∃ (a:Value) (s1:Value),cs=[a,s1]∧F=(ob a++[])++((ob s1++[]))∧OSl (RI .i64) 3 1 b [] a x.Pos∧OSl (RI .i64) 3 1 b [] s1 x.Neg
theorem bC.lasts:bQ bC:=fun X g h F cs x b a ⟨d,s1,e,c,f,h1⟩=>by
  rw[c] at a
  exact⟨d,s1,e,c,f.frame RI.lasts b (fun k hk=>a k (by simp[hk])) (Dj.nil _),h1.frame RI.lasts b (fun k hk=>a k (by simp[hk])) (Dj.nil _)⟩
instance:LS bC:=⟨bC.lasts⟩
theorem bC.knows:cZ bC:=fun c F cs x ⟨d,s1,e,b,a,h1⟩=>b ▸ ((a.knO.app a.kn).app (h1.knO.app h1.kn))
theorem bC.one:fP bC:=fun _ _ _ _ h=>by obtain⟨b,s1,rfl,-,a,h1⟩:=h;exact One.all ⟨a.one,h1.one,trivial⟩
theorem bC.gives:dQ bC fC:=fun e F cs x ⟨a,s1,b,c,d,h1⟩=>⟨a,ob a++[],s1,ob s1++[],b,c,d.rslG (dQ.refl _),h1.rslG (dQ.refl _)⟩
structure bO where
  Alphas:(List ax)
  Chains:(List aR)
  deriving DecidableEq
def uI (a:Hp) (F:List Nat) (cs:List Value) (x:bO):Prop:=
  ∃ (b:Value) (c:List Nat) (s1:Value) (d:List Nat),cs=[b,s1]∧F=c++(d)∧RSl cz 4 a c b x.Alphas∧RSl fC 2 a d s1 x.Chains
theorem uI.lasts:bQ uI:=fun X i j F cs x b a ⟨d,e,s1,f,g,c,h,h1⟩=>by
  rw[c] at a
  exact⟨d,e,s1,f,g,c,h.frame cz.lasts b (fun k hk=>a k (by simp[hk])),h1.frame fC.lasts b (fun k hk=>a k (by simp[hk]))⟩
instance:LS uI:=⟨uI.lasts⟩
theorem uI.knows:cZ uI:=fun c F cs x ⟨d,e,s1,f,g,a,b,h1⟩=>a ▸ (b.kn.app h1.kn)
theorem uI.one:fP uI:=fun _ _ _ _ h=>by obtain⟨b,c,s1,d,rfl,-,a,h1⟩:=h;exact One.all ⟨a.one,h1.one,trivial⟩
def tM (b:Hp) (F:List Nat) (cs:List Value) (x:bO):Prop:=
  ∃ (a:Value) (c:List Nat) (s1:Value) (d:List Nat),cs=[a,s1]∧F=(ob a++c)++((ob s1++d))∧OSl cP 137 4 b c a x.Alphas∧OSl bC 141 2 b d s1 x.Chains
theorem tM.lasts:bQ tM:=fun X i j F cs x b a ⟨d,e,s1,f,g,c,h,h1⟩=>by
  rw[c] at a
  exact⟨d,e,s1,f,g,c,h.frame cP.lasts b (fun k hk=>a k (by simp[hk])) (fun k hk=>a k (by simp[hk])),h1.frame bC.lasts b (fun k hk=>a k (by simp[hk])) (fun k hk=>a k (by simp[hk]))⟩
instance:LS tM:=⟨tM.lasts⟩
theorem tM.knows:cZ tM:=fun c F cs x ⟨d,e,s1,f,g,b,a,h1⟩=>b ▸ ((a.knO.app a.kn).app (h1.knO.app h1.kn))
theorem tM.one:fP tM:=fun _ _ _ _ h=>by obtain⟨b,c,s1,d,rfl,-,a,h1⟩:=h;exact One.all ⟨a.one,h1.one,trivial⟩
theorem tM.gives:dQ tM uI:=fun g F cs x ⟨a,b,s1,c,d,e,f,h1⟩=>⟨a,ob a++b,s1,ob s1++c,d,e,f.rslG cP.gives,h1.rslG bC.gives⟩
structure bm where
  L:(List Int)
  deriving DecidableEq
def iv (c:Hp) (F:List Nat) (cs:List Value) (x:bm):Prop:=
  ∃ (a:Value) (b:List Nat),cs=[a]∧F=b∧RSl (RI .i64) 1 c b a x.L
theorem iv.lasts:bQ iv:=fun X h i F cs x c a ⟨d,e,f,b,g⟩=>by
  rw[b] at a
  exact⟨d,e,f,b,g.frame RI.lasts c (fun k hk=>a k (by simp[hk]))⟩
instance:LS iv:=⟨iv.lasts⟩
theorem iv.knows:cZ iv:=fun c F cs x ⟨d,e,f,a,b⟩=>a ▸ b.kn
theorem iv.one:fP iv:=fun _ _ _ _ h=>by obtain⟨b,c,rfl,-,a⟩:=h;exact One.all ⟨a.one,trivial⟩
def bk (b:Hp) (F:List Nat) (cs:List Value) (x:bm):Prop:=
  ∃ (a:Value),cs=[a]∧F=(ob a++[])∧OSl (RI .i64) 3 1 b [] a x.L
theorem bk.lasts:bQ bk:=fun X g h F cs x c a ⟨d,e,b,f⟩=>by
  rw[b] at a
  exact⟨d,e,b,f.frame RI.lasts c (fun k hk=>a k (by simp[hk])) (Dj.nil _)⟩
instance:LS bk:=⟨bk.lasts⟩
theorem bk.knows:cZ bk:=fun c F cs x ⟨d,e,b,a⟩=>b ▸ (a.knO.app a.kn)
theorem bk.one:fP bk:=fun _ _ _ _ h=>by obtain⟨b,rfl,-,a⟩:=h;exact One.all ⟨a.one,trivial⟩
theorem bk.gives:dQ bk iv:=fun e F cs x ⟨a,b,c,d⟩=>⟨a,ob a++[],b,c,d.rslG (dQ.refl _)⟩
structure ah where
  Ids:(List Int)
  Hits:(List Int)
  deriving DecidableEq
def cL (a:Hp) (F:List Nat) (cs:List Value) (x:ah):Prop:=
  ∃ (b:Value) (c:List Nat) (s1:Value) (d:List Nat),cs=[b,s1]∧F=c++(d)∧RSl (RI .i64) 1 a c b x.Ids∧RSl (RI .i64) 1 a d s1 x.Hits
theorem cL.lasts:bQ cL:=fun X i j F cs x b a ⟨d,e,s1,f,g,c,h,h1⟩=>by
  rw[c] at a
  exact⟨d,e,s1,f,g,c,h.frame RI.lasts b (fun k hk=>a k (by simp[hk])),h1.frame RI.lasts b (fun k hk=>a k (by simp[hk]))⟩
instance:LS cL:=⟨cL.lasts⟩
theorem cL.knows:cZ cL:=fun c F cs x ⟨d,e,s1,f,g,a,b,h1⟩=>a ▸ (b.kn.app h1.kn)
theorem cL.one:fP cL:=fun _ _ _ _ h=>by obtain⟨b,c,s1,d,rfl,-,a,h1⟩:=h;exact One.all ⟨a.one,h1.one,trivial⟩
def aF (b:Hp) (F:List Nat) (cs:List Value) (x:ah):Prop:=
  ∃ (a:Value) (s1:Value),cs=[a,s1]∧F=(ob a++[])++((ob s1++[]))∧OSl (RI .i64) 3 1 b [] a x.Ids∧OSl (RI .i64) 3 1 b [] s1 x.Hits
theorem aF.lasts:bQ aF:=fun X g h F cs x b a ⟨d,s1,e,c,f,h1⟩=>by
  rw[c] at a
  exact⟨d,s1,e,c,f.frame RI.lasts b (fun k hk=>a k (by simp[hk])) (Dj.nil _),h1.frame RI.lasts b (fun k hk=>a k (by simp[hk])) (Dj.nil _)⟩
instance:LS aF:=⟨aF.lasts⟩
theorem aF.knows:cZ aF:=fun c F cs x ⟨d,s1,e,b,a,h1⟩=>b ▸ ((a.knO.app a.kn).app (h1.knO.app h1.kn))
theorem aF.one:fP aF:=fun _ _ _ _ h=>by obtain⟨b,s1,rfl,-,a,h1⟩:=h;exact One.all ⟨a.one,h1.one,trivial⟩
theorem aF.gives:dQ aF cL:=fun e F cs x ⟨a,s1,b,c,d,h1⟩=>⟨a,ob a++[],s1,ob s1++[],b,c,d.rslG (dQ.refl _),h1.rslG (dQ.refl _)⟩
structure ao where
  Toks:(List ah)
  deriving DecidableEq
def gV (c:Hp) (F:List Nat) (cs:List Value) (x:ao):Prop:=
  ∃ (a:Value) (b:List Nat),cs=[a]∧F=b∧RSl cL 2 c b a x.Toks
theorem gV.lasts:bQ gV:=fun X h i F cs x c a ⟨d,e,f,b,g⟩=>by
  rw[b] at a
  exact⟨d,e,f,b,g.frame cL.lasts c (fun k hk=>a k (by simp[hk]))⟩
instance:LS gV:=⟨gV.lasts⟩
theorem gV.knows:cZ gV:=fun c F cs x ⟨d,e,f,a,b⟩=>a ▸ b.kn
theorem gV.one:fP gV:=fun _ _ _ _ h=>by obtain⟨b,c,rfl,-,a⟩:=h;exact One.all ⟨a.one,trivial⟩
def aT (c:Hp) (F:List Nat) (cs:List Value) (x:ao):Prop:=
  ∃ (a:Value) (b:List Nat),cs=[a]∧F=(ob a++b)∧OSl aF 105 2 c b a x.Toks
theorem aT.lasts:bQ aT:=fun X h i F cs x c a ⟨d,e,f,b,g⟩=>by
  rw[b] at a
  exact⟨d,e,f,b,g.frame aF.lasts c (fun k hk=>a k (by simp[hk])) (fun k hk=>a k (by simp[hk]))⟩
instance:LS aT:=⟨aT.lasts⟩
theorem aT.knows:cZ aT:=fun c F cs x ⟨d,e,f,b,a⟩=>b ▸ (a.knO.app a.kn)
theorem aT.one:fP aT:=fun _ _ _ _ h=>by obtain⟨b,c,rfl,-,a⟩:=h;exact One.all ⟨a.one,trivial⟩
theorem aT.gives:dQ aT gV:=fun f F cs x ⟨a,b,c,d,e⟩=>⟨a,ob a++b,c,d,e.rslG aF.gives⟩
structure aP where
  Levels:(List ao)
  deriving DecidableEq
def lw (c:Hp) (F:List Nat) (cs:List Value) (x:aP):Prop:=
  ∃ (a:Value) (b:List Nat),cs=[a]∧F=b∧RSl gV 1 c b a x.Levels
theorem lw.lasts:bQ lw:=fun X h i F cs x c a ⟨d,e,f,b,g⟩=>by
  rw[b] at a
  exact⟨d,e,f,b,g.frame gV.lasts c (fun k hk=>a k (by simp[hk]))⟩
instance:LS lw:=⟨lw.lasts⟩
theorem lw.knows:cZ lw:=fun c F cs x ⟨d,e,f,a,b⟩=>a ▸ b.kn
theorem lw.one:fP lw:=fun _ _ _ _ h=>by obtain⟨b,c,rfl,-,a⟩:=h;exact One.all ⟨a.one,trivial⟩
def bc (c:Hp) (F:List Nat) (cs:List Value) (x:aP):Prop:=
  ∃ (a:Value) (b:List Nat),cs=[a]∧F=(ob a++b)∧OSl aT 103 1 c b a x.Levels
theorem bc.lasts:bQ bc:=fun X h i F cs x c a ⟨d,e,f,b,g⟩=>by
  rw[b] at a
  exact⟨d,e,f,b,g.frame aT.lasts c (fun k hk=>a k (by simp[hk])) (fun k hk=>a k (by simp[hk]))⟩
instance:LS bc:=⟨bc.lasts⟩
theorem bc.knows:cZ bc:=fun c F cs x ⟨d,e,f,b,a⟩=>b ▸ (a.knO.app a.kn)
theorem bc.one:fP bc:=fun _ _ _ _ h=>by obtain⟨b,c,rfl,-,a⟩:=h;exact One.all ⟨a.one,trivial⟩
theorem bc.gives:dQ bc lw:=fun f F cs x ⟨a,b,c,d,e⟩=>⟨a,ob a++b,c,d,e.rslG aT.gives⟩
structure aI where
  Alphas:(List bm)
  Rules:(List aP)
  deriving DecidableEq
def uR (a:Hp) (F:List Nat) (cs:List Value) (x:aI):Prop:=
  ∃ (b:Value) (c:List Nat) (s1:Value) (d:List Nat),cs=[b,s1]∧F=c++(d)∧RSl iv 1 a c b x.Alphas∧RSl lw 1 a d s1 x.Rules
theorem uR.lasts:bQ uR:=fun X i j F cs x b a ⟨d,e,s1,f,g,c,h,h1⟩=>by
  rw[c] at a
  exact⟨d,e,s1,f,g,c,h.frame iv.lasts b (fun k hk=>a k (by simp[hk])),h1.frame lw.lasts b (fun k hk=>a k (by simp[hk]))⟩
instance:LS uR:=⟨uR.lasts⟩
theorem uR.knows:cZ uR:=fun c F cs x ⟨d,e,s1,f,g,a,b,h1⟩=>a ▸ (b.kn.app h1.kn)
theorem uR.one:fP uR:=fun _ _ _ _ h=>by obtain⟨b,c,s1,d,rfl,-,a,h1⟩:=h;exact One.all ⟨a.one,h1.one,trivial⟩
def tU (b:Hp) (F:List Nat) (cs:List Value) (x:aI):Prop:=
  ∃ (a:Value) (c:List Nat) (s1:Value) (d:List Nat),cs=[a,s1]∧F=(ob a++c)++((ob s1++d))∧OSl bk 133 1 b c a x.Alphas∧OSl bc 100 1 b d s1 x.Rules
theorem tU.lasts:bQ tU:=fun X i j F cs x b a ⟨d,e,s1,f,g,c,h,h1⟩=>by
  rw[c] at a
  exact⟨d,e,s1,f,g,c,h.frame bk.lasts b (fun k hk=>a k (by simp[hk])) (fun k hk=>a k (by simp[hk])),h1.frame bc.lasts b (fun k hk=>a k (by simp[hk])) (fun k hk=>a k (by simp[hk]))⟩
instance:LS tU:=⟨tU.lasts⟩
theorem tU.knows:cZ tU:=fun c F cs x ⟨d,e,s1,f,g,b,a,h1⟩=>b ▸ ((a.knO.app a.kn).app (h1.knO.app h1.kn))
theorem tU.one:fP tU:=fun _ _ _ _ h=>by obtain⟨b,c,s1,d,rfl,-,a,h1⟩:=h;exact One.all ⟨a.one,h1.one,trivial⟩
theorem tU.gives:dQ tU uR:=fun g F cs x ⟨a,b,s1,c,d,e,f,h1⟩=>⟨a,ob a++b,s1,ob s1++c,d,e,f.rslG bk.gives,h1.rslG bc.gives⟩
structure cQ where
  pos:(List au)
  neg:(List au)
  chain:aR
  alphas:(List bm)
  s:ag
  id:Int
  deriving DecidableEq
def m1 (a:Hp) (F:List Nat) (cs:List Value) (x:cQ):Prop:=
  ∃ (b:Value) (c:List Nat) (s1:Value) (d:List Nat) (s2:Value) (e:List Nat) (f:Value) (g:List Nat) (h:Value) (i:List Nat) (j:Value) (k:List Nat),cs=[b,s1,s2,f,h,j,.int .i64 x.s.Next,.int .i64 x.id]∧F=c++(d++(e++(g++(i++(k)))))∧RSl bN 3 a c b x.pos∧RSl bN 3 a d s1 x.neg∧RSl (RI .i64) 1 a e s2 x.chain.Pos∧RSl (RI .i64) 1 a g f x.chain.Neg∧RSl iv 1 a i h x.alphas∧RSl bj 3 a k j x.s.Items
theorem m1.lasts:bQ m1:=fun X u v F cs x b a ⟨d,e,s1,f,s2,g,h,i,j,l,m,n,o,c,p,h1,q,r,s,t⟩=>by
  rw[c] at a
  exact⟨d,e,s1,f,s2,g,h,i,j,l,m,n,o,c,p.frame bN.lasts b (fun k hk=>a k (by simp[hk])),h1.frame bN.lasts b (fun k hk=>a k (by simp[hk])),q.frame RI.lasts b (fun k hk=>a k (by simp[hk])),r.frame RI.lasts b (fun k hk=>a k (by simp[hk])),s.frame iv.lasts b (fun k hk=>a k (by simp[hk])),t.frame bj.lasts b (fun k hk=>a k (by simp[hk]))⟩
instance:LS m1:=⟨m1.lasts⟩
theorem m1.knows:cZ m1:=fun g F cs x ⟨h,i,s1,j,s2,k,l,m,n,o,p,q,r,a,b,h1,c,d,e,f⟩=>a ▸ (b.kn.app (h1.kn.app (c.kn.app (d.kn.app (e.kn.app f.kn)))))
theorem m1.one:fP m1:=fun _ _ _ _ h=>by obtain⟨f,g,s1,i,s2,j,k,l,m,n,o,p,rfl,-,a,h1,b,c,d,e⟩:=h;exact One.all ⟨a.one,h1.one,b.one,c.one,d.one,e.one,rfl,rfl,trivial⟩
def kH (a:Hp) (F:List Nat) (cs:List Value) (x:cQ):Prop:=
  ∃ (b:Value) (f:List Nat) (s1:Value) (g:List Nat) (s2:Value) (c:Value) (d:Value) (h:List Nat) (e:Value) (i:List Nat),cs=[b,s1,s2,c,d,e,.int .i64 x.s.Next,.int .i64 x.id]∧F=(ob b++f)++((ob s1++g)++((ob s2++[])++((ob c++[])++((ob d++h)++((ob e++i))))))∧OSl cJ 201 3 a f b x.pos∧OSl cJ 201 3 a g s1 x.neg∧OSl (RI .i64) 3 1 a [] s2 x.chain.Pos∧OSl (RI .i64) 3 1 a [] c x.chain.Neg∧OSl bk 133 1 a h d x.alphas∧OSl fK 66 3 a i e x.s.Items
theorem kH.lasts:bQ kH:=fun X s t F cs x b a ⟨d,e,s1,f,s2,g,h,i,j,l,m,c,n,h1,o,p,q,r⟩=>by
  rw[c] at a
  exact⟨d,e,s1,f,s2,g,h,i,j,l,m,c,n.frame cJ.lasts b (fun k hk=>a k (by simp[hk])) (fun k hk=>a k (by simp[hk])),h1.frame cJ.lasts b (fun k hk=>a k (by simp[hk])) (fun k hk=>a k (by simp[hk])),o.frame RI.lasts b (fun k hk=>a k (by simp[hk])) (Dj.nil _),p.frame RI.lasts b (fun k hk=>a k (by simp[hk])) (Dj.nil _),q.frame bk.lasts b (fun k hk=>a k (by simp[hk])) (fun k hk=>a k (by simp[hk])),r.frame fK.lasts b (fun k hk=>a k (by simp[hk])) (fun k hk=>a k (by simp[hk]))⟩
instance:LS kH:=⟨kH.lasts⟩
theorem kH.knows:cZ kH:=fun g F cs x ⟨h,i,s1,j,s2,k,l,m,n,o,p,f,a,h1,b,c,d,e⟩=>f ▸ ((a.knO.app a.kn).app ((h1.knO.app h1.kn).app ((b.knO.app b.kn).app ((c.knO.app c.kn).app ((d.knO.app d.kn).app (e.knO.app e.kn))))))
theorem kH.one:fP kH:=fun _ _ _ _ h=>by obtain⟨f,g,s1,i,s2,j,k,l,m,n,rfl,-,a,h1,b,c,d,e⟩:=h;exact One.all ⟨a.one,h1.one,b.one,c.one,d.one,e.one,rfl,rfl,trivial⟩
theorem kH.gives:dQ kH m1:=fun p F cs x ⟨a,e,s1,f,s2,b,c,g,d,h,i,j,k,h1,l,m,n,o⟩=>⟨a,ob a++e,s1,ob s1++f,s2,ob s2++[],b,ob b++[],c,ob c++g,d,ob d++h,i,j,k.rslG cJ.gives,h1.rslG cJ.gives,l.rslG (dQ.refl _),m.rslG (dQ.refl _),n.rslG bk.gives,o.rslG fK.gives⟩
structure aq where
  Name:ByteArray
  V:bi
  deriving DecidableEq
def aB (a:Hp) (F:List Nat) (cs:List Value) (x:aq):Prop:=cs=[.string x.Name,.int .i64 x.V.K,.int .i64 x.V.N,.string x.V.S]∧F=[]
theorem aB.lasts:bQ aB:=fun _ _ _ _ _ _ _ _ h=>h
instance:LS aB:=⟨aB.lasts⟩
theorem aB.knows:cZ aB:=fun _ _ _ _ h=>h.2 ▸ Kw.nil
theorem aB.flat:vD aB:=fun _ _ _ _ h=>h.2
theorem aB.one:fP aB:=fun _ _ _ _ h=>by obtain⟨rfl,-⟩:=h;exact One.all ⟨rfl,rfl,rfl,rfl,trivial⟩
structure aj where
  Rule:Int
  Ids:(List Int)
  Binds:(List aq)
  deriving DecidableEq
def dH (a:Hp) (F:List Nat) (cs:List Value) (x:aj):Prop:=
  ∃ (b:Value) (c:List Nat) (s1:Value) (d:List Nat),cs=[.int .i64 x.Rule,b,s1]∧F=c++(d)∧RSl (RI .i64) 1 a c b x.Ids∧RSl aB 4 a d s1 x.Binds
theorem dH.lasts:bQ dH:=fun X i j F cs x b a ⟨d,e,s1,f,g,c,h,h1⟩=>by
  rw[c] at a
  exact⟨d,e,s1,f,g,c,h.frame RI.lasts b (fun k hk=>a k (by simp[hk])),h1.frame aB.lasts b (fun k hk=>a k (by simp[hk]))⟩
instance:LS dH:=⟨dH.lasts⟩
theorem dH.knows:cZ dH:=fun c F cs x ⟨d,e,s1,f,g,a,b,h1⟩=>a ▸ (b.kn.app h1.kn)
theorem dH.one:fP dH:=fun _ _ _ _ h=>by obtain⟨b,c,s1,d,rfl,-,a,h1⟩:=h;exact One.all ⟨rfl,a.one,h1.one,trivial⟩
def aD (b:Hp) (F:List Nat) (cs:List Value) (x:aj):Prop:=
  ∃ (a:Value) (s1:Value),cs=[.int .i64 x.Rule,a,s1]∧F=(ob a++[])++((ob s1++[]))∧OSl (RI .i64) 3 1 b [] a x.Ids∧OSl aB 97 4 b [] s1 x.Binds
theorem aD.lasts:bQ aD:=fun X g h F cs x b a ⟨d,s1,e,c,f,h1⟩=>by
  rw[c] at a
  exact⟨d,s1,e,c,f.frame RI.lasts b (fun k hk=>a k (by simp[hk])) (Dj.nil _),h1.frame aB.lasts b (fun k hk=>a k (by simp[hk])) (Dj.nil _)⟩
instance:LS aD:=⟨aD.lasts⟩
theorem aD.knows:cZ aD:=fun c F cs x ⟨d,s1,e,b,a,h1⟩=>b ▸ ((a.knO.app a.kn).app (h1.knO.app h1.kn))
theorem aD.one:fP aD:=fun _ _ _ _ h=>by obtain⟨b,s1,rfl,-,a,h1⟩:=h;exact One.all ⟨rfl,a.one,h1.one,trivial⟩
theorem aD.gives:dQ aD dH:=fun e F cs x ⟨a,s1,b,c,d,h1⟩=>⟨a,ob a++[],s1,ob s1++[],b,c,d.rslG (dQ.refl _),h1.rslG (dQ.refl _)⟩
def oG (x y:aq):Bool:=(seq x.Name y.Name && ((x.V.K == y.V.K) && ((x.V.N == y.V.N) && (seq x.V.S y.V.S && true))))

theorem uZ (x y:aq):oG x y=decide (x=y):=by
  obtain⟨a0,⟨a,b,a12⟩⟩:=x;obtain⟨b0,⟨c,d,e⟩⟩:=y
  rw[qu]
  simp only[oG,Aq,q7,gI,beq_iff_eq,decide_eq_true_eq,aq.mk.injEq,bi.mk.injEq,and_assoc]
structure a8 where
  b:(List Int)
  i:Int
  h:Int
  deriving DecidableEq
def oh (c:Hp) (F:List Nat) (cs:List Value) (x:a8):Prop:=
  ∃ (a:Value) (b:List Nat),cs=[a,.int .i64 x.i,.int .i64 x.h]∧F=b∧RSl (RI .u8) 1 c b a x.b
theorem oh.lasts:bQ oh:=fun X h i F cs x c a ⟨d,e,f,b,g⟩=>by
  rw[b] at a
  exact⟨d,e,f,b,g.frame RI.lasts c (fun k hk=>a k (by simp[hk]))⟩
instance:LS oh:=⟨oh.lasts⟩
theorem oh.knows:cZ oh:=fun c F cs x ⟨d,e,f,a,b⟩=>a ▸ b.kn
theorem oh.one:fP oh:=fun _ _ _ _ h=>by obtain⟨b,c,rfl,-,a⟩:=h;exact One.all ⟨a.one,rfl,rfl,trivial⟩
def mX (b:Hp) (F:List Nat) (cs:List Value) (x:a8):Prop:=
  ∃ (a:Value),cs=[a,.int .i64 x.i,.int .i64 x.h]∧F=(ob a++[])∧OSl (RI .u8) 5 1 b [] a x.b
theorem mX.lasts:bQ mX:=fun X g h F cs x c a ⟨d,e,b,f⟩=>by
  rw[b] at a
  exact⟨d,e,b,f.frame RI.lasts c (fun k hk=>a k (by simp[hk])) (Dj.nil _)⟩
instance:LS mX:=⟨mX.lasts⟩
theorem mX.knows:cZ mX:=fun c F cs x ⟨d,e,b,a⟩=>b ▸ (a.knO.app a.kn)
theorem mX.one:fP mX:=fun _ _ _ _ h=>by obtain⟨b,rfl,-,a⟩:=h;exact One.all ⟨a.one,rfl,rfl,trivial⟩
theorem mX.gives:dQ mX oh:=fun e F cs x ⟨a,b,c,d⟩=>⟨a,ob a++[],b,c,d.rslG (dQ.refl _)⟩
def wS (N:Nat) (a:(List Int)):Option (Bool):=
  some (decide (1048576 < (a.length:Int)))
def jZ (N:Nat) (a:Int):Option (Bool):=
  ((if decide (97≤a) then some (decide (a≤122)) else some false).bind fun b=>some b)
def qj (N:Nat) (a:Int):Option (Bool):=
  ((if decide (48≤a) then some (decide (a≤57)) else some false).bind fun b=>some b)
def iJ (N:Nat) (a:Int):Option (Bool):=
  ((jZ N a).bind fun b=>((if b then some true else ((qj N a).bind fun c=>some c)).bind fun d=>((if d then some true else some (decide (a=95))).bind fun e=>some e)))
def eU (N:Nat) (a:ByteArray):Nat→Int→Option (Bool)
  | 0,_=>none
  | k+1,s1=>
    (if decide (s1 < (a.size:Int)) then ((idx a.data.toList s1).bind fun b=>((iJ N (b.toNat:Int)).bind fun c=>(if !c then some false else ((eU N a k) (i64.wrap (s1+1)))))) else some true)
def mM (N:Nat) (a:ByteArray) (b:Int):Option (Bool):=
  (if decide (b < (a.size:Int)) then some false else eU N a N 0)
def gE (N:Nat) (a:ByteArray):Option (Bool):=
  ((if decide (0 < (a.size:Int)) then ((idx a.data.toList 0).bind fun b=>((jZ N (b.toNat:Int)).bind fun c=>some c)) else some false).bind fun d=>((if d then ((mM N a 12).bind fun e=>some e) else some false).bind fun f=>some f))
def cU (N:Nat) (a:Int) (b:Int) (c:Int):Option (Bool):=
  ((if decide (b≤a) then some (decide (a≤c)) else some false).bind fun d=>some d)
def dG (N:Nat) (a:ai):Nat→Int→Int→Option (Int)
  | 0,_,_=>none
  | k+1,s1,s2=>
    (if decide (s2 < (a.Pats.length:Int)) then ((idx a.Pats s2).bind fun b=>(if !b.Not then ((dG N a k) (i64.wrap (s1+1)) (i64.wrap (s2+1))) else ((dG N a k) s1 (i64.wrap (s2+1))))) else some s1)
def iY (N:Nat) (a:ai):Option (Int):=
  dG N a N 0 0
def lK (N:Nat) (a:bi):Option (Bool):=
  (if decide (a.K=1) then ((cU N a.N (-1000000000) 1000000000).bind fun b=>((if b then some (seq a.S (⟨#[]⟩:ByteArray)) else some false).bind fun c=>some c)) else (if decide (a.K=2) then ((if decide (a.N=0) then ((mM N a.S 20).bind fun d=>some d) else some false).bind fun e=>some e) else some false))
def lB (N:Nat) (a:Int):Option (Bool):=
  ((if decide (65≤a) then some (decide (a≤90)) else some false).bind fun b=>some b)
def gW (N:Nat) (a:ByteArray):Nat→Int→Option (Bool)
  | 0,_=>none
  | k+1,s1=>
    (if decide (s1 < (a.size:Int)) then ((idx a.data.toList s1).bind fun b=>((iJ N (b.toNat:Int)).bind fun c=>((if !c then ((idx a.data.toList s1).bind fun d=>((lB N (d.toNat:Int)).bind fun e=>some (!e))) else some false).bind fun f=>(if f then some false else ((gW N a k) (i64.wrap (s1+1))))))) else some true)
def qR (N:Nat) (a:ByteArray):Option (Bool):=
  ((if decide ((a.size:Int) < 1) then some true else some (decide (12 < (a.size:Int)))).bind fun b=>((if b then some true else ((idx a.data.toList 0).bind fun c=>((lB N (c.toNat:Int)).bind fun d=>some (!d)))).bind fun e=>(if e then some false else gW N a N 0)))
def oF (N:Nat) (a:bn):Option (Bool):=
  (if decide (a.K=1) then ((qR N a.S).bind fun b=>((if b then some (bq a.V (⟨0,0,(⟨#[]⟩:ByteArray)⟩:bi)) else some false).bind fun c=>some c)) else (if decide (a.K=2) then ((if seq a.S (⟨#[]⟩:ByteArray) then ((lK N a.V).bind fun d=>some d) else some false).bind fun e=>some e) else (if decide (a.K=3) then ((if seq a.S (⟨#[]⟩:ByteArray) then some (bq a.V (⟨0,0,(⟨#[]⟩:ByteArray)⟩:bi)) else some false).bind fun f=>some f) else some false)))
def gU (N:Nat) (a:au):Nat→Int→Option (Bool)
  | 0,_=>none
  | k+1,s1=>
    (if decide (s1 < (a.Args.length:Int)) then ((idx a.Args s1).bind fun b=>((oF N b).bind fun c=>(if !c then some false else ((gU N a k) (i64.wrap (s1+1)))))) else some true)
def qW (N:Nat) (a:au):Option (Bool):=
  ((gE N a.Kind).bind fun b=>((if !b then some true else some (decide (5 < (a.Args.length:Int)))).bind fun c=>(if c then some false else gU N a N 0)))
def eK (N:Nat) (a:ai):Nat→Int→Option (Bool)
  | 0,_=>none
  | k+1,s1=>
    (if decide (s1 < (a.Pats.length:Int)) then ((idx a.Pats s1).bind fun b=>((qW N b).bind fun c=>((if !c then some true else ((iY N a).bind fun d=>some (b.Not != (decide (d≤s1))))).bind fun e=>(if e then some false else ((eK N a k) (i64.wrap (s1+1))))))) else some true)
def oV (N:Nat) (a:ai):Option (Bool):=
  ((cU N (a.Pats.length:Int) 1 6).bind fun b=>((if !b then some true else ((iY N a).bind fun c=>((cU N c 1 3).bind fun d=>some (!d)))).bind fun e=>(if e then some false else eK N a N 0)))
def iX (N:Nat) (a:bn):Option (Bool):=
  ((if !decide (a.K=3) then ((oF N a).bind fun b=>some b) else some false).bind fun c=>some c)
def oQ (N:Nat) (a:ce):Option (Bool):=
  ((cU N a.Op 1 3).bind fun b=>((if b then ((iX N a.L).bind fun c=>some c) else some false).bind fun d=>((if d then ((iX N a.R).bind fun e=>some e) else some false).bind fun f=>some f)))
def ji (N:Nat) (a:bY) (s1:Bool):Option (Bool):=
  (if s1 then ((iX N a.L).bind fun b=>((if b then ((iX N a.R).bind fun c=>some c) else some false).bind fun d=>some d)) else some false)
def ph (N:Nat) (a:bY):Option (Bool):=
  (if seq a.Op (⟨#[]⟩:ByteArray) then ((iX N a.L).bind fun b=>((if b then some (nB a.R (⟨0,(⟨#[]⟩:ByteArray),(⟨0,0,(⟨#[]⟩:ByteArray)⟩:bi)⟩:bn)) else some false).bind fun c=>some c)) else (if seq a.Op (⟨#[43]⟩:ByteArray) then ji N a (seq a.Op (⟨#[43]⟩:ByteArray)) else ji N a (seq a.Op (⟨#[45]⟩:ByteArray))))
def eJ (N:Nat) (a:cA):Nat→Int→Option (Bool)
  | 0,_=>none
  | k+1,s1=>
    (if decide (s1 < (a.Args.length:Int)) then ((idx a.Args s1).bind fun b=>((ph N b).bind fun c=>(if !c then some false else ((eJ N a k) (i64.wrap (s1+1)))))) else some true)
def l6 (N:Nat) (a:cA):Option (Bool):=
  ((gE N a.Name).bind fun b=>((if !b then some true else some (decide (5 < (a.Args.length:Int)))).bind fun c=>(if c then some false else eJ N a N 0)))
def rU (N:Nat) (a:ByteArray):Option (Bool):=
  ((if seq a (⟨#[]⟩:ByteArray) then some true else ((gE N a).bind fun b=>some b)).bind fun c=>some c)
def kj (N:Nat) (a:cA) (b:Bool) (s1:Bool):Option (Bool):=
  (if s1 then ((if b then some (decide (a.N=0)) else some false).bind fun c=>((if c then some (seq a.Undo (⟨#[]⟩:ByteArray)) else some false).bind fun d=>some d)) else some false)
def qO (N:Nat) (a:cA):Option (Bool):=
  ((if seq a.Name (⟨#[]⟩:ByteArray) then some (decide ((a.Args.length:Int)=0)) else some false).bind fun b=>(if decide (a.Kind=1) then ((l6 N a).bind fun c=>((if c then some (decide (a.N=0)) else some false).bind fun d=>((if d then some (seq a.Undo (⟨#[]⟩:ByteArray)) else some false).bind fun e=>some e))) else (if decide (a.Kind=2) then ((if b then ((cU N a.N 0 7).bind fun f=>some f) else some false).bind fun g=>((if g then some (seq a.Undo (⟨#[]⟩:ByteArray)) else some false).bind fun h=>some h)) else (if decide (a.Kind=3) then ((l6 N a).bind fun i=>((if i then some (decide (a.N=0)) else some false).bind fun j=>((if j then ((rU N a.Undo).bind fun k=>some k) else some false).bind fun l=>some l))) else (if decide (a.Kind=4) then ((l6 N a).bind fun m=>((if m then ((cU N a.N 0 100000).bind fun n=>some n) else some false).bind fun o=>((if o then some (seq a.Undo (⟨#[]⟩:ByteArray)) else some false).bind fun p=>some p))) else (if decide (a.Kind=5) then kj N a b (decide (a.Kind=5)) else kj N a b (decide (a.Kind=6))))))))
def bu (N:Nat) (a:(List ByteArray)) (b:ByteArray):Nat→Int→Option (Int)
  | 0,_=>none
  | k+1,s1=>
    (if decide (s1 < (a.length:Int)) then ((idx a s1).bind fun c=>(if seq b c then some s1 else ((bu N a b k) (i64.wrap (s1+1))))) else some (-1))
def dd (N:Nat) (a:(List ByteArray)) (b:ByteArray):Option (Int):=
  bu N a b N 0
def bX (N:Nat) (a:(List ByteArray)) (b:ByteArray):Option (Bool):=
  ((dd N a b).bind fun c=>some (decide (0≤c)))
def nq (N:Nat) (a:(List ByteArray)) (b:ByteArray):Option ((List ByteArray)):=
  ((bX N a b).bind fun c=>(if c then some a else ((app a ([b]:List ByteArray)).bind fun d=>some d)))
def fm (N:Nat) (a:(List bn)):Nat→(List ByteArray)→Int→Option ((List ByteArray))
  | 0,_,_=>none
  | k+1,s1,s2=>
    (if decide (s2 < (a.length:Int)) then ((idx a s2).bind fun b=>(if decide (b.K=1) then ((nq N s1 b.S).bind fun c=>((fm N a k) c (i64.wrap (s2+1)))) else ((fm N a k) s1 (i64.wrap (s2+1))))) else some s1)
def jJ (N:Nat) (a:(List ByteArray)) (b:(List bn)):Option ((List ByteArray)):=
  fm N b N a 0
def fb (N:Nat) (a:ai):Nat→(List ByteArray)→Int→Option ((List ByteArray))
  | 0,_,_=>none
  | k+1,s1,s2=>
    (if decide (s2 < (a.Pats.length:Int)) then ((idx a.Pats s2).bind fun b=>(if !b.Not then ((jJ N s1 b.Args).bind fun c=>((fb N a k) c (i64.wrap (s2+1)))) else ((fb N a k) s1 (i64.wrap (s2+1))))) else some s1)
def lF (N:Nat) (a:ai):Option ((List ByteArray)):=
  fb N a N ([]:List ByteArray) 0
def eC (N:Nat) (c:Int) (d:(List ByteArray)→Int→Option ((List ByteArray))) (a:cA):Nat→(List ByteArray)→Int→Option ((List ByteArray))
  | 0,_,_=>none
  | k+1,e,b=>
    (if decide (b < (a.Args.length:Int)) then ((idx a.Args b).bind fun f=>((jJ N e ([f.L,f.R]:List bn)).bind fun g=>((eC N c d a k) g (i64.wrap (b+1))))) else (d e (i64.wrap (c+1))))
def d7 (N:Nat) (a:ai):Nat→(List ByteArray)→Int→Option ((List ByteArray))
  | 0,_,_=>none
  | k+1,c,b=>
    (if decide (b < (a.Acts.length:Int)) then ((idx a.Acts b).bind fun d=>eC N b (d7 N a k) d N c 0) else some c)
def fJ (N:Nat) (a:ai):Nat→(List ByteArray)→Int→Option ((List ByteArray))
  | 0,_,_=>none
  | k+1,s1,s2=>
    (if decide (s2 < (a.Conds.length:Int)) then ((idx a.Conds s2).bind fun b=>((jJ N s1 ([b.L,b.R]:List bn)).bind fun c=>((fJ N a k) c (i64.wrap (s2+1))))) else d7 N a N s1 0)
def m5 (N:Nat) (a:ai):Option ((List ByteArray)):=
  fJ N a N ([]:List ByteArray) 0
def eP (N:Nat) (c:(List ByteArray)) (a:(List ByteArray)):Nat→Int→Option (Bool)
  | 0,_=>none
  | k+1,b=>
    (if decide (b < (a.length:Int)) then ((idx a b).bind fun d=>((bX N c d).bind fun e=>(if !e then some false else ((eP N c a k) (i64.wrap (b+1)))))) else some true)
def f9 (N:Nat) (a:ai):Nat→Int→Option (Bool)
  | 0,_=>none
  | k+1,s2=>
    (if decide (s2 < (a.Acts.length:Int)) then ((idx a.Acts s2).bind fun b=>((qO N b).bind fun c=>((if !c then some true else ((if decide (b.Kind=2) then ((iY N a).bind fun d=>some (decide (d≤b.N))) else some false).bind fun e=>some e)).bind fun f=>(if f then some false else ((f9 N a k) (i64.wrap (s2+1))))))) else ((lF N a).bind fun g=>((m5 N a).bind fun h=>eP N g h N 0)))
def eY (N:Nat) (a:ai):Nat→Int→Option (Bool)
  | 0,_=>none
  | k+1,s1=>
    (if decide (s1 < (a.Conds.length:Int)) then ((idx a.Conds s1).bind fun b=>((oQ N b).bind fun c=>(if !c then some false else ((eY N a k) (i64.wrap (s1+1)))))) else f9 N a N 0)
def pR (N:Nat) (a:ai):Option (Bool):=
  ((gE N a.Name).bind fun b=>((if !b then some true else ((cU N a.Sal (-100) 100).bind fun c=>some (!c))).bind fun d=>((if d then some true else ((oV N a).bind fun e=>some (!e))).bind fun f=>(if f then some false else ((if decide (6 < (a.Conds.length:Int)) then some true else ((cU N (a.Acts.length:Int) 1 6).bind fun g=>some (!g))).bind fun h=>(if h then some false else eY N a N 0))))))
def bf (N:Nat) (a:(List ai)) (b:ai→Option (Bool)):Nat→Int→Option (Int)
  | 0,_=>none
  | k+1,s1=>
    (if decide (s1 < (a.length:Int)) then ((idx a s1).bind fun c=>((b c).bind fun d=>(if d then some s1 else ((bf N a b k) (i64.wrap (s1+1)))))) else some (-1))
def dl (N:Nat) (a:(List ai)) (b:ai→Option (Bool)):Option (Int):=
  bf N a b N 0
def jv (N:Nat) (a:ai) (b:ByteArray):Option (Bool):=
  some (seq a.Name b)
def oS (N:Nat) (a:bo) (b:ByteArray):Option (Int):=
  ((dl N a.Rules (fun a0=>jv N a0 b)).bind fun c=>some c)
def fV (N:Nat) (a:bo):Nat→Int→Option (Bool)
  | 0,_=>none
  | k+1,s1=>
    (if decide (s1 < (a.Rules.length:Int)) then ((idx a.Rules s1).bind fun b=>((pR N b).bind fun c=>((if !c then some true else ((oS N a b.Name).bind fun d=>some (!decide (d=s1)))).bind fun e=>(if e then some false else ((fV N a k) (i64.wrap (s1+1))))))) else some true)
def rq (N:Nat) (a:bo):Option (Bool):=
  ((gE N a.Name).bind fun b=>((if !b then some true else ((cU N (a.Rules.length:Int) 1 12).bind fun c=>some (!c))).bind fun d=>(if d then some false else fV N a N 0)))
def f7 (N:Nat) (a:aH):Nat→Int→Option (Bool)
  | 0,_=>none
  | k+1,s1=>
    (if decide (s1 < (a.Fields.length:Int)) then ((idx a.Fields s1).bind fun b=>((lK N b).bind fun c=>(if !c then some false else ((f7 N a k) (i64.wrap (s1+1)))))) else some true)
def oJ (N:Nat) (a:aH):Option (Bool):=
  ((gE N a.Kind).bind fun b=>((if !b then some true else some (decide (5 < (a.Fields.length:Int)))).bind fun c=>(if c then some false else f7 N a N 0)))
def bp (N:Nat) (a:(List bi)) (b:(List bi)):Nat→Int→Option (Bool)
  | 0,_=>none
  | k+1,s1=>
    (if decide (s1 < (a.length:Int)) then ((idx a s1).bind fun c=>((idx b s1).bind fun d=>(if !(bq c d) then some false else ((bp N a b k) (i64.wrap (s1+1)))))) else some true)
def bU (N:Nat) (a:(List bi)) (b:(List bi)):Option (Bool):=
  (if !decide ((a.length:Int)=(b.length:Int)) then some false else bp N a b N 0)
def m2 (N:Nat) (a:aH) (b:aH):Option (Bool):=
  ((if seq a.Kind b.Kind then ((bU N a.Fields b.Fields).bind fun c=>some c) else some false).bind fun d=>some d)
def eu (N:Nat) (s1:Int) (b:Int→Option (Bool)) (c:aw) (a:(List aw)):Nat→Int→Option (Bool)
  | 0,_=>none
  | k+1,s2=>
    (if decide (s2 < (a.length:Int)) then ((idx a s2).bind fun d=>((m2 N c.F d.F).bind fun e=>(if e then some false else ((eu N s1 b c a k) (i64.wrap (s2+1)))))) else (b (i64.wrap (s1+1))))
def d4 (N:Nat) (a:ag):Nat→Int→Option (Bool)
  | 0,_=>none
  | k+1,s1=>
    (if decide (s1 < (a.Items.length:Int)) then ((idx a.Items s1).bind fun b=>((oJ N b.F).bind fun c=>((if !c then some true else ((cU N b.Id 1 (i64.wrap (a.Next - 1))).bind fun d=>some (!d))).bind fun e=>((if e then some true else ((if decide (0 < s1) then ((idx a.Items (i64.wrap (s1 - 1))).bind fun f=>some (decide (b.Id≤f.Id))) else some false).bind fun g=>some g)).bind fun h=>(if h then some false else ((ssl a.Items 0 s1).bind fun i=>eu N s1 (d4 N a k) b i N 0)))))) else some true)
def nH (N:Nat) (a:ag):Option (Bool):=
  ((if decide (40 < (a.Items.length:Int)) then some true else ((cU N a.Next 1 1000000).bind fun b=>some (!b))).bind fun c=>(if c then some false else d4 N a N 0))
def fF (N:Nat) (a:(List bi)):Option ((List bi)):=
  ((app ([]:List bi) a).bind fun b=>some b)
def mb (N:Nat) (a:aH):Option (aH):=
  ((fF N a.Fields).bind fun b=>some (⟨a.Kind,b⟩:aH))
def fW (N:Nat) (a:ag) (b:Int):Nat→Int→Option (aH × Bool)
  | 0,_=>none
  | k+1,s1=>
    (if decide (s1 < (a.Items.length:Int)) then ((idx a.Items s1).bind fun c=>(if decide (c.Id=b) then ((mb N c.F).bind fun d=>some (d,true)) else ((fW N a b k) (i64.wrap (s1+1))))) else some ((⟨(⟨#[]⟩:ByteArray),[]⟩:aH),false))
def l9 (N:Nat) (a:ag) (b:Int):Option (aH × Bool):=
  fW N a b N 0
def ip (N:Nat) (a:ax) (b:aH):Nat→Int→Option (Bool)
  | 0,_=>none
  | k+1,s1=>
    (if decide (s1 < (a.At.length:Int)) then ((idx a.At s1).bind fun c=>((if decide (c < 0) then some true else some (decide ((b.Fields.length:Int)≤c))).bind fun d=>((if d then some true else some (decide ((a.Consts.length:Int)≤s1))).bind fun e=>((if e then some true else ((idx b.Fields c).bind fun f=>((idx a.Consts s1).bind fun g=>some (!(bq f g))))).bind fun h=>(if h then some false else ((ip N a b k) (i64.wrap (s1+1)))))))) else some true)
def pq (N:Nat) (a:ax) (b:aH):Option (Bool):=
  ((if !seq b.Kind a.Kind then some true else some (!decide ((b.Fields.length:Int)=a.N))).bind fun c=>(if c then some false else ip N a b N 0))
def iQ (N:Nat) (a:ai) (b:Bool):Nat→(List au)→Int→Option ((List au))
  | 0,_,_=>none
  | k+1,s1,s2=>
    (if decide (s2 < (a.Pats.length:Int)) then ((idx a.Pats s2).bind fun c=>(if (c.Not == b) then ((app s1 ([c]:List au)).bind fun d=>((iQ N a b k) d (i64.wrap (s2+1)))) else ((iQ N a b k) s1 (i64.wrap (s2+1))))) else some s1)
def rj (N:Nat) (a:ai) (b:Bool):Option ((List au)):=
  iQ N a b N ([]:List au) 0
def oq (N:Nat) (c:bo) (d:bO) (e:aI) (f:ag) (g:Int) (a:Int):Option (cQ):=
  ((idx c.Rules a).bind fun b=>((idx d.Chains a).bind fun h=>((rj N b false).bind fun i=>((rj N b true).bind fun j=>some (⟨i,j,h,e.Alphas,f,g⟩:cQ)))))
def bL (N:Nat) (a:(List aq)):Option ((List aq)):=
  ((app ([]:List aq) a).bind fun b=>some b)
def ik (N:Nat) (a:(List aq)) (b:ByteArray):Nat→Int→Option (bi × Bool)
  | 0,_=>none
  | k+1,s1=>
    (if decide (s1 < (a.length:Int)) then ((idx a s1).bind fun c=>(if seq c.Name b then some (c.V,true) else ((ik N a b k) (i64.wrap (s1+1))))) else some ((⟨0,0,(⟨#[]⟩:ByteArray)⟩:bi),false))
def pL (N:Nat) (a:(List aq)) (b:ByteArray):Option (bi × Bool):=
  ik N a b N 0
def dF (N:Nat) (a:au) (c:aH) (b:(List aq)):Nat→(List aq)→Int→Option ((List aq) × Bool)
  | 0,_,_=>none
  | k+1,s1,s2=>
    (if decide (s2 < (a.Args.length:Int)) then ((idx a.Args s2).bind fun d=>((idx c.Fields s2).bind fun e=>(if decide (d.K=2) then (if !(bq d.V e) then ((bL N b).bind fun g=>some (g,false)) else ((dF N a c b k) s1 (i64.wrap (s2+1)))) else (if decide (d.K=1) then ((pL N s1 d.S).bind fun f=>((if f.2 then some (!(bq f.1 e)) else some false).bind fun h=>(if h then ((bL N b).bind fun i=>some (i,false)) else (if !f.2 then ((app s1 ([(⟨d.S,e⟩:aq)]:List aq)).bind fun j=>((dF N a c b k) j (i64.wrap (s2+1)))) else ((dF N a c b k) s1 (i64.wrap (s2+1))))))) else ((dF N a c b k) s1 (i64.wrap (s2+1))))))) else some (s1,true))
def jb (N:Nat) (a:au) (b:aH) (c:(List aq)):Option ((List aq) × Bool):=
  ((if !seq b.Kind a.Kind then some true else some (!decide ((b.Fields.length:Int)=(a.Args.length:Int)))).bind fun d=>(if d then ((bL N c).bind fun e=>some (e,false)) else ((bL N c).bind fun f=>dF N a b c N f 0)))
def gB (N:Nat) (b:(List au)) (c:ag) (a:(List Int)):Nat→(List aq)→Int→Option ((List aq) × Bool)
  | 0,_,_=>none
  | k+1,s1,s2=>
    (if decide (s2 < (a.length:Int)) then ((idx a s2).bind fun f=>((l9 N c f).bind fun d=>(if !d.2 then some ([],false) else ((idx b s2).bind fun g=>((jb N g d.1 s1).bind fun e=>(if !e.2 then some ([],false) else ((gB N b c a k) e.1 (i64.wrap (s2+1))))))))) else some (s1,true))
def lv (N:Nat) (a:(List au)) (b:ag) (c:(List Int)):Option ((List aq) × Bool):=
  gB N a b c N ([]:List aq) 0
def co (N:Nat) (c:cQ) (d:Int) (e:aH × Bool) (s1:(List ah)) (s2:Int) (f:(List ah)→Int→Option ((List ah))) (g:ah) (h:(List aq) × Bool):Nat→(List Int)→Int→Option ((List ah))
  | 0,_,_=>none
  | k+1,b,a=>
    (if decide (a < (c.neg.length:Int)) then ((idx c.neg a).bind fun i=>((jb N i e.1 h.1).bind fun j=>(if j.2 then ((idx b a).bind fun l=>((idx b a).bind fun m=>((co N c d e s1 s2 f g h k) (b.set a.toNat (i64.wrap (l+d))) (i64.wrap (a+1))))) else ((co N c d e s1 s2 f g h k) b (i64.wrap (a+1)))))) else (f (s1.set s2.toNat (⟨g.Ids,b⟩:ah)) (i64.wrap (s2+1))))
def bM (N:Nat) (a:cQ) (b:(List ah)) (c:Int) (d:aH × Bool):Nat→(List ah)→Int→Option ((List ah))
  | 0,_,_=>none
  | k+1,s1,s2=>
    (if decide (s2 < (b.length:Int)) then ((idx s1 s2).bind fun e=>((lv N a.pos a.s e.Ids).bind fun f=>(if !f.2 then ((bM N a b c d k) s1 (i64.wrap (s2+1))) else co N a c d s1 s2 (bM N a b c d k) e f N e.Hits 0))) else some s1)
def gv (N:Nat) (a:cQ) (b:(List ah)) (c:Int):Option ((List ah)):=
  ((l9 N a.s a.id).bind fun d=>bM N a b c d N b 0)
def dS (N:Nat) (a:(List ah)):Option ((List ah)):=
  ((app ([]:List ah) a).bind fun b=>some b)
def dZ (N:Nat) (a:(List ah)):Option ((List ah)):=
  ((app ([]:List ah) a).bind fun b=>some b)
def iy (N:Nat) (a:(List Int)):Option ((List Int)):=
  ((app ([]:List Int) a).bind fun b=>some b)
def eV (N:Nat) (b:au) (a:ag) (c:(List aq)):Nat→Int→Int→Option (Int)
  | 0,_,_=>none
  | k+1,s1,s2=>
    (if decide (s2 < (a.Items.length:Int)) then ((idx a.Items s2).bind fun d=>((jb N b d.F c).bind fun e=>(if e.2 then ((eV N b a c k) (i64.wrap (s1+1)) (i64.wrap (s2+1))) else ((eV N b a c k) s1 (i64.wrap (s2+1)))))) else some s1)
def p8 (N:Nat) (a:au) (b:ag) (c:(List aq)):Option (Int):=
  eV N a b c N 0 0
def cu (N:Nat) (s1:(List ah)) (s2:Int) (a:(List ah)→Int→Option ((List ah))) (b:(List Int)) (c:(List Int)):Option ((List ah)):=
  ((app s1 ([(⟨b,c⟩:ah)]:List ah)).bind fun d=>(a d (i64.wrap (s2+1))))
def ct (N:Nat) (a:cQ) (s1:(List ah)) (s2:Int) (c:(List ah)→Int→Option ((List ah))) (d:(List Int)) (e:(List aq) × Bool):Nat→(List Int)→Int→Option ((List ah))
  | 0,_,_=>none
  | k+1,f,b=>
    (if decide (b < (a.neg.length:Int)) then ((idx a.neg b).bind fun g=>((p8 N g a.s e.1).bind fun h=>((app f ([h]:List Int)).bind fun i=>((ct N a s1 s2 c d e k) i (i64.wrap (b+1)))))) else cu N s1 s2 c d f)
def bE (N:Nat) (a:cQ) (c:(List Int)) (b:(List Int)):Nat→(List ah)→Int→Option ((List ah))
  | 0,_,_=>none
  | k+1,s1,s2=>
    (if decide (s2 < (b.length:Int)) then ((idx b s2).bind fun f=>((iy N c).bind fun g=>((app g ([f]:List Int)).bind fun d=>((lv N a.pos a.s d).bind fun e=>(if !e.2 then ((bE N a c b k) s1 (i64.wrap (s2+1))) else (if decide ((d.length:Int)=(a.pos.length:Int)) then ct N a s1 s2 (bE N a c b k) d e N ([]:List Int) 0 else cu N s1 s2 (bE N a c b k) d ([]:List Int))))))) else some s1)
def dX (N:Nat) (a:cQ) (b:(List Int)) (c:(List Int)):Option ((List ah)):=
  bE N a b c N ([]:List ah) 0
def cm (N:Nat) (s1:(List ao)) (a:Int) (d:(List ao)→(List ah)→(List ah)→Int→Option ((List ao))) (b:(List ah)):Option ((List ao)):=
  ((idx s1 a).bind fun c=>((dZ N c.Toks).bind fun e=>((app c.Toks b).bind fun f=>(d (s1.set a.toNat (⟨f⟩:ao)) e b (i64.wrap (a+1))))))
def cT (N:Nat) (a:cQ) (s1:(List ao)) (b:(List ah)) (c:Int) (e:(List ao)→(List ah)→(List ah)→Int→Option ((List ao))):Nat→(List ah)→Int→Option ((List ao))
  | 0,_,_=>none
  | k+1,f,d=>
    (if decide (d < (b.length:Int)) then ((idx b d).bind fun g=>((idx a.chain.Pos c).bind fun h=>((idx a.alphas h).bind fun i=>((dX N a g.Ids i.L).bind fun j=>((app f j).bind fun l=>((cT N a s1 b c e k) l (i64.wrap (d+1)))))))) else cm N s1 c e f)
def cS (N:Nat) (a:cQ) (s1:(List ao)) (s2:(List ah)) (c:(List ah)) (d:Int) (e:(List ao)→(List ah)→(List ah)→Int→Option ((List ao))):Nat→(List ah)→Int→Option ((List ao))
  | 0,_,_=>none
  | k+1,f,b=>
    (if decide (b < (s2.length:Int)) then ((idx s2 b).bind fun g=>((dX N a g.Ids ([a.id]:List Int)).bind fun h=>((app f h).bind fun i=>((cS N a s1 s2 c d e k) i (i64.wrap (b+1)))))) else cT N a s1 c d e N f 0)
def bK (N:Nat) (a:cQ) (c:(List ao)):Nat→(List ao)→(List ah)→(List ah)→Int→Option ((List ao))
  | 0,_,_,_,_=>none
  | k+1,s1,s2,d,b=>
    (if decide (b < (c.length:Int)) then (if decide (b=0) then ((dX N a [] ([a.id]:List Int)).bind fun e=>cm N s1 b (bK N a c k) e) else cS N a s1 s2 d b (bK N a c k) N ([]:List ah) 0) else some s1)
def gN (N:Nat) (b:cQ) (a:(List ao)):Option ((List ao)):=
  bK N b a N a ([]:List ah) ([]:List ah) 0
def ev (N:Nat) (d:bo) (e:bO) (f:aI) (g:ag) (h:Int) (s1:(List bm)):Nat→(List aP)→Int→Option ((List bm) × (List aP))
  | 0,_,_=>none
  | k+1,b,a=>
    (if decide (a < (f.Rules.length:Int)) then ((idx b a).bind fun c=>((oq N d e (⟨s1,b⟩:aI) g h a).bind fun i=>((idx c.Levels (i64.wrap ((c.Levels.length:Int) - 1))).bind fun j=>((gv N i j.Toks 1).bind fun l=>((gN N i (c.Levels.set (i64.wrap ((c.Levels.length:Int) - 1)).toNat (⟨l⟩:ao))).bind fun m=>((ev N d e f g h s1 k) (b.set a.toNat (⟨m⟩:aP)) (i64.wrap (a+1)))))))) else some (s1,b))
def ei (N:Nat) (d:bo) (a:bO) (b:aI) (e:ag) (c:Int) (f:aH × Bool):Nat→(List bm)→Int→Option ((List bm) × (List aP))
  | 0,_,_=>none
  | k+1,s1,s2=>
    (if decide (s2 < (a.Alphas.length:Int)) then ((idx a.Alphas s2).bind fun g=>((pq N g f.1).bind fun h=>(if h then ((idx s1 s2).bind fun i=>((app i.L ([c]:List Int)).bind fun j=>((ei N d a b e c f k) (s1.set s2.toNat (⟨j⟩:bm)) (i64.wrap (s2+1))))) else ((ei N d a b e c f k) s1 (i64.wrap (s2+1)))))) else ev N d a b e c s1 N b.Rules 0)
def ny (N:Nat) (d:bo) (e:bO) (a:aI) (b:ag) (c:Int):Option ((List bm) × (List aP)):=
  ((l9 N b c).bind fun f=>ei N d e a b c f N a.Alphas 0)
def cv (N:Nat) (a:(List Int)) (b:(List Int)):Nat→Int→Option (Bool)
  | 0,_=>none
  | k+1,s1=>
    (if decide (s1 < (a.length:Int)) then ((idx a s1).bind fun c=>((idx b s1).bind fun d=>(if !decide (c=d) then some false else ((cv N a b k) (i64.wrap (s1+1)))))) else some true)
def cn (N:Nat) (a:(List Int)) (b:(List Int)):Option (Bool):=
  (if !decide ((a.length:Int)=(b.length:Int)) then some false else cv N a b N 0)
def kL (N:Nat) (a:ax) (b:ax):Option (Bool):=
  ((if seq a.Kind b.Kind then some (decide (a.N=b.N)) else some false).bind fun c=>((if c then ((bU N a.Consts b.Consts).bind fun d=>some d) else some false).bind fun e=>((if e then ((cn N a.At b.At).bind fun f=>some f) else some false).bind fun g=>some g)))
def fc (N:Nat) (a:au):Nat→(List bi)→(List Int)→Int→Option (ax)
  | 0,_,_,_=>none
  | k+1,s1,s2,b=>
    (if decide (b < (a.Args.length:Int)) then ((idx a.Args b).bind fun c=>(if decide (c.K=2) then ((app s1 ([c.V]:List bi)).bind fun d=>((app s2 ([b]:List Int)).bind fun e=>((fc N a k) d e (i64.wrap (b+1))))) else ((fc N a k) s1 s2 (i64.wrap (b+1))))) else some (⟨a.Kind,(a.Args.length:Int),s1,s2⟩:ax))
def nO (N:Nat) (a:au):Option (ax):=
  fc N a N ([]:List bi) ([]:List Int) 0
def cX (N:Nat) (a:bO) (b:ax):Nat→Int→Option (Int × bO)
  | 0,_=>none
  | k+1,s1=>
    (if decide (s1 < (a.Alphas.length:Int)) then ((idx a.Alphas s1).bind fun d=>((kL N d b).bind fun e=>(if e then some (s1,a) else ((cX N a b k) (i64.wrap (s1+1)))))) else ((app a.Alphas ([b]:List ax)).bind fun c=>some (i64.wrap ((c.length:Int) - 1),(⟨c,a.Chains⟩:bO))))
def jh (N:Nat) (a:bO) (b:au):Option (Int × bO):=
  ((nO N b).bind fun c=>cX N a c N 0)
def fT (N:Nat) (s2:(List aR)) (d:Int) (e:(List ax)→(List aR)→Int→Option (bO)) (a:ai):Nat→(List ax)→(List Int)→(List Int)→Int→Option (bO)
  | 0,_,_,_,_=>none
  | k+1,h,f,g,b=>
    (if decide (b < (a.Pats.length:Int)) then ((idx a.Pats b).bind fun i=>((jh N (⟨h,s2⟩:bO) i).bind fun c=>(if i.Not then ((app f ([c.1]:List Int)).bind fun j=>((fT N s2 d e a k) c.2.Alphas j g (i64.wrap (b+1)))) else ((app g ([c.1]:List Int)).bind fun l=>((fT N s2 d e a k) c.2.Alphas f l (i64.wrap (b+1))))))) else ((app s2 ([(⟨g,f⟩:aR)]:List aR)).bind fun m=>(e h m (i64.wrap (d+1)))))
def eZ (N:Nat) (a:bo):Nat→(List ax)→(List aR)→Int→Option (bO)
  | 0,_,_,_=>none
  | k+1,s1,s2,b=>
    (if decide (b < (a.Rules.length:Int)) then ((idx a.Rules b).bind fun c=>fT N s2 b (eZ N a k) c N s1 ([]:List Int) ([]:List Int) 0) else some (⟨s1,s2⟩:bO))
def rk (N:Nat) (a:bo):Option (bO):=
  eZ N a N ([]:List ax) ([]:List aR) 0
def ic (N:Nat) (a:bO) (b:(List bm)):Nat→(List aP)→Int→Option (aI)
  | 0,_,_=>none
  | k+1,s1,s2=>
    (if decide (s2 < (a.Chains.length:Int)) then ((idx a.Chains s2).bind fun c=>((mk (⟨([]:List ah)⟩:ao) (c.Pos.length:Int)).bind fun d=>((app s1 ([(⟨d⟩:aP)]:List aP)).bind fun e=>((ic N a b k) e (i64.wrap (s2+1)))))) else some (⟨b,s1⟩:aI))
def pJ (N:Nat) (a:bO):Option (aI):=
  ((mk (⟨([]:List Int)⟩:bm) (a.Alphas.length:Int)).bind fun b=>ic N a b N ([]:List aP) 0)
def gZ (N:Nat) (c:bo) (a:ag) (d:bO):Nat→(List bm)→(List aP)→Int→Option (aI)
  | 0,_,_,_=>none
  | k+1,s1,s2,b=>
    (if decide (b < (a.Items.length:Int)) then ((idx a.Items b).bind fun f=>((ssl a.Items 0 (i64.wrap (b+1))).bind fun g=>((ny N c d (⟨s1,s2⟩:aI) (⟨g,a.Next⟩:ag) f.Id).bind fun e=>((gZ N c a d k) e.1 e.2 (i64.wrap (b+1)))))) else some (⟨s1,s2⟩:aI))
def tj (N:Nat) (a:bo) (d:ag):Option (aI):=
  ((rk N a).bind fun b=>((pJ N b).bind fun c=>gZ N a d b N c.Alphas c.Rules 0))
def aM (N:Nat) (a:(List bm)) (b:(List bm)) (c:bm→bm→Option (Bool)):Nat→Int→Option (Bool)
  | 0,_=>none
  | k+1,s1=>
    (if decide (s1 < (a.length:Int)) then ((idx a s1).bind fun d=>((idx b s1).bind fun e=>((c d e).bind fun f=>(if !f then some false else ((aM N a b c k) (i64.wrap (s1+1))))))) else some true)
def bA (N:Nat) (a:(List bm)) (b:(List bm)) (c:bm→bm→Option (Bool)):Option (Bool):=
  (if !decide ((a.length:Int)=(b.length:Int)) then some false else aM N a b c N 0)
def gz (N:Nat) (a:bm) (b:bm):Option (Bool):=
  ((cn N a.L b.L).bind fun c=>some c)
def aO (N:Nat) (a:(List aP)) (b:(List aP)) (c:aP→aP→Option (Bool)):Nat→Int→Option (Bool)
  | 0,_=>none
  | k+1,s1=>
    (if decide (s1 < (a.length:Int)) then ((idx a s1).bind fun d=>((idx b s1).bind fun e=>((c d e).bind fun f=>(if !f then some false else ((aO N a b c k) (i64.wrap (s1+1))))))) else some true)
def bB (N:Nat) (a:(List aP)) (b:(List aP)) (c:aP→aP→Option (Bool)):Option (Bool):=
  (if !decide ((a.length:Int)=(b.length:Int)) then some false else aO N a b c N 0)
def ay (N:Nat) (a:(List ao)) (b:(List ao)) (c:ao→ao→Option (Bool)):Nat→Int→Option (Bool)
  | 0,_=>none
  | k+1,s1=>
    (if decide (s1 < (a.length:Int)) then ((idx a s1).bind fun d=>((idx b s1).bind fun e=>((c d e).bind fun f=>(if !f then some false else ((ay N a b c k) (i64.wrap (s1+1))))))) else some true)
def bz (N:Nat) (a:(List ao)) (b:(List ao)) (c:ao→ao→Option (Bool)):Option (Bool):=
  (if !decide ((a.length:Int)=(b.length:Int)) then some false else ay N a b c N 0)
noncomputable def ep (N:Nat) (a:(List ah)) (b:ah→ah→Option (Int)):Option ((List ah)):=
  Bi a b
def gQ (N:Nat) (a:(List Int)):Nat→Int→Option (Int)
  | 0,_=>none
  | k+1,s1=>
    (if decide (s1 < (a.length:Int)) then ((idx a s1).bind fun b=>(if !decide (b=0) then some b else ((gQ N a k) (i64.wrap (s1+1))))) else some 0)
def lU (N:Nat) (a:(List Int)):Option (Int):=
  gQ N a N 0
def jd (N:Nat) (a:Int):Option (Bool):=
  some (!decide (a=a))
def gY (N:Nat) (a:Int) (b:Int):Option (Int):=
  ((jd N a).bind fun d=>((jd N b).bind fun c=>(if d then (if c then some 0 else some (-1)) else (if c then some 1 else (if decide (a < b) then some (-1) else (if decide (b < a) then some 1 else some 0))))))
def cg (N:Nat) (a:(List Int)) (b:(List Int)):Nat→Int→Option (Int)
  | 0,_=>none
  | k+1,s1=>
    (if decide (s1 < (a.length:Int)) then ((idx a s1).bind fun d=>(if decide ((b.length:Int)≤s1) then some 1 else ((idx b s1).bind fun e=>((gY N d e).bind fun c=>(if !decide (c=0) then some c else ((cg N a b k) (i64.wrap (s1+1)))))))) else (if decide ((a.length:Int) < (b.length:Int)) then some (-1) else some 0))
def eF (N:Nat) (a:(List Int)) (b:(List Int)):Option (Int):=
  cg N a b N 0
def cE (N:Nat) (a:ah) (b:ah):Option (Int):=
  ((eF N a.Ids b.Ids).bind fun c=>((eF N a.Hits b.Hits).bind fun d=>((lU N ([c,d]:List Int)).bind fun e=>some e)))
def aL (N:Nat) (a:(List ah)) (b:(List ah)) (c:ah→ah→Option (Bool)):Nat→Int→Option (Bool)
  | 0,_=>none
  | k+1,s1=>
    (if decide (s1 < (a.length:Int)) then ((idx a s1).bind fun d=>((idx b s1).bind fun e=>((c d e).bind fun f=>(if !f then some false else ((aL N a b c k) (i64.wrap (s1+1))))))) else some true)
def bS (N:Nat) (a:(List ah)) (b:(List ah)) (c:ah→ah→Option (Bool)):Option (Bool):=
  (if !decide ((a.length:Int)=(b.length:Int)) then some false else aL N a b c N 0)
def lC (N:Nat) (a:ah) (b:ah):Option (Bool):=
  ((cE N a b).bind fun c=>some (decide (c=0)))
noncomputable def ig (N:Nat) (a:ao) (b:ao):Option (Bool):=
  (if !decide ((a.Toks.length:Int)=(b.Toks.length:Int)) then some false else ((dS N a.Toks).bind fun c=>((dS N b.Toks).bind fun d=>((ep N c (cE N)).bind fun e=>((ep N d (cE N)).bind fun f=>((bS N e f (lC N)).bind fun g=>some g))))))
noncomputable def ff (N:Nat) (a:aP) (b:aP):Option (Bool):=
  ((bz N a.Levels b.Levels (ig N)).bind fun c=>some c)
noncomputable def nv (N:Nat) (a:aI) (b:aI):Option (Bool):=
  ((bA N a.Alphas b.Alphas (gz N)).bind fun c=>((if c then ((bB N a.Rules b.Rules (ff N)).bind fun d=>some d) else some false).bind fun e=>some e))
noncomputable def lR (N:Nat) (a:bo) (c:aI) (b:ag):Option (Bool):=
  ((rq N a).bind fun d=>(if d then ((nH N b).bind fun e=>(if e then ((tj N a b).bind fun f=>((nv N c f).bind fun g=>some g)) else some false)) else some false))
def aS (N:Nat) (a:(List aj)) (b:(List aj)) (c:aj→aj→Option (Bool)):Nat→Int→Option (Bool)
  | 0,_=>none
  | k+1,s1=>
    (if decide (s1 < (a.length:Int)) then ((idx a s1).bind fun d=>((idx b s1).bind fun e=>((c d e).bind fun f=>(if !f then some false else ((aS N a b c k) (i64.wrap (s1+1))))))) else some true)
def bd (N:Nat) (a:(List aj)) (b:(List aj)) (c:aj→aj→Option (Bool)):Option (Bool):=
  (if !decide ((a.length:Int)=(b.length:Int)) then some false else aS N a b c N 0)
def jz (N:Nat) (a:aj) (b:aj):Option (Bool):=
  ((if decide (a.Rule=b.Rule) then ((cn N a.Ids b.Ids).bind fun c=>some c) else some false).bind fun d=>some d)
def bJ (N:Nat) (a:(List aq)) (b:(List aq)):Nat→Int→Option (Bool)
  | 0,_=>none
  | k+1,s1=>
    (if decide (s1 < (a.length:Int)) then ((idx a s1).bind fun c=>((idx b s1).bind fun d=>(if !(oG c d) then some false else ((bJ N a b k) (i64.wrap (s1+1)))))) else some true)
def d9 (N:Nat) (a:(List aq)) (b:(List aq)):Option (Bool):=
  (if !decide ((a.length:Int)=(b.length:Int)) then some false else bJ N a b N 0)
def fk (N:Nat) (a:aj) (b:aj):Option (Bool):=
  ((jz N a b).bind fun c=>((if c then ((d9 N a.Binds b.Binds).bind fun d=>some d) else some false).bind fun e=>some e))
def lE (N:Nat) (a:(List aj)) (b:(List aj)):Option (Bool):=
  ((bd N a b (fk N)).bind fun c=>some c)
def j9 (N:Nat) (a:(List Int)):Nat→Int→Int→Option (a8)
  | 0,_,_=>none
  | k+1,s1,s2=>
    ((if decide (s2 < (a.length:Int)) then some (decide (s2 < 4000)) else some false).bind fun b=>(if b then ((idx a s2).bind fun c=>((j9 N a k) (xq .i64 (i64.wrap ((i64.wrap ((i64.wrap (s1*137))+(i64.wrap c)))+11)) 1073741823) (i64.wrap (s2+1)))) else some (⟨a,0,s1⟩:a8)))
def oI (N:Nat) (a:(List Int)):Option (a8):=
  j9 N a N (i64.wrap (354354+(a.length:Int))) 0
def jU (N:Nat) (a:a8):Option (Int × a8):=
  (if decide (a.i < (a.b.length:Int)) then ((idx a.b a.i).bind fun b=>some ((xq .i64 (i64.wrap ((xq .i64 (HU .i64 (Ex .i64 (i64.wrap ((i64.wrap (a.h*6364136223846793005))+1442695040888963407)) 33) (Ex .i64 (i64.wrap ((i64.wrap (a.h*6364136223846793005))+1442695040888963407)) 47)) 255)+(i64.wrap b))) 255),(⟨a.b,i64.wrap (a.i+1),i64.wrap ((i64.wrap (a.h*6364136223846793005))+1442695040888963407)⟩:a8))) else some ((xq .i64 (HU .i64 (Ex .i64 (i64.wrap ((i64.wrap (a.h*6364136223846793005))+1442695040888963407)) 33) (Ex .i64 (i64.wrap ((i64.wrap (a.h*6364136223846793005))+1442695040888963407)) 47)) 255),(⟨a.b,a.i,i64.wrap ((i64.wrap (a.h*6364136223846793005))+1442695040888963407)⟩:a8)))
def aV (N:Nat) (a:a8) (b:Int):Option (Int × a8):=
  (if decide (b≤0) then some (0,a) else (if decide (b≤256) then ((jU N a).bind fun c=>((EY c.1 b).bind fun g=>some (g,(⟨a.b,c.2.i,c.2.h⟩:a8)))) else ((jU N a).bind fun d=>((jU N (⟨a.b,d.2.i,d.2.h⟩:a8)).bind fun e=>((jU N (⟨a.b,e.2.i,e.2.h⟩:a8)).bind fun f=>((EY (i64.wrap ((i64.wrap ((i64.wrap (d.1*65536))+(i64.wrap (e.1*256))))+f.1)) b).bind fun h=>some (h,(⟨a.b,f.2.i,f.2.h⟩:a8))))))))
def cH (N:Nat) (b:a8) (c:(List ByteArray)):Option (ByteArray × a8):=
  ((aV N b (c.length:Int)).bind fun a=>((idx c a.1).bind fun d=>some (d,(⟨b.b,a.2.i,a.2.h⟩:a8))))
def cw (N:Nat) (b:a8) (c:Int):Option (Bool × a8):=
  ((aV N b c).bind fun a=>some (decide (a.1=0),(⟨b.b,a.2.i,a.2.h⟩:a8)))
def kg (N:Nat) (b:a8) (c:(List Int)):Option (Int × a8):=
  ((aV N b (c.length:Int)).bind fun a=>((idx c a.1).bind fun d=>some (d,(⟨b.b,a.2.i,a.2.h⟩:a8))))
def j0 (N:Nat) (a:(List ByteArray)) (b:ByteArray):Nat→Int→Option (Bool)
  | 0,_=>none
  | k+1,s1=>
    (if decide (s1 < (a.length:Int)) then ((idx a s1).bind fun c=>(if seq c b then some true else ((j0 N a b k) (i64.wrap (s1+1))))) else some false)
def mL (N:Nat) (a:(List ByteArray)) (b:ByteArray):Option (Bool):=
  j0 N a b N 0
def gp (N:Nat) (a:au):Nat→(List ByteArray)→Int→Option ((List ByteArray))
  | 0,_,_=>none
  | k+1,s1,s2=>
    (if decide (s2 < (a.Args.length:Int)) then ((idx a.Args s2).bind fun b=>((if decide (b.K=1) then ((idx a.Args s2).bind fun c=>((mL N s1 c.S).bind fun d=>some (!d))) else some false).bind fun e=>(if e then ((idx a.Args s2).bind fun f=>((app s1 ([f.S]:List ByteArray)).bind fun g=>((gp N a k) g (i64.wrap (s2+1))))) else ((gp N a k) s1 (i64.wrap (s2+1)))))) else some s1)
def pC (N:Nat) (a:au):Option ((List ByteArray)):=
  gp N a N ([]:List ByteArray) 0
def cY (N:Nat) (d:ai) (s2:Int) (e:(List ByteArray)→Int→Option ((List ByteArray))) (a:(List ByteArray)):Nat→(List ByteArray)→Int→Option ((List ByteArray))
  | 0,_,_=>none
  | k+1,c,b=>
    ((if decide (b < (a.length:Int)) then ((idx d.Pats s2).bind fun f=>some (!f.Not)) else some false).bind fun g=>(if g then ((idx a b).bind fun h=>((mL N c h).bind fun i=>(if !i then ((idx a b).bind fun j=>((app c ([j]:List ByteArray)).bind fun l=>((cY N d s2 e a k) l (i64.wrap (b+1))))) else ((cY N d s2 e a k) c (i64.wrap (b+1)))))) else (e c (i64.wrap (s2+1)))))
def cR (N:Nat) (a:ai):Nat→(List ByteArray)→Int→Option ((List ByteArray))
  | 0,_,_=>none
  | k+1,s1,s2=>
    (if decide (s2 < (a.Pats.length:Int)) then ((idx a.Pats s2).bind fun b=>((pC N b).bind fun c=>cY N a s2 (cR N a k) c N s1 0)) else some s1)
def iN (N:Nat) (a:ai):Option ((List ByteArray)):=
  cR N a N ([]:List ByteArray) 0
def dD (N:Nat) (a:ai):Nat→Int→Int→Option (Int)
  | 0,_,_=>none
  | k+1,s1,s2=>
    (if decide (s2 < (a.Pats.length:Int)) then ((idx a.Pats s2).bind fun b=>(if !b.Not then ((dD N a k) (i64.wrap (s1+1)) (i64.wrap (s2+1))) else ((dD N a k) s1 (i64.wrap (s2+1))))) else some s1)
def gT (N:Nat) (a:ai):Option (Int):=
  dD N a N 0 0
def jK (N:Nat) (a:a8):Option (bi × a8):=
  ((cw N a 2).bind fun b=>(if b.1 then ((aV N (⟨a.b,b.2.i,b.2.h⟩:a8) 3).bind fun c=>some ((⟨1,i64.wrap (1+c.1),(⟨#[]⟩:ByteArray)⟩:bi),(⟨a.b,c.2.i,c.2.h⟩:a8))) else ((cH N (⟨a.b,b.2.i,b.2.h⟩:a8) ([(⟨#[97]⟩:ByteArray),(⟨#[98]⟩:ByteArray)]:List ByteArray)).bind fun d=>some ((⟨2,0,d.1⟩:bi),(⟨a.b,d.2.i,d.2.h⟩:a8)))))
def rn (N:Nat) (a:bi):Option (bn):=
  some (⟨2,(⟨#[]⟩:ByteArray),a⟩:bn)
def qQ (N:Nat) (a:ByteArray):Option (bn):=
  some (⟨1,a,(⟨0,0,(⟨#[]⟩:ByteArray)⟩:bi)⟩:bn)
def ko (N:Nat) (b:a8):Option (bn × a8):=
  ((aV N b 6).bind fun a=>(if decide (a.1=0) then some ((⟨3,(⟨#[]⟩:ByteArray),(⟨0,0,(⟨#[]⟩:ByteArray)⟩:bi)⟩:bn),(⟨b.b,a.2.i,a.2.h⟩:a8)) else (if decide (a.1=1) then ((jK N (⟨b.b,a.2.i,a.2.h⟩:a8)).bind fun c=>((rn N c.1).bind fun e=>some (e,(⟨b.b,c.2.i,c.2.h⟩:a8)))) else ((cH N (⟨b.b,a.2.i,a.2.h⟩:a8) ([(⟨#[88]⟩:ByteArray),(⟨#[89]⟩:ByteArray),(⟨#[90]⟩:ByteArray),(⟨#[88]⟩:ByteArray)]:List ByteArray)).bind fun d=>((qQ N d.1).bind fun f=>some (f,(⟨b.b,d.2.i,d.2.h⟩:a8)))))))
def jA (N:Nat) (a:a8) (c:Bool) (d:ByteArray × a8) (s1:Int):Nat→(List bn)→Int→Int→Int→Option (au × a8)
  | 0,_,_,_,_=>none
  | k+1,s2,e,f,g=>
    (if decide (e < s1) then ((ko N (⟨a.b,f,g⟩:a8)).bind fun b=>((app s2 ([b.1]:List bn)).bind fun h=>((jA N a c d s1 k) h (i64.wrap (e+1)) b.2.i b.2.h))) else some ((⟨d.1,s2,c⟩:au),(⟨a.b,f,g⟩:a8)))
def kD (N:Nat) (b:a8) (c:Bool) (a:ByteArray × a8) (s1:Int):Option (au × a8):=
  jA N b c a s1 N ([]:List bn) 0 a.2.i a.2.h
def kZ (N:Nat) (a:a8) (c:Bool):Option (au × a8):=
  ((cH N a ([(⟨#[111,114,100,101,114]⟩:ByteArray),(⟨#[112,97,105,100]⟩:ByteArray),(⟨#[105,116,101,109]⟩:ByteArray),(⟨#[111,114,100,101,114]⟩:ByteArray)]:List ByteArray)).bind fun b=>(if seq b.1 (⟨#[105,116,101,109]⟩:ByteArray) then kD N a c b 2 else kD N a c b 1))
def lD (N:Nat) (a:a8):Option (bn × a8):=
  ((cw N a 3).bind fun b=>(if b.1 then ((jK N (⟨a.b,b.2.i,b.2.h⟩:a8)).bind fun c=>((rn N c.1).bind fun e=>some (e,(⟨a.b,c.2.i,c.2.h⟩:a8)))) else ((cH N (⟨a.b,b.2.i,b.2.h⟩:a8) ([(⟨#[88]⟩:ByteArray),(⟨#[89]⟩:ByteArray)]:List ByteArray)).bind fun d=>((qQ N d.1).bind fun f=>some (f,(⟨a.b,d.2.i,d.2.h⟩:a8))))))
def mV (N:Nat) (a:a8):Option (ce × a8):=
  ((aV N a 3).bind fun b=>((lD N (⟨a.b,b.2.i,b.2.h⟩:a8)).bind fun c=>((lD N (⟨a.b,c.2.i,c.2.h⟩:a8)).bind fun d=>some ((⟨i64.wrap (1+b.1),c.1,d.1⟩:ce),(⟨a.b,d.2.i,d.2.h⟩:a8)))))
def hY (N:Nat) (a:bn) (b:(List ByteArray)):Option (Bool):=
  ((if !decide (a.K=1) then some true else ((mL N b a.S).bind fun c=>some c)).bind fun d=>some d)
def lj (N:Nat) (b:bn) (a:(List ByteArray)):Option (bn):=
  ((hY N b a).bind fun c=>(if c then some b else (if decide ((a.length:Int)=0) then ((rn N (⟨1,1,(⟨#[]⟩:ByteArray)⟩:bi)).bind fun d=>some d) else ((idx a 0).bind fun e=>((qQ N e).bind fun f=>some f)))))
def mZ (N:Nat) (a:a8) (b:bn × a8) (s1:Int) (s2:Int) (c:ByteArray) (d:Int) (e:ByteArray) (f:Int) (g:Int) (h:ByteArray):Option (bY × a8):=
  some ((⟨c,b.1,(⟨d,e,(⟨f,g,h⟩:bi)⟩:bn)⟩:bY),(⟨a.b,s1,s2⟩:a8))
def oP (N:Nat) (b:a8):Option (bY × a8):=
  ((lD N b).bind fun d=>((cw N (⟨b.b,d.2.i,d.2.h⟩:a8) 4).bind fun c=>(if c.1 then ((cH N (⟨b.b,c.2.i,c.2.h⟩:a8) ([(⟨#[43]⟩:ByteArray),(⟨#[45]⟩:ByteArray)]:List ByteArray)).bind fun e=>((lD N (⟨b.b,e.2.i,e.2.h⟩:a8)).bind fun a=>mZ N b d a.2.i a.2.h e.1 a.1.K a.1.S a.1.V.K a.1.V.N a.1.V.S)) else mZ N b d c.2.i c.2.h (⟨#[]⟩:ByteArray) 0 (⟨#[]⟩:ByteArray) 0 0 (⟨#[]⟩:ByteArray))))
def n8 (N:Nat) (a:a8) (b:Int × a8) (c:ByteArray × a8) (d:(List bY)) (e:Int) (f:Int) (g:Int) (h:ByteArray):Option (cA × a8):=
  some ((⟨b.1,c.1,d,e,h⟩:cA),(⟨a.b,f,g⟩:a8))
def io (N:Nat) (a:a8) (c:Int × a8) (d:ByteArray × a8) (e:(List bY)) (f:Int) (i:Bool) (g:Int) (h:Int):Option (cA × a8):=
  (if i then ((cH N (⟨a.b,g,h⟩:a8) ([(⟨#[114,101,102,117,110,100]⟩:ByteArray),(⟨#[99,97,110,99,101,108]⟩:ByteArray)]:List ByteArray)).bind fun b=>n8 N a c d e f b.2.i b.2.h b.1) else n8 N a c d e f g h (⟨#[]⟩:ByteArray))
def jl (N:Nat) (a:a8) (b:Int × a8) (d:ByteArray × a8) (e:(List bY)) (f:Int) (g:Int) (h:Int):Option (cA × a8):=
  (if decide (b.1=3) then ((cw N (⟨a.b,f,g⟩:a8) 2).bind fun c=>io N a b d e h c.1 c.2.i c.2.h) else io N a b d e h false f g)
def jx (N:Nat) (a:a8) (b:Int × a8) (c:ByteArray × a8) (s2:Int):Nat→(List bY)→Int→Int→Int→Option (cA × a8)
  | 0,_,_,_,_=>none
  | k+1,d,i,e,f=>
    (if decide (i < s2) then ((oP N (⟨a.b,e,f⟩:a8)).bind fun g=>((app d ([g.1]:List bY)).bind fun j=>((jx N a b c s2 k) j (i64.wrap (i+1)) g.2.i g.2.h))) else (if decide (b.1=4) then ((kg N (⟨a.b,e,f⟩:a8) ([0,1,5,100000]:List Int)).bind fun h=>jl N a b c d h.2.i h.2.h h.1) else jl N a b c d e f 0))
def jy (N:Nat) (b:a8) (c:Int × a8) (a:ByteArray × a8) (s2:Int):Option (cA × a8):=
  jx N b c a s2 N ([]:List bY) 0 a.2.i a.2.h
def dv (N:Nat) (b:a8) (a:Int × a8) (s1:Bool):Option (cA × a8):=
  (if s1 then some ((⟨a.1,(⟨#[]⟩:ByteArray),[],0,(⟨#[]⟩:ByteArray)⟩:cA),(⟨b.b,a.2.i,a.2.h⟩:a8)) else ((cH N (⟨b.b,a.2.i,a.2.h⟩:a8) ([(⟨#[111,114,100,101,114]⟩:ByteArray),(⟨#[112,97,105,100]⟩:ByteArray),(⟨#[105,116,101,109]⟩:ByteArray),(⟨#[115,104,105,112]⟩:ByteArray),(⟨#[99,104,97,114,103,101]⟩:ByteArray)]:List ByteArray)).bind fun c=>(if seq c.1 (⟨#[105,116,101,109]⟩:ByteArray) then jy N b a c 2 else jy N b a c 1)))
def mU (N:Nat) (b:a8) (d:Int):Option (cA × a8):=
  ((kg N b ([1,1,2,3,3,4,5,6]:List Int)).bind fun a=>(if decide (a.1=2) then ((aV N (⟨b.b,a.2.i,a.2.h⟩:a8) d).bind fun c=>some ((⟨a.1,(⟨#[]⟩:ByteArray),[],c.1,(⟨#[]⟩:ByteArray)⟩:cA),(⟨b.b,c.2.i,c.2.h⟩:a8))) else (if decide (a.1=5) then dv N b a (decide (a.1=5)) else dv N b a (decide (a.1=6)))))
def gi (N:Nat) (e:(List ByteArray)) (f:(List cA)) (g:Int) (h:(List cA)→Int→Int→Int→Option (ai × a8)) (a:cA × a8):Nat→(List bY)→Int→Option (ai × a8)
  | 0,_,_=>none
  | k+1,d,b=>
    (if decide (b < (d.length:Int)) then ((idx d b).bind fun c=>((lj N c.L e).bind fun i=>(if !seq c.Op (⟨#[]⟩:ByteArray) then ((lj N c.R e).bind fun j=>((gi N e f g h a k) (d.set b.toNat (⟨c.Op,i,j⟩:bY)) (i64.wrap (b+1)))) else ((gi N e f g h a k) (d.set b.toNat (⟨c.Op,i,c.R⟩:bY)) (i64.wrap (b+1)))))) else ((app f ([(⟨a.1.Kind,a.1.Name,d,a.1.N,a.1.Undo⟩:cA)]:List cA)).bind fun l=>(h l (i64.wrap (g - 1)) a.2.i a.2.h)))
def gg (N:Nat) (a:a8) (b:ByteArray) (c:Int × a8) (d:(List au)) (g:(List ByteArray)) (e:(List ce)):Nat→(List cA)→Int→Int→Int→Option (ai × a8)
  | 0,_,_,_,_=>none
  | k+1,f,h,i,j=>
    (if decide (0 < h) then ((gT N (⟨b,c.1,d,e,f⟩:ai)).bind fun m=>((mU N (⟨a.b,i,j⟩:a8) m).bind fun l=>gi N g f h (gg N a b c d g e k) l N l.1.Args 0)) else some ((⟨b,c.1,d,e,f⟩:ai),(⟨a.b,i,j⟩:a8)))
def jr (N:Nat) (b:a8) (c:ByteArray) (d:Int × a8) (e:(List au)) (f:(List ByteArray)) (g:(List ce)) (h:Int) (i:Int):Option (ai × a8):=
  ((aV N (⟨b.b,h,i⟩:a8) 3).bind fun a=>gg N b c d e f g N ([]:List cA) (i64.wrap (1+a.1)) a.2.i a.2.h)
def jk (N:Nat) (c:a8) (e:ByteArray) (f:Int × a8) (g:(List au)) (h:Int) (i:Int):Option (ai × a8):=
  ((iN N (⟨e,f.1,g,[],[]⟩:ai)).bind fun d=>((cw N (⟨c.b,h,i⟩:a8) 3).bind fun a=>(if a.1 then ((mV N (⟨c.b,a.2.i,a.2.h⟩:a8)).bind fun b=>((lj N b.1.L d).bind fun j=>((lj N b.1.R d).bind fun k=>((app ([]:List ce) ([(⟨b.1.Op,j,k⟩:ce)]:List ce)).bind fun l=>jr N c e f g d l b.2.i b.2.h)))) else jr N c e f g d ([]:List ce) a.2.i a.2.h)))
def jw (N:Nat) (a:a8) (c:ByteArray) (d:Int × a8):Nat→(List au)→Int→Int→Int→Option (ai × a8)
  | 0,_,_,_,_=>none
  | k+1,s1,s2,g,h=>
    (if decide (0 < s2) then ((kZ N (⟨a.b,g,h⟩:a8) false).bind fun e=>((app s1 ([e.1]:List au)).bind fun i=>((jw N a c d k) i (i64.wrap (s2 - 1)) e.2.i e.2.h))) else ((cw N (⟨a.b,g,h⟩:a8) 3).bind fun b=>(if b.1 then ((kZ N (⟨a.b,b.2.i,b.2.h⟩:a8) true).bind fun f=>((app s1 ([f.1]:List au)).bind fun j=>jk N a c d j f.2.i f.2.h)) else jk N a c d s1 b.2.i b.2.h)))
def mG (N:Nat) (a:a8) (d:ByteArray):Option (ai × a8):=
  ((kg N a ([0,0,5,(-5),100]:List Int)).bind fun b=>((aV N (⟨a.b,b.2.i,b.2.h⟩:a8) 3).bind fun c=>jw N a d b N ([]:List au) (i64.wrap (1+c.1)) c.2.i c.2.h))
def iF (N:Nat) (b:a8) (d:ByteArray × a8):Nat→(List ai)→Int→Int→Int→Option (bo × a8)
  | 0,_,_,_,_=>none
  | k+1,s1,s2,e,f=>
    ((aV N (⟨b.b,e,f⟩:a8) 4).bind fun a=>((if decide (s2 < i64.wrap (1+a.1)) then some (decide (s2 < 4)) else some false).bind fun g=>(if g then ((idx ([(⟨#[114,49]⟩:ByteArray),(⟨#[114,50]⟩:ByteArray),(⟨#[114,51]⟩:ByteArray),(⟨#[114,52]⟩:ByteArray)]:List ByteArray) s2).bind fun h=>((mG N (⟨b.b,a.2.i,a.2.h⟩:a8) h).bind fun c=>((app s1 ([c.1]:List ai)).bind fun i=>((iF N b d k) i (i64.wrap (s2+1)) c.2.i c.2.h)))) else some ((⟨d.1,s1⟩:bo),(⟨b.b,a.2.i,a.2.h⟩:a8)))))
def jY (N:Nat) (b:a8):Option (bo × a8):=
  ((cH N b ([(⟨#[102,108,111,119]⟩:ByteArray),(⟨#[115,104,105,112]⟩:ByteArray),(⟨#[120]⟩:ByteArray)]:List ByteArray)).bind fun a=>iF N b a N ([]:List ai) 0 a.2.i a.2.h)
def jm (N:Nat) (a:a8) (c:ByteArray × a8) (s2:Int):Nat→(List bi)→Int→Int→Int→Option (aH × a8)
  | 0,_,_,_,_=>none
  | k+1,d,e,f,g=>
    (if decide (e < s2) then ((jK N (⟨a.b,f,g⟩:a8)).bind fun b=>((app d ([b.1]:List bi)).bind fun h=>((jm N a c s2 k) h (i64.wrap (e+1)) b.2.i b.2.h))) else some ((⟨c.1,d⟩:aH),(⟨a.b,f,g⟩:a8)))
def kE (N:Nat) (a:a8) (b:ByteArray × a8) (s2:Int) (c:Int) (d:Int):Option (aH × a8):=
  jm N a b s2 N ([]:List bi) 0 c d
def iq (N:Nat) (b:a8) (c:ByteArray × a8) (s1:Int):Option (aH × a8):=
  ((cw N (⟨b.b,c.2.i,c.2.h⟩:a8) 12).bind fun a=>(if a.1 then ((aV N (⟨b.b,a.2.i,a.2.h⟩:a8) 6).bind fun d=>kE N b c d.1 d.2.i d.2.h) else kE N b c s1 a.2.i a.2.h))
def kY (N:Nat) (a:a8):Option (aH × a8):=
  ((cH N a ([(⟨#[111,114,100,101,114]⟩:ByteArray),(⟨#[112,97,105,100]⟩:ByteArray),(⟨#[105,116,101,109]⟩:ByteArray),(⟨#[111,114,100,101,114]⟩:ByteArray)]:List ByteArray)).bind fun b=>(if seq b.1 (⟨#[105,116,101,109]⟩:ByteArray) then iq N a b 2 else iq N a b 1))
def eW (N:Nat) (a:ag) (b:Int):Nat→(List aw)→Int→Option (Bool × ag)
  | 0,_,_=>none
  | k+1,s1,s2=>
    (if decide (s2 < (a.Items.length:Int)) then ((idx a.Items s2).bind fun c=>(if !decide (c.Id=b) then ((idx a.Items s2).bind fun d=>((app s1 ([d]:List aw)).bind fun e=>((eW N a b k) e (i64.wrap (s2+1))))) else ((eW N a b k) s1 (i64.wrap (s2+1))))) else some (decide ((s1.length:Int) < (a.Items.length:Int)),(⟨s1,a.Next⟩:ag)))
def mP (N:Nat) (a:ag) (b:Int):Option (Bool × ag):=
  eW N a b N ([]:List aw) 0
def ee (N:Nat) (a:(List bi)) (b:(List bi)):Nat→Int→Option (Bool)
  | 0,_=>none
  | k+1,s1=>
    (if decide (s1 < (a.length:Int)) then ((idx a s1).bind fun c=>((idx b s1).bind fun d=>(if !(bq c d) then some false else ((ee N a b k) (i64.wrap (s1+1)))))) else some true)
def iE (N:Nat) (a:(List bi)) (b:(List bi)):Option (Bool):=
  (if !decide ((a.length:Int)=(b.length:Int)) then some false else ee N a b N 0)
def lY (N:Nat) (a:aH) (b:aH):Option (Bool):=
  ((if seq a.Kind b.Kind then ((iE N a.Fields b.Fields).bind fun c=>some c) else some false).bind fun d=>some d)
def iP (N:Nat) (a:ag) (b:aH):Nat→Int→Option (Int)
  | 0,_=>none
  | k+1,s1=>
    (if decide (s1 < (a.Items.length:Int)) then ((idx a.Items s1).bind fun c=>((lY N c.F b).bind fun d=>(if d then ((idx a.Items s1).bind fun e=>some e.Id) else ((iP N a b k) (i64.wrap (s1+1)))))) else some 0)
def pN (N:Nat) (a:ag) (b:aH):Option (Int):=
  iP N a b N 0
def jS (N:Nat) (a:aH):Option (aH):=
  ((app ([]:List bi) a.Fields).bind fun b=>some (⟨a.Kind,b⟩:aH))
def j7 (N:Nat) (a:ag) (b:aH):Option (Int × ag):=
  ((pN N a b).bind fun c=>(if decide (0 < c) then some (c,a) else ((if decide (40≤(a.Items.length:Int)) then some true else some (decide (1000000≤a.Next))).bind fun d=>(if d then some (0,a) else ((jS N b).bind fun e=>((app a.Items ([(⟨a.Next,e⟩:aw)]:List aw)).bind fun f=>some (i64.wrap ((i64.wrap (a.Next+1)) - 1),(⟨f,i64.wrap (a.Next+1)⟩:ag))))))))
def fZ (N:Nat) (a:a8):Nat→(List aw)→Int→Int→Int→Int→Option (ag × a8)
  | 0,_,_,_,_,_=>none
  | k+1,s1,s2,f,g,c=>
    (if decide (0 < s2) then ((cw N (⟨a.b,f,g⟩:a8) 5).bind fun b=>((if b.1 then some (decide (0 < (s1.length:Int))) else some false).bind fun j=>(if j then ((aV N (⟨a.b,b.2.i,b.2.h⟩:a8) (s1.length:Int)).bind fun d=>((idx s1 d.1).bind fun l=>((mP N (⟨s1,c⟩:ag) l.Id).bind fun h=>((fZ N a k) h.2.Items (i64.wrap (s2 - 1)) d.2.i d.2.h h.2.Next)))) else ((kY N (⟨a.b,b.2.i,b.2.h⟩:a8)).bind fun e=>((j7 N (⟨s1,c⟩:ag) e.1).bind fun i=>((fZ N a k) i.2.Items (i64.wrap (s2 - 1)) e.2.i e.2.h i.2.Next)))))) else some ((⟨s1,c⟩:ag),(⟨a.b,f,g⟩:a8)))
def pT (N:Nat) (b:a8):Option (ag × a8):=
  ((aV N b 9).bind fun a=>fZ N b N ([]:List aw) a.1 a.2.i a.2.h 1)
def ia (N:Nat) (a:(List aq)) (b:ByteArray):Nat→Int→Option (bi × Bool)
  | 0,_=>none
  | k+1,s1=>
    (if decide (s1 < (a.length:Int)) then ((idx a s1).bind fun c=>(if seq c.Name b then ((idx a s1).bind fun d=>some (d.V,true)) else ((ia N a b k) (i64.wrap (s1+1))))) else some ((⟨0,0,(⟨#[]⟩:ByteArray)⟩:bi),false))
def mw (N:Nat) (a:(List aq)) (b:ByteArray):Option (bi × Bool):=
  ia N a b N 0
def fL (N:Nat) (c:au) (b:aH) (d:(List aq)):Nat→(List aq)→Int→Option ((List aq) × Bool)
  | 0,_,_=>none
  | k+1,s1,s2=>
    (if decide (s2 < (c.Args.length:Int)) then ((idx c.Args s2).bind fun a=>((mw N s1 a.S).bind fun e=>((if decide (a.K=2) then ((idx b.Fields s2).bind fun f=>some (!(bq a.V f))) else some false).bind fun g=>((if g then some true else ((if decide (a.K=1) then some e.2 else some false).bind fun h=>((if h then ((idx b.Fields s2).bind fun i=>some (!(bq e.1 i))) else some false).bind fun j=>some j))).bind fun l=>(if l then ((app ([]:List aq) d).bind fun m=>some (m,false)) else ((if decide (a.K=1) then some (!e.2) else some false).bind fun n=>(if n then ((idx b.Fields s2).bind fun o=>((app s1 ([(⟨a.S,o⟩:aq)]:List aq)).bind fun p=>((fL N c b d k) p (i64.wrap (s2+1))))) else ((fL N c b d k) s1 (i64.wrap (s2+1)))))))))) else some (s1,true))
def gS (N:Nat) (a:au) (b:aH) (c:(List aq)):Option ((List aq) × Bool):=
  ((app ([]:List aq) c).bind fun d=>((if !seq a.Kind b.Kind then some true else some (!decide ((a.Args.length:Int)=(b.Fields.length:Int)))).bind fun e=>(if e then some (d,false) else fL N a b c N d 0)))
def ek (N:Nat) (a:ai) (b:ag) (c:(List aq)) (s1:Int) (d:Int→Option (Bool)):Nat→Int→Option (Bool)
  | 0,_=>none
  | k+1,s2=>
    ((if decide (s2 < (b.Items.length:Int)) then ((idx a.Pats s1).bind fun e=>some e.Not) else some false).bind fun f=>(if f then ((idx a.Pats s1).bind fun g=>((idx b.Items s2).bind fun h=>((gS N g h.F c).bind fun i=>(if i.2 then some true else ((ek N a b c s1 d k) (i64.wrap (s2+1))))))) else (d (i64.wrap (s1+1)))))
def cB (N:Nat) (a:ai) (b:ag) (c:(List aq)):Nat→Int→Option (Bool)
  | 0,_=>none
  | k+1,s1=>
    (if decide (s1 < (a.Pats.length:Int)) then ek N a b c s1 (cB N a b c k) N 0 else some false)
def nC (N:Nat) (a:ai) (b:ag) (c:(List aq)):Option (Bool):=
  cB N a b c N 0
def mK (N:Nat) (a:bn) (c:(List aq)):Option (bi × Bool):=
  (if decide (a.K=2) then some (a.V,true) else (if decide (a.K=1) then ((mw N c a.S).bind fun b=>some (b.1,b.2)) else some ((⟨0,0,(⟨#[]⟩:ByteArray)⟩:bi),false)))
def nM (N:Nat) (a:bi) (b:bi):Option (Bool):=
  (if !decide (a.K=b.K) then some (decide (a.K < b.K)) else (if !decide (a.N=b.N) then some (decide (a.N < b.N)) else some (slt a.S b.S)))
def qZ (N:Nat) (a:ce) (d:(List aq)):Option (Bool):=
  ((mK N a.L d).bind fun b=>((mK N a.R d).bind fun c=>((if !b.2 then some true else some (!c.2)).bind fun e=>(if e then some false else (if decide (a.Op=1) then some (bq b.1 c.1) else (if decide (a.Op=2) then some (!(bq b.1 c.1)) else (if decide (a.Op=3) then ((nM N b.1 c.1).bind fun f=>some f) else some false)))))))
def ft (N:Nat) (a:(List ce)) (b:(List aq)):Nat→Int→Option (Bool)
  | 0,_=>none
  | k+1,s1=>
    (if decide (s1 < (a.length:Int)) then ((idx a s1).bind fun c=>((qZ N c b).bind fun d=>(if !d then some false else ((ft N a b k) (i64.wrap (s1+1)))))) else some true)
def nP (N:Nat) (a:(List ce)) (b:(List aq)):Option (Bool):=
  ft N a b N 0
def mi (N:Nat) (s1:(List aj)):Option ((List aj)):=
  some s1
def lV (N:Nat) (a:Int) (b:(List aj)→Int→Option ((List aj))) (c:(List aj)):Option ((List aj)):=
  (b c (i64.wrap (a+1)))
def eo (N:Nat) (c:ai) (a:ag) (d:(List Int)) (e:(List aq)) (f:(List aj)→ai→ag→(List Int)→(List aq)→Option ((List aj))):Nat→(List aj)→Int→Option ((List aj))
  | 0,_,_=>none
  | k+1,s2,b=>
    (if decide (b < (a.Items.length:Int)) then ((idx c.Pats (d.length:Int)).bind fun h=>((idx a.Items b).bind fun i=>((gS N h i.F e).bind fun g=>(if g.2 then ((idx a.Items b).bind fun j=>((app ([]:List Int) d).bind fun l=>((app l ([j.Id]:List Int)).bind fun m=>((f s2 c a m g.1).bind fun n=>lV N b (eo N c a d e f k) n)))) else ((eo N c a d e f k) s2 (i64.wrap (b+1))))))) else some s2)
def fx:Nat→(List aj)→ai→ag→(List Int)→(List aq)→Option ((List aj))
  | 0,_,_,_,_,_=>none
  | N+1,c,a,e,d,b=>
    ((gT N a).bind fun f=>(if decide ((d.length:Int)=f) then ((nC N a e b).bind fun g=>((if !g then ((nP N a.Conds b).bind fun h=>some h) else some false).bind fun i=>(if i then ((app ([]:List Int) d).bind fun j=>((app ([]:List aq) b).bind fun k=>((app c ([(⟨0,j,k⟩:aj)]:List aj)).bind fun l=>mi N l))) else some c))) else eo N a e d b (fx N) N c 0))
def qP (N:Nat) (a:ai) (b:ag):Option ((List aj)):=
  ((fx N ([]:List aj) a b ([]:List Int) ([]:List aq)).bind fun c=>some c)
def jj (N:Nat) (s2:Int) (d:(List aj)→Int→Option ((List aj))):Nat→(List aj)→(List aj)→Int→Option ((List aj))
  | 0,_,_,_=>none
  | k+1,e,c,a=>
    (if decide (a < (c.length:Int)) then ((idx c a).bind fun b=>((app e ([(⟨s2,b.Ids,b.Binds⟩:aj)]:List aj)).bind fun f=>((jj N s2 d k) f (c.set a.toNat (⟨s2,b.Ids,b.Binds⟩:aj)) (i64.wrap (a+1))))) else (d e (i64.wrap (s2+1))))
def eS (N:Nat) (a:bo) (b:ag):Nat→(List aj)→Int→Option ((List aj))
  | 0,_,_=>none
  | k+1,s1,s2=>
    (if decide (s2 < (a.Rules.length:Int)) then ((idx a.Rules s2).bind fun c=>((qP N c b).bind fun d=>jj N s2 (eS N a b k) N s1 d 0)) else some s1)
def pn (N:Nat) (a:bo) (b:ag):Option ((List aj)):=
  eS N a b N ([]:List aj) 0
def lO (N:Nat) (s2:Int) (a:(List aj)→Int→Option ((List aj))) (b:(List aj)):Option ((List aj)):=
  (a b (i64.wrap (s2+1)))
def fo (N:Nat) (a:(List aj)):Nat→(List aj)→Int→Option ((List aj))
  | 0,_,_=>none
  | k+1,s1,s2=>
    (if decide (s2 < (a.length:Int)) then ((idx a s2).bind fun b=>((idx a s2).bind fun c=>((idx a s2).bind fun d=>((app ([]:List Int) c.Ids).bind fun e=>((app ([]:List aq) d.Binds).bind fun f=>((app s1 ([(⟨b.Rule,e,f⟩:aj)]:List aj)).bind fun g=>lO N s2 (fo N a k) g)))))) else some s1)
def li (N:Nat) (a:(List aj)):Option ((List aj)):=
  fo N a N ([]:List aj) 0
def dL (N:Nat) (a:(List aj)) (s1:(List aj)):Option ((List aj) × (List aj)):=
  some (a,s1)
def jg (N:Nat) (j:(List Int)):Option ((List aj) × (List aj)):=
  ((oI N j).bind fun d=>((jY N d).bind fun f=>((pT N (⟨d.b,f.2.i,f.2.h⟩:a8)).bind fun g=>((pn N f.1 g.1).bind fun a=>((cw N (⟨d.b,g.2.i,g.2.h⟩:a8) 2).bind fun h=>(if h.1 then ((li N a).bind fun k=>some (a,k)) else ((li N a).bind fun b=>(if decide (0 < (b.length:Int)) then ((aV N (⟨d.b,h.2.i,h.2.h⟩:a8) (b.length:Int)).bind fun c=>((idx b c.1).bind fun e=>((app e.Ids ([1]:List Int)).bind fun i=>((cw N (⟨d.b,c.2.i,c.2.h⟩:a8) 2).bind fun l=>(if l.1 then ((ssl (b.set c.1.toNat (⟨e.Rule,i,e.Binds⟩:aj)) 0 c.1).bind fun m=>dL N a m) else dL N a (b.set c.1.toNat (⟨e.Rule,i,e.Binds⟩:aj))))))) else dL N a b))))))))
def eI (N:Nat) (a:(List aq)) (b:(List aq)):Nat→Int→Option (Bool)
  | 0,_=>none
  | k+1,s1=>
    (if decide (s1 < (a.length:Int)) then ((idx a s1).bind fun c=>((idx b s1).bind fun d=>(if !(oG c d) then some false else ((eI N a b k) (i64.wrap (s1+1)))))) else some true)
def jo (N:Nat) (a:(List aq)) (b:(List aq)):Option (Bool):=
  (if !decide ((a.length:Int)=(b.length:Int)) then some false else eI N a b N 0)
def kr (N:Nat) (a:a8) (b:au × a8) (s1:(List bn)) (s2:Int) (c:Int) (d:ByteArray):Option (au × a8):=
  some ((⟨d,s1,b.1.Not⟩:au),(⟨a.b,s2,c⟩:a8))
def rQ (N:Nat) (b:a8) (a:au × a8) (c:(List bn)) (d:Int) (e:Int):Option (au × a8):=
  kr N b a c d e a.1.Kind
def kf (N:Nat) (b:a8) (c:au × a8):Nat→(List bn)→Int→Int→Option (au × a8)
  | 0,_,_,_=>none
  | k+1,d,f,g=>
    ((aV N (⟨b.b,f,g⟩:a8) 2).bind fun a=>(if decide ((d.length:Int) < i64.wrap (5+a.1)) then ((ko N (⟨b.b,a.2.i,a.2.h⟩:a8)).bind fun e=>((app d ([e.1]:List bn)).bind fun h=>((kf N b c k) h e.2.i e.2.h))) else kr N b c d a.2.i a.2.h c.1.Kind))
def qS (N:Nat) (c:a8):Option (au × a8):=
  ((cw N c 3).bind fun d=>((kZ N (⟨c.b,d.2.i,d.2.h⟩:a8) d.1).bind fun a=>((aV N (⟨c.b,a.2.i,a.2.h⟩:a8) 10).bind fun b=>(if decide (b.1=0) then ((cH N (⟨c.b,b.2.i,b.2.h⟩:a8) ([(⟨#[]⟩:ByteArray),(⟨#[65]⟩:ByteArray),(⟨#[120]⟩:ByteArray)]:List ByteArray)).bind fun e=>kr N c a a.1.Args e.2.i e.2.h e.1) else (if decide (b.1=1) then ((aV N (⟨c.b,b.2.i,b.2.h⟩:a8) 5).bind fun f=>((cH N (⟨c.b,f.2.i,f.2.h⟩:a8) ([(⟨#[]⟩:ByteArray),(⟨#[120]⟩:ByteArray),(⟨#[88]⟩:ByteArray)]:List ByteArray)).bind fun g=>((app a.1.Args ([(⟨f.1,g.1,(⟨0,0,(⟨#[]⟩:ByteArray)⟩:bi)⟩:bn)]:List bn)).bind fun h=>rQ N c a h g.2.i g.2.h))) else (if decide (b.1=2) then kf N c a N a.1.Args b.2.i b.2.h else kr N c a a.1.Args b.2.i b.2.h a.1.Kind))))))
def ki (N:Nat) (a:a8) (s1:Int) (s2:Int) (b:Int) (c:Int) (d:ByteArray) (e:Int) (f:Int) (g:ByteArray) (h:Int) (i:ByteArray) (j:Int) (k:Int) (l:ByteArray):Option (ce × a8):=
  some ((⟨b,(⟨c,d,(⟨e,f,g⟩:bi)⟩:bn),(⟨h,i,(⟨j,k,l⟩:bi)⟩:bn)⟩:ce),(⟨a.b,s1,s2⟩:a8))
def qT (N:Nat) (c:a8):Option (ce × a8):=
  ((mV N c).bind fun a=>((aV N (⟨c.b,a.2.i,a.2.h⟩:a8) 8).bind fun b=>(if decide (b.1=0) then ((aV N (⟨c.b,b.2.i,b.2.h⟩:a8) 6).bind fun e=>ki N c e.2.i e.2.h e.1 a.1.L.K a.1.L.S a.1.L.V.K a.1.L.V.N a.1.L.V.S a.1.R.K a.1.R.S a.1.R.V.K a.1.R.V.N a.1.R.V.S) else (if decide (b.1=1) then ((ko N (⟨c.b,b.2.i,b.2.h⟩:a8)).bind fun d=>ki N c d.2.i d.2.h a.1.Op d.1.K d.1.S d.1.V.K d.1.V.N d.1.V.S a.1.R.K a.1.R.S a.1.R.V.K a.1.R.V.N a.1.R.V.S) else (if decide (b.1=2) then ((aV N (⟨c.b,b.2.i,b.2.h⟩:a8) 5).bind fun f=>ki N c f.2.i f.2.h a.1.Op a.1.L.K a.1.L.S a.1.L.V.K a.1.L.V.N a.1.L.V.S f.1 (⟨#[]⟩:ByteArray) 0 0 (⟨#[]⟩:ByteArray)) else ki N c b.2.i b.2.h a.1.Op a.1.L.K a.1.L.S a.1.L.V.K a.1.L.V.N a.1.L.V.S a.1.R.K a.1.R.S a.1.R.V.K a.1.R.V.N a.1.R.V.S)))))
def hJ (N:Nat) (a:a8) (s1:(List bY)) (s2:Int) (b:Int) (c:Int) (d:ByteArray) (e:Int) (f:ByteArray):Option (cA × a8):=
  some ((⟨c,d,s1,e,f⟩:cA),(⟨a.b,s2,b⟩:a8))
def rz (N:Nat) (c:a8):Option (cA × a8):=
  ((mU N c 2).bind fun a=>((aV N (⟨c.b,a.2.i,a.2.h⟩:a8) 10).bind fun b=>(if decide (b.1=0) then ((aV N (⟨c.b,b.2.i,b.2.h⟩:a8) 8).bind fun d=>hJ N c a.1.Args d.2.i d.2.h d.1 a.1.Name a.1.N a.1.Undo) else (if decide (b.1=1) then ((cH N (⟨c.b,b.2.i,b.2.h⟩:a8) ([(⟨#[]⟩:ByteArray),(⟨#[65]⟩:ByteArray),(⟨#[120]⟩:ByteArray)]:List ByteArray)).bind fun e=>hJ N c a.1.Args e.2.i e.2.h a.1.Kind e.1 a.1.N a.1.Undo) else (if decide (b.1=2) then ((kg N (⟨c.b,b.2.i,b.2.h⟩:a8) ([(-1),7,8,100001]:List Int)).bind fun f=>hJ N c a.1.Args f.2.i f.2.h a.1.Kind a.1.Name f.1 a.1.Undo) else (if decide (b.1=3) then ((cH N (⟨c.b,b.2.i,b.2.h⟩:a8) ([(⟨#[]⟩:ByteArray),(⟨#[65]⟩:ByteArray),(⟨#[120]⟩:ByteArray)]:List ByteArray)).bind fun g=>hJ N c a.1.Args g.2.i g.2.h a.1.Kind a.1.Name a.1.N g.1) else (if decide (b.1=4) then ((cH N (⟨c.b,b.2.i,b.2.h⟩:a8) ([(⟨#[]⟩:ByteArray),(⟨#[42]⟩:ByteArray)]:List ByteArray)).bind fun h=>((ko N (⟨c.b,h.2.i,h.2.h⟩:a8)).bind fun i=>((ko N (⟨c.b,i.2.i,i.2.h⟩:a8)).bind fun j=>((app a.1.Args ([(⟨h.1,i.1,j.1⟩:bY)]:List bY)).bind fun k=>hJ N c k j.2.i j.2.h a.1.Kind a.1.Name a.1.N a.1.Undo)))) else hJ N c a.1.Args b.2.i b.2.h a.1.Kind a.1.Name a.1.N a.1.Undo)))))))
def dW (N:Nat) (a:a8) (s1:(List au)) (s2:Int) (b:Int) (c:ByteArray) (d:Int) (e:(List ce)) (f:(List cA)):Option (ai × a8):=
  some ((⟨c,d,s1,e,f⟩:ai),(⟨a.b,s2,b⟩:a8))
def mI (N:Nat) (c:a8) (a:ai):Option (ai × a8):=
  ((app ([]:List au) a.Pats).bind fun d=>((aV N c 10).bind fun b=>(if decide (b.1=0) then ((cH N (⟨c.b,b.2.i,b.2.h⟩:a8) ([(⟨#[]⟩:ByteArray),(⟨#[65]⟩:ByteArray),(⟨#[120]⟩:ByteArray)]:List ByteArray)).bind fun e=>dW N c d e.2.i e.2.h e.1 a.Sal a.Conds a.Acts) else (if decide (b.1=1) then ((kg N (⟨c.b,b.2.i,b.2.h⟩:a8) ([(-101),101,100]:List Int)).bind fun f=>dW N c d f.2.i f.2.h a.Name f.1 a.Conds a.Acts) else (if decide (b.1=2) then ((qS N (⟨c.b,b.2.i,b.2.h⟩:a8)).bind fun g=>((app d ([g.1]:List au)).bind fun k=>dW N c k g.2.i g.2.h a.Name a.Sal a.Conds a.Acts)) else (if decide (b.1=3) then ((app ([]:List ce) a.Conds).bind fun l=>((qT N (⟨c.b,b.2.i,b.2.h⟩:a8)).bind fun h=>((app l ([h.1]:List ce)).bind fun m=>dW N c d h.2.i h.2.h a.Name a.Sal m a.Acts))) else (if decide (b.1=4) then ((app ([]:List cA) a.Acts).bind fun n=>((rz N (⟨c.b,b.2.i,b.2.h⟩:a8)).bind fun i=>((app n ([i.1]:List cA)).bind fun o=>dW N c d i.2.i i.2.h a.Name a.Sal a.Conds o))) else (if decide (b.1=5) then ((idx d 0).bind fun j=>dW N c (d.set (0:Int).toNat (⟨j.Kind,j.Args,true⟩:au)) b.2.i b.2.h a.Name a.Sal a.Conds a.Acts) else (if decide (b.1=6) then ((ssl a.Acts 0 0).bind fun p=>dW N c d b.2.i b.2.h a.Name a.Sal a.Conds p) else dW N c d b.2.i b.2.h a.Name a.Sal a.Conds a.Acts)))))))))
def ov (N:Nat) (a:a8) (s1:(List au)) (s2:Int) (b:Int) (c:ByteArray) (d:Int) (e:(List ce)) (f:(List cA)):Option (ai × a8):=
  some ((⟨c,d,s1,e,f⟩:ai),(⟨a.b,s2,b⟩:a8))
def ra (N:Nat) (c:a8):Option (ai × a8):=
  ((cH N c ([(⟨#[114,49]⟩:ByteArray),(⟨#[114,50]⟩:ByteArray),(⟨#[115,104,105,112]⟩:ByteArray)]:List ByteArray)).bind fun e=>((mG N (⟨c.b,e.2.i,e.2.h⟩:a8) e.1).bind fun a=>((cw N (⟨c.b,a.2.i,a.2.h⟩:a8) 3).bind fun d=>(if d.1 then ((mI N (⟨c.b,d.2.i,d.2.h⟩:a8) a.1).bind fun b=>ov N c b.1.Pats b.2.i b.2.h b.1.Name b.1.Sal b.1.Conds b.1.Acts) else ov N c a.1.Pats d.2.i d.2.h a.1.Name a.1.Sal a.1.Conds a.1.Acts))))
def i8 (N:Nat) (a:a8) (s1:(List ai)) (s2:Int) (b:Int) (c:ByteArray):Option (bo × a8):=
  some ((⟨c,s1⟩:bo),(⟨a.b,s2,b⟩:a8))
def oU (N:Nat) (c:a8):Option (bo × a8):=
  ((jY N c).bind fun b=>((aV N (⟨c.b,b.2.i,b.2.h⟩:a8) 10).bind fun a=>(if decide (a.1=0) then ((cH N (⟨c.b,a.2.i,a.2.h⟩:a8) ([(⟨#[]⟩:ByteArray),(⟨#[65]⟩:ByteArray)]:List ByteArray)).bind fun d=>i8 N c b.1.Rules d.2.i d.2.h d.1) else (if decide (a.1=1) then ((ra N (⟨c.b,a.2.i,a.2.h⟩:a8)).bind fun e=>((app b.1.Rules ([e.1]:List ai)).bind fun g=>i8 N c g e.2.i e.2.h b.1.Name)) else (if decide (a.1=2) then ((idx b.1.Rules 0).bind fun h=>((mI N (⟨c.b,a.2.i,a.2.h⟩:a8) h).bind fun f=>((idx b.1.Rules 0).bind fun j=>i8 N c (b.1.Rules.set (0:Int).toNat f.1) f.2.i f.2.h b.1.Name))) else (if decide (a.1=3) then ((ssl b.1.Rules 0 0).bind fun i=>i8 N c i a.2.i a.2.h b.1.Name) else i8 N c b.1.Rules a.2.i a.2.h b.1.Name))))))
def iI (N:Nat) (a:(List Int)) (b:(List Int)):Nat→Int→Option (Bool)
  | 0,_=>none
  | k+1,s1=>
    (if decide (s1 < (a.length:Int)) then ((idx a s1).bind fun c=>((idx b s1).bind fun d=>(if !decide (c=d) then some false else ((iI N a b k) (i64.wrap (s1+1)))))) else some true)
def iR (N:Nat) (a:(List Int)) (b:(List Int)):Option (Bool):=
  (if !decide ((a.length:Int)=(b.length:Int)) then some false else iI N a b N 0)
def kJ (N:Nat) (a:ax) (b:ax):Option (Bool):=
  ((if seq a.Kind b.Kind then some (decide (a.N=b.N)) else some false).bind fun c=>((if c then ((iR N a.At b.At).bind fun d=>some d) else some false).bind fun e=>((if e then ((iE N a.Consts b.Consts).bind fun f=>some f) else some false).bind fun g=>some g)))
def fd (N:Nat) (a:bO) (b:ax):Nat→Int→Option (Int × bO)
  | 0,_=>none
  | k+1,s1=>
    (if decide (s1 < (a.Alphas.length:Int)) then ((idx a.Alphas s1).bind fun d=>((kJ N d b).bind fun e=>(if e then some (s1,a) else ((fd N a b k) (i64.wrap (s1+1)))))) else ((app a.Alphas ([b]:List ax)).bind fun c=>some (i64.wrap ((c.length:Int) - 1),(⟨c,a.Chains⟩:bO))))
def nr (N:Nat) (a:bO) (b:ax):Option (Int × bO):=
  fd N a b N 0
def fg (N:Nat) (a:au):Nat→(List bi)→(List Int)→Int→Option (ax)
  | 0,_,_,_=>none
  | k+1,s1,s2,b=>
    (if decide (b < (a.Args.length:Int)) then ((idx a.Args b).bind fun c=>(if decide (c.K=2) then ((idx a.Args b).bind fun d=>((app s1 ([d.V]:List bi)).bind fun e=>((app s2 ([b]:List Int)).bind fun f=>((fg N a k) e f (i64.wrap (b+1)))))) else ((fg N a k) s1 s2 (i64.wrap (b+1))))) else some (⟨a.Kind,(a.Args.length:Int),s1,s2⟩:ax))
def nu (N:Nat) (a:au):Option (ax):=
  fg N a N ([]:List bi) ([]:List Int) 0
def f8 (N:Nat) (b:bo) (s2:(List aR)) (a:Int) (e:(List ax)→(List aR)→Int→Option (bO)):Nat→(List ax)→(List Int)→(List Int)→Int→Option (bO)
  | 0,_,_,_,_=>none
  | k+1,h,f,g,c=>
    ((idx b.Rules a).bind fun j=>(if decide (c < (j.Pats.length:Int)) then ((idx b.Rules a).bind fun l=>((idx l.Pats c).bind fun i=>((nu N i).bind fun m=>((nr N (⟨h,s2⟩:bO) m).bind fun d=>(if i.Not then ((app f ([d.1]:List Int)).bind fun n=>((f8 N b s2 a e k) d.2.Alphas n g (i64.wrap (c+1)))) else ((app g ([d.1]:List Int)).bind fun o=>((f8 N b s2 a e k) d.2.Alphas f o (i64.wrap (c+1))))))))) else ((app s2 ([(⟨g,f⟩:aR)]:List aR)).bind fun p=>(e h p (i64.wrap (a+1))))))
def dV (N:Nat) (a:bo):Nat→(List ax)→(List aR)→Int→Option (bO)
  | 0,_,_,_=>none
  | k+1,s1,s2,b=>
    (if decide (b < (a.Rules.length:Int)) then f8 N a s2 b (dV N a k) N s1 ([]:List Int) ([]:List Int) 0 else some (⟨s1,s2⟩:bO))
def mC (N:Nat) (a:bo):Option (bO):=
  dV N a N ([]:List ax) ([]:List aR) 0
def ju (N:Nat) (b:bO) (c:(List aP)) (a:Int) (d:(List aP)→Int→Option (aI)):Nat→(List ao)→Int→Option (aI)
  | 0,_,_=>none
  | k+1,e,f=>
    ((idx b.Chains a).bind fun g=>(if decide (f < (g.Pos.length:Int)) then ((app e ([(⟨[]⟩:ao)]:List ao)).bind fun h=>((ju N b c a d k) h (i64.wrap (f+1)))) else ((app c ([(⟨e⟩:aP)]:List aP)).bind fun i=>(d i (i64.wrap (a+1))))))
def eX (N:Nat) (a:bO) (s1:(List bm)):Nat→(List aP)→Int→Option (aI)
  | 0,_,_=>none
  | k+1,b,c=>
    (if decide (c < (a.Chains.length:Int)) then ju N a b c (eX N a s1 k) N ([]:List ao) 0 else some (⟨s1,b⟩:aI))
def jn (N:Nat) (a:bO):Nat→(List bm)→Int→Option (aI)
  | 0,_,_=>none
  | k+1,s1,s2=>
    (if decide (s2 < (a.Alphas.length:Int)) then ((app s1 ([(⟨[]⟩:bm)]:List bm)).bind fun b=>((jn N a k) b (i64.wrap (s2+1)))) else eX N a s1 N ([]:List aP) 0)
def mE (N:Nat) (a:bO):Option (aI):=
  jn N a N ([]:List bm) 0
def fY (N:Nat) (a:ag) (b:Int):Nat→Int→Option (aH × Bool)
  | 0,_=>none
  | k+1,s1=>
    (if decide (s1 < (a.Items.length:Int)) then ((idx a.Items s1).bind fun c=>(if decide (c.Id=b) then ((idx a.Items s1).bind fun d=>((jS N d.F).bind fun e=>some (e,true))) else ((fY N a b k) (i64.wrap (s1+1))))) else some ((⟨(⟨#[]⟩:ByteArray),[]⟩:aH),false))
def l7 (N:Nat) (a:ag) (b:Int):Option (aH × Bool):=
  fY N a b N 0
def gn (N:Nat) (a:(List Int)) (b:Int):Nat→Int→Option (Bool)
  | 0,_=>none
  | k+1,s1=>
    (if decide (s1 < (a.length:Int)) then ((idx a s1).bind fun c=>(if decide (c=b) then some true else ((gn N a b k) (i64.wrap (s1+1))))) else some false)
def pB (N:Nat) (a:(List Int)) (b:Int):Option (Bool):=
  gn N a b N 0
def dm (N:Nat) (a:(List ah)) (b:Int):Nat→(List ah)→Int→Option ((List ah))
  | 0,_,_=>none
  | k+1,s1,s2=>
    (if decide (s2 < (a.length:Int)) then ((idx a s2).bind fun c=>((pB N c.Ids b).bind fun d=>(if !d then ((idx a s2).bind fun e=>((app s1 ([e]:List ah)).bind fun f=>((dm N a b k) f (i64.wrap (s2+1))))) else ((dm N a b k) s1 (i64.wrap (s2+1)))))) else some s1)
def jL (N:Nat) (a:(List ah)) (b:Int):Option ((List ah)):=
  ((BZ a).bind fun _=>dm N a b N ([]:List ah) 0)
def kP (N:Nat) (b:ai) (s1:(List aq)) (s2:Int) (c:(List aq)→Int→Option ((List aq) × Bool)) (d:(List bi)) (e:Bool) (f:ByteArray):Option ((List aq) × Bool):=
  ((idx b.Pats s2).bind fun g=>((gS N g (⟨f,d⟩:aH) s1).bind fun a=>((if !e then some true else some (!a.2)).bind fun h=>(if h then some (s1,false) else (c a.1 (i64.wrap (s2+1)))))))
def eB (N:Nat) (c:ai) (d:ag) (a:(List Int)):Nat→(List aq)→Int→Option ((List aq) × Bool)
  | 0,_,_=>none
  | k+1,s1,s2=>
    (if decide (s2 < (a.length:Int)) then ((idx a s2).bind fun e=>((l7 N d e).bind fun b=>kP N c s1 s2 (eB N c d a k) b.1.Fields b.2 b.1.Kind)) else some (s1,true))
def j8 (N:Nat) (a:ai) (b:ag) (c:(List Int)):Option ((List aq) × Bool):=
  eB N a b c N ([]:List aq) 0
def i9 (N:Nat) (s1:(List Int)) (s2:Int) (a:(List Int)→Int→Option ((List Int))) (b:Int):Option ((List Int)):=
  ((app s1 ([b]:List Int)).bind fun c=>(a c (i64.wrap (s2+1))))
def dB (N:Nat) (a:ai) (b:aH) (c:(List aq)):Nat→(List Int)→Int→Option ((List Int))
  | 0,_,_=>none
  | k+1,s1,s2=>
    (if decide (s2 < (a.Pats.length:Int)) then ((idx a.Pats s2).bind fun d=>(if d.Not then ((idx a.Pats s2).bind fun e=>((gS N e b c).bind fun f=>(if f.2 then i9 N s1 s2 (dB N a b c k) 1 else i9 N s1 s2 (dB N a b c k) 0))) else ((dB N a b c k) s1 (i64.wrap (s2+1))))) else some s1)
def mH (N:Nat) (a:ai) (b:aH) (c:(List aq)):Option ((List Int)):=
  dB N a b c N ([]:List Int) 0
def dy (N:Nat) (e:Int) (s2:Int) (f:(List ah)→Int→Option ((List ah))) (g:(List aq) × Bool) (c:(List Int)):Nat→(List ah)→Int→Option ((List ah))
  | 0,_,_=>none
  | k+1,d,a=>
    ((if decide (a < (c.length:Int)) then some g.2 else some false).bind fun h=>(if h then ((idx d s2).bind fun b=>((idx b.Hits a).bind fun i=>((idx c a).bind fun j=>((idx b.Hits a).bind fun l=>((dy N e s2 f g c k) (d.set s2.toNat (⟨b.Ids,(b.Hits.set a.toNat (i64.wrap (i+(i64.wrap (e*j)))))⟩:ah)) (i64.wrap (a+1))))))) else (f d (i64.wrap (s2+1)))))
def cD (N:Nat) (a:ai) (b:ag) (c:aH) (d:Int):Nat→(List ah)→Int→Option ((List ah))
  | 0,_,_=>none
  | k+1,s1,s2=>
    (if decide (s2 < (s1.length:Int)) then ((idx s1 s2).bind fun f=>((j8 N a b f.Ids).bind fun e=>((mH N a c e.1).bind fun g=>dy N d s2 (cD N a b c d k) e g N s1 0))) else some s1)
def lx (N:Nat) (a:ai) (b:ag) (c:(List ah)) (d:aH) (e:Int):Option ((List ah)):=
  cD N a b d e N c 0
def ef (N:Nat) (b:Int) (s1:(List bm)) (s2:Int) (c:(List bm)→Int→Option (aI)):Nat→(List Int)→Int→Option (aI)
  | 0,_,_=>none
  | k+1,d,a=>
    ((idx s1 s2).bind fun e=>(if decide (a < (e.L.length:Int)) then ((idx s1 s2).bind fun f=>((idx f.L a).bind fun g=>(if !decide (g=b) then ((idx s1 s2).bind fun h=>((idx h.L a).bind fun i=>((app d ([i]:List Int)).bind fun j=>((ef N b s1 s2 c k) j (i64.wrap (a+1)))))) else ((ef N b s1 s2 c k) d (i64.wrap (a+1)))))) else ((idx s1 s2).bind fun l=>(c (s1.set s2.toNat (⟨d⟩:bm)) (i64.wrap (s2+1))))))
def fj (N:Nat) (d:bo) (e:ag) (f:Int) (g:aH × Bool) (h:(List aP)) (b:Int) (i:(List aP)→Int→Option (aI)):Nat→(List ao)→Int→Option (aI)
  | 0,_,_=>none
  | k+1,a,c=>
    (if decide (c < (a.length:Int)) then ((idx a c).bind fun j=>((jL N j.Toks f).bind fun l=>((fj N d e f g h b i k) (a.set c.toNat (⟨l⟩:ao)) (i64.wrap (c+1))))) else ((idx d.Rules b).bind fun m=>((idx a (i64.wrap ((a.length:Int) - 1))).bind fun n=>((lx N m e n.Toks g.1 (-1)).bind fun o=>(i (h.set b.toNat (⟨(a.set (i64.wrap ((a.length:Int) - 1)).toNat (⟨o⟩:ao))⟩:aP)) (i64.wrap (b+1)))))))
def ej (N:Nat) (a:bo) (d:ag) (e:Int) (f:aH × Bool) (s1:(List bm)):Nat→(List aP)→Int→Option (aI)
  | 0,_,_=>none
  | k+1,b,c=>
    (if decide (c < (a.Rules.length:Int)) then ((idx b c).bind fun g=>fj N a d e f b c (ej N a d e f s1 k) N g.Levels 0) else some (⟨s1,b⟩:aI))
def em (N:Nat) (b:bo) (c:aI) (d:ag) (a:Int) (e:aH × Bool):Nat→(List bm)→Int→Option (aI)
  | 0,_,_=>none
  | k+1,s1,s2=>
    (if decide (s2 < (s1.length:Int)) then ef N a s1 s2 (em N b c d a e k) N ([]:List Int) 0 else ej N b d a e s1 N c.Rules 0)
def nI (N:Nat) (d:bo) (a:aI) (b:ag) (c:Int):Option (aI):=
  ((l7 N b c).bind fun e=>em N d a b c e N a.Alphas 0)
def dO (N:Nat) (a:Int) (b:Int) (c:Int):Option (Bool):=
  ((if decide (b≤a) then some (decide (a≤c)) else some false).bind fun d=>some d)
def ie (N:Nat) (a:ax) (b:aH):Nat→Int→Option (Bool)
  | 0,_=>none
  | k+1,s1=>
    (if decide (s1 < (a.At.length:Int)) then ((idx a.At s1).bind fun c=>((if decide ((a.Consts.length:Int)≤s1) then some true else ((dO N c 0 (i64.wrap ((b.Fields.length:Int) - 1))).bind fun d=>some (!d))).bind fun e=>((if e then some true else ((idx b.Fields c).bind fun f=>((idx a.Consts s1).bind fun g=>some (!(bq f g))))).bind fun h=>(if h then some false else ((ie N a b k) (i64.wrap (s1+1))))))) else some true)
def oR (N:Nat) (a:ax) (b:aH):Option (Bool):=
  ((if !seq a.Kind b.Kind then some true else some (!decide (a.N=(b.Fields.length:Int)))).bind fun c=>(if c then some false else ie N a b N 0))
def jO (N:Nat) (a:(List ah)) (c:ai) (d:ag) (e:(List Int)) (f:Int):Option ((List ah)):=
  ((app ([]:List Int) e).bind fun g=>((app g ([f]:List Int)).bind fun b=>((j8 N c d b).bind fun h=>(if !h.2 then some a else ((app a ([(⟨b,([]:List Int)⟩:ah)]:List ah)).bind fun i=>some i)))))
def eD (N:Nat) (s2:Int) (d:(List Int)→Int→Option (ah)) (c:(List Int)):Nat→(List Int)→Int→Option (ah)
  | 0,_,_=>none
  | k+1,b,a=>
    (if decide (a < (c.length:Int)) then ((idx b a).bind fun e=>((idx c a).bind fun f=>((idx b a).bind fun g=>((eD N s2 d c k) (b.set a.toNat (i64.wrap (e+f))) (i64.wrap (a+1)))))) else (d b (i64.wrap (s2+1))))
def d6 (N:Nat) (b:ai) (a:ag) (c:ah) (d:(List aq) × Bool):Nat→(List Int)→Int→Option (ah)
  | 0,_,_=>none
  | k+1,s1,s2=>
    (if decide (s2 < (a.Items.length:Int)) then ((idx a.Items s2).bind fun e=>((mH N b e.F d.1).bind fun f=>eD N s2 (d6 N b a c d k) f N s1 0)) else some (⟨c.Ids,s1⟩:ah))
def lP (N:Nat) (a:ai) (b:ag) (c:ah):Option (ah):=
  ((j8 N a b c.Ids).bind fun d=>((gT N a).bind fun e=>((mk 0 (i64.wrap ((a.Pats.length:Int) - e))).bind fun f=>d6 N a b c d N f 0)))
def fu (N:Nat) (d:ai) (e:ag) (s2:(List ah)) (a:bm) (b:Int) (f:(List ah)→Int→Option (aI)):Nat→(List ah)→Int→Option (aI)
  | 0,_,_=>none
  | k+1,g,c=>
    (if decide (c < (a.L.length:Int)) then ((idx s2 b).bind fun h=>((idx a.L c).bind fun i=>((jO N g d e h.Ids i).bind fun j=>((fu N d e s2 a b f k) j (i64.wrap (c+1)))))) else (f g (i64.wrap (b+1))))
def bR (N:Nat) (d:ai) (e:ag) (f:aP) (s1:(List ao)) (a:Int) (g:(List ao)→(List ah)→Int→Option (aI)):Nat→(List ah)→Int→Option (aI)
  | 0,_,_=>none
  | k+1,b,c=>
    ((if decide (c < (b.length:Int)) then some (decide (a=i64.wrap ((f.Levels.length:Int) - 1))) else some false).bind fun h=>(if h then ((idx b c).bind fun i=>((lP N d e i).bind fun j=>((bR N d e f s1 a g k) (b.set c.toNat j) (i64.wrap (c+1))))) else ((idx s1 a).bind fun l=>((app l.Toks b).bind fun m=>(g (s1.set a.toNat (⟨m⟩:ao)) b (i64.wrap (a+1)))))))
def ed (N:Nat) (a:ai) (b:ag) (c:aP) (s1:(List ao)) (s2:(List ah)) (d:Int) (e:(List ao)→(List ah)→Int→Option (aI)) (f:bm):Nat→(List ah)→Int→Option (aI)
  | 0,_,_=>none
  | k+1,g,h=>
    (if decide (h < (s2.length:Int)) then fu N a b s2 f h (ed N a b c s1 s2 d e f k) N g 0 else bR N a b c s1 d e N g 0)
def dt (N:Nat) (b:ai) (c:aR) (f:aI) (d:ag) (g:Int) (h:(List Bool)) (i:aP) (s1:(List ao)) (s2:(List ah)) (a:Int) (j:(List ao)→(List ah)→Int→Option (aI)) (l:Int):Nat→(List ah)→Int→Option (aI)
  | 0,_,_=>none
  | k+1,m,e=>
    ((if decide (e < l) then ((idx c.Pos a).bind fun n=>((idx h n).bind fun o=>some o)) else some false).bind fun p=>(if p then ((idx s1 (i64.wrap (a - 1))).bind fun q=>((idx q.Toks e).bind fun r=>((jO N m b d r.Ids g).bind fun s=>((dt N b c f d g h i s1 s2 a j l k) s (i64.wrap (e+1)))))) else ((idx c.Pos a).bind fun t=>((idx f.Alphas t).bind fun u=>ed N b d i s1 s2 a j u N m 0))))
def iH (N:Nat) (a:ai) (b:aR) (c:aI) (d:ag) (e:Int) (f:(List Bool)) (g:aP) (s1:(List ao)) (s2:(List ah)) (h:Int) (i:(List ao)→(List ah)→Int→Option (aI)) (j:(List ah)) (k:Int):Option (aI):=
  dt N a b c d e f g s1 s2 h i k N j 0
def gH (N:Nat) (b:ai) (c:aR) (d:aI) (e:ag) (f:Int) (g:(List Bool)) (h:aP) (s1:(List ao)) (s2:(List ah)) (a:Int) (i:(List ao)→(List ah)→Int→Option (aI)) (j:(List ah)):Option (aI):=
  (if decide (0 < a) then ((idx s1 (i64.wrap (a - 1))).bind fun k=>iH N b c d e f g h s1 s2 a i j (i64.wrap ((k.Toks.length:Int) - (s2.length:Int)))) else iH N b c d e f g h s1 s2 a i j 0)
def br (N:Nat) (b:ai) (c:aR) (a:aI) (i:Int) (d:ag) (e:Int) (f:(List Bool)) (g:aP):Nat→(List ao)→(List ah)→Int→Option (aI)
  | 0,_,_,_=>none
  | k+1,s1,s2,h=>
    (if decide (h≤i64.wrap ((g.Levels.length:Int) - 1)) then ((if decide (h=0) then ((idx c.Pos 0).bind fun j=>((idx f j).bind fun l=>some l)) else some false).bind fun m=>(if m then ((jO N ([]:List ah) b d ([]:List Int) e).bind fun n=>gH N b c a d e f g s1 s2 h (br N b c a i d e f g k) n) else gH N b c a d e f g s1 s2 h (br N b c a i d e f g k) ([]:List ah))) else some (⟨a.Alphas,(a.Rules.set i.toNat (⟨s1⟩:aP))⟩:aI))
def ng (N:Nat) (b:ai) (f:aR) (c:aI) (d:Int) (e:ag) (g:Int) (h:aH) (i:(List Bool)):Option (aI):=
  ((idx c.Rules d).bind fun a=>((idx a.Levels (i64.wrap ((a.Levels.length:Int) - 1))).bind fun j=>((lx N b e j.Toks h 1).bind fun k=>br N b f c d e g i a N (a.Levels.set (i64.wrap ((a.Levels.length:Int) - 1)).toNat (⟨k⟩:ao)) ([]:List ah) 0)))
def gj (N:Nat) (b:bo) (c:bO) (d:ag) (e:Int) (f:aH × Bool) (s1:(List bm)) (s2:(List Bool)):Nat→(List aP)→Int→Option (aI)
  | 0,_,_=>none
  | k+1,g,a=>
    (if decide (a < (b.Rules.length:Int)) then ((idx b.Rules a).bind fun h=>((idx c.Chains a).bind fun i=>((ng N h i (⟨s1,g⟩:aI) a d e f.1 s2).bind fun j=>((gj N b c d e f s1 s2 k) j.Rules (i64.wrap (a+1)))))) else some (⟨s1,g⟩:aI))
def eQ (N:Nat) (e:bo) (b:bO) (f:aI) (g:ag) (c:Int) (d:aH × Bool):Nat→(List bm)→(List Bool)→Int→Option (aI)
  | 0,_,_,_=>none
  | k+1,s1,s2,a=>
    (if decide (a < (b.Alphas.length:Int)) then ((idx b.Alphas a).bind fun j=>((oR N j d.1).bind fun h=>((app s2 ([h]:List Bool)).bind fun i=>(if h then ((idx s1 a).bind fun l=>((app l.L ([c]:List Int)).bind fun m=>((eQ N e b f g c d k) (s1.set a.toNat (⟨m⟩:bm)) i (i64.wrap (a+1))))) else ((eQ N e b f g c d k) s1 i (i64.wrap (a+1))))))) else gj N e b g c d s1 s2 N f.Rules 0)
def mR (N:Nat) (d:bo) (e:bO) (a:aI) (b:ag) (c:Int):Option (aI):=
  ((l7 N b c).bind fun f=>eQ N d e a b c f N a.Alphas ([]:List Bool) 0)
def fB (N:Nat) (b:a8) (c:bo × a8) (f:bO):Nat→(List bm)→(List aP)→(List aw)→Int→Int→Int→Int→Option (bo × bO × aI × ag × a8)
  | 0,_,_,_,_,_,_,_=>none
  | k+1,s1,s2,a,h,l,m,d=>
    (if decide (0 < h) then ((cw N (⟨b.b,l,m⟩:a8) 4).bind fun g=>((if g.1 then some (decide (0 < (a.length:Int))) else some false).bind fun r=>(if r then ((aV N (⟨b.b,g.2.i,g.2.h⟩:a8) (a.length:Int)).bind fun j=>((idx a j.1).bind fun n=>((nI N c.1 (⟨s1,s2⟩:aI) (⟨a,d⟩:ag) n.Id).bind fun o=>((mP N (⟨a,d⟩:ag) n.Id).bind fun p=>((fB N b c f k) o.Alphas o.Rules p.2.Items (i64.wrap (h - 1)) j.2.i j.2.h p.2.Next))))) else ((kY N (⟨b.b,g.2.i,g.2.h⟩:a8)).bind fun e=>((pN N (⟨a,d⟩:ag) e.1).bind fun s=>(if decide (s=0) then ((j7 N (⟨a,d⟩:ag) e.1).bind fun i=>((mR N c.1 f (⟨s1,s2⟩:aI) i.2 i.1).bind fun q=>((fB N b c f k) q.Alphas q.Rules i.2.Items (i64.wrap (h - 1)) e.2.i e.2.h i.2.Next))) else ((fB N b c f k) s1 s2 a (i64.wrap (h - 1)) e.2.i e.2.h d))))))) else some (c.1,f,(⟨s1,s2⟩:aI),(⟨a,d⟩:ag),(⟨b.b,l,m⟩:a8)))
def nD (N:Nat) (b:a8):Option (bo × bO × aI × ag × a8):=
  ((jY N b).bind fun a=>((mC N a.1).bind fun d=>((mE N d).bind fun e=>((aV N (⟨b.b,a.2.i,a.2.h⟩:a8) 10).bind fun c=>fB N b a d N e.Alphas e.Rules ([]:List aw) c.1 c.2.i c.2.h 1))))
def iW (N:Nat) (s2:Int) (a:(List ah)→Int→Option ((List ah))) (b:(List ah)):Option ((List ah)):=
  (a b (i64.wrap (s2+1)))
def cV (N:Nat) (a:(List ah)):Nat→(List ah)→Int→Option ((List ah))
  | 0,_,_=>none
  | k+1,s1,s2=>
    (if decide (s2 < (a.length:Int)) then ((idx a s2).bind fun b=>((idx a s2).bind fun c=>((app ([]:List Int) b.Ids).bind fun d=>((app ([]:List Int) c.Hits).bind fun e=>((app s1 ([(⟨d,e⟩:ah)]:List ah)).bind fun f=>iW N s2 (cV N a k) f))))) else some s1)
def jc (N:Nat) (a:(List ah)):Option ((List ah)):=
  cV N a N ([]:List ah) 0
def fy (N:Nat) (b:aI) (d:(List aP)) (a:Int) (e:(List aP)→Int→Option (aI)):Nat→(List ao)→Int→Option (aI)
  | 0,_,_=>none
  | k+1,f,c=>
    ((idx b.Rules a).bind fun g=>(if decide (c < (g.Levels.length:Int)) then ((idx b.Rules a).bind fun h=>((idx h.Levels c).bind fun i=>((jc N i.Toks).bind fun j=>((app f ([(⟨j⟩:ao)]:List ao)).bind fun l=>((fy N b d a e k) l (i64.wrap (c+1))))))) else ((app d ([(⟨f⟩:aP)]:List aP)).bind fun m=>(e m (i64.wrap (a+1))))))
def et (N:Nat) (a:aI) (s1:(List bm)):Nat→(List aP)→Int→Option (aI)
  | 0,_,_=>none
  | k+1,b,c=>
    (if decide (c < (a.Rules.length:Int)) then fy N a b c (et N a s1 k) N ([]:List ao) 0 else some (⟨s1,b⟩:aI))
def gC (N:Nat) (a:aI):Nat→(List bm)→Int→Option (aI)
  | 0,_,_=>none
  | k+1,s1,s2=>
    (if decide (s2 < (a.Alphas.length:Int)) then ((idx a.Alphas s2).bind fun b=>((app ([]:List Int) b.L).bind fun c=>((app s1 ([(⟨c⟩:bm)]:List bm)).bind fun d=>((gC N a k) d (i64.wrap (s2+1)))))) else et N a s1 N ([]:List aP) 0)
def nE (N:Nat) (a:aI):Option (aI):=
  gC N a N ([]:List bm) 0
def fe (N:Nat) (a:a8) (s1:(List bm)) (s2:(List aP)) (b:Int) (c:Int):Option (aI × a8):=
  some ((⟨s1,s2⟩:aI),(⟨a.b,b,c⟩:a8))
def nJ (N:Nat) (c:a8) (g:aI):Option (aI × a8):=
  ((nE N g).bind fun a=>((aV N c 6).bind fun b=>(if decide (b.1=0) then (if decide (0 < (a.Alphas.length:Int)) then ((idx a.Alphas 0).bind fun h=>((aV N (⟨c.b,b.2.i,b.2.h⟩:a8) 9).bind fun d=>((app h.L ([d.1]:List Int)).bind fun i=>fe N c (a.Alphas.set (0:Int).toNat (⟨i⟩:bm)) a.Rules d.2.i d.2.h))) else fe N c a.Alphas a.Rules b.2.i b.2.h) else (if decide (b.1=1) then ((if decide (0 < (a.Rules.length:Int)) then ((idx a.Rules 0).bind fun j=>some (decide (0 < (j.Levels.length:Int)))) else some false).bind fun k=>(if k then ((idx a.Rules 0).bind fun f=>((idx f.Levels 0).bind fun l=>((aV N (⟨c.b,b.2.i,b.2.h⟩:a8) 9).bind fun e=>((app l.Toks ([(⟨([e.1]:List Int),[]⟩:ah)]:List ah)).bind fun m=>fe N c a.Alphas (a.Rules.set (0:Int).toNat (⟨(f.Levels.set (0:Int).toNat (⟨m⟩:ao))⟩:aP)) e.2.i e.2.h)))) else fe N c a.Alphas a.Rules b.2.i b.2.h)) else (if decide (b.1=2) then ((app a.Rules ([(⟨[]⟩:aP)]:List aP)).bind fun n=>fe N c a.Alphas n b.2.i b.2.h) else fe N c a.Alphas a.Rules b.2.i b.2.h)))))
def fQ (N:Nat) (a:bo × bO × aI × ag × a8) (s1:(List bm)) (s2:(List aP)) (b:(List ai)) (c:ByteArray):Option (bo × aI × ag):=
  some ((⟨c,b⟩:bo),(⟨s1,s2⟩:aI),a.2.2.2.1)
def ez (N:Nat) (c:a8) (a:bo × bO × aI × ag × a8) (s1:(List bm)) (s2:(List aP)) (e:Int) (f:Int):Option (bo × aI × ag):=
  ((cw N (⟨c.b,e,f⟩:a8) 8).bind fun b=>(if b.1 then ((oU N (⟨c.b,b.2.i,b.2.h⟩:a8)).bind fun d=>fQ N a s1 s2 d.1.Rules d.1.Name) else fQ N a s1 s2 a.1.Rules a.1.Name))
def iz (N:Nat) (e:(List Int)):Option (bo × aI × ag):=
  ((oI N e).bind fun b=>((nD N b).bind fun a=>((cw N (⟨b.b,a.2.2.2.2.i,a.2.2.2.2.h⟩:a8) 3).bind fun c=>(if c.1 then ((nJ N (⟨b.b,c.2.i,c.2.h⟩:a8) a.2.2.1).bind fun d=>ez N b a d.1.Alphas d.1.Rules d.2.i d.2.h) else ez N b a a.2.2.1.Alphas a.2.2.1.Rules c.2.i c.2.h))))
def ja (N:Nat) (a:Int):Option (Bool):=
  ((dO N (i64.wrap a) 97 122).bind fun b=>((if b then some true else ((dO N (i64.wrap a) 48 57).bind fun c=>some c)).bind fun d=>((if d then some true else some (decide (a=95))).bind fun e=>some e)))
def eO (N:Nat) (a:ByteArray):Nat→Int→Option (Bool)
  | 0,_=>none
  | k+1,s1=>
    (if decide (s1 < (a.size:Int)) then ((idx a.data.toList s1).bind fun b=>((ja N (b.toNat:Int)).bind fun c=>((if !c then some true else ((if decide (s1=0) then ((idx a.data.toList s1).bind fun d=>((dO N (i64.wrap (d.toNat:Int)) 97 122).bind fun e=>some (!e))) else some false).bind fun f=>some f)).bind fun g=>(if g then some false else ((eO N a k) (i64.wrap (s1+1))))))) else ((dO N (a.size:Int) 1 12).bind fun h=>some h))
def eH (N:Nat) (a:ByteArray):Option (Bool):=
  eO N a N 0
def fq (N:Nat) (a:ByteArray):Nat→Int→Option (Bool)
  | 0,_=>none
  | k+1,s1=>
    (if decide (s1 < (a.size:Int)) then ((idx a.data.toList s1).bind fun b=>((ja N (b.toNat:Int)).bind fun c=>(if !c then some false else ((fq N a k) (i64.wrap (s1+1)))))) else some (decide ((a.size:Int)≤20)))
def np (N:Nat) (a:ByteArray):Option (Bool):=
  fq N a N 0
def oC (N:Nat) (a:bi):Option (Bool):=
  (if decide (a.K=1) then ((dO N a.N (-1000000000) 1000000000).bind fun b=>((if b then some (seq a.S (⟨#[]⟩:ByteArray)) else some false).bind fun c=>some c)) else (if decide (a.K=2) then ((np N a.S).bind fun d=>((if d then some (decide (a.N=0)) else some false).bind fun e=>some e)) else some false))
def nN (N:Nat) (a:Int):Option (Bool):=
  ((dO N (i64.wrap a) 65 90).bind fun b=>some b)
def du (N:Nat) (a:ByteArray):Nat→Int→Option (Bool)
  | 0,_=>none
  | k+1,s1=>
    (if decide (s1 < (a.size:Int)) then ((idx a.data.toList s1).bind fun b=>((nN N (b.toNat:Int)).bind fun c=>((if !c then ((if decide (s1=0) then some true else ((idx a.data.toList s1).bind fun d=>((ja N (d.toNat:Int)).bind fun e=>some (!e)))).bind fun f=>some f) else some false).bind fun g=>(if g then some false else ((du N a k) (i64.wrap (s1+1))))))) else ((dO N (a.size:Int) 1 12).bind fun h=>some h))
def nw (N:Nat) (a:ByteArray):Option (Bool):=
  du N a N 0
def lg (N:Nat) (a:bn):Option (Bool):=
  (if decide (a.K=1) then ((nw N a.S).bind fun b=>((if b then some (bq a.V (⟨0,0,(⟨#[]⟩:ByteArray)⟩:bi)) else some false).bind fun c=>some c)) else (if decide (a.K=2) then ((oC N a.V).bind fun d=>((if d then some (seq a.S (⟨#[]⟩:ByteArray)) else some false).bind fun e=>some e)) else (if decide (a.K=3) then ((if seq a.S (⟨#[]⟩:ByteArray) then some (bq a.V (⟨0,0,(⟨#[]⟩:ByteArray)⟩:bi)) else some false).bind fun f=>some f) else some false)))
def gR (N:Nat) (a:au):Nat→Int→Option (Bool)
  | 0,_=>none
  | k+1,s1=>
    (if decide (s1 < (a.Args.length:Int)) then ((idx a.Args s1).bind fun b=>((lg N b).bind fun c=>(if !c then some false else ((gR N a k) (i64.wrap (s1+1)))))) else ((eH N a.Kind).bind fun d=>((if d then some (decide ((a.Args.length:Int)≤5)) else some false).bind fun e=>some e)))
def qY (N:Nat) (a:au):Option (Bool):=
  gR N a N 0
def eT (N:Nat) (a:(List au)):Nat→Int→Option (Bool)
  | 0,_=>none
  | k+1,s1=>
    (if decide (s1 < (a.length:Int)) then ((if decide (2 < s1) then ((idx a s1).bind fun b=>some (!b.Not)) else some false).bind fun c=>(if c then some false else ((idx a s1).bind fun d=>((qY N d).bind fun e=>((if !e then some true else ((if decide (s1=0) then ((idx a s1).bind fun f=>some f.Not) else some false).bind fun g=>some g)).bind fun h=>((if h then some true else ((if decide (0 < s1) then ((idx a (i64.wrap (s1 - 1))).bind fun i=>some i.Not) else some false).bind fun j=>((if j then ((idx a s1).bind fun l=>some (!l.Not)) else some false).bind fun m=>some m))).bind fun n=>(if n then some false else ((eT N a k) (i64.wrap (s1+1)))))))))) else ((dO N (a.length:Int) 1 6).bind fun o=>some o))
def p9 (N:Nat) (a:(List au)):Option (Bool):=
  eT N a N 0
def pm (N:Nat) (a:ce):Option (Bool):=
  ((dO N a.Op 1 3).bind fun b=>((if b then ((lg N a.L).bind fun c=>some c) else some false).bind fun d=>((if d then ((lg N a.R).bind fun e=>some e) else some false).bind fun f=>((if f then some (!decide (a.L.K=3)) else some false).bind fun g=>((if g then some (!decide (a.R.K=3)) else some false).bind fun h=>some h)))))
def fv (N:Nat) (a:(List ce)) (b:(List ByteArray)):Nat→Int→Option (Bool)
  | 0,_=>none
  | k+1,s1=>
    (if decide (s1 < (a.length:Int)) then ((idx a s1).bind fun c=>((pm N c).bind fun d=>((if !d then some true else ((idx a s1).bind fun e=>((hY N e.L b).bind fun f=>some (!f)))).bind fun g=>((if g then some true else ((idx a s1).bind fun h=>((hY N h.R b).bind fun i=>some (!i)))).bind fun j=>(if j then some false else ((fv N a b k) (i64.wrap (s1+1)))))))) else some (decide ((a.length:Int)≤6)))
def ni (N:Nat) (a:(List ce)) (b:(List ByteArray)):Option (Bool):=
  fv N a b N 0
def jN (N:Nat) (a:bn):Option (Bool):=
  ((lg N a).bind fun b=>((if b then some (!decide (a.K=3)) else some false).bind fun c=>some c))
def jp (N:Nat) (a:bY) (s1:Bool):Option (Bool):=
  (if s1 then ((jN N a.L).bind fun b=>((if b then ((jN N a.R).bind fun c=>some c) else some false).bind fun d=>some d)) else some false)
def pD (N:Nat) (a:bY):Option (Bool):=
  (if seq a.Op (⟨#[]⟩:ByteArray) then ((jN N a.L).bind fun b=>((if b then some (nB a.R (⟨0,(⟨#[]⟩:ByteArray),(⟨0,0,(⟨#[]⟩:ByteArray)⟩:bi)⟩:bn)) else some false).bind fun c=>some c)) else (if seq a.Op (⟨#[43]⟩:ByteArray) then jp N a (seq a.Op (⟨#[43]⟩:ByteArray)) else jp N a (seq a.Op (⟨#[45]⟩:ByteArray))))
def gm (N:Nat) (a:(List bY)):Nat→Int→Option (Bool)
  | 0,_=>none
  | k+1,s1=>
    (if decide (s1 < (a.length:Int)) then ((idx a s1).bind fun b=>((pD N b).bind fun c=>(if !c then some false else ((gm N a k) (i64.wrap (s1+1)))))) else some (decide ((a.length:Int)≤5)))
def l5 (N:Nat) (a:(List bY)):Option (Bool):=
  gm N a N 0
def km (N:Nat) (a:cA) (b:Bool) (s1:Bool):Option (Bool):=
  (if s1 then ((if b then some (decide (a.N=0)) else some false).bind fun c=>some c) else some false)
def qL (N:Nat) (a:cA):Option (Bool):=
  ((if seq a.Name (⟨#[]⟩:ByteArray) then some (decide ((a.Args.length:Int)=0)) else some false).bind fun c=>((if c then some (seq a.Undo (⟨#[]⟩:ByteArray)) else some false).bind fun b=>(if decide (a.Kind=1) then ((eH N a.Name).bind fun d=>((if d then ((l5 N a.Args).bind fun e=>some e) else some false).bind fun f=>((if f then some (decide (a.N=0)) else some false).bind fun g=>((if g then some (seq a.Undo (⟨#[]⟩:ByteArray)) else some false).bind fun h=>some h)))) else (if decide (a.Kind=3) then ((eH N a.Name).bind fun i=>((if i then ((l5 N a.Args).bind fun j=>some j) else some false).bind fun k=>((if k then some (decide (a.N=0)) else some false).bind fun l=>((if l then ((if seq a.Undo (⟨#[]⟩:ByteArray) then some true else ((eH N a.Undo).bind fun m=>some m)).bind fun n=>some n) else some false).bind fun o=>some o)))) else (if decide (a.Kind=4) then ((eH N a.Name).bind fun p=>((if p then ((l5 N a.Args).bind fun q=>some q) else some false).bind fun r=>((if r then ((dO N a.N 0 100000).bind fun s=>some s) else some false).bind fun t=>((if t then some (seq a.Undo (⟨#[]⟩:ByteArray)) else some false).bind fun u=>some u)))) else (if decide (a.Kind=2) then ((if b then ((dO N a.N 0 7).bind fun v=>some v) else some false).bind fun w=>some w) else (if decide (a.Kind=5) then km N a b (decide (a.Kind=5)) else km N a b (decide (a.Kind=6)))))))))
def gq (N:Nat) (a:(List cA)) (b:(List ByteArray)) (s1:Int) (c:Int→Option (Bool)):Nat→Int→Option (Bool)
  | 0,_=>none
  | k+1,s2=>
    ((idx a s1).bind fun d=>(if decide (s2 < (d.Args.length:Int)) then ((idx a s1).bind fun e=>((idx e.Args s2).bind fun f=>((hY N f.L b).bind fun g=>((if !g then some true else ((idx a s1).bind fun h=>((idx h.Args s2).bind fun i=>((hY N i.R b).bind fun j=>some (!j))))).bind fun l=>(if l then some false else ((gq N a b s1 c k) (i64.wrap (s2+1)))))))) else (c (i64.wrap (s1+1)))))
def dA (N:Nat) (a:(List cA)) (b:(List ByteArray)) (c:Int):Nat→Int→Option (Bool)
  | 0,_=>none
  | k+1,s1=>
    (if decide (s1 < (a.length:Int)) then ((idx a s1).bind fun d=>((qL N d).bind fun e=>((if !e then some true else ((idx a s1).bind fun f=>((if decide (f.Kind=2) then ((idx a s1).bind fun g=>some (decide (c≤g.N))) else some false).bind fun h=>some h))).bind fun i=>(if i then some false else gq N a b s1 (dA N a b c k) N 0)))) else ((dO N (a.length:Int) 1 6).bind fun j=>some j))
def pM (N:Nat) (a:(List cA)) (b:(List ByteArray)) (c:Int):Option (Bool):=
  dA N a b c N 0
def pf (N:Nat) (a:ai):Option (Bool):=
  ((iN N a).bind fun b=>((eH N a.Name).bind fun c=>((if c then ((dO N a.Sal (-100) 100).bind fun d=>some d) else some false).bind fun e=>((if e then ((p9 N a.Pats).bind fun f=>some f) else some false).bind fun g=>((if g then ((ni N a.Conds b).bind fun h=>some h) else some false).bind fun i=>((if i then ((gT N a).bind fun j=>((pM N a.Acts b j).bind fun k=>some k)) else some false).bind fun l=>some l))))))
def fX (N:Nat) (a:bo) (b:ByteArray):Nat→Int→Option (Int)
  | 0,_=>none
  | k+1,s1=>
    (if decide (s1 < (a.Rules.length:Int)) then ((idx a.Rules s1).bind fun c=>(if seq c.Name b then some s1 else ((fX N a b k) (i64.wrap (s1+1))))) else some (-1))
def pK (N:Nat) (a:bo) (b:ByteArray):Option (Int):=
  fX N a b N 0
def fU (N:Nat) (a:bo):Nat→Int→Option (Bool)
  | 0,_=>none
  | k+1,s1=>
    (if decide (s1 < (a.Rules.length:Int)) then ((idx a.Rules s1).bind fun b=>((pf N b).bind fun c=>((if !c then some true else ((idx a.Rules s1).bind fun d=>((pK N a d.Name).bind fun e=>some (!decide (e=s1))))).bind fun f=>(if f then some false else ((fU N a k) (i64.wrap (s1+1))))))) else ((eH N a.Name).bind fun g=>((if g then ((dO N (a.Rules.length:Int) 1 12).bind fun h=>some h) else some false).bind fun i=>some i)))
def rh (N:Nat) (a:bo):Option (Bool):=
  fU N a N 0
def eM (N:Nat) (a:(List bi)):Nat→Int→Option (Bool)
  | 0,_=>none
  | k+1,s1=>
    (if decide (s1 < (a.length:Int)) then ((idx a s1).bind fun b=>((oC N b).bind fun c=>(if !c then some false else ((eM N a k) (i64.wrap (s1+1)))))) else some (decide ((a.length:Int)≤5)))
def rM (N:Nat) (a:(List bi)):Option (Bool):=
  eM N a N 0
def po (N:Nat) (a:aH):Option (Bool):=
  ((eH N a.Kind).bind fun b=>((if b then ((rM N a.Fields).bind fun c=>some c) else some false).bind fun d=>some d))
def gA (N:Nat) (a:ag):Nat→Int→Option (Bool)
  | 0,_=>none
  | k+1,s1=>
    (if decide (s1 < (a.Items.length:Int)) then ((idx a.Items s1).bind fun b=>((po N b.F).bind fun c=>((if !c then some true else some (decide (b.Id < 1))).bind fun d=>((if d then some true else some (decide (a.Next≤b.Id))).bind fun e=>((if e then some true else ((if decide (0 < s1) then ((idx a.Items (i64.wrap (s1 - 1))).bind fun f=>some (decide (b.Id≤f.Id))) else some false).bind fun g=>some g)).bind fun h=>((if h then some true else ((pN N a b.F).bind fun i=>some (!decide (i=b.Id)))).bind fun j=>(if j then some false else ((gA N a k) (i64.wrap (s1+1)))))))))) else some true)
def nj (N:Nat) (a:ag):Option (Bool):=
  ((dO N a.Next 1 1000000).bind fun b=>((if !b then some true else some (decide (40 < (a.Items.length:Int)))).bind fun c=>(if c then some false else gA N a N 0)))
def hU (N:Nat) (c:bo) (d:bO) (a:ag):Nat→(List bm)→(List aP)→Int→Option (aI)
  | 0,_,_,_=>none
  | k+1,s1,s2,b=>
    (if decide (b < (a.Items.length:Int)) then ((ssl a.Items 0 (i64.wrap (b+1))).bind fun f=>((idx a.Items b).bind fun g=>((mR N c d (⟨s1,s2⟩:aI) (⟨f,a.Next⟩:ag) g.Id).bind fun e=>((hU N c d a k) e.Alphas e.Rules (i64.wrap (b+1)))))) else some (⟨s1,s2⟩:aI))
def td (N:Nat) (c:bo) (a:bO) (d:ag):Option (aI):=
  ((mE N a).bind fun b=>hU N c a d N b.Alphas b.Rules 0)
def fw (N:Nat) (a:(List ah)) (b:Int) (c:Int):Nat→Int→Option (Bool)
  | 0,_=>none
  | k+1,s1=>
    (if decide (s1 < (a.length:Int)) then ((idx a s1).bind fun d=>((if !decide ((d.Ids.length:Int)=b) then some true else ((idx a s1).bind fun e=>some (!decide ((e.Hits.length:Int)=c)))).bind fun f=>(if f then some false else ((fw N a b c k) (i64.wrap (s1+1)))))) else some true)
def nL (N:Nat) (a:(List ah)) (b:Int) (c:Int):Option (Bool):=
  fw N a b c N 0
def fG (N:Nat) (a:aI) (s1:Int) (s2:Int) (b:Int→Option (Bool)) (c:Int):Option (Bool):=
  ((idx a.Rules s1).bind fun d=>((idx d.Levels s2).bind fun e=>((nL N e.Toks (i64.wrap (s2+1)) c).bind fun f=>(if !f then some false else (b (i64.wrap (s2+1)))))))
def cp (N:Nat) (c:bO) (a:aI) (s1:Int) (d:Int→Option (Bool)) (b:aR):Nat→Int→Option (Bool)
  | 0,_=>none
  | k+1,s2=>
    (if decide (s2 < (b.Pos.length:Int)) then (if decide (s2=i64.wrap ((b.Pos.length:Int) - 1)) then ((idx c.Chains s1).bind fun e=>fG N a s1 s2 (cp N c a s1 d b k) (e.Neg.length:Int)) else fG N a s1 s2 (cp N c a s1 d b k) 0) else (d (i64.wrap (s1+1))))
def bP (N:Nat) (b:bO) (a:aI):Nat→Int→Option (Bool)
  | 0,_=>none
  | k+1,s1=>
    (if decide (s1 < (a.Rules.length:Int)) then ((idx b.Chains s1).bind fun c=>((idx a.Rules s1).bind fun d=>(if !decide ((d.Levels.length:Int)=(c.Pos.length:Int)) then some false else cp N b a s1 (bP N b a k) c N 0))) else some true)
def m9 (N:Nat) (a:bO) (b:aI):Option (Bool):=
  ((if !decide ((b.Alphas.length:Int)=(a.Alphas.length:Int)) then some true else some (!decide ((b.Rules.length:Int)=(a.Chains.length:Int)))).bind fun c=>(if c then some false else bP N a b N 0))
def ga (N:Nat) (a:(List ah)) (b:ah):Nat→Int→Option (Bool)
  | 0,_=>none
  | k+1,s1=>
    (if decide (s1 < (a.length:Int)) then ((idx a s1).bind fun c=>((iR N c.Ids b.Ids).bind fun d=>((if d then ((idx a s1).bind fun e=>((iR N e.Hits b.Hits).bind fun f=>some f)) else some false).bind fun g=>(if g then some true else ((ga N a b k) (i64.wrap (s1+1))))))) else some false)
def mD (N:Nat) (a:(List ah)) (b:ah):Option (Bool):=
  ga N a b N 0
def eA (N:Nat) (a:(List ah)) (b:(List ah)):Nat→Int→Option (Bool)
  | 0,_=>none
  | k+1,s1=>
    (if decide (s1 < (a.length:Int)) then ((idx a s1).bind fun c=>((mD N b c).bind fun d=>((if !d then some true else ((idx b s1).bind fun e=>((mD N a e).bind fun f=>some (!f)))).bind fun g=>(if g then some false else ((eA N a b k) (i64.wrap (s1+1))))))) else some true)
def lW (N:Nat) (a:(List ah)) (b:(List ah)):Option (Bool):=
  (if !decide ((a.length:Int)=(b.length:Int)) then some false else eA N a b N 0)
def dJ (N:Nat) (b:aI) (c:aI) (s2:Int) (d:Int→Option (Bool)):Nat→Int→Option (Bool)
  | 0,_=>none
  | k+1,a=>
    ((idx b.Rules s2).bind fun e=>(if decide (a < (e.Levels.length:Int)) then ((idx b.Rules s2).bind fun f=>((idx f.Levels a).bind fun g=>((idx c.Rules s2).bind fun h=>((idx h.Levels a).bind fun i=>((lW N g.Toks i.Toks).bind fun j=>(if !j then some false else ((dJ N b c s2 d k) (i64.wrap (a+1))))))))) else (d (i64.wrap (s2+1)))))
def cC (N:Nat) (a:aI) (b:aI):Nat→Int→Option (Bool)
  | 0,_=>none
  | k+1,s2=>
    (if decide (s2 < (a.Rules.length:Int)) then dJ N a b s2 (cC N a b k) N 0 else some true)
def dC (N:Nat) (a:aI) (b:aI):Nat→Int→Option (Bool)
  | 0,_=>none
  | k+1,s1=>
    (if decide (s1 < (a.Alphas.length:Int)) then ((idx a.Alphas s1).bind fun c=>((idx b.Alphas s1).bind fun d=>((iR N c.L d.L).bind fun e=>(if !e then some false else ((dC N a b k) (i64.wrap (s1+1))))))) else cC N a b N 0)
def lN (N:Nat) (a:bo) (b:aI) (c:ag):Option (Bool):=
  ((rh N a).bind fun e=>((if !e then some true else ((nj N c).bind fun f=>some (!f))).bind fun g=>(if g then some false else ((mC N a).bind fun d=>((td N a d c).bind fun h=>((m9 N d b).bind fun i=>(if !i then some false else dC N b h N 0)))))))
noncomputable def ir (N:Nat) (c:(List Int)) (a:(List aj) × (List aj)):Nat→Bool→Int→Option (Bool)
  | 0,_,_=>none
  | k+1,s1,s2=>
    ((if decide (s2 < (a.1.length:Int)) then some s1 else some false).bind fun d=>(if d then ((idx a.1 s2).bind fun e=>((idx a.2 s2).bind fun f=>((jz N e f).bind fun g=>((if g then ((idx a.1 s2).bind fun h=>((idx a.2 s2).bind fun i=>((jo N h.Binds i.Binds).bind fun j=>some j))) else some false).bind fun l=>((ir N c a k) l (i64.wrap (s2+1))))))) else ((iz N c).bind fun b=>((lE N a.1 a.2).bind fun m=>((if (m == s1) then ((lE N a.1 a.1).bind fun n=>some n) else some false).bind fun o=>((if o then ((lR N b.1 b.2.1 b.2.2).bind fun p=>((lN N b.1 b.2.1 b.2.2).bind fun q=>some (p == q))) else some false).bind fun r=>some r))))))
noncomputable def pG (N:Nat) (a:(List Int)):Option (Bool):=
  ((wS N a).bind fun c=>(if c then some true else ((jg N a).bind fun b=>ir N a b N (decide ((b.1.length:Int)=(b.2.length:Int))) 0)))
end Go.Proofs.YtedmfnmbjglmbaaGreat
