/- Printed by a program of ours: Lean functions of plain data for the Go functions. -/
import Derived.Test.YtkdffjpgnhobhaaGreatEW
namespace Go.Proofs.YtkdffjpgnhobhaaGreat
open Eng IntKind
set_option linter.unusedVariables false
set_option linter.unusedSimpArgs false

structure aE where
  K:Int
  N:Int
  S:ByteArray
  deriving DecidableEq
def av (Φ:Hp) (F:List Nat) (cs:List Value) (x:aE):Prop:=cs=[.int .i64 x.K,.int .i64 x.N,.string x.S]∧F=[]
theorem av.lasts:bG av:=fun _ _ _ _ _ _ _ _ h=>h
instance:LS av:=⟨av.lasts⟩
theorem av.knows:d6 av:=fun _ _ _ _ h=>h.2 ▸ Kw.nil
theorem av.flat:wM av:=fun _ _ _ _ h=>h.2
theorem av.one:gD av:=fun _ _ _ _ h=>by obtain ⟨rfl,-⟩:=h; exact One.all ⟨rfl,rfl,rfl,trivial⟩
structure aW where
  K:Int
  S:ByteArray
  V:aE
  deriving DecidableEq
def bO (Φ:Hp) (F:List Nat) (cs:List Value) (x:aW):Prop:=cs=[.int .i64 x.K,.string x.S,.int .i64 x.V.K,.int .i64 x.V.N,.string x.V.S]∧F=[]
theorem bO.lasts:bG bO:=fun _ _ _ _ _ _ _ _ h=>h
instance:LS bO:=⟨bO.lasts⟩
theorem bO.knows:d6 bO:=fun _ _ _ _ h=>h.2 ▸ Kw.nil
theorem bO.flat:wM bO:=fun _ _ _ _ h=>h.2
theorem bO.one:gD bO:=fun _ _ _ _ h=>by obtain ⟨rfl,-⟩:=h; exact One.all ⟨rfl,rfl,rfl,rfl,rfl,trivial⟩
structure ax where
  Kind:ByteArray
  Args:(List aW)
  Not:Bool
  deriving DecidableEq
def bR (Φ:Hp) (F:List Nat) (cs:List Value) (x:ax):Prop:=
  ∃ (s0:Value) (F0:List Nat),cs=[.string x.Kind,s0,.bool x.Not]∧F=F0∧RSl bO 5 Φ F0 s0 x.Args
theorem bR.lasts:bG bR:=fun X Φ Φ' F cs x hf hd ⟨s0,F0,hc,hF,h0⟩=>by
  rw [hF] at hd
  exact ⟨s0,F0,hc,hF,h0.frame bO.lasts hf (fun k hk=>hd k (by simp [hk]))⟩
instance:LS bR:=⟨bR.lasts⟩
theorem bR.knows:d6 bR:=fun Φ F cs x ⟨s0,F0,hc,hF,h0⟩=>hF ▸ h0.kn
theorem bR.one:gD bR:=fun _ _ _ _ h=>by obtain ⟨s0,F0,rfl,-,h0⟩:=h; exact One.all ⟨rfl,h0.one,rfl,trivial⟩
def f7 (Φ:Hp) (F:List Nat) (cs:List Value) (x:ax):Prop:=
  ∃ (s0:Value),cs=[.string x.Kind,s0,.bool x.Not]∧F=(ob s0++[])∧OSl bO 227 5 Φ [] s0 x.Args
theorem f7.lasts:bG f7:=fun X Φ Φ' F cs x hf hd ⟨s0,hc,hF,h0⟩=>by
  rw [hF] at hd
  exact ⟨s0,hc,hF,h0.frame bO.lasts hf (fun k hk=>hd k (by simp [hk])) (Dj.nil _)⟩
instance:LS f7:=⟨f7.lasts⟩
theorem f7.knows:d6 f7:=fun Φ F cs x ⟨s0,hc,hF,h0⟩=>hF ▸ (h0.knO.app h0.kn)
theorem f7.one:gD f7:=fun _ _ _ _ h=>by obtain ⟨s0,rfl,-,h0⟩:=h; exact One.all ⟨rfl,h0.one,rfl,trivial⟩
theorem f7.gives:ek f7 bR:=fun Φ F cs x ⟨s0,hc,hF,h0⟩=>⟨s0,ob s0++[],hc,hF,h0.rslG (ek.refl _)⟩
structure bj where
  Op:Int
  L:aW
  R:aW
  deriving DecidableEq
def aZ (Φ:Hp) (F:List Nat) (cs:List Value) (x:bj):Prop:=cs=[.int .i64 x.Op,.int .i64 x.L.K,.string x.L.S,.int .i64 x.L.V.K,.int .i64 x.L.V.N,.string x.L.V.S,.int .i64 x.R.K,.string x.R.S,.int .i64 x.R.V.K,.int .i64 x.R.V.N,.string x.R.V.S]∧F=[]
theorem aZ.lasts:bG aZ:=fun _ _ _ _ _ _ _ _ h=>h
instance:LS aZ:=⟨aZ.lasts⟩
theorem aZ.knows:d6 aZ:=fun _ _ _ _ h=>h.2 ▸ Kw.nil
theorem aZ.flat:wM aZ:=fun _ _ _ _ h=>h.2
theorem aZ.one:gD aZ:=fun _ _ _ _ h=>by obtain ⟨rfl,-⟩:=h; exact One.all ⟨rfl,rfl,rfl,rfl,rfl,rfl,rfl,rfl,rfl,rfl,rfl,trivial⟩
structure bh where
  Op:ByteArray
  L:aW
  R:aW
  deriving DecidableEq
def bq (Φ:Hp) (F:List Nat) (cs:List Value) (x:bh):Prop:=cs=[.string x.Op,.int .i64 x.L.K,.string x.L.S,.int .i64 x.L.V.K,.int .i64 x.L.V.N,.string x.L.V.S,.int .i64 x.R.K,.string x.R.S,.int .i64 x.R.V.K,.int .i64 x.R.V.N,.string x.R.V.S]∧F=[]
theorem bq.lasts:bG bq:=fun _ _ _ _ _ _ _ _ h=>h
instance:LS bq:=⟨bq.lasts⟩
theorem bq.knows:d6 bq:=fun _ _ _ _ h=>h.2 ▸ Kw.nil
theorem bq.flat:wM bq:=fun _ _ _ _ h=>h.2
theorem bq.one:gD bq:=fun _ _ _ _ h=>by obtain ⟨rfl,-⟩:=h; exact One.all ⟨rfl,rfl,rfl,rfl,rfl,rfl,rfl,rfl,rfl,rfl,rfl,trivial⟩
structure bH where
  Kind:Int
  Name:ByteArray
  Args:(List bh)
  N:Int
  Undo:ByteArray
  deriving DecidableEq
def dZ (Φ:Hp) (F:List Nat) (cs:List Value) (x:bH):Prop:=
  ∃ (s0:Value) (F0:List Nat),cs=[.int .i64 x.Kind,.string x.Name,s0,.int .i64 x.N,.string x.Undo]∧F=F0∧RSl bq 11 Φ F0 s0 x.Args
theorem dZ.lasts:bG dZ:=fun X Φ Φ' F cs x hf hd ⟨s0,F0,hc,hF,h0⟩=>by
  rw [hF] at hd
  exact ⟨s0,F0,hc,hF,h0.frame bq.lasts hf (fun k hk=>hd k (by simp [hk]))⟩
instance:LS dZ:=⟨dZ.lasts⟩
theorem dZ.knows:d6 dZ:=fun Φ F cs x ⟨s0,F0,hc,hF,h0⟩=>hF ▸ h0.kn
theorem dZ.one:gD dZ:=fun _ _ _ _ h=>by obtain ⟨s0,F0,rfl,-,h0⟩:=h; exact One.all ⟨rfl,rfl,h0.one,rfl,rfl,trivial⟩
def gi (Φ:Hp) (F:List Nat) (cs:List Value) (x:bH):Prop:=
  ∃ (s0:Value),cs=[.int .i64 x.Kind,.string x.Name,s0,.int .i64 x.N,.string x.Undo]∧F=(ob s0++[])∧OSl bq 280 11 Φ [] s0 x.Args
theorem gi.lasts:bG gi:=fun X Φ Φ' F cs x hf hd ⟨s0,hc,hF,h0⟩=>by
  rw [hF] at hd
  exact ⟨s0,hc,hF,h0.frame bq.lasts hf (fun k hk=>hd k (by simp [hk])) (Dj.nil _)⟩
instance:LS gi:=⟨gi.lasts⟩
theorem gi.knows:d6 gi:=fun Φ F cs x ⟨s0,hc,hF,h0⟩=>hF ▸ (h0.knO.app h0.kn)
theorem gi.one:gD gi:=fun _ _ _ _ h=>by obtain ⟨s0,rfl,-,h0⟩:=h; exact One.all ⟨rfl,rfl,h0.one,rfl,rfl,trivial⟩
theorem gi.gives:ek gi dZ:=fun Φ F cs x ⟨s0,hc,hF,h0⟩=>⟨s0,ob s0++[],hc,hF,h0.rslG (ek.refl _)⟩
structure af where
  Name:ByteArray
  Sal:Int
  Pats:(List ax)
  Conds:(List bj)
  Acts:(List bH)
  deriving DecidableEq
def bU (Φ:Hp) (F:List Nat) (cs:List Value) (x:af):Prop:=
  ∃ (s0:Value) (F0:List Nat) (s1:Value) (F1:List Nat) (s2:Value) (F2:List Nat),cs=[.string x.Name,.int .i64 x.Sal,s0,s1,s2]∧F=F0++(F1++(F2))∧RSl bR 3 Φ F0 s0 x.Pats∧RSl aZ 11 Φ F1 s1 x.Conds∧RSl dZ 5 Φ F2 s2 x.Acts
theorem bU.lasts:bG bU:=fun X Φ Φ' F cs x hf hd ⟨s0,F0,s1,F1,s2,F2,hc,hF,h0,h1,h2⟩=>by
  rw [hF] at hd
  exact ⟨s0,F0,s1,F1,s2,F2,hc,hF,h0.frame bR.lasts hf (fun k hk=>hd k (by simp [hk])),h1.frame aZ.lasts hf (fun k hk=>hd k (by simp [hk])),h2.frame dZ.lasts hf (fun k hk=>hd k (by simp [hk]))⟩
instance:LS bU:=⟨bU.lasts⟩
theorem bU.knows:d6 bU:=fun Φ F cs x ⟨s0,F0,s1,F1,s2,F2,hc,hF,h0,h1,h2⟩=>hF ▸ (h0.kn.app (h1.kn.app h2.kn))
theorem bU.one:gD bU:=fun _ _ _ _ h=>by obtain ⟨s0,F0,s1,F1,s2,F2,rfl,-,h0,h1,h2⟩:=h; exact One.all ⟨rfl,rfl,h0.one,h1.one,h2.one,trivial⟩
def bJ (Φ:Hp) (F:List Nat) (cs:List Value) (x:af):Prop:=
  ∃ (s0:Value) (D0:List Nat) (s1:Value) (s2:Value) (D2:List Nat),cs=[.string x.Name,.int .i64 x.Sal,s0,s1,s2]∧F=(ob s0++D0)++((ob s1++[])++((ob s2++D2)))∧OSl f7 214 3 Φ D0 s0 x.Pats∧OSl aZ 229 11 Φ [] s1 x.Conds∧OSl gi 232 5 Φ D2 s2 x.Acts
theorem bJ.lasts:bG bJ:=fun X Φ Φ' F cs x hf hd ⟨s0,D0,s1,s2,D2,hc,hF,h0,h1,h2⟩=>by
  rw [hF] at hd
  exact ⟨s0,D0,s1,s2,D2,hc,hF,h0.frame f7.lasts hf (fun k hk=>hd k (by simp [hk])) (fun k hk=>hd k (by simp [hk])),h1.frame aZ.lasts hf (fun k hk=>hd k (by simp [hk])) (Dj.nil _),h2.frame gi.lasts hf (fun k hk=>hd k (by simp [hk])) (fun k hk=>hd k (by simp [hk]))⟩
instance:LS bJ:=⟨bJ.lasts⟩
theorem bJ.knows:d6 bJ:=fun Φ F cs x ⟨s0,D0,s1,s2,D2,hc,hF,h0,h1,h2⟩=>hF ▸ ((h0.knO.app h0.kn).app ((h1.knO.app h1.kn).app (h2.knO.app h2.kn)))
theorem bJ.one:gD bJ:=fun _ _ _ _ h=>by obtain ⟨s0,D0,s1,s2,D2,rfl,-,h0,h1,h2⟩:=h; exact One.all ⟨rfl,rfl,h0.one,h1.one,h2.one,trivial⟩
theorem bJ.gives:ek bJ bU:=fun Φ F cs x ⟨s0,D0,s1,s2,D2,hc,hF,h0,h1,h2⟩=>⟨s0,ob s0++D0,s1,ob s1++[],s2,ob s2++D2,hc,hF,h0.rslG f7.gives,h1.rslG (ek.refl _),h2.rslG gi.gives⟩
structure bl where
  Name:ByteArray
  Rules:(List af)
  deriving DecidableEq
def tf (Φ:Hp) (F:List Nat) (cs:List Value) (x:bl):Prop:=
  ∃ (s0:Value) (F0:List Nat),cs=[.string x.Name,s0]∧F=F0∧RSl bU 5 Φ F0 s0 x.Rules
theorem tf.lasts:bG tf:=fun X Φ Φ' F cs x hf hd ⟨s0,F0,hc,hF,h0⟩=>by
  rw [hF] at hd
  exact ⟨s0,F0,hc,hF,h0.frame bU.lasts hf (fun k hk=>hd k (by simp [hk]))⟩
instance:LS tf:=⟨tf.lasts⟩
theorem tf.knows:d6 tf:=fun Φ F cs x ⟨s0,F0,hc,hF,h0⟩=>hF ▸ h0.kn
theorem tf.one:gD tf:=fun _ _ _ _ h=>by obtain ⟨s0,F0,rfl,-,h0⟩:=h; exact One.all ⟨rfl,h0.one,trivial⟩
def un (Φ:Hp) (F:List Nat) (cs:List Value) (x:bl):Prop:=
  ∃ (s0:Value) (D0:List Nat),cs=[.string x.Name,s0]∧F=(ob s0++D0)∧OSl bJ 145 5 Φ D0 s0 x.Rules
theorem un.lasts:bG un:=fun X Φ Φ' F cs x hf hd ⟨s0,D0,hc,hF,h0⟩=>by
  rw [hF] at hd
  exact ⟨s0,D0,hc,hF,h0.frame bJ.lasts hf (fun k hk=>hd k (by simp [hk])) (fun k hk=>hd k (by simp [hk]))⟩
instance:LS un:=⟨un.lasts⟩
theorem un.knows:d6 un:=fun Φ F cs x ⟨s0,D0,hc,hF,h0⟩=>hF ▸ (h0.knO.app h0.kn)
theorem un.one:gD un:=fun _ _ _ _ h=>by obtain ⟨s0,D0,rfl,-,h0⟩:=h; exact One.all ⟨rfl,h0.one,trivial⟩
theorem un.gives:ek un tf:=fun Φ F cs x ⟨s0,D0,hc,hF,h0⟩=>⟨s0,ob s0++D0,hc,hF,h0.rslG bJ.gives⟩
structure a8 where
  Kind:ByteArray
  N:Int
  Consts:(List aE)
  At:(List Int)
  deriving DecidableEq
def be (Φ:Hp) (F:List Nat) (cs:List Value) (x:a8):Prop:=
  ∃ (s0:Value) (F0:List Nat) (s1:Value) (F1:List Nat),cs=[.string x.Kind,.int .i64 x.N,s0,s1]∧F=F0++(F1)∧RSl av 3 Φ F0 s0 x.Consts∧RSl (RI .i64) 1 Φ F1 s1 x.At
theorem be.lasts:bG be:=fun X Φ Φ' F cs x hf hd ⟨s0,F0,s1,F1,hc,hF,h0,h1⟩=>by
  rw [hF] at hd
  exact ⟨s0,F0,s1,F1,hc,hF,h0.frame av.lasts hf (fun k hk=>hd k (by simp [hk])),h1.frame RI.lasts hf (fun k hk=>hd k (by simp [hk]))⟩
instance:LS be:=⟨be.lasts⟩
theorem be.knows:d6 be:=fun Φ F cs x ⟨s0,F0,s1,F1,hc,hF,h0,h1⟩=>hF ▸ (h0.kn.app h1.kn)
theorem be.one:gD be:=fun _ _ _ _ h=>by obtain ⟨s0,F0,s1,F1,rfl,-,h0,h1⟩:=h; exact One.all ⟨rfl,rfl,h0.one,h1.one,trivial⟩
def aK (Φ:Hp) (F:List Nat) (cs:List Value) (x:a8):Prop:=
  ∃ (s0:Value) (s1:Value),cs=[.string x.Kind,.int .i64 x.N,s0,s1]∧F=(ob s0++[])++((ob s1++[]))∧OSl av 225 3 Φ [] s0 x.Consts∧OSl (RI .i64) 3 1 Φ [] s1 x.At
theorem aK.lasts:bG aK:=fun X Φ Φ' F cs x hf hd ⟨s0,s1,hc,hF,h0,h1⟩=>by
  rw [hF] at hd
  exact ⟨s0,s1,hc,hF,h0.frame av.lasts hf (fun k hk=>hd k (by simp [hk])) (Dj.nil _),h1.frame RI.lasts hf (fun k hk=>hd k (by simp [hk])) (Dj.nil _)⟩
instance:LS aK:=⟨aK.lasts⟩
theorem aK.knows:d6 aK:=fun Φ F cs x ⟨s0,s1,hc,hF,h0,h1⟩=>hF ▸ ((h0.knO.app h0.kn).app (h1.knO.app h1.kn))
theorem aK.one:gD aK:=fun _ _ _ _ h=>by obtain ⟨s0,s1,rfl,-,h0,h1⟩:=h; exact One.all ⟨rfl,rfl,h0.one,h1.one,trivial⟩
theorem aK.gives:ek aK be:=fun Φ F cs x ⟨s0,s1,hc,hF,h0,h1⟩=>⟨s0,ob s0++[],s1,ob s1++[],hc,hF,h0.rslG (ek.refl _),h1.rslG (ek.refl _)⟩
structure ac where
  Pos:(List Int)
  Neg:(List Int)
  deriving DecidableEq
def bv (Φ:Hp) (F:List Nat) (cs:List Value) (x:ac):Prop:=
  ∃ (s0:Value) (F0:List Nat) (s1:Value) (F1:List Nat),cs=[s0,s1]∧F=F0++(F1)∧RSl (RI .i64) 1 Φ F0 s0 x.Pos∧RSl (RI .i64) 1 Φ F1 s1 x.Neg
theorem bv.lasts:bG bv:=fun X Φ Φ' F cs x hf hd ⟨s0,F0,s1,F1,hc,hF,h0,h1⟩=>by
  rw [hF] at hd
  exact ⟨s0,F0,s1,F1,hc,hF,h0.frame RI.lasts hf (fun k hk=>hd k (by simp [hk])),h1.frame RI.lasts hf (fun k hk=>hd k (by simp [hk]))⟩
instance:LS bv:=⟨bv.lasts⟩
theorem bv.knows:d6 bv:=fun Φ F cs x ⟨s0,F0,s1,F1,hc,hF,h0,h1⟩=>hF ▸ (h0.kn.app h1.kn)
theorem bv.one:gD bv:=fun _ _ _ _ h=>by obtain ⟨s0,F0,s1,F1,rfl,-,h0,h1⟩:=h; exact One.all ⟨h0.one,h1.one,trivial⟩
def aD (Φ:Hp) (F:List Nat) (cs:List Value) (x:ac):Prop:=
  ∃ (s0:Value) (s1:Value),cs=[s0,s1]∧F=(ob s0++[])++((ob s1++[]))∧OSl (RI .i64) 3 1 Φ [] s0 x.Pos∧OSl (RI .i64) 3 1 Φ [] s1 x.Neg
theorem aD.lasts:bG aD:=fun X Φ Φ' F cs x hf hd ⟨s0,s1,hc,hF,h0,h1⟩=>by
  rw [hF] at hd
  exact ⟨s0,s1,hc,hF,h0.frame RI.lasts hf (fun k hk=>hd k (by simp [hk])) (Dj.nil _),h1.frame RI.lasts hf (fun k hk=>hd k (by simp [hk])) (Dj.nil _)⟩
instance:LS aD:=⟨aD.lasts⟩
theorem aD.knows:d6 aD:=fun Φ F cs x ⟨s0,s1,hc,hF,h0,h1⟩=>hF ▸ ((h0.knO.app h0.kn).app (h1.knO.app h1.kn))
theorem aD.one:gD aD:=fun _ _ _ _ h=>by obtain ⟨s0,s1,rfl,-,h0,h1⟩:=h; exact One.all ⟨h0.one,h1.one,trivial⟩
theorem aD.gives:ek aD bv:=fun Φ F cs x ⟨s0,s1,hc,hF,h0,h1⟩=>⟨s0,ob s0++[],s1,ob s1++[],hc,hF,h0.rslG (ek.refl _),h1.rslG (ek.refl _)⟩
structure bd where
  Alphas:(List a8)
  Chains:(List ac)
  deriving DecidableEq
def tg (Φ:Hp) (F:List Nat) (cs:List Value) (x:bd):Prop:=
  ∃ (s0:Value) (F0:List Nat) (s1:Value) (F1:List Nat),cs=[s0,s1]∧F=F0++(F1)∧RSl be 4 Φ F0 s0 x.Alphas∧RSl bv 2 Φ F1 s1 x.Chains
theorem tg.lasts:bG tg:=fun X Φ Φ' F cs x hf hd ⟨s0,F0,s1,F1,hc,hF,h0,h1⟩=>by
  rw [hF] at hd
  exact ⟨s0,F0,s1,F1,hc,hF,h0.frame be.lasts hf (fun k hk=>hd k (by simp [hk])),h1.frame bv.lasts hf (fun k hk=>hd k (by simp [hk]))⟩
instance:LS tg:=⟨tg.lasts⟩
theorem tg.knows:d6 tg:=fun Φ F cs x ⟨s0,F0,s1,F1,hc,hF,h0,h1⟩=>hF ▸ (h0.kn.app h1.kn)
theorem tg.one:gD tg:=fun _ _ _ _ h=>by obtain ⟨s0,F0,s1,F1,rfl,-,h0,h1⟩:=h; exact One.all ⟨h0.one,h1.one,trivial⟩
def ux (Φ:Hp) (F:List Nat) (cs:List Value) (x:bd):Prop:=
  ∃ (s0:Value) (D0:List Nat) (s1:Value) (D1:List Nat),cs=[s0,s1]∧F=(ob s0++D0)++((ob s1++D1))∧OSl aK 148 4 Φ D0 s0 x.Alphas∧OSl aD 150 2 Φ D1 s1 x.Chains
theorem ux.lasts:bG ux:=fun X Φ Φ' F cs x hf hd ⟨s0,D0,s1,D1,hc,hF,h0,h1⟩=>by
  rw [hF] at hd
  exact ⟨s0,D0,s1,D1,hc,hF,h0.frame aK.lasts hf (fun k hk=>hd k (by simp [hk])) (fun k hk=>hd k (by simp [hk])),h1.frame aD.lasts hf (fun k hk=>hd k (by simp [hk])) (fun k hk=>hd k (by simp [hk]))⟩
instance:LS ux:=⟨ux.lasts⟩
theorem ux.knows:d6 ux:=fun Φ F cs x ⟨s0,D0,s1,D1,hc,hF,h0,h1⟩=>hF ▸ ((h0.knO.app h0.kn).app (h1.knO.app h1.kn))
theorem ux.one:gD ux:=fun _ _ _ _ h=>by obtain ⟨s0,D0,s1,D1,rfl,-,h0,h1⟩:=h; exact One.all ⟨h0.one,h1.one,trivial⟩
theorem ux.gives:ek ux tg:=fun Φ F cs x ⟨s0,D0,s1,D1,hc,hF,h0,h1⟩=>⟨s0,ob s0++D0,s1,ob s1++D1,hc,hF,h0.rslG aK.gives,h1.rslG aD.gives⟩
structure aP where
  L:(List Int)
  deriving DecidableEq
def dP (Φ:Hp) (F:List Nat) (cs:List Value) (x:aP):Prop:=
  ∃ (s0:Value) (F0:List Nat),cs=[s0]∧F=F0∧RSl (RI .i64) 1 Φ F0 s0 x.L
theorem dP.lasts:bG dP:=fun X Φ Φ' F cs x hf hd ⟨s0,F0,hc,hF,h0⟩=>by
  rw [hF] at hd
  exact ⟨s0,F0,hc,hF,h0.frame RI.lasts hf (fun k hk=>hd k (by simp [hk]))⟩
instance:LS dP:=⟨dP.lasts⟩
theorem dP.knows:d6 dP:=fun Φ F cs x ⟨s0,F0,hc,hF,h0⟩=>hF ▸ h0.kn
theorem dP.one:gD dP:=fun _ _ _ _ h=>by obtain ⟨s0,F0,rfl,-,h0⟩:=h; exact One.all ⟨h0.one,trivial⟩
def aF (Φ:Hp) (F:List Nat) (cs:List Value) (x:aP):Prop:=
  ∃ (s0:Value),cs=[s0]∧F=(ob s0++[])∧OSl (RI .i64) 3 1 Φ [] s0 x.L
theorem aF.lasts:bG aF:=fun X Φ Φ' F cs x hf hd ⟨s0,hc,hF,h0⟩=>by
  rw [hF] at hd
  exact ⟨s0,hc,hF,h0.frame RI.lasts hf (fun k hk=>hd k (by simp [hk])) (Dj.nil _)⟩
instance:LS aF:=⟨aF.lasts⟩
theorem aF.knows:d6 aF:=fun Φ F cs x ⟨s0,hc,hF,h0⟩=>hF ▸ (h0.knO.app h0.kn)
theorem aF.one:gD aF:=fun _ _ _ _ h=>by obtain ⟨s0,rfl,-,h0⟩:=h; exact One.all ⟨h0.one,trivial⟩
theorem aF.gives:ek aF dP:=fun Φ F cs x ⟨s0,hc,hF,h0⟩=>⟨s0,ob s0++[],hc,hF,h0.rslG (ek.refl _)⟩
structure ak where
  Ids:(List Int)
  Hits:(List Int)
  deriving DecidableEq
def ic (Φ:Hp) (F:List Nat) (cs:List Value) (x:ak):Prop:=
  ∃ (s0:Value) (F0:List Nat) (s1:Value) (F1:List Nat),cs=[s0,s1]∧F=F0++(F1)∧RSl (RI .i64) 1 Φ F0 s0 x.Ids∧RSl (RI .i64) 1 Φ F1 s1 x.Hits
theorem ic.lasts:bG ic:=fun X Φ Φ' F cs x hf hd ⟨s0,F0,s1,F1,hc,hF,h0,h1⟩=>by
  rw [hF] at hd
  exact ⟨s0,F0,s1,F1,hc,hF,h0.frame RI.lasts hf (fun k hk=>hd k (by simp [hk])),h1.frame RI.lasts hf (fun k hk=>hd k (by simp [hk]))⟩
instance:LS ic:=⟨ic.lasts⟩
theorem ic.knows:d6 ic:=fun Φ F cs x ⟨s0,F0,s1,F1,hc,hF,h0,h1⟩=>hF ▸ (h0.kn.app h1.kn)
theorem ic.one:gD ic:=fun _ _ _ _ h=>by obtain ⟨s0,F0,s1,F1,rfl,-,h0,h1⟩:=h; exact One.all ⟨h0.one,h1.one,trivial⟩
def aO (Φ:Hp) (F:List Nat) (cs:List Value) (x:ak):Prop:=
  ∃ (s0:Value) (s1:Value),cs=[s0,s1]∧F=(ob s0++[])++((ob s1++[]))∧OSl (RI .i64) 3 1 Φ [] s0 x.Ids∧OSl (RI .i64) 3 1 Φ [] s1 x.Hits
theorem aO.lasts:bG aO:=fun X Φ Φ' F cs x hf hd ⟨s0,s1,hc,hF,h0,h1⟩=>by
  rw [hF] at hd
  exact ⟨s0,s1,hc,hF,h0.frame RI.lasts hf (fun k hk=>hd k (by simp [hk])) (Dj.nil _),h1.frame RI.lasts hf (fun k hk=>hd k (by simp [hk])) (Dj.nil _)⟩
instance:LS aO:=⟨aO.lasts⟩
theorem aO.knows:d6 aO:=fun Φ F cs x ⟨s0,s1,hc,hF,h0,h1⟩=>hF ▸ ((h0.knO.app h0.kn).app (h1.knO.app h1.kn))
theorem aO.one:gD aO:=fun _ _ _ _ h=>by obtain ⟨s0,s1,rfl,-,h0,h1⟩:=h; exact One.all ⟨h0.one,h1.one,trivial⟩
theorem aO.gives:ek aO ic:=fun Φ F cs x ⟨s0,s1,hc,hF,h0,h1⟩=>⟨s0,ob s0++[],s1,ob s1++[],hc,hF,h0.rslG (ek.refl _),h1.rslG (ek.refl _)⟩
structure ae where
  Toks:(List ak)
  deriving DecidableEq
def dI (Φ:Hp) (F:List Nat) (cs:List Value) (x:ae):Prop:=
  ∃ (s0:Value) (F0:List Nat),cs=[s0]∧F=F0∧RSl ic 2 Φ F0 s0 x.Toks
theorem dI.lasts:bG dI:=fun X Φ Φ' F cs x hf hd ⟨s0,F0,hc,hF,h0⟩=>by
  rw [hF] at hd
  exact ⟨s0,F0,hc,hF,h0.frame ic.lasts hf (fun k hk=>hd k (by simp [hk]))⟩
instance:LS dI:=⟨dI.lasts⟩
theorem dI.knows:d6 dI:=fun Φ F cs x ⟨s0,F0,hc,hF,h0⟩=>hF ▸ h0.kn
theorem dI.one:gD dI:=fun _ _ _ _ h=>by obtain ⟨s0,F0,rfl,-,h0⟩:=h; exact One.all ⟨h0.one,trivial⟩
def aJ (Φ:Hp) (F:List Nat) (cs:List Value) (x:ae):Prop:=
  ∃ (s0:Value) (D0:List Nat),cs=[s0]∧F=(ob s0++D0)∧OSl aO 159 2 Φ D0 s0 x.Toks
theorem aJ.lasts:bG aJ:=fun X Φ Φ' F cs x hf hd ⟨s0,D0,hc,hF,h0⟩=>by
  rw [hF] at hd
  exact ⟨s0,D0,hc,hF,h0.frame aO.lasts hf (fun k hk=>hd k (by simp [hk])) (fun k hk=>hd k (by simp [hk]))⟩
instance:LS aJ:=⟨aJ.lasts⟩
theorem aJ.knows:d6 aJ:=fun Φ F cs x ⟨s0,D0,hc,hF,h0⟩=>hF ▸ (h0.knO.app h0.kn)
theorem aJ.one:gD aJ:=fun _ _ _ _ h=>by obtain ⟨s0,D0,rfl,-,h0⟩:=h; exact One.all ⟨h0.one,trivial⟩
theorem aJ.gives:ek aJ dI:=fun Φ F cs x ⟨s0,D0,hc,hF,h0⟩=>⟨s0,ob s0++D0,hc,hF,h0.rslG aO.gives⟩
structure aC where
  Levels:(List ae)
  deriving DecidableEq
def fx (Φ:Hp) (F:List Nat) (cs:List Value) (x:aC):Prop:=
  ∃ (s0:Value) (F0:List Nat),cs=[s0]∧F=F0∧RSl dI 1 Φ F0 s0 x.Levels
theorem fx.lasts:bG fx:=fun X Φ Φ' F cs x hf hd ⟨s0,F0,hc,hF,h0⟩=>by
  rw [hF] at hd
  exact ⟨s0,F0,hc,hF,h0.frame dI.lasts hf (fun k hk=>hd k (by simp [hk]))⟩
instance:LS fx:=⟨fx.lasts⟩
theorem fx.knows:d6 fx:=fun Φ F cs x ⟨s0,F0,hc,hF,h0⟩=>hF ▸ h0.kn
theorem fx.one:gD fx:=fun _ _ _ _ h=>by obtain ⟨s0,F0,rfl,-,h0⟩:=h; exact One.all ⟨h0.one,trivial⟩
def aM (Φ:Hp) (F:List Nat) (cs:List Value) (x:aC):Prop:=
  ∃ (s0:Value) (D0:List Nat),cs=[s0]∧F=(ob s0++D0)∧OSl aJ 130 1 Φ D0 s0 x.Levels
theorem aM.lasts:bG aM:=fun X Φ Φ' F cs x hf hd ⟨s0,D0,hc,hF,h0⟩=>by
  rw [hF] at hd
  exact ⟨s0,D0,hc,hF,h0.frame aJ.lasts hf (fun k hk=>hd k (by simp [hk])) (fun k hk=>hd k (by simp [hk]))⟩
instance:LS aM:=⟨aM.lasts⟩
theorem aM.knows:d6 aM:=fun Φ F cs x ⟨s0,D0,hc,hF,h0⟩=>hF ▸ (h0.knO.app h0.kn)
theorem aM.one:gD aM:=fun _ _ _ _ h=>by obtain ⟨s0,D0,rfl,-,h0⟩:=h; exact One.all ⟨h0.one,trivial⟩
theorem aM.gives:ek aM fx:=fun Φ F cs x ⟨s0,D0,hc,hF,h0⟩=>⟨s0,ob s0++D0,hc,hF,h0.rslG aJ.gives⟩
structure aG where
  Alphas:(List aP)
  Rules:(List aC)
  deriving DecidableEq
def td (Φ:Hp) (F:List Nat) (cs:List Value) (x:aG):Prop:=
  ∃ (s0:Value) (F0:List Nat) (s1:Value) (F1:List Nat),cs=[s0,s1]∧F=F0++(F1)∧RSl dP 1 Φ F0 s0 x.Alphas∧RSl fx 1 Φ F1 s1 x.Rules
theorem td.lasts:bG td:=fun X Φ Φ' F cs x hf hd ⟨s0,F0,s1,F1,hc,hF,h0,h1⟩=>by
  rw [hF] at hd
  exact ⟨s0,F0,s1,F1,hc,hF,h0.frame dP.lasts hf (fun k hk=>hd k (by simp [hk])),h1.frame fx.lasts hf (fun k hk=>hd k (by simp [hk]))⟩
instance:LS td:=⟨td.lasts⟩
theorem td.knows:d6 td:=fun Φ F cs x ⟨s0,F0,s1,F1,hc,hF,h0,h1⟩=>hF ▸ (h0.kn.app h1.kn)
theorem td.one:gD td:=fun _ _ _ _ h=>by obtain ⟨s0,F0,s1,F1,rfl,-,h0,h1⟩:=h; exact One.all ⟨h0.one,h1.one,trivial⟩
def uy (Φ:Hp) (F:List Nat) (cs:List Value) (x:aG):Prop:=
  ∃ (s0:Value) (D0:List Nat) (s1:Value) (D1:List Nat),cs=[s0,s1]∧F=(ob s0++D0)++((ob s1++D1))∧OSl aF 123 1 Φ D0 s0 x.Alphas∧OSl aM 126 1 Φ D1 s1 x.Rules
theorem uy.lasts:bG uy:=fun X Φ Φ' F cs x hf hd ⟨s0,D0,s1,D1,hc,hF,h0,h1⟩=>by
  rw [hF] at hd
  exact ⟨s0,D0,s1,D1,hc,hF,h0.frame aF.lasts hf (fun k hk=>hd k (by simp [hk])) (fun k hk=>hd k (by simp [hk])),h1.frame aM.lasts hf (fun k hk=>hd k (by simp [hk])) (fun k hk=>hd k (by simp [hk]))⟩
instance:LS uy:=⟨uy.lasts⟩
theorem uy.knows:d6 uy:=fun Φ F cs x ⟨s0,D0,s1,D1,hc,hF,h0,h1⟩=>hF ▸ ((h0.knO.app h0.kn).app (h1.knO.app h1.kn))
theorem uy.one:gD uy:=fun _ _ _ _ h=>by obtain ⟨s0,D0,s1,D1,rfl,-,h0,h1⟩:=h; exact One.all ⟨h0.one,h1.one,trivial⟩
theorem uy.gives:ek uy td:=fun Φ F cs x ⟨s0,D0,s1,D1,hc,hF,h0,h1⟩=>⟨s0,ob s0++D0,s1,ob s1++D1,hc,hF,h0.rslG aF.gives,h1.rslG aM.gives⟩
structure aA where
  Kind:ByteArray
  Fields:(List aE)
  deriving DecidableEq
def oG (Φ:Hp) (F:List Nat) (cs:List Value) (x:aA):Prop:=
  ∃ (s0:Value) (F0:List Nat),cs=[.string x.Kind,s0]∧F=F0∧RSl av 3 Φ F0 s0 x.Fields
theorem oG.lasts:bG oG:=fun X Φ Φ' F cs x hf hd ⟨s0,F0,hc,hF,h0⟩=>by
  rw [hF] at hd
  exact ⟨s0,F0,hc,hF,h0.frame av.lasts hf (fun k hk=>hd k (by simp [hk]))⟩
instance:LS oG:=⟨oG.lasts⟩
theorem oG.knows:d6 oG:=fun Φ F cs x ⟨s0,F0,hc,hF,h0⟩=>hF ▸ h0.kn
theorem oG.one:gD oG:=fun _ _ _ _ h=>by obtain ⟨s0,F0,rfl,-,h0⟩:=h; exact One.all ⟨rfl,h0.one,trivial⟩
def rQ (Φ:Hp) (F:List Nat) (cs:List Value) (x:aA):Prop:=
  ∃ (s0:Value),cs=[.string x.Kind,s0]∧F=(ob s0++[])∧OSl av 225 3 Φ [] s0 x.Fields
theorem rQ.lasts:bG rQ:=fun X Φ Φ' F cs x hf hd ⟨s0,hc,hF,h0⟩=>by
  rw [hF] at hd
  exact ⟨s0,hc,hF,h0.frame av.lasts hf (fun k hk=>hd k (by simp [hk])) (Dj.nil _)⟩
instance:LS rQ:=⟨rQ.lasts⟩
theorem rQ.knows:d6 rQ:=fun Φ F cs x ⟨s0,hc,hF,h0⟩=>hF ▸ (h0.knO.app h0.kn)
theorem rQ.one:gD rQ:=fun _ _ _ _ h=>by obtain ⟨s0,rfl,-,h0⟩:=h; exact One.all ⟨rfl,h0.one,trivial⟩
theorem rQ.gives:ek rQ oG:=fun Φ F cs x ⟨s0,hc,hF,h0⟩=>⟨s0,ob s0++[],hc,hF,h0.rslG (ek.refl _)⟩
structure aY where
  Id:Int
  F:aA
  deriving DecidableEq
def bN (Φ:Hp) (F:List Nat) (cs:List Value) (x:aY):Prop:=
  ∃ (s0:Value) (F0:List Nat),cs=[.int .i64 x.Id,.string x.F.Kind,s0]∧F=F0∧RSl av 3 Φ F0 s0 x.F.Fields
theorem bN.lasts:bG bN:=fun X Φ Φ' F cs x hf hd ⟨s0,F0,hc,hF,h0⟩=>by
  rw [hF] at hd
  exact ⟨s0,F0,hc,hF,h0.frame av.lasts hf (fun k hk=>hd k (by simp [hk]))⟩
instance:LS bN:=⟨bN.lasts⟩
theorem bN.knows:d6 bN:=fun Φ F cs x ⟨s0,F0,hc,hF,h0⟩=>hF ▸ h0.kn
theorem bN.one:gD bN:=fun _ _ _ _ h=>by obtain ⟨s0,F0,rfl,-,h0⟩:=h; exact One.all ⟨rfl,rfl,h0.one,trivial⟩
def bC (Φ:Hp) (F:List Nat) (cs:List Value) (x:aY):Prop:=
  ∃ (s0:Value),cs=[.int .i64 x.Id,.string x.F.Kind,s0]∧F=(ob s0++[])∧OSl av 225 3 Φ [] s0 x.F.Fields
theorem bC.lasts:bG bC:=fun X Φ Φ' F cs x hf hd ⟨s0,hc,hF,h0⟩=>by
  rw [hF] at hd
  exact ⟨s0,hc,hF,h0.frame av.lasts hf (fun k hk=>hd k (by simp [hk])) (Dj.nil _)⟩
instance:LS bC:=⟨bC.lasts⟩
theorem bC.knows:d6 bC:=fun Φ F cs x ⟨s0,hc,hF,h0⟩=>hF ▸ (h0.knO.app h0.kn)
theorem bC.one:gD bC:=fun _ _ _ _ h=>by obtain ⟨s0,rfl,-,h0⟩:=h; exact One.all ⟨rfl,rfl,h0.one,trivial⟩
theorem bC.gives:ek bC bN:=fun Φ F cs x ⟨s0,hc,hF,h0⟩=>⟨s0,ob s0++[],hc,hF,h0.rslG (ek.refl _)⟩
structure ah where
  Items:(List aY)
  Next:Int
  deriving DecidableEq
def kK (Φ:Hp) (F:List Nat) (cs:List Value) (x:ah):Prop:=
  ∃ (s0:Value) (F0:List Nat),cs=[s0,.int .i64 x.Next]∧F=F0∧RSl bN 3 Φ F0 s0 x.Items
theorem kK.lasts:bG kK:=fun X Φ Φ' F cs x hf hd ⟨s0,F0,hc,hF,h0⟩=>by
  rw [hF] at hd
  exact ⟨s0,F0,hc,hF,h0.frame bN.lasts hf (fun k hk=>hd k (by simp [hk]))⟩
instance:LS kK:=⟨kK.lasts⟩
theorem kK.knows:d6 kK:=fun Φ F cs x ⟨s0,F0,hc,hF,h0⟩=>hF ▸ h0.kn
theorem kK.one:gD kK:=fun _ _ _ _ h=>by obtain ⟨s0,F0,rfl,-,h0⟩:=h; exact One.all ⟨h0.one,rfl,trivial⟩
def nN (Φ:Hp) (F:List Nat) (cs:List Value) (x:ah):Prop:=
  ∃ (s0:Value) (D0:List Nat),cs=[s0,.int .i64 x.Next]∧F=(ob s0++D0)∧OSl bC 155 3 Φ D0 s0 x.Items
theorem nN.lasts:bG nN:=fun X Φ Φ' F cs x hf hd ⟨s0,D0,hc,hF,h0⟩=>by
  rw [hF] at hd
  exact ⟨s0,D0,hc,hF,h0.frame bC.lasts hf (fun k hk=>hd k (by simp [hk])) (fun k hk=>hd k (by simp [hk]))⟩
instance:LS nN:=⟨nN.lasts⟩
theorem nN.knows:d6 nN:=fun Φ F cs x ⟨s0,D0,hc,hF,h0⟩=>hF ▸ (h0.knO.app h0.kn)
theorem nN.one:gD nN:=fun _ _ _ _ h=>by obtain ⟨s0,D0,rfl,-,h0⟩:=h; exact One.all ⟨h0.one,rfl,trivial⟩
theorem nN.gives:ek nN kK:=fun Φ F cs x ⟨s0,D0,hc,hF,h0⟩=>⟨s0,ob s0++D0,hc,hF,h0.rslG bC.gives⟩
def bF (x y:aE):Bool:=((x.K == y.K) && ((x.N == y.N) && (seq x.S y.S && true)))
theorem GI (a b:ByteArray):seq a b=decide (a=b):=by
  unfold seq
  by_cases h:a=b
  · subst h; simp
  · have : ¬ a.toList=b.toList:=fun e=>h (by rw [ByteArray.toList_eq,ByteArray.toList_eq] at e; exact ByteArray.ext (Array.toList_inj.1 e))
    simp [h,this]
theorem tT (x y:aE):bF x y=decide (x=y):=by
  obtain ⟨a0,a1,a2⟩:=x; obtain ⟨b0,b1,b2⟩:=y
  rw [Bool.eq_iff_iff]
  simp only [bF,GI,Bool.and_true,Bool.and_eq_true,beq_iff_eq,decide_eq_true_eq,aE.mk.injEq,and_assoc]
def ql (x y:aW):Bool:=((x.K == y.K) && (seq x.S y.S && ((x.V.K == y.V.K) && ((x.V.N == y.V.N) && (seq x.V.S y.V.S && true)))))

theorem JN (x y:aW):ql x y=decide (x=y):=by
  obtain ⟨a0,a1,⟨a20,a21,a22⟩⟩:=x; obtain ⟨b0,b1,⟨b20,b21,b22⟩⟩:=y
  rw [Bool.eq_iff_iff]
  simp only [ql,GI,Bool.and_true,Bool.and_eq_true,beq_iff_eq,decide_eq_true_eq,aW.mk.injEq,aE.mk.injEq,and_assoc]
structure aI where
  Name:ByteArray
  V:aE
  deriving DecidableEq
def bn (Φ:Hp) (F:List Nat) (cs:List Value) (x:aI):Prop:=cs=[.string x.Name,.int .i64 x.V.K,.int .i64 x.V.N,.string x.V.S]∧F=[]
theorem bn.lasts:bG bn:=fun _ _ _ _ _ _ _ _ h=>h
instance:LS bn:=⟨bn.lasts⟩
theorem bn.knows:d6 bn:=fun _ _ _ _ h=>h.2 ▸ Kw.nil
theorem bn.flat:wM bn:=fun _ _ _ _ h=>h.2
theorem bn.one:gD bn:=fun _ _ _ _ h=>by obtain ⟨rfl,-⟩:=h; exact One.all ⟨rfl,rfl,rfl,rfl,trivial⟩
structure jW where
  pos:(List ax)
  neg:(List ax)
  chain:ac
  alphas:(List aP)
  s:ah
  id:Int
  deriving DecidableEq
def lX (Φ:Hp) (F:List Nat) (cs:List Value) (x:jW):Prop:=
  ∃ (s0:Value) (F0:List Nat) (s1:Value) (F1:List Nat) (s2:Value) (F2:List Nat) (s3:Value) (F3:List Nat) (s4:Value) (F4:List Nat) (s5:Value) (F5:List Nat),cs=[s0,s1,s2,s3,s4,s5,.int .i64 x.s.Next,.int .i64 x.id]∧F=F0++(F1++(F2++(F3++(F4++(F5)))))∧RSl bR 3 Φ F0 s0 x.pos∧RSl bR 3 Φ F1 s1 x.neg∧RSl (RI .i64) 1 Φ F2 s2 x.chain.Pos∧RSl (RI .i64) 1 Φ F3 s3 x.chain.Neg∧RSl dP 1 Φ F4 s4 x.alphas∧RSl bN 3 Φ F5 s5 x.s.Items
theorem lX.lasts:bG lX:=fun X Φ Φ' F cs x hf hd ⟨s0,F0,s1,F1,s2,F2,s3,F3,s4,F4,s5,F5,hc,hF,h0,h1,h2,h3,h4,h5⟩=>by
  rw [hF] at hd
  exact ⟨s0,F0,s1,F1,s2,F2,s3,F3,s4,F4,s5,F5,hc,hF,h0.frame bR.lasts hf (fun k hk=>hd k (by simp [hk])),h1.frame bR.lasts hf (fun k hk=>hd k (by simp [hk])),h2.frame RI.lasts hf (fun k hk=>hd k (by simp [hk])),h3.frame RI.lasts hf (fun k hk=>hd k (by simp [hk])),h4.frame dP.lasts hf (fun k hk=>hd k (by simp [hk])),h5.frame bN.lasts hf (fun k hk=>hd k (by simp [hk]))⟩
instance:LS lX:=⟨lX.lasts⟩
theorem lX.knows:d6 lX:=fun Φ F cs x ⟨s0,F0,s1,F1,s2,F2,s3,F3,s4,F4,s5,F5,hc,hF,h0,h1,h2,h3,h4,h5⟩=>hF ▸ (h0.kn.app (h1.kn.app (h2.kn.app (h3.kn.app (h4.kn.app h5.kn)))))
theorem lX.one:gD lX:=fun _ _ _ _ h=>by obtain ⟨s0,F0,s1,F1,s2,F2,s3,F3,s4,F4,s5,F5,rfl,-,h0,h1,h2,h3,h4,h5⟩:=h; exact One.all ⟨h0.one,h1.one,h2.one,h3.one,h4.one,h5.one,rfl,rfl,trivial⟩
def ky (Φ:Hp) (F:List Nat) (cs:List Value) (x:jW):Prop:=
  ∃ (s0:Value) (D0:List Nat) (s1:Value) (D1:List Nat) (s2:Value) (s3:Value) (s4:Value) (D4:List Nat) (s5:Value) (D5:List Nat),cs=[s0,s1,s2,s3,s4,s5,.int .i64 x.s.Next,.int .i64 x.id]∧F=(ob s0++D0)++((ob s1++D1)++((ob s2++[])++((ob s3++[])++((ob s4++D4)++((ob s5++D5))))))∧OSl f7 214 3 Φ D0 s0 x.pos∧OSl f7 214 3 Φ D1 s1 x.neg∧OSl (RI .i64) 3 1 Φ [] s2 x.chain.Pos∧OSl (RI .i64) 3 1 Φ [] s3 x.chain.Neg∧OSl aF 123 1 Φ D4 s4 x.alphas∧OSl bC 155 3 Φ D5 s5 x.s.Items
theorem ky.lasts:bG ky:=fun X Φ Φ' F cs x hf hd ⟨s0,D0,s1,D1,s2,s3,s4,D4,s5,D5,hc,hF,h0,h1,h2,h3,h4,h5⟩=>by
  rw [hF] at hd
  exact ⟨s0,D0,s1,D1,s2,s3,s4,D4,s5,D5,hc,hF,h0.frame f7.lasts hf (fun k hk=>hd k (by simp [hk])) (fun k hk=>hd k (by simp [hk])),h1.frame f7.lasts hf (fun k hk=>hd k (by simp [hk])) (fun k hk=>hd k (by simp [hk])),h2.frame RI.lasts hf (fun k hk=>hd k (by simp [hk])) (Dj.nil _),h3.frame RI.lasts hf (fun k hk=>hd k (by simp [hk])) (Dj.nil _),h4.frame aF.lasts hf (fun k hk=>hd k (by simp [hk])) (fun k hk=>hd k (by simp [hk])),h5.frame bC.lasts hf (fun k hk=>hd k (by simp [hk])) (fun k hk=>hd k (by simp [hk]))⟩
instance:LS ky:=⟨ky.lasts⟩
theorem ky.knows:d6 ky:=fun Φ F cs x ⟨s0,D0,s1,D1,s2,s3,s4,D4,s5,D5,hc,hF,h0,h1,h2,h3,h4,h5⟩=>hF ▸ ((h0.knO.app h0.kn).app ((h1.knO.app h1.kn).app ((h2.knO.app h2.kn).app ((h3.knO.app h3.kn).app ((h4.knO.app h4.kn).app (h5.knO.app h5.kn))))))
theorem ky.one:gD ky:=fun _ _ _ _ h=>by obtain ⟨s0,D0,s1,D1,s2,s3,s4,D4,s5,D5,rfl,-,h0,h1,h2,h3,h4,h5⟩:=h; exact One.all ⟨h0.one,h1.one,h2.one,h3.one,h4.one,h5.one,rfl,rfl,trivial⟩
theorem ky.gives:ek ky lX:=fun Φ F cs x ⟨s0,D0,s1,D1,s2,s3,s4,D4,s5,D5,hc,hF,h0,h1,h2,h3,h4,h5⟩=>⟨s0,ob s0++D0,s1,ob s1++D1,s2,ob s2++[],s3,ob s3++[],s4,ob s4++D4,s5,ob s5++D5,hc,hF,h0.rslG f7.gives,h1.rslG f7.gives,h2.rslG (ek.refl _),h3.rslG (ek.refl _),h4.rslG aF.gives,h5.rslG bC.gives⟩
def nc (N:Nat) (p0:aE) (p1:Int):Option (Int):=
  (if decide (i64.wrap (p1 - (p0.S.size:Int)) < 0) then some (-1) else some (i64.wrap (p1 - (p0.S.size:Int))))
def iR (N:Nat) (p0:aW) (p1:Int):Option (Int):=
  (if decide (i64.wrap (p1 - (p0.S.size:Int)) < 0) then some (-1) else ((nc N p0.V (i64.wrap (p1 - (p0.S.size:Int)))).bind fun x1=>(if decide (x1 < 0) then some (-1) else some x1)))
def jh (N:Nat) (p0:(List aW)):Nat→Int→Int→Option (Int)
  | 0,_,_=>none
  | k+1,s1,s2=>
    (if decide (s2 < (p0.length:Int)) then ((idx p0 s2).bind fun x1=>((iR N x1 s1).bind fun x2=>(if decide (x2 < 0) then some (-1) else ((jh N p0 k) x2 (i64.wrap (s2+1)))))) else some s1)
def qO (N:Nat) (p0:(List aW)) (p1:Int):Option (Int):=
  (if decide (i64.wrap (p1 - (p0.length:Int)) < 0) then some (-1) else jh N p0 N (i64.wrap (p1 - (p0.length:Int))) 0)
def pq (N:Nat) (p0:ax) (p1:Int):Option (Int):=
  (if decide (i64.wrap (p1 - (p0.Kind.size:Int)) < 0) then some (-1) else ((qO N p0.Args (i64.wrap (p1 - (p0.Kind.size:Int)))).bind fun x1=>(if decide (x1 < 0) then some (-1) else some x1)))
def j4 (N:Nat) (p0:(List ax)):Nat→Int→Int→Option (Int)
  | 0,_,_=>none
  | k+1,s1,s2=>
    (if decide (s2 < (p0.length:Int)) then ((idx p0 s2).bind fun x1=>((pq N x1 s1).bind fun x2=>(if decide (x2 < 0) then some (-1) else ((j4 N p0 k) x2 (i64.wrap (s2+1)))))) else some s1)
def qv (N:Nat) (p0:(List ax)) (p1:Int):Option (Int):=
  (if decide (i64.wrap (p1 - (p0.length:Int)) < 0) then some (-1) else j4 N p0 N (i64.wrap (p1 - (p0.length:Int))) 0)
def mV (N:Nat) (p0:bj) (p1:Int):Option (Int):=
  ((iR N p0.L p1).bind fun x1=>(if decide (x1 < 0) then some (-1) else ((iR N p0.R x1).bind fun x2=>(if decide (x2 < 0) then some (-1) else some x2))))
def gY (N:Nat) (p0:(List bj)):Nat→Int→Int→Option (Int)
  | 0,_,_=>none
  | k+1,s1,s2=>
    (if decide (s2 < (p0.length:Int)) then ((idx p0 s2).bind fun x1=>((mV N x1 s1).bind fun x2=>(if decide (x2 < 0) then some (-1) else ((gY N p0 k) x2 (i64.wrap (s2+1)))))) else some s1)
def oy (N:Nat) (p0:(List bj)) (p1:Int):Option (Int):=
  (if decide (i64.wrap (p1 - (p0.length:Int)) < 0) then some (-1) else gY N p0 N (i64.wrap (p1 - (p0.length:Int))) 0)
def nw (N:Nat) (p0:bh) (p1:Int):Option (Int):=
  (if decide (i64.wrap (p1 - (p0.Op.size:Int)) < 0) then some (-1) else ((iR N p0.L (i64.wrap (p1 - (p0.Op.size:Int)))).bind fun x1=>(if decide (x1 < 0) then some (-1) else ((iR N p0.R x1).bind fun x2=>(if decide (x2 < 0) then some (-1) else some x2)))))
def i7 (N:Nat) (p0:(List bh)):Nat→Int→Int→Option (Int)
  | 0,_,_=>none
  | k+1,s1,s2=>
    (if decide (s2 < (p0.length:Int)) then ((idx p0 s2).bind fun x1=>((nw N x1 s1).bind fun x2=>(if decide (x2 < 0) then some (-1) else ((i7 N p0 k) x2 (i64.wrap (s2+1)))))) else some s1)
def oA (N:Nat) (p0:(List bh)) (p1:Int):Option (Int):=
  (if decide (i64.wrap (p1 - (p0.length:Int)) < 0) then some (-1) else i7 N p0 N (i64.wrap (p1 - (p0.length:Int))) 0)
def pJ (N:Nat) (p0:bH) (p1:Int):Option (Int):=
  (if decide (i64.wrap (p1 - (p0.Name.size:Int)) < 0) then some (-1) else ((oA N p0.Args (i64.wrap (p1 - (p0.Name.size:Int)))).bind fun x1=>(if decide (x1 < 0) then some (-1) else (if decide (i64.wrap (x1 - (p0.Undo.size:Int)) < 0) then some (-1) else some (i64.wrap (x1 - (p0.Undo.size:Int)))))))
def iY (N:Nat) (p0:(List bH)):Nat→Int→Int→Option (Int)
  | 0,_,_=>none
  | k+1,s1,s2=>
    (if decide (s2 < (p0.length:Int)) then ((idx p0 s2).bind fun x1=>((pJ N x1 s1).bind fun x2=>(if decide (x2 < 0) then some (-1) else ((iY N p0 k) x2 (i64.wrap (s2+1)))))) else some s1)
def rh (N:Nat) (p0:(List bH)) (p1:Int):Option (Int):=
  (if decide (i64.wrap (p1 - (p0.length:Int)) < 0) then some (-1) else iY N p0 N (i64.wrap (p1 - (p0.length:Int))) 0)
def nf (N:Nat) (p0:af) (p1:Int):Option (Int):=
  (if decide (i64.wrap (p1 - (p0.Name.size:Int)) < 0) then some (-1) else ((qv N p0.Pats (i64.wrap (p1 - (p0.Name.size:Int)))).bind fun x1=>(if decide (x1 < 0) then some (-1) else ((oy N p0.Conds x1).bind fun x2=>(if decide (x2 < 0) then some (-1) else ((rh N p0.Acts x2).bind fun x3=>(if decide (x3 < 0) then some (-1) else some x3)))))))
def ia (N:Nat) (p0:(List af)):Nat→Int→Int→Option (Int)
  | 0,_,_=>none
  | k+1,s1,s2=>
    (if decide (s2 < (p0.length:Int)) then ((idx p0 s2).bind fun x1=>((nf N x1 s1).bind fun x2=>(if decide (x2 < 0) then some (-1) else ((ia N p0 k) x2 (i64.wrap (s2+1)))))) else some s1)
def om (N:Nat) (p0:(List af)) (p1:Int):Option (Int):=
  (if decide (i64.wrap (p1 - (p0.length:Int)) < 0) then some (-1) else ia N p0 N (i64.wrap (p1 - (p0.length:Int))) 0)
def sD (N:Nat) (p0:bl) (p1:Int):Option (Int):=
  (if decide (i64.wrap (p1 - (p0.Name.size:Int)) < 0) then some (-1) else ((om N p0.Rules (i64.wrap (p1 - (p0.Name.size:Int)))).bind fun x1=>(if decide (x1 < 0) then some (-1) else some x1)))
def jb (N:Nat) (p0:(List aE)):Nat→Int→Int→Option (Int)
  | 0,_,_=>none
  | k+1,s1,s2=>
    (if decide (s2 < (p0.length:Int)) then ((idx p0 s2).bind fun x1=>((nc N x1 s1).bind fun x2=>(if decide (x2 < 0) then some (-1) else ((jb N p0 k) x2 (i64.wrap (s2+1)))))) else some s1)
def n6 (N:Nat) (p0:(List aE)) (p1:Int):Option (Int):=
  (if decide (i64.wrap (p1 - (p0.length:Int)) < 0) then some (-1) else jb N p0 N (i64.wrap (p1 - (p0.length:Int))) 0)
def gK (N:Nat) (p0:(List Int)) (p1:Int):Option (Int):=
  (if decide (i64.wrap (p1 - (p0.length:Int)) < 0) then some (-1) else some (i64.wrap (p1 - (p0.length:Int))))
def lG (N:Nat) (p0:a8) (p1:Int):Option (Int):=
  (if decide (i64.wrap (p1 - (p0.Kind.size:Int)) < 0) then some (-1) else ((n6 N p0.Consts (i64.wrap (p1 - (p0.Kind.size:Int)))).bind fun x1=>(if decide (x1 < 0) then some (-1) else ((gK N p0.At x1).bind fun x2=>(if decide (x2 < 0) then some (-1) else some x2)))))
def gp (N:Nat) (p0:(List a8)):Nat→Int→Int→Option (Int)
  | 0,_,_=>none
  | k+1,s1,s2=>
    (if decide (s2 < (p0.length:Int)) then ((idx p0 s2).bind fun x1=>((lG N x1 s1).bind fun x2=>(if decide (x2 < 0) then some (-1) else ((gp N p0 k) x2 (i64.wrap (s2+1)))))) else some s1)
def mh (N:Nat) (p0:(List a8)) (p1:Int):Option (Int):=
  (if decide (i64.wrap (p1 - (p0.length:Int)) < 0) then some (-1) else gp N p0 N (i64.wrap (p1 - (p0.length:Int))) 0)
def lD (N:Nat) (p0:ac) (p1:Int):Option (Int):=
  ((gK N p0.Pos p1).bind fun x1=>(if decide (x1 < 0) then some (-1) else ((gK N p0.Neg x1).bind fun x2=>(if decide (x2 < 0) then some (-1) else some x2))))
def gv (N:Nat) (p0:(List ac)):Nat→Int→Int→Option (Int)
  | 0,_,_=>none
  | k+1,s1,s2=>
    (if decide (s2 < (p0.length:Int)) then ((idx p0 s2).bind fun x1=>((lD N x1 s1).bind fun x2=>(if decide (x2 < 0) then some (-1) else ((gv N p0 k) x2 (i64.wrap (s2+1)))))) else some s1)
def mw (N:Nat) (p0:(List ac)) (p1:Int):Option (Int):=
  (if decide (i64.wrap (p1 - (p0.length:Int)) < 0) then some (-1) else gv N p0 N (i64.wrap (p1 - (p0.length:Int))) 0)
def rT (N:Nat) (p0:bd) (p1:Int):Option (Int):=
  ((mh N p0.Alphas p1).bind fun x1=>(if decide (x1 < 0) then some (-1) else ((mw N p0.Chains x1).bind fun x2=>(if decide (x2 < 0) then some (-1) else some x2))))
def pD (N:Nat) (p0:aP) (p1:Int):Option (Int):=
  ((gK N p0.L p1).bind fun x1=>(if decide (x1 < 0) then some (-1) else some x1))
def j0 (N:Nat) (p0:(List aP)):Nat→Int→Int→Option (Int)
  | 0,_,_=>none
  | k+1,s1,s2=>
    (if decide (s2 < (p0.length:Int)) then ((idx p0 s2).bind fun x1=>((pD N x1 s1).bind fun x2=>(if decide (x2 < 0) then some (-1) else ((j0 N p0 k) x2 (i64.wrap (s2+1)))))) else some s1)
def ra (N:Nat) (p0:(List aP)) (p1:Int):Option (Int):=
  (if decide (i64.wrap (p1 - (p0.length:Int)) < 0) then some (-1) else j0 N p0 N (i64.wrap (p1 - (p0.length:Int))) 0)
def pr (N:Nat) (p0:ak) (p1:Int):Option (Int):=
  ((gK N p0.Ids p1).bind fun x1=>(if decide (x1 < 0) then some (-1) else ((gK N p0.Hits x1).bind fun x2=>(if decide (x2 < 0) then some (-1) else some x2))))
def iO (N:Nat) (p0:(List ak)):Nat→Int→Int→Option (Int)
  | 0,_,_=>none
  | k+1,s1,s2=>
    (if decide (s2 < (p0.length:Int)) then ((idx p0 s2).bind fun x1=>((pr N x1 s1).bind fun x2=>(if decide (x2 < 0) then some (-1) else ((iO N p0 k) x2 (i64.wrap (s2+1)))))) else some s1)
def qt (N:Nat) (p0:(List ak)) (p1:Int):Option (Int):=
  (if decide (i64.wrap (p1 - (p0.length:Int)) < 0) then some (-1) else iO N p0 N (i64.wrap (p1 - (p0.length:Int))) 0)
def l7 (N:Nat) (p0:ae) (p1:Int):Option (Int):=
  ((qt N p0.Toks p1).bind fun x1=>(if decide (x1 < 0) then some (-1) else some x1))
def gn (N:Nat) (p0:(List ae)):Nat→Int→Int→Option (Int)
  | 0,_,_=>none
  | k+1,s1,s2=>
    (if decide (s2 < (p0.length:Int)) then ((idx p0 s2).bind fun x1=>((l7 N x1 s1).bind fun x2=>(if decide (x2 < 0) then some (-1) else ((gn N p0 k) x2 (i64.wrap (s2+1)))))) else some s1)
def ml (N:Nat) (p0:(List ae)) (p1:Int):Option (Int):=
  (if decide (i64.wrap (p1 - (p0.length:Int)) < 0) then some (-1) else gn N p0 N (i64.wrap (p1 - (p0.length:Int))) 0)
def pL (N:Nat) (p0:aC) (p1:Int):Option (Int):=
  ((ml N p0.Levels p1).bind fun x1=>(if decide (x1 < 0) then some (-1) else some x1))
def jd (N:Nat) (p0:(List aC)):Nat→Int→Int→Option (Int)
  | 0,_,_=>none
  | k+1,s1,s2=>
    (if decide (s2 < (p0.length:Int)) then ((idx p0 s2).bind fun x1=>((pL N x1 s1).bind fun x2=>(if decide (x2 < 0) then some (-1) else ((jd N p0 k) x2 (i64.wrap (s2+1)))))) else some s1)
def qh (N:Nat) (p0:(List aC)) (p1:Int):Option (Int):=
  (if decide (i64.wrap (p1 - (p0.length:Int)) < 0) then some (-1) else jd N p0 N (i64.wrap (p1 - (p0.length:Int))) 0)
def sw (N:Nat) (p0:aG) (p1:Int):Option (Int):=
  ((ra N p0.Alphas p1).bind fun x1=>(if decide (x1 < 0) then some (-1) else ((qh N p0.Rules x1).bind fun x2=>(if decide (x2 < 0) then some (-1) else some x2))))
def q9 (N:Nat) (p0:aA) (p1:Int):Option (Int):=
  (if decide (i64.wrap (p1 - (p0.Kind.size:Int)) < 0) then some (-1) else ((n6 N p0.Fields (i64.wrap (p1 - (p0.Kind.size:Int)))).bind fun x1=>(if decide (x1 < 0) then some (-1) else some x1)))
def n9 (N:Nat) (p0:aY) (p1:Int):Option (Int):=
  ((q9 N p0.F p1).bind fun x1=>(if decide (x1 < 0) then some (-1) else some x1))
def gW (N:Nat) (p0:(List aY)):Nat→Int→Int→Option (Int)
  | 0,_,_=>none
  | k+1,s1,s2=>
    (if decide (s2 < (p0.length:Int)) then ((idx p0 s2).bind fun x1=>((n9 N x1 s1).bind fun x2=>(if decide (x2 < 0) then some (-1) else ((gW N p0 k) x2 (i64.wrap (s2+1)))))) else some s1)
def o5 (N:Nat) (p0:(List aY)) (p1:Int):Option (Int):=
  (if decide (i64.wrap (p1 - (p0.length:Int)) < 0) then some (-1) else gW N p0 N (i64.wrap (p1 - (p0.length:Int))) 0)
def ow (N:Nat) (p0:ah) (p1:Int):Option (Int):=
  ((o5 N p0.Items p1).bind fun x1=>(if decide (x1 < 0) then some (-1) else some x1))
def ir (N:Nat) (s2:Int) (K1:(List ak)→Int→Option ((List ak))) (s3:(List ak)):Option ((List ak)):=
  (K1 s3 (i64.wrap (s2+1)))
def cr (N:Nat) (p0:(List ak)):Nat→(List ak)→Int→Option ((List ak))
  | 0,_,_=>none
  | k+1,s1,s2=>
    (if decide (s2 < (p0.length:Int)) then ((idx p0 s2).bind fun x6=>((idx p0 s2).bind fun x7=>((app ([]:List Int) x6.Ids).bind fun x8=>((app ([]:List Int) x7.Hits).bind fun x9=>((app s1 ([(⟨x8,x9⟩:ak)]:List ak)).bind fun x10=>ir N s2 (cr N p0 k) x10))))) else some s1)
def iD (N:Nat) (p0:(List ak)):Option ((List ak)):=
  cr N p0 N ([]:List ak) 0
def eO (N:Nat) (p0:aG) (s3:(List aC)) (s4:Int) (K2:(List aC)→Int→Option (aG)):Nat→(List ae)→Int→Option (aG)
  | 0,_,_=>none
  | k+1,s5,s6=>
    ((idx p0.Rules s4).bind fun x4=>(if decide (s6 < (x4.Levels.length:Int)) then ((idx p0.Rules s4).bind fun x5=>((idx x5.Levels s6).bind fun x6=>((iD N x6.Toks).bind fun x7=>((app s5 ([(⟨x7⟩:ae)]:List ae)).bind fun x8=>((eO N p0 s3 s4 K2 k) x8 (i64.wrap (s6+1))))))) else ((app s3 ([(⟨s5⟩:aC)]:List aC)).bind fun x9=>(K2 x9 (i64.wrap (s4+1))))))
def dv (N:Nat) (p0:aG) (s1:(List aP)):Nat→(List aC)→Int→Option (aG)
  | 0,_,_=>none
  | k+1,s3,s4=>
    (if decide (s4 < (p0.Rules.length:Int)) then eO N p0 s3 s4 (dv N p0 s1 k) N ([]:List ae) 0 else some (⟨s1,s3⟩:aG))
def ga (N:Nat) (p0:aG):Nat→(List aP)→Int→Option (aG)
  | 0,_,_=>none
  | k+1,s1,s2=>
    (if decide (s2 < (p0.Alphas.length:Int)) then ((idx p0.Alphas s2).bind fun x1=>((app ([]:List Int) x1.L).bind fun x2=>((app s1 ([(⟨x2⟩:aP)]:List aP)).bind fun x3=>((ga N p0 k) x3 (i64.wrap (s2+1)))))) else dv N p0 s1 N ([]:List aC) 0)
def nY (N:Nat) (p0:aG):Option (aG):=
  ga N p0 N ([]:List aP) 0
def pT (N:Nat) (p0:aA):Option (aA):=
  ((app ([]:List aE) p0.Fields).bind fun x1=>some (⟨p0.Kind,x1⟩:aA))
def fQ (N:Nat) (p0:ah) (p1:Int):Nat→Int→Option (aA × Bool)
  | 0,_=>none
  | k+1,s1=>
    (if decide (s1 < (p0.Items.length:Int)) then ((idx p0.Items s1).bind fun x1=>(if decide (x1.Id=p1) then ((idx p0.Items s1).bind fun x2=>((pT N x2.F).bind fun x3=>some (x3,true))) else ((fQ N p0 p1 k) (i64.wrap (s1+1))))) else some ((⟨(⟨#[]⟩:ByteArray),[]⟩:aA),false))
def kW (N:Nat) (p0:ah) (p1:Int):Option (aA × Bool):=
  fQ N p0 p1 N 0
def du (N:Nat) (p0:Int) (p1:Int) (p2:Int):Option (Bool):=
  ((if decide (p1≤p0) then some (decide (p0≤p2)) else some false).bind fun b1=>some b1)
def il (N:Nat) (p0:Int):Option (Bool):=
  ((du N (i64.wrap p0) 97 122).bind fun x1=>((if x1 then some true else ((du N (i64.wrap p0) 48 57).bind fun x2=>some x2)).bind fun b1=>((if b1 then some true else some (decide (p0=95))).bind fun b2=>some b2)))
def eu (N:Nat) (p0:ByteArray):Nat→Int→Option (Bool)
  | 0,_=>none
  | k+1,s1=>
    (if decide (s1 < (p0.size:Int)) then ((idx p0.data.toList s1).bind fun y1=>((il N (y1.toNat:Int)).bind fun x1=>((if !x1 then some true else ((if decide (s1=0) then ((idx p0.data.toList s1).bind fun y2=>((du N (i64.wrap (y2.toNat:Int)) 97 122).bind fun x2=>some (!x2))) else some false).bind fun b2=>some b2)).bind fun b1=>(if b1 then some false else ((eu N p0 k) (i64.wrap (s1+1))))))) else ((du N (p0.size:Int) 1 12).bind fun x3=>some x3))
def eg (N:Nat) (p0:ByteArray):Option (Bool):=
  eu N p0 N 0
def eP (N:Nat) (p0:ByteArray):Nat→Int→Option (Bool)
  | 0,_=>none
  | k+1,s1=>
    (if decide (s1 < (p0.size:Int)) then ((idx p0.data.toList s1).bind fun y1=>((il N (y1.toNat:Int)).bind fun x1=>(if !x1 then some false else ((eP N p0 k) (i64.wrap (s1+1)))))) else some (decide ((p0.size:Int)≤20)))
def ox (N:Nat) (p0:ByteArray):Option (Bool):=
  eP N p0 N 0
def pt (N:Nat) (p0:aE):Option (Bool):=
  (if decide (p0.K=1) then ((du N p0.N (-1000000000) 1000000000).bind fun x1=>((if x1 then some (seq p0.S (⟨#[]⟩:ByteArray)) else some false).bind fun b1=>some b1)) else (if decide (p0.K=2) then ((ox N p0.S).bind fun x2=>((if x2 then some (decide (p0.N=0)) else some false).bind fun b2=>some b2)) else some false))
def eA (N:Nat) (p0:(List aE)):Nat→Int→Option (Bool)
  | 0,_=>none
  | k+1,s1=>
    (if decide (s1 < (p0.length:Int)) then ((idx p0 s1).bind fun x1=>((pt N x1).bind fun x2=>(if !x2 then some false else ((eA N p0 k) (i64.wrap (s1+1)))))) else some (decide ((p0.length:Int)≤5)))
def t8 (N:Nat) (p0:(List aE)):Option (Bool):=
  eA N p0 N 0
def qI (N:Nat) (p0:aA):Option (Bool):=
  ((eg N p0.Kind).bind fun x1=>((if x1 then ((t8 N p0.Fields).bind fun x2=>some x2) else some false).bind fun b1=>some b1))
def dl (N:Nat) (p0:(List aE)) (p1:(List aE)):Nat→Int→Option (Bool)
  | 0,_=>none
  | k+1,s1=>
    (if decide (s1 < (p0.length:Int)) then ((idx p0 s1).bind fun x1=>((idx p1 s1).bind fun x2=>(if !(bF x1 x2) then some false else ((dl N p0 p1 k) (i64.wrap (s1+1)))))) else some true)
def gU (N:Nat) (p0:(List aE)) (p1:(List aE)):Option (Bool):=
  (if !decide ((p0.length:Int)=(p1.length:Int)) then some false else dl N p0 p1 N 0)
def lN (N:Nat) (p0:aA) (p1:aA):Option (Bool):=
  ((if seq p0.Kind p1.Kind then ((gU N p0.Fields p1.Fields).bind fun x1=>some x1) else some false).bind fun b1=>some b1)
def ie (N:Nat) (p0:ah) (p1:aA):Nat→Int→Option (Int)
  | 0,_=>none
  | k+1,s1=>
    (if decide (s1 < (p0.Items.length:Int)) then ((idx p0.Items s1).bind fun x1=>((lN N x1.F p1).bind fun x2=>(if x2 then ((idx p0.Items s1).bind fun x3=>some x3.Id) else ((ie N p0 p1 k) (i64.wrap (s1+1)))))) else some 0)
def tG (N:Nat) (p0:ah) (p1:aA):Option (Int):=
  ie N p0 p1 N 0
def fY (N:Nat) (p0:ah):Nat→Int→Option (Bool)
  | 0,_=>none
  | k+1,s1=>
    (if decide (s1 < (p0.Items.length:Int)) then ((idx p0.Items s1).bind fun x2=>((qI N x2.F).bind fun x3=>((if !x3 then some true else some (decide (x2.Id < 1))).bind fun b2=>((if b2 then some true else some (decide (p0.Next≤x2.Id))).bind fun b3=>((if b3 then some true else ((if decide (0 < s1) then ((idx p0.Items (i64.wrap (s1 - 1))).bind fun x4=>some (decide (x2.Id≤x4.Id))) else some false).bind fun b5=>some b5)).bind fun b4=>((if b4 then some true else ((tG N p0 x2.F).bind fun x5=>some (!decide (x5=x2.Id)))).bind fun b6=>(if b6 then some false else ((fY N p0 k) (i64.wrap (s1+1)))))))))) else some true)
def oq (N:Nat) (p0:ah):Option (Bool):=
  ((du N p0.Next 1 1000000).bind fun x1=>((if !x1 then some true else some (decide (40 < (p0.Items.length:Int)))).bind fun b1=>(if b1 then some false else fY N p0 N 0)))
def iA (N:Nat) (p0:(List ByteArray)) (p1:ByteArray):Nat→Int→Option (Bool)
  | 0,_=>none
  | k+1,s1=>
    (if decide (s1 < (p0.length:Int)) then ((idx p0 s1).bind fun x1=>(if seq x1 p1 then some true else ((iA N p0 p1 k) (i64.wrap (s1+1))))) else some false)
def mW (N:Nat) (p0:(List ByteArray)) (p1:ByteArray):Option (Bool):=
  iA N p0 p1 N 0
def fN (N:Nat) (p0:ax):Nat→(List ByteArray)→Int→Option ((List ByteArray))
  | 0,_,_=>none
  | k+1,s1,s2=>
    (if decide (s2 < (p0.Args.length:Int)) then ((idx p0.Args s2).bind fun x1=>((if decide (x1.K=1) then ((idx p0.Args s2).bind fun x2=>((mW N s1 x2.S).bind fun x3=>some (!x3))) else some false).bind fun b1=>(if b1 then ((idx p0.Args s2).bind fun x4=>((app s1 ([x4.S]:List ByteArray)).bind fun x5=>((fN N p0 k) x5 (i64.wrap (s2+1))))) else ((fN N p0 k) s1 (i64.wrap (s2+1)))))) else some s1)
def pW (N:Nat) (p0:ax):Option ((List ByteArray)):=
  fN N p0 N ([]:List ByteArray) 0
def cp (N:Nat) (p0:af) (s2:Int) (K1:(List ByteArray)→Int→Option ((List ByteArray))) (x2:(List ByteArray)):Nat→(List ByteArray)→Int→Option ((List ByteArray))
  | 0,_,_=>none
  | k+1,s3,s4=>
    ((if decide (s4 < (x2.length:Int)) then ((idx p0.Pats s2).bind fun x3=>some (!x3.Not)) else some false).bind fun b1=>(if b1 then ((idx x2 s4).bind fun x4=>((mW N s3 x4).bind fun x5=>(if !x5 then ((idx x2 s4).bind fun x6=>((app s3 ([x6]:List ByteArray)).bind fun x7=>((cp N p0 s2 K1 x2 k) x7 (i64.wrap (s4+1))))) else ((cp N p0 s2 K1 x2 k) s3 (i64.wrap (s4+1)))))) else (K1 s3 (i64.wrap (s2+1)))))
def cq (N:Nat) (p0:af):Nat→(List ByteArray)→Int→Option ((List ByteArray))
  | 0,_,_=>none
  | k+1,s1,s2=>
    (if decide (s2 < (p0.Pats.length:Int)) then ((idx p0.Pats s2).bind fun x1=>((pW N x1).bind fun x2=>cp N p0 s2 (cq N p0 k) x2 N s1 0)) else some s1)
def lF (N:Nat) (p0:af):Option ((List ByteArray)):=
  cq N p0 N ([]:List ByteArray) 0
def o3 (N:Nat) (p0:Int):Option (Bool):=
  ((du N (i64.wrap p0) 65 90).bind fun x1=>some x1)
def cT (N:Nat) (p0:ByteArray):Nat→Int→Option (Bool)
  | 0,_=>none
  | k+1,s1=>
    (if decide (s1 < (p0.size:Int)) then ((idx p0.data.toList s1).bind fun y1=>((o3 N (y1.toNat:Int)).bind fun x1=>((if !x1 then ((if decide (s1=0) then some true else ((idx p0.data.toList s1).bind fun y2=>((il N (y2.toNat:Int)).bind fun x2=>some (!x2)))).bind fun b2=>some b2) else some false).bind fun b1=>(if b1 then some false else ((cT N p0 k) (i64.wrap (s1+1))))))) else ((du N (p0.size:Int) 1 12).bind fun x3=>some x3))
def ol (N:Nat) (p0:ByteArray):Option (Bool):=
  cT N p0 N 0
def lx (N:Nat) (p0:aW):Option (Bool):=
  (if decide (p0.K=1) then ((ol N p0.S).bind fun x1=>((if x1 then some (bF p0.V (⟨0,0,(⟨#[]⟩:ByteArray)⟩:aE)) else some false).bind fun b1=>some b1)) else (if decide (p0.K=2) then ((pt N p0.V).bind fun x2=>((if x2 then some (seq p0.S (⟨#[]⟩:ByteArray)) else some false).bind fun b2=>some b2)) else (if decide (p0.K=3) then ((if seq p0.S (⟨#[]⟩:ByteArray) then some (bF p0.V (⟨0,0,(⟨#[]⟩:ByteArray)⟩:aE)) else some false).bind fun b3=>some b3) else some false)))
def gB (N:Nat) (p0:ax):Nat→Int→Option (Bool)
  | 0,_=>none
  | k+1,s1=>
    (if decide (s1 < (p0.Args.length:Int)) then ((idx p0.Args s1).bind fun x1=>((lx N x1).bind fun x2=>(if !x2 then some false else ((gB N p0 k) (i64.wrap (s1+1)))))) else ((eg N p0.Kind).bind fun x3=>((if x3 then some (decide ((p0.Args.length:Int)≤5)) else some false).bind fun b1=>some b1)))
def sg (N:Nat) (p0:ax):Option (Bool):=
  gB N p0 N 0
def ev (N:Nat) (p0:(List ax)):Nat→Int→Option (Bool)
  | 0,_=>none
  | k+1,s1=>
    (if decide (s1 < (p0.length:Int)) then ((if decide (2 < s1) then ((idx p0 s1).bind fun x1=>some (!x1.Not)) else some false).bind fun b1=>(if b1 then some false else ((idx p0 s1).bind fun x2=>((sg N x2).bind fun x3=>((if !x3 then some true else ((if decide (s1=0) then ((idx p0 s1).bind fun x4=>some x4.Not) else some false).bind fun b3=>some b3)).bind fun b2=>((if b2 then some true else ((if decide (0 < s1) then ((idx p0 (i64.wrap (s1 - 1))).bind fun x5=>some x5.Not) else some false).bind fun b5=>((if b5 then ((idx p0 s1).bind fun x6=>some (!x6.Not)) else some false).bind fun b6=>some b6))).bind fun b4=>(if b4 then some false else ((ev N p0 k) (i64.wrap (s1+1)))))))))) else ((du N (p0.length:Int) 1 6).bind fun x7=>some x7))
def qy (N:Nat) (p0:(List ax)):Option (Bool):=
  ev N p0 N 0
def qm (N:Nat) (p0:bj):Option (Bool):=
  ((du N p0.Op 1 3).bind fun x1=>((if x1 then ((lx N p0.L).bind fun x2=>some x2) else some false).bind fun b1=>((if b1 then ((lx N p0.R).bind fun x3=>some x3) else some false).bind fun b2=>((if b2 then some (!decide (p0.L.K=3)) else some false).bind fun b3=>((if b3 then some (!decide (p0.R.K=3)) else some false).bind fun b4=>some b4)))))
def ij (N:Nat) (p0:aW) (p1:(List ByteArray)):Option (Bool):=
  ((if !decide (p0.K=1) then some true else ((mW N p1 p0.S).bind fun x1=>some x1)).bind fun b1=>some b1)
def eS (N:Nat) (p0:(List bj)) (p1:(List ByteArray)):Nat→Int→Option (Bool)
  | 0,_=>none
  | k+1,s1=>
    (if decide (s1 < (p0.length:Int)) then ((idx p0 s1).bind fun x1=>((qm N x1).bind fun x2=>((if !x2 then some true else ((idx p0 s1).bind fun x3=>((ij N x3.L p1).bind fun x4=>some (!x4)))).bind fun b1=>((if b1 then some true else ((idx p0 s1).bind fun x5=>((ij N x5.R p1).bind fun x6=>some (!x6)))).bind fun b2=>(if b2 then some false else ((eS N p0 p1 k) (i64.wrap (s1+1)))))))) else some (decide ((p0.length:Int)≤6)))
def oD (N:Nat) (p0:(List bj)) (p1:(List ByteArray)):Option (Bool):=
  eS N p0 p1 N 0
def jA (N:Nat) (p0:aW):Option (Bool):=
  ((lx N p0).bind fun x1=>((if x1 then some (!decide (p0.K=3)) else some false).bind fun b1=>some b1))
def jg (N:Nat) (p0:bh) (s1:Bool):Option (Bool):=
  (if s1 then ((jA N p0.L).bind fun x2=>((if x2 then ((jA N p0.R).bind fun x3=>some x3) else some false).bind fun b2=>some b2)) else some false)
def qa (N:Nat) (p0:bh):Option (Bool):=
  (if seq p0.Op (⟨#[]⟩:ByteArray) then ((jA N p0.L).bind fun x1=>((if x1 then some (ql p0.R (⟨0,(⟨#[]⟩:ByteArray),(⟨0,0,(⟨#[]⟩:ByteArray)⟩:aE)⟩:aW)) else some false).bind fun b1=>some b1)) else (if seq p0.Op (⟨#[43]⟩:ByteArray) then jg N p0 (seq p0.Op (⟨#[43]⟩:ByteArray)) else jg N p0 (seq p0.Op (⟨#[45]⟩:ByteArray))))
def fP (N:Nat) (p0:(List bh)):Nat→Int→Option (Bool)
  | 0,_=>none
  | k+1,s1=>
    (if decide (s1 < (p0.length:Int)) then ((idx p0 s1).bind fun x1=>((qa N x1).bind fun x2=>(if !x2 then some false else ((fP N p0 k) (i64.wrap (s1+1)))))) else some (decide ((p0.length:Int)≤5)))
def kR (N:Nat) (p0:(List bh)):Option (Bool):=
  fP N p0 N 0
def ke (N:Nat) (p0:bH) (b2:Bool) (s1:Bool):Option (Bool):=
  (if s1 then ((if b2 then some (decide (p0.N=0)) else some false).bind fun b14=>some b14) else some false)
def rX (N:Nat) (p0:bH):Option (Bool):=
  ((if seq p0.Name (⟨#[]⟩:ByteArray) then some (decide ((p0.Args.length:Int)=0)) else some false).bind fun b1=>((if b1 then some (seq p0.Undo (⟨#[]⟩:ByteArray)) else some false).bind fun b2=>(if decide (p0.Kind=1) then ((eg N p0.Name).bind fun x1=>((if x1 then ((kR N p0.Args).bind fun x2=>some x2) else some false).bind fun b3=>((if b3 then some (decide (p0.N=0)) else some false).bind fun b4=>((if b4 then some (seq p0.Undo (⟨#[]⟩:ByteArray)) else some false).bind fun b5=>some b5)))) else (if decide (p0.Kind=3) then ((eg N p0.Name).bind fun x3=>((if x3 then ((kR N p0.Args).bind fun x4=>some x4) else some false).bind fun b6=>((if b6 then some (decide (p0.N=0)) else some false).bind fun b7=>((if b7 then ((if seq p0.Undo (⟨#[]⟩:ByteArray) then some true else ((eg N p0.Undo).bind fun x5=>some x5)).bind fun b9=>some b9) else some false).bind fun b8=>some b8)))) else (if decide (p0.Kind=4) then ((eg N p0.Name).bind fun x6=>((if x6 then ((kR N p0.Args).bind fun x7=>some x7) else some false).bind fun b10=>((if b10 then ((du N p0.N 0 100000).bind fun x8=>some x8) else some false).bind fun b11=>((if b11 then some (seq p0.Undo (⟨#[]⟩:ByteArray)) else some false).bind fun b12=>some b12)))) else (if decide (p0.Kind=2) then ((if b2 then ((du N p0.N 0 7).bind fun x9=>some x9) else some false).bind fun b13=>some b13) else (if decide (p0.Kind=5) then ke N p0 b2 (decide (p0.Kind=5)) else ke N p0 b2 (decide (p0.Kind=6)))))))))
def fJ (N:Nat) (p0:(List bH)) (p1:(List ByteArray)) (s1:Int) (K1:Int→Option (Bool)):Nat→Int→Option (Bool)
  | 0,_=>none
  | k+1,s2=>
    ((idx p0 s1).bind fun x5=>(if decide (s2 < (x5.Args.length:Int)) then ((idx p0 s1).bind fun x6=>((idx x6.Args s2).bind fun x7=>((ij N x7.L p1).bind fun x8=>((if !x8 then some true else ((idx p0 s1).bind fun x9=>((idx x9.Args s2).bind fun x10=>((ij N x10.R p1).bind fun x11=>some (!x11))))).bind fun b3=>(if b3 then some false else ((fJ N p0 p1 s1 K1 k) (i64.wrap (s2+1)))))))) else (K1 (i64.wrap (s1+1)))))
def cM (N:Nat) (p0:(List bH)) (p1:(List ByteArray)) (p2:Int):Nat→Int→Option (Bool)
  | 0,_=>none
  | k+1,s1=>
    (if decide (s1 < (p0.length:Int)) then ((idx p0 s1).bind fun x1=>((rX N x1).bind fun x2=>((if !x2 then some true else ((idx p0 s1).bind fun x3=>((if decide (x3.Kind=2) then ((idx p0 s1).bind fun x4=>some (decide (p2≤x4.N))) else some false).bind fun b2=>some b2))).bind fun b1=>(if b1 then some false else fJ N p0 p1 s1 (cM N p0 p1 p2 k) N 0)))) else ((du N (p0.length:Int) 1 6).bind fun x12=>some x12))
def pY (N:Nat) (p0:(List bH)) (p1:(List ByteArray)) (p2:Int):Option (Bool):=
  cM N p0 p1 p2 N 0
def d5 (N:Nat) (p0:af):Nat→Int→Int→Option (Int)
  | 0,_,_=>none
  | k+1,s1,s2=>
    (if decide (s2 < (p0.Pats.length:Int)) then ((idx p0.Pats s2).bind fun x1=>(if !x1.Not then ((d5 N p0 k) (i64.wrap (s1+1)) (i64.wrap (s2+1))) else ((d5 N p0 k) s1 (i64.wrap (s2+1))))) else some s1)
def mz (N:Nat) (p0:af):Option (Int):=
  d5 N p0 N 0 0
def qx (N:Nat) (p0:af):Option (Bool):=
  ((lF N p0).bind fun x1=>((eg N p0.Name).bind fun x2=>((if x2 then ((du N p0.Sal (-100) 100).bind fun x3=>some x3) else some false).bind fun b1=>((if b1 then ((qy N p0.Pats).bind fun x4=>some x4) else some false).bind fun b2=>((if b2 then ((oD N p0.Conds x1).bind fun x5=>some x5) else some false).bind fun b3=>((if b3 then ((mz N p0).bind fun x6=>((pY N p0.Acts x1 x6).bind fun x7=>some x7)) else some false).bind fun b4=>some b4))))))
def fK (N:Nat) (p0:bl) (p1:ByteArray):Nat→Int→Option (Int)
  | 0,_=>none
  | k+1,s1=>
    (if decide (s1 < (p0.Rules.length:Int)) then ((idx p0.Rules s1).bind fun x1=>(if seq x1.Name p1 then some s1 else ((fK N p0 p1 k) (i64.wrap (s1+1))))) else some (-1))
def qf (N:Nat) (p0:bl) (p1:ByteArray):Option (Int):=
  fK N p0 p1 N 0
def fC (N:Nat) (p0:bl):Nat→Int→Option (Bool)
  | 0,_=>none
  | k+1,s1=>
    (if decide (s1 < (p0.Rules.length:Int)) then ((idx p0.Rules s1).bind fun x1=>((qx N x1).bind fun x2=>((if !x2 then some true else ((idx p0.Rules s1).bind fun x3=>((qf N p0 x3.Name).bind fun x4=>some (!decide (x4=s1))))).bind fun b1=>(if b1 then some false else ((fC N p0 k) (i64.wrap (s1+1))))))) else ((eg N p0.Name).bind fun x5=>((if x5 then ((du N (p0.Rules.length:Int) 1 12).bind fun x6=>some x6) else some false).bind fun b2=>some b2)))
def s9 (N:Nat) (p0:bl):Option (Bool):=
  fC N p0 N 0
def i8 (N:Nat) (p0:(List Int)) (p1:(List Int)):Nat→Int→Option (Bool)
  | 0,_=>none
  | k+1,s1=>
    (if decide (s1 < (p0.length:Int)) then ((idx p0 s1).bind fun x1=>((idx p1 s1).bind fun x2=>(if !decide (x1=x2) then some false else ((i8 N p0 p1 k) (i64.wrap (s1+1)))))) else some true)
def jB (N:Nat) (p0:(List Int)) (p1:(List Int)):Option (Bool):=
  (if !decide ((p0.length:Int)=(p1.length:Int)) then some false else i8 N p0 p1 N 0)
def iW (N:Nat) (p0:a8) (p1:a8):Option (Bool):=
  ((if seq p0.Kind p1.Kind then some (decide (p0.N=p1.N)) else some false).bind fun b1=>((if b1 then ((jB N p0.At p1.At).bind fun x1=>some x1) else some false).bind fun b2=>((if b2 then ((gU N p0.Consts p1.Consts).bind fun x2=>some x2) else some false).bind fun b3=>some b3)))
def eR (N:Nat) (p0:bd) (p1:bd):Nat→Int→Option (Bool)
  | 0,_=>none
  | k+1,s2=>
    (if decide (s2 < (p0.Chains.length:Int)) then ((idx p0.Chains s2).bind fun x4=>((idx p1.Chains s2).bind fun x5=>((jB N x4.Pos x5.Pos).bind fun x6=>((if !x6 then some true else ((idx p0.Chains s2).bind fun x7=>((idx p1.Chains s2).bind fun x8=>((jB N x7.Neg x8.Neg).bind fun x9=>some (!x9))))).bind fun b2=>(if b2 then some false else ((eR N p0 p1 k) (i64.wrap (s2+1)))))))) else some true)
def dD (N:Nat) (p0:bd) (p1:bd):Nat→Int→Option (Bool)
  | 0,_=>none
  | k+1,s1=>
    (if decide (s1 < (p0.Alphas.length:Int)) then ((idx p0.Alphas s1).bind fun x1=>((idx p1.Alphas s1).bind fun x2=>((iW N x1 x2).bind fun x3=>(if !x3 then some false else ((dD N p0 p1 k) (i64.wrap (s1+1))))))) else eR N p0 p1 N 0)
def oC (N:Nat) (p0:bd) (p1:bd):Option (Bool):=
  ((if !decide ((p0.Alphas.length:Int)=(p1.Alphas.length:Int)) then some true else some (!decide ((p0.Chains.length:Int)=(p1.Chains.length:Int)))).bind fun b1=>(if b1 then some false else dD N p0 p1 N 0))
def eJ (N:Nat) (p0:bd) (p1:a8):Nat→Int→Option (Int × bd)
  | 0,_=>none
  | k+1,s1=>
    (if decide (s1 < (p0.Alphas.length:Int)) then ((idx p0.Alphas s1).bind fun x1=>((iW N x1 p1).bind fun x2=>(if x2 then some (s1,p0) else ((eJ N p0 p1 k) (i64.wrap (s1+1)))))) else ((app p0.Alphas ([p1]:List a8)).bind fun x3=>some (i64.wrap ((x3.length:Int) - 1),(⟨x3,p0.Chains⟩:bd))))
def o9 (N:Nat) (p0:bd) (p1:a8):Option (Int × bd):=
  eJ N p0 p1 N 0
def eU (N:Nat) (p0:ax):Nat→(List aE)→(List Int)→Int→Option (a8)
  | 0,_,_,_=>none
  | k+1,s1,s2,s3=>
    (if decide (s3 < (p0.Args.length:Int)) then ((idx p0.Args s3).bind fun x1=>(if decide (x1.K=2) then ((idx p0.Args s3).bind fun x2=>((app s1 ([x2.V]:List aE)).bind fun x3=>((app s2 ([s3]:List Int)).bind fun x4=>((eU N p0 k) x3 x4 (i64.wrap (s3+1)))))) else ((eU N p0 k) s1 s2 (i64.wrap (s3+1))))) else some (⟨p0.Kind,(p0.Args.length:Int),s1,s2⟩:a8))
def og (N:Nat) (p0:ax):Option (a8):=
  eU N p0 N ([]:List aE) ([]:List Int) 0
def ez (N:Nat) (p0:bl) (s2:(List ac)) (s3:Int) (K1:(List a8)→(List ac)→Int→Option (bd)):Nat→(List a8)→(List Int)→(List Int)→Int→Option (bd)
  | 0,_,_,_,_=>none
  | k+1,s4,s5,s6,s7=>
    ((idx p0.Rules s3).bind fun x1=>(if decide (s7 < (x1.Pats.length:Int)) then ((idx p0.Rules s3).bind fun x2=>((idx x2.Pats s7).bind fun x3=>((og N x3).bind fun x4=>((o9 N (⟨s4,s2⟩:bd) x4).bind fun x5=>(if x3.Not then ((app s5 ([x5.1]:List Int)).bind fun x6=>((ez N p0 s2 s3 K1 k) x5.2.Alphas x6 s6 (i64.wrap (s7+1)))) else ((app s6 ([x5.1]:List Int)).bind fun x7=>((ez N p0 s2 s3 K1 k) x5.2.Alphas s5 x7 (i64.wrap (s7+1))))))))) else ((app s2 ([(⟨s6,s5⟩:ac)]:List ac)).bind fun x8=>(K1 s4 x8 (i64.wrap (s3+1))))))
def dd (N:Nat) (p0:bl):Nat→(List a8)→(List ac)→Int→Option (bd)
  | 0,_,_,_=>none
  | k+1,s1,s2,s3=>
    (if decide (s3 < (p0.Rules.length:Int)) then ez N p0 s2 s3 (dd N p0 k) N s1 ([]:List Int) ([]:List Int) 0 else some (⟨s1,s2⟩:bd))
def qo (N:Nat) (p0:bl):Option (bd):=
  dd N p0 N ([]:List a8) ([]:List ac) 0
def ss (N:Nat) (p0:bd) (p1:bl):Option (Bool):=
  ((s9 N p1).bind fun x1=>(if x1 then ((qo N p1).bind fun x2=>((oC N p0 x2).bind fun x4=>some x4)) else some false))
def eI (N:Nat) (p0:(List ak)) (p1:Int) (p2:Int):Nat→Int→Option (Bool)
  | 0,_=>none
  | k+1,s1=>
    (if decide (s1 < (p0.length:Int)) then ((idx p0 s1).bind fun x1=>((if !decide ((x1.Ids.length:Int)=p1) then some true else ((idx p0 s1).bind fun x2=>some (!decide ((x2.Hits.length:Int)=p2)))).bind fun b1=>(if b1 then some false else ((eI N p0 p1 p2 k) (i64.wrap (s1+1)))))) else some true)
def nX (N:Nat) (p0:(List ak)) (p1:Int) (p2:Int):Option (Bool):=
  eI N p0 p1 p2 N 0
def fd (N:Nat) (p1:aG) (s1:Int) (s2:Int) (K2:Int→Option (Bool)) (s3:Int):Option (Bool):=
  ((idx p1.Rules s1).bind fun x3=>((idx x3.Levels s2).bind fun x4=>((nX N x4.Toks (i64.wrap (s2+1)) s3).bind fun x5=>(if !x5 then some false else (K2 (i64.wrap (s2+1)))))))
def bQ (N:Nat) (p0:bd) (p1:aG) (s1:Int) (K1:Int→Option (Bool)) (x1:ac):Nat→Int→Option (Bool)
  | 0,_=>none
  | k+1,s2=>
    (if decide (s2 < (x1.Pos.length:Int)) then (if decide (s2=i64.wrap ((x1.Pos.length:Int) - 1)) then ((idx p0.Chains s1).bind fun x6=>fd N p1 s1 s2 (bQ N p0 p1 s1 K1 x1 k) (x6.Neg.length:Int)) else fd N p1 s1 s2 (bQ N p0 p1 s1 K1 x1 k) 0) else (K1 (i64.wrap (s1+1))))
def bA (N:Nat) (p0:bd) (p1:aG):Nat→Int→Option (Bool)
  | 0,_=>none
  | k+1,s1=>
    (if decide (s1 < (p1.Rules.length:Int)) then ((idx p0.Chains s1).bind fun x1=>((idx p1.Rules s1).bind fun x2=>(if !decide ((x2.Levels.length:Int)=(x1.Pos.length:Int)) then some false else bQ N p0 p1 s1 (bA N p0 p1 k) x1 N 0))) else some true)
def mC (N:Nat) (p0:bd) (p1:aG):Option (Bool):=
  ((if !decide ((p1.Alphas.length:Int)=(p0.Alphas.length:Int)) then some true else some (!decide ((p1.Rules.length:Int)=(p0.Chains.length:Int)))).bind fun b1=>(if b1 then some false else bA N p0 p1 N 0))
def rd (N:Nat) (p0:bl) (p1:bd) (p2:aG) (p3:ah) (p4:Int):Option (Bool):=
  ((kW N p3 p4).bind fun x1=>((if x1.2 then ((oq N p3).bind fun x2=>some x2) else some false).bind fun b1=>((if b1 then ((ss N p1 p0).bind fun x3=>some x3) else some false).bind fun b2=>((if b2 then ((mC N p1 p2).bind fun x4=>some x4) else some false).bind fun b3=>some b3))))
def fL (N:Nat) (p0:(List Int)) (p1:Int):Nat→Int→Option (Bool)
  | 0,_=>none
  | k+1,s1=>
    (if decide (s1 < (p0.length:Int)) then ((idx p0 s1).bind fun x1=>(if decide (x1=p1) then some true else ((fL N p0 p1 k) (i64.wrap (s1+1))))) else some false)
def qS (N:Nat) (p0:(List Int)) (p1:Int):Option (Bool):=
  fL N p0 p1 N 0
def cF (N:Nat) (p0:(List ak)) (p1:Int):Nat→(List ak)→Int→Option ((List ak))
  | 0,_,_=>none
  | k+1,s1,s2=>
    (if decide (s2 < (p0.length:Int)) then ((idx p0 s2).bind fun x1=>((qS N x1.Ids p1).bind fun x2=>(if !x2 then ((idx p0 s2).bind fun x3=>((app s1 ([x3]:List ak)).bind fun x4=>((cF N p0 p1 k) x4 (i64.wrap (s2+1))))) else ((cF N p0 p1 k) s1 (i64.wrap (s2+1)))))) else some s1)
def jz (N:Nat) (p0:(List ak)) (p1:Int):Option ((List ak)):=
  ((tW p0).bind fun _=>cF N p0 p1 N ([]:List ak) 0)
def gQ (N:Nat) (p0:(List aI)) (p1:ByteArray):Nat→Int→Option (aE × Bool)
  | 0,_=>none
  | k+1,s1=>
    (if decide (s1 < (p0.length:Int)) then ((idx p0 s1).bind fun x1=>(if seq x1.Name p1 then ((idx p0 s1).bind fun x2=>some (x2.V,true)) else ((gQ N p0 p1 k) (i64.wrap (s1+1))))) else some ((⟨0,0,(⟨#[]⟩:ByteArray)⟩:aE),false))
def qu (N:Nat) (p0:(List aI)) (p1:ByteArray):Option (aE × Bool):=
  gQ N p0 p1 N 0
def ft (N:Nat) (p0:ax) (p1:aA) (p2:(List aI)):Nat→(List aI)→Int→Option ((List aI) × Bool)
  | 0,_,_=>none
  | k+1,s1,s2=>
    (if decide (s2 < (p0.Args.length:Int)) then ((idx p0.Args s2).bind fun x2=>((qu N s1 x2.S).bind fun x3=>((if decide (x2.K=2) then ((idx p1.Fields s2).bind fun x4=>some (!(bF x2.V x4))) else some false).bind fun b2=>((if b2 then some true else ((if decide (x2.K=1) then some x3.2 else some false).bind fun b4=>((if b4 then ((idx p1.Fields s2).bind fun x5=>some (!(bF x3.1 x5))) else some false).bind fun b5=>some b5))).bind fun b3=>(if b3 then ((app ([]:List aI) p2).bind fun x6=>some (x6,false)) else ((if decide (x2.K=1) then some (!x3.2) else some false).bind fun b6=>(if b6 then ((idx p1.Fields s2).bind fun x7=>((app s1 ([(⟨x2.S,x7⟩:aI)]:List aI)).bind fun x8=>((ft N p0 p1 p2 k) x8 (i64.wrap (s2+1))))) else ((ft N p0 p1 p2 k) s1 (i64.wrap (s2+1)))))))))) else some (s1,true))
def jU (N:Nat) (p0:ax) (p1:aA) (p2:(List aI)):Option ((List aI) × Bool):=
  ((app ([]:List aI) p2).bind fun x1=>((if !seq p0.Kind p1.Kind then some true else some (!decide ((p0.Args.length:Int)=(p1.Fields.length:Int)))).bind fun b1=>(if b1 then some (x1,false) else ft N p0 p1 p2 N x1 0)))
def kE (N:Nat) (p0:af) (s1:(List aI)) (s2:Int) (K1:(List aI)→Int→Option ((List aI) × Bool)) (s3:(List aE)) (s4:Bool) (s5:ByteArray):Option ((List aI) × Bool):=
  ((idx p0.Pats s2).bind fun x3=>((jU N x3 (⟨s5,s3⟩:aA) s1).bind fun x4=>((if !s4 then some true else some (!x4.2)).bind fun b1=>(if b1 then some (s1,false) else (K1 x4.1 (i64.wrap (s2+1)))))))
def dO (N:Nat) (p0:af) (p1:ah) (p2:(List Int)):Nat→(List aI)→Int→Option ((List aI) × Bool)
  | 0,_,_=>none
  | k+1,s1,s2=>
    (if decide (s2 < (p2.length:Int)) then ((idx p2 s2).bind fun x5=>((kW N p1 x5).bind fun x6=>kE N p0 s1 s2 (dO N p0 p1 p2 k) x6.1.Fields x6.2 x6.1.Kind)) else some (s1,true))
def mL (N:Nat) (p0:af) (p1:ah) (p2:(List Int)):Option ((List aI) × Bool):=
  dO N p0 p1 p2 N ([]:List aI) 0
def gN (N:Nat) (s1:(List Int)) (s2:Int) (K1:(List Int)→Int→Option ((List Int))) (s3:Int):Option ((List Int)):=
  ((app s1 ([s3]:List Int)).bind fun x4=>(K1 x4 (i64.wrap (s2+1))))
def cP (N:Nat) (p0:af) (p1:aA) (p2:(List aI)):Nat→(List Int)→Int→Option ((List Int))
  | 0,_,_=>none
  | k+1,s1,s2=>
    (if decide (s2 < (p0.Pats.length:Int)) then ((idx p0.Pats s2).bind fun x1=>(if x1.Not then ((idx p0.Pats s2).bind fun x2=>((jU N x2 p1 p2).bind fun x3=>(if x3.2 then gN N s1 s2 (cP N p0 p1 p2 k) 1 else gN N s1 s2 (cP N p0 p1 p2 k) 0))) else ((cP N p0 p1 p2 k) s1 (i64.wrap (s2+1))))) else some s1)
def qT (N:Nat) (p0:af) (p1:aA) (p2:(List aI)):Option ((List Int)):=
  cP N p0 p1 p2 N ([]:List Int) 0
def cL (N:Nat) (p4:Int) (s2:Int) (K1:(List ak)→Int→Option ((List ak))) (x2:(List aI) × Bool) (x3:(List Int)):Nat→(List ak)→Int→Option ((List ak))
  | 0,_,_=>none
  | k+1,s3,s4=>
    ((if decide (s4 < (x3.length:Int)) then some x2.2 else some false).bind fun b1=>(if b1 then ((idx s3 s2).bind fun x4=>((idx x4.Hits s4).bind fun x5=>((idx x3 s4).bind fun x6=>((idx x4.Hits s4).bind fun x7=>((cL N p4 s2 K1 x2 x3 k) (s3.set s2.toNat (⟨x4.Ids,(x4.Hits.set s4.toNat (i64.wrap (x5+(i64.wrap (p4*x6)))))⟩:ak)) (i64.wrap (s4+1))))))) else (K1 s3 (i64.wrap (s2+1)))))
def bW (N:Nat) (p0:af) (p1:ah) (p3:aA) (p4:Int):Nat→(List ak)→Int→Option ((List ak))
  | 0,_,_=>none
  | k+1,s1,s2=>
    (if decide (s2 < (s1.length:Int)) then ((idx s1 s2).bind fun x1=>((mL N p0 p1 x1.Ids).bind fun x2=>((qT N p0 p3 x2.1).bind fun x3=>cL N p4 s2 (bW N p0 p1 p3 p4 k) x2 x3 N s1 0))) else some s1)
def o1 (N:Nat) (p0:af) (p1:ah) (p2:(List ak)) (p3:aA) (p4:Int):Option ((List ak)):=
  bW N p0 p1 p3 p4 N p2 0
def dC (N:Nat) (p3:Int) (s1:(List aP)) (s2:Int) (K1:(List aP)→Int→Option (aG)):Nat→(List Int)→Int→Option (aG)
  | 0,_,_=>none
  | k+1,s3,s4=>
    ((idx s1 s2).bind fun x2=>(if decide (s4 < (x2.L.length:Int)) then ((idx s1 s2).bind fun x3=>((idx x3.L s4).bind fun x4=>(if !decide (x4=p3) then ((idx s1 s2).bind fun x5=>((idx x5.L s4).bind fun x6=>((app s3 ([x6]:List Int)).bind fun x7=>((dC N p3 s1 s2 K1 k) x7 (i64.wrap (s4+1)))))) else ((dC N p3 s1 s2 K1 k) s3 (i64.wrap (s4+1)))))) else ((idx s1 s2).bind fun x8=>(K1 (s1.set s2.toNat (⟨s3⟩:aP)) (i64.wrap (s2+1))))))
def eM (N:Nat) (p0:bl) (p2:ah) (p3:Int) (x1:aA × Bool) (s5:(List aC)) (s6:Int) (K3:(List aC)→Int→Option (aG)):Nat→(List ae)→Int→Option (aG)
  | 0,_,_=>none
  | k+1,s7,s8=>
    (if decide (s8 < (s7.length:Int)) then ((idx s7 s8).bind fun x10=>((jz N x10.Toks p3).bind fun x11=>((eM N p0 p2 p3 x1 s5 s6 K3 k) (s7.set s8.toNat (⟨x11⟩:ae)) (i64.wrap (s8+1))))) else ((idx p0.Rules s6).bind fun x12=>((idx s7 (i64.wrap ((s7.length:Int) - 1))).bind fun x13=>((o1 N x12 p2 x13.Toks x1.1 (-1)).bind fun x14=>(K3 (s5.set s6.toNat (⟨(s7.set (i64.wrap ((s7.length:Int) - 1)).toNat (⟨x14⟩:ae))⟩:aC)) (i64.wrap (s6+1)))))))
def dj (N:Nat) (p0:bl) (p2:ah) (p3:Int) (x1:aA × Bool) (s1:(List aP)):Nat→(List aC)→Int→Option (aG)
  | 0,_,_=>none
  | k+1,s5,s6=>
    (if decide (s6 < (p0.Rules.length:Int)) then ((idx s5 s6).bind fun x9=>eM N p0 p2 p3 x1 s5 s6 (dj N p0 p2 p3 x1 s1 k) N x9.Levels 0) else some (⟨s1,s5⟩:aG))
def dt (N:Nat) (p0:bl) (p1:aG) (p2:ah) (p3:Int) (x1:aA × Bool):Nat→(List aP)→Int→Option (aG)
  | 0,_,_=>none
  | k+1,s1,s2=>
    (if decide (s2 < (s1.length:Int)) then dC N p3 s1 s2 (dt N p0 p1 p2 p3 x1 k) N ([]:List Int) 0 else dj N p0 p2 p3 x1 s1 N p1.Rules 0)
def oc (N:Nat) (p0:bl) (p1:aG) (p2:ah) (p3:Int):Option (aG):=
  ((kW N p2 p3).bind fun x1=>dt N p0 p1 p2 p3 x1 N p1.Alphas 0)
def gA (N:Nat) (s1:(List aP)) (s2:(List aC)):Option (aG):=
  some (⟨s1,s2⟩:aG)
def mB (N:Nat) (p0:bl) (p1:bd) (p2:aG) (p3:ah) (p4:Int):Option (aG):=
  ((nY N p2).bind fun x1=>((rd N p0 p1 p2 p3 p4).bind fun x2=>(if x2 then ((oc N p0 x1 p3 p4).bind fun x3=>gA N x3.Alphas x3.Rules) else gA N x1.Alphas x1.Rules)))
def mZ (N:Nat) (p0:aE):Option (aE):=
  some p0
def j9 (N:Nat) (p0:aW):Option (aW):=
  ((mZ N p0.V).bind fun x1=>some (⟨p0.K,p0.S,x1⟩:aW))
def kC (N:Nat) (p0:(List aW)):Nat→(List aW)→Int→Option ((List aW))
  | 0,_,_=>none
  | k+1,s1,s2=>
    (if decide (s2 < (p0.length:Int)) then ((idx p0 s2).bind fun x2=>((j9 N x2).bind fun x3=>((idx s1 s2).bind fun x4=>((kC N p0 k) (s1.set s2.toNat x3) (i64.wrap (s2+1)))))) else some s1)
def rk (N:Nat) (p0:(List aW)):Option ((List aW)):=
  ((mk (⟨0,(⟨#[]⟩:ByteArray),(⟨0,0,(⟨#[]⟩:ByteArray)⟩:aE)⟩:aW) (p0.length:Int)).bind fun x1=>kC N p0 N x1 0)
def pj (N:Nat) (p0:ax):Option (ax):=
  ((rk N p0.Args).bind fun x1=>some (⟨p0.Kind,x1,p0.Not⟩:ax))
def kv (N:Nat) (p0:(List ax)):Nat→(List ax)→Int→Option ((List ax))
  | 0,_,_=>none
  | k+1,s1,s2=>
    (if decide (s2 < (p0.length:Int)) then ((idx p0 s2).bind fun x2=>((pj N x2).bind fun x3=>((idx s1 s2).bind fun x4=>((kv N p0 k) (s1.set s2.toNat x3) (i64.wrap (s2+1)))))) else some s1)
def qD (N:Nat) (p0:(List ax)):Option ((List ax)):=
  ((mk (⟨(⟨#[]⟩:ByteArray),([]:List aW),false⟩:ax) (p0.length:Int)).bind fun x1=>kv N p0 N x1 0)
def n7 (N:Nat) (p0:bj):Option (bj):=
  ((j9 N p0.L).bind fun x1=>((j9 N p0.R).bind fun x2=>some (⟨p0.Op,x1,x2⟩:bj)))
def jr (N:Nat) (p0:(List bj)):Nat→(List bj)→Int→Option ((List bj))
  | 0,_,_=>none
  | k+1,s1,s2=>
    (if decide (s2 < (p0.length:Int)) then ((idx p0 s2).bind fun x2=>((n7 N x2).bind fun x3=>((idx s1 s2).bind fun x4=>((jr N p0 k) (s1.set s2.toNat x3) (i64.wrap (s2+1)))))) else some s1)
def nV (N:Nat) (p0:(List bj)):Option ((List bj)):=
  ((mk (⟨0,(⟨0,(⟨#[]⟩:ByteArray),(⟨0,0,(⟨#[]⟩:ByteArray)⟩:aE)⟩:aW),(⟨0,(⟨#[]⟩:ByteArray),(⟨0,0,(⟨#[]⟩:ByteArray)⟩:aE)⟩:aW)⟩:bj) (p0.length:Int)).bind fun x1=>jr N p0 N x1 0)
def ni (N:Nat) (p0:bh):Option (bh):=
  ((j9 N p0.L).bind fun x1=>((j9 N p0.R).bind fun x2=>some (⟨p0.Op,x1,x2⟩:bh)))
def jE (N:Nat) (p0:(List bh)):Nat→(List bh)→Int→Option ((List bh))
  | 0,_,_=>none
  | k+1,s1,s2=>
    (if decide (s2 < (p0.length:Int)) then ((idx p0 s2).bind fun x2=>((ni N x2).bind fun x3=>((idx s1 s2).bind fun x4=>((jE N p0 k) (s1.set s2.toNat x3) (i64.wrap (s2+1)))))) else some s1)
def o2 (N:Nat) (p0:(List bh)):Option ((List bh)):=
  ((mk (⟨(⟨#[]⟩:ByteArray),(⟨0,(⟨#[]⟩:ByteArray),(⟨0,0,(⟨#[]⟩:ByteArray)⟩:aE)⟩:aW),(⟨0,(⟨#[]⟩:ByteArray),(⟨0,0,(⟨#[]⟩:ByteArray)⟩:aE)⟩:aW)⟩:bh) (p0.length:Int)).bind fun x1=>jE N p0 N x1 0)
def pn (N:Nat) (p0:bH):Option (bH):=
  ((o2 N p0.Args).bind fun x1=>some (⟨p0.Kind,p0.Name,x1,p0.N,p0.Undo⟩:bH))
def kz (N:Nat) (p0:(List bH)):Nat→(List bH)→Int→Option ((List bH))
  | 0,_,_=>none
  | k+1,s1,s2=>
    (if decide (s2 < (p0.length:Int)) then ((idx p0 s2).bind fun x2=>((pn N x2).bind fun x3=>((idx s1 s2).bind fun x4=>((kz N p0 k) (s1.set s2.toNat x3) (i64.wrap (s2+1)))))) else some s1)
def pZ (N:Nat) (p0:(List bH)):Option ((List bH)):=
  ((mk (⟨0,(⟨#[]⟩:ByteArray),([]:List bh),0,(⟨#[]⟩:ByteArray)⟩:bH) (p0.length:Int)).bind fun x1=>kz N p0 N x1 0)
def nE (N:Nat) (p0:af):Option (af):=
  ((qD N p0.Pats).bind fun x1=>((nV N p0.Conds).bind fun x2=>((pZ N p0.Acts).bind fun x3=>some (⟨p0.Name,p0.Sal,x1,x2,x3⟩:af))))
def jG (N:Nat) (p0:(List af)):Nat→(List af)→Int→Option ((List af))
  | 0,_,_=>none
  | k+1,s1,s2=>
    (if decide (s2 < (p0.length:Int)) then ((idx p0 s2).bind fun x2=>((nE N x2).bind fun x3=>((idx s1 s2).bind fun x4=>((jG N p0 k) (s1.set s2.toNat x3) (i64.wrap (s2+1)))))) else some s1)
def o6 (N:Nat) (p0:(List af)):Option ((List af)):=
  ((mk (⟨(⟨#[]⟩:ByteArray),0,([]:List ax),([]:List bj),([]:List bH)⟩:af) (p0.length:Int)).bind fun x1=>jG N p0 N x1 0)
def lJ (N:Nat) (p0:bl):Option (bl):=
  ((o6 N p0.Rules).bind fun x1=>some (⟨p0.Name,x1⟩:bl))
def kD (N:Nat) (p0:(List aE)):Nat→(List aE)→Int→Option ((List aE))
  | 0,_,_=>none
  | k+1,s1,s2=>
    (if decide (s2 < (p0.length:Int)) then ((idx p0 s2).bind fun x2=>((mZ N x2).bind fun x3=>((idx s1 s2).bind fun x4=>((kD N p0 k) (s1.set s2.toNat x3) (i64.wrap (s2+1)))))) else some s1)
def ng (N:Nat) (p0:(List aE)):Option ((List aE)):=
  ((mk (⟨0,0,(⟨#[]⟩:ByteArray)⟩:aE) (p0.length:Int)).bind fun x1=>kD N p0 N x1 0)
def kt (N:Nat) (p0:(List Int)):Nat→(List Int)→Int→Option ((List Int))
  | 0,_,_=>none
  | k+1,s1,s2=>
    (if decide (s2 < (p0.length:Int)) then ((idx p0 s2).bind fun x2=>((idx s1 s2).bind fun x3=>((kt N p0 k) (s1.set s2.toNat x2) (i64.wrap (s2+1))))) else some s1)
def gO (N:Nat) (p0:(List Int)):Option ((List Int)):=
  ((mk 0 (p0.length:Int)).bind fun x1=>kt N p0 N x1 0)
def lw (N:Nat) (p0:a8):Option (a8):=
  ((ng N p0.Consts).bind fun x1=>((gO N p0.At).bind fun x2=>some (⟨p0.Kind,p0.N,x1,x2⟩:a8)))
def iC (N:Nat) (p0:(List a8)):Nat→(List a8)→Int→Option ((List a8))
  | 0,_,_=>none
  | k+1,s1,s2=>
    (if decide (s2 < (p0.length:Int)) then ((idx p0 s2).bind fun x2=>((lw N x2).bind fun x3=>((idx s1 s2).bind fun x4=>((iC N p0 k) (s1.set s2.toNat x3) (i64.wrap (s2+1)))))) else some s1)
def lP (N:Nat) (p0:(List a8)):Option ((List a8)):=
  ((mk (⟨(⟨#[]⟩:ByteArray),0,([]:List aE),([]:List Int)⟩:a8) (p0.length:Int)).bind fun x1=>iC N p0 N x1 0)
def l9 (N:Nat) (p0:ac):Option (ac):=
  ((gO N p0.Pos).bind fun x1=>((gO N p0.Neg).bind fun x2=>some (⟨x1,x2⟩:ac)))
def iI (N:Nat) (p0:(List ac)):Nat→(List ac)→Int→Option ((List ac))
  | 0,_,_=>none
  | k+1,s1,s2=>
    (if decide (s2 < (p0.length:Int)) then ((idx p0 s2).bind fun x2=>((l9 N x2).bind fun x3=>((idx s1 s2).bind fun x4=>((iI N p0 k) (s1.set s2.toNat x3) (i64.wrap (s2+1)))))) else some s1)
def mN (N:Nat) (p0:(List ac)):Option ((List ac)):=
  ((mk (⟨([]:List Int),([]:List Int)⟩:ac) (p0.length:Int)).bind fun x1=>iI N p0 N x1 0)
def lv (N:Nat) (p0:bd):Option (bd):=
  ((lP N p0.Alphas).bind fun x1=>((mN N p0.Chains).bind fun x2=>some (⟨x1,x2⟩:bd)))
def pB (N:Nat) (p0:aP):Option (aP):=
  ((gO N p0.L).bind fun x1=>some (⟨x1⟩:aP))
def kr (N:Nat) (p0:(List aP)):Nat→(List aP)→Int→Option ((List aP))
  | 0,_,_=>none
  | k+1,s1,s2=>
    (if decide (s2 < (p0.length:Int)) then ((idx p0 s2).bind fun x2=>((pB N x2).bind fun x3=>((idx s1 s2).bind fun x4=>((kr N p0 k) (s1.set s2.toNat x3) (i64.wrap (s2+1)))))) else some s1)
def qE (N:Nat) (p0:(List aP)):Option ((List aP)):=
  ((mk (⟨([]:List Int)⟩:aP) (p0.length:Int)).bind fun x1=>kr N p0 N x1 0)
def pF (N:Nat) (p0:ak):Option (ak):=
  ((gO N p0.Ids).bind fun x1=>((gO N p0.Hits).bind fun x2=>some (⟨x1,x2⟩:ak)))
def kl (N:Nat) (p0:(List ak)):Nat→(List ak)→Int→Option ((List ak))
  | 0,_,_=>none
  | k+1,s1,s2=>
    (if decide (s2 < (p0.length:Int)) then ((idx p0 s2).bind fun x2=>((pF N x2).bind fun x3=>((idx s1 s2).bind fun x4=>((kl N p0 k) (s1.set s2.toNat x3) (i64.wrap (s2+1)))))) else some s1)
def qn (N:Nat) (p0:(List ak)):Option ((List ak)):=
  ((mk (⟨([]:List Int),([]:List Int)⟩:ak) (p0.length:Int)).bind fun x1=>kl N p0 N x1 0)
def l6 (N:Nat) (p0:ae):Option (ae):=
  ((qn N p0.Toks).bind fun x1=>some (⟨x1⟩:ae))
def iJ (N:Nat) (p0:(List ae)):Nat→(List ae)→Int→Option ((List ae))
  | 0,_,_=>none
  | k+1,s1,s2=>
    (if decide (s2 < (p0.length:Int)) then ((idx p0 s2).bind fun x2=>((l6 N x2).bind fun x3=>((idx s1 s2).bind fun x4=>((iJ N p0 k) (s1.set s2.toNat x3) (i64.wrap (s2+1)))))) else some s1)
def mb (N:Nat) (p0:(List ae)):Option ((List ae)):=
  ((mk (⟨([]:List ak)⟩:ae) (p0.length:Int)).bind fun x1=>iJ N p0 N x1 0)
def pH (N:Nat) (p0:aC):Option (aC):=
  ((mb N p0.Levels).bind fun x1=>some (⟨x1⟩:aC))
def kA (N:Nat) (p0:(List aC)):Nat→(List aC)→Int→Option ((List aC))
  | 0,_,_=>none
  | k+1,s1,s2=>
    (if decide (s2 < (p0.length:Int)) then ((idx p0 s2).bind fun x2=>((pH N x2).bind fun x3=>((idx s1 s2).bind fun x4=>((kA N p0 k) (s1.set s2.toNat x3) (i64.wrap (s2+1)))))) else some s1)
def qj (N:Nat) (p0:(List aC)):Option ((List aC)):=
  ((mk (⟨([]:List ae)⟩:aC) (p0.length:Int)).bind fun x1=>kA N p0 N x1 0)
def lm (N:Nat) (p0:aG):Option (aG):=
  ((qE N p0.Alphas).bind fun x1=>((qj N p0.Rules).bind fun x2=>some (⟨x1,x2⟩:aG)))
def qN (N:Nat) (p0:aA):Option (aA):=
  ((ng N p0.Fields).bind fun x1=>some (⟨p0.Kind,x1⟩:aA))
def nr (N:Nat) (p0:aY):Option (aY):=
  ((qN N p0.F).bind fun x1=>some (⟨p0.Id,x1⟩:aY))
def jI (N:Nat) (p0:(List aY)):Nat→(List aY)→Int→Option ((List aY))
  | 0,_,_=>none
  | k+1,s1,s2=>
    (if decide (s2 < (p0.length:Int)) then ((idx p0 s2).bind fun x2=>((nr N x2).bind fun x3=>((idx s1 s2).bind fun x4=>((jI N p0 k) (s1.set s2.toNat x3) (i64.wrap (s2+1)))))) else some s1)
def o4 (N:Nat) (p0:(List aY)):Option ((List aY)):=
  ((mk (⟨0,(⟨(⟨#[]⟩:ByteArray),([]:List aE)⟩:aA)⟩:aY) (p0.length:Int)).bind fun x1=>jI N p0 N x1 0)
def ig (N:Nat) (p0:ah):Option (ah):=
  ((o4 N p0.Items).bind fun x1=>some (⟨x1,p0.Next⟩:ah))
def cD (N:Nat) (p0:(List Int)):Option ((List Int)):=
  ((app ([]:List Int) p0).bind fun x1=>some x1)
def eT (N:Nat) (s5:(List ae)) (s6:Int) (K3:(List ae)→Int→Option (aG)) (x5:ae):Nat→(List ak)→Int→Option (aG)
  | 0,_,_=>none
  | k+1,s7,s8=>
    (if decide (s8 < (x5.Toks.length:Int)) then ((idx x5.Toks s8).bind fun x6=>((cD N x6.Ids).bind fun x7=>((cD N x6.Hits).bind fun x8=>((app s7 ([(⟨x7,x8⟩:ak)]:List ak)).bind fun x9=>((eT N s5 s6 K3 x5 k) x9 (i64.wrap (s8+1))))))) else ((app s5 ([(⟨s7⟩:ae)]:List ae)).bind fun x10=>(K3 x10 (i64.wrap (s6+1)))))
def dB (N:Nat) (s3:(List aC)) (s4:Int) (K2:(List aC)→Int→Option (aG)) (x4:aC):Nat→(List ae)→Int→Option (aG)
  | 0,_,_=>none
  | k+1,s5,s6=>
    (if decide (s6 < (x4.Levels.length:Int)) then ((idx x4.Levels s6).bind fun x5=>eT N s5 s6 (dB N s3 s4 K2 x4 k) x5 N ([]:List ak) 0) else ((app s3 ([(⟨s5⟩:aC)]:List aC)).bind fun x11=>(K2 x11 (i64.wrap (s4+1)))))
def cR (N:Nat) (p0:aG) (s1:(List aP)):Nat→(List aC)→Int→Option (aG)
  | 0,_,_=>none
  | k+1,s3,s4=>
    (if decide (s4 < (p0.Rules.length:Int)) then ((idx p0.Rules s4).bind fun x4=>dB N s3 s4 (cR N p0 s1 k) x4 N ([]:List ae) 0) else some (⟨s1,s3⟩:aG))
def fW (N:Nat) (p0:aG):Nat→(List aP)→Int→Option (aG)
  | 0,_,_=>none
  | k+1,s1,s2=>
    (if decide (s2 < (p0.Alphas.length:Int)) then ((idx p0.Alphas s2).bind fun x1=>((cD N x1.L).bind fun x2=>((app s1 ([(⟨x2⟩:aP)]:List aP)).bind fun x3=>((fW N p0 k) x3 (i64.wrap (s2+1)))))) else cR N p0 s1 N ([]:List aC) 0)
def oB (N:Nat) (p0:aG):Option (aG):=
  fW N p0 N ([]:List aP) 0
def cl (N:Nat) (p0:Int) (p1:Int) (p2:Int):Option (Bool):=
  ((if decide (p1≤p0) then some (decide (p0≤p2)) else some false).bind fun b1=>some b1)
def jJ (N:Nat) (p0:Int):Option (Bool):=
  ((if decide (97≤p0) then some (decide (p0≤122)) else some false).bind fun b1=>some b1)
def rB (N:Nat) (p0:Int):Option (Bool):=
  ((if decide (48≤p0) then some (decide (p0≤57)) else some false).bind fun b1=>some b1)
def i9 (N:Nat) (p0:Int):Option (Bool):=
  ((jJ N p0).bind fun x1=>((if x1 then some true else ((rB N p0).bind fun x2=>some x2)).bind fun b1=>((if b1 then some true else some (decide (p0=95))).bind fun b2=>some b2)))
def eB (N:Nat) (p0:ByteArray):Nat→Int→Option (Bool)
  | 0,_=>none
  | k+1,s1=>
    (if decide (s1 < (p0.size:Int)) then ((idx p0.data.toList s1).bind fun y1=>((i9 N (y1.toNat:Int)).bind fun x1=>(if !x1 then some false else ((eB N p0 k) (i64.wrap (s1+1)))))) else some true)
def mU (N:Nat) (p0:ByteArray) (p1:Int):Option (Bool):=
  (if decide (p1 < (p0.size:Int)) then some false else eB N p0 N 0)
def fZ (N:Nat) (p0:ByteArray):Option (Bool):=
  ((if decide (0 < (p0.size:Int)) then ((idx p0.data.toList 0).bind fun y1=>((jJ N (y1.toNat:Int)).bind fun x1=>some x1)) else some false).bind fun b1=>((if b1 then ((mU N p0 12).bind fun x2=>some x2) else some false).bind fun b2=>some b2))
def cU (N:Nat) (p0:af):Nat→Int→Int→Option (Int)
  | 0,_,_=>none
  | k+1,s1,s2=>
    (if decide (s2 < (p0.Pats.length:Int)) then ((idx p0.Pats s2).bind fun x1=>(if !x1.Not then ((cU N p0 k) (i64.wrap (s1+1)) (i64.wrap (s2+1))) else ((cU N p0 k) s1 (i64.wrap (s2+1))))) else some s1)
def iq (N:Nat) (p0:af):Option (Int):=
  cU N p0 N 0 0
def lh (N:Nat) (p0:aE):Option (Bool):=
  (if decide (p0.K=1) then ((cl N p0.N (-1000000000) 1000000000).bind fun x1=>((if x1 then some (seq p0.S (⟨#[]⟩:ByteArray)) else some false).bind fun b1=>some b1)) else (if decide (p0.K=2) then ((if decide (p0.N=0) then ((mU N p0.S 20).bind fun x2=>some x2) else some false).bind fun b2=>some b2) else some false))
def lL (N:Nat) (p0:Int):Option (Bool):=
  ((if decide (65≤p0) then some (decide (p0≤90)) else some false).bind fun b1=>some b1)
def gE (N:Nat) (p0:ByteArray):Nat→Int→Option (Bool)
  | 0,_=>none
  | k+1,s1=>
    (if decide (s1 < (p0.size:Int)) then ((idx p0.data.toList s1).bind fun y2=>((i9 N (y2.toNat:Int)).bind fun x2=>((if !x2 then ((idx p0.data.toList s1).bind fun y3=>((lL N (y3.toNat:Int)).bind fun x3=>some (!x3))) else some false).bind fun b3=>(if b3 then some false else ((gE N p0 k) (i64.wrap (s1+1))))))) else some true)
def sH (N:Nat) (p0:ByteArray):Option (Bool):=
  ((if decide ((p0.size:Int) < 1) then some true else some (decide (12 < (p0.size:Int)))).bind fun b1=>((if b1 then some true else ((idx p0.data.toList 0).bind fun y1=>((lL N (y1.toNat:Int)).bind fun x1=>some (!x1)))).bind fun b2=>(if b2 then some false else gE N p0 N 0)))
def pK (N:Nat) (p0:aW):Option (Bool):=
  (if decide (p0.K=1) then ((sH N p0.S).bind fun x1=>((if x1 then some (bF p0.V (⟨0,0,(⟨#[]⟩:ByteArray)⟩:aE)) else some false).bind fun b1=>some b1)) else (if decide (p0.K=2) then ((if seq p0.S (⟨#[]⟩:ByteArray) then ((lh N p0.V).bind fun x2=>some x2) else some false).bind fun b2=>some b2) else (if decide (p0.K=3) then ((if seq p0.S (⟨#[]⟩:ByteArray) then some (bF p0.V (⟨0,0,(⟨#[]⟩:ByteArray)⟩:aE)) else some false).bind fun b3=>some b3) else some false)))
def gF (N:Nat) (p0:ax):Nat→Int→Option (Bool)
  | 0,_=>none
  | k+1,s1=>
    (if decide (s1 < (p0.Args.length:Int)) then ((idx p0.Args s1).bind fun x2=>((pK N x2).bind fun x3=>(if !x3 then some false else ((gF N p0 k) (i64.wrap (s1+1)))))) else some true)
def rU (N:Nat) (p0:ax):Option (Bool):=
  ((fZ N p0.Kind).bind fun x1=>((if !x1 then some true else some (decide (5 < (p0.Args.length:Int)))).bind fun b1=>(if b1 then some false else gF N p0 N 0)))
def eF (N:Nat) (p0:af):Nat→Int→Option (Bool)
  | 0,_=>none
  | k+1,s1=>
    (if decide (s1 < (p0.Pats.length:Int)) then ((idx p0.Pats s1).bind fun x4=>((rU N x4).bind fun x5=>((if !x5 then some true else ((iq N p0).bind fun x6=>some (x4.Not != (decide (x6≤s1))))).bind fun b2=>(if b2 then some false else ((eF N p0 k) (i64.wrap (s1+1))))))) else some true)
def qJ (N:Nat) (p0:af):Option (Bool):=
  ((cl N (p0.Pats.length:Int) 1 6).bind fun x1=>((if !x1 then some true else ((iq N p0).bind fun x2=>((cl N x2 1 3).bind fun x3=>some (!x3)))).bind fun b1=>(if b1 then some false else eF N p0 N 0)))
def iu (N:Nat) (p0:aW):Option (Bool):=
  ((if !decide (p0.K=3) then ((pK N p0).bind fun x1=>some x1) else some false).bind fun b1=>some b1)
def pR (N:Nat) (p0:bj):Option (Bool):=
  ((cl N p0.Op 1 3).bind fun x1=>((if x1 then ((iu N p0.L).bind fun x2=>some x2) else some false).bind fun b1=>((if b1 then ((iu N p0.R).bind fun x3=>some x3) else some false).bind fun b2=>some b2)))
def iL (N:Nat) (p0:bh) (s1:Bool):Option (Bool):=
  (if s1 then ((iu N p0.L).bind fun x2=>((if x2 then ((iu N p0.R).bind fun x3=>some x3) else some false).bind fun b2=>some b2)) else some false)
def qg (N:Nat) (p0:bh):Option (Bool):=
  (if seq p0.Op (⟨#[]⟩:ByteArray) then ((iu N p0.L).bind fun x1=>((if x1 then some (ql p0.R (⟨0,(⟨#[]⟩:ByteArray),(⟨0,0,(⟨#[]⟩:ByteArray)⟩:aE)⟩:aW)) else some false).bind fun b1=>some b1)) else (if seq p0.Op (⟨#[43]⟩:ByteArray) then iL N p0 (seq p0.Op (⟨#[43]⟩:ByteArray)) else iL N p0 (seq p0.Op (⟨#[45]⟩:ByteArray))))
def et (N:Nat) (p0:bH):Nat→Int→Option (Bool)
  | 0,_=>none
  | k+1,s1=>
    (if decide (s1 < (p0.Args.length:Int)) then ((idx p0.Args s1).bind fun x2=>((qg N x2).bind fun x3=>(if !x3 then some false else ((et N p0 k) (i64.wrap (s1+1)))))) else some true)
def kL (N:Nat) (p0:bH):Option (Bool):=
  ((fZ N p0.Name).bind fun x1=>((if !x1 then some true else some (decide (5 < (p0.Args.length:Int)))).bind fun b1=>(if b1 then some false else et N p0 N 0)))
def t6 (N:Nat) (p0:ByteArray):Option (Bool):=
  ((if seq p0 (⟨#[]⟩:ByteArray) then some true else ((fZ N p0).bind fun x1=>some x1)).bind fun b1=>some b1)
def jX (N:Nat) (p0:bH) (b1:Bool) (s1:Bool):Option (Bool):=
  (if s1 then ((if b1 then some (decide (p0.N=0)) else some false).bind fun b10=>((if b10 then some (seq p0.Undo (⟨#[]⟩:ByteArray)) else some false).bind fun b11=>some b11)) else some false)
def sh (N:Nat) (p0:bH):Option (Bool):=
  ((if seq p0.Name (⟨#[]⟩:ByteArray) then some (decide ((p0.Args.length:Int)=0)) else some false).bind fun b1=>(if decide (p0.Kind=1) then ((kL N p0).bind fun x1=>((if x1 then some (decide (p0.N=0)) else some false).bind fun b2=>((if b2 then some (seq p0.Undo (⟨#[]⟩:ByteArray)) else some false).bind fun b3=>some b3))) else (if decide (p0.Kind=2) then ((if b1 then ((cl N p0.N 0 7).bind fun x2=>some x2) else some false).bind fun b4=>((if b4 then some (seq p0.Undo (⟨#[]⟩:ByteArray)) else some false).bind fun b5=>some b5)) else (if decide (p0.Kind=3) then ((kL N p0).bind fun x3=>((if x3 then some (decide (p0.N=0)) else some false).bind fun b6=>((if b6 then ((t6 N p0.Undo).bind fun x4=>some x4) else some false).bind fun b7=>some b7))) else (if decide (p0.Kind=4) then ((kL N p0).bind fun x5=>((if x5 then ((cl N p0.N 0 100000).bind fun x6=>some x6) else some false).bind fun b8=>((if b8 then some (seq p0.Undo (⟨#[]⟩:ByteArray)) else some false).bind fun b9=>some b9))) else (if decide (p0.Kind=5) then jX N p0 b1 (decide (p0.Kind=5)) else jX N p0 b1 (decide (p0.Kind=6))))))))
def bi (N:Nat) (p0:(List ByteArray)) (p1:ByteArray):Nat→Int→Option (Int)
  | 0,_=>none
  | k+1,s1=>
    (if decide (s1 < (p0.length:Int)) then ((idx p0 s1).bind fun x1=>(if seq p1 x1 then some s1 else ((bi N p0 p1 k) (i64.wrap (s1+1))))) else some (-1))
def cC (N:Nat) (p0:(List ByteArray)) (p1:ByteArray):Option (Int):=
  bi N p0 p1 N 0
def bI (N:Nat) (p0:(List ByteArray)) (p1:ByteArray):Option (Bool):=
  ((cC N p0 p1).bind fun x1=>some (decide (0≤x1)))
def nZ (N:Nat) (p0:(List ByteArray)) (p1:ByteArray):Option ((List ByteArray)):=
  ((bI N p0 p1).bind fun x1=>(if x1 then some p0 else ((app p0 ([p1]:List ByteArray)).bind fun x2=>some x2)))
def eQ (N:Nat) (p1:(List aW)):Nat→(List ByteArray)→Int→Option ((List ByteArray))
  | 0,_,_=>none
  | k+1,s1,s2=>
    (if decide (s2 < (p1.length:Int)) then ((idx p1 s2).bind fun x1=>(if decide (x1.K=1) then ((nZ N s1 x1.S).bind fun x2=>((eQ N p1 k) x2 (i64.wrap (s2+1)))) else ((eQ N p1 k) s1 (i64.wrap (s2+1))))) else some s1)
def jt (N:Nat) (p0:(List ByteArray)) (p1:(List aW)):Option ((List ByteArray)):=
  eQ N p1 N p0 0
def eW (N:Nat) (p0:af):Nat→(List ByteArray)→Int→Option ((List ByteArray))
  | 0,_,_=>none
  | k+1,s1,s2=>
    (if decide (s2 < (p0.Pats.length:Int)) then ((idx p0.Pats s2).bind fun x1=>(if !x1.Not then ((jt N s1 x1.Args).bind fun x2=>((eW N p0 k) x2 (i64.wrap (s2+1)))) else ((eW N p0 k) s1 (i64.wrap (s2+1))))) else some s1)
def lE (N:Nat) (p0:af):Option ((List ByteArray)):=
  eW N p0 N ([]:List ByteArray) 0
def dJ (N:Nat) (s4:Int) (K2:(List ByteArray)→Int→Option ((List ByteArray))) (x3:bH):Nat→(List ByteArray)→Int→Option ((List ByteArray))
  | 0,_,_=>none
  | k+1,s5,s6=>
    (if decide (s6 < (x3.Args.length:Int)) then ((idx x3.Args s6).bind fun x4=>((jt N s5 ([x4.L,x4.R]:List aW)).bind fun x5=>((dJ N s4 K2 x3 k) x5 (i64.wrap (s6+1))))) else (K2 s5 (i64.wrap (s4+1))))
def cu (N:Nat) (p0:af):Nat→(List ByteArray)→Int→Option ((List ByteArray))
  | 0,_,_=>none
  | k+1,s3,s4=>
    (if decide (s4 < (p0.Acts.length:Int)) then ((idx p0.Acts s4).bind fun x3=>dJ N s4 (cu N p0 k) x3 N s3 0) else some s3)
def ff (N:Nat) (p0:af):Nat→(List ByteArray)→Int→Option ((List ByteArray))
  | 0,_,_=>none
  | k+1,s1,s2=>
    (if decide (s2 < (p0.Conds.length:Int)) then ((idx p0.Conds s2).bind fun x1=>((jt N s1 ([x1.L,x1.R]:List aW)).bind fun x2=>((ff N p0 k) x2 (i64.wrap (s2+1))))) else cu N p0 N s1 0)
def mE (N:Nat) (p0:af):Option ((List ByteArray)):=
  ff N p0 N ([]:List ByteArray) 0
def eH (N:Nat) (x10:(List ByteArray)) (x11:(List ByteArray)):Nat→Int→Option (Bool)
  | 0,_=>none
  | k+1,s3=>
    (if decide (s3 < (x11.length:Int)) then ((idx x11 s3).bind fun x12=>((bI N x10 x12).bind fun x13=>(if !x13 then some false else ((eH N x10 x11 k) (i64.wrap (s3+1)))))) else some true)
def es (N:Nat) (p0:af):Nat→Int→Option (Bool)
  | 0,_=>none
  | k+1,s2=>
    (if decide (s2 < (p0.Acts.length:Int)) then ((idx p0.Acts s2).bind fun x7=>((sh N x7).bind fun x8=>((if !x8 then some true else ((if decide (x7.Kind=2) then ((iq N p0).bind fun x9=>some (decide (x9≤x7.N))) else some false).bind fun b5=>some b5)).bind fun b4=>(if b4 then some false else ((es N p0 k) (i64.wrap (s2+1))))))) else ((lE N p0).bind fun x10=>((mE N p0).bind fun x11=>eH N x10 x11 N 0)))
def eG (N:Nat) (p0:af):Nat→Int→Option (Bool)
  | 0,_=>none
  | k+1,s1=>
    (if decide (s1 < (p0.Conds.length:Int)) then ((idx p0.Conds s1).bind fun x5=>((pR N x5).bind fun x6=>(if !x6 then some false else ((eG N p0 k) (i64.wrap (s1+1)))))) else es N p0 N 0)
def qK (N:Nat) (p0:af):Option (Bool):=
  ((fZ N p0.Name).bind fun x1=>((if !x1 then some true else ((cl N p0.Sal (-100) 100).bind fun x2=>some (!x2))).bind fun b1=>((if b1 then some true else ((qJ N p0).bind fun x3=>some (!x3))).bind fun b2=>(if b2 then some false else ((if decide (6 < (p0.Conds.length:Int)) then some true else ((cl N (p0.Acts.length:Int) 1 6).bind fun x4=>some (!x4))).bind fun b3=>(if b3 then some false else eG N p0 N 0))))))
def aT (N:Nat) (p0:(List af)) (p1:af→Option (Bool)):Nat→Int→Option (Int)
  | 0,_=>none
  | k+1,s1=>
    (if decide (s1 < (p0.length:Int)) then ((idx p0 s1).bind fun x1=>((p1 x1).bind fun x2=>(if x2 then some s1 else ((aT N p0 p1 k) (i64.wrap (s1+1)))))) else some (-1))
def cI (N:Nat) (p0:(List af)) (p1:af→Option (Bool)):Option (Int):=
  aT N p0 p1 N 0
def iN (N:Nat) (p0:af) (c0:ByteArray):Option (Bool):=
  some (seq p0.Name c0)
def qG (N:Nat) (p0:bl) (p1:ByteArray):Option (Int):=
  ((cI N p0.Rules (fun a0=>iN N a0 p1)).bind fun x1=>some x1)
def fB (N:Nat) (p0:bl):Nat→Int→Option (Bool)
  | 0,_=>none
  | k+1,s1=>
    (if decide (s1 < (p0.Rules.length:Int)) then ((idx p0.Rules s1).bind fun x3=>((qK N x3).bind fun x4=>((if !x4 then some true else ((qG N p0 x3.Name).bind fun x5=>some (!decide (x5=s1)))).bind fun b2=>(if b2 then some false else ((fB N p0 k) (i64.wrap (s1+1))))))) else some true)
def sc (N:Nat) (p0:bl):Option (Bool):=
  ((fZ N p0.Name).bind fun x1=>((if !x1 then some true else ((cl N (p0.Rules.length:Int) 1 12).bind fun x2=>some (!x2))).bind fun b1=>(if b1 then some false else fB N p0 N 0)))
def bf (N:Nat) (p0:(List aE)) (p1:(List aE)):Nat→Int→Option (Bool)
  | 0,_=>none
  | k+1,s1=>
    (if decide (s1 < (p0.length:Int)) then ((idx p0 s1).bind fun x1=>((idx p1 s1).bind fun x2=>(if !(bF x1 x2) then some false else ((bf N p0 p1 k) (i64.wrap (s1+1)))))) else some true)
def bD (N:Nat) (p0:(List aE)) (p1:(List aE)):Option (Bool):=
  (if !decide ((p0.length:Int)=(p1.length:Int)) then some false else bf N p0 p1 N 0)
def cz (N:Nat) (p0:(List Int)) (p1:(List Int)):Nat→Int→Option (Bool)
  | 0,_=>none
  | k+1,s1=>
    (if decide (s1 < (p0.length:Int)) then ((idx p0 s1).bind fun x1=>((idx p1 s1).bind fun x2=>(if !decide (x1=x2) then some false else ((cz N p0 p1 k) (i64.wrap (s1+1)))))) else some true)
def cE (N:Nat) (p0:(List Int)) (p1:(List Int)):Option (Bool):=
  (if !decide ((p0.length:Int)=(p1.length:Int)) then some false else cz N p0 p1 N 0)
def de (N:Nat) (p0:a8) (p1:a8):Option (Bool):=
  ((if seq p0.Kind p1.Kind then some (decide (p0.N=p1.N)) else some false).bind fun b1=>((if b1 then ((bD N p0.Consts p1.Consts).bind fun x1=>some x1) else some false).bind fun b2=>((if b2 then ((cE N p0.At p1.At).bind fun x2=>some x2) else some false).bind fun b3=>some b3)))
def eX (N:Nat) (p0:ax):Nat→(List aE)→(List Int)→Int→Option (a8)
  | 0,_,_,_=>none
  | k+1,s1,s2,s3=>
    (if decide (s3 < (p0.Args.length:Int)) then ((idx p0.Args s3).bind fun x1=>(if decide (x1.K=2) then ((app s1 ([x1.V]:List aE)).bind fun x2=>((app s2 ([s3]:List Int)).bind fun x3=>((eX N p0 k) x2 x3 (i64.wrap (s3+1))))) else ((eX N p0 k) s1 s2 (i64.wrap (s3+1))))) else some (⟨p0.Kind,(p0.Args.length:Int),s1,s2⟩:a8))
def nU (N:Nat) (p0:ax):Option (a8):=
  eX N p0 N ([]:List aE) ([]:List Int) 0
def cn (N:Nat) (p0:bd) (x1:a8):Nat→Int→Option (Int × bd)
  | 0,_=>none
  | k+1,s1=>
    (if decide (s1 < (p0.Alphas.length:Int)) then ((idx p0.Alphas s1).bind fun x2=>((de N x2 x1).bind fun x3=>(if x3 then some (s1,p0) else ((cn N p0 x1 k) (i64.wrap (s1+1)))))) else ((app p0.Alphas ([x1]:List a8)).bind fun x4=>some (i64.wrap ((x4.length:Int) - 1),(⟨x4,p0.Chains⟩:bd))))
def iF (N:Nat) (p0:bd) (p1:ax):Option (Int × bd):=
  ((nU N p1).bind fun x1=>cn N p0 x1 N 0)
def fG (N:Nat) (s2:(List ac)) (s3:Int) (K1:(List a8)→(List ac)→Int→Option (bd)) (x1:af):Nat→(List a8)→(List Int)→(List Int)→Int→Option (bd)
  | 0,_,_,_,_=>none
  | k+1,s4,s5,s6,s7=>
    (if decide (s7 < (x1.Pats.length:Int)) then ((idx x1.Pats s7).bind fun x2=>((iF N (⟨s4,s2⟩:bd) x2).bind fun x3=>(if x2.Not then ((app s5 ([x3.1]:List Int)).bind fun x4=>((fG N s2 s3 K1 x1 k) x3.2.Alphas x4 s6 (i64.wrap (s7+1)))) else ((app s6 ([x3.1]:List Int)).bind fun x5=>((fG N s2 s3 K1 x1 k) x3.2.Alphas s5 x5 (i64.wrap (s7+1))))))) else ((app s2 ([(⟨s6,s5⟩:ac)]:List ac)).bind fun x6=>(K1 s4 x6 (i64.wrap (s3+1)))))
def eo (N:Nat) (p0:bl):Nat→(List a8)→(List ac)→Int→Option (bd)
  | 0,_,_,_=>none
  | k+1,s1,s2,s3=>
    (if decide (s3 < (p0.Rules.length:Int)) then ((idx p0.Rules s3).bind fun x1=>fG N s2 s3 (eo N p0 k) x1 N s1 ([]:List Int) ([]:List Int) 0) else some (⟨s1,s2⟩:bd))
def sM (N:Nat) (p0:bl):Option (bd):=
  eo N p0 N ([]:List a8) ([]:List ac) 0
def az (N:Nat) (p0:(List a8)) (p1:(List a8)) (p2:a8→a8→Option (Bool)):Nat→Int→Option (Bool)
  | 0,_=>none
  | k+1,s1=>
    (if decide (s1 < (p0.length:Int)) then ((idx p0 s1).bind fun x1=>((idx p1 s1).bind fun x2=>((p2 x1 x2).bind fun x3=>(if !x3 then some false else ((az N p0 p1 p2 k) (i64.wrap (s1+1))))))) else some true)
def aS (N:Nat) (p0:(List a8)) (p1:(List a8)) (p2:a8→a8→Option (Bool)):Option (Bool):=
  (if !decide ((p0.length:Int)=(p1.length:Int)) then some false else az N p0 p1 p2 N 0)
def ay (N:Nat) (p0:(List ac)) (p1:(List ac)) (p2:ac→ac→Option (Bool)):Nat→Int→Option (Bool)
  | 0,_=>none
  | k+1,s1=>
    (if decide (s1 < (p0.length:Int)) then ((idx p0 s1).bind fun x1=>((idx p1 s1).bind fun x2=>((p2 x1 x2).bind fun x3=>(if !x3 then some false else ((ay N p0 p1 p2 k) (i64.wrap (s1+1))))))) else some true)
def aR (N:Nat) (p0:(List ac)) (p1:(List ac)) (p2:ac→ac→Option (Bool)):Option (Bool):=
  (if !decide ((p0.length:Int)=(p1.length:Int)) then some false else ay N p0 p1 p2 N 0)
def ey (N:Nat) (p0:ac) (p1:ac):Option (Bool):=
  ((cE N p0.Pos p1.Pos).bind fun x1=>((if x1 then ((cE N p0.Neg p1.Neg).bind fun x2=>some x2) else some false).bind fun b1=>some b1))
def sK (N:Nat) (p0:bd) (p1:bl):Option (Bool):=
  ((sc N p1).bind fun x1=>(if !x1 then some false else ((sM N p1).bind fun x2=>((aS N p0.Alphas x2.Alphas (de N)).bind fun x3=>((if x3 then ((aR N p0.Chains x2.Chains (ey N)).bind fun x4=>some x4) else some false).bind fun b1=>some b1)))))
def em (N:Nat) (p0:aA):Nat→Int→Option (Bool)
  | 0,_=>none
  | k+1,s1=>
    (if decide (s1 < (p0.Fields.length:Int)) then ((idx p0.Fields s1).bind fun x2=>((lh N x2).bind fun x3=>(if !x3 then some false else ((em N p0 k) (i64.wrap (s1+1)))))) else some true)
def qV (N:Nat) (p0:aA):Option (Bool):=
  ((fZ N p0.Kind).bind fun x1=>((if !x1 then some true else some (decide (5 < (p0.Fields.length:Int)))).bind fun b1=>(if b1 then some false else em N p0 N 0)))
def mm (N:Nat) (p0:aA) (p1:aA):Option (Bool):=
  ((if seq p0.Kind p1.Kind then ((bD N p0.Fields p1.Fields).bind fun x1=>some x1) else some false).bind fun b1=>some b1)
def dH (N:Nat) (s1:Int) (K1:Int→Option (Bool)) (x2:aY) (x6:(List aY)):Nat→Int→Option (Bool)
  | 0,_=>none
  | k+1,s2=>
    (if decide (s2 < (x6.length:Int)) then ((idx x6 s2).bind fun x7=>((mm N x2.F x7.F).bind fun x8=>(if x8 then some false else ((dH N s1 K1 x2 x6 k) (i64.wrap (s2+1)))))) else (K1 (i64.wrap (s1+1))))
def ct (N:Nat) (p0:ah):Nat→Int→Option (Bool)
  | 0,_=>none
  | k+1,s1=>
    (if decide (s1 < (p0.Items.length:Int)) then ((idx p0.Items s1).bind fun x2=>((qV N x2.F).bind fun x3=>((if !x3 then some true else ((cl N x2.Id 1 (i64.wrap (p0.Next - 1))).bind fun x4=>some (!x4))).bind fun b2=>((if b2 then some true else ((if decide (0 < s1) then ((idx p0.Items (i64.wrap (s1 - 1))).bind fun x5=>some (decide (x2.Id≤x5.Id))) else some false).bind fun b4=>some b4)).bind fun b3=>(if b3 then some false else ((ssl p0.Items 0 s1).bind fun x6=>dH N s1 (ct N p0 k) x2 x6 N 0)))))) else some true)
def oz (N:Nat) (p0:ah):Option (Bool):=
  ((if decide (40 < (p0.Items.length:Int)) then some true else ((cl N p0.Next 1 1000000).bind fun x1=>some (!x1))).bind fun b1=>(if b1 then some false else ct N p0 N 0))
def ep (N:Nat) (s2:Int) (K2:Int→Option (Bool)) (x3:ae) (s3:Int):Nat→Int→Option (Bool)
  | 0,_=>none
  | k+1,s4=>
    (if decide (s4 < (x3.Toks.length:Int)) then ((idx x3.Toks s4).bind fun x4=>((if !decide ((x4.Ids.length:Int)=i64.wrap (s2+1)) then some true else some (!decide ((x4.Hits.length:Int)=s3))).bind fun b2=>(if b2 then some false else ((ep N s2 K2 x3 s3 k) (i64.wrap (s4+1)))))) else (K2 (i64.wrap (s2+1))))
def gJ (N:Nat) (s2:Int) (K2:Int→Option (Bool)) (x3:ae) (s3:Int):Option (Bool):=
  ep N s2 K2 x3 s3 N 0
def bS (N:Nat) (s1:Int) (K1:Int→Option (Bool)) (x1:aC) (x2:ac):Nat→Int→Option (Bool)
  | 0,_=>none
  | k+1,s2=>
    (if decide (s2 < (x1.Levels.length:Int)) then ((idx x1.Levels s2).bind fun x3=>(if decide (s2=i64.wrap ((x2.Pos.length:Int) - 1)) then gJ N s2 (bS N s1 K1 x1 x2 k) x3 (x2.Neg.length:Int) else gJ N s2 (bS N s1 K1 x1 x2 k) x3 0)) else (K1 (i64.wrap (s1+1))))
def bE (N:Nat) (p0:bd) (p1:aG):Nat→Int→Option (Bool)
  | 0,_=>none
  | k+1,s1=>
    (if decide (s1 < (p1.Rules.length:Int)) then ((idx p1.Rules s1).bind fun x1=>((idx p0.Chains s1).bind fun x2=>(if !decide ((x1.Levels.length:Int)=(x2.Pos.length:Int)) then some false else bS N s1 (bE N p0 p1 k) x1 x2 N 0))) else some true)
def qF (N:Nat) (p0:bd) (p1:aG):Option (Bool):=
  ((if !decide ((p1.Alphas.length:Int)=(p0.Alphas.length:Int)) then some true else some (!decide ((p1.Rules.length:Int)=(p0.Chains.length:Int)))).bind fun b1=>(if b1 then some false else bE N p0 p1 N 0))
def f9 (N:Nat) (p0:(List aE)):Option ((List aE)):=
  ((app ([]:List aE) p0).bind fun x1=>some x1)
def mA (N:Nat) (p0:aA):Option (aA):=
  ((f9 N p0.Fields).bind fun x1=>some (⟨p0.Kind,x1⟩:aA))
def fM (N:Nat) (p0:ah) (p1:Int):Nat→Int→Option (aA × Bool)
  | 0,_=>none
  | k+1,s1=>
    (if decide (s1 < (p0.Items.length:Int)) then ((idx p0.Items s1).bind fun x1=>(if decide (x1.Id=p1) then ((mA N x1.F).bind fun x2=>some (x2,true)) else ((fM N p0 p1 k) (i64.wrap (s1+1))))) else some ((⟨(⟨#[]⟩:ByteArray),[]⟩:aA),false))
def kV (N:Nat) (p0:ah) (p1:Int):Option (aA × Bool):=
  fM N p0 p1 N 0
def qM (N:Nat) (p0:bl) (p1:bd) (p2:aG) (p3:ah) (p4:Int):Option (Bool):=
  ((sK N p1 p0).bind fun x1=>((if !x1 then some true else ((oz N p3).bind fun x2=>some (!x2))).bind fun b1=>((if b1 then some true else ((qF N p1 p2).bind fun x3=>some (!x3))).bind fun b2=>(if b2 then some false else ((kV N p3 p4).bind fun x4=>some x4.2)))))
def iH (N:Nat) (p0:Int) (c0:Int):Option (Bool):=
  some (decide (p0=c0))
def bo (N:Nat) (p0:(List Int)) (p1:Int→Option (Bool)):Nat→Int→Option (Int)
  | 0,_=>none
  | k+1,s1=>
    (if decide (s1 < (p0.length:Int)) then ((idx p0 s1).bind fun x1=>((p1 x1).bind fun x2=>(if x2 then some s1 else ((bo N p0 p1 k) (i64.wrap (s1+1)))))) else some (-1))
def fa (N:Nat) (p0:(List Int)) (p1:Int→Option (Bool)):Option (Int):=
  bo N p0 p1 N 0
def cN (N:Nat) (p0:(List Int)) (p1:Int→Option (Bool)):Option ((List Int)):=
  ((tW p0).bind fun _=>((fa N p0 p1).bind fun x1=>(if decide (x1=(-1)) then some p0 else ((idx p0 x1).bind fun _=>((zC p1 (p0.drop (x1.toNat+1))).bind fun t=>some (p0.take x1.toNat++t))))))
def bb (N:Nat) (p0:(List ak)) (p1:ak→Option (Bool)):Nat→Int→Option (Int)
  | 0,_=>none
  | k+1,s1=>
    (if decide (s1 < (p0.length:Int)) then ((idx p0 s1).bind fun x1=>((p1 x1).bind fun x2=>(if x2 then some s1 else ((bb N p0 p1 k) (i64.wrap (s1+1)))))) else some (-1))
def da (N:Nat) (p0:(List ak)) (p1:ak→Option (Bool)):Option (Int):=
  bb N p0 p1 N 0
def bY (N:Nat) (p0:(List ak)) (p1:ak→Option (Bool)):Option ((List ak)):=
  ((tW p0).bind fun _=>((da N p0 p1).bind fun x1=>(if decide (x1=(-1)) then some p0 else ((idx p0 x1).bind fun _=>((zC p1 (p0.drop (x1.toNat+1))).bind fun t=>some (p0.take x1.toNat++t))))))
def bK (N:Nat) (p0:(List Int)) (p1:Int):Nat→Int→Option (Int)
  | 0,_=>none
  | k+1,s1=>
    (if decide (s1 < (p0.length:Int)) then ((idx p0 s1).bind fun x1=>(if decide (p1=x1) then some s1 else ((bK N p0 p1 k) (i64.wrap (s1+1))))) else some (-1))
def gS (N:Nat) (p0:(List Int)) (p1:Int):Option (Int):=
  bK N p0 p1 N 0
def dy (N:Nat) (p0:(List Int)) (p1:Int):Option (Bool):=
  ((gS N p0 p1).bind fun x1=>some (decide (0≤x1)))
def gm (N:Nat) (p0:ak) (c0:Int):Option (Bool):=
  ((dy N p0.Ids c0).bind fun x1=>some x1)
def ib (N:Nat) (p0:af) (p1:Bool):Nat→(List ax)→Int→Option ((List ax))
  | 0,_,_=>none
  | k+1,s1,s2=>
    (if decide (s2 < (p0.Pats.length:Int)) then ((idx p0.Pats s2).bind fun x1=>(if (x1.Not == p1) then ((app s1 ([x1]:List ax)).bind fun x2=>((ib N p0 p1 k) x2 (i64.wrap (s2+1)))) else ((ib N p0 p1 k) s1 (i64.wrap (s2+1))))) else some s1)
def sC (N:Nat) (p0:af) (p1:Bool):Option ((List ax)):=
  ib N p0 p1 N ([]:List ax) 0
def oW (N:Nat) (p0:bl) (p1:bd) (p2:aG) (p3:ah) (p4:Int) (p5:Int):Option (jW):=
  ((idx p0.Rules p5).bind fun x1=>((idx p1.Chains p5).bind fun x2=>((sC N x1 false).bind fun x3=>((sC N x1 true).bind fun x4=>some (⟨x3,x4,x2,p2.Alphas,p3,p4⟩:jW)))))
def br (N:Nat) (p0:(List aI)):Option ((List aI)):=
  ((app ([]:List aI) p0).bind fun x1=>some x1)
def gH (N:Nat) (p0:(List aI)) (p1:ByteArray):Nat→Int→Option (aE × Bool)
  | 0,_=>none
  | k+1,s1=>
    (if decide (s1 < (p0.length:Int)) then ((idx p0 s1).bind fun x1=>(if seq x1.Name p1 then some (x1.V,true) else ((gH N p0 p1 k) (i64.wrap (s1+1))))) else some ((⟨0,0,(⟨#[]⟩:ByteArray)⟩:aE),false))
def rm (N:Nat) (p0:(List aI)) (p1:ByteArray):Option (aE × Bool):=
  gH N p0 p1 N 0
def cY (N:Nat) (p0:ax) (p1:aA) (p2:(List aI)):Nat→(List aI)→Int→Option ((List aI) × Bool)
  | 0,_,_=>none
  | k+1,s1,s2=>
    (if decide (s2 < (p0.Args.length:Int)) then ((idx p0.Args s2).bind fun x3=>((idx p1.Fields s2).bind fun x4=>(if decide (x3.K=2) then (if !(bF x3.V x4) then ((br N p2).bind fun x5=>some (x5,false)) else ((cY N p0 p1 p2 k) s1 (i64.wrap (s2+1)))) else (if decide (x3.K=1) then ((rm N s1 x3.S).bind fun x6=>((if x6.2 then some (!(bF x6.1 x4)) else some false).bind fun b2=>(if b2 then ((br N p2).bind fun x7=>some (x7,false)) else (if !x6.2 then ((app s1 ([(⟨x3.S,x4⟩:aI)]:List aI)).bind fun x8=>((cY N p0 p1 p2 k) x8 (i64.wrap (s2+1)))) else ((cY N p0 p1 p2 k) s1 (i64.wrap (s2+1))))))) else ((cY N p0 p1 p2 k) s1 (i64.wrap (s2+1))))))) else some (s1,true))
def jT (N:Nat) (p0:ax) (p1:aA) (p2:(List aI)):Option ((List aI) × Bool):=
  ((if !seq p1.Kind p0.Kind then some true else some (!decide ((p1.Fields.length:Int)=(p0.Args.length:Int)))).bind fun b1=>(if b1 then ((br N p2).bind fun x1=>some (x1,false)) else ((br N p2).bind fun x2=>cY N p0 p1 p2 N x2 0)))
def fX (N:Nat) (p0:(List ax)) (p1:ah) (p2:(List Int)):Nat→(List aI)→Int→Option ((List aI) × Bool)
  | 0,_,_=>none
  | k+1,s1,s2=>
    (if decide (s2 < (p2.length:Int)) then ((idx p2 s2).bind fun x1=>((kV N p1 x1).bind fun x2=>(if !x2.2 then some ([],false) else ((idx p0 s2).bind fun x3=>((jT N x3 x2.1 s1).bind fun x4=>(if !x4.2 then some ([],false) else ((fX N p0 p1 p2 k) x4.1 (i64.wrap (s2+1))))))))) else some (s1,true))
def ou (N:Nat) (p0:(List ax)) (p1:ah) (p2:(List Int)):Option ((List aI) × Bool):=
  fX N p0 p1 p2 N ([]:List aI) 0
def bP (N:Nat) (p0:jW) (p2:Int) (x1:aA × Bool) (s1:(List ak)) (s2:Int) (K1:(List ak)→Int→Option ((List ak))) (x2:ak) (x3:(List aI) × Bool):Nat→(List Int)→Int→Option ((List ak))
  | 0,_,_=>none
  | k+1,s3,s4=>
    (if decide (s4 < (p0.neg.length:Int)) then ((idx p0.neg s4).bind fun x4=>((jT N x4 x1.1 x3.1).bind fun x5=>(if x5.2 then ((idx s3 s4).bind fun x6=>((idx s3 s4).bind fun x7=>((bP N p0 p2 x1 s1 s2 K1 x2 x3 k) (s3.set s4.toNat (i64.wrap (x6+p2))) (i64.wrap (s4+1))))) else ((bP N p0 p2 x1 s1 s2 K1 x2 x3 k) s3 (i64.wrap (s4+1)))))) else (K1 (s1.set s2.toNat (⟨x2.Ids,s3⟩:ak)) (i64.wrap (s2+1))))
def bt (N:Nat) (p0:jW) (p1:(List ak)) (p2:Int) (x1:aA × Bool):Nat→(List ak)→Int→Option ((List ak))
  | 0,_,_=>none
  | k+1,s1,s2=>
    (if decide (s2 < (p1.length:Int)) then ((idx s1 s2).bind fun x2=>((ou N p0.pos p0.s x2.Ids).bind fun x3=>(if !x3.2 then ((bt N p0 p1 p2 x1 k) s1 (i64.wrap (s2+1))) else bP N p0 p2 x1 s1 s2 (bt N p0 p1 p2 x1 k) x2 x3 N x2.Hits 0))) else some s1)
def hJ (N:Nat) (p0:jW) (p1:(List ak)) (p2:Int):Option ((List ak)):=
  ((kV N p0.s p0.id).bind fun x1=>bt N p0 p1 p2 x1 N p1 0)
def dK (N:Nat) (p0:bl) (p1:bd) (p3:ah) (p4:Int) (s1:(List aP)) (s3:(List aC)) (s4:Int) (K2:(List aC)→Int→Option ((List aP) × (List aC))) (x3:aC):Nat→(List ae)→Int→Option ((List aP) × (List aC))
  | 0,_,_=>none
  | k+1,s5,s6=>
    (if decide (s6 < (x3.Levels.length:Int)) then ((idx s5 s6).bind fun x4=>((bY N x4.Toks (fun a0=>gm N a0 p4)).bind fun x5=>((dK N p0 p1 p3 p4 s1 s3 s4 K2 x3 k) (s5.set s6.toNat (⟨x5⟩:ae)) (i64.wrap (s6+1))))) else ((idx s5 (i64.wrap ((s5.length:Int) - 1))).bind fun x6=>((oW N p0 p1 (⟨s1,s3⟩:aG) p3 p4 s4).bind fun x7=>((hJ N x7 x6.Toks (-1)).bind fun x8=>(K2 (s3.set s4.toNat (⟨(s5.set (i64.wrap ((s5.length:Int) - 1)).toNat (⟨x8⟩:ae))⟩:aC)) (i64.wrap (s4+1)))))))
def cV (N:Nat) (p0:bl) (p1:bd) (p2:aG) (p3:ah) (p4:Int) (s1:(List aP)):Nat→(List aC)→Int→Option ((List aP) × (List aC))
  | 0,_,_=>none
  | k+1,s3,s4=>
    (if decide (s4 < (p2.Rules.length:Int)) then ((idx s3 s4).bind fun x3=>dK N p0 p1 p3 p4 s1 s3 s4 (cV N p0 p1 p2 p3 p4 s1 k) x3 N x3.Levels 0) else some (s1,s3))
def dM (N:Nat) (p0:bl) (p1:bd) (p2:aG) (p3:ah) (p4:Int):Nat→(List aP)→Int→Option ((List aP) × (List aC))
  | 0,_,_=>none
  | k+1,s1,s2=>
    (if decide (s2 < (p2.Alphas.length:Int)) then ((idx s1 s2).bind fun x1=>((cN N x1.L (fun a0=>iH N a0 p4)).bind fun x2=>((dM N p0 p1 p2 p3 p4 k) (s1.set s2.toNat (⟨x2⟩:aP)) (i64.wrap (s2+1))))) else cV N p0 p1 p2 p3 p4 s1 N p2.Rules 0)
def mg (N:Nat) (p0:bl) (p1:bd) (p2:aG) (p3:ah) (p4:Int):Option ((List aP) × (List aC)):=
  dM N p0 p1 p2 p3 p4 N p2.Alphas 0
def gt (N:Nat) (s1:(List aP)) (s2:(List aC)):Option (aG):=
  some (⟨s1,s2⟩:aG)
def jM (N:Nat) (p0:bl) (p1:bd) (p2:aG) (p3:ah) (p4:Int):Option (aG):=
  ((oB N p2).bind fun x1=>((qM N p0 p1 p2 p3 p4).bind fun x2=>(if x2 then ((mg N p0 p1 x1 p3 p4).bind fun x3=>gt N x3.1 x3.2) else gt N x1.Alphas x1.Rules)))
def iP (N:Nat) (p0:(List Int)) (p1:(List Int)):Nat→Int→Option (Bool)
  | 0,_=>none
  | k+1,s1=>
    (if decide (s1 < (p0.length:Int)) then ((idx p0 s1).bind fun x1=>((idx p1 s1).bind fun x2=>(if !decide (x1=x2) then some false else ((iP N p0 p1 k) (i64.wrap (s1+1)))))) else some true)
def gP (N:Nat) (p0:(List Int)) (p1:(List Int)):Option (Bool):=
  (if !decide ((p0.length:Int)=(p1.length:Int)) then some false else iP N p0 p1 N 0)
def pA (N:Nat) (p0:aP) (p1:aP):Option (Bool):=
  ((gP N p0.L p1.L).bind fun x1=>(if !x1 then some false else some true))
def iK (N:Nat) (p0:(List aP)) (p1:(List aP)):Nat→Int→Option (Bool)
  | 0,_=>none
  | k+1,s1=>
    (if decide (s1 < (p0.length:Int)) then ((idx p0 s1).bind fun x1=>((idx p1 s1).bind fun x2=>((pA N x1 x2).bind fun x3=>(if !x3 then some false else ((iK N p0 p1 k) (i64.wrap (s1+1))))))) else some true)
def pM (N:Nat) (p0:(List aP)) (p1:(List aP)):Option (Bool):=
  (if !decide ((p0.length:Int)=(p1.length:Int)) then some false else iK N p0 p1 N 0)
def pw (N:Nat) (p0:ak) (p1:ak):Option (Bool):=
  ((gP N p0.Ids p1.Ids).bind fun x1=>(if !x1 then some false else ((gP N p0.Hits p1.Hits).bind fun x2=>(if !x2 then some false else some true))))
def iM (N:Nat) (p0:(List ak)) (p1:(List ak)):Nat→Int→Option (Bool)
  | 0,_=>none
  | k+1,s1=>
    (if decide (s1 < (p0.length:Int)) then ((idx p0 s1).bind fun x1=>((idx p1 s1).bind fun x2=>((pw N x1 x2).bind fun x3=>(if !x3 then some false else ((iM N p0 p1 k) (i64.wrap (s1+1))))))) else some true)
def qH (N:Nat) (p0:(List ak)) (p1:(List ak)):Option (Bool):=
  (if !decide ((p0.length:Int)=(p1.length:Int)) then some false else iM N p0 p1 N 0)
def lB (N:Nat) (p0:ae) (p1:ae):Option (Bool):=
  ((qH N p0.Toks p1.Toks).bind fun x1=>(if !x1 then some false else some true))
def gl (N:Nat) (p0:(List ae)) (p1:(List ae)):Nat→Int→Option (Bool)
  | 0,_=>none
  | k+1,s1=>
    (if decide (s1 < (p0.length:Int)) then ((idx p0 s1).bind fun x1=>((idx p1 s1).bind fun x2=>((lB N x1 x2).bind fun x3=>(if !x3 then some false else ((gl N p0 p1 k) (i64.wrap (s1+1))))))) else some true)
def mI (N:Nat) (p0:(List ae)) (p1:(List ae)):Option (Bool):=
  (if !decide ((p0.length:Int)=(p1.length:Int)) then some false else gl N p0 p1 N 0)
def pI (N:Nat) (p0:aC) (p1:aC):Option (Bool):=
  ((mI N p0.Levels p1.Levels).bind fun x1=>(if !x1 then some false else some true))
def j6 (N:Nat) (p0:(List aC)) (p1:(List aC)):Nat→Int→Option (Bool)
  | 0,_=>none
  | k+1,s1=>
    (if decide (s1 < (p0.length:Int)) then ((idx p0 s1).bind fun x1=>((idx p1 s1).bind fun x2=>((pI N x1 x2).bind fun x3=>(if !x3 then some false else ((j6 N p0 p1 k) (i64.wrap (s1+1))))))) else some true)
def qX (N:Nat) (p0:(List aC)) (p1:(List aC)):Option (Bool):=
  (if !decide ((p0.length:Int)=(p1.length:Int)) then some false else j6 N p0 p1 N 0)
def kZ (N:Nat) (p0:aG) (p1:aG):Option (Bool):=
  ((pM N p0.Alphas p1.Alphas).bind fun x1=>(if !x1 then some false else ((qX N p0.Rules p1.Rules).bind fun x2=>(if !x2 then some false else some true))))
def mX (N:Nat) (p0:aE) (p1:aE):Option (Bool):=
  (if !decide (p0.K=p1.K) then some false else (if !decide (p0.N=p1.N) then some false else (if !seq p0.S p1.S then some false else some true)))
def iQ (N:Nat) (p0:aW) (p1:aW):Option (Bool):=
  (if !decide (p0.K=p1.K) then some false else (if !seq p0.S p1.S then some false else ((mX N p0.V p1.V).bind fun x1=>(if !x1 then some false else some true))))
def j5 (N:Nat) (p0:(List aW)) (p1:(List aW)):Nat→Int→Option (Bool)
  | 0,_=>none
  | k+1,s1=>
    (if decide (s1 < (p0.length:Int)) then ((idx p0 s1).bind fun x1=>((idx p1 s1).bind fun x2=>((iQ N x1 x2).bind fun x3=>(if !x3 then some false else ((j5 N p0 p1 k) (i64.wrap (s1+1))))))) else some true)
def qQ (N:Nat) (p0:(List aW)) (p1:(List aW)):Option (Bool):=
  (if !decide ((p0.length:Int)=(p1.length:Int)) then some false else j5 N p0 p1 N 0)
def pG (N:Nat) (p0:ax) (p1:ax):Option (Bool):=
  (if !seq p0.Kind p1.Kind then some false else ((qQ N p0.Args p1.Args).bind fun x1=>(if !x1 then some false else (if (p0.Not != p1.Not) then some false else some true))))
def je (N:Nat) (p0:(List ax)) (p1:(List ax)):Nat→Int→Option (Bool)
  | 0,_=>none
  | k+1,s1=>
    (if decide (s1 < (p0.length:Int)) then ((idx p0 s1).bind fun x1=>((idx p1 s1).bind fun x2=>((pG N x1 x2).bind fun x3=>(if !x3 then some false else ((je N p0 p1 k) (i64.wrap (s1+1))))))) else some true)
def pO (N:Nat) (p0:(List ax)) (p1:(List ax)):Option (Bool):=
  (if !decide ((p0.length:Int)=(p1.length:Int)) then some false else je N p0 p1 N 0)
def nC (N:Nat) (p0:bj) (p1:bj):Option (Bool):=
  (if !decide (p0.Op=p1.Op) then some false else ((iQ N p0.L p1.L).bind fun x1=>(if !x1 then some false else ((iQ N p0.R p1.R).bind fun x2=>(if !x2 then some false else some true)))))
def hH (N:Nat) (p0:(List bj)) (p1:(List bj)):Nat→Int→Option (Bool)
  | 0,_=>none
  | k+1,s1=>
    (if decide (s1 < (p0.length:Int)) then ((idx p0 s1).bind fun x1=>((idx p1 s1).bind fun x2=>((nC N x1 x2).bind fun x3=>(if !x3 then some false else ((hH N p0 p1 k) (i64.wrap (s1+1))))))) else some true)
def ov (N:Nat) (p0:(List bj)) (p1:(List bj)):Option (Bool):=
  (if !decide ((p0.length:Int)=(p1.length:Int)) then some false else hH N p0 p1 N 0)
def mY (N:Nat) (p0:bh) (p1:bh):Option (Bool):=
  (if !seq p0.Op p1.Op then some false else ((iQ N p0.L p1.L).bind fun x1=>(if !x1 then some false else ((iQ N p0.R p1.R).bind fun x2=>(if !x2 then some false else some true)))))
def hY (N:Nat) (p0:(List bh)) (p1:(List bh)):Nat→Int→Option (Bool)
  | 0,_=>none
  | k+1,s1=>
    (if decide (s1 < (p0.length:Int)) then ((idx p0 s1).bind fun x1=>((idx p1 s1).bind fun x2=>((mY N x1 x2).bind fun x3=>(if !x3 then some false else ((hY N p0 p1 k) (i64.wrap (s1+1))))))) else some true)
def ot (N:Nat) (p0:(List bh)) (p1:(List bh)):Option (Bool):=
  (if !decide ((p0.length:Int)=(p1.length:Int)) then some false else hY N p0 p1 N 0)
def pu (N:Nat) (p0:bH) (p1:bH):Option (Bool):=
  (if !decide (p0.Kind=p1.Kind) then some false else (if !seq p0.Name p1.Name then some false else ((ot N p0.Args p1.Args).bind fun x1=>(if !x1 then some false else (if !decide (p0.N=p1.N) then some false else (if !seq p0.Undo p1.Undo then some false else some true))))))
def iZ (N:Nat) (p0:(List bH)) (p1:(List bH)):Nat→Int→Option (Bool)
  | 0,_=>none
  | k+1,s1=>
    (if decide (s1 < (p0.length:Int)) then ((idx p0 s1).bind fun x1=>((idx p1 s1).bind fun x2=>((pu N x1 x2).bind fun x3=>(if !x3 then some false else ((iZ N p0 p1 k) (i64.wrap (s1+1))))))) else some true)
def q8 (N:Nat) (p0:(List bH)) (p1:(List bH)):Option (Bool):=
  (if !decide ((p0.length:Int)=(p1.length:Int)) then some false else iZ N p0 p1 N 0)
def n8 (N:Nat) (p0:af) (p1:af):Option (Bool):=
  (if !seq p0.Name p1.Name then some false else (if !decide (p0.Sal=p1.Sal) then some false else ((pO N p0.Pats p1.Pats).bind fun x1=>(if !x1 then some false else ((ov N p0.Conds p1.Conds).bind fun x2=>(if !x2 then some false else ((q8 N p0.Acts p1.Acts).bind fun x3=>(if !x3 then some false else some true))))))))
def hP (N:Nat) (p0:(List af)) (p1:(List af)):Nat→Int→Option (Bool)
  | 0,_=>none
  | k+1,s1=>
    (if decide (s1 < (p0.length:Int)) then ((idx p0 s1).bind fun x1=>((idx p1 s1).bind fun x2=>((n8 N x1 x2).bind fun x3=>(if !x3 then some false else ((hP N p0 p1 k) (i64.wrap (s1+1))))))) else some true)
def oa (N:Nat) (p0:(List af)) (p1:(List af)):Option (Bool):=
  (if !decide ((p0.length:Int)=(p1.length:Int)) then some false else hP N p0 p1 N 0)
def sE (N:Nat) (p0:bl) (p1:bl):Option (Bool):=
  (if !seq p0.Name p1.Name then some false else ((oa N p0.Rules p1.Rules).bind fun x1=>(if !x1 then some false else some true)))
def jj (N:Nat) (p0:(List aE)) (p1:(List aE)):Nat→Int→Option (Bool)
  | 0,_=>none
  | k+1,s1=>
    (if decide (s1 < (p0.length:Int)) then ((idx p0 s1).bind fun x1=>((idx p1 s1).bind fun x2=>((mX N x1 x2).bind fun x3=>(if !x3 then some false else ((jj N p0 p1 k) (i64.wrap (s1+1))))))) else some true)
def nG (N:Nat) (p0:(List aE)) (p1:(List aE)):Option (Bool):=
  (if !decide ((p0.length:Int)=(p1.length:Int)) then some false else jj N p0 p1 N 0)
def lC (N:Nat) (p0:a8) (p1:a8):Option (Bool):=
  (if !seq p0.Kind p1.Kind then some false else (if !decide (p0.N=p1.N) then some false else ((nG N p0.Consts p1.Consts).bind fun x1=>(if !x1 then some false else ((gP N p0.At p1.At).bind fun x2=>(if !x2 then some false else some true))))))
def gw (N:Nat) (p0:(List a8)) (p1:(List a8)):Nat→Int→Option (Bool)
  | 0,_=>none
  | k+1,s1=>
    (if decide (s1 < (p0.length:Int)) then ((idx p0 s1).bind fun x1=>((idx p1 s1).bind fun x2=>((lC N x1 x2).bind fun x3=>(if !x3 then some false else ((gw N p0 p1 k) (i64.wrap (s1+1))))))) else some true)
def m6 (N:Nat) (p0:(List a8)) (p1:(List a8)):Option (Bool):=
  (if !decide ((p0.length:Int)=(p1.length:Int)) then some false else gw N p0 p1 N 0)
def lK (N:Nat) (p0:ac) (p1:ac):Option (Bool):=
  ((gP N p0.Pos p1.Pos).bind fun x1=>(if !x1 then some false else ((gP N p0.Neg p1.Neg).bind fun x2=>(if !x2 then some false else some true))))
def gr (N:Nat) (p0:(List ac)) (p1:(List ac)):Nat→Int→Option (Bool)
  | 0,_=>none
  | k+1,s1=>
    (if decide (s1 < (p0.length:Int)) then ((idx p0 s1).bind fun x1=>((idx p1 s1).bind fun x2=>((lK N x1 x2).bind fun x3=>(if !x3 then some false else ((gr N p0 p1 k) (i64.wrap (s1+1))))))) else some true)
def mt (N:Nat) (p0:(List ac)) (p1:(List ac)):Option (Bool):=
  (if !decide ((p0.length:Int)=(p1.length:Int)) then some false else gr N p0 p1 N 0)
def sk (N:Nat) (p0:bd) (p1:bd):Option (Bool):=
  ((m6 N p0.Alphas p1.Alphas).bind fun x1=>(if !x1 then some false else ((mt N p0.Chains p1.Chains).bind fun x2=>(if !x2 then some false else some true))))
def qi (N:Nat) (p0:aA) (p1:aA):Option (Bool):=
  (if !seq p0.Kind p1.Kind then some false else ((nG N p0.Fields p1.Fields).bind fun x1=>(if !x1 then some false else some true)))
def ny (N:Nat) (p0:aY) (p1:aY):Option (Bool):=
  (if !decide (p0.Id=p1.Id) then some false else ((qi N p0.F p1.F).bind fun x1=>(if !x1 then some false else some true)))
def gV (N:Nat) (p0:(List aY)) (p1:(List aY)):Nat→Int→Option (Bool)
  | 0,_=>none
  | k+1,s1=>
    (if decide (s1 < (p0.length:Int)) then ((idx p0 s1).bind fun x1=>((idx p1 s1).bind fun x2=>((ny N x1 x2).bind fun x3=>(if !x3 then some false else ((gV N p0 p1 k) (i64.wrap (s1+1))))))) else some true)
def oE (N:Nat) (p0:(List aY)) (p1:(List aY)):Option (Bool):=
  (if !decide ((p0.length:Int)=(p1.length:Int)) then some false else gV N p0 p1 N 0)
def o8 (N:Nat) (p0:ah) (p1:ah):Option (Bool):=
  ((oE N p0.Items p1.Items).bind fun x1=>(if !x1 then some false else (if !decide (p0.Next=p1.Next) then some false else some true)))
def fg (N:Nat):Nat→Int→ByteArray→Option (ByteArray)
  | 0,_,_=>none
  | k+1,s1,s2=>
    (if decide (0 < s1) then ((cat (HM ([(IntKind.u8.wrap (i64.wrap (48+(s1.tmod 10))))]:List Int)) s2).bind fun z1=>((fg N k) (i64.wrap (s1.tdiv 10)) z1)) else ((cat (⟨#[109]⟩:ByteArray) s2).bind fun z2=>some z2))
def aj (N:Nat) (p0:Int):Option (ByteArray):=
  (if decide (p0≤0) then some (⟨#[109,48]⟩:ByteArray) else fg N N p0 (⟨#[]⟩:ByteArray))
def fu (N:Nat):Nat→(List aW)→Int→Int→Option (Int × (List aW))
  | 0,_,_,_=>none
  | k+1,s1,s2,s3=>
    (if decide (s3 < (s1.length:Int)) then ((idx s1 s3).bind fun x1=>((aj N (i64.wrap (s2+1))).bind fun x2=>((aj N (i64.wrap ((i64.wrap ((i64.wrap ((i64.wrap (s2+1))+1))+1))+1))).bind fun x3=>((fu N k) (s1.set s3.toNat (⟨s2,x2,(⟨i64.wrap ((i64.wrap (s2+1))+1),i64.wrap ((i64.wrap ((i64.wrap (s2+1))+1))+1),x3⟩:aE)⟩:aW)) (i64.wrap ((i64.wrap ((i64.wrap ((i64.wrap ((i64.wrap (s2+1))+1))+1))+1))+1)) (i64.wrap (s3+1)))))) else some (s2,s1))
def pb (N:Nat) (p0:(List aW)) (p1:Int):Option (Int × (List aW)):=
  fu N N p0 p1 0
def fe (N:Nat):Nat→(List ax)→Int→Int→Option (Int × (List ax))
  | 0,_,_,_=>none
  | k+1,s1,s2,s3=>
    (if decide (s3 < (s1.length:Int)) then ((aj N s2).bind fun x1=>((idx s1 s3).bind fun x2=>((pb N x2.Args (i64.wrap (s2+1))).bind fun x3=>((fe N k) (s1.set s3.toNat (⟨x1,x3.2,decide ((x3.1.tmod 3)=0)⟩:ax)) (i64.wrap (x3.1+1)) (i64.wrap (s3+1)))))) else some (s2,s1))
def oX (N:Nat) (p0:(List ax)) (p1:Int):Option (Int × (List ax)):=
  fe N N p0 p1 0
def ei (N:Nat):Nat→(List bj)→Int→Int→Option (Int × (List bj))
  | 0,_,_,_=>none
  | k+1,s1,s2,s3=>
    (if decide (s3 < (s1.length:Int)) then ((idx s1 s3).bind fun x1=>((aj N (i64.wrap ((i64.wrap (s2+1))+1))).bind fun x2=>((aj N (i64.wrap ((i64.wrap ((i64.wrap ((i64.wrap ((i64.wrap (s2+1))+1))+1))+1))+1))).bind fun x3=>((aj N (i64.wrap ((i64.wrap ((i64.wrap ((i64.wrap ((i64.wrap ((i64.wrap ((i64.wrap (s2+1))+1))+1))+1))+1))+1))+1))).bind fun x4=>((aj N (i64.wrap ((i64.wrap ((i64.wrap ((i64.wrap ((i64.wrap ((i64.wrap ((i64.wrap ((i64.wrap ((i64.wrap ((i64.wrap (s2+1))+1))+1))+1))+1))+1))+1))+1))+1))+1))).bind fun x5=>((ei N k) (s1.set s3.toNat (⟨s2,(⟨i64.wrap (s2+1),x2,(⟨i64.wrap ((i64.wrap ((i64.wrap (s2+1))+1))+1),i64.wrap ((i64.wrap ((i64.wrap ((i64.wrap (s2+1))+1))+1))+1),x3⟩:aE)⟩:aW),(⟨i64.wrap ((i64.wrap ((i64.wrap ((i64.wrap ((i64.wrap ((i64.wrap (s2+1))+1))+1))+1))+1))+1),x4,(⟨i64.wrap ((i64.wrap ((i64.wrap ((i64.wrap ((i64.wrap ((i64.wrap ((i64.wrap ((i64.wrap (s2+1))+1))+1))+1))+1))+1))+1))+1),i64.wrap ((i64.wrap ((i64.wrap ((i64.wrap ((i64.wrap ((i64.wrap ((i64.wrap ((i64.wrap ((i64.wrap (s2+1))+1))+1))+1))+1))+1))+1))+1))+1),x5⟩:aE)⟩:aW)⟩:bj)) (i64.wrap ((i64.wrap ((i64.wrap ((i64.wrap ((i64.wrap ((i64.wrap ((i64.wrap ((i64.wrap ((i64.wrap ((i64.wrap ((i64.wrap (s2+1))+1))+1))+1))+1))+1))+1))+1))+1))+1))+1)) (i64.wrap (s3+1)))))))) else some (s2,s1))
def nS (N:Nat) (p0:(List bj)) (p1:Int):Option (Int × (List bj)):=
  ei N N p0 p1 0
def ej (N:Nat):Nat→(List bh)→Int→Int→Option (Int × (List bh))
  | 0,_,_,_=>none
  | k+1,s1,s2,s3=>
    (if decide (s3 < (s1.length:Int)) then ((aj N s2).bind fun x1=>((idx s1 s3).bind fun x2=>((aj N (i64.wrap ((i64.wrap (s2+1))+1))).bind fun x3=>((aj N (i64.wrap ((i64.wrap ((i64.wrap ((i64.wrap ((i64.wrap (s2+1))+1))+1))+1))+1))).bind fun x4=>((aj N (i64.wrap ((i64.wrap ((i64.wrap ((i64.wrap ((i64.wrap ((i64.wrap ((i64.wrap (s2+1))+1))+1))+1))+1))+1))+1))).bind fun x5=>((aj N (i64.wrap ((i64.wrap ((i64.wrap ((i64.wrap ((i64.wrap ((i64.wrap ((i64.wrap ((i64.wrap ((i64.wrap ((i64.wrap (s2+1))+1))+1))+1))+1))+1))+1))+1))+1))+1))).bind fun x6=>((ej N k) (s1.set s3.toNat (⟨x1,(⟨i64.wrap (s2+1),x3,(⟨i64.wrap ((i64.wrap ((i64.wrap (s2+1))+1))+1),i64.wrap ((i64.wrap ((i64.wrap ((i64.wrap (s2+1))+1))+1))+1),x4⟩:aE)⟩:aW),(⟨i64.wrap ((i64.wrap ((i64.wrap ((i64.wrap ((i64.wrap ((i64.wrap (s2+1))+1))+1))+1))+1))+1),x5,(⟨i64.wrap ((i64.wrap ((i64.wrap ((i64.wrap ((i64.wrap ((i64.wrap ((i64.wrap ((i64.wrap (s2+1))+1))+1))+1))+1))+1))+1))+1),i64.wrap ((i64.wrap ((i64.wrap ((i64.wrap ((i64.wrap ((i64.wrap ((i64.wrap ((i64.wrap ((i64.wrap (s2+1))+1))+1))+1))+1))+1))+1))+1))+1),x6⟩:aE)⟩:aW)⟩:bh)) (i64.wrap ((i64.wrap ((i64.wrap ((i64.wrap ((i64.wrap ((i64.wrap ((i64.wrap ((i64.wrap ((i64.wrap ((i64.wrap ((i64.wrap (s2+1))+1))+1))+1))+1))+1))+1))+1))+1))+1))+1)) (i64.wrap (s3+1))))))))) else some (s2,s1))
def nJ (N:Nat) (p0:(List bh)) (p1:Int):Option (Int × (List bh)):=
  ej N N p0 p1 0
def fb (N:Nat):Nat→(List bH)→Int→Int→Option (Int × (List bH))
  | 0,_,_,_=>none
  | k+1,s1,s2,s3=>
    (if decide (s3 < (s1.length:Int)) then ((idx s1 s3).bind fun x1=>((aj N (i64.wrap (s2+1))).bind fun x2=>((nJ N x1.Args (i64.wrap ((i64.wrap (s2+1))+1))).bind fun x3=>((aj N (i64.wrap (x3.1+1))).bind fun x4=>((fb N k) (s1.set s3.toNat (⟨s2,x2,x3.2,x3.1,x4⟩:bH)) (i64.wrap ((i64.wrap (x3.1+1))+1)) (i64.wrap (s3+1))))))) else some (s2,s1))
def oZ (N:Nat) (p0:(List bH)) (p1:Int):Option (Int × (List bH)):=
  fb N N p0 p1 0
def eh (N:Nat):Nat→(List af)→Int→Int→Option (Int × (List af))
  | 0,_,_,_=>none
  | k+1,s1,s2,s3=>
    (if decide (s3 < (s1.length:Int)) then ((aj N s2).bind fun x1=>((idx s1 s3).bind fun x2=>((oX N x2.Pats (i64.wrap ((i64.wrap (s2+1))+1))).bind fun x3=>((nS N x2.Conds x3.1).bind fun x4=>((oZ N x2.Acts x4.1).bind fun x5=>((eh N k) (s1.set s3.toNat (⟨x1,i64.wrap (s2+1),x3.2,x4.2,x5.2⟩:af)) x5.1 (i64.wrap (s3+1)))))))) else some (s2,s1))
def nL (N:Nat) (p0:(List af)) (p1:Int):Option (Int × (List af)):=
  eh N N p0 p1 0
def oh (N:Nat) (p0:bl) (p1:Int):Option (Int × (List af)):=
  ((nL N p0.Rules p1).bind fun x1=>some (x1.1,x1.2))
def fo (N:Nat):Nat→(List aE)→Int→Int→Option (Int × (List aE))
  | 0,_,_,_=>none
  | k+1,s1,s2,s3=>
    (if decide (s3 < (s1.length:Int)) then ((idx s1 s3).bind fun x1=>((aj N (i64.wrap ((i64.wrap (s2+1))+1))).bind fun x2=>((fo N k) (s1.set s3.toNat (⟨s2,i64.wrap (s2+1),x2⟩:aE)) (i64.wrap ((i64.wrap ((i64.wrap (s2+1))+1))+1)) (i64.wrap (s3+1))))) else some (s2,s1))
def mM (N:Nat) (p0:(List aE)) (p1:Int):Option (Int × (List aE)):=
  fo N N p0 p1 0
def fq (N:Nat):Nat→(List Int)→Int→Int→Option (Int × (List Int))
  | 0,_,_,_=>none
  | k+1,s1,s2,s3=>
    (if decide (s3 < (s1.length:Int)) then ((idx s1 s3).bind fun x1=>((fq N k) (s1.set s3.toNat s2) (i64.wrap (s2+1)) (i64.wrap (s3+1)))) else some (s2,s1))
def fD (N:Nat) (p0:(List Int)) (p1:Int):Option (Int × (List Int)):=
  fq N N p0 p1 0
def dA (N:Nat):Nat→(List a8)→Int→Int→Option (Int × (List a8))
  | 0,_,_,_=>none
  | k+1,s1,s2,s3=>
    (if decide (s3 < (s1.length:Int)) then ((aj N s2).bind fun x1=>((idx s1 s3).bind fun x2=>((mM N x2.Consts (i64.wrap ((i64.wrap (s2+1))+1))).bind fun x3=>((fD N x2.At x3.1).bind fun x4=>((dA N k) (s1.set s3.toNat (⟨x1,i64.wrap (s2+1),x3.2,x4.2⟩:a8)) x4.1 (i64.wrap (s3+1))))))) else some (s2,s1))
def lU (N:Nat) (p0:(List a8)) (p1:Int):Option (Int × (List a8)):=
  dA N N p0 p1 0
def df (N:Nat):Nat→(List ac)→Int→Int→Option (Int × (List ac))
  | 0,_,_,_=>none
  | k+1,s1,s2,s3=>
    (if decide (s3 < (s1.length:Int)) then ((idx s1 s3).bind fun x1=>((fD N x1.Pos s2).bind fun x2=>((fD N x1.Neg x2.1).bind fun x3=>((df N k) (s1.set s3.toNat (⟨x2.2,x3.2⟩:ac)) x3.1 (i64.wrap (s3+1)))))) else some (s2,s1))
def mO (N:Nat) (p0:(List ac)) (p1:Int):Option (Int × (List ac)):=
  df N N p0 p1 0
def nW (N:Nat) (p0:bd) (p1:Int):Option (Int × (List a8) × (List ac)):=
  ((lU N p0.Alphas p1).bind fun x1=>((mO N p0.Chains x1.1).bind fun x2=>some (x2.1,x1.2,x2.2)))
def fk (N:Nat):Nat→(List aP)→Int→Int→Option (Int × (List aP))
  | 0,_,_,_=>none
  | k+1,s1,s2,s3=>
    (if decide (s3 < (s1.length:Int)) then ((idx s1 s3).bind fun x1=>((fD N x1.L s2).bind fun x2=>((fk N k) (s1.set s3.toNat (⟨x2.2⟩:aP)) x2.1 (i64.wrap (s3+1))))) else some (s2,s1))
def p8 (N:Nat) (p0:(List aP)) (p1:Int):Option (Int × (List aP)):=
  fk N N p0 p1 0
def fc (N:Nat):Nat→(List ak)→Int→Int→Option (Int × (List ak))
  | 0,_,_,_=>none
  | k+1,s1,s2,s3=>
    (if decide (s3 < (s1.length:Int)) then ((idx s1 s3).bind fun x1=>((fD N x1.Ids s2).bind fun x2=>((fD N x1.Hits x2.1).bind fun x3=>((fc N k) (s1.set s3.toNat (⟨x2.2,x3.2⟩:ak)) x3.1 (i64.wrap (s3+1)))))) else some (s2,s1))
def pi (N:Nat) (p0:(List ak)) (p1:Int):Option (Int × (List ak)):=
  fc N N p0 p1 0
def dm (N:Nat):Nat→(List ae)→Int→Int→Option (Int × (List ae))
  | 0,_,_,_=>none
  | k+1,s1,s2,s3=>
    (if decide (s3 < (s1.length:Int)) then ((idx s1 s3).bind fun x1=>((pi N x1.Toks s2).bind fun x2=>((dm N k) (s1.set s3.toNat (⟨x2.2⟩:ae)) x2.1 (i64.wrap (s3+1))))) else some (s2,s1))
def lM (N:Nat) (p0:(List ae)) (p1:Int):Option (Int × (List ae)):=
  dm N N p0 p1 0
def fm (N:Nat):Nat→(List aC)→Int→Int→Option (Int × (List aC))
  | 0,_,_,_=>none
  | k+1,s1,s2,s3=>
    (if decide (s3 < (s1.length:Int)) then ((idx s1 s3).bind fun x1=>((lM N x1.Levels s2).bind fun x2=>((fm N k) (s1.set s3.toNat (⟨x2.2⟩:aC)) x2.1 (i64.wrap (s3+1))))) else some (s2,s1))
def oY (N:Nat) (p0:(List aC)) (p1:Int):Option (Int × (List aC)):=
  fm N N p0 p1 0
def l5 (N:Nat) (p0:aG) (p1:Int):Option (Int × (List aP) × (List aC)):=
  ((p8 N p0.Alphas p1).bind fun x1=>((oY N p0.Rules x1.1).bind fun x2=>some (x2.1,x1.2,x2.2)))
def ee (N:Nat):Nat→(List aY)→Int→Int→Option (Int × (List aY))
  | 0,_,_,_=>none
  | k+1,s1,s2,s3=>
    (if decide (s3 < (s1.length:Int)) then ((idx s1 s3).bind fun x1=>((aj N (i64.wrap (s2+1))).bind fun x2=>((mM N x1.F.Fields (i64.wrap ((i64.wrap (s2+1))+1))).bind fun x3=>((ee N k) (s1.set s3.toNat (⟨s2,(⟨x2,x3.2⟩:aA)⟩:aY)) x3.1 (i64.wrap (s3+1)))))) else some (s2,s1))
def nK (N:Nat) (p0:(List aY)) (p1:Int):Option (Int × (List aY)):=
  ee N N p0 p1 0
def km (N:Nat) (p0:ah) (p1:Int):Option (Int × (List aY)):=
  ((nK N p0.Items p1).bind fun x1=>some (x1.1,x1.2))
def dQ (N:Nat) (p0:(List Int)):Nat→Int→Int→Option (Int)
  | 0,_,_=>none
  | k+1,s1,s2=>
    (if decide (s2 < (p0.length:Int)) then ((idx p0 s2).bind fun x1=>(if !decide (x1=s1) then some (-1) else ((dQ N p0 k) (i64.wrap (s1+1)) (i64.wrap (s2+1))))) else some s1)
def io (N:Nat) (p0:(List Int)) (p1:Int):Option (Int):=
  dQ N p0 N p1 0
def dR (N:Nat) (p0:(List aP)):Nat→Int→Int→Option (Int)
  | 0,_,_=>none
  | k+1,s1,s2=>
    (if decide (s2 < (p0.length:Int)) then ((idx p0 s2).bind fun x1=>((io N x1.L s1).bind fun x2=>(if decide (x2 < 0) then some (-1) else ((dR N p0 k) x2 (i64.wrap (s2+1)))))) else some s1)
def mK (N:Nat) (p0:(List aP)) (p1:Int):Option (Int):=
  dR N p0 N p1 0
def dL (N:Nat) (p0:(List ak)):Nat→Int→Int→Option (Int)
  | 0,_,_=>none
  | k+1,s1,s2=>
    (if decide (s2 < (p0.length:Int)) then ((idx p0 s2).bind fun x1=>((io N x1.Ids s1).bind fun x2=>(if decide (x2 < 0) then some (-1) else ((idx p0 s2).bind fun x3=>((io N x3.Hits x2).bind fun x4=>(if decide (x4 < 0) then some (-1) else ((dL N p0 k) x4 (i64.wrap (s2+1))))))))) else some s1)
def mj (N:Nat) (p0:(List ak)) (p1:Int):Option (Int):=
  dL N p0 N p1 0
def cH (N:Nat) (p0:(List ae)):Nat→Int→Int→Option (Int)
  | 0,_,_=>none
  | k+1,s1,s2=>
    (if decide (s2 < (p0.length:Int)) then ((idx p0 s2).bind fun x1=>((mj N x1.Toks s1).bind fun x2=>(if decide (x2 < 0) then some (-1) else ((cH N p0 k) x2 (i64.wrap (s2+1)))))) else some s1)
def jK (N:Nat) (p0:(List ae)) (p1:Int):Option (Int):=
  cH N p0 N p1 0
def dS (N:Nat) (p0:(List aC)):Nat→Int→Int→Option (Int)
  | 0,_,_=>none
  | k+1,s1,s2=>
    (if decide (s2 < (p0.length:Int)) then ((idx p0 s2).bind fun x1=>((jK N x1.Levels s1).bind fun x2=>(if decide (x2 < 0) then some (-1) else ((dS N p0 k) x2 (i64.wrap (s2+1)))))) else some s1)
def lT (N:Nat) (p0:(List aC)) (p1:Int):Option (Int):=
  dS N p0 N p1 0
def lz (N:Nat) (p0:aG) (p1:Int):Option (Int):=
  ((mK N p0.Alphas p1).bind fun x1=>(if decide (x1 < 0) then some (-1) else ((lT N p0.Rules x1).bind fun x2=>(if decide (x2 < 0) then some (-1) else some x2))))
def fF (N:Nat) (s1:(List aP)) (s2:(List aC)) (x29:Int × (List aP) × (List aC)) (s3:(List aP)) (s4:(List aC)):Option (Bool):=
  ((kZ N (⟨s3,s4⟩:aG) (⟨s1,s2⟩:aG)).bind fun x36=>(if !x36 then some false else ((lz N (⟨x29.2.1,x29.2.2⟩:aG) 1).bind fun x37=>(if decide (x37 < 0) then some false else (if !decide (x37=x29.1) then some false else some true)))))
def fE (N:Nat) (p0:bl) (p1:bd) (p2:aG) (p3:ah) (p4:Int) (s1:(List aP)) (s2:(List aC)):Option (Bool):=
  ((lJ N p0).bind fun x10=>((lv N p1).bind fun x11=>((lm N p2).bind fun x12=>((ig N p3).bind fun x13=>((jM N x10 x11 x12 x13 p4).bind fun x14=>((kZ N x14 (⟨s1,s2⟩:aG)).bind fun x15=>(if !x15 then some false else ((lJ N p0).bind fun x16=>((sE N x10 x16).bind fun x17=>(if !x17 then some false else ((lv N p1).bind fun x18=>((sk N x11 x18).bind fun x19=>(if !x19 then some false else ((lm N p2).bind fun x20=>((kZ N x12 x20).bind fun x21=>(if !x21 then some false else ((ig N p3).bind fun x22=>((o8 N x13 x22).bind fun x23=>(if !x23 then some false else ((oh N x10 1).bind fun x24=>((nW N x11 x24.1).bind fun x25=>((l5 N x12 x25.1).bind fun x26=>((km N x13 x26.1).bind fun x27=>((if decide (x27.1 < 0) then some true else ((kZ N x14 (⟨s1,s2⟩:aG)).bind fun x28=>some (!x28))).bind fun b1=>(if b1 then some false else ((l5 N x14 1).bind fun x29=>((lz N (⟨x29.2.1,x29.2.2⟩:aG) 1).bind fun x30=>(if decide (x30 < 0) then some false else (if !decide (x30=x29.1) then some false else ((lJ N p0).bind fun x38=>((lv N p1).bind fun x39=>((lm N p2).bind fun x40=>((ig N p3).bind fun x41=>((jM N x38 x39 x40 x41 p4).bind fun x42=>fF N s1 s2 x29 x42.Alphas x42.Rules))))))))))))))))))))))))))))))))))
def fy (N:Nat) (p0:bl) (p1:bd) (p2:aG) (p3:ah) (p4:Int):Option (Bool):=
  ((sD N p0 1048576).bind fun x1=>(if decide (x1 < 0) then some true else ((rT N p1 x1).bind fun x2=>(if decide (x2 < 0) then some true else ((sw N p2 x2).bind fun x3=>(if decide (x3 < 0) then some true else ((ow N p3 x3).bind fun x4=>(if decide (x4 < 0) then some true else ((lJ N p0).bind fun x58=>((lv N p1).bind fun x59=>((lm N p2).bind fun x60=>((ig N p3).bind fun x61=>((mB N x58 x59 x60 x61 p4).bind fun x62=>fE N p0 p1 p2 p3 p4 x62.Alphas x62.Rules)))))))))))))
end Go.Proofs.YtkdffjpgnhobhaaGreat
