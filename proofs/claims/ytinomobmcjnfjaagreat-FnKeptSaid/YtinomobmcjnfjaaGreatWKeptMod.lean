/- Printed by a program of ours: Lean functions of plain data for the Go functions. -/
import Derived.Test.YtinomobmcjnfjaaGreatEN
namespace Go.Proofs.YtinomobmcjnfjaaGreat
open Eng IntKind
set_option linter.unusedVariables false
set_option linter.unusedSimpArgs false

structure a8 where
  b:(List Int)
  i:Int
  h:Int
  deriving DecidableEq
def mi (Φ:Hp) (F:List Nat) (cs:List Value) (x:a8):Prop:=
  ∃ (s0:Value) (F0:List Nat),cs=[s0,.int .i64 x.i,.int .i64 x.h]∧F=F0∧RSl (RI .u8) 1 Φ F0 s0 x.b
theorem mi.lasts:bI mi:=fun X Φ Φ' F cs x hf hd ⟨s0,F0,hc,hF,h0⟩=>by
  rw [hF] at hd
  exact ⟨s0,F0,hc,hF,h0.frame RI.lasts hf (fun k hk=>hd k (by simp [hk]))⟩
instance:LS mi:=⟨mi.lasts⟩
theorem mi.knows:cC mi:=fun Φ F cs x ⟨s0,F0,hc,hF,h0⟩=>hF ▸ h0.kn
theorem mi.one:fB mi:=fun _ _ _ _ h=>by obtain ⟨s0,F0,rfl,-,h0⟩:=h; exact One.all ⟨h0.one,rfl,rfl,trivial⟩
def kW (Φ:Hp) (F:List Nat) (cs:List Value) (x:a8):Prop:=
  ∃ (s0:Value),cs=[s0,.int .i64 x.i,.int .i64 x.h]∧F=(ob s0++[])∧OSl (RI .u8) 5 1 Φ [] s0 x.b
theorem kW.lasts:bI kW:=fun X Φ Φ' F cs x hf hd ⟨s0,hc,hF,h0⟩=>by
  rw [hF] at hd
  exact ⟨s0,hc,hF,h0.frame RI.lasts hf (fun k hk=>hd k (by simp [hk])) (Dj.nil _)⟩
instance:LS kW:=⟨kW.lasts⟩
theorem kW.knows:cC kW:=fun Φ F cs x ⟨s0,hc,hF,h0⟩=>hF ▸ (h0.knO.app h0.kn)
theorem kW.one:fB kW:=fun _ _ _ _ h=>by obtain ⟨s0,rfl,-,h0⟩:=h; exact One.all ⟨h0.one,rfl,rfl,trivial⟩
theorem kW.gives:dE kW mi:=fun Φ F cs x ⟨s0,hc,hF,h0⟩=>⟨s0,ob s0++[],hc,hF,h0.rslG (dE.refl _)⟩
structure bn where
  K:Int
  N:Int
  S:ByteArray
  deriving DecidableEq
def aH (Φ:Hp) (F:List Nat) (cs:List Value) (x:bn):Prop:=cs=[.int .i64 x.K,.int .i64 x.N,.string x.S]∧F=[]
theorem aH.lasts:bI aH:=fun _ _ _ _ _ _ _ _ h=>h
instance:LS aH:=⟨aH.lasts⟩
theorem aH.knows:cC aH:=fun _ _ _ _ h=>h.2 ▸ Kw.nil
theorem aH.flat:sS aH:=fun _ _ _ _ h=>h.2
theorem aH.one:fB aH:=fun _ _ _ _ h=>by obtain ⟨rfl,-⟩:=h; exact One.all ⟨rfl,rfl,rfl,trivial⟩
structure aA where
  Kind:ByteArray
  Fields:(List bn)
  deriving DecidableEq
def pE (Φ:Hp) (F:List Nat) (cs:List Value) (x:aA):Prop:=
  ∃ (s0:Value) (F0:List Nat),cs=[.string x.Kind,s0]∧F=F0∧RSl aH 3 Φ F0 s0 x.Fields
theorem pE.lasts:bI pE:=fun X Φ Φ' F cs x hf hd ⟨s0,F0,hc,hF,h0⟩=>by
  rw [hF] at hd
  exact ⟨s0,F0,hc,hF,h0.frame aH.lasts hf (fun k hk=>hd k (by simp [hk]))⟩
instance:LS pE:=⟨pE.lasts⟩
theorem pE.knows:cC pE:=fun Φ F cs x ⟨s0,F0,hc,hF,h0⟩=>hF ▸ h0.kn
theorem pE.one:fB pE:=fun _ _ _ _ h=>by obtain ⟨s0,F0,rfl,-,h0⟩:=h; exact One.all ⟨rfl,h0.one,trivial⟩
def o8 (Φ:Hp) (F:List Nat) (cs:List Value) (x:aA):Prop:=
  ∃ (s0:Value),cs=[.string x.Kind,s0]∧F=(ob s0++[])∧OSl aH 91 3 Φ [] s0 x.Fields
theorem o8.lasts:bI o8:=fun X Φ Φ' F cs x hf hd ⟨s0,hc,hF,h0⟩=>by
  rw [hF] at hd
  exact ⟨s0,hc,hF,h0.frame aH.lasts hf (fun k hk=>hd k (by simp [hk])) (Dj.nil _)⟩
instance:LS o8:=⟨o8.lasts⟩
theorem o8.knows:cC o8:=fun Φ F cs x ⟨s0,hc,hF,h0⟩=>hF ▸ (h0.knO.app h0.kn)
theorem o8.one:fB o8:=fun _ _ _ _ h=>by obtain ⟨s0,rfl,-,h0⟩:=h; exact One.all ⟨rfl,h0.one,trivial⟩
theorem o8.gives:dE o8 pE:=fun Φ F cs x ⟨s0,hc,hF,h0⟩=>⟨s0,ob s0++[],hc,hF,h0.rslG (dE.refl _)⟩
def bo (x y:bn):Bool:=((x.K == y.K) && ((x.N == y.N) && (seq x.S y.S && true)))
theorem zQ (a b:ByteArray):seq a b=decide (a=b):=by
  unfold seq
  by_cases h:a=b
  · subst h; simp
  · have : ¬ a.toList=b.toList:=fun e=>h (by rw [ByteArray.toList_eq,ByteArray.toList_eq] at e; exact ByteArray.ext (Array.toList_inj.1 e))
    simp [h,this]
theorem gF (x y:bn):bo x y=decide (x=y):=by
  obtain ⟨a0,a1,a2⟩:=x; obtain ⟨b0,b1,b2⟩:=y
  rw [Bool.eq_iff_iff]
  simp only [bo,zQ,Bool.and_true,Bool.and_eq_true,beq_iff_eq,decide_eq_true_eq,bn.mk.injEq,and_assoc]
structure aP where
  Id:Int
  F:aA
  deriving DecidableEq
def bh (Φ:Hp) (F:List Nat) (cs:List Value) (x:aP):Prop:=
  ∃ (s0:Value) (F0:List Nat),cs=[.int .i64 x.Id,.string x.F.Kind,s0]∧F=F0∧RSl aH 3 Φ F0 s0 x.F.Fields
theorem bh.lasts:bI bh:=fun X Φ Φ' F cs x hf hd ⟨s0,F0,hc,hF,h0⟩=>by
  rw [hF] at hd
  exact ⟨s0,F0,hc,hF,h0.frame aH.lasts hf (fun k hk=>hd k (by simp [hk]))⟩
instance:LS bh:=⟨bh.lasts⟩
theorem bh.knows:cC bh:=fun Φ F cs x ⟨s0,F0,hc,hF,h0⟩=>hF ▸ h0.kn
theorem bh.one:fB bh:=fun _ _ _ _ h=>by obtain ⟨s0,F0,rfl,-,h0⟩:=h; exact One.all ⟨rfl,rfl,h0.one,trivial⟩
def eQ (Φ:Hp) (F:List Nat) (cs:List Value) (x:aP):Prop:=
  ∃ (s0:Value),cs=[.int .i64 x.Id,.string x.F.Kind,s0]∧F=(ob s0++[])∧OSl aH 91 3 Φ [] s0 x.F.Fields
theorem eQ.lasts:bI eQ:=fun X Φ Φ' F cs x hf hd ⟨s0,hc,hF,h0⟩=>by
  rw [hF] at hd
  exact ⟨s0,hc,hF,h0.frame aH.lasts hf (fun k hk=>hd k (by simp [hk])) (Dj.nil _)⟩
instance:LS eQ:=⟨eQ.lasts⟩
theorem eQ.knows:cC eQ:=fun Φ F cs x ⟨s0,hc,hF,h0⟩=>hF ▸ (h0.knO.app h0.kn)
theorem eQ.one:fB eQ:=fun _ _ _ _ h=>by obtain ⟨s0,rfl,-,h0⟩:=h; exact One.all ⟨rfl,rfl,h0.one,trivial⟩
theorem eQ.gives:dE eQ bh:=fun Φ F cs x ⟨s0,hc,hF,h0⟩=>⟨s0,ob s0++[],hc,hF,h0.rslG (dE.refl _)⟩
structure ah where
  Items:(List aP)
  Next:Int
  deriving DecidableEq
def mr (Φ:Hp) (F:List Nat) (cs:List Value) (x:ah):Prop:=
  ∃ (s0:Value) (F0:List Nat),cs=[s0,.int .i64 x.Next]∧F=F0∧RSl bh 3 Φ F0 s0 x.Items
theorem mr.lasts:bI mr:=fun X Φ Φ' F cs x hf hd ⟨s0,F0,hc,hF,h0⟩=>by
  rw [hF] at hd
  exact ⟨s0,F0,hc,hF,h0.frame bh.lasts hf (fun k hk=>hd k (by simp [hk]))⟩
instance:LS mr:=⟨mr.lasts⟩
theorem mr.knows:cC mr:=fun Φ F cs x ⟨s0,F0,hc,hF,h0⟩=>hF ▸ h0.kn
theorem mr.one:fB mr:=fun _ _ _ _ h=>by obtain ⟨s0,F0,rfl,-,h0⟩:=h; exact One.all ⟨h0.one,rfl,trivial⟩
def kY (Φ:Hp) (F:List Nat) (cs:List Value) (x:ah):Prop:=
  ∃ (s0:Value) (D0:List Nat),cs=[s0,.int .i64 x.Next]∧F=(ob s0++D0)∧OSl eQ 69 3 Φ D0 s0 x.Items
theorem kY.lasts:bI kY:=fun X Φ Φ' F cs x hf hd ⟨s0,D0,hc,hF,h0⟩=>by
  rw [hF] at hd
  exact ⟨s0,D0,hc,hF,h0.frame eQ.lasts hf (fun k hk=>hd k (by simp [hk])) (fun k hk=>hd k (by simp [hk]))⟩
instance:LS kY:=⟨kY.lasts⟩
theorem kY.knows:cC kY:=fun Φ F cs x ⟨s0,D0,hc,hF,h0⟩=>hF ▸ (h0.knO.app h0.kn)
theorem kY.one:fB kY:=fun _ _ _ _ h=>by obtain ⟨s0,D0,rfl,-,h0⟩:=h; exact One.all ⟨h0.one,rfl,trivial⟩
theorem kY.gives:dE kY mr:=fun Φ F cs x ⟨s0,D0,hc,hF,h0⟩=>⟨s0,ob s0++D0,hc,hF,h0.rslG eQ.gives⟩
structure ai where
  Kind:ByteArray
  N:Int
  Consts:(List bn)
  At:(List Int)
  deriving DecidableEq
def bl (Φ:Hp) (F:List Nat) (cs:List Value) (x:ai):Prop:=
  ∃ (s0:Value) (F0:List Nat) (s1:Value) (F1:List Nat),cs=[.string x.Kind,.int .i64 x.N,s0,s1]∧F=F0++(F1)∧RSl aH 3 Φ F0 s0 x.Consts∧RSl (RI .i64) 1 Φ F1 s1 x.At
theorem bl.lasts:bI bl:=fun X Φ Φ' F cs x hf hd ⟨s0,F0,s1,F1,hc,hF,h0,h1⟩=>by
  rw [hF] at hd
  exact ⟨s0,F0,s1,F1,hc,hF,h0.frame aH.lasts hf (fun k hk=>hd k (by simp [hk])),h1.frame RI.lasts hf (fun k hk=>hd k (by simp [hk]))⟩
instance:LS bl:=⟨bl.lasts⟩
theorem bl.knows:cC bl:=fun Φ F cs x ⟨s0,F0,s1,F1,hc,hF,h0,h1⟩=>hF ▸ (h0.kn.app h1.kn)
theorem bl.one:fB bl:=fun _ _ _ _ h=>by obtain ⟨s0,F0,s1,F1,rfl,-,h0,h1⟩:=h; exact One.all ⟨rfl,rfl,h0.one,h1.one,trivial⟩
def bb (Φ:Hp) (F:List Nat) (cs:List Value) (x:ai):Prop:=
  ∃ (s0:Value) (s1:Value),cs=[.string x.Kind,.int .i64 x.N,s0,s1]∧F=(ob s0++[])++((ob s1++[]))∧OSl aH 91 3 Φ [] s0 x.Consts∧OSl (RI .i64) 3 1 Φ [] s1 x.At
theorem bb.lasts:bI bb:=fun X Φ Φ' F cs x hf hd ⟨s0,s1,hc,hF,h0,h1⟩=>by
  rw [hF] at hd
  exact ⟨s0,s1,hc,hF,h0.frame aH.lasts hf (fun k hk=>hd k (by simp [hk])) (Dj.nil _),h1.frame RI.lasts hf (fun k hk=>hd k (by simp [hk])) (Dj.nil _)⟩
instance:LS bb:=⟨bb.lasts⟩
theorem bb.knows:cC bb:=fun Φ F cs x ⟨s0,s1,hc,hF,h0,h1⟩=>hF ▸ ((h0.knO.app h0.kn).app (h1.knO.app h1.kn))
theorem bb.one:fB bb:=fun _ _ _ _ h=>by obtain ⟨s0,s1,rfl,-,h0,h1⟩:=h; exact One.all ⟨rfl,rfl,h0.one,h1.one,trivial⟩
theorem bb.gives:dE bb bl:=fun Φ F cs x ⟨s0,s1,hc,hF,h0,h1⟩=>⟨s0,ob s0++[],s1,ob s1++[],hc,hF,h0.rslG (dE.refl _),h1.rslG (dE.refl _)⟩
structure aD where
  Name:ByteArray
  V:bn
  deriving DecidableEq
def bi (Φ:Hp) (F:List Nat) (cs:List Value) (x:aD):Prop:=cs=[.string x.Name,.int .i64 x.V.K,.int .i64 x.V.N,.string x.V.S]∧F=[]
theorem bi.lasts:bI bi:=fun _ _ _ _ _ _ _ _ h=>h
instance:LS bi:=⟨bi.lasts⟩
theorem bi.knows:cC bi:=fun _ _ _ _ h=>h.2 ▸ Kw.nil
theorem bi.flat:sS bi:=fun _ _ _ _ h=>h.2
theorem bi.one:fB bi:=fun _ _ _ _ h=>by obtain ⟨rfl,-⟩:=h; exact One.all ⟨rfl,rfl,rfl,rfl,trivial⟩
structure bD where
  K:Int
  S:ByteArray
  V:bn
  deriving DecidableEq
def du (Φ:Hp) (F:List Nat) (cs:List Value) (x:bD):Prop:=cs=[.int .i64 x.K,.string x.S,.int .i64 x.V.K,.int .i64 x.V.N,.string x.V.S]∧F=[]
theorem du.lasts:bI du:=fun _ _ _ _ _ _ _ _ h=>h
instance:LS du:=⟨du.lasts⟩
theorem du.knows:cC du:=fun _ _ _ _ h=>h.2 ▸ Kw.nil
theorem du.flat:sS du:=fun _ _ _ _ h=>h.2
theorem du.one:fB du:=fun _ _ _ _ h=>by obtain ⟨rfl,-⟩:=h; exact One.all ⟨rfl,rfl,rfl,rfl,rfl,trivial⟩
structure av where
  Kind:ByteArray
  Args:(List bD)
  Not:Bool
  deriving DecidableEq
def bW (Φ:Hp) (F:List Nat) (cs:List Value) (x:av):Prop:=
  ∃ (s0:Value) (F0:List Nat),cs=[.string x.Kind,s0,.bool x.Not]∧F=F0∧RSl du 5 Φ F0 s0 x.Args
theorem bW.lasts:bI bW:=fun X Φ Φ' F cs x hf hd ⟨s0,F0,hc,hF,h0⟩=>by
  rw [hF] at hd
  exact ⟨s0,F0,hc,hF,h0.frame du.lasts hf (fun k hk=>hd k (by simp [hk]))⟩
instance:LS bW:=⟨bW.lasts⟩
theorem bW.knows:cC bW:=fun Φ F cs x ⟨s0,F0,hc,hF,h0⟩=>hF ▸ h0.kn
theorem bW.one:fB bW:=fun _ _ _ _ h=>by obtain ⟨s0,F0,rfl,-,h0⟩:=h; exact One.all ⟨rfl,h0.one,rfl,trivial⟩
def d5 (Φ:Hp) (F:List Nat) (cs:List Value) (x:av):Prop:=
  ∃ (s0:Value),cs=[.string x.Kind,s0,.bool x.Not]∧F=(ob s0++[])∧OSl du 152 5 Φ [] s0 x.Args
theorem d5.lasts:bI d5:=fun X Φ Φ' F cs x hf hd ⟨s0,hc,hF,h0⟩=>by
  rw [hF] at hd
  exact ⟨s0,hc,hF,h0.frame du.lasts hf (fun k hk=>hd k (by simp [hk])) (Dj.nil _)⟩
instance:LS d5:=⟨d5.lasts⟩
theorem d5.knows:cC d5:=fun Φ F cs x ⟨s0,hc,hF,h0⟩=>hF ▸ (h0.knO.app h0.kn)
theorem d5.one:fB d5:=fun _ _ _ _ h=>by obtain ⟨s0,rfl,-,h0⟩:=h; exact One.all ⟨rfl,h0.one,rfl,trivial⟩
theorem d5.gives:dE d5 bW:=fun Φ F cs x ⟨s0,hc,hF,h0⟩=>⟨s0,ob s0++[],hc,hF,h0.rslG (dE.refl _)⟩
structure dK where
  Op:Int
  L:bD
  R:bD
  deriving DecidableEq
def bL (Φ:Hp) (F:List Nat) (cs:List Value) (x:dK):Prop:=cs=[.int .i64 x.Op,.int .i64 x.L.K,.string x.L.S,.int .i64 x.L.V.K,.int .i64 x.L.V.N,.string x.L.V.S,.int .i64 x.R.K,.string x.R.S,.int .i64 x.R.V.K,.int .i64 x.R.V.N,.string x.R.V.S]∧F=[]
theorem bL.lasts:bI bL:=fun _ _ _ _ _ _ _ _ h=>h
instance:LS bL:=⟨bL.lasts⟩
theorem bL.knows:cC bL:=fun _ _ _ _ h=>h.2 ▸ Kw.nil
theorem bL.flat:sS bL:=fun _ _ _ _ h=>h.2
theorem bL.one:fB bL:=fun _ _ _ _ h=>by obtain ⟨rfl,-⟩:=h; exact One.all ⟨rfl,rfl,rfl,rfl,rfl,rfl,rfl,rfl,rfl,rfl,rfl,trivial⟩
structure bX where
  Op:ByteArray
  L:bD
  R:bD
  deriving DecidableEq
def cf (Φ:Hp) (F:List Nat) (cs:List Value) (x:bX):Prop:=cs=[.string x.Op,.int .i64 x.L.K,.string x.L.S,.int .i64 x.L.V.K,.int .i64 x.L.V.N,.string x.L.V.S,.int .i64 x.R.K,.string x.R.S,.int .i64 x.R.V.K,.int .i64 x.R.V.N,.string x.R.V.S]∧F=[]
theorem cf.lasts:bI cf:=fun _ _ _ _ _ _ _ _ h=>h
instance:LS cf:=⟨cf.lasts⟩
theorem cf.knows:cC cf:=fun _ _ _ _ h=>h.2 ▸ Kw.nil
theorem cf.flat:sS cf:=fun _ _ _ _ h=>h.2
theorem cf.one:fB cf:=fun _ _ _ _ h=>by obtain ⟨rfl,-⟩:=h; exact One.all ⟨rfl,rfl,rfl,rfl,rfl,rfl,rfl,rfl,rfl,rfl,rfl,trivial⟩
structure cU where
  Kind:Int
  Name:ByteArray
  Args:(List bX)
  N:Int
  Undo:ByteArray
  deriving DecidableEq
def fS (Φ:Hp) (F:List Nat) (cs:List Value) (x:cU):Prop:=
  ∃ (s0:Value) (F0:List Nat),cs=[.int .i64 x.Kind,.string x.Name,s0,.int .i64 x.N,.string x.Undo]∧F=F0∧RSl cf 11 Φ F0 s0 x.Args
theorem fS.lasts:bI fS:=fun X Φ Φ' F cs x hf hd ⟨s0,F0,hc,hF,h0⟩=>by
  rw [hF] at hd
  exact ⟨s0,F0,hc,hF,h0.frame cf.lasts hf (fun k hk=>hd k (by simp [hk]))⟩
instance:LS fS:=⟨fS.lasts⟩
theorem fS.knows:cC fS:=fun Φ F cs x ⟨s0,F0,hc,hF,h0⟩=>hF ▸ h0.kn
theorem fS.one:fB fS:=fun _ _ _ _ h=>by obtain ⟨s0,F0,rfl,-,h0⟩:=h; exact One.all ⟨rfl,rfl,h0.one,rfl,rfl,trivial⟩
def iB (Φ:Hp) (F:List Nat) (cs:List Value) (x:cU):Prop:=
  ∃ (s0:Value),cs=[.int .i64 x.Kind,.string x.Name,s0,.int .i64 x.N,.string x.Undo]∧F=(ob s0++[])∧OSl cf 170 11 Φ [] s0 x.Args
theorem iB.lasts:bI iB:=fun X Φ Φ' F cs x hf hd ⟨s0,hc,hF,h0⟩=>by
  rw [hF] at hd
  exact ⟨s0,hc,hF,h0.frame cf.lasts hf (fun k hk=>hd k (by simp [hk])) (Dj.nil _)⟩
instance:LS iB:=⟨iB.lasts⟩
theorem iB.knows:cC iB:=fun Φ F cs x ⟨s0,hc,hF,h0⟩=>hF ▸ (h0.knO.app h0.kn)
theorem iB.one:fB iB:=fun _ _ _ _ h=>by obtain ⟨s0,rfl,-,h0⟩:=h; exact One.all ⟨rfl,rfl,h0.one,rfl,rfl,trivial⟩
theorem iB.gives:dE iB fS:=fun Φ F cs x ⟨s0,hc,hF,h0⟩=>⟨s0,ob s0++[],hc,hF,h0.rslG (dE.refl _)⟩
structure an where
  Name:ByteArray
  Sal:Int
  Pats:(List av)
  Conds:(List dK)
  Acts:(List cU)
  deriving DecidableEq
def dH (Φ:Hp) (F:List Nat) (cs:List Value) (x:an):Prop:=
  ∃ (s0:Value) (F0:List Nat) (s1:Value) (F1:List Nat) (s2:Value) (F2:List Nat),cs=[.string x.Name,.int .i64 x.Sal,s0,s1,s2]∧F=F0++(F1++(F2))∧RSl bW 3 Φ F0 s0 x.Pats∧RSl bL 11 Φ F1 s1 x.Conds∧RSl fS 5 Φ F2 s2 x.Acts
theorem dH.lasts:bI dH:=fun X Φ Φ' F cs x hf hd ⟨s0,F0,s1,F1,s2,F2,hc,hF,h0,h1,h2⟩=>by
  rw [hF] at hd
  exact ⟨s0,F0,s1,F1,s2,F2,hc,hF,h0.frame bW.lasts hf (fun k hk=>hd k (by simp [hk])),h1.frame bL.lasts hf (fun k hk=>hd k (by simp [hk])),h2.frame fS.lasts hf (fun k hk=>hd k (by simp [hk]))⟩
instance:LS dH:=⟨dH.lasts⟩
theorem dH.knows:cC dH:=fun Φ F cs x ⟨s0,F0,s1,F1,s2,F2,hc,hF,h0,h1,h2⟩=>hF ▸ (h0.kn.app (h1.kn.app h2.kn))
theorem dH.one:fB dH:=fun _ _ _ _ h=>by obtain ⟨s0,F0,s1,F1,s2,F2,rfl,-,h0,h1,h2⟩:=h; exact One.all ⟨rfl,rfl,h0.one,h1.one,h2.one,trivial⟩
def cG (Φ:Hp) (F:List Nat) (cs:List Value) (x:an):Prop:=
  ∃ (s0:Value) (D0:List Nat) (s1:Value) (s2:Value) (D2:List Nat),cs=[.string x.Name,.int .i64 x.Sal,s0,s1,s2]∧F=(ob s0++D0)++((ob s1++[])++((ob s2++D2)))∧OSl d5 128 3 Φ D0 s0 x.Pats∧OSl bL 154 11 Φ [] s1 x.Conds∧OSl iB 158 5 Φ D2 s2 x.Acts
theorem cG.lasts:bI cG:=fun X Φ Φ' F cs x hf hd ⟨s0,D0,s1,s2,D2,hc,hF,h0,h1,h2⟩=>by
  rw [hF] at hd
  exact ⟨s0,D0,s1,s2,D2,hc,hF,h0.frame d5.lasts hf (fun k hk=>hd k (by simp [hk])) (fun k hk=>hd k (by simp [hk])),h1.frame bL.lasts hf (fun k hk=>hd k (by simp [hk])) (Dj.nil _),h2.frame iB.lasts hf (fun k hk=>hd k (by simp [hk])) (fun k hk=>hd k (by simp [hk]))⟩
instance:LS cG:=⟨cG.lasts⟩
theorem cG.knows:cC cG:=fun Φ F cs x ⟨s0,D0,s1,s2,D2,hc,hF,h0,h1,h2⟩=>hF ▸ ((h0.knO.app h0.kn).app ((h1.knO.app h1.kn).app (h2.knO.app h2.kn)))
theorem cG.one:fB cG:=fun _ _ _ _ h=>by obtain ⟨s0,D0,s1,s2,D2,rfl,-,h0,h1,h2⟩:=h; exact One.all ⟨rfl,rfl,h0.one,h1.one,h2.one,trivial⟩
theorem cG.gives:dE cG dH:=fun Φ F cs x ⟨s0,D0,s1,s2,D2,hc,hF,h0,h1,h2⟩=>⟨s0,ob s0++D0,s1,ob s1++[],s2,ob s2++D2,hc,hF,h0.rslG d5.gives,h1.rslG (dE.refl _),h2.rslG iB.gives⟩
structure af where
  Ids:(List Int)
  Hits:(List Int)
  deriving DecidableEq
def eF (Φ:Hp) (F:List Nat) (cs:List Value) (x:af):Prop:=
  ∃ (s0:Value) (F0:List Nat) (s1:Value) (F1:List Nat),cs=[s0,s1]∧F=F0++(F1)∧RSl (RI .i64) 1 Φ F0 s0 x.Ids∧RSl (RI .i64) 1 Φ F1 s1 x.Hits
theorem eF.lasts:bI eF:=fun X Φ Φ' F cs x hf hd ⟨s0,F0,s1,F1,hc,hF,h0,h1⟩=>by
  rw [hF] at hd
  exact ⟨s0,F0,s1,F1,hc,hF,h0.frame RI.lasts hf (fun k hk=>hd k (by simp [hk])),h1.frame RI.lasts hf (fun k hk=>hd k (by simp [hk]))⟩
instance:LS eF:=⟨eF.lasts⟩
theorem eF.knows:cC eF:=fun Φ F cs x ⟨s0,F0,s1,F1,hc,hF,h0,h1⟩=>hF ▸ (h0.kn.app h1.kn)
theorem eF.one:fB eF:=fun _ _ _ _ h=>by obtain ⟨s0,F0,s1,F1,rfl,-,h0,h1⟩:=h; exact One.all ⟨h0.one,h1.one,trivial⟩
def aq (Φ:Hp) (F:List Nat) (cs:List Value) (x:af):Prop:=
  ∃ (s0:Value) (s1:Value),cs=[s0,s1]∧F=(ob s0++[])++((ob s1++[]))∧OSl (RI .i64) 3 1 Φ [] s0 x.Ids∧OSl (RI .i64) 3 1 Φ [] s1 x.Hits
theorem aq.lasts:bI aq:=fun X Φ Φ' F cs x hf hd ⟨s0,s1,hc,hF,h0,h1⟩=>by
  rw [hF] at hd
  exact ⟨s0,s1,hc,hF,h0.frame RI.lasts hf (fun k hk=>hd k (by simp [hk])) (Dj.nil _),h1.frame RI.lasts hf (fun k hk=>hd k (by simp [hk])) (Dj.nil _)⟩
instance:LS aq:=⟨aq.lasts⟩
theorem aq.knows:cC aq:=fun Φ F cs x ⟨s0,s1,hc,hF,h0,h1⟩=>hF ▸ ((h0.knO.app h0.kn).app (h1.knO.app h1.kn))
theorem aq.one:fB aq:=fun _ _ _ _ h=>by obtain ⟨s0,s1,rfl,-,h0,h1⟩:=h; exact One.all ⟨h0.one,h1.one,trivial⟩
theorem aq.gives:dE aq eF:=fun Φ F cs x ⟨s0,s1,hc,hF,h0,h1⟩=>⟨s0,ob s0++[],s1,ob s1++[],hc,hF,h0.rslG (dE.refl _),h1.rslG (dE.refl _)⟩
structure ao where
  Pos:(List Int)
  Neg:(List Int)
  deriving DecidableEq
def bV (Φ:Hp) (F:List Nat) (cs:List Value) (x:ao):Prop:=
  ∃ (s0:Value) (F0:List Nat) (s1:Value) (F1:List Nat),cs=[s0,s1]∧F=F0++(F1)∧RSl (RI .i64) 1 Φ F0 s0 x.Pos∧RSl (RI .i64) 1 Φ F1 s1 x.Neg
theorem bV.lasts:bI bV:=fun X Φ Φ' F cs x hf hd ⟨s0,F0,s1,F1,hc,hF,h0,h1⟩=>by
  rw [hF] at hd
  exact ⟨s0,F0,s1,F1,hc,hF,h0.frame RI.lasts hf (fun k hk=>hd k (by simp [hk])),h1.frame RI.lasts hf (fun k hk=>hd k (by simp [hk]))⟩
instance:LS bV:=⟨bV.lasts⟩
theorem bV.knows:cC bV:=fun Φ F cs x ⟨s0,F0,s1,F1,hc,hF,h0,h1⟩=>hF ▸ (h0.kn.app h1.kn)
theorem bV.one:fB bV:=fun _ _ _ _ h=>by obtain ⟨s0,F0,s1,F1,rfl,-,h0,h1⟩:=h; exact One.all ⟨h0.one,h1.one,trivial⟩
def ay (Φ:Hp) (F:List Nat) (cs:List Value) (x:ao):Prop:=
  ∃ (s0:Value) (s1:Value),cs=[s0,s1]∧F=(ob s0++[])++((ob s1++[]))∧OSl (RI .i64) 3 1 Φ [] s0 x.Pos∧OSl (RI .i64) 3 1 Φ [] s1 x.Neg
theorem ay.lasts:bI ay:=fun X Φ Φ' F cs x hf hd ⟨s0,s1,hc,hF,h0,h1⟩=>by
  rw [hF] at hd
  exact ⟨s0,s1,hc,hF,h0.frame RI.lasts hf (fun k hk=>hd k (by simp [hk])) (Dj.nil _),h1.frame RI.lasts hf (fun k hk=>hd k (by simp [hk])) (Dj.nil _)⟩
instance:LS ay:=⟨ay.lasts⟩
theorem ay.knows:cC ay:=fun Φ F cs x ⟨s0,s1,hc,hF,h0,h1⟩=>hF ▸ ((h0.knO.app h0.kn).app (h1.knO.app h1.kn))
theorem ay.one:fB ay:=fun _ _ _ _ h=>by obtain ⟨s0,s1,rfl,-,h0,h1⟩:=h; exact One.all ⟨h0.one,h1.one,trivial⟩
theorem ay.gives:dE ay bV:=fun Φ F cs x ⟨s0,s1,hc,hF,h0,h1⟩=>⟨s0,ob s0++[],s1,ob s1++[],hc,hF,h0.rslG (dE.refl _),h1.rslG (dE.refl _)⟩
structure bk where
  L:(List Int)
  deriving DecidableEq
def gp (Φ:Hp) (F:List Nat) (cs:List Value) (x:bk):Prop:=
  ∃ (s0:Value) (F0:List Nat),cs=[s0]∧F=F0∧RSl (RI .i64) 1 Φ F0 s0 x.L
theorem gp.lasts:bI gp:=fun X Φ Φ' F cs x hf hd ⟨s0,F0,hc,hF,h0⟩=>by
  rw [hF] at hd
  exact ⟨s0,F0,hc,hF,h0.frame RI.lasts hf (fun k hk=>hd k (by simp [hk]))⟩
instance:LS gp:=⟨gp.lasts⟩
theorem gp.knows:cC gp:=fun Φ F cs x ⟨s0,F0,hc,hF,h0⟩=>hF ▸ h0.kn
theorem gp.one:fB gp:=fun _ _ _ _ h=>by obtain ⟨s0,F0,rfl,-,h0⟩:=h; exact One.all ⟨h0.one,trivial⟩
def aR (Φ:Hp) (F:List Nat) (cs:List Value) (x:bk):Prop:=
  ∃ (s0:Value),cs=[s0]∧F=(ob s0++[])∧OSl (RI .i64) 3 1 Φ [] s0 x.L
theorem aR.lasts:bI aR:=fun X Φ Φ' F cs x hf hd ⟨s0,hc,hF,h0⟩=>by
  rw [hF] at hd
  exact ⟨s0,hc,hF,h0.frame RI.lasts hf (fun k hk=>hd k (by simp [hk])) (Dj.nil _)⟩
instance:LS aR:=⟨aR.lasts⟩
theorem aR.knows:cC aR:=fun Φ F cs x ⟨s0,hc,hF,h0⟩=>hF ▸ (h0.knO.app h0.kn)
theorem aR.one:fB aR:=fun _ _ _ _ h=>by obtain ⟨s0,rfl,-,h0⟩:=h; exact One.all ⟨h0.one,trivial⟩
theorem aR.gives:dE aR gp:=fun Φ F cs x ⟨s0,hc,hF,h0⟩=>⟨s0,ob s0++[],hc,hF,h0.rslG (dE.refl _)⟩
structure aj where
  Toks:(List af)
  deriving DecidableEq
def jM (Φ:Hp) (F:List Nat) (cs:List Value) (x:aj):Prop:=
  ∃ (s0:Value) (F0:List Nat),cs=[s0]∧F=F0∧RSl eF 2 Φ F0 s0 x.Toks
theorem jM.lasts:bI jM:=fun X Φ Φ' F cs x hf hd ⟨s0,F0,hc,hF,h0⟩=>by
  rw [hF] at hd
  exact ⟨s0,F0,hc,hF,h0.frame eF.lasts hf (fun k hk=>hd k (by simp [hk]))⟩
instance:LS jM:=⟨jM.lasts⟩
theorem jM.knows:cC jM:=fun Φ F cs x ⟨s0,F0,hc,hF,h0⟩=>hF ▸ h0.kn
theorem jM.one:fB jM:=fun _ _ _ _ h=>by obtain ⟨s0,F0,rfl,-,h0⟩:=h; exact One.all ⟨h0.one,trivial⟩
def aB (Φ:Hp) (F:List Nat) (cs:List Value) (x:aj):Prop:=
  ∃ (s0:Value) (D0:List Nat),cs=[s0]∧F=(ob s0++D0)∧OSl aq 103 2 Φ D0 s0 x.Toks
theorem aB.lasts:bI aB:=fun X Φ Φ' F cs x hf hd ⟨s0,D0,hc,hF,h0⟩=>by
  rw [hF] at hd
  exact ⟨s0,D0,hc,hF,h0.frame aq.lasts hf (fun k hk=>hd k (by simp [hk])) (fun k hk=>hd k (by simp [hk]))⟩
instance:LS aB:=⟨aB.lasts⟩
theorem aB.knows:cC aB:=fun Φ F cs x ⟨s0,D0,hc,hF,h0⟩=>hF ▸ (h0.knO.app h0.kn)
theorem aB.one:fB aB:=fun _ _ _ _ h=>by obtain ⟨s0,D0,rfl,-,h0⟩:=h; exact One.all ⟨h0.one,trivial⟩
theorem aB.gives:dE aB jM:=fun Φ F cs x ⟨s0,D0,hc,hF,h0⟩=>⟨s0,ob s0++D0,hc,hF,h0.rslG aq.gives⟩
structure aJ where
  Levels:(List aj)
  deriving DecidableEq
def jx (Φ:Hp) (F:List Nat) (cs:List Value) (x:aJ):Prop:=
  ∃ (s0:Value) (F0:List Nat),cs=[s0]∧F=F0∧RSl jM 1 Φ F0 s0 x.Levels
theorem jx.lasts:bI jx:=fun X Φ Φ' F cs x hf hd ⟨s0,F0,hc,hF,h0⟩=>by
  rw [hF] at hd
  exact ⟨s0,F0,hc,hF,h0.frame jM.lasts hf (fun k hk=>hd k (by simp [hk]))⟩
instance:LS jx:=⟨jx.lasts⟩
theorem jx.knows:cC jx:=fun Φ F cs x ⟨s0,F0,hc,hF,h0⟩=>hF ▸ h0.kn
theorem jx.one:fB jx:=fun _ _ _ _ h=>by obtain ⟨s0,F0,rfl,-,h0⟩:=h; exact One.all ⟨h0.one,trivial⟩
def aM (Φ:Hp) (F:List Nat) (cs:List Value) (x:aJ):Prop:=
  ∃ (s0:Value) (D0:List Nat),cs=[s0]∧F=(ob s0++D0)∧OSl aB 101 1 Φ D0 s0 x.Levels
theorem aM.lasts:bI aM:=fun X Φ Φ' F cs x hf hd ⟨s0,D0,hc,hF,h0⟩=>by
  rw [hF] at hd
  exact ⟨s0,D0,hc,hF,h0.frame aB.lasts hf (fun k hk=>hd k (by simp [hk])) (fun k hk=>hd k (by simp [hk]))⟩
instance:LS aM:=⟨aM.lasts⟩
theorem aM.knows:cC aM:=fun Φ F cs x ⟨s0,D0,hc,hF,h0⟩=>hF ▸ (h0.knO.app h0.kn)
theorem aM.one:fB aM:=fun _ _ _ _ h=>by obtain ⟨s0,D0,rfl,-,h0⟩:=h; exact One.all ⟨h0.one,trivial⟩
theorem aM.gives:dE aM jx:=fun Φ F cs x ⟨s0,D0,hc,hF,h0⟩=>⟨s0,ob s0++D0,hc,hF,h0.rslG aB.gives⟩
structure ax where
  Alphas:(List bk)
  Rules:(List aJ)
  deriving DecidableEq
def sk (Φ:Hp) (F:List Nat) (cs:List Value) (x:ax):Prop:=
  ∃ (s0:Value) (F0:List Nat) (s1:Value) (F1:List Nat),cs=[s0,s1]∧F=F0++(F1)∧RSl gp 1 Φ F0 s0 x.Alphas∧RSl jx 1 Φ F1 s1 x.Rules
theorem sk.lasts:bI sk:=fun X Φ Φ' F cs x hf hd ⟨s0,F0,s1,F1,hc,hF,h0,h1⟩=>by
  rw [hF] at hd
  exact ⟨s0,F0,s1,F1,hc,hF,h0.frame gp.lasts hf (fun k hk=>hd k (by simp [hk])),h1.frame jx.lasts hf (fun k hk=>hd k (by simp [hk]))⟩
instance:LS sk:=⟨sk.lasts⟩
theorem sk.knows:cC sk:=fun Φ F cs x ⟨s0,F0,s1,F1,hc,hF,h0,h1⟩=>hF ▸ (h0.kn.app h1.kn)
theorem sk.one:fB sk:=fun _ _ _ _ h=>by obtain ⟨s0,F0,s1,F1,rfl,-,h0,h1⟩:=h; exact One.all ⟨h0.one,h1.one,trivial⟩
def rc (Φ:Hp) (F:List Nat) (cs:List Value) (x:ax):Prop:=
  ∃ (s0:Value) (D0:List Nat) (s1:Value) (D1:List Nat),cs=[s0,s1]∧F=(ob s0++D0)++((ob s1++D1))∧OSl aR 44 1 Φ D0 s0 x.Alphas∧OSl aM 98 1 Φ D1 s1 x.Rules
theorem rc.lasts:bI rc:=fun X Φ Φ' F cs x hf hd ⟨s0,D0,s1,D1,hc,hF,h0,h1⟩=>by
  rw [hF] at hd
  exact ⟨s0,D0,s1,D1,hc,hF,h0.frame aR.lasts hf (fun k hk=>hd k (by simp [hk])) (fun k hk=>hd k (by simp [hk])),h1.frame aM.lasts hf (fun k hk=>hd k (by simp [hk])) (fun k hk=>hd k (by simp [hk]))⟩
instance:LS rc:=⟨rc.lasts⟩
theorem rc.knows:cC rc:=fun Φ F cs x ⟨s0,D0,s1,D1,hc,hF,h0,h1⟩=>hF ▸ ((h0.knO.app h0.kn).app (h1.knO.app h1.kn))
theorem rc.one:fB rc:=fun _ _ _ _ h=>by obtain ⟨s0,D0,s1,D1,rfl,-,h0,h1⟩:=h; exact One.all ⟨h0.one,h1.one,trivial⟩
theorem rc.gives:dE rc sk:=fun Φ F cs x ⟨s0,D0,s1,D1,hc,hF,h0,h1⟩=>⟨s0,ob s0++D0,s1,ob s1++D1,hc,hF,h0.rslG aR.gives,h1.rslG aM.gives⟩
structure bm where
  Name:ByteArray
  Rules:(List an)
  deriving DecidableEq
def si (Φ:Hp) (F:List Nat) (cs:List Value) (x:bm):Prop:=
  ∃ (s0:Value) (F0:List Nat),cs=[.string x.Name,s0]∧F=F0∧RSl dH 5 Φ F0 s0 x.Rules
theorem si.lasts:bI si:=fun X Φ Φ' F cs x hf hd ⟨s0,F0,hc,hF,h0⟩=>by
  rw [hF] at hd
  exact ⟨s0,F0,hc,hF,h0.frame dH.lasts hf (fun k hk=>hd k (by simp [hk]))⟩
instance:LS si:=⟨si.lasts⟩
theorem si.knows:cC si:=fun Φ F cs x ⟨s0,F0,hc,hF,h0⟩=>hF ▸ h0.kn
theorem si.one:fB si:=fun _ _ _ _ h=>by obtain ⟨s0,F0,rfl,-,h0⟩:=h; exact One.all ⟨rfl,h0.one,trivial⟩
def rm (Φ:Hp) (F:List Nat) (cs:List Value) (x:bm):Prop:=
  ∃ (s0:Value) (D0:List Nat),cs=[.string x.Name,s0]∧F=(ob s0++D0)∧OSl cG 120 5 Φ D0 s0 x.Rules
theorem rm.lasts:bI rm:=fun X Φ Φ' F cs x hf hd ⟨s0,D0,hc,hF,h0⟩=>by
  rw [hF] at hd
  exact ⟨s0,D0,hc,hF,h0.frame cG.lasts hf (fun k hk=>hd k (by simp [hk])) (fun k hk=>hd k (by simp [hk]))⟩
instance:LS rm:=⟨rm.lasts⟩
theorem rm.knows:cC rm:=fun Φ F cs x ⟨s0,D0,hc,hF,h0⟩=>hF ▸ (h0.knO.app h0.kn)
theorem rm.one:fB rm:=fun _ _ _ _ h=>by obtain ⟨s0,D0,rfl,-,h0⟩:=h; exact One.all ⟨rfl,h0.one,trivial⟩
theorem rm.gives:dE rm si:=fun Φ F cs x ⟨s0,D0,hc,hF,h0⟩=>⟨s0,ob s0++D0,hc,hF,h0.rslG cG.gives⟩
structure aO where
  Alphas:(List ai)
  Chains:(List ao)
  deriving DecidableEq
def sc (Φ:Hp) (F:List Nat) (cs:List Value) (x:aO):Prop:=
  ∃ (s0:Value) (F0:List Nat) (s1:Value) (F1:List Nat),cs=[s0,s1]∧F=F0++(F1)∧RSl bl 4 Φ F0 s0 x.Alphas∧RSl bV 2 Φ F1 s1 x.Chains
theorem sc.lasts:bI sc:=fun X Φ Φ' F cs x hf hd ⟨s0,F0,s1,F1,hc,hF,h0,h1⟩=>by
  rw [hF] at hd
  exact ⟨s0,F0,s1,F1,hc,hF,h0.frame bl.lasts hf (fun k hk=>hd k (by simp [hk])),h1.frame bV.lasts hf (fun k hk=>hd k (by simp [hk]))⟩
instance:LS sc:=⟨sc.lasts⟩
theorem sc.knows:cC sc:=fun Φ F cs x ⟨s0,F0,s1,F1,hc,hF,h0,h1⟩=>hF ▸ (h0.kn.app h1.kn)
theorem sc.one:fB sc:=fun _ _ _ _ h=>by obtain ⟨s0,F0,s1,F1,rfl,-,h0,h1⟩:=h; exact One.all ⟨h0.one,h1.one,trivial⟩
def qV (Φ:Hp) (F:List Nat) (cs:List Value) (x:aO):Prop:=
  ∃ (s0:Value) (D0:List Nat) (s1:Value) (D1:List Nat),cs=[s0,s1]∧F=(ob s0++D0)++((ob s1++D1))∧OSl bb 75 4 Φ D0 s0 x.Alphas∧OSl ay 79 2 Φ D1 s1 x.Chains
theorem qV.lasts:bI qV:=fun X Φ Φ' F cs x hf hd ⟨s0,D0,s1,D1,hc,hF,h0,h1⟩=>by
  rw [hF] at hd
  exact ⟨s0,D0,s1,D1,hc,hF,h0.frame bb.lasts hf (fun k hk=>hd k (by simp [hk])) (fun k hk=>hd k (by simp [hk])),h1.frame ay.lasts hf (fun k hk=>hd k (by simp [hk])) (fun k hk=>hd k (by simp [hk]))⟩
instance:LS qV:=⟨qV.lasts⟩
theorem qV.knows:cC qV:=fun Φ F cs x ⟨s0,D0,s1,D1,hc,hF,h0,h1⟩=>hF ▸ ((h0.knO.app h0.kn).app (h1.knO.app h1.kn))
theorem qV.one:fB qV:=fun _ _ _ _ h=>by obtain ⟨s0,D0,s1,D1,rfl,-,h0,h1⟩:=h; exact One.all ⟨h0.one,h1.one,trivial⟩
theorem qV.gives:dE qV sc:=fun Φ F cs x ⟨s0,D0,s1,D1,hc,hF,h0,h1⟩=>⟨s0,ob s0++D0,s1,ob s1++D1,hc,hF,h0.rslG bb.gives,h1.rslG ay.gives⟩
def lF (x y:bD):Bool:=((x.K == y.K) && (seq x.S y.S && ((x.V.K == y.V.K) && ((x.V.N == y.V.N) && (seq x.V.S y.V.S && true)))))

theorem xR (x y:bD):lF x y=decide (x=y):=by
  obtain ⟨a0,a1,⟨a20,a21,a22⟩⟩:=x; obtain ⟨b0,b1,⟨b20,b21,b22⟩⟩:=y
  rw [Bool.eq_iff_iff]
  simp only [lF,zQ,Bool.and_true,Bool.and_eq_true,beq_iff_eq,decide_eq_true_eq,bD.mk.injEq,bn.mk.injEq,and_assoc]
structure cj where
  pos:(List av)
  neg:(List av)
  chain:ao
  alphas:(List bk)
  s:ah
  id:Int
  deriving DecidableEq
def jQ (Φ:Hp) (F:List Nat) (cs:List Value) (x:cj):Prop:=
  ∃ (s0:Value) (F0:List Nat) (s1:Value) (F1:List Nat) (s2:Value) (F2:List Nat) (s3:Value) (F3:List Nat) (s4:Value) (F4:List Nat) (s5:Value) (F5:List Nat),cs=[s0,s1,s2,s3,s4,s5,.int .i64 x.s.Next,.int .i64 x.id]∧F=F0++(F1++(F2++(F3++(F4++(F5)))))∧RSl bW 3 Φ F0 s0 x.pos∧RSl bW 3 Φ F1 s1 x.neg∧RSl (RI .i64) 1 Φ F2 s2 x.chain.Pos∧RSl (RI .i64) 1 Φ F3 s3 x.chain.Neg∧RSl gp 1 Φ F4 s4 x.alphas∧RSl bh 3 Φ F5 s5 x.s.Items
theorem jQ.lasts:bI jQ:=fun X Φ Φ' F cs x hf hd ⟨s0,F0,s1,F1,s2,F2,s3,F3,s4,F4,s5,F5,hc,hF,h0,h1,h2,h3,h4,h5⟩=>by
  rw [hF] at hd
  exact ⟨s0,F0,s1,F1,s2,F2,s3,F3,s4,F4,s5,F5,hc,hF,h0.frame bW.lasts hf (fun k hk=>hd k (by simp [hk])),h1.frame bW.lasts hf (fun k hk=>hd k (by simp [hk])),h2.frame RI.lasts hf (fun k hk=>hd k (by simp [hk])),h3.frame RI.lasts hf (fun k hk=>hd k (by simp [hk])),h4.frame gp.lasts hf (fun k hk=>hd k (by simp [hk])),h5.frame bh.lasts hf (fun k hk=>hd k (by simp [hk]))⟩
instance:LS jQ:=⟨jQ.lasts⟩
theorem jQ.knows:cC jQ:=fun Φ F cs x ⟨s0,F0,s1,F1,s2,F2,s3,F3,s4,F4,s5,F5,hc,hF,h0,h1,h2,h3,h4,h5⟩=>hF ▸ (h0.kn.app (h1.kn.app (h2.kn.app (h3.kn.app (h4.kn.app h5.kn)))))
theorem jQ.one:fB jQ:=fun _ _ _ _ h=>by obtain ⟨s0,F0,s1,F1,s2,F2,s3,F3,s4,F4,s5,F5,rfl,-,h0,h1,h2,h3,h4,h5⟩:=h; exact One.all ⟨h0.one,h1.one,h2.one,h3.one,h4.one,h5.one,rfl,rfl,trivial⟩
def jn (Φ:Hp) (F:List Nat) (cs:List Value) (x:cj):Prop:=
  ∃ (s0:Value) (D0:List Nat) (s1:Value) (D1:List Nat) (s2:Value) (s3:Value) (s4:Value) (D4:List Nat) (s5:Value) (D5:List Nat),cs=[s0,s1,s2,s3,s4,s5,.int .i64 x.s.Next,.int .i64 x.id]∧F=(ob s0++D0)++((ob s1++D1)++((ob s2++[])++((ob s3++[])++((ob s4++D4)++((ob s5++D5))))))∧OSl d5 128 3 Φ D0 s0 x.pos∧OSl d5 128 3 Φ D1 s1 x.neg∧OSl (RI .i64) 3 1 Φ [] s2 x.chain.Pos∧OSl (RI .i64) 3 1 Φ [] s3 x.chain.Neg∧OSl aR 44 1 Φ D4 s4 x.alphas∧OSl eQ 69 3 Φ D5 s5 x.s.Items
theorem jn.lasts:bI jn:=fun X Φ Φ' F cs x hf hd ⟨s0,D0,s1,D1,s2,s3,s4,D4,s5,D5,hc,hF,h0,h1,h2,h3,h4,h5⟩=>by
  rw [hF] at hd
  exact ⟨s0,D0,s1,D1,s2,s3,s4,D4,s5,D5,hc,hF,h0.frame d5.lasts hf (fun k hk=>hd k (by simp [hk])) (fun k hk=>hd k (by simp [hk])),h1.frame d5.lasts hf (fun k hk=>hd k (by simp [hk])) (fun k hk=>hd k (by simp [hk])),h2.frame RI.lasts hf (fun k hk=>hd k (by simp [hk])) (Dj.nil _),h3.frame RI.lasts hf (fun k hk=>hd k (by simp [hk])) (Dj.nil _),h4.frame aR.lasts hf (fun k hk=>hd k (by simp [hk])) (fun k hk=>hd k (by simp [hk])),h5.frame eQ.lasts hf (fun k hk=>hd k (by simp [hk])) (fun k hk=>hd k (by simp [hk]))⟩
instance:LS jn:=⟨jn.lasts⟩
theorem jn.knows:cC jn:=fun Φ F cs x ⟨s0,D0,s1,D1,s2,s3,s4,D4,s5,D5,hc,hF,h0,h1,h2,h3,h4,h5⟩=>hF ▸ ((h0.knO.app h0.kn).app ((h1.knO.app h1.kn).app ((h2.knO.app h2.kn).app ((h3.knO.app h3.kn).app ((h4.knO.app h4.kn).app (h5.knO.app h5.kn))))))
theorem jn.one:fB jn:=fun _ _ _ _ h=>by obtain ⟨s0,D0,s1,D1,s2,s3,s4,D4,s5,D5,rfl,-,h0,h1,h2,h3,h4,h5⟩:=h; exact One.all ⟨h0.one,h1.one,h2.one,h3.one,h4.one,h5.one,rfl,rfl,trivial⟩
theorem jn.gives:dE jn jQ:=fun Φ F cs x ⟨s0,D0,s1,D1,s2,s3,s4,D4,s5,D5,hc,hF,h0,h1,h2,h3,h4,h5⟩=>⟨s0,ob s0++D0,s1,ob s1++D1,s2,ob s2++[],s3,ob s3++[],s4,ob s4++D4,s5,ob s5++D5,hc,hF,h0.rslG d5.gives,h1.rslG d5.gives,h2.rslG (dE.refl _),h3.rslG (dE.refl _),h4.rslG aR.gives,h5.rslG eQ.gives⟩
def tF (N:Nat) (p0:(List Int)):Option (Bool):=
  some (decide (1048576 < (p0.length:Int)))
def gT (N:Nat) (p0:(List Int)):Nat→Int→Int→Option (a8)
  | 0,_,_=>none
  | k+1,s1,s2=>
    ((if decide (s2 < (p0.length:Int)) then some (decide (s2 < 4000)) else some false).bind fun b1=>(if b1 then ((idx p0 s2).bind fun x1=>((gT N p0 k) (uW .i64 (i64.wrap ((i64.wrap ((i64.wrap (s1*137))+(i64.wrap x1)))+11)) 1073741823) (i64.wrap (s2+1)))) else some (⟨p0,0,s1⟩:a8)))
def oL (N:Nat) (p0:(List Int)):Option (a8):=
  gT N p0 N (i64.wrap (354354+(p0.length:Int))) 0
def iQ (N:Nat) (p0:a8):Option (Int × a8):=
  (if decide (p0.i < (p0.b.length:Int)) then ((idx p0.b p0.i).bind fun x1=>some ((uW .i64 (i64.wrap ((uW .i64 (Cv .i64 (Ae .i64 (i64.wrap ((i64.wrap (p0.h*6364136223846793005))+1442695040888963407)) 33) (Ae .i64 (i64.wrap ((i64.wrap (p0.h*6364136223846793005))+1442695040888963407)) 47)) 255)+(i64.wrap x1))) 255),(⟨p0.b,i64.wrap (p0.i+1),i64.wrap ((i64.wrap (p0.h*6364136223846793005))+1442695040888963407)⟩:a8))) else some ((uW .i64 (Cv .i64 (Ae .i64 (i64.wrap ((i64.wrap (p0.h*6364136223846793005))+1442695040888963407)) 33) (Ae .i64 (i64.wrap ((i64.wrap (p0.h*6364136223846793005))+1442695040888963407)) 47)) 255),(⟨p0.b,p0.i,i64.wrap ((i64.wrap (p0.h*6364136223846793005))+1442695040888963407)⟩:a8)))
def aV (N:Nat) (p0:a8) (p1:Int):Option (Int × a8):=
  (if decide (p1≤0) then some (0,p0) else (if decide (p1≤256) then ((iQ N p0).bind fun x1=>((zZ x1.1 p1).bind fun x2=>some (x2,(⟨p0.b,x1.2.i,x1.2.h⟩:a8)))) else ((iQ N p0).bind fun x3=>((iQ N (⟨p0.b,x3.2.i,x3.2.h⟩:a8)).bind fun x4=>((iQ N (⟨p0.b,x4.2.i,x4.2.h⟩:a8)).bind fun x5=>((zZ (i64.wrap ((i64.wrap ((i64.wrap (x3.1*65536))+(i64.wrap (x4.1*256))))+x5.1)) p1).bind fun x6=>some (x6,(⟨p0.b,x5.2.i,x5.2.h⟩:a8))))))))
def dL (N:Nat) (p0:a8) (p1:Int):Option (Bool × a8):=
  ((aV N p0 p1).bind fun x1=>some (decide (x1.1=0),(⟨p0.b,x1.2.i,x1.2.h⟩:a8)))
def fv (N:Nat) (p0:a8) (p1:(List ByteArray)):Option (ByteArray × a8):=
  ((aV N p0 (p1.length:Int)).bind fun x1=>((idx p1 x1.1).bind fun x2=>some (x2,(⟨p0.b,x1.2.i,x1.2.h⟩:a8))))
def iO (N:Nat) (p0:a8):Option (bn × a8):=
  ((dL N p0 2).bind fun x1=>(if x1.1 then ((aV N (⟨p0.b,x1.2.i,x1.2.h⟩:a8) 3).bind fun x2=>some ((⟨1,i64.wrap (1+x2.1),(⟨#[]⟩:ByteArray)⟩:bn),(⟨p0.b,x2.2.i,x2.2.h⟩:a8))) else ((fv N (⟨p0.b,x1.2.i,x1.2.h⟩:a8) ([(⟨#[97]⟩:ByteArray),(⟨#[98]⟩:ByteArray)]:List ByteArray)).bind fun x3=>some ((⟨2,0,x3.1⟩:bn),(⟨p0.b,x3.2.i,x3.2.h⟩:a8)))))
def i8 (N:Nat) (p0:a8) (x1:ByteArray × a8) (s2:Int):Nat→(List bn)→Int→Int→Int→Option (aA × a8)
  | 0,_,_,_,_=>none
  | k+1,s5,s6,s7,s8=>
    (if decide (s6 < s2) then ((iO N (⟨p0.b,s7,s8⟩:a8)).bind fun x3=>((app s5 ([x3.1]:List bn)).bind fun x4=>((i8 N p0 x1 s2 k) x4 (i64.wrap (s6+1)) x3.2.i x3.2.h))) else some ((⟨x1.1,s5⟩:aA),(⟨p0.b,s7,s8⟩:a8)))
def je (N:Nat) (p0:a8) (x1:ByteArray × a8) (s2:Int) (s3:Int) (s4:Int):Option (aA × a8):=
  i8 N p0 x1 s2 N ([]:List bn) 0 s3 s4
def fW (N:Nat) (p0:a8) (x1:ByteArray × a8) (s1:Int):Option (aA × a8):=
  ((dL N (⟨p0.b,x1.2.i,x1.2.h⟩:a8) 12).bind fun x2=>(if x2.1 then ((aV N (⟨p0.b,x2.2.i,x2.2.h⟩:a8) 6).bind fun x5=>je N p0 x1 x5.1 x5.2.i x5.2.h) else je N p0 x1 s1 x2.2.i x2.2.h))
def kC (N:Nat) (p0:a8):Option (aA × a8):=
  ((fv N p0 ([(⟨#[111,114,100,101,114]⟩:ByteArray),(⟨#[112,97,105,100]⟩:ByteArray),(⟨#[105,116,101,109]⟩:ByteArray),(⟨#[111,114,100,101,114]⟩:ByteArray)]:List ByteArray)).bind fun x1=>(if seq x1.1 (⟨#[105,116,101,109]⟩:ByteArray) then fW N p0 x1 2 else fW N p0 x1 1))
def de (N:Nat) (p0:(List bn)) (p1:(List bn)):Nat→Int→Option (Bool)
  | 0,_=>none
  | k+1,s1=>
    (if decide (s1 < (p0.length:Int)) then ((idx p0 s1).bind fun x1=>((idx p1 s1).bind fun x2=>(if !(bo x1 x2) then some false else ((de N p0 p1 k) (i64.wrap (s1+1)))))) else some true)
def gt (N:Nat) (p0:(List bn)) (p1:(List bn)):Option (Bool):=
  (if !decide ((p0.length:Int)=(p1.length:Int)) then some false else de N p0 p1 N 0)
def jO (N:Nat) (p0:aA) (p1:aA):Option (Bool):=
  ((if seq p0.Kind p1.Kind then ((gt N p0.Fields p1.Fields).bind fun x1=>some x1) else some false).bind fun b1=>some b1)
def gH (N:Nat) (p0:ah) (p1:aA):Nat→Int→Option (Int)
  | 0,_=>none
  | k+1,s1=>
    (if decide (s1 < (p0.Items.length:Int)) then ((idx p0.Items s1).bind fun x1=>((jO N x1.F p1).bind fun x2=>(if x2 then ((idx p0.Items s1).bind fun x3=>some x3.Id) else ((gH N p0 p1 k) (i64.wrap (s1+1)))))) else some 0)
def lO (N:Nat) (p0:ah) (p1:aA):Option (Int):=
  gH N p0 p1 N 0
def iG (N:Nat) (p0:aA):Option (aA):=
  ((app ([]:List bn) p0.Fields).bind fun x1=>some (⟨p0.Kind,x1⟩:aA))
def gN (N:Nat) (p0:ah) (p1:aA):Option (Int × ah):=
  ((lO N p0 p1).bind fun x1=>(if decide (0 < x1) then some (x1,p0) else ((if decide (40≤(p0.Items.length:Int)) then some true else some (decide (1000000≤p0.Next))).bind fun b1=>(if b1 then some (0,p0) else ((iG N p1).bind fun x2=>((app p0.Items ([(⟨p0.Next,x2⟩:aP)]:List aP)).bind fun x3=>some (i64.wrap ((i64.wrap (p0.Next+1)) - 1),(⟨x3,i64.wrap (p0.Next+1)⟩:ah))))))))
def fg (N:Nat) (p0:ah) (p1:Int):Nat→Int→Option (aA × Bool)
  | 0,_=>none
  | k+1,s1=>
    (if decide (s1 < (p0.Items.length:Int)) then ((idx p0.Items s1).bind fun x1=>(if decide (x1.Id=p1) then ((idx p0.Items s1).bind fun x2=>((iG N x2.F).bind fun x3=>some (x3,true))) else ((fg N p0 p1 k) (i64.wrap (s1+1))))) else some ((⟨(⟨#[]⟩:ByteArray),[]⟩:aA),false))
def iL (N:Nat) (p0:ah) (p1:Int):Option (aA × Bool):=
  fg N p0 p1 N 0
def cZ (N:Nat) (p0:Int) (p1:Int) (p2:Int):Option (Bool):=
  ((if decide (p1≤p0) then some (decide (p0≤p2)) else some false).bind fun b1=>some b1)
def gg (N:Nat) (p0:ai) (p1:aA):Nat→Int→Option (Bool)
  | 0,_=>none
  | k+1,s1=>
    (if decide (s1 < (p0.At.length:Int)) then ((idx p0.At s1).bind fun x1=>((if decide ((p0.Consts.length:Int)≤s1) then some true else ((cZ N x1 0 (i64.wrap ((p1.Fields.length:Int) - 1))).bind fun x2=>some (!x2))).bind fun b2=>((if b2 then some true else ((idx p1.Fields x1).bind fun x3=>((idx p0.Consts s1).bind fun x4=>some (!(bo x3 x4))))).bind fun b3=>(if b3 then some false else ((gg N p0 p1 k) (i64.wrap (s1+1))))))) else some true)
def nu (N:Nat) (p0:ai) (p1:aA):Option (Bool):=
  ((if !seq p0.Kind p1.Kind then some true else some (!decide (p0.N=(p1.Fields.length:Int)))).bind fun b1=>(if b1 then some false else gg N p0 p1 N 0))
def ga (N:Nat) (p0:(List aD)) (p1:ByteArray):Nat→Int→Option (bn × Bool)
  | 0,_=>none
  | k+1,s1=>
    (if decide (s1 < (p0.length:Int)) then ((idx p0 s1).bind fun x1=>(if seq x1.Name p1 then ((idx p0 s1).bind fun x2=>some (x2.V,true)) else ((ga N p0 p1 k) (i64.wrap (s1+1))))) else some ((⟨0,0,(⟨#[]⟩:ByteArray)⟩:bn),false))
def nA (N:Nat) (p0:(List aD)) (p1:ByteArray):Option (bn × Bool):=
  ga N p0 p1 N 0
def eR (N:Nat) (p0:av) (p1:aA) (p2:(List aD)):Nat→(List aD)→Int→Option ((List aD) × Bool)
  | 0,_,_=>none
  | k+1,s1,s2=>
    (if decide (s2 < (p0.Args.length:Int)) then ((idx p0.Args s2).bind fun x2=>((nA N s1 x2.S).bind fun x3=>((if decide (x2.K=2) then ((idx p1.Fields s2).bind fun x4=>some (!(bo x2.V x4))) else some false).bind fun b2=>((if b2 then some true else ((if decide (x2.K=1) then some x3.2 else some false).bind fun b4=>((if b4 then ((idx p1.Fields s2).bind fun x5=>some (!(bo x3.1 x5))) else some false).bind fun b5=>some b5))).bind fun b3=>(if b3 then ((app ([]:List aD) p2).bind fun x6=>some (x6,false)) else ((if decide (x2.K=1) then some (!x3.2) else some false).bind fun b6=>(if b6 then ((idx p1.Fields s2).bind fun x7=>((app s1 ([(⟨x2.S,x7⟩:aD)]:List aD)).bind fun x8=>((eR N p0 p1 p2 k) x8 (i64.wrap (s2+1))))) else ((eR N p0 p1 p2 k) s1 (i64.wrap (s2+1)))))))))) else some (s1,true))
def j6 (N:Nat) (p0:av) (p1:aA) (p2:(List aD)):Option ((List aD) × Bool):=
  ((app ([]:List aD) p2).bind fun x1=>((if !seq p0.Kind p1.Kind then some true else some (!decide ((p0.Args.length:Int)=(p1.Fields.length:Int)))).bind fun b1=>(if b1 then some (x1,false) else eR N p0 p1 p2 N x1 0)))
def jo (N:Nat) (p0:an) (s1:(List aD)) (s2:Int) (K1:(List aD)→Int→Option ((List aD) × Bool)) (s3:(List bn)) (s4:Bool) (s5:ByteArray):Option ((List aD) × Bool):=
  ((idx p0.Pats s2).bind fun x3=>((j6 N x3 (⟨s5,s3⟩:aA) s1).bind fun x4=>((if !s4 then some true else some (!x4.2)).bind fun b1=>(if b1 then some (s1,false) else (K1 x4.1 (i64.wrap (s2+1)))))))
def dF (N:Nat) (p0:an) (p1:ah) (p2:(List Int)):Nat→(List aD)→Int→Option ((List aD) × Bool)
  | 0,_,_=>none
  | k+1,s1,s2=>
    (if decide (s2 < (p2.length:Int)) then ((idx p2 s2).bind fun x5=>((iL N p1 x5).bind fun x6=>jo N p0 s1 s2 (dF N p0 p1 p2 k) x6.1.Fields x6.2 x6.1.Kind)) else some (s1,true))
def gS (N:Nat) (p0:an) (p1:ah) (p2:(List Int)):Option ((List aD) × Bool):=
  dF N p0 p1 p2 N ([]:List aD) 0
def fY (N:Nat) (s1:(List Int)) (s2:Int) (K1:(List Int)→Int→Option ((List Int))) (s3:Int):Option ((List Int)):=
  ((app s1 ([s3]:List Int)).bind fun x4=>(K1 x4 (i64.wrap (s2+1))))
def cP (N:Nat) (p0:an) (p1:aA) (p2:(List aD)):Nat→(List Int)→Int→Option ((List Int))
  | 0,_,_=>none
  | k+1,s1,s2=>
    (if decide (s2 < (p0.Pats.length:Int)) then ((idx p0.Pats s2).bind fun x1=>(if x1.Not then ((idx p0.Pats s2).bind fun x2=>((j6 N x2 p1 p2).bind fun x3=>(if x3.2 then fY N s1 s2 (cP N p0 p1 p2 k) 1 else fY N s1 s2 (cP N p0 p1 p2 k) 0))) else ((cP N p0 p1 p2 k) s1 (i64.wrap (s2+1))))) else some s1)
def kH (N:Nat) (p0:an) (p1:aA) (p2:(List aD)):Option ((List Int)):=
  cP N p0 p1 p2 N ([]:List Int) 0
def cL (N:Nat) (p4:Int) (s2:Int) (K1:(List af)→Int→Option ((List af))) (x2:(List aD) × Bool) (x3:(List Int)):Nat→(List af)→Int→Option ((List af))
  | 0,_,_=>none
  | k+1,s3,s4=>
    ((if decide (s4 < (x3.length:Int)) then some x2.2 else some false).bind fun b1=>(if b1 then ((idx s3 s2).bind fun x4=>((idx x4.Hits s4).bind fun x5=>((idx x3 s4).bind fun x6=>((idx x4.Hits s4).bind fun x7=>((cL N p4 s2 K1 x2 x3 k) (s3.set s2.toNat (⟨x4.Ids,(x4.Hits.set s4.toNat (i64.wrap (x5+(i64.wrap (p4*x6)))))⟩:af)) (i64.wrap (s4+1))))))) else (K1 s3 (i64.wrap (s2+1)))))
def bY (N:Nat) (p0:an) (p1:ah) (p3:aA) (p4:Int):Nat→(List af)→Int→Option ((List af))
  | 0,_,_=>none
  | k+1,s1,s2=>
    (if decide (s2 < (s1.length:Int)) then ((idx s1 s2).bind fun x1=>((gS N p0 p1 x1.Ids).bind fun x2=>((kH N p0 p3 x2.1).bind fun x3=>cL N p4 s2 (bY N p0 p1 p3 p4 k) x2 x3 N s1 0))) else some s1)
def jy (N:Nat) (p0:an) (p1:ah) (p2:(List af)) (p3:aA) (p4:Int):Option ((List af)):=
  bY N p0 p1 p3 p4 N p2 0
def iE (N:Nat) (p0:(List af)) (p1:an) (p2:ah) (p3:(List Int)) (p4:Int):Option ((List af)):=
  ((app ([]:List Int) p3).bind fun x1=>((app x1 ([p4]:List Int)).bind fun x2=>((gS N p1 p2 x2).bind fun x3=>(if !x3.2 then some p0 else ((app p0 ([(⟨x2,([]:List Int)⟩:af)]:List af)).bind fun x4=>some x4)))))
def cT (N:Nat) (p0:an):Nat→Int→Int→Option (Int)
  | 0,_,_=>none
  | k+1,s1,s2=>
    (if decide (s2 < (p0.Pats.length:Int)) then ((idx p0.Pats s2).bind fun x1=>(if !x1.Not then ((cT N p0 k) (i64.wrap (s1+1)) (i64.wrap (s2+1))) else ((cT N p0 k) s1 (i64.wrap (s2+1))))) else some s1)
def gX (N:Nat) (p0:an):Option (Int):=
  cT N p0 N 0 0
def dG (N:Nat) (s2:Int) (K1:(List Int)→Int→Option (af)) (x5:(List Int)):Nat→(List Int)→Int→Option (af)
  | 0,_,_=>none
  | k+1,s3,s4=>
    (if decide (s4 < (x5.length:Int)) then ((idx s3 s4).bind fun x6=>((idx x5 s4).bind fun x7=>((idx s3 s4).bind fun x8=>((dG N s2 K1 x5 k) (s3.set s4.toNat (i64.wrap (x6+x7))) (i64.wrap (s4+1)))))) else (K1 s3 (i64.wrap (s2+1))))
def cA (N:Nat) (p0:an) (p1:ah) (p2:af) (x1:(List aD) × Bool):Nat→(List Int)→Int→Option (af)
  | 0,_,_=>none
  | k+1,s1,s2=>
    (if decide (s2 < (p1.Items.length:Int)) then ((idx p1.Items s2).bind fun x4=>((kH N p0 x4.F x1.1).bind fun x5=>dG N s2 (cA N p0 p1 p2 x1 k) x5 N s1 0)) else some (⟨p2.Ids,s1⟩:af))
def jX (N:Nat) (p0:an) (p1:ah) (p2:af):Option (af):=
  ((gS N p0 p1 p2.Ids).bind fun x1=>((gX N p0).bind fun x2=>((mk 0 (i64.wrap ((p0.Pats.length:Int) - x2))).bind fun x3=>cA N p0 p1 p2 x1 N x3 0)))
def eK (N:Nat) (p0:an) (p4:ah) (s2:(List af)) (x12:bk) (s9:Int) (K5:(List af)→Int→Option (ax)):Nat→(List af)→Int→Option (ax)
  | 0,_,_=>none
  | k+1,s10,s11=>
    (if decide (s11 < (x12.L.length:Int)) then ((idx s2 s9).bind fun x13=>((idx x12.L s11).bind fun x14=>((iE N s10 p0 p4 x13.Ids x14).bind fun x15=>((eK N p0 p4 s2 x12 s9 K5 k) x15 (i64.wrap (s11+1)))))) else (K5 s10 (i64.wrap (s9+1))))
def bE (N:Nat) (p0:an) (p4:ah) (x1:aJ) (s1:(List aj)) (s3:Int) (K1:(List aj)→(List af)→Int→Option (ax)):Nat→(List af)→Int→Option (ax)
  | 0,_,_=>none
  | k+1,s12,s13=>
    ((if decide (s13 < (s12.length:Int)) then some (decide (s3=i64.wrap ((x1.Levels.length:Int) - 1))) else some false).bind fun b3=>(if b3 then ((idx s12 s13).bind fun x16=>((jX N p0 p4 x16).bind fun x17=>((bE N p0 p4 x1 s1 s3 K1 k) (s12.set s13.toNat x17) (i64.wrap (s13+1))))) else ((idx s1 s3).bind fun x18=>((app x18.Toks s12).bind fun x19=>(K1 (s1.set s3.toNat (⟨x19⟩:aj)) s12 (i64.wrap (s3+1)))))))
def dl (N:Nat) (p0:an) (p4:ah) (x1:aJ) (s1:(List aj)) (s2:(List af)) (s3:Int) (K1:(List aj)→(List af)→Int→Option (ax)) (x12:bk):Nat→(List af)→Int→Option (ax)
  | 0,_,_=>none
  | k+1,s8,s9=>
    (if decide (s9 < (s2.length:Int)) then eK N p0 p4 s2 x12 s9 (dl N p0 p4 x1 s1 s2 s3 K1 x12 k) N s8 0 else bE N p0 p4 x1 s1 s3 K1 N s8 0)
def cN (N:Nat) (p0:an) (p1:ao) (p2:ax) (p4:ah) (p5:Int) (p7:(List Bool)) (x1:aJ) (s1:(List aj)) (s2:(List af)) (s3:Int) (K1:(List aj)→(List af)→Int→Option (ax)) (s5:Int):Nat→(List af)→Int→Option (ax)
  | 0,_,_=>none
  | k+1,s6,s7=>
    ((if decide (s7 < s5) then ((idx p1.Pos s3).bind fun x6=>((idx p7 x6).bind fun x7=>some x7)) else some false).bind fun b2=>(if b2 then ((idx s1 (i64.wrap (s3 - 1))).bind fun x8=>((idx x8.Toks s7).bind fun x9=>((iE N s6 p0 p4 x9.Ids p5).bind fun x10=>((cN N p0 p1 p2 p4 p5 p7 x1 s1 s2 s3 K1 s5 k) x10 (i64.wrap (s7+1)))))) else ((idx p1.Pos s3).bind fun x11=>((idx p2.Alphas x11).bind fun x12=>dl N p0 p4 x1 s1 s2 s3 K1 x12 N s6 0))))
def gz (N:Nat) (p0:an) (p1:ao) (p2:ax) (p4:ah) (p5:Int) (p7:(List Bool)) (x1:aJ) (s1:(List aj)) (s2:(List af)) (s3:Int) (K1:(List aj)→(List af)→Int→Option (ax)) (s4:(List af)) (s5:Int):Option (ax):=
  cN N p0 p1 p2 p4 p5 p7 x1 s1 s2 s3 K1 s5 N s4 0
def fG (N:Nat) (p0:an) (p1:ao) (p2:ax) (p4:ah) (p5:Int) (p7:(List Bool)) (x1:aJ) (s1:(List aj)) (s2:(List af)) (s3:Int) (K1:(List aj)→(List af)→Int→Option (ax)) (s4:(List af)):Option (ax):=
  (if decide (0 < s3) then ((idx s1 (i64.wrap (s3 - 1))).bind fun x20=>gz N p0 p1 p2 p4 p5 p7 x1 s1 s2 s3 K1 s4 (i64.wrap ((x20.Toks.length:Int) - (s2.length:Int)))) else gz N p0 p1 p2 p4 p5 p7 x1 s1 s2 s3 K1 s4 0)
def be (N:Nat) (p0:an) (p1:ao) (p2:ax) (p3:Int) (p4:ah) (p5:Int) (p7:(List Bool)) (x1:aJ):Nat→(List aj)→(List af)→Int→Option (ax)
  | 0,_,_,_=>none
  | k+1,s1,s2,s3=>
    (if decide (s3≤i64.wrap ((x1.Levels.length:Int) - 1)) then ((if decide (s3=0) then ((idx p1.Pos 0).bind fun x4=>((idx p7 x4).bind fun x5=>some x5)) else some false).bind fun b1=>(if b1 then ((iE N ([]:List af) p0 p4 ([]:List Int) p5).bind fun x21=>fG N p0 p1 p2 p4 p5 p7 x1 s1 s2 s3 (be N p0 p1 p2 p3 p4 p5 p7 x1 k) x21) else fG N p0 p1 p2 p4 p5 p7 x1 s1 s2 s3 (be N p0 p1 p2 p3 p4 p5 p7 x1 k) ([]:List af))) else some (⟨p2.Alphas,(p2.Rules.set p3.toNat (⟨s1⟩:aJ))⟩:ax))
def lm (N:Nat) (p0:an) (p1:ao) (p2:ax) (p3:Int) (p4:ah) (p5:Int) (p6:aA) (p7:(List Bool)):Option (ax):=
  ((idx p2.Rules p3).bind fun x1=>((idx x1.Levels (i64.wrap ((x1.Levels.length:Int) - 1))).bind fun x2=>((jy N p0 p4 x2.Toks p6 1).bind fun x3=>be N p0 p1 p2 p3 p4 p5 p7 x1 N (x1.Levels.set (i64.wrap ((x1.Levels.length:Int) - 1)).toNat (⟨x3⟩:aj)) ([]:List af) 0)))
def fa (N:Nat) (p0:bm) (p1:aO) (p3:ah) (p4:Int) (x1:aA × Bool) (s1:(List bk)) (s2:(List Bool)):Nat→(List aJ)→Int→Option (ax)
  | 0,_,_=>none
  | k+1,s4,s5=>
    (if decide (s5 < (p0.Rules.length:Int)) then ((idx p0.Rules s5).bind fun x7=>((idx p1.Chains s5).bind fun x8=>((lm N x7 x8 (⟨s1,s4⟩:ax) s5 p3 p4 x1.1 s2).bind fun x9=>((fa N p0 p1 p3 p4 x1 s1 s2 k) x9.Rules (i64.wrap (s5+1)))))) else some (⟨s1,s4⟩:ax))
def ef (N:Nat) (p0:bm) (p1:aO) (p2:ax) (p3:ah) (p4:Int) (x1:aA × Bool):Nat→(List bk)→(List Bool)→Int→Option (ax)
  | 0,_,_,_=>none
  | k+1,s1,s2,s3=>
    (if decide (s3 < (p1.Alphas.length:Int)) then ((idx p1.Alphas s3).bind fun x2=>((nu N x2 x1.1).bind fun x3=>((app s2 ([x3]:List Bool)).bind fun x4=>(if x3 then ((idx s1 s3).bind fun x5=>((app x5.L ([p4]:List Int)).bind fun x6=>((ef N p0 p1 p2 p3 p4 x1 k) (s1.set s3.toNat (⟨x6⟩:bk)) x4 (i64.wrap (s3+1))))) else ((ef N p0 p1 p2 p3 p4 x1 k) s1 x4 (i64.wrap (s3+1))))))) else fa N p0 p1 p3 p4 x1 s1 s2 N p2.Rules 0)
def kJ (N:Nat) (p0:bm) (p1:aO) (p2:ax) (p3:ah) (p4:Int):Option (ax):=
  ((iL N p3 p4).bind fun x1=>ef N p0 p1 p2 p3 p4 x1 N p2.Alphas ([]:List Bool) 0)
def kR (N:Nat) (p0:a8) (p1:(List Int)):Option (Int × a8):=
  ((aV N p0 (p1.length:Int)).bind fun x1=>((idx p1 x1.1).bind fun x2=>some (x2,(⟨p0.b,x1.2.i,x1.2.h⟩:a8))))
def oR (N:Nat) (p0:bn):Option (bD):=
  some (⟨2,(⟨#[]⟩:ByteArray),p0⟩:bD)
def oQ (N:Nat) (p0:ByteArray):Option (bD):=
  some (⟨1,p0,(⟨0,0,(⟨#[]⟩:ByteArray)⟩:bn)⟩:bD)
def ou (N:Nat) (p0:a8):Option (bD × a8):=
  ((aV N p0 6).bind fun x1=>(if decide (x1.1=0) then some ((⟨3,(⟨#[]⟩:ByteArray),(⟨0,0,(⟨#[]⟩:ByteArray)⟩:bn)⟩:bD),(⟨p0.b,x1.2.i,x1.2.h⟩:a8)) else (if decide (x1.1=1) then ((iO N (⟨p0.b,x1.2.i,x1.2.h⟩:a8)).bind fun x2=>((oR N x2.1).bind fun x3=>some (x3,(⟨p0.b,x2.2.i,x2.2.h⟩:a8)))) else ((fv N (⟨p0.b,x1.2.i,x1.2.h⟩:a8) ([(⟨#[88]⟩:ByteArray),(⟨#[89]⟩:ByteArray),(⟨#[90]⟩:ByteArray),(⟨#[88]⟩:ByteArray)]:List ByteArray)).bind fun x4=>((oQ N x4.1).bind fun x5=>some (x5,(⟨p0.b,x4.2.i,x4.2.h⟩:a8)))))))
def ia (N:Nat) (p0:a8) (p1:Bool) (x1:ByteArray × a8) (s1:Int):Nat→(List bD)→Int→Int→Int→Option (av × a8)
  | 0,_,_,_,_=>none
  | k+1,s2,s3,s4,s5=>
    (if decide (s3 < s1) then ((ou N (⟨p0.b,s4,s5⟩:a8)).bind fun x2=>((app s2 ([x2.1]:List bD)).bind fun x3=>((ia N p0 p1 x1 s1 k) x3 (i64.wrap (s3+1)) x2.2.i x2.2.h))) else some ((⟨x1.1,s2,p1⟩:av),(⟨p0.b,s4,s5⟩:a8)))
def jm (N:Nat) (p0:a8) (p1:Bool) (x1:ByteArray × a8) (s1:Int):Option (av × a8):=
  ia N p0 p1 x1 s1 N ([]:List bD) 0 x1.2.i x1.2.h
def kT (N:Nat) (p0:a8) (p1:Bool):Option (av × a8):=
  ((fv N p0 ([(⟨#[111,114,100,101,114]⟩:ByteArray),(⟨#[112,97,105,100]⟩:ByteArray),(⟨#[105,116,101,109]⟩:ByteArray),(⟨#[111,114,100,101,114]⟩:ByteArray)]:List ByteArray)).bind fun x1=>(if seq x1.1 (⟨#[105,116,101,109]⟩:ByteArray) then jm N p0 p1 x1 2 else jm N p0 p1 x1 1))
def gY (N:Nat) (p0:(List ByteArray)) (p1:ByteArray):Nat→Int→Option (Bool)
  | 0,_=>none
  | k+1,s1=>
    (if decide (s1 < (p0.length:Int)) then ((idx p0 s1).bind fun x1=>(if seq x1 p1 then some true else ((gY N p0 p1 k) (i64.wrap (s1+1))))) else some false)
def kO (N:Nat) (p0:(List ByteArray)) (p1:ByteArray):Option (Bool):=
  gY N p0 p1 N 0
def fo (N:Nat) (p0:av):Nat→(List ByteArray)→Int→Option ((List ByteArray))
  | 0,_,_=>none
  | k+1,s1,s2=>
    (if decide (s2 < (p0.Args.length:Int)) then ((idx p0.Args s2).bind fun x1=>((if decide (x1.K=1) then ((idx p0.Args s2).bind fun x2=>((kO N s1 x2.S).bind fun x3=>some (!x3))) else some false).bind fun b1=>(if b1 then ((idx p0.Args s2).bind fun x4=>((app s1 ([x4.S]:List ByteArray)).bind fun x5=>((fo N p0 k) x5 (i64.wrap (s2+1))))) else ((fo N p0 k) s1 (i64.wrap (s2+1)))))) else some s1)
def mY (N:Nat) (p0:av):Option ((List ByteArray)):=
  fo N p0 N ([]:List ByteArray) 0
def co (N:Nat) (p0:an) (s2:Int) (K1:(List ByteArray)→Int→Option ((List ByteArray))) (x2:(List ByteArray)):Nat→(List ByteArray)→Int→Option ((List ByteArray))
  | 0,_,_=>none
  | k+1,s3,s4=>
    ((if decide (s4 < (x2.length:Int)) then ((idx p0.Pats s2).bind fun x3=>some (!x3.Not)) else some false).bind fun b1=>(if b1 then ((idx x2 s4).bind fun x4=>((kO N s3 x4).bind fun x5=>(if !x5 then ((idx x2 s4).bind fun x6=>((app s3 ([x6]:List ByteArray)).bind fun x7=>((co N p0 s2 K1 x2 k) x7 (i64.wrap (s4+1))))) else ((co N p0 s2 K1 x2 k) s3 (i64.wrap (s4+1)))))) else (K1 s3 (i64.wrap (s2+1)))))
def ct (N:Nat) (p0:an):Nat→(List ByteArray)→Int→Option ((List ByteArray))
  | 0,_,_=>none
  | k+1,s1,s2=>
    (if decide (s2 < (p0.Pats.length:Int)) then ((idx p0.Pats s2).bind fun x1=>((mY N x1).bind fun x2=>co N p0 s2 (ct N p0 k) x2 N s1 0)) else some s1)
def gJ (N:Nat) (p0:an):Option ((List ByteArray)):=
  ct N p0 N ([]:List ByteArray) 0
def jI (N:Nat) (p0:a8):Option (bD × a8):=
  ((dL N p0 3).bind fun x1=>(if x1.1 then ((iO N (⟨p0.b,x1.2.i,x1.2.h⟩:a8)).bind fun x2=>((oR N x2.1).bind fun x3=>some (x3,(⟨p0.b,x2.2.i,x2.2.h⟩:a8)))) else ((fv N (⟨p0.b,x1.2.i,x1.2.h⟩:a8) ([(⟨#[88]⟩:ByteArray),(⟨#[89]⟩:ByteArray)]:List ByteArray)).bind fun x4=>((oQ N x4.1).bind fun x5=>some (x5,(⟨p0.b,x4.2.i,x4.2.h⟩:a8))))))
def mE (N:Nat) (p0:a8):Option (dK × a8):=
  ((aV N p0 3).bind fun x1=>((jI N (⟨p0.b,x1.2.i,x1.2.h⟩:a8)).bind fun x2=>((jI N (⟨p0.b,x2.2.i,x2.2.h⟩:a8)).bind fun x3=>some ((⟨i64.wrap (1+x1.1),x2.1,x3.1⟩:dK),(⟨p0.b,x3.2.i,x3.2.h⟩:a8)))))
def fV (N:Nat) (p0:bD) (p1:(List ByteArray)):Option (Bool):=
  ((if !decide (p0.K=1) then some true else ((kO N p1 p0.S).bind fun x1=>some x1)).bind fun b1=>some b1)
def jF (N:Nat) (p0:bD) (p1:(List ByteArray)):Option (bD):=
  ((fV N p0 p1).bind fun x1=>(if x1 then some p0 else (if decide ((p1.length:Int)=0) then ((oR N (⟨1,1,(⟨#[]⟩:ByteArray)⟩:bn)).bind fun x2=>some x2) else ((idx p1 0).bind fun x3=>((oQ N x3).bind fun x4=>some x4)))))
def kU (N:Nat) (p0:a8) (x1:bD × a8) (s1:Int) (s2:Int) (s3:ByteArray) (s4:Int) (s5:ByteArray) (s6:Int) (s7:Int) (s8:ByteArray):Option (bX × a8):=
  some ((⟨s3,x1.1,(⟨s4,s5,(⟨s6,s7,s8⟩:bn)⟩:bD)⟩:bX),(⟨p0.b,s1,s2⟩:a8))
def nq (N:Nat) (p0:a8):Option (bX × a8):=
  ((jI N p0).bind fun x1=>((dL N (⟨p0.b,x1.2.i,x1.2.h⟩:a8) 4).bind fun x2=>(if x2.1 then ((fv N (⟨p0.b,x2.2.i,x2.2.h⟩:a8) ([(⟨#[43]⟩:ByteArray),(⟨#[45]⟩:ByteArray)]:List ByteArray)).bind fun x3=>((jI N (⟨p0.b,x3.2.i,x3.2.h⟩:a8)).bind fun x4=>kU N p0 x1 x4.2.i x4.2.h x3.1 x4.1.K x4.1.S x4.1.V.K x4.1.V.N x4.1.V.S)) else kU N p0 x1 x2.2.i x2.2.h (⟨#[]⟩:ByteArray) 0 (⟨#[]⟩:ByteArray) 0 0 (⟨#[]⟩:ByteArray))))
def kV (N:Nat) (p0:a8) (x1:Int × a8) (x3:ByteArray × a8) (s3:(List bX)) (s9:Int) (s13:Int) (s14:Int) (s15:ByteArray):Option (cU × a8):=
  some ((⟨x1.1,x3.1,s3,s9,s15⟩:cU),(⟨p0.b,s13,s14⟩:a8))
def fZ (N:Nat) (p0:a8) (x1:Int × a8) (x3:ByteArray × a8) (s3:(List bX)) (s9:Int) (s10:Bool) (s11:Int) (s12:Int):Option (cU × a8):=
  (if s10 then ((fv N (⟨p0.b,s11,s12⟩:a8) ([(⟨#[114,101,102,117,110,100]⟩:ByteArray),(⟨#[99,97,110,99,101,108]⟩:ByteArray)]:List ByteArray)).bind fun x6=>kV N p0 x1 x3 s3 s9 x6.2.i x6.2.h x6.1) else kV N p0 x1 x3 s3 s9 s11 s12 (⟨#[]⟩:ByteArray))
def ip (N:Nat) (p0:a8) (x1:Int × a8) (x3:ByteArray × a8) (s3:(List bX)) (s7:Int) (s8:Int) (s9:Int):Option (cU × a8):=
  (if decide (x1.1=3) then ((dL N (⟨p0.b,s7,s8⟩:a8) 2).bind fun x7=>fZ N p0 x1 x3 s3 s9 x7.1 x7.2.i x7.2.h) else fZ N p0 x1 x3 s3 s9 false s7 s8)
def im (N:Nat) (p0:a8) (x1:Int × a8) (x3:ByteArray × a8) (s2:Int):Nat→(List bX)→Int→Int→Int→Option (cU × a8)
  | 0,_,_,_,_=>none
  | k+1,s3,s4,s5,s6=>
    (if decide (s4 < s2) then ((nq N (⟨p0.b,s5,s6⟩:a8)).bind fun x4=>((app s3 ([x4.1]:List bX)).bind fun x5=>((im N p0 x1 x3 s2 k) x5 (i64.wrap (s4+1)) x4.2.i x4.2.h))) else (if decide (x1.1=4) then ((kR N (⟨p0.b,s5,s6⟩:a8) ([0,1,5,100000]:List Int)).bind fun x8=>ip N p0 x1 x3 s3 x8.2.i x8.2.h x8.1) else ip N p0 x1 x3 s3 s5 s6 0))
def hY (N:Nat) (p0:a8) (x1:Int × a8) (x3:ByteArray × a8) (s2:Int):Option (cU × a8):=
  im N p0 x1 x3 s2 N ([]:List bX) 0 x3.2.i x3.2.h
def cO (N:Nat) (p0:a8) (x1:Int × a8) (s1:Bool):Option (cU × a8):=
  (if s1 then some ((⟨x1.1,(⟨#[]⟩:ByteArray),[],0,(⟨#[]⟩:ByteArray)⟩:cU),(⟨p0.b,x1.2.i,x1.2.h⟩:a8)) else ((fv N (⟨p0.b,x1.2.i,x1.2.h⟩:a8) ([(⟨#[111,114,100,101,114]⟩:ByteArray),(⟨#[112,97,105,100]⟩:ByteArray),(⟨#[105,116,101,109]⟩:ByteArray),(⟨#[115,104,105,112]⟩:ByteArray),(⟨#[99,104,97,114,103,101]⟩:ByteArray)]:List ByteArray)).bind fun x3=>(if seq x3.1 (⟨#[105,116,101,109]⟩:ByteArray) then hY N p0 x1 x3 2 else hY N p0 x1 x3 1)))
def nJ (N:Nat) (p0:a8) (p1:Int):Option (cU × a8):=
  ((kR N p0 ([1,1,2,3,3,4,5,6]:List Int)).bind fun x1=>(if decide (x1.1=2) then ((aV N (⟨p0.b,x1.2.i,x1.2.h⟩:a8) p1).bind fun x2=>some ((⟨x1.1,(⟨#[]⟩:ByteArray),[],x2.1,(⟨#[]⟩:ByteArray)⟩:cU),(⟨p0.b,x2.2.i,x2.2.h⟩:a8))) else (if decide (x1.1=5) then cO N p0 x1 (decide (x1.1=5)) else cO N p0 x1 (decide (x1.1=6)))))
def fj (N:Nat) (x6:(List ByteArray)) (s11:(List cU)) (s12:Int) (K4:(List cU)→Int→Int→Int→Option (an × a8)) (x10:cU × a8):Nat→(List bX)→Int→Option (an × a8)
  | 0,_,_=>none
  | k+1,s15,s16=>
    (if decide (s16 < (s15.length:Int)) then ((idx s15 s16).bind fun x11=>((jF N x11.L x6).bind fun x12=>(if !seq x11.Op (⟨#[]⟩:ByteArray) then ((jF N x11.R x6).bind fun x13=>((fj N x6 s11 s12 K4 x10 k) (s15.set s16.toNat (⟨x11.Op,x12,x13⟩:bX)) (i64.wrap (s16+1)))) else ((fj N x6 s11 s12 K4 x10 k) (s15.set s16.toNat (⟨x11.Op,x12,x11.R⟩:bX)) (i64.wrap (s16+1)))))) else ((app s11 ([(⟨x10.1.Kind,x10.1.Name,s15,x10.1.N,x10.1.Undo⟩:cU)]:List cU)).bind fun x14=>(K4 x14 (i64.wrap (s12 - 1)) x10.2.i x10.2.h)))
def fm (N:Nat) (p0:a8) (p1:ByteArray) (x1:Int × a8) (s5:(List av)) (x6:(List ByteArray)) (s8:(List dK)):Nat→(List cU)→Int→Int→Int→Option (an × a8)
  | 0,_,_,_,_=>none
  | k+1,s11,s12,s13,s14=>
    (if decide (0 < s12) then ((gX N (⟨p1,x1.1,s5,s8,s11⟩:an)).bind fun x9=>((nJ N (⟨p0.b,s13,s14⟩:a8) x9).bind fun x10=>fj N x6 s11 s12 (fm N p0 p1 x1 s5 x6 s8 k) x10 N x10.1.Args 0)) else some ((⟨p1,x1.1,s5,s8,s11⟩:an),(⟨p0.b,s13,s14⟩:a8)))
def hU (N:Nat) (p0:a8) (p1:ByteArray) (x1:Int × a8) (s5:(List av)) (x6:(List ByteArray)) (s8:(List dK)) (s9:Int) (s10:Int):Option (an × a8):=
  ((aV N (⟨p0.b,s9,s10⟩:a8) 3).bind fun x8=>fm N p0 p1 x1 s5 x6 s8 N ([]:List cU) (i64.wrap (1+x8.1)) x8.2.i x8.2.h)
def ik (N:Nat) (p0:a8) (p1:ByteArray) (x1:Int × a8) (s5:(List av)) (s6:Int) (s7:Int):Option (an × a8):=
  ((gJ N (⟨p1,x1.1,s5,[],[]⟩:an)).bind fun x6=>((dL N (⟨p0.b,s6,s7⟩:a8) 3).bind fun x7=>(if x7.1 then ((mE N (⟨p0.b,x7.2.i,x7.2.h⟩:a8)).bind fun x15=>((jF N x15.1.L x6).bind fun x16=>((jF N x15.1.R x6).bind fun x17=>((app ([]:List dK) ([(⟨x15.1.Op,x16,x17⟩:dK)]:List dK)).bind fun x18=>hU N p0 p1 x1 s5 x6 x18 x15.2.i x15.2.h)))) else hU N p0 p1 x1 s5 x6 ([]:List dK) x7.2.i x7.2.h)))
def io (N:Nat) (p0:a8) (p1:ByteArray) (x1:Int × a8):Nat→(List av)→Int→Int→Int→Option (an × a8)
  | 0,_,_,_,_=>none
  | k+1,s1,s2,s3,s4=>
    (if decide (0 < s2) then ((kT N (⟨p0.b,s3,s4⟩:a8) false).bind fun x3=>((app s1 ([x3.1]:List av)).bind fun x4=>((io N p0 p1 x1 k) x4 (i64.wrap (s2 - 1)) x3.2.i x3.2.h))) else ((dL N (⟨p0.b,s3,s4⟩:a8) 3).bind fun x5=>(if x5.1 then ((kT N (⟨p0.b,x5.2.i,x5.2.h⟩:a8) true).bind fun x19=>((app s1 ([x19.1]:List av)).bind fun x20=>ik N p0 p1 x1 x20 x19.2.i x19.2.h)) else ik N p0 p1 x1 s1 x5.2.i x5.2.h)))
def nw (N:Nat) (p0:a8) (p1:ByteArray):Option (an × a8):=
  ((kR N p0 ([0,0,5,(-5),100]:List Int)).bind fun x1=>((aV N (⟨p0.b,x1.2.i,x1.2.h⟩:a8) 3).bind fun x2=>io N p0 p1 x1 N ([]:List av) (i64.wrap (1+x2.1)) x2.2.i x2.2.h))
def gv (N:Nat) (p0:a8) (x1:ByteArray × a8):Nat→(List an)→Int→Int→Int→Option (bm × a8)
  | 0,_,_,_,_=>none
  | k+1,s1,s2,s3,s4=>
    ((aV N (⟨p0.b,s3,s4⟩:a8) 4).bind fun x2=>((if decide (s2 < i64.wrap (1+x2.1)) then some (decide (s2 < 4)) else some false).bind fun b3=>(if b3 then ((idx ([(⟨#[114,49]⟩:ByteArray),(⟨#[114,50]⟩:ByteArray),(⟨#[114,51]⟩:ByteArray),(⟨#[114,52]⟩:ByteArray)]:List ByteArray) s2).bind fun x3=>((nw N (⟨p0.b,x2.2.i,x2.2.h⟩:a8) x3).bind fun x4=>((app s1 ([x4.1]:List an)).bind fun x5=>((gv N p0 x1 k) x5 (i64.wrap (s2+1)) x4.2.i x4.2.h)))) else some ((⟨x1.1,s1⟩:bm),(⟨p0.b,x2.2.i,x2.2.h⟩:a8)))))
def lU (N:Nat) (p0:a8):Option (bm × a8):=
  ((fv N p0 ([(⟨#[102,108,111,119]⟩:ByteArray),(⟨#[115,104,105,112]⟩:ByteArray),(⟨#[120]⟩:ByteArray)]:List ByteArray)).bind fun x1=>gv N p0 x1 N ([]:List an) 0 x1.2.i x1.2.h)
def gu (N:Nat) (p0:(List Int)) (p1:(List Int)):Nat→Int→Option (Bool)
  | 0,_=>none
  | k+1,s1=>
    (if decide (s1 < (p0.length:Int)) then ((idx p0 s1).bind fun x1=>((idx p1 s1).bind fun x2=>(if !decide (x1=x2) then some false else ((gu N p0 p1 k) (i64.wrap (s1+1)))))) else some true)
def iH (N:Nat) (p0:(List Int)) (p1:(List Int)):Option (Bool):=
  (if !decide ((p0.length:Int)=(p1.length:Int)) then some false else gu N p0 p1 N 0)
def i9 (N:Nat) (p0:ai) (p1:ai):Option (Bool):=
  ((if seq p0.Kind p1.Kind then some (decide (p0.N=p1.N)) else some false).bind fun b1=>((if b1 then ((iH N p0.At p1.At).bind fun x1=>some x1) else some false).bind fun b2=>((if b2 then ((gt N p0.Consts p1.Consts).bind fun x2=>some x2) else some false).bind fun b3=>some b3)))
def eI (N:Nat) (p0:aO) (p1:ai):Nat→Int→Option (Int × aO)
  | 0,_=>none
  | k+1,s1=>
    (if decide (s1 < (p0.Alphas.length:Int)) then ((idx p0.Alphas s1).bind fun x1=>((i9 N x1 p1).bind fun x2=>(if x2 then some (s1,p0) else ((eI N p0 p1 k) (i64.wrap (s1+1)))))) else ((app p0.Alphas ([p1]:List ai)).bind fun x3=>some (i64.wrap ((x3.length:Int) - 1),(⟨x3,p0.Chains⟩:aO))))
def lA (N:Nat) (p0:aO) (p1:ai):Option (Int × aO):=
  eI N p0 p1 N 0
def eC (N:Nat) (p0:av):Nat→(List bn)→(List Int)→Int→Option (ai)
  | 0,_,_,_=>none
  | k+1,s1,s2,s3=>
    (if decide (s3 < (p0.Args.length:Int)) then ((idx p0.Args s3).bind fun x1=>(if decide (x1.K=2) then ((idx p0.Args s3).bind fun x2=>((app s1 ([x2.V]:List bn)).bind fun x3=>((app s2 ([s3]:List Int)).bind fun x4=>((eC N p0 k) x3 x4 (i64.wrap (s3+1)))))) else ((eC N p0 k) s1 s2 (i64.wrap (s3+1))))) else some (⟨p0.Kind,(p0.Args.length:Int),s1,s2⟩:ai))
def lS (N:Nat) (p0:av):Option (ai):=
  eC N p0 N ([]:List bn) ([]:List Int) 0
def ei (N:Nat) (p0:bm) (s2:(List ao)) (s3:Int) (K1:(List ai)→(List ao)→Int→Option (aO)):Nat→(List ai)→(List Int)→(List Int)→Int→Option (aO)
  | 0,_,_,_,_=>none
  | k+1,s4,s5,s6,s7=>
    ((idx p0.Rules s3).bind fun x1=>(if decide (s7 < (x1.Pats.length:Int)) then ((idx p0.Rules s3).bind fun x2=>((idx x2.Pats s7).bind fun x3=>((lS N x3).bind fun x4=>((lA N (⟨s4,s2⟩:aO) x4).bind fun x5=>(if x3.Not then ((app s5 ([x5.1]:List Int)).bind fun x6=>((ei N p0 s2 s3 K1 k) x5.2.Alphas x6 s6 (i64.wrap (s7+1)))) else ((app s6 ([x5.1]:List Int)).bind fun x7=>((ei N p0 s2 s3 K1 k) x5.2.Alphas s5 x7 (i64.wrap (s7+1))))))))) else ((app s2 ([(⟨s6,s5⟩:ao)]:List ao)).bind fun x8=>(K1 s4 x8 (i64.wrap (s3+1))))))
def d6 (N:Nat) (p0:bm):Nat→(List ai)→(List ao)→Int→Option (aO)
  | 0,_,_,_=>none
  | k+1,s1,s2,s3=>
    (if decide (s3 < (p0.Rules.length:Int)) then ei N p0 s2 s3 (d6 N p0 k) N s1 ([]:List Int) ([]:List Int) 0 else some (⟨s1,s2⟩:aO))
def kI (N:Nat) (p0:bm):Option (aO):=
  d6 N p0 N ([]:List ai) ([]:List ao) 0
def ie (N:Nat) (p0:aO) (s3:(List aJ)) (s4:Int) (K2:(List aJ)→Int→Option (ax)):Nat→(List aj)→Int→Option (ax)
  | 0,_,_=>none
  | k+1,s5,s6=>
    ((idx p0.Chains s4).bind fun x2=>(if decide (s6 < (x2.Pos.length:Int)) then ((app s5 ([(⟨[]⟩:aj)]:List aj)).bind fun x3=>((ie N p0 s3 s4 K2 k) x3 (i64.wrap (s6+1)))) else ((app s3 ([(⟨s5⟩:aJ)]:List aJ)).bind fun x4=>(K2 x4 (i64.wrap (s4+1))))))
def ee (N:Nat) (p0:aO) (s1:(List bk)):Nat→(List aJ)→Int→Option (ax)
  | 0,_,_=>none
  | k+1,s3,s4=>
    (if decide (s4 < (p0.Chains.length:Int)) then ie N p0 s3 s4 (ee N p0 s1 k) N ([]:List aj) 0 else some (⟨s1,s3⟩:ax))
def iq (N:Nat) (p0:aO):Nat→(List bk)→Int→Option (ax)
  | 0,_,_=>none
  | k+1,s1,s2=>
    (if decide (s2 < (p0.Alphas.length:Int)) then ((app s1 ([(⟨[]⟩:bk)]:List bk)).bind fun x1=>((iq N p0 k) x1 (i64.wrap (s2+1)))) else ee N p0 s1 N ([]:List aJ) 0)
def mL (N:Nat) (p0:aO):Option (ax):=
  iq N p0 N ([]:List bk) 0
def fc (N:Nat) (p0:(List Int)) (p1:Int):Nat→Int→Option (Bool)
  | 0,_=>none
  | k+1,s1=>
    (if decide (s1 < (p0.length:Int)) then ((idx p0 s1).bind fun x1=>(if decide (x1=p1) then some true else ((fc N p0 p1 k) (i64.wrap (s1+1))))) else some false)
def nL (N:Nat) (p0:(List Int)) (p1:Int):Option (Bool):=
  fc N p0 p1 N 0
def cI (N:Nat) (p0:(List af)) (p1:Int):Nat→(List af)→Int→Option ((List af))
  | 0,_,_=>none
  | k+1,s1,s2=>
    (if decide (s2 < (p0.length:Int)) then ((idx p0 s2).bind fun x1=>((nL N x1.Ids p1).bind fun x2=>(if !x2 then ((idx p0 s2).bind fun x3=>((app s1 ([x3]:List af)).bind fun x4=>((cI N p0 p1 k) x4 (i64.wrap (s2+1))))) else ((cI N p0 p1 k) s1 (i64.wrap (s2+1)))))) else some s1)
def iK (N:Nat) (p0:(List af)) (p1:Int):Option ((List af)):=
  ((xx p0).bind fun _=>cI N p0 p1 N ([]:List af) 0)
def dy (N:Nat) (p3:Int) (s1:(List bk)) (s2:Int) (K1:(List bk)→Int→Option (ax)):Nat→(List Int)→Int→Option (ax)
  | 0,_,_=>none
  | k+1,s3,s4=>
    ((idx s1 s2).bind fun x2=>(if decide (s4 < (x2.L.length:Int)) then ((idx s1 s2).bind fun x3=>((idx x3.L s4).bind fun x4=>(if !decide (x4=p3) then ((idx s1 s2).bind fun x5=>((idx x5.L s4).bind fun x6=>((app s3 ([x6]:List Int)).bind fun x7=>((dy N p3 s1 s2 K1 k) x7 (i64.wrap (s4+1)))))) else ((dy N p3 s1 s2 K1 k) s3 (i64.wrap (s4+1)))))) else ((idx s1 s2).bind fun x8=>(K1 (s1.set s2.toNat (⟨s3⟩:bk)) (i64.wrap (s2+1))))))
def ev (N:Nat) (p0:bm) (p2:ah) (p3:Int) (x1:aA × Bool) (s5:(List aJ)) (s6:Int) (K3:(List aJ)→Int→Option (ax)):Nat→(List aj)→Int→Option (ax)
  | 0,_,_=>none
  | k+1,s7,s8=>
    (if decide (s8 < (s7.length:Int)) then ((idx s7 s8).bind fun x10=>((iK N x10.Toks p3).bind fun x11=>((ev N p0 p2 p3 x1 s5 s6 K3 k) (s7.set s8.toNat (⟨x11⟩:aj)) (i64.wrap (s8+1))))) else ((idx p0.Rules s6).bind fun x12=>((idx s7 (i64.wrap ((s7.length:Int) - 1))).bind fun x13=>((jy N x12 p2 x13.Toks x1.1 (-1)).bind fun x14=>(K3 (s5.set s6.toNat (⟨(s7.set (i64.wrap ((s7.length:Int) - 1)).toNat (⟨x14⟩:aj))⟩:aJ)) (i64.wrap (s6+1)))))))
def dC (N:Nat) (p0:bm) (p2:ah) (p3:Int) (x1:aA × Bool) (s1:(List bk)):Nat→(List aJ)→Int→Option (ax)
  | 0,_,_=>none
  | k+1,s5,s6=>
    (if decide (s6 < (p0.Rules.length:Int)) then ((idx s5 s6).bind fun x9=>ev N p0 p2 p3 x1 s5 s6 (dC N p0 p2 p3 x1 s1 k) N x9.Levels 0) else some (⟨s1,s5⟩:ax))
def d9 (N:Nat) (p0:bm) (p1:ax) (p2:ah) (p3:Int) (x1:aA × Bool):Nat→(List bk)→Int→Option (ax)
  | 0,_,_=>none
  | k+1,s1,s2=>
    (if decide (s2 < (s1.length:Int)) then dy N p3 s1 s2 (d9 N p0 p1 p2 p3 x1 k) N ([]:List Int) 0 else dC N p0 p2 p3 x1 s1 N p1.Rules 0)
def lj (N:Nat) (p0:bm) (p1:ax) (p2:ah) (p3:Int):Option (ax):=
  ((iL N p2 p3).bind fun x1=>d9 N p0 p1 p2 p3 x1 N p1.Alphas 0)
def eh (N:Nat) (p0:ah) (p1:Int):Nat→(List aP)→Int→Option (Bool × ah)
  | 0,_,_=>none
  | k+1,s1,s2=>
    (if decide (s2 < (p0.Items.length:Int)) then ((idx p0.Items s2).bind fun x1=>(if !decide (x1.Id=p1) then ((idx p0.Items s2).bind fun x2=>((app s1 ([x2]:List aP)).bind fun x3=>((eh N p0 p1 k) x3 (i64.wrap (s2+1))))) else ((eh N p0 p1 k) s1 (i64.wrap (s2+1))))) else some (decide ((s1.length:Int) < (p0.Items.length:Int)),(⟨s1,p0.Next⟩:ah)))
def mJ (N:Nat) (p0:ah) (p1:Int):Option (Bool × ah):=
  eh N p0 p1 N ([]:List aP) 0
def eD (N:Nat) (p0:a8) (x1:bm × a8) (x2:aO):Nat→(List bk)→(List aJ)→(List aP)→Int→Int→Int→Int→Option (bm × aO × ax × ah × a8)
  | 0,_,_,_,_,_,_,_=>none
  | k+1,s1,s2,s3,s4,s5,s6,s7=>
    (if decide (0 < s4) then ((dL N (⟨p0.b,s5,s6⟩:a8) 4).bind fun x6=>((if x6.1 then some (decide (0 < (s3.length:Int))) else some false).bind fun b4=>(if b4 then ((aV N (⟨p0.b,x6.2.i,x6.2.h⟩:a8) (s3.length:Int)).bind fun x7=>((idx s3 x7.1).bind fun x8=>((lj N x1.1 (⟨s1,s2⟩:ax) (⟨s3,s7⟩:ah) x8.Id).bind fun x9=>((mJ N (⟨s3,s7⟩:ah) x8.Id).bind fun x10=>((eD N p0 x1 x2 k) x9.Alphas x9.Rules x10.2.Items (i64.wrap (s4 - 1)) x7.2.i x7.2.h x10.2.Next))))) else ((kC N (⟨p0.b,x6.2.i,x6.2.h⟩:a8)).bind fun x11=>((lO N (⟨s3,s7⟩:ah) x11.1).bind fun x12=>(if decide (x12=0) then ((gN N (⟨s3,s7⟩:ah) x11.1).bind fun x13=>((kJ N x1.1 x2 (⟨s1,s2⟩:ax) x13.2 x13.1).bind fun x15=>((eD N p0 x1 x2 k) x15.Alphas x15.Rules x13.2.Items (i64.wrap (s4 - 1)) x11.2.i x11.2.h x13.2.Next))) else ((eD N p0 x1 x2 k) s1 s2 s3 (i64.wrap (s4 - 1)) x11.2.i x11.2.h s7))))))) else some (x1.1,x2,(⟨s1,s2⟩:ax),(⟨s3,s7⟩:ah),(⟨p0.b,s5,s6⟩:a8)))
def l7 (N:Nat) (p0:a8):Option (bm × aO × ax × ah × a8):=
  ((lU N p0).bind fun x1=>((kI N x1.1).bind fun x2=>((mL N x2).bind fun x4=>((aV N (⟨p0.b,x1.2.i,x1.2.h⟩:a8) 10).bind fun x5=>eD N p0 x1 x2 N x4.Alphas x4.Rules ([]:List aP) x5.1 x5.2.i x5.2.h 1))))
def iU (N:Nat) (p0:a8) (p1:ah) (s1:Bool) (s2:Int) (s3:Int):Option (Int × a8):=
  (if s1 then ((aV N (⟨p0.b,s2,s3⟩:a8) (p1.Items.length:Int)).bind fun x1=>((idx p1.Items x1.1).bind fun x2=>some (x2.Id,(⟨p0.b,x1.2.i,x1.2.h⟩:a8)))) else ((aV N (⟨p0.b,s2,s3⟩:a8) 9).bind fun x3=>some (x3.1,(⟨p0.b,x3.2.i,x3.2.h⟩:a8))))
def qm (N:Nat) (p0:a8) (p1:ah):Option (Int × a8):=
  (if decide (0 < (p1.Items.length:Int)) then ((dL N p0 4).bind fun x4=>iU N p0 p1 (!x4.1) x4.2.i x4.2.h) else iU N p0 p1 false p0.i p0.h)
def ko (N:Nat) (s4:Int) (K2:(List ao)→Int→Option (aO)) (s5:(List ao)):Option (aO):=
  (K2 s5 (i64.wrap (s4+1)))
def d8 (N:Nat) (p0:aO) (s1:(List ai)):Nat→(List ao)→Int→Option (aO)
  | 0,_,_=>none
  | k+1,s3,s4=>
    (if decide (s4 < (p0.Chains.length:Int)) then ((idx p0.Chains s4).bind fun x5=>((app ([]:List Int) x5.Pos).bind fun x9=>((app ([]:List Int) x5.Neg).bind fun x10=>((app s3 ([(⟨x9,x10⟩:ao)]:List ao)).bind fun x11=>ko N s4 (d8 N p0 s1 k) x11)))) else some (⟨s1,s3⟩:aO))
def fC (N:Nat) (p0:aO):Nat→(List ai)→Int→Option (aO)
  | 0,_,_=>none
  | k+1,s1,s2=>
    (if decide (s2 < (p0.Alphas.length:Int)) then ((idx p0.Alphas s2).bind fun x1=>((app ([]:List bn) x1.Consts).bind fun x2=>((app ([]:List Int) x1.At).bind fun x3=>((app s1 ([(⟨x1.Kind,x1.N,x2,x3⟩:ai)]:List ai)).bind fun x4=>((fC N p0 k) x4 (i64.wrap (s2+1))))))) else d8 N p0 s1 N ([]:List ao) 0)
def lI (N:Nat) (p0:aO):Option (aO):=
  fC N p0 N ([]:List ai) 0
def ez (N:Nat) (p0:a8) (s1:(List ai)) (s2:(List ao)) (s3:Int) (s4:Int):Option (aO × a8):=
  some ((⟨s1,s2⟩:aO),(⟨p0.b,s3,s4⟩:a8))
def lG (N:Nat) (p0:a8) (p1:aO):Option (aO × a8):=
  ((lI N p1).bind fun x1=>((aV N p0 6).bind fun x2=>(if decide (x2.1=0) then (if decide (0 < (x1.Alphas.length:Int)) then ((idx x1.Alphas 0).bind fun x3=>((aV N (⟨p0.b,x2.2.i,x2.2.h⟩:a8) 6).bind fun x4=>ez N p0 (x1.Alphas.set (0:Int).toNat (⟨x3.Kind,x4.1,x3.Consts,x3.At⟩:ai)) x1.Chains x4.2.i x4.2.h)) else ez N p0 x1.Alphas x1.Chains x2.2.i x2.2.h) else (if decide (x2.1=1) then (if decide (0 < (x1.Chains.length:Int)) then ((idx x1.Chains 0).bind fun x5=>((aV N (⟨p0.b,x2.2.i,x2.2.h⟩:a8) 5).bind fun x6=>((app x5.Pos ([i64.wrap (x6.1 - 1)]:List Int)).bind fun x7=>ez N p0 x1.Alphas (x1.Chains.set (0:Int).toNat (⟨x7,x5.Neg⟩:ao)) x6.2.i x6.2.h))) else ez N p0 x1.Alphas x1.Chains x2.2.i x2.2.h) else (if decide (x2.1=2) then ((app x1.Alphas ([(⟨(⟨#[120]⟩:ByteArray),0,[],[]⟩:ai)]:List ai)).bind fun x8=>ez N p0 x8 x1.Chains x2.2.i x2.2.h) else ez N p0 x1.Alphas x1.Chains x2.2.i x2.2.h)))))
def gU (N:Nat) (s2:Int) (K1:(List af)→Int→Option ((List af))) (s3:(List af)):Option ((List af)):=
  (K1 s3 (i64.wrap (s2+1)))
def cu (N:Nat) (p0:(List af)):Nat→(List af)→Int→Option ((List af))
  | 0,_,_=>none
  | k+1,s1,s2=>
    (if decide (s2 < (p0.length:Int)) then ((idx p0 s2).bind fun x6=>((idx p0 s2).bind fun x7=>((app ([]:List Int) x6.Ids).bind fun x8=>((app ([]:List Int) x7.Hits).bind fun x9=>((app s1 ([(⟨x8,x9⟩:af)]:List af)).bind fun x10=>gU N s2 (cu N p0 k) x10))))) else some s1)
def hH (N:Nat) (p0:(List af)):Option ((List af)):=
  cu N p0 N ([]:List af) 0
def eJ (N:Nat) (p0:ax) (s3:(List aJ)) (s4:Int) (K2:(List aJ)→Int→Option (ax)):Nat→(List aj)→Int→Option (ax)
  | 0,_,_=>none
  | k+1,s5,s6=>
    ((idx p0.Rules s4).bind fun x4=>(if decide (s6 < (x4.Levels.length:Int)) then ((idx p0.Rules s4).bind fun x5=>((idx x5.Levels s6).bind fun x6=>((hH N x6.Toks).bind fun x7=>((app s5 ([(⟨x7⟩:aj)]:List aj)).bind fun x8=>((eJ N p0 s3 s4 K2 k) x8 (i64.wrap (s6+1))))))) else ((app s3 ([(⟨s5⟩:aJ)]:List aJ)).bind fun x9=>(K2 x9 (i64.wrap (s4+1))))))
def dt (N:Nat) (p0:ax) (s1:(List bk)):Nat→(List aJ)→Int→Option (ax)
  | 0,_,_=>none
  | k+1,s3,s4=>
    (if decide (s4 < (p0.Rules.length:Int)) then eJ N p0 s3 s4 (dt N p0 s1 k) N ([]:List aj) 0 else some (⟨s1,s3⟩:ax))
def fE (N:Nat) (p0:ax):Nat→(List bk)→Int→Option (ax)
  | 0,_,_=>none
  | k+1,s1,s2=>
    (if decide (s2 < (p0.Alphas.length:Int)) then ((idx p0.Alphas s2).bind fun x1=>((app ([]:List Int) x1.L).bind fun x2=>((app s1 ([(⟨x2⟩:bk)]:List bk)).bind fun x3=>((fE N p0 k) x3 (i64.wrap (s2+1)))))) else dt N p0 s1 N ([]:List aJ) 0)
def jK (N:Nat) (p0:ax):Option (ax):=
  fE N p0 N ([]:List bk) 0
def et (N:Nat) (p0:a8) (s1:(List bk)) (s2:(List aJ)) (s3:Int) (s4:Int):Option (ax × a8):=
  some ((⟨s1,s2⟩:ax),(⟨p0.b,s3,s4⟩:a8))
def l8 (N:Nat) (p0:a8) (p1:ax):Option (ax × a8):=
  ((jK N p1).bind fun x1=>((aV N p0 6).bind fun x2=>(if decide (x2.1=0) then (if decide (0 < (x1.Alphas.length:Int)) then ((idx x1.Alphas 0).bind fun x3=>((aV N (⟨p0.b,x2.2.i,x2.2.h⟩:a8) 9).bind fun x4=>((app x3.L ([x4.1]:List Int)).bind fun x5=>et N p0 (x1.Alphas.set (0:Int).toNat (⟨x5⟩:bk)) x1.Rules x4.2.i x4.2.h))) else et N p0 x1.Alphas x1.Rules x2.2.i x2.2.h) else (if decide (x2.1=1) then ((if decide (0 < (x1.Rules.length:Int)) then ((idx x1.Rules 0).bind fun x6=>some (decide (0 < (x6.Levels.length:Int)))) else some false).bind fun b3=>(if b3 then ((idx x1.Rules 0).bind fun x7=>((idx x7.Levels 0).bind fun x8=>((aV N (⟨p0.b,x2.2.i,x2.2.h⟩:a8) 9).bind fun x9=>((app x8.Toks ([(⟨([x9.1]:List Int),[]⟩:af)]:List af)).bind fun x10=>et N p0 x1.Alphas (x1.Rules.set (0:Int).toNat (⟨(x7.Levels.set (0:Int).toNat (⟨x10⟩:aj))⟩:aJ)) x9.2.i x9.2.h)))) else et N p0 x1.Alphas x1.Rules x2.2.i x2.2.h)) else (if decide (x2.1=2) then ((app x1.Rules ([(⟨[]⟩:aJ)]:List aJ)).bind fun x11=>et N p0 x1.Alphas x11 x2.2.i x2.2.h) else et N p0 x1.Alphas x1.Rules x2.2.i x2.2.h)))))
def bK (N:Nat) (x2:bm × aO × ax × ah × a8) (s1:(List aP)) (s3:Int) (s4:(List ai)) (s5:(List ao)) (s6:(List bk)) (s7:(List aJ)) (s8:Int):Option (bm × aO × ax × ah × Int):=
  some (x2.1,(⟨s4,s5⟩:aO),(⟨s6,s7⟩:ax),(⟨s1,s3⟩:ah),s8)
def dM (N:Nat) (x1:a8) (x2:bm × aO × ax × ah × a8) (x5:Int × a8) (s1:(List aP)) (s2:Int) (s3:Int):Option (bm × aO × ax × ah × Int):=
  ((aV N (⟨x1.b,x5.2.i,x5.2.h⟩:a8) 12).bind fun x7=>(if decide (x7.1=0) then ((lG N (⟨x1.b,x7.2.i,x7.2.h⟩:a8) x2.2.1).bind fun x8=>bK N x2 s1 s3 x8.1.Alphas x8.1.Chains x2.2.2.1.Alphas x2.2.2.1.Rules s2) else (if decide (x7.1=1) then ((l8 N (⟨x1.b,x7.2.i,x7.2.h⟩:a8) x2.2.2.1).bind fun x9=>bK N x2 s1 s3 x2.2.1.Alphas x2.2.1.Chains x9.1.Alphas x9.1.Rules s2) else (if decide (x7.1=2) then ((aV N (⟨x1.b,x7.2.i,x7.2.h⟩:a8) 30).bind fun x10=>bK N x2 s1 s3 x2.2.1.Alphas x2.2.1.Chains x2.2.2.1.Alphas x2.2.2.1.Rules x10.1) else bK N x2 s1 s3 x2.2.1.Alphas x2.2.1.Chains x2.2.2.1.Alphas x2.2.2.1.Rules s2))))
def hJ (N:Nat) (p0:(List Int)):Option (bm × aO × ax × ah × Int):=
  ((oL N p0).bind fun x1=>((l7 N x1).bind fun x2=>((kC N (⟨x1.b,x2.2.2.2.2.i,x2.2.2.2.2.h⟩:a8)).bind fun x4=>((qm N (⟨x1.b,x4.2.i,x4.2.h⟩:a8) x2.2.2.2.1).bind fun x5=>((lO N x2.2.2.2.1 x4.1).bind fun x6=>(if decide (x6=0) then ((gN N x2.2.2.2.1 x4.1).bind fun x11=>dM N x1 x2 x5 x11.2.Items x11.1 x11.2.Next) else dM N x1 x2 x5 x2.2.2.2.1.Items x5.1 x2.2.2.2.1.Next))))))
def bN (N:Nat) (p0:(List Int)):Option ((List Int)):=
  ((app ([]:List Int) p0).bind fun x1=>some x1)
def eH (N:Nat) (s5:(List aj)) (s6:Int) (K3:(List aj)→Int→Option (ax)) (x5:aj):Nat→(List af)→Int→Option (ax)
  | 0,_,_=>none
  | k+1,s7,s8=>
    (if decide (s8 < (x5.Toks.length:Int)) then ((idx x5.Toks s8).bind fun x6=>((bN N x6.Ids).bind fun x7=>((bN N x6.Hits).bind fun x8=>((app s7 ([(⟨x7,x8⟩:af)]:List af)).bind fun x9=>((eH N s5 s6 K3 x5 k) x9 (i64.wrap (s8+1))))))) else ((app s5 ([(⟨s7⟩:aj)]:List aj)).bind fun x10=>(K3 x10 (i64.wrap (s6+1)))))
def dk (N:Nat) (s3:(List aJ)) (s4:Int) (K2:(List aJ)→Int→Option (ax)) (x4:aJ):Nat→(List aj)→Int→Option (ax)
  | 0,_,_=>none
  | k+1,s5,s6=>
    (if decide (s6 < (x4.Levels.length:Int)) then ((idx x4.Levels s6).bind fun x5=>eH N s5 s6 (dk N s3 s4 K2 x4 k) x5 N ([]:List af) 0) else ((app s3 ([(⟨s5⟩:aJ)]:List aJ)).bind fun x11=>(K2 x11 (i64.wrap (s4+1)))))
def cR (N:Nat) (p0:ax) (s1:(List bk)):Nat→(List aJ)→Int→Option (ax)
  | 0,_,_=>none
  | k+1,s3,s4=>
    (if decide (s4 < (p0.Rules.length:Int)) then ((idx p0.Rules s4).bind fun x4=>dk N s3 s4 (cR N p0 s1 k) x4 N ([]:List aj) 0) else some (⟨s1,s3⟩:ax))
def fD (N:Nat) (p0:ax):Nat→(List bk)→Int→Option (ax)
  | 0,_,_=>none
  | k+1,s1,s2=>
    (if decide (s2 < (p0.Alphas.length:Int)) then ((idx p0.Alphas s2).bind fun x1=>((bN N x1.L).bind fun x2=>((app s1 ([(⟨x2⟩:bk)]:List bk)).bind fun x3=>((fD N p0 k) x3 (i64.wrap (s2+1)))))) else cR N p0 s1 N ([]:List aJ) 0)
def lJ (N:Nat) (p0:ax):Option (ax):=
  fD N p0 N ([]:List bk) 0
def eP (N:Nat) (p0:(List bn)):Option ((List bn)):=
  ((app ([]:List bn) p0).bind fun x1=>some x1)
def kl (N:Nat) (p0:aA):Option (aA):=
  ((eP N p0.Fields).bind fun x1=>some (⟨p0.Kind,x1⟩:aA))
def fk (N:Nat) (p0:ah) (p1:Int):Nat→Int→Option (aA × Bool)
  | 0,_=>none
  | k+1,s1=>
    (if decide (s1 < (p0.Items.length:Int)) then ((idx p0.Items s1).bind fun x1=>(if decide (x1.Id=p1) then ((kl N x1.F).bind fun x2=>some (x2,true)) else ((fk N p0 p1 k) (i64.wrap (s1+1))))) else some ((⟨(⟨#[]⟩:ByteArray),[]⟩:aA),false))
def gL (N:Nat) (p0:ah) (p1:Int):Option (aA × Bool):=
  fk N p0 p1 N 0
def iF (N:Nat) (p0:Int):Option (Bool):=
  ((if decide (97≤p0) then some (decide (p0≤122)) else some false).bind fun b1=>some b1)
def o4 (N:Nat) (p0:Int):Option (Bool):=
  ((if decide (48≤p0) then some (decide (p0≤57)) else some false).bind fun b1=>some b1)
def gA (N:Nat) (p0:Int):Option (Bool):=
  ((iF N p0).bind fun x1=>((if x1 then some true else ((o4 N p0).bind fun x2=>some x2)).bind fun b1=>((if b1 then some true else some (decide (p0=95))).bind fun b2=>some b2)))
def ec (N:Nat) (p0:ByteArray):Nat→Int→Option (Bool)
  | 0,_=>none
  | k+1,s1=>
    (if decide (s1 < (p0.size:Int)) then ((idx p0.data.toList s1).bind fun y1=>((gA N (y1.toNat:Int)).bind fun x1=>(if !x1 then some false else ((ec N p0 k) (i64.wrap (s1+1)))))) else some true)
def kP (N:Nat) (p0:ByteArray) (p1:Int):Option (Bool):=
  (if decide (p1 < (p0.size:Int)) then some false else ec N p0 N 0)
def fF (N:Nat) (p0:ByteArray):Option (Bool):=
  ((if decide (0 < (p0.size:Int)) then ((idx p0.data.toList 0).bind fun y1=>((iF N (y1.toNat:Int)).bind fun x1=>some x1)) else some false).bind fun b1=>((if b1 then ((kP N p0 12).bind fun x2=>some x2) else some false).bind fun b2=>some b2))
def cn (N:Nat) (p0:Int) (p1:Int) (p2:Int):Option (Bool):=
  ((if decide (p1≤p0) then some (decide (p0≤p2)) else some false).bind fun b1=>some b1)
def cV (N:Nat) (p0:an):Nat→Int→Int→Option (Int)
  | 0,_,_=>none
  | k+1,s1,s2=>
    (if decide (s2 < (p0.Pats.length:Int)) then ((idx p0.Pats s2).bind fun x1=>(if !x1.Not then ((cV N p0 k) (i64.wrap (s1+1)) (i64.wrap (s2+1))) else ((cV N p0 k) s1 (i64.wrap (s2+1))))) else some s1)
def gW (N:Nat) (p0:an):Option (Int):=
  cV N p0 N 0 0
def jJ (N:Nat) (p0:bn):Option (Bool):=
  (if decide (p0.K=1) then ((cn N p0.N (-1000000000) 1000000000).bind fun x1=>((if x1 then some (seq p0.S (⟨#[]⟩:ByteArray)) else some false).bind fun b1=>some b1)) else (if decide (p0.K=2) then ((if decide (p0.N=0) then ((kP N p0.S 20).bind fun x2=>some x2) else some false).bind fun b2=>some b2) else some false))
def jH (N:Nat) (p0:Int):Option (Bool):=
  ((if decide (65≤p0) then some (decide (p0≤90)) else some false).bind fun b1=>some b1)
def fQ (N:Nat) (p0:ByteArray):Nat→Int→Option (Bool)
  | 0,_=>none
  | k+1,s1=>
    (if decide (s1 < (p0.size:Int)) then ((idx p0.data.toList s1).bind fun y2=>((gA N (y2.toNat:Int)).bind fun x2=>((if !x2 then ((idx p0.data.toList s1).bind fun y3=>((jH N (y3.toNat:Int)).bind fun x3=>some (!x3))) else some false).bind fun b3=>(if b3 then some false else ((fQ N p0 k) (i64.wrap (s1+1))))))) else some true)
def oP (N:Nat) (p0:ByteArray):Option (Bool):=
  ((if decide ((p0.size:Int) < 1) then some true else some (decide (12 < (p0.size:Int)))).bind fun b1=>((if b1 then some true else ((idx p0.data.toList 0).bind fun y1=>((jH N (y1.toNat:Int)).bind fun x1=>some (!x1)))).bind fun b2=>(if b2 then some false else fQ N p0 N 0)))
def mA (N:Nat) (p0:bD):Option (Bool):=
  (if decide (p0.K=1) then ((oP N p0.S).bind fun x1=>((if x1 then some (bo p0.V (⟨0,0,(⟨#[]⟩:ByteArray)⟩:bn)) else some false).bind fun b1=>some b1)) else (if decide (p0.K=2) then ((if seq p0.S (⟨#[]⟩:ByteArray) then ((jJ N p0.V).bind fun x2=>some x2) else some false).bind fun b2=>some b2) else (if decide (p0.K=3) then ((if seq p0.S (⟨#[]⟩:ByteArray) then some (bo p0.V (⟨0,0,(⟨#[]⟩:ByteArray)⟩:bn)) else some false).bind fun b3=>some b3) else some false)))
def fU (N:Nat) (p0:av):Nat→Int→Option (Bool)
  | 0,_=>none
  | k+1,s1=>
    (if decide (s1 < (p0.Args.length:Int)) then ((idx p0.Args s1).bind fun x2=>((mA N x2).bind fun x3=>(if !x3 then some false else ((fU N p0 k) (i64.wrap (s1+1)))))) else some true)
def oy (N:Nat) (p0:av):Option (Bool):=
  ((fF N p0.Kind).bind fun x1=>((if !x1 then some true else some (decide (5 < (p0.Args.length:Int)))).bind fun b1=>(if b1 then some false else fU N p0 N 0)))
def dX (N:Nat) (p0:an):Nat→Int→Option (Bool)
  | 0,_=>none
  | k+1,s1=>
    (if decide (s1 < (p0.Pats.length:Int)) then ((idx p0.Pats s1).bind fun x4=>((oy N x4).bind fun x5=>((if !x5 then some true else ((gW N p0).bind fun x6=>some (x4.Not != (decide (x6≤s1))))).bind fun b2=>(if b2 then some false else ((dX N p0 k) (i64.wrap (s1+1))))))) else some true)
def mR (N:Nat) (p0:an):Option (Bool):=
  ((cn N (p0.Pats.length:Int) 1 6).bind fun x1=>((if !x1 then some true else ((gW N p0).bind fun x2=>((cn N x2 1 3).bind fun x3=>some (!x3)))).bind fun b1=>(if b1 then some false else dX N p0 N 0)))
def gQ (N:Nat) (p0:bD):Option (Bool):=
  ((if !decide (p0.K=3) then ((mA N p0).bind fun x1=>some x1) else some false).bind fun b1=>some b1)
def nD (N:Nat) (p0:dK):Option (Bool):=
  ((cn N p0.Op 1 3).bind fun x1=>((if x1 then ((gQ N p0.L).bind fun x2=>some x2) else some false).bind fun b1=>((if b1 then ((gQ N p0.R).bind fun x3=>some x3) else some false).bind fun b2=>some b2)))
def ij (N:Nat) (p0:bX) (s1:Bool):Option (Bool):=
  (if s1 then ((gQ N p0.L).bind fun x2=>((if x2 then ((gQ N p0.R).bind fun x3=>some x3) else some false).bind fun b2=>some b2)) else some false)
def mQ (N:Nat) (p0:bX):Option (Bool):=
  (if seq p0.Op (⟨#[]⟩:ByteArray) then ((gQ N p0.L).bind fun x1=>((if x1 then some (lF p0.R (⟨0,(⟨#[]⟩:ByteArray),(⟨0,0,(⟨#[]⟩:ByteArray)⟩:bn)⟩:bD)) else some false).bind fun b1=>some b1)) else (if seq p0.Op (⟨#[43]⟩:ByteArray) then ij N p0 (seq p0.Op (⟨#[43]⟩:ByteArray)) else ij N p0 (seq p0.Op (⟨#[45]⟩:ByteArray))))
def ed (N:Nat) (p0:cU):Nat→Int→Option (Bool)
  | 0,_=>none
  | k+1,s1=>
    (if decide (s1 < (p0.Args.length:Int)) then ((idx p0.Args s1).bind fun x2=>((mQ N x2).bind fun x3=>(if !x3 then some false else ((ed N p0 k) (i64.wrap (s1+1)))))) else some true)
def jv (N:Nat) (p0:cU):Option (Bool):=
  ((fF N p0.Name).bind fun x1=>((if !x1 then some true else some (decide (5 < (p0.Args.length:Int)))).bind fun b1=>(if b1 then some false else ed N p0 N 0)))
def pi (N:Nat) (p0:ByteArray):Option (Bool):=
  ((if seq p0 (⟨#[]⟩:ByteArray) then some true else ((fF N p0).bind fun x1=>some x1)).bind fun b1=>some b1)
def iY (N:Nat) (p0:cU) (b1:Bool) (s1:Bool):Option (Bool):=
  (if s1 then ((if b1 then some (decide (p0.N=0)) else some false).bind fun b10=>((if b10 then some (seq p0.Undo (⟨#[]⟩:ByteArray)) else some false).bind fun b11=>some b11)) else some false)
def oC (N:Nat) (p0:cU):Option (Bool):=
  ((if seq p0.Name (⟨#[]⟩:ByteArray) then some (decide ((p0.Args.length:Int)=0)) else some false).bind fun b1=>(if decide (p0.Kind=1) then ((jv N p0).bind fun x1=>((if x1 then some (decide (p0.N=0)) else some false).bind fun b2=>((if b2 then some (seq p0.Undo (⟨#[]⟩:ByteArray)) else some false).bind fun b3=>some b3))) else (if decide (p0.Kind=2) then ((if b1 then ((cn N p0.N 0 7).bind fun x2=>some x2) else some false).bind fun b4=>((if b4 then some (seq p0.Undo (⟨#[]⟩:ByteArray)) else some false).bind fun b5=>some b5)) else (if decide (p0.Kind=3) then ((jv N p0).bind fun x3=>((if x3 then some (decide (p0.N=0)) else some false).bind fun b6=>((if b6 then ((pi N p0.Undo).bind fun x4=>some x4) else some false).bind fun b7=>some b7))) else (if decide (p0.Kind=4) then ((jv N p0).bind fun x5=>((if x5 then ((cn N p0.N 0 100000).bind fun x6=>some x6) else some false).bind fun b8=>((if b8 then some (seq p0.Undo (⟨#[]⟩:ByteArray)) else some false).bind fun b9=>some b9))) else (if decide (p0.Kind=5) then iY N p0 b1 (decide (p0.Kind=5)) else iY N p0 b1 (decide (p0.Kind=6))))))))
def bf (N:Nat) (p0:(List ByteArray)) (p1:ByteArray):Nat→Int→Option (Int)
  | 0,_=>none
  | k+1,s1=>
    (if decide (s1 < (p0.length:Int)) then ((idx p0 s1).bind fun x1=>(if seq p1 x1 then some s1 else ((bf N p0 p1 k) (i64.wrap (s1+1))))) else some (-1))
def cD (N:Nat) (p0:(List ByteArray)) (p1:ByteArray):Option (Int):=
  bf N p0 p1 N 0
def bH (N:Nat) (p0:(List ByteArray)) (p1:ByteArray):Option (Bool):=
  ((cD N p0 p1).bind fun x1=>some (decide (0≤x1)))
def lv (N:Nat) (p0:(List ByteArray)) (p1:ByteArray):Option ((List ByteArray)):=
  ((bH N p0 p1).bind fun x1=>(if x1 then some p0 else ((app p0 ([p1]:List ByteArray)).bind fun x2=>some x2)))
def eB (N:Nat) (p1:(List bD)):Nat→(List ByteArray)→Int→Option ((List ByteArray))
  | 0,_,_=>none
  | k+1,s1,s2=>
    (if decide (s2 < (p1.length:Int)) then ((idx p1 s2).bind fun x1=>(if decide (x1.K=1) then ((lv N s1 x1.S).bind fun x2=>((eB N p1 k) x2 (i64.wrap (s2+1)))) else ((eB N p1 k) s1 (i64.wrap (s2+1))))) else some s1)
def iR (N:Nat) (p0:(List ByteArray)) (p1:(List bD)):Option ((List ByteArray)):=
  eB N p1 N p0 0
def eA (N:Nat) (p0:an):Nat→(List ByteArray)→Int→Option ((List ByteArray))
  | 0,_,_=>none
  | k+1,s1,s2=>
    (if decide (s2 < (p0.Pats.length:Int)) then ((idx p0.Pats s2).bind fun x1=>(if !x1.Not then ((iR N s1 x1.Args).bind fun x2=>((eA N p0 k) x2 (i64.wrap (s2+1)))) else ((eA N p0 k) s1 (i64.wrap (s2+1))))) else some s1)
def jA (N:Nat) (p0:an):Option ((List ByteArray)):=
  eA N p0 N ([]:List ByteArray) 0
def dD (N:Nat) (s4:Int) (K2:(List ByteArray)→Int→Option ((List ByteArray))) (x3:cU):Nat→(List ByteArray)→Int→Option ((List ByteArray))
  | 0,_,_=>none
  | k+1,s5,s6=>
    (if decide (s6 < (x3.Args.length:Int)) then ((idx x3.Args s6).bind fun x4=>((iR N s5 ([x4.L,x4.R]:List bD)).bind fun x5=>((dD N s4 K2 x3 k) x5 (i64.wrap (s6+1))))) else (K2 s5 (i64.wrap (s4+1))))
def cz (N:Nat) (p0:an):Nat→(List ByteArray)→Int→Option ((List ByteArray))
  | 0,_,_=>none
  | k+1,s3,s4=>
    (if decide (s4 < (p0.Acts.length:Int)) then ((idx p0.Acts s4).bind fun x3=>dD N s4 (cz N p0 k) x3 N s3 0) else some s3)
def eT (N:Nat) (p0:an):Nat→(List ByteArray)→Int→Option ((List ByteArray))
  | 0,_,_=>none
  | k+1,s1,s2=>
    (if decide (s2 < (p0.Conds.length:Int)) then ((idx p0.Conds s2).bind fun x1=>((iR N s1 ([x1.L,x1.R]:List bD)).bind fun x2=>((eT N p0 k) x2 (i64.wrap (s2+1))))) else cz N p0 N s1 0)
def kr (N:Nat) (p0:an):Option ((List ByteArray)):=
  eT N p0 N ([]:List ByteArray) 0
def ek (N:Nat) (x10:(List ByteArray)) (x11:(List ByteArray)):Nat→Int→Option (Bool)
  | 0,_=>none
  | k+1,s3=>
    (if decide (s3 < (x11.length:Int)) then ((idx x11 s3).bind fun x12=>((bH N x10 x12).bind fun x13=>(if !x13 then some false else ((ek N x10 x11 k) (i64.wrap (s3+1)))))) else some true)
def ej (N:Nat) (p0:an):Nat→Int→Option (Bool)
  | 0,_=>none
  | k+1,s2=>
    (if decide (s2 < (p0.Acts.length:Int)) then ((idx p0.Acts s2).bind fun x7=>((oC N x7).bind fun x8=>((if !x8 then some true else ((if decide (x7.Kind=2) then ((gW N p0).bind fun x9=>some (decide (x9≤x7.N))) else some false).bind fun b5=>some b5)).bind fun b4=>(if b4 then some false else ((ej N p0 k) (i64.wrap (s2+1))))))) else ((jA N p0).bind fun x10=>((kr N p0).bind fun x11=>ek N x10 x11 N 0)))
def dZ (N:Nat) (p0:an):Nat→Int→Option (Bool)
  | 0,_=>none
  | k+1,s1=>
    (if decide (s1 < (p0.Conds.length:Int)) then ((idx p0.Conds s1).bind fun x5=>((nD N x5).bind fun x6=>(if !x6 then some false else ((dZ N p0 k) (i64.wrap (s1+1)))))) else ej N p0 N 0)
def mZ (N:Nat) (p0:an):Option (Bool):=
  ((fF N p0.Name).bind fun x1=>((if !x1 then some true else ((cn N p0.Sal (-100) 100).bind fun x2=>some (!x2))).bind fun b1=>((if b1 then some true else ((mR N p0).bind fun x3=>some (!x3))).bind fun b2=>(if b2 then some false else ((if decide (6 < (p0.Conds.length:Int)) then some true else ((cn N (p0.Acts.length:Int) 1 6).bind fun x4=>some (!x4))).bind fun b3=>(if b3 then some false else dZ N p0 N 0))))))
def aU (N:Nat) (p0:(List an)) (p1:an→Option (Bool)):Nat→Int→Option (Int)
  | 0,_=>none
  | k+1,s1=>
    (if decide (s1 < (p0.length:Int)) then ((idx p0 s1).bind fun x1=>((p1 x1).bind fun x2=>(if x2 then some s1 else ((aU N p0 p1 k) (i64.wrap (s1+1)))))) else some (-1))
def cH (N:Nat) (p0:(List an)) (p1:an→Option (Bool)):Option (Int):=
  aU N p0 p1 N 0
def ic (N:Nat) (p0:an) (c0:ByteArray):Option (Bool):=
  some (seq p0.Name c0)
def mP (N:Nat) (p0:bm) (p1:ByteArray):Option (Int):=
  ((cH N p0.Rules (fun a0=>ic N a0 p1)).bind fun x1=>some x1)
def eU (N:Nat) (p0:bm):Nat→Int→Option (Bool)
  | 0,_=>none
  | k+1,s1=>
    (if decide (s1 < (p0.Rules.length:Int)) then ((idx p0.Rules s1).bind fun x3=>((mZ N x3).bind fun x4=>((if !x4 then some true else ((mP N p0 x3.Name).bind fun x5=>some (!decide (x5=s1)))).bind fun b2=>(if b2 then some false else ((eU N p0 k) (i64.wrap (s1+1))))))) else some true)
def oN (N:Nat) (p0:bm):Option (Bool):=
  ((fF N p0.Name).bind fun x1=>((if !x1 then some true else ((cn N (p0.Rules.length:Int) 1 12).bind fun x2=>some (!x2))).bind fun b1=>(if b1 then some false else eU N p0 N 0)))
def bd (N:Nat) (p0:(List bn)) (p1:(List bn)):Nat→Int→Option (Bool)
  | 0,_=>none
  | k+1,s1=>
    (if decide (s1 < (p0.length:Int)) then ((idx p0 s1).bind fun x1=>((idx p1 s1).bind fun x2=>(if !(bo x1 x2) then some false else ((bd N p0 p1 k) (i64.wrap (s1+1)))))) else some true)
def bF (N:Nat) (p0:(List bn)) (p1:(List bn)):Option (Bool):=
  (if !decide ((p0.length:Int)=(p1.length:Int)) then some false else bd N p0 p1 N 0)
def cB (N:Nat) (p0:(List Int)) (p1:(List Int)):Nat→Int→Option (Bool)
  | 0,_=>none
  | k+1,s1=>
    (if decide (s1 < (p0.length:Int)) then ((idx p0 s1).bind fun x1=>((idx p1 s1).bind fun x2=>(if !decide (x1=x2) then some false else ((cB N p0 p1 k) (i64.wrap (s1+1)))))) else some true)
def cE (N:Nat) (p0:(List Int)) (p1:(List Int)):Option (Bool):=
  (if !decide ((p0.length:Int)=(p1.length:Int)) then some false else cB N p0 p1 N 0)
def d7 (N:Nat) (p0:ai) (p1:ai):Option (Bool):=
  ((if seq p0.Kind p1.Kind then some (decide (p0.N=p1.N)) else some false).bind fun b1=>((if b1 then ((bF N p0.Consts p1.Consts).bind fun x1=>some x1) else some false).bind fun b2=>((if b2 then ((cE N p0.At p1.At).bind fun x2=>some x2) else some false).bind fun b3=>some b3)))
def eG (N:Nat) (p0:av):Nat→(List bn)→(List Int)→Int→Option (ai)
  | 0,_,_,_=>none
  | k+1,s1,s2,s3=>
    (if decide (s3 < (p0.Args.length:Int)) then ((idx p0.Args s3).bind fun x1=>(if decide (x1.K=2) then ((app s1 ([x1.V]:List bn)).bind fun x2=>((app s2 ([s3]:List Int)).bind fun x3=>((eG N p0 k) x2 x3 (i64.wrap (s3+1))))) else ((eG N p0 k) s1 s2 (i64.wrap (s3+1))))) else some (⟨p0.Kind,(p0.Args.length:Int),s1,s2⟩:ai))
def lM (N:Nat) (p0:av):Option (ai):=
  eG N p0 N ([]:List bn) ([]:List Int) 0
def cq (N:Nat) (p0:aO) (x1:ai):Nat→Int→Option (Int × aO)
  | 0,_=>none
  | k+1,s1=>
    (if decide (s1 < (p0.Alphas.length:Int)) then ((idx p0.Alphas s1).bind fun x2=>((d7 N x2 x1).bind fun x3=>(if x3 then some (s1,p0) else ((cq N p0 x1 k) (i64.wrap (s1+1)))))) else ((app p0.Alphas ([x1]:List ai)).bind fun x4=>some (i64.wrap ((x4.length:Int) - 1),(⟨x4,p0.Chains⟩:aO))))
def hP (N:Nat) (p0:aO) (p1:av):Option (Int × aO):=
  ((lM N p1).bind fun x1=>cq N p0 x1 N 0)
def eW (N:Nat) (s2:(List ao)) (s3:Int) (K1:(List ai)→(List ao)→Int→Option (aO)) (x1:an):Nat→(List ai)→(List Int)→(List Int)→Int→Option (aO)
  | 0,_,_,_,_=>none
  | k+1,s4,s5,s6,s7=>
    (if decide (s7 < (x1.Pats.length:Int)) then ((idx x1.Pats s7).bind fun x2=>((hP N (⟨s4,s2⟩:aO) x2).bind fun x3=>(if x2.Not then ((app s5 ([x3.1]:List Int)).bind fun x4=>((eW N s2 s3 K1 x1 k) x3.2.Alphas x4 s6 (i64.wrap (s7+1)))) else ((app s6 ([x3.1]:List Int)).bind fun x5=>((eW N s2 s3 K1 x1 k) x3.2.Alphas s5 x5 (i64.wrap (s7+1))))))) else ((app s2 ([(⟨s6,s5⟩:ao)]:List ao)).bind fun x6=>(K1 s4 x6 (i64.wrap (s3+1)))))
def dU (N:Nat) (p0:bm):Nat→(List ai)→(List ao)→Int→Option (aO)
  | 0,_,_,_=>none
  | k+1,s1,s2,s3=>
    (if decide (s3 < (p0.Rules.length:Int)) then ((idx p0.Rules s3).bind fun x1=>eW N s2 s3 (dU N p0 k) x1 N s1 ([]:List Int) ([]:List Int) 0) else some (⟨s1,s2⟩:aO))
def oJ (N:Nat) (p0:bm):Option (aO):=
  dU N p0 N ([]:List ai) ([]:List ao) 0
def aE (N:Nat) (p0:(List ai)) (p1:(List ai)) (p2:ai→ai→Option (Bool)):Nat→Int→Option (Bool)
  | 0,_=>none
  | k+1,s1=>
    (if decide (s1 < (p0.length:Int)) then ((idx p0 s1).bind fun x1=>((idx p1 s1).bind fun x2=>((p2 x1 x2).bind fun x3=>(if !x3 then some false else ((aE N p0 p1 p2 k) (i64.wrap (s1+1))))))) else some true)
def aS (N:Nat) (p0:(List ai)) (p1:(List ai)) (p2:ai→ai→Option (Bool)):Option (Bool):=
  (if !decide ((p0.length:Int)=(p1.length:Int)) then some false else aE N p0 p1 p2 N 0)
def aF (N:Nat) (p0:(List ao)) (p1:(List ao)) (p2:ao→ao→Option (Bool)):Nat→Int→Option (Bool)
  | 0,_=>none
  | k+1,s1=>
    (if decide (s1 < (p0.length:Int)) then ((idx p0 s1).bind fun x1=>((idx p1 s1).bind fun x2=>((p2 x1 x2).bind fun x3=>(if !x3 then some false else ((aF N p0 p1 p2 k) (i64.wrap (s1+1))))))) else some true)
def aT (N:Nat) (p0:(List ao)) (p1:(List ao)) (p2:ao→ao→Option (Bool)):Option (Bool):=
  (if !decide ((p0.length:Int)=(p1.length:Int)) then some false else aF N p0 p1 p2 N 0)
def dW (N:Nat) (p0:ao) (p1:ao):Option (Bool):=
  ((cE N p0.Pos p1.Pos).bind fun x1=>((if x1 then ((cE N p0.Neg p1.Neg).bind fun x2=>some x2) else some false).bind fun b1=>some b1))
def mB (N:Nat) (p0:aO) (p1:bm):Option (Bool):=
  ((oN N p1).bind fun x1=>(if !x1 then some false else ((oJ N p1).bind fun x2=>((aS N p0.Alphas x2.Alphas (d7 N)).bind fun x3=>((if x3 then ((aT N p0.Chains x2.Chains (dW N)).bind fun x4=>some x4) else some false).bind fun b1=>some b1)))))
def dS (N:Nat) (p0:aA):Nat→Int→Option (Bool)
  | 0,_=>none
  | k+1,s1=>
    (if decide (s1 < (p0.Fields.length:Int)) then ((idx p0.Fields s1).bind fun x2=>((jJ N x2).bind fun x3=>(if !x3 then some false else ((dS N p0 k) (i64.wrap (s1+1)))))) else some true)
def nI (N:Nat) (p0:aA):Option (Bool):=
  ((fF N p0.Kind).bind fun x1=>((if !x1 then some true else some (decide (5 < (p0.Fields.length:Int)))).bind fun b1=>(if b1 then some false else dS N p0 N 0)))
def jN (N:Nat) (p0:aA) (p1:aA):Option (Bool):=
  ((if seq p0.Kind p1.Kind then ((bF N p0.Fields p1.Fields).bind fun x1=>some x1) else some false).bind fun b1=>some b1)
def dB (N:Nat) (s1:Int) (K1:Int→Option (Bool)) (x2:aP) (x6:(List aP)):Nat→Int→Option (Bool)
  | 0,_=>none
  | k+1,s2=>
    (if decide (s2 < (x6.length:Int)) then ((idx x6 s2).bind fun x7=>((jN N x2.F x7.F).bind fun x8=>(if x8 then some false else ((dB N s1 K1 x2 x6 k) (i64.wrap (s2+1)))))) else (K1 (i64.wrap (s1+1))))
def cp (N:Nat) (p0:ah):Nat→Int→Option (Bool)
  | 0,_=>none
  | k+1,s1=>
    (if decide (s1 < (p0.Items.length:Int)) then ((idx p0.Items s1).bind fun x2=>((nI N x2.F).bind fun x3=>((if !x3 then some true else ((cn N x2.Id 1 (i64.wrap (p0.Next - 1))).bind fun x4=>some (!x4))).bind fun b2=>((if b2 then some true else ((if decide (0 < s1) then ((idx p0.Items (i64.wrap (s1 - 1))).bind fun x5=>some (decide (x2.Id≤x5.Id))) else some false).bind fun b4=>some b4)).bind fun b3=>(if b3 then some false else ((ssl p0.Items 0 s1).bind fun x6=>dB N s1 (cp N p0 k) x2 x6 N 0)))))) else some true)
def lN (N:Nat) (p0:ah):Option (Bool):=
  ((if decide (40 < (p0.Items.length:Int)) then some true else ((cn N p0.Next 1 1000000).bind fun x1=>some (!x1))).bind fun b1=>(if b1 then some false else cp N p0 N 0))
def eg (N:Nat) (s2:Int) (K2:Int→Option (Bool)) (x3:aj) (s3:Int):Nat→Int→Option (Bool)
  | 0,_=>none
  | k+1,s4=>
    (if decide (s4 < (x3.Toks.length:Int)) then ((idx x3.Toks s4).bind fun x4=>((if !decide ((x4.Ids.length:Int)=i64.wrap (s2+1)) then some true else some (!decide ((x4.Hits.length:Int)=s3))).bind fun b2=>(if b2 then some false else ((eg N s2 K2 x3 s3 k) (i64.wrap (s4+1)))))) else (K2 (i64.wrap (s2+1))))
def gj (N:Nat) (s2:Int) (K2:Int→Option (Bool)) (x3:aj) (s3:Int):Option (Bool):=
  eg N s2 K2 x3 s3 N 0
def bQ (N:Nat) (s1:Int) (K1:Int→Option (Bool)) (x1:aJ) (x2:ao):Nat→Int→Option (Bool)
  | 0,_=>none
  | k+1,s2=>
    (if decide (s2 < (x1.Levels.length:Int)) then ((idx x1.Levels s2).bind fun x3=>(if decide (s2=i64.wrap ((x2.Pos.length:Int) - 1)) then gj N s2 (bQ N s1 K1 x1 x2 k) x3 (x2.Neg.length:Int) else gj N s2 (bQ N s1 K1 x1 x2 k) x3 0)) else (K1 (i64.wrap (s1+1))))
def bG (N:Nat) (p0:aO) (p1:ax):Nat→Int→Option (Bool)
  | 0,_=>none
  | k+1,s1=>
    (if decide (s1 < (p1.Rules.length:Int)) then ((idx p1.Rules s1).bind fun x1=>((idx p0.Chains s1).bind fun x2=>(if !decide ((x1.Levels.length:Int)=(x2.Pos.length:Int)) then some false else bQ N s1 (bG N p0 p1 k) x1 x2 N 0))) else some true)
def nK (N:Nat) (p0:aO) (p1:ax):Option (Bool):=
  ((if !decide ((p1.Alphas.length:Int)=(p0.Alphas.length:Int)) then some true else some (!decide ((p1.Rules.length:Int)=(p0.Chains.length:Int)))).bind fun b1=>(if b1 then some false else bG N p0 p1 N 0))
def nE (N:Nat) (p0:bm) (p1:aO) (p2:ax) (p3:ah) (p4:Int):Option (Bool):=
  ((mB N p1 p0).bind fun x1=>((if !x1 then some true else ((lN N p3).bind fun x2=>some (!x2))).bind fun b1=>((if b1 then some true else ((nK N p1 p2).bind fun x3=>some (!x3))).bind fun b2=>(if b2 then some false else ((gL N p3 p4).bind fun x4=>some x4.2)))))
def gl (N:Nat) (p0:ai) (p1:aA):Nat→Int→Option (Bool)
  | 0,_=>none
  | k+1,s1=>
    (if decide (s1 < (p0.At.length:Int)) then ((idx p0.At s1).bind fun x1=>((if decide (x1 < 0) then some true else some (decide ((p1.Fields.length:Int)≤x1))).bind fun b2=>((if b2 then some true else some (decide ((p0.Consts.length:Int)≤s1))).bind fun b3=>((if b3 then some true else ((idx p1.Fields x1).bind fun x2=>((idx p0.Consts s1).bind fun x3=>some (!(bo x2 x3))))).bind fun b4=>(if b4 then some false else ((gl N p0 p1 k) (i64.wrap (s1+1)))))))) else some true)
def nr (N:Nat) (p0:ai) (p1:aA):Option (Bool):=
  ((if !seq p1.Kind p0.Kind then some true else some (!decide ((p1.Fields.length:Int)=p0.N))).bind fun b1=>(if b1 then some false else gl N p0 p1 N 0))
def gE (N:Nat) (p0:an) (p1:Bool):Nat→(List av)→Int→Option ((List av))
  | 0,_,_=>none
  | k+1,s1,s2=>
    (if decide (s2 < (p0.Pats.length:Int)) then ((idx p0.Pats s2).bind fun x1=>(if (x1.Not == p1) then ((app s1 ([x1]:List av)).bind fun x2=>((gE N p0 p1 k) x2 (i64.wrap (s2+1)))) else ((gE N p0 p1 k) s1 (i64.wrap (s2+1))))) else some s1)
def oU (N:Nat) (p0:an) (p1:Bool):Option ((List av)):=
  gE N p0 p1 N ([]:List av) 0
def mo (N:Nat) (p0:bm) (p1:aO) (p2:ax) (p3:ah) (p4:Int) (p5:Int):Option (cj):=
  ((idx p0.Rules p5).bind fun x1=>((idx p1.Chains p5).bind fun x2=>((oU N x1 false).bind fun x3=>((oU N x1 true).bind fun x4=>some (⟨x3,x4,x2,p2.Alphas,p3,p4⟩:cj)))))
def bz (N:Nat) (p0:(List aD)):Option ((List aD)):=
  ((app ([]:List aD) p0).bind fun x1=>some x1)
def fX (N:Nat) (p0:(List aD)) (p1:ByteArray):Nat→Int→Option (bn × Bool)
  | 0,_=>none
  | k+1,s1=>
    (if decide (s1 < (p0.length:Int)) then ((idx p0 s1).bind fun x1=>(if seq x1.Name p1 then some (x1.V,true) else ((fX N p0 p1 k) (i64.wrap (s1+1))))) else some ((⟨0,0,(⟨#[]⟩:ByteArray)⟩:bn),false))
def nh (N:Nat) (p0:(List aD)) (p1:ByteArray):Option (bn × Bool):=
  fX N p0 p1 N 0
def cS (N:Nat) (p0:av) (p1:aA) (p2:(List aD)):Nat→(List aD)→Int→Option ((List aD) × Bool)
  | 0,_,_=>none
  | k+1,s1,s2=>
    (if decide (s2 < (p0.Args.length:Int)) then ((idx p0.Args s2).bind fun x3=>((idx p1.Fields s2).bind fun x4=>(if decide (x3.K=2) then (if !(bo x3.V x4) then ((bz N p2).bind fun x5=>some (x5,false)) else ((cS N p0 p1 p2 k) s1 (i64.wrap (s2+1)))) else (if decide (x3.K=1) then ((nh N s1 x3.S).bind fun x6=>((if x6.2 then some (!(bo x6.1 x4)) else some false).bind fun b2=>(if b2 then ((bz N p2).bind fun x7=>some (x7,false)) else (if !x6.2 then ((app s1 ([(⟨x3.S,x4⟩:aD)]:List aD)).bind fun x8=>((cS N p0 p1 p2 k) x8 (i64.wrap (s2+1)))) else ((cS N p0 p1 p2 k) s1 (i64.wrap (s2+1))))))) else ((cS N p0 p1 p2 k) s1 (i64.wrap (s2+1))))))) else some (s1,true))
def gP (N:Nat) (p0:av) (p1:aA) (p2:(List aD)):Option ((List aD) × Bool):=
  ((if !seq p1.Kind p0.Kind then some true else some (!decide ((p1.Fields.length:Int)=(p0.Args.length:Int)))).bind fun b1=>(if b1 then ((bz N p2).bind fun x1=>some (x1,false)) else ((bz N p2).bind fun x2=>cS N p0 p1 p2 N x2 0)))
def fy (N:Nat) (p0:(List av)) (p1:ah) (p2:(List Int)):Nat→(List aD)→Int→Option ((List aD) × Bool)
  | 0,_,_=>none
  | k+1,s1,s2=>
    (if decide (s2 < (p2.length:Int)) then ((idx p2 s2).bind fun x1=>((gL N p1 x1).bind fun x2=>(if !x2.2 then some ([],false) else ((idx p0 s2).bind fun x3=>((gP N x3 x2.1 s1).bind fun x4=>(if !x4.2 then some ([],false) else ((fy N p0 p1 p2 k) x4.1 (i64.wrap (s2+1))))))))) else some (s1,true))
def jC (N:Nat) (p0:(List av)) (p1:ah) (p2:(List Int)):Option ((List aD) × Bool):=
  fy N p0 p1 p2 N ([]:List aD) 0
def bM (N:Nat) (p0:cj) (p2:Int) (x1:aA × Bool) (s1:(List af)) (s2:Int) (K1:(List af)→Int→Option ((List af))) (x2:af) (x3:(List aD) × Bool):Nat→(List Int)→Int→Option ((List af))
  | 0,_,_=>none
  | k+1,s3,s4=>
    (if decide (s4 < (p0.neg.length:Int)) then ((idx p0.neg s4).bind fun x4=>((gP N x4 x1.1 x3.1).bind fun x5=>(if x5.2 then ((idx s3 s4).bind fun x6=>((idx s3 s4).bind fun x7=>((bM N p0 p2 x1 s1 s2 K1 x2 x3 k) (s3.set s4.toNat (i64.wrap (x6+p2))) (i64.wrap (s4+1))))) else ((bM N p0 p2 x1 s1 s2 K1 x2 x3 k) s3 (i64.wrap (s4+1)))))) else (K1 (s1.set s2.toNat (⟨x2.Ids,s3⟩:af)) (i64.wrap (s2+1))))
def bA (N:Nat) (p0:cj) (p1:(List af)) (p2:Int) (x1:aA × Bool):Nat→(List af)→Int→Option ((List af))
  | 0,_,_=>none
  | k+1,s1,s2=>
    (if decide (s2 < (p1.length:Int)) then ((idx s1 s2).bind fun x2=>((jC N p0.pos p0.s x2.Ids).bind fun x3=>(if !x3.2 then ((bA N p0 p1 p2 x1 k) s1 (i64.wrap (s2+1))) else bM N p0 p2 x1 s1 s2 (bA N p0 p1 p2 x1 k) x2 x3 N x2.Hits 0))) else some s1)
def ft (N:Nat) (p0:cj) (p1:(List af)) (p2:Int):Option ((List af)):=
  ((gL N p0.s p0.id).bind fun x1=>bA N p0 p1 p2 x1 N p1 0)
def dV (N:Nat) (p0:av) (p1:ah) (p2:(List aD)):Nat→Int→Int→Option (Int)
  | 0,_,_=>none
  | k+1,s1,s2=>
    (if decide (s2 < (p1.Items.length:Int)) then ((idx p1.Items s2).bind fun x1=>((gP N p0 x1.F p2).bind fun x2=>(if x2.2 then ((dV N p0 p1 p2 k) (i64.wrap (s1+1)) (i64.wrap (s2+1))) else ((dV N p0 p1 p2 k) s1 (i64.wrap (s2+1)))))) else some s1)
def ng (N:Nat) (p0:av) (p1:ah) (p2:(List aD)):Option (Int):=
  dV N p0 p1 p2 N 0 0
def bR (N:Nat) (s1:(List af)) (s2:Int) (K1:(List af)→Int→Option ((List af))) (x3:(List Int)) (s3:(List Int)):Option ((List af)):=
  ((app s1 ([(⟨x3,s3⟩:af)]:List af)).bind fun x5=>(K1 x5 (i64.wrap (s2+1))))
def bT (N:Nat) (p0:cj) (s1:(List af)) (s2:Int) (K1:(List af)→Int→Option ((List af))) (x3:(List Int)) (x4:(List aD) × Bool):Nat→(List Int)→Int→Option ((List af))
  | 0,_,_=>none
  | k+1,s4,s5=>
    (if decide (s5 < (p0.neg.length:Int)) then ((idx p0.neg s5).bind fun x6=>((ng N x6 p0.s x4.1).bind fun x7=>((app s4 ([x7]:List Int)).bind fun x8=>((bT N p0 s1 s2 K1 x3 x4 k) x8 (i64.wrap (s5+1)))))) else bR N s1 s2 K1 x3 s4)
def bp (N:Nat) (p0:cj) (p1:(List Int)) (p2:(List Int)):Nat→(List af)→Int→Option ((List af))
  | 0,_,_=>none
  | k+1,s1,s2=>
    (if decide (s2 < (p2.length:Int)) then ((idx p2 s2).bind fun x1=>((bN N p1).bind fun x2=>((app x2 ([x1]:List Int)).bind fun x3=>((jC N p0.pos p0.s x3).bind fun x4=>(if !x4.2 then ((bp N p0 p1 p2 k) s1 (i64.wrap (s2+1))) else (if decide ((x3.length:Int)=(p0.pos.length:Int)) then bT N p0 s1 s2 (bp N p0 p1 p2 k) x3 x4 N ([]:List Int) 0 else bR N s1 s2 (bp N p0 p1 p2 k) x3 ([]:List Int))))))) else some s1)
def dm (N:Nat) (p0:cj) (p1:(List Int)) (p2:(List Int)):Option ((List af)):=
  bp N p0 p1 p2 N ([]:List af) 0
def jB (N:Nat) (p0:(List af)):Option ((List af)):=
  ((app ([]:List af) p0).bind fun x1=>some x1)
def dp (N:Nat) (p0:(List af)):Option ((List af)):=
  ((app ([]:List af) p0).bind fun x1=>some x1)
def bJ (N:Nat) (s1:(List aj)) (s4:Int) (K1:(List aj)→(List af)→(List af)→Int→Option ((List aj))) (s5:(List af)):Option ((List aj)):=
  ((idx s1 s4).bind fun x1=>((dp N x1.Toks).bind fun x2=>((app x1.Toks s5).bind fun x3=>(K1 (s1.set s4.toNat (⟨x3⟩:aj)) x2 s5 (i64.wrap (s4+1))))))
def cl (N:Nat) (p0:cj) (s1:(List aj)) (s3:(List af)) (s4:Int) (K1:(List aj)→(List af)→(List af)→Int→Option ((List aj))):Nat→(List af)→Int→Option ((List aj))
  | 0,_,_=>none
  | k+1,s8,s9=>
    (if decide (s9 < (s3.length:Int)) then ((idx s3 s9).bind fun x8=>((idx p0.chain.Pos s4).bind fun x9=>((idx p0.alphas x9).bind fun x10=>((dm N p0 x8.Ids x10.L).bind fun x11=>((app s8 x11).bind fun x12=>((cl N p0 s1 s3 s4 K1 k) x12 (i64.wrap (s9+1)))))))) else bJ N s1 s4 K1 s8)
def cr (N:Nat) (p0:cj) (s1:(List aj)) (s2:(List af)) (s3:(List af)) (s4:Int) (K1:(List aj)→(List af)→(List af)→Int→Option ((List aj))):Nat→(List af)→Int→Option ((List aj))
  | 0,_,_=>none
  | k+1,s6,s7=>
    (if decide (s7 < (s2.length:Int)) then ((idx s2 s7).bind fun x5=>((dm N p0 x5.Ids ([p0.id]:List Int)).bind fun x6=>((app s6 x6).bind fun x7=>((cr N p0 s1 s2 s3 s4 K1 k) x7 (i64.wrap (s7+1)))))) else cl N p0 s1 s3 s4 K1 N s6 0)
def bw (N:Nat) (p0:cj) (p1:(List aj)):Nat→(List aj)→(List af)→(List af)→Int→Option ((List aj))
  | 0,_,_,_,_=>none
  | k+1,s1,s2,s3,s4=>
    (if decide (s4 < (p1.length:Int)) then (if decide (s4=0) then ((dm N p0 [] ([p0.id]:List Int)).bind fun x4=>bJ N s1 s4 (bw N p0 p1 k) x4) else cr N p0 s1 s2 s3 s4 (bw N p0 p1 k) N ([]:List af) 0) else some s1)
def fL (N:Nat) (p0:cj) (p1:(List aj)):Option ((List aj)):=
  bw N p0 p1 N p1 ([]:List af) ([]:List af) 0
def dA (N:Nat) (p0:bm) (p1:aO) (p2:ax) (p3:ah) (p4:Int) (s1:(List bk)):Nat→(List aJ)→Int→Option ((List bk) × (List aJ))
  | 0,_,_=>none
  | k+1,s3,s4=>
    (if decide (s4 < (p2.Rules.length:Int)) then ((idx s3 s4).bind fun x6=>((mo N p0 p1 (⟨s1,s3⟩:ax) p3 p4 s4).bind fun x7=>((idx x6.Levels (i64.wrap ((x6.Levels.length:Int) - 1))).bind fun x8=>((ft N x7 x8.Toks 1).bind fun x9=>((fL N x7 (x6.Levels.set (i64.wrap ((x6.Levels.length:Int) - 1)).toNat (⟨x9⟩:aj))).bind fun x10=>((dA N p0 p1 p2 p3 p4 s1 k) (s3.set s4.toNat (⟨x10⟩:aJ)) (i64.wrap (s4+1)))))))) else some (s1,s3))
def dd (N:Nat) (p0:bm) (p1:aO) (p2:ax) (p3:ah) (p4:Int) (x1:aA × Bool):Nat→(List bk)→Int→Option ((List bk) × (List aJ))
  | 0,_,_=>none
  | k+1,s1,s2=>
    (if decide (s2 < (p1.Alphas.length:Int)) then ((idx p1.Alphas s2).bind fun x2=>((nr N x2 x1.1).bind fun x3=>(if x3 then ((idx s1 s2).bind fun x4=>((app x4.L ([p4]:List Int)).bind fun x5=>((dd N p0 p1 p2 p3 p4 x1 k) (s1.set s2.toNat (⟨x5⟩:bk)) (i64.wrap (s2+1))))) else ((dd N p0 p1 p2 p3 p4 x1 k) s1 (i64.wrap (s2+1)))))) else dA N p0 p1 p2 p3 p4 s1 N p2.Rules 0)
def lz (N:Nat) (p0:bm) (p1:aO) (p2:ax) (p3:ah) (p4:Int):Option ((List bk) × (List aJ)):=
  ((gL N p3 p4).bind fun x1=>dd N p0 p1 p2 p3 p4 x1 N p2.Alphas 0)
def jU (N:Nat) (s1:(List bk)) (s2:(List aJ)):Option (ax):=
  some (⟨s1,s2⟩:ax)
def lB (N:Nat) (p0:bm) (p1:aO) (p2:ax) (p3:ah) (p4:Int):Option (ax):=
  ((lJ N p2).bind fun x1=>((nE N p0 p1 p2 p3 p4).bind fun x2=>(if x2 then ((lz N p0 p1 x1 p3 p4).bind fun x3=>jU N x3.1 x3.2) else jU N x1.Alphas x1.Rules)))
def gO (N:Nat) (p0:Int):Option (Bool):=
  ((cZ N (i64.wrap p0) 97 122).bind fun x1=>((if x1 then some true else ((cZ N (i64.wrap p0) 48 57).bind fun x2=>some x2)).bind fun b1=>((if b1 then some true else some (decide (p0=95))).bind fun b2=>some b2)))
def dR (N:Nat) (p0:ByteArray):Nat→Int→Option (Bool)
  | 0,_=>none
  | k+1,s1=>
    (if decide (s1 < (p0.size:Int)) then ((idx p0.data.toList s1).bind fun y1=>((gO N (y1.toNat:Int)).bind fun x1=>((if !x1 then some true else ((if decide (s1=0) then ((idx p0.data.toList s1).bind fun y2=>((cZ N (i64.wrap (y2.toNat:Int)) 97 122).bind fun x2=>some (!x2))) else some false).bind fun b2=>some b2)).bind fun b1=>(if b1 then some false else ((dR N p0 k) (i64.wrap (s1+1))))))) else ((cZ N (p0.size:Int) 1 12).bind fun x3=>some x3))
def dO (N:Nat) (p0:ByteArray):Option (Bool):=
  dR N p0 N 0
def eo (N:Nat) (p0:ByteArray):Nat→Int→Option (Bool)
  | 0,_=>none
  | k+1,s1=>
    (if decide (s1 < (p0.size:Int)) then ((idx p0.data.toList s1).bind fun y1=>((gO N (y1.toNat:Int)).bind fun x1=>(if !x1 then some false else ((eo N p0 k) (i64.wrap (s1+1)))))) else some (decide ((p0.size:Int)≤20)))
def lw (N:Nat) (p0:ByteArray):Option (Bool):=
  eo N p0 N 0
def mz (N:Nat) (p0:bn):Option (Bool):=
  (if decide (p0.K=1) then ((cZ N p0.N (-1000000000) 1000000000).bind fun x1=>((if x1 then some (seq p0.S (⟨#[]⟩:ByteArray)) else some false).bind fun b1=>some b1)) else (if decide (p0.K=2) then ((lw N p0.S).bind fun x2=>((if x2 then some (decide (p0.N=0)) else some false).bind fun b2=>some b2)) else some false))
def dY (N:Nat) (p0:(List bn)):Nat→Int→Option (Bool)
  | 0,_=>none
  | k+1,s1=>
    (if decide (s1 < (p0.length:Int)) then ((idx p0 s1).bind fun x1=>((mz N x1).bind fun x2=>(if !x2 then some false else ((dY N p0 k) (i64.wrap (s1+1)))))) else some (decide ((p0.length:Int)≤5)))
def pB (N:Nat) (p0:(List bn)):Option (Bool):=
  dY N p0 N 0
def mN (N:Nat) (p0:aA):Option (Bool):=
  ((dO N p0.Kind).bind fun x1=>((if x1 then ((pB N p0.Fields).bind fun x2=>some x2) else some false).bind fun b1=>some b1))
def fA (N:Nat) (p0:ah):Nat→Int→Option (Bool)
  | 0,_=>none
  | k+1,s1=>
    (if decide (s1 < (p0.Items.length:Int)) then ((idx p0.Items s1).bind fun x2=>((mN N x2.F).bind fun x3=>((if !x3 then some true else some (decide (x2.Id < 1))).bind fun b2=>((if b2 then some true else some (decide (p0.Next≤x2.Id))).bind fun b3=>((if b3 then some true else ((if decide (0 < s1) then ((idx p0.Items (i64.wrap (s1 - 1))).bind fun x4=>some (decide (x2.Id≤x4.Id))) else some false).bind fun b5=>some b5)).bind fun b4=>((if b4 then some true else ((lO N p0 x2.F).bind fun x5=>some (!decide (x5=x2.Id)))).bind fun b6=>(if b6 then some false else ((fA N p0 k) (i64.wrap (s1+1)))))))))) else some true)
def lD (N:Nat) (p0:ah):Option (Bool):=
  ((cZ N p0.Next 1 1000000).bind fun x1=>((if !x1 then some true else some (decide (40 < (p0.Items.length:Int)))).bind fun b1=>(if b1 then some false else fA N p0 N 0)))
def lR (N:Nat) (p0:Int):Option (Bool):=
  ((cZ N (i64.wrap p0) 65 90).bind fun x1=>some x1)
def cK (N:Nat) (p0:ByteArray):Nat→Int→Option (Bool)
  | 0,_=>none
  | k+1,s1=>
    (if decide (s1 < (p0.size:Int)) then ((idx p0.data.toList s1).bind fun y1=>((lR N (y1.toNat:Int)).bind fun x1=>((if !x1 then ((if decide (s1=0) then some true else ((idx p0.data.toList s1).bind fun y2=>((gO N (y2.toNat:Int)).bind fun x2=>some (!x2)))).bind fun b2=>some b2) else some false).bind fun b1=>(if b1 then some false else ((cK N p0 k) (i64.wrap (s1+1))))))) else ((cZ N (p0.size:Int) 1 12).bind fun x3=>some x3))
def lP (N:Nat) (p0:ByteArray):Option (Bool):=
  cK N p0 N 0
def jz (N:Nat) (p0:bD):Option (Bool):=
  (if decide (p0.K=1) then ((lP N p0.S).bind fun x1=>((if x1 then some (bo p0.V (⟨0,0,(⟨#[]⟩:ByteArray)⟩:bn)) else some false).bind fun b1=>some b1)) else (if decide (p0.K=2) then ((mz N p0.V).bind fun x2=>((if x2 then some (seq p0.S (⟨#[]⟩:ByteArray)) else some false).bind fun b2=>some b2)) else (if decide (p0.K=3) then ((if seq p0.S (⟨#[]⟩:ByteArray) then some (bo p0.V (⟨0,0,(⟨#[]⟩:ByteArray)⟩:bn)) else some false).bind fun b3=>some b3) else some false)))
def fP (N:Nat) (p0:av):Nat→Int→Option (Bool)
  | 0,_=>none
  | k+1,s1=>
    (if decide (s1 < (p0.Args.length:Int)) then ((idx p0.Args s1).bind fun x1=>((jz N x1).bind fun x2=>(if !x2 then some false else ((fP N p0 k) (i64.wrap (s1+1)))))) else ((dO N p0.Kind).bind fun x3=>((if x3 then some (decide ((p0.Args.length:Int)≤5)) else some false).bind fun b1=>some b1)))
def oI (N:Nat) (p0:av):Option (Bool):=
  fP N p0 N 0
def dQ (N:Nat) (p0:(List av)):Nat→Int→Option (Bool)
  | 0,_=>none
  | k+1,s1=>
    (if decide (s1 < (p0.length:Int)) then ((if decide (2 < s1) then ((idx p0 s1).bind fun x1=>some (!x1.Not)) else some false).bind fun b1=>(if b1 then some false else ((idx p0 s1).bind fun x2=>((oI N x2).bind fun x3=>((if !x3 then some true else ((if decide (s1=0) then ((idx p0 s1).bind fun x4=>some x4.Not) else some false).bind fun b3=>some b3)).bind fun b2=>((if b2 then some true else ((if decide (0 < s1) then ((idx p0 (i64.wrap (s1 - 1))).bind fun x5=>some x5.Not) else some false).bind fun b5=>((if b5 then ((idx p0 s1).bind fun x6=>some (!x6.Not)) else some false).bind fun b6=>some b6))).bind fun b4=>(if b4 then some false else ((dQ N p0 k) (i64.wrap (s1+1)))))))))) else ((cZ N (p0.length:Int) 1 6).bind fun x7=>some x7))
def nM (N:Nat) (p0:(List av)):Option (Bool):=
  dQ N p0 N 0
def mG (N:Nat) (p0:dK):Option (Bool):=
  ((cZ N p0.Op 1 3).bind fun x1=>((if x1 then ((jz N p0.L).bind fun x2=>some x2) else some false).bind fun b1=>((if b1 then ((jz N p0.R).bind fun x3=>some x3) else some false).bind fun b2=>((if b2 then some (!decide (p0.L.K=3)) else some false).bind fun b3=>((if b3 then some (!decide (p0.R.K=3)) else some false).bind fun b4=>some b4)))))
def eE (N:Nat) (p0:(List dK)) (p1:(List ByteArray)):Nat→Int→Option (Bool)
  | 0,_=>none
  | k+1,s1=>
    (if decide (s1 < (p0.length:Int)) then ((idx p0 s1).bind fun x1=>((mG N x1).bind fun x2=>((if !x2 then some true else ((idx p0 s1).bind fun x3=>((fV N x3.L p1).bind fun x4=>some (!x4)))).bind fun b1=>((if b1 then some true else ((idx p0 s1).bind fun x5=>((fV N x5.R p1).bind fun x6=>some (!x6)))).bind fun b2=>(if b2 then some false else ((eE N p0 p1 k) (i64.wrap (s1+1)))))))) else some (decide ((p0.length:Int)≤6)))
def lL (N:Nat) (p0:(List dK)) (p1:(List ByteArray)):Option (Bool):=
  eE N p0 p1 N 0
def iS (N:Nat) (p0:bD):Option (Bool):=
  ((jz N p0).bind fun x1=>((if x1 then some (!decide (p0.K=3)) else some false).bind fun b1=>some b1))
def i7 (N:Nat) (p0:bX) (s1:Bool):Option (Bool):=
  (if s1 then ((iS N p0.L).bind fun x2=>((if x2 then ((iS N p0.R).bind fun x3=>some x3) else some false).bind fun b2=>some b2)) else some false)
def mV (N:Nat) (p0:bX):Option (Bool):=
  (if seq p0.Op (⟨#[]⟩:ByteArray) then ((iS N p0.L).bind fun x1=>((if x1 then some (lF p0.R (⟨0,(⟨#[]⟩:ByteArray),(⟨0,0,(⟨#[]⟩:ByteArray)⟩:bn)⟩:bD)) else some false).bind fun b1=>some b1)) else (if seq p0.Op (⟨#[43]⟩:ByteArray) then i7 N p0 (seq p0.Op (⟨#[43]⟩:ByteArray)) else i7 N p0 (seq p0.Op (⟨#[45]⟩:ByteArray))))
def f8 (N:Nat) (p0:(List bX)):Nat→Int→Option (Bool)
  | 0,_=>none
  | k+1,s1=>
    (if decide (s1 < (p0.length:Int)) then ((idx p0 s1).bind fun x1=>((mV N x1).bind fun x2=>(if !x2 then some false else ((f8 N p0 k) (i64.wrap (s1+1)))))) else some (decide ((p0.length:Int)≤5)))
def jq (N:Nat) (p0:(List bX)):Option (Bool):=
  f8 N p0 N 0
def j0 (N:Nat) (p0:cU) (b2:Bool) (s1:Bool):Option (Bool):=
  (if s1 then ((if b2 then some (decide (p0.N=0)) else some false).bind fun b14=>some b14) else some false)
def oV (N:Nat) (p0:cU):Option (Bool):=
  ((if seq p0.Name (⟨#[]⟩:ByteArray) then some (decide ((p0.Args.length:Int)=0)) else some false).bind fun b1=>((if b1 then some (seq p0.Undo (⟨#[]⟩:ByteArray)) else some false).bind fun b2=>(if decide (p0.Kind=1) then ((dO N p0.Name).bind fun x1=>((if x1 then ((jq N p0.Args).bind fun x2=>some x2) else some false).bind fun b3=>((if b3 then some (decide (p0.N=0)) else some false).bind fun b4=>((if b4 then some (seq p0.Undo (⟨#[]⟩:ByteArray)) else some false).bind fun b5=>some b5)))) else (if decide (p0.Kind=3) then ((dO N p0.Name).bind fun x3=>((if x3 then ((jq N p0.Args).bind fun x4=>some x4) else some false).bind fun b6=>((if b6 then some (decide (p0.N=0)) else some false).bind fun b7=>((if b7 then ((if seq p0.Undo (⟨#[]⟩:ByteArray) then some true else ((dO N p0.Undo).bind fun x5=>some x5)).bind fun b9=>some b9) else some false).bind fun b8=>some b8)))) else (if decide (p0.Kind=4) then ((dO N p0.Name).bind fun x6=>((if x6 then ((jq N p0.Args).bind fun x7=>some x7) else some false).bind fun b10=>((if b10 then ((cZ N p0.N 0 100000).bind fun x8=>some x8) else some false).bind fun b11=>((if b11 then some (seq p0.Undo (⟨#[]⟩:ByteArray)) else some false).bind fun b12=>some b12)))) else (if decide (p0.Kind=2) then ((if b2 then ((cZ N p0.N 0 7).bind fun x9=>some x9) else some false).bind fun b13=>some b13) else (if decide (p0.Kind=5) then j0 N p0 b2 (decide (p0.Kind=5)) else j0 N p0 b2 (decide (p0.Kind=6)))))))))
def f9 (N:Nat) (p0:(List cU)) (p1:(List ByteArray)) (s1:Int) (K1:Int→Option (Bool)):Nat→Int→Option (Bool)
  | 0,_=>none
  | k+1,s2=>
    ((idx p0 s1).bind fun x5=>(if decide (s2 < (x5.Args.length:Int)) then ((idx p0 s1).bind fun x6=>((idx x6.Args s2).bind fun x7=>((fV N x7.L p1).bind fun x8=>((if !x8 then some true else ((idx p0 s1).bind fun x9=>((idx x9.Args s2).bind fun x10=>((fV N x10.R p1).bind fun x11=>some (!x11))))).bind fun b3=>(if b3 then some false else ((f9 N p0 p1 s1 K1 k) (i64.wrap (s2+1)))))))) else (K1 (i64.wrap (s1+1)))))
def cJ (N:Nat) (p0:(List cU)) (p1:(List ByteArray)) (p2:Int):Nat→Int→Option (Bool)
  | 0,_=>none
  | k+1,s1=>
    (if decide (s1 < (p0.length:Int)) then ((idx p0 s1).bind fun x1=>((oV N x1).bind fun x2=>((if !x2 then some true else ((idx p0 s1).bind fun x3=>((if decide (x3.Kind=2) then ((idx p0 s1).bind fun x4=>some (decide (p2≤x4.N))) else some false).bind fun b2=>some b2))).bind fun b1=>(if b1 then some false else f9 N p0 p1 s1 (cJ N p0 p1 p2 k) N 0)))) else ((cZ N (p0.length:Int) 1 6).bind fun x12=>some x12))
def nH (N:Nat) (p0:(List cU)) (p1:(List ByteArray)) (p2:Int):Option (Bool):=
  cJ N p0 p1 p2 N 0
def mM (N:Nat) (p0:an):Option (Bool):=
  ((gJ N p0).bind fun x1=>((dO N p0.Name).bind fun x2=>((if x2 then ((cZ N p0.Sal (-100) 100).bind fun x3=>some x3) else some false).bind fun b1=>((if b1 then ((nM N p0.Pats).bind fun x4=>some x4) else some false).bind fun b2=>((if b2 then ((lL N p0.Conds x1).bind fun x5=>some x5) else some false).bind fun b3=>((if b3 then ((gX N p0).bind fun x6=>((nH N p0.Acts x1 x6).bind fun x7=>some x7)) else some false).bind fun b4=>some b4))))))
def ff (N:Nat) (p0:bm) (p1:ByteArray):Nat→Int→Option (Int)
  | 0,_=>none
  | k+1,s1=>
    (if decide (s1 < (p0.Rules.length:Int)) then ((idx p0.Rules s1).bind fun x1=>(if seq x1.Name p1 then some s1 else ((ff N p0 p1 k) (i64.wrap (s1+1))))) else some (-1))
def nF (N:Nat) (p0:bm) (p1:ByteArray):Option (Int):=
  ff N p0 p1 N 0
def eZ (N:Nat) (p0:bm):Nat→Int→Option (Bool)
  | 0,_=>none
  | k+1,s1=>
    (if decide (s1 < (p0.Rules.length:Int)) then ((idx p0.Rules s1).bind fun x1=>((mM N x1).bind fun x2=>((if !x2 then some true else ((idx p0.Rules s1).bind fun x3=>((nF N p0 x3.Name).bind fun x4=>some (!decide (x4=s1))))).bind fun b1=>(if b1 then some false else ((eZ N p0 k) (i64.wrap (s1+1))))))) else ((dO N p0.Name).bind fun x5=>((if x5 then ((cZ N (p0.Rules.length:Int) 1 12).bind fun x6=>some x6) else some false).bind fun b2=>some b2)))
def oS (N:Nat) (p0:bm):Option (Bool):=
  eZ N p0 N 0
def eM (N:Nat) (p0:aO) (p1:aO):Nat→Int→Option (Bool)
  | 0,_=>none
  | k+1,s2=>
    (if decide (s2 < (p0.Chains.length:Int)) then ((idx p0.Chains s2).bind fun x4=>((idx p1.Chains s2).bind fun x5=>((iH N x4.Pos x5.Pos).bind fun x6=>((if !x6 then some true else ((idx p0.Chains s2).bind fun x7=>((idx p1.Chains s2).bind fun x8=>((iH N x7.Neg x8.Neg).bind fun x9=>some (!x9))))).bind fun b2=>(if b2 then some false else ((eM N p0 p1 k) (i64.wrap (s2+1)))))))) else some true)
def dv (N:Nat) (p0:aO) (p1:aO):Nat→Int→Option (Bool)
  | 0,_=>none
  | k+1,s1=>
    (if decide (s1 < (p0.Alphas.length:Int)) then ((idx p0.Alphas s1).bind fun x1=>((idx p1.Alphas s1).bind fun x2=>((i9 N x1 x2).bind fun x3=>(if !x3 then some false else ((dv N p0 p1 k) (i64.wrap (s1+1))))))) else eM N p0 p1 N 0)
def l9 (N:Nat) (p0:aO) (p1:aO):Option (Bool):=
  ((if !decide ((p0.Alphas.length:Int)=(p1.Alphas.length:Int)) then some true else some (!decide ((p0.Chains.length:Int)=(p1.Chains.length:Int)))).bind fun b1=>(if b1 then some false else dv N p0 p1 N 0))
def oM (N:Nat) (p0:aO) (p1:bm):Option (Bool):=
  ((oS N p1).bind fun x1=>(if x1 then ((kI N p1).bind fun x2=>((l9 N p0 x2).bind fun x4=>some x4)) else some false))
def eu (N:Nat) (p0:(List af)) (p1:Int) (p2:Int):Nat→Int→Option (Bool)
  | 0,_=>none
  | k+1,s1=>
    (if decide (s1 < (p0.length:Int)) then ((idx p0 s1).bind fun x1=>((if !decide ((x1.Ids.length:Int)=p1) then some true else ((idx p0 s1).bind fun x2=>some (!decide ((x2.Hits.length:Int)=p2)))).bind fun b1=>(if b1 then some false else ((eu N p0 p1 p2 k) (i64.wrap (s1+1)))))) else some true)
def lx (N:Nat) (p0:(List af)) (p1:Int) (p2:Int):Option (Bool):=
  eu N p0 p1 p2 N 0
def eS (N:Nat) (p1:ax) (s1:Int) (s2:Int) (K2:Int→Option (Bool)) (s3:Int):Option (Bool):=
  ((idx p1.Rules s1).bind fun x3=>((idx x3.Levels s2).bind fun x4=>((lx N x4.Toks (i64.wrap (s2+1)) s3).bind fun x5=>(if !x5 then some false else (K2 (i64.wrap (s2+1)))))))
def bO (N:Nat) (p0:aO) (p1:ax) (s1:Int) (K1:Int→Option (Bool)) (x1:ao):Nat→Int→Option (Bool)
  | 0,_=>none
  | k+1,s2=>
    (if decide (s2 < (x1.Pos.length:Int)) then (if decide (s2=i64.wrap ((x1.Pos.length:Int) - 1)) then ((idx p0.Chains s1).bind fun x6=>eS N p1 s1 s2 (bO N p0 p1 s1 K1 x1 k) (x6.Neg.length:Int)) else eS N p1 s1 s2 (bO N p0 p1 s1 K1 x1 k) 0) else (K1 (i64.wrap (s1+1))))
def bC (N:Nat) (p0:aO) (p1:ax):Nat→Int→Option (Bool)
  | 0,_=>none
  | k+1,s1=>
    (if decide (s1 < (p1.Rules.length:Int)) then ((idx p0.Chains s1).bind fun x1=>((idx p1.Rules s1).bind fun x2=>(if !decide ((x2.Levels.length:Int)=(x1.Pos.length:Int)) then some false else bO N p0 p1 s1 (bC N p0 p1 k) x1 N 0))) else some true)
def jS (N:Nat) (p0:aO) (p1:ax):Option (Bool):=
  ((if !decide ((p1.Alphas.length:Int)=(p0.Alphas.length:Int)) then some true else some (!decide ((p1.Rules.length:Int)=(p0.Chains.length:Int)))).bind fun b1=>(if b1 then some false else bC N p0 p1 N 0))
def mH (N:Nat) (p0:bm) (p1:aO) (p2:ax) (p3:ah) (p4:Int):Option (Bool):=
  ((iL N p3 p4).bind fun x1=>((if x1.2 then ((lD N p3).bind fun x2=>some x2) else some false).bind fun b1=>((if b1 then ((oM N p1 p0).bind fun x3=>some x3) else some false).bind fun b2=>((if b2 then ((jS N p1 p2).bind fun x4=>some x4) else some false).bind fun b3=>some b3))))
def kt (N:Nat) (s1:(List bk)) (s2:(List aJ)):Option (ax):=
  some (⟨s1,s2⟩:ax)
def li (N:Nat) (p0:bm) (p1:aO) (p2:ax) (p3:ah) (p4:Int):Option (ax):=
  ((jK N p2).bind fun x1=>((mH N p0 p1 p2 p3 p4).bind fun x2=>(if x2 then ((kJ N p0 p1 x1 p3 p4).bind fun x3=>kt N x3.Alphas x3.Rules) else kt N x1.Alphas x1.Rules)))
def fJ (N:Nat) (p0:(List Int)) (p1:(List Int)):Nat→Int→Option (Bool)
  | 0,_=>none
  | k+1,s1=>
    (if decide (s1 < (p0.length:Int)) then ((idx p0 s1).bind fun x1=>((idx p1 s1).bind fun x2=>(if !decide (x1=x2) then some false else ((fJ N p0 p1 k) (i64.wrap (s1+1)))))) else some true)
def iX (N:Nat) (p0:(List Int)) (p1:(List Int)):Option (Bool):=
  (if !decide ((p0.length:Int)=(p1.length:Int)) then some false else fJ N p0 p1 N 0)
def fe (N:Nat) (x2:bm × aO × ax × ah × Int) (x4:ax):Nat→Int→Option (Bool)
  | 0,_=>none
  | k+1,s2=>
    (if decide (s2 < (x4.Alphas.length:Int)) then ((idx x4.Alphas s2).bind fun x11=>((idx x2.2.2.1.Alphas s2).bind fun x12=>((iX N x11.L x12.L).bind fun x13=>(if !x13 then some false else ((fe N x2 x4 k) (i64.wrap (s2+1))))))) else some (decide ((x4.Rules.length:Int)=(x2.2.2.1.Rules.length:Int))))
def f7 (N:Nat) (x2:bm × aO × ax × ah × Int) (x4:ax) (x5:ax):Nat→Int→Option (Bool)
  | 0,_=>none
  | k+1,s1=>
    (if decide (s1 < (x4.Alphas.length:Int)) then ((idx x4.Alphas s1).bind fun x6=>((idx x5.Alphas s1).bind fun x7=>((iX N x6.L x7.L).bind fun x8=>(if !x8 then some false else ((f7 N x2 x4 x5 k) (i64.wrap (s1+1))))))) else ((gL N x2.2.2.2.1 x2.2.2.2.2).bind fun x9=>((if x9.2 then ((mB N x2.2.1 x2.1).bind fun x10=>some x10) else some false).bind fun b2=>(if b2 then some true else fe N x2 x4 N 0))))
def ny (N:Nat) (p0:(List Int)):Option (Bool):=
  ((tF N p0).bind fun x1=>(if x1 then some true else ((hJ N p0).bind fun x2=>((lB N x2.1 x2.2.1 x2.2.2.1 x2.2.2.2.1 x2.2.2.2.2).bind fun x4=>((li N x2.1 x2.2.1 x2.2.2.1 x2.2.2.2.1 x2.2.2.2.2).bind fun x5=>((if !decide ((x4.Alphas.length:Int)=(x5.Alphas.length:Int)) then some true else some (!decide ((x4.Rules.length:Int)=(x5.Rules.length:Int)))).bind fun b1=>(if b1 then some false else f7 N x2 x4 x5 N 0)))))))
end Go.Proofs.YtinomobmcjnfjaaGreat
