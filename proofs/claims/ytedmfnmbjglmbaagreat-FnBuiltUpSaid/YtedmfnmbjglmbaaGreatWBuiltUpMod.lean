/- Printed by a program of ours: Lean functions of plain data for the Go functions. -/
import Derived.Test.YtedmfnmbjglmbaaGreatES
namespace Go.Proofs.YtedmfnmbjglmbaaGreat
open Eng IntKind
set_option linter.unusedVariables false
set_option linter.unusedSimpArgs false

structure a7 where
  b:(List Int)
  i:Int
  h:Int
  deriving DecidableEq
def nf (Φ:Hp) (F:List Nat) (cs:List Value) (x:a7):Prop:=
  ∃ (s0:Value) (F0:List Nat),cs=[s0,.int .i64 x.i,.int .i64 x.h]∧F=F0∧RSl (RI .u8) 1 Φ F0 s0 x.b
theorem nf.lasts:bQ nf:=fun X Φ Φ' F cs x hf hd ⟨s0,F0,hc,hF,h0⟩=>by
  rw [hF] at hd
  exact ⟨s0,F0,hc,hF,h0.frame RI.lasts hf (fun k hk=>hd k (by simp [hk]))⟩
instance:LS nf:=⟨nf.lasts⟩
theorem nf.knows:cW nf:=fun Φ F cs x ⟨s0,F0,hc,hF,h0⟩=>hF ▸ h0.kn
theorem nf.one:fm nf:=fun _ _ _ _ h=>by obtain ⟨s0,F0,rfl,-,h0⟩:=h; exact One.all ⟨h0.one,rfl,rfl,trivial⟩
def m3 (Φ:Hp) (F:List Nat) (cs:List Value) (x:a7):Prop:=
  ∃ (s0:Value),cs=[s0,.int .i64 x.i,.int .i64 x.h]∧F=(ob s0++[])∧OSl (RI .u8) 5 1 Φ [] s0 x.b
theorem m3.lasts:bQ m3:=fun X Φ Φ' F cs x hf hd ⟨s0,hc,hF,h0⟩=>by
  rw [hF] at hd
  exact ⟨s0,hc,hF,h0.frame RI.lasts hf (fun k hk=>hd k (by simp [hk])) (Dj.nil _)⟩
instance:LS m3:=⟨m3.lasts⟩
theorem m3.knows:cW m3:=fun Φ F cs x ⟨s0,hc,hF,h0⟩=>hF ▸ (h0.knO.app h0.kn)
theorem m3.one:fm m3:=fun _ _ _ _ h=>by obtain ⟨s0,rfl,-,h0⟩:=h; exact One.all ⟨h0.one,rfl,rfl,trivial⟩
theorem m3.gives:dL m3 nf:=fun Φ F cs x ⟨s0,hc,hF,h0⟩=>⟨s0,ob s0++[],hc,hF,h0.rslG (dL.refl _)⟩
structure aN where
  K:Int
  N:Int
  S:ByteArray
  deriving DecidableEq
def aP (Φ:Hp) (F:List Nat) (cs:List Value) (x:aN):Prop:=cs=[.int .i64 x.K,.int .i64 x.N,.string x.S]∧F=[]
theorem aP.lasts:bQ aP:=fun _ _ _ _ _ _ _ _ h=>h
instance:LS aP:=⟨aP.lasts⟩
theorem aP.knows:cW aP:=fun _ _ _ _ h=>h.2 ▸ Kw.nil
theorem aP.flat:uA aP:=fun _ _ _ _ h=>h.2
theorem aP.one:fm aP:=fun _ _ _ _ h=>by obtain ⟨rfl,-⟩:=h; exact One.all ⟨rfl,rfl,rfl,trivial⟩
structure bh where
  K:Int
  S:ByteArray
  V:aN
  deriving DecidableEq
def ck (Φ:Hp) (F:List Nat) (cs:List Value) (x:bh):Prop:=cs=[.int .i64 x.K,.string x.S,.int .i64 x.V.K,.int .i64 x.V.N,.string x.V.S]∧F=[]
theorem ck.lasts:bQ ck:=fun _ _ _ _ _ _ _ _ h=>h
instance:LS ck:=⟨ck.lasts⟩
theorem ck.knows:cW ck:=fun _ _ _ _ h=>h.2 ▸ Kw.nil
theorem ck.flat:uA ck:=fun _ _ _ _ h=>h.2
theorem ck.one:fm ck:=fun _ _ _ _ h=>by obtain ⟨rfl,-⟩:=h; exact One.all ⟨rfl,rfl,rfl,rfl,rfl,trivial⟩
structure au where
  Kind:ByteArray
  Args:(List bh)
  Not:Bool
  deriving DecidableEq
def bS (Φ:Hp) (F:List Nat) (cs:List Value) (x:au):Prop:=
  ∃ (s0:Value) (F0:List Nat),cs=[.string x.Kind,s0,.bool x.Not]∧F=F0∧RSl ck 5 Φ F0 s0 x.Args
theorem bS.lasts:bQ bS:=fun X Φ Φ' F cs x hf hd ⟨s0,F0,hc,hF,h0⟩=>by
  rw [hF] at hd
  exact ⟨s0,F0,hc,hF,h0.frame ck.lasts hf (fun k hk=>hd k (by simp [hk]))⟩
instance:LS bS:=⟨bS.lasts⟩
theorem bS.knows:cW bS:=fun Φ F cs x ⟨s0,F0,hc,hF,h0⟩=>hF ▸ h0.kn
theorem bS.one:fm bS:=fun _ _ _ _ h=>by obtain ⟨s0,F0,rfl,-,h0⟩:=h; exact One.all ⟨rfl,h0.one,rfl,trivial⟩
def cL (Φ:Hp) (F:List Nat) (cs:List Value) (x:au):Prop:=
  ∃ (s0:Value),cs=[.string x.Kind,s0,.bool x.Not]∧F=(ob s0++[])∧OSl ck 171 5 Φ [] s0 x.Args
theorem cL.lasts:bQ cL:=fun X Φ Φ' F cs x hf hd ⟨s0,hc,hF,h0⟩=>by
  rw [hF] at hd
  exact ⟨s0,hc,hF,h0.frame ck.lasts hf (fun k hk=>hd k (by simp [hk])) (Dj.nil _)⟩
instance:LS cL:=⟨cL.lasts⟩
theorem cL.knows:cW cL:=fun Φ F cs x ⟨s0,hc,hF,h0⟩=>hF ▸ (h0.knO.app h0.kn)
theorem cL.one:fm cL:=fun _ _ _ _ h=>by obtain ⟨s0,rfl,-,h0⟩:=h; exact One.all ⟨rfl,h0.one,rfl,trivial⟩
theorem cL.gives:dL cL bS:=fun Φ F cs x ⟨s0,hc,hF,h0⟩=>⟨s0,ob s0++[],hc,hF,h0.rslG (dL.refl _)⟩
structure cm where
  Op:Int
  L:bh
  R:bh
  deriving DecidableEq
def bq (Φ:Hp) (F:List Nat) (cs:List Value) (x:cm):Prop:=cs=[.int .i64 x.Op,.int .i64 x.L.K,.string x.L.S,.int .i64 x.L.V.K,.int .i64 x.L.V.N,.string x.L.V.S,.int .i64 x.R.K,.string x.R.S,.int .i64 x.R.V.K,.int .i64 x.R.V.N,.string x.R.V.S]∧F=[]
theorem bq.lasts:bQ bq:=fun _ _ _ _ _ _ _ _ h=>h
instance:LS bq:=⟨bq.lasts⟩
theorem bq.knows:cW bq:=fun _ _ _ _ h=>h.2 ▸ Kw.nil
theorem bq.flat:uA bq:=fun _ _ _ _ h=>h.2
theorem bq.one:fm bq:=fun _ _ _ _ h=>by obtain ⟨rfl,-⟩:=h; exact One.all ⟨rfl,rfl,rfl,rfl,rfl,rfl,rfl,rfl,rfl,rfl,rfl,trivial⟩
structure cn where
  Op:ByteArray
  L:bh
  R:bh
  deriving DecidableEq
def ce (Φ:Hp) (F:List Nat) (cs:List Value) (x:cn):Prop:=cs=[.string x.Op,.int .i64 x.L.K,.string x.L.S,.int .i64 x.L.V.K,.int .i64 x.L.V.N,.string x.L.V.S,.int .i64 x.R.K,.string x.R.S,.int .i64 x.R.V.K,.int .i64 x.R.V.N,.string x.R.V.S]∧F=[]
theorem ce.lasts:bQ ce:=fun _ _ _ _ _ _ _ _ h=>h
instance:LS ce:=⟨ce.lasts⟩
theorem ce.knows:cW ce:=fun _ _ _ _ h=>h.2 ▸ Kw.nil
theorem ce.flat:uA ce:=fun _ _ _ _ h=>h.2
theorem ce.one:fm ce:=fun _ _ _ _ h=>by obtain ⟨rfl,-⟩:=h; exact One.all ⟨rfl,rfl,rfl,rfl,rfl,rfl,rfl,rfl,rfl,rfl,rfl,trivial⟩
structure cI where
  Kind:Int
  Name:ByteArray
  Args:(List cn)
  N:Int
  Undo:ByteArray
  deriving DecidableEq
def ep (Φ:Hp) (F:List Nat) (cs:List Value) (x:cI):Prop:=
  ∃ (s0:Value) (F0:List Nat),cs=[.int .i64 x.Kind,.string x.Name,s0,.int .i64 x.N,.string x.Undo]∧F=F0∧RSl ce 11 Φ F0 s0 x.Args
theorem ep.lasts:bQ ep:=fun X Φ Φ' F cs x hf hd ⟨s0,F0,hc,hF,h0⟩=>by
  rw [hF] at hd
  exact ⟨s0,F0,hc,hF,h0.frame ce.lasts hf (fun k hk=>hd k (by simp [hk]))⟩
instance:LS ep:=⟨ep.lasts⟩
theorem ep.knows:cW ep:=fun Φ F cs x ⟨s0,F0,hc,hF,h0⟩=>hF ▸ h0.kn
theorem ep.one:fm ep:=fun _ _ _ _ h=>by obtain ⟨s0,F0,rfl,-,h0⟩:=h; exact One.all ⟨rfl,rfl,h0.one,rfl,rfl,trivial⟩
def fd (Φ:Hp) (F:List Nat) (cs:List Value) (x:cI):Prop:=
  ∃ (s0:Value),cs=[.int .i64 x.Kind,.string x.Name,s0,.int .i64 x.N,.string x.Undo]∧F=(ob s0++[])∧OSl ce 216 11 Φ [] s0 x.Args
theorem fd.lasts:bQ fd:=fun X Φ Φ' F cs x hf hd ⟨s0,hc,hF,h0⟩=>by
  rw [hF] at hd
  exact ⟨s0,hc,hF,h0.frame ce.lasts hf (fun k hk=>hd k (by simp [hk])) (Dj.nil _)⟩
instance:LS fd:=⟨fd.lasts⟩
theorem fd.knows:cW fd:=fun Φ F cs x ⟨s0,hc,hF,h0⟩=>hF ▸ (h0.knO.app h0.kn)
theorem fd.one:fm fd:=fun _ _ _ _ h=>by obtain ⟨s0,rfl,-,h0⟩:=h; exact One.all ⟨rfl,rfl,h0.one,rfl,rfl,trivial⟩
theorem fd.gives:dL fd ep:=fun Φ F cs x ⟨s0,hc,hF,h0⟩=>⟨s0,ob s0++[],hc,hF,h0.rslG (dL.refl _)⟩
structure af where
  Name:ByteArray
  Sal:Int
  Pats:(List au)
  Conds:(List cm)
  Acts:(List cI)
  deriving DecidableEq
def cD (Φ:Hp) (F:List Nat) (cs:List Value) (x:af):Prop:=
  ∃ (s0:Value) (F0:List Nat) (s1:Value) (F1:List Nat) (s2:Value) (F2:List Nat),cs=[.string x.Name,.int .i64 x.Sal,s0,s1,s2]∧F=F0++(F1++(F2))∧RSl bS 3 Φ F0 s0 x.Pats∧RSl bq 11 Φ F1 s1 x.Conds∧RSl ep 5 Φ F2 s2 x.Acts
theorem cD.lasts:bQ cD:=fun X Φ Φ' F cs x hf hd ⟨s0,F0,s1,F1,s2,F2,hc,hF,h0,h1,h2⟩=>by
  rw [hF] at hd
  exact ⟨s0,F0,s1,F1,s2,F2,hc,hF,h0.frame bS.lasts hf (fun k hk=>hd k (by simp [hk])),h1.frame bq.lasts hf (fun k hk=>hd k (by simp [hk])),h2.frame ep.lasts hf (fun k hk=>hd k (by simp [hk]))⟩
instance:LS cD:=⟨cD.lasts⟩
theorem cD.knows:cW cD:=fun Φ F cs x ⟨s0,F0,s1,F1,s2,F2,hc,hF,h0,h1,h2⟩=>hF ▸ (h0.kn.app (h1.kn.app h2.kn))
theorem cD.one:fm cD:=fun _ _ _ _ h=>by obtain ⟨s0,F0,s1,F1,s2,F2,rfl,-,h0,h1,h2⟩:=h; exact One.all ⟨rfl,rfl,h0.one,h1.one,h2.one,trivial⟩
def fA (Φ:Hp) (F:List Nat) (cs:List Value) (x:af):Prop:=
  ∃ (s0:Value) (D0:List Nat) (s1:Value) (s2:Value) (D2:List Nat),cs=[.string x.Name,.int .i64 x.Sal,s0,s1,s2]∧F=(ob s0++D0)++((ob s1++[])++((ob s2++D2)))∧OSl cL 201 3 Φ D0 s0 x.Pats∧OSl bq 173 11 Φ [] s1 x.Conds∧OSl fd 213 5 Φ D2 s2 x.Acts
theorem fA.lasts:bQ fA:=fun X Φ Φ' F cs x hf hd ⟨s0,D0,s1,s2,D2,hc,hF,h0,h1,h2⟩=>by
  rw [hF] at hd
  exact ⟨s0,D0,s1,s2,D2,hc,hF,h0.frame cL.lasts hf (fun k hk=>hd k (by simp [hk])) (fun k hk=>hd k (by simp [hk])),h1.frame bq.lasts hf (fun k hk=>hd k (by simp [hk])) (Dj.nil _),h2.frame fd.lasts hf (fun k hk=>hd k (by simp [hk])) (fun k hk=>hd k (by simp [hk]))⟩
instance:LS fA:=⟨fA.lasts⟩
theorem fA.knows:cW fA:=fun Φ F cs x ⟨s0,D0,s1,s2,D2,hc,hF,h0,h1,h2⟩=>hF ▸ ((h0.knO.app h0.kn).app ((h1.knO.app h1.kn).app (h2.knO.app h2.kn)))
theorem fA.one:fm fA:=fun _ _ _ _ h=>by obtain ⟨s0,D0,s1,s2,D2,rfl,-,h0,h1,h2⟩:=h; exact One.all ⟨rfl,rfl,h0.one,h1.one,h2.one,trivial⟩
theorem fA.gives:dL fA cD:=fun Φ F cs x ⟨s0,D0,s1,s2,D2,hc,hF,h0,h1,h2⟩=>⟨s0,ob s0++D0,s1,ob s1++[],s2,ob s2++D2,hc,hF,h0.rslG cL.gives,h1.rslG (dL.refl _),h2.rslG fd.gives⟩
structure bP where
  Name:ByteArray
  Rules:(List af)
  deriving DecidableEq
def tT (Φ:Hp) (F:List Nat) (cs:List Value) (x:bP):Prop:=
  ∃ (s0:Value) (F0:List Nat),cs=[.string x.Name,s0]∧F=F0∧RSl cD 5 Φ F0 s0 x.Rules
theorem tT.lasts:bQ tT:=fun X Φ Φ' F cs x hf hd ⟨s0,F0,hc,hF,h0⟩=>by
  rw [hF] at hd
  exact ⟨s0,F0,hc,hF,h0.frame cD.lasts hf (fun k hk=>hd k (by simp [hk]))⟩
instance:LS tT:=⟨tT.lasts⟩
theorem tT.knows:cW tT:=fun Φ F cs x ⟨s0,F0,hc,hF,h0⟩=>hF ▸ h0.kn
theorem tT.one:fm tT:=fun _ _ _ _ h=>by obtain ⟨s0,F0,rfl,-,h0⟩:=h; exact One.all ⟨rfl,h0.one,trivial⟩
def sf (Φ:Hp) (F:List Nat) (cs:List Value) (x:bP):Prop:=
  ∃ (s0:Value) (D0:List Nat),cs=[.string x.Name,s0]∧F=(ob s0++D0)∧OSl fA 87 5 Φ D0 s0 x.Rules
theorem sf.lasts:bQ sf:=fun X Φ Φ' F cs x hf hd ⟨s0,D0,hc,hF,h0⟩=>by
  rw [hF] at hd
  exact ⟨s0,D0,hc,hF,h0.frame fA.lasts hf (fun k hk=>hd k (by simp [hk])) (fun k hk=>hd k (by simp [hk]))⟩
instance:LS sf:=⟨sf.lasts⟩
theorem sf.knows:cW sf:=fun Φ F cs x ⟨s0,D0,hc,hF,h0⟩=>hF ▸ (h0.knO.app h0.kn)
theorem sf.one:fm sf:=fun _ _ _ _ h=>by obtain ⟨s0,D0,rfl,-,h0⟩:=h; exact One.all ⟨rfl,h0.one,trivial⟩
theorem sf.gives:dL sf tT:=fun Φ F cs x ⟨s0,D0,hc,hF,h0⟩=>⟨s0,ob s0++D0,hc,hF,h0.rslG fA.gives⟩
structure aL where
  Kind:ByteArray
  Fields:(List aN)
  deriving DecidableEq
def q9 (Φ:Hp) (F:List Nat) (cs:List Value) (x:aL):Prop:=
  ∃ (s0:Value) (F0:List Nat),cs=[.string x.Kind,s0]∧F=F0∧RSl aP 3 Φ F0 s0 x.Fields
theorem q9.lasts:bQ q9:=fun X Φ Φ' F cs x hf hd ⟨s0,F0,hc,hF,h0⟩=>by
  rw [hF] at hd
  exact ⟨s0,F0,hc,hF,h0.frame aP.lasts hf (fun k hk=>hd k (by simp [hk]))⟩
instance:LS q9:=⟨q9.lasts⟩
theorem q9.knows:cW q9:=fun Φ F cs x ⟨s0,F0,hc,hF,h0⟩=>hF ▸ h0.kn
theorem q9.one:fm q9:=fun _ _ _ _ h=>by obtain ⟨s0,F0,rfl,-,h0⟩:=h; exact One.all ⟨rfl,h0.one,trivial⟩
def oM (Φ:Hp) (F:List Nat) (cs:List Value) (x:aL):Prop:=
  ∃ (s0:Value),cs=[.string x.Kind,s0]∧F=(ob s0++[])∧OSl aP 95 3 Φ [] s0 x.Fields
theorem oM.lasts:bQ oM:=fun X Φ Φ' F cs x hf hd ⟨s0,hc,hF,h0⟩=>by
  rw [hF] at hd
  exact ⟨s0,hc,hF,h0.frame aP.lasts hf (fun k hk=>hd k (by simp [hk])) (Dj.nil _)⟩
instance:LS oM:=⟨oM.lasts⟩
theorem oM.knows:cW oM:=fun Φ F cs x ⟨s0,hc,hF,h0⟩=>hF ▸ (h0.knO.app h0.kn)
theorem oM.one:fm oM:=fun _ _ _ _ h=>by obtain ⟨s0,rfl,-,h0⟩:=h; exact One.all ⟨rfl,h0.one,trivial⟩
theorem oM.gives:dL oM q9:=fun Φ F cs x ⟨s0,hc,hF,h0⟩=>⟨s0,ob s0++[],hc,hF,h0.rslG (dL.refl _)⟩
structure ak where
  Id:Int
  F:aL
  deriving DecidableEq
def bm (Φ:Hp) (F:List Nat) (cs:List Value) (x:ak):Prop:=
  ∃ (s0:Value) (F0:List Nat),cs=[.int .i64 x.Id,.string x.F.Kind,s0]∧F=F0∧RSl aP 3 Φ F0 s0 x.F.Fields
theorem bm.lasts:bQ bm:=fun X Φ Φ' F cs x hf hd ⟨s0,F0,hc,hF,h0⟩=>by
  rw [hF] at hd
  exact ⟨s0,F0,hc,hF,h0.frame aP.lasts hf (fun k hk=>hd k (by simp [hk]))⟩
instance:LS bm:=⟨bm.lasts⟩
theorem bm.knows:cW bm:=fun Φ F cs x ⟨s0,F0,hc,hF,h0⟩=>hF ▸ h0.kn
theorem bm.one:fm bm:=fun _ _ _ _ h=>by obtain ⟨s0,F0,rfl,-,h0⟩:=h; exact One.all ⟨rfl,rfl,h0.one,trivial⟩
def dP (Φ:Hp) (F:List Nat) (cs:List Value) (x:ak):Prop:=
  ∃ (s0:Value),cs=[.int .i64 x.Id,.string x.F.Kind,s0]∧F=(ob s0++[])∧OSl aP 95 3 Φ [] s0 x.F.Fields
theorem dP.lasts:bQ dP:=fun X Φ Φ' F cs x hf hd ⟨s0,hc,hF,h0⟩=>by
  rw [hF] at hd
  exact ⟨s0,hc,hF,h0.frame aP.lasts hf (fun k hk=>hd k (by simp [hk])) (Dj.nil _)⟩
instance:LS dP:=⟨dP.lasts⟩
theorem dP.knows:cW dP:=fun Φ F cs x ⟨s0,hc,hF,h0⟩=>hF ▸ (h0.knO.app h0.kn)
theorem dP.one:fm dP:=fun _ _ _ _ h=>by obtain ⟨s0,rfl,-,h0⟩:=h; exact One.all ⟨rfl,rfl,h0.one,trivial⟩
theorem dP.gives:dL dP bm:=fun Φ F cs x ⟨s0,hc,hF,h0⟩=>⟨s0,ob s0++[],hc,hF,h0.rslG (dL.refl _)⟩
structure ah where
  Items:(List ak)
  Next:Int
  deriving DecidableEq
def np (Φ:Hp) (F:List Nat) (cs:List Value) (x:ah):Prop:=
  ∃ (s0:Value) (F0:List Nat),cs=[s0,.int .i64 x.Next]∧F=F0∧RSl bm 3 Φ F0 s0 x.Items
theorem np.lasts:bQ np:=fun X Φ Φ' F cs x hf hd ⟨s0,F0,hc,hF,h0⟩=>by
  rw [hF] at hd
  exact ⟨s0,F0,hc,hF,h0.frame bm.lasts hf (fun k hk=>hd k (by simp [hk]))⟩
instance:LS np:=⟨np.lasts⟩
theorem np.knows:cW np:=fun Φ F cs x ⟨s0,F0,hc,hF,h0⟩=>hF ▸ h0.kn
theorem np.one:fm np:=fun _ _ _ _ h=>by obtain ⟨s0,F0,rfl,-,h0⟩:=h; exact One.all ⟨h0.one,rfl,trivial⟩
def m8 (Φ:Hp) (F:List Nat) (cs:List Value) (x:ah):Prop:=
  ∃ (s0:Value) (D0:List Nat),cs=[s0,.int .i64 x.Next]∧F=(ob s0++D0)∧OSl dP 66 3 Φ D0 s0 x.Items
theorem m8.lasts:bQ m8:=fun X Φ Φ' F cs x hf hd ⟨s0,D0,hc,hF,h0⟩=>by
  rw [hF] at hd
  exact ⟨s0,D0,hc,hF,h0.frame dP.lasts hf (fun k hk=>hd k (by simp [hk])) (fun k hk=>hd k (by simp [hk]))⟩
instance:LS m8:=⟨m8.lasts⟩
theorem m8.knows:cW m8:=fun Φ F cs x ⟨s0,D0,hc,hF,h0⟩=>hF ▸ (h0.knO.app h0.kn)
theorem m8.one:fm m8:=fun _ _ _ _ h=>by obtain ⟨s0,D0,rfl,-,h0⟩:=h; exact One.all ⟨h0.one,rfl,trivial⟩
theorem m8.gives:dL m8 np:=fun Φ F cs x ⟨s0,D0,hc,hF,h0⟩=>⟨s0,ob s0++D0,hc,hF,h0.rslG dP.gives⟩
def bT (x y:aN):Bool:=((x.K == y.K) && ((x.N == y.N) && (seq x.S y.S && true)))
theorem yO (a b:ByteArray):seq a b=decide (a=b):=by
  unfold seq
  by_cases h:a=b
  · subst h; simp
  · have : ¬ a.toList=b.toList:=fun e=>h (by rw [ByteArray.toList_eq,ByteArray.toList_eq] at e; exact ByteArray.ext (Array.toList_inj.1 e))
    simp [h,this]
theorem kE (x y:aN):bT x y=decide (x=y):=by
  obtain ⟨a0,a1,a2⟩:=x; obtain ⟨b0,b1,b2⟩:=y
  rw [Bool.eq_iff_iff]
  simp only [bT,yO,Bool.and_true,Bool.and_eq_true,beq_iff_eq,decide_eq_true_eq,aN.mk.injEq,and_assoc]
def o5 (x y:bh):Bool:=((x.K == y.K) && (seq x.S y.S && ((x.V.K == y.V.K) && ((x.V.N == y.V.N) && (seq x.V.S y.V.S && true)))))

theorem HP (x y:bh):o5 x y=decide (x=y):=by
  obtain ⟨a0,a1,⟨a20,a21,a22⟩⟩:=x; obtain ⟨b0,b1,⟨b20,b21,b22⟩⟩:=y
  rw [Bool.eq_iff_iff]
  simp only [o5,yO,Bool.and_true,Bool.and_eq_true,beq_iff_eq,decide_eq_true_eq,bh.mk.injEq,aN.mk.injEq,and_assoc]
structure aM where
  Kind:ByteArray
  N:Int
  Consts:(List aN)
  At:(List Int)
  deriving DecidableEq
def jB (Φ:Hp) (F:List Nat) (cs:List Value) (x:aM):Prop:=
  ∃ (s0:Value) (F0:List Nat) (s1:Value) (F1:List Nat),cs=[.string x.Kind,.int .i64 x.N,s0,s1]∧F=F0++(F1)∧RSl aP 3 Φ F0 s0 x.Consts∧RSl (RI .i64) 1 Φ F1 s1 x.At
theorem jB.lasts:bQ jB:=fun X Φ Φ' F cs x hf hd ⟨s0,F0,s1,F1,hc,hF,h0,h1⟩=>by
  rw [hF] at hd
  exact ⟨s0,F0,s1,F1,hc,hF,h0.frame aP.lasts hf (fun k hk=>hd k (by simp [hk])),h1.frame RI.lasts hf (fun k hk=>hd k (by simp [hk]))⟩
instance:LS jB:=⟨jB.lasts⟩
theorem jB.knows:cW jB:=fun Φ F cs x ⟨s0,F0,s1,F1,hc,hF,h0,h1⟩=>hF ▸ (h0.kn.app h1.kn)
theorem jB.one:fm jB:=fun _ _ _ _ h=>by obtain ⟨s0,F0,s1,F1,rfl,-,h0,h1⟩:=h; exact One.all ⟨rfl,rfl,h0.one,h1.one,trivial⟩
def cP (Φ:Hp) (F:List Nat) (cs:List Value) (x:aM):Prop:=
  ∃ (s0:Value) (s1:Value),cs=[.string x.Kind,.int .i64 x.N,s0,s1]∧F=(ob s0++[])++((ob s1++[]))∧OSl aP 95 3 Φ [] s0 x.Consts∧OSl (RI .i64) 3 1 Φ [] s1 x.At
theorem cP.lasts:bQ cP:=fun X Φ Φ' F cs x hf hd ⟨s0,s1,hc,hF,h0,h1⟩=>by
  rw [hF] at hd
  exact ⟨s0,s1,hc,hF,h0.frame aP.lasts hf (fun k hk=>hd k (by simp [hk])) (Dj.nil _),h1.frame RI.lasts hf (fun k hk=>hd k (by simp [hk])) (Dj.nil _)⟩
instance:LS cP:=⟨cP.lasts⟩
theorem cP.knows:cW cP:=fun Φ F cs x ⟨s0,s1,hc,hF,h0,h1⟩=>hF ▸ ((h0.knO.app h0.kn).app (h1.knO.app h1.kn))
theorem cP.one:fm cP:=fun _ _ _ _ h=>by obtain ⟨s0,s1,rfl,-,h0,h1⟩:=h; exact One.all ⟨rfl,rfl,h0.one,h1.one,trivial⟩
theorem cP.gives:dL cP jB:=fun Φ F cs x ⟨s0,s1,hc,hF,h0,h1⟩=>⟨s0,ob s0++[],s1,ob s1++[],hc,hF,h0.rslG (dL.refl _),h1.rslG (dL.refl _)⟩
structure bR where
  Pos:(List Int)
  Neg:(List Int)
  deriving DecidableEq
def iw (Φ:Hp) (F:List Nat) (cs:List Value) (x:bR):Prop:=
  ∃ (s0:Value) (F0:List Nat) (s1:Value) (F1:List Nat),cs=[s0,s1]∧F=F0++(F1)∧RSl (RI .i64) 1 Φ F0 s0 x.Pos∧RSl (RI .i64) 1 Φ F1 s1 x.Neg
theorem iw.lasts:bQ iw:=fun X Φ Φ' F cs x hf hd ⟨s0,F0,s1,F1,hc,hF,h0,h1⟩=>by
  rw [hF] at hd
  exact ⟨s0,F0,s1,F1,hc,hF,h0.frame RI.lasts hf (fun k hk=>hd k (by simp [hk])),h1.frame RI.lasts hf (fun k hk=>hd k (by simp [hk]))⟩
instance:LS iw:=⟨iw.lasts⟩
theorem iw.knows:cW iw:=fun Φ F cs x ⟨s0,F0,s1,F1,hc,hF,h0,h1⟩=>hF ▸ (h0.kn.app h1.kn)
theorem iw.one:fm iw:=fun _ _ _ _ h=>by obtain ⟨s0,F0,s1,F1,rfl,-,h0,h1⟩:=h; exact One.all ⟨h0.one,h1.one,trivial⟩
def db (Φ:Hp) (F:List Nat) (cs:List Value) (x:bR):Prop:=
  ∃ (s0:Value) (s1:Value),cs=[s0,s1]∧F=(ob s0++[])++((ob s1++[]))∧OSl (RI .i64) 3 1 Φ [] s0 x.Pos∧OSl (RI .i64) 3 1 Φ [] s1 x.Neg
theorem db.lasts:bQ db:=fun X Φ Φ' F cs x hf hd ⟨s0,s1,hc,hF,h0,h1⟩=>by
  rw [hF] at hd
  exact ⟨s0,s1,hc,hF,h0.frame RI.lasts hf (fun k hk=>hd k (by simp [hk])) (Dj.nil _),h1.frame RI.lasts hf (fun k hk=>hd k (by simp [hk])) (Dj.nil _)⟩
instance:LS db:=⟨db.lasts⟩
theorem db.knows:cW db:=fun Φ F cs x ⟨s0,s1,hc,hF,h0,h1⟩=>hF ▸ ((h0.knO.app h0.kn).app (h1.knO.app h1.kn))
theorem db.one:fm db:=fun _ _ _ _ h=>by obtain ⟨s0,s1,rfl,-,h0,h1⟩:=h; exact One.all ⟨h0.one,h1.one,trivial⟩
theorem db.gives:dL db iw:=fun Φ F cs x ⟨s0,s1,hc,hF,h0,h1⟩=>⟨s0,ob s0++[],s1,ob s1++[],hc,hF,h0.rslG (dL.refl _),h1.rslG (dL.refl _)⟩
structure fj where
  Alphas:(List aM)
  Chains:(List bR)
  deriving DecidableEq
def tW (Φ:Hp) (F:List Nat) (cs:List Value) (x:fj):Prop:=
  ∃ (s0:Value) (F0:List Nat) (s1:Value) (F1:List Nat),cs=[s0,s1]∧F=F0++(F1)∧RSl jB 4 Φ F0 s0 x.Alphas∧RSl iw 2 Φ F1 s1 x.Chains
theorem tW.lasts:bQ tW:=fun X Φ Φ' F cs x hf hd ⟨s0,F0,s1,F1,hc,hF,h0,h1⟩=>by
  rw [hF] at hd
  exact ⟨s0,F0,s1,F1,hc,hF,h0.frame jB.lasts hf (fun k hk=>hd k (by simp [hk])),h1.frame iw.lasts hf (fun k hk=>hd k (by simp [hk]))⟩
instance:LS tW:=⟨tW.lasts⟩
theorem tW.knows:cW tW:=fun Φ F cs x ⟨s0,F0,s1,F1,hc,hF,h0,h1⟩=>hF ▸ (h0.kn.app h1.kn)
theorem tW.one:fm tW:=fun _ _ _ _ h=>by obtain ⟨s0,F0,s1,F1,rfl,-,h0,h1⟩:=h; exact One.all ⟨h0.one,h1.one,trivial⟩
def sE (Φ:Hp) (F:List Nat) (cs:List Value) (x:fj):Prop:=
  ∃ (s0:Value) (D0:List Nat) (s1:Value) (D1:List Nat),cs=[s0,s1]∧F=(ob s0++D0)++((ob s1++D1))∧OSl cP 137 4 Φ D0 s0 x.Alphas∧OSl db 141 2 Φ D1 s1 x.Chains
theorem sE.lasts:bQ sE:=fun X Φ Φ' F cs x hf hd ⟨s0,D0,s1,D1,hc,hF,h0,h1⟩=>by
  rw [hF] at hd
  exact ⟨s0,D0,s1,D1,hc,hF,h0.frame cP.lasts hf (fun k hk=>hd k (by simp [hk])) (fun k hk=>hd k (by simp [hk])),h1.frame db.lasts hf (fun k hk=>hd k (by simp [hk])) (fun k hk=>hd k (by simp [hk]))⟩
instance:LS sE:=⟨sE.lasts⟩
theorem sE.knows:cW sE:=fun Φ F cs x ⟨s0,D0,s1,D1,hc,hF,h0,h1⟩=>hF ▸ ((h0.knO.app h0.kn).app (h1.knO.app h1.kn))
theorem sE.one:fm sE:=fun _ _ _ _ h=>by obtain ⟨s0,D0,s1,D1,rfl,-,h0,h1⟩:=h; exact One.all ⟨h0.one,h1.one,trivial⟩
theorem sE.gives:dL sE tW:=fun Φ F cs x ⟨s0,D0,s1,D1,hc,hF,h0,h1⟩=>⟨s0,ob s0++D0,s1,ob s1++D1,hc,hF,h0.rslG cP.gives,h1.rslG db.gives⟩
structure eu where
  L:(List Int)
  deriving DecidableEq
def j0 (Φ:Hp) (F:List Nat) (cs:List Value) (x:eu):Prop:=
  ∃ (s0:Value) (F0:List Nat),cs=[s0]∧F=F0∧RSl (RI .i64) 1 Φ F0 s0 x.L
theorem j0.lasts:bQ j0:=fun X Φ Φ' F cs x hf hd ⟨s0,F0,hc,hF,h0⟩=>by
  rw [hF] at hd
  exact ⟨s0,F0,hc,hF,h0.frame RI.lasts hf (fun k hk=>hd k (by simp [hk]))⟩
instance:LS j0:=⟨j0.lasts⟩
theorem j0.knows:cW j0:=fun Φ F cs x ⟨s0,F0,hc,hF,h0⟩=>hF ▸ h0.kn
theorem j0.one:fm j0:=fun _ _ _ _ h=>by obtain ⟨s0,F0,rfl,-,h0⟩:=h; exact One.all ⟨h0.one,trivial⟩
def fc (Φ:Hp) (F:List Nat) (cs:List Value) (x:eu):Prop:=
  ∃ (s0:Value),cs=[s0]∧F=(ob s0++[])∧OSl (RI .i64) 3 1 Φ [] s0 x.L
theorem fc.lasts:bQ fc:=fun X Φ Φ' F cs x hf hd ⟨s0,hc,hF,h0⟩=>by
  rw [hF] at hd
  exact ⟨s0,hc,hF,h0.frame RI.lasts hf (fun k hk=>hd k (by simp [hk])) (Dj.nil _)⟩
instance:LS fc:=⟨fc.lasts⟩
theorem fc.knows:cW fc:=fun Φ F cs x ⟨s0,hc,hF,h0⟩=>hF ▸ (h0.knO.app h0.kn)
theorem fc.one:fm fc:=fun _ _ _ _ h=>by obtain ⟨s0,rfl,-,h0⟩:=h; exact One.all ⟨h0.one,trivial⟩
theorem fc.gives:dL fc j0:=fun Φ F cs x ⟨s0,hc,hF,h0⟩=>⟨s0,ob s0++[],hc,hF,h0.rslG (dL.refl _)⟩
structure aD where
  Ids:(List Int)
  Hits:(List Int)
  deriving DecidableEq
def dY (Φ:Hp) (F:List Nat) (cs:List Value) (x:aD):Prop:=
  ∃ (s0:Value) (F0:List Nat) (s1:Value) (F1:List Nat),cs=[s0,s1]∧F=F0++(F1)∧RSl (RI .i64) 1 Φ F0 s0 x.Ids∧RSl (RI .i64) 1 Φ F1 s1 x.Hits
theorem dY.lasts:bQ dY:=fun X Φ Φ' F cs x hf hd ⟨s0,F0,s1,F1,hc,hF,h0,h1⟩=>by
  rw [hF] at hd
  exact ⟨s0,F0,s1,F1,hc,hF,h0.frame RI.lasts hf (fun k hk=>hd k (by simp [hk])),h1.frame RI.lasts hf (fun k hk=>hd k (by simp [hk]))⟩
instance:LS dY:=⟨dY.lasts⟩
theorem dY.knows:cW dY:=fun Φ F cs x ⟨s0,F0,s1,F1,hc,hF,h0,h1⟩=>hF ▸ (h0.kn.app h1.kn)
theorem dY.one:fm dY:=fun _ _ _ _ h=>by obtain ⟨s0,F0,s1,F1,rfl,-,h0,h1⟩:=h; exact One.all ⟨h0.one,h1.one,trivial⟩
def cF (Φ:Hp) (F:List Nat) (cs:List Value) (x:aD):Prop:=
  ∃ (s0:Value) (s1:Value),cs=[s0,s1]∧F=(ob s0++[])++((ob s1++[]))∧OSl (RI .i64) 3 1 Φ [] s0 x.Ids∧OSl (RI .i64) 3 1 Φ [] s1 x.Hits
theorem cF.lasts:bQ cF:=fun X Φ Φ' F cs x hf hd ⟨s0,s1,hc,hF,h0,h1⟩=>by
  rw [hF] at hd
  exact ⟨s0,s1,hc,hF,h0.frame RI.lasts hf (fun k hk=>hd k (by simp [hk])) (Dj.nil _),h1.frame RI.lasts hf (fun k hk=>hd k (by simp [hk])) (Dj.nil _)⟩
instance:LS cF:=⟨cF.lasts⟩
theorem cF.knows:cW cF:=fun Φ F cs x ⟨s0,s1,hc,hF,h0,h1⟩=>hF ▸ ((h0.knO.app h0.kn).app (h1.knO.app h1.kn))
theorem cF.one:fm cF:=fun _ _ _ _ h=>by obtain ⟨s0,s1,rfl,-,h0,h1⟩:=h; exact One.all ⟨h0.one,h1.one,trivial⟩
theorem cF.gives:dL cF dY:=fun Φ F cs x ⟨s0,s1,hc,hF,h0,h1⟩=>⟨s0,ob s0++[],s1,ob s1++[],hc,hF,h0.rslG (dL.refl _),h1.rslG (dL.refl _)⟩
structure aO where
  Toks:(List aD)
  deriving DecidableEq
def gD (Φ:Hp) (F:List Nat) (cs:List Value) (x:aO):Prop:=
  ∃ (s0:Value) (F0:List Nat),cs=[s0]∧F=F0∧RSl dY 2 Φ F0 s0 x.Toks
theorem gD.lasts:bQ gD:=fun X Φ Φ' F cs x hf hd ⟨s0,F0,hc,hF,h0⟩=>by
  rw [hF] at hd
  exact ⟨s0,F0,hc,hF,h0.frame dY.lasts hf (fun k hk=>hd k (by simp [hk]))⟩
instance:LS gD:=⟨gD.lasts⟩
theorem gD.knows:cW gD:=fun Φ F cs x ⟨s0,F0,hc,hF,h0⟩=>hF ▸ h0.kn
theorem gD.one:fm gD:=fun _ _ _ _ h=>by obtain ⟨s0,F0,rfl,-,h0⟩:=h; exact One.all ⟨h0.one,trivial⟩
def dp (Φ:Hp) (F:List Nat) (cs:List Value) (x:aO):Prop:=
  ∃ (s0:Value) (D0:List Nat),cs=[s0]∧F=(ob s0++D0)∧OSl cF 105 2 Φ D0 s0 x.Toks
theorem dp.lasts:bQ dp:=fun X Φ Φ' F cs x hf hd ⟨s0,D0,hc,hF,h0⟩=>by
  rw [hF] at hd
  exact ⟨s0,D0,hc,hF,h0.frame cF.lasts hf (fun k hk=>hd k (by simp [hk])) (fun k hk=>hd k (by simp [hk]))⟩
instance:LS dp:=⟨dp.lasts⟩
theorem dp.knows:cW dp:=fun Φ F cs x ⟨s0,D0,hc,hF,h0⟩=>hF ▸ (h0.knO.app h0.kn)
theorem dp.one:fm dp:=fun _ _ _ _ h=>by obtain ⟨s0,D0,rfl,-,h0⟩:=h; exact One.all ⟨h0.one,trivial⟩
theorem dp.gives:dL dp gD:=fun Φ F cs x ⟨s0,D0,hc,hF,h0⟩=>⟨s0,ob s0++D0,hc,hF,h0.rslG cF.gives⟩
structure cq where
  Levels:(List aO)
  deriving DecidableEq
def mm (Φ:Hp) (F:List Nat) (cs:List Value) (x:cq):Prop:=
  ∃ (s0:Value) (F0:List Nat),cs=[s0]∧F=F0∧RSl gD 1 Φ F0 s0 x.Levels
theorem mm.lasts:bQ mm:=fun X Φ Φ' F cs x hf hd ⟨s0,F0,hc,hF,h0⟩=>by
  rw [hF] at hd
  exact ⟨s0,F0,hc,hF,h0.frame gD.lasts hf (fun k hk=>hd k (by simp [hk]))⟩
instance:LS mm:=⟨mm.lasts⟩
theorem mm.knows:cW mm:=fun Φ F cs x ⟨s0,F0,hc,hF,h0⟩=>hF ▸ h0.kn
theorem mm.one:fm mm:=fun _ _ _ _ h=>by obtain ⟨s0,F0,rfl,-,h0⟩:=h; exact One.all ⟨h0.one,trivial⟩
def ey (Φ:Hp) (F:List Nat) (cs:List Value) (x:cq):Prop:=
  ∃ (s0:Value) (D0:List Nat),cs=[s0]∧F=(ob s0++D0)∧OSl dp 103 1 Φ D0 s0 x.Levels
theorem ey.lasts:bQ ey:=fun X Φ Φ' F cs x hf hd ⟨s0,D0,hc,hF,h0⟩=>by
  rw [hF] at hd
  exact ⟨s0,D0,hc,hF,h0.frame dp.lasts hf (fun k hk=>hd k (by simp [hk])) (fun k hk=>hd k (by simp [hk]))⟩
instance:LS ey:=⟨ey.lasts⟩
theorem ey.knows:cW ey:=fun Φ F cs x ⟨s0,D0,hc,hF,h0⟩=>hF ▸ (h0.knO.app h0.kn)
theorem ey.one:fm ey:=fun _ _ _ _ h=>by obtain ⟨s0,D0,rfl,-,h0⟩:=h; exact One.all ⟨h0.one,trivial⟩
theorem ey.gives:dL ey mm:=fun Φ F cs x ⟨s0,D0,hc,hF,h0⟩=>⟨s0,ob s0++D0,hc,hF,h0.rslG dp.gives⟩
structure dI where
  Alphas:(List eu)
  Rules:(List cq)
  deriving DecidableEq
def tl (Φ:Hp) (F:List Nat) (cs:List Value) (x:dI):Prop:=
  ∃ (s0:Value) (F0:List Nat) (s1:Value) (F1:List Nat),cs=[s0,s1]∧F=F0++(F1)∧RSl j0 1 Φ F0 s0 x.Alphas∧RSl mm 1 Φ F1 s1 x.Rules
theorem tl.lasts:bQ tl:=fun X Φ Φ' F cs x hf hd ⟨s0,F0,s1,F1,hc,hF,h0,h1⟩=>by
  rw [hF] at hd
  exact ⟨s0,F0,s1,F1,hc,hF,h0.frame j0.lasts hf (fun k hk=>hd k (by simp [hk])),h1.frame mm.lasts hf (fun k hk=>hd k (by simp [hk]))⟩
instance:LS tl:=⟨tl.lasts⟩
theorem tl.knows:cW tl:=fun Φ F cs x ⟨s0,F0,s1,F1,hc,hF,h0,h1⟩=>hF ▸ (h0.kn.app h1.kn)
theorem tl.one:fm tl:=fun _ _ _ _ h=>by obtain ⟨s0,F0,s1,F1,rfl,-,h0,h1⟩:=h; exact One.all ⟨h0.one,h1.one,trivial⟩
def sh (Φ:Hp) (F:List Nat) (cs:List Value) (x:dI):Prop:=
  ∃ (s0:Value) (D0:List Nat) (s1:Value) (D1:List Nat),cs=[s0,s1]∧F=(ob s0++D0)++((ob s1++D1))∧OSl fc 133 1 Φ D0 s0 x.Alphas∧OSl ey 100 1 Φ D1 s1 x.Rules
theorem sh.lasts:bQ sh:=fun X Φ Φ' F cs x hf hd ⟨s0,D0,s1,D1,hc,hF,h0,h1⟩=>by
  rw [hF] at hd
  exact ⟨s0,D0,s1,D1,hc,hF,h0.frame fc.lasts hf (fun k hk=>hd k (by simp [hk])) (fun k hk=>hd k (by simp [hk])),h1.frame ey.lasts hf (fun k hk=>hd k (by simp [hk])) (fun k hk=>hd k (by simp [hk]))⟩
instance:LS sh:=⟨sh.lasts⟩
theorem sh.knows:cW sh:=fun Φ F cs x ⟨s0,D0,s1,D1,hc,hF,h0,h1⟩=>hF ▸ ((h0.knO.app h0.kn).app (h1.knO.app h1.kn))
theorem sh.one:fm sh:=fun _ _ _ _ h=>by obtain ⟨s0,D0,s1,D1,rfl,-,h0,h1⟩:=h; exact One.all ⟨h0.one,h1.one,trivial⟩
theorem sh.gives:dL sh tl:=fun Φ F cs x ⟨s0,D0,s1,D1,hc,hF,h0,h1⟩=>⟨s0,ob s0++D0,s1,ob s1++D1,hc,hF,h0.rslG fc.gives,h1.rslG ey.gives⟩
structure cQ where
  pos:(List au)
  neg:(List au)
  chain:bR
  alphas:(List eu)
  s:ah
  id:Int
  deriving DecidableEq
def kQ (Φ:Hp) (F:List Nat) (cs:List Value) (x:cQ):Prop:=
  ∃ (s0:Value) (F0:List Nat) (s1:Value) (F1:List Nat) (s2:Value) (F2:List Nat) (s3:Value) (F3:List Nat) (s4:Value) (F4:List Nat) (s5:Value) (F5:List Nat),cs=[s0,s1,s2,s3,s4,s5,.int .i64 x.s.Next,.int .i64 x.id]∧F=F0++(F1++(F2++(F3++(F4++(F5)))))∧RSl bS 3 Φ F0 s0 x.pos∧RSl bS 3 Φ F1 s1 x.neg∧RSl (RI .i64) 1 Φ F2 s2 x.chain.Pos∧RSl (RI .i64) 1 Φ F3 s3 x.chain.Neg∧RSl j0 1 Φ F4 s4 x.alphas∧RSl bm 3 Φ F5 s5 x.s.Items
theorem kQ.lasts:bQ kQ:=fun X Φ Φ' F cs x hf hd ⟨s0,F0,s1,F1,s2,F2,s3,F3,s4,F4,s5,F5,hc,hF,h0,h1,h2,h3,h4,h5⟩=>by
  rw [hF] at hd
  exact ⟨s0,F0,s1,F1,s2,F2,s3,F3,s4,F4,s5,F5,hc,hF,h0.frame bS.lasts hf (fun k hk=>hd k (by simp [hk])),h1.frame bS.lasts hf (fun k hk=>hd k (by simp [hk])),h2.frame RI.lasts hf (fun k hk=>hd k (by simp [hk])),h3.frame RI.lasts hf (fun k hk=>hd k (by simp [hk])),h4.frame j0.lasts hf (fun k hk=>hd k (by simp [hk])),h5.frame bm.lasts hf (fun k hk=>hd k (by simp [hk]))⟩
instance:LS kQ:=⟨kQ.lasts⟩
theorem kQ.knows:cW kQ:=fun Φ F cs x ⟨s0,F0,s1,F1,s2,F2,s3,F3,s4,F4,s5,F5,hc,hF,h0,h1,h2,h3,h4,h5⟩=>hF ▸ (h0.kn.app (h1.kn.app (h2.kn.app (h3.kn.app (h4.kn.app h5.kn)))))
theorem kQ.one:fm kQ:=fun _ _ _ _ h=>by obtain ⟨s0,F0,s1,F1,s2,F2,s3,F3,s4,F4,s5,F5,rfl,-,h0,h1,h2,h3,h4,h5⟩:=h; exact One.all ⟨h0.one,h1.one,h2.one,h3.one,h4.one,h5.one,rfl,rfl,trivial⟩
def jI (Φ:Hp) (F:List Nat) (cs:List Value) (x:cQ):Prop:=
  ∃ (s0:Value) (D0:List Nat) (s1:Value) (D1:List Nat) (s2:Value) (s3:Value) (s4:Value) (D4:List Nat) (s5:Value) (D5:List Nat),cs=[s0,s1,s2,s3,s4,s5,.int .i64 x.s.Next,.int .i64 x.id]∧F=(ob s0++D0)++((ob s1++D1)++((ob s2++[])++((ob s3++[])++((ob s4++D4)++((ob s5++D5))))))∧OSl cL 201 3 Φ D0 s0 x.pos∧OSl cL 201 3 Φ D1 s1 x.neg∧OSl (RI .i64) 3 1 Φ [] s2 x.chain.Pos∧OSl (RI .i64) 3 1 Φ [] s3 x.chain.Neg∧OSl fc 133 1 Φ D4 s4 x.alphas∧OSl dP 66 3 Φ D5 s5 x.s.Items
theorem jI.lasts:bQ jI:=fun X Φ Φ' F cs x hf hd ⟨s0,D0,s1,D1,s2,s3,s4,D4,s5,D5,hc,hF,h0,h1,h2,h3,h4,h5⟩=>by
  rw [hF] at hd
  exact ⟨s0,D0,s1,D1,s2,s3,s4,D4,s5,D5,hc,hF,h0.frame cL.lasts hf (fun k hk=>hd k (by simp [hk])) (fun k hk=>hd k (by simp [hk])),h1.frame cL.lasts hf (fun k hk=>hd k (by simp [hk])) (fun k hk=>hd k (by simp [hk])),h2.frame RI.lasts hf (fun k hk=>hd k (by simp [hk])) (Dj.nil _),h3.frame RI.lasts hf (fun k hk=>hd k (by simp [hk])) (Dj.nil _),h4.frame fc.lasts hf (fun k hk=>hd k (by simp [hk])) (fun k hk=>hd k (by simp [hk])),h5.frame dP.lasts hf (fun k hk=>hd k (by simp [hk])) (fun k hk=>hd k (by simp [hk]))⟩
instance:LS jI:=⟨jI.lasts⟩
theorem jI.knows:cW jI:=fun Φ F cs x ⟨s0,D0,s1,D1,s2,s3,s4,D4,s5,D5,hc,hF,h0,h1,h2,h3,h4,h5⟩=>hF ▸ ((h0.knO.app h0.kn).app ((h1.knO.app h1.kn).app ((h2.knO.app h2.kn).app ((h3.knO.app h3.kn).app ((h4.knO.app h4.kn).app (h5.knO.app h5.kn))))))
theorem jI.one:fm jI:=fun _ _ _ _ h=>by obtain ⟨s0,D0,s1,D1,s2,s3,s4,D4,s5,D5,rfl,-,h0,h1,h2,h3,h4,h5⟩:=h; exact One.all ⟨h0.one,h1.one,h2.one,h3.one,h4.one,h5.one,rfl,rfl,trivial⟩
theorem jI.gives:dL jI kQ:=fun Φ F cs x ⟨s0,D0,s1,D1,s2,s3,s4,D4,s5,D5,hc,hF,h0,h1,h2,h3,h4,h5⟩=>⟨s0,ob s0++D0,s1,ob s1++D1,s2,ob s2++[],s3,ob s3++[],s4,ob s4++D4,s5,ob s5++D5,hc,hF,h0.rslG cL.gives,h1.rslG cL.gives,h2.rslG (dL.refl _),h3.rslG (dL.refl _),h4.rslG fc.gives,h5.rslG dP.gives⟩
structure ax where
  Name:ByteArray
  V:aN
  deriving DecidableEq
def aZ (Φ:Hp) (F:List Nat) (cs:List Value) (x:ax):Prop:=cs=[.string x.Name,.int .i64 x.V.K,.int .i64 x.V.N,.string x.V.S]∧F=[]
theorem aZ.lasts:bQ aZ:=fun _ _ _ _ _ _ _ _ h=>h
instance:LS aZ:=⟨aZ.lasts⟩
theorem aZ.knows:cW aZ:=fun _ _ _ _ h=>h.2 ▸ Kw.nil
theorem aZ.flat:uA aZ:=fun _ _ _ _ h=>h.2
theorem aZ.one:fm aZ:=fun _ _ _ _ h=>by obtain ⟨rfl,-⟩:=h; exact One.all ⟨rfl,rfl,rfl,rfl,trivial⟩
structure aa where
  Rule:Int
  Ids:(List Int)
  Binds:(List ax)
  deriving DecidableEq
def dM (Φ:Hp) (F:List Nat) (cs:List Value) (x:aa):Prop:=
  ∃ (s0:Value) (F0:List Nat) (s1:Value) (F1:List Nat),cs=[.int .i64 x.Rule,s0,s1]∧F=F0++(F1)∧RSl (RI .i64) 1 Φ F0 s0 x.Ids∧RSl aZ 4 Φ F1 s1 x.Binds
theorem dM.lasts:bQ dM:=fun X Φ Φ' F cs x hf hd ⟨s0,F0,s1,F1,hc,hF,h0,h1⟩=>by
  rw [hF] at hd
  exact ⟨s0,F0,s1,F1,hc,hF,h0.frame RI.lasts hf (fun k hk=>hd k (by simp [hk])),h1.frame aZ.lasts hf (fun k hk=>hd k (by simp [hk]))⟩
instance:LS dM:=⟨dM.lasts⟩
theorem dM.knows:cW dM:=fun Φ F cs x ⟨s0,F0,s1,F1,hc,hF,h0,h1⟩=>hF ▸ (h0.kn.app h1.kn)
theorem dM.one:fm dM:=fun _ _ _ _ h=>by obtain ⟨s0,F0,s1,F1,rfl,-,h0,h1⟩:=h; exact One.all ⟨rfl,h0.one,h1.one,trivial⟩
def aF (Φ:Hp) (F:List Nat) (cs:List Value) (x:aa):Prop:=
  ∃ (s0:Value) (s1:Value),cs=[.int .i64 x.Rule,s0,s1]∧F=(ob s0++[])++((ob s1++[]))∧OSl (RI .i64) 3 1 Φ [] s0 x.Ids∧OSl aZ 97 4 Φ [] s1 x.Binds
theorem aF.lasts:bQ aF:=fun X Φ Φ' F cs x hf hd ⟨s0,s1,hc,hF,h0,h1⟩=>by
  rw [hF] at hd
  exact ⟨s0,s1,hc,hF,h0.frame RI.lasts hf (fun k hk=>hd k (by simp [hk])) (Dj.nil _),h1.frame aZ.lasts hf (fun k hk=>hd k (by simp [hk])) (Dj.nil _)⟩
instance:LS aF:=⟨aF.lasts⟩
theorem aF.knows:cW aF:=fun Φ F cs x ⟨s0,s1,hc,hF,h0,h1⟩=>hF ▸ ((h0.knO.app h0.kn).app (h1.knO.app h1.kn))
theorem aF.one:fm aF:=fun _ _ _ _ h=>by obtain ⟨s0,s1,rfl,-,h0,h1⟩:=h; exact One.all ⟨rfl,h0.one,h1.one,trivial⟩
theorem aF.gives:dL aF dM:=fun Φ F cs x ⟨s0,s1,hc,hF,h0,h1⟩=>⟨s0,ob s0++[],s1,ob s1++[],hc,hF,h0.rslG (dL.refl _),h1.rslG (dL.refl _)⟩
def rL (x y:ax):Bool:=(seq x.Name y.Name && ((x.V.K == y.V.K) && ((x.V.N == y.V.N) && (seq x.V.S y.V.S && true))))

theorem zD (x y:ax):rL x y=decide (x=y):=by
  obtain ⟨a0,⟨a10,a11,a12⟩⟩:=x; obtain ⟨b0,⟨b10,b11,b12⟩⟩:=y
  rw [Bool.eq_iff_iff]
  simp only [rL,yO,Bool.and_true,Bool.and_eq_true,beq_iff_eq,decide_eq_true_eq,ax.mk.injEq,aN.mk.injEq,and_assoc]
def vw (N:Nat) (p0:(List Int)):Option (Bool):=
  some (decide (1048576 < (p0.length:Int)))
def iy (N:Nat) (p0:(List Int)):Nat→Int→Int→Option (a7)
  | 0,_,_=>none
  | k+1,s1,s2=>
    ((if decide (s2 < (p0.length:Int)) then some (decide (s2 < 4000)) else some false).bind fun b1=>(if b1 then ((idx p0 s2).bind fun x1=>((iy N p0 k) (w8 .i64 (i64.wrap ((i64.wrap ((i64.wrap (s1*137))+(i64.wrap x1)))+11)) 1073741823) (i64.wrap (s2+1)))) else some (⟨p0,0,s1⟩:a7)))
def pn (N:Nat) (p0:(List Int)):Option (a7):=
  iy N p0 N (i64.wrap (354354+(p0.length:Int))) 0
def je (N:Nat) (p0:a7):Option (Int × a7):=
  (if decide (p0.i < (p0.b.length:Int)) then ((idx p0.b p0.i).bind fun x1=>some ((w8 .i64 (i64.wrap ((w8 .i64 (Hn .i64 (em .i64 (i64.wrap ((i64.wrap (p0.h*6364136223846793005))+1442695040888963407)) 33) (em .i64 (i64.wrap ((i64.wrap (p0.h*6364136223846793005))+1442695040888963407)) 47)) 255)+(i64.wrap x1))) 255),(⟨p0.b,i64.wrap (p0.i+1),i64.wrap ((i64.wrap (p0.h*6364136223846793005))+1442695040888963407)⟩:a7))) else some ((w8 .i64 (Hn .i64 (em .i64 (i64.wrap ((i64.wrap (p0.h*6364136223846793005))+1442695040888963407)) 33) (em .i64 (i64.wrap ((i64.wrap (p0.h*6364136223846793005))+1442695040888963407)) 47)) 255),(⟨p0.b,p0.i,i64.wrap ((i64.wrap (p0.h*6364136223846793005))+1442695040888963407)⟩:a7)))
def aJ (N:Nat) (p0:a7) (p1:Int):Option (Int × a7):=
  (if decide (p1≤0) then some (0,p0) else (if decide (p1≤256) then ((je N p0).bind fun x1=>((E1 x1.1 p1).bind fun x2=>some (x2,(⟨p0.b,x1.2.i,x1.2.h⟩:a7)))) else ((je N p0).bind fun x3=>((je N (⟨p0.b,x3.2.i,x3.2.h⟩:a7)).bind fun x4=>((je N (⟨p0.b,x4.2.i,x4.2.h⟩:a7)).bind fun x5=>((E1 (i64.wrap ((i64.wrap ((i64.wrap (x3.1*65536))+(i64.wrap (x4.1*256))))+x5.1)) p1).bind fun x6=>some (x6,(⟨p0.b,x5.2.i,x5.2.h⟩:a7))))))))
def cp (N:Nat) (p0:a7) (p1:(List ByteArray)):Option (ByteArray × a7):=
  ((aJ N p0 (p1.length:Int)).bind fun x1=>((idx p1 x1.1).bind fun x2=>some (x2,(⟨p0.b,x1.2.i,x1.2.h⟩:a7))))
def d5 (N:Nat) (p0:a7) (p1:Int):Option (Bool × a7):=
  ((aJ N p0 p1).bind fun x1=>some (decide (x1.1=0),(⟨p0.b,x1.2.i,x1.2.h⟩:a7)))
def gu (N:Nat) (p0:a7) (p1:(List Int)):Option (Int × a7):=
  ((aJ N p0 (p1.length:Int)).bind fun x1=>((idx p1 x1.1).bind fun x2=>some (x2,(⟨p0.b,x1.2.i,x1.2.h⟩:a7))))
def iv (N:Nat) (p0:(List ByteArray)) (p1:ByteArray):Nat→Int→Option (Bool)
  | 0,_=>none
  | k+1,s1=>
    (if decide (s1 < (p0.length:Int)) then ((idx p0 s1).bind fun x1=>(if seq x1 p1 then some true else ((iv N p0 p1 k) (i64.wrap (s1+1))))) else some false)
def lB (N:Nat) (p0:(List ByteArray)) (p1:ByteArray):Option (Bool):=
  iv N p0 p1 N 0
def fF (N:Nat) (p0:au):Nat→(List ByteArray)→Int→Option ((List ByteArray))
  | 0,_,_=>none
  | k+1,s1,s2=>
    (if decide (s2 < (p0.Args.length:Int)) then ((idx p0.Args s2).bind fun x1=>((if decide (x1.K=1) then ((idx p0.Args s2).bind fun x2=>((lB N s1 x2.S).bind fun x3=>some (!x3))) else some false).bind fun b1=>(if b1 then ((idx p0.Args s2).bind fun x4=>((app s1 ([x4.S]:List ByteArray)).bind fun x5=>((fF N p0 k) x5 (i64.wrap (s2+1))))) else ((fF N p0 k) s1 (i64.wrap (s2+1)))))) else some s1)
def nR (N:Nat) (p0:au):Option ((List ByteArray)):=
  fF N p0 N ([]:List ByteArray) 0
def cZ (N:Nat) (p0:af) (s2:Int) (K1:(List ByteArray)→Int→Option ((List ByteArray))) (x2:(List ByteArray)):Nat→(List ByteArray)→Int→Option ((List ByteArray))
  | 0,_,_=>none
  | k+1,s3,s4=>
    ((if decide (s4 < (x2.length:Int)) then ((idx p0.Pats s2).bind fun x3=>some (!x3.Not)) else some false).bind fun b1=>(if b1 then ((idx x2 s4).bind fun x4=>((lB N s3 x4).bind fun x5=>(if !x5 then ((idx x2 s4).bind fun x6=>((app s3 ([x6]:List ByteArray)).bind fun x7=>((cZ N p0 s2 K1 x2 k) x7 (i64.wrap (s4+1))))) else ((cZ N p0 s2 K1 x2 k) s3 (i64.wrap (s4+1)))))) else (K1 s3 (i64.wrap (s2+1)))))
def cR (N:Nat) (p0:af):Nat→(List ByteArray)→Int→Option ((List ByteArray))
  | 0,_,_=>none
  | k+1,s1,s2=>
    (if decide (s2 < (p0.Pats.length:Int)) then ((idx p0.Pats s2).bind fun x1=>((nR N x1).bind fun x2=>cZ N p0 s2 (cR N p0 k) x2 N s1 0)) else some s1)
def iq (N:Nat) (p0:af):Option ((List ByteArray)):=
  cR N p0 N ([]:List ByteArray) 0
def dE (N:Nat) (p0:af):Nat→Int→Int→Option (Int)
  | 0,_,_=>none
  | k+1,s1,s2=>
    (if decide (s2 < (p0.Pats.length:Int)) then ((idx p0.Pats s2).bind fun x1=>(if !x1.Not then ((dE N p0 k) (i64.wrap (s1+1)) (i64.wrap (s2+1))) else ((dE N p0 k) s1 (i64.wrap (s2+1))))) else some s1)
def jE (N:Nat) (p0:af):Option (Int):=
  dE N p0 N 0 0
def jn (N:Nat) (p0:a7):Option (aN × a7):=
  ((d5 N p0 2).bind fun x1=>(if x1.1 then ((aJ N (⟨p0.b,x1.2.i,x1.2.h⟩:a7) 3).bind fun x2=>some ((⟨1,i64.wrap (1+x2.1),(⟨#[]⟩:ByteArray)⟩:aN),(⟨p0.b,x2.2.i,x2.2.h⟩:a7))) else ((cp N (⟨p0.b,x1.2.i,x1.2.h⟩:a7) ([(⟨#[97]⟩:ByteArray),(⟨#[98]⟩:ByteArray)]:List ByteArray)).bind fun x3=>some ((⟨2,0,x3.1⟩:aN),(⟨p0.b,x3.2.i,x3.2.h⟩:a7)))))
def pD (N:Nat) (p0:aN):Option (bh):=
  some (⟨2,(⟨#[]⟩:ByteArray),p0⟩:bh)
def pe (N:Nat) (p0:ByteArray):Option (bh):=
  some (⟨1,p0,(⟨0,0,(⟨#[]⟩:ByteArray)⟩:aN)⟩:bh)
def jr (N:Nat) (p0:a7):Option (bh × a7):=
  ((aJ N p0 6).bind fun x1=>(if decide (x1.1=0) then some ((⟨3,(⟨#[]⟩:ByteArray),(⟨0,0,(⟨#[]⟩:ByteArray)⟩:aN)⟩:bh),(⟨p0.b,x1.2.i,x1.2.h⟩:a7)) else (if decide (x1.1=1) then ((jn N (⟨p0.b,x1.2.i,x1.2.h⟩:a7)).bind fun x2=>((pD N x2.1).bind fun x3=>some (x3,(⟨p0.b,x2.2.i,x2.2.h⟩:a7)))) else ((cp N (⟨p0.b,x1.2.i,x1.2.h⟩:a7) ([(⟨#[88]⟩:ByteArray),(⟨#[89]⟩:ByteArray),(⟨#[90]⟩:ByteArray),(⟨#[88]⟩:ByteArray)]:List ByteArray)).bind fun x4=>((pe N x4.1).bind fun x5=>some (x5,(⟨p0.b,x4.2.i,x4.2.h⟩:a7)))))))
def iL (N:Nat) (p0:a7) (p1:Bool) (x1:ByteArray × a7) (s1:Int):Nat→(List bh)→Int→Int→Int→Option (au × a7)
  | 0,_,_,_,_=>none
  | k+1,s2,s3,s4,s5=>
    (if decide (s3 < s1) then ((jr N (⟨p0.b,s4,s5⟩:a7)).bind fun x2=>((app s2 ([x2.1]:List bh)).bind fun x3=>((iL N p0 p1 x1 s1 k) x3 (i64.wrap (s3+1)) x2.2.i x2.2.h))) else some ((⟨x1.1,s2,p1⟩:au),(⟨p0.b,s4,s5⟩:a7)))
def jO (N:Nat) (p0:a7) (p1:Bool) (x1:ByteArray × a7) (s1:Int):Option (au × a7):=
  iL N p0 p1 x1 s1 N ([]:List bh) 0 x1.2.i x1.2.h
def kf (N:Nat) (p0:a7) (p1:Bool):Option (au × a7):=
  ((cp N p0 ([(⟨#[111,114,100,101,114]⟩:ByteArray),(⟨#[112,97,105,100]⟩:ByteArray),(⟨#[105,116,101,109]⟩:ByteArray),(⟨#[111,114,100,101,114]⟩:ByteArray)]:List ByteArray)).bind fun x1=>(if seq x1.1 (⟨#[105,116,101,109]⟩:ByteArray) then jO N p0 p1 x1 2 else jO N p0 p1 x1 1))
def kA (N:Nat) (p0:a7):Option (bh × a7):=
  ((d5 N p0 3).bind fun x1=>(if x1.1 then ((jn N (⟨p0.b,x1.2.i,x1.2.h⟩:a7)).bind fun x2=>((pD N x2.1).bind fun x3=>some (x3,(⟨p0.b,x2.2.i,x2.2.h⟩:a7)))) else ((cp N (⟨p0.b,x1.2.i,x1.2.h⟩:a7) ([(⟨#[88]⟩:ByteArray),(⟨#[89]⟩:ByteArray)]:List ByteArray)).bind fun x4=>((pe N x4.1).bind fun x5=>some (x5,(⟨p0.b,x4.2.i,x4.2.h⟩:a7))))))
def lC (N:Nat) (p0:a7):Option (cm × a7):=
  ((aJ N p0 3).bind fun x1=>((kA N (⟨p0.b,x1.2.i,x1.2.h⟩:a7)).bind fun x2=>((kA N (⟨p0.b,x2.2.i,x2.2.h⟩:a7)).bind fun x3=>some ((⟨i64.wrap (1+x1.1),x2.1,x3.1⟩:cm),(⟨p0.b,x3.2.i,x3.2.h⟩:a7)))))
def gC (N:Nat) (p0:bh) (p1:(List ByteArray)):Option (Bool):=
  ((if !decide (p0.K=1) then some true else ((lB N p1 p0.S).bind fun x1=>some x1)).bind fun b1=>some b1)
def ky (N:Nat) (p0:bh) (p1:(List ByteArray)):Option (bh):=
  ((gC N p0 p1).bind fun x1=>(if x1 then some p0 else (if decide ((p1.length:Int)=0) then ((pD N (⟨1,1,(⟨#[]⟩:ByteArray)⟩:aN)).bind fun x2=>some x2) else ((idx p1 0).bind fun x3=>((pe N x3).bind fun x4=>some x4)))))
def mf (N:Nat) (p0:a7) (x1:bh × a7) (s1:Int) (s2:Int) (s3:ByteArray) (s4:Int) (s5:ByteArray) (s6:Int) (s7:Int) (s8:ByteArray):Option (cn × a7):=
  some ((⟨s3,x1.1,(⟨s4,s5,(⟨s6,s7,s8⟩:aN)⟩:bh)⟩:cn),(⟨p0.b,s1,s2⟩:a7))
def nO (N:Nat) (p0:a7):Option (cn × a7):=
  ((kA N p0).bind fun x1=>((d5 N (⟨p0.b,x1.2.i,x1.2.h⟩:a7) 4).bind fun x2=>(if x2.1 then ((cp N (⟨p0.b,x2.2.i,x2.2.h⟩:a7) ([(⟨#[43]⟩:ByteArray),(⟨#[45]⟩:ByteArray)]:List ByteArray)).bind fun x3=>((kA N (⟨p0.b,x3.2.i,x3.2.h⟩:a7)).bind fun x4=>mf N p0 x1 x4.2.i x4.2.h x3.1 x4.1.K x4.1.S x4.1.V.K x4.1.V.N x4.1.V.S)) else mf N p0 x1 x2.2.i x2.2.h (⟨#[]⟩:ByteArray) 0 (⟨#[]⟩:ByteArray) 0 0 (⟨#[]⟩:ByteArray))))
def m9 (N:Nat) (p0:a7) (x1:Int × a7) (x3:ByteArray × a7) (s3:(List cn)) (s9:Int) (s13:Int) (s14:Int) (s15:ByteArray):Option (cI × a7):=
  some ((⟨x1.1,x3.1,s3,s9,s15⟩:cI),(⟨p0.b,s13,s14⟩:a7))
def gS (N:Nat) (p0:a7) (x1:Int × a7) (x3:ByteArray × a7) (s3:(List cn)) (s9:Int) (s10:Bool) (s11:Int) (s12:Int):Option (cI × a7):=
  (if s10 then ((cp N (⟨p0.b,s11,s12⟩:a7) ([(⟨#[114,101,102,117,110,100]⟩:ByteArray),(⟨#[99,97,110,99,101,108]⟩:ByteArray)]:List ByteArray)).bind fun x6=>m9 N p0 x1 x3 s3 s9 x6.2.i x6.2.h x6.1) else m9 N p0 x1 x3 s3 s9 s11 s12 (⟨#[]⟩:ByteArray))
def iP (N:Nat) (p0:a7) (x1:Int × a7) (x3:ByteArray × a7) (s3:(List cn)) (s7:Int) (s8:Int) (s9:Int):Option (cI × a7):=
  (if decide (x1.1=3) then ((d5 N (⟨p0.b,s7,s8⟩:a7) 2).bind fun x7=>gS N p0 x1 x3 s3 s9 x7.1 x7.2.i x7.2.h) else gS N p0 x1 x3 s3 s9 false s7 s8)
def iK (N:Nat) (p0:a7) (x1:Int × a7) (x3:ByteArray × a7) (s2:Int):Nat→(List cn)→Int→Int→Int→Option (cI × a7)
  | 0,_,_,_,_=>none
  | k+1,s3,s4,s5,s6=>
    (if decide (s4 < s2) then ((nO N (⟨p0.b,s5,s6⟩:a7)).bind fun x4=>((app s3 ([x4.1]:List cn)).bind fun x5=>((iK N p0 x1 x3 s2 k) x5 (i64.wrap (s4+1)) x4.2.i x4.2.h))) else (if decide (x1.1=4) then ((gu N (⟨p0.b,s5,s6⟩:a7) ([0,1,5,100000]:List Int)).bind fun x8=>iP N p0 x1 x3 s3 x8.2.i x8.2.h x8.1) else iP N p0 x1 x3 s3 s5 s6 0))
def iN (N:Nat) (p0:a7) (x1:Int × a7) (x3:ByteArray × a7) (s2:Int):Option (cI × a7):=
  iK N p0 x1 x3 s2 N ([]:List cn) 0 x3.2.i x3.2.h
def dy (N:Nat) (p0:a7) (x1:Int × a7) (s1:Bool):Option (cI × a7):=
  (if s1 then some ((⟨x1.1,(⟨#[]⟩:ByteArray),[],0,(⟨#[]⟩:ByteArray)⟩:cI),(⟨p0.b,x1.2.i,x1.2.h⟩:a7)) else ((cp N (⟨p0.b,x1.2.i,x1.2.h⟩:a7) ([(⟨#[111,114,100,101,114]⟩:ByteArray),(⟨#[112,97,105,100]⟩:ByteArray),(⟨#[105,116,101,109]⟩:ByteArray),(⟨#[115,104,105,112]⟩:ByteArray),(⟨#[99,104,97,114,103,101]⟩:ByteArray)]:List ByteArray)).bind fun x3=>(if seq x3.1 (⟨#[105,116,101,109]⟩:ByteArray) then iN N p0 x1 x3 2 else iN N p0 x1 x3 1)))
def lE (N:Nat) (p0:a7) (p1:Int):Option (cI × a7):=
  ((gu N p0 ([1,1,2,3,3,4,5,6]:List Int)).bind fun x1=>(if decide (x1.1=2) then ((aJ N (⟨p0.b,x1.2.i,x1.2.h⟩:a7) p1).bind fun x2=>some ((⟨x1.1,(⟨#[]⟩:ByteArray),[],x2.1,(⟨#[]⟩:ByteArray)⟩:cI),(⟨p0.b,x2.2.i,x2.2.h⟩:a7))) else (if decide (x1.1=5) then dy N p0 x1 (decide (x1.1=5)) else dy N p0 x1 (decide (x1.1=6)))))
def fH (N:Nat) (x6:(List ByteArray)) (s11:(List cI)) (s12:Int) (K4:(List cI)→Int→Int→Int→Option (af × a7)) (x10:cI × a7):Nat→(List cn)→Int→Option (af × a7)
  | 0,_,_=>none
  | k+1,s15,s16=>
    (if decide (s16 < (s15.length:Int)) then ((idx s15 s16).bind fun x11=>((ky N x11.L x6).bind fun x12=>(if !seq x11.Op (⟨#[]⟩:ByteArray) then ((ky N x11.R x6).bind fun x13=>((fH N x6 s11 s12 K4 x10 k) (s15.set s16.toNat (⟨x11.Op,x12,x13⟩:cn)) (i64.wrap (s16+1)))) else ((fH N x6 s11 s12 K4 x10 k) (s15.set s16.toNat (⟨x11.Op,x12,x11.R⟩:cn)) (i64.wrap (s16+1)))))) else ((app s11 ([(⟨x10.1.Kind,x10.1.Name,s15,x10.1.N,x10.1.Undo⟩:cI)]:List cI)).bind fun x14=>(K4 x14 (i64.wrap (s12 - 1)) x10.2.i x10.2.h)))
def fD (N:Nat) (p0:a7) (p1:ByteArray) (x1:Int × a7) (s5:(List au)) (x6:(List ByteArray)) (s8:(List cm)):Nat→(List cI)→Int→Int→Int→Option (af × a7)
  | 0,_,_,_,_=>none
  | k+1,s11,s12,s13,s14=>
    (if decide (0 < s12) then ((jE N (⟨p1,x1.1,s5,s8,s11⟩:af)).bind fun x9=>((lE N (⟨p0.b,s13,s14⟩:a7) x9).bind fun x10=>fH N x6 s11 s12 (fD N p0 p1 x1 s5 x6 s8 k) x10 N x10.1.Args 0)) else some ((⟨p1,x1.1,s5,s8,s11⟩:af),(⟨p0.b,s13,s14⟩:a7)))
def iR (N:Nat) (p0:a7) (p1:ByteArray) (x1:Int × a7) (s5:(List au)) (x6:(List ByteArray)) (s8:(List cm)) (s9:Int) (s10:Int):Option (af × a7):=
  ((aJ N (⟨p0.b,s9,s10⟩:a7) 3).bind fun x8=>fD N p0 p1 x1 s5 x6 s8 N ([]:List cI) (i64.wrap (1+x8.1)) x8.2.i x8.2.h)
def iQ (N:Nat) (p0:a7) (p1:ByteArray) (x1:Int × a7) (s5:(List au)) (s6:Int) (s7:Int):Option (af × a7):=
  ((iq N (⟨p1,x1.1,s5,[],[]⟩:af)).bind fun x6=>((d5 N (⟨p0.b,s6,s7⟩:a7) 3).bind fun x7=>(if x7.1 then ((lC N (⟨p0.b,x7.2.i,x7.2.h⟩:a7)).bind fun x15=>((ky N x15.1.L x6).bind fun x16=>((ky N x15.1.R x6).bind fun x17=>((app ([]:List cm) ([(⟨x15.1.Op,x16,x17⟩:cm)]:List cm)).bind fun x18=>iR N p0 p1 x1 s5 x6 x18 x15.2.i x15.2.h)))) else iR N p0 p1 x1 s5 x6 ([]:List cm) x7.2.i x7.2.h)))
def iM (N:Nat) (p0:a7) (p1:ByteArray) (x1:Int × a7):Nat→(List au)→Int→Int→Int→Option (af × a7)
  | 0,_,_,_,_=>none
  | k+1,s1,s2,s3,s4=>
    (if decide (0 < s2) then ((kf N (⟨p0.b,s3,s4⟩:a7) false).bind fun x3=>((app s1 ([x3.1]:List au)).bind fun x4=>((iM N p0 p1 x1 k) x4 (i64.wrap (s2 - 1)) x3.2.i x3.2.h))) else ((d5 N (⟨p0.b,s3,s4⟩:a7) 3).bind fun x5=>(if x5.1 then ((kf N (⟨p0.b,x5.2.i,x5.2.h⟩:a7) true).bind fun x19=>((app s1 ([x19.1]:List au)).bind fun x20=>iQ N p0 p1 x1 x20 x19.2.i x19.2.h)) else iQ N p0 p1 x1 s1 x5.2.i x5.2.h)))
def lZ (N:Nat) (p0:a7) (p1:ByteArray):Option (af × a7):=
  ((gu N p0 ([0,0,5,(-5),100]:List Int)).bind fun x1=>((aJ N (⟨p0.b,x1.2.i,x1.2.h⟩:a7) 3).bind fun x2=>iM N p0 p1 x1 N ([]:List au) (i64.wrap (1+x2.1)) x2.2.i x2.2.h))
def hJ (N:Nat) (p0:a7) (x1:ByteArray × a7):Nat→(List af)→Int→Int→Int→Option (bP × a7)
  | 0,_,_,_,_=>none
  | k+1,s1,s2,s3,s4=>
    ((aJ N (⟨p0.b,s3,s4⟩:a7) 4).bind fun x2=>((if decide (s2 < i64.wrap (1+x2.1)) then some (decide (s2 < 4)) else some false).bind fun b3=>(if b3 then ((idx ([(⟨#[114,49]⟩:ByteArray),(⟨#[114,50]⟩:ByteArray),(⟨#[114,51]⟩:ByteArray),(⟨#[114,52]⟩:ByteArray)]:List ByteArray) s2).bind fun x3=>((lZ N (⟨p0.b,x2.2.i,x2.2.h⟩:a7) x3).bind fun x4=>((app s1 ([x4.1]:List af)).bind fun x5=>((hJ N p0 x1 k) x5 (i64.wrap (s2+1)) x4.2.i x4.2.h)))) else some ((⟨x1.1,s1⟩:bP),(⟨p0.b,x2.2.i,x2.2.h⟩:a7)))))
def kx (N:Nat) (p0:a7):Option (bP × a7):=
  ((cp N p0 ([(⟨#[102,108,111,119]⟩:ByteArray),(⟨#[115,104,105,112]⟩:ByteArray),(⟨#[120]⟩:ByteArray)]:List ByteArray)).bind fun x1=>hJ N p0 x1 N ([]:List af) 0 x1.2.i x1.2.h)
def iG (N:Nat) (p0:a7) (x1:ByteArray × a7) (s2:Int):Nat→(List aN)→Int→Int→Int→Option (aL × a7)
  | 0,_,_,_,_=>none
  | k+1,s5,s6,s7,s8=>
    (if decide (s6 < s2) then ((jn N (⟨p0.b,s7,s8⟩:a7)).bind fun x3=>((app s5 ([x3.1]:List aN)).bind fun x4=>((iG N p0 x1 s2 k) x4 (i64.wrap (s6+1)) x3.2.i x3.2.h))) else some ((⟨x1.1,s5⟩:aL),(⟨p0.b,s7,s8⟩:a7)))
def jV (N:Nat) (p0:a7) (x1:ByteArray × a7) (s2:Int) (s3:Int) (s4:Int):Option (aL × a7):=
  iG N p0 x1 s2 N ([]:List aN) 0 s3 s4
def gP (N:Nat) (p0:a7) (x1:ByteArray × a7) (s1:Int):Option (aL × a7):=
  ((d5 N (⟨p0.b,x1.2.i,x1.2.h⟩:a7) 12).bind fun x2=>(if x2.1 then ((aJ N (⟨p0.b,x2.2.i,x2.2.h⟩:a7) 6).bind fun x5=>jV N p0 x1 x5.1 x5.2.i x5.2.h) else jV N p0 x1 s1 x2.2.i x2.2.h))
def kg (N:Nat) (p0:a7):Option (aL × a7):=
  ((cp N p0 ([(⟨#[111,114,100,101,114]⟩:ByteArray),(⟨#[112,97,105,100]⟩:ByteArray),(⟨#[105,116,101,109]⟩:ByteArray),(⟨#[111,114,100,101,114]⟩:ByteArray)]:List ByteArray)).bind fun x1=>(if seq x1.1 (⟨#[105,116,101,109]⟩:ByteArray) then gP N p0 x1 2 else gP N p0 x1 1))
def eD (N:Nat) (p0:ah) (p1:Int):Nat→(List ak)→Int→Option (Bool × ah)
  | 0,_,_=>none
  | k+1,s1,s2=>
    (if decide (s2 < (p0.Items.length:Int)) then ((idx p0.Items s2).bind fun x1=>(if !decide (x1.Id=p1) then ((idx p0.Items s2).bind fun x2=>((app s1 ([x2]:List ak)).bind fun x3=>((eD N p0 p1 k) x3 (i64.wrap (s2+1))))) else ((eD N p0 p1 k) s1 (i64.wrap (s2+1))))) else some (decide ((s1.length:Int) < (p0.Items.length:Int)),(⟨s1,p0.Next⟩:ah)))
def nE (N:Nat) (p0:ah) (p1:Int):Option (Bool × ah):=
  eD N p0 p1 N ([]:List ak) 0
def dW (N:Nat) (p0:(List aN)) (p1:(List aN)):Nat→Int→Option (Bool)
  | 0,_=>none
  | k+1,s1=>
    (if decide (s1 < (p0.length:Int)) then ((idx p0 s1).bind fun x1=>((idx p1 s1).bind fun x2=>(if !(bT x1 x2) then some false else ((dW N p0 p1 k) (i64.wrap (s1+1)))))) else some true)
def jp (N:Nat) (p0:(List aN)) (p1:(List aN)):Option (Bool):=
  (if !decide ((p0.length:Int)=(p1.length:Int)) then some false else dW N p0 p1 N 0)
def kK (N:Nat) (p0:aL) (p1:aL):Option (Bool):=
  ((if seq p0.Kind p1.Kind then ((jp N p0.Fields p1.Fields).bind fun x1=>some x1) else some false).bind fun b1=>some b1)
def iu (N:Nat) (p0:ah) (p1:aL):Nat→Int→Option (Int)
  | 0,_=>none
  | k+1,s1=>
    (if decide (s1 < (p0.Items.length:Int)) then ((idx p0.Items s1).bind fun x1=>((kK N x1.F p1).bind fun x2=>(if x2 then ((idx p0.Items s1).bind fun x3=>some x3.Id) else ((iu N p0 p1 k) (i64.wrap (s1+1)))))) else some 0)
def p9 (N:Nat) (p0:ah) (p1:aL):Option (Int):=
  iu N p0 p1 N 0
def jZ (N:Nat) (p0:aL):Option (aL):=
  ((app ([]:List aN) p0.Fields).bind fun x1=>some (⟨p0.Kind,x1⟩:aL))
def fo (N:Nat) (p0:ah) (p1:aL):Option (Int × ah):=
  ((p9 N p0 p1).bind fun x1=>(if decide (0 < x1) then some (x1,p0) else ((if decide (40≤(p0.Items.length:Int)) then some true else some (decide (1000000≤p0.Next))).bind fun b1=>(if b1 then some (0,p0) else ((jZ N p1).bind fun x2=>((app p0.Items ([(⟨p0.Next,x2⟩:ak)]:List ak)).bind fun x3=>some (i64.wrap ((i64.wrap (p0.Next+1)) - 1),(⟨x3,i64.wrap (p0.Next+1)⟩:ah))))))))
def fJ (N:Nat) (p0:a7):Nat→(List ak)→Int→Int→Int→Int→Option (ah × a7)
  | 0,_,_,_,_,_=>none
  | k+1,s1,s2,s3,s4,s5=>
    (if decide (0 < s2) then ((d5 N (⟨p0.b,s3,s4⟩:a7) 5).bind fun x2=>((if x2.1 then some (decide (0 < (s1.length:Int))) else some false).bind fun b3=>(if b3 then ((aJ N (⟨p0.b,x2.2.i,x2.2.h⟩:a7) (s1.length:Int)).bind fun x3=>((idx s1 x3.1).bind fun x4=>((nE N (⟨s1,s5⟩:ah) x4.Id).bind fun x5=>((fJ N p0 k) x5.2.Items (i64.wrap (s2 - 1)) x3.2.i x3.2.h x5.2.Next)))) else ((kg N (⟨p0.b,x2.2.i,x2.2.h⟩:a7)).bind fun x6=>((fo N (⟨s1,s5⟩:ah) x6.1).bind fun x7=>((fJ N p0 k) x7.2.Items (i64.wrap (s2 - 1)) x6.2.i x6.2.h x7.2.Next)))))) else some ((⟨s1,s5⟩:ah),(⟨p0.b,s3,s4⟩:a7)))
def lP (N:Nat) (p0:a7):Option (ah × a7):=
  ((aJ N p0 9).bind fun x1=>fJ N p0 N ([]:List ak) x1.1 x1.2.i x1.2.h 1)
def jF (N:Nat) (p0:a7) (x2:au × a7) (s1:(List bh)) (s2:Int) (s3:Int) (s4:ByteArray):Option (au × a7):=
  some ((⟨s4,s1,x2.1.Not⟩:au),(⟨p0.b,s2,s3⟩:a7))
def pZ (N:Nat) (p0:a7) (x2:au × a7) (s5:(List bh)) (s6:Int) (s7:Int):Option (au × a7):=
  jF N p0 x2 s5 s6 s7 x2.1.Kind
def jv (N:Nat) (p0:a7) (x2:au × a7):Nat→(List bh)→Int→Int→Option (au × a7)
  | 0,_,_,_=>none
  | k+1,s8,s9,s10=>
    ((aJ N (⟨p0.b,s9,s10⟩:a7) 2).bind fun x14=>(if decide ((s8.length:Int) < i64.wrap (5+x14.1)) then ((jr N (⟨p0.b,x14.2.i,x14.2.h⟩:a7)).bind fun x15=>((app s8 ([x15.1]:List bh)).bind fun x16=>((jv N p0 x2 k) x16 x15.2.i x15.2.h))) else jF N p0 x2 s8 x14.2.i x14.2.h x2.1.Kind))
def pF (N:Nat) (p0:a7):Option (au × a7):=
  ((d5 N p0 3).bind fun x1=>((kf N (⟨p0.b,x1.2.i,x1.2.h⟩:a7) x1.1).bind fun x2=>((aJ N (⟨p0.b,x2.2.i,x2.2.h⟩:a7) 10).bind fun x3=>(if decide (x3.1=0) then ((cp N (⟨p0.b,x3.2.i,x3.2.h⟩:a7) ([(⟨#[]⟩:ByteArray),(⟨#[65]⟩:ByteArray),(⟨#[120]⟩:ByteArray)]:List ByteArray)).bind fun x4=>jF N p0 x2 x2.1.Args x4.2.i x4.2.h x4.1) else (if decide (x3.1=1) then ((aJ N (⟨p0.b,x3.2.i,x3.2.h⟩:a7) 5).bind fun x8=>((cp N (⟨p0.b,x8.2.i,x8.2.h⟩:a7) ([(⟨#[]⟩:ByteArray),(⟨#[120]⟩:ByteArray),(⟨#[88]⟩:ByteArray)]:List ByteArray)).bind fun x9=>((app x2.1.Args ([(⟨x8.1,x9.1,(⟨0,0,(⟨#[]⟩:ByteArray)⟩:aN)⟩:bh)]:List bh)).bind fun x10=>pZ N p0 x2 x10 x9.2.i x9.2.h))) else (if decide (x3.1=2) then jv N p0 x2 N x2.1.Args x3.2.i x3.2.h else jF N p0 x2 x2.1.Args x3.2.i x3.2.h x2.1.Kind))))))
def jx (N:Nat) (p0:a7) (s1:Int) (s2:Int) (s3:Int) (s4:Int) (s5:ByteArray) (s6:Int) (s7:Int) (s8:ByteArray) (s9:Int) (s10:ByteArray) (s11:Int) (s12:Int) (s13:ByteArray):Option (cm × a7):=
  some ((⟨s3,(⟨s4,s5,(⟨s6,s7,s8⟩:aN)⟩:bh),(⟨s9,s10,(⟨s11,s12,s13⟩:aN)⟩:bh)⟩:cm),(⟨p0.b,s1,s2⟩:a7))
def pu (N:Nat) (p0:a7):Option (cm × a7):=
  ((lC N p0).bind fun x1=>((aJ N (⟨p0.b,x1.2.i,x1.2.h⟩:a7) 8).bind fun x2=>(if decide (x2.1=0) then ((aJ N (⟨p0.b,x2.2.i,x2.2.h⟩:a7) 6).bind fun x3=>jx N p0 x3.2.i x3.2.h x3.1 x1.1.L.K x1.1.L.S x1.1.L.V.K x1.1.L.V.N x1.1.L.V.S x1.1.R.K x1.1.R.S x1.1.R.V.K x1.1.R.V.N x1.1.R.V.S) else (if decide (x2.1=1) then ((jr N (⟨p0.b,x2.2.i,x2.2.h⟩:a7)).bind fun x4=>jx N p0 x4.2.i x4.2.h x1.1.Op x4.1.K x4.1.S x4.1.V.K x4.1.V.N x4.1.V.S x1.1.R.K x1.1.R.S x1.1.R.V.K x1.1.R.V.N x1.1.R.V.S) else (if decide (x2.1=2) then ((aJ N (⟨p0.b,x2.2.i,x2.2.h⟩:a7) 5).bind fun x5=>jx N p0 x5.2.i x5.2.h x1.1.Op x1.1.L.K x1.1.L.S x1.1.L.V.K x1.1.L.V.N x1.1.L.V.S x5.1 (⟨#[]⟩:ByteArray) 0 0 (⟨#[]⟩:ByteArray)) else jx N p0 x2.2.i x2.2.h x1.1.Op x1.1.L.K x1.1.L.S x1.1.L.V.K x1.1.L.V.N x1.1.L.V.S x1.1.R.K x1.1.R.S x1.1.R.V.K x1.1.R.V.N x1.1.R.V.S)))))
def gB (N:Nat) (p0:a7) (s1:(List cn)) (s2:Int) (s3:Int) (s4:Int) (s5:ByteArray) (s6:Int) (s7:ByteArray):Option (cI × a7):=
  some ((⟨s4,s5,s1,s6,s7⟩:cI),(⟨p0.b,s2,s3⟩:a7))
def pj (N:Nat) (p0:a7):Option (cI × a7):=
  ((lE N p0 2).bind fun x1=>((aJ N (⟨p0.b,x1.2.i,x1.2.h⟩:a7) 10).bind fun x2=>(if decide (x2.1=0) then ((aJ N (⟨p0.b,x2.2.i,x2.2.h⟩:a7) 8).bind fun x3=>gB N p0 x1.1.Args x3.2.i x3.2.h x3.1 x1.1.Name x1.1.N x1.1.Undo) else (if decide (x2.1=1) then ((cp N (⟨p0.b,x2.2.i,x2.2.h⟩:a7) ([(⟨#[]⟩:ByteArray),(⟨#[65]⟩:ByteArray),(⟨#[120]⟩:ByteArray)]:List ByteArray)).bind fun x4=>gB N p0 x1.1.Args x4.2.i x4.2.h x1.1.Kind x4.1 x1.1.N x1.1.Undo) else (if decide (x2.1=2) then ((gu N (⟨p0.b,x2.2.i,x2.2.h⟩:a7) ([(-1),7,8,100001]:List Int)).bind fun x5=>gB N p0 x1.1.Args x5.2.i x5.2.h x1.1.Kind x1.1.Name x5.1 x1.1.Undo) else (if decide (x2.1=3) then ((cp N (⟨p0.b,x2.2.i,x2.2.h⟩:a7) ([(⟨#[]⟩:ByteArray),(⟨#[65]⟩:ByteArray),(⟨#[120]⟩:ByteArray)]:List ByteArray)).bind fun x6=>gB N p0 x1.1.Args x6.2.i x6.2.h x1.1.Kind x1.1.Name x1.1.N x6.1) else (if decide (x2.1=4) then ((cp N (⟨p0.b,x2.2.i,x2.2.h⟩:a7) ([(⟨#[]⟩:ByteArray),(⟨#[42]⟩:ByteArray)]:List ByteArray)).bind fun x7=>((jr N (⟨p0.b,x7.2.i,x7.2.h⟩:a7)).bind fun x8=>((jr N (⟨p0.b,x8.2.i,x8.2.h⟩:a7)).bind fun x9=>((app x1.1.Args ([(⟨x7.1,x8.1,x9.1⟩:cn)]:List cn)).bind fun x10=>gB N p0 x10 x9.2.i x9.2.h x1.1.Kind x1.1.Name x1.1.N x1.1.Undo)))) else gB N p0 x1.1.Args x2.2.i x2.2.h x1.1.Kind x1.1.Name x1.1.N x1.1.Undo)))))))
def dR (N:Nat) (p0:a7) (s1:(List au)) (s2:Int) (s3:Int) (s4:ByteArray) (s5:Int) (s6:(List cm)) (s7:(List cI)):Option (af × a7):=
  some ((⟨s4,s5,s1,s6,s7⟩:af),(⟨p0.b,s2,s3⟩:a7))
def lH (N:Nat) (p0:a7) (p1:af):Option (af × a7):=
  ((app ([]:List au) p1.Pats).bind fun x1=>((aJ N p0 10).bind fun x2=>(if decide (x2.1=0) then ((cp N (⟨p0.b,x2.2.i,x2.2.h⟩:a7) ([(⟨#[]⟩:ByteArray),(⟨#[65]⟩:ByteArray),(⟨#[120]⟩:ByteArray)]:List ByteArray)).bind fun x3=>dR N p0 x1 x3.2.i x3.2.h x3.1 p1.Sal p1.Conds p1.Acts) else (if decide (x2.1=1) then ((gu N (⟨p0.b,x2.2.i,x2.2.h⟩:a7) ([(-101),101,100]:List Int)).bind fun x4=>dR N p0 x1 x4.2.i x4.2.h p1.Name x4.1 p1.Conds p1.Acts) else (if decide (x2.1=2) then ((pF N (⟨p0.b,x2.2.i,x2.2.h⟩:a7)).bind fun x5=>((app x1 ([x5.1]:List au)).bind fun x6=>dR N p0 x6 x5.2.i x5.2.h p1.Name p1.Sal p1.Conds p1.Acts)) else (if decide (x2.1=3) then ((app ([]:List cm) p1.Conds).bind fun x7=>((pu N (⟨p0.b,x2.2.i,x2.2.h⟩:a7)).bind fun x8=>((app x7 ([x8.1]:List cm)).bind fun x9=>dR N p0 x1 x8.2.i x8.2.h p1.Name p1.Sal x9 p1.Acts))) else (if decide (x2.1=4) then ((app ([]:List cI) p1.Acts).bind fun x10=>((pj N (⟨p0.b,x2.2.i,x2.2.h⟩:a7)).bind fun x11=>((app x10 ([x11.1]:List cI)).bind fun x12=>dR N p0 x1 x11.2.i x11.2.h p1.Name p1.Sal p1.Conds x12))) else (if decide (x2.1=5) then ((idx x1 0).bind fun x13=>dR N p0 (x1.set (0:Int).toNat (⟨x13.Kind,x13.Args,true⟩:au)) x2.2.i x2.2.h p1.Name p1.Sal p1.Conds p1.Acts) else (if decide (x2.1=6) then ((ssl p1.Acts 0 0).bind fun x14=>dR N p0 x1 x2.2.i x2.2.h p1.Name p1.Sal p1.Conds x14) else dR N p0 x1 x2.2.i x2.2.h p1.Name p1.Sal p1.Conds p1.Acts)))))))))
def nh (N:Nat) (p0:a7) (s1:(List au)) (s2:Int) (s3:Int) (s4:ByteArray) (s5:Int) (s6:(List cm)) (s7:(List cI)):Option (af × a7):=
  some ((⟨s4,s5,s1,s6,s7⟩:af),(⟨p0.b,s2,s3⟩:a7))
def pi (N:Nat) (p0:a7):Option (af × a7):=
  ((cp N p0 ([(⟨#[114,49]⟩:ByteArray),(⟨#[114,50]⟩:ByteArray),(⟨#[115,104,105,112]⟩:ByteArray)]:List ByteArray)).bind fun x1=>((lZ N (⟨p0.b,x1.2.i,x1.2.h⟩:a7) x1.1).bind fun x2=>((d5 N (⟨p0.b,x2.2.i,x2.2.h⟩:a7) 3).bind fun x3=>(if x3.1 then ((lH N (⟨p0.b,x3.2.i,x3.2.h⟩:a7) x2.1).bind fun x4=>nh N p0 x4.1.Pats x4.2.i x4.2.h x4.1.Name x4.1.Sal x4.1.Conds x4.1.Acts) else nh N p0 x2.1.Pats x3.2.i x3.2.h x2.1.Name x2.1.Sal x2.1.Conds x2.1.Acts))))
def gN (N:Nat) (p0:a7) (s1:(List af)) (s2:Int) (s3:Int) (s4:ByteArray):Option (bP × a7):=
  some ((⟨s4,s1⟩:bP),(⟨p0.b,s2,s3⟩:a7))
def nT (N:Nat) (p0:a7):Option (bP × a7):=
  ((kx N p0).bind fun x1=>((aJ N (⟨p0.b,x1.2.i,x1.2.h⟩:a7) 10).bind fun x2=>(if decide (x2.1=0) then ((cp N (⟨p0.b,x2.2.i,x2.2.h⟩:a7) ([(⟨#[]⟩:ByteArray),(⟨#[65]⟩:ByteArray)]:List ByteArray)).bind fun x3=>gN N p0 x1.1.Rules x3.2.i x3.2.h x3.1) else (if decide (x2.1=1) then ((pi N (⟨p0.b,x2.2.i,x2.2.h⟩:a7)).bind fun x4=>((app x1.1.Rules ([x4.1]:List af)).bind fun x6=>gN N p0 x6 x4.2.i x4.2.h x1.1.Name)) else (if decide (x2.1=2) then ((idx x1.1.Rules 0).bind fun x7=>((lH N (⟨p0.b,x2.2.i,x2.2.h⟩:a7) x7).bind fun x8=>((idx x1.1.Rules 0).bind fun x10=>gN N p0 (x1.1.Rules.set (0:Int).toNat x8.1) x8.2.i x8.2.h x1.1.Name))) else (if decide (x2.1=3) then ((ssl x1.1.Rules 0 0).bind fun x11=>gN N p0 x11 x2.2.i x2.2.h x1.1.Name) else gN N p0 x1.1.Rules x2.2.i x2.2.h x1.1.Name))))))
def lK (N:Nat) (p0:a7):Option (aN × a7):=
  ((d5 N p0 2).bind fun x1=>(if x1.1 then ((gu N (⟨p0.b,x1.2.i,x1.2.h⟩:a7) ([0,1,2,3,(-1),1000000000,(-1000000000)]:List Int)).bind fun x2=>some ((⟨1,x2.1,(⟨#[]⟩:ByteArray)⟩:aN),(⟨p0.b,x2.2.i,x2.2.h⟩:a7))) else ((cp N (⟨p0.b,x1.2.i,x1.2.h⟩:a7) ([(⟨#[]⟩:ByteArray),(⟨#[97]⟩:ByteArray),(⟨#[98]⟩:ByteArray),(⟨#[112,97,105,100]⟩:ByteArray),(⟨#[120,95,49]⟩:ByteArray)]:List ByteArray)).bind fun x3=>some ((⟨2,0,x3.1⟩:aN),(⟨p0.b,x3.2.i,x3.2.h⟩:a7)))))
def jq (N:Nat) (p0:a7) (s1:Int) (s2:Int) (s3:Int) (s4:Int) (s5:ByteArray):Option (aN × a7):=
  some ((⟨s3,s4,s5⟩:aN),(⟨p0.b,s1,s2⟩:a7))
def p7 (N:Nat) (p0:a7):Option (aN × a7):=
  ((lK N p0).bind fun x1=>((aJ N (⟨p0.b,x1.2.i,x1.2.h⟩:a7) 10).bind fun x2=>(if decide (x2.1=0) then ((aJ N (⟨p0.b,x2.2.i,x2.2.h⟩:a7) 4).bind fun x3=>jq N p0 x3.2.i x3.2.h x3.1 x1.1.N x1.1.S) else (if decide (x2.1=1) then ((gu N (⟨p0.b,x2.2.i,x2.2.h⟩:a7) ([1000000001,5]:List Int)).bind fun x4=>jq N p0 x4.2.i x4.2.h x1.1.K x4.1 x1.1.S) else (if decide (x2.1=2) then ((cp N (⟨p0.b,x2.2.i,x2.2.h⟩:a7) ([(⟨#[65]⟩:ByteArray),(⟨#[97,32,98]⟩:ByteArray),(⟨#[116,119,101,110,116,121,111,110,101,98,121,116,101,115,116,119,101,110,116,121,111]⟩:ByteArray),(⟨#[120]⟩:ByteArray)]:List ByteArray)).bind fun x5=>jq N p0 x5.2.i x5.2.h x1.1.K x1.1.N x5.1) else jq N p0 x2.2.i x2.2.h x1.1.K x1.1.N x1.1.S)))))
def jz (N:Nat) (p0:a7) (s1:(List aN)) (s2:Int) (s3:Int) (s4:ByteArray):Option (aL × a7):=
  some ((⟨s4,s1⟩:aL),(⟨p0.b,s2,s3⟩:a7))
def ju (N:Nat) (p0:a7) (x1:aL × a7):Nat→(List aN)→Int→Int→Option (aL × a7)
  | 0,_,_,_=>none
  | k+1,s5,s6,s7=>
    ((aJ N (⟨p0.b,s6,s7⟩:a7) 2).bind fun x6=>(if decide ((s5.length:Int) < i64.wrap (5+x6.1)) then ((lK N (⟨p0.b,x6.2.i,x6.2.h⟩:a7)).bind fun x7=>((app s5 ([x7.1]:List aN)).bind fun x8=>((ju N p0 x1 k) x8 x7.2.i x7.2.h))) else jz N p0 s5 x6.2.i x6.2.h x1.1.Kind))
def pC (N:Nat) (p0:a7):Option (aL × a7):=
  ((kg N p0).bind fun x1=>((aJ N (⟨p0.b,x1.2.i,x1.2.h⟩:a7) 10).bind fun x2=>(if decide (x2.1=0) then ((cp N (⟨p0.b,x2.2.i,x2.2.h⟩:a7) ([(⟨#[]⟩:ByteArray),(⟨#[65]⟩:ByteArray),(⟨#[116,104,105,114,116,101,101,110,98,121,116,101,115]⟩:ByteArray),(⟨#[120]⟩:ByteArray)]:List ByteArray)).bind fun x3=>jz N p0 x1.1.Fields x3.2.i x3.2.h x3.1) else (if decide (x2.1=1) then ((p7 N (⟨p0.b,x2.2.i,x2.2.h⟩:a7)).bind fun x4=>((app x1.1.Fields ([x4.1]:List aN)).bind fun x5=>jz N p0 x5 x4.2.i x4.2.h x1.1.Kind)) else (if decide (x2.1=2) then ju N p0 x1 N x1.1.Fields x2.2.i x2.2.h else jz N p0 x1.1.Fields x2.2.i x2.2.h x1.1.Kind)))))
def jw (N:Nat) (p0:a7) (s1:(List ak)) (s2:Int) (s3:Int) (s4:Int):Option (ah × a7):=
  some ((⟨s1,s4⟩:ah),(⟨p0.b,s2,s3⟩:a7))
def jC (N:Nat) (p0:a7) (x3:Int × a7):Nat→(List ak)→Int→Option (ah × a7)
  | 0,_,_=>none
  | k+1,s5,s6=>
    (if decide ((s5.length:Int) < 40) then ((fo N (⟨s5,s6⟩:ah) (⟨(⟨#[102,117,108,108]⟩:ByteArray),([(⟨1,(s5.length:Int),(⟨#[]⟩:ByteArray)⟩:aN)]:List aN)⟩:aL)).bind fun x8=>((jC N p0 x3 k) x8.2.Items x8.2.Next)) else jw N p0 s5 x3.2.i x3.2.h s6)
def pw (N:Nat) (p0:a7):Option (ah × a7):=
  ((lP N p0).bind fun x1=>((aJ N (⟨p0.b,x1.2.i,x1.2.h⟩:a7) 12).bind fun x3=>(if decide (x3.1=0) then ((gu N (⟨p0.b,x3.2.i,x3.2.h⟩:a7) ([0,1,1000000,1000001]:List Int)).bind fun x4=>jw N p0 x1.1.Items x4.2.i x4.2.h x4.1) else (if decide (x3.1=1) then ((aJ N (⟨p0.b,x3.2.i,x3.2.h⟩:a7) 9).bind fun x5=>((pC N (⟨p0.b,x5.2.i,x5.2.h⟩:a7)).bind fun x6=>((app x1.1.Items ([(⟨x5.1,x6.1⟩:ak)]:List ak)).bind fun x7=>jw N p0 x7 x6.2.i x6.2.h x1.1.Next))) else (if decide (x3.1=2) then jC N p0 x3 N x1.1.Items x1.1.Next else jw N p0 x1.1.Items x3.2.i x3.2.h x1.1.Next)))))
def fR (N:Nat) (s1:(List af)) (s4:ByteArray) (s5:(List ak)) (s6:Int):Option (bP × ah):=
  some ((⟨s4,s1⟩:bP),(⟨s5,s6⟩:ah))
def fQ (N:Nat) (x1:a7) (x3:ah × a7) (s1:(List af)) (s2:Int) (s3:Int) (s4:ByteArray):Option (bP × ah):=
  ((d5 N (⟨x1.b,s2,s3⟩:a7) 6).bind fun x6=>(if x6.1 then ((pw N (⟨x1.b,x6.2.i,x6.2.h⟩:a7)).bind fun x7=>(if decide (12 < (x7.1.Items.length:Int)) then ((ssl x7.1.Items 0 12).bind fun x9=>fR N s1 s4 x9 x7.1.Next) else fR N s1 s4 x7.1.Items x7.1.Next)) else fR N s1 s4 x3.1.Items x3.1.Next))
def jR (N:Nat) (p0:(List Int)):Option (bP × ah):=
  ((pn N p0).bind fun x1=>((kx N x1).bind fun x2=>((lP N (⟨x1.b,x2.2.i,x2.2.h⟩:a7)).bind fun x3=>((d5 N (⟨x1.b,x3.2.i,x3.2.h⟩:a7) 6).bind fun x5=>(if x5.1 then ((nT N (⟨x1.b,x5.2.i,x5.2.h⟩:a7)).bind fun x10=>fQ N x1 x3 x10.1.Rules x10.2.i x10.2.h x10.1.Name) else fQ N x1 x3 x2.1.Rules x5.2.i x5.2.h x2.1.Name)))))
def ja (N:Nat) (p0:Int):Option (Bool):=
  ((if decide (97≤p0) then some (decide (p0≤122)) else some false).bind fun b1=>some b1)
def oE (N:Nat) (p0:Int):Option (Bool):=
  ((if decide (48≤p0) then some (decide (p0≤57)) else some false).bind fun b1=>some b1)
def i8 (N:Nat) (p0:Int):Option (Bool):=
  ((ja N p0).bind fun x1=>((if x1 then some true else ((oE N p0).bind fun x2=>some x2)).bind fun b1=>((if b1 then some true else some (decide (p0=95))).bind fun b2=>some b2)))
def eJ (N:Nat) (p0:ByteArray):Nat→Int→Option (Bool)
  | 0,_=>none
  | k+1,s1=>
    (if decide (s1 < (p0.size:Int)) then ((idx p0.data.toList s1).bind fun y1=>((i8 N (y1.toNat:Int)).bind fun x1=>(if !x1 then some false else ((eJ N p0 k) (i64.wrap (s1+1)))))) else some true)
def lS (N:Nat) (p0:ByteArray) (p1:Int):Option (Bool):=
  (if decide (p1 < (p0.size:Int)) then some false else eJ N p0 N 0)
def fV (N:Nat) (p0:ByteArray):Option (Bool):=
  ((if decide (0 < (p0.size:Int)) then ((idx p0.data.toList 0).bind fun y1=>((ja N (y1.toNat:Int)).bind fun x1=>some x1)) else some false).bind fun b1=>((if b1 then ((lS N p0 12).bind fun x2=>some x2) else some false).bind fun b2=>some b2))
def cT (N:Nat) (p0:Int) (p1:Int) (p2:Int):Option (Bool):=
  ((if decide (p1≤p0) then some (decide (p0≤p2)) else some false).bind fun b1=>some b1)
def dD (N:Nat) (p0:af):Nat→Int→Int→Option (Int)
  | 0,_,_=>none
  | k+1,s1,s2=>
    (if decide (s2 < (p0.Pats.length:Int)) then ((idx p0.Pats s2).bind fun x1=>(if !x1.Not then ((dD N p0 k) (i64.wrap (s1+1)) (i64.wrap (s2+1))) else ((dD N p0 k) s1 (i64.wrap (s2+1))))) else some s1)
def iA (N:Nat) (p0:af):Option (Int):=
  dD N p0 N 0 0
def kC (N:Nat) (p0:aN):Option (Bool):=
  (if decide (p0.K=1) then ((cT N p0.N (-1000000000) 1000000000).bind fun x1=>((if x1 then some (seq p0.S (⟨#[]⟩:ByteArray)) else some false).bind fun b1=>some b1)) else (if decide (p0.K=2) then ((if decide (p0.N=0) then ((lS N p0.S 20).bind fun x2=>some x2) else some false).bind fun b2=>some b2) else some false))
def kv (N:Nat) (p0:Int):Option (Bool):=
  ((if decide (65≤p0) then some (decide (p0≤90)) else some false).bind fun b1=>some b1)
def gy (N:Nat) (p0:ByteArray):Nat→Int→Option (Bool)
  | 0,_=>none
  | k+1,s1=>
    (if decide (s1 < (p0.size:Int)) then ((idx p0.data.toList s1).bind fun y2=>((i8 N (y2.toNat:Int)).bind fun x2=>((if !x2 then ((idx p0.data.toList s1).bind fun y3=>((kv N (y3.toNat:Int)).bind fun x3=>some (!x3))) else some false).bind fun b3=>(if b3 then some false else ((gy N p0 k) (i64.wrap (s1+1))))))) else some true)
def pf (N:Nat) (p0:ByteArray):Option (Bool):=
  ((if decide ((p0.size:Int) < 1) then some true else some (decide (12 < (p0.size:Int)))).bind fun b1=>((if b1 then some true else ((idx p0.data.toList 0).bind fun y1=>((kv N (y1.toNat:Int)).bind fun x1=>some (!x1)))).bind fun b2=>(if b2 then some false else gy N p0 N 0)))
def nA (N:Nat) (p0:bh):Option (Bool):=
  (if decide (p0.K=1) then ((pf N p0.S).bind fun x1=>((if x1 then some (bT p0.V (⟨0,0,(⟨#[]⟩:ByteArray)⟩:aN)) else some false).bind fun b1=>some b1)) else (if decide (p0.K=2) then ((if seq p0.S (⟨#[]⟩:ByteArray) then ((kC N p0.V).bind fun x2=>some x2) else some false).bind fun b2=>some b2) else (if decide (p0.K=3) then ((if seq p0.S (⟨#[]⟩:ByteArray) then some (bT p0.V (⟨0,0,(⟨#[]⟩:ByteArray)⟩:aN)) else some false).bind fun b3=>some b3) else some false)))
def gJ (N:Nat) (p0:au):Nat→Int→Option (Bool)
  | 0,_=>none
  | k+1,s1=>
    (if decide (s1 < (p0.Args.length:Int)) then ((idx p0.Args s1).bind fun x2=>((nA N x2).bind fun x3=>(if !x3 then some false else ((gJ N p0 k) (i64.wrap (s1+1)))))) else some true)
def pM (N:Nat) (p0:au):Option (Bool):=
  ((fV N p0.Kind).bind fun x1=>((if !x1 then some true else some (decide (5 < (p0.Args.length:Int)))).bind fun b1=>(if b1 then some false else gJ N p0 N 0)))
def eC (N:Nat) (p0:af):Nat→Int→Option (Bool)
  | 0,_=>none
  | k+1,s1=>
    (if decide (s1 < (p0.Pats.length:Int)) then ((idx p0.Pats s1).bind fun x4=>((pM N x4).bind fun x5=>((if !x5 then some true else ((iA N p0).bind fun x6=>some (x4.Not != (decide (x6≤s1))))).bind fun b2=>(if b2 then some false else ((eC N p0 k) (i64.wrap (s1+1))))))) else some true)
def nP (N:Nat) (p0:af):Option (Bool):=
  ((cT N (p0.Pats.length:Int) 1 6).bind fun x1=>((if !x1 then some true else ((iA N p0).bind fun x2=>((cT N x2 1 3).bind fun x3=>some (!x3)))).bind fun b1=>(if b1 then some false else eC N p0 N 0)))
def iC (N:Nat) (p0:bh):Option (Bool):=
  ((if !decide (p0.K=3) then ((nA N p0).bind fun x1=>some x1) else some false).bind fun b1=>some b1)
def nJ (N:Nat) (p0:cm):Option (Bool):=
  ((cT N p0.Op 1 3).bind fun x1=>((if x1 then ((iC N p0.L).bind fun x2=>some x2) else some false).bind fun b1=>((if b1 then ((iC N p0.R).bind fun x3=>some x3) else some false).bind fun b2=>some b2)))
def iO (N:Nat) (p0:cn) (s1:Bool):Option (Bool):=
  (if s1 then ((iC N p0.L).bind fun x2=>((if x2 then ((iC N p0.R).bind fun x3=>some x3) else some false).bind fun b2=>some b2)) else some false)
def nV (N:Nat) (p0:cn):Option (Bool):=
  (if seq p0.Op (⟨#[]⟩:ByteArray) then ((iC N p0.L).bind fun x1=>((if x1 then some (o5 p0.R (⟨0,(⟨#[]⟩:ByteArray),(⟨0,0,(⟨#[]⟩:ByteArray)⟩:aN)⟩:bh)) else some false).bind fun b1=>some b1)) else (if seq p0.Op (⟨#[43]⟩:ByteArray) then iO N p0 (seq p0.Op (⟨#[43]⟩:ByteArray)) else iO N p0 (seq p0.Op (⟨#[45]⟩:ByteArray))))
def eB (N:Nat) (p0:cI):Nat→Int→Option (Bool)
  | 0,_=>none
  | k+1,s1=>
    (if decide (s1 < (p0.Args.length:Int)) then ((idx p0.Args s1).bind fun x2=>((nV N x2).bind fun x3=>(if !x3 then some false else ((eB N p0 k) (i64.wrap (s1+1)))))) else some true)
def kj (N:Nat) (p0:cI):Option (Bool):=
  ((fV N p0.Name).bind fun x1=>((if !x1 then some true else some (decide (5 < (p0.Args.length:Int)))).bind fun b1=>(if b1 then some false else eB N p0 N 0)))
def qn (N:Nat) (p0:ByteArray):Option (Bool):=
  ((if seq p0 (⟨#[]⟩:ByteArray) then some true else ((fV N p0).bind fun x1=>some x1)).bind fun b1=>some b1)
def jy (N:Nat) (p0:cI) (b1:Bool) (s1:Bool):Option (Bool):=
  (if s1 then ((if b1 then some (decide (p0.N=0)) else some false).bind fun b10=>((if b10 then some (seq p0.Undo (⟨#[]⟩:ByteArray)) else some false).bind fun b11=>some b11)) else some false)
def pb (N:Nat) (p0:cI):Option (Bool):=
  ((if seq p0.Name (⟨#[]⟩:ByteArray) then some (decide ((p0.Args.length:Int)=0)) else some false).bind fun b1=>(if decide (p0.Kind=1) then ((kj N p0).bind fun x1=>((if x1 then some (decide (p0.N=0)) else some false).bind fun b2=>((if b2 then some (seq p0.Undo (⟨#[]⟩:ByteArray)) else some false).bind fun b3=>some b3))) else (if decide (p0.Kind=2) then ((if b1 then ((cT N p0.N 0 7).bind fun x2=>some x2) else some false).bind fun b4=>((if b4 then some (seq p0.Undo (⟨#[]⟩:ByteArray)) else some false).bind fun b5=>some b5)) else (if decide (p0.Kind=3) then ((kj N p0).bind fun x3=>((if x3 then some (decide (p0.N=0)) else some false).bind fun b6=>((if b6 then ((qn N p0.Undo).bind fun x4=>some x4) else some false).bind fun b7=>some b7))) else (if decide (p0.Kind=4) then ((kj N p0).bind fun x5=>((if x5 then ((cT N p0.N 0 100000).bind fun x6=>some x6) else some false).bind fun b8=>((if b8 then some (seq p0.Undo (⟨#[]⟩:ByteArray)) else some false).bind fun b9=>some b9))) else (if decide (p0.Kind=5) then jy N p0 b1 (decide (p0.Kind=5)) else jy N p0 b1 (decide (p0.Kind=6))))))))
def bp (N:Nat) (p0:(List ByteArray)) (p1:ByteArray):Nat→Int→Option (Int)
  | 0,_=>none
  | k+1,s1=>
    (if decide (s1 < (p0.length:Int)) then ((idx p0 s1).bind fun x1=>(if seq p1 x1 then some s1 else ((bp N p0 p1 k) (i64.wrap (s1+1))))) else some (-1))
def dl (N:Nat) (p0:(List ByteArray)) (p1:ByteArray):Option (Int):=
  bp N p0 p1 N 0
def cg (N:Nat) (p0:(List ByteArray)) (p1:ByteArray):Option (Bool):=
  ((dl N p0 p1).bind fun x1=>some (decide (0≤x1)))
def mE (N:Nat) (p0:(List ByteArray)) (p1:ByteArray):Option ((List ByteArray)):=
  ((cg N p0 p1).bind fun x1=>(if x1 then some p0 else ((app p0 ([p1]:List ByteArray)).bind fun x2=>some x2)))
def fb (N:Nat) (p1:(List bh)):Nat→(List ByteArray)→Int→Option ((List ByteArray))
  | 0,_,_=>none
  | k+1,s1,s2=>
    (if decide (s2 < (p1.length:Int)) then ((idx p1 s2).bind fun x1=>(if decide (x1.K=1) then ((mE N s1 x1.S).bind fun x2=>((fb N p1 k) x2 (i64.wrap (s2+1)))) else ((fb N p1 k) s1 (i64.wrap (s2+1))))) else some s1)
def jm (N:Nat) (p0:(List ByteArray)) (p1:(List bh)):Option ((List ByteArray)):=
  fb N p1 N p0 0
def f8 (N:Nat) (p0:af):Nat→(List ByteArray)→Int→Option ((List ByteArray))
  | 0,_,_=>none
  | k+1,s1,s2=>
    (if decide (s2 < (p0.Pats.length:Int)) then ((idx p0.Pats s2).bind fun x1=>(if !x1.Not then ((jm N s1 x1.Args).bind fun x2=>((f8 N p0 k) x2 (i64.wrap (s2+1)))) else ((f8 N p0 k) s1 (i64.wrap (s2+1))))) else some s1)
def kr (N:Nat) (p0:af):Option ((List ByteArray)):=
  f8 N p0 N ([]:List ByteArray) 0
def ek (N:Nat) (s4:Int) (K2:(List ByteArray)→Int→Option ((List ByteArray))) (x3:cI):Nat→(List ByteArray)→Int→Option ((List ByteArray))
  | 0,_,_=>none
  | k+1,s5,s6=>
    (if decide (s6 < (x3.Args.length:Int)) then ((idx x3.Args s6).bind fun x4=>((jm N s5 ([x4.L,x4.R]:List bh)).bind fun x5=>((ek N s4 K2 x3 k) x5 (i64.wrap (s6+1))))) else (K2 s5 (i64.wrap (s4+1))))
def d8 (N:Nat) (p0:af):Nat→(List ByteArray)→Int→Option ((List ByteArray))
  | 0,_,_=>none
  | k+1,s3,s4=>
    (if decide (s4 < (p0.Acts.length:Int)) then ((idx p0.Acts s4).bind fun x3=>ek N s4 (d8 N p0 k) x3 N s3 0) else some s3)
def ff (N:Nat) (p0:af):Nat→(List ByteArray)→Int→Option ((List ByteArray))
  | 0,_,_=>none
  | k+1,s1,s2=>
    (if decide (s2 < (p0.Conds.length:Int)) then ((idx p0.Conds s2).bind fun x1=>((jm N s1 ([x1.L,x1.R]:List bh)).bind fun x2=>((ff N p0 k) x2 (i64.wrap (s2+1))))) else d8 N p0 N s1 0)
def kH (N:Nat) (p0:af):Option ((List ByteArray)):=
  ff N p0 N ([]:List ByteArray) 0
def eE (N:Nat) (x10:(List ByteArray)) (x11:(List ByteArray)):Nat→Int→Option (Bool)
  | 0,_=>none
  | k+1,s3=>
    (if decide (s3 < (x11.length:Int)) then ((idx x11 s3).bind fun x12=>((cg N x10 x12).bind fun x13=>(if !x13 then some false else ((eE N x10 x11 k) (i64.wrap (s3+1)))))) else some true)
def eK (N:Nat) (p0:af):Nat→Int→Option (Bool)
  | 0,_=>none
  | k+1,s2=>
    (if decide (s2 < (p0.Acts.length:Int)) then ((idx p0.Acts s2).bind fun x7=>((pb N x7).bind fun x8=>((if !x8 then some true else ((if decide (x7.Kind=2) then ((iA N p0).bind fun x9=>some (decide (x9≤x7.N))) else some false).bind fun b5=>some b5)).bind fun b4=>(if b4 then some false else ((eK N p0 k) (i64.wrap (s2+1))))))) else ((kr N p0).bind fun x10=>((kH N p0).bind fun x11=>eE N x10 x11 N 0)))
def ez (N:Nat) (p0:af):Nat→Int→Option (Bool)
  | 0,_=>none
  | k+1,s1=>
    (if decide (s1 < (p0.Conds.length:Int)) then ((idx p0.Conds s1).bind fun x5=>((nJ N x5).bind fun x6=>(if !x6 then some false else ((ez N p0 k) (i64.wrap (s1+1)))))) else eK N p0 N 0)
def nZ (N:Nat) (p0:af):Option (Bool):=
  ((fV N p0.Name).bind fun x1=>((if !x1 then some true else ((cT N p0.Sal (-100) 100).bind fun x2=>some (!x2))).bind fun b1=>((if b1 then some true else ((nP N p0).bind fun x3=>some (!x3))).bind fun b2=>(if b2 then some false else ((if decide (6 < (p0.Conds.length:Int)) then some true else ((cT N (p0.Acts.length:Int) 1 6).bind fun x4=>some (!x4))).bind fun b3=>(if b3 then some false else ez N p0 N 0))))))
def aU (N:Nat) (p0:(List af)) (p1:af→Option (Bool)):Nat→Int→Option (Int)
  | 0,_=>none
  | k+1,s1=>
    (if decide (s1 < (p0.length:Int)) then ((idx p0 s1).bind fun x1=>((p1 x1).bind fun x2=>(if x2 then some s1 else ((aU N p0 p1 k) (i64.wrap (s1+1)))))) else some (-1))
def dt (N:Nat) (p0:(List af)) (p1:af→Option (Bool)):Option (Int):=
  aU N p0 p1 N 0
def iS (N:Nat) (p0:af) (c0:ByteArray):Option (Bool):=
  some (seq p0.Name c0)
def oh (N:Nat) (p0:bP) (p1:ByteArray):Option (Int):=
  ((dt N p0.Rules (fun a0=>iS N a0 p1)).bind fun x1=>some x1)
def fC (N:Nat) (p0:bP):Nat→Int→Option (Bool)
  | 0,_=>none
  | k+1,s1=>
    (if decide (s1 < (p0.Rules.length:Int)) then ((idx p0.Rules s1).bind fun x3=>((nZ N x3).bind fun x4=>((if !x4 then some true else ((oh N p0 x3.Name).bind fun x5=>some (!decide (x5=s1)))).bind fun b2=>(if b2 then some false else ((fC N p0 k) (i64.wrap (s1+1))))))) else some true)
def lR (N:Nat) (p0:bP):Option (Bool):=
  ((fV N p0.Name).bind fun x1=>((if !x1 then some true else ((cT N (p0.Rules.length:Int) 1 12).bind fun x2=>some (!x2))).bind fun b1=>(if b1 then some false else fC N p0 N 0)))
def eG (N:Nat) (p0:aL):Nat→Int→Option (Bool)
  | 0,_=>none
  | k+1,s1=>
    (if decide (s1 < (p0.Fields.length:Int)) then ((idx p0.Fields s1).bind fun x2=>((kC N x2).bind fun x3=>(if !x3 then some false else ((eG N p0 k) (i64.wrap (s1+1)))))) else some true)
def o0 (N:Nat) (p0:aL):Option (Bool):=
  ((fV N p0.Kind).bind fun x1=>((if !x1 then some true else some (decide (5 < (p0.Fields.length:Int)))).bind fun b1=>(if b1 then some false else eG N p0 N 0)))
def bl (N:Nat) (p0:(List aN)) (p1:(List aN)):Nat→Int→Option (Bool)
  | 0,_=>none
  | k+1,s1=>
    (if decide (s1 < (p0.length:Int)) then ((idx p0 s1).bind fun x1=>((idx p1 s1).bind fun x2=>(if !(bT x1 x2) then some false else ((bl N p0 p1 k) (i64.wrap (s1+1)))))) else some true)
def bV (N:Nat) (p0:(List aN)) (p1:(List aN)):Option (Bool):=
  (if !decide ((p0.length:Int)=(p1.length:Int)) then some false else bl N p0 p1 N 0)
def lg (N:Nat) (p0:aL) (p1:aL):Option (Bool):=
  ((if seq p0.Kind p1.Kind then ((bV N p0.Fields p1.Fields).bind fun x1=>some x1) else some false).bind fun b1=>some b1)
def ef (N:Nat) (s1:Int) (K1:Int→Option (Bool)) (x2:ak) (x6:(List ak)):Nat→Int→Option (Bool)
  | 0,_=>none
  | k+1,s2=>
    (if decide (s2 < (x6.length:Int)) then ((idx x6 s2).bind fun x7=>((lg N x2.F x7.F).bind fun x8=>(if x8 then some false else ((ef N s1 K1 x2 x6 k) (i64.wrap (s2+1)))))) else (K1 (i64.wrap (s1+1))))
def d6 (N:Nat) (p0:ah):Nat→Int→Option (Bool)
  | 0,_=>none
  | k+1,s1=>
    (if decide (s1 < (p0.Items.length:Int)) then ((idx p0.Items s1).bind fun x2=>((o0 N x2.F).bind fun x3=>((if !x3 then some true else ((cT N x2.Id 1 (i64.wrap (p0.Next - 1))).bind fun x4=>some (!x4))).bind fun b2=>((if b2 then some true else ((if decide (0 < s1) then ((idx p0.Items (i64.wrap (s1 - 1))).bind fun x5=>some (decide (x2.Id≤x5.Id))) else some false).bind fun b4=>some b4)).bind fun b3=>(if b3 then some false else ((ssl p0.Items 0 s1).bind fun x6=>ef N s1 (d6 N p0 k) x2 x6 N 0)))))) else some true)
def jb (N:Nat) (p0:ah):Option (Bool):=
  ((if decide (40 < (p0.Items.length:Int)) then some true else ((cT N p0.Next 1 1000000).bind fun x1=>some (!x1))).bind fun b1=>(if b1 then some false else d6 N p0 N 0))
def fe (N:Nat) (p0:(List aN)):Option ((List aN)):=
  ((app ([]:List aN) p0).bind fun x1=>some x1)
def l8 (N:Nat) (p0:aL):Option (aL):=
  ((fe N p0.Fields).bind fun x1=>some (⟨p0.Kind,x1⟩:aL))
def fE (N:Nat) (p0:ah) (p1:Int):Nat→Int→Option (aL × Bool)
  | 0,_=>none
  | k+1,s1=>
    (if decide (s1 < (p0.Items.length:Int)) then ((idx p0.Items s1).bind fun x1=>(if decide (x1.Id=p1) then ((l8 N x1.F).bind fun x2=>some (x2,true)) else ((fE N p0 p1 k) (i64.wrap (s1+1))))) else some ((⟨(⟨#[]⟩:ByteArray),[]⟩:aL),false))
def kh (N:Nat) (p0:ah) (p1:Int):Option (aL × Bool):=
  fE N p0 p1 N 0
def gR (N:Nat) (p0:aM) (p1:aL):Nat→Int→Option (Bool)
  | 0,_=>none
  | k+1,s1=>
    (if decide (s1 < (p0.At.length:Int)) then ((idx p0.At s1).bind fun x1=>((if decide (x1 < 0) then some true else some (decide ((p1.Fields.length:Int)≤x1))).bind fun b2=>((if b2 then some true else some (decide ((p0.Consts.length:Int)≤s1))).bind fun b3=>((if b3 then some true else ((idx p1.Fields x1).bind fun x2=>((idx p0.Consts s1).bind fun x3=>some (!(bT x2 x3))))).bind fun b4=>(if b4 then some false else ((gR N p0 p1 k) (i64.wrap (s1+1)))))))) else some true)
def nX (N:Nat) (p0:aM) (p1:aL):Option (Bool):=
  ((if !seq p1.Kind p0.Kind then some true else some (!decide ((p1.Fields.length:Int)=p0.N))).bind fun b1=>(if b1 then some false else gR N p0 p1 N 0))
def it (N:Nat) (p0:af) (p1:Bool):Nat→(List au)→Int→Option ((List au))
  | 0,_,_=>none
  | k+1,s1,s2=>
    (if decide (s2 < (p0.Pats.length:Int)) then ((idx p0.Pats s2).bind fun x1=>(if (x1.Not == p1) then ((app s1 ([x1]:List au)).bind fun x2=>((it N p0 p1 k) x2 (i64.wrap (s2+1)))) else ((it N p0 p1 k) s1 (i64.wrap (s2+1))))) else some s1)
def mG (N:Nat) (p0:af) (p1:Bool):Option ((List au)):=
  it N p0 p1 N ([]:List au) 0
def n7 (N:Nat) (p0:bP) (p1:fj) (p2:dI) (p3:ah) (p4:Int) (p5:Int):Option (cQ):=
  ((idx p0.Rules p5).bind fun x1=>((idx p1.Chains p5).bind fun x2=>((mG N x1 false).bind fun x3=>((mG N x1 true).bind fun x4=>some (⟨x3,x4,x2,p2.Alphas,p3,p4⟩:cQ)))))
def bc (N:Nat) (p0:(List ax)):Option ((List ax)):=
  ((app ([]:List ax) p0).bind fun x1=>some x1)
def gU (N:Nat) (p0:(List ax)) (p1:ByteArray):Nat→Int→Option (aN × Bool)
  | 0,_=>none
  | k+1,s1=>
    (if decide (s1 < (p0.length:Int)) then ((idx p0 s1).bind fun x1=>(if seq x1.Name p1 then some (x1.V,true) else ((gU N p0 p1 k) (i64.wrap (s1+1))))) else some ((⟨0,0,(⟨#[]⟩:ByteArray)⟩:aN),false))
def lA (N:Nat) (p0:(List ax)) (p1:ByteArray):Option (aN × Bool):=
  gU N p0 p1 N 0
def dC (N:Nat) (p0:au) (p1:aL) (p2:(List ax)):Nat→(List ax)→Int→Option ((List ax) × Bool)
  | 0,_,_=>none
  | k+1,s1,s2=>
    (if decide (s2 < (p0.Args.length:Int)) then ((idx p0.Args s2).bind fun x3=>((idx p1.Fields s2).bind fun x4=>(if decide (x3.K=2) then (if !(bT x3.V x4) then ((bc N p2).bind fun x5=>some (x5,false)) else ((dC N p0 p1 p2 k) s1 (i64.wrap (s2+1)))) else (if decide (x3.K=1) then ((lA N s1 x3.S).bind fun x6=>((if x6.2 then some (!(bT x6.1 x4)) else some false).bind fun b2=>(if b2 then ((bc N p2).bind fun x7=>some (x7,false)) else (if !x6.2 then ((app s1 ([(⟨x3.S,x4⟩:ax)]:List ax)).bind fun x8=>((dC N p0 p1 p2 k) x8 (i64.wrap (s2+1)))) else ((dC N p0 p1 p2 k) s1 (i64.wrap (s2+1))))))) else ((dC N p0 p1 p2 k) s1 (i64.wrap (s2+1))))))) else some (s1,true))
def gK (N:Nat) (p0:au) (p1:aL) (p2:(List ax)):Option ((List ax) × Bool):=
  ((if !seq p1.Kind p0.Kind then some true else some (!decide ((p1.Fields.length:Int)=(p0.Args.length:Int)))).bind fun b1=>(if b1 then ((bc N p2).bind fun x1=>some (x1,false)) else ((bc N p2).bind fun x2=>dC N p0 p1 p2 N x2 0)))
def dx (N:Nat) (p0:(List au)) (p1:ah) (p2:(List Int)):Nat→(List ax)→Int→Option ((List ax) × Bool)
  | 0,_,_=>none
  | k+1,s1,s2=>
    (if decide (s2 < (p2.length:Int)) then ((idx p2 s2).bind fun x1=>((kh N p1 x1).bind fun x2=>(if !x2.2 then some ([],false) else ((idx p0 s2).bind fun x3=>((gK N x3 x2.1 s1).bind fun x4=>(if !x4.2 then some ([],false) else ((dx N p0 p1 p2 k) x4.1 (i64.wrap (s2+1))))))))) else some (s1,true))
def gw (N:Nat) (p0:(List au)) (p1:ah) (p2:(List Int)):Option ((List ax) × Bool):=
  dx N p0 p1 p2 N ([]:List ax) 0
def cw (N:Nat) (p0:cQ) (p2:Int) (x1:aL × Bool) (s1:(List aD)) (s2:Int) (K1:(List aD)→Int→Option ((List aD))) (x2:aD) (x3:(List ax) × Bool):Nat→(List Int)→Int→Option ((List aD))
  | 0,_,_=>none
  | k+1,s3,s4=>
    (if decide (s4 < (p0.neg.length:Int)) then ((idx p0.neg s4).bind fun x4=>((gK N x4 x1.1 x3.1).bind fun x5=>(if x5.2 then ((idx s3 s4).bind fun x6=>((idx s3 s4).bind fun x7=>((cw N p0 p2 x1 s1 s2 K1 x2 x3 k) (s3.set s4.toNat (i64.wrap (x6+p2))) (i64.wrap (s4+1))))) else ((cw N p0 p2 x1 s1 s2 K1 x2 x3 k) s3 (i64.wrap (s4+1)))))) else (K1 (s1.set s2.toNat (⟨x2.Ids,s3⟩:aD)) (i64.wrap (s2+1))))
def bI (N:Nat) (p0:cQ) (p1:(List aD)) (p2:Int) (x1:aL × Bool):Nat→(List aD)→Int→Option ((List aD))
  | 0,_,_=>none
  | k+1,s1,s2=>
    (if decide (s2 < (p1.length:Int)) then ((idx s1 s2).bind fun x2=>((gw N p0.pos p0.s x2.Ids).bind fun x3=>(if !x3.2 then ((bI N p0 p1 p2 x1 k) s1 (i64.wrap (s2+1))) else cw N p0 p2 x1 s1 s2 (bI N p0 p1 p2 x1 k) x2 x3 N x2.Hits 0))) else some s1)
def fO (N:Nat) (p0:cQ) (p1:(List aD)) (p2:Int):Option ((List aD)):=
  ((kh N p0.s p0.id).bind fun x1=>bI N p0 p1 p2 x1 N p1 0)
def dJ (N:Nat) (p0:(List aD)):Option ((List aD)):=
  ((app ([]:List aD) p0).bind fun x1=>some x1)
def dV (N:Nat) (p0:(List aD)):Option ((List aD)):=
  ((app ([]:List aD) p0).bind fun x1=>some x1)
def bZ (N:Nat) (p0:(List Int)):Option ((List Int)):=
  ((app ([]:List Int) p0).bind fun x1=>some x1)
def eO (N:Nat) (p0:au) (p1:ah) (p2:(List ax)):Nat→Int→Int→Option (Int)
  | 0,_,_=>none
  | k+1,s1,s2=>
    (if decide (s2 < (p1.Items.length:Int)) then ((idx p1.Items s2).bind fun x1=>((gK N p0 x1.F p2).bind fun x2=>(if x2.2 then ((eO N p0 p1 p2 k) (i64.wrap (s1+1)) (i64.wrap (s2+1))) else ((eO N p0 p1 p2 k) s1 (i64.wrap (s2+1)))))) else some s1)
def lI (N:Nat) (p0:au) (p1:ah) (p2:(List ax)):Option (Int):=
  eO N p0 p1 p2 N 0 0
def cB (N:Nat) (s1:(List aD)) (s2:Int) (K1:(List aD)→Int→Option ((List aD))) (x3:(List Int)) (s3:(List Int)):Option ((List aD)):=
  ((app s1 ([(⟨x3,s3⟩:aD)]:List aD)).bind fun x5=>(K1 x5 (i64.wrap (s2+1))))
def cC (N:Nat) (p0:cQ) (s1:(List aD)) (s2:Int) (K1:(List aD)→Int→Option ((List aD))) (x3:(List Int)) (x4:(List ax) × Bool):Nat→(List Int)→Int→Option ((List aD))
  | 0,_,_=>none
  | k+1,s4,s5=>
    (if decide (s5 < (p0.neg.length:Int)) then ((idx p0.neg s5).bind fun x6=>((lI N x6 p0.s x4.1).bind fun x7=>((app s4 ([x7]:List Int)).bind fun x8=>((cC N p0 s1 s2 K1 x3 x4 k) x8 (i64.wrap (s5+1)))))) else cB N s1 s2 K1 x3 s4)
def bD (N:Nat) (p0:cQ) (p1:(List Int)) (p2:(List Int)):Nat→(List aD)→Int→Option ((List aD))
  | 0,_,_=>none
  | k+1,s1,s2=>
    (if decide (s2 < (p2.length:Int)) then ((idx p2 s2).bind fun x1=>((bZ N p1).bind fun x2=>((app x2 ([x1]:List Int)).bind fun x3=>((gw N p0.pos p0.s x3).bind fun x4=>(if !x4.2 then ((bD N p0 p1 p2 k) s1 (i64.wrap (s2+1))) else (if decide ((x3.length:Int)=(p0.pos.length:Int)) then cC N p0 s1 s2 (bD N p0 p1 p2 k) x3 x4 N ([]:List Int) 0 else cB N s1 s2 (bD N p0 p1 p2 k) x3 ([]:List Int))))))) else some s1)
def dT (N:Nat) (p0:cQ) (p1:(List Int)) (p2:(List Int)):Option ((List aD)):=
  bD N p0 p1 p2 N ([]:List aD) 0
def co (N:Nat) (s1:(List aO)) (s4:Int) (K1:(List aO)→(List aD)→(List aD)→Int→Option ((List aO))) (s5:(List aD)):Option ((List aO)):=
  ((idx s1 s4).bind fun x1=>((dV N x1.Toks).bind fun x2=>((app x1.Toks s5).bind fun x3=>(K1 (s1.set s4.toNat (⟨x3⟩:aO)) x2 s5 (i64.wrap (s4+1))))))
def cS (N:Nat) (p0:cQ) (s1:(List aO)) (s3:(List aD)) (s4:Int) (K1:(List aO)→(List aD)→(List aD)→Int→Option ((List aO))):Nat→(List aD)→Int→Option ((List aO))
  | 0,_,_=>none
  | k+1,s8,s9=>
    (if decide (s9 < (s3.length:Int)) then ((idx s3 s9).bind fun x8=>((idx p0.chain.Pos s4).bind fun x9=>((idx p0.alphas x9).bind fun x10=>((dT N p0 x8.Ids x10.L).bind fun x11=>((app s8 x11).bind fun x12=>((cS N p0 s1 s3 s4 K1 k) x12 (i64.wrap (s9+1)))))))) else co N s1 s4 K1 s8)
def cV (N:Nat) (p0:cQ) (s1:(List aO)) (s2:(List aD)) (s3:(List aD)) (s4:Int) (K1:(List aO)→(List aD)→(List aD)→Int→Option ((List aO))):Nat→(List aD)→Int→Option ((List aO))
  | 0,_,_=>none
  | k+1,s6,s7=>
    (if decide (s7 < (s2.length:Int)) then ((idx s2 s7).bind fun x5=>((dT N p0 x5.Ids ([p0.id]:List Int)).bind fun x6=>((app s6 x6).bind fun x7=>((cV N p0 s1 s2 s3 s4 K1 k) x7 (i64.wrap (s7+1)))))) else cS N p0 s1 s3 s4 K1 N s6 0)
def bG (N:Nat) (p0:cQ) (p1:(List aO)):Nat→(List aO)→(List aD)→(List aD)→Int→Option ((List aO))
  | 0,_,_,_,_=>none
  | k+1,s1,s2,s3,s4=>
    (if decide (s4 < (p1.length:Int)) then (if decide (s4=0) then ((dT N p0 [] ([p0.id]:List Int)).bind fun x4=>co N s1 s4 (bG N p0 p1 k) x4) else cV N p0 s1 s2 s3 s4 (bG N p0 p1 k) N ([]:List aD) 0) else some s1)
def gt (N:Nat) (p0:cQ) (p1:(List aO)):Option ((List aO)):=
  bG N p0 p1 N p1 ([]:List aD) ([]:List aD) 0
def ej (N:Nat) (p0:bP) (p1:fj) (p2:dI) (p3:ah) (p4:Int) (s1:(List eu)):Nat→(List cq)→Int→Option ((List eu) × (List cq))
  | 0,_,_=>none
  | k+1,s3,s4=>
    (if decide (s4 < (p2.Rules.length:Int)) then ((idx s3 s4).bind fun x6=>((n7 N p0 p1 (⟨s1,s3⟩:dI) p3 p4 s4).bind fun x7=>((idx x6.Levels (i64.wrap ((x6.Levels.length:Int) - 1))).bind fun x8=>((fO N x7 x8.Toks 1).bind fun x9=>((gt N x7 (x6.Levels.set (i64.wrap ((x6.Levels.length:Int) - 1)).toNat (⟨x9⟩:aO))).bind fun x10=>((ej N p0 p1 p2 p3 p4 s1 k) (s3.set s4.toNat (⟨x10⟩:cq)) (i64.wrap (s4+1)))))))) else some (s1,s3))
def dS (N:Nat) (p0:bP) (p1:fj) (p2:dI) (p3:ah) (p4:Int) (x1:aL × Bool):Nat→(List eu)→Int→Option ((List eu) × (List cq))
  | 0,_,_=>none
  | k+1,s1,s2=>
    (if decide (s2 < (p1.Alphas.length:Int)) then ((idx p1.Alphas s2).bind fun x2=>((nX N x2 x1.1).bind fun x3=>(if x3 then ((idx s1 s2).bind fun x4=>((app x4.L ([p4]:List Int)).bind fun x5=>((dS N p0 p1 p2 p3 p4 x1 k) (s1.set s2.toNat (⟨x5⟩:eu)) (i64.wrap (s2+1))))) else ((dS N p0 p1 p2 p3 p4 x1 k) s1 (i64.wrap (s2+1)))))) else ej N p0 p1 p2 p3 p4 s1 N p2.Rules 0)
def mi (N:Nat) (p0:bP) (p1:fj) (p2:dI) (p3:ah) (p4:Int):Option ((List eu) × (List cq)):=
  ((kh N p3 p4).bind fun x1=>dS N p0 p1 p2 p3 p4 x1 N p2.Alphas 0)
def cE (N:Nat) (p0:(List Int)) (p1:(List Int)):Nat→Int→Option (Bool)
  | 0,_=>none
  | k+1,s1=>
    (if decide (s1 < (p0.length:Int)) then ((idx p0 s1).bind fun x1=>((idx p1 s1).bind fun x2=>(if !decide (x1=x2) then some false else ((cE N p0 p1 k) (i64.wrap (s1+1)))))) else some true)
def cu (N:Nat) (p0:(List Int)) (p1:(List Int)):Option (Bool):=
  (if !decide ((p0.length:Int)=(p1.length:Int)) then some false else cE N p0 p1 N 0)
def jM (N:Nat) (p0:aM) (p1:aM):Option (Bool):=
  ((if seq p0.Kind p1.Kind then some (decide (p0.N=p1.N)) else some false).bind fun b1=>((if b1 then ((bV N p0.Consts p1.Consts).bind fun x1=>some x1) else some false).bind fun b2=>((if b2 then ((cu N p0.At p1.At).bind fun x2=>some x2) else some false).bind fun b3=>some b3)))
def eR (N:Nat) (p0:au):Nat→(List aN)→(List Int)→Int→Option (aM)
  | 0,_,_,_=>none
  | k+1,s1,s2,s3=>
    (if decide (s3 < (p0.Args.length:Int)) then ((idx p0.Args s3).bind fun x1=>(if decide (x1.K=2) then ((app s1 ([x1.V]:List aN)).bind fun x2=>((app s2 ([s3]:List Int)).bind fun x3=>((eR N p0 k) x2 x3 (i64.wrap (s3+1))))) else ((eR N p0 k) s1 s2 (i64.wrap (s3+1))))) else some (⟨p0.Kind,(p0.Args.length:Int),s1,s2⟩:aM))
def mD (N:Nat) (p0:au):Option (aM):=
  eR N p0 N ([]:List aN) ([]:List Int) 0
def cU (N:Nat) (p0:fj) (x1:aM):Nat→Int→Option (Int × fj)
  | 0,_=>none
  | k+1,s1=>
    (if decide (s1 < (p0.Alphas.length:Int)) then ((idx p0.Alphas s1).bind fun x2=>((jM N x2 x1).bind fun x3=>(if x3 then some (s1,p0) else ((cU N p0 x1 k) (i64.wrap (s1+1)))))) else ((app p0.Alphas ([x1]:List aM)).bind fun x4=>some (i64.wrap ((x4.length:Int) - 1),(⟨x4,p0.Chains⟩:fj))))
def iE (N:Nat) (p0:fj) (p1:au):Option (Int × fj):=
  ((mD N p1).bind fun x1=>cU N p0 x1 N 0)
def fq (N:Nat) (s2:(List bR)) (s3:Int) (K1:(List aM)→(List bR)→Int→Option (fj)) (x1:af):Nat→(List aM)→(List Int)→(List Int)→Int→Option (fj)
  | 0,_,_,_,_=>none
  | k+1,s4,s5,s6,s7=>
    (if decide (s7 < (x1.Pats.length:Int)) then ((idx x1.Pats s7).bind fun x2=>((iE N (⟨s4,s2⟩:fj) x2).bind fun x3=>(if x2.Not then ((app s5 ([x3.1]:List Int)).bind fun x4=>((fq N s2 s3 K1 x1 k) x3.2.Alphas x4 s6 (i64.wrap (s7+1)))) else ((app s6 ([x3.1]:List Int)).bind fun x5=>((fq N s2 s3 K1 x1 k) x3.2.Alphas s5 x5 (i64.wrap (s7+1))))))) else ((app s2 ([(⟨s6,s5⟩:bR)]:List bR)).bind fun x6=>(K1 s4 x6 (i64.wrap (s3+1)))))
def eM (N:Nat) (p0:bP):Nat→(List aM)→(List bR)→Int→Option (fj)
  | 0,_,_,_=>none
  | k+1,s1,s2,s3=>
    (if decide (s3 < (p0.Rules.length:Int)) then ((idx p0.Rules s3).bind fun x1=>fq N s2 s3 (eM N p0 k) x1 N s1 ([]:List Int) ([]:List Int) 0) else some (⟨s1,s2⟩:fj))
def pO (N:Nat) (p0:bP):Option (fj):=
  eM N p0 N ([]:List aM) ([]:List bR) 0
def gQ (N:Nat) (p0:fj) (x1:(List eu)):Nat→(List cq)→Int→Option (dI)
  | 0,_,_=>none
  | k+1,s1,s2=>
    (if decide (s2 < (p0.Chains.length:Int)) then ((idx p0.Chains s2).bind fun x2=>((mk (⟨([]:List aD)⟩:aO) (x2.Pos.length:Int)).bind fun x3=>((app s1 ([(⟨x3⟩:cq)]:List cq)).bind fun x4=>((gQ N p0 x1 k) x4 (i64.wrap (s2+1)))))) else some (⟨x1,s1⟩:dI))
def oc (N:Nat) (p0:fj):Option (dI):=
  ((mk (⟨([]:List Int)⟩:eu) (p0.Alphas.length:Int)).bind fun x1=>gQ N p0 x1 N ([]:List cq) 0)
def fw (N:Nat) (p0:bP) (p1:ah) (x1:fj):Nat→(List eu)→(List cq)→Int→Option (dI)
  | 0,_,_,_=>none
  | k+1,s1,s2,s3=>
    (if decide (s3 < (p1.Items.length:Int)) then ((idx p1.Items s3).bind fun x3=>((ssl p1.Items 0 (i64.wrap (s3+1))).bind fun x4=>((mi N p0 x1 (⟨s1,s2⟩:dI) (⟨x4,p1.Next⟩:ah) x3.Id).bind fun x5=>((fw N p0 p1 x1 k) x5.1 x5.2 (i64.wrap (s3+1)))))) else some (⟨s1,s2⟩:dI))
def ny (N:Nat) (p0:bP) (p1:ah):Option (dI):=
  ((pO N p0).bind fun x1=>((oc N x1).bind fun x2=>fw N p0 p1 x1 N x2.Alphas x2.Rules 0))
def lN (N:Nat) (p0:bP) (p1:ah):Option (dI):=
  ((lR N p0).bind fun x1=>((if !x1 then some true else ((jb N p1).bind fun x2=>some (!x2))).bind fun b1=>(if b1 then some (⟨[],[]⟩:dI) else ((ny N p0 p1).bind fun x3=>some x3))))
def ed (N:Nat) (p0:Int) (p1:Int) (p2:Int):Option (Bool):=
  ((if decide (p1≤p0) then some (decide (p0≤p2)) else some false).bind fun b1=>some b1)
def iz (N:Nat) (p0:Int):Option (Bool):=
  ((ed N (i64.wrap p0) 97 122).bind fun x1=>((if x1 then some true else ((ed N (i64.wrap p0) 48 57).bind fun x2=>some x2)).bind fun b1=>((if b1 then some true else some (decide (p0=95))).bind fun b2=>some b2)))
def eF (N:Nat) (p0:ByteArray):Nat→Int→Option (Bool)
  | 0,_=>none
  | k+1,s1=>
    (if decide (s1 < (p0.size:Int)) then ((idx p0.data.toList s1).bind fun y1=>((iz N (y1.toNat:Int)).bind fun x1=>((if !x1 then some true else ((if decide (s1=0) then ((idx p0.data.toList s1).bind fun y2=>((ed N (i64.wrap (y2.toNat:Int)) 97 122).bind fun x2=>some (!x2))) else some false).bind fun b2=>some b2)).bind fun b1=>(if b1 then some false else ((eF N p0 k) (i64.wrap (s1+1))))))) else ((ed N (p0.size:Int) 1 12).bind fun x3=>some x3))
def et (N:Nat) (p0:ByteArray):Option (Bool):=
  eF N p0 N 0
def eW (N:Nat) (p0:ByteArray):Nat→Int→Option (Bool)
  | 0,_=>none
  | k+1,s1=>
    (if decide (s1 < (p0.size:Int)) then ((idx p0.data.toList s1).bind fun y1=>((iz N (y1.toNat:Int)).bind fun x1=>(if !x1 then some false else ((eW N p0 k) (i64.wrap (s1+1)))))) else some (decide ((p0.size:Int)≤20)))
def mt (N:Nat) (p0:ByteArray):Option (Bool):=
  eW N p0 N 0
def nw (N:Nat) (p0:aN):Option (Bool):=
  (if decide (p0.K=1) then ((ed N p0.N (-1000000000) 1000000000).bind fun x1=>((if x1 then some (seq p0.S (⟨#[]⟩:ByteArray)) else some false).bind fun b1=>some b1)) else (if decide (p0.K=2) then ((mt N p0.S).bind fun x2=>((if x2 then some (decide (p0.N=0)) else some false).bind fun b2=>some b2)) else some false))
def mh (N:Nat) (p0:Int):Option (Bool):=
  ((ed N (i64.wrap p0) 65 90).bind fun x1=>some x1)
def dA (N:Nat) (p0:ByteArray):Nat→Int→Option (Bool)
  | 0,_=>none
  | k+1,s1=>
    (if decide (s1 < (p0.size:Int)) then ((idx p0.data.toList s1).bind fun y1=>((mh N (y1.toNat:Int)).bind fun x1=>((if !x1 then ((if decide (s1=0) then some true else ((idx p0.data.toList s1).bind fun y2=>((iz N (y2.toNat:Int)).bind fun x2=>some (!x2)))).bind fun b2=>some b2) else some false).bind fun b1=>(if b1 then some false else ((dA N p0 k) (i64.wrap (s1+1))))))) else ((ed N (p0.size:Int) 1 12).bind fun x3=>some x3))
def ml (N:Nat) (p0:ByteArray):Option (Bool):=
  dA N p0 N 0
def kt (N:Nat) (p0:bh):Option (Bool):=
  (if decide (p0.K=1) then ((ml N p0.S).bind fun x1=>((if x1 then some (bT p0.V (⟨0,0,(⟨#[]⟩:ByteArray)⟩:aN)) else some false).bind fun b1=>some b1)) else (if decide (p0.K=2) then ((nw N p0.V).bind fun x2=>((if x2 then some (seq p0.S (⟨#[]⟩:ByteArray)) else some false).bind fun b2=>some b2)) else (if decide (p0.K=3) then ((if seq p0.S (⟨#[]⟩:ByteArray) then some (bT p0.V (⟨0,0,(⟨#[]⟩:ByteArray)⟩:aN)) else some false).bind fun b3=>some b3) else some false)))
def gL (N:Nat) (p0:au):Nat→Int→Option (Bool)
  | 0,_=>none
  | k+1,s1=>
    (if decide (s1 < (p0.Args.length:Int)) then ((idx p0.Args s1).bind fun x1=>((kt N x1).bind fun x2=>(if !x2 then some false else ((gL N p0 k) (i64.wrap (s1+1)))))) else ((et N p0.Kind).bind fun x3=>((if x3 then some (decide ((p0.Args.length:Int)≤5)) else some false).bind fun b1=>some b1)))
def pm (N:Nat) (p0:au):Option (Bool):=
  gL N p0 N 0
def eH (N:Nat) (p0:(List au)):Nat→Int→Option (Bool)
  | 0,_=>none
  | k+1,s1=>
    (if decide (s1 < (p0.length:Int)) then ((if decide (2 < s1) then ((idx p0 s1).bind fun x1=>some (!x1.Not)) else some false).bind fun b1=>(if b1 then some false else ((idx p0 s1).bind fun x2=>((pm N x2).bind fun x3=>((if !x3 then some true else ((if decide (s1=0) then ((idx p0 s1).bind fun x4=>some x4.Not) else some false).bind fun b3=>some b3)).bind fun b2=>((if b2 then some true else ((if decide (0 < s1) then ((idx p0 (i64.wrap (s1 - 1))).bind fun x5=>some x5.Not) else some false).bind fun b5=>((if b5 then ((idx p0 s1).bind fun x6=>some (!x6.Not)) else some false).bind fun b6=>some b6))).bind fun b4=>(if b4 then some false else ((eH N p0 k) (i64.wrap (s1+1)))))))))) else ((ed N (p0.length:Int) 1 6).bind fun x7=>some x7))
def nC (N:Nat) (p0:(List au)):Option (Bool):=
  eH N p0 N 0
def nW (N:Nat) (p0:cm):Option (Bool):=
  ((ed N p0.Op 1 3).bind fun x1=>((if x1 then ((kt N p0.L).bind fun x2=>some x2) else some false).bind fun b1=>((if b1 then ((kt N p0.R).bind fun x3=>some x3) else some false).bind fun b2=>((if b2 then some (!decide (p0.L.K=3)) else some false).bind fun b3=>((if b3 then some (!decide (p0.R.K=3)) else some false).bind fun b4=>some b4)))))
def eX (N:Nat) (p0:(List cm)) (p1:(List ByteArray)):Nat→Int→Option (Bool)
  | 0,_=>none
  | k+1,s1=>
    (if decide (s1 < (p0.length:Int)) then ((idx p0 s1).bind fun x1=>((nW N x1).bind fun x2=>((if !x2 then some true else ((idx p0 s1).bind fun x3=>((gC N x3.L p1).bind fun x4=>some (!x4)))).bind fun b1=>((if b1 then some true else ((idx p0 s1).bind fun x5=>((gC N x5.R p1).bind fun x6=>some (!x6)))).bind fun b2=>(if b2 then some false else ((eX N p0 p1 k) (i64.wrap (s1+1)))))))) else some (decide ((p0.length:Int)≤6)))
def mo (N:Nat) (p0:(List cm)) (p1:(List ByteArray)):Option (Bool):=
  eX N p0 p1 N 0
def jd (N:Nat) (p0:bh):Option (Bool):=
  ((kt N p0).bind fun x1=>((if x1 then some (!decide (p0.K=3)) else some false).bind fun b1=>some b1))
def iH (N:Nat) (p0:cn) (s1:Bool):Option (Bool):=
  (if s1 then ((jd N p0.L).bind fun x2=>((if x2 then ((jd N p0.R).bind fun x3=>some x3) else some false).bind fun b2=>some b2)) else some false)
def o2 (N:Nat) (p0:cn):Option (Bool):=
  (if seq p0.Op (⟨#[]⟩:ByteArray) then ((jd N p0.L).bind fun x1=>((if x1 then some (o5 p0.R (⟨0,(⟨#[]⟩:ByteArray),(⟨0,0,(⟨#[]⟩:ByteArray)⟩:aN)⟩:bh)) else some false).bind fun b1=>some b1)) else (if seq p0.Op (⟨#[43]⟩:ByteArray) then iH N p0 (seq p0.Op (⟨#[43]⟩:ByteArray)) else iH N p0 (seq p0.Op (⟨#[45]⟩:ByteArray))))
def fK (N:Nat) (p0:(List cn)):Nat→Int→Option (Bool)
  | 0,_=>none
  | k+1,s1=>
    (if decide (s1 < (p0.length:Int)) then ((idx p0 s1).bind fun x1=>((o2 N x1).bind fun x2=>(if !x2 then some false else ((fK N p0 k) (i64.wrap (s1+1)))))) else some (decide ((p0.length:Int)≤5)))
def km (N:Nat) (p0:(List cn)):Option (Bool):=
  fK N p0 N 0
def jD (N:Nat) (p0:cI) (b2:Bool) (s1:Bool):Option (Bool):=
  (if s1 then ((if b2 then some (decide (p0.N=0)) else some false).bind fun b14=>some b14) else some false)
def pN (N:Nat) (p0:cI):Option (Bool):=
  ((if seq p0.Name (⟨#[]⟩:ByteArray) then some (decide ((p0.Args.length:Int)=0)) else some false).bind fun b1=>((if b1 then some (seq p0.Undo (⟨#[]⟩:ByteArray)) else some false).bind fun b2=>(if decide (p0.Kind=1) then ((et N p0.Name).bind fun x1=>((if x1 then ((km N p0.Args).bind fun x2=>some x2) else some false).bind fun b3=>((if b3 then some (decide (p0.N=0)) else some false).bind fun b4=>((if b4 then some (seq p0.Undo (⟨#[]⟩:ByteArray)) else some false).bind fun b5=>some b5)))) else (if decide (p0.Kind=3) then ((et N p0.Name).bind fun x3=>((if x3 then ((km N p0.Args).bind fun x4=>some x4) else some false).bind fun b6=>((if b6 then some (decide (p0.N=0)) else some false).bind fun b7=>((if b7 then ((if seq p0.Undo (⟨#[]⟩:ByteArray) then some true else ((et N p0.Undo).bind fun x5=>some x5)).bind fun b9=>some b9) else some false).bind fun b8=>some b8)))) else (if decide (p0.Kind=4) then ((et N p0.Name).bind fun x6=>((if x6 then ((km N p0.Args).bind fun x7=>some x7) else some false).bind fun b10=>((if b10 then ((ed N p0.N 0 100000).bind fun x8=>some x8) else some false).bind fun b11=>((if b11 then some (seq p0.Undo (⟨#[]⟩:ByteArray)) else some false).bind fun b12=>some b12)))) else (if decide (p0.Kind=2) then ((if b2 then ((ed N p0.N 0 7).bind fun x9=>some x9) else some false).bind fun b13=>some b13) else (if decide (p0.Kind=5) then jD N p0 b2 (decide (p0.Kind=5)) else jD N p0 b2 (decide (p0.Kind=6)))))))))
def fM (N:Nat) (p0:(List cI)) (p1:(List ByteArray)) (s1:Int) (K1:Int→Option (Bool)):Nat→Int→Option (Bool)
  | 0,_=>none
  | k+1,s2=>
    ((idx p0 s1).bind fun x5=>(if decide (s2 < (x5.Args.length:Int)) then ((idx p0 s1).bind fun x6=>((idx x6.Args s2).bind fun x7=>((gC N x7.L p1).bind fun x8=>((if !x8 then some true else ((idx p0 s1).bind fun x9=>((idx x9.Args s2).bind fun x10=>((gC N x10.R p1).bind fun x11=>some (!x11))))).bind fun b3=>(if b3 then some false else ((fM N p0 p1 s1 K1 k) (i64.wrap (s2+1)))))))) else (K1 (i64.wrap (s1+1)))))
def du (N:Nat) (p0:(List cI)) (p1:(List ByteArray)) (p2:Int):Nat→Int→Option (Bool)
  | 0,_=>none
  | k+1,s1=>
    (if decide (s1 < (p0.length:Int)) then ((idx p0 s1).bind fun x1=>((pN N x1).bind fun x2=>((if !x2 then some true else ((idx p0 s1).bind fun x3=>((if decide (x3.Kind=2) then ((idx p0 s1).bind fun x4=>some (decide (p2≤x4.N))) else some false).bind fun b2=>some b2))).bind fun b1=>(if b1 then some false else fM N p0 p1 s1 (du N p0 p1 p2 k) N 0)))) else ((ed N (p0.length:Int) 1 6).bind fun x12=>some x12))
def od (N:Nat) (p0:(List cI)) (p1:(List ByteArray)) (p2:Int):Option (Bool):=
  du N p0 p1 p2 N 0
def og (N:Nat) (p0:af):Option (Bool):=
  ((iq N p0).bind fun x1=>((et N p0.Name).bind fun x2=>((if x2 then ((ed N p0.Sal (-100) 100).bind fun x3=>some x3) else some false).bind fun b1=>((if b1 then ((nC N p0.Pats).bind fun x4=>some x4) else some false).bind fun b2=>((if b2 then ((mo N p0.Conds x1).bind fun x5=>some x5) else some false).bind fun b3=>((if b3 then ((jE N p0).bind fun x6=>((od N p0.Acts x1 x6).bind fun x7=>some x7)) else some false).bind fun b4=>some b4))))))
def fN (N:Nat) (p0:bP) (p1:ByteArray):Nat→Int→Option (Int)
  | 0,_=>none
  | k+1,s1=>
    (if decide (s1 < (p0.Rules.length:Int)) then ((idx p0.Rules s1).bind fun x1=>(if seq x1.Name p1 then some s1 else ((fN N p0 p1 k) (i64.wrap (s1+1))))) else some (-1))
def nF (N:Nat) (p0:bP) (p1:ByteArray):Option (Int):=
  fN N p0 p1 N 0
def fB (N:Nat) (p0:bP):Nat→Int→Option (Bool)
  | 0,_=>none
  | k+1,s1=>
    (if decide (s1 < (p0.Rules.length:Int)) then ((idx p0.Rules s1).bind fun x1=>((og N x1).bind fun x2=>((if !x2 then some true else ((idx p0.Rules s1).bind fun x3=>((nF N p0 x3.Name).bind fun x4=>some (!decide (x4=s1))))).bind fun b1=>(if b1 then some false else ((fB N p0 k) (i64.wrap (s1+1))))))) else ((et N p0.Name).bind fun x5=>((if x5 then ((ed N (p0.Rules.length:Int) 1 12).bind fun x6=>some x6) else some false).bind fun b2=>some b2)))
def pH (N:Nat) (p0:bP):Option (Bool):=
  fB N p0 N 0
def eP (N:Nat) (p0:(List aN)):Nat→Int→Option (Bool)
  | 0,_=>none
  | k+1,s1=>
    (if decide (s1 < (p0.length:Int)) then ((idx p0 s1).bind fun x1=>((nw N x1).bind fun x2=>(if !x2 then some false else ((eP N p0 k) (i64.wrap (s1+1)))))) else some (decide ((p0.length:Int)≤5)))
def qw (N:Nat) (p0:(List aN)):Option (Bool):=
  eP N p0 N 0
def nH (N:Nat) (p0:aL):Option (Bool):=
  ((et N p0.Kind).bind fun x1=>((if x1 then ((qw N p0.Fields).bind fun x2=>some x2) else some false).bind fun b1=>some b1))
def fZ (N:Nat) (p0:ah):Nat→Int→Option (Bool)
  | 0,_=>none
  | k+1,s1=>
    (if decide (s1 < (p0.Items.length:Int)) then ((idx p0.Items s1).bind fun x2=>((nH N x2.F).bind fun x3=>((if !x3 then some true else some (decide (x2.Id < 1))).bind fun b2=>((if b2 then some true else some (decide (p0.Next≤x2.Id))).bind fun b3=>((if b3 then some true else ((if decide (0 < s1) then ((idx p0.Items (i64.wrap (s1 - 1))).bind fun x4=>some (decide (x2.Id≤x4.Id))) else some false).bind fun b5=>some b5)).bind fun b4=>((if b4 then some true else ((p9 N p0 x2.F).bind fun x5=>some (!decide (x5=x2.Id)))).bind fun b6=>(if b6 then some false else ((fZ N p0 k) (i64.wrap (s1+1)))))))))) else some true)
def mj (N:Nat) (p0:ah):Option (Bool):=
  ((ed N p0.Next 1 1000000).bind fun x1=>((if !x1 then some true else some (decide (40 < (p0.Items.length:Int)))).bind fun b1=>(if b1 then some false else fZ N p0 N 0)))
def aA (N:Nat) (p0:(List eu)) (p1:(List eu)) (p2:eu→eu→Option (Bool)):Nat→Int→Option (Bool)
  | 0,_=>none
  | k+1,s1=>
    (if decide (s1 < (p0.length:Int)) then ((idx p0 s1).bind fun x1=>((idx p1 s1).bind fun x2=>((p2 x1 x2).bind fun x3=>(if !x3 then some false else ((aA N p0 p1 p2 k) (i64.wrap (s1+1))))))) else some true)
def bu (N:Nat) (p0:(List eu)) (p1:(List eu)) (p2:eu→eu→Option (Bool)):Option (Bool):=
  (if !decide ((p0.length:Int)=(p1.length:Int)) then some false else aA N p0 p1 p2 N 0)
def ga (N:Nat) (p0:eu) (p1:eu):Option (Bool):=
  ((cu N p0.L p1.L).bind fun x1=>some x1)
def aB (N:Nat) (p0:(List cq)) (p1:(List cq)) (p2:cq→cq→Option (Bool)):Nat→Int→Option (Bool)
  | 0,_=>none
  | k+1,s1=>
    (if decide (s1 < (p0.length:Int)) then ((idx p0 s1).bind fun x1=>((idx p1 s1).bind fun x2=>((p2 x1 x2).bind fun x3=>(if !x3 then some false else ((aB N p0 p1 p2 k) (i64.wrap (s1+1))))))) else some true)
def bv (N:Nat) (p0:(List cq)) (p1:(List cq)) (p2:cq→cq→Option (Bool)):Option (Bool):=
  (if !decide ((p0.length:Int)=(p1.length:Int)) then some false else aB N p0 p1 p2 N 0)
def aq (N:Nat) (p0:(List aO)) (p1:(List aO)) (p2:aO→aO→Option (Bool)):Nat→Int→Option (Bool)
  | 0,_=>none
  | k+1,s1=>
    (if decide (s1 < (p0.length:Int)) then ((idx p0 s1).bind fun x1=>((idx p1 s1).bind fun x2=>((p2 x1 x2).bind fun x3=>(if !x3 then some false else ((aq N p0 p1 p2 k) (i64.wrap (s1+1))))))) else some true)
def bt (N:Nat) (p0:(List aO)) (p1:(List aO)) (p2:aO→aO→Option (Bool)):Option (Bool):=
  (if !decide ((p0.length:Int)=(p1.length:Int)) then some false else aq N p0 p1 p2 N 0)
noncomputable def ei (N:Nat) (p0:(List aD)) (p1:aD→aD→Option (Int)):Option ((List aD)):=
  A1 p0 p1
def fg (N:Nat) (p0:(List Int)):Nat→Int→Option (Int)
  | 0,_=>none
  | k+1,s1=>
    (if decide (s1 < (p0.length:Int)) then ((idx p0 s1).bind fun x1=>(if !decide (x1=0) then some x1 else ((fg N p0 k) (i64.wrap (s1+1))))) else some 0)
def ft (N:Nat) (p0:(List Int)):Option (Int):=
  fg N p0 N 0
def iF (N:Nat) (p0:Int):Option (Bool):=
  some (!decide (p0=p0))
def cO (N:Nat) (p0:Int) (p1:Int):Option (Int):=
  ((iF N p0).bind fun x1=>((iF N p1).bind fun x2=>(if x1 then (if x2 then some 0 else some (-1)) else (if x2 then some 1 else (if decide (p0 < p1) then some (-1) else (if decide (p1 < p0) then some 1 else some 0))))))
def bB (N:Nat) (p0:(List Int)) (p1:(List Int)):Nat→Int→Option (Int)
  | 0,_=>none
  | k+1,s1=>
    (if decide (s1 < (p0.length:Int)) then ((idx p0 s1).bind fun x1=>(if decide ((p1.length:Int)≤s1) then some 1 else ((idx p1 s1).bind fun x2=>((cO N x1 x2).bind fun x3=>(if !decide (x3=0) then some x3 else ((bB N p0 p1 k) (i64.wrap (s1+1)))))))) else (if decide ((p0.length:Int) < (p1.length:Int)) then some (-1) else some 0))
def cM (N:Nat) (p0:(List Int)) (p1:(List Int)):Option (Int):=
  bB N p0 p1 N 0
def cG (N:Nat) (p0:aD) (p1:aD):Option (Int):=
  ((cM N p0.Ids p1.Ids).bind fun x1=>((cM N p0.Hits p1.Hits).bind fun x2=>((ft N ([x1,x2]:List Int)).bind fun x3=>some x3)))
def aC (N:Nat) (p0:(List aD)) (p1:(List aD)) (p2:aD→aD→Option (Bool)):Nat→Int→Option (Bool)
  | 0,_=>none
  | k+1,s1=>
    (if decide (s1 < (p0.length:Int)) then ((idx p0 s1).bind fun x1=>((idx p1 s1).bind fun x2=>((p2 x1 x2).bind fun x3=>(if !x3 then some false else ((aC N p0 p1 p2 k) (i64.wrap (s1+1))))))) else some true)
def bU (N:Nat) (p0:(List aD)) (p1:(List aD)) (p2:aD→aD→Option (Bool)):Option (Bool):=
  (if !decide ((p0.length:Int)=(p1.length:Int)) then some false else aC N p0 p1 p2 N 0)
def kz (N:Nat) (p0:aD) (p1:aD):Option (Bool):=
  ((cG N p0 p1).bind fun x1=>some (decide (x1=0)))
noncomputable def gO (N:Nat) (p0:aO) (p1:aO):Option (Bool):=
  (if !decide ((p0.Toks.length:Int)=(p1.Toks.length:Int)) then some false else ((dJ N p0.Toks).bind fun x1=>((dJ N p1.Toks).bind fun x2=>((ei N x1 (cG N)).bind fun x3=>((ei N x2 (cG N)).bind fun x4=>((bU N x3 x4 (kz N)).bind fun x5=>some x5))))))
noncomputable def f9 (N:Nat) (p0:cq) (p1:cq):Option (Bool):=
  ((bt N p0.Levels p1.Levels (gO N)).bind fun x1=>some x1)
noncomputable def mz (N:Nat) (p0:dI) (p1:dI):Option (Bool):=
  ((bu N p0.Alphas p1.Alphas (ga N)).bind fun x1=>((if x1 then ((bv N p0.Rules p1.Rules (f9 N)).bind fun x2=>some x2) else some false).bind fun b1=>some b1))
noncomputable def gH (N:Nat) (p0:bP) (p1:dI) (p2:ah):Option (Bool):=
  ((lR N p0).bind fun x1=>(if x1 then ((jb N p2).bind fun x2=>(if x2 then ((ny N p0 p2).bind fun x3=>((mz N p1 x3).bind fun x4=>some x4)) else some false)) else some false))
def aH (N:Nat) (p0:(List aa)) (p1:(List aa)) (p2:aa→aa→Option (Bool)):Nat→Int→Option (Bool)
  | 0,_=>none
  | k+1,s1=>
    (if decide (s1 < (p0.length:Int)) then ((idx p0 s1).bind fun x1=>((idx p1 s1).bind fun x2=>((p2 x1 x2).bind fun x3=>(if !x3 then some false else ((aH N p0 p1 p2 k) (i64.wrap (s1+1))))))) else some true)
def aQ (N:Nat) (p0:(List aa)) (p1:(List aa)) (p2:aa→aa→Option (Bool)):Option (Bool):=
  (if !decide ((p0.length:Int)=(p1.length:Int)) then some false else aH N p0 p1 p2 N 0)
def jS (N:Nat) (p0:aa) (p1:aa):Option (Bool):=
  ((if decide (p0.Rule=p1.Rule) then ((cu N p0.Ids p1.Ids).bind fun x1=>some x1) else some false).bind fun b1=>some b1)
def bH (N:Nat) (p0:(List ax)) (p1:(List ax)):Nat→Int→Option (Bool)
  | 0,_=>none
  | k+1,s1=>
    (if decide (s1 < (p0.length:Int)) then ((idx p0 s1).bind fun x1=>((idx p1 s1).bind fun x2=>(if !(rL x1 x2) then some false else ((bH N p0 p1 k) (i64.wrap (s1+1)))))) else some true)
def df (N:Nat) (p0:(List ax)) (p1:(List ax)):Option (Bool):=
  (if !decide ((p0.length:Int)=(p1.length:Int)) then some false else bH N p0 p1 N 0)
def eZ (N:Nat) (p0:aa) (p1:aa):Option (Bool):=
  ((jS N p0 p1).bind fun x1=>((if x1 then ((df N p0.Binds p1.Binds).bind fun x2=>some x2) else some false).bind fun b1=>some b1))
def mw (N:Nat) (p0:(List aa)) (p1:(List aa)):Option (Bool):=
  ((aQ N p0 p1 (eZ N)).bind fun x1=>some x1)
def kV (N:Nat) (p0:af) (p1:ah) (p2:(List Int)):Option ((List ax) × Bool):=
  ((mG N p0 false).bind fun x1=>(if !decide ((p2.length:Int)=(x1.length:Int)) then some ([],false) else ((gw N x1 p1 p2).bind fun x2=>some (x2.1,x2.2))))
def fL (N:Nat) (p0:aD):Nat→Int→Option (Bool)
  | 0,_=>none
  | k+1,s1=>
    (if decide (s1 < (p0.Hits.length:Int)) then ((idx p0.Hits s1).bind fun x1=>(if !decide (x1=0) then some false else ((fL N p0 k) (i64.wrap (s1+1))))) else some true)
def o8 (N:Nat) (p0:aD):Option (Bool):=
  fL N p0 N 0
def lx (N:Nat) (p0:bh) (p1:(List ax)):Option (aN × Bool):=
  (if decide (p0.K=2) then some (p0.V,true) else (if decide (p0.K=1) then ((lA N p1 p0.S).bind fun x1=>some (x1.1,x1.2)) else some ((⟨0,0,(⟨#[]⟩:ByteArray)⟩:aN),false)))
def gn (N:Nat) (p0:ByteArray):Option (Bool):=
  some (!seq p0 p0)
def fa (N:Nat) (p0:ByteArray) (p1:ByteArray):Option (Int):=
  ((gn N p0).bind fun x1=>((gn N p1).bind fun x2=>(if x1 then (if x2 then some 0 else some (-1)) else (if x2 then some 1 else (if slt p0 p1 then some (-1) else (if (!slt p0 p1 && !seq p0 p1) then some 1 else some 0))))))
def jW (N:Nat) (p0:aN) (p1:aN):Option (Int):=
  ((cO N p0.K p1.K).bind fun x1=>((cO N p0.N p1.N).bind fun x2=>((fa N p0.S p1.S).bind fun x3=>((ft N ([x1,x2,x3]:List Int)).bind fun x4=>some x4))))
def mH (N:Nat) (p0:aN) (p1:aN):Option (Bool):=
  ((jW N p0 p1).bind fun x1=>some (decide (x1 < 0)))
def pG (N:Nat) (p0:cm) (p1:(List ax)):Option (Bool):=
  ((lx N p0.L p1).bind fun x1=>((lx N p0.R p1).bind fun x2=>((if !x1.2 then some true else some (!x2.2)).bind fun b1=>(if b1 then some false else (if decide (p0.Op=1) then some (bT x1.1 x2.1) else (if decide (p0.Op=2) then some (!(bT x1.1 x2.1)) else (if decide (p0.Op=3) then ((mH N x1.1 x2.1).bind fun x3=>some x3) else some false)))))))
def eT (N:Nat) (p0:(List cm)) (p1:(List ax)):Nat→Int→Option (Bool)
  | 0,_=>none
  | k+1,s1=>
    (if decide (s1 < (p0.length:Int)) then ((idx p0 s1).bind fun x1=>((pG N x1 p1).bind fun x2=>(if !x2 then some false else ((eT N p0 p1 k) (i64.wrap (s1+1)))))) else some true)
def kD (N:Nat) (p0:(List cm)) (p1:(List ax)):Option (Bool):=
  eT N p0 p1 N 0
def bn (N:Nat) (p1:Int) (p3:aa→aa→Option (Int)) (s2:Int) (K1:(List aa)→Int→Option ((List aa))):Nat→(List aa)→Int→Option ((List aa))
  | 0,_,_=>none
  | k+1,s3,s4=>
    ((if decide (p1 < s4) then ((idx s3 s4).bind fun x1=>((idx s3 (i64.wrap (s4 - 1))).bind fun x2=>((p3 x1 x2).bind fun x3=>some (decide (x3 < 0))))) else some false).bind fun b1=>(if b1 then ((idx s3 (i64.wrap (s4 - 1))).bind fun x4=>((idx s3 s4).bind fun x5=>((idx s3 s4).bind fun x6=>((idx (s3.set s4.toNat x4) (i64.wrap (s4 - 1))).bind fun x7=>((bn N p1 p3 s2 K1 k) ((s3.set s4.toNat x4).set (i64.wrap (s4 - 1)).toNat x5) (i64.wrap (s4 - 1))))))) else (K1 s3 (i64.wrap (s2+1)))))
def aR (N:Nat) (p1:Int) (p2:Int) (p3:aa→aa→Option (Int)):Nat→(List aa)→Int→Option ((List aa))
  | 0,_,_=>none
  | k+1,s1,s2=>
    (if decide (s2 < p2) then bn N p1 p3 s2 (aR N p1 p2 p3 k) N s1 s2 else some s1)
def bC (N:Nat) (p0:(List aa)) (p1:Int) (p2:Int) (p3:aa→aa→Option (Int)):Option ((List aa)):=
  aR N p1 p2 p3 N p0 (i64.wrap (p1+1))
def bk (N:Nat) (p1:Int) (p2:Int) (p3:Int):Nat→(List aa)→Int→Option ((List aa))
  | 0,_,_=>none
  | k+1,s1,s2=>
    (if decide (s2 < p3) then ((idx s1 (i64.wrap (p2+s2))).bind fun x1=>((idx s1 (i64.wrap (p1+s2))).bind fun x2=>((idx s1 (i64.wrap (p1+s2))).bind fun x3=>((idx (s1.set (i64.wrap (p1+s2)).toNat x1) (i64.wrap (p2+s2))).bind fun x4=>((bk N p1 p2 p3 k) ((s1.set (i64.wrap (p1+s2)).toNat x1).set (i64.wrap (p2+s2)).toNat x2) (i64.wrap (s2+1))))))) else some s1)
def bF (N:Nat) (p0:(List aa)) (p1:Int) (p2:Int) (p3:Int) (p4:aa→aa→Option (Int)):Option ((List aa)):=
  bk N p1 p2 p3 N p0 0
def aT (N:Nat) (p2:Int) (p4:aa→aa→Option (Int)):Nat→(List aa)→Int→Int→Option ((List aa))
  | 0,_,_,_=>none
  | k+1,s1,s2,s3=>
    (if !decide (s2=s3) then (if decide (s3 < s2) then ((bF N s1 (i64.wrap (p2 - s2)) p2 s3 p4).bind fun x1=>((aT N p2 p4 k) x1 (i64.wrap (s2 - s3)) s3)) else ((bF N s1 (i64.wrap (p2 - s2)) (i64.wrap ((i64.wrap (p2+s3)) - s2)) s2 p4).bind fun x2=>((aT N p2 p4 k) x2 s2 (i64.wrap (s3 - s2))))) else ((bF N s1 (i64.wrap (p2 - s2)) p2 s2 p4).bind fun x3=>some x3))
def d4 (N:Nat) (p0:(List aa)) (p1:Int) (p2:Int) (p3:Int) (p4:aa→aa→Option (Int)):Option ((List aa)):=
  aT N p2 p4 N p0 (i64.wrap (p2 - p1)) (i64.wrap (p3 - p2))
def bN (N:Nat) (s1:Int):Nat→(List aa)→Int→Option ((List aa))
  | 0,_,_=>none
  | k+1,s3,s4=>
    (if decide (s4 < i64.wrap (s1 - 1)) then ((idx s3 (i64.wrap (s4+1))).bind fun x4=>((idx s3 s4).bind fun x5=>((idx s3 s4).bind fun x6=>((idx (s3.set s4.toNat x4) (i64.wrap (s4+1))).bind fun x7=>((bN N s1 k) ((s3.set s4.toNat x4).set (i64.wrap (s4+1)).toNat x5) (i64.wrap (s4+1))))))) else some s3)
def aW (N:Nat) (p0:(List aa)) (p1:Int) (p4:aa→aa→Option (Int)):Nat→Int→Int→Option ((List aa))
  | 0,_,_=>none
  | k+1,s1,s2=>
    (if decide (s1 < s2) then ((idx p0 (i64.wrap (em .u64 (IntKind.u64.wrap (i64.wrap (s1+s2))) 1))).bind fun x1=>((idx p0 p1).bind fun x2=>((p4 x1 x2).bind fun x3=>(if decide (x3 < 0) then ((aW N p0 p1 p4 k) (i64.wrap ((i64.wrap (em .u64 (IntKind.u64.wrap (i64.wrap (s1+s2))) 1))+1)) s2) else ((aW N p0 p1 p4 k) s1 (i64.wrap (em .u64 (IntKind.u64.wrap (i64.wrap (s1+s2))) 1))))))) else bN N s1 N p0 p1)
def bM (N:Nat) (s5:Int):Nat→(List aa)→Int→Option ((List aa))
  | 0,_,_=>none
  | k+1,s7,s8=>
    (if decide (s5 < s8) then ((idx s7 (i64.wrap (s8 - 1))).bind fun x11=>((idx s7 s8).bind fun x12=>((idx s7 s8).bind fun x13=>((idx (s7.set s8.toNat x11) (i64.wrap (s8 - 1))).bind fun x14=>((bM N s5 k) ((s7.set s8.toNat x11).set (i64.wrap (s8 - 1)).toNat x12) (i64.wrap (s8 - 1))))))) else some s7)
def aX (N:Nat) (p0:(List aa)) (p2:Int) (p4:aa→aa→Option (Int)):Nat→Int→Int→Option ((List aa))
  | 0,_,_=>none
  | k+1,s5,s6=>
    (if decide (s5 < s6) then ((idx p0 p2).bind fun x8=>((idx p0 (i64.wrap (em .u64 (IntKind.u64.wrap (i64.wrap (s5+s6))) 1))).bind fun x9=>((p4 x8 x9).bind fun x10=>(if !(decide (x10 < 0)) then ((aX N p0 p2 p4 k) (i64.wrap ((i64.wrap (em .u64 (IntKind.u64.wrap (i64.wrap (s5+s6))) 1))+1)) s6) else ((aX N p0 p2 p4 k) s5 (i64.wrap (em .u64 (IntKind.u64.wrap (i64.wrap (s5+s6))) 1))))))) else bM N s5 N p0 p2)
def bL (N:Nat) (p1:Int) (p2:Int) (p3:Int) (p4:aa→aa→Option (Int)) (RF0:(List aa)→Int→Int→Int→(aa→aa→Option (Int))→Option ((List aa))) (s11:Int) (s14:(List aa)):Option ((List aa)):=
  ((if decide ((i64.wrap (em .u64 (IntKind.u64.wrap (i64.wrap (p1+p3))) 1)) < i64.wrap ((i64.wrap ((i64.wrap (em .u64 (IntKind.u64.wrap (i64.wrap (p1+p3))) 1))+p2)) - s11)) then some (decide (i64.wrap ((i64.wrap ((i64.wrap (em .u64 (IntKind.u64.wrap (i64.wrap (p1+p3))) 1))+p2)) - s11) < p3)) else some false).bind fun b3=>(if b3 then ((RF0 s14 (i64.wrap (em .u64 (IntKind.u64.wrap (i64.wrap (p1+p3))) 1)) (i64.wrap ((i64.wrap ((i64.wrap (em .u64 (IntKind.u64.wrap (i64.wrap (p1+p3))) 1))+p2)) - s11)) p3 p4).bind fun x18=>some x18) else some s14))
def bK (N:Nat) (p1:Int) (p2:Int) (p3:Int) (p4:aa→aa→Option (Int)) (RF0:(List aa)→Int→Int→Int→(aa→aa→Option (Int))→Option ((List aa))) (s11:Int) (s13:(List aa)):Option ((List aa)):=
  ((if decide (p1 < s11) then some (decide (s11 < (i64.wrap (em .u64 (IntKind.u64.wrap (i64.wrap (p1+p3))) 1)))) else some false).bind fun b2=>(if b2 then ((RF0 s13 p1 s11 (i64.wrap (em .u64 (IntKind.u64.wrap (i64.wrap (p1+p3))) 1)) p4).bind fun x19=>bL N p1 p2 p3 p4 RF0 s11 x19) else bL N p1 p2 p3 p4 RF0 s11 s13))
def aY (N:Nat) (p0:(List aa)) (p1:Int) (p2:Int) (p3:Int) (p4:aa→aa→Option (Int)) (RF0:(List aa)→Int→Int→Int→(aa→aa→Option (Int))→Option ((List aa))):Nat→Int→Int→Option ((List aa))
  | 0,_,_=>none
  | k+1,s11,s12=>
    (if decide (s11 < s12) then ((idx p0 (i64.wrap ((i64.wrap ((i64.wrap ((i64.wrap (em .u64 (IntKind.u64.wrap (i64.wrap (p1+p3))) 1))+p2)) - 1)) - (i64.wrap (em .u64 (IntKind.u64.wrap (i64.wrap (s11+s12))) 1))))).bind fun x15=>((idx p0 (i64.wrap (em .u64 (IntKind.u64.wrap (i64.wrap (s11+s12))) 1))).bind fun x16=>((p4 x15 x16).bind fun x17=>(if !(decide (x17 < 0)) then ((aY N p0 p1 p2 p3 p4 RF0 k) (i64.wrap ((i64.wrap (em .u64 (IntKind.u64.wrap (i64.wrap (s11+s12))) 1))+1)) s12) else ((aY N p0 p1 p2 p3 p4 RF0 k) s11 (i64.wrap (em .u64 (IntKind.u64.wrap (i64.wrap (s11+s12))) 1))))))) else ((if decide (s11 < p2) then some (decide (p2 < i64.wrap ((i64.wrap ((i64.wrap (em .u64 (IntKind.u64.wrap (i64.wrap (p1+p3))) 1))+p2)) - s11))) else some false).bind fun b1=>(if b1 then ((d4 N p0 s11 p2 (i64.wrap ((i64.wrap ((i64.wrap (em .u64 (IntKind.u64.wrap (i64.wrap (p1+p3))) 1))+p2)) - s11)) p4).bind fun x20=>bK N p1 p2 p3 p4 RF0 s11 x20) else bK N p1 p2 p3 p4 RF0 s11 p0)))
def br (N:Nat) (p0:(List aa)) (p1:Int) (p2:Int) (p3:Int) (p4:aa→aa→Option (Int)) (RF0:(List aa)→Int→Int→Int→(aa→aa→Option (Int))→Option ((List aa))) (s9:Int) (s10:Int):Option ((List aa)):=
  aY N p0 p1 p2 p3 p4 RF0 N s9 s10
def ao:Nat→(List aa)→Int→Int→Int→(aa→aa→Option (Int))→Option ((List aa))
  | 0,_,_,_,_,_=>none
  | N+1,p0,p1,p2,p3,p4=>
    (if decide (i64.wrap (p2 - p1)=1) then aW N p0 p1 p4 N p2 p3 else (if decide (i64.wrap (p3 - p2)=1) then aX N p0 p2 p4 N p1 p2 else (if decide ((i64.wrap (em .u64 (IntKind.u64.wrap (i64.wrap (p1+p3))) 1)) < p2) then br N p0 p1 p2 p3 p4 (ao N) (i64.wrap ((i64.wrap ((i64.wrap (em .u64 (IntKind.u64.wrap (i64.wrap (p1+p3))) 1))+p2)) - p3)) (i64.wrap (em .u64 (IntKind.u64.wrap (i64.wrap (p1+p3))) 1)) else br N p0 p1 p2 p3 p4 (ao N) p1 p2)))
def bW (N:Nat) (p1:Int) (p2:aa→aa→Option (Int)) (s5:Int) (K2:(List aa)→Int→Option ((List aa))):Nat→(List aa)→Int→Int→Option ((List aa))
  | 0,_,_,_=>none
  | k+1,s6,s7,s8=>
    (if decide (s8≤p1) then ((ao N s6 s7 (i64.wrap (s7+s5)) s8 p2).bind fun x3=>((bW N p1 p2 s5 K2 k) x3 s8 (i64.wrap (s8+(i64.wrap (2*s5)))))) else (if decide (i64.wrap (s7+s5) < p1) then ((ao N s6 s7 (i64.wrap (s7+s5)) p1 p2).bind fun x4=>(K2 x4 (i64.wrap (s5*2)))) else (K2 s6 (i64.wrap (s5*2)))))
def aS (N:Nat) (p1:Int) (p2:aa→aa→Option (Int)):Nat→(List aa)→Int→Option ((List aa))
  | 0,_,_=>none
  | k+1,s4,s5=>
    (if decide (s5 < p1) then bW N p1 p2 s5 (aS N p1 p2 k) N s4 0 (i64.wrap (2*s5)) else some s4)
def bE (N:Nat) (p1:Int) (p2:aa→aa→Option (Int)):Nat→(List aa)→Int→Int→Option ((List aa))
  | 0,_,_,_=>none
  | k+1,s1,s2,s3=>
    (if decide (s3≤p1) then ((bC N s1 s2 s3 p2).bind fun x1=>((bE N p1 p2 k) x1 s3 (i64.wrap (s3+20)))) else ((bC N s1 s2 p1 p2).bind fun x2=>aS N p1 p2 N x2 20))
def dZ (N:Nat) (p0:(List aa)) (p1:Int) (p2:aa→aa→Option (Int)):Option ((List aa)):=
  bE N p1 p2 N p0 0 20
def bJ (N:Nat) (p0:(List aa)) (p1:aa→aa→Option (Int)):Option ((List aa)):=
  ((dZ N p0 (p0.length:Int) p1).bind fun x1=>some x1)
def dH (N:Nat) (p0:aa) (p1:aa):Option (Int):=
  ((cO N p0.Rule p1.Rule).bind fun x1=>((cO N (p0.Ids.length:Int) (p1.Ids.length:Int)).bind fun x2=>((ft N ([x1,x2]:List Int)).bind fun x3=>(if decide (x3=0) then ((cM N p0.Ids p1.Ids).bind fun x4=>some x4) else some x3))))
def eA (N:Nat) (p2:ah) (s1:(List aa)) (s2:Int) (K1:(List aa)→Int→Option ((List aa))) (x1:af) (x4:aO):Nat→(List aa)→Int→Option ((List aa))
  | 0,_,_=>none
  | k+1,s3,s4=>
    (if decide (s4 < (x4.Toks.length:Int)) then ((idx x4.Toks s4).bind fun x5=>((kV N x1 p2 x5.Ids).bind fun x6=>((if x6.2 then ((o8 N x5).bind fun x7=>some x7) else some false).bind fun b2=>((if b2 then ((kD N x1.Conds x6.1).bind fun x8=>some x8) else some false).bind fun b3=>(if b3 then ((bZ N x5.Ids).bind fun x9=>((app s3 ([(⟨s2,x9,x6.1⟩:aa)]:List aa)).bind fun x10=>((eA N p2 s1 s2 K1 x1 x4 k) x10 (i64.wrap (s4+1))))) else ((eA N p2 s1 s2 K1 x1 x4 k) s3 (i64.wrap (s4+1)))))))) else ((bJ N s3 (dH N)).bind fun x11=>((app s1 x11).bind fun x12=>(K1 x12 (i64.wrap (s2+1))))))
def gz (N:Nat) (p0:bP) (p1:dI) (p2:ah):Nat→(List aa)→Int→Option ((List aa))
  | 0,_,_=>none
  | k+1,s1,s2=>
    (if decide (s2 < (p0.Rules.length:Int)) then ((idx p0.Rules s2).bind fun x1=>((if decide ((p1.Rules.length:Int)≤s2) then some true else ((idx p1.Rules s2).bind fun x2=>some (decide ((x2.Levels.length:Int)=0)))).bind fun b1=>(if b1 then ((gz N p0 p1 p2 k) s1 (i64.wrap (s2+1))) else ((idx p1.Rules s2).bind fun x3=>((idx x3.Levels (i64.wrap ((x3.Levels.length:Int) - 1))).bind fun x4=>eA N p2 s1 s2 (gz N p0 p1 p2 k) x1 x4 N ([]:List aa) 0))))) else some s1)
def nv (N:Nat) (p0:bP) (p1:dI) (p2:ah):Option ((List aa)):=
  gz N p0 p1 p2 N ([]:List aa) 0
def eS (N:Nat) (p0:af) (p1:ah) (p2:(List ax)):Nat→Int→Option (Bool)
  | 0,_=>none
  | k+1,s1=>
    (if decide (s1 < (p0.Pats.length:Int)) then ((idx p0.Pats s1).bind fun x1=>((if x1.Not then ((lI N x1 p1 p2).bind fun x2=>some (decide (0 < x2))) else some false).bind fun b1=>(if b1 then some true else ((eS N p0 p1 p2 k) (i64.wrap (s1+1)))))) else some false)
def mB (N:Nat) (p0:af) (p1:ah) (p2:(List ax)):Option (Bool):=
  eS N p0 p1 p2 N 0
def l6 (N:Nat) (s2:Int) (K1:(List aa)→Int→Option ((List aa))) (s3:(List aa)):Option ((List aa)):=
  (K1 s3 (i64.wrap (s2+1)))
def dU (N:Nat) (p1:af) (p2:ah) (p3:(List Int)) (p4:(List ax)) (RF0:(List aa)→af→ah→(List Int)→(List ax)→Option ((List aa))) (x1:(List au)):Nat→(List aa)→Int→Option ((List aa))
  | 0,_,_=>none
  | k+1,s1,s2=>
    (if decide (s2 < (p2.Items.length:Int)) then ((idx p2.Items s2).bind fun x7=>((idx x1 (p3.length:Int)).bind fun x8=>((gK N x8 x7.F p4).bind fun x9=>(if x9.2 then ((bZ N p3).bind fun x13=>((app x13 ([x7.Id]:List Int)).bind fun x14=>((RF0 s1 p1 p2 x14 x9.1).bind fun x15=>l6 N s2 (dU N p1 p2 p3 p4 RF0 x1 k) x15))) else ((dU N p1 p2 p3 p4 RF0 x1 k) s1 (i64.wrap (s2+1))))))) else some s1)
def eQ:Nat→(List aa)→af→ah→(List Int)→(List ax)→Option ((List aa))
  | 0,_,_,_,_,_=>none
  | N+1,p0,p1,p2,p3,p4=>
    ((mG N p1 false).bind fun x1=>(if decide ((p3.length:Int)=(x1.length:Int)) then ((mB N p1 p2 p4).bind fun x2=>((if !x2 then ((kD N p1.Conds p4).bind fun x3=>some x3) else some false).bind fun b1=>(if b1 then ((bZ N p3).bind fun x4=>((bc N p4).bind fun x5=>((app p0 ([(⟨0,x4,x5⟩:aa)]:List aa)).bind fun x6=>some x6))) else some p0))) else dU N p1 p2 p3 p4 (eQ N) x1 N p0 0))
def jJ (N:Nat) (p0:af) (p1:ah):Option ((List aa)):=
  ((eQ N ([]:List aa) p0 p1 [] []).bind fun x1=>some x1)
def iD (N:Nat) (s2:Int) (K1:(List aa)→Int→Option ((List aa))) (x2:(List aa)):Nat→(List aa)→Int→Option ((List aa))
  | 0,_,_=>none
  | k+1,s3,s4=>
    (if decide (s4 < (x2.length:Int)) then ((idx x2 s4).bind fun x3=>((app s3 ([(⟨s2,x3.Ids,x3.Binds⟩:aa)]:List aa)).bind fun x4=>((iD N s2 K1 x2 k) x4 (i64.wrap (s4+1))))) else (K1 s3 (i64.wrap (s2+1))))
def fv (N:Nat) (p0:bP) (p1:ah):Nat→(List aa)→Int→Option ((List aa))
  | 0,_,_=>none
  | k+1,s1,s2=>
    (if decide (s2 < (p0.Rules.length:Int)) then ((idx p0.Rules s2).bind fun x1=>((jJ N x1 p1).bind fun x2=>iD N s2 (fv N p0 p1 k) x2 N s1 0)) else some s1)
def pq (N:Nat) (p0:bP) (p1:ah):Option ((List aa)):=
  fv N p0 p1 N ([]:List aa) 0
def jj (N:Nat) (p0:bP) (p1:ah):Option ((List aa)):=
  ((lR N p0).bind fun x1=>((if !x1 then some true else ((jb N p1).bind fun x2=>some (!x2))).bind fun b1=>(if b1 then some [] else ((pq N p0 p1).bind fun x3=>some x3))))
noncomputable def jP (N:Nat) (p0:(List Int)):Option (Bool):=
  ((vw N p0).bind fun x1=>(if x1 then some true else ((jR N p0).bind fun x2=>((lN N x2.1 x2.2).bind fun x4=>((pH N x2.1).bind fun x5=>((if !x5 then some true else ((mj N x2.2).bind fun x6=>some (!x6))).bind fun b1=>(if b1 then ((if decide ((x4.Rules.length:Int)=0) then ((gH N x2.1 x4 x2.2).bind fun x7=>some (!x7)) else some false).bind fun b2=>some b2) else ((gH N x2.1 x4 x2.2).bind fun x8=>(if x8 then ((nv N x2.1 x4 x2.2).bind fun x9=>((jj N x2.1 x2.2).bind fun x10=>((mw N x9 x10).bind fun x12=>(if x12 then some (decide ((x4.Rules.length:Int)=(x2.1.Rules.length:Int))) else some false)))) else some false)))))))))
end Go.Proofs.YtedmfnmbjglmbaaGreat
