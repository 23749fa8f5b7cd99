/- Printed by a program of ours: Lean functions of plain data for the Go functions. -/
import Derived.Test.YtiljnppocjgkkaaGreatES
namespace Go.Proofs.YtiljnppocjgkkaaGreat
open Eng IntKind
set_option linter.unusedVariables false
set_option linter.unusedSimpArgs false

structure aP where
  K:Int
  N:Int
  S:ByteArray
  deriving DecidableEq
def aD (Φ:Hp) (F:List Nat) (cs:List Value) (x:aP):Prop:=cs=[.int .i64 x.K,.int .i64 x.N,.string x.S]∧F=[]
theorem aD.lasts:bE aD:=fun _ _ _ _ _ _ _ _ h=>h
instance:LS aD:=⟨aD.lasts⟩
theorem aD.knows:cR aD:=fun _ _ _ _ h=>h.2 ▸ Kw.nil
theorem aD.flat:vY aD:=fun _ _ _ _ h=>h.2
theorem aD.one:fe aD:=fun _ _ _ _ h=>by obtain ⟨rfl,-⟩:=h; exact One.all ⟨rfl,rfl,rfl,trivial⟩
structure bk where
  K:Int
  S:ByteArray
  V:aP
  deriving DecidableEq
def cu (Φ:Hp) (F:List Nat) (cs:List Value) (x:bk):Prop:=cs=[.int .i64 x.K,.string x.S,.int .i64 x.V.K,.int .i64 x.V.N,.string x.V.S]∧F=[]
theorem cu.lasts:bE cu:=fun _ _ _ _ _ _ _ _ h=>h
instance:LS cu:=⟨cu.lasts⟩
theorem cu.knows:cR cu:=fun _ _ _ _ h=>h.2 ▸ Kw.nil
theorem cu.flat:vY cu:=fun _ _ _ _ h=>h.2
theorem cu.one:fe cu:=fun _ _ _ _ h=>by obtain ⟨rfl,-⟩:=h; exact One.all ⟨rfl,rfl,rfl,rfl,rfl,trivial⟩
structure ao where
  Kind:ByteArray
  Args:(List bk)
  Not:Bool
  deriving DecidableEq
def bt (Φ:Hp) (F:List Nat) (cs:List Value) (x:ao):Prop:=
  ∃ (s0:Value) (F0:List Nat),cs=[.string x.Kind,s0,.bool x.Not]∧F=F0∧RSl cu 5 Φ F0 s0 x.Args
theorem bt.lasts:bE bt:=fun X Φ Φ' F cs x hf hd ⟨s0,F0,hc,hF,h0⟩=>by
  rw [hF] at hd
  exact ⟨s0,F0,hc,hF,h0.frame cu.lasts hf (fun k hk=>hd k (by simp [hk]))⟩
instance:LS bt:=⟨bt.lasts⟩
theorem bt.knows:cR bt:=fun Φ F cs x ⟨s0,F0,hc,hF,h0⟩=>hF ▸ h0.kn
theorem bt.one:fe bt:=fun _ _ _ _ h=>by obtain ⟨s0,F0,rfl,-,h0⟩:=h; exact One.all ⟨rfl,h0.one,rfl,trivial⟩
def fZ (Φ:Hp) (F:List Nat) (cs:List Value) (x:ao):Prop:=
  ∃ (s0:Value),cs=[.string x.Kind,s0,.bool x.Not]∧F=(ob s0++[])∧OSl cu 169 5 Φ [] s0 x.Args
theorem fZ.lasts:bE fZ:=fun X Φ Φ' F cs x hf hd ⟨s0,hc,hF,h0⟩=>by
  rw [hF] at hd
  exact ⟨s0,hc,hF,h0.frame cu.lasts hf (fun k hk=>hd k (by simp [hk])) (Dj.nil _)⟩
instance:LS fZ:=⟨fZ.lasts⟩
theorem fZ.knows:cR fZ:=fun Φ F cs x ⟨s0,hc,hF,h0⟩=>hF ▸ (h0.knO.app h0.kn)
theorem fZ.one:fe fZ:=fun _ _ _ _ h=>by obtain ⟨s0,rfl,-,h0⟩:=h; exact One.all ⟨rfl,h0.one,rfl,trivial⟩
theorem fZ.gives:dH fZ bt:=fun Φ F cs x ⟨s0,hc,hF,h0⟩=>⟨s0,ob s0++[],hc,hF,h0.rslG (dH.refl _)⟩
structure bz where
  Op:Int
  L:bk
  R:bk
  deriving DecidableEq
def bl (Φ:Hp) (F:List Nat) (cs:List Value) (x:bz):Prop:=cs=[.int .i64 x.Op,.int .i64 x.L.K,.string x.L.S,.int .i64 x.L.V.K,.int .i64 x.L.V.N,.string x.L.V.S,.int .i64 x.R.K,.string x.R.S,.int .i64 x.R.V.K,.int .i64 x.R.V.N,.string x.R.V.S]∧F=[]
theorem bl.lasts:bE bl:=fun _ _ _ _ _ _ _ _ h=>h
instance:LS bl:=⟨bl.lasts⟩
theorem bl.knows:cR bl:=fun _ _ _ _ h=>h.2 ▸ Kw.nil
theorem bl.flat:vY bl:=fun _ _ _ _ h=>h.2
theorem bl.one:fe bl:=fun _ _ _ _ h=>by obtain ⟨rfl,-⟩:=h; exact One.all ⟨rfl,rfl,rfl,rfl,rfl,rfl,rfl,rfl,rfl,rfl,rfl,trivial⟩
structure br where
  Op:ByteArray
  L:bk
  R:bk
  deriving DecidableEq
def cn (Φ:Hp) (F:List Nat) (cs:List Value) (x:br):Prop:=cs=[.string x.Op,.int .i64 x.L.K,.string x.L.S,.int .i64 x.L.V.K,.int .i64 x.L.V.N,.string x.L.V.S,.int .i64 x.R.K,.string x.R.S,.int .i64 x.R.V.K,.int .i64 x.R.V.N,.string x.R.V.S]∧F=[]
theorem cn.lasts:bE cn:=fun _ _ _ _ _ _ _ _ h=>h
instance:LS cn:=⟨cn.lasts⟩
theorem cn.knows:cR cn:=fun _ _ _ _ h=>h.2 ▸ Kw.nil
theorem cn.flat:vY cn:=fun _ _ _ _ h=>h.2
theorem cn.one:fe cn:=fun _ _ _ _ h=>by obtain ⟨rfl,-⟩:=h; exact One.all ⟨rfl,rfl,rfl,rfl,rfl,rfl,rfl,rfl,rfl,rfl,rfl,trivial⟩
structure bX where
  Kind:Int
  Name:ByteArray
  Args:(List br)
  N:Int
  Undo:ByteArray
  deriving DecidableEq
def cX (Φ:Hp) (F:List Nat) (cs:List Value) (x:bX):Prop:=
  ∃ (s0:Value) (F0:List Nat),cs=[.int .i64 x.Kind,.string x.Name,s0,.int .i64 x.N,.string x.Undo]∧F=F0∧RSl cn 11 Φ F0 s0 x.Args
theorem cX.lasts:bE cX:=fun X Φ Φ' F cs x hf hd ⟨s0,F0,hc,hF,h0⟩=>by
  rw [hF] at hd
  exact ⟨s0,F0,hc,hF,h0.frame cn.lasts hf (fun k hk=>hd k (by simp [hk]))⟩
instance:LS cX:=⟨cX.lasts⟩
theorem cX.knows:cR cX:=fun Φ F cs x ⟨s0,F0,hc,hF,h0⟩=>hF ▸ h0.kn
theorem cX.one:fe cX:=fun _ _ _ _ h=>by obtain ⟨s0,F0,rfl,-,h0⟩:=h; exact One.all ⟨rfl,rfl,h0.one,rfl,rfl,trivial⟩
def jo (Φ:Hp) (F:List Nat) (cs:List Value) (x:bX):Prop:=
  ∃ (s0:Value),cs=[.int .i64 x.Kind,.string x.Name,s0,.int .i64 x.N,.string x.Undo]∧F=(ob s0++[])∧OSl cn 231 11 Φ [] s0 x.Args
theorem jo.lasts:bE jo:=fun X Φ Φ' F cs x hf hd ⟨s0,hc,hF,h0⟩=>by
  rw [hF] at hd
  exact ⟨s0,hc,hF,h0.frame cn.lasts hf (fun k hk=>hd k (by simp [hk])) (Dj.nil _)⟩
instance:LS jo:=⟨jo.lasts⟩
theorem jo.knows:cR jo:=fun Φ F cs x ⟨s0,hc,hF,h0⟩=>hF ▸ (h0.knO.app h0.kn)
theorem jo.one:fe jo:=fun _ _ _ _ h=>by obtain ⟨s0,rfl,-,h0⟩:=h; exact One.all ⟨rfl,rfl,h0.one,rfl,rfl,trivial⟩
theorem jo.gives:dH jo cX:=fun Φ F cs x ⟨s0,hc,hF,h0⟩=>⟨s0,ob s0++[],hc,hF,h0.rslG (dH.refl _)⟩
structure ac where
  Name:ByteArray
  Sal:Int
  Pats:(List ao)
  Conds:(List bz)
  Acts:(List bX)
  deriving DecidableEq
def bV (Φ:Hp) (F:List Nat) (cs:List Value) (x:ac):Prop:=
  ∃ (s0:Value) (F0:List Nat) (s1:Value) (F1:List Nat) (s2:Value) (F2:List Nat),cs=[.string x.Name,.int .i64 x.Sal,s0,s1,s2]∧F=F0++(F1++(F2))∧RSl bt 3 Φ F0 s0 x.Pats∧RSl bl 11 Φ F1 s1 x.Conds∧RSl cX 5 Φ F2 s2 x.Acts
theorem bV.lasts:bE bV:=fun X Φ Φ' F cs x hf hd ⟨s0,F0,s1,F1,s2,F2,hc,hF,h0,h1,h2⟩=>by
  rw [hF] at hd
  exact ⟨s0,F0,s1,F1,s2,F2,hc,hF,h0.frame bt.lasts hf (fun k hk=>hd k (by simp [hk])),h1.frame bl.lasts hf (fun k hk=>hd k (by simp [hk])),h2.frame cX.lasts hf (fun k hk=>hd k (by simp [hk]))⟩
instance:LS bV:=⟨bV.lasts⟩
theorem bV.knows:cR bV:=fun Φ F cs x ⟨s0,F0,s1,F1,s2,F2,hc,hF,h0,h1,h2⟩=>hF ▸ (h0.kn.app (h1.kn.app h2.kn))
theorem bV.one:fe bV:=fun _ _ _ _ h=>by obtain ⟨s0,F0,s1,F1,s2,F2,rfl,-,h0,h1,h2⟩:=h; exact One.all ⟨rfl,rfl,h0.one,h1.one,h2.one,trivial⟩
def eF (Φ:Hp) (F:List Nat) (cs:List Value) (x:ac):Prop:=
  ∃ (s0:Value) (D0:List Nat) (s1:Value) (s2:Value) (D2:List Nat),cs=[.string x.Name,.int .i64 x.Sal,s0,s1,s2]∧F=(ob s0++D0)++((ob s1++[])++((ob s2++D2)))∧OSl fZ 124 3 Φ D0 s0 x.Pats∧OSl bl 183 11 Φ [] s1 x.Conds∧OSl jo 187 5 Φ D2 s2 x.Acts
theorem eF.lasts:bE eF:=fun X Φ Φ' F cs x hf hd ⟨s0,D0,s1,s2,D2,hc,hF,h0,h1,h2⟩=>by
  rw [hF] at hd
  exact ⟨s0,D0,s1,s2,D2,hc,hF,h0.frame fZ.lasts hf (fun k hk=>hd k (by simp [hk])) (fun k hk=>hd k (by simp [hk])),h1.frame bl.lasts hf (fun k hk=>hd k (by simp [hk])) (Dj.nil _),h2.frame jo.lasts hf (fun k hk=>hd k (by simp [hk])) (fun k hk=>hd k (by simp [hk]))⟩
instance:LS eF:=⟨eF.lasts⟩
theorem eF.knows:cR eF:=fun Φ F cs x ⟨s0,D0,s1,s2,D2,hc,hF,h0,h1,h2⟩=>hF ▸ ((h0.knO.app h0.kn).app ((h1.knO.app h1.kn).app (h2.knO.app h2.kn)))
theorem eF.one:fe eF:=fun _ _ _ _ h=>by obtain ⟨s0,D0,s1,s2,D2,rfl,-,h0,h1,h2⟩:=h; exact One.all ⟨rfl,rfl,h0.one,h1.one,h2.one,trivial⟩
theorem eF.gives:dH eF bV:=fun Φ F cs x ⟨s0,D0,s1,s2,D2,hc,hF,h0,h1,h2⟩=>⟨s0,ob s0++D0,s1,ob s1++[],s2,ob s2++D2,hc,hF,h0.rslG fZ.gives,h1.rslG (dH.refl _),h2.rslG jo.gives⟩
structure bh where
  Name:ByteArray
  Rules:(List ac)
  deriving DecidableEq
def ri (Φ:Hp) (F:List Nat) (cs:List Value) (x:bh):Prop:=
  ∃ (s0:Value) (F0:List Nat),cs=[.string x.Name,s0]∧F=F0∧RSl bV 5 Φ F0 s0 x.Rules
theorem ri.lasts:bE ri:=fun X Φ Φ' F cs x hf hd ⟨s0,F0,hc,hF,h0⟩=>by
  rw [hF] at hd
  exact ⟨s0,F0,hc,hF,h0.frame bV.lasts hf (fun k hk=>hd k (by simp [hk]))⟩
instance:LS ri:=⟨ri.lasts⟩
theorem ri.knows:cR ri:=fun Φ F cs x ⟨s0,F0,hc,hF,h0⟩=>hF ▸ h0.kn
theorem ri.one:fe ri:=fun _ _ _ _ h=>by obtain ⟨s0,F0,rfl,-,h0⟩:=h; exact One.all ⟨rfl,h0.one,trivial⟩
def sI (Φ:Hp) (F:List Nat) (cs:List Value) (x:bh):Prop:=
  ∃ (s0:Value) (D0:List Nat),cs=[.string x.Name,s0]∧F=(ob s0++D0)∧OSl eF 109 5 Φ D0 s0 x.Rules
theorem sI.lasts:bE sI:=fun X Φ Φ' F cs x hf hd ⟨s0,D0,hc,hF,h0⟩=>by
  rw [hF] at hd
  exact ⟨s0,D0,hc,hF,h0.frame eF.lasts hf (fun k hk=>hd k (by simp [hk])) (fun k hk=>hd k (by simp [hk]))⟩
instance:LS sI:=⟨sI.lasts⟩
theorem sI.knows:cR sI:=fun Φ F cs x ⟨s0,D0,hc,hF,h0⟩=>hF ▸ (h0.knO.app h0.kn)
theorem sI.one:fe sI:=fun _ _ _ _ h=>by obtain ⟨s0,D0,rfl,-,h0⟩:=h; exact One.all ⟨rfl,h0.one,trivial⟩
theorem sI.gives:dH sI ri:=fun Φ F cs x ⟨s0,D0,hc,hF,h0⟩=>⟨s0,ob s0++D0,hc,hF,h0.rslG eF.gives⟩
structure aQ where
  L:(List Int)
  deriving DecidableEq
def dp (Φ:Hp) (F:List Nat) (cs:List Value) (x:aQ):Prop:=
  ∃ (s0:Value) (F0:List Nat),cs=[s0]∧F=F0∧RSl (RI .i64) 1 Φ F0 s0 x.L
theorem dp.lasts:bE dp:=fun X Φ Φ' F cs x hf hd ⟨s0,F0,hc,hF,h0⟩=>by
  rw [hF] at hd
  exact ⟨s0,F0,hc,hF,h0.frame RI.lasts hf (fun k hk=>hd k (by simp [hk]))⟩
instance:LS dp:=⟨dp.lasts⟩
theorem dp.knows:cR dp:=fun Φ F cs x ⟨s0,F0,hc,hF,h0⟩=>hF ▸ h0.kn
theorem dp.one:fe dp:=fun _ _ _ _ h=>by obtain ⟨s0,F0,rfl,-,h0⟩:=h; exact One.all ⟨h0.one,trivial⟩
def bv (Φ:Hp) (F:List Nat) (cs:List Value) (x:aQ):Prop:=
  ∃ (s0:Value),cs=[s0]∧F=(ob s0++[])∧OSl (RI .i64) 3 1 Φ [] s0 x.L
theorem bv.lasts:bE bv:=fun X Φ Φ' F cs x hf hd ⟨s0,hc,hF,h0⟩=>by
  rw [hF] at hd
  exact ⟨s0,hc,hF,h0.frame RI.lasts hf (fun k hk=>hd k (by simp [hk])) (Dj.nil _)⟩
instance:LS bv:=⟨bv.lasts⟩
theorem bv.knows:cR bv:=fun Φ F cs x ⟨s0,hc,hF,h0⟩=>hF ▸ (h0.knO.app h0.kn)
theorem bv.one:fe bv:=fun _ _ _ _ h=>by obtain ⟨s0,rfl,-,h0⟩:=h; exact One.all ⟨h0.one,trivial⟩
theorem bv.gives:dH bv dp:=fun Φ F cs x ⟨s0,hc,hF,h0⟩=>⟨s0,ob s0++[],hc,hF,h0.rslG (dH.refl _)⟩
structure aa where
  Ids:(List Int)
  Hits:(List Int)
  deriving DecidableEq
def bC (Φ:Hp) (F:List Nat) (cs:List Value) (x:aa):Prop:=
  ∃ (s0:Value) (F0:List Nat) (s1:Value) (F1:List Nat),cs=[s0,s1]∧F=F0++(F1)∧RSl (RI .i64) 1 Φ F0 s0 x.Ids∧RSl (RI .i64) 1 Φ F1 s1 x.Hits
theorem bC.lasts:bE bC:=fun X Φ Φ' F cs x hf hd ⟨s0,F0,s1,F1,hc,hF,h0,h1⟩=>by
  rw [hF] at hd
  exact ⟨s0,F0,s1,F1,hc,hF,h0.frame RI.lasts hf (fun k hk=>hd k (by simp [hk])),h1.frame RI.lasts hf (fun k hk=>hd k (by simp [hk]))⟩
instance:LS bC:=⟨bC.lasts⟩
theorem bC.knows:cR bC:=fun Φ F cs x ⟨s0,F0,s1,F1,hc,hF,h0,h1⟩=>hF ▸ (h0.kn.app h1.kn)
theorem bC.one:fe bC:=fun _ _ _ _ h=>by obtain ⟨s0,F0,s1,F1,rfl,-,h0,h1⟩:=h; exact One.all ⟨h0.one,h1.one,trivial⟩
def aL (Φ:Hp) (F:List Nat) (cs:List Value) (x:aa):Prop:=
  ∃ (s0:Value) (s1:Value),cs=[s0,s1]∧F=(ob s0++[])++((ob s1++[]))∧OSl (RI .i64) 3 1 Φ [] s0 x.Ids∧OSl (RI .i64) 3 1 Φ [] s1 x.Hits
theorem aL.lasts:bE aL:=fun X Φ Φ' F cs x hf hd ⟨s0,s1,hc,hF,h0,h1⟩=>by
  rw [hF] at hd
  exact ⟨s0,s1,hc,hF,h0.frame RI.lasts hf (fun k hk=>hd k (by simp [hk])) (Dj.nil _),h1.frame RI.lasts hf (fun k hk=>hd k (by simp [hk])) (Dj.nil _)⟩
instance:LS aL:=⟨aL.lasts⟩
theorem aL.knows:cR aL:=fun Φ F cs x ⟨s0,s1,hc,hF,h0,h1⟩=>hF ▸ ((h0.knO.app h0.kn).app (h1.knO.app h1.kn))
theorem aL.one:fe aL:=fun _ _ _ _ h=>by obtain ⟨s0,s1,rfl,-,h0,h1⟩:=h; exact One.all ⟨h0.one,h1.one,trivial⟩
theorem aL.gives:dH aL bC:=fun Φ F cs x ⟨s0,s1,hc,hF,h0,h1⟩=>⟨s0,ob s0++[],s1,ob s1++[],hc,hF,h0.rslG (dH.refl _),h1.rslG (dH.refl _)⟩
structure ab where
  Toks:(List aa)
  deriving DecidableEq
def cc (Φ:Hp) (F:List Nat) (cs:List Value) (x:ab):Prop:=
  ∃ (s0:Value) (F0:List Nat),cs=[s0]∧F=F0∧RSl bC 2 Φ F0 s0 x.Toks
theorem cc.lasts:bE cc:=fun X Φ Φ' F cs x hf hd ⟨s0,F0,hc,hF,h0⟩=>by
  rw [hF] at hd
  exact ⟨s0,F0,hc,hF,h0.frame bC.lasts hf (fun k hk=>hd k (by simp [hk]))⟩
instance:LS cc:=⟨cc.lasts⟩
theorem cc.knows:cR cc:=fun Φ F cs x ⟨s0,F0,hc,hF,h0⟩=>hF ▸ h0.kn
theorem cc.one:fe cc:=fun _ _ _ _ h=>by obtain ⟨s0,F0,rfl,-,h0⟩:=h; exact One.all ⟨h0.one,trivial⟩
def aN (Φ:Hp) (F:List Nat) (cs:List Value) (x:ab):Prop:=
  ∃ (s0:Value) (D0:List Nat),cs=[s0]∧F=(ob s0++D0)∧OSl aL 136 2 Φ D0 s0 x.Toks
theorem aN.lasts:bE aN:=fun X Φ Φ' F cs x hf hd ⟨s0,D0,hc,hF,h0⟩=>by
  rw [hF] at hd
  exact ⟨s0,D0,hc,hF,h0.frame aL.lasts hf (fun k hk=>hd k (by simp [hk])) (fun k hk=>hd k (by simp [hk]))⟩
instance:LS aN:=⟨aN.lasts⟩
theorem aN.knows:cR aN:=fun Φ F cs x ⟨s0,D0,hc,hF,h0⟩=>hF ▸ (h0.knO.app h0.kn)
theorem aN.one:fe aN:=fun _ _ _ _ h=>by obtain ⟨s0,D0,rfl,-,h0⟩:=h; exact One.all ⟨h0.one,trivial⟩
theorem aN.gives:dH aN cc:=fun Φ F cs x ⟨s0,D0,hc,hF,h0⟩=>⟨s0,ob s0++D0,hc,hF,h0.rslG aL.gives⟩
structure aF where
  Levels:(List ab)
  deriving DecidableEq
def ff (Φ:Hp) (F:List Nat) (cs:List Value) (x:aF):Prop:=
  ∃ (s0:Value) (F0:List Nat),cs=[s0]∧F=F0∧RSl cc 1 Φ F0 s0 x.Levels
theorem ff.lasts:bE ff:=fun X Φ Φ' F cs x hf hd ⟨s0,F0,hc,hF,h0⟩=>by
  rw [hF] at hd
  exact ⟨s0,F0,hc,hF,h0.frame cc.lasts hf (fun k hk=>hd k (by simp [hk]))⟩
instance:LS ff:=⟨ff.lasts⟩
theorem ff.knows:cR ff:=fun Φ F cs x ⟨s0,F0,hc,hF,h0⟩=>hF ▸ h0.kn
theorem ff.one:fe ff:=fun _ _ _ _ h=>by obtain ⟨s0,F0,rfl,-,h0⟩:=h; exact One.all ⟨h0.one,trivial⟩
def bd (Φ:Hp) (F:List Nat) (cs:List Value) (x:aF):Prop:=
  ∃ (s0:Value) (D0:List Nat),cs=[s0]∧F=(ob s0++D0)∧OSl aN 76 1 Φ D0 s0 x.Levels
theorem bd.lasts:bE bd:=fun X Φ Φ' F cs x hf hd ⟨s0,D0,hc,hF,h0⟩=>by
  rw [hF] at hd
  exact ⟨s0,D0,hc,hF,h0.frame aN.lasts hf (fun k hk=>hd k (by simp [hk])) (fun k hk=>hd k (by simp [hk]))⟩
instance:LS bd:=⟨bd.lasts⟩
theorem bd.knows:cR bd:=fun Φ F cs x ⟨s0,D0,hc,hF,h0⟩=>hF ▸ (h0.knO.app h0.kn)
theorem bd.one:fe bd:=fun _ _ _ _ h=>by obtain ⟨s0,D0,rfl,-,h0⟩:=h; exact One.all ⟨h0.one,trivial⟩
theorem bd.gives:dH bd ff:=fun Φ F cs x ⟨s0,D0,hc,hF,h0⟩=>⟨s0,ob s0++D0,hc,hF,h0.rslG aN.gives⟩
structure aJ where
  Alphas:(List aQ)
  Rules:(List aF)
  deriving DecidableEq
def rj (Φ:Hp) (F:List Nat) (cs:List Value) (x:aJ):Prop:=
  ∃ (s0:Value) (F0:List Nat) (s1:Value) (F1:List Nat),cs=[s0,s1]∧F=F0++(F1)∧RSl dp 1 Φ F0 s0 x.Alphas∧RSl ff 1 Φ F1 s1 x.Rules
theorem rj.lasts:bE rj:=fun X Φ Φ' F cs x hf hd ⟨s0,F0,s1,F1,hc,hF,h0,h1⟩=>by
  rw [hF] at hd
  exact ⟨s0,F0,s1,F1,hc,hF,h0.frame dp.lasts hf (fun k hk=>hd k (by simp [hk])),h1.frame ff.lasts hf (fun k hk=>hd k (by simp [hk]))⟩
instance:LS rj:=⟨rj.lasts⟩
theorem rj.knows:cR rj:=fun Φ F cs x ⟨s0,F0,s1,F1,hc,hF,h0,h1⟩=>hF ▸ (h0.kn.app h1.kn)
theorem rj.one:fe rj:=fun _ _ _ _ h=>by obtain ⟨s0,F0,s1,F1,rfl,-,h0,h1⟩:=h; exact One.all ⟨h0.one,h1.one,trivial⟩
def sK (Φ:Hp) (F:List Nat) (cs:List Value) (x:aJ):Prop:=
  ∃ (s0:Value) (D0:List Nat) (s1:Value) (D1:List Nat),cs=[s0,s1]∧F=(ob s0++D0)++((ob s1++D1))∧OSl bv 69 1 Φ D0 s0 x.Alphas∧OSl bd 72 1 Φ D1 s1 x.Rules
theorem sK.lasts:bE sK:=fun X Φ Φ' F cs x hf hd ⟨s0,D0,s1,D1,hc,hF,h0,h1⟩=>by
  rw [hF] at hd
  exact ⟨s0,D0,s1,D1,hc,hF,h0.frame bv.lasts hf (fun k hk=>hd k (by simp [hk])) (fun k hk=>hd k (by simp [hk])),h1.frame bd.lasts hf (fun k hk=>hd k (by simp [hk])) (fun k hk=>hd k (by simp [hk]))⟩
instance:LS sK:=⟨sK.lasts⟩
theorem sK.knows:cR sK:=fun Φ F cs x ⟨s0,D0,s1,D1,hc,hF,h0,h1⟩=>hF ▸ ((h0.knO.app h0.kn).app (h1.knO.app h1.kn))
theorem sK.one:fe sK:=fun _ _ _ _ h=>by obtain ⟨s0,D0,s1,D1,rfl,-,h0,h1⟩:=h; exact One.all ⟨h0.one,h1.one,trivial⟩
theorem sK.gives:dH sK rj:=fun Φ F cs x ⟨s0,D0,s1,D1,hc,hF,h0,h1⟩=>⟨s0,ob s0++D0,s1,ob s1++D1,hc,hF,h0.rslG bv.gives,h1.rslG bd.gives⟩
structure av where
  Kind:ByteArray
  Fields:(List aP)
  deriving DecidableEq
def mI (Φ:Hp) (F:List Nat) (cs:List Value) (x:av):Prop:=
  ∃ (s0:Value) (F0:List Nat),cs=[.string x.Kind,s0]∧F=F0∧RSl aD 3 Φ F0 s0 x.Fields
theorem mI.lasts:bE mI:=fun X Φ Φ' F cs x hf hd ⟨s0,F0,hc,hF,h0⟩=>by
  rw [hF] at hd
  exact ⟨s0,F0,hc,hF,h0.frame aD.lasts hf (fun k hk=>hd k (by simp [hk]))⟩
instance:LS mI:=⟨mI.lasts⟩
theorem mI.knows:cR mI:=fun Φ F cs x ⟨s0,F0,hc,hF,h0⟩=>hF ▸ h0.kn
theorem mI.one:fe mI:=fun _ _ _ _ h=>by obtain ⟨s0,F0,rfl,-,h0⟩:=h; exact One.all ⟨rfl,h0.one,trivial⟩
def pU (Φ:Hp) (F:List Nat) (cs:List Value) (x:av):Prop:=
  ∃ (s0:Value),cs=[.string x.Kind,s0]∧F=(ob s0++[])∧OSl aD 167 3 Φ [] s0 x.Fields
theorem pU.lasts:bE pU:=fun X Φ Φ' F cs x hf hd ⟨s0,hc,hF,h0⟩=>by
  rw [hF] at hd
  exact ⟨s0,hc,hF,h0.frame aD.lasts hf (fun k hk=>hd k (by simp [hk])) (Dj.nil _)⟩
instance:LS pU:=⟨pU.lasts⟩
theorem pU.knows:cR pU:=fun Φ F cs x ⟨s0,hc,hF,h0⟩=>hF ▸ (h0.knO.app h0.kn)
theorem pU.one:fe pU:=fun _ _ _ _ h=>by obtain ⟨s0,rfl,-,h0⟩:=h; exact One.all ⟨rfl,h0.one,trivial⟩
theorem pU.gives:dH pU mI:=fun Φ F cs x ⟨s0,hc,hF,h0⟩=>⟨s0,ob s0++[],hc,hF,h0.rslG (dH.refl _)⟩
structure an where
  Id:Int
  F:av
  deriving DecidableEq
def bn (Φ:Hp) (F:List Nat) (cs:List Value) (x:an):Prop:=
  ∃ (s0:Value) (F0:List Nat),cs=[.int .i64 x.Id,.string x.F.Kind,s0]∧F=F0∧RSl aD 3 Φ F0 s0 x.F.Fields
theorem bn.lasts:bE bn:=fun X Φ Φ' F cs x hf hd ⟨s0,F0,hc,hF,h0⟩=>by
  rw [hF] at hd
  exact ⟨s0,F0,hc,hF,h0.frame aD.lasts hf (fun k hk=>hd k (by simp [hk]))⟩
instance:LS bn:=⟨bn.lasts⟩
theorem bn.knows:cR bn:=fun Φ F cs x ⟨s0,F0,hc,hF,h0⟩=>hF ▸ h0.kn
theorem bn.one:fe bn:=fun _ _ _ _ h=>by obtain ⟨s0,F0,rfl,-,h0⟩:=h; exact One.all ⟨rfl,rfl,h0.one,trivial⟩
def dF (Φ:Hp) (F:List Nat) (cs:List Value) (x:an):Prop:=
  ∃ (s0:Value),cs=[.int .i64 x.Id,.string x.F.Kind,s0]∧F=(ob s0++[])∧OSl aD 167 3 Φ [] s0 x.F.Fields
theorem dF.lasts:bE dF:=fun X Φ Φ' F cs x hf hd ⟨s0,hc,hF,h0⟩=>by
  rw [hF] at hd
  exact ⟨s0,hc,hF,h0.frame aD.lasts hf (fun k hk=>hd k (by simp [hk])) (Dj.nil _)⟩
instance:LS dF:=⟨dF.lasts⟩
theorem dF.knows:cR dF:=fun Φ F cs x ⟨s0,hc,hF,h0⟩=>hF ▸ (h0.knO.app h0.kn)
theorem dF.one:fe dF:=fun _ _ _ _ h=>by obtain ⟨s0,rfl,-,h0⟩:=h; exact One.all ⟨rfl,rfl,h0.one,trivial⟩
theorem dF.gives:dH dF bn:=fun Φ F cs x ⟨s0,hc,hF,h0⟩=>⟨s0,ob s0++[],hc,hF,h0.rslG (dH.refl _)⟩
structure ae where
  Items:(List an)
  Next:Int
  deriving DecidableEq
def jr (Φ:Hp) (F:List Nat) (cs:List Value) (x:ae):Prop:=
  ∃ (s0:Value) (F0:List Nat),cs=[s0,.int .i64 x.Next]∧F=F0∧RSl bn 3 Φ F0 s0 x.Items
theorem jr.lasts:bE jr:=fun X Φ Φ' F cs x hf hd ⟨s0,F0,hc,hF,h0⟩=>by
  rw [hF] at hd
  exact ⟨s0,F0,hc,hF,h0.frame bn.lasts hf (fun k hk=>hd k (by simp [hk]))⟩
instance:LS jr:=⟨jr.lasts⟩
theorem jr.knows:cR jr:=fun Φ F cs x ⟨s0,F0,hc,hF,h0⟩=>hF ▸ h0.kn
theorem jr.one:fe jr:=fun _ _ _ _ h=>by obtain ⟨s0,F0,rfl,-,h0⟩:=h; exact One.all ⟨h0.one,rfl,trivial⟩
def lN (Φ:Hp) (F:List Nat) (cs:List Value) (x:ae):Prop:=
  ∃ (s0:Value) (D0:List Nat),cs=[s0,.int .i64 x.Next]∧F=(ob s0++D0)∧OSl dF 117 3 Φ D0 s0 x.Items
theorem lN.lasts:bE lN:=fun X Φ Φ' F cs x hf hd ⟨s0,D0,hc,hF,h0⟩=>by
  rw [hF] at hd
  exact ⟨s0,D0,hc,hF,h0.frame dF.lasts hf (fun k hk=>hd k (by simp [hk])) (fun k hk=>hd k (by simp [hk]))⟩
instance:LS lN:=⟨lN.lasts⟩
theorem lN.knows:cR lN:=fun Φ F cs x ⟨s0,D0,hc,hF,h0⟩=>hF ▸ (h0.knO.app h0.kn)
theorem lN.one:fe lN:=fun _ _ _ _ h=>by obtain ⟨s0,D0,rfl,-,h0⟩:=h; exact One.all ⟨h0.one,rfl,trivial⟩
theorem lN.gives:dH lN jr:=fun Φ F cs x ⟨s0,D0,hc,hF,h0⟩=>⟨s0,ob s0++D0,hc,hF,h0.rslG dF.gives⟩
def bb (x y:aP):Bool:=((x.K == y.K) && ((x.N == y.N) && (seq x.S y.S && true)))
theorem Ef (a b:ByteArray):seq a b=decide (a=b):=by
  unfold seq
  by_cases h:a=b
  · subst h; simp
  · have : ¬ a.toList=b.toList:=fun e=>h (by rw [ByteArray.toList_eq,ByteArray.toList_eq] at e; exact ByteArray.ext (Array.toList_inj.1 e))
    simp [h,this]
theorem jK (x y:aP):bb x y=decide (x=y):=by
  obtain ⟨a0,a1,a2⟩:=x; obtain ⟨b0,b1,b2⟩:=y
  rw [Bool.eq_iff_iff]
  simp only [bb,Ef,Bool.and_true,Bool.and_eq_true,beq_iff_eq,decide_eq_true_eq,aP.mk.injEq,and_assoc]
def oc (x y:bk):Bool:=((x.K == y.K) && (seq x.S y.S && ((x.V.K == y.V.K) && ((x.V.N == y.V.N) && (seq x.V.S y.V.S && true)))))

theorem I2 (x y:bk):oc x y=decide (x=y):=by
  obtain ⟨a0,a1,⟨a20,a21,a22⟩⟩:=x; obtain ⟨b0,b1,⟨b20,b21,b22⟩⟩:=y
  rw [Bool.eq_iff_iff]
  simp only [oc,Ef,Bool.and_true,Bool.and_eq_true,beq_iff_eq,decide_eq_true_eq,bk.mk.injEq,aP.mk.injEq,and_assoc]
structure aj where
  Kind:ByteArray
  N:Int
  Consts:(List aP)
  At:(List Int)
  deriving DecidableEq
def bY (Φ:Hp) (F:List Nat) (cs:List Value) (x:aj):Prop:=
  ∃ (s0:Value) (F0:List Nat) (s1:Value) (F1:List Nat),cs=[.string x.Kind,.int .i64 x.N,s0,s1]∧F=F0++(F1)∧RSl aD 3 Φ F0 s0 x.Consts∧RSl (RI .i64) 1 Φ F1 s1 x.At
theorem bY.lasts:bE bY:=fun X Φ Φ' F cs x hf hd ⟨s0,F0,s1,F1,hc,hF,h0,h1⟩=>by
  rw [hF] at hd
  exact ⟨s0,F0,s1,F1,hc,hF,h0.frame aD.lasts hf (fun k hk=>hd k (by simp [hk])),h1.frame RI.lasts hf (fun k hk=>hd k (by simp [hk]))⟩
instance:LS bY:=⟨bY.lasts⟩
theorem bY.knows:cR bY:=fun Φ F cs x ⟨s0,F0,s1,F1,hc,hF,h0,h1⟩=>hF ▸ (h0.kn.app h1.kn)
theorem bY.one:fe bY:=fun _ _ _ _ h=>by obtain ⟨s0,F0,s1,F1,rfl,-,h0,h1⟩:=h; exact One.all ⟨rfl,rfl,h0.one,h1.one,trivial⟩
def cg (Φ:Hp) (F:List Nat) (cs:List Value) (x:aj):Prop:=
  ∃ (s0:Value) (s1:Value),cs=[.string x.Kind,.int .i64 x.N,s0,s1]∧F=(ob s0++[])++((ob s1++[]))∧OSl aD 167 3 Φ [] s0 x.Consts∧OSl (RI .i64) 3 1 Φ [] s1 x.At
theorem cg.lasts:bE cg:=fun X Φ Φ' F cs x hf hd ⟨s0,s1,hc,hF,h0,h1⟩=>by
  rw [hF] at hd
  exact ⟨s0,s1,hc,hF,h0.frame aD.lasts hf (fun k hk=>hd k (by simp [hk])) (Dj.nil _),h1.frame RI.lasts hf (fun k hk=>hd k (by simp [hk])) (Dj.nil _)⟩
instance:LS cg:=⟨cg.lasts⟩
theorem cg.knows:cR cg:=fun Φ F cs x ⟨s0,s1,hc,hF,h0,h1⟩=>hF ▸ ((h0.knO.app h0.kn).app (h1.knO.app h1.kn))
theorem cg.one:fe cg:=fun _ _ _ _ h=>by obtain ⟨s0,s1,rfl,-,h0,h1⟩:=h; exact One.all ⟨rfl,rfl,h0.one,h1.one,trivial⟩
theorem cg.gives:dH cg bY:=fun Φ F cs x ⟨s0,s1,hc,hF,h0,h1⟩=>⟨s0,ob s0++[],s1,ob s1++[],hc,hF,h0.rslG (dH.refl _),h1.rslG (dH.refl _)⟩
structure aC where
  Pos:(List Int)
  Neg:(List Int)
  deriving DecidableEq
def er (Φ:Hp) (F:List Nat) (cs:List Value) (x:aC):Prop:=
  ∃ (s0:Value) (F0:List Nat) (s1:Value) (F1:List Nat),cs=[s0,s1]∧F=F0++(F1)∧RSl (RI .i64) 1 Φ F0 s0 x.Pos∧RSl (RI .i64) 1 Φ F1 s1 x.Neg
theorem er.lasts:bE er:=fun X Φ Φ' F cs x hf hd ⟨s0,F0,s1,F1,hc,hF,h0,h1⟩=>by
  rw [hF] at hd
  exact ⟨s0,F0,s1,F1,hc,hF,h0.frame RI.lasts hf (fun k hk=>hd k (by simp [hk])),h1.frame RI.lasts hf (fun k hk=>hd k (by simp [hk]))⟩
instance:LS er:=⟨er.lasts⟩
theorem er.knows:cR er:=fun Φ F cs x ⟨s0,F0,s1,F1,hc,hF,h0,h1⟩=>hF ▸ (h0.kn.app h1.kn)
theorem er.one:fe er:=fun _ _ _ _ h=>by obtain ⟨s0,F0,s1,F1,rfl,-,h0,h1⟩:=h; exact One.all ⟨h0.one,h1.one,trivial⟩
def bi (Φ:Hp) (F:List Nat) (cs:List Value) (x:aC):Prop:=
  ∃ (s0:Value) (s1:Value),cs=[s0,s1]∧F=(ob s0++[])++((ob s1++[]))∧OSl (RI .i64) 3 1 Φ [] s0 x.Pos∧OSl (RI .i64) 3 1 Φ [] s1 x.Neg
theorem bi.lasts:bE bi:=fun X Φ Φ' F cs x hf hd ⟨s0,s1,hc,hF,h0,h1⟩=>by
  rw [hF] at hd
  exact ⟨s0,s1,hc,hF,h0.frame RI.lasts hf (fun k hk=>hd k (by simp [hk])) (Dj.nil _),h1.frame RI.lasts hf (fun k hk=>hd k (by simp [hk])) (Dj.nil _)⟩
instance:LS bi:=⟨bi.lasts⟩
theorem bi.knows:cR bi:=fun Φ F cs x ⟨s0,s1,hc,hF,h0,h1⟩=>hF ▸ ((h0.knO.app h0.kn).app (h1.knO.app h1.kn))
theorem bi.one:fe bi:=fun _ _ _ _ h=>by obtain ⟨s0,s1,rfl,-,h0,h1⟩:=h; exact One.all ⟨h0.one,h1.one,trivial⟩
theorem bi.gives:dH bi er:=fun Φ F cs x ⟨s0,s1,hc,hF,h0,h1⟩=>⟨s0,ob s0++[],s1,ob s1++[],hc,hF,h0.rslG (dH.refl _),h1.rslG (dH.refl _)⟩
structure bB where
  Alphas:(List aj)
  Chains:(List aC)
  deriving DecidableEq
def tD (Φ:Hp) (F:List Nat) (cs:List Value) (x:bB):Prop:=
  ∃ (s0:Value) (F0:List Nat) (s1:Value) (F1:List Nat),cs=[s0,s1]∧F=F0++(F1)∧RSl bY 4 Φ F0 s0 x.Alphas∧RSl er 2 Φ F1 s1 x.Chains
theorem tD.lasts:bE tD:=fun X Φ Φ' F cs x hf hd ⟨s0,F0,s1,F1,hc,hF,h0,h1⟩=>by
  rw [hF] at hd
  exact ⟨s0,F0,s1,F1,hc,hF,h0.frame bY.lasts hf (fun k hk=>hd k (by simp [hk])),h1.frame er.lasts hf (fun k hk=>hd k (by simp [hk]))⟩
instance:LS tD:=⟨tD.lasts⟩
theorem tD.knows:cR tD:=fun Φ F cs x ⟨s0,F0,s1,F1,hc,hF,h0,h1⟩=>hF ▸ (h0.kn.app h1.kn)
theorem tD.one:fe tD:=fun _ _ _ _ h=>by obtain ⟨s0,F0,s1,F1,rfl,-,h0,h1⟩:=h; exact One.all ⟨h0.one,h1.one,trivial⟩
def sR (Φ:Hp) (F:List Nat) (cs:List Value) (x:bB):Prop:=
  ∃ (s0:Value) (D0:List Nat) (s1:Value) (D1:List Nat),cs=[s0,s1]∧F=(ob s0++D0)++((ob s1++D1))∧OSl cg 128 4 Φ D0 s0 x.Alphas∧OSl bi 121 2 Φ D1 s1 x.Chains
theorem sR.lasts:bE sR:=fun X Φ Φ' F cs x hf hd ⟨s0,D0,s1,D1,hc,hF,h0,h1⟩=>by
  rw [hF] at hd
  exact ⟨s0,D0,s1,D1,hc,hF,h0.frame cg.lasts hf (fun k hk=>hd k (by simp [hk])) (fun k hk=>hd k (by simp [hk])),h1.frame bi.lasts hf (fun k hk=>hd k (by simp [hk])) (fun k hk=>hd k (by simp [hk]))⟩
instance:LS sR:=⟨sR.lasts⟩
theorem sR.knows:cR sR:=fun Φ F cs x ⟨s0,D0,s1,D1,hc,hF,h0,h1⟩=>hF ▸ ((h0.knO.app h0.kn).app (h1.knO.app h1.kn))
theorem sR.one:fe sR:=fun _ _ _ _ h=>by obtain ⟨s0,D0,s1,D1,rfl,-,h0,h1⟩:=h; exact One.all ⟨h0.one,h1.one,trivial⟩
theorem sR.gives:dH sR tD:=fun Φ F cs x ⟨s0,D0,s1,D1,hc,hF,h0,h1⟩=>⟨s0,ob s0++D0,s1,ob s1++D1,hc,hF,h0.rslG cg.gives,h1.rslG bi.gives⟩
structure aB where
  Name:ByteArray
  V:aP
  deriving DecidableEq
def aV (Φ:Hp) (F:List Nat) (cs:List Value) (x:aB):Prop:=cs=[.string x.Name,.int .i64 x.V.K,.int .i64 x.V.N,.string x.V.S]∧F=[]
theorem aV.lasts:bE aV:=fun _ _ _ _ _ _ _ _ h=>h
instance:LS aV:=⟨aV.lasts⟩
theorem aV.knows:cR aV:=fun _ _ _ _ h=>h.2 ▸ Kw.nil
theorem aV.flat:vY aV:=fun _ _ _ _ h=>h.2
theorem aV.one:fe aV:=fun _ _ _ _ h=>by obtain ⟨rfl,-⟩:=h; exact One.all ⟨rfl,rfl,rfl,rfl,trivial⟩
structure bZ where
  pos:(List ao)
  neg:(List ao)
  chain:aC
  alphas:(List aQ)
  s:ae
  id:Int
  deriving DecidableEq
def jU (Φ:Hp) (F:List Nat) (cs:List Value) (x:bZ):Prop:=
  ∃ (s0:Value) (F0:List Nat) (s1:Value) (F1:List Nat) (s2:Value) (F2:List Nat) (s3:Value) (F3:List Nat) (s4:Value) (F4:List Nat) (s5:Value) (F5:List Nat),cs=[s0,s1,s2,s3,s4,s5,.int .i64 x.s.Next,.int .i64 x.id]∧F=F0++(F1++(F2++(F3++(F4++(F5)))))∧RSl bt 3 Φ F0 s0 x.pos∧RSl bt 3 Φ F1 s1 x.neg∧RSl (RI .i64) 1 Φ F2 s2 x.chain.Pos∧RSl (RI .i64) 1 Φ F3 s3 x.chain.Neg∧RSl dp 1 Φ F4 s4 x.alphas∧RSl bn 3 Φ F5 s5 x.s.Items
theorem jU.lasts:bE jU:=fun X Φ Φ' F cs x hf hd ⟨s0,F0,s1,F1,s2,F2,s3,F3,s4,F4,s5,F5,hc,hF,h0,h1,h2,h3,h4,h5⟩=>by
  rw [hF] at hd
  exact ⟨s0,F0,s1,F1,s2,F2,s3,F3,s4,F4,s5,F5,hc,hF,h0.frame bt.lasts hf (fun k hk=>hd k (by simp [hk])),h1.frame bt.lasts hf (fun k hk=>hd k (by simp [hk])),h2.frame RI.lasts hf (fun k hk=>hd k (by simp [hk])),h3.frame RI.lasts hf (fun k hk=>hd k (by simp [hk])),h4.frame dp.lasts hf (fun k hk=>hd k (by simp [hk])),h5.frame bn.lasts hf (fun k hk=>hd k (by simp [hk]))⟩
instance:LS jU:=⟨jU.lasts⟩
theorem jU.knows:cR jU:=fun Φ F cs x ⟨s0,F0,s1,F1,s2,F2,s3,F3,s4,F4,s5,F5,hc,hF,h0,h1,h2,h3,h4,h5⟩=>hF ▸ (h0.kn.app (h1.kn.app (h2.kn.app (h3.kn.app (h4.kn.app h5.kn)))))
theorem jU.one:fe jU:=fun _ _ _ _ h=>by obtain ⟨s0,F0,s1,F1,s2,F2,s3,F3,s4,F4,s5,F5,rfl,-,h0,h1,h2,h3,h4,h5⟩:=h; exact One.all ⟨h0.one,h1.one,h2.one,h3.one,h4.one,h5.one,rfl,rfl,trivial⟩
def ji (Φ:Hp) (F:List Nat) (cs:List Value) (x:bZ):Prop:=
  ∃ (s0:Value) (D0:List Nat) (s1:Value) (D1:List Nat) (s2:Value) (s3:Value) (s4:Value) (D4:List Nat) (s5:Value) (D5:List Nat),cs=[s0,s1,s2,s3,s4,s5,.int .i64 x.s.Next,.int .i64 x.id]∧F=(ob s0++D0)++((ob s1++D1)++((ob s2++[])++((ob s3++[])++((ob s4++D4)++((ob s5++D5))))))∧OSl fZ 124 3 Φ D0 s0 x.pos∧OSl fZ 124 3 Φ D1 s1 x.neg∧OSl (RI .i64) 3 1 Φ [] s2 x.chain.Pos∧OSl (RI .i64) 3 1 Φ [] s3 x.chain.Neg∧OSl bv 69 1 Φ D4 s4 x.alphas∧OSl dF 117 3 Φ D5 s5 x.s.Items
theorem ji.lasts:bE ji:=fun X Φ Φ' F cs x hf hd ⟨s0,D0,s1,D1,s2,s3,s4,D4,s5,D5,hc,hF,h0,h1,h2,h3,h4,h5⟩=>by
  rw [hF] at hd
  exact ⟨s0,D0,s1,D1,s2,s3,s4,D4,s5,D5,hc,hF,h0.frame fZ.lasts hf (fun k hk=>hd k (by simp [hk])) (fun k hk=>hd k (by simp [hk])),h1.frame fZ.lasts hf (fun k hk=>hd k (by simp [hk])) (fun k hk=>hd k (by simp [hk])),h2.frame RI.lasts hf (fun k hk=>hd k (by simp [hk])) (Dj.nil _),h3.frame RI.lasts hf (fun k hk=>hd k (by simp [hk])) (Dj.nil _),h4.frame bv.lasts hf (fun k hk=>hd k (by simp [hk])) (fun k hk=>hd k (by simp [hk])),h5.frame dF.lasts hf (fun k hk=>hd k (by simp [hk])) (fun k hk=>hd k (by simp [hk]))⟩
instance:LS ji:=⟨ji.lasts⟩
theorem ji.knows:cR ji:=fun Φ F cs x ⟨s0,D0,s1,D1,s2,s3,s4,D4,s5,D5,hc,hF,h0,h1,h2,h3,h4,h5⟩=>hF ▸ ((h0.knO.app h0.kn).app ((h1.knO.app h1.kn).app ((h2.knO.app h2.kn).app ((h3.knO.app h3.kn).app ((h4.knO.app h4.kn).app (h5.knO.app h5.kn))))))
theorem ji.one:fe ji:=fun _ _ _ _ h=>by obtain ⟨s0,D0,s1,D1,s2,s3,s4,D4,s5,D5,rfl,-,h0,h1,h2,h3,h4,h5⟩:=h; exact One.all ⟨h0.one,h1.one,h2.one,h3.one,h4.one,h5.one,rfl,rfl,trivial⟩
theorem ji.gives:dH ji jU:=fun Φ F cs x ⟨s0,D0,s1,D1,s2,s3,s4,D4,s5,D5,hc,hF,h0,h1,h2,h3,h4,h5⟩=>⟨s0,ob s0++D0,s1,ob s1++D1,s2,ob s2++[],s3,ob s3++[],s4,ob s4++D4,s5,ob s5++D5,hc,hF,h0.rslG fZ.gives,h1.rslG fZ.gives,h2.rslG (dH.refl _),h3.rslG (dH.refl _),h4.rslG bv.gives,h5.rslG dF.gives⟩
def lz (N:Nat) (p0:aP) (p1:Int):Option (Int):=
  (if decide (i64.wrap (p1 - (p0.S.size:Int)) < 0) then some (-1) else some (i64.wrap (p1 - (p0.S.size:Int))))
def ig (N:Nat) (p0:bk) (p1:Int):Option (Int):=
  (if decide (i64.wrap (p1 - (p0.S.size:Int)) < 0) then some (-1) else ((lz N p0.V (i64.wrap (p1 - (p0.S.size:Int)))).bind fun x1=>(if decide (x1 < 0) then some (-1) else some x1)))
def gU (N:Nat) (p0:(List bk)):Nat→Int→Int→Option (Int)
  | 0,_,_=>none
  | k+1,s1,s2=>
    (if decide (s2 < (p0.length:Int)) then ((idx p0 s2).bind fun x1=>((ig N x1 s1).bind fun x2=>(if decide (x2 < 0) then some (-1) else ((gU N p0 k) x2 (i64.wrap (s2+1)))))) else some s1)
def o3 (N:Nat) (p0:(List bk)) (p1:Int):Option (Int):=
  (if decide (i64.wrap (p1 - (p0.length:Int)) < 0) then some (-1) else gU N p0 N (i64.wrap (p1 - (p0.length:Int))) 0)
def nm (N:Nat) (p0:ao) (p1:Int):Option (Int):=
  (if decide (i64.wrap (p1 - (p0.Kind.size:Int)) < 0) then some (-1) else ((o3 N p0.Args (i64.wrap (p1 - (p0.Kind.size:Int)))).bind fun x1=>(if decide (x1 < 0) then some (-1) else some x1)))
def gY (N:Nat) (p0:(List ao)):Nat→Int→Int→Option (Int)
  | 0,_,_=>none
  | k+1,s1,s2=>
    (if decide (s2 < (p0.length:Int)) then ((idx p0 s2).bind fun x1=>((nm N x1 s1).bind fun x2=>(if decide (x2 < 0) then some (-1) else ((gY N p0 k) x2 (i64.wrap (s2+1)))))) else some s1)
def oK (N:Nat) (p0:(List ao)) (p1:Int):Option (Int):=
  (if decide (i64.wrap (p1 - (p0.length:Int)) < 0) then some (-1) else gY N p0 N (i64.wrap (p1 - (p0.length:Int))) 0)
def l9 (N:Nat) (p0:bz) (p1:Int):Option (Int):=
  ((ig N p0.L p1).bind fun x1=>(if decide (x1 < 0) then some (-1) else ((ig N p0.R x1).bind fun x2=>(if decide (x2 < 0) then some (-1) else some x2))))
def gc (N:Nat) (p0:(List bz)):Nat→Int→Int→Option (Int)
  | 0,_,_=>none
  | k+1,s1,s2=>
    (if decide (s2 < (p0.length:Int)) then ((idx p0 s2).bind fun x1=>((l9 N x1 s1).bind fun x2=>(if decide (x2 < 0) then some (-1) else ((gc N p0 k) x2 (i64.wrap (s2+1)))))) else some s1)
def m6 (N:Nat) (p0:(List bz)) (p1:Int):Option (Int):=
  (if decide (i64.wrap (p1 - (p0.length:Int)) < 0) then some (-1) else gc N p0 N (i64.wrap (p1 - (p0.length:Int))) 0)
def lw (N:Nat) (p0:br) (p1:Int):Option (Int):=
  (if decide (i64.wrap (p1 - (p0.Op.size:Int)) < 0) then some (-1) else ((ig N p0.L (i64.wrap (p1 - (p0.Op.size:Int)))).bind fun x1=>(if decide (x1 < 0) then some (-1) else ((ig N p0.R x1).bind fun x2=>(if decide (x2 < 0) then some (-1) else some x2)))))
def gj (N:Nat) (p0:(List br)):Nat→Int→Int→Option (Int)
  | 0,_,_=>none
  | k+1,s1,s2=>
    (if decide (s2 < (p0.length:Int)) then ((idx p0 s2).bind fun x1=>((lw N x1 s1).bind fun x2=>(if decide (x2 < 0) then some (-1) else ((gj N p0 k) x2 (i64.wrap (s2+1)))))) else some s1)
def mw (N:Nat) (p0:(List br)) (p1:Int):Option (Int):=
  (if decide (i64.wrap (p1 - (p0.length:Int)) < 0) then some (-1) else gj N p0 N (i64.wrap (p1 - (p0.length:Int))) 0)
def nj (N:Nat) (p0:bX) (p1:Int):Option (Int):=
  (if decide (i64.wrap (p1 - (p0.Name.size:Int)) < 0) then some (-1) else ((mw N p0.Args (i64.wrap (p1 - (p0.Name.size:Int)))).bind fun x1=>(if decide (x1 < 0) then some (-1) else (if decide (i64.wrap (x1 - (p0.Undo.size:Int)) < 0) then some (-1) else some (i64.wrap (x1 - (p0.Undo.size:Int)))))))
def hJ (N:Nat) (p0:(List bX)):Nat→Int→Int→Option (Int)
  | 0,_,_=>none
  | k+1,s1,s2=>
    (if decide (s2 < (p0.length:Int)) then ((idx p0 s2).bind fun x1=>((nj N x1 s1).bind fun x2=>(if decide (x2 < 0) then some (-1) else ((hJ N p0 k) x2 (i64.wrap (s2+1)))))) else some s1)
def oR (N:Nat) (p0:(List bX)) (p1:Int):Option (Int):=
  (if decide (i64.wrap (p1 - (p0.length:Int)) < 0) then some (-1) else hJ N p0 N (i64.wrap (p1 - (p0.length:Int))) 0)
def lG (N:Nat) (p0:ac) (p1:Int):Option (Int):=
  (if decide (i64.wrap (p1 - (p0.Name.size:Int)) < 0) then some (-1) else ((oK N p0.Pats (i64.wrap (p1 - (p0.Name.size:Int)))).bind fun x1=>(if decide (x1 < 0) then some (-1) else ((m6 N p0.Conds x1).bind fun x2=>(if decide (x2 < 0) then some (-1) else ((oR N p0.Acts x2).bind fun x3=>(if decide (x3 < 0) then some (-1) else some x3)))))))
def gl (N:Nat) (p0:(List ac)):Nat→Int→Int→Option (Int)
  | 0,_,_=>none
  | k+1,s1,s2=>
    (if decide (s2 < (p0.length:Int)) then ((idx p0 s2).bind fun x1=>((lG N x1 s1).bind fun x2=>(if decide (x2 < 0) then some (-1) else ((gl N p0 k) x2 (i64.wrap (s2+1)))))) else some s1)
def mG (N:Nat) (p0:(List ac)) (p1:Int):Option (Int):=
  (if decide (i64.wrap (p1 - (p0.length:Int)) < 0) then some (-1) else gl N p0 N (i64.wrap (p1 - (p0.length:Int))) 0)
def q8 (N:Nat) (p0:bh) (p1:Int):Option (Int):=
  (if decide (i64.wrap (p1 - (p0.Name.size:Int)) < 0) then some (-1) else ((mG N p0.Rules (i64.wrap (p1 - (p0.Name.size:Int)))).bind fun x1=>(if decide (x1 < 0) then some (-1) else some x1)))
def jv (N:Nat) (p0:(List Int)) (p1:Int):Option (Int):=
  (if decide (i64.wrap (p1 - (p0.length:Int)) < 0) then some (-1) else some (i64.wrap (p1 - (p0.length:Int))))
def nr (N:Nat) (p0:aQ) (p1:Int):Option (Int):=
  ((jv N p0.L p1).bind fun x1=>(if decide (x1 < 0) then some (-1) else some x1))
def im (N:Nat) (p0:(List aQ)):Nat→Int→Int→Option (Int)
  | 0,_,_=>none
  | k+1,s1,s2=>
    (if decide (s2 < (p0.length:Int)) then ((idx p0 s2).bind fun x1=>((nr N x1 s1).bind fun x2=>(if decide (x2 < 0) then some (-1) else ((im N p0 k) x2 (i64.wrap (s2+1)))))) else some s1)
def oz (N:Nat) (p0:(List aQ)) (p1:Int):Option (Int):=
  (if decide (i64.wrap (p1 - (p0.length:Int)) < 0) then some (-1) else im N p0 N (i64.wrap (p1 - (p0.length:Int))) 0)
def nI (N:Nat) (p0:aa) (p1:Int):Option (Int):=
  ((jv N p0.Ids p1).bind fun x1=>(if decide (x1 < 0) then some (-1) else ((jv N p0.Hits x1).bind fun x2=>(if decide (x2 < 0) then some (-1) else some x2))))
def ib (N:Nat) (p0:(List aa)):Nat→Int→Int→Option (Int)
  | 0,_,_=>none
  | k+1,s1,s2=>
    (if decide (s2 < (p0.length:Int)) then ((idx p0 s2).bind fun x1=>((nI N x1 s1).bind fun x2=>(if decide (x2 < 0) then some (-1) else ((ib N p0 k) x2 (i64.wrap (s2+1)))))) else some s1)
def ot (N:Nat) (p0:(List aa)) (p1:Int):Option (Int):=
  (if decide (i64.wrap (p1 - (p0.length:Int)) < 0) then some (-1) else ib N p0 N (i64.wrap (p1 - (p0.length:Int))) 0)
def jO (N:Nat) (p0:ab) (p1:Int):Option (Int):=
  ((ot N p0.Toks p1).bind fun x1=>(if decide (x1 < 0) then some (-1) else some x1))
def fv (N:Nat) (p0:(List ab)):Nat→Int→Int→Option (Int)
  | 0,_,_=>none
  | k+1,s1,s2=>
    (if decide (s2 < (p0.length:Int)) then ((idx p0 s2).bind fun x1=>((jO N x1 s1).bind fun x2=>(if decide (x2 < 0) then some (-1) else ((fv N p0 k) x2 (i64.wrap (s2+1)))))) else some s1)
def jW (N:Nat) (p0:(List ab)) (p1:Int):Option (Int):=
  (if decide (i64.wrap (p1 - (p0.length:Int)) < 0) then some (-1) else fv N p0 N (i64.wrap (p1 - (p0.length:Int))) 0)
def nq (N:Nat) (p0:aF) (p1:Int):Option (Int):=
  ((jW N p0.Levels p1).bind fun x1=>(if decide (x1 < 0) then some (-1) else some x1))
def gZ (N:Nat) (p0:(List aF)):Nat→Int→Int→Option (Int)
  | 0,_,_=>none
  | k+1,s1,s2=>
    (if decide (s2 < (p0.length:Int)) then ((idx p0 s2).bind fun x1=>((nq N x1 s1).bind fun x2=>(if decide (x2 < 0) then some (-1) else ((gZ N p0 k) x2 (i64.wrap (s2+1)))))) else some s1)
def o6 (N:Nat) (p0:(List aF)) (p1:Int):Option (Int):=
  (if decide (i64.wrap (p1 - (p0.length:Int)) < 0) then some (-1) else gZ N p0 N (i64.wrap (p1 - (p0.length:Int))) 0)
def qt (N:Nat) (p0:aJ) (p1:Int):Option (Int):=
  ((oz N p0.Alphas p1).bind fun x1=>(if decide (x1 < 0) then some (-1) else ((o6 N p0.Rules x1).bind fun x2=>(if decide (x2 < 0) then some (-1) else some x2))))
def hU (N:Nat) (p0:(List aP)):Nat→Int→Int→Option (Int)
  | 0,_,_=>none
  | k+1,s1,s2=>
    (if decide (s2 < (p0.length:Int)) then ((idx p0 s2).bind fun x1=>((lz N x1 s1).bind fun x2=>(if decide (x2 < 0) then some (-1) else ((hU N p0 k) x2 (i64.wrap (s2+1)))))) else some s1)
def oA (N:Nat) (p0:(List aP)) (p1:Int):Option (Int):=
  (if decide (i64.wrap (p1 - (p0.length:Int)) < 0) then some (-1) else hU N p0 N (i64.wrap (p1 - (p0.length:Int))) 0)
def oX (N:Nat) (p0:av) (p1:Int):Option (Int):=
  (if decide (i64.wrap (p1 - (p0.Kind.size:Int)) < 0) then some (-1) else ((oA N p0.Fields (i64.wrap (p1 - (p0.Kind.size:Int)))).bind fun x1=>(if decide (x1 < 0) then some (-1) else some x1)))
def kX (N:Nat) (p0:an) (p1:Int):Option (Int):=
  ((oX N p0.F p1).bind fun x1=>(if decide (x1 < 0) then some (-1) else some x1))
def fV (N:Nat) (p0:(List an)):Nat→Int→Int→Option (Int)
  | 0,_,_=>none
  | k+1,s1,s2=>
    (if decide (s2 < (p0.length:Int)) then ((idx p0 s2).bind fun x1=>((kX N x1 s1).bind fun x2=>(if decide (x2 < 0) then some (-1) else ((fV N p0 k) x2 (i64.wrap (s2+1)))))) else some s1)
def mz (N:Nat) (p0:(List an)) (p1:Int):Option (Int):=
  (if decide (i64.wrap (p1 - (p0.length:Int)) < 0) then some (-1) else fV N p0 N (i64.wrap (p1 - (p0.length:Int))) 0)
def lX (N:Nat) (p0:ae) (p1:Int):Option (Int):=
  ((mz N p0.Items p1).bind fun x1=>(if decide (x1 < 0) then some (-1) else some x1))
def cT (N:Nat) (p0:Int) (p1:Int) (p2:Int):Option (Bool):=
  ((if decide (p1≤p0) then some (decide (p0≤p2)) else some false).bind fun b1=>some b1)
def gC (N:Nat) (p0:Int):Option (Bool):=
  ((cT N (i64.wrap p0) 97 122).bind fun x1=>((if x1 then some true else ((cT N (i64.wrap p0) 48 57).bind fun x2=>some x2)).bind fun b1=>((if b1 then some true else some (decide (p0=95))).bind fun b2=>some b2)))
def dJ (N:Nat) (p0:ByteArray):Nat→Int→Option (Bool)
  | 0,_=>none
  | k+1,s1=>
    (if decide (s1 < (p0.size:Int)) then ((idx p0.data.toList s1).bind fun y1=>((gC N (y1.toNat:Int)).bind fun x1=>((if !x1 then some true else ((if decide (s1=0) then ((idx p0.data.toList s1).bind fun y2=>((cT N (i64.wrap (y2.toNat:Int)) 97 122).bind fun x2=>some (!x2))) else some false).bind fun b2=>some b2)).bind fun b1=>(if b1 then some false else ((dJ N p0 k) (i64.wrap (s1+1))))))) else ((cT N (p0.size:Int) 1 12).bind fun x3=>some x3))
def dD (N:Nat) (p0:ByteArray):Option (Bool):=
  dJ N p0 N 0
def gG (N:Nat) (p0:(List ByteArray)) (p1:ByteArray):Nat→Int→Option (Bool)
  | 0,_=>none
  | k+1,s1=>
    (if decide (s1 < (p0.length:Int)) then ((idx p0 s1).bind fun x1=>(if seq x1 p1 then some true else ((gG N p0 p1 k) (i64.wrap (s1+1))))) else some false)
def l6 (N:Nat) (p0:(List ByteArray)) (p1:ByteArray):Option (Bool):=
  gG N p0 p1 N 0
def eR (N:Nat) (p0:ao):Nat→(List ByteArray)→Int→Option ((List ByteArray))
  | 0,_,_=>none
  | k+1,s1,s2=>
    (if decide (s2 < (p0.Args.length:Int)) then ((idx p0.Args s2).bind fun x1=>((if decide (x1.K=1) then ((idx p0.Args s2).bind fun x2=>((l6 N s1 x2.S).bind fun x3=>some (!x3))) else some false).bind fun b1=>(if b1 then ((idx p0.Args s2).bind fun x4=>((app s1 ([x4.S]:List ByteArray)).bind fun x5=>((eR N p0 k) x5 (i64.wrap (s2+1))))) else ((eR N p0 k) s1 (i64.wrap (s2+1)))))) else some s1)
def o0 (N:Nat) (p0:ao):Option ((List ByteArray)):=
  eR N p0 N ([]:List ByteArray) 0
def cp (N:Nat) (p0:ac) (s2:Int) (K1:(List ByteArray)→Int→Option ((List ByteArray))) (x2:(List ByteArray)):Nat→(List ByteArray)→Int→Option ((List ByteArray))
  | 0,_,_=>none
  | k+1,s3,s4=>
    ((if decide (s4 < (x2.length:Int)) then ((idx p0.Pats s2).bind fun x3=>some (!x3.Not)) else some false).bind fun b1=>(if b1 then ((idx x2 s4).bind fun x4=>((l6 N s3 x4).bind fun x5=>(if !x5 then ((idx x2 s4).bind fun x6=>((app s3 ([x6]:List ByteArray)).bind fun x7=>((cp N p0 s2 K1 x2 k) x7 (i64.wrap (s4+1))))) else ((cp N p0 s2 K1 x2 k) s3 (i64.wrap (s4+1)))))) else (K1 s3 (i64.wrap (s2+1)))))
def cl (N:Nat) (p0:ac):Nat→(List ByteArray)→Int→Option ((List ByteArray))
  | 0,_,_=>none
  | k+1,s1,s2=>
    (if decide (s2 < (p0.Pats.length:Int)) then ((idx p0.Pats s2).bind fun x1=>((o0 N x1).bind fun x2=>cp N p0 s2 (cl N p0 k) x2 N s1 0)) else some s1)
def jF (N:Nat) (p0:ac):Option ((List ByteArray)):=
  cl N p0 N ([]:List ByteArray) 0
def dZ (N:Nat) (p0:ByteArray):Nat→Int→Option (Bool)
  | 0,_=>none
  | k+1,s1=>
    (if decide (s1 < (p0.size:Int)) then ((idx p0.data.toList s1).bind fun y1=>((gC N (y1.toNat:Int)).bind fun x1=>(if !x1 then some false else ((dZ N p0 k) (i64.wrap (s1+1)))))) else some (decide ((p0.size:Int)≤20)))
def m7 (N:Nat) (p0:ByteArray):Option (Bool):=
  dZ N p0 N 0
def nt (N:Nat) (p0:aP):Option (Bool):=
  (if decide (p0.K=1) then ((cT N p0.N (-1000000000) 1000000000).bind fun x1=>((if x1 then some (seq p0.S (⟨#[]⟩:ByteArray)) else some false).bind fun b1=>some b1)) else (if decide (p0.K=2) then ((m7 N p0.S).bind fun x2=>((if x2 then some (decide (p0.N=0)) else some false).bind fun b2=>some b2)) else some false))
def mo (N:Nat) (p0:Int):Option (Bool):=
  ((cT N (i64.wrap p0) 65 90).bind fun x1=>some x1)
def cK (N:Nat) (p0:ByteArray):Nat→Int→Option (Bool)
  | 0,_=>none
  | k+1,s1=>
    (if decide (s1 < (p0.size:Int)) then ((idx p0.data.toList s1).bind fun y1=>((mo N (y1.toNat:Int)).bind fun x1=>((if !x1 then ((if decide (s1=0) then some true else ((idx p0.data.toList s1).bind fun y2=>((gC N (y2.toNat:Int)).bind fun x2=>some (!x2)))).bind fun b2=>some b2) else some false).bind fun b1=>(if b1 then some false else ((cK N p0 k) (i64.wrap (s1+1))))))) else ((cT N (p0.size:Int) 1 12).bind fun x3=>some x3))
def mE (N:Nat) (p0:ByteArray):Option (Bool):=
  cK N p0 N 0
def jR (N:Nat) (p0:bk):Option (Bool):=
  (if decide (p0.K=1) then ((mE N p0.S).bind fun x1=>((if x1 then some (bb p0.V (⟨0,0,(⟨#[]⟩:ByteArray)⟩:aP)) else some false).bind fun b1=>some b1)) else (if decide (p0.K=2) then ((nt N p0.V).bind fun x2=>((if x2 then some (seq p0.S (⟨#[]⟩:ByteArray)) else some false).bind fun b2=>some b2)) else (if decide (p0.K=3) then ((if seq p0.S (⟨#[]⟩:ByteArray) then some (bb p0.V (⟨0,0,(⟨#[]⟩:ByteArray)⟩:aP)) else some false).bind fun b3=>some b3) else some false)))
def fx (N:Nat) (p0:ao):Nat→Int→Option (Bool)
  | 0,_=>none
  | k+1,s1=>
    (if decide (s1 < (p0.Args.length:Int)) then ((idx p0.Args s1).bind fun x1=>((jR N x1).bind fun x2=>(if !x2 then some false else ((fx N p0 k) (i64.wrap (s1+1)))))) else ((dD N p0.Kind).bind fun x3=>((if x3 then some (decide ((p0.Args.length:Int)≤5)) else some false).bind fun b1=>some b1)))
def qk (N:Nat) (p0:ao):Option (Bool):=
  fx N p0 N 0
def dM (N:Nat) (p0:(List ao)):Nat→Int→Option (Bool)
  | 0,_=>none
  | k+1,s1=>
    (if decide (s1 < (p0.length:Int)) then ((if decide (2 < s1) then ((idx p0 s1).bind fun x1=>some (!x1.Not)) else some false).bind fun b1=>(if b1 then some false else ((idx p0 s1).bind fun x2=>((qk N x2).bind fun x3=>((if !x3 then some true else ((if decide (s1=0) then ((idx p0 s1).bind fun x4=>some x4.Not) else some false).bind fun b3=>some b3)).bind fun b2=>((if b2 then some true else ((if decide (0 < s1) then ((idx p0 (i64.wrap (s1 - 1))).bind fun x5=>some x5.Not) else some false).bind fun b5=>((if b5 then ((idx p0 s1).bind fun x6=>some (!x6.Not)) else some false).bind fun b6=>some b6))).bind fun b4=>(if b4 then some false else ((dM N p0 k) (i64.wrap (s1+1)))))))))) else ((cT N (p0.length:Int) 1 6).bind fun x7=>some x7))
def nZ (N:Nat) (p0:(List ao)):Option (Bool):=
  dM N p0 N 0
def o9 (N:Nat) (p0:bz):Option (Bool):=
  ((cT N p0.Op 1 3).bind fun x1=>((if x1 then ((jR N p0.L).bind fun x2=>some x2) else some false).bind fun b1=>((if b1 then ((jR N p0.R).bind fun x3=>some x3) else some false).bind fun b2=>((if b2 then some (!decide (p0.L.K=3)) else some false).bind fun b3=>((if b3 then some (!decide (p0.R.K=3)) else some false).bind fun b4=>some b4)))))
def gv (N:Nat) (p0:bk) (p1:(List ByteArray)):Option (Bool):=
  ((if !decide (p0.K=1) then some true else ((l6 N p1 p0.S).bind fun x1=>some x1)).bind fun b1=>some b1)
def ek (N:Nat) (p0:(List bz)) (p1:(List ByteArray)):Nat→Int→Option (Bool)
  | 0,_=>none
  | k+1,s1=>
    (if decide (s1 < (p0.length:Int)) then ((idx p0 s1).bind fun x1=>((o9 N x1).bind fun x2=>((if !x2 then some true else ((idx p0 s1).bind fun x3=>((gv N x3.L p1).bind fun x4=>some (!x4)))).bind fun b1=>((if b1 then some true else ((idx p0 s1).bind fun x5=>((gv N x5.R p1).bind fun x6=>some (!x6)))).bind fun b2=>(if b2 then some false else ((ek N p0 p1 k) (i64.wrap (s1+1)))))))) else some (decide ((p0.length:Int)≤6)))
def mf (N:Nat) (p0:(List bz)) (p1:(List ByteArray)):Option (Bool):=
  ek N p0 p1 N 0
def iQ (N:Nat) (p0:bk):Option (Bool):=
  ((jR N p0).bind fun x1=>((if x1 then some (!decide (p0.K=3)) else some false).bind fun b1=>some b1))
def gS (N:Nat) (p0:br) (s1:Bool):Option (Bool):=
  (if s1 then ((iQ N p0.L).bind fun x2=>((if x2 then ((iQ N p0.R).bind fun x3=>some x3) else some false).bind fun b2=>some b2)) else some false)
def nY (N:Nat) (p0:br):Option (Bool):=
  (if seq p0.Op (⟨#[]⟩:ByteArray) then ((iQ N p0.L).bind fun x1=>((if x1 then some (oc p0.R (⟨0,(⟨#[]⟩:ByteArray),(⟨0,0,(⟨#[]⟩:ByteArray)⟩:aP)⟩:bk)) else some false).bind fun b1=>some b1)) else (if seq p0.Op (⟨#[43]⟩:ByteArray) then gS N p0 (seq p0.Op (⟨#[43]⟩:ByteArray)) else gS N p0 (seq p0.Op (⟨#[45]⟩:ByteArray))))
def eQ (N:Nat) (p0:(List br)):Nat→Int→Option (Bool)
  | 0,_=>none
  | k+1,s1=>
    (if decide (s1 < (p0.length:Int)) then ((idx p0 s1).bind fun x1=>((nY N x1).bind fun x2=>(if !x2 then some false else ((eQ N p0 k) (i64.wrap (s1+1)))))) else some (decide ((p0.length:Int)≤5)))
def ju (N:Nat) (p0:(List br)):Option (Bool):=
  eQ N p0 N 0
def iW (N:Nat) (p0:bX) (b2:Bool) (s1:Bool):Option (Bool):=
  (if s1 then ((if b2 then some (decide (p0.N=0)) else some false).bind fun b14=>some b14) else some false)
def qo (N:Nat) (p0:bX):Option (Bool):=
  ((if seq p0.Name (⟨#[]⟩:ByteArray) then some (decide ((p0.Args.length:Int)=0)) else some false).bind fun b1=>((if b1 then some (seq p0.Undo (⟨#[]⟩:ByteArray)) else some false).bind fun b2=>(if decide (p0.Kind=1) then ((dD N p0.Name).bind fun x1=>((if x1 then ((ju N p0.Args).bind fun x2=>some x2) else some false).bind fun b3=>((if b3 then some (decide (p0.N=0)) else some false).bind fun b4=>((if b4 then some (seq p0.Undo (⟨#[]⟩:ByteArray)) else some false).bind fun b5=>some b5)))) else (if decide (p0.Kind=3) then ((dD N p0.Name).bind fun x3=>((if x3 then ((ju N p0.Args).bind fun x4=>some x4) else some false).bind fun b6=>((if b6 then some (decide (p0.N=0)) else some false).bind fun b7=>((if b7 then ((if seq p0.Undo (⟨#[]⟩:ByteArray) then some true else ((dD N p0.Undo).bind fun x5=>some x5)).bind fun b9=>some b9) else some false).bind fun b8=>some b8)))) else (if decide (p0.Kind=4) then ((dD N p0.Name).bind fun x6=>((if x6 then ((ju N p0.Args).bind fun x7=>some x7) else some false).bind fun b10=>((if b10 then ((cT N p0.N 0 100000).bind fun x8=>some x8) else some false).bind fun b11=>((if b11 then some (seq p0.Undo (⟨#[]⟩:ByteArray)) else some false).bind fun b12=>some b12)))) else (if decide (p0.Kind=2) then ((if b2 then ((cT N p0.N 0 7).bind fun x9=>some x9) else some false).bind fun b13=>some b13) else (if decide (p0.Kind=5) then iW N p0 b2 (decide (p0.Kind=5)) else iW N p0 b2 (decide (p0.Kind=6)))))))))
def eP (N:Nat) (p0:(List bX)) (p1:(List ByteArray)) (s1:Int) (K1:Int→Option (Bool)):Nat→Int→Option (Bool)
  | 0,_=>none
  | k+1,s2=>
    ((idx p0 s1).bind fun x5=>(if decide (s2 < (x5.Args.length:Int)) then ((idx p0 s1).bind fun x6=>((idx x6.Args s2).bind fun x7=>((gv N x7.L p1).bind fun x8=>((if !x8 then some true else ((idx p0 s1).bind fun x9=>((idx x9.Args s2).bind fun x10=>((gv N x10.R p1).bind fun x11=>some (!x11))))).bind fun b3=>(if b3 then some false else ((eP N p0 p1 s1 K1 k) (i64.wrap (s2+1)))))))) else (K1 (i64.wrap (s1+1)))))
def cF (N:Nat) (p0:(List bX)) (p1:(List ByteArray)) (p2:Int):Nat→Int→Option (Bool)
  | 0,_=>none
  | k+1,s1=>
    (if decide (s1 < (p0.length:Int)) then ((idx p0 s1).bind fun x1=>((qo N x1).bind fun x2=>((if !x2 then some true else ((idx p0 s1).bind fun x3=>((if decide (x3.Kind=2) then ((idx p0 s1).bind fun x4=>some (decide (p2≤x4.N))) else some false).bind fun b2=>some b2))).bind fun b1=>(if b1 then some false else eP N p0 p1 s1 (cF N p0 p1 p2 k) N 0)))) else ((cT N (p0.length:Int) 1 6).bind fun x12=>some x12))
def oT (N:Nat) (p0:(List bX)) (p1:(List ByteArray)) (p2:Int):Option (Bool):=
  cF N p0 p1 p2 N 0
def cN (N:Nat) (p0:ac):Nat→Int→Int→Option (Int)
  | 0,_,_=>none
  | k+1,s1,s2=>
    (if decide (s2 < (p0.Pats.length:Int)) then ((idx p0.Pats s2).bind fun x1=>(if !x1.Not then ((cN N p0 k) (i64.wrap (s1+1)) (i64.wrap (s2+1))) else ((cN N p0 k) s1 (i64.wrap (s2+1))))) else some s1)
def iU (N:Nat) (p0:ac):Option (Int):=
  cN N p0 N 0 0
def o2 (N:Nat) (p0:ac):Option (Bool):=
  ((jF N p0).bind fun x1=>((dD N p0.Name).bind fun x2=>((if x2 then ((cT N p0.Sal (-100) 100).bind fun x3=>some x3) else some false).bind fun b1=>((if b1 then ((nZ N p0.Pats).bind fun x4=>some x4) else some false).bind fun b2=>((if b2 then ((mf N p0.Conds x1).bind fun x5=>some x5) else some false).bind fun b3=>((if b3 then ((iU N p0).bind fun x6=>((oT N p0.Acts x1 x6).bind fun x7=>some x7)) else some false).bind fun b4=>some b4))))))
def eJ (N:Nat) (p0:bh) (p1:ByteArray):Nat→Int→Option (Int)
  | 0,_=>none
  | k+1,s1=>
    (if decide (s1 < (p0.Rules.length:Int)) then ((idx p0.Rules s1).bind fun x1=>(if seq x1.Name p1 then some s1 else ((eJ N p0 p1 k) (i64.wrap (s1+1))))) else some (-1))
def oM (N:Nat) (p0:bh) (p1:ByteArray):Option (Int):=
  eJ N p0 p1 N 0
def eB (N:Nat) (p0:bh):Nat→Int→Option (Bool)
  | 0,_=>none
  | k+1,s1=>
    (if decide (s1 < (p0.Rules.length:Int)) then ((idx p0.Rules s1).bind fun x1=>((o2 N x1).bind fun x2=>((if !x2 then some true else ((idx p0.Rules s1).bind fun x3=>((oM N p0 x3.Name).bind fun x4=>some (!decide (x4=s1))))).bind fun b1=>(if b1 then some false else ((eB N p0 k) (i64.wrap (s1+1))))))) else ((dD N p0.Name).bind fun x5=>((if x5 then ((cT N (p0.Rules.length:Int) 1 12).bind fun x6=>some x6) else some false).bind fun b2=>some b2)))
def qe (N:Nat) (p0:bh):Option (Bool):=
  eB N p0 N 0
def dO (N:Nat) (p0:(List aP)):Nat→Int→Option (Bool)
  | 0,_=>none
  | k+1,s1=>
    (if decide (s1 < (p0.length:Int)) then ((idx p0 s1).bind fun x1=>((nt N x1).bind fun x2=>(if !x2 then some false else ((dO N p0 k) (i64.wrap (s1+1)))))) else some (decide ((p0.length:Int)≤5)))
def qF (N:Nat) (p0:(List aP)):Option (Bool):=
  dO N p0 N 0
def oy (N:Nat) (p0:av):Option (Bool):=
  ((dD N p0.Kind).bind fun x1=>((if x1 then ((qF N p0.Fields).bind fun x2=>some x2) else some false).bind fun b1=>some b1))
def d9 (N:Nat) (p0:(List aP)) (p1:(List aP)):Nat→Int→Option (Bool)
  | 0,_=>none
  | k+1,s1=>
    (if decide (s1 < (p0.length:Int)) then ((idx p0 s1).bind fun x1=>((idx p1 s1).bind fun x2=>(if !(bb x1 x2) then some false else ((d9 N p0 p1 k) (i64.wrap (s1+1)))))) else some true)
def fW (N:Nat) (p0:(List aP)) (p1:(List aP)):Option (Bool):=
  (if !decide ((p0.length:Int)=(p1.length:Int)) then some false else d9 N p0 p1 N 0)
def kI (N:Nat) (p0:av) (p1:av):Option (Bool):=
  ((if seq p0.Kind p1.Kind then ((fW N p0.Fields p1.Fields).bind fun x1=>some x1) else some false).bind fun b1=>some b1)
def gy (N:Nat) (p0:ae) (p1:av):Nat→Int→Option (Int)
  | 0,_=>none
  | k+1,s1=>
    (if decide (s1 < (p0.Items.length:Int)) then ((idx p0.Items s1).bind fun x1=>((kI N x1.F p1).bind fun x2=>(if x2 then ((idx p0.Items s1).bind fun x3=>some x3.Id) else ((gy N p0 p1 k) (i64.wrap (s1+1)))))) else some 0)
def rC (N:Nat) (p0:ae) (p1:av):Option (Int):=
  gy N p0 p1 N 0
def fa (N:Nat) (p0:ae):Nat→Int→Option (Bool)
  | 0,_=>none
  | k+1,s1=>
    (if decide (s1 < (p0.Items.length:Int)) then ((idx p0.Items s1).bind fun x2=>((oy N x2.F).bind fun x3=>((if !x3 then some true else some (decide (x2.Id < 1))).bind fun b2=>((if b2 then some true else some (decide (p0.Next≤x2.Id))).bind fun b3=>((if b3 then some true else ((if decide (0 < s1) then ((idx p0.Items (i64.wrap (s1 - 1))).bind fun x4=>some (decide (x2.Id≤x4.Id))) else some false).bind fun b5=>some b5)).bind fun b4=>((if b4 then some true else ((rC N p0 x2.F).bind fun x5=>some (!decide (x5=x2.Id)))).bind fun b6=>(if b6 then some false else ((fa N p0 k) (i64.wrap (s1+1)))))))))) else some true)
def m9 (N:Nat) (p0:ae):Option (Bool):=
  ((cT N p0.Next 1 1000000).bind fun x1=>((if !x1 then some true else some (decide (40 < (p0.Items.length:Int)))).bind fun b1=>(if b1 then some false else fa N p0 N 0)))
def gg (N:Nat) (p0:(List Int)) (p1:(List Int)):Nat→Int→Option (Bool)
  | 0,_=>none
  | k+1,s1=>
    (if decide (s1 < (p0.length:Int)) then ((idx p0 s1).bind fun x1=>((idx p1 s1).bind fun x2=>(if !decide (x1=x2) then some false else ((gg N p0 p1 k) (i64.wrap (s1+1)))))) else some true)
def gw (N:Nat) (p0:(List Int)) (p1:(List Int)):Option (Bool):=
  (if !decide ((p0.length:Int)=(p1.length:Int)) then some false else gg N p0 p1 N 0)
def je (N:Nat) (p0:aj) (p1:aj):Option (Bool):=
  ((if seq p0.Kind p1.Kind then some (decide (p0.N=p1.N)) else some false).bind fun b1=>((if b1 then ((gw N p0.At p1.At).bind fun x1=>some x1) else some false).bind fun b2=>((if b2 then ((fW N p0.Consts p1.Consts).bind fun x2=>some x2) else some false).bind fun b3=>some b3)))
def ej (N:Nat) (p0:bB) (p1:aj):Nat→Int→Option (Int × bB)
  | 0,_=>none
  | k+1,s1=>
    (if decide (s1 < (p0.Alphas.length:Int)) then ((idx p0.Alphas s1).bind fun x1=>((je N x1 p1).bind fun x2=>(if x2 then some (s1,p0) else ((ej N p0 p1 k) (i64.wrap (s1+1)))))) else ((app p0.Alphas ([p1]:List aj)).bind fun x3=>some (i64.wrap ((x3.length:Int) - 1),(⟨x3,p0.Chains⟩:bB))))
def lS (N:Nat) (p0:bB) (p1:aj):Option (Int × bB):=
  ej N p0 p1 N 0
def em (N:Nat) (p0:ao):Nat→(List aP)→(List Int)→Int→Option (aj)
  | 0,_,_,_=>none
  | k+1,s1,s2,s3=>
    (if decide (s3 < (p0.Args.length:Int)) then ((idx p0.Args s3).bind fun x1=>(if decide (x1.K=2) then ((idx p0.Args s3).bind fun x2=>((app s1 ([x2.V]:List aP)).bind fun x3=>((app s2 ([s3]:List Int)).bind fun x4=>((em N p0 k) x3 x4 (i64.wrap (s3+1)))))) else ((em N p0 k) s1 s2 (i64.wrap (s3+1))))) else some (⟨p0.Kind,(p0.Args.length:Int),s1,s2⟩:aj))
def lR (N:Nat) (p0:ao):Option (aj):=
  em N p0 N ([]:List aP) ([]:List Int) 0
def dL (N:Nat) (p0:bh) (s2:(List aC)) (s3:Int) (K1:(List aj)→(List aC)→Int→Option (bB)):Nat→(List aj)→(List Int)→(List Int)→Int→Option (bB)
  | 0,_,_,_,_=>none
  | k+1,s4,s5,s6,s7=>
    ((idx p0.Rules s3).bind fun x1=>(if decide (s7 < (x1.Pats.length:Int)) then ((idx p0.Rules s3).bind fun x2=>((idx x2.Pats s7).bind fun x3=>((lR N x3).bind fun x4=>((lS N (⟨s4,s2⟩:bB) x4).bind fun x5=>(if x3.Not then ((app s5 ([x5.1]:List Int)).bind fun x6=>((dL N p0 s2 s3 K1 k) x5.2.Alphas x6 s6 (i64.wrap (s7+1)))) else ((app s6 ([x5.1]:List Int)).bind fun x7=>((dL N p0 s2 s3 K1 k) x5.2.Alphas s5 x7 (i64.wrap (s7+1))))))))) else ((app s2 ([(⟨s6,s5⟩:aC)]:List aC)).bind fun x8=>(K1 s4 x8 (i64.wrap (s3+1))))))
def cY (N:Nat) (p0:bh):Nat→(List aj)→(List aC)→Int→Option (bB)
  | 0,_,_,_=>none
  | k+1,s1,s2,s3=>
    (if decide (s3 < (p0.Rules.length:Int)) then dL N p0 s2 s3 (cY N p0 k) N s1 ([]:List Int) ([]:List Int) 0 else some (⟨s1,s2⟩:bB))
def om (N:Nat) (p0:bh):Option (bB):=
  cY N p0 N ([]:List aj) ([]:List aC) 0
def ik (N:Nat) (p0:bB) (s3:(List aF)) (s4:Int) (K2:(List aF)→Int→Option (aJ)):Nat→(List ab)→Int→Option (aJ)
  | 0,_,_=>none
  | k+1,s5,s6=>
    ((idx p0.Chains s4).bind fun x2=>(if decide (s6 < (x2.Pos.length:Int)) then ((app s5 ([(⟨[]⟩:ab)]:List ab)).bind fun x3=>((ik N p0 s3 s4 K2 k) x3 (i64.wrap (s6+1)))) else ((app s3 ([(⟨s5⟩:aF)]:List aF)).bind fun x4=>(K2 x4 (i64.wrap (s4+1))))))
def dX (N:Nat) (p0:bB) (s1:(List aQ)):Nat→(List aF)→Int→Option (aJ)
  | 0,_,_=>none
  | k+1,s3,s4=>
    (if decide (s4 < (p0.Chains.length:Int)) then ik N p0 s3 s4 (dX N p0 s1 k) N ([]:List ab) 0 else some (⟨s1,s3⟩:aJ))
def ic (N:Nat) (p0:bB):Nat→(List aQ)→Int→Option (aJ)
  | 0,_,_=>none
  | k+1,s1,s2=>
    (if decide (s2 < (p0.Alphas.length:Int)) then ((app s1 ([(⟨[]⟩:aQ)]:List aQ)).bind fun x1=>((ic N p0 k) x1 (i64.wrap (s2+1)))) else dX N p0 s1 N ([]:List aF) 0)
def oY (N:Nat) (p0:bB):Option (aJ):=
  ic N p0 N ([]:List aQ) 0
def oq (N:Nat) (p0:av):Option (av):=
  ((app ([]:List aP) p0.Fields).bind fun x1=>some (⟨p0.Kind,x1⟩:av))
def eK (N:Nat) (p0:ae) (p1:Int):Nat→Int→Option (av × Bool)
  | 0,_=>none
  | k+1,s1=>
    (if decide (s1 < (p0.Items.length:Int)) then ((idx p0.Items s1).bind fun x1=>(if decide (x1.Id=p1) then ((idx p0.Items s1).bind fun x2=>((oq N x2.F).bind fun x3=>some (x3,true))) else ((eK N p0 p1 k) (i64.wrap (s1+1))))) else some ((⟨(⟨#[]⟩:ByteArray),[]⟩:av),false))
def lF (N:Nat) (p0:ae) (p1:Int):Option (av × Bool):=
  eK N p0 p1 N 0
def fQ (N:Nat) (p0:aj) (p1:av):Nat→Int→Option (Bool)
  | 0,_=>none
  | k+1,s1=>
    (if decide (s1 < (p0.At.length:Int)) then ((idx p0.At s1).bind fun x1=>((if decide ((p0.Consts.length:Int)≤s1) then some true else ((cT N x1 0 (i64.wrap ((p1.Fields.length:Int) - 1))).bind fun x2=>some (!x2))).bind fun b2=>((if b2 then some true else ((idx p1.Fields x1).bind fun x3=>((idx p0.Consts s1).bind fun x4=>some (!(bb x3 x4))))).bind fun b3=>(if b3 then some false else ((fQ N p0 p1 k) (i64.wrap (s1+1))))))) else some true)
def oL (N:Nat) (p0:aj) (p1:av):Option (Bool):=
  ((if !seq p0.Kind p1.Kind then some true else some (!decide (p0.N=(p1.Fields.length:Int)))).bind fun b1=>(if b1 then some false else fQ N p0 p1 N 0))
def fJ (N:Nat) (p0:(List aB)) (p1:ByteArray):Nat→Int→Option (aP × Bool)
  | 0,_=>none
  | k+1,s1=>
    (if decide (s1 < (p0.length:Int)) then ((idx p0 s1).bind fun x1=>(if seq x1.Name p1 then ((idx p0 s1).bind fun x2=>some (x2.V,true)) else ((fJ N p0 p1 k) (i64.wrap (s1+1))))) else some ((⟨0,0,(⟨#[]⟩:ByteArray)⟩:aP),false))
def oC (N:Nat) (p0:(List aB)) (p1:ByteArray):Option (aP × Bool):=
  fJ N p0 p1 N 0
def ev (N:Nat) (p0:ao) (p1:av) (p2:(List aB)):Nat→(List aB)→Int→Option ((List aB) × Bool)
  | 0,_,_=>none
  | k+1,s1,s2=>
    (if decide (s2 < (p0.Args.length:Int)) then ((idx p0.Args s2).bind fun x2=>((oC N s1 x2.S).bind fun x3=>((if decide (x2.K=2) then ((idx p1.Fields s2).bind fun x4=>some (!(bb x2.V x4))) else some false).bind fun b2=>((if b2 then some true else ((if decide (x2.K=1) then some x3.2 else some false).bind fun b4=>((if b4 then ((idx p1.Fields s2).bind fun x5=>some (!(bb x3.1 x5))) else some false).bind fun b5=>some b5))).bind fun b3=>(if b3 then ((app ([]:List aB) p2).bind fun x6=>some (x6,false)) else ((if decide (x2.K=1) then some (!x3.2) else some false).bind fun b6=>(if b6 then ((idx p1.Fields s2).bind fun x7=>((app s1 ([(⟨x2.S,x7⟩:aB)]:List aB)).bind fun x8=>((ev N p0 p1 p2 k) x8 (i64.wrap (s2+1))))) else ((ev N p0 p1 p2 k) s1 (i64.wrap (s2+1)))))))))) else some (s1,true))
def iX (N:Nat) (p0:ao) (p1:av) (p2:(List aB)):Option ((List aB) × Bool):=
  ((app ([]:List aB) p2).bind fun x1=>((if !seq p0.Kind p1.Kind then some true else some (!decide ((p0.Args.length:Int)=(p1.Fields.length:Int)))).bind fun b1=>(if b1 then some (x1,false) else ev N p0 p1 p2 N x1 0)))
def jt (N:Nat) (p0:ac) (s1:(List aB)) (s2:Int) (K1:(List aB)→Int→Option ((List aB) × Bool)) (s3:(List aP)) (s4:Bool) (s5:ByteArray):Option ((List aB) × Bool):=
  ((idx p0.Pats s2).bind fun x3=>((iX N x3 (⟨s5,s3⟩:av) s1).bind fun x4=>((if !s4 then some true else some (!x4.2)).bind fun b1=>(if b1 then some (s1,false) else (K1 x4.1 (i64.wrap (s2+1)))))))
def dv (N:Nat) (p0:ac) (p1:ae) (p2:(List Int)):Nat→(List aB)→Int→Option ((List aB) × Bool)
  | 0,_,_=>none
  | k+1,s1,s2=>
    (if decide (s2 < (p2.length:Int)) then ((idx p2 s2).bind fun x5=>((lF N p1 x5).bind fun x6=>jt N p0 s1 s2 (dv N p0 p1 p2 k) x6.1.Fields x6.2 x6.1.Kind)) else some (s1,true))
def gL (N:Nat) (p0:ac) (p1:ae) (p2:(List Int)):Option ((List aB) × Bool):=
  dv N p0 p1 p2 N ([]:List aB) 0
def fK (N:Nat) (s1:(List Int)) (s2:Int) (K1:(List Int)→Int→Option ((List Int))) (s3:Int):Option ((List Int)):=
  ((app s1 ([s3]:List Int)).bind fun x4=>(K1 x4 (i64.wrap (s2+1))))
def cH (N:Nat) (p0:ac) (p1:av) (p2:(List aB)):Nat→(List Int)→Int→Option ((List Int))
  | 0,_,_=>none
  | k+1,s1,s2=>
    (if decide (s2 < (p0.Pats.length:Int)) then ((idx p0.Pats s2).bind fun x1=>(if x1.Not then ((idx p0.Pats s2).bind fun x2=>((iX N x2 p1 p2).bind fun x3=>(if x3.2 then fK N s1 s2 (cH N p0 p1 p2 k) 1 else fK N s1 s2 (cH N p0 p1 p2 k) 0))) else ((cH N p0 p1 p2 k) s1 (i64.wrap (s2+1))))) else some s1)
def li (N:Nat) (p0:ac) (p1:av) (p2:(List aB)):Option ((List Int)):=
  cH N p0 p1 p2 N ([]:List Int) 0
def cJ (N:Nat) (p4:Int) (s2:Int) (K1:(List aa)→Int→Option ((List aa))) (x2:(List aB) × Bool) (x3:(List Int)):Nat→(List aa)→Int→Option ((List aa))
  | 0,_,_=>none
  | k+1,s3,s4=>
    ((if decide (s4 < (x3.length:Int)) then some x2.2 else some false).bind fun b1=>(if b1 then ((idx s3 s2).bind fun x4=>((idx x4.Hits s4).bind fun x5=>((idx x3 s4).bind fun x6=>((idx x4.Hits s4).bind fun x7=>((cJ N p4 s2 K1 x2 x3 k) (s3.set s2.toNat (⟨x4.Ids,(x4.Hits.set s4.toNat (i64.wrap (x5+(i64.wrap (p4*x6)))))⟩:aa)) (i64.wrap (s4+1))))))) else (K1 s3 (i64.wrap (s2+1)))))
def bO (N:Nat) (p0:ac) (p1:ae) (p3:av) (p4:Int):Nat→(List aa)→Int→Option ((List aa))
  | 0,_,_=>none
  | k+1,s1,s2=>
    (if decide (s2 < (s1.length:Int)) then ((idx s1 s2).bind fun x1=>((gL N p0 p1 x1.Ids).bind fun x2=>((li N p0 p3 x2.1).bind fun x3=>cJ N p4 s2 (bO N p0 p1 p3 p4 k) x2 x3 N s1 0))) else some s1)
def lZ (N:Nat) (p0:ac) (p1:ae) (p2:(List aa)) (p3:av) (p4:Int):Option ((List aa)):=
  bO N p0 p1 p3 p4 N p2 0
def iN (N:Nat) (p0:(List aa)) (p1:ac) (p2:ae) (p3:(List Int)) (p4:Int):Option ((List aa)):=
  ((app ([]:List Int) p3).bind fun x1=>((app x1 ([p4]:List Int)).bind fun x2=>((gL N p1 p2 x2).bind fun x3=>(if !x3.2 then some p0 else ((app p0 ([(⟨x2,([]:List Int)⟩:aa)]:List aa)).bind fun x4=>some x4)))))
def dy (N:Nat) (s2:Int) (K1:(List Int)→Int→Option (aa)) (x5:(List Int)):Nat→(List Int)→Int→Option (aa)
  | 0,_,_=>none
  | k+1,s3,s4=>
    (if decide (s4 < (x5.length:Int)) then ((idx s3 s4).bind fun x6=>((idx x5 s4).bind fun x7=>((idx s3 s4).bind fun x8=>((dy N s2 K1 x5 k) (s3.set s4.toNat (i64.wrap (x6+x7))) (i64.wrap (s4+1)))))) else (K1 s3 (i64.wrap (s2+1))))
def cw (N:Nat) (p0:ac) (p1:ae) (p2:aa) (x1:(List aB) × Bool):Nat→(List Int)→Int→Option (aa)
  | 0,_,_=>none
  | k+1,s1,s2=>
    (if decide (s2 < (p1.Items.length:Int)) then ((idx p1.Items s2).bind fun x4=>((li N p0 x4.F x1.1).bind fun x5=>dy N s2 (cw N p0 p1 p2 x1 k) x5 N s1 0)) else some (⟨p2.Ids,s1⟩:aa))
def kJ (N:Nat) (p0:ac) (p1:ae) (p2:aa):Option (aa):=
  ((gL N p0 p1 p2.Ids).bind fun x1=>((iU N p0).bind fun x2=>((mk 0 (i64.wrap ((p0.Pats.length:Int) - x2))).bind fun x3=>cw N p0 p1 p2 x1 N x3 0)))
def ed (N:Nat) (p0:ac) (p4:ae) (s2:(List aa)) (x12:aQ) (s9:Int) (K5:(List aa)→Int→Option (aJ)):Nat→(List aa)→Int→Option (aJ)
  | 0,_,_=>none
  | k+1,s10,s11=>
    (if decide (s11 < (x12.L.length:Int)) then ((idx s2 s9).bind fun x13=>((idx x12.L s11).bind fun x14=>((iN N s10 p0 p4 x13.Ids x14).bind fun x15=>((ed N p0 p4 s2 x12 s9 K5 k) x15 (i64.wrap (s11+1)))))) else (K5 s10 (i64.wrap (s9+1))))
def bp (N:Nat) (p0:ac) (p4:ae) (x1:aF) (s1:(List ab)) (s3:Int) (K1:(List ab)→(List aa)→Int→Option (aJ)):Nat→(List aa)→Int→Option (aJ)
  | 0,_,_=>none
  | k+1,s12,s13=>
    ((if decide (s13 < (s12.length:Int)) then some (decide (s3=i64.wrap ((x1.Levels.length:Int) - 1))) else some false).bind fun b3=>(if b3 then ((idx s12 s13).bind fun x16=>((kJ N p0 p4 x16).bind fun x17=>((bp N p0 p4 x1 s1 s3 K1 k) (s12.set s13.toNat x17) (i64.wrap (s13+1))))) else ((idx s1 s3).bind fun x18=>((app x18.Toks s12).bind fun x19=>(K1 (s1.set s3.toNat (⟨x19⟩:ab)) s12 (i64.wrap (s3+1)))))))
def dd (N:Nat) (p0:ac) (p4:ae) (x1:aF) (s1:(List ab)) (s2:(List aa)) (s3:Int) (K1:(List ab)→(List aa)→Int→Option (aJ)) (x12:aQ):Nat→(List aa)→Int→Option (aJ)
  | 0,_,_=>none
  | k+1,s8,s9=>
    (if decide (s9 < (s2.length:Int)) then ed N p0 p4 s2 x12 s9 (dd N p0 p4 x1 s1 s2 s3 K1 x12 k) N s8 0 else bp N p0 p4 x1 s1 s3 K1 N s8 0)
def cI (N:Nat) (p0:ac) (p1:aC) (p2:aJ) (p4:ae) (p5:Int) (p7:(List Bool)) (x1:aF) (s1:(List ab)) (s2:(List aa)) (s3:Int) (K1:(List ab)→(List aa)→Int→Option (aJ)) (s5:Int):Nat→(List aa)→Int→Option (aJ)
  | 0,_,_=>none
  | k+1,s6,s7=>
    ((if decide (s7 < s5) then ((idx p1.Pos s3).bind fun x6=>((idx p7 x6).bind fun x7=>some x7)) else some false).bind fun b2=>(if b2 then ((idx s1 (i64.wrap (s3 - 1))).bind fun x8=>((idx x8.Toks s7).bind fun x9=>((iN N s6 p0 p4 x9.Ids p5).bind fun x10=>((cI N p0 p1 p2 p4 p5 p7 x1 s1 s2 s3 K1 s5 k) x10 (i64.wrap (s7+1)))))) else ((idx p1.Pos s3).bind fun x11=>((idx p2.Alphas x11).bind fun x12=>dd N p0 p4 x1 s1 s2 s3 K1 x12 N s6 0))))
def gm (N:Nat) (p0:ac) (p1:aC) (p2:aJ) (p4:ae) (p5:Int) (p7:(List Bool)) (x1:aF) (s1:(List ab)) (s2:(List aa)) (s3:Int) (K1:(List ab)→(List aa)→Int→Option (aJ)) (s4:(List aa)) (s5:Int):Option (aJ):=
  cI N p0 p1 p2 p4 p5 p7 x1 s1 s2 s3 K1 s5 N s4 0
def fb (N:Nat) (p0:ac) (p1:aC) (p2:aJ) (p4:ae) (p5:Int) (p7:(List Bool)) (x1:aF) (s1:(List ab)) (s2:(List aa)) (s3:Int) (K1:(List ab)→(List aa)→Int→Option (aJ)) (s4:(List aa)):Option (aJ):=
  (if decide (0 < s3) then ((idx s1 (i64.wrap (s3 - 1))).bind fun x20=>gm N p0 p1 p2 p4 p5 p7 x1 s1 s2 s3 K1 s4 (i64.wrap ((x20.Toks.length:Int) - (s2.length:Int)))) else gm N p0 p1 p2 p4 p5 p7 x1 s1 s2 s3 K1 s4 0)
def aT (N:Nat) (p0:ac) (p1:aC) (p2:aJ) (p3:Int) (p4:ae) (p5:Int) (p7:(List Bool)) (x1:aF):Nat→(List ab)→(List aa)→Int→Option (aJ)
  | 0,_,_,_=>none
  | k+1,s1,s2,s3=>
    (if decide (s3≤i64.wrap ((x1.Levels.length:Int) - 1)) then ((if decide (s3=0) then ((idx p1.Pos 0).bind fun x4=>((idx p7 x4).bind fun x5=>some x5)) else some false).bind fun b1=>(if b1 then ((iN N ([]:List aa) p0 p4 ([]:List Int) p5).bind fun x21=>fb N p0 p1 p2 p4 p5 p7 x1 s1 s2 s3 (aT N p0 p1 p2 p3 p4 p5 p7 x1 k) x21) else fb N p0 p1 p2 p4 p5 p7 x1 s1 s2 s3 (aT N p0 p1 p2 p3 p4 p5 p7 x1 k) ([]:List aa))) else some (⟨p2.Alphas,(p2.Rules.set p3.toNat (⟨s1⟩:aF))⟩:aJ))
def m3 (N:Nat) (p0:ac) (p1:aC) (p2:aJ) (p3:Int) (p4:ae) (p5:Int) (p6:av) (p7:(List Bool)):Option (aJ):=
  ((idx p2.Rules p3).bind fun x1=>((idx x1.Levels (i64.wrap ((x1.Levels.length:Int) - 1))).bind fun x2=>((lZ N p0 p4 x2.Toks p6 1).bind fun x3=>aT N p0 p1 p2 p3 p4 p5 p7 x1 N (x1.Levels.set (i64.wrap ((x1.Levels.length:Int) - 1)).toNat (⟨x3⟩:ab)) ([]:List aa) 0)))
def eI (N:Nat) (p0:bh) (p1:bB) (p3:ae) (p4:Int) (x1:av × Bool) (s1:(List aQ)) (s2:(List Bool)):Nat→(List aF)→Int→Option (aJ)
  | 0,_,_=>none
  | k+1,s4,s5=>
    (if decide (s5 < (p0.Rules.length:Int)) then ((idx p0.Rules s5).bind fun x7=>((idx p1.Chains s5).bind fun x8=>((m3 N x7 x8 (⟨s1,s4⟩:aJ) s5 p3 p4 x1.1 s2).bind fun x9=>((eI N p0 p1 p3 p4 x1 s1 s2 k) x9.Rules (i64.wrap (s5+1)))))) else some (⟨s1,s4⟩:aJ))
def dW (N:Nat) (p0:bh) (p1:bB) (p2:aJ) (p3:ae) (p4:Int) (x1:av × Bool):Nat→(List aQ)→(List Bool)→Int→Option (aJ)
  | 0,_,_,_=>none
  | k+1,s1,s2,s3=>
    (if decide (s3 < (p1.Alphas.length:Int)) then ((idx p1.Alphas s3).bind fun x2=>((oL N x2 x1.1).bind fun x3=>((app s2 ([x3]:List Bool)).bind fun x4=>(if x3 then ((idx s1 s3).bind fun x5=>((app x5.L ([p4]:List Int)).bind fun x6=>((dW N p0 p1 p2 p3 p4 x1 k) (s1.set s3.toNat (⟨x6⟩:aQ)) x4 (i64.wrap (s3+1))))) else ((dW N p0 p1 p2 p3 p4 x1 k) s1 x4 (i64.wrap (s3+1))))))) else eI N p0 p1 p3 p4 x1 s1 s2 N p2.Rules 0)
def oS (N:Nat) (p0:bh) (p1:bB) (p2:aJ) (p3:ae) (p4:Int):Option (aJ):=
  ((lF N p3 p4).bind fun x1=>dW N p0 p1 p2 p3 p4 x1 N p2.Alphas ([]:List Bool) 0)
def fG (N:Nat) (p0:bh) (p1:bB) (p2:ae):Nat→(List aQ)→(List aF)→Int→Option (aJ)
  | 0,_,_,_=>none
  | k+1,s1,s2,s3=>
    (if decide (s3 < (p2.Items.length:Int)) then ((ssl p2.Items 0 (i64.wrap (s3+1))).bind fun x2=>((idx p2.Items s3).bind fun x3=>((oS N p0 p1 (⟨s1,s2⟩:aJ) (⟨x2,p2.Next⟩:ae) x3.Id).bind fun x4=>((fG N p0 p1 p2 k) x4.Alphas x4.Rules (i64.wrap (s3+1)))))) else some (⟨s1,s2⟩:aJ))
def sk (N:Nat) (p0:bh) (p1:bB) (p2:ae):Option (aJ):=
  ((oY N p1).bind fun x1=>fG N p0 p1 p2 N x1.Alphas x1.Rules 0)
def ei (N:Nat) (p0:(List aa)) (p1:Int) (p2:Int):Nat→Int→Option (Bool)
  | 0,_=>none
  | k+1,s1=>
    (if decide (s1 < (p0.length:Int)) then ((idx p0 s1).bind fun x1=>((if !decide ((x1.Ids.length:Int)=p1) then some true else ((idx p0 s1).bind fun x2=>some (!decide ((x2.Hits.length:Int)=p2)))).bind fun b1=>(if b1 then some false else ((ei N p0 p1 p2 k) (i64.wrap (s1+1)))))) else some true)
def mB (N:Nat) (p0:(List aa)) (p1:Int) (p2:Int):Option (Bool):=
  ei N p0 p1 p2 N 0
def es (N:Nat) (p1:aJ) (s1:Int) (s2:Int) (K2:Int→Option (Bool)) (s3:Int):Option (Bool):=
  ((idx p1.Rules s1).bind fun x3=>((idx x3.Levels s2).bind fun x4=>((mB N x4.Toks (i64.wrap (s2+1)) s3).bind fun x5=>(if !x5 then some false else (K2 (i64.wrap (s2+1)))))))
def bJ (N:Nat) (p0:bB) (p1:aJ) (s1:Int) (K1:Int→Option (Bool)) (x1:aC):Nat→Int→Option (Bool)
  | 0,_=>none
  | k+1,s2=>
    (if decide (s2 < (x1.Pos.length:Int)) then (if decide (s2=i64.wrap ((x1.Pos.length:Int) - 1)) then ((idx p0.Chains s1).bind fun x6=>es N p1 s1 s2 (bJ N p0 p1 s1 K1 x1 k) (x6.Neg.length:Int)) else es N p1 s1 s2 (bJ N p0 p1 s1 K1 x1 k) 0) else (K1 (i64.wrap (s1+1))))
def bo (N:Nat) (p0:bB) (p1:aJ):Nat→Int→Option (Bool)
  | 0,_=>none
  | k+1,s1=>
    (if decide (s1 < (p1.Rules.length:Int)) then ((idx p0.Chains s1).bind fun x1=>((idx p1.Rules s1).bind fun x2=>(if !decide ((x2.Levels.length:Int)=(x1.Pos.length:Int)) then some false else bJ N p0 p1 s1 (bo N p0 p1 k) x1 N 0))) else some true)
def kt (N:Nat) (p0:bB) (p1:aJ):Option (Bool):=
  ((if !decide ((p1.Alphas.length:Int)=(p0.Alphas.length:Int)) then some true else some (!decide ((p1.Rules.length:Int)=(p0.Chains.length:Int)))).bind fun b1=>(if b1 then some false else bo N p0 p1 N 0))
def eM (N:Nat) (p0:(List aa)) (p1:aa):Nat→Int→Option (Bool)
  | 0,_=>none
  | k+1,s1=>
    (if decide (s1 < (p0.length:Int)) then ((idx p0 s1).bind fun x1=>((gw N x1.Ids p1.Ids).bind fun x2=>((if x2 then ((idx p0 s1).bind fun x3=>((gw N x3.Hits p1.Hits).bind fun x4=>some x4)) else some false).bind fun b1=>(if b1 then some true else ((eM N p0 p1 k) (i64.wrap (s1+1))))))) else some false)
def lC (N:Nat) (p0:(List aa)) (p1:aa):Option (Bool):=
  eM N p0 p1 N 0
def du (N:Nat) (p0:(List aa)) (p1:(List aa)):Nat→Int→Option (Bool)
  | 0,_=>none
  | k+1,s1=>
    (if decide (s1 < (p0.length:Int)) then ((idx p0 s1).bind fun x1=>((lC N p1 x1).bind fun x2=>((if !x2 then some true else ((idx p1 s1).bind fun x3=>((lC N p0 x3).bind fun x4=>some (!x4)))).bind fun b1=>(if b1 then some false else ((du N p0 p1 k) (i64.wrap (s1+1))))))) else some true)
def jY (N:Nat) (p0:(List aa)) (p1:(List aa)):Option (Bool):=
  (if !decide ((p0.length:Int)=(p1.length:Int)) then some false else du N p0 p1 N 0)
def cM (N:Nat) (p1:aJ) (x5:aJ) (s2:Int) (K2:Int→Option (Bool)):Nat→Int→Option (Bool)
  | 0,_=>none
  | k+1,s3=>
    ((idx p1.Rules s2).bind fun x10=>(if decide (s3 < (x10.Levels.length:Int)) then ((idx p1.Rules s2).bind fun x11=>((idx x11.Levels s3).bind fun x12=>((idx x5.Rules s2).bind fun x13=>((idx x13.Levels s3).bind fun x14=>((jY N x12.Toks x14.Toks).bind fun x15=>(if !x15 then some false else ((cM N p1 x5 s2 K2 k) (i64.wrap (s3+1))))))))) else (K2 (i64.wrap (s2+1)))))
def bP (N:Nat) (p1:aJ) (x5:aJ):Nat→Int→Option (Bool)
  | 0,_=>none
  | k+1,s2=>
    (if decide (s2 < (p1.Rules.length:Int)) then cM N p1 x5 s2 (bP N p1 x5 k) N 0 else some true)
def cP (N:Nat) (p1:aJ) (x5:aJ):Nat→Int→Option (Bool)
  | 0,_=>none
  | k+1,s1=>
    (if decide (s1 < (p1.Alphas.length:Int)) then ((idx p1.Alphas s1).bind fun x7=>((idx x5.Alphas s1).bind fun x8=>((gw N x7.L x8.L).bind fun x9=>(if !x9 then some false else ((cP N p1 x5 k) (i64.wrap (s1+1))))))) else bP N p1 x5 N 0)
def kz (N:Nat) (p0:bh) (p1:aJ) (p2:ae):Option (Bool):=
  ((qe N p0).bind fun x1=>((if !x1 then some true else ((m9 N p2).bind fun x2=>some (!x2))).bind fun b1=>(if b1 then some false else ((om N p0).bind fun x3=>((sk N p0 x3 p2).bind fun x5=>((kt N x3 p1).bind fun x6=>(if !x6 then some false else cP N p1 x5 N 0)))))))
def lj (N:Nat) (p0:aP):Option (aP):=
  some p0
def io (N:Nat) (p0:bk):Option (bk):=
  ((lj N p0.V).bind fun x1=>some (⟨p0.K,p0.S,x1⟩:bk))
def jg (N:Nat) (p0:(List bk)):Nat→(List bk)→Int→Option ((List bk))
  | 0,_,_=>none
  | k+1,s1,s2=>
    (if decide (s2 < (p0.length:Int)) then ((idx p0 s2).bind fun x2=>((io N x2).bind fun x3=>((idx s1 s2).bind fun x4=>((jg N p0 k) (s1.set s2.toNat x3) (i64.wrap (s2+1)))))) else some s1)
def nL (N:Nat) (p0:(List bk)):Option ((List bk)):=
  ((mk (⟨0,(⟨#[]⟩:ByteArray),(⟨0,0,(⟨#[]⟩:ByteArray)⟩:aP)⟩:bk) (p0.length:Int)).bind fun x1=>jg N p0 N x1 0)
def np (N:Nat) (p0:ao):Option (ao):=
  ((nL N p0.Args).bind fun x1=>some (⟨p0.Kind,x1,p0.Not⟩:ao))
def jf (N:Nat) (p0:(List ao)):Nat→(List ao)→Int→Option ((List ao))
  | 0,_,_=>none
  | k+1,s1,s2=>
    (if decide (s2 < (p0.length:Int)) then ((idx p0 s2).bind fun x2=>((np N x2).bind fun x3=>((idx s1 s2).bind fun x4=>((jf N p0 k) (s1.set s2.toNat x3) (i64.wrap (s2+1)))))) else some s1)
def nU (N:Nat) (p0:(List ao)):Option ((List ao)):=
  ((mk (⟨(⟨#[]⟩:ByteArray),([]:List bk),false⟩:ao) (p0.length:Int)).bind fun x1=>jf N p0 N x1 0)
def kZ (N:Nat) (p0:bz):Option (bz):=
  ((io N p0.L).bind fun x1=>((io N p0.R).bind fun x2=>some (⟨p0.Op,x1,x2⟩:bz)))
def iE (N:Nat) (p0:(List bz)):Nat→(List bz)→Int→Option ((List bz))
  | 0,_,_=>none
  | k+1,s1,s2=>
    (if decide (s2 < (p0.length:Int)) then ((idx p0 s2).bind fun x2=>((kZ N x2).bind fun x3=>((idx s1 s2).bind fun x4=>((iE N p0 k) (s1.set s2.toNat x3) (i64.wrap (s2+1)))))) else some s1)
def lU (N:Nat) (p0:(List bz)):Option ((List bz)):=
  ((mk (⟨0,(⟨0,(⟨#[]⟩:ByteArray),(⟨0,0,(⟨#[]⟩:ByteArray)⟩:aP)⟩:bk),(⟨0,(⟨#[]⟩:ByteArray),(⟨0,0,(⟨#[]⟩:ByteArray)⟩:aP)⟩:bk)⟩:bz) (p0.length:Int)).bind fun x1=>iE N p0 N x1 0)
def lH (N:Nat) (p0:br):Option (br):=
  ((io N p0.L).bind fun x1=>((io N p0.R).bind fun x2=>some (⟨p0.Op,x1,x2⟩:br)))
def iJ (N:Nat) (p0:(List br)):Nat→(List br)→Int→Option ((List br))
  | 0,_,_=>none
  | k+1,s1,s2=>
    (if decide (s2 < (p0.length:Int)) then ((idx p0 s2).bind fun x2=>((lH N x2).bind fun x3=>((idx s1 s2).bind fun x4=>((iJ N p0 k) (s1.set s2.toNat x3) (i64.wrap (s2+1)))))) else some s1)
def mt (N:Nat) (p0:(List br)):Option ((List br)):=
  ((mk (⟨(⟨#[]⟩:ByteArray),(⟨0,(⟨#[]⟩:ByteArray),(⟨0,0,(⟨#[]⟩:ByteArray)⟩:aP)⟩:bk),(⟨0,(⟨#[]⟩:ByteArray),(⟨0,0,(⟨#[]⟩:ByteArray)⟩:aP)⟩:bk)⟩:br) (p0.length:Int)).bind fun x1=>iJ N p0 N x1 0)
def ni (N:Nat) (p0:bX):Option (bX):=
  ((mt N p0.Args).bind fun x1=>some (⟨p0.Kind,p0.Name,x1,p0.N,p0.Undo⟩:bX))
def jk (N:Nat) (p0:(List bX)):Nat→(List bX)→Int→Option ((List bX))
  | 0,_,_=>none
  | k+1,s1,s2=>
    (if decide (s2 < (p0.length:Int)) then ((idx p0 s2).bind fun x2=>((ni N x2).bind fun x3=>((idx s1 s2).bind fun x4=>((jk N p0 k) (s1.set s2.toNat x3) (i64.wrap (s2+1)))))) else some s1)
def oE (N:Nat) (p0:(List bX)):Option ((List bX)):=
  ((mk (⟨0,(⟨#[]⟩:ByteArray),([]:List br),0,(⟨#[]⟩:ByteArray)⟩:bX) (p0.length:Int)).bind fun x1=>jk N p0 N x1 0)
def l7 (N:Nat) (p0:ac):Option (ac):=
  ((nU N p0.Pats).bind fun x1=>((lU N p0.Conds).bind fun x2=>((oE N p0.Acts).bind fun x3=>some (⟨p0.Name,p0.Sal,x1,x2,x3⟩:ac))))
def iG (N:Nat) (p0:(List ac)):Nat→(List ac)→Int→Option ((List ac))
  | 0,_,_=>none
  | k+1,s1,s2=>
    (if decide (s2 < (p0.length:Int)) then ((idx p0 s2).bind fun x2=>((l7 N x2).bind fun x3=>((idx s1 s2).bind fun x4=>((iG N p0 k) (s1.set s2.toNat x3) (i64.wrap (s2+1)))))) else some s1)
def lY (N:Nat) (p0:(List ac)):Option ((List ac)):=
  ((mk (⟨(⟨#[]⟩:ByteArray),0,([]:List ao),([]:List bz),([]:List bX)⟩:ac) (p0.length:Int)).bind fun x1=>iG N p0 N x1 0)
def lE (N:Nat) (p0:bh):Option (bh):=
  ((lY N p0.Rules).bind fun x1=>some (⟨p0.Name,x1⟩:bh))
def j8 (N:Nat) (p0:(List Int)):Nat→(List Int)→Int→Option ((List Int))
  | 0,_,_=>none
  | k+1,s1,s2=>
    (if decide (s2 < (p0.length:Int)) then ((idx p0 s2).bind fun x2=>((idx s1 s2).bind fun x3=>((j8 N p0 k) (s1.set s2.toNat x2) (i64.wrap (s2+1))))) else some s1)
def jx (N:Nat) (p0:(List Int)):Option ((List Int)):=
  ((mk 0 (p0.length:Int)).bind fun x1=>j8 N p0 N x1 0)
def nB (N:Nat) (p0:aQ):Option (aQ):=
  ((jx N p0.L).bind fun x1=>some (⟨x1⟩:aQ))
def j9 (N:Nat) (p0:(List aQ)):Nat→(List aQ)→Int→Option ((List aQ))
  | 0,_,_=>none
  | k+1,s1,s2=>
    (if decide (s2 < (p0.length:Int)) then ((idx p0 s2).bind fun x2=>((nB N x2).bind fun x3=>((idx s1 s2).bind fun x4=>((j9 N p0 k) (s1.set s2.toNat x3) (i64.wrap (s2+1)))))) else some s1)
def o4 (N:Nat) (p0:(List aQ)):Option ((List aQ)):=
  ((mk (⟨([]:List Int)⟩:aQ) (p0.length:Int)).bind fun x1=>j9 N p0 N x1 0)
def nA (N:Nat) (p0:aa):Option (aa):=
  ((jx N p0.Ids).bind fun x1=>((jx N p0.Hits).bind fun x2=>some (⟨x1,x2⟩:aa)))
def j7 (N:Nat) (p0:(List aa)):Nat→(List aa)→Int→Option ((List aa))
  | 0,_,_=>none
  | k+1,s1,s2=>
    (if decide (s2 < (p0.length:Int)) then ((idx p0 s2).bind fun x2=>((nA N x2).bind fun x3=>((idx s1 s2).bind fun x4=>((j7 N p0 k) (s1.set s2.toNat x3) (i64.wrap (s2+1)))))) else some s1)
def nT (N:Nat) (p0:(List aa)):Option ((List aa)):=
  ((mk (⟨([]:List Int),([]:List Int)⟩:aa) (p0.length:Int)).bind fun x1=>j7 N p0 N x1 0)
def jS (N:Nat) (p0:ab):Option (ab):=
  ((nT N p0.Toks).bind fun x1=>some (⟨x1⟩:ab))
def gR (N:Nat) (p0:(List ab)):Nat→(List ab)→Int→Option ((List ab))
  | 0,_,_=>none
  | k+1,s1,s2=>
    (if decide (s2 < (p0.length:Int)) then ((idx p0 s2).bind fun x2=>((jS N x2).bind fun x3=>((idx s1 s2).bind fun x4=>((gR N p0 k) (s1.set s2.toNat x3) (i64.wrap (s2+1)))))) else some s1)
def kM (N:Nat) (p0:(List ab)):Option ((List ab)):=
  ((mk (⟨([]:List aa)⟩:ab) (p0.length:Int)).bind fun x1=>gR N p0 N x1 0)
def nw (N:Nat) (p0:aF):Option (aF):=
  ((kM N p0.Levels).bind fun x1=>some (⟨x1⟩:aF))
def jm (N:Nat) (p0:(List aF)):Nat→(List aF)→Int→Option ((List aF))
  | 0,_,_=>none
  | k+1,s1,s2=>
    (if decide (s2 < (p0.length:Int)) then ((idx p0 s2).bind fun x2=>((nw N x2).bind fun x3=>((idx s1 s2).bind fun x4=>((jm N p0 k) (s1.set s2.toNat x3) (i64.wrap (s2+1)))))) else some s1)
def oO (N:Nat) (p0:(List aF)):Option ((List aF)):=
  ((mk (⟨([]:List ab)⟩:aF) (p0.length:Int)).bind fun x1=>jm N p0 N x1 0)
def lx (N:Nat) (p0:aJ):Option (aJ):=
  ((o4 N p0.Alphas).bind fun x1=>((oO N p0.Rules).bind fun x2=>some (⟨x1,x2⟩:aJ)))
def jc (N:Nat) (p0:(List aP)):Nat→(List aP)→Int→Option ((List aP))
  | 0,_,_=>none
  | k+1,s1,s2=>
    (if decide (s2 < (p0.length:Int)) then ((idx p0 s2).bind fun x2=>((lj N x2).bind fun x3=>((idx s1 s2).bind fun x4=>((jc N p0 k) (s1.set s2.toNat x3) (i64.wrap (s2+1)))))) else some s1)
def nS (N:Nat) (p0:(List aP)):Option ((List aP)):=
  ((mk (⟨0,0,(⟨#[]⟩:ByteArray)⟩:aP) (p0.length:Int)).bind fun x1=>jc N p0 N x1 0)
def oe (N:Nat) (p0:av):Option (av):=
  ((nS N p0.Fields).bind fun x1=>some (⟨p0.Kind,x1⟩:av))
def lA (N:Nat) (p0:an):Option (an):=
  ((oe N p0.F).bind fun x1=>some (⟨p0.Id,x1⟩:an))
def iH (N:Nat) (p0:(List an)):Nat→(List an)→Int→Option ((List an))
  | 0,_,_=>none
  | k+1,s1,s2=>
    (if decide (s2 < (p0.length:Int)) then ((idx p0 s2).bind fun x2=>((lA N x2).bind fun x3=>((idx s1 s2).bind fun x4=>((iH N p0 k) (s1.set s2.toNat x3) (i64.wrap (s2+1)))))) else some s1)
def mi (N:Nat) (p0:(List an)):Option ((List an)):=
  ((mk (⟨0,(⟨(⟨#[]⟩:ByteArray),([]:List aP)⟩:av)⟩:an) (p0.length:Int)).bind fun x1=>iH N p0 N x1 0)
def iR (N:Nat) (p0:ae):Option (ae):=
  ((mi N p0.Items).bind fun x1=>some (⟨x1,p0.Next⟩:ae))
def iM (N:Nat) (p0:Int):Option (Bool):=
  ((if decide (97≤p0) then some (decide (p0≤122)) else some false).bind fun b1=>some b1)
def pt (N:Nat) (p0:Int):Option (Bool):=
  ((if decide (48≤p0) then some (decide (p0≤57)) else some false).bind fun b1=>some b1)
def fY (N:Nat) (p0:Int):Option (Bool):=
  ((iM N p0).bind fun x1=>((if x1 then some true else ((pt N p0).bind fun x2=>some x2)).bind fun b1=>((if b1 then some true else some (decide (p0=95))).bind fun b2=>some b2)))
def dU (N:Nat) (p0:ByteArray):Nat→Int→Option (Bool)
  | 0,_=>none
  | k+1,s1=>
    (if decide (s1 < (p0.size:Int)) then ((idx p0.data.toList s1).bind fun y1=>((fY N (y1.toNat:Int)).bind fun x1=>(if !x1 then some false else ((dU N p0 k) (i64.wrap (s1+1)))))) else some true)
def kR (N:Nat) (p0:ByteArray) (p1:Int):Option (Bool):=
  (if decide (p1 < (p0.size:Int)) then some false else dU N p0 N 0)
def eZ (N:Nat) (p0:ByteArray):Option (Bool):=
  ((if decide (0 < (p0.size:Int)) then ((idx p0.data.toList 0).bind fun y1=>((iM N (y1.toNat:Int)).bind fun x1=>some x1)) else some false).bind fun b1=>((if b1 then ((kR N p0 12).bind fun x2=>some x2) else some false).bind fun b2=>some b2))
def cj (N:Nat) (p0:Int) (p1:Int) (p2:Int):Option (Bool):=
  ((if decide (p1≤p0) then some (decide (p0≤p2)) else some false).bind fun b1=>some b1)
def cQ (N:Nat) (p0:ac):Nat→Int→Int→Option (Int)
  | 0,_,_=>none
  | k+1,s1,s2=>
    (if decide (s2 < (p0.Pats.length:Int)) then ((idx p0.Pats s2).bind fun x1=>(if !x1.Not then ((cQ N p0 k) (i64.wrap (s1+1)) (i64.wrap (s2+1))) else ((cQ N p0 k) s1 (i64.wrap (s2+1))))) else some s1)
def gJ (N:Nat) (p0:ac):Option (Int):=
  cQ N p0 N 0 0
def jL (N:Nat) (p0:aP):Option (Bool):=
  (if decide (p0.K=1) then ((cj N p0.N (-1000000000) 1000000000).bind fun x1=>((if x1 then some (seq p0.S (⟨#[]⟩:ByteArray)) else some false).bind fun b1=>some b1)) else (if decide (p0.K=2) then ((if decide (p0.N=0) then ((kR N p0.S 20).bind fun x2=>some x2) else some false).bind fun b2=>some b2) else some false))
def jJ (N:Nat) (p0:Int):Option (Bool):=
  ((if decide (65≤p0) then some (decide (p0≤90)) else some false).bind fun b1=>some b1)
def fA (N:Nat) (p0:ByteArray):Nat→Int→Option (Bool)
  | 0,_=>none
  | k+1,s1=>
    (if decide (s1 < (p0.size:Int)) then ((idx p0.data.toList s1).bind fun y2=>((fY N (y2.toNat:Int)).bind fun x2=>((if !x2 then ((idx p0.data.toList s1).bind fun y3=>((jJ N (y3.toNat:Int)).bind fun x3=>some (!x3))) else some false).bind fun b3=>(if b3 then some false else ((fA N p0 k) (i64.wrap (s1+1))))))) else some true)
def pZ (N:Nat) (p0:ByteArray):Option (Bool):=
  ((if decide ((p0.size:Int) < 1) then some true else some (decide (12 < (p0.size:Int)))).bind fun b1=>((if b1 then some true else ((idx p0.data.toList 0).bind fun y1=>((jJ N (y1.toNat:Int)).bind fun x1=>some (!x1)))).bind fun b2=>(if b2 then some false else fA N p0 N 0)))
def nu (N:Nat) (p0:bk):Option (Bool):=
  (if decide (p0.K=1) then ((pZ N p0.S).bind fun x1=>((if x1 then some (bb p0.V (⟨0,0,(⟨#[]⟩:ByteArray)⟩:aP)) else some false).bind fun b1=>some b1)) else (if decide (p0.K=2) then ((if seq p0.S (⟨#[]⟩:ByteArray) then ((jL N p0.V).bind fun x2=>some x2) else some false).bind fun b2=>some b2) else (if decide (p0.K=3) then ((if seq p0.S (⟨#[]⟩:ByteArray) then some (bb p0.V (⟨0,0,(⟨#[]⟩:ByteArray)⟩:aP)) else some false).bind fun b3=>some b3) else some false)))
def fC (N:Nat) (p0:ao):Nat→Int→Option (Bool)
  | 0,_=>none
  | k+1,s1=>
    (if decide (s1 < (p0.Args.length:Int)) then ((idx p0.Args s1).bind fun x2=>((nu N x2).bind fun x3=>(if !x3 then some false else ((fC N p0 k) (i64.wrap (s1+1)))))) else some true)
def qi (N:Nat) (p0:ao):Option (Bool):=
  ((eZ N p0.Kind).bind fun x1=>((if !x1 then some true else some (decide (5 < (p0.Args.length:Int)))).bind fun b1=>(if b1 then some false else fC N p0 N 0)))
def dI (N:Nat) (p0:ac):Nat→Int→Option (Bool)
  | 0,_=>none
  | k+1,s1=>
    (if decide (s1 < (p0.Pats.length:Int)) then ((idx p0.Pats s1).bind fun x4=>((qi N x4).bind fun x5=>((if !x5 then some true else ((gJ N p0).bind fun x6=>some (x4.Not != (decide (x6≤s1))))).bind fun b2=>(if b2 then some false else ((dI N p0 k) (i64.wrap (s1+1))))))) else some true)
def ov (N:Nat) (p0:ac):Option (Bool):=
  ((cj N (p0.Pats.length:Int) 1 6).bind fun x1=>((if !x1 then some true else ((gJ N p0).bind fun x2=>((cj N x2 1 3).bind fun x3=>some (!x3)))).bind fun b1=>(if b1 then some false else dI N p0 N 0)))
def gK (N:Nat) (p0:bk):Option (Bool):=
  ((if !decide (p0.K=3) then ((nu N p0).bind fun x1=>some x1) else some false).bind fun b1=>some b1)
def nW (N:Nat) (p0:bz):Option (Bool):=
  ((cj N p0.Op 1 3).bind fun x1=>((if x1 then ((gK N p0.L).bind fun x2=>some x2) else some false).bind fun b1=>((if b1 then ((gK N p0.R).bind fun x3=>some x3) else some false).bind fun b2=>some b2)))
def iq (N:Nat) (p0:br) (s1:Bool):Option (Bool):=
  (if s1 then ((gK N p0.L).bind fun x2=>((if x2 then ((gK N p0.R).bind fun x3=>some x3) else some false).bind fun b2=>some b2)) else some false)
def oB (N:Nat) (p0:br):Option (Bool):=
  (if seq p0.Op (⟨#[]⟩:ByteArray) then ((gK N p0.L).bind fun x1=>((if x1 then some (oc p0.R (⟨0,(⟨#[]⟩:ByteArray),(⟨0,0,(⟨#[]⟩:ByteArray)⟩:aP)⟩:bk)) else some false).bind fun b1=>some b1)) else (if seq p0.Op (⟨#[43]⟩:ByteArray) then iq N p0 (seq p0.Op (⟨#[43]⟩:ByteArray)) else iq N p0 (seq p0.Op (⟨#[45]⟩:ByteArray))))
def dR (N:Nat) (p0:bX):Nat→Int→Option (Bool)
  | 0,_=>none
  | k+1,s1=>
    (if decide (s1 < (p0.Args.length:Int)) then ((idx p0.Args s1).bind fun x2=>((oB N x2).bind fun x3=>(if !x3 then some false else ((dR N p0 k) (i64.wrap (s1+1)))))) else some true)
def jw (N:Nat) (p0:bX):Option (Bool):=
  ((eZ N p0.Name).bind fun x1=>((if !x1 then some true else some (decide (5 < (p0.Args.length:Int)))).bind fun b1=>(if b1 then some false else dR N p0 N 0)))
def ra (N:Nat) (p0:ByteArray):Option (Bool):=
  ((if seq p0 (⟨#[]⟩:ByteArray) then some true else ((eZ N p0).bind fun x1=>some x1)).bind fun b1=>some b1)
def iT (N:Nat) (p0:bX) (b1:Bool) (s1:Bool):Option (Bool):=
  (if s1 then ((if b1 then some (decide (p0.N=0)) else some false).bind fun b10=>((if b10 then some (seq p0.Undo (⟨#[]⟩:ByteArray)) else some false).bind fun b11=>some b11)) else some false)
def qy (N:Nat) (p0:bX):Option (Bool):=
  ((if seq p0.Name (⟨#[]⟩:ByteArray) then some (decide ((p0.Args.length:Int)=0)) else some false).bind fun b1=>(if decide (p0.Kind=1) then ((jw N p0).bind fun x1=>((if x1 then some (decide (p0.N=0)) else some false).bind fun b2=>((if b2 then some (seq p0.Undo (⟨#[]⟩:ByteArray)) else some false).bind fun b3=>some b3))) else (if decide (p0.Kind=2) then ((if b1 then ((cj N p0.N 0 7).bind fun x2=>some x2) else some false).bind fun b4=>((if b4 then some (seq p0.Undo (⟨#[]⟩:ByteArray)) else some false).bind fun b5=>some b5)) else (if decide (p0.Kind=3) then ((jw N p0).bind fun x3=>((if x3 then some (decide (p0.N=0)) else some false).bind fun b6=>((if b6 then ((ra N p0.Undo).bind fun x4=>some x4) else some false).bind fun b7=>some b7))) else (if decide (p0.Kind=4) then ((jw N p0).bind fun x5=>((if x5 then ((cj N p0.N 0 100000).bind fun x6=>some x6) else some false).bind fun b8=>((if b8 then some (seq p0.Undo (⟨#[]⟩:ByteArray)) else some false).bind fun b9=>some b9))) else (if decide (p0.Kind=5) then iT N p0 b1 (decide (p0.Kind=5)) else iT N p0 b1 (decide (p0.Kind=6))))))))
def aU (N:Nat) (p0:(List ByteArray)) (p1:ByteArray):Nat→Int→Option (Int)
  | 0,_=>none
  | k+1,s1=>
    (if decide (s1 < (p0.length:Int)) then ((idx p0 s1).bind fun x1=>(if seq p1 x1 then some s1 else ((aU N p0 p1 k) (i64.wrap (s1+1))))) else some (-1))
def cB (N:Nat) (p0:(List ByteArray)) (p1:ByteArray):Option (Int):=
  aU N p0 p1 N 0
def bA (N:Nat) (p0:(List ByteArray)) (p1:ByteArray):Option (Bool):=
  ((cB N p0 p1).bind fun x1=>some (decide (0≤x1)))
def mg (N:Nat) (p0:(List ByteArray)) (p1:ByteArray):Option ((List ByteArray)):=
  ((bA N p0 p1).bind fun x1=>(if x1 then some p0 else ((app p0 ([p1]:List ByteArray)).bind fun x2=>some x2)))
def ee (N:Nat) (p1:(List bk)):Nat→(List ByteArray)→Int→Option ((List ByteArray))
  | 0,_,_=>none
  | k+1,s1,s2=>
    (if decide (s2 < (p1.length:Int)) then ((idx p1 s2).bind fun x1=>(if decide (x1.K=1) then ((mg N s1 x1.S).bind fun x2=>((ee N p1 k) x2 (i64.wrap (s2+1)))) else ((ee N p1 k) s1 (i64.wrap (s2+1))))) else some s1)
def iK (N:Nat) (p0:(List ByteArray)) (p1:(List bk)):Option ((List ByteArray)):=
  ee N p1 N p0 0
def eh (N:Nat) (p0:ac):Nat→(List ByteArray)→Int→Option ((List ByteArray))
  | 0,_,_=>none
  | k+1,s1,s2=>
    (if decide (s2 < (p0.Pats.length:Int)) then ((idx p0.Pats s2).bind fun x1=>(if !x1.Not then ((iK N s1 x1.Args).bind fun x2=>((eh N p0 k) x2 (i64.wrap (s2+1)))) else ((eh N p0 k) s1 (i64.wrap (s2+1))))) else some s1)
def jM (N:Nat) (p0:ac):Option ((List ByteArray)):=
  eh N p0 N ([]:List ByteArray) 0
def dt (N:Nat) (s4:Int) (K2:(List ByteArray)→Int→Option ((List ByteArray))) (x3:bX):Nat→(List ByteArray)→Int→Option ((List ByteArray))
  | 0,_,_=>none
  | k+1,s5,s6=>
    (if decide (s6 < (x3.Args.length:Int)) then ((idx x3.Args s6).bind fun x4=>((iK N s5 ([x4.L,x4.R]:List bk)).bind fun x5=>((dt N s4 K2 x3 k) x5 (i64.wrap (s6+1))))) else (K2 s5 (i64.wrap (s4+1))))
def cv (N:Nat) (p0:ac):Nat→(List ByteArray)→Int→Option ((List ByteArray))
  | 0,_,_=>none
  | k+1,s3,s4=>
    (if decide (s4 < (p0.Acts.length:Int)) then ((idx p0.Acts s4).bind fun x3=>dt N s4 (cv N p0 k) x3 N s3 0) else some s3)
def eu (N:Nat) (p0:ac):Nat→(List ByteArray)→Int→Option ((List ByteArray))
  | 0,_,_=>none
  | k+1,s1,s2=>
    (if decide (s2 < (p0.Conds.length:Int)) then ((idx p0.Conds s2).bind fun x1=>((iK N s1 ([x1.L,x1.R]:List bk)).bind fun x2=>((eu N p0 k) x2 (i64.wrap (s2+1))))) else cv N p0 N s1 0)
def jT (N:Nat) (p0:ac):Option ((List ByteArray)):=
  eu N p0 N ([]:List ByteArray) 0
def dT (N:Nat) (x10:(List ByteArray)) (x11:(List ByteArray)):Nat→Int→Option (Bool)
  | 0,_=>none
  | k+1,s3=>
    (if decide (s3 < (x11.length:Int)) then ((idx x11 s3).bind fun x12=>((bA N x10 x12).bind fun x13=>(if !x13 then some false else ((dT N x10 x11 k) (i64.wrap (s3+1)))))) else some true)
def dV (N:Nat) (p0:ac):Nat→Int→Option (Bool)
  | 0,_=>none
  | k+1,s2=>
    (if decide (s2 < (p0.Acts.length:Int)) then ((idx p0.Acts s2).bind fun x7=>((qy N x7).bind fun x8=>((if !x8 then some true else ((if decide (x7.Kind=2) then ((gJ N p0).bind fun x9=>some (decide (x9≤x7.N))) else some false).bind fun b5=>some b5)).bind fun b4=>(if b4 then some false else ((dV N p0 k) (i64.wrap (s2+1))))))) else ((jM N p0).bind fun x10=>((jT N p0).bind fun x11=>dT N x10 x11 N 0)))
def dY (N:Nat) (p0:ac):Nat→Int→Option (Bool)
  | 0,_=>none
  | k+1,s1=>
    (if decide (s1 < (p0.Conds.length:Int)) then ((idx p0.Conds s1).bind fun x5=>((nW N x5).bind fun x6=>(if !x6 then some false else ((dY N p0 k) (i64.wrap (s1+1)))))) else dV N p0 N 0)
def nM (N:Nat) (p0:ac):Option (Bool):=
  ((eZ N p0.Name).bind fun x1=>((if !x1 then some true else ((cj N p0.Sal (-100) 100).bind fun x2=>some (!x2))).bind fun b1=>((if b1 then some true else ((ov N p0).bind fun x3=>some (!x3))).bind fun b2=>(if b2 then some false else ((if decide (6 < (p0.Conds.length:Int)) then some true else ((cj N (p0.Acts.length:Int) 1 6).bind fun x4=>some (!x4))).bind fun b3=>(if b3 then some false else dY N p0 N 0))))))
def aO (N:Nat) (p0:(List ac)) (p1:ac→Option (Bool)):Nat→Int→Option (Int)
  | 0,_=>none
  | k+1,s1=>
    (if decide (s1 < (p0.length:Int)) then ((idx p0 s1).bind fun x1=>((p1 x1).bind fun x2=>(if x2 then some s1 else ((aO N p0 p1 k) (i64.wrap (s1+1)))))) else some (-1))
def cE (N:Nat) (p0:(List ac)) (p1:ac→Option (Bool)):Option (Int):=
  aO N p0 p1 N 0
def ia (N:Nat) (p0:ac) (c0:ByteArray):Option (Bool):=
  some (seq p0.Name c0)
def p8 (N:Nat) (p0:bh) (p1:ByteArray):Option (Int):=
  ((cE N p0.Rules (fun a0=>ia N a0 p1)).bind fun x1=>some x1)
def eE (N:Nat) (p0:bh):Nat→Int→Option (Bool)
  | 0,_=>none
  | k+1,s1=>
    (if decide (s1 < (p0.Rules.length:Int)) then ((idx p0.Rules s1).bind fun x3=>((nM N x3).bind fun x4=>((if !x4 then some true else ((p8 N p0 x3.Name).bind fun x5=>some (!decide (x5=s1)))).bind fun b2=>(if b2 then some false else ((eE N p0 k) (i64.wrap (s1+1))))))) else some true)
def qj (N:Nat) (p0:bh):Option (Bool):=
  ((eZ N p0.Name).bind fun x1=>((if !x1 then some true else ((cj N (p0.Rules.length:Int) 1 12).bind fun x2=>some (!x2))).bind fun b1=>(if b1 then some false else eE N p0 N 0)))
def dQ (N:Nat) (p0:av):Nat→Int→Option (Bool)
  | 0,_=>none
  | k+1,s1=>
    (if decide (s1 < (p0.Fields.length:Int)) then ((idx p0.Fields s1).bind fun x2=>((jL N x2).bind fun x3=>(if !x3 then some false else ((dQ N p0 k) (i64.wrap (s1+1)))))) else some true)
def ol (N:Nat) (p0:av):Option (Bool):=
  ((eZ N p0.Kind).bind fun x1=>((if !x1 then some true else some (decide (5 < (p0.Fields.length:Int)))).bind fun b1=>(if b1 then some false else dQ N p0 N 0)))
def aS (N:Nat) (p0:(List aP)) (p1:(List aP)):Nat→Int→Option (Bool)
  | 0,_=>none
  | k+1,s1=>
    (if decide (s1 < (p0.length:Int)) then ((idx p0 s1).bind fun x1=>((idx p1 s1).bind fun x2=>(if !(bb x1 x2) then some false else ((aS N p0 p1 k) (i64.wrap (s1+1)))))) else some true)
def bu (N:Nat) (p0:(List aP)) (p1:(List aP)):Option (Bool):=
  (if !decide ((p0.length:Int)=(p1.length:Int)) then some false else aS N p0 p1 N 0)
def kA (N:Nat) (p0:av) (p1:av):Option (Bool):=
  ((if seq p0.Kind p1.Kind then ((bu N p0.Fields p1.Fields).bind fun x1=>some x1) else some false).bind fun b1=>some b1)
def de (N:Nat) (s1:Int) (K1:Int→Option (Bool)) (x2:an) (x6:(List an)):Nat→Int→Option (Bool)
  | 0,_=>none
  | k+1,s2=>
    (if decide (s2 < (x6.length:Int)) then ((idx x6 s2).bind fun x7=>((kA N x2.F x7.F).bind fun x8=>(if x8 then some false else ((de N s1 K1 x2 x6 k) (i64.wrap (s2+1)))))) else (K1 (i64.wrap (s1+1))))
def cr (N:Nat) (p0:ae):Nat→Int→Option (Bool)
  | 0,_=>none
  | k+1,s1=>
    (if decide (s1 < (p0.Items.length:Int)) then ((idx p0.Items s1).bind fun x2=>((ol N x2.F).bind fun x3=>((if !x3 then some true else ((cj N x2.Id 1 (i64.wrap (p0.Next - 1))).bind fun x4=>some (!x4))).bind fun b2=>((if b2 then some true else ((if decide (0 < s1) then ((idx p0.Items (i64.wrap (s1 - 1))).bind fun x5=>some (decide (x2.Id≤x5.Id))) else some false).bind fun b4=>some b4)).bind fun b3=>(if b3 then some false else ((ssl p0.Items 0 s1).bind fun x6=>de N s1 (cr N p0 k) x2 x6 N 0)))))) else some true)
def mb (N:Nat) (p0:ae):Option (Bool):=
  ((if decide (40 < (p0.Items.length:Int)) then some true else ((cj N p0.Next 1 1000000).bind fun x1=>some (!x1))).bind fun b1=>(if b1 then some false else cr N p0 N 0))
def az (N:Nat) (p0:(List aQ)) (p1:(List aQ)) (p2:aQ→aQ→Option (Bool)):Nat→Int→Option (Bool)
  | 0,_=>none
  | k+1,s1=>
    (if decide (s1 < (p0.length:Int)) then ((idx p0 s1).bind fun x1=>((idx p1 s1).bind fun x2=>((p2 x1 x2).bind fun x3=>(if !x3 then some false else ((az N p0 p1 p2 k) (i64.wrap (s1+1))))))) else some true)
def aY (N:Nat) (p0:(List aQ)) (p1:(List aQ)) (p2:aQ→aQ→Option (Bool)):Option (Bool):=
  (if !decide ((p0.length:Int)=(p1.length:Int)) then some false else az N p0 p1 p2 N 0)
def cz (N:Nat) (p0:(List Int)) (p1:(List Int)):Nat→Int→Option (Bool)
  | 0,_=>none
  | k+1,s1=>
    (if decide (s1 < (p0.length:Int)) then ((idx p0 s1).bind fun x1=>((idx p1 s1).bind fun x2=>(if !decide (x1=x2) then some false else ((cz N p0 p1 k) (i64.wrap (s1+1)))))) else some true)
def dl (N:Nat) (p0:(List Int)) (p1:(List Int)):Option (Bool):=
  (if !decide ((p0.length:Int)=(p1.length:Int)) then some false else cz N p0 p1 N 0)
def eX (N:Nat) (p0:aQ) (p1:aQ):Option (Bool):=
  ((dl N p0.L p1.L).bind fun x1=>some x1)
def aA (N:Nat) (p0:(List aF)) (p1:(List aF)) (p2:aF→aF→Option (Bool)):Nat→Int→Option (Bool)
  | 0,_=>none
  | k+1,s1=>
    (if decide (s1 < (p0.length:Int)) then ((idx p0 s1).bind fun x1=>((idx p1 s1).bind fun x2=>((p2 x1 x2).bind fun x3=>(if !x3 then some false else ((aA N p0 p1 p2 k) (i64.wrap (s1+1))))))) else some true)
def aX (N:Nat) (p0:(List aF)) (p1:(List aF)) (p2:aF→aF→Option (Bool)):Option (Bool):=
  (if !decide ((p0.length:Int)=(p1.length:Int)) then some false else aA N p0 p1 p2 N 0)
def ak (N:Nat) (p0:(List ab)) (p1:(List ab)) (p2:ab→ab→Option (Bool)):Nat→Int→Option (Bool)
  | 0,_=>none
  | k+1,s1=>
    (if decide (s1 < (p0.length:Int)) then ((idx p0 s1).bind fun x1=>((idx p1 s1).bind fun x2=>((p2 x1 x2).bind fun x3=>(if !x3 then some false else ((ak N p0 p1 p2 k) (i64.wrap (s1+1))))))) else some true)
def aW (N:Nat) (p0:(List ab)) (p1:(List ab)) (p2:ab→ab→Option (Bool)):Option (Bool):=
  (if !decide ((p0.length:Int)=(p1.length:Int)) then some false else ak N p0 p1 p2 N 0)
def cS (N:Nat) (p0:(List aa)):Option ((List aa)):=
  ((app ([]:List aa) p0).bind fun x1=>some x1)
def d8 (N:Nat) (p0:(List aa)):Option ((List aa)):=
  ((app ([]:List aa) p0).bind fun x1=>some x1)
noncomputable def df (N:Nat) (p0:(List aa)) (p1:aa→aa→Option (Int)):Option ((List aa)):=
  Ck p0 p1
def fq (N:Nat) (p0:(List Int)):Nat→Int→Option (Int)
  | 0,_=>none
  | k+1,s1=>
    (if decide (s1 < (p0.length:Int)) then ((idx p0 s1).bind fun x1=>(if !decide (x1=0) then some x1 else ((fq N p0 k) (i64.wrap (s1+1))))) else some 0)
def kC (N:Nat) (p0:(List Int)):Option (Int):=
  fq N p0 N 0
def gO (N:Nat) (p0:Int):Option (Bool):=
  some (!decide (p0=p0))
def fD (N:Nat) (p0:Int) (p1:Int):Option (Int):=
  ((gO N p0).bind fun x1=>((gO N p1).bind fun x2=>(if x1 then (if x2 then some 0 else some (-1)) else (if x2 then some 1 else (if decide (p0 < p1) then some (-1) else (if decide (p1 < p0) then some 1 else some 0))))))
def bG (N:Nat) (p0:(List Int)) (p1:(List Int)):Nat→Int→Option (Int)
  | 0,_=>none
  | k+1,s1=>
    (if decide (s1 < (p0.length:Int)) then ((idx p0 s1).bind fun x1=>(if decide ((p1.length:Int)≤s1) then some 1 else ((idx p1 s1).bind fun x2=>((fD N x1 x2).bind fun x3=>(if !decide (x3=0) then some x3 else ((bG N p0 p1 k) (i64.wrap (s1+1)))))))) else (if decide ((p0.length:Int) < (p1.length:Int)) then some (-1) else some 0))
def dC (N:Nat) (p0:(List Int)) (p1:(List Int)):Option (Int):=
  bG N p0 p1 N 0
def bR (N:Nat) (p0:aa) (p1:aa):Option (Int):=
  ((dC N p0.Ids p1.Ids).bind fun x1=>((dC N p0.Hits p1.Hits).bind fun x2=>((kC N ([x1,x2]:List Int)).bind fun x3=>some x3)))
def ay (N:Nat) (p0:(List aa)) (p1:(List aa)) (p2:aa→aa→Option (Bool)):Nat→Int→Option (Bool)
  | 0,_=>none
  | k+1,s1=>
    (if decide (s1 < (p0.length:Int)) then ((idx p0 s1).bind fun x1=>((idx p1 s1).bind fun x2=>((p2 x1 x2).bind fun x3=>(if !x3 then some false else ((ay N p0 p1 p2 k) (i64.wrap (s1+1))))))) else some true)
def bq (N:Nat) (p0:(List aa)) (p1:(List aa)) (p2:aa→aa→Option (Bool)):Option (Bool):=
  (if !decide ((p0.length:Int)=(p1.length:Int)) then some false else ay N p0 p1 p2 N 0)
def jQ (N:Nat) (p0:aa) (p1:aa):Option (Bool):=
  ((bR N p0 p1).bind fun x1=>some (decide (x1=0)))
noncomputable def fL (N:Nat) (p0:ab) (p1:ab):Option (Bool):=
  (if !decide ((p0.Toks.length:Int)=(p1.Toks.length:Int)) then some false else ((cS N p0.Toks).bind fun x1=>((cS N p1.Toks).bind fun x2=>((df N x1 (bR N)).bind fun x3=>((df N x2 (bR N)).bind fun x4=>((bq N x3 x4 (jQ N)).bind fun x5=>some x5))))))
noncomputable def ef (N:Nat) (p0:aF) (p1:aF):Option (Bool):=
  ((aW N p0.Levels p1.Levels (fL N)).bind fun x1=>some x1)
noncomputable def mF (N:Nat) (p0:aJ) (p1:aJ):Option (Bool):=
  ((aY N p0.Alphas p1.Alphas (eX N)).bind fun x1=>((if x1 then ((aX N p0.Rules p1.Rules (ef N)).bind fun x2=>some x2) else some false).bind fun b1=>some b1))
def e8 (N:Nat) (p0:ao):Nat→(List aP)→(List Int)→Int→Option (aj)
  | 0,_,_,_=>none
  | k+1,s1,s2,s3=>
    (if decide (s3 < (p0.Args.length:Int)) then ((idx p0.Args s3).bind fun x1=>(if decide (x1.K=2) then ((app s1 ([x1.V]:List aP)).bind fun x2=>((app s2 ([s3]:List Int)).bind fun x3=>((e8 N p0 k) x2 x3 (i64.wrap (s3+1))))) else ((e8 N p0 k) s1 s2 (i64.wrap (s3+1))))) else some (⟨p0.Kind,(p0.Args.length:Int),s1,s2⟩:aj))
def mD (N:Nat) (p0:ao):Option (aj):=
  e8 N p0 N ([]:List aP) ([]:List Int) 0
def jj (N:Nat) (p0:aj) (p1:aj):Option (Bool):=
  ((if seq p0.Kind p1.Kind then some (decide (p0.N=p1.N)) else some false).bind fun b1=>((if b1 then ((bu N p0.Consts p1.Consts).bind fun x1=>some x1) else some false).bind fun b2=>((if b2 then ((dl N p0.At p1.At).bind fun x2=>some x2) else some false).bind fun b3=>some b3)))
def ct (N:Nat) (p0:bB) (x1:aj):Nat→Int→Option (Int × bB)
  | 0,_=>none
  | k+1,s1=>
    (if decide (s1 < (p0.Alphas.length:Int)) then ((idx p0.Alphas s1).bind fun x2=>((jj N x2 x1).bind fun x3=>(if x3 then some (s1,p0) else ((ct N p0 x1 k) (i64.wrap (s1+1)))))) else ((app p0.Alphas ([x1]:List aj)).bind fun x4=>some (i64.wrap ((x4.length:Int) - 1),(⟨x4,p0.Chains⟩:bB))))
def gQ (N:Nat) (p0:bB) (p1:ao):Option (Int × bB):=
  ((mD N p1).bind fun x1=>ct N p0 x1 N 0)
def eD (N:Nat) (s2:(List aC)) (s3:Int) (K1:(List aj)→(List aC)→Int→Option (bB)) (x1:ac):Nat→(List aj)→(List Int)→(List Int)→Int→Option (bB)
  | 0,_,_,_,_=>none
  | k+1,s4,s5,s6,s7=>
    (if decide (s7 < (x1.Pats.length:Int)) then ((idx x1.Pats s7).bind fun x2=>((gQ N (⟨s4,s2⟩:bB) x2).bind fun x3=>(if x2.Not then ((app s5 ([x3.1]:List Int)).bind fun x4=>((eD N s2 s3 K1 x1 k) x3.2.Alphas x4 s6 (i64.wrap (s7+1)))) else ((app s6 ([x3.1]:List Int)).bind fun x5=>((eD N s2 s3 K1 x1 k) x3.2.Alphas s5 x5 (i64.wrap (s7+1))))))) else ((app s2 ([(⟨s6,s5⟩:aC)]:List aC)).bind fun x6=>(K1 s4 x6 (i64.wrap (s3+1)))))
def dS (N:Nat) (p0:bh):Nat→(List aj)→(List aC)→Int→Option (bB)
  | 0,_,_,_=>none
  | k+1,s1,s2,s3=>
    (if decide (s3 < (p0.Rules.length:Int)) then ((idx p0.Rules s3).bind fun x1=>eD N s2 s3 (dS N p0 k) x1 N s1 ([]:List Int) ([]:List Int) 0) else some (⟨s1,s2⟩:bB))
def qr (N:Nat) (p0:bh):Option (bB):=
  dS N p0 N ([]:List aj) ([]:List aC) 0
def fO (N:Nat) (p0:bB) (x1:(List aQ)):Nat→(List aF)→Int→Option (aJ)
  | 0,_,_=>none
  | k+1,s1,s2=>
    (if decide (s2 < (p0.Chains.length:Int)) then ((idx p0.Chains s2).bind fun x2=>((mk (⟨([]:List aa)⟩:ab) (x2.Pos.length:Int)).bind fun x3=>((app s1 ([(⟨x3⟩:aF)]:List aF)).bind fun x4=>((fO N p0 x1 k) x4 (i64.wrap (s2+1)))))) else some (⟨x1,s1⟩:aJ))
def nP (N:Nat) (p0:bB):Option (aJ):=
  ((mk (⟨([]:List Int)⟩:aQ) (p0.Alphas.length:Int)).bind fun x1=>fO N p0 x1 N ([]:List aF) 0)
def eo (N:Nat) (p0:(List aP)):Option ((List aP)):=
  ((app ([]:List aP) p0).bind fun x1=>some x1)
def kG (N:Nat) (p0:av):Option (av):=
  ((eo N p0.Fields).bind fun x1=>some (⟨p0.Kind,x1⟩:av))
def eH (N:Nat) (p0:ae) (p1:Int):Nat→Int→Option (av × Bool)
  | 0,_=>none
  | k+1,s1=>
    (if decide (s1 < (p0.Items.length:Int)) then ((idx p0.Items s1).bind fun x1=>(if decide (x1.Id=p1) then ((kG N x1.F).bind fun x2=>some (x2,true)) else ((eH N p0 p1 k) (i64.wrap (s1+1))))) else some ((⟨(⟨#[]⟩:ByteArray),[]⟩:av),false))
def jy (N:Nat) (p0:ae) (p1:Int):Option (av × Bool):=
  eH N p0 p1 N 0
def fP (N:Nat) (p0:aj) (p1:av):Nat→Int→Option (Bool)
  | 0,_=>none
  | k+1,s1=>
    (if decide (s1 < (p0.At.length:Int)) then ((idx p0.At s1).bind fun x1=>((if decide (x1 < 0) then some true else some (decide ((p1.Fields.length:Int)≤x1))).bind fun b2=>((if b2 then some true else some (decide ((p0.Consts.length:Int)≤s1))).bind fun b3=>((if b3 then some true else ((idx p1.Fields x1).bind fun x2=>((idx p0.Consts s1).bind fun x3=>some (!(bb x2 x3))))).bind fun b4=>(if b4 then some false else ((fP N p0 p1 k) (i64.wrap (s1+1)))))))) else some true)
def o7 (N:Nat) (p0:aj) (p1:av):Option (Bool):=
  ((if !seq p1.Kind p0.Kind then some true else some (!decide ((p1.Fields.length:Int)=p0.N))).bind fun b1=>(if b1 then some false else fP N p0 p1 N 0))
def gx (N:Nat) (p0:ac) (p1:Bool):Nat→(List ao)→Int→Option ((List ao))
  | 0,_,_=>none
  | k+1,s1,s2=>
    (if decide (s2 < (p0.Pats.length:Int)) then ((idx p0.Pats s2).bind fun x1=>(if (x1.Not == p1) then ((app s1 ([x1]:List ao)).bind fun x2=>((gx N p0 p1 k) x2 (i64.wrap (s2+1)))) else ((gx N p0 p1 k) s1 (i64.wrap (s2+1))))) else some s1)
def qh (N:Nat) (p0:ac) (p1:Bool):Option ((List ao)):=
  gx N p0 p1 N ([]:List ao) 0
def mZ (N:Nat) (p0:bh) (p1:bB) (p2:aJ) (p3:ae) (p4:Int) (p5:Int):Option (bZ):=
  ((idx p0.Rules p5).bind fun x1=>((idx p1.Chains p5).bind fun x2=>((qh N x1 false).bind fun x3=>((qh N x1 true).bind fun x4=>some (⟨x3,x4,x2,p2.Alphas,p3,p4⟩:bZ)))))
def bg (N:Nat) (p0:(List aB)):Option ((List aB)):=
  ((app ([]:List aB) p0).bind fun x1=>some x1)
def fM (N:Nat) (p0:(List aB)) (p1:ByteArray):Nat→Int→Option (aP × Bool)
  | 0,_=>none
  | k+1,s1=>
    (if decide (s1 < (p0.length:Int)) then ((idx p0 s1).bind fun x1=>(if seq x1.Name p1 then some (x1.V,true) else ((fM N p0 p1 k) (i64.wrap (s1+1))))) else some ((⟨0,0,(⟨#[]⟩:ByteArray)⟩:aP),false))
def nX (N:Nat) (p0:(List aB)) (p1:ByteArray):Option (aP × Bool):=
  fM N p0 p1 N 0
def cL (N:Nat) (p0:ao) (p1:av) (p2:(List aB)):Nat→(List aB)→Int→Option ((List aB) × Bool)
  | 0,_,_=>none
  | k+1,s1,s2=>
    (if decide (s2 < (p0.Args.length:Int)) then ((idx p0.Args s2).bind fun x3=>((idx p1.Fields s2).bind fun x4=>(if decide (x3.K=2) then (if !(bb x3.V x4) then ((bg N p2).bind fun x5=>some (x5,false)) else ((cL N p0 p1 p2 k) s1 (i64.wrap (s2+1)))) else (if decide (x3.K=1) then ((nX N s1 x3.S).bind fun x6=>((if x6.2 then some (!(bb x6.1 x4)) else some false).bind fun b2=>(if b2 then ((bg N p2).bind fun x7=>some (x7,false)) else (if !x6.2 then ((app s1 ([(⟨x3.S,x4⟩:aB)]:List aB)).bind fun x8=>((cL N p0 p1 p2 k) x8 (i64.wrap (s2+1)))) else ((cL N p0 p1 p2 k) s1 (i64.wrap (s2+1))))))) else ((cL N p0 p1 p2 k) s1 (i64.wrap (s2+1))))))) else some (s1,true))
def gB (N:Nat) (p0:ao) (p1:av) (p2:(List aB)):Option ((List aB) × Bool):=
  ((if !seq p1.Kind p0.Kind then some true else some (!decide ((p1.Fields.length:Int)=(p0.Args.length:Int)))).bind fun b1=>(if b1 then ((bg N p2).bind fun x1=>some (x1,false)) else ((bg N p2).bind fun x2=>cL N p0 p1 p2 N x2 0)))
def f9 (N:Nat) (p0:(List ao)) (p1:ae) (p2:(List Int)):Nat→(List aB)→Int→Option ((List aB) × Bool)
  | 0,_,_=>none
  | k+1,s1,s2=>
    (if decide (s2 < (p2.length:Int)) then ((idx p2 s2).bind fun x1=>((jy N p1 x1).bind fun x2=>(if !x2.2 then some ([],false) else ((idx p0 s2).bind fun x3=>((gB N x3 x2.1 s1).bind fun x4=>(if !x4.2 then some ([],false) else ((f9 N p0 p1 p2 k) x4.1 (i64.wrap (s2+1))))))))) else some (s1,true))
def jN (N:Nat) (p0:(List ao)) (p1:ae) (p2:(List Int)):Option ((List aB) × Bool):=
  f9 N p0 p1 p2 N ([]:List aB) 0
def bI (N:Nat) (p0:bZ) (p2:Int) (x1:av × Bool) (s1:(List aa)) (s2:Int) (K1:(List aa)→Int→Option ((List aa))) (x2:aa) (x3:(List aB) × Bool):Nat→(List Int)→Int→Option ((List aa))
  | 0,_,_=>none
  | k+1,s3,s4=>
    (if decide (s4 < (p0.neg.length:Int)) then ((idx p0.neg s4).bind fun x4=>((gB N x4 x1.1 x3.1).bind fun x5=>(if x5.2 then ((idx s3 s4).bind fun x6=>((idx s3 s4).bind fun x7=>((bI N p0 p2 x1 s1 s2 K1 x2 x3 k) (s3.set s4.toNat (i64.wrap (x6+p2))) (i64.wrap (s4+1))))) else ((bI N p0 p2 x1 s1 s2 K1 x2 x3 k) s3 (i64.wrap (s4+1)))))) else (K1 (s1.set s2.toNat (⟨x2.Ids,s3⟩:aa)) (i64.wrap (s2+1))))
def bj (N:Nat) (p0:bZ) (p1:(List aa)) (p2:Int) (x1:av × Bool):Nat→(List aa)→Int→Option ((List aa))
  | 0,_,_=>none
  | k+1,s1,s2=>
    (if decide (s2 < (p1.length:Int)) then ((idx s1 s2).bind fun x2=>((jN N p0.pos p0.s x2.Ids).bind fun x3=>(if !x3.2 then ((bj N p0 p1 p2 x1 k) s1 (i64.wrap (s2+1))) else bI N p0 p2 x1 s1 s2 (bj N p0 p1 p2 x1 k) x2 x3 N x2.Hits 0))) else some s1)
def eT (N:Nat) (p0:bZ) (p1:(List aa)) (p2:Int):Option ((List aa)):=
  ((jy N p0.s p0.id).bind fun x1=>bj N p0 p1 p2 x1 N p1 0)
def fT (N:Nat) (p0:(List Int)):Option ((List Int)):=
  ((app ([]:List Int) p0).bind fun x1=>some x1)
def dK (N:Nat) (p0:ao) (p1:ae) (p2:(List aB)):Nat→Int→Int→Option (Int)
  | 0,_,_=>none
  | k+1,s1,s2=>
    (if decide (s2 < (p1.Items.length:Int)) then ((idx p1.Items s2).bind fun x1=>((gB N p0 x1.F p2).bind fun x2=>(if x2.2 then ((dK N p0 p1 p2 k) (i64.wrap (s1+1)) (i64.wrap (s2+1))) else ((dK N p0 p1 p2 k) s1 (i64.wrap (s2+1)))))) else some s1)
def od (N:Nat) (p0:ao) (p1:ae) (p2:(List aB)):Option (Int):=
  dK N p0 p1 p2 N 0 0
def bL (N:Nat) (s1:(List aa)) (s2:Int) (K1:(List aa)→Int→Option ((List aa))) (x3:(List Int)) (s3:(List Int)):Option ((List aa)):=
  ((app s1 ([(⟨x3,s3⟩:aa)]:List aa)).bind fun x5=>(K1 x5 (i64.wrap (s2+1))))
def bN (N:Nat) (p0:bZ) (s1:(List aa)) (s2:Int) (K1:(List aa)→Int→Option ((List aa))) (x3:(List Int)) (x4:(List aB) × Bool):Nat→(List Int)→Int→Option ((List aa))
  | 0,_,_=>none
  | k+1,s4,s5=>
    (if decide (s5 < (p0.neg.length:Int)) then ((idx p0.neg s5).bind fun x6=>((od N x6 p0.s x4.1).bind fun x7=>((app s4 ([x7]:List Int)).bind fun x8=>((bN N p0 s1 s2 K1 x3 x4 k) x8 (i64.wrap (s5+1)))))) else bL N s1 s2 K1 x3 s4)
def aZ (N:Nat) (p0:bZ) (p1:(List Int)) (p2:(List Int)):Nat→(List aa)→Int→Option ((List aa))
  | 0,_,_=>none
  | k+1,s1,s2=>
    (if decide (s2 < (p2.length:Int)) then ((idx p2 s2).bind fun x1=>((fT N p1).bind fun x2=>((app x2 ([x1]:List Int)).bind fun x3=>((jN N p0.pos p0.s x3).bind fun x4=>(if !x4.2 then ((aZ N p0 p1 p2 k) s1 (i64.wrap (s2+1))) else (if decide ((x3.length:Int)=(p0.pos.length:Int)) then bN N p0 s1 s2 (aZ N p0 p1 p2 k) x3 x4 N ([]:List Int) 0 else bL N s1 s2 (aZ N p0 p1 p2 k) x3 ([]:List Int))))))) else some s1)
def d6 (N:Nat) (p0:bZ) (p1:(List Int)) (p2:(List Int)):Option ((List aa)):=
  aZ N p0 p1 p2 N ([]:List aa) 0
def bF (N:Nat) (s1:(List ab)) (s4:Int) (K1:(List ab)→(List aa)→(List aa)→Int→Option ((List ab))) (s5:(List aa)):Option ((List ab)):=
  ((idx s1 s4).bind fun x1=>((d8 N x1.Toks).bind fun x2=>((app x1.Toks s5).bind fun x3=>(K1 (s1.set s4.toNat (⟨x3⟩:ab)) x2 s5 (i64.wrap (s4+1))))))
def co (N:Nat) (p0:bZ) (s1:(List ab)) (s3:(List aa)) (s4:Int) (K1:(List ab)→(List aa)→(List aa)→Int→Option ((List ab))):Nat→(List aa)→Int→Option ((List ab))
  | 0,_,_=>none
  | k+1,s8,s9=>
    (if decide (s9 < (s3.length:Int)) then ((idx s3 s9).bind fun x8=>((idx p0.chain.Pos s4).bind fun x9=>((idx p0.alphas x9).bind fun x10=>((d6 N p0 x8.Ids x10.L).bind fun x11=>((app s8 x11).bind fun x12=>((co N p0 s1 s3 s4 K1 k) x12 (i64.wrap (s9+1)))))))) else bF N s1 s4 K1 s8)
def ci (N:Nat) (p0:bZ) (s1:(List ab)) (s2:(List aa)) (s3:(List aa)) (s4:Int) (K1:(List ab)→(List aa)→(List aa)→Int→Option ((List ab))):Nat→(List aa)→Int→Option ((List ab))
  | 0,_,_=>none
  | k+1,s6,s7=>
    (if decide (s7 < (s2.length:Int)) then ((idx s2 s7).bind fun x5=>((d6 N p0 x5.Ids ([p0.id]:List Int)).bind fun x6=>((app s6 x6).bind fun x7=>((ci N p0 s1 s2 s3 s4 K1 k) x7 (i64.wrap (s7+1)))))) else co N p0 s1 s3 s4 K1 N s6 0)
def bf (N:Nat) (p0:bZ) (p1:(List ab)):Nat→(List ab)→(List aa)→(List aa)→Int→Option ((List ab))
  | 0,_,_,_,_=>none
  | k+1,s1,s2,s3,s4=>
    (if decide (s4 < (p1.length:Int)) then (if decide (s4=0) then ((d6 N p0 [] ([p0.id]:List Int)).bind fun x4=>bF N s1 s4 (bf N p0 p1 k) x4) else ci N p0 s1 s2 s3 s4 (bf N p0 p1 k) N ([]:List aa) 0) else some s1)
def fw (N:Nat) (p0:bZ) (p1:(List ab)):Option ((List ab)):=
  bf N p0 p1 N p1 ([]:List aa) ([]:List aa) 0
def d4 (N:Nat) (p0:bh) (p1:bB) (p2:aJ) (p3:ae) (p4:Int) (s1:(List aQ)):Nat→(List aF)→Int→Option ((List aQ) × (List aF))
  | 0,_,_=>none
  | k+1,s3,s4=>
    (if decide (s4 < (p2.Rules.length:Int)) then ((idx s3 s4).bind fun x6=>((mZ N p0 p1 (⟨s1,s3⟩:aJ) p3 p4 s4).bind fun x7=>((idx x6.Levels (i64.wrap ((x6.Levels.length:Int) - 1))).bind fun x8=>((eT N x7 x8.Toks 1).bind fun x9=>((fw N x7 (x6.Levels.set (i64.wrap ((x6.Levels.length:Int) - 1)).toNat (⟨x9⟩:ab))).bind fun x10=>((d4 N p0 p1 p2 p3 p4 s1 k) (s3.set s4.toNat (⟨x10⟩:aF)) (i64.wrap (s4+1)))))))) else some (s1,s3))
def d5 (N:Nat) (p0:bh) (p1:bB) (p2:aJ) (p3:ae) (p4:Int) (x1:av × Bool):Nat→(List aQ)→Int→Option ((List aQ) × (List aF))
  | 0,_,_=>none
  | k+1,s1,s2=>
    (if decide (s2 < (p1.Alphas.length:Int)) then ((idx p1.Alphas s2).bind fun x2=>((o7 N x2 x1.1).bind fun x3=>(if x3 then ((idx s1 s2).bind fun x4=>((app x4.L ([p4]:List Int)).bind fun x5=>((d5 N p0 p1 p2 p3 p4 x1 k) (s1.set s2.toNat (⟨x5⟩:aQ)) (i64.wrap (s2+1))))) else ((d5 N p0 p1 p2 p3 p4 x1 k) s1 (i64.wrap (s2+1)))))) else d4 N p0 p1 p2 p3 p4 s1 N p2.Rules 0)
def mh (N:Nat) (p0:bh) (p1:bB) (p2:aJ) (p3:ae) (p4:Int):Option ((List aQ) × (List aF)):=
  ((jy N p3 p4).bind fun x1=>d5 N p0 p1 p2 p3 p4 x1 N p2.Alphas 0)
def fF (N:Nat) (p0:bh) (p1:ae) (x1:bB):Nat→(List aQ)→(List aF)→Int→Option (aJ)
  | 0,_,_,_=>none
  | k+1,s1,s2,s3=>
    (if decide (s3 < (p1.Items.length:Int)) then ((idx p1.Items s3).bind fun x3=>((ssl p1.Items 0 (i64.wrap (s3+1))).bind fun x4=>((mh N p0 x1 (⟨s1,s2⟩:aJ) (⟨x4,p1.Next⟩:ae) x3.Id).bind fun x5=>((fF N p0 p1 x1 k) x5.1 x5.2 (i64.wrap (s3+1)))))) else some (⟨s1,s2⟩:aJ))
def sv (N:Nat) (p0:bh) (p1:ae):Option (aJ):=
  ((qr N p0).bind fun x1=>((nP N x1).bind fun x2=>fF N p0 p1 x1 N x2.Alphas x2.Rules 0))
noncomputable def jZ (N:Nat) (p0:bh) (p1:aJ) (p2:ae):Option (Bool):=
  ((qj N p0).bind fun x1=>(if x1 then ((mb N p2).bind fun x2=>(if x2 then ((sv N p0 p2).bind fun x3=>((mF N p1 x3).bind fun x4=>some x4)) else some false)) else some false))
def kT (N:Nat) (p0:aP) (p1:aP):Option (Bool):=
  (if !decide (p0.K=p1.K) then some false else (if !decide (p0.N=p1.N) then some false else (if !seq p0.S p1.S then some false else some true)))
def i8 (N:Nat) (p0:bk) (p1:bk):Option (Bool):=
  (if !decide (p0.K=p1.K) then some false else (if !seq p0.S p1.S then some false else ((kT N p0.V p1.V).bind fun x1=>(if !x1 then some false else some true))))
def gW (N:Nat) (p0:(List bk)) (p1:(List bk)):Nat→Int→Option (Bool)
  | 0,_=>none
  | k+1,s1=>
    (if decide (s1 < (p0.length:Int)) then ((idx p0 s1).bind fun x1=>((idx p1 s1).bind fun x2=>((i8 N x1 x2).bind fun x3=>(if !x3 then some false else ((gW N p0 p1 k) (i64.wrap (s1+1))))))) else some true)
def oh (N:Nat) (p0:(List bk)) (p1:(List bk)):Option (Bool):=
  (if !decide ((p0.length:Int)=(p1.length:Int)) then some false else gW N p0 p1 N 0)
def nC (N:Nat) (p0:ao) (p1:ao):Option (Bool):=
  (if !seq p0.Kind p1.Kind then some false else ((oh N p0.Args p1.Args).bind fun x1=>(if !x1 then some false else (if (p0.Not != p1.Not) then some false else some true))))
def ij (N:Nat) (p0:(List ao)) (p1:(List ao)):Nat→Int→Option (Bool)
  | 0,_=>none
  | k+1,s1=>
    (if decide (s1 < (p0.length:Int)) then ((idx p0 s1).bind fun x1=>((idx p1 s1).bind fun x2=>((nC N x1 x2).bind fun x3=>(if !x3 then some false else ((ij N p0 p1 k) (i64.wrap (s1+1))))))) else some true)
def nQ (N:Nat) (p0:(List ao)) (p1:(List ao)):Option (Bool):=
  (if !decide ((p0.length:Int)=(p1.length:Int)) then some false else ij N p0 p1 N 0)
def lD (N:Nat) (p0:bz) (p1:bz):Option (Bool):=
  (if !decide (p0.Op=p1.Op) then some false else ((i8 N p0.L p1.L).bind fun x1=>(if !x1 then some false else ((i8 N p0.R p1.R).bind fun x2=>(if !x2 then some false else some true)))))
def ga (N:Nat) (p0:(List bz)) (p1:(List bz)):Nat→Int→Option (Bool)
  | 0,_=>none
  | k+1,s1=>
    (if decide (s1 < (p0.length:Int)) then ((idx p0 s1).bind fun x1=>((idx p1 s1).bind fun x2=>((lD N x1 x2).bind fun x3=>(if !x3 then some false else ((ga N p0 p1 k) (i64.wrap (s1+1))))))) else some true)
def lP (N:Nat) (p0:(List bz)) (p1:(List bz)):Option (Bool):=
  (if !decide ((p0.length:Int)=(p1.length:Int)) then some false else ga N p0 p1 N 0)
def kW (N:Nat) (p0:br) (p1:br):Option (Bool):=
  (if !seq p0.Op p1.Op then some false else ((i8 N p0.L p1.L).bind fun x1=>(if !x1 then some false else ((i8 N p0.R p1.R).bind fun x2=>(if !x2 then some false else some true)))))
def fU (N:Nat) (p0:(List br)) (p1:(List br)):Nat→Int→Option (Bool)
  | 0,_=>none
  | k+1,s1=>
    (if decide (s1 < (p0.length:Int)) then ((idx p0 s1).bind fun x1=>((idx p1 s1).bind fun x2=>((kW N x1 x2).bind fun x3=>(if !x3 then some false else ((fU N p0 p1 k) (i64.wrap (s1+1))))))) else some true)
def lW (N:Nat) (p0:(List br)) (p1:(List br)):Option (Bool):=
  (if !decide ((p0.length:Int)=(p1.length:Int)) then some false else fU N p0 p1 N 0)
def nF (N:Nat) (p0:bX) (p1:bX):Option (Bool):=
  (if !decide (p0.Kind=p1.Kind) then some false else (if !seq p0.Name p1.Name then some false else ((lW N p0.Args p1.Args).bind fun x1=>(if !x1 then some false else (if !decide (p0.N=p1.N) then some false else (if !seq p0.Undo p1.Undo then some false else some true))))))
def ip (N:Nat) (p0:(List bX)) (p1:(List bX)):Nat→Int→Option (Bool)
  | 0,_=>none
  | k+1,s1=>
    (if decide (s1 < (p0.length:Int)) then ((idx p0 s1).bind fun x1=>((idx p1 s1).bind fun x2=>((nF N x1 x2).bind fun x3=>(if !x3 then some false else ((ip N p0 p1 k) (i64.wrap (s1+1))))))) else some true)
def nV (N:Nat) (p0:(List bX)) (p1:(List bX)):Option (Bool):=
  (if !decide ((p0.length:Int)=(p1.length:Int)) then some false else ip N p0 p1 N 0)
def kV (N:Nat) (p0:ac) (p1:ac):Option (Bool):=
  (if !seq p0.Name p1.Name then some false else (if !decide (p0.Sal=p1.Sal) then some false else ((nQ N p0.Pats p1.Pats).bind fun x1=>(if !x1 then some false else ((lP N p0.Conds p1.Conds).bind fun x2=>(if !x2 then some false else ((nV N p0.Acts p1.Acts).bind fun x3=>(if !x3 then some false else some true))))))))
def gf (N:Nat) (p0:(List ac)) (p1:(List ac)):Nat→Int→Option (Bool)
  | 0,_=>none
  | k+1,s1=>
    (if decide (s1 < (p0.length:Int)) then ((idx p0 s1).bind fun x1=>((idx p1 s1).bind fun x2=>((kV N x1 x2).bind fun x3=>(if !x3 then some false else ((gf N p0 p1 k) (i64.wrap (s1+1))))))) else some true)
def mv (N:Nat) (p0:(List ac)) (p1:(List ac)):Option (Bool):=
  (if !decide ((p0.length:Int)=(p1.length:Int)) then some false else gf N p0 p1 N 0)
def qb (N:Nat) (p0:bh) (p1:bh):Option (Bool):=
  (if !seq p0.Name p1.Name then some false else ((mv N p0.Rules p1.Rules).bind fun x1=>(if !x1 then some false else some true)))
def gT (N:Nat) (p0:(List Int)) (p1:(List Int)):Nat→Int→Option (Bool)
  | 0,_=>none
  | k+1,s1=>
    (if decide (s1 < (p0.length:Int)) then ((idx p0 s1).bind fun x1=>((idx p1 s1).bind fun x2=>(if !decide (x1=x2) then some false else ((gT N p0 p1 k) (i64.wrap (s1+1)))))) else some true)
def jC (N:Nat) (p0:(List Int)) (p1:(List Int)):Option (Bool):=
  (if !decide ((p0.length:Int)=(p1.length:Int)) then some false else gT N p0 p1 N 0)
def nG (N:Nat) (p0:aQ) (p1:aQ):Option (Bool):=
  ((jC N p0.L p1.L).bind fun x1=>(if !x1 then some false else some true))
def hY (N:Nat) (p0:(List aQ)) (p1:(List aQ)):Nat→Int→Option (Bool)
  | 0,_=>none
  | k+1,s1=>
    (if decide (s1 < (p0.length:Int)) then ((idx p0 s1).bind fun x1=>((idx p1 s1).bind fun x2=>((nG N x1 x2).bind fun x3=>(if !x3 then some false else ((hY N p0 p1 k) (i64.wrap (s1+1))))))) else some true)
def ox (N:Nat) (p0:(List aQ)) (p1:(List aQ)):Option (Bool):=
  (if !decide ((p0.length:Int)=(p1.length:Int)) then some false else hY N p0 p1 N 0)
def nv (N:Nat) (p0:aa) (p1:aa):Option (Bool):=
  ((jC N p0.Ids p1.Ids).bind fun x1=>(if !x1 then some false else ((jC N p0.Hits p1.Hits).bind fun x2=>(if !x2 then some false else some true))))
def ie (N:Nat) (p0:(List aa)) (p1:(List aa)):Nat→Int→Option (Bool)
  | 0,_=>none
  | k+1,s1=>
    (if decide (s1 < (p0.length:Int)) then ((idx p0 s1).bind fun x1=>((idx p1 s1).bind fun x2=>((nv N x1 x2).bind fun x3=>(if !x3 then some false else ((ie N p0 p1 k) (i64.wrap (s1+1))))))) else some true)
def oU (N:Nat) (p0:(List aa)) (p1:(List aa)):Option (Bool):=
  (if !decide ((p0.length:Int)=(p1.length:Int)) then some false else ie N p0 p1 N 0)
def jH (N:Nat) (p0:ab) (p1:ab):Option (Bool):=
  ((oU N p0.Toks p1.Toks).bind fun x1=>(if !x1 then some false else some true))
def fu (N:Nat) (p0:(List ab)) (p1:(List ab)):Nat→Int→Option (Bool)
  | 0,_=>none
  | k+1,s1=>
    (if decide (s1 < (p0.length:Int)) then ((idx p0 s1).bind fun x1=>((idx p1 s1).bind fun x2=>((jH N x1 x2).bind fun x3=>(if !x3 then some false else ((fu N p0 p1 k) (i64.wrap (s1+1))))))) else some true)
def kl (N:Nat) (p0:(List ab)) (p1:(List ab)):Option (Bool):=
  (if !decide ((p0.length:Int)=(p1.length:Int)) then some false else fu N p0 p1 N 0)
def nD (N:Nat) (p0:aF) (p1:aF):Option (Bool):=
  ((kl N p0.Levels p1.Levels).bind fun x1=>(if !x1 then some false else some true))
def i9 (N:Nat) (p0:(List aF)) (p1:(List aF)):Nat→Int→Option (Bool)
  | 0,_=>none
  | k+1,s1=>
    (if decide (s1 < (p0.length:Int)) then ((idx p0 s1).bind fun x1=>((idx p1 s1).bind fun x2=>((nD N x1 x2).bind fun x3=>(if !x3 then some false else ((i9 N p0 p1 k) (i64.wrap (s1+1))))))) else some true)
def oH (N:Nat) (p0:(List aF)) (p1:(List aF)):Option (Bool):=
  (if !decide ((p0.length:Int)=(p1.length:Int)) then some false else i9 N p0 p1 N 0)
def qa (N:Nat) (p0:aJ) (p1:aJ):Option (Bool):=
  ((ox N p0.Alphas p1.Alphas).bind fun x1=>(if !x1 then some false else ((oH N p0.Rules p1.Rules).bind fun x2=>(if !x2 then some false else some true))))
def hP (N:Nat) (p0:(List aP)) (p1:(List aP)):Nat→Int→Option (Bool)
  | 0,_=>none
  | k+1,s1=>
    (if decide (s1 < (p0.length:Int)) then ((idx p0 s1).bind fun x1=>((idx p1 s1).bind fun x2=>((kT N x1 x2).bind fun x3=>(if !x3 then some false else ((hP N p0 p1 k) (i64.wrap (s1+1))))))) else some true)
def nK (N:Nat) (p0:(List aP)) (p1:(List aP)):Option (Bool):=
  (if !decide ((p0.length:Int)=(p1.length:Int)) then some false else hP N p0 p1 N 0)
def oN (N:Nat) (p0:av) (p1:av):Option (Bool):=
  (if !seq p0.Kind p1.Kind then some false else ((nK N p0.Fields p1.Fields).bind fun x1=>(if !x1 then some false else some true)))
def lm (N:Nat) (p0:an) (p1:an):Option (Bool):=
  (if !decide (p0.Id=p1.Id) then some false else ((oN N p0.F p1.F).bind fun x1=>(if !x1 then some false else some true)))
def gn (N:Nat) (p0:(List an)) (p1:(List an)):Nat→Int→Option (Bool)
  | 0,_=>none
  | k+1,s1=>
    (if decide (s1 < (p0.length:Int)) then ((idx p0 s1).bind fun x1=>((idx p1 s1).bind fun x2=>((lm N x1 x2).bind fun x3=>(if !x3 then some false else ((gn N p0 p1 k) (i64.wrap (s1+1))))))) else some true)
def m8 (N:Nat) (p0:(List an)) (p1:(List an)):Option (Bool):=
  (if !decide ((p0.length:Int)=(p1.length:Int)) then some false else gn N p0 p1 N 0)
def lT (N:Nat) (p0:ae) (p1:ae):Option (Bool):=
  ((m8 N p0.Items p1.Items).bind fun x1=>(if !x1 then some false else (if !decide (p0.Next=p1.Next) then some false else some true)))
noncomputable def ey (N:Nat) (p0:bh) (p1:aJ) (p2:ae):Option (Bool):=
  ((q8 N p0 1048576).bind fun x1=>(if decide (x1 < 0) then some true else ((qt N p1 x1).bind fun x2=>(if decide (x2 < 0) then some true else ((lX N p2 x2).bind fun x3=>(if decide (x3 < 0) then some true else ((lE N p0).bind fun x4=>((lx N p1).bind fun x5=>((iR N p2).bind fun x6=>((kz N x4 x5 x6).bind fun x7=>((lE N p0).bind fun x8=>((lx N p1).bind fun x9=>((iR N p2).bind fun x10=>((jZ N x8 x9 x10).bind fun x11=>(if (x11 != x7) then some false else ((lE N p0).bind fun x12=>((qb N x8 x12).bind fun x13=>(if !x13 then some false else ((lx N p1).bind fun x14=>((qa N x9 x14).bind fun x15=>(if !x15 then some false else ((iR N p2).bind fun x16=>((lT N x10 x16).bind fun x17=>(if !x17 then some false else some true))))))))))))))))))))))))
end Go.Proofs.YtiljnppocjgkkaaGreat
