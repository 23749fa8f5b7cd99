/- Printed by a program of ours: Lean functions of plain data for the Go functions. -/
import Derived.Test.YtiljnppocjgkkaaGreatES
namespace Go.Proofs.YtiljnppocjgkkaaGreat
open Eng IntKind
set_option linter.unusedVariables false
set_option linter.unusedSimpArgs false

structure aQ where
  K:Int
  N:Int
  S:ByteArray
  deriving DecidableEq
def aF (Φ:Hp) (F:List Nat) (cs:List Value) (x:aQ):Prop:=cs=[.int .i64 x.K,.int .i64 x.N,.string x.S]∧F=[]
theorem aF.lasts:bF aF:=fun _ _ _ _ _ _ _ _ h=>h
instance:LS aF:=⟨aF.lasts⟩
theorem aF.knows:cT aF:=fun _ _ _ _ h=>h.2 ▸ Kw.nil
theorem aF.flat:wU aF:=fun _ _ _ _ h=>h.2
theorem aF.one:fg aF:=fun _ _ _ _ h=>by obtain ⟨rfl,-⟩:=h; exact One.all ⟨rfl,rfl,rfl,trivial⟩
structure bk where
  K:Int
  S:ByteArray
  V:aQ
  deriving DecidableEq
def cv (Φ:Hp) (F:List Nat) (cs:List Value) (x:bk):Prop:=cs=[.int .i64 x.K,.string x.S,.int .i64 x.V.K,.int .i64 x.V.N,.string x.V.S]∧F=[]
theorem cv.lasts:bF cv:=fun _ _ _ _ _ _ _ _ h=>h
instance:LS cv:=⟨cv.lasts⟩
theorem cv.knows:cT cv:=fun _ _ _ _ h=>h.2 ▸ Kw.nil
theorem cv.flat:wU cv:=fun _ _ _ _ h=>h.2
theorem cv.one:fg cv:=fun _ _ _ _ h=>by obtain ⟨rfl,-⟩:=h; exact One.all ⟨rfl,rfl,rfl,rfl,rfl,trivial⟩
structure aq where
  Kind:ByteArray
  Args:(List bk)
  Not:Bool
  deriving DecidableEq
def bw (Φ:Hp) (F:List Nat) (cs:List Value) (x:aq):Prop:=
  ∃ (s0:Value) (F0:List Nat),cs=[.string x.Kind,s0,.bool x.Not]∧F=F0∧RSl cv 5 Φ F0 s0 x.Args
theorem bw.lasts:bF bw:=fun X Φ Φ' F cs x hf hd ⟨s0,F0,hc,hF,h0⟩=>by
  rw [hF] at hd
  exact ⟨s0,F0,hc,hF,h0.frame cv.lasts hf (fun k hk=>hd k (by simp [hk]))⟩
instance:LS bw:=⟨bw.lasts⟩
theorem bw.knows:cT bw:=fun Φ F cs x ⟨s0,F0,hc,hF,h0⟩=>hF ▸ h0.kn
theorem bw.one:fg bw:=fun _ _ _ _ h=>by obtain ⟨s0,F0,rfl,-,h0⟩:=h; exact One.all ⟨rfl,h0.one,rfl,trivial⟩
def gk (Φ:Hp) (F:List Nat) (cs:List Value) (x:aq):Prop:=
  ∃ (s0:Value),cs=[.string x.Kind,s0,.bool x.Not]∧F=(ob s0++[])∧OSl cv 169 5 Φ [] s0 x.Args
theorem gk.lasts:bF gk:=fun X Φ Φ' F cs x hf hd ⟨s0,hc,hF,h0⟩=>by
  rw [hF] at hd
  exact ⟨s0,hc,hF,h0.frame cv.lasts hf (fun k hk=>hd k (by simp [hk])) (Dj.nil _)⟩
instance:LS gk:=⟨gk.lasts⟩
theorem gk.knows:cT gk:=fun Φ F cs x ⟨s0,hc,hF,h0⟩=>hF ▸ (h0.knO.app h0.kn)
theorem gk.one:fg gk:=fun _ _ _ _ h=>by obtain ⟨s0,rfl,-,h0⟩:=h; exact One.all ⟨rfl,h0.one,rfl,trivial⟩
theorem gk.gives:dJ gk bw:=fun Φ F cs x ⟨s0,hc,hF,h0⟩=>⟨s0,ob s0++[],hc,hF,h0.rslG (dJ.refl _)⟩
structure bA where
  Op:Int
  L:bk
  R:bk
  deriving DecidableEq
def bm (Φ:Hp) (F:List Nat) (cs:List Value) (x:bA):Prop:=cs=[.int .i64 x.Op,.int .i64 x.L.K,.string x.L.S,.int .i64 x.L.V.K,.int .i64 x.L.V.N,.string x.L.V.S,.int .i64 x.R.K,.string x.R.S,.int .i64 x.R.V.K,.int .i64 x.R.V.N,.string x.R.V.S]∧F=[]
theorem bm.lasts:bF bm:=fun _ _ _ _ _ _ _ _ h=>h
instance:LS bm:=⟨bm.lasts⟩
theorem bm.knows:cT bm:=fun _ _ _ _ h=>h.2 ▸ Kw.nil
theorem bm.flat:wU bm:=fun _ _ _ _ h=>h.2
theorem bm.one:fg bm:=fun _ _ _ _ h=>by obtain ⟨rfl,-⟩:=h; exact One.all ⟨rfl,rfl,rfl,rfl,rfl,rfl,rfl,rfl,rfl,rfl,rfl,trivial⟩
structure bv where
  Op:ByteArray
  L:bk
  R:bk
  deriving DecidableEq
def cu (Φ:Hp) (F:List Nat) (cs:List Value) (x:bv):Prop:=cs=[.string x.Op,.int .i64 x.L.K,.string x.L.S,.int .i64 x.L.V.K,.int .i64 x.L.V.N,.string x.L.V.S,.int .i64 x.R.K,.string x.R.S,.int .i64 x.R.V.K,.int .i64 x.R.V.N,.string x.R.V.S]∧F=[]
theorem cu.lasts:bF cu:=fun _ _ _ _ _ _ _ _ h=>h
instance:LS cu:=⟨cu.lasts⟩
theorem cu.knows:cT cu:=fun _ _ _ _ h=>h.2 ▸ Kw.nil
theorem cu.flat:wU cu:=fun _ _ _ _ h=>h.2
theorem cu.one:fg cu:=fun _ _ _ _ h=>by obtain ⟨rfl,-⟩:=h; exact One.all ⟨rfl,rfl,rfl,rfl,rfl,rfl,rfl,rfl,rfl,rfl,rfl,trivial⟩
structure bY where
  Kind:Int
  Name:ByteArray
  Args:(List bv)
  N:Int
  Undo:ByteArray
  deriving DecidableEq
def cZ (Φ:Hp) (F:List Nat) (cs:List Value) (x:bY):Prop:=
  ∃ (s0:Value) (F0:List Nat),cs=[.int .i64 x.Kind,.string x.Name,s0,.int .i64 x.N,.string x.Undo]∧F=F0∧RSl cu 11 Φ F0 s0 x.Args
theorem cZ.lasts:bF cZ:=fun X Φ Φ' F cs x hf hd ⟨s0,F0,hc,hF,h0⟩=>by
  rw [hF] at hd
  exact ⟨s0,F0,hc,hF,h0.frame cu.lasts hf (fun k hk=>hd k (by simp [hk]))⟩
instance:LS cZ:=⟨cZ.lasts⟩
theorem cZ.knows:cT cZ:=fun Φ F cs x ⟨s0,F0,hc,hF,h0⟩=>hF ▸ h0.kn
theorem cZ.one:fg cZ:=fun _ _ _ _ h=>by obtain ⟨s0,F0,rfl,-,h0⟩:=h; exact One.all ⟨rfl,rfl,h0.one,rfl,rfl,trivial⟩
def jo (Φ:Hp) (F:List Nat) (cs:List Value) (x:bY):Prop:=
  ∃ (s0:Value),cs=[.int .i64 x.Kind,.string x.Name,s0,.int .i64 x.N,.string x.Undo]∧F=(ob s0++[])∧OSl cu 231 11 Φ [] s0 x.Args
theorem jo.lasts:bF jo:=fun X Φ Φ' F cs x hf hd ⟨s0,hc,hF,h0⟩=>by
  rw [hF] at hd
  exact ⟨s0,hc,hF,h0.frame cu.lasts hf (fun k hk=>hd k (by simp [hk])) (Dj.nil _)⟩
instance:LS jo:=⟨jo.lasts⟩
theorem jo.knows:cT jo:=fun Φ F cs x ⟨s0,hc,hF,h0⟩=>hF ▸ (h0.knO.app h0.kn)
theorem jo.one:fg jo:=fun _ _ _ _ h=>by obtain ⟨s0,rfl,-,h0⟩:=h; exact One.all ⟨rfl,rfl,h0.one,rfl,rfl,trivial⟩
theorem jo.gives:dJ jo cZ:=fun Φ F cs x ⟨s0,hc,hF,h0⟩=>⟨s0,ob s0++[],hc,hF,h0.rslG (dJ.refl _)⟩
structure ac where
  Name:ByteArray
  Sal:Int
  Pats:(List aq)
  Conds:(List bA)
  Acts:(List bY)
  deriving DecidableEq
def bZ (Φ:Hp) (F:List Nat) (cs:List Value) (x:ac):Prop:=
  ∃ (s0:Value) (F0:List Nat) (s1:Value) (F1:List Nat) (s2:Value) (F2:List Nat),cs=[.string x.Name,.int .i64 x.Sal,s0,s1,s2]∧F=F0++(F1++(F2))∧RSl bw 3 Φ F0 s0 x.Pats∧RSl bm 11 Φ F1 s1 x.Conds∧RSl cZ 5 Φ F2 s2 x.Acts
theorem bZ.lasts:bF bZ:=fun X Φ Φ' F cs x hf hd ⟨s0,F0,s1,F1,s2,F2,hc,hF,h0,h1,h2⟩=>by
  rw [hF] at hd
  exact ⟨s0,F0,s1,F1,s2,F2,hc,hF,h0.frame bw.lasts hf (fun k hk=>hd k (by simp [hk])),h1.frame bm.lasts hf (fun k hk=>hd k (by simp [hk])),h2.frame cZ.lasts hf (fun k hk=>hd k (by simp [hk]))⟩
instance:LS bZ:=⟨bZ.lasts⟩
theorem bZ.knows:cT bZ:=fun Φ F cs x ⟨s0,F0,s1,F1,s2,F2,hc,hF,h0,h1,h2⟩=>hF ▸ (h0.kn.app (h1.kn.app h2.kn))
theorem bZ.one:fg bZ:=fun _ _ _ _ h=>by obtain ⟨s0,F0,s1,F1,s2,F2,rfl,-,h0,h1,h2⟩:=h; exact One.all ⟨rfl,rfl,h0.one,h1.one,h2.one,trivial⟩
def eG (Φ:Hp) (F:List Nat) (cs:List Value) (x:ac):Prop:=
  ∃ (s0:Value) (D0:List Nat) (s1:Value) (s2:Value) (D2:List Nat),cs=[.string x.Name,.int .i64 x.Sal,s0,s1,s2]∧F=(ob s0++D0)++((ob s1++[])++((ob s2++D2)))∧OSl gk 124 3 Φ D0 s0 x.Pats∧OSl bm 183 11 Φ [] s1 x.Conds∧OSl jo 187 5 Φ D2 s2 x.Acts
theorem eG.lasts:bF eG:=fun X Φ Φ' F cs x hf hd ⟨s0,D0,s1,s2,D2,hc,hF,h0,h1,h2⟩=>by
  rw [hF] at hd
  exact ⟨s0,D0,s1,s2,D2,hc,hF,h0.frame gk.lasts hf (fun k hk=>hd k (by simp [hk])) (fun k hk=>hd k (by simp [hk])),h1.frame bm.lasts hf (fun k hk=>hd k (by simp [hk])) (Dj.nil _),h2.frame jo.lasts hf (fun k hk=>hd k (by simp [hk])) (fun k hk=>hd k (by simp [hk]))⟩
instance:LS eG:=⟨eG.lasts⟩
theorem eG.knows:cT eG:=fun Φ F cs x ⟨s0,D0,s1,s2,D2,hc,hF,h0,h1,h2⟩=>hF ▸ ((h0.knO.app h0.kn).app ((h1.knO.app h1.kn).app (h2.knO.app h2.kn)))
theorem eG.one:fg eG:=fun _ _ _ _ h=>by obtain ⟨s0,D0,s1,s2,D2,rfl,-,h0,h1,h2⟩:=h; exact One.all ⟨rfl,rfl,h0.one,h1.one,h2.one,trivial⟩
theorem eG.gives:dJ eG bZ:=fun Φ F cs x ⟨s0,D0,s1,s2,D2,hc,hF,h0,h1,h2⟩=>⟨s0,ob s0++D0,s1,ob s1++[],s2,ob s2++D2,hc,hF,h0.rslG gk.gives,h1.rslG (dJ.refl _),h2.rslG jo.gives⟩
structure bi where
  Name:ByteArray
  Rules:(List ac)
  deriving DecidableEq
def ri (Φ:Hp) (F:List Nat) (cs:List Value) (x:bi):Prop:=
  ∃ (s0:Value) (F0:List Nat),cs=[.string x.Name,s0]∧F=F0∧RSl bZ 5 Φ F0 s0 x.Rules
theorem ri.lasts:bF ri:=fun X Φ Φ' F cs x hf hd ⟨s0,F0,hc,hF,h0⟩=>by
  rw [hF] at hd
  exact ⟨s0,F0,hc,hF,h0.frame bZ.lasts hf (fun k hk=>hd k (by simp [hk]))⟩
instance:LS ri:=⟨ri.lasts⟩
theorem ri.knows:cT ri:=fun Φ F cs x ⟨s0,F0,hc,hF,h0⟩=>hF ▸ h0.kn
theorem ri.one:fg ri:=fun _ _ _ _ h=>by obtain ⟨s0,F0,rfl,-,h0⟩:=h; exact One.all ⟨rfl,h0.one,trivial⟩
def sP (Φ:Hp) (F:List Nat) (cs:List Value) (x:bi):Prop:=
  ∃ (s0:Value) (D0:List Nat),cs=[.string x.Name,s0]∧F=(ob s0++D0)∧OSl eG 109 5 Φ D0 s0 x.Rules
theorem sP.lasts:bF sP:=fun X Φ Φ' F cs x hf hd ⟨s0,D0,hc,hF,h0⟩=>by
  rw [hF] at hd
  exact ⟨s0,D0,hc,hF,h0.frame eG.lasts hf (fun k hk=>hd k (by simp [hk])) (fun k hk=>hd k (by simp [hk]))⟩
instance:LS sP:=⟨sP.lasts⟩
theorem sP.knows:cT sP:=fun Φ F cs x ⟨s0,D0,hc,hF,h0⟩=>hF ▸ (h0.knO.app h0.kn)
theorem sP.one:fg sP:=fun _ _ _ _ h=>by obtain ⟨s0,D0,rfl,-,h0⟩:=h; exact One.all ⟨rfl,h0.one,trivial⟩
theorem sP.gives:dJ sP ri:=fun Φ F cs x ⟨s0,D0,hc,hF,h0⟩=>⟨s0,ob s0++D0,hc,hF,h0.rslG eG.gives⟩
structure aR where
  L:(List Int)
  deriving DecidableEq
def dv (Φ:Hp) (F:List Nat) (cs:List Value) (x:aR):Prop:=
  ∃ (s0:Value) (F0:List Nat),cs=[s0]∧F=F0∧RSl (RI .i64) 1 Φ F0 s0 x.L
theorem dv.lasts:bF dv:=fun X Φ Φ' F cs x hf hd ⟨s0,F0,hc,hF,h0⟩=>by
  rw [hF] at hd
  exact ⟨s0,F0,hc,hF,h0.frame RI.lasts hf (fun k hk=>hd k (by simp [hk]))⟩
instance:LS dv:=⟨dv.lasts⟩
theorem dv.knows:cT dv:=fun Φ F cs x ⟨s0,F0,hc,hF,h0⟩=>hF ▸ h0.kn
theorem dv.one:fg dv:=fun _ _ _ _ h=>by obtain ⟨s0,F0,rfl,-,h0⟩:=h; exact One.all ⟨h0.one,trivial⟩
def bu (Φ:Hp) (F:List Nat) (cs:List Value) (x:aR):Prop:=
  ∃ (s0:Value),cs=[s0]∧F=(ob s0++[])∧OSl (RI .i64) 3 1 Φ [] s0 x.L
theorem bu.lasts:bF bu:=fun X Φ Φ' F cs x hf hd ⟨s0,hc,hF,h0⟩=>by
  rw [hF] at hd
  exact ⟨s0,hc,hF,h0.frame RI.lasts hf (fun k hk=>hd k (by simp [hk])) (Dj.nil _)⟩
instance:LS bu:=⟨bu.lasts⟩
theorem bu.knows:cT bu:=fun Φ F cs x ⟨s0,hc,hF,h0⟩=>hF ▸ (h0.knO.app h0.kn)
theorem bu.one:fg bu:=fun _ _ _ _ h=>by obtain ⟨s0,rfl,-,h0⟩:=h; exact One.all ⟨h0.one,trivial⟩
theorem bu.gives:dJ bu dv:=fun Φ F cs x ⟨s0,hc,hF,h0⟩=>⟨s0,ob s0++[],hc,hF,h0.rslG (dJ.refl _)⟩
structure aa where
  Ids:(List Int)
  Hits:(List Int)
  deriving DecidableEq
def bD (Φ:Hp) (F:List Nat) (cs:List Value) (x:aa):Prop:=
  ∃ (s0:Value) (F0:List Nat) (s1:Value) (F1:List Nat),cs=[s0,s1]∧F=F0++(F1)∧RSl (RI .i64) 1 Φ F0 s0 x.Ids∧RSl (RI .i64) 1 Φ F1 s1 x.Hits
theorem bD.lasts:bF bD:=fun X Φ Φ' F cs x hf hd ⟨s0,F0,s1,F1,hc,hF,h0,h1⟩=>by
  rw [hF] at hd
  exact ⟨s0,F0,s1,F1,hc,hF,h0.frame RI.lasts hf (fun k hk=>hd k (by simp [hk])),h1.frame RI.lasts hf (fun k hk=>hd k (by simp [hk]))⟩
instance:LS bD:=⟨bD.lasts⟩
theorem bD.knows:cT bD:=fun Φ F cs x ⟨s0,F0,s1,F1,hc,hF,h0,h1⟩=>hF ▸ (h0.kn.app h1.kn)
theorem bD.one:fg bD:=fun _ _ _ _ h=>by obtain ⟨s0,F0,s1,F1,rfl,-,h0,h1⟩:=h; exact One.all ⟨h0.one,h1.one,trivial⟩
def aM (Φ:Hp) (F:List Nat) (cs:List Value) (x:aa):Prop:=
  ∃ (s0:Value) (s1:Value),cs=[s0,s1]∧F=(ob s0++[])++((ob s1++[]))∧OSl (RI .i64) 3 1 Φ [] s0 x.Ids∧OSl (RI .i64) 3 1 Φ [] s1 x.Hits
theorem aM.lasts:bF aM:=fun X Φ Φ' F cs x hf hd ⟨s0,s1,hc,hF,h0,h1⟩=>by
  rw [hF] at hd
  exact ⟨s0,s1,hc,hF,h0.frame RI.lasts hf (fun k hk=>hd k (by simp [hk])) (Dj.nil _),h1.frame RI.lasts hf (fun k hk=>hd k (by simp [hk])) (Dj.nil _)⟩
instance:LS aM:=⟨aM.lasts⟩
theorem aM.knows:cT aM:=fun Φ F cs x ⟨s0,s1,hc,hF,h0,h1⟩=>hF ▸ ((h0.knO.app h0.kn).app (h1.knO.app h1.kn))
theorem aM.one:fg aM:=fun _ _ _ _ h=>by obtain ⟨s0,s1,rfl,-,h0,h1⟩:=h; exact One.all ⟨h0.one,h1.one,trivial⟩
theorem aM.gives:dJ aM bD:=fun Φ F cs x ⟨s0,s1,hc,hF,h0,h1⟩=>⟨s0,ob s0++[],s1,ob s1++[],hc,hF,h0.rslG (dJ.refl _),h1.rslG (dJ.refl _)⟩
structure ab where
  Toks:(List aa)
  deriving DecidableEq
def cg (Φ:Hp) (F:List Nat) (cs:List Value) (x:ab):Prop:=
  ∃ (s0:Value) (F0:List Nat),cs=[s0]∧F=F0∧RSl bD 2 Φ F0 s0 x.Toks
theorem cg.lasts:bF cg:=fun X Φ Φ' F cs x hf hd ⟨s0,F0,hc,hF,h0⟩=>by
  rw [hF] at hd
  exact ⟨s0,F0,hc,hF,h0.frame bD.lasts hf (fun k hk=>hd k (by simp [hk]))⟩
instance:LS cg:=⟨cg.lasts⟩
theorem cg.knows:cT cg:=fun Φ F cs x ⟨s0,F0,hc,hF,h0⟩=>hF ▸ h0.kn
theorem cg.one:fg cg:=fun _ _ _ _ h=>by obtain ⟨s0,F0,rfl,-,h0⟩:=h; exact One.all ⟨h0.one,trivial⟩
def aN (Φ:Hp) (F:List Nat) (cs:List Value) (x:ab):Prop:=
  ∃ (s0:Value) (D0:List Nat),cs=[s0]∧F=(ob s0++D0)∧OSl aM 136 2 Φ D0 s0 x.Toks
theorem aN.lasts:bF aN:=fun X Φ Φ' F cs x hf hd ⟨s0,D0,hc,hF,h0⟩=>by
  rw [hF] at hd
  exact ⟨s0,D0,hc,hF,h0.frame aM.lasts hf (fun k hk=>hd k (by simp [hk])) (fun k hk=>hd k (by simp [hk]))⟩
instance:LS aN:=⟨aN.lasts⟩
theorem aN.knows:cT aN:=fun Φ F cs x ⟨s0,D0,hc,hF,h0⟩=>hF ▸ (h0.knO.app h0.kn)
theorem aN.one:fg aN:=fun _ _ _ _ h=>by obtain ⟨s0,D0,rfl,-,h0⟩:=h; exact One.all ⟨h0.one,trivial⟩
theorem aN.gives:dJ aN cg:=fun Φ F cs x ⟨s0,D0,hc,hF,h0⟩=>⟨s0,ob s0++D0,hc,hF,h0.rslG aM.gives⟩
structure aG where
  Levels:(List ab)
  deriving DecidableEq
def fm (Φ:Hp) (F:List Nat) (cs:List Value) (x:aG):Prop:=
  ∃ (s0:Value) (F0:List Nat),cs=[s0]∧F=F0∧RSl cg 1 Φ F0 s0 x.Levels
theorem fm.lasts:bF fm:=fun X Φ Φ' F cs x hf hd ⟨s0,F0,hc,hF,h0⟩=>by
  rw [hF] at hd
  exact ⟨s0,F0,hc,hF,h0.frame cg.lasts hf (fun k hk=>hd k (by simp [hk]))⟩
instance:LS fm:=⟨fm.lasts⟩
theorem fm.knows:cT fm:=fun Φ F cs x ⟨s0,F0,hc,hF,h0⟩=>hF ▸ h0.kn
theorem fm.one:fg fm:=fun _ _ _ _ h=>by obtain ⟨s0,F0,rfl,-,h0⟩:=h; exact One.all ⟨h0.one,trivial⟩
def bf (Φ:Hp) (F:List Nat) (cs:List Value) (x:aG):Prop:=
  ∃ (s0:Value) (D0:List Nat),cs=[s0]∧F=(ob s0++D0)∧OSl aN 76 1 Φ D0 s0 x.Levels
theorem bf.lasts:bF bf:=fun X Φ Φ' F cs x hf hd ⟨s0,D0,hc,hF,h0⟩=>by
  rw [hF] at hd
  exact ⟨s0,D0,hc,hF,h0.frame aN.lasts hf (fun k hk=>hd k (by simp [hk])) (fun k hk=>hd k (by simp [hk]))⟩
instance:LS bf:=⟨bf.lasts⟩
theorem bf.knows:cT bf:=fun Φ F cs x ⟨s0,D0,hc,hF,h0⟩=>hF ▸ (h0.knO.app h0.kn)
theorem bf.one:fg bf:=fun _ _ _ _ h=>by obtain ⟨s0,D0,rfl,-,h0⟩:=h; exact One.all ⟨h0.one,trivial⟩
theorem bf.gives:dJ bf fm:=fun Φ F cs x ⟨s0,D0,hc,hF,h0⟩=>⟨s0,ob s0++D0,hc,hF,h0.rslG aN.gives⟩
structure aK where
  Alphas:(List aR)
  Rules:(List aG)
  deriving DecidableEq
def rk (Φ:Hp) (F:List Nat) (cs:List Value) (x:aK):Prop:=
  ∃ (s0:Value) (F0:List Nat) (s1:Value) (F1:List Nat),cs=[s0,s1]∧F=F0++(F1)∧RSl dv 1 Φ F0 s0 x.Alphas∧RSl fm 1 Φ F1 s1 x.Rules
theorem rk.lasts:bF rk:=fun X Φ Φ' F cs x hf hd ⟨s0,F0,s1,F1,hc,hF,h0,h1⟩=>by
  rw [hF] at hd
  exact ⟨s0,F0,s1,F1,hc,hF,h0.frame dv.lasts hf (fun k hk=>hd k (by simp [hk])),h1.frame fm.lasts hf (fun k hk=>hd k (by simp [hk]))⟩
instance:LS rk:=⟨rk.lasts⟩
theorem rk.knows:cT rk:=fun Φ F cs x ⟨s0,F0,s1,F1,hc,hF,h0,h1⟩=>hF ▸ (h0.kn.app h1.kn)
theorem rk.one:fg rk:=fun _ _ _ _ h=>by obtain ⟨s0,F0,s1,F1,rfl,-,h0,h1⟩:=h; exact One.all ⟨h0.one,h1.one,trivial⟩
def sH (Φ:Hp) (F:List Nat) (cs:List Value) (x:aK):Prop:=
  ∃ (s0:Value) (D0:List Nat) (s1:Value) (D1:List Nat),cs=[s0,s1]∧F=(ob s0++D0)++((ob s1++D1))∧OSl bu 69 1 Φ D0 s0 x.Alphas∧OSl bf 72 1 Φ D1 s1 x.Rules
theorem sH.lasts:bF sH:=fun X Φ Φ' F cs x hf hd ⟨s0,D0,s1,D1,hc,hF,h0,h1⟩=>by
  rw [hF] at hd
  exact ⟨s0,D0,s1,D1,hc,hF,h0.frame bu.lasts hf (fun k hk=>hd k (by simp [hk])) (fun k hk=>hd k (by simp [hk])),h1.frame bf.lasts hf (fun k hk=>hd k (by simp [hk])) (fun k hk=>hd k (by simp [hk]))⟩
instance:LS sH:=⟨sH.lasts⟩
theorem sH.knows:cT sH:=fun Φ F cs x ⟨s0,D0,s1,D1,hc,hF,h0,h1⟩=>hF ▸ ((h0.knO.app h0.kn).app (h1.knO.app h1.kn))
theorem sH.one:fg sH:=fun _ _ _ _ h=>by obtain ⟨s0,D0,s1,D1,rfl,-,h0,h1⟩:=h; exact One.all ⟨h0.one,h1.one,trivial⟩
theorem sH.gives:dJ sH rk:=fun Φ F cs x ⟨s0,D0,s1,D1,hc,hF,h0,h1⟩=>⟨s0,ob s0++D0,s1,ob s1++D1,hc,hF,h0.rslG bu.gives,h1.rslG bf.gives⟩
structure aw where
  Kind:ByteArray
  Fields:(List aQ)
  deriving DecidableEq
def mN (Φ:Hp) (F:List Nat) (cs:List Value) (x:aw):Prop:=
  ∃ (s0:Value) (F0:List Nat),cs=[.string x.Kind,s0]∧F=F0∧RSl aF 3 Φ F0 s0 x.Fields
theorem mN.lasts:bF mN:=fun X Φ Φ' F cs x hf hd ⟨s0,F0,hc,hF,h0⟩=>by
  rw [hF] at hd
  exact ⟨s0,F0,hc,hF,h0.frame aF.lasts hf (fun k hk=>hd k (by simp [hk]))⟩
instance:LS mN:=⟨mN.lasts⟩
theorem mN.knows:cT mN:=fun Φ F cs x ⟨s0,F0,hc,hF,h0⟩=>hF ▸ h0.kn
theorem mN.one:fg mN:=fun _ _ _ _ h=>by obtain ⟨s0,F0,rfl,-,h0⟩:=h; exact One.all ⟨rfl,h0.one,trivial⟩
def pI (Φ:Hp) (F:List Nat) (cs:List Value) (x:aw):Prop:=
  ∃ (s0:Value),cs=[.string x.Kind,s0]∧F=(ob s0++[])∧OSl aF 167 3 Φ [] s0 x.Fields
theorem pI.lasts:bF pI:=fun X Φ Φ' F cs x hf hd ⟨s0,hc,hF,h0⟩=>by
  rw [hF] at hd
  exact ⟨s0,hc,hF,h0.frame aF.lasts hf (fun k hk=>hd k (by simp [hk])) (Dj.nil _)⟩
instance:LS pI:=⟨pI.lasts⟩
theorem pI.knows:cT pI:=fun Φ F cs x ⟨s0,hc,hF,h0⟩=>hF ▸ (h0.knO.app h0.kn)
theorem pI.one:fg pI:=fun _ _ _ _ h=>by obtain ⟨s0,rfl,-,h0⟩:=h; exact One.all ⟨rfl,h0.one,trivial⟩
theorem pI.gives:dJ pI mN:=fun Φ F cs x ⟨s0,hc,hF,h0⟩=>⟨s0,ob s0++[],hc,hF,h0.rslG (dJ.refl _)⟩
structure ao where
  Id:Int
  F:aw
  deriving DecidableEq
def bo (Φ:Hp) (F:List Nat) (cs:List Value) (x:ao):Prop:=
  ∃ (s0:Value) (F0:List Nat),cs=[.int .i64 x.Id,.string x.F.Kind,s0]∧F=F0∧RSl aF 3 Φ F0 s0 x.F.Fields
theorem bo.lasts:bF bo:=fun X Φ Φ' F cs x hf hd ⟨s0,F0,hc,hF,h0⟩=>by
  rw [hF] at hd
  exact ⟨s0,F0,hc,hF,h0.frame aF.lasts hf (fun k hk=>hd k (by simp [hk]))⟩
instance:LS bo:=⟨bo.lasts⟩
theorem bo.knows:cT bo:=fun Φ F cs x ⟨s0,F0,hc,hF,h0⟩=>hF ▸ h0.kn
theorem bo.one:fg bo:=fun _ _ _ _ h=>by obtain ⟨s0,F0,rfl,-,h0⟩:=h; exact One.all ⟨rfl,rfl,h0.one,trivial⟩
def dI (Φ:Hp) (F:List Nat) (cs:List Value) (x:ao):Prop:=
  ∃ (s0:Value),cs=[.int .i64 x.Id,.string x.F.Kind,s0]∧F=(ob s0++[])∧OSl aF 167 3 Φ [] s0 x.F.Fields
theorem dI.lasts:bF dI:=fun X Φ Φ' F cs x hf hd ⟨s0,hc,hF,h0⟩=>by
  rw [hF] at hd
  exact ⟨s0,hc,hF,h0.frame aF.lasts hf (fun k hk=>hd k (by simp [hk])) (Dj.nil _)⟩
instance:LS dI:=⟨dI.lasts⟩
theorem dI.knows:cT dI:=fun Φ F cs x ⟨s0,hc,hF,h0⟩=>hF ▸ (h0.knO.app h0.kn)
theorem dI.one:fg dI:=fun _ _ _ _ h=>by obtain ⟨s0,rfl,-,h0⟩:=h; exact One.all ⟨rfl,rfl,h0.one,trivial⟩
theorem dI.gives:dJ dI bo:=fun Φ F cs x ⟨s0,hc,hF,h0⟩=>⟨s0,ob s0++[],hc,hF,h0.rslG (dJ.refl _)⟩
structure ae where
  Items:(List ao)
  Next:Int
  deriving DecidableEq
def ju (Φ:Hp) (F:List Nat) (cs:List Value) (x:ae):Prop:=
  ∃ (s0:Value) (F0:List Nat),cs=[s0,.int .i64 x.Next]∧F=F0∧RSl bo 3 Φ F0 s0 x.Items
theorem ju.lasts:bF ju:=fun X Φ Φ' F cs x hf hd ⟨s0,F0,hc,hF,h0⟩=>by
  rw [hF] at hd
  exact ⟨s0,F0,hc,hF,h0.frame bo.lasts hf (fun k hk=>hd k (by simp [hk]))⟩
instance:LS ju:=⟨ju.lasts⟩
theorem ju.knows:cT ju:=fun Φ F cs x ⟨s0,F0,hc,hF,h0⟩=>hF ▸ h0.kn
theorem ju.one:fg ju:=fun _ _ _ _ h=>by obtain ⟨s0,F0,rfl,-,h0⟩:=h; exact One.all ⟨h0.one,rfl,trivial⟩
def lP (Φ:Hp) (F:List Nat) (cs:List Value) (x:ae):Prop:=
  ∃ (s0:Value) (D0:List Nat),cs=[s0,.int .i64 x.Next]∧F=(ob s0++D0)∧OSl dI 117 3 Φ D0 s0 x.Items
theorem lP.lasts:bF lP:=fun X Φ Φ' F cs x hf hd ⟨s0,D0,hc,hF,h0⟩=>by
  rw [hF] at hd
  exact ⟨s0,D0,hc,hF,h0.frame dI.lasts hf (fun k hk=>hd k (by simp [hk])) (fun k hk=>hd k (by simp [hk]))⟩
instance:LS lP:=⟨lP.lasts⟩
theorem lP.knows:cT lP:=fun Φ F cs x ⟨s0,D0,hc,hF,h0⟩=>hF ▸ (h0.knO.app h0.kn)
theorem lP.one:fg lP:=fun _ _ _ _ h=>by obtain ⟨s0,D0,rfl,-,h0⟩:=h; exact One.all ⟨h0.one,rfl,trivial⟩
theorem lP.gives:dJ lP ju:=fun Φ F cs x ⟨s0,D0,hc,hF,h0⟩=>⟨s0,ob s0++D0,hc,hF,h0.rslG dI.gives⟩
def bc (x y:aQ):Bool:=((x.K == y.K) && ((x.N == y.N) && (seq x.S y.S && true)))
theorem Eg (a b:ByteArray):seq a b=decide (a=b):=by
  unfold seq
  by_cases h:a=b
  · subst h; simp
  · have : ¬ a.toList=b.toList:=fun e=>h (by rw [ByteArray.toList_eq,ByteArray.toList_eq] at e; exact ByteArray.ext (Array.toList_inj.1 e))
    simp [h,this]
theorem jU (x y:aQ):bc x y=decide (x=y):=by
  obtain ⟨a0,a1,a2⟩:=x; obtain ⟨b0,b1,b2⟩:=y
  rw [Bool.eq_iff_iff]
  simp only [bc,Eg,Bool.and_true,Bool.and_eq_true,beq_iff_eq,decide_eq_true_eq,aQ.mk.injEq,and_assoc]
def o5 (x y:bk):Bool:=((x.K == y.K) && (seq x.S y.S && ((x.V.K == y.V.K) && ((x.V.N == y.V.N) && (seq x.V.S y.V.S && true)))))

theorem I8 (x y:bk):o5 x y=decide (x=y):=by
  obtain ⟨a0,a1,⟨a20,a21,a22⟩⟩:=x; obtain ⟨b0,b1,⟨b20,b21,b22⟩⟩:=y
  rw [Bool.eq_iff_iff]
  simp only [o5,Eg,Bool.and_true,Bool.and_eq_true,beq_iff_eq,decide_eq_true_eq,bk.mk.injEq,aQ.mk.injEq,and_assoc]
structure ak where
  Kind:ByteArray
  N:Int
  Consts:(List aQ)
  At:(List Int)
  deriving DecidableEq
def cc (Φ:Hp) (F:List Nat) (cs:List Value) (x:ak):Prop:=
  ∃ (s0:Value) (F0:List Nat) (s1:Value) (F1:List Nat),cs=[.string x.Kind,.int .i64 x.N,s0,s1]∧F=F0++(F1)∧RSl aF 3 Φ F0 s0 x.Consts∧RSl (RI .i64) 1 Φ F1 s1 x.At
theorem cc.lasts:bF cc:=fun X Φ Φ' F cs x hf hd ⟨s0,F0,s1,F1,hc,hF,h0,h1⟩=>by
  rw [hF] at hd
  exact ⟨s0,F0,s1,F1,hc,hF,h0.frame aF.lasts hf (fun k hk=>hd k (by simp [hk])),h1.frame RI.lasts hf (fun k hk=>hd k (by simp [hk]))⟩
instance:LS cc:=⟨cc.lasts⟩
theorem cc.knows:cT cc:=fun Φ F cs x ⟨s0,F0,s1,F1,hc,hF,h0,h1⟩=>hF ▸ (h0.kn.app h1.kn)
theorem cc.one:fg cc:=fun _ _ _ _ h=>by obtain ⟨s0,F0,s1,F1,rfl,-,h0,h1⟩:=h; exact One.all ⟨rfl,rfl,h0.one,h1.one,trivial⟩
def ce (Φ:Hp) (F:List Nat) (cs:List Value) (x:ak):Prop:=
  ∃ (s0:Value) (s1:Value),cs=[.string x.Kind,.int .i64 x.N,s0,s1]∧F=(ob s0++[])++((ob s1++[]))∧OSl aF 167 3 Φ [] s0 x.Consts∧OSl (RI .i64) 3 1 Φ [] s1 x.At
theorem ce.lasts:bF ce:=fun X Φ Φ' F cs x hf hd ⟨s0,s1,hc,hF,h0,h1⟩=>by
  rw [hF] at hd
  exact ⟨s0,s1,hc,hF,h0.frame aF.lasts hf (fun k hk=>hd k (by simp [hk])) (Dj.nil _),h1.frame RI.lasts hf (fun k hk=>hd k (by simp [hk])) (Dj.nil _)⟩
instance:LS ce:=⟨ce.lasts⟩
theorem ce.knows:cT ce:=fun Φ F cs x ⟨s0,s1,hc,hF,h0,h1⟩=>hF ▸ ((h0.knO.app h0.kn).app (h1.knO.app h1.kn))
theorem ce.one:fg ce:=fun _ _ _ _ h=>by obtain ⟨s0,s1,rfl,-,h0,h1⟩:=h; exact One.all ⟨rfl,rfl,h0.one,h1.one,trivial⟩
theorem ce.gives:dJ ce cc:=fun Φ F cs x ⟨s0,s1,hc,hF,h0,h1⟩=>⟨s0,ob s0++[],s1,ob s1++[],hc,hF,h0.rslG (dJ.refl _),h1.rslG (dJ.refl _)⟩
structure aD where
  Pos:(List Int)
  Neg:(List Int)
  deriving DecidableEq
def et (Φ:Hp) (F:List Nat) (cs:List Value) (x:aD):Prop:=
  ∃ (s0:Value) (F0:List Nat) (s1:Value) (F1:List Nat),cs=[s0,s1]∧F=F0++(F1)∧RSl (RI .i64) 1 Φ F0 s0 x.Pos∧RSl (RI .i64) 1 Φ F1 s1 x.Neg
theorem et.lasts:bF et:=fun X Φ Φ' F cs x hf hd ⟨s0,F0,s1,F1,hc,hF,h0,h1⟩=>by
  rw [hF] at hd
  exact ⟨s0,F0,s1,F1,hc,hF,h0.frame RI.lasts hf (fun k hk=>hd k (by simp [hk])),h1.frame RI.lasts hf (fun k hk=>hd k (by simp [hk]))⟩
instance:LS et:=⟨et.lasts⟩
theorem et.knows:cT et:=fun Φ F cs x ⟨s0,F0,s1,F1,hc,hF,h0,h1⟩=>hF ▸ (h0.kn.app h1.kn)
theorem et.one:fg et:=fun _ _ _ _ h=>by obtain ⟨s0,F0,s1,F1,rfl,-,h0,h1⟩:=h; exact One.all ⟨h0.one,h1.one,trivial⟩
def bj (Φ:Hp) (F:List Nat) (cs:List Value) (x:aD):Prop:=
  ∃ (s0:Value) (s1:Value),cs=[s0,s1]∧F=(ob s0++[])++((ob s1++[]))∧OSl (RI .i64) 3 1 Φ [] s0 x.Pos∧OSl (RI .i64) 3 1 Φ [] s1 x.Neg
theorem bj.lasts:bF bj:=fun X Φ Φ' F cs x hf hd ⟨s0,s1,hc,hF,h0,h1⟩=>by
  rw [hF] at hd
  exact ⟨s0,s1,hc,hF,h0.frame RI.lasts hf (fun k hk=>hd k (by simp [hk])) (Dj.nil _),h1.frame RI.lasts hf (fun k hk=>hd k (by simp [hk])) (Dj.nil _)⟩
instance:LS bj:=⟨bj.lasts⟩
theorem bj.knows:cT bj:=fun Φ F cs x ⟨s0,s1,hc,hF,h0,h1⟩=>hF ▸ ((h0.knO.app h0.kn).app (h1.knO.app h1.kn))
theorem bj.one:fg bj:=fun _ _ _ _ h=>by obtain ⟨s0,s1,rfl,-,h0,h1⟩:=h; exact One.all ⟨h0.one,h1.one,trivial⟩
theorem bj.gives:dJ bj et:=fun Φ F cs x ⟨s0,s1,hc,hF,h0,h1⟩=>⟨s0,ob s0++[],s1,ob s1++[],hc,hF,h0.rslG (dJ.refl _),h1.rslG (dJ.refl _)⟩
structure bB where
  Alphas:(List ak)
  Chains:(List aD)
  deriving DecidableEq
def tJ (Φ:Hp) (F:List Nat) (cs:List Value) (x:bB):Prop:=
  ∃ (s0:Value) (F0:List Nat) (s1:Value) (F1:List Nat),cs=[s0,s1]∧F=F0++(F1)∧RSl cc 4 Φ F0 s0 x.Alphas∧RSl et 2 Φ F1 s1 x.Chains
theorem tJ.lasts:bF tJ:=fun X Φ Φ' F cs x hf hd ⟨s0,F0,s1,F1,hc,hF,h0,h1⟩=>by
  rw [hF] at hd
  exact ⟨s0,F0,s1,F1,hc,hF,h0.frame cc.lasts hf (fun k hk=>hd k (by simp [hk])),h1.frame et.lasts hf (fun k hk=>hd k (by simp [hk]))⟩
instance:LS tJ:=⟨tJ.lasts⟩
theorem tJ.knows:cT tJ:=fun Φ F cs x ⟨s0,F0,s1,F1,hc,hF,h0,h1⟩=>hF ▸ (h0.kn.app h1.kn)
theorem tJ.one:fg tJ:=fun _ _ _ _ h=>by obtain ⟨s0,F0,s1,F1,rfl,-,h0,h1⟩:=h; exact One.all ⟨h0.one,h1.one,trivial⟩
def sK (Φ:Hp) (F:List Nat) (cs:List Value) (x:bB):Prop:=
  ∃ (s0:Value) (D0:List Nat) (s1:Value) (D1:List Nat),cs=[s0,s1]∧F=(ob s0++D0)++((ob s1++D1))∧OSl ce 128 4 Φ D0 s0 x.Alphas∧OSl bj 121 2 Φ D1 s1 x.Chains
theorem sK.lasts:bF sK:=fun X Φ Φ' F cs x hf hd ⟨s0,D0,s1,D1,hc,hF,h0,h1⟩=>by
  rw [hF] at hd
  exact ⟨s0,D0,s1,D1,hc,hF,h0.frame ce.lasts hf (fun k hk=>hd k (by simp [hk])) (fun k hk=>hd k (by simp [hk])),h1.frame bj.lasts hf (fun k hk=>hd k (by simp [hk])) (fun k hk=>hd k (by simp [hk]))⟩
instance:LS sK:=⟨sK.lasts⟩
theorem sK.knows:cT sK:=fun Φ F cs x ⟨s0,D0,s1,D1,hc,hF,h0,h1⟩=>hF ▸ ((h0.knO.app h0.kn).app (h1.knO.app h1.kn))
theorem sK.one:fg sK:=fun _ _ _ _ h=>by obtain ⟨s0,D0,s1,D1,rfl,-,h0,h1⟩:=h; exact One.all ⟨h0.one,h1.one,trivial⟩
theorem sK.gives:dJ sK tJ:=fun Φ F cs x ⟨s0,D0,s1,D1,hc,hF,h0,h1⟩=>⟨s0,ob s0++D0,s1,ob s1++D1,hc,hF,h0.rslG ce.gives,h1.rslG bj.gives⟩
structure aC where
  Name:ByteArray
  V:aQ
  deriving DecidableEq
def aW (Φ:Hp) (F:List Nat) (cs:List Value) (x:aC):Prop:=cs=[.string x.Name,.int .i64 x.V.K,.int .i64 x.V.N,.string x.V.S]∧F=[]
theorem aW.lasts:bF aW:=fun _ _ _ _ _ _ _ _ h=>h
instance:LS aW:=⟨aW.lasts⟩
theorem aW.knows:cT aW:=fun _ _ _ _ h=>h.2 ▸ Kw.nil
theorem aW.flat:wU aW:=fun _ _ _ _ h=>h.2
theorem aW.one:fg aW:=fun _ _ _ _ h=>by obtain ⟨rfl,-⟩:=h; exact One.all ⟨rfl,rfl,rfl,rfl,trivial⟩
structure ci where
  pos:(List aq)
  neg:(List aq)
  chain:aD
  alphas:(List aR)
  s:ae
  id:Int
  deriving DecidableEq
def kM (Φ:Hp) (F:List Nat) (cs:List Value) (x:ci):Prop:=
  ∃ (s0:Value) (F0:List Nat) (s1:Value) (F1:List Nat) (s2:Value) (F2:List Nat) (s3:Value) (F3:List Nat) (s4:Value) (F4:List Nat) (s5:Value) (F5:List Nat),cs=[s0,s1,s2,s3,s4,s5,.int .i64 x.s.Next,.int .i64 x.id]∧F=F0++(F1++(F2++(F3++(F4++(F5)))))∧RSl bw 3 Φ F0 s0 x.pos∧RSl bw 3 Φ F1 s1 x.neg∧RSl (RI .i64) 1 Φ F2 s2 x.chain.Pos∧RSl (RI .i64) 1 Φ F3 s3 x.chain.Neg∧RSl dv 1 Φ F4 s4 x.alphas∧RSl bo 3 Φ F5 s5 x.s.Items
theorem kM.lasts:bF kM:=fun X Φ Φ' F cs x hf hd ⟨s0,F0,s1,F1,s2,F2,s3,F3,s4,F4,s5,F5,hc,hF,h0,h1,h2,h3,h4,h5⟩=>by
  rw [hF] at hd
  exact ⟨s0,F0,s1,F1,s2,F2,s3,F3,s4,F4,s5,F5,hc,hF,h0.frame bw.lasts hf (fun k hk=>hd k (by simp [hk])),h1.frame bw.lasts hf (fun k hk=>hd k (by simp [hk])),h2.frame RI.lasts hf (fun k hk=>hd k (by simp [hk])),h3.frame RI.lasts hf (fun k hk=>hd k (by simp [hk])),h4.frame dv.lasts hf (fun k hk=>hd k (by simp [hk])),h5.frame bo.lasts hf (fun k hk=>hd k (by simp [hk]))⟩
instance:LS kM:=⟨kM.lasts⟩
theorem kM.knows:cT kM:=fun Φ F cs x ⟨s0,F0,s1,F1,s2,F2,s3,F3,s4,F4,s5,F5,hc,hF,h0,h1,h2,h3,h4,h5⟩=>hF ▸ (h0.kn.app (h1.kn.app (h2.kn.app (h3.kn.app (h4.kn.app h5.kn)))))
theorem kM.one:fg kM:=fun _ _ _ _ h=>by obtain ⟨s0,F0,s1,F1,s2,F2,s3,F3,s4,F4,s5,F5,rfl,-,h0,h1,h2,h3,h4,h5⟩:=h; exact One.all ⟨h0.one,h1.one,h2.one,h3.one,h4.one,h5.one,rfl,rfl,trivial⟩
def jn (Φ:Hp) (F:List Nat) (cs:List Value) (x:ci):Prop:=
  ∃ (s0:Value) (D0:List Nat) (s1:Value) (D1:List Nat) (s2:Value) (s3:Value) (s4:Value) (D4:List Nat) (s5:Value) (D5:List Nat),cs=[s0,s1,s2,s3,s4,s5,.int .i64 x.s.Next,.int .i64 x.id]∧F=(ob s0++D0)++((ob s1++D1)++((ob s2++[])++((ob s3++[])++((ob s4++D4)++((ob s5++D5))))))∧OSl gk 124 3 Φ D0 s0 x.pos∧OSl gk 124 3 Φ D1 s1 x.neg∧OSl (RI .i64) 3 1 Φ [] s2 x.chain.Pos∧OSl (RI .i64) 3 1 Φ [] s3 x.chain.Neg∧OSl bu 69 1 Φ D4 s4 x.alphas∧OSl dI 117 3 Φ D5 s5 x.s.Items
theorem jn.lasts:bF jn:=fun X Φ Φ' F cs x hf hd ⟨s0,D0,s1,D1,s2,s3,s4,D4,s5,D5,hc,hF,h0,h1,h2,h3,h4,h5⟩=>by
  rw [hF] at hd
  exact ⟨s0,D0,s1,D1,s2,s3,s4,D4,s5,D5,hc,hF,h0.frame gk.lasts hf (fun k hk=>hd k (by simp [hk])) (fun k hk=>hd k (by simp [hk])),h1.frame gk.lasts hf (fun k hk=>hd k (by simp [hk])) (fun k hk=>hd k (by simp [hk])),h2.frame RI.lasts hf (fun k hk=>hd k (by simp [hk])) (Dj.nil _),h3.frame RI.lasts hf (fun k hk=>hd k (by simp [hk])) (Dj.nil _),h4.frame bu.lasts hf (fun k hk=>hd k (by simp [hk])) (fun k hk=>hd k (by simp [hk])),h5.frame dI.lasts hf (fun k hk=>hd k (by simp [hk])) (fun k hk=>hd k (by simp [hk]))⟩
instance:LS jn:=⟨jn.lasts⟩
theorem jn.knows:cT jn:=fun Φ F cs x ⟨s0,D0,s1,D1,s2,s3,s4,D4,s5,D5,hc,hF,h0,h1,h2,h3,h4,h5⟩=>hF ▸ ((h0.knO.app h0.kn).app ((h1.knO.app h1.kn).app ((h2.knO.app h2.kn).app ((h3.knO.app h3.kn).app ((h4.knO.app h4.kn).app (h5.knO.app h5.kn))))))
theorem jn.one:fg jn:=fun _ _ _ _ h=>by obtain ⟨s0,D0,s1,D1,s2,s3,s4,D4,s5,D5,rfl,-,h0,h1,h2,h3,h4,h5⟩:=h; exact One.all ⟨h0.one,h1.one,h2.one,h3.one,h4.one,h5.one,rfl,rfl,trivial⟩
theorem jn.gives:dJ jn kM:=fun Φ F cs x ⟨s0,D0,s1,D1,s2,s3,s4,D4,s5,D5,hc,hF,h0,h1,h2,h3,h4,h5⟩=>⟨s0,ob s0++D0,s1,ob s1++D1,s2,ob s2++[],s3,ob s3++[],s4,ob s4++D4,s5,ob s5++D5,hc,hF,h0.rslG gk.gives,h1.rslG gk.gives,h2.rslG (dJ.refl _),h3.rslG (dJ.refl _),h4.rslG bu.gives,h5.rslG dI.gives⟩
def l7 (N:Nat) (p0:aQ) (p1:Int):Option (Int):=
  (if decide (i64.wrap (p1 - (p0.S.size:Int)) < 0) then some (-1) else some (i64.wrap (p1 - (p0.S.size:Int))))
def i7 (N:Nat) (p0:bk) (p1:Int):Option (Int):=
  (if decide (i64.wrap (p1 - (p0.S.size:Int)) < 0) then some (-1) else ((l7 N p0.V (i64.wrap (p1 - (p0.S.size:Int)))).bind fun x1=>(if decide (x1 < 0) then some (-1) else some x1)))
def i8 (N:Nat) (p0:(List bk)):Nat→Int→Int→Option (Int)
  | 0,_,_=>none
  | k+1,s1,s2=>
    (if decide (s2 < (p0.length:Int)) then ((idx p0 s2).bind fun x1=>((i7 N x1 s1).bind fun x2=>(if decide (x2 < 0) then some (-1) else ((i8 N p0 k) x2 (i64.wrap (s2+1)))))) else some s1)
def ox (N:Nat) (p0:(List bk)) (p1:Int):Option (Int):=
  (if decide (i64.wrap (p1 - (p0.length:Int)) < 0) then some (-1) else i8 N p0 N (i64.wrap (p1 - (p0.length:Int))) 0)
def nJ (N:Nat) (p0:aq) (p1:Int):Option (Int):=
  (if decide (i64.wrap (p1 - (p0.Kind.size:Int)) < 0) then some (-1) else ((ox N p0.Args (i64.wrap (p1 - (p0.Kind.size:Int)))).bind fun x1=>(if decide (x1 < 0) then some (-1) else some x1)))
def ig (N:Nat) (p0:(List aq)):Nat→Int→Int→Option (Int)
  | 0,_,_=>none
  | k+1,s1,s2=>
    (if decide (s2 < (p0.length:Int)) then ((idx p0 s2).bind fun x1=>((nJ N x1 s1).bind fun x2=>(if decide (x2 < 0) then some (-1) else ((ig N p0 k) x2 (i64.wrap (s2+1)))))) else some s1)
def nM (N:Nat) (p0:(List aq)) (p1:Int):Option (Int):=
  (if decide (i64.wrap (p1 - (p0.length:Int)) < 0) then some (-1) else ig N p0 N (i64.wrap (p1 - (p0.length:Int))) 0)
def lF (N:Nat) (p0:bA) (p1:Int):Option (Int):=
  ((i7 N p0.L p1).bind fun x1=>(if decide (x1 < 0) then some (-1) else ((i7 N p0.R x1).bind fun x2=>(if decide (x2 < 0) then some (-1) else some x2))))
def gn (N:Nat) (p0:(List bA)):Nat→Int→Int→Option (Int)
  | 0,_,_=>none
  | k+1,s1,s2=>
    (if decide (s2 < (p0.length:Int)) then ((idx p0 s2).bind fun x1=>((lF N x1 s1).bind fun x2=>(if decide (x2 < 0) then some (-1) else ((gn N p0 k) x2 (i64.wrap (s2+1)))))) else some s1)
def mo (N:Nat) (p0:(List bA)) (p1:Int):Option (Int):=
  (if decide (i64.wrap (p1 - (p0.length:Int)) < 0) then some (-1) else gn N p0 N (i64.wrap (p1 - (p0.length:Int))) 0)
def l6 (N:Nat) (p0:bv) (p1:Int):Option (Int):=
  (if decide (i64.wrap (p1 - (p0.Op.size:Int)) < 0) then some (-1) else ((i7 N p0.L (i64.wrap (p1 - (p0.Op.size:Int)))).bind fun x1=>(if decide (x1 < 0) then some (-1) else ((i7 N p0.R x1).bind fun x2=>(if decide (x2 < 0) then some (-1) else some x2)))))
def gg (N:Nat) (p0:(List bv)):Nat→Int→Int→Option (Int)
  | 0,_,_=>none
  | k+1,s1,s2=>
    (if decide (s2 < (p0.length:Int)) then ((idx p0 s2).bind fun x1=>((l6 N x1 s1).bind fun x2=>(if decide (x2 < 0) then some (-1) else ((gg N p0 k) x2 (i64.wrap (s2+1)))))) else some s1)
def ml (N:Nat) (p0:(List bv)) (p1:Int):Option (Int):=
  (if decide (i64.wrap (p1 - (p0.length:Int)) < 0) then some (-1) else gg N p0 N (i64.wrap (p1 - (p0.length:Int))) 0)
def nG (N:Nat) (p0:bY) (p1:Int):Option (Int):=
  (if decide (i64.wrap (p1 - (p0.Name.size:Int)) < 0) then some (-1) else ((ml N p0.Args (i64.wrap (p1 - (p0.Name.size:Int)))).bind fun x1=>(if decide (x1 < 0) then some (-1) else (if decide (i64.wrap (x1 - (p0.Undo.size:Int)) < 0) then some (-1) else some (i64.wrap (x1 - (p0.Undo.size:Int)))))))
def ik (N:Nat) (p0:(List bY)):Nat→Int→Int→Option (Int)
  | 0,_,_=>none
  | k+1,s1,s2=>
    (if decide (s2 < (p0.length:Int)) then ((idx p0 s2).bind fun x1=>((nG N x1 s1).bind fun x2=>(if decide (x2 < 0) then some (-1) else ((ik N p0 k) x2 (i64.wrap (s2+1)))))) else some s1)
def oY (N:Nat) (p0:(List bY)) (p1:Int):Option (Int):=
  (if decide (i64.wrap (p1 - (p0.length:Int)) < 0) then some (-1) else ik N p0 N (i64.wrap (p1 - (p0.length:Int))) 0)
def lm (N:Nat) (p0:ac) (p1:Int):Option (Int):=
  (if decide (i64.wrap (p1 - (p0.Name.size:Int)) < 0) then some (-1) else ((nM N p0.Pats (i64.wrap (p1 - (p0.Name.size:Int)))).bind fun x1=>(if decide (x1 < 0) then some (-1) else ((mo N p0.Conds x1).bind fun x2=>(if decide (x2 < 0) then some (-1) else ((oY N p0.Acts x2).bind fun x3=>(if decide (x3 < 0) then some (-1) else some x3)))))))
def gj (N:Nat) (p0:(List ac)):Nat→Int→Int→Option (Int)
  | 0,_,_=>none
  | k+1,s1,s2=>
    (if decide (s2 < (p0.length:Int)) then ((idx p0 s2).bind fun x1=>((lm N x1 s1).bind fun x2=>(if decide (x2 < 0) then some (-1) else ((gj N p0 k) x2 (i64.wrap (s2+1)))))) else some s1)
def mv (N:Nat) (p0:(List ac)) (p1:Int):Option (Int):=
  (if decide (i64.wrap (p1 - (p0.length:Int)) < 0) then some (-1) else gj N p0 N (i64.wrap (p1 - (p0.length:Int))) 0)
def qj (N:Nat) (p0:bi) (p1:Int):Option (Int):=
  (if decide (i64.wrap (p1 - (p0.Name.size:Int)) < 0) then some (-1) else ((mv N p0.Rules (i64.wrap (p1 - (p0.Name.size:Int)))).bind fun x1=>(if decide (x1 < 0) then some (-1) else some x1)))
def jE (N:Nat) (p0:(List Int)) (p1:Int):Option (Int):=
  (if decide (i64.wrap (p1 - (p0.length:Int)) < 0) then some (-1) else some (i64.wrap (p1 - (p0.length:Int))))
def nB (N:Nat) (p0:aR) (p1:Int):Option (Int):=
  ((jE N p0.L p1).bind fun x1=>(if decide (x1 < 0) then some (-1) else some x1))
def im (N:Nat) (p0:(List aR)):Nat→Int→Int→Option (Int)
  | 0,_,_=>none
  | k+1,s1,s2=>
    (if decide (s2 < (p0.length:Int)) then ((idx p0 s2).bind fun x1=>((nB N x1 s1).bind fun x2=>(if decide (x2 < 0) then some (-1) else ((im N p0 k) x2 (i64.wrap (s2+1)))))) else some s1)
def pb (N:Nat) (p0:(List aR)) (p1:Int):Option (Int):=
  (if decide (i64.wrap (p1 - (p0.length:Int)) < 0) then some (-1) else im N p0 N (i64.wrap (p1 - (p0.length:Int))) 0)
def nD (N:Nat) (p0:aa) (p1:Int):Option (Int):=
  ((jE N p0.Ids p1).bind fun x1=>(if decide (x1 < 0) then some (-1) else ((jE N p0.Hits x1).bind fun x2=>(if decide (x2 < 0) then some (-1) else some x2))))
def gU (N:Nat) (p0:(List aa)):Nat→Int→Int→Option (Int)
  | 0,_,_=>none
  | k+1,s1,s2=>
    (if decide (s2 < (p0.length:Int)) then ((idx p0 s2).bind fun x1=>((nD N x1 s1).bind fun x2=>(if decide (x2 < 0) then some (-1) else ((gU N p0 k) x2 (i64.wrap (s2+1)))))) else some s1)
def nW (N:Nat) (p0:(List aa)) (p1:Int):Option (Int):=
  (if decide (i64.wrap (p1 - (p0.length:Int)) < 0) then some (-1) else gU N p0 N (i64.wrap (p1 - (p0.length:Int))) 0)
def jI (N:Nat) (p0:ab) (p1:Int):Option (Int):=
  ((nW N p0.Toks p1).bind fun x1=>(if decide (x1 < 0) then some (-1) else some x1))
def fy (N:Nat) (p0:(List ab)):Nat→Int→Int→Option (Int)
  | 0,_,_=>none
  | k+1,s1,s2=>
    (if decide (s2 < (p0.length:Int)) then ((idx p0 s2).bind fun x1=>((jI N x1 s1).bind fun x2=>(if decide (x2 < 0) then some (-1) else ((fy N p0 k) x2 (i64.wrap (s2+1)))))) else some s1)
def kr (N:Nat) (p0:(List ab)) (p1:Int):Option (Int):=
  (if decide (i64.wrap (p1 - (p0.length:Int)) < 0) then some (-1) else fy N p0 N (i64.wrap (p1 - (p0.length:Int))) 0)
def nF (N:Nat) (p0:aG) (p1:Int):Option (Int):=
  ((kr N p0.Levels p1).bind fun x1=>(if decide (x1 < 0) then some (-1) else some x1))
def iq (N:Nat) (p0:(List aG)):Nat→Int→Int→Option (Int)
  | 0,_,_=>none
  | k+1,s1,s2=>
    (if decide (s2 < (p0.length:Int)) then ((idx p0 s2).bind fun x1=>((nF N x1 s1).bind fun x2=>(if decide (x2 < 0) then some (-1) else ((iq N p0 k) x2 (i64.wrap (s2+1)))))) else some s1)
def od (N:Nat) (p0:(List aG)) (p1:Int):Option (Int):=
  (if decide (i64.wrap (p1 - (p0.length:Int)) < 0) then some (-1) else iq N p0 N (i64.wrap (p1 - (p0.length:Int))) 0)
def qA (N:Nat) (p0:aK) (p1:Int):Option (Int):=
  ((pb N p0.Alphas p1).bind fun x1=>(if decide (x1 < 0) then some (-1) else ((od N p0.Rules x1).bind fun x2=>(if decide (x2 < 0) then some (-1) else some x2))))
def ib (N:Nat) (p0:(List aQ)):Nat→Int→Int→Option (Int)
  | 0,_,_=>none
  | k+1,s1,s2=>
    (if decide (s2 < (p0.length:Int)) then ((idx p0 s2).bind fun x1=>((l7 N x1 s1).bind fun x2=>(if decide (x2 < 0) then some (-1) else ((ib N p0 k) x2 (i64.wrap (s2+1)))))) else some s1)
def oE (N:Nat) (p0:(List aQ)) (p1:Int):Option (Int):=
  (if decide (i64.wrap (p1 - (p0.length:Int)) < 0) then some (-1) else ib N p0 N (i64.wrap (p1 - (p0.length:Int))) 0)
def nR (N:Nat) (p0:aw) (p1:Int):Option (Int):=
  (if decide (i64.wrap (p1 - (p0.Kind.size:Int)) < 0) then some (-1) else ((oE N p0.Fields (i64.wrap (p1 - (p0.Kind.size:Int)))).bind fun x1=>(if decide (x1 < 0) then some (-1) else some x1)))
def lg (N:Nat) (p0:ao) (p1:Int):Option (Int):=
  ((nR N p0.F p1).bind fun x1=>(if decide (x1 < 0) then some (-1) else some x1))
def gq (N:Nat) (p0:(List ao)):Nat→Int→Int→Option (Int)
  | 0,_,_=>none
  | k+1,s1,s2=>
    (if decide (s2 < (p0.length:Int)) then ((idx p0 s2).bind fun x1=>((lg N x1 s1).bind fun x2=>(if decide (x2 < 0) then some (-1) else ((gq N p0 k) x2 (i64.wrap (s2+1)))))) else some s1)
def lQ (N:Nat) (p0:(List ao)) (p1:Int):Option (Int):=
  (if decide (i64.wrap (p1 - (p0.length:Int)) < 0) then some (-1) else gq N p0 N (i64.wrap (p1 - (p0.length:Int))) 0)
def lT (N:Nat) (p0:ae) (p1:Int):Option (Int):=
  ((lQ N p0.Items p1).bind fun x1=>(if decide (x1 < 0) then some (-1) else some x1))
def cW (N:Nat) (p0:Int) (p1:Int) (p2:Int):Option (Bool):=
  ((if decide (p1≤p0) then some (decide (p0≤p2)) else some false).bind fun b1=>some b1)
def gD (N:Nat) (p0:Int):Option (Bool):=
  ((cW N (i64.wrap p0) 97 122).bind fun x1=>((if x1 then some true else ((cW N (i64.wrap p0) 48 57).bind fun x2=>some x2)).bind fun b1=>((if b1 then some true else some (decide (p0=95))).bind fun b2=>some b2)))
def e8 (N:Nat) (p0:ByteArray):Nat→Int→Option (Bool)
  | 0,_=>none
  | k+1,s1=>
    (if decide (s1 < (p0.size:Int)) then ((idx p0.data.toList s1).bind fun y1=>((gD N (y1.toNat:Int)).bind fun x1=>((if !x1 then some true else ((if decide (s1=0) then ((idx p0.data.toList s1).bind fun y2=>((cW N (i64.wrap (y2.toNat:Int)) 97 122).bind fun x2=>some (!x2))) else some false).bind fun b2=>some b2)).bind fun b1=>(if b1 then some false else ((e8 N p0 k) (i64.wrap (s1+1))))))) else ((cW N (p0.size:Int) 1 12).bind fun x3=>some x3))
def dF (N:Nat) (p0:ByteArray):Option (Bool):=
  e8 N p0 N 0
def gP (N:Nat) (p0:(List ByteArray)) (p1:ByteArray):Nat→Int→Option (Bool)
  | 0,_=>none
  | k+1,s1=>
    (if decide (s1 < (p0.length:Int)) then ((idx p0 s1).bind fun x1=>(if seq x1 p1 then some true else ((gP N p0 p1 k) (i64.wrap (s1+1))))) else some false)
def lI (N:Nat) (p0:(List ByteArray)) (p1:ByteArray):Option (Bool):=
  gP N p0 p1 N 0
def eM (N:Nat) (p0:aq):Nat→(List ByteArray)→Int→Option ((List ByteArray))
  | 0,_,_=>none
  | k+1,s1,s2=>
    (if decide (s2 < (p0.Args.length:Int)) then ((idx p0.Args s2).bind fun x1=>((if decide (x1.K=1) then ((idx p0.Args s2).bind fun x2=>((lI N s1 x2.S).bind fun x3=>some (!x3))) else some false).bind fun b1=>(if b1 then ((idx p0.Args s2).bind fun x4=>((app s1 ([x4.S]:List ByteArray)).bind fun x5=>((eM N p0 k) x5 (i64.wrap (s2+1))))) else ((eM N p0 k) s1 (i64.wrap (s2+1)))))) else some s1)
def oR (N:Nat) (p0:aq):Option ((List ByteArray)):=
  eM N p0 N ([]:List ByteArray) 0
def cw (N:Nat) (p0:ac) (s2:Int) (K1:(List ByteArray)→Int→Option ((List ByteArray))) (x2:(List ByteArray)):Nat→(List ByteArray)→Int→Option ((List ByteArray))
  | 0,_,_=>none
  | k+1,s3,s4=>
    ((if decide (s4 < (x2.length:Int)) then ((idx p0.Pats s2).bind fun x3=>some (!x3.Not)) else some false).bind fun b1=>(if b1 then ((idx x2 s4).bind fun x4=>((lI N s3 x4).bind fun x5=>(if !x5 then ((idx x2 s4).bind fun x6=>((app s3 ([x6]:List ByteArray)).bind fun x7=>((cw N p0 s2 K1 x2 k) x7 (i64.wrap (s4+1))))) else ((cw N p0 s2 K1 x2 k) s3 (i64.wrap (s4+1)))))) else (K1 s3 (i64.wrap (s2+1)))))
def cl (N:Nat) (p0:ac):Nat→(List ByteArray)→Int→Option ((List ByteArray))
  | 0,_,_=>none
  | k+1,s1,s2=>
    (if decide (s2 < (p0.Pats.length:Int)) then ((idx p0.Pats s2).bind fun x1=>((oR N x1).bind fun x2=>cw N p0 s2 (cl N p0 k) x2 N s1 0)) else some s1)
def jM (N:Nat) (p0:ac):Option ((List ByteArray)):=
  cl N p0 N ([]:List ByteArray) 0
def e9 (N:Nat) (p0:ByteArray):Nat→Int→Option (Bool)
  | 0,_=>none
  | k+1,s1=>
    (if decide (s1 < (p0.size:Int)) then ((idx p0.data.toList s1).bind fun y1=>((gD N (y1.toNat:Int)).bind fun x1=>(if !x1 then some false else ((e9 N p0 k) (i64.wrap (s1+1)))))) else some (decide ((p0.size:Int)≤20)))
def m7 (N:Nat) (p0:ByteArray):Option (Bool):=
  e9 N p0 N 0
def nt (N:Nat) (p0:aQ):Option (Bool):=
  (if decide (p0.K=1) then ((cW N p0.N (-1000000000) 1000000000).bind fun x1=>((if x1 then some (seq p0.S (⟨#[]⟩:ByteArray)) else some false).bind fun b1=>some b1)) else (if decide (p0.K=2) then ((m7 N p0.S).bind fun x2=>((if x2 then some (decide (p0.N=0)) else some false).bind fun b2=>some b2)) else some false))
def lW (N:Nat) (p0:Int):Option (Bool):=
  ((cW N (i64.wrap p0) 65 90).bind fun x1=>some x1)
def cL (N:Nat) (p0:ByteArray):Nat→Int→Option (Bool)
  | 0,_=>none
  | k+1,s1=>
    (if decide (s1 < (p0.size:Int)) then ((idx p0.data.toList s1).bind fun y1=>((lW N (y1.toNat:Int)).bind fun x1=>((if !x1 then ((if decide (s1=0) then some true else ((idx p0.data.toList s1).bind fun y2=>((gD N (y2.toNat:Int)).bind fun x2=>some (!x2)))).bind fun b2=>some b2) else some false).bind fun b1=>(if b1 then some false else ((cL N p0 k) (i64.wrap (s1+1))))))) else ((cW N (p0.size:Int) 1 12).bind fun x3=>some x3))
def m9 (N:Nat) (p0:ByteArray):Option (Bool):=
  cL N p0 N 0
def jP (N:Nat) (p0:bk):Option (Bool):=
  (if decide (p0.K=1) then ((m9 N p0.S).bind fun x1=>((if x1 then some (bc p0.V (⟨0,0,(⟨#[]⟩:ByteArray)⟩:aQ)) else some false).bind fun b1=>some b1)) else (if decide (p0.K=2) then ((nt N p0.V).bind fun x2=>((if x2 then some (seq p0.S (⟨#[]⟩:ByteArray)) else some false).bind fun b2=>some b2)) else (if decide (p0.K=3) then ((if seq p0.S (⟨#[]⟩:ByteArray) then some (bc p0.V (⟨0,0,(⟨#[]⟩:ByteArray)⟩:aQ)) else some false).bind fun b3=>some b3) else some false)))
def fF (N:Nat) (p0:aq):Nat→Int→Option (Bool)
  | 0,_=>none
  | k+1,s1=>
    (if decide (s1 < (p0.Args.length:Int)) then ((idx p0.Args s1).bind fun x1=>((jP N x1).bind fun x2=>(if !x2 then some false else ((fF N p0 k) (i64.wrap (s1+1)))))) else ((dF N p0.Kind).bind fun x3=>((if x3 then some (decide ((p0.Args.length:Int)≤5)) else some false).bind fun b1=>some b1)))
def qa (N:Nat) (p0:aq):Option (Bool):=
  fF N p0 N 0
def dY (N:Nat) (p0:(List aq)):Nat→Int→Option (Bool)
  | 0,_=>none
  | k+1,s1=>
    (if decide (s1 < (p0.length:Int)) then ((if decide (2 < s1) then ((idx p0 s1).bind fun x1=>some (!x1.Not)) else some false).bind fun b1=>(if b1 then some false else ((idx p0 s1).bind fun x2=>((qa N x2).bind fun x3=>((if !x3 then some true else ((if decide (s1=0) then ((idx p0 s1).bind fun x4=>some x4.Not) else some false).bind fun b3=>some b3)).bind fun b2=>((if b2 then some true else ((if decide (0 < s1) then ((idx p0 (i64.wrap (s1 - 1))).bind fun x5=>some x5.Not) else some false).bind fun b5=>((if b5 then ((idx p0 s1).bind fun x6=>some (!x6.Not)) else some false).bind fun b6=>some b6))).bind fun b4=>(if b4 then some false else ((dY N p0 k) (i64.wrap (s1+1)))))))))) else ((cW N (p0.length:Int) 1 6).bind fun x7=>some x7))
def p8 (N:Nat) (p0:(List aq)):Option (Bool):=
  dY N p0 N 0
def nO (N:Nat) (p0:bA):Option (Bool):=
  ((cW N p0.Op 1 3).bind fun x1=>((if x1 then ((jP N p0.L).bind fun x2=>some x2) else some false).bind fun b1=>((if b1 then ((jP N p0.R).bind fun x3=>some x3) else some false).bind fun b2=>((if b2 then some (!decide (p0.L.K=3)) else some false).bind fun b3=>((if b3 then some (!decide (p0.R.K=3)) else some false).bind fun b4=>some b4)))))
def gx (N:Nat) (p0:bk) (p1:(List ByteArray)):Option (Bool):=
  ((if !decide (p0.K=1) then some true else ((lI N p1 p0.S).bind fun x1=>some x1)).bind fun b1=>some b1)
def ep (N:Nat) (p0:(List bA)) (p1:(List ByteArray)):Nat→Int→Option (Bool)
  | 0,_=>none
  | k+1,s1=>
    (if decide (s1 < (p0.length:Int)) then ((idx p0 s1).bind fun x1=>((nO N x1).bind fun x2=>((if !x2 then some true else ((idx p0 s1).bind fun x3=>((gx N x3.L p1).bind fun x4=>some (!x4)))).bind fun b1=>((if b1 then some true else ((idx p0 s1).bind fun x5=>((gx N x5.R p1).bind fun x6=>some (!x6)))).bind fun b2=>(if b2 then some false else ((ep N p0 p1 k) (i64.wrap (s1+1)))))))) else some (decide ((p0.length:Int)≤6)))
def mt (N:Nat) (p0:(List bA)) (p1:(List ByteArray)):Option (Bool):=
  ep N p0 p1 N 0
def iG (N:Nat) (p0:bk):Option (Bool):=
  ((jP N p0).bind fun x1=>((if x1 then some (!decide (p0.K=3)) else some false).bind fun b1=>some b1))
def hJ (N:Nat) (p0:bv) (s1:Bool):Option (Bool):=
  (if s1 then ((iG N p0.L).bind fun x2=>((if x2 then ((iG N p0.R).bind fun x3=>some x3) else some false).bind fun b2=>some b2)) else some false)
def o1 (N:Nat) (p0:bv):Option (Bool):=
  (if seq p0.Op (⟨#[]⟩:ByteArray) then ((iG N p0.L).bind fun x1=>((if x1 then some (o5 p0.R (⟨0,(⟨#[]⟩:ByteArray),(⟨0,0,(⟨#[]⟩:ByteArray)⟩:aQ)⟩:bk)) else some false).bind fun b1=>some b1)) else (if seq p0.Op (⟨#[43]⟩:ByteArray) then hJ N p0 (seq p0.Op (⟨#[43]⟩:ByteArray)) else hJ N p0 (seq p0.Op (⟨#[45]⟩:ByteArray))))
def eT (N:Nat) (p0:(List bv)):Nat→Int→Option (Bool)
  | 0,_=>none
  | k+1,s1=>
    (if decide (s1 < (p0.length:Int)) then ((idx p0 s1).bind fun x1=>((o1 N x1).bind fun x2=>(if !x2 then some false else ((eT N p0 k) (i64.wrap (s1+1)))))) else some (decide ((p0.length:Int)≤5)))
def jC (N:Nat) (p0:(List bv)):Option (Bool):=
  eT N p0 N 0
def iU (N:Nat) (p0:bY) (b2:Bool) (s1:Bool):Option (Bool):=
  (if s1 then ((if b2 then some (decide (p0.N=0)) else some false).bind fun b14=>some b14) else some false)
def qy (N:Nat) (p0:bY):Option (Bool):=
  ((if seq p0.Name (⟨#[]⟩:ByteArray) then some (decide ((p0.Args.length:Int)=0)) else some false).bind fun b1=>((if b1 then some (seq p0.Undo (⟨#[]⟩:ByteArray)) else some false).bind fun b2=>(if decide (p0.Kind=1) then ((dF N p0.Name).bind fun x1=>((if x1 then ((jC N p0.Args).bind fun x2=>some x2) else some false).bind fun b3=>((if b3 then some (decide (p0.N=0)) else some false).bind fun b4=>((if b4 then some (seq p0.Undo (⟨#[]⟩:ByteArray)) else some false).bind fun b5=>some b5)))) else (if decide (p0.Kind=3) then ((dF N p0.Name).bind fun x3=>((if x3 then ((jC N p0.Args).bind fun x4=>some x4) else some false).bind fun b6=>((if b6 then some (decide (p0.N=0)) else some false).bind fun b7=>((if b7 then ((if seq p0.Undo (⟨#[]⟩:ByteArray) then some true else ((dF N p0.Undo).bind fun x5=>some x5)).bind fun b9=>some b9) else some false).bind fun b8=>some b8)))) else (if decide (p0.Kind=4) then ((dF N p0.Name).bind fun x6=>((if x6 then ((jC N p0.Args).bind fun x7=>some x7) else some false).bind fun b10=>((if b10 then ((cW N p0.N 0 100000).bind fun x8=>some x8) else some false).bind fun b11=>((if b11 then some (seq p0.Undo (⟨#[]⟩:ByteArray)) else some false).bind fun b12=>some b12)))) else (if decide (p0.Kind=2) then ((if b2 then ((cW N p0.N 0 7).bind fun x9=>some x9) else some false).bind fun b13=>some b13) else (if decide (p0.Kind=5) then iU N p0 b2 (decide (p0.Kind=5)) else iU N p0 b2 (decide (p0.Kind=6)))))))))
def eR (N:Nat) (p0:(List bY)) (p1:(List ByteArray)) (s1:Int) (K1:Int→Option (Bool)):Nat→Int→Option (Bool)
  | 0,_=>none
  | k+1,s2=>
    ((idx p0 s1).bind fun x5=>(if decide (s2 < (x5.Args.length:Int)) then ((idx p0 s1).bind fun x6=>((idx x6.Args s2).bind fun x7=>((gx N x7.L p1).bind fun x8=>((if !x8 then some true else ((idx p0 s1).bind fun x9=>((idx x9.Args s2).bind fun x10=>((gx N x10.R p1).bind fun x11=>some (!x11))))).bind fun b3=>(if b3 then some false else ((eR N p0 p1 s1 K1 k) (i64.wrap (s2+1)))))))) else (K1 (i64.wrap (s1+1)))))
def cM (N:Nat) (p0:(List bY)) (p1:(List ByteArray)) (p2:Int):Nat→Int→Option (Bool)
  | 0,_=>none
  | k+1,s1=>
    (if decide (s1 < (p0.length:Int)) then ((idx p0 s1).bind fun x1=>((qy N x1).bind fun x2=>((if !x2 then some true else ((idx p0 s1).bind fun x3=>((if decide (x3.Kind=2) then ((idx p0 s1).bind fun x4=>some (decide (p2≤x4.N))) else some false).bind fun b2=>some b2))).bind fun b1=>(if b1 then some false else eR N p0 p1 s1 (cM N p0 p1 p2 k) N 0)))) else ((cW N (p0.length:Int) 1 6).bind fun x12=>some x12))
def oN (N:Nat) (p0:(List bY)) (p1:(List ByteArray)) (p2:Int):Option (Bool):=
  cM N p0 p1 p2 N 0
def cN (N:Nat) (p0:ac):Nat→Int→Int→Option (Int)
  | 0,_,_=>none
  | k+1,s1,s2=>
    (if decide (s2 < (p0.Pats.length:Int)) then ((idx p0.Pats s2).bind fun x1=>(if !x1.Not then ((cN N p0 k) (i64.wrap (s1+1)) (i64.wrap (s2+1))) else ((cN N p0 k) s1 (i64.wrap (s2+1))))) else some s1)
def iW (N:Nat) (p0:ac):Option (Int):=
  cN N p0 N 0 0
def oK (N:Nat) (p0:ac):Option (Bool):=
  ((jM N p0).bind fun x1=>((dF N p0.Name).bind fun x2=>((if x2 then ((cW N p0.Sal (-100) 100).bind fun x3=>some x3) else some false).bind fun b1=>((if b1 then ((p8 N p0.Pats).bind fun x4=>some x4) else some false).bind fun b2=>((if b2 then ((mt N p0.Conds x1).bind fun x5=>some x5) else some false).bind fun b3=>((if b3 then ((iW N p0).bind fun x6=>((oN N p0.Acts x1 x6).bind fun x7=>some x7)) else some false).bind fun b4=>some b4))))))
def eK (N:Nat) (p0:bi) (p1:ByteArray):Nat→Int→Option (Int)
  | 0,_=>none
  | k+1,s1=>
    (if decide (s1 < (p0.Rules.length:Int)) then ((idx p0.Rules s1).bind fun x1=>(if seq x1.Name p1 then some s1 else ((eK N p0 p1 k) (i64.wrap (s1+1))))) else some (-1))
def oO (N:Nat) (p0:bi) (p1:ByteArray):Option (Int):=
  eK N p0 p1 N 0
def eF (N:Nat) (p0:bi):Nat→Int→Option (Bool)
  | 0,_=>none
  | k+1,s1=>
    (if decide (s1 < (p0.Rules.length:Int)) then ((idx p0.Rules s1).bind fun x1=>((oK N x1).bind fun x2=>((if !x2 then some true else ((idx p0.Rules s1).bind fun x3=>((oO N p0 x3.Name).bind fun x4=>some (!decide (x4=s1))))).bind fun b1=>(if b1 then some false else ((eF N p0 k) (i64.wrap (s1+1))))))) else ((dF N p0.Name).bind fun x5=>((if x5 then ((cW N (p0.Rules.length:Int) 1 12).bind fun x6=>some x6) else some false).bind fun b2=>some b2)))
def qx (N:Nat) (p0:bi):Option (Bool):=
  eF N p0 N 0
def dP (N:Nat) (p0:(List aQ)):Nat→Int→Option (Bool)
  | 0,_=>none
  | k+1,s1=>
    (if decide (s1 < (p0.length:Int)) then ((idx p0 s1).bind fun x1=>((nt N x1).bind fun x2=>(if !x2 then some false else ((dP N p0 k) (i64.wrap (s1+1)))))) else some (decide ((p0.length:Int)≤5)))
def qU (N:Nat) (p0:(List aQ)):Option (Bool):=
  dP N p0 N 0
def oH (N:Nat) (p0:aw):Option (Bool):=
  ((dF N p0.Kind).bind fun x1=>((if x1 then ((qU N p0.Fields).bind fun x2=>some x2) else some false).bind fun b1=>some b1))
def dl (N:Nat) (p0:(List aQ)) (p1:(List aQ)):Nat→Int→Option (Bool)
  | 0,_=>none
  | k+1,s1=>
    (if decide (s1 < (p0.length:Int)) then ((idx p0 s1).bind fun x1=>((idx p1 s1).bind fun x2=>(if !(bc x1 x2) then some false else ((dl N p0 p1 k) (i64.wrap (s1+1)))))) else some true)
def ge (N:Nat) (p0:(List aQ)) (p1:(List aQ)):Option (Bool):=
  (if !decide ((p0.length:Int)=(p1.length:Int)) then some false else dl N p0 p1 N 0)
def kt (N:Nat) (p0:aw) (p1:aw):Option (Bool):=
  ((if seq p0.Kind p1.Kind then ((ge N p0.Fields p1.Fields).bind fun x1=>some x1) else some false).bind fun b1=>some b1)
def gw (N:Nat) (p0:ae) (p1:aw):Nat→Int→Option (Int)
  | 0,_=>none
  | k+1,s1=>
    (if decide (s1 < (p0.Items.length:Int)) then ((idx p0.Items s1).bind fun x1=>((kt N x1.F p1).bind fun x2=>(if x2 then ((idx p0.Items s1).bind fun x3=>some x3.Id) else ((gw N p0 p1 k) (i64.wrap (s1+1)))))) else some 0)
def rq (N:Nat) (p0:ae) (p1:aw):Option (Int):=
  gw N p0 p1 N 0
def eZ (N:Nat) (p0:ae):Nat→Int→Option (Bool)
  | 0,_=>none
  | k+1,s1=>
    (if decide (s1 < (p0.Items.length:Int)) then ((idx p0.Items s1).bind fun x2=>((oH N x2.F).bind fun x3=>((if !x3 then some true else some (decide (x2.Id < 1))).bind fun b2=>((if b2 then some true else some (decide (p0.Next≤x2.Id))).bind fun b3=>((if b3 then some true else ((if decide (0 < s1) then ((idx p0.Items (i64.wrap (s1 - 1))).bind fun x4=>some (decide (x2.Id≤x4.Id))) else some false).bind fun b5=>some b5)).bind fun b4=>((if b4 then some true else ((rq N p0 x2.F).bind fun x5=>some (!decide (x5=x2.Id)))).bind fun b6=>(if b6 then some false else ((eZ N p0 k) (i64.wrap (s1+1)))))))))) else some true)
def m6 (N:Nat) (p0:ae):Option (Bool):=
  ((cW N p0.Next 1 1000000).bind fun x1=>((if !x1 then some true else some (decide (40 < (p0.Items.length:Int)))).bind fun b1=>(if b1 then some false else eZ N p0 N 0)))
def ga (N:Nat) (p0:(List Int)) (p1:(List Int)):Nat→Int→Option (Bool)
  | 0,_=>none
  | k+1,s1=>
    (if decide (s1 < (p0.length:Int)) then ((idx p0 s1).bind fun x1=>((idx p1 s1).bind fun x2=>(if !decide (x1=x2) then some false else ((ga N p0 p1 k) (i64.wrap (s1+1)))))) else some true)
def gB (N:Nat) (p0:(List Int)) (p1:(List Int)):Option (Bool):=
  (if !decide ((p0.length:Int)=(p1.length:Int)) then some false else ga N p0 p1 N 0)
def jd (N:Nat) (p0:ak) (p1:ak):Option (Bool):=
  ((if seq p0.Kind p1.Kind then some (decide (p0.N=p1.N)) else some false).bind fun b1=>((if b1 then ((gB N p0.At p1.At).bind fun x1=>some x1) else some false).bind fun b2=>((if b2 then ((ge N p0.Consts p1.Consts).bind fun x2=>some x2) else some false).bind fun b3=>some b3)))
def ee (N:Nat) (p0:bB) (p1:ak):Nat→Int→Option (Int × bB)
  | 0,_=>none
  | k+1,s1=>
    (if decide (s1 < (p0.Alphas.length:Int)) then ((idx p0.Alphas s1).bind fun x1=>((jd N x1 p1).bind fun x2=>(if x2 then some (s1,p0) else ((ee N p0 p1 k) (i64.wrap (s1+1)))))) else ((app p0.Alphas ([p1]:List ak)).bind fun x3=>some (i64.wrap ((x3.length:Int) - 1),(⟨x3,p0.Chains⟩:bB))))
def mI (N:Nat) (p0:bB) (p1:ak):Option (Int × bB):=
  ee N p0 p1 N 0
def ek (N:Nat) (p0:aq):Nat→(List aQ)→(List Int)→Int→Option (ak)
  | 0,_,_,_=>none
  | k+1,s1,s2,s3=>
    (if decide (s3 < (p0.Args.length:Int)) then ((idx p0.Args s3).bind fun x1=>(if decide (x1.K=2) then ((idx p0.Args s3).bind fun x2=>((app s1 ([x2.V]:List aQ)).bind fun x3=>((app s2 ([s3]:List Int)).bind fun x4=>((ek N p0 k) x3 x4 (i64.wrap (s3+1)))))) else ((ek N p0 k) s1 s2 (i64.wrap (s3+1))))) else some (⟨p0.Kind,(p0.Args.length:Int),s1,s2⟩:ak))
def lZ (N:Nat) (p0:aq):Option (ak):=
  ek N p0 N ([]:List aQ) ([]:List Int) 0
def dX (N:Nat) (p0:bi) (s2:(List aD)) (s3:Int) (K1:(List ak)→(List aD)→Int→Option (bB)):Nat→(List ak)→(List Int)→(List Int)→Int→Option (bB)
  | 0,_,_,_,_=>none
  | k+1,s4,s5,s6,s7=>
    ((idx p0.Rules s3).bind fun x1=>(if decide (s7 < (x1.Pats.length:Int)) then ((idx p0.Rules s3).bind fun x2=>((idx x2.Pats s7).bind fun x3=>((lZ N x3).bind fun x4=>((mI N (⟨s4,s2⟩:bB) x4).bind fun x5=>(if x3.Not then ((app s5 ([x5.1]:List Int)).bind fun x6=>((dX N p0 s2 s3 K1 k) x5.2.Alphas x6 s6 (i64.wrap (s7+1)))) else ((app s6 ([x5.1]:List Int)).bind fun x7=>((dX N p0 s2 s3 K1 k) x5.2.Alphas s5 x7 (i64.wrap (s7+1))))))))) else ((app s2 ([(⟨s6,s5⟩:aD)]:List aD)).bind fun x8=>(K1 s4 x8 (i64.wrap (s3+1))))))
def d4 (N:Nat) (p0:bi):Nat→(List ak)→(List aD)→Int→Option (bB)
  | 0,_,_,_=>none
  | k+1,s1,s2,s3=>
    (if decide (s3 < (p0.Rules.length:Int)) then dX N p0 s2 s3 (d4 N p0 k) N s1 ([]:List Int) ([]:List Int) 0 else some (⟨s1,s2⟩:bB))
def oI (N:Nat) (p0:bi):Option (bB):=
  d4 N p0 N ([]:List ak) ([]:List aD) 0
def ip (N:Nat) (p0:bB) (s3:(List aG)) (s4:Int) (K2:(List aG)→Int→Option (aK)):Nat→(List ab)→Int→Option (aK)
  | 0,_,_=>none
  | k+1,s5,s6=>
    ((idx p0.Chains s4).bind fun x2=>(if decide (s6 < (x2.Pos.length:Int)) then ((app s5 ([(⟨[]⟩:ab)]:List ab)).bind fun x3=>((ip N p0 s3 s4 K2 k) x3 (i64.wrap (s6+1)))) else ((app s3 ([(⟨s5⟩:aG)]:List aG)).bind fun x4=>(K2 x4 (i64.wrap (s4+1))))))
def dQ (N:Nat) (p0:bB) (s1:(List aR)):Nat→(List aG)→Int→Option (aK)
  | 0,_,_=>none
  | k+1,s3,s4=>
    (if decide (s4 < (p0.Chains.length:Int)) then ip N p0 s3 s4 (dQ N p0 s1 k) N ([]:List ab) 0 else some (⟨s1,s3⟩:aK))
def ij (N:Nat) (p0:bB):Nat→(List aR)→Int→Option (aK)
  | 0,_,_=>none
  | k+1,s1,s2=>
    (if decide (s2 < (p0.Alphas.length:Int)) then ((app s1 ([(⟨[]⟩:aR)]:List aR)).bind fun x1=>((ij N p0 k) x1 (i64.wrap (s2+1)))) else dQ N p0 s1 N ([]:List aG) 0)
def oF (N:Nat) (p0:bB):Option (aK):=
  ij N p0 N ([]:List aR) 0
def oS (N:Nat) (p0:aw):Option (aw):=
  ((app ([]:List aQ) p0.Fields).bind fun x1=>some (⟨p0.Kind,x1⟩:aw))
def eP (N:Nat) (p0:ae) (p1:Int):Nat→Int→Option (aw × Bool)
  | 0,_=>none
  | k+1,s1=>
    (if decide (s1 < (p0.Items.length:Int)) then ((idx p0.Items s1).bind fun x1=>(if decide (x1.Id=p1) then ((idx p0.Items s1).bind fun x2=>((oS N x2.F).bind fun x3=>some (x3,true))) else ((eP N p0 p1 k) (i64.wrap (s1+1))))) else some ((⟨(⟨#[]⟩:ByteArray),[]⟩:aw),false))
def kZ (N:Nat) (p0:ae) (p1:Int):Option (aw × Bool):=
  eP N p0 p1 N 0
def fQ (N:Nat) (p0:ak) (p1:aw):Nat→Int→Option (Bool)
  | 0,_=>none
  | k+1,s1=>
    (if decide (s1 < (p0.At.length:Int)) then ((idx p0.At s1).bind fun x1=>((if decide ((p0.Consts.length:Int)≤s1) then some true else ((cW N x1 0 (i64.wrap ((p1.Fields.length:Int) - 1))).bind fun x2=>some (!x2))).bind fun b2=>((if b2 then some true else ((idx p1.Fields x1).bind fun x3=>((idx p0.Consts s1).bind fun x4=>some (!(bc x3 x4))))).bind fun b3=>(if b3 then some false else ((fQ N p0 p1 k) (i64.wrap (s1+1))))))) else some true)
def oJ (N:Nat) (p0:ak) (p1:aw):Option (Bool):=
  ((if !seq p0.Kind p1.Kind then some true else some (!decide (p0.N=(p1.Fields.length:Int)))).bind fun b1=>(if b1 then some false else fQ N p0 p1 N 0))
def fO (N:Nat) (p0:(List aC)) (p1:ByteArray):Nat→Int→Option (aQ × Bool)
  | 0,_=>none
  | k+1,s1=>
    (if decide (s1 < (p0.length:Int)) then ((idx p0 s1).bind fun x1=>(if seq x1.Name p1 then ((idx p0 s1).bind fun x2=>some (x2.V,true)) else ((fO N p0 p1 k) (i64.wrap (s1+1))))) else some ((⟨0,0,(⟨#[]⟩:ByteArray)⟩:aQ),false))
def oU (N:Nat) (p0:(List aC)) (p1:ByteArray):Option (aQ × Bool):=
  fO N p0 p1 N 0
def ev (N:Nat) (p0:aq) (p1:aw) (p2:(List aC)):Nat→(List aC)→Int→Option ((List aC) × Bool)
  | 0,_,_=>none
  | k+1,s1,s2=>
    (if decide (s2 < (p0.Args.length:Int)) then ((idx p0.Args s2).bind fun x2=>((oU N s1 x2.S).bind fun x3=>((if decide (x2.K=2) then ((idx p1.Fields s2).bind fun x4=>some (!(bc x2.V x4))) else some false).bind fun b2=>((if b2 then some true else ((if decide (x2.K=1) then some x3.2 else some false).bind fun b4=>((if b4 then ((idx p1.Fields s2).bind fun x5=>some (!(bc x3.1 x5))) else some false).bind fun b5=>some b5))).bind fun b3=>(if b3 then ((app ([]:List aC) p2).bind fun x6=>some (x6,false)) else ((if decide (x2.K=1) then some (!x3.2) else some false).bind fun b6=>(if b6 then ((idx p1.Fields s2).bind fun x7=>((app s1 ([(⟨x2.S,x7⟩:aC)]:List aC)).bind fun x8=>((ev N p0 p1 p2 k) x8 (i64.wrap (s2+1))))) else ((ev N p0 p1 p2 k) s1 (i64.wrap (s2+1)))))))))) else some (s1,true))
def iX (N:Nat) (p0:aq) (p1:aw) (p2:(List aC)):Option ((List aC) × Bool):=
  ((app ([]:List aC) p2).bind fun x1=>((if !seq p0.Kind p1.Kind then some true else some (!decide ((p0.Args.length:Int)=(p1.Fields.length:Int)))).bind fun b1=>(if b1 then some (x1,false) else ev N p0 p1 p2 N x1 0)))
def jt (N:Nat) (p0:ac) (s1:(List aC)) (s2:Int) (K1:(List aC)→Int→Option ((List aC) × Bool)) (s3:(List aQ)) (s4:Bool) (s5:ByteArray):Option ((List aC) × Bool):=
  ((idx p0.Pats s2).bind fun x3=>((iX N x3 (⟨s5,s3⟩:aw) s1).bind fun x4=>((if !s4 then some true else some (!x4.2)).bind fun b1=>(if b1 then some (s1,false) else (K1 x4.1 (i64.wrap (s2+1)))))))
def dB (N:Nat) (p0:ac) (p1:ae) (p2:(List Int)):Nat→(List aC)→Int→Option ((List aC) × Bool)
  | 0,_,_=>none
  | k+1,s1,s2=>
    (if decide (s2 < (p2.length:Int)) then ((idx p2 s2).bind fun x5=>((kZ N p1 x5).bind fun x6=>jt N p0 s1 s2 (dB N p0 p1 p2 k) x6.1.Fields x6.2 x6.1.Kind)) else some (s1,true))
def gH (N:Nat) (p0:ac) (p1:ae) (p2:(List Int)):Option ((List aC) × Bool):=
  dB N p0 p1 p2 N ([]:List aC) 0
def fL (N:Nat) (s1:(List Int)) (s2:Int) (K1:(List Int)→Int→Option ((List Int))) (s3:Int):Option ((List Int)):=
  ((app s1 ([s3]:List Int)).bind fun x4=>(K1 x4 (i64.wrap (s2+1))))
def cH (N:Nat) (p0:ac) (p1:aw) (p2:(List aC)):Nat→(List Int)→Int→Option ((List Int))
  | 0,_,_=>none
  | k+1,s1,s2=>
    (if decide (s2 < (p0.Pats.length:Int)) then ((idx p0.Pats s2).bind fun x1=>(if x1.Not then ((idx p0.Pats s2).bind fun x2=>((iX N x2 p1 p2).bind fun x3=>(if x3.2 then fL N s1 s2 (cH N p0 p1 p2 k) 1 else fL N s1 s2 (cH N p0 p1 p2 k) 0))) else ((cH N p0 p1 p2 k) s1 (i64.wrap (s2+1))))) else some s1)
def lj (N:Nat) (p0:ac) (p1:aw) (p2:(List aC)):Option ((List Int)):=
  cH N p0 p1 p2 N ([]:List Int) 0
def cK (N:Nat) (p4:Int) (s2:Int) (K1:(List aa)→Int→Option ((List aa))) (x2:(List aC) × Bool) (x3:(List Int)):Nat→(List aa)→Int→Option ((List aa))
  | 0,_,_=>none
  | k+1,s3,s4=>
    ((if decide (s4 < (x3.length:Int)) then some x2.2 else some false).bind fun b1=>(if b1 then ((idx s3 s2).bind fun x4=>((idx x4.Hits s4).bind fun x5=>((idx x3 s4).bind fun x6=>((idx x4.Hits s4).bind fun x7=>((cK N p4 s2 K1 x2 x3 k) (s3.set s2.toNat (⟨x4.Ids,(x4.Hits.set s4.toNat (i64.wrap (x5+(i64.wrap (p4*x6)))))⟩:aa)) (i64.wrap (s4+1))))))) else (K1 s3 (i64.wrap (s2+1)))))
def bS (N:Nat) (p0:ac) (p1:ae) (p3:aw) (p4:Int):Nat→(List aa)→Int→Option ((List aa))
  | 0,_,_=>none
  | k+1,s1,s2=>
    (if decide (s2 < (s1.length:Int)) then ((idx s1 s2).bind fun x1=>((gH N p0 p1 x1.Ids).bind fun x2=>((lj N p0 p3 x2.1).bind fun x3=>cK N p4 s2 (bS N p0 p1 p3 p4 k) x2 x3 N s1 0))) else some s1)
def mH (N:Nat) (p0:ac) (p1:ae) (p2:(List aa)) (p3:aw) (p4:Int):Option ((List aa)):=
  bS N p0 p1 p3 p4 N p2 0
def iQ (N:Nat) (p0:(List aa)) (p1:ac) (p2:ae) (p3:(List Int)) (p4:Int):Option ((List aa)):=
  ((app ([]:List Int) p3).bind fun x1=>((app x1 ([p4]:List Int)).bind fun x2=>((gH N p1 p2 x2).bind fun x3=>(if !x3.2 then some p0 else ((app p0 ([(⟨x2,([]:List Int)⟩:aa)]:List aa)).bind fun x4=>some x4)))))
def du (N:Nat) (s2:Int) (K1:(List Int)→Int→Option (aa)) (x5:(List Int)):Nat→(List Int)→Int→Option (aa)
  | 0,_,_=>none
  | k+1,s3,s4=>
    (if decide (s4 < (x5.length:Int)) then ((idx s3 s4).bind fun x6=>((idx x5 s4).bind fun x7=>((idx s3 s4).bind fun x8=>((du N s2 K1 x5 k) (s3.set s4.toNat (i64.wrap (x6+x7))) (i64.wrap (s4+1)))))) else (K1 s3 (i64.wrap (s2+1))))
def cA (N:Nat) (p0:ac) (p1:ae) (p2:aa) (x1:(List aC) × Bool):Nat→(List Int)→Int→Option (aa)
  | 0,_,_=>none
  | k+1,s1,s2=>
    (if decide (s2 < (p1.Items.length:Int)) then ((idx p1.Items s2).bind fun x4=>((lj N p0 x4.F x1.1).bind fun x5=>du N s2 (cA N p0 p1 p2 x1 k) x5 N s1 0)) else some (⟨p2.Ids,s1⟩:aa))
def kj (N:Nat) (p0:ac) (p1:ae) (p2:aa):Option (aa):=
  ((gH N p0 p1 p2.Ids).bind fun x1=>((iW N p0).bind fun x2=>((mk 0 (i64.wrap ((p0.Pats.length:Int) - x2))).bind fun x3=>cA N p0 p1 p2 x1 N x3 0)))
def eh (N:Nat) (p0:ac) (p4:ae) (s2:(List aa)) (x12:aR) (s9:Int) (K5:(List aa)→Int→Option (aK)):Nat→(List aa)→Int→Option (aK)
  | 0,_,_=>none
  | k+1,s10,s11=>
    (if decide (s11 < (x12.L.length:Int)) then ((idx s2 s9).bind fun x13=>((idx x12.L s11).bind fun x14=>((iQ N s10 p0 p4 x13.Ids x14).bind fun x15=>((eh N p0 p4 s2 x12 s9 K5 k) x15 (i64.wrap (s11+1)))))) else (K5 s10 (i64.wrap (s9+1))))
def bq (N:Nat) (p0:ac) (p4:ae) (x1:aG) (s1:(List ab)) (s3:Int) (K1:(List ab)→(List aa)→Int→Option (aK)):Nat→(List aa)→Int→Option (aK)
  | 0,_,_=>none
  | k+1,s12,s13=>
    ((if decide (s13 < (s12.length:Int)) then some (decide (s3=i64.wrap ((x1.Levels.length:Int) - 1))) else some false).bind fun b3=>(if b3 then ((idx s12 s13).bind fun x16=>((kj N p0 p4 x16).bind fun x17=>((bq N p0 p4 x1 s1 s3 K1 k) (s12.set s13.toNat x17) (i64.wrap (s13+1))))) else ((idx s1 s3).bind fun x18=>((app x18.Toks s12).bind fun x19=>(K1 (s1.set s3.toNat (⟨x19⟩:ab)) s12 (i64.wrap (s3+1)))))))
def d9 (N:Nat) (p0:ac) (p4:ae) (x1:aG) (s1:(List ab)) (s2:(List aa)) (s3:Int) (K1:(List ab)→(List aa)→Int→Option (aK)) (x12:aR):Nat→(List aa)→Int→Option (aK)
  | 0,_,_=>none
  | k+1,s8,s9=>
    (if decide (s9 < (s2.length:Int)) then eh N p0 p4 s2 x12 s9 (d9 N p0 p4 x1 s1 s2 s3 K1 x12 k) N s8 0 else bq N p0 p4 x1 s1 s3 K1 N s8 0)
def cJ (N:Nat) (p0:ac) (p1:aD) (p2:aK) (p4:ae) (p5:Int) (p7:(List Bool)) (x1:aG) (s1:(List ab)) (s2:(List aa)) (s3:Int) (K1:(List ab)→(List aa)→Int→Option (aK)) (s5:Int):Nat→(List aa)→Int→Option (aK)
  | 0,_,_=>none
  | k+1,s6,s7=>
    ((if decide (s7 < s5) then ((idx p1.Pos s3).bind fun x6=>((idx p7 x6).bind fun x7=>some x7)) else some false).bind fun b2=>(if b2 then ((idx s1 (i64.wrap (s3 - 1))).bind fun x8=>((idx x8.Toks s7).bind fun x9=>((iQ N s6 p0 p4 x9.Ids p5).bind fun x10=>((cJ N p0 p1 p2 p4 p5 p7 x1 s1 s2 s3 K1 s5 k) x10 (i64.wrap (s7+1)))))) else ((idx p1.Pos s3).bind fun x11=>((idx p2.Alphas x11).bind fun x12=>d9 N p0 p4 x1 s1 s2 s3 K1 x12 N s6 0))))
def fW (N:Nat) (p0:ac) (p1:aD) (p2:aK) (p4:ae) (p5:Int) (p7:(List Bool)) (x1:aG) (s1:(List ab)) (s2:(List aa)) (s3:Int) (K1:(List ab)→(List aa)→Int→Option (aK)) (s4:(List aa)) (s5:Int):Option (aK):=
  cJ N p0 p1 p2 p4 p5 p7 x1 s1 s2 s3 K1 s5 N s4 0
def f8 (N:Nat) (p0:ac) (p1:aD) (p2:aK) (p4:ae) (p5:Int) (p7:(List Bool)) (x1:aG) (s1:(List ab)) (s2:(List aa)) (s3:Int) (K1:(List ab)→(List aa)→Int→Option (aK)) (s4:(List aa)):Option (aK):=
  (if decide (0 < s3) then ((idx s1 (i64.wrap (s3 - 1))).bind fun x20=>fW N p0 p1 p2 p4 p5 p7 x1 s1 s2 s3 K1 s4 (i64.wrap ((x20.Toks.length:Int) - (s2.length:Int)))) else fW N p0 p1 p2 p4 p5 p7 x1 s1 s2 s3 K1 s4 0)
def aU (N:Nat) (p0:ac) (p1:aD) (p2:aK) (p3:Int) (p4:ae) (p5:Int) (p7:(List Bool)) (x1:aG):Nat→(List ab)→(List aa)→Int→Option (aK)
  | 0,_,_,_=>none
  | k+1,s1,s2,s3=>
    (if decide (s3≤i64.wrap ((x1.Levels.length:Int) - 1)) then ((if decide (s3=0) then ((idx p1.Pos 0).bind fun x4=>((idx p7 x4).bind fun x5=>some x5)) else some false).bind fun b1=>(if b1 then ((iQ N ([]:List aa) p0 p4 ([]:List Int) p5).bind fun x21=>f8 N p0 p1 p2 p4 p5 p7 x1 s1 s2 s3 (aU N p0 p1 p2 p3 p4 p5 p7 x1 k) x21) else f8 N p0 p1 p2 p4 p5 p7 x1 s1 s2 s3 (aU N p0 p1 p2 p3 p4 p5 p7 x1 k) ([]:List aa))) else some (⟨p2.Alphas,(p2.Rules.set p3.toNat (⟨s1⟩:aG))⟩:aK))
def mD (N:Nat) (p0:ac) (p1:aD) (p2:aK) (p3:Int) (p4:ae) (p5:Int) (p6:aw) (p7:(List Bool)):Option (aK):=
  ((idx p2.Rules p3).bind fun x1=>((idx x1.Levels (i64.wrap ((x1.Levels.length:Int) - 1))).bind fun x2=>((mH N p0 p4 x2.Toks p6 1).bind fun x3=>aU N p0 p1 p2 p3 p4 p5 p7 x1 N (x1.Levels.set (i64.wrap ((x1.Levels.length:Int) - 1)).toNat (⟨x3⟩:ab)) ([]:List aa) 0)))
def eJ (N:Nat) (p0:bi) (p1:bB) (p3:ae) (p4:Int) (x1:aw × Bool) (s1:(List aR)) (s2:(List Bool)):Nat→(List aG)→Int→Option (aK)
  | 0,_,_=>none
  | k+1,s4,s5=>
    (if decide (s5 < (p0.Rules.length:Int)) then ((idx p0.Rules s5).bind fun x7=>((idx p1.Chains s5).bind fun x8=>((mD N x7 x8 (⟨s1,s4⟩:aK) s5 p3 p4 x1.1 s2).bind fun x9=>((eJ N p0 p1 p3 p4 x1 s1 s2 k) x9.Rules (i64.wrap (s5+1)))))) else some (⟨s1,s4⟩:aK))
def dW (N:Nat) (p0:bi) (p1:bB) (p2:aK) (p3:ae) (p4:Int) (x1:aw × Bool):Nat→(List aR)→(List Bool)→Int→Option (aK)
  | 0,_,_,_=>none
  | k+1,s1,s2,s3=>
    (if decide (s3 < (p1.Alphas.length:Int)) then ((idx p1.Alphas s3).bind fun x2=>((oJ N x2 x1.1).bind fun x3=>((app s2 ([x3]:List Bool)).bind fun x4=>(if x3 then ((idx s1 s3).bind fun x5=>((app x5.L ([p4]:List Int)).bind fun x6=>((dW N p0 p1 p2 p3 p4 x1 k) (s1.set s3.toNat (⟨x6⟩:aR)) x4 (i64.wrap (s3+1))))) else ((dW N p0 p1 p2 p3 p4 x1 k) s1 x4 (i64.wrap (s3+1))))))) else eJ N p0 p1 p3 p4 x1 s1 s2 N p2.Rules 0)
def nS (N:Nat) (p0:bi) (p1:bB) (p2:aK) (p3:ae) (p4:Int):Option (aK):=
  ((kZ N p3 p4).bind fun x1=>dW N p0 p1 p2 p3 p4 x1 N p2.Alphas ([]:List Bool) 0)
def fA (N:Nat) (p0:bi) (p1:bB) (p2:ae):Nat→(List aR)→(List aG)→Int→Option (aK)
  | 0,_,_,_=>none
  | k+1,s1,s2,s3=>
    (if decide (s3 < (p2.Items.length:Int)) then ((ssl p2.Items 0 (i64.wrap (s3+1))).bind fun x2=>((idx p2.Items s3).bind fun x3=>((nS N p0 p1 (⟨s1,s2⟩:aK) (⟨x2,p2.Next⟩:ae) x3.Id).bind fun x4=>((fA N p0 p1 p2 k) x4.Alphas x4.Rules (i64.wrap (s3+1)))))) else some (⟨s1,s2⟩:aK))
def sw (N:Nat) (p0:bi) (p1:bB) (p2:ae):Option (aK):=
  ((oF N p1).bind fun x1=>fA N p0 p1 p2 N x1.Alphas x1.Rules 0)
def ei (N:Nat) (p0:(List aa)) (p1:Int) (p2:Int):Nat→Int→Option (Bool)
  | 0,_=>none
  | k+1,s1=>
    (if decide (s1 < (p0.length:Int)) then ((idx p0 s1).bind fun x1=>((if !decide ((x1.Ids.length:Int)=p1) then some true else ((idx p0 s1).bind fun x2=>some (!decide ((x2.Hits.length:Int)=p2)))).bind fun b1=>(if b1 then some false else ((ei N p0 p1 p2 k) (i64.wrap (s1+1)))))) else some true)
def m3 (N:Nat) (p0:(List aa)) (p1:Int) (p2:Int):Option (Bool):=
  ei N p0 p1 p2 N 0
def ey (N:Nat) (p1:aK) (s1:Int) (s2:Int) (K2:Int→Option (Bool)) (s3:Int):Option (Bool):=
  ((idx p1.Rules s1).bind fun x3=>((idx x3.Levels s2).bind fun x4=>((m3 N x4.Toks (i64.wrap (s2+1)) s3).bind fun x5=>(if !x5 then some false else (K2 (i64.wrap (s2+1)))))))
def bK (N:Nat) (p0:bB) (p1:aK) (s1:Int) (K1:Int→Option (Bool)) (x1:aD):Nat→Int→Option (Bool)
  | 0,_=>none
  | k+1,s2=>
    (if decide (s2 < (x1.Pos.length:Int)) then (if decide (s2=i64.wrap ((x1.Pos.length:Int) - 1)) then ((idx p0.Chains s1).bind fun x6=>ey N p1 s1 s2 (bK N p0 p1 s1 K1 x1 k) (x6.Neg.length:Int)) else ey N p1 s1 s2 (bK N p0 p1 s1 K1 x1 k) 0) else (K1 (i64.wrap (s1+1))))
def bp (N:Nat) (p0:bB) (p1:aK):Nat→Int→Option (Bool)
  | 0,_=>none
  | k+1,s1=>
    (if decide (s1 < (p1.Rules.length:Int)) then ((idx p0.Chains s1).bind fun x1=>((idx p1.Rules s1).bind fun x2=>(if !decide ((x2.Levels.length:Int)=(x1.Pos.length:Int)) then some false else bK N p0 p1 s1 (bp N p0 p1 k) x1 N 0))) else some true)
def kQ (N:Nat) (p0:bB) (p1:aK):Option (Bool):=
  ((if !decide ((p1.Alphas.length:Int)=(p0.Alphas.length:Int)) then some true else some (!decide ((p1.Rules.length:Int)=(p0.Chains.length:Int)))).bind fun b1=>(if b1 then some false else bp N p0 p1 N 0))
def eQ (N:Nat) (p0:(List aa)) (p1:aa):Nat→Int→Option (Bool)
  | 0,_=>none
  | k+1,s1=>
    (if decide (s1 < (p0.length:Int)) then ((idx p0 s1).bind fun x1=>((gB N x1.Ids p1.Ids).bind fun x2=>((if x2 then ((idx p0 s1).bind fun x3=>((gB N x3.Hits p1.Hits).bind fun x4=>some x4)) else some false).bind fun b1=>(if b1 then some true else ((eQ N p0 p1 k) (i64.wrap (s1+1))))))) else some false)
def lA (N:Nat) (p0:(List aa)) (p1:aa):Option (Bool):=
  eQ N p0 p1 N 0
def dy (N:Nat) (p0:(List aa)) (p1:(List aa)):Nat→Int→Option (Bool)
  | 0,_=>none
  | k+1,s1=>
    (if decide (s1 < (p0.length:Int)) then ((idx p0 s1).bind fun x1=>((lA N p1 x1).bind fun x2=>((if !x2 then some true else ((idx p1 s1).bind fun x3=>((lA N p0 x3).bind fun x4=>some (!x4)))).bind fun b1=>(if b1 then some false else ((dy N p0 p1 k) (i64.wrap (s1+1))))))) else some true)
def kx (N:Nat) (p0:(List aa)) (p1:(List aa)):Option (Bool):=
  (if !decide ((p0.length:Int)=(p1.length:Int)) then some false else dy N p0 p1 N 0)
def cP (N:Nat) (p1:aK) (x5:aK) (s2:Int) (K2:Int→Option (Bool)):Nat→Int→Option (Bool)
  | 0,_=>none
  | k+1,s3=>
    ((idx p1.Rules s2).bind fun x10=>(if decide (s3 < (x10.Levels.length:Int)) then ((idx p1.Rules s2).bind fun x11=>((idx x11.Levels s3).bind fun x12=>((idx x5.Rules s2).bind fun x13=>((idx x13.Levels s3).bind fun x14=>((kx N x12.Toks x14.Toks).bind fun x15=>(if !x15 then some false else ((cP N p1 x5 s2 K2 k) (i64.wrap (s3+1))))))))) else (K2 (i64.wrap (s2+1)))))
def bQ (N:Nat) (p1:aK) (x5:aK):Nat→Int→Option (Bool)
  | 0,_=>none
  | k+1,s2=>
    (if decide (s2 < (p1.Rules.length:Int)) then cP N p1 x5 s2 (bQ N p1 x5 k) N 0 else some true)
def cS (N:Nat) (p1:aK) (x5:aK):Nat→Int→Option (Bool)
  | 0,_=>none
  | k+1,s1=>
    (if decide (s1 < (p1.Alphas.length:Int)) then ((idx p1.Alphas s1).bind fun x7=>((idx x5.Alphas s1).bind fun x8=>((gB N x7.L x8.L).bind fun x9=>(if !x9 then some false else ((cS N p1 x5 k) (i64.wrap (s1+1))))))) else bQ N p1 x5 N 0)
def jX (N:Nat) (p0:bi) (p1:aK) (p2:ae):Option (Bool):=
  ((qx N p0).bind fun x1=>((if !x1 then some true else ((m6 N p2).bind fun x2=>some (!x2))).bind fun b1=>(if b1 then some false else ((oI N p0).bind fun x3=>((sw N p0 x3 p2).bind fun x5=>((kQ N x3 p1).bind fun x6=>(if !x6 then some false else cS N p1 x5 N 0)))))))
def l5 (N:Nat) (p0:aQ):Option (aQ):=
  some p0
def hU (N:Nat) (p0:bk):Option (bk):=
  ((l5 N p0.V).bind fun x1=>some (⟨p0.K,p0.S,x1⟩:bk))
def jl (N:Nat) (p0:(List bk)):Nat→(List bk)→Int→Option ((List bk))
  | 0,_,_=>none
  | k+1,s1,s2=>
    (if decide (s2 < (p0.length:Int)) then ((idx p0 s2).bind fun x2=>((hU N x2).bind fun x3=>((idx s1 s2).bind fun x4=>((jl N p0 k) (s1.set s2.toNat x3) (i64.wrap (s2+1)))))) else some s1)
def o3 (N:Nat) (p0:(List bk)):Option ((List bk)):=
  ((mk (⟨0,(⟨#[]⟩:ByteArray),(⟨0,0,(⟨#[]⟩:ByteArray)⟩:aQ)⟩:bk) (p0.length:Int)).bind fun x1=>jl N p0 N x1 0)
def nw (N:Nat) (p0:aq):Option (aq):=
  ((o3 N p0.Args).bind fun x1=>some (⟨p0.Kind,x1,p0.Not⟩:aq))
def jm (N:Nat) (p0:(List aq)):Nat→(List aq)→Int→Option ((List aq))
  | 0,_,_=>none
  | k+1,s1,s2=>
    (if decide (s2 < (p0.length:Int)) then ((idx p0 s2).bind fun x2=>((nw N x2).bind fun x3=>((idx s1 s2).bind fun x4=>((jm N p0 k) (s1.set s2.toNat x3) (i64.wrap (s2+1)))))) else some s1)
def oB (N:Nat) (p0:(List aq)):Option ((List aq)):=
  ((mk (⟨(⟨#[]⟩:ByteArray),([]:List bk),false⟩:aq) (p0.length:Int)).bind fun x1=>jm N p0 N x1 0)
def kV (N:Nat) (p0:bA):Option (bA):=
  ((hU N p0.L).bind fun x1=>((hU N p0.R).bind fun x2=>some (⟨p0.Op,x1,x2⟩:bA)))
def iP (N:Nat) (p0:(List bA)):Nat→(List bA)→Int→Option ((List bA))
  | 0,_,_=>none
  | k+1,s1,s2=>
    (if decide (s2 < (p0.length:Int)) then ((idx p0 s2).bind fun x2=>((kV N x2).bind fun x3=>((idx s1 s2).bind fun x4=>((iP N p0 k) (s1.set s2.toNat x3) (i64.wrap (s2+1)))))) else some s1)
def mb (N:Nat) (p0:(List bA)):Option ((List bA)):=
  ((mk (⟨0,(⟨0,(⟨#[]⟩:ByteArray),(⟨0,0,(⟨#[]⟩:ByteArray)⟩:aQ)⟩:bk),(⟨0,(⟨#[]⟩:ByteArray),(⟨0,0,(⟨#[]⟩:ByteArray)⟩:aQ)⟩:bk)⟩:bA) (p0.length:Int)).bind fun x1=>iP N p0 N x1 0)
def kU (N:Nat) (p0:bv):Option (bv):=
  ((hU N p0.L).bind fun x1=>((hU N p0.R).bind fun x2=>some (⟨p0.Op,x1,x2⟩:bv)))
def iK (N:Nat) (p0:(List bv)):Nat→(List bv)→Int→Option ((List bv))
  | 0,_,_=>none
  | k+1,s1,s2=>
    (if decide (s2 < (p0.length:Int)) then ((idx p0 s2).bind fun x2=>((kU N x2).bind fun x3=>((idx s1 s2).bind fun x4=>((iK N p0 k) (s1.set s2.toNat x3) (i64.wrap (s2+1)))))) else some s1)
def lU (N:Nat) (p0:(List bv)):Option ((List bv)):=
  ((mk (⟨(⟨#[]⟩:ByteArray),(⟨0,(⟨#[]⟩:ByteArray),(⟨0,0,(⟨#[]⟩:ByteArray)⟩:aQ)⟩:bk),(⟨0,(⟨#[]⟩:ByteArray),(⟨0,0,(⟨#[]⟩:ByteArray)⟩:aQ)⟩:bk)⟩:bv) (p0.length:Int)).bind fun x1=>iK N p0 N x1 0)
def nq (N:Nat) (p0:bY):Option (bY):=
  ((lU N p0.Args).bind fun x1=>some (⟨p0.Kind,p0.Name,x1,p0.N,p0.Undo⟩:bY))
def jp (N:Nat) (p0:(List bY)):Nat→(List bY)→Int→Option ((List bY))
  | 0,_,_=>none
  | k+1,s1,s2=>
    (if decide (s2 < (p0.length:Int)) then ((idx p0 s2).bind fun x2=>((nq N x2).bind fun x3=>((idx s1 s2).bind fun x4=>((jp N p0 k) (s1.set s2.toNat x3) (i64.wrap (s2+1)))))) else some s1)
def nX (N:Nat) (p0:(List bY)):Option ((List bY)):=
  ((mk (⟨0,(⟨#[]⟩:ByteArray),([]:List bv),0,(⟨#[]⟩:ByteArray)⟩:bY) (p0.length:Int)).bind fun x1=>jp N p0 N x1 0)
def kX (N:Nat) (p0:ac):Option (ac):=
  ((oB N p0.Pats).bind fun x1=>((mb N p0.Conds).bind fun x2=>((nX N p0.Acts).bind fun x3=>some (⟨p0.Name,p0.Sal,x1,x2,x3⟩:ac))))
def iS (N:Nat) (p0:(List ac)):Nat→(List ac)→Int→Option ((List ac))
  | 0,_,_=>none
  | k+1,s1,s2=>
    (if decide (s2 < (p0.length:Int)) then ((idx p0 s2).bind fun x2=>((kX N x2).bind fun x3=>((idx s1 s2).bind fun x4=>((iS N p0 k) (s1.set s2.toNat x3) (i64.wrap (s2+1)))))) else some s1)
def mr (N:Nat) (p0:(List ac)):Option ((List ac)):=
  ((mk (⟨(⟨#[]⟩:ByteArray),0,([]:List aq),([]:List bA),([]:List bY)⟩:ac) (p0.length:Int)).bind fun x1=>iS N p0 N x1 0)
def l4 (N:Nat) (p0:bi):Option (bi):=
  ((mr N p0.Rules).bind fun x1=>some (⟨p0.Name,x1⟩:bi))
def jc (N:Nat) (p0:(List Int)):Nat→(List Int)→Int→Option ((List Int))
  | 0,_,_=>none
  | k+1,s1,s2=>
    (if decide (s2 < (p0.length:Int)) then ((idx p0 s2).bind fun x2=>((idx s1 s2).bind fun x3=>((jc N p0 k) (s1.set s2.toNat x2) (i64.wrap (s2+1))))) else some s1)
def jB (N:Nat) (p0:(List Int)):Option ((List Int)):=
  ((mk 0 (p0.length:Int)).bind fun x1=>jc N p0 N x1 0)
def np (N:Nat) (p0:aR):Option (aR):=
  ((jB N p0.L).bind fun x1=>some (⟨x1⟩:aR))
def je (N:Nat) (p0:(List aR)):Nat→(List aR)→Int→Option ((List aR))
  | 0,_,_=>none
  | k+1,s1,s2=>
    (if decide (s2 < (p0.length:Int)) then ((idx p0 s2).bind fun x2=>((np N x2).bind fun x3=>((idx s1 s2).bind fun x4=>((je N p0 k) (s1.set s2.toNat x3) (i64.wrap (s2+1)))))) else some s1)
def oL (N:Nat) (p0:(List aR)):Option ((List aR)):=
  ((mk (⟨([]:List Int)⟩:aR) (p0.length:Int)).bind fun x1=>je N p0 N x1 0)
def nH (N:Nat) (p0:aa):Option (aa):=
  ((jB N p0.Ids).bind fun x1=>((jB N p0.Hits).bind fun x2=>some (⟨x1,x2⟩:aa)))
def jk (N:Nat) (p0:(List aa)):Nat→(List aa)→Int→Option ((List aa))
  | 0,_,_=>none
  | k+1,s1,s2=>
    (if decide (s2 < (p0.length:Int)) then ((idx p0 s2).bind fun x2=>((nH N x2).bind fun x3=>((idx s1 s2).bind fun x4=>((jk N p0 k) (s1.set s2.toNat x3) (i64.wrap (s2+1)))))) else some s1)
def o7 (N:Nat) (p0:(List aa)):Option ((List aa)):=
  ((mk (⟨([]:List Int),([]:List Int)⟩:aa) (p0.length:Int)).bind fun x1=>jk N p0 N x1 0)
def jH (N:Nat) (p0:ab):Option (ab):=
  ((o7 N p0.Toks).bind fun x1=>some (⟨x1⟩:ab))
def gQ (N:Nat) (p0:(List ab)):Nat→(List ab)→Int→Option ((List ab))
  | 0,_,_=>none
  | k+1,s1,s2=>
    (if decide (s2 < (p0.length:Int)) then ((idx p0 s2).bind fun x2=>((jH N x2).bind fun x3=>((idx s1 s2).bind fun x4=>((gQ N p0 k) (s1.set s2.toNat x3) (i64.wrap (s2+1)))))) else some s1)
def kz (N:Nat) (p0:(List ab)):Option ((List ab)):=
  ((mk (⟨([]:List aa)⟩:ab) (p0.length:Int)).bind fun x1=>gQ N p0 N x1 0)
def nm (N:Nat) (p0:aG):Option (aG):=
  ((kz N p0.Levels).bind fun x1=>some (⟨x1⟩:aG))
def ja (N:Nat) (p0:(List aG)):Nat→(List aG)→Int→Option ((List aG))
  | 0,_,_=>none
  | k+1,s1,s2=>
    (if decide (s2 < (p0.length:Int)) then ((idx p0 s2).bind fun x2=>((nm N x2).bind fun x3=>((idx s1 s2).bind fun x4=>((ja N p0 k) (s1.set s2.toNat x3) (i64.wrap (s2+1)))))) else some s1)
def nP (N:Nat) (p0:(List aG)):Option ((List aG)):=
  ((mk (⟨([]:List ab)⟩:aG) (p0.length:Int)).bind fun x1=>ja N p0 N x1 0)
def kW (N:Nat) (p0:aK):Option (aK):=
  ((oL N p0.Alphas).bind fun x1=>((nP N p0.Rules).bind fun x2=>some (⟨x1,x2⟩:aK)))
def jf (N:Nat) (p0:(List aQ)):Nat→(List aQ)→Int→Option ((List aQ))
  | 0,_,_=>none
  | k+1,s1,s2=>
    (if decide (s2 < (p0.length:Int)) then ((idx p0 s2).bind fun x2=>((l5 N x2).bind fun x3=>((idx s1 s2).bind fun x4=>((jf N p0 k) (s1.set s2.toNat x3) (i64.wrap (s2+1)))))) else some s1)
def oM (N:Nat) (p0:(List aQ)):Option ((List aQ)):=
  ((mk (⟨0,0,(⟨#[]⟩:ByteArray)⟩:aQ) (p0.length:Int)).bind fun x1=>jf N p0 N x1 0)
def o4 (N:Nat) (p0:aw):Option (aw):=
  ((oM N p0.Fields).bind fun x1=>some (⟨p0.Kind,x1⟩:aw))
def lH (N:Nat) (p0:ao):Option (ao):=
  ((o4 N p0.F).bind fun x1=>some (⟨p0.Id,x1⟩:ao))
def iT (N:Nat) (p0:(List ao)):Nat→(List ao)→Int→Option ((List ao))
  | 0,_,_=>none
  | k+1,s1,s2=>
    (if decide (s2 < (p0.length:Int)) then ((idx p0 s2).bind fun x2=>((lH N x2).bind fun x3=>((idx s1 s2).bind fun x4=>((iT N p0 k) (s1.set s2.toNat x3) (i64.wrap (s2+1)))))) else some s1)
def mh (N:Nat) (p0:(List ao)):Option ((List ao)):=
  ((mk (⟨0,(⟨(⟨#[]⟩:ByteArray),([]:List aQ)⟩:aw)⟩:ao) (p0.length:Int)).bind fun x1=>iT N p0 N x1 0)
def iO (N:Nat) (p0:ae):Option (ae):=
  ((mh N p0.Items).bind fun x1=>some (⟨x1,p0.Next⟩:ae))
def iF (N:Nat) (p0:Int):Option (Bool):=
  ((if decide (97≤p0) then some (decide (p0≤122)) else some false).bind fun b1=>some b1)
def pB (N:Nat) (p0:Int):Option (Bool):=
  ((if decide (48≤p0) then some (decide (p0≤57)) else some false).bind fun b1=>some b1)
def fZ (N:Nat) (p0:Int):Option (Bool):=
  ((iF N p0).bind fun x1=>((if x1 then some true else ((pB N p0).bind fun x2=>some x2)).bind fun b1=>((if b1 then some true else some (decide (p0=95))).bind fun b2=>some b2)))
def dT (N:Nat) (p0:ByteArray):Nat→Int→Option (Bool)
  | 0,_=>none
  | k+1,s1=>
    (if decide (s1 < (p0.size:Int)) then ((idx p0.data.toList s1).bind fun y1=>((fZ N (y1.toNat:Int)).bind fun x1=>(if !x1 then some false else ((dT N p0 k) (i64.wrap (s1+1)))))) else some true)
def lB (N:Nat) (p0:ByteArray) (p1:Int):Option (Bool):=
  (if decide (p1 < (p0.size:Int)) then some false else dT N p0 N 0)
def eW (N:Nat) (p0:ByteArray):Option (Bool):=
  ((if decide (0 < (p0.size:Int)) then ((idx p0.data.toList 0).bind fun y1=>((iF N (y1.toNat:Int)).bind fun x1=>some x1)) else some false).bind fun b1=>((if b1 then ((lB N p0 12).bind fun x2=>some x2) else some false).bind fun b2=>some b2))
def cr (N:Nat) (p0:Int) (p1:Int) (p2:Int):Option (Bool):=
  ((if decide (p1≤p0) then some (decide (p0≤p2)) else some false).bind fun b1=>some b1)
def cQ (N:Nat) (p0:ac):Nat→Int→Int→Option (Int)
  | 0,_,_=>none
  | k+1,s1,s2=>
    (if decide (s2 < (p0.Pats.length:Int)) then ((idx p0.Pats s2).bind fun x1=>(if !x1.Not then ((cQ N p0 k) (i64.wrap (s1+1)) (i64.wrap (s2+1))) else ((cQ N p0 k) s1 (i64.wrap (s2+1))))) else some s1)
def gL (N:Nat) (p0:ac):Option (Int):=
  cQ N p0 N 0 0
def jT (N:Nat) (p0:aQ):Option (Bool):=
  (if decide (p0.K=1) then ((cr N p0.N (-1000000000) 1000000000).bind fun x1=>((if x1 then some (seq p0.S (⟨#[]⟩:ByteArray)) else some false).bind fun b1=>some b1)) else (if decide (p0.K=2) then ((if decide (p0.N=0) then ((lB N p0.S 20).bind fun x2=>some x2) else some false).bind fun b2=>some b2) else some false))
def jQ (N:Nat) (p0:Int):Option (Bool):=
  ((if decide (65≤p0) then some (decide (p0≤90)) else some false).bind fun b1=>some b1)
def fC (N:Nat) (p0:ByteArray):Nat→Int→Option (Bool)
  | 0,_=>none
  | k+1,s1=>
    (if decide (s1 < (p0.size:Int)) then ((idx p0.data.toList s1).bind fun y2=>((fZ N (y2.toNat:Int)).bind fun x2=>((if !x2 then ((idx p0.data.toList s1).bind fun y3=>((jQ N (y3.toNat:Int)).bind fun x3=>some (!x3))) else some false).bind fun b3=>(if b3 then some false else ((fC N p0 k) (i64.wrap (s1+1))))))) else some true)
def qC (N:Nat) (p0:ByteArray):Option (Bool):=
  ((if decide ((p0.size:Int) < 1) then some true else some (decide (12 < (p0.size:Int)))).bind fun b1=>((if b1 then some true else ((idx p0.data.toList 0).bind fun y1=>((jQ N (y1.toNat:Int)).bind fun x1=>some (!x1)))).bind fun b2=>(if b2 then some false else fC N p0 N 0)))
def nv (N:Nat) (p0:bk):Option (Bool):=
  (if decide (p0.K=1) then ((qC N p0.S).bind fun x1=>((if x1 then some (bc p0.V (⟨0,0,(⟨#[]⟩:ByteArray)⟩:aQ)) else some false).bind fun b1=>some b1)) else (if decide (p0.K=2) then ((if seq p0.S (⟨#[]⟩:ByteArray) then ((jT N p0.V).bind fun x2=>some x2) else some false).bind fun b2=>some b2) else (if decide (p0.K=3) then ((if seq p0.S (⟨#[]⟩:ByteArray) then some (bc p0.V (⟨0,0,(⟨#[]⟩:ByteArray)⟩:aQ)) else some false).bind fun b3=>some b3) else some false)))
def fB (N:Nat) (p0:aq):Nat→Int→Option (Bool)
  | 0,_=>none
  | k+1,s1=>
    (if decide (s1 < (p0.Args.length:Int)) then ((idx p0.Args s1).bind fun x2=>((nv N x2).bind fun x3=>(if !x3 then some false else ((fB N p0 k) (i64.wrap (s1+1)))))) else some true)
def qn (N:Nat) (p0:aq):Option (Bool):=
  ((eW N p0.Kind).bind fun x1=>((if !x1 then some true else some (decide (5 < (p0.Args.length:Int)))).bind fun b1=>(if b1 then some false else fB N p0 N 0)))
def dK (N:Nat) (p0:ac):Nat→Int→Option (Bool)
  | 0,_=>none
  | k+1,s1=>
    (if decide (s1 < (p0.Pats.length:Int)) then ((idx p0.Pats s1).bind fun x4=>((qn N x4).bind fun x5=>((if !x5 then some true else ((gL N p0).bind fun x6=>some (x4.Not != (decide (x6≤s1))))).bind fun b2=>(if b2 then some false else ((dK N p0 k) (i64.wrap (s1+1))))))) else some true)
def oa (N:Nat) (p0:ac):Option (Bool):=
  ((cr N (p0.Pats.length:Int) 1 6).bind fun x1=>((if !x1 then some true else ((gL N p0).bind fun x2=>((cr N x2 1 3).bind fun x3=>some (!x3)))).bind fun b1=>(if b1 then some false else dK N p0 N 0)))
def gG (N:Nat) (p0:bk):Option (Bool):=
  ((if !decide (p0.K=3) then ((nv N p0).bind fun x1=>some x1) else some false).bind fun b1=>some b1)
def oz (N:Nat) (p0:bA):Option (Bool):=
  ((cr N p0.Op 1 3).bind fun x1=>((if x1 then ((gG N p0.L).bind fun x2=>some x2) else some false).bind fun b1=>((if b1 then ((gG N p0.R).bind fun x3=>some x3) else some false).bind fun b2=>some b2)))
def ia (N:Nat) (p0:bv) (s1:Bool):Option (Bool):=
  (if s1 then ((gG N p0.L).bind fun x2=>((if x2 then ((gG N p0.R).bind fun x3=>some x3) else some false).bind fun b2=>some b2)) else some false)
def oA (N:Nat) (p0:bv):Option (Bool):=
  (if seq p0.Op (⟨#[]⟩:ByteArray) then ((gG N p0.L).bind fun x1=>((if x1 then some (o5 p0.R (⟨0,(⟨#[]⟩:ByteArray),(⟨0,0,(⟨#[]⟩:ByteArray)⟩:aQ)⟩:bk)) else some false).bind fun b1=>some b1)) else (if seq p0.Op (⟨#[43]⟩:ByteArray) then ia N p0 (seq p0.Op (⟨#[43]⟩:ByteArray)) else ia N p0 (seq p0.Op (⟨#[45]⟩:ByteArray))))
def dL (N:Nat) (p0:bY):Nat→Int→Option (Bool)
  | 0,_=>none
  | k+1,s1=>
    (if decide (s1 < (p0.Args.length:Int)) then ((idx p0.Args s1).bind fun x2=>((oA N x2).bind fun x3=>(if !x3 then some false else ((dL N p0 k) (i64.wrap (s1+1)))))) else some true)
def jw (N:Nat) (p0:bY):Option (Bool):=
  ((eW N p0.Name).bind fun x1=>((if !x1 then some true else some (decide (5 < (p0.Args.length:Int)))).bind fun b1=>(if b1 then some false else dL N p0 N 0)))
def qZ (N:Nat) (p0:ByteArray):Option (Bool):=
  ((if seq p0 (⟨#[]⟩:ByteArray) then some true else ((eW N p0).bind fun x1=>some x1)).bind fun b1=>some b1)
def iY (N:Nat) (p0:bY) (b1:Bool) (s1:Bool):Option (Bool):=
  (if s1 then ((if b1 then some (decide (p0.N=0)) else some false).bind fun b10=>((if b10 then some (seq p0.Undo (⟨#[]⟩:ByteArray)) else some false).bind fun b11=>some b11)) else some false)
def q8 (N:Nat) (p0:bY):Option (Bool):=
  ((if seq p0.Name (⟨#[]⟩:ByteArray) then some (decide ((p0.Args.length:Int)=0)) else some false).bind fun b1=>(if decide (p0.Kind=1) then ((jw N p0).bind fun x1=>((if x1 then some (decide (p0.N=0)) else some false).bind fun b2=>((if b2 then some (seq p0.Undo (⟨#[]⟩:ByteArray)) else some false).bind fun b3=>some b3))) else (if decide (p0.Kind=2) then ((if b1 then ((cr N p0.N 0 7).bind fun x2=>some x2) else some false).bind fun b4=>((if b4 then some (seq p0.Undo (⟨#[]⟩:ByteArray)) else some false).bind fun b5=>some b5)) else (if decide (p0.Kind=3) then ((jw N p0).bind fun x3=>((if x3 then some (decide (p0.N=0)) else some false).bind fun b6=>((if b6 then ((qZ N p0.Undo).bind fun x4=>some x4) else some false).bind fun b7=>some b7))) else (if decide (p0.Kind=4) then ((jw N p0).bind fun x5=>((if x5 then ((cr N p0.N 0 100000).bind fun x6=>some x6) else some false).bind fun b8=>((if b8 then some (seq p0.Undo (⟨#[]⟩:ByteArray)) else some false).bind fun b9=>some b9))) else (if decide (p0.Kind=5) then iY N p0 b1 (decide (p0.Kind=5)) else iY N p0 b1 (decide (p0.Kind=6))))))))
def aV (N:Nat) (p0:(List ByteArray)) (p1:ByteArray):Nat→Int→Option (Int)
  | 0,_=>none
  | k+1,s1=>
    (if decide (s1 < (p0.length:Int)) then ((idx p0 s1).bind fun x1=>(if seq p1 x1 then some s1 else ((aV N p0 p1 k) (i64.wrap (s1+1))))) else some (-1))
def cD (N:Nat) (p0:(List ByteArray)) (p1:ByteArray):Option (Int):=
  aV N p0 p1 N 0
def bC (N:Nat) (p0:(List ByteArray)) (p1:ByteArray):Option (Bool):=
  ((cD N p0 p1).bind fun x1=>some (decide (0≤x1)))
def lV (N:Nat) (p0:(List ByteArray)) (p1:ByteArray):Option ((List ByteArray)):=
  ((bC N p0 p1).bind fun x1=>(if x1 then some p0 else ((app p0 ([p1]:List ByteArray)).bind fun x2=>some x2)))
def ef (N:Nat) (p1:(List bk)):Nat→(List ByteArray)→Int→Option ((List ByteArray))
  | 0,_,_=>none
  | k+1,s1,s2=>
    (if decide (s2 < (p1.length:Int)) then ((idx p1 s2).bind fun x1=>(if decide (x1.K=1) then ((lV N s1 x1.S).bind fun x2=>((ef N p1 k) x2 (i64.wrap (s2+1)))) else ((ef N p1 k) s1 (i64.wrap (s2+1))))) else some s1)
def iL (N:Nat) (p0:(List ByteArray)) (p1:(List bk)):Option ((List ByteArray)):=
  ef N p1 N p0 0
def em (N:Nat) (p0:ac):Nat→(List ByteArray)→Int→Option ((List ByteArray))
  | 0,_,_=>none
  | k+1,s1,s2=>
    (if decide (s2 < (p0.Pats.length:Int)) then ((idx p0.Pats s2).bind fun x1=>(if !x1.Not then ((iL N s1 x1.Args).bind fun x2=>((em N p0 k) x2 (i64.wrap (s2+1)))) else ((em N p0 k) s1 (i64.wrap (s2+1))))) else some s1)
def jJ (N:Nat) (p0:ac):Option ((List ByteArray)):=
  em N p0 N ([]:List ByteArray) 0
def dA (N:Nat) (s4:Int) (K2:(List ByteArray)→Int→Option ((List ByteArray))) (x3:bY):Nat→(List ByteArray)→Int→Option ((List ByteArray))
  | 0,_,_=>none
  | k+1,s5,s6=>
    (if decide (s6 < (x3.Args.length:Int)) then ((idx x3.Args s6).bind fun x4=>((iL N s5 ([x4.L,x4.R]:List bk)).bind fun x5=>((dA N s4 K2 x3 k) x5 (i64.wrap (s6+1))))) else (K2 s5 (i64.wrap (s4+1))))
def cz (N:Nat) (p0:ac):Nat→(List ByteArray)→Int→Option ((List ByteArray))
  | 0,_,_=>none
  | k+1,s3,s4=>
    (if decide (s4 < (p0.Acts.length:Int)) then ((idx p0.Acts s4).bind fun x3=>dA N s4 (cz N p0 k) x3 N s3 0) else some s3)
def ez (N:Nat) (p0:ac):Nat→(List ByteArray)→Int→Option ((List ByteArray))
  | 0,_,_=>none
  | k+1,s1,s2=>
    (if decide (s2 < (p0.Conds.length:Int)) then ((idx p0.Conds s2).bind fun x1=>((iL N s1 ([x1.L,x1.R]:List bk)).bind fun x2=>((ez N p0 k) x2 (i64.wrap (s2+1))))) else cz N p0 N s1 0)
def kL (N:Nat) (p0:ac):Option ((List ByteArray)):=
  ez N p0 N ([]:List ByteArray) 0
def dU (N:Nat) (x10:(List ByteArray)) (x11:(List ByteArray)):Nat→Int→Option (Bool)
  | 0,_=>none
  | k+1,s3=>
    (if decide (s3 < (x11.length:Int)) then ((idx x11 s3).bind fun x12=>((bC N x10 x12).bind fun x13=>(if !x13 then some false else ((dU N x10 x11 k) (i64.wrap (s3+1)))))) else some true)
def dO (N:Nat) (p0:ac):Nat→Int→Option (Bool)
  | 0,_=>none
  | k+1,s2=>
    (if decide (s2 < (p0.Acts.length:Int)) then ((idx p0.Acts s2).bind fun x7=>((q8 N x7).bind fun x8=>((if !x8 then some true else ((if decide (x7.Kind=2) then ((gL N p0).bind fun x9=>some (decide (x9≤x7.N))) else some false).bind fun b5=>some b5)).bind fun b4=>(if b4 then some false else ((dO N p0 k) (i64.wrap (s2+1))))))) else ((jJ N p0).bind fun x10=>((kL N p0).bind fun x11=>dU N x10 x11 N 0)))
def dS (N:Nat) (p0:ac):Nat→Int→Option (Bool)
  | 0,_=>none
  | k+1,s1=>
    (if decide (s1 < (p0.Conds.length:Int)) then ((idx p0.Conds s1).bind fun x5=>((oz N x5).bind fun x6=>(if !x6 then some false else ((dS N p0 k) (i64.wrap (s1+1)))))) else dO N p0 N 0)
def nL (N:Nat) (p0:ac):Option (Bool):=
  ((eW N p0.Name).bind fun x1=>((if !x1 then some true else ((cr N p0.Sal (-100) 100).bind fun x2=>some (!x2))).bind fun b1=>((if b1 then some true else ((oa N p0).bind fun x3=>some (!x3))).bind fun b2=>(if b2 then some false else ((if decide (6 < (p0.Conds.length:Int)) then some true else ((cr N (p0.Acts.length:Int) 1 6).bind fun x4=>some (!x4))).bind fun b3=>(if b3 then some false else dS N p0 N 0))))))
def aP (N:Nat) (p0:(List ac)) (p1:ac→Option (Bool)):Nat→Int→Option (Int)
  | 0,_=>none
  | k+1,s1=>
    (if decide (s1 < (p0.length:Int)) then ((idx p0 s1).bind fun x1=>((p1 x1).bind fun x2=>(if x2 then some s1 else ((aP N p0 p1 k) (i64.wrap (s1+1)))))) else some (-1))
def cG (N:Nat) (p0:(List ac)) (p1:ac→Option (Bool)):Option (Int):=
  aP N p0 p1 N 0
def hP (N:Nat) (p0:ac) (c0:ByteArray):Option (Bool):=
  some (seq p0.Name c0)
def nZ (N:Nat) (p0:bi) (p1:ByteArray):Option (Int):=
  ((cG N p0.Rules (fun a0=>hP N a0 p1)).bind fun x1=>some x1)
def eE (N:Nat) (p0:bi):Nat→Int→Option (Bool)
  | 0,_=>none
  | k+1,s1=>
    (if decide (s1 < (p0.Rules.length:Int)) then ((idx p0.Rules s1).bind fun x3=>((nL N x3).bind fun x4=>((if !x4 then some true else ((nZ N p0 x3.Name).bind fun x5=>some (!decide (x5=s1)))).bind fun b2=>(if b2 then some false else ((eE N p0 k) (i64.wrap (s1+1))))))) else some true)
def qv (N:Nat) (p0:bi):Option (Bool):=
  ((eW N p0.Name).bind fun x1=>((if !x1 then some true else ((cr N (p0.Rules.length:Int) 1 12).bind fun x2=>some (!x2))).bind fun b1=>(if b1 then some false else eE N p0 N 0)))
def dZ (N:Nat) (p0:aw):Nat→Int→Option (Bool)
  | 0,_=>none
  | k+1,s1=>
    (if decide (s1 < (p0.Fields.length:Int)) then ((idx p0.Fields s1).bind fun x2=>((jT N x2).bind fun x3=>(if !x3 then some false else ((dZ N p0 k) (i64.wrap (s1+1)))))) else some true)
def o2 (N:Nat) (p0:aw):Option (Bool):=
  ((eW N p0.Kind).bind fun x1=>((if !x1 then some true else some (decide (5 < (p0.Fields.length:Int)))).bind fun b1=>(if b1 then some false else dZ N p0 N 0)))
def aT (N:Nat) (p0:(List aQ)) (p1:(List aQ)):Nat→Int→Option (Bool)
  | 0,_=>none
  | k+1,s1=>
    (if decide (s1 < (p0.length:Int)) then ((idx p0 s1).bind fun x1=>((idx p1 s1).bind fun x2=>(if !(bc x1 x2) then some false else ((aT N p0 p1 k) (i64.wrap (s1+1)))))) else some true)
def bt (N:Nat) (p0:(List aQ)) (p1:(List aQ)):Option (Bool):=
  (if !decide ((p0.length:Int)=(p1.length:Int)) then some false else aT N p0 p1 N 0)
def kh (N:Nat) (p0:aw) (p1:aw):Option (Bool):=
  ((if seq p0.Kind p1.Kind then ((bt N p0.Fields p1.Fields).bind fun x1=>some x1) else some false).bind fun b1=>some b1)
def dj (N:Nat) (s1:Int) (K1:Int→Option (Bool)) (x2:ao) (x6:(List ao)):Nat→Int→Option (Bool)
  | 0,_=>none
  | k+1,s2=>
    (if decide (s2 < (x6.length:Int)) then ((idx x6 s2).bind fun x7=>((kh N x2.F x7.F).bind fun x8=>(if x8 then some false else ((dj N s1 K1 x2 x6 k) (i64.wrap (s2+1)))))) else (K1 (i64.wrap (s1+1))))
def cn (N:Nat) (p0:ae):Nat→Int→Option (Bool)
  | 0,_=>none
  | k+1,s1=>
    (if decide (s1 < (p0.Items.length:Int)) then ((idx p0.Items s1).bind fun x2=>((o2 N x2.F).bind fun x3=>((if !x3 then some true else ((cr N x2.Id 1 (i64.wrap (p0.Next - 1))).bind fun x4=>some (!x4))).bind fun b2=>((if b2 then some true else ((if decide (0 < s1) then ((idx p0.Items (i64.wrap (s1 - 1))).bind fun x5=>some (decide (x2.Id≤x5.Id))) else some false).bind fun b4=>some b4)).bind fun b3=>(if b3 then some false else ((ssl p0.Items 0 s1).bind fun x6=>dj N s1 (cn N p0 k) x2 x6 N 0)))))) else some true)
def lS (N:Nat) (p0:ae):Option (Bool):=
  ((if decide (40 < (p0.Items.length:Int)) then some true else ((cr N p0.Next 1 1000000).bind fun x1=>some (!x1))).bind fun b1=>(if b1 then some false else cn N p0 N 0))
def az (N:Nat) (p0:(List aR)) (p1:(List aR)) (p2:aR→aR→Option (Bool)):Nat→Int→Option (Bool)
  | 0,_=>none
  | k+1,s1=>
    (if decide (s1 < (p0.length:Int)) then ((idx p0 s1).bind fun x1=>((idx p1 s1).bind fun x2=>((p2 x1 x2).bind fun x3=>(if !x3 then some false else ((az N p0 p1 p2 k) (i64.wrap (s1+1))))))) else some true)
def aY (N:Nat) (p0:(List aR)) (p1:(List aR)) (p2:aR→aR→Option (Bool)):Option (Bool):=
  (if !decide ((p0.length:Int)=(p1.length:Int)) then some false else az N p0 p1 p2 N 0)
def cB (N:Nat) (p0:(List Int)) (p1:(List Int)):Nat→Int→Option (Bool)
  | 0,_=>none
  | k+1,s1=>
    (if decide (s1 < (p0.length:Int)) then ((idx p0 s1).bind fun x1=>((idx p1 s1).bind fun x2=>(if !decide (x1=x2) then some false else ((cB N p0 p1 k) (i64.wrap (s1+1)))))) else some true)
def dt (N:Nat) (p0:(List Int)) (p1:(List Int)):Option (Bool):=
  (if !decide ((p0.length:Int)=(p1.length:Int)) then some false else cB N p0 p1 N 0)
def eX (N:Nat) (p0:aR) (p1:aR):Option (Bool):=
  ((dt N p0.L p1.L).bind fun x1=>some x1)
def aB (N:Nat) (p0:(List aG)) (p1:(List aG)) (p2:aG→aG→Option (Bool)):Nat→Int→Option (Bool)
  | 0,_=>none
  | k+1,s1=>
    (if decide (s1 < (p0.length:Int)) then ((idx p0 s1).bind fun x1=>((idx p1 s1).bind fun x2=>((p2 x1 x2).bind fun x3=>(if !x3 then some false else ((aB N p0 p1 p2 k) (i64.wrap (s1+1))))))) else some true)
def aZ (N:Nat) (p0:(List aG)) (p1:(List aG)) (p2:aG→aG→Option (Bool)):Option (Bool):=
  (if !decide ((p0.length:Int)=(p1.length:Int)) then some false else aB N p0 p1 p2 N 0)
def an (N:Nat) (p0:(List ab)) (p1:(List ab)) (p2:ab→ab→Option (Bool)):Nat→Int→Option (Bool)
  | 0,_=>none
  | k+1,s1=>
    (if decide (s1 < (p0.length:Int)) then ((idx p0 s1).bind fun x1=>((idx p1 s1).bind fun x2=>((p2 x1 x2).bind fun x3=>(if !x3 then some false else ((an N p0 p1 p2 k) (i64.wrap (s1+1))))))) else some true)
def aX (N:Nat) (p0:(List ab)) (p1:(List ab)) (p2:ab→ab→Option (Bool)):Option (Bool):=
  (if !decide ((p0.length:Int)=(p1.length:Int)) then some false else an N p0 p1 p2 N 0)
def cX (N:Nat) (p0:(List aa)):Option ((List aa)):=
  ((app ([]:List aa) p0).bind fun x1=>some x1)
def d6 (N:Nat) (p0:(List aa)):Option ((List aa)):=
  ((app ([]:List aa) p0).bind fun x1=>some x1)
noncomputable def d8 (N:Nat) (p0:(List aa)) (p1:aa→aa→Option (Int)):Option ((List aa)):=
  Cj p0 p1
def fx (N:Nat) (p0:(List Int)):Nat→Int→Option (Int)
  | 0,_=>none
  | k+1,s1=>
    (if decide (s1 < (p0.length:Int)) then ((idx p0 s1).bind fun x1=>(if !decide (x1=0) then some x1 else ((fx N p0 k) (i64.wrap (s1+1))))) else some 0)
def kJ (N:Nat) (p0:(List Int)):Option (Int):=
  fx N p0 N 0
def gS (N:Nat) (p0:Int):Option (Bool):=
  some (!decide (p0=p0))
def fK (N:Nat) (p0:Int) (p1:Int):Option (Int):=
  ((gS N p0).bind fun x1=>((gS N p1).bind fun x2=>(if x1 then (if x2 then some 0 else some (-1)) else (if x2 then some 1 else (if decide (p0 < p1) then some (-1) else (if decide (p1 < p0) then some 1 else some 0))))))
def bG (N:Nat) (p0:(List Int)) (p1:(List Int)):Nat→Int→Option (Int)
  | 0,_=>none
  | k+1,s1=>
    (if decide (s1 < (p0.length:Int)) then ((idx p0 s1).bind fun x1=>(if decide ((p1.length:Int)≤s1) then some 1 else ((idx p1 s1).bind fun x2=>((fK N x1 x2).bind fun x3=>(if !decide (x3=0) then some x3 else ((bG N p0 p1 k) (i64.wrap (s1+1)))))))) else (if decide ((p0.length:Int) < (p1.length:Int)) then some (-1) else some 0))
def dE (N:Nat) (p0:(List Int)) (p1:(List Int)):Option (Int):=
  bG N p0 p1 N 0
def bP (N:Nat) (p0:aa) (p1:aa):Option (Int):=
  ((dE N p0.Ids p1.Ids).bind fun x1=>((dE N p0.Hits p1.Hits).bind fun x2=>((kJ N ([x1,x2]:List Int)).bind fun x3=>some x3)))
def aA (N:Nat) (p0:(List aa)) (p1:(List aa)) (p2:aa→aa→Option (Bool)):Nat→Int→Option (Bool)
  | 0,_=>none
  | k+1,s1=>
    (if decide (s1 < (p0.length:Int)) then ((idx p0 s1).bind fun x1=>((idx p1 s1).bind fun x2=>((p2 x1 x2).bind fun x3=>(if !x3 then some false else ((aA N p0 p1 p2 k) (i64.wrap (s1+1))))))) else some true)
def br (N:Nat) (p0:(List aa)) (p1:(List aa)) (p2:aa→aa→Option (Bool)):Option (Bool):=
  (if !decide ((p0.length:Int)=(p1.length:Int)) then some false else aA N p0 p1 p2 N 0)
def jG (N:Nat) (p0:aa) (p1:aa):Option (Bool):=
  ((bP N p0 p1).bind fun x1=>some (decide (x1=0)))
noncomputable def fN (N:Nat) (p0:ab) (p1:ab):Option (Bool):=
  (if !decide ((p0.Toks.length:Int)=(p1.Toks.length:Int)) then some false else ((cX N p0.Toks).bind fun x1=>((cX N p1.Toks).bind fun x2=>((d8 N x1 (bP N)).bind fun x3=>((d8 N x2 (bP N)).bind fun x4=>((br N x3 x4 (jG N)).bind fun x5=>some x5))))))
noncomputable def eo (N:Nat) (p0:aG) (p1:aG):Option (Bool):=
  ((aX N p0.Levels p1.Levels (fN N)).bind fun x1=>some x1)
noncomputable def mF (N:Nat) (p0:aK) (p1:aK):Option (Bool):=
  ((aY N p0.Alphas p1.Alphas (eX N)).bind fun x1=>((if x1 then ((aZ N p0.Rules p1.Rules (eo N)).bind fun x2=>some x2) else some false).bind fun b1=>some b1))
def ed (N:Nat) (p0:aq):Nat→(List aQ)→(List Int)→Int→Option (ak)
  | 0,_,_,_=>none
  | k+1,s1,s2,s3=>
    (if decide (s3 < (p0.Args.length:Int)) then ((idx p0.Args s3).bind fun x1=>(if decide (x1.K=2) then ((app s1 ([x1.V]:List aQ)).bind fun x2=>((app s2 ([s3]:List Int)).bind fun x3=>((ed N p0 k) x2 x3 (i64.wrap (s3+1))))) else ((ed N p0 k) s1 s2 (i64.wrap (s3+1))))) else some (⟨p0.Kind,(p0.Args.length:Int),s1,s2⟩:ak))
def mB (N:Nat) (p0:aq):Option (ak):=
  ed N p0 N ([]:List aQ) ([]:List Int) 0
def jj (N:Nat) (p0:ak) (p1:ak):Option (Bool):=
  ((if seq p0.Kind p1.Kind then some (decide (p0.N=p1.N)) else some false).bind fun b1=>((if b1 then ((bt N p0.Consts p1.Consts).bind fun x1=>some x1) else some false).bind fun b2=>((if b2 then ((dt N p0.At p1.At).bind fun x2=>some x2) else some false).bind fun b3=>some b3)))
def ck (N:Nat) (p0:bB) (x1:ak):Nat→Int→Option (Int × bB)
  | 0,_=>none
  | k+1,s1=>
    (if decide (s1 < (p0.Alphas.length:Int)) then ((idx p0.Alphas s1).bind fun x2=>((jj N x2 x1).bind fun x3=>(if x3 then some (s1,p0) else ((ck N p0 x1 k) (i64.wrap (s1+1)))))) else ((app p0.Alphas ([x1]:List ak)).bind fun x4=>some (i64.wrap ((x4.length:Int) - 1),(⟨x4,p0.Chains⟩:bB))))
def gT (N:Nat) (p0:bB) (p1:aq):Option (Int × bB):=
  ((mB N p1).bind fun x1=>ck N p0 x1 N 0)
def eH (N:Nat) (s2:(List aD)) (s3:Int) (K1:(List ak)→(List aD)→Int→Option (bB)) (x1:ac):Nat→(List ak)→(List Int)→(List Int)→Int→Option (bB)
  | 0,_,_,_,_=>none
  | k+1,s4,s5,s6,s7=>
    (if decide (s7 < (x1.Pats.length:Int)) then ((idx x1.Pats s7).bind fun x2=>((gT N (⟨s4,s2⟩:bB) x2).bind fun x3=>(if x2.Not then ((app s5 ([x3.1]:List Int)).bind fun x4=>((eH N s2 s3 K1 x1 k) x3.2.Alphas x4 s6 (i64.wrap (s7+1)))) else ((app s6 ([x3.1]:List Int)).bind fun x5=>((eH N s2 s3 K1 x1 k) x3.2.Alphas s5 x5 (i64.wrap (s7+1))))))) else ((app s2 ([(⟨s6,s5⟩:aD)]:List aD)).bind fun x6=>(K1 s4 x6 (i64.wrap (s3+1)))))
def dV (N:Nat) (p0:bi):Nat→(List ak)→(List aD)→Int→Option (bB)
  | 0,_,_,_=>none
  | k+1,s1,s2,s3=>
    (if decide (s3 < (p0.Rules.length:Int)) then ((idx p0.Rules s3).bind fun x1=>eH N s2 s3 (dV N p0 k) x1 N s1 ([]:List Int) ([]:List Int) 0) else some (⟨s1,s2⟩:bB))
def qe (N:Nat) (p0:bi):Option (bB):=
  dV N p0 N ([]:List ak) ([]:List aD) 0
def fM (N:Nat) (p0:bB) (x1:(List aR)):Nat→(List aG)→Int→Option (aK)
  | 0,_,_=>none
  | k+1,s1,s2=>
    (if decide (s2 < (p0.Chains.length:Int)) then ((idx p0.Chains s2).bind fun x2=>((mk (⟨([]:List aa)⟩:ab) (x2.Pos.length:Int)).bind fun x3=>((app s1 ([(⟨x3⟩:aG)]:List aG)).bind fun x4=>((fM N p0 x1 k) x4 (i64.wrap (s2+1)))))) else some (⟨x1,s1⟩:aK))
def nU (N:Nat) (p0:bB):Option (aK):=
  ((mk (⟨([]:List Int)⟩:aR) (p0.Alphas.length:Int)).bind fun x1=>fM N p0 x1 N ([]:List aG) 0)
def es (N:Nat) (p0:(List aQ)):Option ((List aQ)):=
  ((app ([]:List aQ) p0).bind fun x1=>some x1)
def kl (N:Nat) (p0:aw):Option (aw):=
  ((es N p0.Fields).bind fun x1=>some (⟨p0.Kind,x1⟩:aw))
def eS (N:Nat) (p0:ae) (p1:Int):Nat→Int→Option (aw × Bool)
  | 0,_=>none
  | k+1,s1=>
    (if decide (s1 < (p0.Items.length:Int)) then ((idx p0.Items s1).bind fun x1=>(if decide (x1.Id=p1) then ((kl N x1.F).bind fun x2=>some (x2,true)) else ((eS N p0 p1 k) (i64.wrap (s1+1))))) else some ((⟨(⟨#[]⟩:ByteArray),[]⟩:aw),false))
def jx (N:Nat) (p0:ae) (p1:Int):Option (aw × Bool):=
  eS N p0 p1 N 0
def fP (N:Nat) (p0:ak) (p1:aw):Nat→Int→Option (Bool)
  | 0,_=>none
  | k+1,s1=>
    (if decide (s1 < (p0.At.length:Int)) then ((idx p0.At s1).bind fun x1=>((if decide (x1 < 0) then some true else some (decide ((p1.Fields.length:Int)≤x1))).bind fun b2=>((if b2 then some true else some (decide ((p0.Consts.length:Int)≤s1))).bind fun b3=>((if b3 then some true else ((idx p1.Fields x1).bind fun x2=>((idx p0.Consts s1).bind fun x3=>some (!(bc x2 x3))))).bind fun b4=>(if b4 then some false else ((fP N p0 p1 k) (i64.wrap (s1+1)))))))) else some true)
def om (N:Nat) (p0:ak) (p1:aw):Option (Bool):=
  ((if !seq p1.Kind p0.Kind then some true else some (!decide ((p1.Fields.length:Int)=p0.N))).bind fun b1=>(if b1 then some false else fP N p0 p1 N 0))
def gA (N:Nat) (p0:ac) (p1:Bool):Nat→(List aq)→Int→Option ((List aq))
  | 0,_,_=>none
  | k+1,s1,s2=>
    (if decide (s2 < (p0.Pats.length:Int)) then ((idx p0.Pats s2).bind fun x1=>(if (x1.Not == p1) then ((app s1 ([x1]:List aq)).bind fun x2=>((gA N p0 p1 k) x2 (i64.wrap (s2+1)))) else ((gA N p0 p1 k) s1 (i64.wrap (s2+1))))) else some s1)
def qb (N:Nat) (p0:ac) (p1:Bool):Option ((List aq)):=
  gA N p0 p1 N ([]:List aq) 0
def ni (N:Nat) (p0:bi) (p1:bB) (p2:aK) (p3:ae) (p4:Int) (p5:Int):Option (ci):=
  ((idx p0.Rules p5).bind fun x1=>((idx p1.Chains p5).bind fun x2=>((qb N x1 false).bind fun x3=>((qb N x1 true).bind fun x4=>some (⟨x3,x4,x2,p2.Alphas,p3,p4⟩:ci)))))
def bh (N:Nat) (p0:(List aC)):Option ((List aC)):=
  ((app ([]:List aC) p0).bind fun x1=>some x1)
def fR (N:Nat) (p0:(List aC)) (p1:ByteArray):Nat→Int→Option (aQ × Bool)
  | 0,_=>none
  | k+1,s1=>
    (if decide (s1 < (p0.length:Int)) then ((idx p0 s1).bind fun x1=>(if seq x1.Name p1 then some (x1.V,true) else ((fR N p0 p1 k) (i64.wrap (s1+1))))) else some ((⟨0,0,(⟨#[]⟩:ByteArray)⟩:aQ),false))
def oe (N:Nat) (p0:(List aC)) (p1:ByteArray):Option (aQ × Bool):=
  fR N p0 p1 N 0
def cR (N:Nat) (p0:aq) (p1:aw) (p2:(List aC)):Nat→(List aC)→Int→Option ((List aC) × Bool)
  | 0,_,_=>none
  | k+1,s1,s2=>
    (if decide (s2 < (p0.Args.length:Int)) then ((idx p0.Args s2).bind fun x3=>((idx p1.Fields s2).bind fun x4=>(if decide (x3.K=2) then (if !(bc x3.V x4) then ((bh N p2).bind fun x5=>some (x5,false)) else ((cR N p0 p1 p2 k) s1 (i64.wrap (s2+1)))) else (if decide (x3.K=1) then ((oe N s1 x3.S).bind fun x6=>((if x6.2 then some (!(bc x6.1 x4)) else some false).bind fun b2=>(if b2 then ((bh N p2).bind fun x7=>some (x7,false)) else (if !x6.2 then ((app s1 ([(⟨x3.S,x4⟩:aC)]:List aC)).bind fun x8=>((cR N p0 p1 p2 k) x8 (i64.wrap (s2+1)))) else ((cR N p0 p1 p2 k) s1 (i64.wrap (s2+1))))))) else ((cR N p0 p1 p2 k) s1 (i64.wrap (s2+1))))))) else some (s1,true))
def gJ (N:Nat) (p0:aq) (p1:aw) (p2:(List aC)):Option ((List aC) × Bool):=
  ((if !seq p1.Kind p0.Kind then some true else some (!decide ((p1.Fields.length:Int)=(p0.Args.length:Int)))).bind fun b1=>(if b1 then ((bh N p2).bind fun x1=>some (x1,false)) else ((bh N p2).bind fun x2=>cR N p0 p1 p2 N x2 0)))
def fc (N:Nat) (p0:(List aq)) (p1:ae) (p2:(List Int)):Nat→(List aC)→Int→Option ((List aC) × Bool)
  | 0,_,_=>none
  | k+1,s1,s2=>
    (if decide (s2 < (p2.length:Int)) then ((idx p2 s2).bind fun x1=>((jx N p1 x1).bind fun x2=>(if !x2.2 then some ([],false) else ((idx p0 s2).bind fun x3=>((gJ N x3 x2.1 s1).bind fun x4=>(if !x4.2 then some ([],false) else ((fc N p0 p1 p2 k) x4.1 (i64.wrap (s2+1))))))))) else some (s1,true))
def jS (N:Nat) (p0:(List aq)) (p1:ae) (p2:(List Int)):Option ((List aC) × Bool):=
  fc N p0 p1 p2 N ([]:List aC) 0
def bJ (N:Nat) (p0:ci) (p2:Int) (x1:aw × Bool) (s1:(List aa)) (s2:Int) (K1:(List aa)→Int→Option ((List aa))) (x2:aa) (x3:(List aC) × Bool):Nat→(List Int)→Int→Option ((List aa))
  | 0,_,_=>none
  | k+1,s3,s4=>
    (if decide (s4 < (p0.neg.length:Int)) then ((idx p0.neg s4).bind fun x4=>((gJ N x4 x1.1 x3.1).bind fun x5=>(if x5.2 then ((idx s3 s4).bind fun x6=>((idx s3 s4).bind fun x7=>((bJ N p0 p2 x1 s1 s2 K1 x2 x3 k) (s3.set s4.toNat (i64.wrap (x6+p2))) (i64.wrap (s4+1))))) else ((bJ N p0 p2 x1 s1 s2 K1 x2 x3 k) s3 (i64.wrap (s4+1)))))) else (K1 (s1.set s2.toNat (⟨x2.Ids,s3⟩:aa)) (i64.wrap (s2+1))))
def bl (N:Nat) (p0:ci) (p1:(List aa)) (p2:Int) (x1:aw × Bool):Nat→(List aa)→Int→Option ((List aa))
  | 0,_,_=>none
  | k+1,s1,s2=>
    (if decide (s2 < (p1.length:Int)) then ((idx s1 s2).bind fun x2=>((jS N p0.pos p0.s x2.Ids).bind fun x3=>(if !x3.2 then ((bl N p0 p1 p2 x1 k) s1 (i64.wrap (s2+1))) else bJ N p0 p2 x1 s1 s2 (bl N p0 p1 p2 x1 k) x2 x3 N x2.Hits 0))) else some s1)
def eU (N:Nat) (p0:ci) (p1:(List aa)) (p2:Int):Option ((List aa)):=
  ((jx N p0.s p0.id).bind fun x1=>bl N p0 p1 p2 x1 N p1 0)
def fU (N:Nat) (p0:(List Int)):Option ((List Int)):=
  ((app ([]:List Int) p0).bind fun x1=>some x1)
def dM (N:Nat) (p0:aq) (p1:ae) (p2:(List aC)):Nat→Int→Int→Option (Int)
  | 0,_,_=>none
  | k+1,s1,s2=>
    (if decide (s2 < (p1.Items.length:Int)) then ((idx p1.Items s2).bind fun x1=>((gJ N p0 x1.F p2).bind fun x2=>(if x2.2 then ((dM N p0 p1 p2 k) (i64.wrap (s1+1)) (i64.wrap (s2+1))) else ((dM N p0 p1 p2 k) s1 (i64.wrap (s2+1)))))) else some s1)
def ol (N:Nat) (p0:aq) (p1:ae) (p2:(List aC)):Option (Int):=
  dM N p0 p1 p2 N 0 0
def bO (N:Nat) (s1:(List aa)) (s2:Int) (K1:(List aa)→Int→Option ((List aa))) (x3:(List Int)) (s3:(List Int)):Option ((List aa)):=
  ((app s1 ([(⟨x3,s3⟩:aa)]:List aa)).bind fun x5=>(K1 x5 (i64.wrap (s2+1))))
def bN (N:Nat) (p0:ci) (s1:(List aa)) (s2:Int) (K1:(List aa)→Int→Option ((List aa))) (x3:(List Int)) (x4:(List aC) × Bool):Nat→(List Int)→Int→Option ((List aa))
  | 0,_,_=>none
  | k+1,s4,s5=>
    (if decide (s5 < (p0.neg.length:Int)) then ((idx p0.neg s5).bind fun x6=>((ol N x6 p0.s x4.1).bind fun x7=>((app s4 ([x7]:List Int)).bind fun x8=>((bN N p0 s1 s2 K1 x3 x4 k) x8 (i64.wrap (s5+1)))))) else bO N s1 s2 K1 x3 s4)
def bb (N:Nat) (p0:ci) (p1:(List Int)) (p2:(List Int)):Nat→(List aa)→Int→Option ((List aa))
  | 0,_,_=>none
  | k+1,s1,s2=>
    (if decide (s2 < (p2.length:Int)) then ((idx p2 s2).bind fun x1=>((fU N p1).bind fun x2=>((app x2 ([x1]:List Int)).bind fun x3=>((jS N p0.pos p0.s x3).bind fun x4=>(if !x4.2 then ((bb N p0 p1 p2 k) s1 (i64.wrap (s2+1))) else (if decide ((x3.length:Int)=(p0.pos.length:Int)) then bN N p0 s1 s2 (bb N p0 p1 p2 k) x3 x4 N ([]:List Int) 0 else bO N s1 s2 (bb N p0 p1 p2 k) x3 ([]:List Int))))))) else some s1)
def dd (N:Nat) (p0:ci) (p1:(List Int)) (p2:(List Int)):Option ((List aa)):=
  bb N p0 p1 p2 N ([]:List aa) 0
def bH (N:Nat) (s1:(List ab)) (s4:Int) (K1:(List ab)→(List aa)→(List aa)→Int→Option ((List ab))) (s5:(List aa)):Option ((List ab)):=
  ((idx s1 s4).bind fun x1=>((d6 N x1.Toks).bind fun x2=>((app x1.Toks s5).bind fun x3=>(K1 (s1.set s4.toNat (⟨x3⟩:ab)) x2 s5 (i64.wrap (s4+1))))))
def cp (N:Nat) (p0:ci) (s1:(List ab)) (s3:(List aa)) (s4:Int) (K1:(List ab)→(List aa)→(List aa)→Int→Option ((List ab))):Nat→(List aa)→Int→Option ((List ab))
  | 0,_,_=>none
  | k+1,s8,s9=>
    (if decide (s9 < (s3.length:Int)) then ((idx s3 s9).bind fun x8=>((idx p0.chain.Pos s4).bind fun x9=>((idx p0.alphas x9).bind fun x10=>((dd N p0 x8.Ids x10.L).bind fun x11=>((app s8 x11).bind fun x12=>((cp N p0 s1 s3 s4 K1 k) x12 (i64.wrap (s9+1)))))))) else bH N s1 s4 K1 s8)
def co (N:Nat) (p0:ci) (s1:(List ab)) (s2:(List aa)) (s3:(List aa)) (s4:Int) (K1:(List ab)→(List aa)→(List aa)→Int→Option ((List ab))):Nat→(List aa)→Int→Option ((List ab))
  | 0,_,_=>none
  | k+1,s6,s7=>
    (if decide (s7 < (s2.length:Int)) then ((idx s2 s7).bind fun x5=>((dd N p0 x5.Ids ([p0.id]:List Int)).bind fun x6=>((app s6 x6).bind fun x7=>((co N p0 s1 s2 s3 s4 K1 k) x7 (i64.wrap (s7+1)))))) else cp N p0 s1 s3 s4 K1 N s6 0)
def bg (N:Nat) (p0:ci) (p1:(List ab)):Nat→(List ab)→(List aa)→(List aa)→Int→Option ((List ab))
  | 0,_,_,_,_=>none
  | k+1,s1,s2,s3,s4=>
    (if decide (s4 < (p1.length:Int)) then (if decide (s4=0) then ((dd N p0 [] ([p0.id]:List Int)).bind fun x4=>bH N s1 s4 (bg N p0 p1 k) x4) else co N p0 s1 s2 s3 s4 (bg N p0 p1 k) N ([]:List aa) 0) else some s1)
def fv (N:Nat) (p0:ci) (p1:(List ab)):Option ((List ab)):=
  bg N p0 p1 N p1 ([]:List aa) ([]:List aa) 0
def de (N:Nat) (p0:bi) (p1:bB) (p2:aK) (p3:ae) (p4:Int) (s1:(List aR)):Nat→(List aG)→Int→Option ((List aR) × (List aG))
  | 0,_,_=>none
  | k+1,s3,s4=>
    (if decide (s4 < (p2.Rules.length:Int)) then ((idx s3 s4).bind fun x6=>((ni N p0 p1 (⟨s1,s3⟩:aK) p3 p4 s4).bind fun x7=>((idx x6.Levels (i64.wrap ((x6.Levels.length:Int) - 1))).bind fun x8=>((eU N x7 x8.Toks 1).bind fun x9=>((fv N x7 (x6.Levels.set (i64.wrap ((x6.Levels.length:Int) - 1)).toNat (⟨x9⟩:ab))).bind fun x10=>((de N p0 p1 p2 p3 p4 s1 k) (s3.set s4.toNat (⟨x10⟩:aG)) (i64.wrap (s4+1)))))))) else some (s1,s3))
def df (N:Nat) (p0:bi) (p1:bB) (p2:aK) (p3:ae) (p4:Int) (x1:aw × Bool):Nat→(List aR)→Int→Option ((List aR) × (List aG))
  | 0,_,_=>none
  | k+1,s1,s2=>
    (if decide (s2 < (p1.Alphas.length:Int)) then ((idx p1.Alphas s2).bind fun x2=>((om N x2 x1.1).bind fun x3=>(if x3 then ((idx s1 s2).bind fun x4=>((app x4.L ([p4]:List Int)).bind fun x5=>((df N p0 p1 p2 p3 p4 x1 k) (s1.set s2.toNat (⟨x5⟩:aR)) (i64.wrap (s2+1))))) else ((df N p0 p1 p2 p3 p4 x1 k) s1 (i64.wrap (s2+1)))))) else de N p0 p1 p2 p3 p4 s1 N p2.Rules 0)
def mz (N:Nat) (p0:bi) (p1:bB) (p2:aK) (p3:ae) (p4:Int):Option ((List aR) × (List aG)):=
  ((jx N p3 p4).bind fun x1=>df N p0 p1 p2 p3 p4 x1 N p2.Alphas 0)
def fH (N:Nat) (p0:bi) (p1:ae) (x1:bB):Nat→(List aR)→(List aG)→Int→Option (aK)
  | 0,_,_,_=>none
  | k+1,s1,s2,s3=>
    (if decide (s3 < (p1.Items.length:Int)) then ((idx p1.Items s3).bind fun x3=>((ssl p1.Items 0 (i64.wrap (s3+1))).bind fun x4=>((mz N p0 x1 (⟨s1,s2⟩:aK) (⟨x4,p1.Next⟩:ae) x3.Id).bind fun x5=>((fH N p0 p1 x1 k) x5.1 x5.2 (i64.wrap (s3+1)))))) else some (⟨s1,s2⟩:aK))
def sg (N:Nat) (p0:bi) (p1:ae):Option (aK):=
  ((qe N p0).bind fun x1=>((nU N x1).bind fun x2=>fH N p0 p1 x1 N x2.Alphas x2.Rules 0))
noncomputable def kE (N:Nat) (p0:bi) (p1:aK) (p2:ae):Option (Bool):=
  ((qv N p0).bind fun x1=>(if x1 then ((lS N p2).bind fun x2=>(if x2 then ((sg N p0 p2).bind fun x3=>((mF N p1 x3).bind fun x4=>some x4)) else some false)) else some false))
def lh (N:Nat) (p0:aQ) (p1:aQ):Option (Bool):=
  (if !decide (p0.K=p1.K) then some false else (if !decide (p0.N=p1.N) then some false else (if !seq p0.S p1.S then some false else some true)))
def i9 (N:Nat) (p0:bk) (p1:bk):Option (Bool):=
  (if !decide (p0.K=p1.K) then some false else (if !seq p0.S p1.S then some false else ((lh N p0.V p1.V).bind fun x1=>(if !x1 then some false else some true))))
def gZ (N:Nat) (p0:(List bk)) (p1:(List bk)):Nat→Int→Option (Bool)
  | 0,_=>none
  | k+1,s1=>
    (if decide (s1 < (p0.length:Int)) then ((idx p0 s1).bind fun x1=>((idx p1 s1).bind fun x2=>((i9 N x1 x2).bind fun x3=>(if !x3 then some false else ((gZ N p0 p1 k) (i64.wrap (s1+1))))))) else some true)
def oh (N:Nat) (p0:(List bk)) (p1:(List bk)):Option (Bool):=
  (if !decide ((p0.length:Int)=(p1.length:Int)) then some false else gZ N p0 p1 N 0)
def nE (N:Nat) (p0:aq) (p1:aq):Option (Bool):=
  (if !seq p0.Kind p1.Kind then some false else ((oh N p0.Args p1.Args).bind fun x1=>(if !x1 then some false else (if (p0.Not != p1.Not) then some false else some true))))
def gW (N:Nat) (p0:(List aq)) (p1:(List aq)):Nat→Int→Option (Bool)
  | 0,_=>none
  | k+1,s1=>
    (if decide (s1 < (p0.length:Int)) then ((idx p0 s1).bind fun x1=>((idx p1 s1).bind fun x2=>((nE N x1 x2).bind fun x3=>(if !x3 then some false else ((gW N p0 p1 k) (i64.wrap (s1+1))))))) else some true)
def o6 (N:Nat) (p0:(List aq)) (p1:(List aq)):Option (Bool):=
  (if !decide ((p0.length:Int)=(p1.length:Int)) then some false else gW N p0 p1 N 0)
def lJ (N:Nat) (p0:bA) (p1:bA):Option (Bool):=
  (if !decide (p0.Op=p1.Op) then some false else ((i9 N p0.L p1.L).bind fun x1=>(if !x1 then some false else ((i9 N p0.R p1.R).bind fun x2=>(if !x2 then some false else some true)))))
def gc (N:Nat) (p0:(List bA)) (p1:(List bA)):Nat→Int→Option (Bool)
  | 0,_=>none
  | k+1,s1=>
    (if decide (s1 < (p0.length:Int)) then ((idx p0 s1).bind fun x1=>((idx p1 s1).bind fun x2=>((lJ N x1 x2).bind fun x3=>(if !x3 then some false else ((gc N p0 p1 k) (i64.wrap (s1+1))))))) else some true)
def mj (N:Nat) (p0:(List bA)) (p1:(List bA)):Option (Bool):=
  (if !decide ((p0.length:Int)=(p1.length:Int)) then some false else gc N p0 p1 N 0)
def li (N:Nat) (p0:bv) (p1:bv):Option (Bool):=
  (if !seq p0.Op p1.Op then some false else ((i9 N p0.L p1.L).bind fun x1=>(if !x1 then some false else ((i9 N p0.R p1.R).bind fun x2=>(if !x2 then some false else some true)))))
def fY (N:Nat) (p0:(List bv)) (p1:(List bv)):Nat→Int→Option (Bool)
  | 0,_=>none
  | k+1,s1=>
    (if decide (s1 < (p0.length:Int)) then ((idx p0 s1).bind fun x1=>((idx p1 s1).bind fun x2=>((li N x1 x2).bind fun x3=>(if !x3 then some false else ((fY N p0 p1 k) (i64.wrap (s1+1))))))) else some true)
def m4 (N:Nat) (p0:(List bv)) (p1:(List bv)):Option (Bool):=
  (if !decide ((p0.length:Int)=(p1.length:Int)) then some false else fY N p0 p1 N 0)
def nK (N:Nat) (p0:bY) (p1:bY):Option (Bool):=
  (if !decide (p0.Kind=p1.Kind) then some false else (if !seq p0.Name p1.Name then some false else ((m4 N p0.Args p1.Args).bind fun x1=>(if !x1 then some false else (if !decide (p0.N=p1.N) then some false else (if !seq p0.Undo p1.Undo then some false else some true))))))
def ir (N:Nat) (p0:(List bY)) (p1:(List bY)):Nat→Int→Option (Bool)
  | 0,_=>none
  | k+1,s1=>
    (if decide (s1 < (p0.length:Int)) then ((idx p0 s1).bind fun x1=>((idx p1 s1).bind fun x2=>((nK N x1 x2).bind fun x3=>(if !x3 then some false else ((ir N p0 p1 k) (i64.wrap (s1+1))))))) else some true)
def o8 (N:Nat) (p0:(List bY)) (p1:(List bY)):Option (Bool):=
  (if !decide ((p0.length:Int)=(p1.length:Int)) then some false else ir N p0 p1 N 0)
def lw (N:Nat) (p0:ac) (p1:ac):Option (Bool):=
  (if !seq p0.Name p1.Name then some false else (if !decide (p0.Sal=p1.Sal) then some false else ((o6 N p0.Pats p1.Pats).bind fun x1=>(if !x1 then some false else ((mj N p0.Conds p1.Conds).bind fun x2=>(if !x2 then some false else ((o8 N p0.Acts p1.Acts).bind fun x3=>(if !x3 then some false else some true))))))))
def gr (N:Nat) (p0:(List ac)) (p1:(List ac)):Nat→Int→Option (Bool)
  | 0,_=>none
  | k+1,s1=>
    (if decide (s1 < (p0.length:Int)) then ((idx p0 s1).bind fun x1=>((idx p1 s1).bind fun x2=>((lw N x1 x2).bind fun x3=>(if !x3 then some false else ((gr N p0 p1 k) (i64.wrap (s1+1))))))) else some true)
def lX (N:Nat) (p0:(List ac)) (p1:(List ac)):Option (Bool):=
  (if !decide ((p0.length:Int)=(p1.length:Int)) then some false else gr N p0 p1 N 0)
def ql (N:Nat) (p0:bi) (p1:bi):Option (Bool):=
  (if !seq p0.Name p1.Name then some false else ((lX N p0.Rules p1.Rules).bind fun x1=>(if !x1 then some false else some true)))
def ic (N:Nat) (p0:(List Int)) (p1:(List Int)):Nat→Int→Option (Bool)
  | 0,_=>none
  | k+1,s1=>
    (if decide (s1 < (p0.length:Int)) then ((idx p0 s1).bind fun x1=>((idx p1 s1).bind fun x2=>(if !decide (x1=x2) then some false else ((ic N p0 p1 k) (i64.wrap (s1+1)))))) else some true)
def jF (N:Nat) (p0:(List Int)) (p1:(List Int)):Option (Bool):=
  (if !decide ((p0.length:Int)=(p1.length:Int)) then some false else ic N p0 p1 N 0)
def nI (N:Nat) (p0:aR) (p1:aR):Option (Bool):=
  ((jF N p0.L p1.L).bind fun x1=>(if !x1 then some false else some true))
def ie (N:Nat) (p0:(List aR)) (p1:(List aR)):Nat→Int→Option (Bool)
  | 0,_=>none
  | k+1,s1=>
    (if decide (s1 < (p0.length:Int)) then ((idx p0 s1).bind fun x1=>((idx p1 s1).bind fun x2=>((nI N x1 x2).bind fun x3=>(if !x3 then some false else ((ie N p0 p1 k) (i64.wrap (s1+1))))))) else some true)
def oq (N:Nat) (p0:(List aR)) (p1:(List aR)):Option (Bool):=
  (if !decide ((p0.length:Int)=(p1.length:Int)) then some false else ie N p0 p1 N 0)
def ny (N:Nat) (p0:aa) (p1:aa):Option (Bool):=
  ((jF N p0.Ids p1.Ids).bind fun x1=>(if !x1 then some false else ((jF N p0.Hits p1.Hits).bind fun x2=>(if !x2 then some false else some true))))
def it (N:Nat) (p0:(List aa)) (p1:(List aa)):Nat→Int→Option (Bool)
  | 0,_=>none
  | k+1,s1=>
    (if decide (s1 < (p0.length:Int)) then ((idx p0 s1).bind fun x1=>((idx p1 s1).bind fun x2=>((ny N x1 x2).bind fun x3=>(if !x3 then some false else ((it N p0 p1 k) (i64.wrap (s1+1))))))) else some true)
def oX (N:Nat) (p0:(List aa)) (p1:(List aa)):Option (Bool):=
  (if !decide ((p0.length:Int)=(p1.length:Int)) then some false else it N p0 p1 N 0)
def jL (N:Nat) (p0:ab) (p1:ab):Option (Bool):=
  ((oX N p0.Toks p1.Toks).bind fun x1=>(if !x1 then some false else some true))
def fu (N:Nat) (p0:(List ab)) (p1:(List ab)):Nat→Int→Option (Bool)
  | 0,_=>none
  | k+1,s1=>
    (if decide (s1 < (p0.length:Int)) then ((idx p0 s1).bind fun x1=>((idx p1 s1).bind fun x2=>((jL N x1 x2).bind fun x3=>(if !x3 then some false else ((fu N p0 p1 k) (i64.wrap (s1+1))))))) else some true)
def kv (N:Nat) (p0:(List ab)) (p1:(List ab)):Option (Bool):=
  (if !decide ((p0.length:Int)=(p1.length:Int)) then some false else fu N p0 p1 N 0)
def nu (N:Nat) (p0:aG) (p1:aG):Option (Bool):=
  ((kv N p0.Levels p1.Levels).bind fun x1=>(if !x1 then some false else some true))
def hY (N:Nat) (p0:(List aG)) (p1:(List aG)):Nat→Int→Option (Bool)
  | 0,_=>none
  | k+1,s1=>
    (if decide (s1 < (p0.length:Int)) then ((idx p0 s1).bind fun x1=>((idx p1 s1).bind fun x2=>((nu N x1 x2).bind fun x3=>(if !x3 then some false else ((hY N p0 p1 k) (i64.wrap (s1+1))))))) else some true)
def oG (N:Nat) (p0:(List aG)) (p1:(List aG)):Option (Bool):=
  (if !decide ((p0.length:Int)=(p1.length:Int)) then some false else hY N p0 p1 N 0)
def qw (N:Nat) (p0:aK) (p1:aK):Option (Bool):=
  ((oq N p0.Alphas p1.Alphas).bind fun x1=>(if !x1 then some false else ((oG N p0.Rules p1.Rules).bind fun x2=>(if !x2 then some false else some true))))
def gY (N:Nat) (p0:(List aQ)) (p1:(List aQ)):Nat→Int→Option (Bool)
  | 0,_=>none
  | k+1,s1=>
    (if decide (s1 < (p0.length:Int)) then ((idx p0 s1).bind fun x1=>((idx p1 s1).bind fun x2=>((lh N x1 x2).bind fun x3=>(if !x3 then some false else ((gY N p0 p1 k) (i64.wrap (s1+1))))))) else some true)
def oV (N:Nat) (p0:(List aQ)) (p1:(List aQ)):Option (Bool):=
  (if !decide ((p0.length:Int)=(p1.length:Int)) then some false else gY N p0 p1 N 0)
def ou (N:Nat) (p0:aw) (p1:aw):Option (Bool):=
  (if !seq p0.Kind p1.Kind then some false else ((oV N p0.Fields p1.Fields).bind fun x1=>(if !x1 then some false else some true)))
def lG (N:Nat) (p0:ao) (p1:ao):Option (Bool):=
  (if !decide (p0.Id=p1.Id) then some false else ((ou N p0.F p1.F).bind fun x1=>(if !x1 then some false else some true)))
def gl (N:Nat) (p0:(List ao)) (p1:(List ao)):Nat→Int→Option (Bool)
  | 0,_=>none
  | k+1,s1=>
    (if decide (s1 < (p0.length:Int)) then ((idx p0 s1).bind fun x1=>((idx p1 s1).bind fun x2=>((lG N x1 x2).bind fun x3=>(if !x3 then some false else ((gl N p0 p1 k) (i64.wrap (s1+1))))))) else some true)
def mC (N:Nat) (p0:(List ao)) (p1:(List ao)):Option (Bool):=
  (if !decide ((p0.length:Int)=(p1.length:Int)) then some false else gl N p0 p1 N 0)
def mE (N:Nat) (p0:ae) (p1:ae):Option (Bool):=
  ((mC N p0.Items p1.Items).bind fun x1=>(if !x1 then some false else (if !decide (p0.Next=p1.Next) then some false else some true)))
noncomputable def eC (N:Nat) (p0:bi) (p1:aK) (p2:ae):Option (Bool):=
  ((qj N p0 1048576).bind fun x1=>(if decide (x1 < 0) then some true else ((qA N p1 x1).bind fun x2=>(if decide (x2 < 0) then some true else ((lT N p2 x2).bind fun x3=>(if decide (x3 < 0) then some true else ((l4 N p0).bind fun x4=>((kW N p1).bind fun x5=>((iO N p2).bind fun x6=>((jX N x4 x5 x6).bind fun x7=>((l4 N p0).bind fun x8=>((kW N p1).bind fun x9=>((iO N p2).bind fun x10=>((kE N x8 x9 x10).bind fun x11=>(if (x11 != x7) then some false else ((l4 N p0).bind fun x12=>((ql N x8 x12).bind fun x13=>(if !x13 then some false else ((kW N p1).bind fun x14=>((qw N x9 x14).bind fun x15=>(if !x15 then some false else ((iO N p2).bind fun x16=>((mE N x10 x16).bind fun x17=>(if !x17 then some false else some true))))))))))))))))))))))))
end Go.Proofs.YtiljnppocjgkkaaGreat
