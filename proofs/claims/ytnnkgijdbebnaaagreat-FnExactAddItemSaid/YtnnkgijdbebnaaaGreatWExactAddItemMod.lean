/- Printed by a program of ours: Lean functions of plain data for the Go functions. -/
import Derived.Test.YtnnkgijdbebnaaaGreatEK
namespace Go.Proofs.YtnnkgijdbebnaaaGreat
open Eng IntKind
set_option linter.unusedVariables false
set_option linter.unusedSimpArgs false

structure aL where
  K:Int
  N:Int
  S:ByteArray
  deriving DecidableEq
def az (Φ:Hp) (F:List Nat) (cs:List Value) (x:aL):Prop:=cs=[.int .i64 x.K,.int .i64 x.N,.string x.S]∧F=[]
theorem az.lasts:bR az:=fun _ _ _ _ _ _ _ _ h=>h
instance:LS az:=⟨az.lasts⟩
theorem az.knows:dy az:=fun _ _ _ _ h=>h.2 ▸ Kw.nil
theorem az.flat:wY az:=fun _ _ _ _ h=>h.2
theorem az.one:gB az:=fun _ _ _ _ h=>by obtain ⟨rfl,-⟩:=h; exact One.all ⟨rfl,rfl,rfl,trivial⟩
structure be where
  K:Int
  S:ByteArray
  V:aL
  deriving DecidableEq
def bQ (Φ:Hp) (F:List Nat) (cs:List Value) (x:be):Prop:=cs=[.int .i64 x.K,.string x.S,.int .i64 x.V.K,.int .i64 x.V.N,.string x.V.S]∧F=[]
theorem bQ.lasts:bR bQ:=fun _ _ _ _ _ _ _ _ h=>h
instance:LS bQ:=⟨bQ.lasts⟩
theorem bQ.knows:dy bQ:=fun _ _ _ _ h=>h.2 ▸ Kw.nil
theorem bQ.flat:wY bQ:=fun _ _ _ _ h=>h.2
theorem bQ.one:gB bQ:=fun _ _ _ _ h=>by obtain ⟨rfl,-⟩:=h; exact One.all ⟨rfl,rfl,rfl,rfl,rfl,trivial⟩
structure av where
  Kind:ByteArray
  Args:(List be)
  Not:Bool
  deriving DecidableEq
def bJ (Φ:Hp) (F:List Nat) (cs:List Value) (x:av):Prop:=
  ∃ (s0:Value) (F0:List Nat),cs=[.string x.Kind,s0,.bool x.Not]∧F=F0∧RSl bQ 5 Φ F0 s0 x.Args
theorem bJ.lasts:bR bJ:=fun X Φ Φ' F cs x hf hd ⟨s0,F0,hc,hF,h0⟩=>by
  rw [hF] at hd
  exact ⟨s0,F0,hc,hF,h0.frame bQ.lasts hf (fun k hk=>hd k (by simp [hk]))⟩
instance:LS bJ:=⟨bJ.lasts⟩
theorem bJ.knows:dy bJ:=fun Φ F cs x ⟨s0,F0,hc,hF,h0⟩=>hF ▸ h0.kn
theorem bJ.one:gB bJ:=fun _ _ _ _ h=>by obtain ⟨s0,F0,rfl,-,h0⟩:=h; exact One.all ⟨rfl,h0.one,rfl,trivial⟩
def fu (Φ:Hp) (F:List Nat) (cs:List Value) (x:av):Prop:=
  ∃ (s0:Value),cs=[.string x.Kind,s0,.bool x.Not]∧F=(ob s0++[])∧OSl bQ 224 5 Φ [] s0 x.Args
theorem fu.lasts:bR fu:=fun X Φ Φ' F cs x hf hd ⟨s0,hc,hF,h0⟩=>by
  rw [hF] at hd
  exact ⟨s0,hc,hF,h0.frame bQ.lasts hf (fun k hk=>hd k (by simp [hk])) (Dj.nil _)⟩
instance:LS fu:=⟨fu.lasts⟩
theorem fu.knows:dy fu:=fun Φ F cs x ⟨s0,hc,hF,h0⟩=>hF ▸ (h0.knO.app h0.kn)
theorem fu.one:gB fu:=fun _ _ _ _ h=>by obtain ⟨s0,rfl,-,h0⟩:=h; exact One.all ⟨rfl,h0.one,rfl,trivial⟩
theorem fu.gives:eG fu bJ:=fun Φ F cs x ⟨s0,hc,hF,h0⟩=>⟨s0,ob s0++[],hc,hF,h0.rslG (eG.refl _)⟩
structure bn where
  Op:Int
  L:be
  R:be
  deriving DecidableEq
def bd (Φ:Hp) (F:List Nat) (cs:List Value) (x:bn):Prop:=cs=[.int .i64 x.Op,.int .i64 x.L.K,.string x.L.S,.int .i64 x.L.V.K,.int .i64 x.L.V.N,.string x.L.V.S,.int .i64 x.R.K,.string x.R.S,.int .i64 x.R.V.K,.int .i64 x.R.V.N,.string x.R.V.S]∧F=[]
theorem bd.lasts:bR bd:=fun _ _ _ _ _ _ _ _ h=>h
instance:LS bd:=⟨bd.lasts⟩
theorem bd.knows:dy bd:=fun _ _ _ _ h=>h.2 ▸ Kw.nil
theorem bd.flat:wY bd:=fun _ _ _ _ h=>h.2
theorem bd.one:gB bd:=fun _ _ _ _ h=>by obtain ⟨rfl,-⟩:=h; exact One.all ⟨rfl,rfl,rfl,rfl,rfl,rfl,rfl,rfl,rfl,rfl,rfl,trivial⟩
structure bk where
  Op:ByteArray
  L:be
  R:be
  deriving DecidableEq
def bu (Φ:Hp) (F:List Nat) (cs:List Value) (x:bk):Prop:=cs=[.string x.Op,.int .i64 x.L.K,.string x.L.S,.int .i64 x.L.V.K,.int .i64 x.L.V.N,.string x.L.V.S,.int .i64 x.R.K,.string x.R.S,.int .i64 x.R.V.K,.int .i64 x.R.V.N,.string x.R.V.S]∧F=[]
theorem bu.lasts:bR bu:=fun _ _ _ _ _ _ _ _ h=>h
instance:LS bu:=⟨bu.lasts⟩
theorem bu.knows:dy bu:=fun _ _ _ _ h=>h.2 ▸ Kw.nil
theorem bu.flat:wY bu:=fun _ _ _ _ h=>h.2
theorem bu.one:gB bu:=fun _ _ _ _ h=>by obtain ⟨rfl,-⟩:=h; exact One.all ⟨rfl,rfl,rfl,rfl,rfl,rfl,rfl,rfl,rfl,rfl,rfl,trivial⟩
structure bM where
  Kind:Int
  Name:ByteArray
  Args:(List bk)
  N:Int
  Undo:ByteArray
  deriving DecidableEq
def dF (Φ:Hp) (F:List Nat) (cs:List Value) (x:bM):Prop:=
  ∃ (s0:Value) (F0:List Nat),cs=[.int .i64 x.Kind,.string x.Name,s0,.int .i64 x.N,.string x.Undo]∧F=F0∧RSl bu 11 Φ F0 s0 x.Args
theorem dF.lasts:bR dF:=fun X Φ Φ' F cs x hf hd ⟨s0,F0,hc,hF,h0⟩=>by
  rw [hF] at hd
  exact ⟨s0,F0,hc,hF,h0.frame bu.lasts hf (fun k hk=>hd k (by simp [hk]))⟩
instance:LS dF:=⟨dF.lasts⟩
theorem dF.knows:dy dF:=fun Φ F cs x ⟨s0,F0,hc,hF,h0⟩=>hF ▸ h0.kn
theorem dF.one:gB dF:=fun _ _ _ _ h=>by obtain ⟨s0,F0,rfl,-,h0⟩:=h; exact One.all ⟨rfl,rfl,h0.one,rfl,rfl,trivial⟩
def gA (Φ:Hp) (F:List Nat) (cs:List Value) (x:bM):Prop:=
  ∃ (s0:Value),cs=[.int .i64 x.Kind,.string x.Name,s0,.int .i64 x.N,.string x.Undo]∧F=(ob s0++[])∧OSl bu 281 11 Φ [] s0 x.Args
theorem gA.lasts:bR gA:=fun X Φ Φ' F cs x hf hd ⟨s0,hc,hF,h0⟩=>by
  rw [hF] at hd
  exact ⟨s0,hc,hF,h0.frame bu.lasts hf (fun k hk=>hd k (by simp [hk])) (Dj.nil _)⟩
instance:LS gA:=⟨gA.lasts⟩
theorem gA.knows:dy gA:=fun Φ F cs x ⟨s0,hc,hF,h0⟩=>hF ▸ (h0.knO.app h0.kn)
theorem gA.one:gB gA:=fun _ _ _ _ h=>by obtain ⟨s0,rfl,-,h0⟩:=h; exact One.all ⟨rfl,rfl,h0.one,rfl,rfl,trivial⟩
theorem gA.gives:eG gA dF:=fun Φ F cs x ⟨s0,hc,hF,h0⟩=>⟨s0,ob s0++[],hc,hF,h0.rslG (eG.refl _)⟩
structure ag where
  Name:ByteArray
  Sal:Int
  Pats:(List av)
  Conds:(List bn)
  Acts:(List bM)
  deriving DecidableEq
def cf (Φ:Hp) (F:List Nat) (cs:List Value) (x:ag):Prop:=
  ∃ (s0:Value) (F0:List Nat) (s1:Value) (F1:List Nat) (s2:Value) (F2:List Nat),cs=[.string x.Name,.int .i64 x.Sal,s0,s1,s2]∧F=F0++(F1++(F2))∧RSl bJ 3 Φ F0 s0 x.Pats∧RSl bd 11 Φ F1 s1 x.Conds∧RSl dF 5 Φ F2 s2 x.Acts
theorem cf.lasts:bR cf:=fun X Φ Φ' F cs x hf hd ⟨s0,F0,s1,F1,s2,F2,hc,hF,h0,h1,h2⟩=>by
  rw [hF] at hd
  exact ⟨s0,F0,s1,F1,s2,F2,hc,hF,h0.frame bJ.lasts hf (fun k hk=>hd k (by simp [hk])),h1.frame bd.lasts hf (fun k hk=>hd k (by simp [hk])),h2.frame dF.lasts hf (fun k hk=>hd k (by simp [hk]))⟩
instance:LS cf:=⟨cf.lasts⟩
theorem cf.knows:dy cf:=fun Φ F cs x ⟨s0,F0,s1,F1,s2,F2,hc,hF,h0,h1,h2⟩=>hF ▸ (h0.kn.app (h1.kn.app h2.kn))
theorem cf.one:gB cf:=fun _ _ _ _ h=>by obtain ⟨s0,F0,s1,F1,s2,F2,rfl,-,h0,h1,h2⟩:=h; exact One.all ⟨rfl,rfl,h0.one,h1.one,h2.one,trivial⟩
def bN (Φ:Hp) (F:List Nat) (cs:List Value) (x:ag):Prop:=
  ∃ (s0:Value) (D0:List Nat) (s1:Value) (s2:Value) (D2:List Nat),cs=[.string x.Name,.int .i64 x.Sal,s0,s1,s2]∧F=(ob s0++D0)++((ob s1++[])++((ob s2++D2)))∧OSl fu 212 3 Φ D0 s0 x.Pats∧OSl bd 226 11 Φ [] s1 x.Conds∧OSl gA 229 5 Φ D2 s2 x.Acts
theorem bN.lasts:bR bN:=fun X Φ Φ' F cs x hf hd ⟨s0,D0,s1,s2,D2,hc,hF,h0,h1,h2⟩=>by
  rw [hF] at hd
  exact ⟨s0,D0,s1,s2,D2,hc,hF,h0.frame fu.lasts hf (fun k hk=>hd k (by simp [hk])) (fun k hk=>hd k (by simp [hk])),h1.frame bd.lasts hf (fun k hk=>hd k (by simp [hk])) (Dj.nil _),h2.frame gA.lasts hf (fun k hk=>hd k (by simp [hk])) (fun k hk=>hd k (by simp [hk]))⟩
instance:LS bN:=⟨bN.lasts⟩
theorem bN.knows:dy bN:=fun Φ F cs x ⟨s0,D0,s1,s2,D2,hc,hF,h0,h1,h2⟩=>hF ▸ ((h0.knO.app h0.kn).app ((h1.knO.app h1.kn).app (h2.knO.app h2.kn)))
theorem bN.one:gB bN:=fun _ _ _ _ h=>by obtain ⟨s0,D0,s1,s2,D2,rfl,-,h0,h1,h2⟩:=h; exact One.all ⟨rfl,rfl,h0.one,h1.one,h2.one,trivial⟩
theorem bN.gives:eG bN cf:=fun Φ F cs x ⟨s0,D0,s1,s2,D2,hc,hF,h0,h1,h2⟩=>⟨s0,ob s0++D0,s1,ob s1++[],s2,ob s2++D2,hc,hF,h0.rslG fu.gives,h1.rslG (eG.refl _),h2.rslG gA.gives⟩
structure bo where
  Name:ByteArray
  Rules:(List ag)
  deriving DecidableEq
def u9 (Φ:Hp) (F:List Nat) (cs:List Value) (x:bo):Prop:=
  ∃ (s0:Value) (F0:List Nat),cs=[.string x.Name,s0]∧F=F0∧RSl cf 5 Φ F0 s0 x.Rules
theorem u9.lasts:bR u9:=fun X Φ Φ' F cs x hf hd ⟨s0,F0,hc,hF,h0⟩=>by
  rw [hF] at hd
  exact ⟨s0,F0,hc,hF,h0.frame cf.lasts hf (fun k hk=>hd k (by simp [hk]))⟩
instance:LS u9:=⟨u9.lasts⟩
theorem u9.knows:dy u9:=fun Φ F cs x ⟨s0,F0,hc,hF,h0⟩=>hF ▸ h0.kn
theorem u9.one:gB u9:=fun _ _ _ _ h=>by obtain ⟨s0,F0,rfl,-,h0⟩:=h; exact One.all ⟨rfl,h0.one,trivial⟩
def vq (Φ:Hp) (F:List Nat) (cs:List Value) (x:bo):Prop:=
  ∃ (s0:Value) (D0:List Nat),cs=[.string x.Name,s0]∧F=(ob s0++D0)∧OSl bN 148 5 Φ D0 s0 x.Rules
theorem vq.lasts:bR vq:=fun X Φ Φ' F cs x hf hd ⟨s0,D0,hc,hF,h0⟩=>by
  rw [hF] at hd
  exact ⟨s0,D0,hc,hF,h0.frame bN.lasts hf (fun k hk=>hd k (by simp [hk])) (fun k hk=>hd k (by simp [hk]))⟩
instance:LS vq:=⟨vq.lasts⟩
theorem vq.knows:dy vq:=fun Φ F cs x ⟨s0,D0,hc,hF,h0⟩=>hF ▸ (h0.knO.app h0.kn)
theorem vq.one:gB vq:=fun _ _ _ _ h=>by obtain ⟨s0,D0,rfl,-,h0⟩:=h; exact One.all ⟨rfl,h0.one,trivial⟩
theorem vq.gives:eG vq u9:=fun Φ F cs x ⟨s0,D0,hc,hF,h0⟩=>⟨s0,ob s0++D0,hc,hF,h0.rslG bN.gives⟩
structure a9 where
  Kind:ByteArray
  N:Int
  Consts:(List aL)
  At:(List Int)
  deriving DecidableEq
def bf (Φ:Hp) (F:List Nat) (cs:List Value) (x:a9):Prop:=
  ∃ (s0:Value) (F0:List Nat) (s1:Value) (F1:List Nat),cs=[.string x.Kind,.int .i64 x.N,s0,s1]∧F=F0++(F1)∧RSl az 3 Φ F0 s0 x.Consts∧RSl (RI .i64) 1 Φ F1 s1 x.At
theorem bf.lasts:bR bf:=fun X Φ Φ' F cs x hf hd ⟨s0,F0,s1,F1,hc,hF,h0,h1⟩=>by
  rw [hF] at hd
  exact ⟨s0,F0,s1,F1,hc,hF,h0.frame az.lasts hf (fun k hk=>hd k (by simp [hk])),h1.frame RI.lasts hf (fun k hk=>hd k (by simp [hk]))⟩
instance:LS bf:=⟨bf.lasts⟩
theorem bf.knows:dy bf:=fun Φ F cs x ⟨s0,F0,s1,F1,hc,hF,h0,h1⟩=>hF ▸ (h0.kn.app h1.kn)
theorem bf.one:gB bf:=fun _ _ _ _ h=>by obtain ⟨s0,F0,s1,F1,rfl,-,h0,h1⟩:=h; exact One.all ⟨rfl,rfl,h0.one,h1.one,trivial⟩
def aU (Φ:Hp) (F:List Nat) (cs:List Value) (x:a9):Prop:=
  ∃ (s0:Value) (s1:Value),cs=[.string x.Kind,.int .i64 x.N,s0,s1]∧F=(ob s0++[])++((ob s1++[]))∧OSl az 193 3 Φ [] s0 x.Consts∧OSl (RI .i64) 3 1 Φ [] s1 x.At
theorem aU.lasts:bR aU:=fun X Φ Φ' F cs x hf hd ⟨s0,s1,hc,hF,h0,h1⟩=>by
  rw [hF] at hd
  exact ⟨s0,s1,hc,hF,h0.frame az.lasts hf (fun k hk=>hd k (by simp [hk])) (Dj.nil _),h1.frame RI.lasts hf (fun k hk=>hd k (by simp [hk])) (Dj.nil _)⟩
instance:LS aU:=⟨aU.lasts⟩
theorem aU.knows:dy aU:=fun Φ F cs x ⟨s0,s1,hc,hF,h0,h1⟩=>hF ▸ ((h0.knO.app h0.kn).app (h1.knO.app h1.kn))
theorem aU.one:gB aU:=fun _ _ _ _ h=>by obtain ⟨s0,s1,rfl,-,h0,h1⟩:=h; exact One.all ⟨rfl,rfl,h0.one,h1.one,trivial⟩
theorem aU.gives:eG aU bf:=fun Φ F cs x ⟨s0,s1,hc,hF,h0,h1⟩=>⟨s0,ob s0++[],s1,ob s1++[],hc,hF,h0.rslG (eG.refl _),h1.rslG (eG.refl _)⟩
structure ae where
  Pos:(List Int)
  Neg:(List Int)
  deriving DecidableEq
def bz (Φ:Hp) (F:List Nat) (cs:List Value) (x:ae):Prop:=
  ∃ (s0:Value) (F0:List Nat) (s1:Value) (F1:List Nat),cs=[s0,s1]∧F=F0++(F1)∧RSl (RI .i64) 1 Φ F0 s0 x.Pos∧RSl (RI .i64) 1 Φ F1 s1 x.Neg
theorem bz.lasts:bR bz:=fun X Φ Φ' F cs x hf hd ⟨s0,F0,s1,F1,hc,hF,h0,h1⟩=>by
  rw [hF] at hd
  exact ⟨s0,F0,s1,F1,hc,hF,h0.frame RI.lasts hf (fun k hk=>hd k (by simp [hk])),h1.frame RI.lasts hf (fun k hk=>hd k (by simp [hk]))⟩
instance:LS bz:=⟨bz.lasts⟩
theorem bz.knows:dy bz:=fun Φ F cs x ⟨s0,F0,s1,F1,hc,hF,h0,h1⟩=>hF ▸ (h0.kn.app h1.kn)
theorem bz.one:gB bz:=fun _ _ _ _ h=>by obtain ⟨s0,F0,s1,F1,rfl,-,h0,h1⟩:=h; exact One.all ⟨h0.one,h1.one,trivial⟩
def aJ (Φ:Hp) (F:List Nat) (cs:List Value) (x:ae):Prop:=
  ∃ (s0:Value) (s1:Value),cs=[s0,s1]∧F=(ob s0++[])++((ob s1++[]))∧OSl (RI .i64) 3 1 Φ [] s0 x.Pos∧OSl (RI .i64) 3 1 Φ [] s1 x.Neg
theorem aJ.lasts:bR aJ:=fun X Φ Φ' F cs x hf hd ⟨s0,s1,hc,hF,h0,h1⟩=>by
  rw [hF] at hd
  exact ⟨s0,s1,hc,hF,h0.frame RI.lasts hf (fun k hk=>hd k (by simp [hk])) (Dj.nil _),h1.frame RI.lasts hf (fun k hk=>hd k (by simp [hk])) (Dj.nil _)⟩
instance:LS aJ:=⟨aJ.lasts⟩
theorem aJ.knows:dy aJ:=fun Φ F cs x ⟨s0,s1,hc,hF,h0,h1⟩=>hF ▸ ((h0.knO.app h0.kn).app (h1.knO.app h1.kn))
theorem aJ.one:gB aJ:=fun _ _ _ _ h=>by obtain ⟨s0,s1,rfl,-,h0,h1⟩:=h; exact One.all ⟨h0.one,h1.one,trivial⟩
theorem aJ.gives:eG aJ bz:=fun Φ F cs x ⟨s0,s1,hc,hF,h0,h1⟩=>⟨s0,ob s0++[],s1,ob s1++[],hc,hF,h0.rslG (eG.refl _),h1.rslG (eG.refl _)⟩
structure bc where
  Alphas:(List a9)
  Chains:(List ae)
  deriving DecidableEq
def ud (Φ:Hp) (F:List Nat) (cs:List Value) (x:bc):Prop:=
  ∃ (s0:Value) (F0:List Nat) (s1:Value) (F1:List Nat),cs=[s0,s1]∧F=F0++(F1)∧RSl bf 4 Φ F0 s0 x.Alphas∧RSl bz 2 Φ F1 s1 x.Chains
theorem ud.lasts:bR ud:=fun X Φ Φ' F cs x hf hd ⟨s0,F0,s1,F1,hc,hF,h0,h1⟩=>by
  rw [hF] at hd
  exact ⟨s0,F0,s1,F1,hc,hF,h0.frame bf.lasts hf (fun k hk=>hd k (by simp [hk])),h1.frame bz.lasts hf (fun k hk=>hd k (by simp [hk]))⟩
instance:LS ud:=⟨ud.lasts⟩
theorem ud.knows:dy ud:=fun Φ F cs x ⟨s0,F0,s1,F1,hc,hF,h0,h1⟩=>hF ▸ (h0.kn.app h1.kn)
theorem ud.one:gB ud:=fun _ _ _ _ h=>by obtain ⟨s0,F0,s1,F1,rfl,-,h0,h1⟩:=h; exact One.all ⟨h0.one,h1.one,trivial⟩
def vo (Φ:Hp) (F:List Nat) (cs:List Value) (x:bc):Prop:=
  ∃ (s0:Value) (D0:List Nat) (s1:Value) (D1:List Nat),cs=[s0,s1]∧F=(ob s0++D0)++((ob s1++D1))∧OSl aU 142 4 Φ D0 s0 x.Alphas∧OSl aJ 149 2 Φ D1 s1 x.Chains
theorem vo.lasts:bR vo:=fun X Φ Φ' F cs x hf hd ⟨s0,D0,s1,D1,hc,hF,h0,h1⟩=>by
  rw [hF] at hd
  exact ⟨s0,D0,s1,D1,hc,hF,h0.frame aU.lasts hf (fun k hk=>hd k (by simp [hk])) (fun k hk=>hd k (by simp [hk])),h1.frame aJ.lasts hf (fun k hk=>hd k (by simp [hk])) (fun k hk=>hd k (by simp [hk]))⟩
instance:LS vo:=⟨vo.lasts⟩
theorem vo.knows:dy vo:=fun Φ F cs x ⟨s0,D0,s1,D1,hc,hF,h0,h1⟩=>hF ▸ ((h0.knO.app h0.kn).app (h1.knO.app h1.kn))
theorem vo.one:gB vo:=fun _ _ _ _ h=>by obtain ⟨s0,D0,s1,D1,rfl,-,h0,h1⟩:=h; exact One.all ⟨h0.one,h1.one,trivial⟩
theorem vo.gives:eG vo ud:=fun Φ F cs x ⟨s0,D0,s1,D1,hc,hF,h0,h1⟩=>⟨s0,ob s0++D0,s1,ob s1++D1,hc,hF,h0.rslG aU.gives,h1.rslG aJ.gives⟩
structure aS where
  L:(List Int)
  deriving DecidableEq
def dD (Φ:Hp) (F:List Nat) (cs:List Value) (x:aS):Prop:=
  ∃ (s0:Value) (F0:List Nat),cs=[s0]∧F=F0∧RSl (RI .i64) 1 Φ F0 s0 x.L
theorem dD.lasts:bR dD:=fun X Φ Φ' F cs x hf hd ⟨s0,F0,hc,hF,h0⟩=>by
  rw [hF] at hd
  exact ⟨s0,F0,hc,hF,h0.frame RI.lasts hf (fun k hk=>hd k (by simp [hk]))⟩
instance:LS dD:=⟨dD.lasts⟩
theorem dD.knows:dy dD:=fun Φ F cs x ⟨s0,F0,hc,hF,h0⟩=>hF ▸ h0.kn
theorem dD.one:gB dD:=fun _ _ _ _ h=>by obtain ⟨s0,F0,rfl,-,h0⟩:=h; exact One.all ⟨h0.one,trivial⟩
def aO (Φ:Hp) (F:List Nat) (cs:List Value) (x:aS):Prop:=
  ∃ (s0:Value),cs=[s0]∧F=(ob s0++[])∧OSl (RI .i64) 3 1 Φ [] s0 x.L
theorem aO.lasts:bR aO:=fun X Φ Φ' F cs x hf hd ⟨s0,hc,hF,h0⟩=>by
  rw [hF] at hd
  exact ⟨s0,hc,hF,h0.frame RI.lasts hf (fun k hk=>hd k (by simp [hk])) (Dj.nil _)⟩
instance:LS aO:=⟨aO.lasts⟩
theorem aO.knows:dy aO:=fun Φ F cs x ⟨s0,hc,hF,h0⟩=>hF ▸ (h0.knO.app h0.kn)
theorem aO.one:gB aO:=fun _ _ _ _ h=>by obtain ⟨s0,rfl,-,h0⟩:=h; exact One.all ⟨h0.one,trivial⟩
theorem aO.gives:eG aO dD:=fun Φ F cs x ⟨s0,hc,hF,h0⟩=>⟨s0,ob s0++[],hc,hF,h0.rslG (eG.refl _)⟩
structure ab where
  Ids:(List Int)
  Hits:(List Int)
  deriving DecidableEq
def cD (Φ:Hp) (F:List Nat) (cs:List Value) (x:ab):Prop:=
  ∃ (s0:Value) (F0:List Nat) (s1:Value) (F1:List Nat),cs=[s0,s1]∧F=F0++(F1)∧RSl (RI .i64) 1 Φ F0 s0 x.Ids∧RSl (RI .i64) 1 Φ F1 s1 x.Hits
theorem cD.lasts:bR cD:=fun X Φ Φ' F cs x hf hd ⟨s0,F0,s1,F1,hc,hF,h0,h1⟩=>by
  rw [hF] at hd
  exact ⟨s0,F0,s1,F1,hc,hF,h0.frame RI.lasts hf (fun k hk=>hd k (by simp [hk])),h1.frame RI.lasts hf (fun k hk=>hd k (by simp [hk]))⟩
instance:LS cD:=⟨cD.lasts⟩
theorem cD.knows:dy cD:=fun Φ F cs x ⟨s0,F0,s1,F1,hc,hF,h0,h1⟩=>hF ▸ (h0.kn.app h1.kn)
theorem cD.one:gB cD:=fun _ _ _ _ h=>by obtain ⟨s0,F0,s1,F1,rfl,-,h0,h1⟩:=h; exact One.all ⟨h0.one,h1.one,trivial⟩
def ax (Φ:Hp) (F:List Nat) (cs:List Value) (x:ab):Prop:=
  ∃ (s0:Value) (s1:Value),cs=[s0,s1]∧F=(ob s0++[])++((ob s1++[]))∧OSl (RI .i64) 3 1 Φ [] s0 x.Ids∧OSl (RI .i64) 3 1 Φ [] s1 x.Hits
theorem ax.lasts:bR ax:=fun X Φ Φ' F cs x hf hd ⟨s0,s1,hc,hF,h0,h1⟩=>by
  rw [hF] at hd
  exact ⟨s0,s1,hc,hF,h0.frame RI.lasts hf (fun k hk=>hd k (by simp [hk])) (Dj.nil _),h1.frame RI.lasts hf (fun k hk=>hd k (by simp [hk])) (Dj.nil _)⟩
instance:LS ax:=⟨ax.lasts⟩
theorem ax.knows:dy ax:=fun Φ F cs x ⟨s0,s1,hc,hF,h0,h1⟩=>hF ▸ ((h0.knO.app h0.kn).app (h1.knO.app h1.kn))
theorem ax.one:gB ax:=fun _ _ _ _ h=>by obtain ⟨s0,s1,rfl,-,h0,h1⟩:=h; exact One.all ⟨h0.one,h1.one,trivial⟩
theorem ax.gives:eG ax cD:=fun Φ F cs x ⟨s0,s1,hc,hF,h0,h1⟩=>⟨s0,ob s0++[],s1,ob s1++[],hc,hF,h0.rslG (eG.refl _),h1.rslG (eG.refl _)⟩
structure aa where
  Toks:(List ab)
  deriving DecidableEq
def ed (Φ:Hp) (F:List Nat) (cs:List Value) (x:aa):Prop:=
  ∃ (s0:Value) (F0:List Nat),cs=[s0]∧F=F0∧RSl cD 2 Φ F0 s0 x.Toks
theorem ed.lasts:bR ed:=fun X Φ Φ' F cs x hf hd ⟨s0,F0,hc,hF,h0⟩=>by
  rw [hF] at hd
  exact ⟨s0,F0,hc,hF,h0.frame cD.lasts hf (fun k hk=>hd k (by simp [hk]))⟩
instance:LS ed:=⟨ed.lasts⟩
theorem ed.knows:dy ed:=fun Φ F cs x ⟨s0,F0,hc,hF,h0⟩=>hF ▸ h0.kn
theorem ed.one:gB ed:=fun _ _ _ _ h=>by obtain ⟨s0,F0,rfl,-,h0⟩:=h; exact One.all ⟨h0.one,trivial⟩
def aK (Φ:Hp) (F:List Nat) (cs:List Value) (x:aa):Prop:=
  ∃ (s0:Value) (D0:List Nat),cs=[s0]∧F=(ob s0++D0)∧OSl ax 160 2 Φ D0 s0 x.Toks
theorem aK.lasts:bR aK:=fun X Φ Φ' F cs x hf hd ⟨s0,D0,hc,hF,h0⟩=>by
  rw [hF] at hd
  exact ⟨s0,D0,hc,hF,h0.frame ax.lasts hf (fun k hk=>hd k (by simp [hk])) (fun k hk=>hd k (by simp [hk]))⟩
instance:LS aK:=⟨aK.lasts⟩
theorem aK.knows:dy aK:=fun Φ F cs x ⟨s0,D0,hc,hF,h0⟩=>hF ▸ (h0.knO.app h0.kn)
theorem aK.one:gB aK:=fun _ _ _ _ h=>by obtain ⟨s0,D0,rfl,-,h0⟩:=h; exact One.all ⟨h0.one,trivial⟩
theorem aK.gives:eG aK ed:=fun Φ F cs x ⟨s0,D0,hc,hF,h0⟩=>⟨s0,ob s0++D0,hc,hF,h0.rslG ax.gives⟩
structure aF where
  Levels:(List aa)
  deriving DecidableEq
def fM (Φ:Hp) (F:List Nat) (cs:List Value) (x:aF):Prop:=
  ∃ (s0:Value) (F0:List Nat),cs=[s0]∧F=F0∧RSl ed 1 Φ F0 s0 x.Levels
theorem fM.lasts:bR fM:=fun X Φ Φ' F cs x hf hd ⟨s0,F0,hc,hF,h0⟩=>by
  rw [hF] at hd
  exact ⟨s0,F0,hc,hF,h0.frame ed.lasts hf (fun k hk=>hd k (by simp [hk]))⟩
instance:LS fM:=⟨fM.lasts⟩
theorem fM.knows:dy fM:=fun Φ F cs x ⟨s0,F0,hc,hF,h0⟩=>hF ▸ h0.kn
theorem fM.one:gB fM:=fun _ _ _ _ h=>by obtain ⟨s0,F0,rfl,-,h0⟩:=h; exact One.all ⟨h0.one,trivial⟩
def aP (Φ:Hp) (F:List Nat) (cs:List Value) (x:aF):Prop:=
  ∃ (s0:Value) (D0:List Nat),cs=[s0]∧F=(ob s0++D0)∧OSl aK 130 1 Φ D0 s0 x.Levels
theorem aP.lasts:bR aP:=fun X Φ Φ' F cs x hf hd ⟨s0,D0,hc,hF,h0⟩=>by
  rw [hF] at hd
  exact ⟨s0,D0,hc,hF,h0.frame aK.lasts hf (fun k hk=>hd k (by simp [hk])) (fun k hk=>hd k (by simp [hk]))⟩
instance:LS aP:=⟨aP.lasts⟩
theorem aP.knows:dy aP:=fun Φ F cs x ⟨s0,D0,hc,hF,h0⟩=>hF ▸ (h0.knO.app h0.kn)
theorem aP.one:gB aP:=fun _ _ _ _ h=>by obtain ⟨s0,D0,rfl,-,h0⟩:=h; exact One.all ⟨h0.one,trivial⟩
theorem aP.gives:eG aP fM:=fun Φ F cs x ⟨s0,D0,hc,hF,h0⟩=>⟨s0,ob s0++D0,hc,hF,h0.rslG aK.gives⟩
structure aA where
  Alphas:(List aS)
  Rules:(List aF)
  deriving DecidableEq
def ui (Φ:Hp) (F:List Nat) (cs:List Value) (x:aA):Prop:=
  ∃ (s0:Value) (F0:List Nat) (s1:Value) (F1:List Nat),cs=[s0,s1]∧F=F0++(F1)∧RSl dD 1 Φ F0 s0 x.Alphas∧RSl fM 1 Φ F1 s1 x.Rules
theorem ui.lasts:bR ui:=fun X Φ Φ' F cs x hf hd ⟨s0,F0,s1,F1,hc,hF,h0,h1⟩=>by
  rw [hF] at hd
  exact ⟨s0,F0,s1,F1,hc,hF,h0.frame dD.lasts hf (fun k hk=>hd k (by simp [hk])),h1.frame fM.lasts hf (fun k hk=>hd k (by simp [hk]))⟩
instance:LS ui:=⟨ui.lasts⟩
theorem ui.knows:dy ui:=fun Φ F cs x ⟨s0,F0,s1,F1,hc,hF,h0,h1⟩=>hF ▸ (h0.kn.app h1.kn)
theorem ui.one:gB ui:=fun _ _ _ _ h=>by obtain ⟨s0,F0,s1,F1,rfl,-,h0,h1⟩:=h; exact One.all ⟨h0.one,h1.one,trivial⟩
def vv (Φ:Hp) (F:List Nat) (cs:List Value) (x:aA):Prop:=
  ∃ (s0:Value) (D0:List Nat) (s1:Value) (D1:List Nat),cs=[s0,s1]∧F=(ob s0++D0)++((ob s1++D1))∧OSl aO 123 1 Φ D0 s0 x.Alphas∧OSl aP 126 1 Φ D1 s1 x.Rules
theorem vv.lasts:bR vv:=fun X Φ Φ' F cs x hf hd ⟨s0,D0,s1,D1,hc,hF,h0,h1⟩=>by
  rw [hF] at hd
  exact ⟨s0,D0,s1,D1,hc,hF,h0.frame aO.lasts hf (fun k hk=>hd k (by simp [hk])) (fun k hk=>hd k (by simp [hk])),h1.frame aP.lasts hf (fun k hk=>hd k (by simp [hk])) (fun k hk=>hd k (by simp [hk]))⟩
instance:LS vv:=⟨vv.lasts⟩
theorem vv.knows:dy vv:=fun Φ F cs x ⟨s0,D0,s1,D1,hc,hF,h0,h1⟩=>hF ▸ ((h0.knO.app h0.kn).app (h1.knO.app h1.kn))
theorem vv.one:gB vv:=fun _ _ _ _ h=>by obtain ⟨s0,D0,s1,D1,rfl,-,h0,h1⟩:=h; exact One.all ⟨h0.one,h1.one,trivial⟩
theorem vv.gives:eG vv ui:=fun Φ F cs x ⟨s0,D0,s1,D1,hc,hF,h0,h1⟩=>⟨s0,ob s0++D0,s1,ob s1++D1,hc,hF,h0.rslG aO.gives,h1.rslG aP.gives⟩
structure aw where
  Kind:ByteArray
  Fields:(List aL)
  deriving DecidableEq
def pH (Φ:Hp) (F:List Nat) (cs:List Value) (x:aw):Prop:=
  ∃ (s0:Value) (F0:List Nat),cs=[.string x.Kind,s0]∧F=F0∧RSl az 3 Φ F0 s0 x.Fields
theorem pH.lasts:bR pH:=fun X Φ Φ' F cs x hf hd ⟨s0,F0,hc,hF,h0⟩=>by
  rw [hF] at hd
  exact ⟨s0,F0,hc,hF,h0.frame az.lasts hf (fun k hk=>hd k (by simp [hk]))⟩
instance:LS pH:=⟨pH.lasts⟩
theorem pH.knows:dy pH:=fun Φ F cs x ⟨s0,F0,hc,hF,h0⟩=>hF ▸ h0.kn
theorem pH.one:gB pH:=fun _ _ _ _ h=>by obtain ⟨s0,F0,rfl,-,h0⟩:=h; exact One.all ⟨rfl,h0.one,trivial⟩
def sH (Φ:Hp) (F:List Nat) (cs:List Value) (x:aw):Prop:=
  ∃ (s0:Value),cs=[.string x.Kind,s0]∧F=(ob s0++[])∧OSl az 193 3 Φ [] s0 x.Fields
theorem sH.lasts:bR sH:=fun X Φ Φ' F cs x hf hd ⟨s0,hc,hF,h0⟩=>by
  rw [hF] at hd
  exact ⟨s0,hc,hF,h0.frame az.lasts hf (fun k hk=>hd k (by simp [hk])) (Dj.nil _)⟩
instance:LS sH:=⟨sH.lasts⟩
theorem sH.knows:dy sH:=fun Φ F cs x ⟨s0,hc,hF,h0⟩=>hF ▸ (h0.knO.app h0.kn)
theorem sH.one:gB sH:=fun _ _ _ _ h=>by obtain ⟨s0,rfl,-,h0⟩:=h; exact One.all ⟨rfl,h0.one,trivial⟩
theorem sH.gives:eG sH pH:=fun Φ F cs x ⟨s0,hc,hF,h0⟩=>⟨s0,ob s0++[],hc,hF,h0.rslG (eG.refl _)⟩
structure aC where
  Id:Int
  F:aw
  deriving DecidableEq
def bE (Φ:Hp) (F:List Nat) (cs:List Value) (x:aC):Prop:=
  ∃ (s0:Value) (F0:List Nat),cs=[.int .i64 x.Id,.string x.F.Kind,s0]∧F=F0∧RSl az 3 Φ F0 s0 x.F.Fields
theorem bE.lasts:bR bE:=fun X Φ Φ' F cs x hf hd ⟨s0,F0,hc,hF,h0⟩=>by
  rw [hF] at hd
  exact ⟨s0,F0,hc,hF,h0.frame az.lasts hf (fun k hk=>hd k (by simp [hk]))⟩
instance:LS bE:=⟨bE.lasts⟩
theorem bE.knows:dy bE:=fun Φ F cs x ⟨s0,F0,hc,hF,h0⟩=>hF ▸ h0.kn
theorem bE.one:gB bE:=fun _ _ _ _ h=>by obtain ⟨s0,F0,rfl,-,h0⟩:=h; exact One.all ⟨rfl,rfl,h0.one,trivial⟩
def bG (Φ:Hp) (F:List Nat) (cs:List Value) (x:aC):Prop:=
  ∃ (s0:Value),cs=[.int .i64 x.Id,.string x.F.Kind,s0]∧F=(ob s0++[])∧OSl az 193 3 Φ [] s0 x.F.Fields
theorem bG.lasts:bR bG:=fun X Φ Φ' F cs x hf hd ⟨s0,hc,hF,h0⟩=>by
  rw [hF] at hd
  exact ⟨s0,hc,hF,h0.frame az.lasts hf (fun k hk=>hd k (by simp [hk])) (Dj.nil _)⟩
instance:LS bG:=⟨bG.lasts⟩
theorem bG.knows:dy bG:=fun Φ F cs x ⟨s0,hc,hF,h0⟩=>hF ▸ (h0.knO.app h0.kn)
theorem bG.one:gB bG:=fun _ _ _ _ h=>by obtain ⟨s0,rfl,-,h0⟩:=h; exact One.all ⟨rfl,rfl,h0.one,trivial⟩
theorem bG.gives:eG bG bE:=fun Φ F cs x ⟨s0,hc,hF,h0⟩=>⟨s0,ob s0++[],hc,hF,h0.rslG (eG.refl _)⟩
structure ah where
  Items:(List aC)
  Next:Int
  deriving DecidableEq
def lr (Φ:Hp) (F:List Nat) (cs:List Value) (x:ah):Prop:=
  ∃ (s0:Value) (F0:List Nat),cs=[s0,.int .i64 x.Next]∧F=F0∧RSl bE 3 Φ F0 s0 x.Items
theorem lr.lasts:bR lr:=fun X Φ Φ' F cs x hf hd ⟨s0,F0,hc,hF,h0⟩=>by
  rw [hF] at hd
  exact ⟨s0,F0,hc,hF,h0.frame bE.lasts hf (fun k hk=>hd k (by simp [hk]))⟩
instance:LS lr:=⟨lr.lasts⟩
theorem lr.knows:dy lr:=fun Φ F cs x ⟨s0,F0,hc,hF,h0⟩=>hF ▸ h0.kn
theorem lr.one:gB lr:=fun _ _ _ _ h=>by obtain ⟨s0,F0,rfl,-,h0⟩:=h; exact One.all ⟨h0.one,rfl,trivial⟩
def oq (Φ:Hp) (F:List Nat) (cs:List Value) (x:ah):Prop:=
  ∃ (s0:Value) (D0:List Nat),cs=[s0,.int .i64 x.Next]∧F=(ob s0++D0)∧OSl bG 156 3 Φ D0 s0 x.Items
theorem oq.lasts:bR oq:=fun X Φ Φ' F cs x hf hd ⟨s0,D0,hc,hF,h0⟩=>by
  rw [hF] at hd
  exact ⟨s0,D0,hc,hF,h0.frame bG.lasts hf (fun k hk=>hd k (by simp [hk])) (fun k hk=>hd k (by simp [hk]))⟩
instance:LS oq:=⟨oq.lasts⟩
theorem oq.knows:dy oq:=fun Φ F cs x ⟨s0,D0,hc,hF,h0⟩=>hF ▸ (h0.knO.app h0.kn)
theorem oq.one:gB oq:=fun _ _ _ _ h=>by obtain ⟨s0,D0,rfl,-,h0⟩:=h; exact One.all ⟨h0.one,rfl,trivial⟩
theorem oq.gives:eG oq lr:=fun Φ F cs x ⟨s0,D0,hc,hF,h0⟩=>⟨s0,ob s0++D0,hc,hF,h0.rslG bG.gives⟩
def bp (x y:aL):Bool:=((x.K == y.K) && ((x.N == y.N) && (seq x.S y.S && true)))
theorem HB (a b:ByteArray):seq a b=decide (a=b):=by
  unfold seq
  by_cases h:a=b
  · subst h; simp
  · have : ¬ a.toList=b.toList:=fun e=>h (by rw [ByteArray.toList_eq,ByteArray.toList_eq] at e; exact ByteArray.ext (Array.toList_inj.1 e))
    simp [h,this]
theorem lS (x y:aL):bp x y=decide (x=y):=by
  obtain ⟨a0,a1,a2⟩:=x; obtain ⟨b0,b1,b2⟩:=y
  rw [Bool.eq_iff_iff]
  simp only [bp,HB,Bool.and_true,Bool.and_eq_true,beq_iff_eq,decide_eq_true_eq,aL.mk.injEq,and_assoc]
def sc (x y:be):Bool:=((x.K == y.K) && (seq x.S y.S && ((x.V.K == y.V.K) && ((x.V.N == y.V.N) && (seq x.V.S y.V.S && true)))))

theorem Lj (x y:be):sc x y=decide (x=y):=by
  obtain ⟨a0,a1,⟨a20,a21,a22⟩⟩:=x; obtain ⟨b0,b1,⟨b20,b21,b22⟩⟩:=y
  rw [Bool.eq_iff_iff]
  simp only [sc,HB,Bool.and_true,Bool.and_eq_true,beq_iff_eq,decide_eq_true_eq,be.mk.injEq,aL.mk.injEq,and_assoc]
structure aH where
  Name:ByteArray
  V:aL
  deriving DecidableEq
def bm (Φ:Hp) (F:List Nat) (cs:List Value) (x:aH):Prop:=cs=[.string x.Name,.int .i64 x.V.K,.int .i64 x.V.N,.string x.V.S]∧F=[]
theorem bm.lasts:bR bm:=fun _ _ _ _ _ _ _ _ h=>h
instance:LS bm:=⟨bm.lasts⟩
theorem bm.knows:dy bm:=fun _ _ _ _ h=>h.2 ▸ Kw.nil
theorem bm.flat:wY bm:=fun _ _ _ _ h=>h.2
theorem bm.one:gB bm:=fun _ _ _ _ h=>by obtain ⟨rfl,-⟩:=h; exact One.all ⟨rfl,rfl,rfl,rfl,trivial⟩
structure cA where
  pos:(List av)
  neg:(List av)
  chain:ae
  alphas:(List aS)
  s:ah
  id:Int
  deriving DecidableEq
def mL (Φ:Hp) (F:List Nat) (cs:List Value) (x:cA):Prop:=
  ∃ (s0:Value) (F0:List Nat) (s1:Value) (F1:List Nat) (s2:Value) (F2:List Nat) (s3:Value) (F3:List Nat) (s4:Value) (F4:List Nat) (s5:Value) (F5:List Nat),cs=[s0,s1,s2,s3,s4,s5,.int .i64 x.s.Next,.int .i64 x.id]∧F=F0++(F1++(F2++(F3++(F4++(F5)))))∧RSl bJ 3 Φ F0 s0 x.pos∧RSl bJ 3 Φ F1 s1 x.neg∧RSl (RI .i64) 1 Φ F2 s2 x.chain.Pos∧RSl (RI .i64) 1 Φ F3 s3 x.chain.Neg∧RSl dD 1 Φ F4 s4 x.alphas∧RSl bE 3 Φ F5 s5 x.s.Items
theorem mL.lasts:bR mL:=fun X Φ Φ' F cs x hf hd ⟨s0,F0,s1,F1,s2,F2,s3,F3,s4,F4,s5,F5,hc,hF,h0,h1,h2,h3,h4,h5⟩=>by
  rw [hF] at hd
  exact ⟨s0,F0,s1,F1,s2,F2,s3,F3,s4,F4,s5,F5,hc,hF,h0.frame bJ.lasts hf (fun k hk=>hd k (by simp [hk])),h1.frame bJ.lasts hf (fun k hk=>hd k (by simp [hk])),h2.frame RI.lasts hf (fun k hk=>hd k (by simp [hk])),h3.frame RI.lasts hf (fun k hk=>hd k (by simp [hk])),h4.frame dD.lasts hf (fun k hk=>hd k (by simp [hk])),h5.frame bE.lasts hf (fun k hk=>hd k (by simp [hk]))⟩
instance:LS mL:=⟨mL.lasts⟩
theorem mL.knows:dy mL:=fun Φ F cs x ⟨s0,F0,s1,F1,s2,F2,s3,F3,s4,F4,s5,F5,hc,hF,h0,h1,h2,h3,h4,h5⟩=>hF ▸ (h0.kn.app (h1.kn.app (h2.kn.app (h3.kn.app (h4.kn.app h5.kn)))))
theorem mL.one:gB mL:=fun _ _ _ _ h=>by obtain ⟨s0,F0,s1,F1,s2,F2,s3,F3,s4,F4,s5,F5,rfl,-,h0,h1,h2,h3,h4,h5⟩:=h; exact One.all ⟨h0.one,h1.one,h2.one,h3.one,h4.one,h5.one,rfl,rfl,trivial⟩
def kU (Φ:Hp) (F:List Nat) (cs:List Value) (x:cA):Prop:=
  ∃ (s0:Value) (D0:List Nat) (s1:Value) (D1:List Nat) (s2:Value) (s3:Value) (s4:Value) (D4:List Nat) (s5:Value) (D5:List Nat),cs=[s0,s1,s2,s3,s4,s5,.int .i64 x.s.Next,.int .i64 x.id]∧F=(ob s0++D0)++((ob s1++D1)++((ob s2++[])++((ob s3++[])++((ob s4++D4)++((ob s5++D5))))))∧OSl fu 212 3 Φ D0 s0 x.pos∧OSl fu 212 3 Φ D1 s1 x.neg∧OSl (RI .i64) 3 1 Φ [] s2 x.chain.Pos∧OSl (RI .i64) 3 1 Φ [] s3 x.chain.Neg∧OSl aO 123 1 Φ D4 s4 x.alphas∧OSl bG 156 3 Φ D5 s5 x.s.Items
theorem kU.lasts:bR kU:=fun X Φ Φ' F cs x hf hd ⟨s0,D0,s1,D1,s2,s3,s4,D4,s5,D5,hc,hF,h0,h1,h2,h3,h4,h5⟩=>by
  rw [hF] at hd
  exact ⟨s0,D0,s1,D1,s2,s3,s4,D4,s5,D5,hc,hF,h0.frame fu.lasts hf (fun k hk=>hd k (by simp [hk])) (fun k hk=>hd k (by simp [hk])),h1.frame fu.lasts hf (fun k hk=>hd k (by simp [hk])) (fun k hk=>hd k (by simp [hk])),h2.frame RI.lasts hf (fun k hk=>hd k (by simp [hk])) (Dj.nil _),h3.frame RI.lasts hf (fun k hk=>hd k (by simp [hk])) (Dj.nil _),h4.frame aO.lasts hf (fun k hk=>hd k (by simp [hk])) (fun k hk=>hd k (by simp [hk])),h5.frame bG.lasts hf (fun k hk=>hd k (by simp [hk])) (fun k hk=>hd k (by simp [hk]))⟩
instance:LS kU:=⟨kU.lasts⟩
theorem kU.knows:dy kU:=fun Φ F cs x ⟨s0,D0,s1,D1,s2,s3,s4,D4,s5,D5,hc,hF,h0,h1,h2,h3,h4,h5⟩=>hF ▸ ((h0.knO.app h0.kn).app ((h1.knO.app h1.kn).app ((h2.knO.app h2.kn).app ((h3.knO.app h3.kn).app ((h4.knO.app h4.kn).app (h5.knO.app h5.kn))))))
theorem kU.one:gB kU:=fun _ _ _ _ h=>by obtain ⟨s0,D0,s1,D1,s2,s3,s4,D4,s5,D5,rfl,-,h0,h1,h2,h3,h4,h5⟩:=h; exact One.all ⟨h0.one,h1.one,h2.one,h3.one,h4.one,h5.one,rfl,rfl,trivial⟩
theorem kU.gives:eG kU mL:=fun Φ F cs x ⟨s0,D0,s1,D1,s2,s3,s4,D4,s5,D5,hc,hF,h0,h1,h2,h3,h4,h5⟩=>⟨s0,ob s0++D0,s1,ob s1++D1,s2,ob s2++[],s3,ob s3++[],s4,ob s4++D4,s5,ob s5++D5,hc,hF,h0.rslG fu.gives,h1.rslG fu.gives,h2.rslG (eG.refl _),h3.rslG (eG.refl _),h4.rslG aO.gives,h5.rslG bG.gives⟩
def nU (N:Nat) (p0:aL) (p1:Int):Option (Int):=
  (if decide (i64.wrap (p1 - (p0.S.size:Int)) < 0) then some (-1) else some (i64.wrap (p1 - (p0.S.size:Int))))
def ji (N:Nat) (p0:be) (p1:Int):Option (Int):=
  (if decide (i64.wrap (p1 - (p0.S.size:Int)) < 0) then some (-1) else ((nU N p0.V (i64.wrap (p1 - (p0.S.size:Int)))).bind fun x1=>(if decide (x1 < 0) then some (-1) else some x1)))
def jl (N:Nat) (p0:(List be)):Nat→Int→Int→Option (Int)
  | 0,_,_=>none
  | k+1,s1,s2=>
    (if decide (s2 < (p0.length:Int)) then ((idx p0 s2).bind fun x1=>((ji N x1 s1).bind fun x2=>(if decide (x2 < 0) then some (-1) else ((jl N p0 k) x2 (i64.wrap (s2+1)))))) else some s1)
def rS (N:Nat) (p0:(List be)) (p1:Int):Option (Int):=
  (if decide (i64.wrap (p1 - (p0.length:Int)) < 0) then some (-1) else jl N p0 N (i64.wrap (p1 - (p0.length:Int))) 0)
def qx (N:Nat) (p0:av) (p1:Int):Option (Int):=
  (if decide (i64.wrap (p1 - (p0.Kind.size:Int)) < 0) then some (-1) else ((rS N p0.Args (i64.wrap (p1 - (p0.Kind.size:Int)))).bind fun x1=>(if decide (x1 < 0) then some (-1) else some x1)))
def jH (N:Nat) (p0:(List av)):Nat→Int→Int→Option (Int)
  | 0,_,_=>none
  | k+1,s1,s2=>
    (if decide (s2 < (p0.length:Int)) then ((idx p0 s2).bind fun x1=>((qx N x1 s1).bind fun x2=>(if decide (x2 < 0) then some (-1) else ((jH N p0 k) x2 (i64.wrap (s2+1)))))) else some s1)
def rB (N:Nat) (p0:(List av)) (p1:Int):Option (Int):=
  (if decide (i64.wrap (p1 - (p0.length:Int)) < 0) then some (-1) else jH N p0 N (i64.wrap (p1 - (p0.length:Int))) 0)
def nX (N:Nat) (p0:bn) (p1:Int):Option (Int):=
  ((ji N p0.L p1).bind fun x1=>(if decide (x1 < 0) then some (-1) else ((ji N p0.R x1).bind fun x2=>(if decide (x2 < 0) then some (-1) else some x2))))
def iC (N:Nat) (p0:(List bn)):Nat→Int→Int→Option (Int)
  | 0,_,_=>none
  | k+1,s1,s2=>
    (if decide (s2 < (p0.length:Int)) then ((idx p0 s2).bind fun x1=>((nX N x1 s1).bind fun x2=>(if decide (x2 < 0) then some (-1) else ((iC N p0 k) x2 (i64.wrap (s2+1)))))) else some s1)
def oI (N:Nat) (p0:(List bn)) (p1:Int):Option (Int):=
  (if decide (i64.wrap (p1 - (p0.length:Int)) < 0) then some (-1) else iC N p0 N (i64.wrap (p1 - (p0.length:Int))) 0)
def o0 (N:Nat) (p0:bk) (p1:Int):Option (Int):=
  (if decide (i64.wrap (p1 - (p0.Op.size:Int)) < 0) then some (-1) else ((ji N p0.L (i64.wrap (p1 - (p0.Op.size:Int)))).bind fun x1=>(if decide (x1 < 0) then some (-1) else ((ji N p0.R x1).bind fun x2=>(if decide (x2 < 0) then some (-1) else some x2)))))
def iv (N:Nat) (p0:(List bk)):Nat→Int→Int→Option (Int)
  | 0,_,_=>none
  | k+1,s1,s2=>
    (if decide (s2 < (p0.length:Int)) then ((idx p0 s2).bind fun x1=>((o0 N x1 s1).bind fun x2=>(if decide (x2 < 0) then some (-1) else ((iv N p0 k) x2 (i64.wrap (s2+1)))))) else some s1)
def oY (N:Nat) (p0:(List bk)) (p1:Int):Option (Int):=
  (if decide (i64.wrap (p1 - (p0.length:Int)) < 0) then some (-1) else iv N p0 N (i64.wrap (p1 - (p0.length:Int))) 0)
def qh (N:Nat) (p0:bM) (p1:Int):Option (Int):=
  (if decide (i64.wrap (p1 - (p0.Name.size:Int)) < 0) then some (-1) else ((oY N p0.Args (i64.wrap (p1 - (p0.Name.size:Int)))).bind fun x1=>(if decide (x1 < 0) then some (-1) else (if decide (i64.wrap (x1 - (p0.Undo.size:Int)) < 0) then some (-1) else some (i64.wrap (x1 - (p0.Undo.size:Int)))))))
def jC (N:Nat) (p0:(List bM)):Nat→Int→Int→Option (Int)
  | 0,_,_=>none
  | k+1,s1,s2=>
    (if decide (s2 < (p0.length:Int)) then ((idx p0 s2).bind fun x1=>((qh N x1 s1).bind fun x2=>(if decide (x2 < 0) then some (-1) else ((jC N p0 k) x2 (i64.wrap (s2+1)))))) else some s1)
def qC (N:Nat) (p0:(List bM)) (p1:Int):Option (Int):=
  (if decide (i64.wrap (p1 - (p0.length:Int)) < 0) then some (-1) else jC N p0 N (i64.wrap (p1 - (p0.length:Int))) 0)
def nV (N:Nat) (p0:ag) (p1:Int):Option (Int):=
  (if decide (i64.wrap (p1 - (p0.Name.size:Int)) < 0) then some (-1) else ((rB N p0.Pats (i64.wrap (p1 - (p0.Name.size:Int)))).bind fun x1=>(if decide (x1 < 0) then some (-1) else ((oI N p0.Conds x1).bind fun x2=>(if decide (x2 < 0) then some (-1) else ((qC N p0.Acts x2).bind fun x3=>(if decide (x3 < 0) then some (-1) else some x3)))))))
def ip (N:Nat) (p0:(List ag)):Nat→Int→Int→Option (Int)
  | 0,_,_=>none
  | k+1,s1,s2=>
    (if decide (s2 < (p0.length:Int)) then ((idx p0 s2).bind fun x1=>((nV N x1 s1).bind fun x2=>(if decide (x2 < 0) then some (-1) else ((ip N p0 k) x2 (i64.wrap (s2+1)))))) else some s1)
def oU (N:Nat) (p0:(List ag)) (p1:Int):Option (Int):=
  (if decide (i64.wrap (p1 - (p0.length:Int)) < 0) then some (-1) else ip N p0 N (i64.wrap (p1 - (p0.length:Int))) 0)
def tC (N:Nat) (p0:bo) (p1:Int):Option (Int):=
  (if decide (i64.wrap (p1 - (p0.Name.size:Int)) < 0) then some (-1) else ((oU N p0.Rules (i64.wrap (p1 - (p0.Name.size:Int)))).bind fun x1=>(if decide (x1 < 0) then some (-1) else some x1)))
def jc (N:Nat) (p0:(List aL)):Nat→Int→Int→Option (Int)
  | 0,_,_=>none
  | k+1,s1,s2=>
    (if decide (s2 < (p0.length:Int)) then ((idx p0 s2).bind fun x1=>((nU N x1 s1).bind fun x2=>(if decide (x2 < 0) then some (-1) else ((jc N p0 k) x2 (i64.wrap (s2+1)))))) else some s1)
def nP (N:Nat) (p0:(List aL)) (p1:Int):Option (Int):=
  (if decide (i64.wrap (p1 - (p0.length:Int)) < 0) then some (-1) else jc N p0 N (i64.wrap (p1 - (p0.length:Int))) 0)
def ic (N:Nat) (p0:(List Int)) (p1:Int):Option (Int):=
  (if decide (i64.wrap (p1 - (p0.length:Int)) < 0) then some (-1) else some (i64.wrap (p1 - (p0.length:Int))))
def lT (N:Nat) (p0:a9) (p1:Int):Option (Int):=
  (if decide (i64.wrap (p1 - (p0.Kind.size:Int)) < 0) then some (-1) else ((nP N p0.Consts (i64.wrap (p1 - (p0.Kind.size:Int)))).bind fun x1=>(if decide (x1 < 0) then some (-1) else ((ic N p0.At x1).bind fun x2=>(if decide (x2 < 0) then some (-1) else some x2)))))
def gQ (N:Nat) (p0:(List a9)):Nat→Int→Int→Option (Int)
  | 0,_,_=>none
  | k+1,s1,s2=>
    (if decide (s2 < (p0.length:Int)) then ((idx p0 s2).bind fun x1=>((lT N x1 s1).bind fun x2=>(if decide (x2 < 0) then some (-1) else ((gQ N p0 k) x2 (i64.wrap (s2+1)))))) else some s1)
def mt (N:Nat) (p0:(List a9)) (p1:Int):Option (Int):=
  (if decide (i64.wrap (p1 - (p0.length:Int)) < 0) then some (-1) else gQ N p0 N (i64.wrap (p1 - (p0.length:Int))) 0)
def mm (N:Nat) (p0:ae) (p1:Int):Option (Int):=
  ((ic N p0.Pos p1).bind fun x1=>(if decide (x1 < 0) then some (-1) else ((ic N p0.Neg x1).bind fun x2=>(if decide (x2 < 0) then some (-1) else some x2))))
def gP (N:Nat) (p0:(List ae)):Nat→Int→Int→Option (Int)
  | 0,_,_=>none
  | k+1,s1,s2=>
    (if decide (s2 < (p0.length:Int)) then ((idx p0 s2).bind fun x1=>((mm N x1 s1).bind fun x2=>(if decide (x2 < 0) then some (-1) else ((gP N p0 k) x2 (i64.wrap (s2+1)))))) else some s1)
def mW (N:Nat) (p0:(List ae)) (p1:Int):Option (Int):=
  (if decide (i64.wrap (p1 - (p0.length:Int)) < 0) then some (-1) else gP N p0 N (i64.wrap (p1 - (p0.length:Int))) 0)
def tc (N:Nat) (p0:bc) (p1:Int):Option (Int):=
  ((mt N p0.Alphas p1).bind fun x1=>(if decide (x1 < 0) then some (-1) else ((mW N p0.Chains x1).bind fun x2=>(if decide (x2 < 0) then some (-1) else some x2))))
def qb (N:Nat) (p0:aS) (p1:Int):Option (Int):=
  ((ic N p0.L p1).bind fun x1=>(if decide (x1 < 0) then some (-1) else some x1))
def je (N:Nat) (p0:(List aS)):Nat→Int→Int→Option (Int)
  | 0,_,_=>none
  | k+1,s1,s2=>
    (if decide (s2 < (p0.length:Int)) then ((idx p0 s2).bind fun x1=>((qb N x1 s1).bind fun x2=>(if decide (x2 < 0) then some (-1) else ((je N p0 k) x2 (i64.wrap (s2+1)))))) else some s1)
def rI (N:Nat) (p0:(List aS)) (p1:Int):Option (Int):=
  (if decide (i64.wrap (p1 - (p0.length:Int)) < 0) then some (-1) else je N p0 N (i64.wrap (p1 - (p0.length:Int))) 0)
def qt (N:Nat) (p0:ab) (p1:Int):Option (Int):=
  ((ic N p0.Ids p1).bind fun x1=>(if decide (x1 < 0) then some (-1) else ((ic N p0.Hits x1).bind fun x2=>(if decide (x2 < 0) then some (-1) else some x2))))
def jt (N:Nat) (p0:(List ab)):Nat→Int→Int→Option (Int)
  | 0,_,_=>none
  | k+1,s1,s2=>
    (if decide (s2 < (p0.length:Int)) then ((idx p0 s2).bind fun x1=>((qt N x1 s1).bind fun x2=>(if decide (x2 < 0) then some (-1) else ((jt N p0 k) x2 (i64.wrap (s2+1)))))) else some s1)
def ra (N:Nat) (p0:(List ab)) (p1:Int):Option (Int):=
  (if decide (i64.wrap (p1 - (p0.length:Int)) < 0) then some (-1) else jt N p0 N (i64.wrap (p1 - (p0.length:Int))) 0)
def lR (N:Nat) (p0:aa) (p1:Int):Option (Int):=
  ((ra N p0.Toks p1).bind fun x1=>(if decide (x1 < 0) then some (-1) else some x1))
def gJ (N:Nat) (p0:(List aa)):Nat→Int→Int→Option (Int)
  | 0,_,_=>none
  | k+1,s1,s2=>
    (if decide (s2 < (p0.length:Int)) then ((idx p0 s2).bind fun x1=>((lR N x1 s1).bind fun x2=>(if decide (x2 < 0) then some (-1) else ((gJ N p0 k) x2 (i64.wrap (s2+1)))))) else some s1)
def n8 (N:Nat) (p0:(List aa)) (p1:Int):Option (Int):=
  (if decide (i64.wrap (p1 - (p0.length:Int)) < 0) then some (-1) else gJ N p0 N (i64.wrap (p1 - (p0.length:Int))) 0)
def qe (N:Nat) (p0:aF) (p1:Int):Option (Int):=
  ((n8 N p0.Levels p1).bind fun x1=>(if decide (x1 < 0) then some (-1) else some x1))
def jj (N:Nat) (p0:(List aF)):Nat→Int→Int→Option (Int)
  | 0,_,_=>none
  | k+1,s1,s2=>
    (if decide (s2 < (p0.length:Int)) then ((idx p0 s2).bind fun x1=>((qe N x1 s1).bind fun x2=>(if decide (x2 < 0) then some (-1) else ((jj N p0 k) x2 (i64.wrap (s2+1)))))) else some s1)
def qJ (N:Nat) (p0:(List aF)) (p1:Int):Option (Int):=
  (if decide (i64.wrap (p1 - (p0.length:Int)) < 0) then some (-1) else jj N p0 N (i64.wrap (p1 - (p0.length:Int))) 0)
def tE (N:Nat) (p0:aA) (p1:Int):Option (Int):=
  ((rI N p0.Alphas p1).bind fun x1=>(if decide (x1 < 0) then some (-1) else ((qJ N p0.Rules x1).bind fun x2=>(if decide (x2 < 0) then some (-1) else some x2))))
def rL (N:Nat) (p0:aw) (p1:Int):Option (Int):=
  (if decide (i64.wrap (p1 - (p0.Kind.size:Int)) < 0) then some (-1) else ((nP N p0.Fields (i64.wrap (p1 - (p0.Kind.size:Int)))).bind fun x1=>(if decide (x1 < 0) then some (-1) else some x1)))
def nF (N:Nat) (p0:aC) (p1:Int):Option (Int):=
  ((rL N p0.F p1).bind fun x1=>(if decide (x1 < 0) then some (-1) else some x1))
def im (N:Nat) (p0:(List aC)):Nat→Int→Int→Option (Int)
  | 0,_,_=>none
  | k+1,s1,s2=>
    (if decide (s2 < (p0.length:Int)) then ((idx p0 s2).bind fun x1=>((nF N x1 s1).bind fun x2=>(if decide (x2 < 0) then some (-1) else ((im N p0 k) x2 (i64.wrap (s2+1)))))) else some s1)
def oP (N:Nat) (p0:(List aC)) (p1:Int):Option (Int):=
  (if decide (i64.wrap (p1 - (p0.length:Int)) < 0) then some (-1) else im N p0 N (i64.wrap (p1 - (p0.length:Int))) 0)
def oz (N:Nat) (p0:ah) (p1:Int):Option (Int):=
  ((oP N p0.Items p1).bind fun x1=>(if decide (x1 < 0) then some (-1) else some x1))
def iO (N:Nat) (s2:Int) (K1:(List ab)→Int→Option ((List ab))) (s3:(List ab)):Option ((List ab)):=
  (K1 s3 (i64.wrap (s2+1)))
def cK (N:Nat) (p0:(List ab)):Nat→(List ab)→Int→Option ((List ab))
  | 0,_,_=>none
  | k+1,s1,s2=>
    (if decide (s2 < (p0.length:Int)) then ((idx p0 s2).bind fun x6=>((idx p0 s2).bind fun x7=>((app ([]:List Int) x6.Ids).bind fun x8=>((app ([]:List Int) x7.Hits).bind fun x9=>((app s1 ([(⟨x8,x9⟩:ab)]:List ab)).bind fun x10=>iO N s2 (cK N p0 k) x10))))) else some s1)
def j7 (N:Nat) (p0:(List ab)):Option ((List ab)):=
  cK N p0 N ([]:List ab) 0
def fg (N:Nat) (p0:aA) (s3:(List aF)) (s4:Int) (K2:(List aF)→Int→Option (aA)):Nat→(List aa)→Int→Option (aA)
  | 0,_,_=>none
  | k+1,s5,s6=>
    ((idx p0.Rules s4).bind fun x4=>(if decide (s6 < (x4.Levels.length:Int)) then ((idx p0.Rules s4).bind fun x5=>((idx x5.Levels s6).bind fun x6=>((j7 N x6.Toks).bind fun x7=>((app s5 ([(⟨x7⟩:aa)]:List aa)).bind fun x8=>((fg N p0 s3 s4 K2 k) x8 (i64.wrap (s6+1))))))) else ((app s3 ([(⟨s5⟩:aF)]:List aF)).bind fun x9=>(K2 x9 (i64.wrap (s4+1))))))
def dR (N:Nat) (p0:aA) (s1:(List aS)):Nat→(List aF)→Int→Option (aA)
  | 0,_,_=>none
  | k+1,s3,s4=>
    (if decide (s4 < (p0.Rules.length:Int)) then fg N p0 s3 s4 (dR N p0 s1 k) N ([]:List aa) 0 else some (⟨s1,s3⟩:aA))
def gm (N:Nat) (p0:aA):Nat→(List aS)→Int→Option (aA)
  | 0,_,_=>none
  | k+1,s1,s2=>
    (if decide (s2 < (p0.Alphas.length:Int)) then ((idx p0.Alphas s2).bind fun x1=>((app ([]:List Int) x1.L).bind fun x2=>((app s1 ([(⟨x2⟩:aS)]:List aS)).bind fun x3=>((gm N p0 k) x3 (i64.wrap (s2+1)))))) else dR N p0 s1 N ([]:List aF) 0)
def p8 (N:Nat) (p0:aA):Option (aA):=
  gm N p0 N ([]:List aS) 0
def qM (N:Nat) (p0:aw):Option (aw):=
  ((app ([]:List aL) p0.Fields).bind fun x1=>some (⟨p0.Kind,x1⟩:aw))
def ga (N:Nat) (p0:ah) (p1:Int):Nat→Int→Option (aw × Bool)
  | 0,_=>none
  | k+1,s1=>
    (if decide (s1 < (p0.Items.length:Int)) then ((idx p0.Items s1).bind fun x1=>(if decide (x1.Id=p1) then ((idx p0.Items s1).bind fun x2=>((qM N x2.F).bind fun x3=>some (x3,true))) else ((ga N p0 p1 k) (i64.wrap (s1+1))))) else some ((⟨(⟨#[]⟩:ByteArray),[]⟩:aw),false))
def lD (N:Nat) (p0:ah) (p1:Int):Option (aw × Bool):=
  ga N p0 p1 N 0
def dB (N:Nat) (p0:Int) (p1:Int) (p2:Int):Option (Bool):=
  ((if decide (p1≤p0) then some (decide (p0≤p2)) else some false).bind fun b1=>some b1)
def iP (N:Nat) (p0:Int):Option (Bool):=
  ((dB N (i64.wrap p0) 97 122).bind fun x1=>((if x1 then some true else ((dB N (i64.wrap p0) 48 57).bind fun x2=>some x2)).bind fun b1=>((if b1 then some true else some (decide (p0=95))).bind fun b2=>some b2)))
def eU (N:Nat) (p0:ByteArray):Nat→Int→Option (Bool)
  | 0,_=>none
  | k+1,s1=>
    (if decide (s1 < (p0.size:Int)) then ((idx p0.data.toList s1).bind fun y1=>((iP N (y1.toNat:Int)).bind fun x1=>((if !x1 then some true else ((if decide (s1=0) then ((idx p0.data.toList s1).bind fun y2=>((dB N (i64.wrap (y2.toNat:Int)) 97 122).bind fun x2=>some (!x2))) else some false).bind fun b2=>some b2)).bind fun b1=>(if b1 then some false else ((eU N p0 k) (i64.wrap (s1+1))))))) else ((dB N (p0.size:Int) 1 12).bind fun x3=>some x3))
def eE (N:Nat) (p0:ByteArray):Option (Bool):=
  eU N p0 N 0
def fd (N:Nat) (p0:ByteArray):Nat→Int→Option (Bool)
  | 0,_=>none
  | k+1,s1=>
    (if decide (s1 < (p0.size:Int)) then ((idx p0.data.toList s1).bind fun y1=>((iP N (y1.toNat:Int)).bind fun x1=>(if !x1 then some false else ((fd N p0 k) (i64.wrap (s1+1)))))) else some (decide ((p0.size:Int)≤20)))
def pf (N:Nat) (p0:ByteArray):Option (Bool):=
  fd N p0 N 0
def ql (N:Nat) (p0:aL):Option (Bool):=
  (if decide (p0.K=1) then ((dB N p0.N (-1000000000) 1000000000).bind fun x1=>((if x1 then some (seq p0.S (⟨#[]⟩:ByteArray)) else some false).bind fun b1=>some b1)) else (if decide (p0.K=2) then ((pf N p0.S).bind fun x2=>((if x2 then some (decide (p0.N=0)) else some false).bind fun b2=>some b2)) else some false))
def eM (N:Nat) (p0:(List aL)):Nat→Int→Option (Bool)
  | 0,_=>none
  | k+1,s1=>
    (if decide (s1 < (p0.length:Int)) then ((idx p0 s1).bind fun x1=>((ql N x1).bind fun x2=>(if !x2 then some false else ((eM N p0 k) (i64.wrap (s1+1)))))) else some (decide ((p0.length:Int)≤5)))
def tT (N:Nat) (p0:(List aL)):Option (Bool):=
  eM N p0 N 0
def rV (N:Nat) (p0:aw):Option (Bool):=
  ((eE N p0.Kind).bind fun x1=>((if x1 then ((tT N p0.Fields).bind fun x2=>some x2) else some false).bind fun b1=>some b1))
def dW (N:Nat) (p0:(List aL)) (p1:(List aL)):Nat→Int→Option (Bool)
  | 0,_=>none
  | k+1,s1=>
    (if decide (s1 < (p0.length:Int)) then ((idx p0 s1).bind fun x1=>((idx p1 s1).bind fun x2=>(if !(bp x1 x2) then some false else ((dW N p0 p1 k) (i64.wrap (s1+1)))))) else some true)
def iq (N:Nat) (p0:(List aL)) (p1:(List aL)):Option (Bool):=
  (if !decide ((p0.length:Int)=(p1.length:Int)) then some false else dW N p0 p1 N 0)
def nv (N:Nat) (p0:aw) (p1:aw):Option (Bool):=
  ((if seq p0.Kind p1.Kind then ((iq N p0.Fields p1.Fields).bind fun x1=>some x1) else some false).bind fun b1=>some b1)
def iF (N:Nat) (p0:ah) (p1:aw):Nat→Int→Option (Int)
  | 0,_=>none
  | k+1,s1=>
    (if decide (s1 < (p0.Items.length:Int)) then ((idx p0.Items s1).bind fun x1=>((nv N x1.F p1).bind fun x2=>(if x2 then ((idx p0.Items s1).bind fun x3=>some x3.Id) else ((iF N p0 p1 k) (i64.wrap (s1+1)))))) else some 0)
def uK (N:Nat) (p0:ah) (p1:aw):Option (Int):=
  iF N p0 p1 N 0
def gp (N:Nat) (p0:ah):Nat→Int→Option (Bool)
  | 0,_=>none
  | k+1,s1=>
    (if decide (s1 < (p0.Items.length:Int)) then ((idx p0.Items s1).bind fun x2=>((rV N x2.F).bind fun x3=>((if !x3 then some true else some (decide (x2.Id < 1))).bind fun b2=>((if b2 then some true else some (decide (p0.Next≤x2.Id))).bind fun b3=>((if b3 then some true else ((if decide (0 < s1) then ((idx p0.Items (i64.wrap (s1 - 1))).bind fun x4=>some (decide (x2.Id≤x4.Id))) else some false).bind fun b5=>some b5)).bind fun b4=>((if b4 then some true else ((uK N p0 x2.F).bind fun x5=>some (!decide (x5=x2.Id)))).bind fun b6=>(if b6 then some false else ((gp N p0 k) (i64.wrap (s1+1)))))))))) else some true)
def oX (N:Nat) (p0:ah):Option (Bool):=
  ((dB N p0.Next 1 1000000).bind fun x1=>((if !x1 then some true else some (decide (40 < (p0.Items.length:Int)))).bind fun b1=>(if b1 then some false else gp N p0 N 0)))
def du (N:Nat) (p0:ag):Nat→Int→Int→Option (Int)
  | 0,_,_=>none
  | k+1,s1,s2=>
    (if decide (s2 < (p0.Pats.length:Int)) then ((idx p0.Pats s2).bind fun x1=>(if !x1.Not then ((du N p0 k) (i64.wrap (s1+1)) (i64.wrap (s2+1))) else ((du N p0 k) s1 (i64.wrap (s2+1))))) else some s1)
def kA (N:Nat) (p0:ag):Option (Int):=
  du N p0 N 0 0
def iR (N:Nat) (p0:(List ByteArray)) (p1:ByteArray):Nat→Int→Option (Bool)
  | 0,_=>none
  | k+1,s1=>
    (if decide (s1 < (p0.length:Int)) then ((idx p0 s1).bind fun x1=>(if seq x1 p1 then some true else ((iR N p0 p1 k) (i64.wrap (s1+1))))) else some false)
def o8 (N:Nat) (p0:(List ByteArray)) (p1:ByteArray):Option (Bool):=
  iR N p0 p1 N 0
def fV (N:Nat) (p0:av):Nat→(List ByteArray)→Int→Option ((List ByteArray))
  | 0,_,_=>none
  | k+1,s1,s2=>
    (if decide (s2 < (p0.Args.length:Int)) then ((idx p0.Args s2).bind fun x1=>((if decide (x1.K=1) then ((idx p0.Args s2).bind fun x2=>((o8 N s1 x2.S).bind fun x3=>some (!x3))) else some false).bind fun b1=>(if b1 then ((idx p0.Args s2).bind fun x4=>((app s1 ([x4.S]:List ByteArray)).bind fun x5=>((fV N p0 k) x5 (i64.wrap (s2+1))))) else ((fV N p0 k) s1 (i64.wrap (s2+1)))))) else some s1)
def rT (N:Nat) (p0:av):Option ((List ByteArray)):=
  fV N p0 N ([]:List ByteArray) 0
def cB (N:Nat) (p0:ag) (s2:Int) (K1:(List ByteArray)→Int→Option ((List ByteArray))) (x2:(List ByteArray)):Nat→(List ByteArray)→Int→Option ((List ByteArray))
  | 0,_,_=>none
  | k+1,s3,s4=>
    ((if decide (s4 < (x2.length:Int)) then ((idx p0.Pats s2).bind fun x3=>some (!x3.Not)) else some false).bind fun b1=>(if b1 then ((idx x2 s4).bind fun x4=>((o8 N s3 x4).bind fun x5=>(if !x5 then ((idx x2 s4).bind fun x6=>((app s3 ([x6]:List ByteArray)).bind fun x7=>((cB N p0 s2 K1 x2 k) x7 (i64.wrap (s4+1))))) else ((cB N p0 s2 K1 x2 k) s3 (i64.wrap (s4+1)))))) else (K1 s3 (i64.wrap (s2+1)))))
def cF (N:Nat) (p0:ag):Nat→(List ByteArray)→Int→Option ((List ByteArray))
  | 0,_,_=>none
  | k+1,s1,s2=>
    (if decide (s2 < (p0.Pats.length:Int)) then ((idx p0.Pats s2).bind fun x1=>((rT N x1).bind fun x2=>cB N p0 s2 (cF N p0 k) x2 N s1 0)) else some s1)
def m8 (N:Nat) (p0:ag):Option ((List ByteArray)):=
  cF N p0 N ([]:List ByteArray) 0
def ox (N:Nat) (p0:Int):Option (Bool):=
  ((dB N (i64.wrap p0) 65 90).bind fun x1=>some x1)
def dj (N:Nat) (p0:ByteArray):Nat→Int→Option (Bool)
  | 0,_=>none
  | k+1,s1=>
    (if decide (s1 < (p0.size:Int)) then ((idx p0.data.toList s1).bind fun y1=>((ox N (y1.toNat:Int)).bind fun x1=>((if !x1 then ((if decide (s1=0) then some true else ((idx p0.data.toList s1).bind fun y2=>((iP N (y2.toNat:Int)).bind fun x2=>some (!x2)))).bind fun b2=>some b2) else some false).bind fun b1=>(if b1 then some false else ((dj N p0 k) (i64.wrap (s1+1))))))) else ((dB N (p0.size:Int) 1 12).bind fun x3=>some x3))
def ow (N:Nat) (p0:ByteArray):Option (Bool):=
  dj N p0 N 0
def mg (N:Nat) (p0:be):Option (Bool):=
  (if decide (p0.K=1) then ((ow N p0.S).bind fun x1=>((if x1 then some (bp p0.V (⟨0,0,(⟨#[]⟩:ByteArray)⟩:aL)) else some false).bind fun b1=>some b1)) else (if decide (p0.K=2) then ((ql N p0.V).bind fun x2=>((if x2 then some (seq p0.S (⟨#[]⟩:ByteArray)) else some false).bind fun b2=>some b2)) else (if decide (p0.K=3) then ((if seq p0.S (⟨#[]⟩:ByteArray) then some (bp p0.V (⟨0,0,(⟨#[]⟩:ByteArray)⟩:aL)) else some false).bind fun b3=>some b3) else some false)))
def gT (N:Nat) (p0:av):Nat→Int→Option (Bool)
  | 0,_=>none
  | k+1,s1=>
    (if decide (s1 < (p0.Args.length:Int)) then ((idx p0.Args s1).bind fun x1=>((mg N x1).bind fun x2=>(if !x2 then some false else ((gT N p0 k) (i64.wrap (s1+1)))))) else ((eE N p0.Kind).bind fun x3=>((if x3 then some (decide ((p0.Args.length:Int)≤5)) else some false).bind fun b1=>some b1)))
def tz (N:Nat) (p0:av):Option (Bool):=
  gT N p0 N 0
def eS (N:Nat) (p0:(List av)):Nat→Int→Option (Bool)
  | 0,_=>none
  | k+1,s1=>
    (if decide (s1 < (p0.length:Int)) then ((if decide (2 < s1) then ((idx p0 s1).bind fun x1=>some (!x1.Not)) else some false).bind fun b1=>(if b1 then some false else ((idx p0 s1).bind fun x2=>((tz N x2).bind fun x3=>((if !x3 then some true else ((if decide (s1=0) then ((idx p0 s1).bind fun x4=>some x4.Not) else some false).bind fun b3=>some b3)).bind fun b2=>((if b2 then some true else ((if decide (0 < s1) then ((idx p0 (i64.wrap (s1 - 1))).bind fun x5=>some x5.Not) else some false).bind fun b5=>((if b5 then ((idx p0 s1).bind fun x6=>some (!x6.Not)) else some false).bind fun b6=>some b6))).bind fun b4=>(if b4 then some false else ((eS N p0 k) (i64.wrap (s1+1)))))))))) else ((dB N (p0.length:Int) 1 6).bind fun x7=>some x7))
def rQ (N:Nat) (p0:(List av)):Option (Bool):=
  eS N p0 N 0
def qI (N:Nat) (p0:bn):Option (Bool):=
  ((dB N p0.Op 1 3).bind fun x1=>((if x1 then ((mg N p0.L).bind fun x2=>some x2) else some false).bind fun b1=>((if b1 then ((mg N p0.R).bind fun x3=>some x3) else some false).bind fun b2=>((if b2 then some (!decide (p0.L.K=3)) else some false).bind fun b3=>((if b3 then some (!decide (p0.R.K=3)) else some false).bind fun b4=>some b4)))))
def iG (N:Nat) (p0:be) (p1:(List ByteArray)):Option (Bool):=
  ((if !decide (p0.K=1) then some true else ((o8 N p1 p0.S).bind fun x1=>some x1)).bind fun b1=>some b1)
def fb (N:Nat) (p0:(List bn)) (p1:(List ByteArray)):Nat→Int→Option (Bool)
  | 0,_=>none
  | k+1,s1=>
    (if decide (s1 < (p0.length:Int)) then ((idx p0 s1).bind fun x1=>((qI N x1).bind fun x2=>((if !x2 then some true else ((idx p0 s1).bind fun x3=>((iG N x3.L p1).bind fun x4=>some (!x4)))).bind fun b1=>((if b1 then some true else ((idx p0 s1).bind fun x5=>((iG N x5.R p1).bind fun x6=>some (!x6)))).bind fun b2=>(if b2 then some false else ((fb N p0 p1 k) (i64.wrap (s1+1)))))))) else some (decide ((p0.length:Int)≤6)))
def oH (N:Nat) (p0:(List bn)) (p1:(List ByteArray)):Option (Bool):=
  fb N p0 p1 N 0
def jP (N:Nat) (p0:be):Option (Bool):=
  ((mg N p0).bind fun x1=>((if x1 then some (!decide (p0.K=3)) else some false).bind fun b1=>some b1))
def jo (N:Nat) (p0:bk) (s1:Bool):Option (Bool):=
  (if s1 then ((jP N p0.L).bind fun x2=>((if x2 then ((jP N p0.R).bind fun x3=>some x3) else some false).bind fun b2=>some b2)) else some false)
def ru (N:Nat) (p0:bk):Option (Bool):=
  (if seq p0.Op (⟨#[]⟩:ByteArray) then ((jP N p0.L).bind fun x1=>((if x1 then some (sc p0.R (⟨0,(⟨#[]⟩:ByteArray),(⟨0,0,(⟨#[]⟩:ByteArray)⟩:aL)⟩:be)) else some false).bind fun b1=>some b1)) else (if seq p0.Op (⟨#[43]⟩:ByteArray) then jo N p0 (seq p0.Op (⟨#[43]⟩:ByteArray)) else jo N p0 (seq p0.Op (⟨#[45]⟩:ByteArray))))
def fY (N:Nat) (p0:(List bk)):Nat→Int→Option (Bool)
  | 0,_=>none
  | k+1,s1=>
    (if decide (s1 < (p0.length:Int)) then ((idx p0 s1).bind fun x1=>((ru N x1).bind fun x2=>(if !x2 then some false else ((fY N p0 k) (i64.wrap (s1+1)))))) else some (decide ((p0.length:Int)≤5)))
def lz (N:Nat) (p0:(List bk)):Option (Bool):=
  fY N p0 N 0
def kz (N:Nat) (p0:bM) (b2:Bool) (s1:Bool):Option (Bool):=
  (if s1 then ((if b2 then some (decide (p0.N=0)) else some false).bind fun b14=>some b14) else some false)
def tG (N:Nat) (p0:bM):Option (Bool):=
  ((if seq p0.Name (⟨#[]⟩:ByteArray) then some (decide ((p0.Args.length:Int)=0)) else some false).bind fun b1=>((if b1 then some (seq p0.Undo (⟨#[]⟩:ByteArray)) else some false).bind fun b2=>(if decide (p0.Kind=1) then ((eE N p0.Name).bind fun x1=>((if x1 then ((lz N p0.Args).bind fun x2=>some x2) else some false).bind fun b3=>((if b3 then some (decide (p0.N=0)) else some false).bind fun b4=>((if b4 then some (seq p0.Undo (⟨#[]⟩:ByteArray)) else some false).bind fun b5=>some b5)))) else (if decide (p0.Kind=3) then ((eE N p0.Name).bind fun x3=>((if x3 then ((lz N p0.Args).bind fun x4=>some x4) else some false).bind fun b6=>((if b6 then some (decide (p0.N=0)) else some false).bind fun b7=>((if b7 then ((if seq p0.Undo (⟨#[]⟩:ByteArray) then some true else ((eE N p0.Undo).bind fun x5=>some x5)).bind fun b9=>some b9) else some false).bind fun b8=>some b8)))) else (if decide (p0.Kind=4) then ((eE N p0.Name).bind fun x6=>((if x6 then ((lz N p0.Args).bind fun x7=>some x7) else some false).bind fun b10=>((if b10 then ((dB N p0.N 0 100000).bind fun x8=>some x8) else some false).bind fun b11=>((if b11 then some (seq p0.Undo (⟨#[]⟩:ByteArray)) else some false).bind fun b12=>some b12)))) else (if decide (p0.Kind=2) then ((if b2 then ((dB N p0.N 0 7).bind fun x9=>some x9) else some false).bind fun b13=>some b13) else (if decide (p0.Kind=5) then kz N p0 b2 (decide (p0.Kind=5)) else kz N p0 b2 (decide (p0.Kind=6)))))))))
def fX (N:Nat) (p0:(List bM)) (p1:(List ByteArray)) (s1:Int) (K1:Int→Option (Bool)):Nat→Int→Option (Bool)
  | 0,_=>none
  | k+1,s2=>
    ((idx p0 s1).bind fun x5=>(if decide (s2 < (x5.Args.length:Int)) then ((idx p0 s1).bind fun x6=>((idx x6.Args s2).bind fun x7=>((iG N x7.L p1).bind fun x8=>((if !x8 then some true else ((idx p0 s1).bind fun x9=>((idx x9.Args s2).bind fun x10=>((iG N x10.R p1).bind fun x11=>some (!x11))))).bind fun b3=>(if b3 then some false else ((fX N p0 p1 s1 K1 k) (i64.wrap (s2+1)))))))) else (K1 (i64.wrap (s1+1)))))
def d7 (N:Nat) (p0:(List bM)) (p1:(List ByteArray)) (p2:Int):Nat→Int→Option (Bool)
  | 0,_=>none
  | k+1,s1=>
    (if decide (s1 < (p0.length:Int)) then ((idx p0 s1).bind fun x1=>((tG N x1).bind fun x2=>((if !x2 then some true else ((idx p0 s1).bind fun x3=>((if decide (x3.Kind=2) then ((idx p0 s1).bind fun x4=>some (decide (p2≤x4.N))) else some false).bind fun b2=>some b2))).bind fun b1=>(if b1 then some false else fX N p0 p1 s1 (d7 N p0 p1 p2 k) N 0)))) else ((dB N (p0.length:Int) 1 6).bind fun x12=>some x12))
def rp (N:Nat) (p0:(List bM)) (p1:(List ByteArray)) (p2:Int):Option (Bool):=
  d7 N p0 p1 p2 N 0
def qW (N:Nat) (p0:ag):Option (Bool):=
  ((m8 N p0).bind fun x1=>((eE N p0.Name).bind fun x2=>((if x2 then ((dB N p0.Sal (-100) 100).bind fun x3=>some x3) else some false).bind fun b1=>((if b1 then ((rQ N p0.Pats).bind fun x4=>some x4) else some false).bind fun b2=>((if b2 then ((oH N p0.Conds x1).bind fun x5=>some x5) else some false).bind fun b3=>((if b3 then ((kA N p0).bind fun x6=>((rp N p0.Acts x1 x6).bind fun x7=>some x7)) else some false).bind fun b4=>some b4))))))
def gf (N:Nat) (p0:bo) (p1:ByteArray):Nat→Int→Option (Int)
  | 0,_=>none
  | k+1,s1=>
    (if decide (s1 < (p0.Rules.length:Int)) then ((idx p0.Rules s1).bind fun x1=>(if seq x1.Name p1 then some s1 else ((gf N p0 p1 k) (i64.wrap (s1+1))))) else some (-1))
def rm (N:Nat) (p0:bo) (p1:ByteArray):Option (Int):=
  gf N p0 p1 N 0
def fS (N:Nat) (p0:bo):Nat→Int→Option (Bool)
  | 0,_=>none
  | k+1,s1=>
    (if decide (s1 < (p0.Rules.length:Int)) then ((idx p0.Rules s1).bind fun x1=>((qW N x1).bind fun x2=>((if !x2 then some true else ((idx p0.Rules s1).bind fun x3=>((rm N p0 x3.Name).bind fun x4=>some (!decide (x4=s1))))).bind fun b1=>(if b1 then some false else ((fS N p0 k) (i64.wrap (s1+1))))))) else ((eE N p0.Name).bind fun x5=>((if x5 then ((dB N (p0.Rules.length:Int) 1 12).bind fun x6=>some x6) else some false).bind fun b2=>some b2)))
def tj (N:Nat) (p0:bo):Option (Bool):=
  fS N p0 N 0
def iB (N:Nat) (p0:(List Int)) (p1:(List Int)):Nat→Int→Option (Bool)
  | 0,_=>none
  | k+1,s1=>
    (if decide (s1 < (p0.length:Int)) then ((idx p0 s1).bind fun x1=>((idx p1 s1).bind fun x2=>(if !decide (x1=x2) then some false else ((iB N p0 p1 k) (i64.wrap (s1+1)))))) else some true)
def jU (N:Nat) (p0:(List Int)) (p1:(List Int)):Option (Bool):=
  (if !decide ((p0.length:Int)=(p1.length:Int)) then some false else iB N p0 p1 N 0)
def ju (N:Nat) (p0:a9) (p1:a9):Option (Bool):=
  ((if seq p0.Kind p1.Kind then some (decide (p0.N=p1.N)) else some false).bind fun b1=>((if b1 then ((jU N p0.At p1.At).bind fun x1=>some x1) else some false).bind fun b2=>((if b2 then ((iq N p0.Consts p1.Consts).bind fun x2=>some x2) else some false).bind fun b3=>some b3)))
def f9 (N:Nat) (p0:bc) (p1:bc):Nat→Int→Option (Bool)
  | 0,_=>none
  | k+1,s2=>
    (if decide (s2 < (p0.Chains.length:Int)) then ((idx p0.Chains s2).bind fun x4=>((idx p1.Chains s2).bind fun x5=>((jU N x4.Pos x5.Pos).bind fun x6=>((if !x6 then some true else ((idx p0.Chains s2).bind fun x7=>((idx p1.Chains s2).bind fun x8=>((jU N x7.Neg x8.Neg).bind fun x9=>some (!x9))))).bind fun b2=>(if b2 then some false else ((f9 N p0 p1 k) (i64.wrap (s2+1)))))))) else some true)
def dI (N:Nat) (p0:bc) (p1:bc):Nat→Int→Option (Bool)
  | 0,_=>none
  | k+1,s1=>
    (if decide (s1 < (p0.Alphas.length:Int)) then ((idx p0.Alphas s1).bind fun x1=>((idx p1.Alphas s1).bind fun x2=>((ju N x1 x2).bind fun x3=>(if !x3 then some false else ((dI N p0 p1 k) (i64.wrap (s1+1))))))) else f9 N p0 p1 N 0)
def oC (N:Nat) (p0:bc) (p1:bc):Option (Bool):=
  ((if !decide ((p0.Alphas.length:Int)=(p1.Alphas.length:Int)) then some true else some (!decide ((p0.Chains.length:Int)=(p1.Chains.length:Int)))).bind fun b1=>(if b1 then some false else dI N p0 p1 N 0))
def fe (N:Nat) (p0:bc) (p1:a9):Nat→Int→Option (Int × bc)
  | 0,_=>none
  | k+1,s1=>
    (if decide (s1 < (p0.Alphas.length:Int)) then ((idx p0.Alphas s1).bind fun x1=>((ju N x1 p1).bind fun x2=>(if x2 then some (s1,p0) else ((fe N p0 p1 k) (i64.wrap (s1+1)))))) else ((app p0.Alphas ([p1]:List a9)).bind fun x3=>some (i64.wrap ((x3.length:Int) - 1),(⟨x3,p0.Chains⟩:bc))))
def pj (N:Nat) (p0:bc) (p1:a9):Option (Int × bc):=
  fe N p0 p1 N 0
def fq (N:Nat) (p0:av):Nat→(List aL)→(List Int)→Int→Option (a9)
  | 0,_,_,_=>none
  | k+1,s1,s2,s3=>
    (if decide (s3 < (p0.Args.length:Int)) then ((idx p0.Args s3).bind fun x1=>(if decide (x1.K=2) then ((idx p0.Args s3).bind fun x2=>((app s1 ([x2.V]:List aL)).bind fun x3=>((app s2 ([s3]:List Int)).bind fun x4=>((fq N p0 k) x3 x4 (i64.wrap (s3+1)))))) else ((fq N p0 k) s1 s2 (i64.wrap (s3+1))))) else some (⟨p0.Kind,(p0.Args.length:Int),s1,s2⟩:a9))
def oQ (N:Nat) (p0:av):Option (a9):=
  fq N p0 N ([]:List aL) ([]:List Int) 0
def eY (N:Nat) (p0:bo) (s2:(List ae)) (s3:Int) (K1:(List a9)→(List ae)→Int→Option (bc)):Nat→(List a9)→(List Int)→(List Int)→Int→Option (bc)
  | 0,_,_,_,_=>none
  | k+1,s4,s5,s6,s7=>
    ((idx p0.Rules s3).bind fun x1=>(if decide (s7 < (x1.Pats.length:Int)) then ((idx p0.Rules s3).bind fun x2=>((idx x2.Pats s7).bind fun x3=>((oQ N x3).bind fun x4=>((pj N (⟨s4,s2⟩:bc) x4).bind fun x5=>(if x3.Not then ((app s5 ([x5.1]:List Int)).bind fun x6=>((eY N p0 s2 s3 K1 k) x5.2.Alphas x6 s6 (i64.wrap (s7+1)))) else ((app s6 ([x5.1]:List Int)).bind fun x7=>((eY N p0 s2 s3 K1 k) x5.2.Alphas s5 x7 (i64.wrap (s7+1))))))))) else ((app s2 ([(⟨s6,s5⟩:ae)]:List ae)).bind fun x8=>(K1 s4 x8 (i64.wrap (s3+1))))))
def dH (N:Nat) (p0:bo):Nat→(List a9)→(List ae)→Int→Option (bc)
  | 0,_,_,_=>none
  | k+1,s1,s2,s3=>
    (if decide (s3 < (p0.Rules.length:Int)) then eY N p0 s2 s3 (dH N p0 k) N s1 ([]:List Int) ([]:List Int) 0 else some (⟨s1,s2⟩:bc))
def qT (N:Nat) (p0:bo):Option (bc):=
  dH N p0 N ([]:List a9) ([]:List ae) 0
def tb (N:Nat) (p0:bc) (p1:bo):Option (Bool):=
  ((tj N p1).bind fun x1=>(if x1 then ((qT N p1).bind fun x2=>((oC N p0 x2).bind fun x4=>some x4)) else some false))
def fm (N:Nat) (p0:(List ab)) (p1:Int) (p2:Int):Nat→Int→Option (Bool)
  | 0,_=>none
  | k+1,s1=>
    (if decide (s1 < (p0.length:Int)) then ((idx p0 s1).bind fun x1=>((if !decide ((x1.Ids.length:Int)=p1) then some true else ((idx p0 s1).bind fun x2=>some (!decide ((x2.Hits.length:Int)=p2)))).bind fun b1=>(if b1 then some false else ((fm N p0 p1 p2 k) (i64.wrap (s1+1)))))) else some true)
def oF (N:Nat) (p0:(List ab)) (p1:Int) (p2:Int):Option (Bool):=
  fm N p0 p1 p2 N 0
def fF (N:Nat) (p1:aA) (s1:Int) (s2:Int) (K2:Int→Option (Bool)) (s3:Int):Option (Bool):=
  ((idx p1.Rules s1).bind fun x3=>((idx x3.Levels s2).bind fun x4=>((oF N x4.Toks (i64.wrap (s2+1)) s3).bind fun x5=>(if !x5 then some false else (K2 (i64.wrap (s2+1)))))))
def bV (N:Nat) (p0:bc) (p1:aA) (s1:Int) (K1:Int→Option (Bool)) (x1:ae):Nat→Int→Option (Bool)
  | 0,_=>none
  | k+1,s2=>
    (if decide (s2 < (x1.Pos.length:Int)) then (if decide (s2=i64.wrap ((x1.Pos.length:Int) - 1)) then ((idx p0.Chains s1).bind fun x6=>fF N p1 s1 s2 (bV N p0 p1 s1 K1 x1 k) (x6.Neg.length:Int)) else fF N p1 s1 s2 (bV N p0 p1 s1 K1 x1 k) 0) else (K1 (i64.wrap (s1+1))))
def bF (N:Nat) (p0:bc) (p1:aA):Nat→Int→Option (Bool)
  | 0,_=>none
  | k+1,s1=>
    (if decide (s1 < (p1.Rules.length:Int)) then ((idx p0.Chains s1).bind fun x1=>((idx p1.Rules s1).bind fun x2=>(if !decide ((x2.Levels.length:Int)=(x1.Pos.length:Int)) then some false else bV N p0 p1 s1 (bF N p0 p1 k) x1 N 0))) else some true)
def nt (N:Nat) (p0:bc) (p1:aA):Option (Bool):=
  ((if !decide ((p1.Alphas.length:Int)=(p0.Alphas.length:Int)) then some true else some (!decide ((p1.Rules.length:Int)=(p0.Chains.length:Int)))).bind fun b1=>(if b1 then some false else bF N p0 p1 N 0))
def qL (N:Nat) (p0:bo) (p1:bc) (p2:aA) (p3:ah) (p4:Int):Option (Bool):=
  ((lD N p3 p4).bind fun x1=>((if x1.2 then ((oX N p3).bind fun x2=>some x2) else some false).bind fun b1=>((if b1 then ((tb N p1 p0).bind fun x3=>some x3) else some false).bind fun b2=>((if b2 then ((nt N p1 p2).bind fun x4=>some x4) else some false).bind fun b3=>some b3))))
def hY (N:Nat) (p0:a9) (p1:aw):Nat→Int→Option (Bool)
  | 0,_=>none
  | k+1,s1=>
    (if decide (s1 < (p0.At.length:Int)) then ((idx p0.At s1).bind fun x1=>((if decide ((p0.Consts.length:Int)≤s1) then some true else ((dB N x1 0 (i64.wrap ((p1.Fields.length:Int) - 1))).bind fun x2=>some (!x2))).bind fun b2=>((if b2 then some true else ((idx p1.Fields x1).bind fun x3=>((idx p0.Consts s1).bind fun x4=>some (!(bp x3 x4))))).bind fun b3=>(if b3 then some false else ((hY N p0 p1 k) (i64.wrap (s1+1))))))) else some true)
def qN (N:Nat) (p0:a9) (p1:aw):Option (Bool):=
  ((if !seq p0.Kind p1.Kind then some true else some (!decide (p0.N=(p1.Fields.length:Int)))).bind fun b1=>(if b1 then some false else hY N p0 p1 N 0))
def i8 (N:Nat) (p0:(List aH)) (p1:ByteArray):Nat→Int→Option (aL × Bool)
  | 0,_=>none
  | k+1,s1=>
    (if decide (s1 < (p0.length:Int)) then ((idx p0 s1).bind fun x1=>(if seq x1.Name p1 then ((idx p0 s1).bind fun x2=>some (x2.V,true)) else ((i8 N p0 p1 k) (i64.wrap (s1+1))))) else some ((⟨0,0,(⟨#[]⟩:ByteArray)⟩:aL),false))
def sd (N:Nat) (p0:(List aH)) (p1:ByteArray):Option (aL × Bool):=
  i8 N p0 p1 N 0
def fJ (N:Nat) (p0:av) (p1:aw) (p2:(List aH)):Nat→(List aH)→Int→Option ((List aH) × Bool)
  | 0,_,_=>none
  | k+1,s1,s2=>
    (if decide (s2 < (p0.Args.length:Int)) then ((idx p0.Args s2).bind fun x2=>((sd N s1 x2.S).bind fun x3=>((if decide (x2.K=2) then ((idx p1.Fields s2).bind fun x4=>some (!(bp x2.V x4))) else some false).bind fun b2=>((if b2 then some true else ((if decide (x2.K=1) then some x3.2 else some false).bind fun b4=>((if b4 then ((idx p1.Fields s2).bind fun x5=>some (!(bp x3.1 x5))) else some false).bind fun b5=>some b5))).bind fun b3=>(if b3 then ((app ([]:List aH) p2).bind fun x6=>some (x6,false)) else ((if decide (x2.K=1) then some (!x3.2) else some false).bind fun b6=>(if b6 then ((idx p1.Fields s2).bind fun x7=>((app s1 ([(⟨x2.S,x7⟩:aH)]:List aH)).bind fun x8=>((fJ N p0 p1 p2 k) x8 (i64.wrap (s2+1))))) else ((fJ N p0 p1 p2 k) s1 (i64.wrap (s2+1)))))))))) else some (s1,true))
def ky (N:Nat) (p0:av) (p1:aw) (p2:(List aH)):Option ((List aH) × Bool):=
  ((app ([]:List aH) p2).bind fun x1=>((if !seq p0.Kind p1.Kind then some true else some (!decide ((p0.Args.length:Int)=(p1.Fields.length:Int)))).bind fun b1=>(if b1 then some (x1,false) else fJ N p0 p1 p2 N x1 0)))
def lx (N:Nat) (p0:ag) (s1:(List aH)) (s2:Int) (K1:(List aH)→Int→Option ((List aH) × Bool)) (s3:(List aL)) (s4:Bool) (s5:ByteArray):Option ((List aH) × Bool):=
  ((idx p0.Pats s2).bind fun x3=>((ky N x3 (⟨s5,s3⟩:aw) s1).bind fun x4=>((if !s4 then some true else some (!x4.2)).bind fun b1=>(if b1 then some (s1,false) else (K1 x4.1 (i64.wrap (s2+1)))))))
def eh (N:Nat) (p0:ag) (p1:ah) (p2:(List Int)):Nat→(List aH)→Int→Option ((List aH) × Bool)
  | 0,_,_=>none
  | k+1,s1,s2=>
    (if decide (s2 < (p2.length:Int)) then ((idx p2 s2).bind fun x5=>((lD N p1 x5).bind fun x6=>lx N p0 s1 s2 (eh N p0 p1 p2 k) x6.1.Fields x6.2 x6.1.Kind)) else some (s1,true))
def iW (N:Nat) (p0:ag) (p1:ah) (p2:(List Int)):Option ((List aH) × Bool):=
  eh N p0 p1 p2 N ([]:List aH) 0
def hH (N:Nat) (s1:(List Int)) (s2:Int) (K1:(List Int)→Int→Option ((List Int))) (s3:Int):Option ((List Int)):=
  ((app s1 ([s3]:List Int)).bind fun x4=>(K1 x4 (i64.wrap (s2+1))))
def de (N:Nat) (p0:ag) (p1:aw) (p2:(List aH)):Nat→(List Int)→Int→Option ((List Int))
  | 0,_,_=>none
  | k+1,s1,s2=>
    (if decide (s2 < (p0.Pats.length:Int)) then ((idx p0.Pats s2).bind fun x1=>(if x1.Not then ((idx p0.Pats s2).bind fun x2=>((ky N x2 p1 p2).bind fun x3=>(if x3.2 then hH N s1 s2 (de N p0 p1 p2 k) 1 else hH N s1 s2 (de N p0 p1 p2 k) 0))) else ((de N p0 p1 p2 k) s1 (i64.wrap (s2+1))))) else some s1)
def nC (N:Nat) (p0:ag) (p1:aw) (p2:(List aH)):Option ((List Int)):=
  de N p0 p1 p2 N ([]:List Int) 0
def d8 (N:Nat) (p4:Int) (s2:Int) (K1:(List ab)→Int→Option ((List ab))) (x2:(List aH) × Bool) (x3:(List Int)):Nat→(List ab)→Int→Option ((List ab))
  | 0,_,_=>none
  | k+1,s3,s4=>
    ((if decide (s4 < (x3.length:Int)) then some x2.2 else some false).bind fun b1=>(if b1 then ((idx s3 s2).bind fun x4=>((idx x4.Hits s4).bind fun x5=>((idx x3 s4).bind fun x6=>((idx x4.Hits s4).bind fun x7=>((d8 N p4 s2 K1 x2 x3 k) (s3.set s2.toNat (⟨x4.Ids,(x4.Hits.set s4.toNat (i64.wrap (x5+(i64.wrap (p4*x6)))))⟩:ab)) (i64.wrap (s4+1))))))) else (K1 s3 (i64.wrap (s2+1)))))
def cj (N:Nat) (p0:ag) (p1:ah) (p3:aw) (p4:Int):Nat→(List ab)→Int→Option ((List ab))
  | 0,_,_=>none
  | k+1,s1,s2=>
    (if decide (s2 < (s1.length:Int)) then ((idx s1 s2).bind fun x1=>((iW N p0 p1 x1.Ids).bind fun x2=>((nC N p0 p3 x2.1).bind fun x3=>d8 N p4 s2 (cj N p0 p1 p3 p4 k) x2 x3 N s1 0))) else some s1)
def oT (N:Nat) (p0:ag) (p1:ah) (p2:(List ab)) (p3:aw) (p4:Int):Option ((List ab)):=
  cj N p0 p1 p3 p4 N p2 0
def kl (N:Nat) (p0:(List ab)) (p1:ag) (p2:ah) (p3:(List Int)) (p4:Int):Option ((List ab)):=
  ((app ([]:List Int) p3).bind fun x1=>((app x1 ([p4]:List Int)).bind fun x2=>((iW N p1 p2 x2).bind fun x3=>(if !x3.2 then some p0 else ((app p0 ([(⟨x2,([]:List Int)⟩:ab)]:List ab)).bind fun x4=>some x4)))))
def ek (N:Nat) (s2:Int) (K1:(List Int)→Int→Option (ab)) (x5:(List Int)):Nat→(List Int)→Int→Option (ab)
  | 0,_,_=>none
  | k+1,s3,s4=>
    (if decide (s4 < (x5.length:Int)) then ((idx s3 s4).bind fun x6=>((idx x5 s4).bind fun x7=>((idx s3 s4).bind fun x8=>((ek N s2 K1 x5 k) (s3.set s4.toNat (i64.wrap (x6+x7))) (i64.wrap (s4+1)))))) else (K1 s3 (i64.wrap (s2+1))))
def cN (N:Nat) (p0:ag) (p1:ah) (p2:ab) (x1:(List aH) × Bool):Nat→(List Int)→Int→Option (ab)
  | 0,_,_=>none
  | k+1,s1,s2=>
    (if decide (s2 < (p1.Items.length:Int)) then ((idx p1.Items s2).bind fun x4=>((nC N p0 x4.F x1.1).bind fun x5=>ek N s2 (cN N p0 p1 p2 x1 k) x5 N s1 0)) else some (⟨p2.Ids,s1⟩:ab))
def mC (N:Nat) (p0:ag) (p1:ah) (p2:ab):Option (ab):=
  ((iW N p0 p1 p2.Ids).bind fun x1=>((kA N p0).bind fun x2=>((mk 0 (i64.wrap ((p0.Pats.length:Int) - x2))).bind fun x3=>cN N p0 p1 p2 x1 N x3 0)))
def fj (N:Nat) (p0:ag) (p4:ah) (s2:(List ab)) (x12:aS) (s9:Int) (K5:(List ab)→Int→Option (aA)):Nat→(List ab)→Int→Option (aA)
  | 0,_,_=>none
  | k+1,s10,s11=>
    (if decide (s11 < (x12.L.length:Int)) then ((idx s2 s9).bind fun x13=>((idx x12.L s11).bind fun x14=>((kl N s10 p0 p4 x13.Ids x14).bind fun x15=>((fj N p0 p4 s2 x12 s9 K5 k) x15 (i64.wrap (s11+1)))))) else (K5 s10 (i64.wrap (s9+1))))
def bH (N:Nat) (p0:ag) (p4:ah) (x1:aF) (s1:(List aa)) (s3:Int) (K1:(List aa)→(List ab)→Int→Option (aA)):Nat→(List ab)→Int→Option (aA)
  | 0,_,_=>none
  | k+1,s12,s13=>
    ((if decide (s13 < (s12.length:Int)) then some (decide (s3=i64.wrap ((x1.Levels.length:Int) - 1))) else some false).bind fun b3=>(if b3 then ((idx s12 s13).bind fun x16=>((mC N p0 p4 x16).bind fun x17=>((bH N p0 p4 x1 s1 s3 K1 k) (s12.set s13.toNat x17) (i64.wrap (s13+1))))) else ((idx s1 s3).bind fun x18=>((app x18.Toks s12).bind fun x19=>(K1 (s1.set s3.toNat (⟨x19⟩:aa)) s12 (i64.wrap (s3+1)))))))
def dK (N:Nat) (p0:ag) (p4:ah) (x1:aF) (s1:(List aa)) (s2:(List ab)) (s3:Int) (K1:(List aa)→(List ab)→Int→Option (aA)) (x12:aS):Nat→(List ab)→Int→Option (aA)
  | 0,_,_=>none
  | k+1,s8,s9=>
    (if decide (s9 < (s2.length:Int)) then fj N p0 p4 s2 x12 s9 (dK N p0 p4 x1 s1 s2 s3 K1 x12 k) N s8 0 else bH N p0 p4 x1 s1 s3 K1 N s8 0)
def d9 (N:Nat) (p0:ag) (p1:ae) (p2:aA) (p4:ah) (p5:Int) (p7:(List Bool)) (x1:aF) (s1:(List aa)) (s2:(List ab)) (s3:Int) (K1:(List aa)→(List ab)→Int→Option (aA)) (s5:Int):Nat→(List ab)→Int→Option (aA)
  | 0,_,_=>none
  | k+1,s6,s7=>
    ((if decide (s7 < s5) then ((idx p1.Pos s3).bind fun x6=>((idx p7 x6).bind fun x7=>some x7)) else some false).bind fun b2=>(if b2 then ((idx s1 (i64.wrap (s3 - 1))).bind fun x8=>((idx x8.Toks s7).bind fun x9=>((kl N s6 p0 p4 x9.Ids p5).bind fun x10=>((d9 N p0 p1 p2 p4 p5 p7 x1 s1 s2 s3 K1 s5 k) x10 (i64.wrap (s7+1)))))) else ((idx p1.Pos s3).bind fun x11=>((idx p2.Alphas x11).bind fun x12=>dK N p0 p4 x1 s1 s2 s3 K1 x12 N s6 0))))
def ik (N:Nat) (p0:ag) (p1:ae) (p2:aA) (p4:ah) (p5:Int) (p7:(List Bool)) (x1:aF) (s1:(List aa)) (s2:(List ab)) (s3:Int) (K1:(List aa)→(List ab)→Int→Option (aA)) (s4:(List ab)) (s5:Int):Option (aA):=
  d9 N p0 p1 p2 p4 p5 p7 x1 s1 s2 s3 K1 s5 N s4 0
def gu (N:Nat) (p0:ag) (p1:ae) (p2:aA) (p4:ah) (p5:Int) (p7:(List Bool)) (x1:aF) (s1:(List aa)) (s2:(List ab)) (s3:Int) (K1:(List aa)→(List ab)→Int→Option (aA)) (s4:(List ab)):Option (aA):=
  (if decide (0 < s3) then ((idx s1 (i64.wrap (s3 - 1))).bind fun x20=>ik N p0 p1 p2 p4 p5 p7 x1 s1 s2 s3 K1 s4 (i64.wrap ((x20.Toks.length:Int) - (s2.length:Int)))) else ik N p0 p1 p2 p4 p5 p7 x1 s1 s2 s3 K1 s4 0)
def bi (N:Nat) (p0:ag) (p1:ae) (p2:aA) (p3:Int) (p4:ah) (p5:Int) (p7:(List Bool)) (x1:aF):Nat→(List aa)→(List ab)→Int→Option (aA)
  | 0,_,_,_=>none
  | k+1,s1,s2,s3=>
    (if decide (s3≤i64.wrap ((x1.Levels.length:Int) - 1)) then ((if decide (s3=0) then ((idx p1.Pos 0).bind fun x4=>((idx p7 x4).bind fun x5=>some x5)) else some false).bind fun b1=>(if b1 then ((kl N ([]:List ab) p0 p4 ([]:List Int) p5).bind fun x21=>gu N p0 p1 p2 p4 p5 p7 x1 s1 s2 s3 (bi N p0 p1 p2 p3 p4 p5 p7 x1 k) x21) else gu N p0 p1 p2 p4 p5 p7 x1 s1 s2 s3 (bi N p0 p1 p2 p3 p4 p5 p7 x1 k) ([]:List ab))) else some (⟨p2.Alphas,(p2.Rules.set p3.toNat (⟨s1⟩:aF))⟩:aA))
def oN (N:Nat) (p0:ag) (p1:ae) (p2:aA) (p3:Int) (p4:ah) (p5:Int) (p6:aw) (p7:(List Bool)):Option (aA):=
  ((idx p2.Rules p3).bind fun x1=>((idx x1.Levels (i64.wrap ((x1.Levels.length:Int) - 1))).bind fun x2=>((oT N p0 p4 x2.Toks p6 1).bind fun x3=>bi N p0 p1 p2 p3 p4 p5 p7 x1 N (x1.Levels.set (i64.wrap ((x1.Levels.length:Int) - 1)).toNat (⟨x3⟩:aa)) ([]:List ab) 0)))
def fZ (N:Nat) (p0:bo) (p1:bc) (p3:ah) (p4:Int) (x1:aw × Bool) (s1:(List aS)) (s2:(List Bool)):Nat→(List aF)→Int→Option (aA)
  | 0,_,_=>none
  | k+1,s4,s5=>
    (if decide (s5 < (p0.Rules.length:Int)) then ((idx p0.Rules s5).bind fun x7=>((idx p1.Chains s5).bind fun x8=>((oN N x7 x8 (⟨s1,s4⟩:aA) s5 p3 p4 x1.1 s2).bind fun x9=>((fZ N p0 p1 p3 p4 x1 s1 s2 k) x9.Rules (i64.wrap (s5+1)))))) else some (⟨s1,s4⟩:aA))
def eH (N:Nat) (p0:bo) (p1:bc) (p2:aA) (p3:ah) (p4:Int) (x1:aw × Bool):Nat→(List aS)→(List Bool)→Int→Option (aA)
  | 0,_,_,_=>none
  | k+1,s1,s2,s3=>
    (if decide (s3 < (p1.Alphas.length:Int)) then ((idx p1.Alphas s3).bind fun x2=>((qN N x2 x1.1).bind fun x3=>((app s2 ([x3]:List Bool)).bind fun x4=>(if x3 then ((idx s1 s3).bind fun x5=>((app x5.L ([p4]:List Int)).bind fun x6=>((eH N p0 p1 p2 p3 p4 x1 k) (s1.set s3.toNat (⟨x6⟩:aS)) x4 (i64.wrap (s3+1))))) else ((eH N p0 p1 p2 p3 p4 x1 k) s1 x4 (i64.wrap (s3+1))))))) else fZ N p0 p1 p3 p4 x1 s1 s2 N p2.Rules 0)
def rk (N:Nat) (p0:bo) (p1:bc) (p2:aA) (p3:ah) (p4:Int):Option (aA):=
  ((lD N p3 p4).bind fun x1=>eH N p0 p1 p2 p3 p4 x1 N p2.Alphas ([]:List Bool) 0)
def mA (N:Nat) (s1:(List aS)) (s2:(List aF)):Option (aA):=
  some (⟨s1,s2⟩:aA)
def pi (N:Nat) (p0:bo) (p1:bc) (p2:aA) (p3:ah) (p4:Int):Option (aA):=
  ((p8 N p2).bind fun x1=>((qL N p0 p1 p2 p3 p4).bind fun x2=>(if x2 then ((rk N p0 p1 x1 p3 p4).bind fun x3=>mA N x3.Alphas x3.Rules) else mA N x1.Alphas x1.Rules)))
def nS (N:Nat) (p0:aL):Option (aL):=
  some p0
def jv (N:Nat) (p0:be):Option (be):=
  ((nS N p0.V).bind fun x1=>some (⟨p0.K,p0.S,x1⟩:be))
def kX (N:Nat) (p0:(List be)):Nat→(List be)→Int→Option ((List be))
  | 0,_,_=>none
  | k+1,s1,s2=>
    (if decide (s2 < (p0.length:Int)) then ((idx p0 s2).bind fun x2=>((jv N x2).bind fun x3=>((idx s1 s2).bind fun x4=>((kX N p0 k) (s1.set s2.toNat x3) (i64.wrap (s2+1)))))) else some s1)
def qQ (N:Nat) (p0:(List be)):Option ((List be)):=
  ((mk (⟨0,(⟨#[]⟩:ByteArray),(⟨0,0,(⟨#[]⟩:ByteArray)⟩:aL)⟩:be) (p0.length:Int)).bind fun x1=>kX N p0 N x1 0)
def qn (N:Nat) (p0:av):Option (av):=
  ((qQ N p0.Args).bind fun x1=>some (⟨p0.Kind,x1,p0.Not⟩:av))
def kW (N:Nat) (p0:(List av)):Nat→(List av)→Int→Option ((List av))
  | 0,_,_=>none
  | k+1,s1,s2=>
    (if decide (s2 < (p0.length:Int)) then ((idx p0 s2).bind fun x2=>((qn N x2).bind fun x3=>((idx s1 s2).bind fun x4=>((kW N p0 k) (s1.set s2.toNat x3) (i64.wrap (s2+1)))))) else some s1)
def rj (N:Nat) (p0:(List av)):Option ((List av)):=
  ((mk (⟨(⟨#[]⟩:ByteArray),([]:List be),false⟩:av) (p0.length:Int)).bind fun x1=>kW N p0 N x1 0)
def nB (N:Nat) (p0:bn):Option (bn):=
  ((jv N p0.L).bind fun x1=>((jv N p0.R).bind fun x2=>some (⟨p0.Op,x1,x2⟩:bn)))
def jR (N:Nat) (p0:(List bn)):Nat→(List bn)→Int→Option ((List bn))
  | 0,_,_=>none
  | k+1,s1,s2=>
    (if decide (s2 < (p0.length:Int)) then ((idx p0 s2).bind fun x2=>((nB N x2).bind fun x3=>((idx s1 s2).bind fun x4=>((jR N p0 k) (s1.set s2.toNat x3) (i64.wrap (s2+1)))))) else some s1)
def oR (N:Nat) (p0:(List bn)):Option ((List bn)):=
  ((mk (⟨0,(⟨0,(⟨#[]⟩:ByteArray),(⟨0,0,(⟨#[]⟩:ByteArray)⟩:aL)⟩:be),(⟨0,(⟨#[]⟩:ByteArray),(⟨0,0,(⟨#[]⟩:ByteArray)⟩:aL)⟩:be)⟩:bn) (p0.length:Int)).bind fun x1=>jR N p0 N x1 0)
def nW (N:Nat) (p0:bk):Option (bk):=
  ((jv N p0.L).bind fun x1=>((jv N p0.R).bind fun x2=>some (⟨p0.Op,x1,x2⟩:bk)))
def jS (N:Nat) (p0:(List bk)):Nat→(List bk)→Int→Option ((List bk))
  | 0,_,_=>none
  | k+1,s1,s2=>
    (if decide (s2 < (p0.length:Int)) then ((idx p0 s2).bind fun x2=>((nW N x2).bind fun x3=>((idx s1 s2).bind fun x4=>((jS N p0 k) (s1.set s2.toNat x3) (i64.wrap (s2+1)))))) else some s1)
def oM (N:Nat) (p0:(List bk)):Option ((List bk)):=
  ((mk (⟨(⟨#[]⟩:ByteArray),(⟨0,(⟨#[]⟩:ByteArray),(⟨0,0,(⟨#[]⟩:ByteArray)⟩:aL)⟩:be),(⟨0,(⟨#[]⟩:ByteArray),(⟨0,0,(⟨#[]⟩:ByteArray)⟩:aL)⟩:be)⟩:bk) (p0.length:Int)).bind fun x1=>jS N p0 N x1 0)
def qg (N:Nat) (p0:bM):Option (bM):=
  ((oM N p0.Args).bind fun x1=>some (⟨p0.Kind,p0.Name,x1,p0.N,p0.Undo⟩:bM))
def l5 (N:Nat) (p0:(List bM)):Nat→(List bM)→Int→Option ((List bM))
  | 0,_,_=>none
  | k+1,s1,s2=>
    (if decide (s2 < (p0.length:Int)) then ((idx p0 s2).bind fun x2=>((qg N x2).bind fun x3=>((idx s1 s2).bind fun x4=>((l5 N p0 k) (s1.set s2.toNat x3) (i64.wrap (s2+1)))))) else some s1)
def rN (N:Nat) (p0:(List bM)):Option ((List bM)):=
  ((mk (⟨0,(⟨#[]⟩:ByteArray),([]:List bk),0,(⟨#[]⟩:ByteArray)⟩:bM) (p0.length:Int)).bind fun x1=>l5 N p0 N x1 0)
def o9 (N:Nat) (p0:ag):Option (ag):=
  ((rj N p0.Pats).bind fun x1=>((oR N p0.Conds).bind fun x2=>((rN N p0.Acts).bind fun x3=>some (⟨p0.Name,p0.Sal,x1,x2,x3⟩:ag))))
def jX (N:Nat) (p0:(List ag)):Nat→(List ag)→Int→Option ((List ag))
  | 0,_,_=>none
  | k+1,s1,s2=>
    (if decide (s2 < (p0.length:Int)) then ((idx p0 s2).bind fun x2=>((o9 N x2).bind fun x3=>((idx s1 s2).bind fun x4=>((jX N p0 k) (s1.set s2.toNat x3) (i64.wrap (s2+1)))))) else some s1)
def ph (N:Nat) (p0:(List ag)):Option ((List ag)):=
  ((mk (⟨(⟨#[]⟩:ByteArray),0,([]:List av),([]:List bn),([]:List bM)⟩:ag) (p0.length:Int)).bind fun x1=>jX N p0 N x1 0)
def lO (N:Nat) (p0:bo):Option (bo):=
  ((ph N p0.Rules).bind fun x1=>some (⟨p0.Name,x1⟩:bo))
def kT (N:Nat) (p0:(List aL)):Nat→(List aL)→Int→Option ((List aL))
  | 0,_,_=>none
  | k+1,s1,s2=>
    (if decide (s2 < (p0.length:Int)) then ((idx p0 s2).bind fun x2=>((nS N x2).bind fun x3=>((idx s1 s2).bind fun x4=>((kT N p0 k) (s1.set s2.toNat x3) (i64.wrap (s2+1)))))) else some s1)
def nZ (N:Nat) (p0:(List aL)):Option ((List aL)):=
  ((mk (⟨0,0,(⟨#[]⟩:ByteArray)⟩:aL) (p0.length:Int)).bind fun x1=>kT N p0 N x1 0)
def l6 (N:Nat) (p0:(List Int)):Nat→(List Int)→Int→Option ((List Int))
  | 0,_,_=>none
  | k+1,s1,s2=>
    (if decide (s2 < (p0.length:Int)) then ((idx p0 s2).bind fun x2=>((idx s1 s2).bind fun x3=>((l6 N p0 k) (s1.set s2.toNat x2) (i64.wrap (s2+1))))) else some s1)
def ia (N:Nat) (p0:(List Int)):Option ((List Int)):=
  ((mk 0 (p0.length:Int)).bind fun x1=>l6 N p0 N x1 0)
def m6 (N:Nat) (p0:a9):Option (a9):=
  ((nZ N p0.Consts).bind fun x1=>((ia N p0.At).bind fun x2=>some (⟨p0.Kind,p0.N,x1,x2⟩:a9)))
def j0 (N:Nat) (p0:(List a9)):Nat→(List a9)→Int→Option ((List a9))
  | 0,_,_=>none
  | k+1,s1,s2=>
    (if decide (s2 < (p0.length:Int)) then ((idx p0 s2).bind fun x2=>((m6 N x2).bind fun x3=>((idx s1 s2).bind fun x4=>((j0 N p0 k) (s1.set s2.toNat x3) (i64.wrap (s2+1)))))) else some s1)
def mO (N:Nat) (p0:(List a9)):Option ((List a9)):=
  ((mk (⟨(⟨#[]⟩:ByteArray),0,([]:List aL),([]:List Int)⟩:a9) (p0.length:Int)).bind fun x1=>j0 N p0 N x1 0)
def mb (N:Nat) (p0:ae):Option (ae):=
  ((ia N p0.Pos).bind fun x1=>((ia N p0.Neg).bind fun x2=>some (⟨x1,x2⟩:ae)))
def j4 (N:Nat) (p0:(List ae)):Nat→(List ae)→Int→Option ((List ae))
  | 0,_,_=>none
  | k+1,s1,s2=>
    (if decide (s2 < (p0.length:Int)) then ((idx p0 s2).bind fun x2=>((mb N x2).bind fun x3=>((idx s1 s2).bind fun x4=>((j4 N p0 k) (s1.set s2.toNat x3) (i64.wrap (s2+1)))))) else some s1)
def mB (N:Nat) (p0:(List ae)):Option ((List ae)):=
  ((mk (⟨([]:List Int),([]:List Int)⟩:ae) (p0.length:Int)).bind fun x1=>j4 N p0 N x1 0)
def lU (N:Nat) (p0:bc):Option (bc):=
  ((mO N p0.Alphas).bind fun x1=>((mB N p0.Chains).bind fun x2=>some (⟨x1,x2⟩:bc)))
def qi (N:Nat) (p0:aS):Option (aS):=
  ((ia N p0.L).bind fun x1=>some (⟨x1⟩:aS))
def l7 (N:Nat) (p0:(List aS)):Nat→(List aS)→Int→Option ((List aS))
  | 0,_,_=>none
  | k+1,s1,s2=>
    (if decide (s2 < (p0.length:Int)) then ((idx p0 s2).bind fun x2=>((qi N x2).bind fun x3=>((idx s1 s2).bind fun x4=>((l7 N p0 k) (s1.set s2.toNat x3) (i64.wrap (s2+1)))))) else some s1)
def rC (N:Nat) (p0:(List aS)):Option ((List aS)):=
  ((mk (⟨([]:List Int)⟩:aS) (p0.length:Int)).bind fun x1=>l7 N p0 N x1 0)
def qf (N:Nat) (p0:ab):Option (ab):=
  ((ia N p0.Ids).bind fun x1=>((ia N p0.Hits).bind fun x2=>some (⟨x1,x2⟩:ab)))
def l9 (N:Nat) (p0:(List ab)):Nat→(List ab)→Int→Option ((List ab))
  | 0,_,_=>none
  | k+1,s1,s2=>
    (if decide (s2 < (p0.length:Int)) then ((idx p0 s2).bind fun x2=>((qf N x2).bind fun x3=>((idx s1 s2).bind fun x4=>((l9 N p0 k) (s1.set s2.toNat x3) (i64.wrap (s2+1)))))) else some s1)
def rH (N:Nat) (p0:(List ab)):Option ((List ab)):=
  ((mk (⟨([]:List Int),([]:List Int)⟩:ab) (p0.length:Int)).bind fun x1=>l9 N p0 N x1 0)
def lH (N:Nat) (p0:aa):Option (aa):=
  ((rH N p0.Toks).bind fun x1=>some (⟨x1⟩:aa))
def j9 (N:Nat) (p0:(List aa)):Nat→(List aa)→Int→Option ((List aa))
  | 0,_,_=>none
  | k+1,s1,s2=>
    (if decide (s2 < (p0.length:Int)) then ((idx p0 s2).bind fun x2=>((lH N x2).bind fun x3=>((idx s1 s2).bind fun x4=>((j9 N p0 k) (s1.set s2.toNat x3) (i64.wrap (s2+1)))))) else some s1)
def mw (N:Nat) (p0:(List aa)):Option ((List aa)):=
  ((mk (⟨([]:List ab)⟩:aa) (p0.length:Int)).bind fun x1=>j9 N p0 N x1 0)
def qo (N:Nat) (p0:aF):Option (aF):=
  ((mw N p0.Levels).bind fun x1=>some (⟨x1⟩:aF))
def lg (N:Nat) (p0:(List aF)):Nat→(List aF)→Int→Option ((List aF))
  | 0,_,_=>none
  | k+1,s1,s2=>
    (if decide (s2 < (p0.length:Int)) then ((idx p0 s2).bind fun x2=>((qo N x2).bind fun x3=>((idx s1 s2).bind fun x4=>((lg N p0 k) (s1.set s2.toNat x3) (i64.wrap (s2+1)))))) else some s1)
def rZ (N:Nat) (p0:(List aF)):Option ((List aF)):=
  ((mk (⟨([]:List aa)⟩:aF) (p0.length:Int)).bind fun x1=>lg N p0 N x1 0)
def lN (N:Nat) (p0:aA):Option (aA):=
  ((rC N p0.Alphas).bind fun x1=>((rZ N p0.Rules).bind fun x2=>some (⟨x1,x2⟩:aA)))
def rM (N:Nat) (p0:aw):Option (aw):=
  ((nZ N p0.Fields).bind fun x1=>some (⟨p0.Kind,x1⟩:aw))
def nK (N:Nat) (p0:aC):Option (aC):=
  ((rM N p0.F).bind fun x1=>some (⟨p0.Id,x1⟩:aC))
def kg (N:Nat) (p0:(List aC)):Nat→(List aC)→Int→Option ((List aC))
  | 0,_,_=>none
  | k+1,s1,s2=>
    (if decide (s2 < (p0.length:Int)) then ((idx p0 s2).bind fun x2=>((nK N x2).bind fun x3=>((idx s1 s2).bind fun x4=>((kg N p0 k) (s1.set s2.toNat x3) (i64.wrap (s2+1)))))) else some s1)
def pe (N:Nat) (p0:(List aC)):Option ((List aC)):=
  ((mk (⟨0,(⟨(⟨#[]⟩:ByteArray),([]:List aL)⟩:aw)⟩:aC) (p0.length:Int)).bind fun x1=>kg N p0 N x1 0)
def iJ (N:Nat) (p0:ah):Option (ah):=
  ((pe N p0.Items).bind fun x1=>some (⟨x1,p0.Next⟩:ah))
def bT (N:Nat) (p0:(List Int)):Option ((List Int)):=
  ((app ([]:List Int) p0).bind fun x1=>some x1)
def fo (N:Nat) (s5:(List aa)) (s6:Int) (K3:(List aa)→Int→Option (aA)) (x5:aa):Nat→(List ab)→Int→Option (aA)
  | 0,_,_=>none
  | k+1,s7,s8=>
    (if decide (s8 < (x5.Toks.length:Int)) then ((idx x5.Toks s8).bind fun x6=>((bT N x6.Ids).bind fun x7=>((bT N x6.Hits).bind fun x8=>((app s7 ([(⟨x7,x8⟩:ab)]:List ab)).bind fun x9=>((fo N s5 s6 K3 x5 k) x9 (i64.wrap (s8+1))))))) else ((app s5 ([(⟨s7⟩:aa)]:List aa)).bind fun x10=>(K3 x10 (i64.wrap (s6+1)))))
def dY (N:Nat) (s3:(List aF)) (s4:Int) (K2:(List aF)→Int→Option (aA)) (x4:aF):Nat→(List aa)→Int→Option (aA)
  | 0,_,_=>none
  | k+1,s5,s6=>
    (if decide (s6 < (x4.Levels.length:Int)) then ((idx x4.Levels s6).bind fun x5=>fo N s5 s6 (dY N s3 s4 K2 x4 k) x5 N ([]:List ab) 0) else ((app s3 ([(⟨s5⟩:aF)]:List aF)).bind fun x11=>(K2 x11 (i64.wrap (s4+1)))))
def df (N:Nat) (p0:aA) (s1:(List aS)):Nat→(List aF)→Int→Option (aA)
  | 0,_,_=>none
  | k+1,s3,s4=>
    (if decide (s4 < (p0.Rules.length:Int)) then ((idx p0.Rules s4).bind fun x4=>dY N s3 s4 (df N p0 s1 k) x4 N ([]:List aa) 0) else some (⟨s1,s3⟩:aA))
def gw (N:Nat) (p0:aA):Nat→(List aS)→Int→Option (aA)
  | 0,_,_=>none
  | k+1,s1,s2=>
    (if decide (s2 < (p0.Alphas.length:Int)) then ((idx p0.Alphas s2).bind fun x1=>((bT N x1.L).bind fun x2=>((app s1 ([(⟨x2⟩:aS)]:List aS)).bind fun x3=>((gw N p0 k) x3 (i64.wrap (s2+1)))))) else df N p0 s1 N ([]:List aF) 0)
def oL (N:Nat) (p0:aA):Option (aA):=
  gw N p0 N ([]:List aS) 0
def cI (N:Nat) (p0:Int) (p1:Int) (p2:Int):Option (Bool):=
  ((if decide (p1≤p0) then some (decide (p0≤p2)) else some false).bind fun b1=>some b1)
def km (N:Nat) (p0:Int):Option (Bool):=
  ((if decide (97≤p0) then some (decide (p0≤122)) else some false).bind fun b1=>some b1)
def sy (N:Nat) (p0:Int):Option (Bool):=
  ((if decide (48≤p0) then some (decide (p0≤57)) else some false).bind fun b1=>some b1)
def iw (N:Nat) (p0:Int):Option (Bool):=
  ((km N p0).bind fun x1=>((if x1 then some true else ((sy N p0).bind fun x2=>some x2)).bind fun b1=>((if b1 then some true else some (decide (p0=95))).bind fun b2=>some b2)))
def eI (N:Nat) (p0:ByteArray):Nat→Int→Option (Bool)
  | 0,_=>none
  | k+1,s1=>
    (if decide (s1 < (p0.size:Int)) then ((idx p0.data.toList s1).bind fun y1=>((iw N (y1.toNat:Int)).bind fun x1=>(if !x1 then some false else ((eI N p0 k) (i64.wrap (s1+1)))))) else some true)
def nM (N:Nat) (p0:ByteArray) (p1:Int):Option (Bool):=
  (if decide (p1 < (p0.size:Int)) then some false else eI N p0 N 0)
def gr (N:Nat) (p0:ByteArray):Option (Bool):=
  ((if decide (0 < (p0.size:Int)) then ((idx p0.data.toList 0).bind fun y1=>((km N (y1.toNat:Int)).bind fun x1=>some x1)) else some false).bind fun b1=>((if b1 then ((nM N p0 12).bind fun x2=>some x2) else some false).bind fun b2=>some b2))
def dt (N:Nat) (p0:ag):Nat→Int→Int→Option (Int)
  | 0,_,_=>none
  | k+1,s1,s2=>
    (if decide (s2 < (p0.Pats.length:Int)) then ((idx p0.Pats s2).bind fun x1=>(if !x1.Not then ((dt N p0 k) (i64.wrap (s1+1)) (i64.wrap (s2+1))) else ((dt N p0 k) s1 (i64.wrap (s2+1))))) else some s1)
def iU (N:Nat) (p0:ag):Option (Int):=
  dt N p0 N 0 0
def lL (N:Nat) (p0:aL):Option (Bool):=
  (if decide (p0.K=1) then ((cI N p0.N (-1000000000) 1000000000).bind fun x1=>((if x1 then some (seq p0.S (⟨#[]⟩:ByteArray)) else some false).bind fun b1=>some b1)) else (if decide (p0.K=2) then ((if decide (p0.N=0) then ((nM N p0.S 20).bind fun x2=>some x2) else some false).bind fun b2=>some b2) else some false))
def mj (N:Nat) (p0:Int):Option (Bool):=
  ((if decide (65≤p0) then some (decide (p0≤90)) else some false).bind fun b1=>some b1)
def gU (N:Nat) (p0:ByteArray):Nat→Int→Option (Bool)
  | 0,_=>none
  | k+1,s1=>
    (if decide (s1 < (p0.size:Int)) then ((idx p0.data.toList s1).bind fun y2=>((iw N (y2.toNat:Int)).bind fun x2=>((if !x2 then ((idx p0.data.toList s1).bind fun y3=>((mj N (y3.toNat:Int)).bind fun x3=>some (!x3))) else some false).bind fun b3=>(if b3 then some false else ((gU N p0 k) (i64.wrap (s1+1))))))) else some true)
def sZ (N:Nat) (p0:ByteArray):Option (Bool):=
  ((if decide ((p0.size:Int) < 1) then some true else some (decide (12 < (p0.size:Int)))).bind fun b1=>((if b1 then some true else ((idx p0.data.toList 0).bind fun y1=>((mj N (y1.toNat:Int)).bind fun x1=>some (!x1)))).bind fun b2=>(if b2 then some false else gU N p0 N 0)))
def qv (N:Nat) (p0:be):Option (Bool):=
  (if decide (p0.K=1) then ((sZ N p0.S).bind fun x1=>((if x1 then some (bp p0.V (⟨0,0,(⟨#[]⟩:ByteArray)⟩:aL)) else some false).bind fun b1=>some b1)) else (if decide (p0.K=2) then ((if seq p0.S (⟨#[]⟩:ByteArray) then ((lL N p0.V).bind fun x2=>some x2) else some false).bind fun b2=>some b2) else (if decide (p0.K=3) then ((if seq p0.S (⟨#[]⟩:ByteArray) then some (bp p0.V (⟨0,0,(⟨#[]⟩:ByteArray)⟩:aL)) else some false).bind fun b3=>some b3) else some false)))
def gW (N:Nat) (p0:av):Nat→Int→Option (Bool)
  | 0,_=>none
  | k+1,s1=>
    (if decide (s1 < (p0.Args.length:Int)) then ((idx p0.Args s1).bind fun x2=>((qv N x2).bind fun x3=>(if !x3 then some false else ((gW N p0 k) (i64.wrap (s1+1)))))) else some true)
def tn (N:Nat) (p0:av):Option (Bool):=
  ((gr N p0.Kind).bind fun x1=>((if !x1 then some true else some (decide (5 < (p0.Args.length:Int)))).bind fun b1=>(if b1 then some false else gW N p0 N 0)))
def eQ (N:Nat) (p0:ag):Nat→Int→Option (Bool)
  | 0,_=>none
  | k+1,s1=>
    (if decide (s1 < (p0.Pats.length:Int)) then ((idx p0.Pats s1).bind fun x4=>((tn N x4).bind fun x5=>((if !x5 then some true else ((iU N p0).bind fun x6=>some (x4.Not != (decide (x6≤s1))))).bind fun b2=>(if b2 then some false else ((eQ N p0 k) (i64.wrap (s1+1))))))) else some true)
def rP (N:Nat) (p0:ag):Option (Bool):=
  ((cI N (p0.Pats.length:Int) 1 6).bind fun x1=>((if !x1 then some true else ((iU N p0).bind fun x2=>((cI N x2 1 3).bind fun x3=>some (!x3)))).bind fun b1=>(if b1 then some false else eQ N p0 N 0)))
def iX (N:Nat) (p0:be):Option (Bool):=
  ((if !decide (p0.K=3) then ((qv N p0).bind fun x1=>some x1) else some false).bind fun b1=>some b1)
def rA (N:Nat) (p0:bn):Option (Bool):=
  ((cI N p0.Op 1 3).bind fun x1=>((if x1 then ((iX N p0.L).bind fun x2=>some x2) else some false).bind fun b1=>((if b1 then ((iX N p0.R).bind fun x3=>some x3) else some false).bind fun b2=>some b2)))
def jh (N:Nat) (p0:bk) (s1:Bool):Option (Bool):=
  (if s1 then ((iX N p0.L).bind fun x2=>((if x2 then ((iX N p0.R).bind fun x3=>some x3) else some false).bind fun b2=>some b2)) else some false)
def qF (N:Nat) (p0:bk):Option (Bool):=
  (if seq p0.Op (⟨#[]⟩:ByteArray) then ((iX N p0.L).bind fun x1=>((if x1 then some (sc p0.R (⟨0,(⟨#[]⟩:ByteArray),(⟨0,0,(⟨#[]⟩:ByteArray)⟩:aL)⟩:be)) else some false).bind fun b1=>some b1)) else (if seq p0.Op (⟨#[43]⟩:ByteArray) then jh N p0 (seq p0.Op (⟨#[43]⟩:ByteArray)) else jh N p0 (seq p0.Op (⟨#[45]⟩:ByteArray))))
def eJ (N:Nat) (p0:bM):Nat→Int→Option (Bool)
  | 0,_=>none
  | k+1,s1=>
    (if decide (s1 < (p0.Args.length:Int)) then ((idx p0.Args s1).bind fun x2=>((qF N x2).bind fun x3=>(if !x3 then some false else ((eJ N p0 k) (i64.wrap (s1+1)))))) else some true)
def lG (N:Nat) (p0:bM):Option (Bool):=
  ((gr N p0.Name).bind fun x1=>((if !x1 then some true else some (decide (5 < (p0.Args.length:Int)))).bind fun b1=>(if b1 then some false else eJ N p0 N 0)))
def tR (N:Nat) (p0:ByteArray):Option (Bool):=
  ((if seq p0 (⟨#[]⟩:ByteArray) then some true else ((gr N p0).bind fun x1=>some x1)).bind fun b1=>some b1)
def kx (N:Nat) (p0:bM) (b1:Bool) (s1:Bool):Option (Bool):=
  (if s1 then ((if b1 then some (decide (p0.N=0)) else some false).bind fun b10=>((if b10 then some (seq p0.Undo (⟨#[]⟩:ByteArray)) else some false).bind fun b11=>some b11)) else some false)
def t8 (N:Nat) (p0:bM):Option (Bool):=
  ((if seq p0.Name (⟨#[]⟩:ByteArray) then some (decide ((p0.Args.length:Int)=0)) else some false).bind fun b1=>(if decide (p0.Kind=1) then ((lG N p0).bind fun x1=>((if x1 then some (decide (p0.N=0)) else some false).bind fun b2=>((if b2 then some (seq p0.Undo (⟨#[]⟩:ByteArray)) else some false).bind fun b3=>some b3))) else (if decide (p0.Kind=2) then ((if b1 then ((cI N p0.N 0 7).bind fun x2=>some x2) else some false).bind fun b4=>((if b4 then some (seq p0.Undo (⟨#[]⟩:ByteArray)) else some false).bind fun b5=>some b5)) else (if decide (p0.Kind=3) then ((lG N p0).bind fun x3=>((if x3 then some (decide (p0.N=0)) else some false).bind fun b6=>((if b6 then ((tR N p0.Undo).bind fun x4=>some x4) else some false).bind fun b7=>some b7))) else (if decide (p0.Kind=4) then ((lG N p0).bind fun x5=>((if x5 then ((cI N p0.N 0 100000).bind fun x6=>some x6) else some false).bind fun b8=>((if b8 then some (seq p0.Undo (⟨#[]⟩:ByteArray)) else some false).bind fun b9=>some b9))) else (if decide (p0.Kind=5) then kx N p0 b1 (decide (p0.Kind=5)) else kx N p0 b1 (decide (p0.Kind=6))))))))
def bj (N:Nat) (p0:(List ByteArray)) (p1:ByteArray):Nat→Int→Option (Int)
  | 0,_=>none
  | k+1,s1=>
    (if decide (s1 < (p0.length:Int)) then ((idx p0 s1).bind fun x1=>(if seq p1 x1 then some s1 else ((bj N p0 p1 k) (i64.wrap (s1+1))))) else some (-1))
def cX (N:Nat) (p0:(List ByteArray)) (p1:ByteArray):Option (Int):=
  bj N p0 p1 N 0
def bL (N:Nat) (p0:(List ByteArray)) (p1:ByteArray):Option (Bool):=
  ((cX N p0 p1).bind fun x1=>some (decide (0≤x1)))
def oB (N:Nat) (p0:(List ByteArray)) (p1:ByteArray):Option ((List ByteArray)):=
  ((bL N p0 p1).bind fun x1=>(if x1 then some p0 else ((app p0 ([p1]:List ByteArray)).bind fun x2=>some x2)))
def fc (N:Nat) (p1:(List be)):Nat→(List ByteArray)→Int→Option ((List ByteArray))
  | 0,_,_=>none
  | k+1,s1,s2=>
    (if decide (s2 < (p1.length:Int)) then ((idx p1 s2).bind fun x1=>(if decide (x1.K=1) then ((oB N s1 x1.S).bind fun x2=>((fc N p1 k) x2 (i64.wrap (s2+1)))) else ((fc N p1 k) s1 (i64.wrap (s2+1))))) else some s1)
def kf (N:Nat) (p0:(List ByteArray)) (p1:(List be)):Option ((List ByteArray)):=
  fc N p1 N p0 0
def fk (N:Nat) (p0:ag):Nat→(List ByteArray)→Int→Option ((List ByteArray))
  | 0,_,_=>none
  | k+1,s1,s2=>
    (if decide (s2 < (p0.Pats.length:Int)) then ((idx p0.Pats s2).bind fun x1=>(if !x1.Not then ((kf N s1 x1.Args).bind fun x2=>((fk N p0 k) x2 (i64.wrap (s2+1)))) else ((fk N p0 k) s1 (i64.wrap (s2+1))))) else some s1)
def lV (N:Nat) (p0:ag):Option ((List ByteArray)):=
  fk N p0 N ([]:List ByteArray) 0
def em (N:Nat) (s4:Int) (K2:(List ByteArray)→Int→Option ((List ByteArray))) (x3:bM):Nat→(List ByteArray)→Int→Option ((List ByteArray))
  | 0,_,_=>none
  | k+1,s5,s6=>
    (if decide (s6 < (x3.Args.length:Int)) then ((idx x3.Args s6).bind fun x4=>((kf N s5 ([x4.L,x4.R]:List be)).bind fun x5=>((em N s4 K2 x3 k) x5 (i64.wrap (s6+1))))) else (K2 s5 (i64.wrap (s4+1))))
def cO (N:Nat) (p0:ag):Nat→(List ByteArray)→Int→Option ((List ByteArray))
  | 0,_,_=>none
  | k+1,s3,s4=>
    (if decide (s4 < (p0.Acts.length:Int)) then ((idx p0.Acts s4).bind fun x3=>em N s4 (cO N p0 k) x3 N s3 0) else some s3)
def fD (N:Nat) (p0:ag):Nat→(List ByteArray)→Int→Option ((List ByteArray))
  | 0,_,_=>none
  | k+1,s1,s2=>
    (if decide (s2 < (p0.Conds.length:Int)) then ((idx p0.Conds s2).bind fun x1=>((kf N s1 ([x1.L,x1.R]:List be)).bind fun x2=>((fD N p0 k) x2 (i64.wrap (s2+1))))) else cO N p0 N s1 0)
def ni (N:Nat) (p0:ag):Option ((List ByteArray)):=
  fD N p0 N ([]:List ByteArray) 0
def eR (N:Nat) (x10:(List ByteArray)) (x11:(List ByteArray)):Nat→Int→Option (Bool)
  | 0,_=>none
  | k+1,s3=>
    (if decide (s3 < (x11.length:Int)) then ((idx x11 s3).bind fun x12=>((bL N x10 x12).bind fun x13=>(if !x13 then some false else ((eR N x10 x11 k) (i64.wrap (s3+1)))))) else some true)
def eZ (N:Nat) (p0:ag):Nat→Int→Option (Bool)
  | 0,_=>none
  | k+1,s2=>
    (if decide (s2 < (p0.Acts.length:Int)) then ((idx p0.Acts s2).bind fun x7=>((t8 N x7).bind fun x8=>((if !x8 then some true else ((if decide (x7.Kind=2) then ((iU N p0).bind fun x9=>some (decide (x9≤x7.N))) else some false).bind fun b5=>some b5)).bind fun b4=>(if b4 then some false else ((eZ N p0 k) (i64.wrap (s2+1))))))) else ((lV N p0).bind fun x10=>((ni N p0).bind fun x11=>eR N x10 x11 N 0)))
def eO (N:Nat) (p0:ag):Nat→Int→Option (Bool)
  | 0,_=>none
  | k+1,s1=>
    (if decide (s1 < (p0.Conds.length:Int)) then ((idx p0.Conds s1).bind fun x5=>((rA N x5).bind fun x6=>(if !x6 then some false else ((eO N p0 k) (i64.wrap (s1+1)))))) else eZ N p0 N 0)
def qy (N:Nat) (p0:ag):Option (Bool):=
  ((gr N p0.Name).bind fun x1=>((if !x1 then some true else ((cI N p0.Sal (-100) 100).bind fun x2=>some (!x2))).bind fun b1=>((if b1 then some true else ((rP N p0).bind fun x3=>some (!x3))).bind fun b2=>(if b2 then some false else ((if decide (6 < (p0.Conds.length:Int)) then some true else ((cI N (p0.Acts.length:Int) 1 6).bind fun x4=>some (!x4))).bind fun b3=>(if b3 then some false else eO N p0 N 0))))))
def bb (N:Nat) (p0:(List ag)) (p1:ag→Option (Bool)):Nat→Int→Option (Int)
  | 0,_=>none
  | k+1,s1=>
    (if decide (s1 < (p0.length:Int)) then ((idx p0 s1).bind fun x1=>((p1 x1).bind fun x2=>(if x2 then some s1 else ((bb N p0 p1 k) (i64.wrap (s1+1)))))) else some (-1))
def d5 (N:Nat) (p0:(List ag)) (p1:ag→Option (Bool)):Option (Int):=
  bb N p0 p1 N 0
def jx (N:Nat) (p0:ag) (c0:ByteArray):Option (Bool):=
  some (seq p0.Name c0)
def sf (N:Nat) (p0:bo) (p1:ByteArray):Option (Int):=
  ((d5 N p0.Rules (fun a0=>jx N a0 p1)).bind fun x1=>some x1)
def fN (N:Nat) (p0:bo):Nat→Int→Option (Bool)
  | 0,_=>none
  | k+1,s1=>
    (if decide (s1 < (p0.Rules.length:Int)) then ((idx p0.Rules s1).bind fun x3=>((qy N x3).bind fun x4=>((if !x4 then some true else ((sf N p0 x3.Name).bind fun x5=>some (!decide (x5=s1)))).bind fun b2=>(if b2 then some false else ((fN N p0 k) (i64.wrap (s1+1))))))) else some true)
def tB (N:Nat) (p0:bo):Option (Bool):=
  ((gr N p0.Name).bind fun x1=>((if !x1 then some true else ((cI N (p0.Rules.length:Int) 1 12).bind fun x2=>some (!x2))).bind fun b1=>(if b1 then some false else fN N p0 N 0)))
def bh (N:Nat) (p0:(List aL)) (p1:(List aL)):Nat→Int→Option (Bool)
  | 0,_=>none
  | k+1,s1=>
    (if decide (s1 < (p0.length:Int)) then ((idx p0 s1).bind fun x1=>((idx p1 s1).bind fun x2=>(if !(bp x1 x2) then some false else ((bh N p0 p1 k) (i64.wrap (s1+1)))))) else some true)
def bI (N:Nat) (p0:(List aL)) (p1:(List aL)):Option (Bool):=
  (if !decide ((p0.length:Int)=(p1.length:Int)) then some false else bh N p0 p1 N 0)
def cQ (N:Nat) (p0:(List Int)) (p1:(List Int)):Nat→Int→Option (Bool)
  | 0,_=>none
  | k+1,s1=>
    (if decide (s1 < (p0.length:Int)) then ((idx p0 s1).bind fun x1=>((idx p1 s1).bind fun x2=>(if !decide (x1=x2) then some false else ((cQ N p0 p1 k) (i64.wrap (s1+1)))))) else some true)
def cY (N:Nat) (p0:(List Int)) (p1:(List Int)):Option (Bool):=
  (if !decide ((p0.length:Int)=(p1.length:Int)) then some false else cQ N p0 p1 N 0)
def dG (N:Nat) (p0:a9) (p1:a9):Option (Bool):=
  ((if seq p0.Kind p1.Kind then some (decide (p0.N=p1.N)) else some false).bind fun b1=>((if b1 then ((bI N p0.Consts p1.Consts).bind fun x1=>some x1) else some false).bind fun b2=>((if b2 then ((cY N p0.At p1.At).bind fun x2=>some x2) else some false).bind fun b3=>some b3)))
def ff (N:Nat) (p0:av):Nat→(List aL)→(List Int)→Int→Option (a9)
  | 0,_,_,_=>none
  | k+1,s1,s2,s3=>
    (if decide (s3 < (p0.Args.length:Int)) then ((idx p0.Args s3).bind fun x1=>(if decide (x1.K=2) then ((app s1 ([x1.V]:List aL)).bind fun x2=>((app s2 ([s3]:List Int)).bind fun x3=>((ff N p0 k) x2 x3 (i64.wrap (s3+1))))) else ((ff N p0 k) s1 s2 (i64.wrap (s3+1))))) else some (⟨p0.Kind,(p0.Args.length:Int),s1,s2⟩:a9))
def oS (N:Nat) (p0:av):Option (a9):=
  ff N p0 N ([]:List aL) ([]:List Int) 0
def cC (N:Nat) (p0:bc) (x1:a9):Nat→Int→Option (Int × bc)
  | 0,_=>none
  | k+1,s1=>
    (if decide (s1 < (p0.Alphas.length:Int)) then ((idx p0.Alphas s1).bind fun x2=>((dG N x2 x1).bind fun x3=>(if x3 then some (s1,p0) else ((cC N p0 x1 k) (i64.wrap (s1+1)))))) else ((app p0.Alphas ([x1]:List a9)).bind fun x4=>some (i64.wrap ((x4.length:Int) - 1),(⟨x4,p0.Chains⟩:bc))))
def ja (N:Nat) (p0:bc) (p1:av):Option (Int × bc):=
  ((oS N p1).bind fun x1=>cC N p0 x1 N 0)
def fR (N:Nat) (s2:(List ae)) (s3:Int) (K1:(List a9)→(List ae)→Int→Option (bc)) (x1:ag):Nat→(List a9)→(List Int)→(List Int)→Int→Option (bc)
  | 0,_,_,_,_=>none
  | k+1,s4,s5,s6,s7=>
    (if decide (s7 < (x1.Pats.length:Int)) then ((idx x1.Pats s7).bind fun x2=>((ja N (⟨s4,s2⟩:bc) x2).bind fun x3=>(if x2.Not then ((app s5 ([x3.1]:List Int)).bind fun x4=>((fR N s2 s3 K1 x1 k) x3.2.Alphas x4 s6 (i64.wrap (s7+1)))) else ((app s6 ([x3.1]:List Int)).bind fun x5=>((fR N s2 s3 K1 x1 k) x3.2.Alphas s5 x5 (i64.wrap (s7+1))))))) else ((app s2 ([(⟨s6,s5⟩:ae)]:List ae)).bind fun x6=>(K1 s4 x6 (i64.wrap (s3+1)))))
def eK (N:Nat) (p0:bo):Nat→(List a9)→(List ae)→Int→Option (bc)
  | 0,_,_,_=>none
  | k+1,s1,s2,s3=>
    (if decide (s3 < (p0.Rules.length:Int)) then ((idx p0.Rules s3).bind fun x1=>fR N s2 s3 (eK N p0 k) x1 N s1 ([]:List Int) ([]:List Int) 0) else some (⟨s1,s2⟩:bc))
def te (N:Nat) (p0:bo):Option (bc):=
  eK N p0 N ([]:List a9) ([]:List ae) 0
def aE (N:Nat) (p0:(List a9)) (p1:(List a9)) (p2:a9→a9→Option (Bool)):Nat→Int→Option (Bool)
  | 0,_=>none
  | k+1,s1=>
    (if decide (s1 < (p0.length:Int)) then ((idx p0 s1).bind fun x1=>((idx p1 s1).bind fun x2=>((p2 x1 x2).bind fun x3=>(if !x3 then some false else ((aE N p0 p1 p2 k) (i64.wrap (s1+1))))))) else some true)
def aX (N:Nat) (p0:(List a9)) (p1:(List a9)) (p2:a9→a9→Option (Bool)):Option (Bool):=
  (if !decide ((p0.length:Int)=(p1.length:Int)) then some false else aE N p0 p1 p2 N 0)
def aD (N:Nat) (p0:(List ae)) (p1:(List ae)) (p2:ae→ae→Option (Bool)):Nat→Int→Option (Bool)
  | 0,_=>none
  | k+1,s1=>
    (if decide (s1 < (p0.length:Int)) then ((idx p0 s1).bind fun x1=>((idx p1 s1).bind fun x2=>((p2 x1 x2).bind fun x3=>(if !x3 then some false else ((aD N p0 p1 p2 k) (i64.wrap (s1+1))))))) else some true)
def aZ (N:Nat) (p0:(List ae)) (p1:(List ae)) (p2:ae→ae→Option (Bool)):Option (Bool):=
  (if !decide ((p0.length:Int)=(p1.length:Int)) then some false else aD N p0 p1 p2 N 0)
def eP (N:Nat) (p0:ae) (p1:ae):Option (Bool):=
  ((cY N p0.Pos p1.Pos).bind fun x1=>((if x1 then ((cY N p0.Neg p1.Neg).bind fun x2=>some x2) else some false).bind fun b1=>some b1))
def td (N:Nat) (p0:bc) (p1:bo):Option (Bool):=
  ((tB N p1).bind fun x1=>(if !x1 then some false else ((te N p1).bind fun x2=>((aX N p0.Alphas x2.Alphas (dG N)).bind fun x3=>((if x3 then ((aZ N p0.Chains x2.Chains (eP N)).bind fun x4=>some x4) else some false).bind fun b1=>some b1)))))
def f8 (N:Nat) (p0:aw):Nat→Int→Option (Bool)
  | 0,_=>none
  | k+1,s1=>
    (if decide (s1 < (p0.Fields.length:Int)) then ((idx p0.Fields s1).bind fun x2=>((lL N x2).bind fun x3=>(if !x3 then some false else ((f8 N p0 k) (i64.wrap (s1+1)))))) else some true)
def qZ (N:Nat) (p0:aw):Option (Bool):=
  ((gr N p0.Kind).bind fun x1=>((if !x1 then some true else some (decide (5 < (p0.Fields.length:Int)))).bind fun b1=>(if b1 then some false else f8 N p0 N 0)))
def mv (N:Nat) (p0:aw) (p1:aw):Option (Bool):=
  ((if seq p0.Kind p1.Kind then ((bI N p0.Fields p1.Fields).bind fun x1=>some x1) else some false).bind fun b1=>some b1)
def dP (N:Nat) (s1:Int) (K1:Int→Option (Bool)) (x2:aC) (x6:(List aC)):Nat→Int→Option (Bool)
  | 0,_=>none
  | k+1,s2=>
    (if decide (s2 < (x6.length:Int)) then ((idx x6 s2).bind fun x7=>((mv N x2.F x7.F).bind fun x8=>(if x8 then some false else ((dP N s1 K1 x2 x6 k) (i64.wrap (s2+1)))))) else (K1 (i64.wrap (s1+1))))
def cH (N:Nat) (p0:ah):Nat→Int→Option (Bool)
  | 0,_=>none
  | k+1,s1=>
    (if decide (s1 < (p0.Items.length:Int)) then ((idx p0.Items s1).bind fun x2=>((qZ N x2.F).bind fun x3=>((if !x3 then some true else ((cI N x2.Id 1 (i64.wrap (p0.Next - 1))).bind fun x4=>some (!x4))).bind fun b2=>((if b2 then some true else ((if decide (0 < s1) then ((idx p0.Items (i64.wrap (s1 - 1))).bind fun x5=>some (decide (x2.Id≤x5.Id))) else some false).bind fun b4=>some b4)).bind fun b3=>(if b3 then some false else ((ssl p0.Items 0 s1).bind fun x6=>dP N s1 (cH N p0 k) x2 x6 N 0)))))) else some true)
def oW (N:Nat) (p0:ah):Option (Bool):=
  ((if decide (40 < (p0.Items.length:Int)) then some true else ((cI N p0.Next 1 1000000).bind fun x1=>some (!x1))).bind fun b1=>(if b1 then some false else cH N p0 N 0))
def f7 (N:Nat) (s2:Int) (K2:Int→Option (Bool)) (x3:aa) (s3:Int):Nat→Int→Option (Bool)
  | 0,_=>none
  | k+1,s4=>
    (if decide (s4 < (x3.Toks.length:Int)) then ((idx x3.Toks s4).bind fun x4=>((if !decide ((x4.Ids.length:Int)=i64.wrap (s2+1)) then some true else some (!decide ((x4.Hits.length:Int)=s3))).bind fun b2=>(if b2 then some false else ((f7 N s2 K2 x3 s3 k) (i64.wrap (s4+1)))))) else (K2 (i64.wrap (s2+1))))
def i7 (N:Nat) (s2:Int) (K2:Int→Option (Bool)) (x3:aa) (s3:Int):Option (Bool):=
  f7 N s2 K2 x3 s3 N 0
def bX (N:Nat) (s1:Int) (K1:Int→Option (Bool)) (x1:aF) (x2:ae):Nat→Int→Option (Bool)
  | 0,_=>none
  | k+1,s2=>
    (if decide (s2 < (x1.Levels.length:Int)) then ((idx x1.Levels s2).bind fun x3=>(if decide (s2=i64.wrap ((x2.Pos.length:Int) - 1)) then i7 N s2 (bX N s1 K1 x1 x2 k) x3 (x2.Neg.length:Int) else i7 N s2 (bX N s1 K1 x1 x2 k) x3 0)) else (K1 (i64.wrap (s1+1))))
def bK (N:Nat) (p0:bc) (p1:aA):Nat→Int→Option (Bool)
  | 0,_=>none
  | k+1,s1=>
    (if decide (s1 < (p1.Rules.length:Int)) then ((idx p1.Rules s1).bind fun x1=>((idx p0.Chains s1).bind fun x2=>(if !decide ((x1.Levels.length:Int)=(x2.Pos.length:Int)) then some false else bX N s1 (bK N p0 p1 k) x1 x2 N 0))) else some true)
def rc (N:Nat) (p0:bc) (p1:aA):Option (Bool):=
  ((if !decide ((p1.Alphas.length:Int)=(p0.Alphas.length:Int)) then some true else some (!decide ((p1.Rules.length:Int)=(p0.Chains.length:Int)))).bind fun b1=>(if b1 then some false else bK N p0 p1 N 0))
def fv (N:Nat) (p0:(List aL)):Option ((List aL)):=
  ((app ([]:List aL) p0).bind fun x1=>some x1)
def mM (N:Nat) (p0:aw):Option (aw):=
  ((fv N p0.Fields).bind fun x1=>some (⟨p0.Kind,x1⟩:aw))
def ge (N:Nat) (p0:ah) (p1:Int):Nat→Int→Option (aw × Bool)
  | 0,_=>none
  | k+1,s1=>
    (if decide (s1 < (p0.Items.length:Int)) then ((idx p0.Items s1).bind fun x1=>(if decide (x1.Id=p1) then ((mM N x1.F).bind fun x2=>some (x2,true)) else ((ge N p0 p1 k) (i64.wrap (s1+1))))) else some ((⟨(⟨#[]⟩:ByteArray),[]⟩:aw),false))
def jW (N:Nat) (p0:ah) (p1:Int):Option (aw × Bool):=
  ge N p0 p1 N 0
def rb (N:Nat) (p0:bo) (p1:bc) (p2:aA) (p3:ah) (p4:Int):Option (Bool):=
  ((td N p1 p0).bind fun x1=>((if !x1 then some true else ((oW N p3).bind fun x2=>some (!x2))).bind fun b1=>((if b1 then some true else ((rc N p1 p2).bind fun x3=>some (!x3))).bind fun b2=>(if b2 then some false else ((jW N p3 p4).bind fun x4=>some x4.2)))))
def hU (N:Nat) (p0:a9) (p1:aw):Nat→Int→Option (Bool)
  | 0,_=>none
  | k+1,s1=>
    (if decide (s1 < (p0.At.length:Int)) then ((idx p0.At s1).bind fun x1=>((if decide (x1 < 0) then some true else some (decide ((p1.Fields.length:Int)≤x1))).bind fun b2=>((if b2 then some true else some (decide ((p0.Consts.length:Int)≤s1))).bind fun b3=>((if b3 then some true else ((idx p1.Fields x1).bind fun x2=>((idx p0.Consts s1).bind fun x3=>some (!(bp x2 x3))))).bind fun b4=>(if b4 then some false else ((hU N p0 p1 k) (i64.wrap (s1+1)))))))) else some true)
def rz (N:Nat) (p0:a9) (p1:aw):Option (Bool):=
  ((if !seq p1.Kind p0.Kind then some true else some (!decide ((p1.Fields.length:Int)=p0.N))).bind fun b1=>(if b1 then some false else hU N p0 p1 N 0))
def iH (N:Nat) (p0:ag) (p1:Bool):Nat→(List av)→Int→Option ((List av))
  | 0,_,_=>none
  | k+1,s1,s2=>
    (if decide (s2 < (p0.Pats.length:Int)) then ((idx p0.Pats s2).bind fun x1=>(if (x1.Not == p1) then ((app s1 ([x1]:List av)).bind fun x2=>((iH N p0 p1 k) x2 (i64.wrap (s2+1)))) else ((iH N p0 p1 k) s1 (i64.wrap (s2+1))))) else some s1)
def tr (N:Nat) (p0:ag) (p1:Bool):Option ((List av)):=
  iH N p0 p1 N ([]:List av) 0
def pU (N:Nat) (p0:bo) (p1:bc) (p2:aA) (p3:ah) (p4:Int) (p5:Int):Option (cA):=
  ((idx p0.Rules p5).bind fun x1=>((idx p1.Chains p5).bind fun x2=>((tr N x1 false).bind fun x3=>((tr N x1 true).bind fun x4=>some (⟨x3,x4,x2,p2.Alphas,p3,p4⟩:cA)))))
def bw (N:Nat) (p0:(List aH)):Option ((List aH)):=
  ((app ([]:List aH) p0).bind fun x1=>some x1)
def i9 (N:Nat) (p0:(List aH)) (p1:ByteArray):Nat→Int→Option (aL × Bool)
  | 0,_=>none
  | k+1,s1=>
    (if decide (s1 < (p0.length:Int)) then ((idx p0 s1).bind fun x1=>(if seq x1.Name p1 then some (x1.V,true) else ((i9 N p0 p1 k) (i64.wrap (s1+1))))) else some ((⟨0,0,(⟨#[]⟩:ByteArray)⟩:aL),false))
def rY (N:Nat) (p0:(List aH)) (p1:ByteArray):Option (aL × Bool):=
  i9 N p0 p1 N 0
def dl (N:Nat) (p0:av) (p1:aw) (p2:(List aH)):Nat→(List aH)→Int→Option ((List aH) × Bool)
  | 0,_,_=>none
  | k+1,s1,s2=>
    (if decide (s2 < (p0.Args.length:Int)) then ((idx p0.Args s2).bind fun x3=>((idx p1.Fields s2).bind fun x4=>(if decide (x3.K=2) then (if !(bp x3.V x4) then ((bw N p2).bind fun x5=>some (x5,false)) else ((dl N p0 p1 p2 k) s1 (i64.wrap (s2+1)))) else (if decide (x3.K=1) then ((rY N s1 x3.S).bind fun x6=>((if x6.2 then some (!(bp x6.1 x4)) else some false).bind fun b2=>(if b2 then ((bw N p2).bind fun x7=>some (x7,false)) else (if !x6.2 then ((app s1 ([(⟨x3.S,x4⟩:aH)]:List aH)).bind fun x8=>((dl N p0 p1 p2 k) x8 (i64.wrap (s2+1)))) else ((dl N p0 p1 p2 k) s1 (i64.wrap (s2+1))))))) else ((dl N p0 p1 p2 k) s1 (i64.wrap (s2+1))))))) else some (s1,true))
def iM (N:Nat) (p0:av) (p1:aw) (p2:(List aH)):Option ((List aH) × Bool):=
  ((if !seq p1.Kind p0.Kind then some true else some (!decide ((p1.Fields.length:Int)=(p0.Args.length:Int)))).bind fun b1=>(if b1 then ((bw N p2).bind fun x1=>some (x1,false)) else ((bw N p2).bind fun x2=>dl N p0 p1 p2 N x2 0)))
def gv (N:Nat) (p0:(List av)) (p1:ah) (p2:(List Int)):Nat→(List aH)→Int→Option ((List aH) × Bool)
  | 0,_,_=>none
  | k+1,s1,s2=>
    (if decide (s2 < (p2.length:Int)) then ((idx p2 s2).bind fun x1=>((jW N p1 x1).bind fun x2=>(if !x2.2 then some ([],false) else ((idx p0 s2).bind fun x3=>((iM N x3 x2.1 s1).bind fun x4=>(if !x4.2 then some ([],false) else ((gv N p0 p1 p2 k) x4.1 (i64.wrap (s2+1))))))))) else some (s1,true))
def mf (N:Nat) (p0:(List av)) (p1:ah) (p2:(List Int)):Option ((List aH) × Bool):=
  gv N p0 p1 p2 N ([]:List aH) 0
def bU (N:Nat) (p0:cA) (p2:Int) (x1:aw × Bool) (s1:(List ab)) (s2:Int) (K1:(List ab)→Int→Option ((List ab))) (x2:ab) (x3:(List aH) × Bool):Nat→(List Int)→Int→Option ((List ab))
  | 0,_,_=>none
  | k+1,s3,s4=>
    (if decide (s4 < (p0.neg.length:Int)) then ((idx p0.neg s4).bind fun x4=>((iM N x4 x1.1 x3.1).bind fun x5=>(if x5.2 then ((idx s3 s4).bind fun x6=>((idx s3 s4).bind fun x7=>((bU N p0 p2 x1 s1 s2 K1 x2 x3 k) (s3.set s4.toNat (i64.wrap (x6+p2))) (i64.wrap (s4+1))))) else ((bU N p0 p2 x1 s1 s2 K1 x2 x3 k) s3 (i64.wrap (s4+1)))))) else (K1 (s1.set s2.toNat (⟨x2.Ids,s3⟩:ab)) (i64.wrap (s2+1))))
def bA (N:Nat) (p0:cA) (p1:(List ab)) (p2:Int) (x1:aw × Bool):Nat→(List ab)→Int→Option ((List ab))
  | 0,_,_=>none
  | k+1,s1,s2=>
    (if decide (s2 < (p1.length:Int)) then ((idx s1 s2).bind fun x2=>((mf N p0.pos p0.s x2.Ids).bind fun x3=>(if !x3.2 then ((bA N p0 p1 p2 x1 k) s1 (i64.wrap (s2+1))) else bU N p0 p2 x1 s1 s2 (bA N p0 p1 p2 x1 k) x2 x3 N x2.Hits 0))) else some s1)
def gi (N:Nat) (p0:cA) (p1:(List ab)) (p2:Int):Option ((List ab)):=
  ((jW N p0.s p0.id).bind fun x1=>bA N p0 p1 p2 x1 N p1 0)
def eX (N:Nat) (p0:av) (p1:ah) (p2:(List aH)):Nat→Int→Int→Option (Int)
  | 0,_,_=>none
  | k+1,s1,s2=>
    (if decide (s2 < (p1.Items.length:Int)) then ((idx p1.Items s2).bind fun x1=>((iM N p0 x1.F p2).bind fun x2=>(if x2.2 then ((eX N p0 p1 p2 k) (i64.wrap (s1+1)) (i64.wrap (s2+1))) else ((eX N p0 p1 p2 k) s1 (i64.wrap (s2+1)))))) else some s1)
def qD (N:Nat) (p0:av) (p1:ah) (p2:(List aH)):Option (Int):=
  eX N p0 p1 p2 N 0 0
def bY (N:Nat) (s1:(List ab)) (s2:Int) (K1:(List ab)→Int→Option ((List ab))) (x3:(List Int)) (s3:(List Int)):Option ((List ab)):=
  ((app s1 ([(⟨x3,s3⟩:ab)]:List ab)).bind fun x5=>(K1 x5 (i64.wrap (s2+1))))
def ce (N:Nat) (p0:cA) (s1:(List ab)) (s2:Int) (K1:(List ab)→Int→Option ((List ab))) (x3:(List Int)) (x4:(List aH) × Bool):Nat→(List Int)→Int→Option ((List ab))
  | 0,_,_=>none
  | k+1,s4,s5=>
    (if decide (s5 < (p0.neg.length:Int)) then ((idx p0.neg s5).bind fun x6=>((qD N x6 p0.s x4.1).bind fun x7=>((app s4 ([x7]:List Int)).bind fun x8=>((ce N p0 s1 s2 K1 x3 x4 k) x8 (i64.wrap (s5+1)))))) else bY N s1 s2 K1 x3 s4)
def bq (N:Nat) (p0:cA) (p1:(List Int)) (p2:(List Int)):Nat→(List ab)→Int→Option ((List ab))
  | 0,_,_=>none
  | k+1,s1,s2=>
    (if decide (s2 < (p2.length:Int)) then ((idx p2 s2).bind fun x1=>((bT N p1).bind fun x2=>((app x2 ([x1]:List Int)).bind fun x3=>((mf N p0.pos p0.s x3).bind fun x4=>(if !x4.2 then ((bq N p0 p1 p2 k) s1 (i64.wrap (s2+1))) else (if decide ((x3.length:Int)=(p0.pos.length:Int)) then ce N p0 s1 s2 (bq N p0 p1 p2 k) x3 x4 N ([]:List Int) 0 else bY N s1 s2 (bq N p0 p1 p2 k) x3 ([]:List Int))))))) else some s1)
def dT (N:Nat) (p0:cA) (p1:(List Int)) (p2:(List Int)):Option ((List ab)):=
  bq N p0 p1 p2 N ([]:List ab) 0
def lX (N:Nat) (p0:(List ab)):Option ((List ab)):=
  ((app ([]:List ab) p0).bind fun x1=>some x1)
def dU (N:Nat) (p0:(List ab)):Option ((List ab)):=
  ((app ([]:List ab) p0).bind fun x1=>some x1)
def bO (N:Nat) (s1:(List aa)) (s4:Int) (K1:(List aa)→(List ab)→(List ab)→Int→Option ((List aa))) (s5:(List ab)):Option ((List aa)):=
  ((idx s1 s4).bind fun x1=>((dU N x1.Toks).bind fun x2=>((app x1.Toks s5).bind fun x3=>(K1 (s1.set s4.toNat (⟨x3⟩:aa)) x2 s5 (i64.wrap (s4+1))))))
def cJ (N:Nat) (p0:cA) (s1:(List aa)) (s3:(List ab)) (s4:Int) (K1:(List aa)→(List ab)→(List ab)→Int→Option ((List aa))):Nat→(List ab)→Int→Option ((List aa))
  | 0,_,_=>none
  | k+1,s8,s9=>
    (if decide (s9 < (s3.length:Int)) then ((idx s3 s9).bind fun x8=>((idx p0.chain.Pos s4).bind fun x9=>((idx p0.alphas x9).bind fun x10=>((dT N p0 x8.Ids x10.L).bind fun x11=>((app s8 x11).bind fun x12=>((cJ N p0 s1 s3 s4 K1 k) x12 (i64.wrap (s9+1)))))))) else bO N s1 s4 K1 s8)
def cE (N:Nat) (p0:cA) (s1:(List aa)) (s2:(List ab)) (s3:(List ab)) (s4:Int) (K1:(List aa)→(List ab)→(List ab)→Int→Option ((List aa))):Nat→(List ab)→Int→Option ((List aa))
  | 0,_,_=>none
  | k+1,s6,s7=>
    (if decide (s7 < (s2.length:Int)) then ((idx s2 s7).bind fun x5=>((dT N p0 x5.Ids ([p0.id]:List Int)).bind fun x6=>((app s6 x6).bind fun x7=>((cE N p0 s1 s2 s3 s4 K1 k) x7 (i64.wrap (s7+1)))))) else cJ N p0 s1 s3 s4 K1 N s6 0)
def bv (N:Nat) (p0:cA) (p1:(List aa)):Nat→(List aa)→(List ab)→(List ab)→Int→Option ((List aa))
  | 0,_,_,_,_=>none
  | k+1,s1,s2,s3,s4=>
    (if decide (s4 < (p1.length:Int)) then (if decide (s4=0) then ((dT N p0 [] ([p0.id]:List Int)).bind fun x4=>bO N s1 s4 (bv N p0 p1 k) x4) else cE N p0 s1 s2 s3 s4 (bv N p0 p1 k) N ([]:List ab) 0) else some s1)
def gR (N:Nat) (p0:cA) (p1:(List aa)):Option ((List aa)):=
  bv N p0 p1 N p1 ([]:List ab) ([]:List ab) 0
def dS (N:Nat) (p0:bo) (p1:bc) (p2:aA) (p3:ah) (p4:Int) (s1:(List aS)):Nat→(List aF)→Int→Option ((List aS) × (List aF))
  | 0,_,_=>none
  | k+1,s3,s4=>
    (if decide (s4 < (p2.Rules.length:Int)) then ((idx s3 s4).bind fun x6=>((pU N p0 p1 (⟨s1,s3⟩:aA) p3 p4 s4).bind fun x7=>((idx x6.Levels (i64.wrap ((x6.Levels.length:Int) - 1))).bind fun x8=>((gi N x7 x8.Toks 1).bind fun x9=>((gR N x7 (x6.Levels.set (i64.wrap ((x6.Levels.length:Int) - 1)).toNat (⟨x9⟩:aa))).bind fun x10=>((dS N p0 p1 p2 p3 p4 s1 k) (s3.set s4.toNat (⟨x10⟩:aF)) (i64.wrap (s4+1)))))))) else some (s1,s3))
def dX (N:Nat) (p0:bo) (p1:bc) (p2:aA) (p3:ah) (p4:Int) (x1:aw × Bool):Nat→(List aS)→Int→Option ((List aS) × (List aF))
  | 0,_,_=>none
  | k+1,s1,s2=>
    (if decide (s2 < (p1.Alphas.length:Int)) then ((idx p1.Alphas s2).bind fun x2=>((rz N x2 x1.1).bind fun x3=>(if x3 then ((idx s1 s2).bind fun x4=>((app x4.L ([p4]:List Int)).bind fun x5=>((dX N p0 p1 p2 p3 p4 x1 k) (s1.set s2.toNat (⟨x5⟩:aS)) (i64.wrap (s2+1))))) else ((dX N p0 p1 p2 p3 p4 x1 k) s1 (i64.wrap (s2+1)))))) else dS N p0 p1 p2 p3 p4 s1 N p2.Rules 0)
def oV (N:Nat) (p0:bo) (p1:bc) (p2:aA) (p3:ah) (p4:Int):Option ((List aS) × (List aF)):=
  ((jW N p3 p4).bind fun x1=>dX N p0 p1 p2 p3 p4 x1 N p2.Alphas 0)
def nc (N:Nat) (s1:(List aS)) (s2:(List aF)):Option (aA):=
  some (⟨s1,s2⟩:aA)
def m9 (N:Nat) (p0:bo) (p1:bc) (p2:aA) (p3:ah) (p4:Int):Option (aA):=
  ((oL N p2).bind fun x1=>((rb N p0 p1 p2 p3 p4).bind fun x2=>(if x2 then ((oV N p0 p1 x1 p3 p4).bind fun x3=>nc N x3.1 x3.2) else nc N x1.Alphas x1.Rules)))
def jF (N:Nat) (p0:(List Int)) (p1:(List Int)):Nat→Int→Option (Bool)
  | 0,_=>none
  | k+1,s1=>
    (if decide (s1 < (p0.length:Int)) then ((idx p0 s1).bind fun x1=>((idx p1 s1).bind fun x2=>(if !decide (x1=x2) then some false else ((jF N p0 p1 k) (i64.wrap (s1+1)))))) else some true)
def ib (N:Nat) (p0:(List Int)) (p1:(List Int)):Option (Bool):=
  (if !decide ((p0.length:Int)=(p1.length:Int)) then some false else jF N p0 p1 N 0)
def qu (N:Nat) (p0:aS) (p1:aS):Option (Bool):=
  ((ib N p0.L p1.L).bind fun x1=>(if !x1 then some false else some true))
def jq (N:Nat) (p0:(List aS)) (p1:(List aS)):Nat→Int→Option (Bool)
  | 0,_=>none
  | k+1,s1=>
    (if decide (s1 < (p0.length:Int)) then ((idx p0 s1).bind fun x1=>((idx p1 s1).bind fun x2=>((qu N x1 x2).bind fun x3=>(if !x3 then some false else ((jq N p0 p1 k) (i64.wrap (s1+1))))))) else some true)
def rn (N:Nat) (p0:(List aS)) (p1:(List aS)):Option (Bool):=
  (if !decide ((p0.length:Int)=(p1.length:Int)) then some false else jq N p0 p1 N 0)
def qa (N:Nat) (p0:ab) (p1:ab):Option (Bool):=
  ((ib N p0.Ids p1.Ids).bind fun x1=>(if !x1 then some false else ((ib N p0.Hits p1.Hits).bind fun x2=>(if !x2 then some false else some true))))
def jn (N:Nat) (p0:(List ab)) (p1:(List ab)):Nat→Int→Option (Bool)
  | 0,_=>none
  | k+1,s1=>
    (if decide (s1 < (p0.length:Int)) then ((idx p0 s1).bind fun x1=>((idx p1 s1).bind fun x2=>((qa N x1 x2).bind fun x3=>(if !x3 then some false else ((jn N p0 p1 k) (i64.wrap (s1+1))))))) else some true)
def qX (N:Nat) (p0:(List ab)) (p1:(List ab)):Option (Bool):=
  (if !decide ((p0.length:Int)=(p1.length:Int)) then some false else jn N p0 p1 N 0)
def lZ (N:Nat) (p0:aa) (p1:aa):Option (Bool):=
  ((qX N p0.Toks p1.Toks).bind fun x1=>(if !x1 then some false else some true))
def gH (N:Nat) (p0:(List aa)) (p1:(List aa)):Nat→Int→Option (Bool)
  | 0,_=>none
  | k+1,s1=>
    (if decide (s1 < (p0.length:Int)) then ((idx p0 s1).bind fun x1=>((idx p1 s1).bind fun x2=>((lZ N x1 x2).bind fun x3=>(if !x3 then some false else ((gH N p0 p1 k) (i64.wrap (s1+1))))))) else some true)
def nh (N:Nat) (p0:(List aa)) (p1:(List aa)):Option (Bool):=
  (if !decide ((p0.length:Int)=(p1.length:Int)) then some false else gH N p0 p1 N 0)
def qk (N:Nat) (p0:aF) (p1:aF):Option (Bool):=
  ((nh N p0.Levels p1.Levels).bind fun x1=>(if !x1 then some false else some true))
def jk (N:Nat) (p0:(List aF)) (p1:(List aF)):Nat→Int→Option (Bool)
  | 0,_=>none
  | k+1,s1=>
    (if decide (s1 < (p0.length:Int)) then ((idx p0 s1).bind fun x1=>((idx p1 s1).bind fun x2=>((qk N x1 x2).bind fun x3=>(if !x3 then some false else ((jk N p0 p1 k) (i64.wrap (s1+1))))))) else some true)
def rJ (N:Nat) (p0:(List aF)) (p1:(List aF)):Option (Bool):=
  (if !decide ((p0.length:Int)=(p1.length:Int)) then some false else jk N p0 p1 N 0)
def mh (N:Nat) (p0:aA) (p1:aA):Option (Bool):=
  ((rn N p0.Alphas p1.Alphas).bind fun x1=>(if !x1 then some false else ((rJ N p0.Rules p1.Rules).bind fun x2=>(if !x2 then some false else some true))))
def nJ (N:Nat) (p0:aL) (p1:aL):Option (Bool):=
  (if !decide (p0.K=p1.K) then some false else (if !decide (p0.N=p1.N) then some false else (if !seq p0.S p1.S then some false else some true)))
def jr (N:Nat) (p0:be) (p1:be):Option (Bool):=
  (if !decide (p0.K=p1.K) then some false else (if !seq p0.S p1.S then some false else ((nJ N p0.V p1.V).bind fun x1=>(if !x1 then some false else some true))))
def jB (N:Nat) (p0:(List be)) (p1:(List be)):Nat→Int→Option (Bool)
  | 0,_=>none
  | k+1,s1=>
    (if decide (s1 < (p0.length:Int)) then ((idx p0 s1).bind fun x1=>((idx p1 s1).bind fun x2=>((jr N x1 x2).bind fun x3=>(if !x3 then some false else ((jB N p0 p1 k) (i64.wrap (s1+1))))))) else some true)
def rO (N:Nat) (p0:(List be)) (p1:(List be)):Option (Bool):=
  (if !decide ((p0.length:Int)=(p1.length:Int)) then some false else jB N p0 p1 N 0)
def qj (N:Nat) (p0:av) (p1:av):Option (Bool):=
  (if !seq p0.Kind p1.Kind then some false else ((rO N p0.Args p1.Args).bind fun x1=>(if !x1 then some false else (if (p0.Not != p1.Not) then some false else some true))))
def jw (N:Nat) (p0:(List av)) (p1:(List av)):Nat→Int→Option (Bool)
  | 0,_=>none
  | k+1,s1=>
    (if decide (s1 < (p0.length:Int)) then ((idx p0 s1).bind fun x1=>((idx p1 s1).bind fun x2=>((qj N x1 x2).bind fun x3=>(if !x3 then some false else ((jw N p0 p1 k) (i64.wrap (s1+1))))))) else some true)
def qV (N:Nat) (p0:(List av)) (p1:(List av)):Option (Bool):=
  (if !decide ((p0.length:Int)=(p1.length:Int)) then some false else jw N p0 p1 N 0)
def nO (N:Nat) (p0:bn) (p1:bn):Option (Bool):=
  (if !decide (p0.Op=p1.Op) then some false else ((jr N p0.L p1.L).bind fun x1=>(if !x1 then some false else ((jr N p0.R p1.R).bind fun x2=>(if !x2 then some false else some true)))))
def iz (N:Nat) (p0:(List bn)) (p1:(List bn)):Nat→Int→Option (Bool)
  | 0,_=>none
  | k+1,s1=>
    (if decide (s1 < (p0.length:Int)) then ((idx p0 s1).bind fun x1=>((idx p1 s1).bind fun x2=>((nO N x1 x2).bind fun x3=>(if !x3 then some false else ((iz N p0 p1 k) (i64.wrap (s1+1))))))) else some true)
def oD (N:Nat) (p0:(List bn)) (p1:(List bn)):Option (Bool):=
  (if !decide ((p0.length:Int)=(p1.length:Int)) then some false else iz N p0 p1 N 0)
def nG (N:Nat) (p0:bk) (p1:bk):Option (Bool):=
  (if !seq p0.Op p1.Op then some false else ((jr N p0.L p1.L).bind fun x1=>(if !x1 then some false else ((jr N p0.R p1.R).bind fun x2=>(if !x2 then some false else some true)))))
def ij (N:Nat) (p0:(List bk)) (p1:(List bk)):Nat→Int→Option (Bool)
  | 0,_=>none
  | k+1,s1=>
    (if decide (s1 < (p0.length:Int)) then ((idx p0 s1).bind fun x1=>((idx p1 s1).bind fun x2=>((nG N x1 x2).bind fun x3=>(if !x3 then some false else ((ij N p0 p1 k) (i64.wrap (s1+1))))))) else some true)
def pb (N:Nat) (p0:(List bk)) (p1:(List bk)):Option (Bool):=
  (if !decide ((p0.length:Int)=(p1.length:Int)) then some false else ij N p0 p1 N 0)
def qm (N:Nat) (p0:bM) (p1:bM):Option (Bool):=
  (if !decide (p0.Kind=p1.Kind) then some false else (if !seq p0.Name p1.Name then some false else ((pb N p0.Args p1.Args).bind fun x1=>(if !x1 then some false else (if !decide (p0.N=p1.N) then some false else (if !seq p0.Undo p1.Undo then some false else some true))))))
def jy (N:Nat) (p0:(List bM)) (p1:(List bM)):Nat→Int→Option (Bool)
  | 0,_=>none
  | k+1,s1=>
    (if decide (s1 < (p0.length:Int)) then ((idx p0 s1).bind fun x1=>((idx p1 s1).bind fun x2=>((qm N x1 x2).bind fun x3=>(if !x3 then some false else ((jy N p0 p1 k) (i64.wrap (s1+1))))))) else some true)
def rU (N:Nat) (p0:(List bM)) (p1:(List bM)):Option (Bool):=
  (if !decide ((p0.length:Int)=(p1.length:Int)) then some false else jy N p0 p1 N 0)
def o1 (N:Nat) (p0:ag) (p1:ag):Option (Bool):=
  (if !seq p0.Name p1.Name then some false else (if !decide (p0.Sal=p1.Sal) then some false else ((qV N p0.Pats p1.Pats).bind fun x1=>(if !x1 then some false else ((oD N p0.Conds p1.Conds).bind fun x2=>(if !x2 then some false else ((rU N p0.Acts p1.Acts).bind fun x3=>(if !x3 then some false else some true))))))))
def ir (N:Nat) (p0:(List ag)) (p1:(List ag)):Nat→Int→Option (Bool)
  | 0,_=>none
  | k+1,s1=>
    (if decide (s1 < (p0.length:Int)) then ((idx p0 s1).bind fun x1=>((idx p1 s1).bind fun x2=>((o1 N x1 x2).bind fun x3=>(if !x3 then some false else ((ir N p0 p1 k) (i64.wrap (s1+1))))))) else some true)
def p9 (N:Nat) (p0:(List ag)) (p1:(List ag)):Option (Bool):=
  (if !decide ((p0.length:Int)=(p1.length:Int)) then some false else ir N p0 p1 N 0)
def tp (N:Nat) (p0:bo) (p1:bo):Option (Bool):=
  (if !seq p0.Name p1.Name then some false else ((p9 N p0.Rules p1.Rules).bind fun x1=>(if !x1 then some false else some true)))
def jG (N:Nat) (p0:(List aL)) (p1:(List aL)):Nat→Int→Option (Bool)
  | 0,_=>none
  | k+1,s1=>
    (if decide (s1 < (p0.length:Int)) then ((idx p0 s1).bind fun x1=>((idx p1 s1).bind fun x2=>((nJ N x1 x2).bind fun x3=>(if !x3 then some false else ((jG N p0 p1 k) (i64.wrap (s1+1))))))) else some true)
def nH (N:Nat) (p0:(List aL)) (p1:(List aL)):Option (Bool):=
  (if !decide ((p0.length:Int)=(p1.length:Int)) then some false else jG N p0 p1 N 0)
def lM (N:Nat) (p0:a9) (p1:a9):Option (Bool):=
  (if !seq p0.Kind p1.Kind then some false else (if !decide (p0.N=p1.N) then some false else ((nH N p0.Consts p1.Consts).bind fun x1=>(if !x1 then some false else ((ib N p0.At p1.At).bind fun x2=>(if !x2 then some false else some true))))))
def gN (N:Nat) (p0:(List a9)) (p1:(List a9)):Nat→Int→Option (Bool)
  | 0,_=>none
  | k+1,s1=>
    (if decide (s1 < (p0.length:Int)) then ((idx p0 s1).bind fun x1=>((idx p1 s1).bind fun x2=>((lM N x1 x2).bind fun x3=>(if !x3 then some false else ((gN N p0 p1 k) (i64.wrap (s1+1))))))) else some true)
def nr (N:Nat) (p0:(List a9)) (p1:(List a9)):Option (Bool):=
  (if !decide ((p0.length:Int)=(p1.length:Int)) then some false else gN N p0 p1 N 0)
def lK (N:Nat) (p0:ae) (p1:ae):Option (Bool):=
  ((ib N p0.Pos p1.Pos).bind fun x1=>(if !x1 then some false else ((ib N p0.Neg p1.Neg).bind fun x2=>(if !x2 then some false else some true))))
def gG (N:Nat) (p0:(List ae)) (p1:(List ae)):Nat→Int→Option (Bool)
  | 0,_=>none
  | k+1,s1=>
    (if decide (s1 < (p0.length:Int)) then ((idx p0 s1).bind fun x1=>((idx p1 s1).bind fun x2=>((lK N x1 x2).bind fun x3=>(if !x3 then some false else ((gG N p0 p1 k) (i64.wrap (s1+1))))))) else some true)
def ng (N:Nat) (p0:(List ae)) (p1:(List ae)):Option (Bool):=
  (if !decide ((p0.length:Int)=(p1.length:Int)) then some false else gG N p0 p1 N 0)
def tv (N:Nat) (p0:bc) (p1:bc):Option (Bool):=
  ((nr N p0.Alphas p1.Alphas).bind fun x1=>(if !x1 then some false else ((ng N p0.Chains p1.Chains).bind fun x2=>(if !x2 then some false else some true))))
def rf (N:Nat) (p0:aw) (p1:aw):Option (Bool):=
  (if !seq p0.Kind p1.Kind then some false else ((nH N p0.Fields p1.Fields).bind fun x1=>(if !x1 then some false else some true)))
def o5 (N:Nat) (p0:aC) (p1:aC):Option (Bool):=
  (if !decide (p0.Id=p1.Id) then some false else ((rf N p0.F p1.F).bind fun x1=>(if !x1 then some false else some true)))
def iA (N:Nat) (p0:(List aC)) (p1:(List aC)):Nat→Int→Option (Bool)
  | 0,_=>none
  | k+1,s1=>
    (if decide (s1 < (p0.length:Int)) then ((idx p0 s1).bind fun x1=>((idx p1 s1).bind fun x2=>((o5 N x1 x2).bind fun x3=>(if !x3 then some false else ((iA N p0 p1 k) (i64.wrap (s1+1))))))) else some true)
def oJ (N:Nat) (p0:(List aC)) (p1:(List aC)):Option (Bool):=
  (if !decide ((p0.length:Int)=(p1.length:Int)) then some false else iA N p0 p1 N 0)
def oK (N:Nat) (p0:ah) (p1:ah):Option (Bool):=
  ((oJ N p0.Items p1.Items).bind fun x1=>(if !x1 then some false else (if !decide (p0.Next=p1.Next) then some false else some true)))
def fE (N:Nat):Nat→Int→ByteArray→Option (ByteArray)
  | 0,_,_=>none
  | k+1,s1,s2=>
    (if decide (0 < s1) then ((cat (IL ([(IntKind.u8.wrap (i64.wrap (48+(s1.tmod 10))))]:List Int)) s2).bind fun z1=>((fE N k) (i64.wrap (s1.tdiv 10)) z1)) else ((cat (⟨#[109]⟩:ByteArray) s2).bind fun z2=>some z2))
def au (N:Nat) (p0:Int):Option (ByteArray):=
  (if decide (p0≤0) then some (⟨#[109,48]⟩:ByteArray) else fE N N p0 (⟨#[]⟩:ByteArray))
def fG (N:Nat):Nat→(List be)→Int→Int→Option (Int × (List be))
  | 0,_,_,_=>none
  | k+1,s1,s2,s3=>
    (if decide (s3 < (s1.length:Int)) then ((idx s1 s3).bind fun x1=>((au N (i64.wrap (s2+1))).bind fun x2=>((au N (i64.wrap ((i64.wrap ((i64.wrap ((i64.wrap (s2+1))+1))+1))+1))).bind fun x3=>((fG N k) (s1.set s3.toNat (⟨s2,x2,(⟨i64.wrap ((i64.wrap (s2+1))+1),i64.wrap ((i64.wrap ((i64.wrap (s2+1))+1))+1),x3⟩:aL)⟩:be)) (i64.wrap ((i64.wrap ((i64.wrap ((i64.wrap ((i64.wrap (s2+1))+1))+1))+1))+1)) (i64.wrap (s3+1)))))) else some (s2,s1))
def pX (N:Nat) (p0:(List be)) (p1:Int):Option (Int × (List be)):=
  fG N N p0 p1 0
def fC (N:Nat):Nat→(List av)→Int→Int→Option (Int × (List av))
  | 0,_,_,_=>none
  | k+1,s1,s2,s3=>
    (if decide (s3 < (s1.length:Int)) then ((au N s2).bind fun x1=>((idx s1 s3).bind fun x2=>((pX N x2.Args (i64.wrap (s2+1))).bind fun x3=>((fC N k) (s1.set s3.toNat (⟨x1,x3.2,decide ((x3.1.tmod 3)=0)⟩:av)) (i64.wrap (x3.1+1)) (i64.wrap (s3+1)))))) else some (s2,s1))
def pR (N:Nat) (p0:(List av)) (p1:Int):Option (Int × (List av)):=
  fC N N p0 p1 0
def eF (N:Nat):Nat→(List bn)→Int→Int→Option (Int × (List bn))
  | 0,_,_,_=>none
  | k+1,s1,s2,s3=>
    (if decide (s3 < (s1.length:Int)) then ((idx s1 s3).bind fun x1=>((au N (i64.wrap ((i64.wrap (s2+1))+1))).bind fun x2=>((au N (i64.wrap ((i64.wrap ((i64.wrap ((i64.wrap ((i64.wrap (s2+1))+1))+1))+1))+1))).bind fun x3=>((au N (i64.wrap ((i64.wrap ((i64.wrap ((i64.wrap ((i64.wrap ((i64.wrap ((i64.wrap (s2+1))+1))+1))+1))+1))+1))+1))).bind fun x4=>((au N (i64.wrap ((i64.wrap ((i64.wrap ((i64.wrap ((i64.wrap ((i64.wrap ((i64.wrap ((i64.wrap ((i64.wrap ((i64.wrap (s2+1))+1))+1))+1))+1))+1))+1))+1))+1))+1))).bind fun x5=>((eF N k) (s1.set s3.toNat (⟨s2,(⟨i64.wrap (s2+1),x2,(⟨i64.wrap ((i64.wrap ((i64.wrap (s2+1))+1))+1),i64.wrap ((i64.wrap ((i64.wrap ((i64.wrap (s2+1))+1))+1))+1),x3⟩:aL)⟩:be),(⟨i64.wrap ((i64.wrap ((i64.wrap ((i64.wrap ((i64.wrap ((i64.wrap (s2+1))+1))+1))+1))+1))+1),x4,(⟨i64.wrap ((i64.wrap ((i64.wrap ((i64.wrap ((i64.wrap ((i64.wrap ((i64.wrap ((i64.wrap (s2+1))+1))+1))+1))+1))+1))+1))+1),i64.wrap ((i64.wrap ((i64.wrap ((i64.wrap ((i64.wrap ((i64.wrap ((i64.wrap ((i64.wrap ((i64.wrap (s2+1))+1))+1))+1))+1))+1))+1))+1))+1),x5⟩:aL)⟩:be)⟩:bn)) (i64.wrap ((i64.wrap ((i64.wrap ((i64.wrap ((i64.wrap ((i64.wrap ((i64.wrap ((i64.wrap ((i64.wrap ((i64.wrap ((i64.wrap (s2+1))+1))+1))+1))+1))+1))+1))+1))+1))+1))+1)) (i64.wrap (s3+1)))))))) else some (s2,s1))
def oe (N:Nat) (p0:(List bn)) (p1:Int):Option (Int × (List bn)):=
  eF N N p0 p1 0
def ez (N:Nat):Nat→(List bk)→Int→Int→Option (Int × (List bk))
  | 0,_,_,_=>none
  | k+1,s1,s2,s3=>
    (if decide (s3 < (s1.length:Int)) then ((au N s2).bind fun x1=>((idx s1 s3).bind fun x2=>((au N (i64.wrap ((i64.wrap (s2+1))+1))).bind fun x3=>((au N (i64.wrap ((i64.wrap ((i64.wrap ((i64.wrap ((i64.wrap (s2+1))+1))+1))+1))+1))).bind fun x4=>((au N (i64.wrap ((i64.wrap ((i64.wrap ((i64.wrap ((i64.wrap ((i64.wrap ((i64.wrap (s2+1))+1))+1))+1))+1))+1))+1))).bind fun x5=>((au N (i64.wrap ((i64.wrap ((i64.wrap ((i64.wrap ((i64.wrap ((i64.wrap ((i64.wrap ((i64.wrap ((i64.wrap ((i64.wrap (s2+1))+1))+1))+1))+1))+1))+1))+1))+1))+1))).bind fun x6=>((ez N k) (s1.set s3.toNat (⟨x1,(⟨i64.wrap (s2+1),x3,(⟨i64.wrap ((i64.wrap ((i64.wrap (s2+1))+1))+1),i64.wrap ((i64.wrap ((i64.wrap ((i64.wrap (s2+1))+1))+1))+1),x4⟩:aL)⟩:be),(⟨i64.wrap ((i64.wrap ((i64.wrap ((i64.wrap ((i64.wrap ((i64.wrap (s2+1))+1))+1))+1))+1))+1),x5,(⟨i64.wrap ((i64.wrap ((i64.wrap ((i64.wrap ((i64.wrap ((i64.wrap ((i64.wrap ((i64.wrap (s2+1))+1))+1))+1))+1))+1))+1))+1),i64.wrap ((i64.wrap ((i64.wrap ((i64.wrap ((i64.wrap ((i64.wrap ((i64.wrap ((i64.wrap ((i64.wrap (s2+1))+1))+1))+1))+1))+1))+1))+1))+1),x6⟩:aL)⟩:be)⟩:bk)) (i64.wrap ((i64.wrap ((i64.wrap ((i64.wrap ((i64.wrap ((i64.wrap ((i64.wrap ((i64.wrap ((i64.wrap ((i64.wrap ((i64.wrap (s2+1))+1))+1))+1))+1))+1))+1))+1))+1))+1))+1)) (i64.wrap (s3+1))))))))) else some (s2,s1))
def ou (N:Nat) (p0:(List bk)) (p1:Int):Option (Int × (List bk)):=
  ez N N p0 p1 0
def fy (N:Nat):Nat→(List bM)→Int→Int→Option (Int × (List bM))
  | 0,_,_,_=>none
  | k+1,s1,s2,s3=>
    (if decide (s3 < (s1.length:Int)) then ((idx s1 s3).bind fun x1=>((au N (i64.wrap (s2+1))).bind fun x2=>((ou N x1.Args (i64.wrap ((i64.wrap (s2+1))+1))).bind fun x3=>((au N (i64.wrap (x3.1+1))).bind fun x4=>((fy N k) (s1.set s3.toNat (⟨s2,x2,x3.2,x3.1,x4⟩:bM)) (i64.wrap ((i64.wrap (x3.1+1))+1)) (i64.wrap (s3+1))))))) else some (s2,s1))
def q9 (N:Nat) (p0:(List bM)) (p1:Int):Option (Int × (List bM)):=
  fy N N p0 p1 0
def eB (N:Nat):Nat→(List ag)→Int→Int→Option (Int × (List ag))
  | 0,_,_,_=>none
  | k+1,s1,s2,s3=>
    (if decide (s3 < (s1.length:Int)) then ((au N s2).bind fun x1=>((idx s1 s3).bind fun x2=>((pR N x2.Pats (i64.wrap ((i64.wrap (s2+1))+1))).bind fun x3=>((oe N x2.Conds x3.1).bind fun x4=>((q9 N x2.Acts x4.1).bind fun x5=>((eB N k) (s1.set s3.toNat (⟨x1,i64.wrap (s2+1),x3.2,x4.2,x5.2⟩:ag)) x5.1 (i64.wrap (s3+1)))))))) else some (s2,s1))
def ov (N:Nat) (p0:(List ag)) (p1:Int):Option (Int × (List ag)):=
  eB N N p0 p1 0
def oO (N:Nat) (p0:bo) (p1:Int):Option (Int × (List ag)):=
  ((ov N p0.Rules p1).bind fun x1=>some (x1.1,x1.2))
def fx (N:Nat):Nat→(List aL)→Int→Int→Option (Int × (List aL))
  | 0,_,_,_=>none
  | k+1,s1,s2,s3=>
    (if decide (s3 < (s1.length:Int)) then ((idx s1 s3).bind fun x1=>((au N (i64.wrap ((i64.wrap (s2+1))+1))).bind fun x2=>((fx N k) (s1.set s3.toNat (⟨s2,i64.wrap (s2+1),x2⟩:aL)) (i64.wrap ((i64.wrap ((i64.wrap (s2+1))+1))+1)) (i64.wrap (s3+1))))) else some (s2,s1))
def mQ (N:Nat) (p0:(List aL)) (p1:Int):Option (Int × (List aL)):=
  fx N N p0 p1 0
def fA (N:Nat):Nat→(List Int)→Int→Int→Option (Int × (List Int))
  | 0,_,_,_=>none
  | k+1,s1,s2,s3=>
    (if decide (s3 < (s1.length:Int)) then ((idx s1 s3).bind fun x1=>((fA N k) (s1.set s3.toNat s2) (i64.wrap (s2+1)) (i64.wrap (s3+1)))) else some (s2,s1))
def fP (N:Nat) (p0:(List Int)) (p1:Int):Option (Int × (List Int)):=
  fA N N p0 p1 0
def dL (N:Nat):Nat→(List a9)→Int→Int→Option (Int × (List a9))
  | 0,_,_,_=>none
  | k+1,s1,s2,s3=>
    (if decide (s3 < (s1.length:Int)) then ((au N s2).bind fun x1=>((idx s1 s3).bind fun x2=>((mQ N x2.Consts (i64.wrap ((i64.wrap (s2+1))+1))).bind fun x3=>((fP N x2.At x3.1).bind fun x4=>((dL N k) (s1.set s3.toNat (⟨x1,i64.wrap (s2+1),x3.2,x4.2⟩:a9)) x4.1 (i64.wrap (s3+1))))))) else some (s2,s1))
def mY (N:Nat) (p0:(List a9)) (p1:Int):Option (Int × (List a9)):=
  dL N N p0 p1 0
def dQ (N:Nat):Nat→(List ae)→Int→Int→Option (Int × (List ae))
  | 0,_,_,_=>none
  | k+1,s1,s2,s3=>
    (if decide (s3 < (s1.length:Int)) then ((idx s1 s3).bind fun x1=>((fP N x1.Pos s2).bind fun x2=>((fP N x1.Neg x2.1).bind fun x3=>((dQ N k) (s1.set s3.toNat (⟨x2.2,x3.2⟩:ae)) x3.1 (i64.wrap (s3+1)))))) else some (s2,s1))
def mS (N:Nat) (p0:(List ae)) (p1:Int):Option (Int × (List ae)):=
  dQ N N p0 p1 0
def oE (N:Nat) (p0:bc) (p1:Int):Option (Int × (List a9) × (List ae)):=
  ((mY N p0.Alphas p1).bind fun x1=>((mS N p0.Chains x1.1).bind fun x2=>some (x2.1,x1.2,x2.2)))
def fw (N:Nat):Nat→(List aS)→Int→Int→Option (Int × (List aS))
  | 0,_,_,_=>none
  | k+1,s1,s2,s3=>
    (if decide (s3 < (s1.length:Int)) then ((idx s1 s3).bind fun x1=>((fP N x1.L s2).bind fun x2=>((fw N k) (s1.set s3.toNat (⟨x2.2⟩:aS)) x2.1 (i64.wrap (s3+1))))) else some (s2,s1))
def pY (N:Nat) (p0:(List aS)) (p1:Int):Option (Int × (List aS)):=
  fw N N p0 p1 0
def fB (N:Nat):Nat→(List ab)→Int→Int→Option (Int × (List ab))
  | 0,_,_,_=>none
  | k+1,s1,s2,s3=>
    (if decide (s3 < (s1.length:Int)) then ((idx s1 s3).bind fun x1=>((fP N x1.Ids s2).bind fun x2=>((fP N x1.Hits x2.1).bind fun x3=>((fB N k) (s1.set s3.toNat (⟨x2.2,x3.2⟩:ab)) x3.1 (i64.wrap (s3+1)))))) else some (s2,s1))
def pW (N:Nat) (p0:(List ab)) (p1:Int):Option (Int × (List ab)):=
  fB N N p0 p1 0
def dJ (N:Nat):Nat→(List aa)→Int→Int→Option (Int × (List aa))
  | 0,_,_,_=>none
  | k+1,s1,s2,s3=>
    (if decide (s3 < (s1.length:Int)) then ((idx s1 s3).bind fun x1=>((pW N x1.Toks s2).bind fun x2=>((dJ N k) (s1.set s3.toNat (⟨x2.2⟩:aa)) x2.1 (i64.wrap (s3+1))))) else some (s2,s1))
def mV (N:Nat) (p0:(List aa)) (p1:Int):Option (Int × (List aa)):=
  dJ N N p0 p1 0
def fH (N:Nat):Nat→(List aF)→Int→Int→Option (Int × (List aF))
  | 0,_,_,_=>none
  | k+1,s1,s2,s3=>
    (if decide (s3 < (s1.length:Int)) then ((idx s1 s3).bind fun x1=>((mV N x1.Levels s2).bind fun x2=>((fH N k) (s1.set s3.toNat (⟨x2.2⟩:aF)) x2.1 (i64.wrap (s3+1))))) else some (s2,s1))
def pS (N:Nat) (p0:(List aF)) (p1:Int):Option (Int × (List aF)):=
  fH N N p0 p1 0
def ml (N:Nat) (p0:aA) (p1:Int):Option (Int × (List aS) × (List aF)):=
  ((pY N p0.Alphas p1).bind fun x1=>((pS N p0.Rules x1.1).bind fun x2=>some (x2.1,x1.2,x2.2)))
def eA (N:Nat):Nat→(List aC)→Int→Int→Option (Int × (List aC))
  | 0,_,_,_=>none
  | k+1,s1,s2,s3=>
    (if decide (s3 < (s1.length:Int)) then ((idx s1 s3).bind fun x1=>((au N (i64.wrap (s2+1))).bind fun x2=>((mQ N x1.F.Fields (i64.wrap ((i64.wrap (s2+1))+1))).bind fun x3=>((eA N k) (s1.set s3.toNat (⟨s2,(⟨x2,x3.2⟩:aw)⟩:aC)) x3.1 (i64.wrap (s3+1)))))) else some (s2,s1))
def om (N:Nat) (p0:(List aC)) (p1:Int):Option (Int × (List aC)):=
  eA N N p0 p1 0
def kZ (N:Nat) (p0:ah) (p1:Int):Option (Int × (List aC)):=
  ((om N p0.Items p1).bind fun x1=>some (x1.1,x1.2))
def eo (N:Nat) (p0:(List Int)):Nat→Int→Int→Option (Int)
  | 0,_,_=>none
  | k+1,s1,s2=>
    (if decide (s2 < (p0.length:Int)) then ((idx p0 s2).bind fun x1=>(if !decide (x1=s1) then some (-1) else ((eo N p0 k) (i64.wrap (s1+1)) (i64.wrap (s2+1))))) else some s1)
def iT (N:Nat) (p0:(List Int)) (p1:Int):Option (Int):=
  eo N p0 N p1 0
def ei (N:Nat) (p0:(List aS)):Nat→Int→Int→Option (Int)
  | 0,_,_=>none
  | k+1,s1,s2=>
    (if decide (s2 < (p0.length:Int)) then ((idx p0 s2).bind fun x1=>((iT N x1.L s1).bind fun x2=>(if decide (x2 < 0) then some (-1) else ((ei N p0 k) x2 (i64.wrap (s2+1)))))) else some s1)
def nm (N:Nat) (p0:(List aS)) (p1:Int):Option (Int):=
  ei N p0 N p1 0
def eg (N:Nat) (p0:(List ab)):Nat→Int→Int→Option (Int)
  | 0,_,_=>none
  | k+1,s1,s2=>
    (if decide (s2 < (p0.length:Int)) then ((idx p0 s2).bind fun x1=>((iT N x1.Ids s1).bind fun x2=>(if decide (x2 < 0) then some (-1) else ((idx p0 s2).bind fun x3=>((iT N x3.Hits x2).bind fun x4=>(if decide (x4 < 0) then some (-1) else ((eg N p0 k) x4 (i64.wrap (s2+1))))))))) else some s1)
def mH (N:Nat) (p0:(List ab)) (p1:Int):Option (Int):=
  eg N p0 N p1 0
def cZ (N:Nat) (p0:(List aa)):Nat→Int→Int→Option (Int)
  | 0,_,_=>none
  | k+1,s1,s2=>
    (if decide (s2 < (p0.length:Int)) then ((idx p0 s2).bind fun x1=>((mH N x1.Toks s1).bind fun x2=>(if decide (x2 < 0) then some (-1) else ((cZ N p0 k) x2 (i64.wrap (s2+1)))))) else some s1)
def jO (N:Nat) (p0:(List aa)) (p1:Int):Option (Int):=
  cZ N p0 N p1 0
def ej (N:Nat) (p0:(List aF)):Nat→Int→Int→Option (Int)
  | 0,_,_=>none
  | k+1,s1,s2=>
    (if decide (s2 < (p0.length:Int)) then ((idx p0 s2).bind fun x1=>((jO N x1.Levels s1).bind fun x2=>(if decide (x2 < 0) then some (-1) else ((ej N p0 k) x2 (i64.wrap (s2+1)))))) else some s1)
def np (N:Nat) (p0:(List aF)) (p1:Int):Option (Int):=
  ej N p0 N p1 0
def mo (N:Nat) (p0:aA) (p1:Int):Option (Int):=
  ((nm N p0.Alphas p1).bind fun x1=>(if decide (x1 < 0) then some (-1) else ((np N p0.Rules x1).bind fun x2=>(if decide (x2 < 0) then some (-1) else some x2))))
def gy (N:Nat) (s1:(List aS)) (s2:(List aF)) (x29:Int × (List aS) × (List aF)) (s3:(List aS)) (s4:(List aF)):Option (Bool):=
  ((mh N (⟨s3,s4⟩:aA) (⟨s1,s2⟩:aA)).bind fun x36=>(if !x36 then some false else ((mo N (⟨x29.2.1,x29.2.2⟩:aA) 1).bind fun x37=>(if decide (x37 < 0) then some false else (if !decide (x37=x29.1) then some false else some true)))))
def gx (N:Nat) (p0:bo) (p1:bc) (p2:aA) (p3:ah) (p4:Int) (s1:(List aS)) (s2:(List aF)):Option (Bool):=
  ((lO N p0).bind fun x10=>((lU N p1).bind fun x11=>((lN N p2).bind fun x12=>((iJ N p3).bind fun x13=>((m9 N x10 x11 x12 x13 p4).bind fun x14=>((mh N x14 (⟨s1,s2⟩:aA)).bind fun x15=>(if !x15 then some false else ((lO N p0).bind fun x16=>((tp N x10 x16).bind fun x17=>(if !x17 then some false else ((lU N p1).bind fun x18=>((tv N x11 x18).bind fun x19=>(if !x19 then some false else ((lN N p2).bind fun x20=>((mh N x12 x20).bind fun x21=>(if !x21 then some false else ((iJ N p3).bind fun x22=>((oK N x13 x22).bind fun x23=>(if !x23 then some false else ((oO N x10 1).bind fun x24=>((oE N x11 x24.1).bind fun x25=>((ml N x12 x25.1).bind fun x26=>((kZ N x13 x26.1).bind fun x27=>((if decide (x27.1 < 0) then some true else ((mh N x14 (⟨s1,s2⟩:aA)).bind fun x28=>some (!x28))).bind fun b1=>(if b1 then some false else ((ml N x14 1).bind fun x29=>((mo N (⟨x29.2.1,x29.2.2⟩:aA) 1).bind fun x30=>(if decide (x30 < 0) then some false else (if !decide (x30=x29.1) then some false else ((lO N p0).bind fun x38=>((lU N p1).bind fun x39=>((lN N p2).bind fun x40=>((iJ N p3).bind fun x41=>((m9 N x38 x39 x40 x41 p4).bind fun x42=>gy N s1 s2 x29 x42.Alphas x42.Rules))))))))))))))))))))))))))))))))))
def gt (N:Nat) (p0:bo) (p1:bc) (p2:aA) (p3:ah) (p4:Int):Option (Bool):=
  ((tC N p0 1048576).bind fun x1=>(if decide (x1 < 0) then some true else ((tc N p1 x1).bind fun x2=>(if decide (x2 < 0) then some true else ((tE N p2 x2).bind fun x3=>(if decide (x3 < 0) then some true else ((oz N p3 x3).bind fun x4=>(if decide (x4 < 0) then some true else ((lO N p0).bind fun x58=>((lU N p1).bind fun x59=>((lN N p2).bind fun x60=>((iJ N p3).bind fun x61=>((pi N x58 x59 x60 x61 p4).bind fun x62=>gx N p0 p1 p2 p3 p4 x62.Alphas x62.Rules)))))))))))))
end Go.Proofs.YtnnkgijdbebnaaaGreat
