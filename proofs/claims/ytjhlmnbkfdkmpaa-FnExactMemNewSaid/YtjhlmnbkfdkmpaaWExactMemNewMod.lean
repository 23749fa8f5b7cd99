/- Printed by a program of ours: Lean functions of plain data for the Go functions. -/
import Derived.Test.YtjhlmnbkfdkmpaaEI
namespace Go.Proofs.Ytjhlmnbkfdkmpaa
open Eng
set_option linter.unusedVariables false
set_option linter.unusedSimpArgs false

structure TVal where
  K : Int
  N : Int
  S : ByteArray
  deriving DecidableEq
def RTVal (Φ : Hp) (F : List Nat) (cs : List Value) (x : TVal) : Prop := cs = [.int .i64 x.K, .int .i64 x.N, .string x.S] ∧ F = []
theorem RTVal.lasts : Lasts RTVal := fun _ _ _ _ _ _ _ _ h => h
theorem RTVal.knows : Knows RTVal := fun _ _ _ _ h => h.2 ▸ Kw.nil
theorem RTVal.flat : Flat RTVal := fun _ _ _ _ h => h.2
theorem RTVal.one : Ones RTVal := fun _ _ _ _ h => by obtain ⟨rfl, -⟩ := h; exact One.all ⟨rfl, rfl, rfl, trivial⟩
structure TAlpha where
  Kind : ByteArray
  N : Int
  Consts : (List TVal)
  At : (List Int)
  deriving DecidableEq
def RTAlpha (Φ : Hp) (F : List Nat) (cs : List Value) (x : TAlpha) : Prop :=
  ∃ (s0 : Value) (F0 : List Nat) (s1 : Value) (F1 : List Nat), cs = [.string x.Kind, .int .i64 x.N, s0, s1] ∧ F = F0 ++ (F1) ∧ RSl RTVal 3 Φ F0 s0 x.Consts ∧ RSl (RI .i64) 1 Φ F1 s1 x.At
theorem RTAlpha.lasts : Lasts RTAlpha := fun X Φ Φ' F cs x hf hd ⟨s0, F0, s1, F1, hc, hF, h0, h1⟩ => by
  rw [hF] at hd
  exact ⟨s0, F0, s1, F1, hc, hF, h0.frame RTVal.lasts hf (fun k hk => hd k (by simp [hk])), h1.frame RI.lasts hf (fun k hk => hd k (by simp [hk]))⟩
theorem RTAlpha.knows : Knows RTAlpha := fun Φ F cs x ⟨s0, F0, s1, F1, hc, hF, h0, h1⟩ => hF ▸ (h0.kn.app h1.kn)
theorem RTAlpha.one : Ones RTAlpha := fun _ _ _ _ h => by obtain ⟨s0, F0, s1, F1, rfl, -, h0, h1⟩ := h; exact One.all ⟨rfl, rfl, h0.one, h1.one, trivial⟩
def OTAlpha (Φ : Hp) (F : List Nat) (cs : List Value) (x : TAlpha) : Prop :=
  ∃ (s0 : Value) (s1 : Value), cs = [.string x.Kind, .int .i64 x.N, s0, s1] ∧ F = (ob s0 ++ []) ++ ((ob s1 ++ [])) ∧ OSl RTVal 192 3 Φ [] s0 x.Consts ∧ OSl (RI .i64) 3 1 Φ [] s1 x.At
theorem OTAlpha.lasts : Lasts OTAlpha := fun X Φ Φ' F cs x hf hd ⟨s0, s1, hc, hF, h0, h1⟩ => by
  rw [hF] at hd
  exact ⟨s0, s1, hc, hF, h0.frame RTVal.lasts hf (fun k hk => hd k (by simp [hk])) (Dj.nil _), h1.frame RI.lasts hf (fun k hk => hd k (by simp [hk])) (Dj.nil _)⟩
theorem OTAlpha.knows : Knows OTAlpha := fun Φ F cs x ⟨s0, s1, hc, hF, h0, h1⟩ => hF ▸ ((h0.knO.app h0.kn).app (h1.knO.app h1.kn))
theorem OTAlpha.one : Ones OTAlpha := fun _ _ _ _ h => by obtain ⟨s0, s1, rfl, -, h0, h1⟩ := h; exact One.all ⟨rfl, rfl, h0.one, h1.one, trivial⟩
theorem OTAlpha.gives : Gives OTAlpha RTAlpha := fun Φ F cs x ⟨s0, s1, hc, hF, h0, h1⟩ => ⟨s0, ob s0 ++ [], s1, ob s1 ++ [], hc, hF, h0.rslG (Gives.refl _), h1.rslG (Gives.refl _)⟩
structure TChain where
  Pos : (List Int)
  Neg : (List Int)
  deriving DecidableEq
def RTChain (Φ : Hp) (F : List Nat) (cs : List Value) (x : TChain) : Prop :=
  ∃ (s0 : Value) (F0 : List Nat) (s1 : Value) (F1 : List Nat), cs = [s0, s1] ∧ F = F0 ++ (F1) ∧ RSl (RI .i64) 1 Φ F0 s0 x.Pos ∧ RSl (RI .i64) 1 Φ F1 s1 x.Neg
theorem RTChain.lasts : Lasts RTChain := fun X Φ Φ' F cs x hf hd ⟨s0, F0, s1, F1, hc, hF, h0, h1⟩ => by
  rw [hF] at hd
  exact ⟨s0, F0, s1, F1, hc, hF, h0.frame RI.lasts hf (fun k hk => hd k (by simp [hk])), h1.frame RI.lasts hf (fun k hk => hd k (by simp [hk]))⟩
theorem RTChain.knows : Knows RTChain := fun Φ F cs x ⟨s0, F0, s1, F1, hc, hF, h0, h1⟩ => hF ▸ (h0.kn.app h1.kn)
theorem RTChain.one : Ones RTChain := fun _ _ _ _ h => by obtain ⟨s0, F0, s1, F1, rfl, -, h0, h1⟩ := h; exact One.all ⟨h0.one, h1.one, trivial⟩
def OTChain (Φ : Hp) (F : List Nat) (cs : List Value) (x : TChain) : Prop :=
  ∃ (s0 : Value) (s1 : Value), cs = [s0, s1] ∧ F = (ob s0 ++ []) ++ ((ob s1 ++ [])) ∧ OSl (RI .i64) 3 1 Φ [] s0 x.Pos ∧ OSl (RI .i64) 3 1 Φ [] s1 x.Neg
theorem OTChain.lasts : Lasts OTChain := fun X Φ Φ' F cs x hf hd ⟨s0, s1, hc, hF, h0, h1⟩ => by
  rw [hF] at hd
  exact ⟨s0, s1, hc, hF, h0.frame RI.lasts hf (fun k hk => hd k (by simp [hk])) (Dj.nil _), h1.frame RI.lasts hf (fun k hk => hd k (by simp [hk])) (Dj.nil _)⟩
theorem OTChain.knows : Knows OTChain := fun Φ F cs x ⟨s0, s1, hc, hF, h0, h1⟩ => hF ▸ ((h0.knO.app h0.kn).app (h1.knO.app h1.kn))
theorem OTChain.one : Ones OTChain := fun _ _ _ _ h => by obtain ⟨s0, s1, rfl, -, h0, h1⟩ := h; exact One.all ⟨h0.one, h1.one, trivial⟩
theorem OTChain.gives : Gives OTChain RTChain := fun Φ F cs x ⟨s0, s1, hc, hF, h0, h1⟩ => ⟨s0, ob s0 ++ [], s1, ob s1 ++ [], hc, hF, h0.rslG (Gives.refl _), h1.rslG (Gives.refl _)⟩
structure TNet where
  Alphas : (List TAlpha)
  Chains : (List TChain)
  deriving DecidableEq
def RTNet (Φ : Hp) (F : List Nat) (cs : List Value) (x : TNet) : Prop :=
  ∃ (s0 : Value) (F0 : List Nat) (s1 : Value) (F1 : List Nat), cs = [s0, s1] ∧ F = F0 ++ (F1) ∧ RSl RTAlpha 4 Φ F0 s0 x.Alphas ∧ RSl RTChain 2 Φ F1 s1 x.Chains
theorem RTNet.lasts : Lasts RTNet := fun X Φ Φ' F cs x hf hd ⟨s0, F0, s1, F1, hc, hF, h0, h1⟩ => by
  rw [hF] at hd
  exact ⟨s0, F0, s1, F1, hc, hF, h0.frame RTAlpha.lasts hf (fun k hk => hd k (by simp [hk])), h1.frame RTChain.lasts hf (fun k hk => hd k (by simp [hk]))⟩
theorem RTNet.knows : Knows RTNet := fun Φ F cs x ⟨s0, F0, s1, F1, hc, hF, h0, h1⟩ => hF ▸ (h0.kn.app h1.kn)
theorem RTNet.one : Ones RTNet := fun _ _ _ _ h => by obtain ⟨s0, F0, s1, F1, rfl, -, h0, h1⟩ := h; exact One.all ⟨h0.one, h1.one, trivial⟩
def OTNet (Φ : Hp) (F : List Nat) (cs : List Value) (x : TNet) : Prop :=
  ∃ (s0 : Value) (D0 : List Nat) (s1 : Value) (D1 : List Nat), cs = [s0, s1] ∧ F = (ob s0 ++ D0) ++ ((ob s1 ++ D1)) ∧ OSl OTAlpha 114 4 Φ D0 s0 x.Alphas ∧ OSl OTChain 116 2 Φ D1 s1 x.Chains
theorem OTNet.lasts : Lasts OTNet := fun X Φ Φ' F cs x hf hd ⟨s0, D0, s1, D1, hc, hF, h0, h1⟩ => by
  rw [hF] at hd
  exact ⟨s0, D0, s1, D1, hc, hF, h0.frame OTAlpha.lasts hf (fun k hk => hd k (by simp [hk])) (fun k hk => hd k (by simp [hk])), h1.frame OTChain.lasts hf (fun k hk => hd k (by simp [hk])) (fun k hk => hd k (by simp [hk]))⟩
theorem OTNet.knows : Knows OTNet := fun Φ F cs x ⟨s0, D0, s1, D1, hc, hF, h0, h1⟩ => hF ▸ ((h0.knO.app h0.kn).app (h1.knO.app h1.kn))
theorem OTNet.one : Ones OTNet := fun _ _ _ _ h => by obtain ⟨s0, D0, s1, D1, rfl, -, h0, h1⟩ := h; exact One.all ⟨h0.one, h1.one, trivial⟩
theorem OTNet.gives : Gives OTNet RTNet := fun Φ F cs x ⟨s0, D0, s1, D1, hc, hF, h0, h1⟩ => ⟨s0, ob s0 ++ D0, s1, ob s1 ++ D1, hc, hF, h0.rslG OTAlpha.gives, h1.rslG OTChain.gives⟩
structure TIds where
  L : (List Int)
  deriving DecidableEq
def RTIds (Φ : Hp) (F : List Nat) (cs : List Value) (x : TIds) : Prop :=
  ∃ (s0 : Value) (F0 : List Nat), cs = [s0] ∧ F = F0 ∧ RSl (RI .i64) 1 Φ F0 s0 x.L
theorem RTIds.lasts : Lasts RTIds := fun X Φ Φ' F cs x hf hd ⟨s0, F0, hc, hF, h0⟩ => by
  rw [hF] at hd
  exact ⟨s0, F0, hc, hF, h0.frame RI.lasts hf (fun k hk => hd k (by simp [hk]))⟩
theorem RTIds.knows : Knows RTIds := fun Φ F cs x ⟨s0, F0, hc, hF, h0⟩ => hF ▸ h0.kn
theorem RTIds.one : Ones RTIds := fun _ _ _ _ h => by obtain ⟨s0, F0, rfl, -, h0⟩ := h; exact One.all ⟨h0.one, trivial⟩
def OTIds (Φ : Hp) (F : List Nat) (cs : List Value) (x : TIds) : Prop :=
  ∃ (s0 : Value), cs = [s0] ∧ F = (ob s0 ++ []) ∧ OSl (RI .i64) 3 1 Φ [] s0 x.L
theorem OTIds.lasts : Lasts OTIds := fun X Φ Φ' F cs x hf hd ⟨s0, hc, hF, h0⟩ => by
  rw [hF] at hd
  exact ⟨s0, hc, hF, h0.frame RI.lasts hf (fun k hk => hd k (by simp [hk])) (Dj.nil _)⟩
theorem OTIds.knows : Knows OTIds := fun Φ F cs x ⟨s0, hc, hF, h0⟩ => hF ▸ (h0.knO.app h0.kn)
theorem OTIds.one : Ones OTIds := fun _ _ _ _ h => by obtain ⟨s0, rfl, -, h0⟩ := h; exact One.all ⟨h0.one, trivial⟩
theorem OTIds.gives : Gives OTIds RTIds := fun Φ F cs x ⟨s0, hc, hF, h0⟩ => ⟨s0, ob s0 ++ [], hc, hF, h0.rslG (Gives.refl _)⟩
structure TTok where
  Ids : (List Int)
  Hits : (List Int)
  deriving DecidableEq
def RTTok (Φ : Hp) (F : List Nat) (cs : List Value) (x : TTok) : Prop :=
  ∃ (s0 : Value) (F0 : List Nat) (s1 : Value) (F1 : List Nat), cs = [s0, s1] ∧ F = F0 ++ (F1) ∧ RSl (RI .i64) 1 Φ F0 s0 x.Ids ∧ RSl (RI .i64) 1 Φ F1 s1 x.Hits
theorem RTTok.lasts : Lasts RTTok := fun X Φ Φ' F cs x hf hd ⟨s0, F0, s1, F1, hc, hF, h0, h1⟩ => by
  rw [hF] at hd
  exact ⟨s0, F0, s1, F1, hc, hF, h0.frame RI.lasts hf (fun k hk => hd k (by simp [hk])), h1.frame RI.lasts hf (fun k hk => hd k (by simp [hk]))⟩
theorem RTTok.knows : Knows RTTok := fun Φ F cs x ⟨s0, F0, s1, F1, hc, hF, h0, h1⟩ => hF ▸ (h0.kn.app h1.kn)
theorem RTTok.one : Ones RTTok := fun _ _ _ _ h => by obtain ⟨s0, F0, s1, F1, rfl, -, h0, h1⟩ := h; exact One.all ⟨h0.one, h1.one, trivial⟩
def OTTok (Φ : Hp) (F : List Nat) (cs : List Value) (x : TTok) : Prop :=
  ∃ (s0 : Value) (s1 : Value), cs = [s0, s1] ∧ F = (ob s0 ++ []) ++ ((ob s1 ++ [])) ∧ OSl (RI .i64) 3 1 Φ [] s0 x.Ids ∧ OSl (RI .i64) 3 1 Φ [] s1 x.Hits
theorem OTTok.lasts : Lasts OTTok := fun X Φ Φ' F cs x hf hd ⟨s0, s1, hc, hF, h0, h1⟩ => by
  rw [hF] at hd
  exact ⟨s0, s1, hc, hF, h0.frame RI.lasts hf (fun k hk => hd k (by simp [hk])) (Dj.nil _), h1.frame RI.lasts hf (fun k hk => hd k (by simp [hk])) (Dj.nil _)⟩
theorem OTTok.knows : Knows OTTok := fun Φ F cs x ⟨s0, s1, hc, hF, h0, h1⟩ => hF ▸ ((h0.knO.app h0.kn).app (h1.knO.app h1.kn))
theorem OTTok.one : Ones OTTok := fun _ _ _ _ h => by obtain ⟨s0, s1, rfl, -, h0, h1⟩ := h; exact One.all ⟨h0.one, h1.one, trivial⟩
theorem OTTok.gives : Gives OTTok RTTok := fun Φ F cs x ⟨s0, s1, hc, hF, h0, h1⟩ => ⟨s0, ob s0 ++ [], s1, ob s1 ++ [], hc, hF, h0.rslG (Gives.refl _), h1.rslG (Gives.refl _)⟩
structure TLevel where
  Toks : (List TTok)
  deriving DecidableEq
def RTLevel (Φ : Hp) (F : List Nat) (cs : List Value) (x : TLevel) : Prop :=
  ∃ (s0 : Value) (F0 : List Nat), cs = [s0] ∧ F = F0 ∧ RSl RTTok 2 Φ F0 s0 x.Toks
theorem RTLevel.lasts : Lasts RTLevel := fun X Φ Φ' F cs x hf hd ⟨s0, F0, hc, hF, h0⟩ => by
  rw [hF] at hd
  exact ⟨s0, F0, hc, hF, h0.frame RTTok.lasts hf (fun k hk => hd k (by simp [hk]))⟩
theorem RTLevel.knows : Knows RTLevel := fun Φ F cs x ⟨s0, F0, hc, hF, h0⟩ => hF ▸ h0.kn
theorem RTLevel.one : Ones RTLevel := fun _ _ _ _ h => by obtain ⟨s0, F0, rfl, -, h0⟩ := h; exact One.all ⟨h0.one, trivial⟩
def OTLevel (Φ : Hp) (F : List Nat) (cs : List Value) (x : TLevel) : Prop :=
  ∃ (s0 : Value) (D0 : List Nat), cs = [s0] ∧ F = (ob s0 ++ D0) ∧ OSl OTTok 326 2 Φ D0 s0 x.Toks
theorem OTLevel.lasts : Lasts OTLevel := fun X Φ Φ' F cs x hf hd ⟨s0, D0, hc, hF, h0⟩ => by
  rw [hF] at hd
  exact ⟨s0, D0, hc, hF, h0.frame OTTok.lasts hf (fun k hk => hd k (by simp [hk])) (fun k hk => hd k (by simp [hk]))⟩
theorem OTLevel.knows : Knows OTLevel := fun Φ F cs x ⟨s0, D0, hc, hF, h0⟩ => hF ▸ (h0.knO.app h0.kn)
theorem OTLevel.one : Ones OTLevel := fun _ _ _ _ h => by obtain ⟨s0, D0, rfl, -, h0⟩ := h; exact One.all ⟨h0.one, trivial⟩
theorem OTLevel.gives : Gives OTLevel RTLevel := fun Φ F cs x ⟨s0, D0, hc, hF, h0⟩ => ⟨s0, ob s0 ++ D0, hc, hF, h0.rslG OTTok.gives⟩
structure TRow where
  Levels : (List TLevel)
  deriving DecidableEq
def RTRow (Φ : Hp) (F : List Nat) (cs : List Value) (x : TRow) : Prop :=
  ∃ (s0 : Value) (F0 : List Nat), cs = [s0] ∧ F = F0 ∧ RSl RTLevel 1 Φ F0 s0 x.Levels
theorem RTRow.lasts : Lasts RTRow := fun X Φ Φ' F cs x hf hd ⟨s0, F0, hc, hF, h0⟩ => by
  rw [hF] at hd
  exact ⟨s0, F0, hc, hF, h0.frame RTLevel.lasts hf (fun k hk => hd k (by simp [hk]))⟩
theorem RTRow.knows : Knows RTRow := fun Φ F cs x ⟨s0, F0, hc, hF, h0⟩ => hF ▸ h0.kn
theorem RTRow.one : Ones RTRow := fun _ _ _ _ h => by obtain ⟨s0, F0, rfl, -, h0⟩ := h; exact One.all ⟨h0.one, trivial⟩
def OTRow (Φ : Hp) (F : List Nat) (cs : List Value) (x : TRow) : Prop :=
  ∃ (s0 : Value) (D0 : List Nat), cs = [s0] ∧ F = (ob s0 ++ D0) ∧ OSl OTLevel 136 1 Φ D0 s0 x.Levels
theorem OTRow.lasts : Lasts OTRow := fun X Φ Φ' F cs x hf hd ⟨s0, D0, hc, hF, h0⟩ => by
  rw [hF] at hd
  exact ⟨s0, D0, hc, hF, h0.frame OTLevel.lasts hf (fun k hk => hd k (by simp [hk])) (fun k hk => hd k (by simp [hk]))⟩
theorem OTRow.knows : Knows OTRow := fun Φ F cs x ⟨s0, D0, hc, hF, h0⟩ => hF ▸ (h0.knO.app h0.kn)
theorem OTRow.one : Ones OTRow := fun _ _ _ _ h => by obtain ⟨s0, D0, rfl, -, h0⟩ := h; exact One.all ⟨h0.one, trivial⟩
theorem OTRow.gives : Gives OTRow RTRow := fun Φ F cs x ⟨s0, D0, hc, hF, h0⟩ => ⟨s0, ob s0 ++ D0, hc, hF, h0.rslG OTLevel.gives⟩
structure TMem where
  Alphas : (List TIds)
  Rules : (List TRow)
  deriving DecidableEq
def RTMem (Φ : Hp) (F : List Nat) (cs : List Value) (x : TMem) : Prop :=
  ∃ (s0 : Value) (F0 : List Nat) (s1 : Value) (F1 : List Nat), cs = [s0, s1] ∧ F = F0 ++ (F1) ∧ RSl RTIds 1 Φ F0 s0 x.Alphas ∧ RSl RTRow 1 Φ F1 s1 x.Rules
theorem RTMem.lasts : Lasts RTMem := fun X Φ Φ' F cs x hf hd ⟨s0, F0, s1, F1, hc, hF, h0, h1⟩ => by
  rw [hF] at hd
  exact ⟨s0, F0, s1, F1, hc, hF, h0.frame RTIds.lasts hf (fun k hk => hd k (by simp [hk])), h1.frame RTRow.lasts hf (fun k hk => hd k (by simp [hk]))⟩
theorem RTMem.knows : Knows RTMem := fun Φ F cs x ⟨s0, F0, s1, F1, hc, hF, h0, h1⟩ => hF ▸ (h0.kn.app h1.kn)
theorem RTMem.one : Ones RTMem := fun _ _ _ _ h => by obtain ⟨s0, F0, s1, F1, rfl, -, h0, h1⟩ := h; exact One.all ⟨h0.one, h1.one, trivial⟩
def OTMem (Φ : Hp) (F : List Nat) (cs : List Value) (x : TMem) : Prop :=
  ∃ (s0 : Value) (D0 : List Nat) (s1 : Value) (D1 : List Nat), cs = [s0, s1] ∧ F = (ob s0 ++ D0) ++ ((ob s1 ++ D1)) ∧ OSl OTIds 130 1 Φ D0 s0 x.Alphas ∧ OSl OTRow 133 1 Φ D1 s1 x.Rules
theorem OTMem.lasts : Lasts OTMem := fun X Φ Φ' F cs x hf hd ⟨s0, D0, s1, D1, hc, hF, h0, h1⟩ => by
  rw [hF] at hd
  exact ⟨s0, D0, s1, D1, hc, hF, h0.frame OTIds.lasts hf (fun k hk => hd k (by simp [hk])) (fun k hk => hd k (by simp [hk])), h1.frame OTRow.lasts hf (fun k hk => hd k (by simp [hk])) (fun k hk => hd k (by simp [hk]))⟩
theorem OTMem.knows : Knows OTMem := fun Φ F cs x ⟨s0, D0, s1, D1, hc, hF, h0, h1⟩ => hF ▸ ((h0.knO.app h0.kn).app (h1.knO.app h1.kn))
theorem OTMem.one : Ones OTMem := fun _ _ _ _ h => by obtain ⟨s0, D0, s1, D1, rfl, -, h0, h1⟩ := h; exact One.all ⟨h0.one, h1.one, trivial⟩
theorem OTMem.gives : Gives OTMem RTMem := fun Φ F cs x ⟨s0, D0, s1, D1, hc, hF, h0, h1⟩ => ⟨s0, ob s0 ++ D0, s1, ob s1 ++ D1, hc, hF, h0.rslG OTIds.gives, h1.rslG OTRow.gives⟩
/-! laws.szIntS -/
def m_l_szIntS (N : Nat) (p0 : (List Int)) (p1 : Int) : Option (Int) :=
  (if decide (IntKind.i64.wrap (p1 - (p0.length : Int)) < 0) then some (-1) else some (IntKind.i64.wrap (p1 - (p0.length : Int))))
/-! laws.szVal -/
def m_l_szVal (N : Nat) (p0 : TVal) (p1 : Int) : Option (Int) :=
  (if decide (IntKind.i64.wrap (p1 - (p0.S.size : Int)) < 0) then some (-1) else some (IntKind.i64.wrap (p1 - (p0.S.size : Int))))
/-! laws.szValS -/
def m_l_szValS_l1 (N : Nat) (p0 : (List TVal)) : Nat → Int → Int → Option (Int)
  | 0, _, _ => none
  | k + 1, s1, s2 =>
    (if decide (s2 < (p0.length : Int)) then ((idx p0 s2).bind fun x1 => ((m_l_szVal N x1 s1).bind fun x2 => (if decide (x2 < 0) then some (-1) else ((m_l_szValS_l1 N p0 k) x2 (IntKind.i64.wrap (s2 + 1)))))) else some s1)
def m_l_szValS (N : Nat) (p0 : (List TVal)) (p1 : Int) : Option (Int) :=
  (if decide (IntKind.i64.wrap (p1 - (p0.length : Int)) < 0) then some (-1) else m_l_szValS_l1 N p0 N (IntKind.i64.wrap (p1 - (p0.length : Int))) 0)
/-! laws.szAlpha -/
def m_l_szAlpha (N : Nat) (p0 : TAlpha) (p1 : Int) : Option (Int) :=
  (if decide (IntKind.i64.wrap (p1 - (p0.Kind.size : Int)) < 0) then some (-1) else ((m_l_szValS N p0.Consts (IntKind.i64.wrap (p1 - (p0.Kind.size : Int)))).bind fun x1 => (if decide (x1 < 0) then some (-1) else ((m_l_szIntS N p0.At x1).bind fun x2 => (if decide (x2 < 0) then some (-1) else some x2)))))
/-! laws.szAlphaS -/
def m_l_szAlphaS_l1 (N : Nat) (p0 : (List TAlpha)) : Nat → Int → Int → Option (Int)
  | 0, _, _ => none
  | k + 1, s1, s2 =>
    (if decide (s2 < (p0.length : Int)) then ((idx p0 s2).bind fun x1 => ((m_l_szAlpha N x1 s1).bind fun x2 => (if decide (x2 < 0) then some (-1) else ((m_l_szAlphaS_l1 N p0 k) x2 (IntKind.i64.wrap (s2 + 1)))))) else some s1)
def m_l_szAlphaS (N : Nat) (p0 : (List TAlpha)) (p1 : Int) : Option (Int) :=
  (if decide (IntKind.i64.wrap (p1 - (p0.length : Int)) < 0) then some (-1) else m_l_szAlphaS_l1 N p0 N (IntKind.i64.wrap (p1 - (p0.length : Int))) 0)
/-! laws.szChain -/
def m_l_szChain (N : Nat) (p0 : TChain) (p1 : Int) : Option (Int) :=
  ((m_l_szIntS N p0.Pos p1).bind fun x1 => (if decide (x1 < 0) then some (-1) else ((m_l_szIntS N p0.Neg x1).bind fun x2 => (if decide (x2 < 0) then some (-1) else some x2))))
/-! laws.szChainS -/
def m_l_szChainS_l1 (N : Nat) (p0 : (List TChain)) : Nat → Int → Int → Option (Int)
  | 0, _, _ => none
  | k + 1, s1, s2 =>
    (if decide (s2 < (p0.length : Int)) then ((idx p0 s2).bind fun x1 => ((m_l_szChain N x1 s1).bind fun x2 => (if decide (x2 < 0) then some (-1) else ((m_l_szChainS_l1 N p0 k) x2 (IntKind.i64.wrap (s2 + 1)))))) else some s1)
def m_l_szChainS (N : Nat) (p0 : (List TChain)) (p1 : Int) : Option (Int) :=
  (if decide (IntKind.i64.wrap (p1 - (p0.length : Int)) < 0) then some (-1) else m_l_szChainS_l1 N p0 N (IntKind.i64.wrap (p1 - (p0.length : Int))) 0)
/-! laws.szNet -/
def m_l_szNet (N : Nat) (p0 : TNet) (p1 : Int) : Option (Int) :=
  ((m_l_szAlphaS N p0.Alphas p1).bind fun x1 => (if decide (x1 < 0) then some (-1) else ((m_l_szChainS N p0.Chains x1).bind fun x2 => (if decide (x2 < 0) then some (-1) else some x2))))
/-! spec.MemNew -/
def m_s_MemNew_l3 (N : Nat) (p0 : TNet) (s3 : (List TRow)) (s4 : Int) (K2 : (List TRow) → Int → Option (TMem)) : Nat → (List TLevel) → Int → Option (TMem)
  | 0, _, _ => none
  | k + 1, s5, s6 =>
    ((idx p0.Chains s4).bind fun x2 => (if decide (s6 < (x2.Pos.length : Int)) then ((app s5 ([(⟨[]⟩ : TLevel)] : List TLevel)).bind fun x3 => ((m_s_MemNew_l3 N p0 s3 s4 K2 k) x3 (IntKind.i64.wrap (s6 + 1)))) else ((app s3 ([(⟨s5⟩ : TRow)] : List TRow)).bind fun x4 => (K2 x4 (IntKind.i64.wrap (s4 + 1))))))
def m_s_MemNew_l2 (N : Nat) (p0 : TNet) (s1 : (List TIds)) : Nat → (List TRow) → Int → Option (TMem)
  | 0, _, _ => none
  | k + 1, s3, s4 =>
    (if decide (s4 < (p0.Chains.length : Int)) then m_s_MemNew_l3 N p0 s3 s4 (m_s_MemNew_l2 N p0 s1 k) N ([] : List TLevel) 0 else some (⟨s1, s3⟩ : TMem))
def m_s_MemNew_l1 (N : Nat) (p0 : TNet) : Nat → (List TIds) → Int → Option (TMem)
  | 0, _, _ => none
  | k + 1, s1, s2 =>
    (if decide (s2 < (p0.Alphas.length : Int)) then ((app s1 ([(⟨[]⟩ : TIds)] : List TIds)).bind fun x1 => ((m_s_MemNew_l1 N p0 k) x1 (IntKind.i64.wrap (s2 + 1)))) else m_s_MemNew_l2 N p0 s1 N ([] : List TRow) 0)
def m_s_MemNew (N : Nat) (p0 : TNet) : Option (TMem) :=
  m_s_MemNew_l1 N p0 N ([] : List TIds) 0
/-! laws.toIntS -/
def m_l_toIntS_l1 (N : Nat) (p0 : (List Int)) : Nat → (List Int) → Int → Option ((List Int))
  | 0, _, _ => none
  | k + 1, s1, s2 =>
    (if decide (s2 < (p0.length : Int)) then ((idx p0 s2).bind fun x2 => ((idx s1 s2).bind fun x3 => ((m_l_toIntS_l1 N p0 k) (s1.set s2.toNat x2) (IntKind.i64.wrap (s2 + 1))))) else some s1)
def m_l_toIntS (N : Nat) (p0 : (List Int)) : Option ((List Int)) :=
  ((mk 0 (p0.length : Int)).bind fun x1 => m_l_toIntS_l1 N p0 N x1 0)
/-! laws.toVal -/
def m_l_toVal (N : Nat) (p0 : TVal) : Option (TVal) :=
  some p0
/-! laws.toValS -/
def m_l_toValS_l1 (N : Nat) (p0 : (List TVal)) : Nat → (List TVal) → Int → Option ((List TVal))
  | 0, _, _ => none
  | k + 1, s1, s2 =>
    (if decide (s2 < (p0.length : Int)) then ((idx p0 s2).bind fun x2 => ((m_l_toVal N x2).bind fun x3 => ((idx s1 s2).bind fun x4 => ((m_l_toValS_l1 N p0 k) (s1.set s2.toNat x3) (IntKind.i64.wrap (s2 + 1)))))) else some s1)
def m_l_toValS (N : Nat) (p0 : (List TVal)) : Option ((List TVal)) :=
  ((mk (⟨0, 0, (⟨#[]⟩ : ByteArray)⟩ : TVal) (p0.length : Int)).bind fun x1 => m_l_toValS_l1 N p0 N x1 0)
/-! laws.toAlpha -/
def m_l_toAlpha (N : Nat) (p0 : TAlpha) : Option (TAlpha) :=
  ((m_l_toValS N p0.Consts).bind fun x1 => ((m_l_toIntS N p0.At).bind fun x2 => some (⟨p0.Kind, p0.N, x1, x2⟩ : TAlpha)))
/-! laws.toAlphaS -/
def m_l_toAlphaS_l1 (N : Nat) (p0 : (List TAlpha)) : Nat → (List TAlpha) → Int → Option ((List TAlpha))
  | 0, _, _ => none
  | k + 1, s1, s2 =>
    (if decide (s2 < (p0.length : Int)) then ((idx p0 s2).bind fun x2 => ((m_l_toAlpha N x2).bind fun x3 => ((idx s1 s2).bind fun x4 => ((m_l_toAlphaS_l1 N p0 k) (s1.set s2.toNat x3) (IntKind.i64.wrap (s2 + 1)))))) else some s1)
def m_l_toAlphaS (N : Nat) (p0 : (List TAlpha)) : Option ((List TAlpha)) :=
  ((mk (⟨(⟨#[]⟩ : ByteArray), 0, ([] : List TVal), ([] : List Int)⟩ : TAlpha) (p0.length : Int)).bind fun x1 => m_l_toAlphaS_l1 N p0 N x1 0)
/-! laws.toChain -/
def m_l_toChain (N : Nat) (p0 : TChain) : Option (TChain) :=
  ((m_l_toIntS N p0.Pos).bind fun x1 => ((m_l_toIntS N p0.Neg).bind fun x2 => some (⟨x1, x2⟩ : TChain)))
/-! laws.toChainS -/
def m_l_toChainS_l1 (N : Nat) (p0 : (List TChain)) : Nat → (List TChain) → Int → Option ((List TChain))
  | 0, _, _ => none
  | k + 1, s1, s2 =>
    (if decide (s2 < (p0.length : Int)) then ((idx p0 s2).bind fun x2 => ((m_l_toChain N x2).bind fun x3 => ((idx s1 s2).bind fun x4 => ((m_l_toChainS_l1 N p0 k) (s1.set s2.toNat x3) (IntKind.i64.wrap (s2 + 1)))))) else some s1)
def m_l_toChainS (N : Nat) (p0 : (List TChain)) : Option ((List TChain)) :=
  ((mk (⟨([] : List Int), ([] : List Int)⟩ : TChain) (p0.length : Int)).bind fun x1 => m_l_toChainS_l1 N p0 N x1 0)
/-! laws.toNet -/
def m_l_toNet (N : Nat) (p0 : TNet) : Option (TNet) :=
  ((m_l_toAlphaS N p0.Alphas).bind fun x1 => ((m_l_toChainS N p0.Chains).bind fun x2 => some (⟨x1, x2⟩ : TNet)))
/-! impl.MemNew -/
def m_i_MemNew_l1 (N : Nat) (p0 : TNet) (x1 : (List TIds)) : Nat → (List TRow) → Int → Option (TMem)
  | 0, _, _ => none
  | k + 1, s1, s2 =>
    (if decide (s2 < (p0.Chains.length : Int)) then ((idx p0.Chains s2).bind fun x2 => ((mk (⟨([] : List TTok)⟩ : TLevel) (x2.Pos.length : Int)).bind fun x3 => ((app s1 ([(⟨x3⟩ : TRow)] : List TRow)).bind fun x4 => ((m_i_MemNew_l1 N p0 x1 k) x4 (IntKind.i64.wrap (s2 + 1)))))) else some (⟨x1, s1⟩ : TMem))
def m_i_MemNew (N : Nat) (p0 : TNet) : Option (TMem) :=
  ((mk (⟨([] : List Int)⟩ : TIds) (p0.Alphas.length : Int)).bind fun x1 => m_i_MemNew_l1 N p0 x1 N ([] : List TRow) 0)
/-! laws.eqIntS -/
def m_l_eqIntS_l1 (N : Nat) (p0 : (List Int)) (p1 : (List Int)) : Nat → Int → Option (Bool)
  | 0, _ => none
  | k + 1, s1 =>
    (if decide (s1 < (p0.length : Int)) then ((idx p0 s1).bind fun x1 => ((idx p1 s1).bind fun x2 => (if !decide (x1 = x2) then some false else ((m_l_eqIntS_l1 N p0 p1 k) (IntKind.i64.wrap (s1 + 1)))))) else some true)
def m_l_eqIntS (N : Nat) (p0 : (List Int)) (p1 : (List Int)) : Option (Bool) :=
  (if !decide ((p0.length : Int) = (p1.length : Int)) then some false else m_l_eqIntS_l1 N p0 p1 N 0)
/-! laws.eqIds -/
def m_l_eqIds (N : Nat) (p0 : TIds) (p1 : TIds) : Option (Bool) :=
  ((m_l_eqIntS N p0.L p1.L).bind fun x1 => (if !x1 then some false else some true))
/-! laws.eqIdsS -/
def m_l_eqIdsS_l1 (N : Nat) (p0 : (List TIds)) (p1 : (List TIds)) : Nat → Int → Option (Bool)
  | 0, _ => none
  | k + 1, s1 =>
    (if decide (s1 < (p0.length : Int)) then ((idx p0 s1).bind fun x1 => ((idx p1 s1).bind fun x2 => ((m_l_eqIds N x1 x2).bind fun x3 => (if !x3 then some false else ((m_l_eqIdsS_l1 N p0 p1 k) (IntKind.i64.wrap (s1 + 1))))))) else some true)
def m_l_eqIdsS (N : Nat) (p0 : (List TIds)) (p1 : (List TIds)) : Option (Bool) :=
  (if !decide ((p0.length : Int) = (p1.length : Int)) then some false else m_l_eqIdsS_l1 N p0 p1 N 0)
/-! laws.eqTok -/
def m_l_eqTok (N : Nat) (p0 : TTok) (p1 : TTok) : Option (Bool) :=
  ((m_l_eqIntS N p0.Ids p1.Ids).bind fun x1 => (if !x1 then some false else ((m_l_eqIntS N p0.Hits p1.Hits).bind fun x2 => (if !x2 then some false else some true))))
/-! laws.eqTokS -/
def m_l_eqTokS_l1 (N : Nat) (p0 : (List TTok)) (p1 : (List TTok)) : Nat → Int → Option (Bool)
  | 0, _ => none
  | k + 1, s1 =>
    (if decide (s1 < (p0.length : Int)) then ((idx p0 s1).bind fun x1 => ((idx p1 s1).bind fun x2 => ((m_l_eqTok N x1 x2).bind fun x3 => (if !x3 then some false else ((m_l_eqTokS_l1 N p0 p1 k) (IntKind.i64.wrap (s1 + 1))))))) else some true)
def m_l_eqTokS (N : Nat) (p0 : (List TTok)) (p1 : (List TTok)) : Option (Bool) :=
  (if !decide ((p0.length : Int) = (p1.length : Int)) then some false else m_l_eqTokS_l1 N p0 p1 N 0)
/-! laws.eqLevel -/
def m_l_eqLevel (N : Nat) (p0 : TLevel) (p1 : TLevel) : Option (Bool) :=
  ((m_l_eqTokS N p0.Toks p1.Toks).bind fun x1 => (if !x1 then some false else some true))
/-! laws.eqLevelS -/
def m_l_eqLevelS_l1 (N : Nat) (p0 : (List TLevel)) (p1 : (List TLevel)) : Nat → Int → Option (Bool)
  | 0, _ => none
  | k + 1, s1 =>
    (if decide (s1 < (p0.length : Int)) then ((idx p0 s1).bind fun x1 => ((idx p1 s1).bind fun x2 => ((m_l_eqLevel N x1 x2).bind fun x3 => (if !x3 then some false else ((m_l_eqLevelS_l1 N p0 p1 k) (IntKind.i64.wrap (s1 + 1))))))) else some true)
def m_l_eqLevelS (N : Nat) (p0 : (List TLevel)) (p1 : (List TLevel)) : Option (Bool) :=
  (if !decide ((p0.length : Int) = (p1.length : Int)) then some false else m_l_eqLevelS_l1 N p0 p1 N 0)
/-! laws.eqRow -/
def m_l_eqRow (N : Nat) (p0 : TRow) (p1 : TRow) : Option (Bool) :=
  ((m_l_eqLevelS N p0.Levels p1.Levels).bind fun x1 => (if !x1 then some false else some true))
/-! laws.eqRowS -/
def m_l_eqRowS_l1 (N : Nat) (p0 : (List TRow)) (p1 : (List TRow)) : Nat → Int → Option (Bool)
  | 0, _ => none
  | k + 1, s1 =>
    (if decide (s1 < (p0.length : Int)) then ((idx p0 s1).bind fun x1 => ((idx p1 s1).bind fun x2 => ((m_l_eqRow N x1 x2).bind fun x3 => (if !x3 then some false else ((m_l_eqRowS_l1 N p0 p1 k) (IntKind.i64.wrap (s1 + 1))))))) else some true)
def m_l_eqRowS (N : Nat) (p0 : (List TRow)) (p1 : (List TRow)) : Option (Bool) :=
  (if !decide ((p0.length : Int) = (p1.length : Int)) then some false else m_l_eqRowS_l1 N p0 p1 N 0)
/-! laws.eqMem -/
def m_l_eqMem (N : Nat) (p0 : TMem) (p1 : TMem) : Option (Bool) :=
  ((m_l_eqIdsS N p0.Alphas p1.Alphas).bind fun x1 => (if !x1 then some false else ((m_l_eqRowS N p0.Rules p1.Rules).bind fun x2 => (if !x2 then some false else some true))))
/-! laws.eqVal -/
def m_l_eqVal (N : Nat) (p0 : TVal) (p1 : TVal) : Option (Bool) :=
  (if !decide (p0.K = p1.K) then some false else (if !decide (p0.N = p1.N) then some false else (if !seq p0.S p1.S then some false else some true)))
/-! laws.eqValS -/
def m_l_eqValS_l1 (N : Nat) (p0 : (List TVal)) (p1 : (List TVal)) : Nat → Int → Option (Bool)
  | 0, _ => none
  | k + 1, s1 =>
    (if decide (s1 < (p0.length : Int)) then ((idx p0 s1).bind fun x1 => ((idx p1 s1).bind fun x2 => ((m_l_eqVal N x1 x2).bind fun x3 => (if !x3 then some false else ((m_l_eqValS_l1 N p0 p1 k) (IntKind.i64.wrap (s1 + 1))))))) else some true)
def m_l_eqValS (N : Nat) (p0 : (List TVal)) (p1 : (List TVal)) : Option (Bool) :=
  (if !decide ((p0.length : Int) = (p1.length : Int)) then some false else m_l_eqValS_l1 N p0 p1 N 0)
/-! laws.eqAlpha -/
def m_l_eqAlpha (N : Nat) (p0 : TAlpha) (p1 : TAlpha) : Option (Bool) :=
  (if !seq p0.Kind p1.Kind then some false else (if !decide (p0.N = p1.N) then some false else ((m_l_eqValS N p0.Consts p1.Consts).bind fun x1 => (if !x1 then some false else ((m_l_eqIntS N p0.At p1.At).bind fun x2 => (if !x2 then some false else some true))))))
/-! laws.eqAlphaS -/
def m_l_eqAlphaS_l1 (N : Nat) (p0 : (List TAlpha)) (p1 : (List TAlpha)) : Nat → Int → Option (Bool)
  | 0, _ => none
  | k + 1, s1 =>
    (if decide (s1 < (p0.length : Int)) then ((idx p0 s1).bind fun x1 => ((idx p1 s1).bind fun x2 => ((m_l_eqAlpha N x1 x2).bind fun x3 => (if !x3 then some false else ((m_l_eqAlphaS_l1 N p0 p1 k) (IntKind.i64.wrap (s1 + 1))))))) else some true)
def m_l_eqAlphaS (N : Nat) (p0 : (List TAlpha)) (p1 : (List TAlpha)) : Option (Bool) :=
  (if !decide ((p0.length : Int) = (p1.length : Int)) then some false else m_l_eqAlphaS_l1 N p0 p1 N 0)
/-! laws.eqChain -/
def m_l_eqChain (N : Nat) (p0 : TChain) (p1 : TChain) : Option (Bool) :=
  ((m_l_eqIntS N p0.Pos p1.Pos).bind fun x1 => (if !x1 then some false else ((m_l_eqIntS N p0.Neg p1.Neg).bind fun x2 => (if !x2 then some false else some true))))
/-! laws.eqChainS -/
def m_l_eqChainS_l1 (N : Nat) (p0 : (List TChain)) (p1 : (List TChain)) : Nat → Int → Option (Bool)
  | 0, _ => none
  | k + 1, s1 =>
    (if decide (s1 < (p0.length : Int)) then ((idx p0 s1).bind fun x1 => ((idx p1 s1).bind fun x2 => ((m_l_eqChain N x1 x2).bind fun x3 => (if !x3 then some false else ((m_l_eqChainS_l1 N p0 p1 k) (IntKind.i64.wrap (s1 + 1))))))) else some true)
def m_l_eqChainS (N : Nat) (p0 : (List TChain)) (p1 : (List TChain)) : Option (Bool) :=
  (if !decide ((p0.length : Int) = (p1.length : Int)) then some false else m_l_eqChainS_l1 N p0 p1 N 0)
/-! laws.eqNet -/
def m_l_eqNet (N : Nat) (p0 : TNet) (p1 : TNet) : Option (Bool) :=
  ((m_l_eqAlphaS N p0.Alphas p1.Alphas).bind fun x1 => (if !x1 then some false else ((m_l_eqChainS N p0.Chains p1.Chains).bind fun x2 => (if !x2 then some false else some true))))
/-! laws.markText -/
def m_l_markText_l1 (N : Nat) : Nat → Int → ByteArray → Option (ByteArray)
  | 0, _, _ => none
  | k + 1, s1, s2 =>
    (if decide (0 < s1) then ((cat (bstr ([(IntKind.u8.wrap (IntKind.i64.wrap (48 + (s1.tmod 10))))] : List Int)) s2).bind fun z1 => ((m_l_markText_l1 N k) (IntKind.i64.wrap (s1.tdiv 10)) z1)) else ((cat (⟨#[109]⟩ : ByteArray) s2).bind fun z2 => some z2))
def m_l_markText (N : Nat) (p0 : Int) : Option (ByteArray) :=
  (if decide (p0 ≤ 0) then some (⟨#[109, 48]⟩ : ByteArray) else m_l_markText_l1 N N p0 (⟨#[]⟩ : ByteArray))
/-! laws.markValS -/
def m_l_markValS_l1 (N : Nat) : Nat → (List TVal) → Int → Int → Option (Int × (List TVal))
  | 0, _, _, _ => none
  | k + 1, s1, s2, s3 =>
    (if decide (s3 < (s1.length : Int)) then ((idx s1 s3).bind fun x1 => ((m_l_markText N (IntKind.i64.wrap ((IntKind.i64.wrap (s2 + 1)) + 1))).bind fun x2 => ((m_l_markValS_l1 N k) (s1.set s3.toNat (⟨s2, IntKind.i64.wrap (s2 + 1), x2⟩ : TVal)) (IntKind.i64.wrap ((IntKind.i64.wrap ((IntKind.i64.wrap (s2 + 1)) + 1)) + 1)) (IntKind.i64.wrap (s3 + 1))))) else some (s2, s1))
def m_l_markValS (N : Nat) (p0 : (List TVal)) (p1 : Int) : Option (Int × (List TVal)) :=
  m_l_markValS_l1 N N p0 p1 0
/-! laws.markIntS -/
def m_l_markIntS_l1 (N : Nat) : Nat → (List Int) → Int → Int → Option (Int × (List Int))
  | 0, _, _, _ => none
  | k + 1, s1, s2, s3 =>
    (if decide (s3 < (s1.length : Int)) then ((idx s1 s3).bind fun x1 => ((m_l_markIntS_l1 N k) (s1.set s3.toNat s2) (IntKind.i64.wrap (s2 + 1)) (IntKind.i64.wrap (s3 + 1)))) else some (s2, s1))
def m_l_markIntS (N : Nat) (p0 : (List Int)) (p1 : Int) : Option (Int × (List Int)) :=
  m_l_markIntS_l1 N N p0 p1 0
/-! laws.markAlphaS -/
def m_l_markAlphaS_l1 (N : Nat) : Nat → (List TAlpha) → Int → Int → Option (Int × (List TAlpha))
  | 0, _, _, _ => none
  | k + 1, s1, s2, s3 =>
    (if decide (s3 < (s1.length : Int)) then ((m_l_markText N s2).bind fun x1 => ((idx s1 s3).bind fun x2 => ((m_l_markValS N x2.Consts (IntKind.i64.wrap ((IntKind.i64.wrap (s2 + 1)) + 1))).bind fun x3 => ((m_l_markIntS N x2.At x3.1).bind fun x4 => ((m_l_markAlphaS_l1 N k) (s1.set s3.toNat (⟨x1, IntKind.i64.wrap (s2 + 1), x3.2, x4.2⟩ : TAlpha)) x4.1 (IntKind.i64.wrap (s3 + 1))))))) else some (s2, s1))
def m_l_markAlphaS (N : Nat) (p0 : (List TAlpha)) (p1 : Int) : Option (Int × (List TAlpha)) :=
  m_l_markAlphaS_l1 N N p0 p1 0
/-! laws.markChainS -/
def m_l_markChainS_l1 (N : Nat) : Nat → (List TChain) → Int → Int → Option (Int × (List TChain))
  | 0, _, _, _ => none
  | k + 1, s1, s2, s3 =>
    (if decide (s3 < (s1.length : Int)) then ((idx s1 s3).bind fun x1 => ((m_l_markIntS N x1.Pos s2).bind fun x2 => ((m_l_markIntS N x1.Neg x2.1).bind fun x3 => ((m_l_markChainS_l1 N k) (s1.set s3.toNat (⟨x2.2, x3.2⟩ : TChain)) x3.1 (IntKind.i64.wrap (s3 + 1)))))) else some (s2, s1))
def m_l_markChainS (N : Nat) (p0 : (List TChain)) (p1 : Int) : Option (Int × (List TChain)) :=
  m_l_markChainS_l1 N N p0 p1 0
/-! laws.markNet -/
def m_l_markNet (N : Nat) (p0 : TNet) (p1 : Int) : Option (Int × (List TAlpha) × (List TChain)) :=
  ((m_l_markAlphaS N p0.Alphas p1).bind fun x1 => ((m_l_markChainS N p0.Chains x1.1).bind fun x2 => some (x2.1, x1.2, x2.2)))
/-! laws.markIdsS -/
def m_l_markIdsS_l1 (N : Nat) : Nat → (List TIds) → Int → Int → Option (Int × (List TIds))
  | 0, _, _, _ => none
  | k + 1, s1, s2, s3 =>
    (if decide (s3 < (s1.length : Int)) then ((idx s1 s3).bind fun x1 => ((m_l_markIntS N x1.L s2).bind fun x2 => ((m_l_markIdsS_l1 N k) (s1.set s3.toNat (⟨x2.2⟩ : TIds)) x2.1 (IntKind.i64.wrap (s3 + 1))))) else some (s2, s1))
def m_l_markIdsS (N : Nat) (p0 : (List TIds)) (p1 : Int) : Option (Int × (List TIds)) :=
  m_l_markIdsS_l1 N N p0 p1 0
/-! laws.markTokS -/
def m_l_markTokS_l1 (N : Nat) : Nat → (List TTok) → Int → Int → Option (Int × (List TTok))
  | 0, _, _, _ => none
  | k + 1, s1, s2, s3 =>
    (if decide (s3 < (s1.length : Int)) then ((idx s1 s3).bind fun x1 => ((m_l_markIntS N x1.Ids s2).bind fun x2 => ((m_l_markIntS N x1.Hits x2.1).bind fun x3 => ((m_l_markTokS_l1 N k) (s1.set s3.toNat (⟨x2.2, x3.2⟩ : TTok)) x3.1 (IntKind.i64.wrap (s3 + 1)))))) else some (s2, s1))
def m_l_markTokS (N : Nat) (p0 : (List TTok)) (p1 : Int) : Option (Int × (List TTok)) :=
  m_l_markTokS_l1 N N p0 p1 0
/-! laws.markLevelS -/
def m_l_markLevelS_l1 (N : Nat) : Nat → (List TLevel) → Int → Int → Option (Int × (List TLevel))
  | 0, _, _, _ => none
  | k + 1, s1, s2, s3 =>
    (if decide (s3 < (s1.length : Int)) then ((idx s1 s3).bind fun x1 => ((m_l_markTokS N x1.Toks s2).bind fun x2 => ((m_l_markLevelS_l1 N k) (s1.set s3.toNat (⟨x2.2⟩ : TLevel)) x2.1 (IntKind.i64.wrap (s3 + 1))))) else some (s2, s1))
def m_l_markLevelS (N : Nat) (p0 : (List TLevel)) (p1 : Int) : Option (Int × (List TLevel)) :=
  m_l_markLevelS_l1 N N p0 p1 0
/-! laws.markRowS -/
def m_l_markRowS_l1 (N : Nat) : Nat → (List TRow) → Int → Int → Option (Int × (List TRow))
  | 0, _, _, _ => none
  | k + 1, s1, s2, s3 =>
    (if decide (s3 < (s1.length : Int)) then ((idx s1 s3).bind fun x1 => ((m_l_markLevelS N x1.Levels s2).bind fun x2 => ((m_l_markRowS_l1 N k) (s1.set s3.toNat (⟨x2.2⟩ : TRow)) x2.1 (IntKind.i64.wrap (s3 + 1))))) else some (s2, s1))
def m_l_markRowS (N : Nat) (p0 : (List TRow)) (p1 : Int) : Option (Int × (List TRow)) :=
  m_l_markRowS_l1 N N p0 p1 0
/-! laws.markMem -/
def m_l_markMem (N : Nat) (p0 : TMem) (p1 : Int) : Option (Int × (List TIds) × (List TRow)) :=
  ((m_l_markIdsS N p0.Alphas p1).bind fun x1 => ((m_l_markRowS N p0.Rules x1.1).bind fun x2 => some (x2.1, x1.2, x2.2)))
/-! laws.heldIntS -/
def m_l_heldIntS_l1 (N : Nat) (p0 : (List Int)) : Nat → Int → Int → Option (Int)
  | 0, _, _ => none
  | k + 1, s1, s2 =>
    (if decide (s2 < (p0.length : Int)) then ((idx p0 s2).bind fun x1 => (if !decide (x1 = s1) then some (-1) else ((m_l_heldIntS_l1 N p0 k) (IntKind.i64.wrap (s1 + 1)) (IntKind.i64.wrap (s2 + 1))))) else some s1)
def m_l_heldIntS (N : Nat) (p0 : (List Int)) (p1 : Int) : Option (Int) :=
  m_l_heldIntS_l1 N p0 N p1 0
/-! laws.heldIdsS -/
def m_l_heldIdsS_l1 (N : Nat) (p0 : (List TIds)) : Nat → Int → Int → Option (Int)
  | 0, _, _ => none
  | k + 1, s1, s2 =>
    (if decide (s2 < (p0.length : Int)) then ((idx p0 s2).bind fun x1 => ((m_l_heldIntS N x1.L s1).bind fun x2 => (if decide (x2 < 0) then some (-1) else ((m_l_heldIdsS_l1 N p0 k) x2 (IntKind.i64.wrap (s2 + 1)))))) else some s1)
def m_l_heldIdsS (N : Nat) (p0 : (List TIds)) (p1 : Int) : Option (Int) :=
  m_l_heldIdsS_l1 N p0 N p1 0
/-! laws.heldTokS -/
def m_l_heldTokS_l1 (N : Nat) (p0 : (List TTok)) : Nat → Int → Int → Option (Int)
  | 0, _, _ => none
  | k + 1, s1, s2 =>
    (if decide (s2 < (p0.length : Int)) then ((idx p0 s2).bind fun x1 => ((m_l_heldIntS N x1.Ids s1).bind fun x2 => (if decide (x2 < 0) then some (-1) else ((idx p0 s2).bind fun x3 => ((m_l_heldIntS N x3.Hits x2).bind fun x4 => (if decide (x4 < 0) then some (-1) else ((m_l_heldTokS_l1 N p0 k) x4 (IntKind.i64.wrap (s2 + 1))))))))) else some s1)
def m_l_heldTokS (N : Nat) (p0 : (List TTok)) (p1 : Int) : Option (Int) :=
  m_l_heldTokS_l1 N p0 N p1 0
/-! laws.heldLevelS -/
def m_l_heldLevelS_l1 (N : Nat) (p0 : (List TLevel)) : Nat → Int → Int → Option (Int)
  | 0, _, _ => none
  | k + 1, s1, s2 =>
    (if decide (s2 < (p0.length : Int)) then ((idx p0 s2).bind fun x1 => ((m_l_heldTokS N x1.Toks s1).bind fun x2 => (if decide (x2 < 0) then some (-1) else ((m_l_heldLevelS_l1 N p0 k) x2 (IntKind.i64.wrap (s2 + 1)))))) else some s1)
def m_l_heldLevelS (N : Nat) (p0 : (List TLevel)) (p1 : Int) : Option (Int) :=
  m_l_heldLevelS_l1 N p0 N p1 0
/-! laws.heldRowS -/
def m_l_heldRowS_l1 (N : Nat) (p0 : (List TRow)) : Nat → Int → Int → Option (Int)
  | 0, _, _ => none
  | k + 1, s1, s2 =>
    (if decide (s2 < (p0.length : Int)) then ((idx p0 s2).bind fun x1 => ((m_l_heldLevelS N x1.Levels s1).bind fun x2 => (if decide (x2 < 0) then some (-1) else ((m_l_heldRowS_l1 N p0 k) x2 (IntKind.i64.wrap (s2 + 1)))))) else some s1)
def m_l_heldRowS (N : Nat) (p0 : (List TRow)) (p1 : Int) : Option (Int) :=
  m_l_heldRowS_l1 N p0 N p1 0
/-! laws.heldMem -/
def m_l_heldMem (N : Nat) (p0 : TMem) (p1 : Int) : Option (Int) :=
  ((m_l_heldIdsS N p0.Alphas p1).bind fun x1 => (if decide (x1 < 0) then some (-1) else ((m_l_heldRowS N p0.Rules x1).bind fun x2 => (if decide (x2 < 0) then some (-1) else some x2))))
/-! laws.FnExactMemNew -/
def m_l_FnExactMemNew (N : Nat) (p0 : TNet) : Option (Bool) :=
  ((m_l_szNet N p0 1048576).bind fun x1 => (if decide (x1 < 0) then some true else ((m_l_toNet N p0).bind fun x2 => ((m_s_MemNew N x2).bind fun x3 => ((m_l_toNet N p0).bind fun x4 => ((m_i_MemNew N x4).bind fun x5 => ((m_l_eqMem N x5 x3).bind fun x6 => (if !x6 then some false else ((m_l_toNet N p0).bind fun x7 => ((m_l_eqNet N x4 x7).bind fun x8 => (if !x8 then some false else ((m_l_markNet N x4 1).bind fun x9 => ((if decide (x9.1 < 0) then some true else ((m_l_eqMem N x5 x3).bind fun x10 => some (!x10))).bind fun b1 => (if b1 then some false else ((m_l_markMem N x5 1).bind fun x11 => ((m_l_heldMem N (⟨x11.2.1, x11.2.2⟩ : TMem) 1).bind fun x12 => (if decide (x12 < 0) then some false else (if !decide (x12 = x11.1) then some false else ((m_l_toNet N p0).bind fun x13 => ((m_i_MemNew N x13).bind fun x14 => ((m_l_eqMem N x14 x3).bind fun x15 => (if !x15 then some false else ((m_l_heldMem N (⟨x11.2.1, x11.2.2⟩ : TMem) 1).bind fun x16 => (if decide (x16 < 0) then some false else (if !decide (x16 = x11.1) then some false else some true)))))))))))))))))))))))))
end Go.Proofs.Ytjhlmnbkfdkmpaa
