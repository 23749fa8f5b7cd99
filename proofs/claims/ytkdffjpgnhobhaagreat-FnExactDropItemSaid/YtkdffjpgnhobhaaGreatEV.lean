/-
  The engine, part V: two elements of a row change places; what they own goes with them.
  Nothing here names a program.
-/
import Derived.Test.YtkdffjpgnhobhaaGreatEP
namespace Go.Proofs.YtkdffjpgnhobhaaGreat.Eng
set_option linter.unusedVariables false
set_option linter.unusedSimpArgs false
variable {l:Env} {Ψ0 H0:Hp} {B0:List Nat} {w0:ab Ψ0 H0 B0} {Φ Φ':Hp} {O:fv} {L:List (List Nat)} {w w':World} {S:World→Prop} {P:Program}
variable {α:Type} {R:Hp→List Nat→List Value→α→Prop} {t n e sz i j:Nat} {x y:Operand} {v u:Value} {vs cs c:List Value} {xs:List α} {D F:List Nat} {js:List Nat} {Rr:List (List Nat)} {a b:α}
structure SwS (R:Hp→List Nat→List Value→α→Prop) (e sz:Nat) (Φ:Hp) (D:List Nat) (v:Value) (xs:List α) (i j:Nat) (c:List Value):Prop where
  kn:Kw Φ D
  li:i < xs.length
  lj:j < xs.length
  len:c.length=sz
  ex:∃ (cells:List Value) (Fs:List (List Nat)),oM Φ e sz v xs.length cells∧Fs.length=xs.length∧D=Fs.flatten ∧
    (∀ k x,k≠i→xs[k]?=some x→R Φ (Fs.getD k []) ((cells.drop (k*sz)).take sz) x)∧(∀ x,xs[i]?=some x→R Φ (Fs.getD i []) c x)∧∀ y,xs[j]?=some y→R Φ (Fs.getD j []) ((cells.drop (i*sz)).take sz) y
theorem SwS.form (h:SwS R e sz Φ D v xs i j c):∃ a c,v = .slice a xs.length c∧xs.length≤c:=by
  obtain ⟨cells,Fs,g1,_⟩:=h.ex
  exact g1.form
section
variable {g:G} {k:List Item} {ops:Array Oper} {kp:Nat→Bool} {fuel:Nat} {done:List Nat} {Sw:World→Prop}
end

def Fl (l:Env):List Nat→Env→Option Env
  | [],acc=>some acc
  | n :: ns,acc=>match lk l n with
    | some v=>Fl l ns ((n,v) :: acc)
    | none=>none
theorem C3 {l l':Env}:∀ {ns:List Nat} {acc:Env},Fl l ns acc=some l'→Sub l acc→Sub l l'
  | [],acc,h,hs=>by simp only [Fl,Option.some.injEq] at h; subst h; exact hs
  | n :: ns,acc,h,hs=>by
    simp only [Fl] at h
    split at h
    · rename_i v hv
      exact C3 h ⟨hv,hs⟩
    · cases h
theorem kSt {g:G} {k:List Item} {l:Env} (S':World→Prop) (hk:WT g k l S') (hS:∀ w,S w→S' w:=by exact fun w h=>h):WT g k l S:=fun a w hf hw=>hk a w hf (hS w hw)
theorem kEn {g:G} {k:List Item} {l l':Env} (ns:List Nat) (h:Fl l ns []=some l') (hk:WT g k l' S):WT g k l S:=WT.mono (C3 h trivial) (fun _ h=>h) hk
end Go.Proofs.YtkdffjpgnhobhaaGreat.Eng
