/-
  The engine, part S: sorting by a function that compares in full.
  Nothing here names a program.
-/
import Derived.Test.YtedmfnmbjglmbaaGreatEP
namespace Go.Proofs.YtedmfnmbjglmbaaGreat.Eng
set_option linter.unusedVariables false
set_option linter.unusedSimpArgs false
/-- It compares in full: what is not apart is the same. -/
structure vX {α:Type} (c:α→α→Int):Prop where
  irr:∀ x,¬ c x x < 0
  tr:∀ x y z,c x y < 0→c y z < 0→c x z < 0
  tot:∀ x y,¬ c x y < 0→¬ c y x < 0→x=y
variable {α:Type} {c:α→α→Int}
theorem vX.le (h:vX c) {x y z:α} (h1 : ¬ c y x < 0) (h2 : ¬ c z y < 0) : ¬ c z x < 0:=fun h3=>by
  by_cases h4:c x y < 0
  · exact h2 (h.tr _ _ _ h3 h4)
  · have:=h.tot _ _ h4 h1
    subst this
    exact h2 h3
def Srt (c:α→α→Int) (l:List α):Prop:=l.Pairwise fun a b=>¬ c b a < 0
theorem sS (h:vX c):∀ {l m:List α},Srt c l→Srt c m→l.Perm m→l=m
  | [],m,_,_,hp=>(List.Perm.nil_eq hp)
  | x :: l,[],_,_,hp=>by simpa using hp.length_eq
  | x :: l,y :: m,h1,h2,hp=>by
    obtain ⟨a1,a2⟩:=List.pairwise_cons.1 h1
    obtain ⟨b1,b2⟩:=List.pairwise_cons.1 h2
    have e:x=y:=by
      have hx:x∈y :: m:=hp.mem_iff.1 (by simp)
      have hy:y∈x :: l:=hp.mem_iff.2 (by simp)
      rcases List.mem_cons.1 hx with rfl | hx
      · rfl
      · rcases List.mem_cons.1 hy with rfl | hy
        · rfl
        · exact h.tot _ _ (b1 x hx) (a1 y hy)
    subst e
    rw [sS h a2 b2 (List.Perm.cons_inv hp)]
def ins (c:α→α→Int) (x:α):List α→List α
  | []=>[x]
  | y :: l=>if c x y < 0 then x :: y :: l else y :: ins c x l
theorem vW (x:α):∀ (l:List α),(ins c x l).Perm (x :: l)
  | []=>List.Perm.refl _
  | y :: l=>by
    unfold ins
    split
    · exact List.Perm.refl _
    · exact ((vW x l).cons y).trans (List.Perm.swap x y l)
theorem CQ (h:vX c) (x:α):∀ {l:List α},Srt c l→Srt c (ins c x l)
  | [],_=>by simp [ins,Srt]
  | y :: l,hl=>by
    obtain ⟨a1,a2⟩:=List.pairwise_cons.1 hl
    unfold ins
    split
    · rename_i hx
      have hyx : ¬ c y x < 0:=fun h'=>h.irr _ (h.tr _ _ _ hx h')
      refine List.pairwise_cons.2 ⟨fun z hz=>?_,hl⟩
      rcases List.mem_cons.1 hz with rfl | hz
      · exact hyx
      · exact h.le hyx (a1 z hz)
    · rename_i hx
      refine List.pairwise_cons.2 ⟨fun z hz=>?_,CQ h x a2⟩
      rcases List.mem_cons.1 ((vW x l).mem_iff.1 hz) with rfl | hz
      · exact hx
      · exact a1 z hz
def srt (c:α→α→Int) (l:List α):List α:=l.foldr (ins c) []
theorem jU:∀ (l:List α),(srt c l).Perm l
  | []=>List.Perm.refl _
  | x :: l=>(vW x _).trans ((jU l).cons x)
theorem vF (h:vX c):∀ (l:List α),Srt c (srt c l)
  | []=>by simp [srt,Srt]
  | x :: l=>CQ h x (vF h l)
theorem C7 (h:vX c) {l m:List α}:srt c l=srt c m↔l.Perm m:=
  ⟨fun e=>(jU l).symm.trans (e ▸ jU m),fun e=>sS h (vF h l) (vF h m) ((jU l).trans (e.trans (jU m).symm))⟩
/-- Two that compare alike on what there is sort alike. -/
theorem y7 {c':α→α→Int} (x:α):∀ {l:List α},(∀ y∈l,c x y=c' x y)→ins c x l=ins c' x l
  | [],_=>rfl
  | y :: l,h=>by
    unfold ins
    rw [h y (by simp),y7 x fun z hz=>h z (by simp [hz])]
theorem xY {c':α→α→Int}:∀ {l:List α},(∀ x∈l,∀ y∈l,c x y=c' x y)→srt c l=srt c' l
  | [],_=>rfl
  | x :: l,h=>by
    have ih:=xY (l:=l) fun y hy z hz=>h y (by simp [hy]) z (by simp [hz])
    show ins c x (srt c l)=ins c' x (srt c' l)
    rw [ih]
    exact y7 x fun y hy=>h x (by simp) y (by simp [(jU l).mem_iff.1 hy])
open Classical in
/-- What a sort yields; nothing, if what compares does not. -/
noncomputable def A1 (l:List α) (f:α→α→Option Int):Option (List α):=if h:l.length≤4294967296∧∃ c:α→α→Int,vX c∧∀ x∈l,∀ y∈l,f x y=some (c x y) then some (srt (Classical.choose h.2) l) else none
theorem CJ {l:List α} {f:α→α→Option Int} {c:α→α→Int} (hl:l.length≤4294967296) (h:vX c) (hf:∀ x∈l,∀ y∈l,f x y=some (c x y)):A1 l f=some (srt c l):=by
  have hh:l.length≤4294967296∧∃ c:α→α→Int,vX c∧∀ x∈l,∀ y∈l,f x y=some (c x y):=⟨hl,c,h,hf⟩
  unfold A1
  rw [dif_pos hh]
  have:=Classical.choose_spec hh.2
  congr 1
  exact xY fun x hx y hy=>by
    have a:=this.2 x hx y hy
    rw [hf x hx y hy] at a
    exact (Option.some.inj a).symm
theorem Df {l r:List α} {f:α→α→Option Int} (h:A1 l f=some r):l.length≤4294967296∧∃ c:α→α→Int,vX c∧(∀ x∈l,∀ y∈l,f x y=some (c x y))∧r=srt c l:=by
  unfold A1 at h
  split at h
  · rename_i hh
    have:=Classical.choose_spec hh.2
    exact ⟨hh.1,_,this.1,this.2,(Option.some.inj h).symm⟩
  · cases h
end Go.Proofs.YtedmfnmbjglmbaaGreat.Eng
