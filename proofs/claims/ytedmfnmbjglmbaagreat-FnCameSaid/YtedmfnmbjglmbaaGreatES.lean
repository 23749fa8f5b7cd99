/-
  The engine, part S: sorting by a function that compares in full.
  Nothing here names a program.
-/
import Derived.Test.YtedmfnmbjglmbaaGreatEP
namespace Go.Proofs.YtedmfnmbjglmbaaGreat.Eng
set_option linter.unusedVariables false
set_option linter.unusedSimpArgs false
/-- It compares in full: what is not apart is the same. -/
structure yK {α:Type} (c:α→α→Int):Prop where
  irr:∀ x,¬ c x x < 0
  tr:∀ x y z,c x y < 0→c y z < 0→c x z < 0
  tot:∀ x y,¬ c x y < 0→¬ c y x < 0→x=y
variable {α:Type} {c:α→α→Int}
theorem yK.le (h:yK c) {x y z:α} (h1 : ¬ c y x < 0) (a : ¬ c z y < 0) : ¬ c z x < 0:=fun b=>by
  by_cases d:c x y < 0
  · exact a (h.tr _ _ _ b d)
  · have:=h.tot _ _ d h1
    subst this
    exact a b
def Srt (c:α→α→Int) (l:List α):Prop:=l.Pairwise fun a b=>¬ c b a < 0
theorem uz (h:yK c):∀ {l m:List α},Srt c l→Srt c m→l.Perm m→l=m
  | [],m,_,_,hp=>(List.Perm.nil_eq hp)
  | x :: l,[],_,_,hp=>by simpa using hp.length_eq
  | x :: l,y :: m,h1,d,hp=>by
    obtain⟨f,a2⟩:=p1.1 h1
    obtain⟨g,i⟩:=p1.1 d
    have e:x=y:=by
      have a:x∈y :: m:=hp.mem_iff.1 NS
      have b:y∈x :: l:=hp.mem_iff.2 NS
      rcases hE.1 a with rfl | a
      · rfl
      · rcases hE.1 b with rfl | b
        · rfl
        · exact h.tot _ _ (g x a) (f y b)
    subst e
    rw[uz h a2 i (List.Perm.cons_inv hp)]
def ins (c:α→α→Int) (x:α):List α→List α
  | []=>[x]
  | y :: l=>if c x y < 0 then x :: y :: l else y :: ins c x l
theorem xZ (x:α):∀ (l:List α),(ins c x l).Perm (x :: l)
  | []=>List.Perm.refl _
  | y :: l=>by
    unfold ins
    split
    · exact List.Perm.refl _
    · exact ((xZ x l).cons y).trans (List.Perm.swap x y l)
theorem E1 (h:yK c) (x:α):∀ {l:List α},Srt c l→Srt c (ins c x l)
  | [],_=>by simp[ins,Srt]
  | y :: l,d=>by
    obtain⟨e,a2⟩:=p1.1 d
    unfold ins
    split
    · rename_i b
      have f : ¬ c y x < 0:=fun g=>h.irr _ (h.tr _ _ _ b g)
      refine p1.2 ⟨fun z a=>?_,d⟩
      rcases hE.1 a with rfl | a
      · exact f
      · exact h.le f (e z a)
    · rename_i b
      refine p1.2 ⟨fun z a=>?_,E1 h x a2⟩
      rcases hE.1 ((xZ x l).mem_iff.1 a) with rfl | a
      · exact b
      · exact e z a
def srt (c:α→α→Int) (l:List α):List α:=l.foldr (ins c) []
theorem lB:∀ (l:List α),(srt c l).Perm l
  | []=>List.Perm.refl _
  | x :: l=>(xZ x _).trans ((lB l).cons x)
theorem xv (h:yK c):∀ (l:List α),Srt c (srt c l)
  | []=>by simp[srt,Srt]
  | x :: l=>E1 h x (xv h l)
theorem E6 (h:yK c) {l m:List α}:srt c l=srt c m↔l.Perm m:=
  ⟨fun e=>(lB l).symm.trans (e ▸ lB m),fun e=>uz h (xv h l) (xv h m) ((lB l).trans (e.trans (lB m).symm))⟩
/-- Two that compare alike on what there is sort alike. -/
theorem Aj {a:α→α→Int} (x:α):∀ {l:List α},(∀ y∈l,c x y=a x y)→ins c x l=ins a x l
  | [],_=>rfl
  | y :: l,h=>by
    unfold ins
    rw[h y NS,Aj x fun z b=>h z (by simp[b])]
theorem Ab {a:α→α→Int}:∀ {l:List α},(∀ x∈l,∀ y∈l,c x y=a x y)→srt c l=srt a l
  | [],_=>rfl
  | x :: l,h=>by
    have d:=Ab (l:=l) fun y b z e=>h y (by simp[b]) z (by simp[e])
    show ins c x (srt c l)=ins a x (srt a l)
    rw[d]
    exact Aj x fun y b=>h x NS y (by simp[(lB l).mem_iff.1 b])
open Classical in
/-- What a sort yields; nothing, if what compares does not. -/
noncomputable def Cu (l:List α) (f:α→α→Option Int):Option (List α):=if h:l.length≤4294967296∧∃ c:α→α→Int,yK c∧∀ x∈l,∀ y∈l,f x y=some (c x y) then some (srt (Classical.choose h.2) l) else none
theorem DR {l:List α} {f:α→α→Option Int} {c:α→α→Int} (i:l.length≤4294967296) (h:yK c) (b:∀ x∈l,∀ y∈l,f x y=some (c x y)):Cu l f=some (srt c l):=by
  have d:l.length≤4294967296∧∃ c:α→α→Int,yK c∧∀ x∈l,∀ y∈l,f x y=some (c x y):=⟨i,c,h,b⟩
  unfold Cu
  rw[dif_pos d]
  have:=Classical.choose_spec d.2
  congr 1
  exact Ab fun x e y g=>by
    have a:=this.2 x e y g
    rw[b x e y g] at a
    exact (Option.some.inj a).symm
theorem Ft {l r:List α} {f:α→α→Option Int} (h:Cu l f=some r):l.length≤4294967296∧∃ c:α→α→Int,yK c∧(∀ x∈l,∀ y∈l,f x y=some (c x y))∧r=srt c l:=by
  unfold Cu at h
  split at h
  · rename_i a
    have:=Classical.choose_spec a.2
    exact⟨a.1,_,this.1,this.2,(Option.some.inj h).symm⟩
  · cases h
end Go.Proofs.YtedmfnmbjglmbaaGreat.Eng
