/-
  The engine, part B: what a function owns and changes; the classes of worlds.
  Nothing here names a program.
-/
import Derived.Test.YtnnkgijdbebnaaaGreatEA
namespace Go.Proofs.YtnnkgijdbebnaaaGreat.Eng
open Go.RowKit (Below wrap64)
set_option linter.unusedVariables false
set_option linter.unusedSimpArgs false

theorem xI {α:Type}:∀ (m:Ask α) (w:World),w.drawn≤(w.ask m).2.drawn
  | .done a,w=>Nat.le_refl _
  | .ask what range k,w=>by
    unfold World.ask
    simp only
    split
    · exact xI (k 0) w
    · exact Nat.le_trans (Nat.le_succ w.drawn) (xI (k _) { w with drawn:=w.drawn+1 })
theorem Iw (w:World) (c:Sys):w.drawn≤(w.sys c).2.drawn:=by
  have h:=xI (Kernel.perform c w.os) w
  unfold World.sys
  split
  · exact Nat.le_refl _
  · rename_i e
    rw [e] at h
    exact h
theorem xQ {ε α β:Type} {m:Except ε α} {f:α→Except ε β} {r:β} (h:(m >>= f) = .ok r):∃ x,m = .ok x∧f x = .ok r:=by
  cases m with
  | error e=>cases h
  | ok x=>exact ⟨x,rfl,h⟩
theorem Hd {p:Program} {w:World} {at_:Addr} {u:TypeId} {k:Addr} {v:Value} {b:Bool} {r:World × List Addr} (h:w.viewStore p at_ u k v b = .ok r):r.1.drawn=w.drawn:=by
  unfold World.viewStore at h
  simp only at h
  split at h
  · cases h
  · obtain ⟨x,_,h⟩:=xQ h
    split at h
    · split at h
      · cases h
      · obtain ⟨z,_,h⟩:=xQ h
        cases h
        rfl
    · cases h
theorem HR {p:Program} {w:World} {a:Addr} {v:Value} {b:Bool} {r:World × List Addr} (h:w.farStore p a v b = .ok r):r.1.drawn=w.drawn:=by
  unfold World.farStore at h
  split at h
  · split at h
    · rename_i e
      cases h
      exact Hd e
    · cases h
  · cases h
set_option maxHeartbeats 1000000 in
theorem sV {α:Type} {p:Program}:∀ (m:Sem α) {w w':World} {x:α},m.run p w = .ok x w'→w.drawn≤w'.drawn:=by
  intro m
  induction m with
  | pure a=>intro w w' x h; cases h; exact Nat.le_refl _
  | load m a k ih=>
    intro w w' x h
    unfold Sem.run at h
    split at h
    · exact ih _ h
    · split at h
      · exact ih _ h
      · cases h
  | store m a v k ih=>
    intro w w' x h
    have key:∀ t, (match w.cell? a with
      | some _=>if w.frozen? a then Result.halt t w else k.run p (w.setCell a v)
      | none=>match w.farStore p a v (m == Mode.atomic) with
        | .ok (w,_)=>k.run p w
        | .error h=>.halt h w) = .ok x w'→w.drawn≤w'.drawn:=fun _ h=>by
      split at h
      · split at h
        · cases h
        · exact ih (w:=w.setCell a v) h
      · split at h
        · rename_i e
          have h1:=HR e
          have h2:=ih h
          simp only at h1
          omega
        · cases h
    cases v with
    | agg=>cases h
    | tuple=>cases h
    | _=>rw [Sem.run] at h <;> first | exact key _ h | (intro _ e; cases e)
  | new o k ih=>intro w w' x h; exact ih _ (w:={ w with heap:=w.heap.push o }) h
  | shape r k ih=>intro w w' x h; exact ih _ (w:=w) h
  | freeze a n k ih =>
    intro w w' x h
    have:=ih (w:=w.freeze a n) h
    have e:(w.freeze a n).drawn=w.drawn:=by unfold World.freeze; first | rfl | (split <;> rfl)
    rwa [e] at this
  | frozen a k ih=>intro w w' x h; exact ih _ (w:=w) h
  | getObj r k ih=>
    intro w w' x h
    unfold Sem.run at h
    split at h
    · cases h
    · exact ih _ h
    · cases h
  | setObj r o k ih=>
    intro w w' x h
    unfold Sem.run at h
    split at h
    · cases h
    · exact ih (w:={ w with heap:=w.heap.setIfInBounds r o }) h
    · cases h
  | choose q k ih=>
    intro w w' x h
    unfold Sem.run at h
    split at h
    · exact ih _ h
    · exact Nat.le_trans (Nat.le_succ _) (ih _ h)
  | sys c k ih=>
    intro w w' x h
    have h2:=ih _ (w:=(w.sys c).2) h
    exact Nat.le_trans (Iw w c) h2
  | program k ih=>intro w w' x h; exact ih _ (w:=w) h
  | mark m k ih=>intro w w' x h; exact ih (w:=w) h
  | halt e=>intro w w' x h; cases h
structure Chg (B:List Nat) (w w':World):Prop where
  os:w'.os=w.os
  tape:w'.tape=w.tape
  output:w'.output=w.output
  size:w.heap.size≤w'.heap.size
  block:∀ k,k < w.heap.size→k ∉ B→w'.heap[k]?=w.heap[k]?
  drawn:w.drawn≤w'.drawn

theorem Chg.of_none {w w':World} (h:w.grownBy w' none) (hd:w.drawn≤w'.drawn) (B:List Nat):Chg B w w':=⟨h.os,h.tape,h.output,h.size,fun k hk _=>h.block k hk (by simp),hd⟩
theorem Chg.of_some {w w':World} {b:Nat} (h:w.grownBy w' (some b)) (hd:w.drawn≤w'.drawn):Chg [b] w w':=⟨h.os,h.tape,h.output,h.size,fun k hk hb=>h.block k hk (by simpa using hb),hd⟩
theorem Chg.of_opt {w w':World} {b:Option Nat} (h:w.grownBy w' b) (hd:w.drawn≤w'.drawn):Chg b.toList w w':=⟨h.os,h.tape,h.output,h.size,fun k hk hb=>h.block k hk (by rintro rfl; simp at hb),hd⟩
theorem Chg.mono {B B':List Nat} {w w':World} (h:Chg B w w') (hs:∀ k∈B,k∈B'):Chg B' w w':=⟨h.os,h.tape,h.output,h.size,fun k hk hb=>h.block k hk (fun hm=>hb (hs k hm)),h.drawn⟩
theorem Chg.refl (B:List Nat) (w:World):Chg B w w:=⟨rfl,rfl,rfl,Nat.le_refl _,fun _ _ _=>rfl,Nat.le_refl _⟩
theorem Chg.drew (B:List Nat) (w:World):Chg B w w.drew:=⟨rfl,rfl,rfl,Nat.le_refl _,fun _ _ _=>rfl,Nat.le_succ _⟩
theorem Chg.trans' {B X:List Nat} {a b c:World} (h:Chg B a b) (h':Chg X b c) (hX:∀ k∈X,a.heap.size≤k∨k∈B):Chg B a c:=
  ⟨h'.os.trans h.os,h'.tape.trans h.tape,h'.output.trans h.output,Nat.le_trans h.size h'.size,fun k hk hb=>(h'.block k (Nat.lt_of_lt_of_le hk h.size) (fun hm=>by rcases hX k hm with h1 | h1; omega; exact hb h1)).trans (h.block k hk hb),Nat.le_trans h.drawn h'.drawn⟩
theorem Chg.toBelow {a b:World} (h:Chg [] a b):Below a.heap.size a b:=⟨h.os,h.tape,h.output,h.size,fun k hk=>h.block k hk (by simp)⟩
theorem mU (w:World) (o:Obj):w.grownBy (w.alloc o) none:=World.grownBy_alloc w o none

structure af (Ψ H:Hp) (B:List Nat) where
  w:World
  fro:In H w
  off:∀ k o,Ψ k=some o→H k=some o∧k ∉ B
  nd:B.Nodup
  lt:∀ k∈B,k < w.heap.size
def Old {Ψ0 H0:Hp} {B0:List Nat} (w0:af Ψ0 H0 B0) (G:List Nat):Prop:=∀ k∈G,k < w0.w.heap.size∧k ∉ B0
theorem Old.mk {Ψ0 H0:Hp} {B0 G:List Nat} (w0:af Ψ0 H0 B0) (hk:Kw H0 G) (hd:Dj G B0):Old w0 G:=fun k hm=>⟨hk.lt w0.fro k hm,hd k hm⟩
theorem Old.sub {Ψ0 H0:Hp} {B0:List Nat} {w0:af Ψ0 H0 B0} {F G:List Nat} (h:Old w0 G) (hs:∀ k∈F,k∈G):Old w0 F:=fun k hk=>h k (hs k hk)

abbrev fQ:=List (Nat × Obj)
def vb (O:fQ):List Nat:=O.map Prod.fst

structure St {Ψ0 H0:Hp} {B0:List Nat} (w0:af Ψ0 H0 B0) (Φ:Hp) (O:fQ) (L:List (List Nat)) (w:World):Prop where
  bel:Chg B0 w0.w w
  fro:In Φ w
  old:∀ k,k < w0.w.heap.size→k ∉ B0→Φ k=H0 k
  obj:∀ p∈O,w.heap[p.1]?=some p.2∧Φ p.1=none
  dat:∀ k∈L.flatten,k < w.heap.size
  new:∀ k∈vb O++L.flatten,w0.w.heap.size≤k∨k∈B0
  nd:(vb O++L.flatten).Nodup

variable {Ψ0 H0:Hp} {B0:List Nat} {w0:af Ψ0 H0 B0} {Φ Φ':Hp} {O:fQ} {L:List (List Nat)} {w w':World}

theorem Gd (h:St w0 Φ O L w) {k:Nat} (hk:k∈vb O):k < w.heap.size:=by
  obtain ⟨p,hp,rfl⟩:=List.mem_map.1 hk
  exact (Array.getElem?_eq_some_iff.1 (h.obj p hp).1).1
theorem St.lt (h:St w0 Φ O L w) {k:Nat} (hk:k∈vb O++L.flatten):k < w.heap.size:=(List.mem_append.1 hk).elim (Gd h) (h.dat k)
theorem St.out (h:St w0 Φ O L w) {k:Nat} (hk:w.heap.size≤k):Φ k=none:=by
  cases hp:Φ k with
  | none=>rfl
  | some o=>have:=h.fro.lt hp; omega
theorem St.notin (h:St w0 Φ O L w) {k:Nat} (hk:w.heap.size≤k):k ∉ vb O++L.flatten:=fun hm=>by have:=h.lt hm; omega

theorem St.start (L:List (List Nat)) (w0:af Ψ0 H0 L.flatten):St w0 H0 [] L w0.w:=
  ⟨Chg.refl _ _,w0.fro,fun _ _ _=>rfl,by simp,w0.lt,fun k hk=>.inr (by simpa [vb] using hk),by simpa [vb] using w0.nd⟩

theorem In.kept (h:In Φ w) (hg:Chg [] w w'):In Φ w':=fun k o hk=>by
  have h1:=h k o hk
  rw [hg.block k (Array.getElem?_eq_some_iff.1 h1).1 (by simp)]; exact h1

theorem St.kept (h:St w0 Φ O L w) (hg:Chg [] w w'):St w0 Φ O L w':=
  ⟨h.bel.trans' hg (by simp),h.fro.kept hg,h.old,fun p hp=>⟨by rw [hg.block _ (Gd h (List.mem_map.2 ⟨p,hp,rfl⟩)) (by simp)]; exact (h.obj p hp).1,(h.obj p hp).2⟩,
    fun k hk=>Nat.lt_of_lt_of_le (h.dat k hk) hg.size,h.new,h.nd⟩
theorem St.call (h:St w0 Φ O L w) (hb:Chg [] w w'):St w0 Φ O L w':=h.kept hb
theorem St.drew (h:St w0 Φ O L w):St w0 Φ O L w.drew:=h.call (Chg.drew _ _)

def SP (A B:List Nat):Prop:=∃ C,(A++C).Perm B
theorem SP.refl (A:List Nat):SP A A:=⟨[],by simp⟩
theorem SP.nil (A:List Nat):SP [] A:=⟨A,by simp⟩
theorem SP.trans {A B C:List Nat} (h:SP A B) (h':SP B C):SP A C:=by
  obtain ⟨D,h⟩:=h
  obtain ⟨E,h'⟩:=h'
  exact ⟨D++E,by rw [← List.append_assoc]; exact (h.append_right E).trans h'⟩
theorem SP.append {A B C D:List Nat} (h:SP A B) (h':SP C D):SP (A++C) (B++D):=by
  obtain ⟨E,h⟩:=h
  obtain ⟨F,h'⟩:=h'
  refine ⟨E++F,?_⟩
  have h1:(A++C++(E++F)).Perm (A++E++(C++F)):=by
    simp only [List.append_assoc]
    refine List.Perm.append_left A ?_
    rw [← List.append_assoc,← List.append_assoc]
    exact List.perm_append_comm.append_right F
  exact h1.trans (h.append h')
theorem SP.nodup {A B:List Nat} (h:SP A B) (hB:B.Nodup):A.Nodup:=by
  obtain ⟨C,h⟩:=h
  exact (List.nodup_append.1 (h.nodup_iff.2 hB)).1
theorem SP.mem {A B:List Nat} (h:SP A B) {x:Nat} (hx:x∈A):x∈B:=by
  obtain ⟨C,h⟩:=h
  exact h.mem_iff.1 (List.mem_append.2 (.inl hx))
theorem SP.perm {A B:List Nat} (h:A.Perm B):SP A B:=⟨[],by simpa using h⟩
theorem SP.left (A B:List Nat):SP A (A++B):=⟨B,List.Perm.refl _⟩
theorem SP.eq {A B:List Nat} (h:A=B):SP A B:=h ▸ SP.refl A

theorem qS (Fs:List (List Nat)) (i:Nat) (F:List Nat):SP (Fs.set i F).flatten (Fs.flatten++F):=by
  induction Fs generalizing i with
  | nil=>simp; exact SP.nil _
  | cons G Gs ih=>
    cases i with
    | zero=>
      simp only [List.set_cons_zero,List.flatten_cons]
      refine ⟨G,?_⟩
      rw [List.append_assoc,List.append_assoc]
      have h1:(F++(Gs.flatten++G)).Perm ((Gs.flatten++G)++F):=List.perm_append_comm
      refine h1.trans ?_
      rw [← List.append_assoc]
      exact List.perm_append_comm.append_right F
    | succ i=>
      simp only [List.set_cons_succ,List.flatten_cons]
      rw [List.append_assoc]
      exact (SP.refl G).append (ih i)

def pick {β:Type}:List Nat→List β→Option (List β × List β)
  | [],L=>some ([],L)
  | j :: js,L=>match L[j]? with
    | some A=>match pick js (L.eraseIdx j) with
      | some (As,R)=>some (A :: As,R)
      | none=>none
    | none=>none

theorem va {β:Type}:∀ {js:List Nat} {L As R:List β},pick js L=some (As,R)→L.Perm (As++R)
  | [],L,As,R,h=>by simp only [pick,Option.some.injEq,Prod.mk.injEq] at h; obtain ⟨rfl,rfl⟩:=h; exact List.Perm.refl _
  | j :: js,L,As,R,h=>by
    simp only [pick] at h
    split at h
    · rename_i A hA
      split at h
      · rename_i As' R' hp
        simp only [Option.some.injEq,Prod.mk.injEq] at h
        obtain ⟨rfl,rfl⟩:=h
        have h1:=va hp
        have hlt:j < L.length:=(List.getElem?_eq_some_iff.1 hA).1
        have h2:L=L.take j++A :: L.drop (j+1):=by
          have hLi:L[j]'hlt=A:=(List.getElem?_eq_some_iff.1 hA).2
          rw [← hLi,List.getElem_cons_drop,List.take_append_drop]
        have h3:L.Perm (A :: L.eraseIdx j):=by
          conv=>lhs; rw [h2]
          rw [List.eraseIdx_eq_take_drop_succ]
          exact List.perm_middle
        exact h3.trans (List.Perm.cons A h1)
      · cases h
    · cases h

theorem St.part {L':List (List Nat)} (h:St w0 Φ O L w) (hs:SP L'.flatten L.flatten):St w0 Φ O L' w:=
  ⟨h.bel,h.fro,h.old,h.obj,fun k hk=>h.dat k (hs.mem hk),fun k hk=>h.new k (by
    rcases List.mem_append.1 hk with hk | hk
    · exact List.mem_append.2 (.inl hk)
    · exact List.mem_append.2 (.inr (hs.mem hk))),((SP.refl (vb O)).append hs).nodup h.nd⟩
theorem St.pk {js:List Nat} {As R:List (List Nat)} (h:St w0 Φ O L w) (hp:pick js L=some (As,R)):St w0 Φ O (As++R) w:=
  h.part (SP.perm (va hp).flatten.symm)
theorem St.sel {js:List Nat} {As R:List (List Nat)} (h:St w0 Φ O L w) (hp:pick js L=some (As,R)):St w0 Φ O As w:=
  (h.pk hp).part (by rw [List.flatten_append]; exact SP.left _ _)
theorem St.addNil (h:St w0 Φ O L w):St w0 Φ O ([] :: L) w:=h.part (by simpa using SP.refl _)
theorem St.re {js:List Nat} {As R Bs:List (List Nat)} (h:St w0 Φ O L w) (hp:Eng.pick js L=some (As,R)) (hs:SP Bs.flatten As.flatten):St w0 Φ O (Bs++R) w:=
  (h.pk hp).part (by rw [List.flatten_append,List.flatten_append]; exact hs.append (SP.refl _))
theorem St.dropO {O':fQ} (h:St w0 Φ O L w) (hs:O'.Sublist O):St w0 Φ O' L w:=
  have hv:(vb O').Sublist (vb O):=hs.map _
  ⟨h.bel,h.fro,h.old,fun p hp=>h.obj p (hs.subset hp),h.dat,fun k hk=>h.new k (by
    rcases List.mem_append.1 hk with hk | hk
    · exact List.mem_append.2 (.inl (hv.subset hk))
    · exact List.mem_append.2 (.inr hk)),(hv.append (List.Sublist.refl _)).nodup h.nd⟩
theorem St.permO {O':fQ} (h:St w0 Φ O L w) (hp:O.Perm O'):St w0 Φ O' L w:=
  have hv:(vb O).Perm (vb O'):=hp.map _
  ⟨h.bel,h.fro,h.old,fun p hm=>h.obj p (hp.mem_iff.2 hm),h.dat,fun k hk=>h.new k (by
    rcases List.mem_append.1 hk with hk | hk
    · exact List.mem_append.2 (.inl (hv.mem_iff.2 hk))
    · exact List.mem_append.2 (.inr hk)),(hv.append_right _).nodup_iff.1 h.nd⟩
theorem St.selO {js:List Nat} {As R:fQ} (h:St w0 Φ O L w) (hp:Eng.pick js O=some (As,R)):St w0 Φ As L w:=
  (h.permO (va hp)).dropO (List.sublist_append_left _ _)

structure Ap {Ψ0 H0:Hp} {B0:List Nat} (w0:af Ψ0 H0 B0) (O:fQ) (As R:List (List Nat)):Prop where
  nd:As.flatten.Nodup
  new:∀ k∈As.flatten,w0.w.heap.size≤k∨k∈B0
  rest:∀ k∈vb O++R.flatten,k ∉ As.flatten

theorem St.ap {js:List Nat} {As R:List (List Nat)} (h:St w0 Φ O L w) (hp:Eng.pick js L=some (As,R)):Ap w0 O As R:=by
  have h':=h.pk hp
  have hnd:=h'.nd
  rw [List.flatten_append] at hnd
  have h1:=List.nodup_append.1 hnd
  have h2:=List.nodup_append.1 h1.2.1
  refine ⟨h2.1,fun k hk=>h'.new k (by rw [List.flatten_append]; exact List.mem_append.2 (.inr (List.mem_append.2 (.inl hk)))),fun k hk hm=>?_⟩
  rcases List.mem_append.1 hk with hk | hk
  · exact h1.2.2 k hk k (List.mem_append.2 (.inl hm)) rfl
  · exact h2.2.2 k hm k hk rfl
theorem Ap.r {As R:List (List Nat)} (h:Ap w0 O As R) {i:Nat} {A:List Nat} (hi:R[i]?=some A):Dj A As.flatten:=fun k hk=>h.rest k (List.mem_append.2 (.inr (List.mem_flatten.2 ⟨A,List.mem_of_getElem? hi,hk⟩)))
theorem Ap.o {As R:List (List Nat)} (h:Ap w0 O As R) {G:List Nat} (hG:Old w0 G):Dj G As.flatten:=fun k hk hm=>by
  have h1:=hG k hk
  rcases h.new k hm with h2 | h2
  · omega
  · exact h1.2 h2
theorem Ap.none {Ψ0 H0:Hp} {B0:List Nat} (w0:af Ψ0 H0 B0) (O:fQ) (R:List (List Nat)):Ap w0 O [] R:=⟨by simp,by simp,by simp⟩

theorem St.eff {js:List Nat} {As R L1:List (List Nat)} (h:St w0 Φ O L w) (hp:Eng.pick js L=some (As,R)) (hc:Chg As.flatten w w') (hin:In Φ' w') (hold:∀ k,k < w.heap.size→k ∉ As.flatten→Φ' k=Φ k)
    (hA:∀ k∈L1.flatten,(k∈As.flatten∨w.heap.size≤k)∧k < w'.heap.size) (hn:L1.flatten.Nodup):St w0 Φ' O (L1++R) w':=by
  have h':=h.pk hp
  have ha:=h.ap hp
  have hnd:=h'.nd
  rw [List.flatten_append] at hnd
  have h1:=List.nodup_append.1 hnd
  have h2:=List.nodup_append.1 h1.2.1
  have hR:∀ k∈R.flatten,k < w.heap.size:=fun k hk=>h'.dat k (by rw [List.flatten_append]; exact List.mem_append.2 (.inr hk))
  refine ⟨h.bel.trans' hc (fun k hk=>ha.new k hk),hin,fun k hk hb=>?_,fun p hp'=>?_,fun k hk=>?_,fun k hk=>?_,?_⟩
  · rw [hold k (Nat.lt_of_lt_of_le hk h.bel.size) (fun hm=>?_)]
    · exact h.old k hk hb
    · rcases ha.new k hm with h3 | h3
      · omega
      · exact hb h3
  · have hm:p.1∈vb O:=List.mem_map.2 ⟨p,hp',rfl⟩
    have hlt:=Gd h hm
    have hno:p.1 ∉ As.flatten:=ha.rest _ (List.mem_append.2 (.inl hm))
    exact ⟨by rw [hc.block _ hlt hno]; exact (h.obj p hp').1,by rw [hold _ hlt hno]; exact (h.obj p hp').2⟩
  · rw [List.flatten_append] at hk
    rcases List.mem_append.1 hk with hk | hk
    · exact (hA k hk).2
    · exact Nat.lt_of_lt_of_le (hR k hk) hc.size
  · rw [List.flatten_append] at hk
    rcases List.mem_append.1 hk with hk | hk
    · exact h.new k (List.mem_append.2 (.inl hk))
    · rcases List.mem_append.1 hk with hk | hk
      · rcases (hA k hk).1 with h3 | h3
        · exact ha.new k h3
        · exact .inl (Nat.le_trans h.bel.size h3)
      · exact h'.new k (by rw [List.flatten_append]; exact List.mem_append.2 (.inr (List.mem_append.2 (.inr hk))))
  · rw [List.flatten_append]
    refine List.nodup_append.2 ⟨h1.1,List.nodup_append.2 ⟨hn,h2.2.1,fun a ha' b hb hab=>?_⟩,fun a ha' b hb hab=>?_⟩
    · subst hab
      rcases (hA a ha').1 with h3 | h3
      · exact h2.2.2 a h3 a hb rfl
      · have:=hR a hb; omega
    · subst hab
      rcases List.mem_append.1 hb with hb | hb
      · rcases (hA a hb).1 with h3 | h3
        · exact h1.2.2 a ha' a (List.mem_append.2 (.inl h3)) rfl
        · have:=Gd h ha'; omega
      · exact h1.2.2 a ha' a (List.mem_append.2 (.inr hb)) rfl

theorem Hs {X:List Nat} (hin:In Φ w) (hold:∀ k,k < w.heap.size→k ∉ X→Φ' k=Φ k):FrH X Φ Φ':=fun k o hk h=>by rw [hold k (hin.lt h) hk]; exact h

theorem St.addO (h:St w0 Φ O L w) {b:Nat} {o:Obj} (hg:Chg [] w w') (hb:w.heap.size≤b) (ho:w'.heap[b]?=some o):St w0 Φ ((b,o) :: O) L w':=by
  have h':=h.kept hg
  refine ⟨h'.bel,h'.fro,h'.old,fun p hp=>?_,h'.dat,fun k hk=>?_,?_⟩
  · rcases List.mem_cons.1 hp with rfl | hp
    · exact ⟨ho,h.out hb⟩
    · exact h'.obj p hp
  · simp only [vb,List.map_cons,List.cons_append] at hk
    rcases List.mem_cons.1 hk with rfl | hk
    · exact .inl (Nat.le_trans h.bel.size hb)
    · exact h'.new k hk
  · simp only [vb,List.map_cons,List.cons_append]
    exact List.nodup_cons.2 ⟨h.notin hb,h.nd⟩

theorem P7 {i:Nat} {b:Nat} {o o':Obj} (hi:O[i]?=some (b,o)):vb (O.set i (b,o'))=vb O:=by
  unfold vb
  rw [List.map_set]
  apply List.ext_getElem?
  intro j
  by_cases hj:i=j
  · subst hj
    have hlt:i < O.length:=(List.getElem?_eq_some_iff.1 hi).1
    rw [List.getElem?_set_self (by simpa using hlt)]
    simp [hi]
  · rw [List.getElem?_set_ne hj]

theorem St.setO (h:St w0 Φ O L w) {i b:Nat} {o o':Obj} (hi:O[i]?=some (b,o)) (hc:Chg [b] w w') (ho:w'.heap[b]?=some o'):St w0 Φ (O.set i (b,o')) L w':=by
  have hmem:=List.mem_of_getElem? hi
  have hbm:b∈vb O:=List.mem_map.2 ⟨_,hmem,rfl⟩
  have hv:=P7 (o':=o') hi
  have hnone:Φ b=none:=(h.obj _ hmem).2
  refine ⟨h.bel.trans' hc (fun k hk=>?_),fun k o hk=>?_,h.old,fun p hp=>?_,fun k hk=>Nat.lt_of_lt_of_le (h.dat k hk) hc.size,by rw [hv]; exact h.new,by rw [hv]; exact h.nd⟩
  · rw [List.mem_singleton] at hk; subst hk; exact h.new _ (List.mem_append.2 (.inl hbm))
  · rw [hc.block k (h.fro.lt hk) (fun hm=>by rw [List.mem_singleton] at hm; subst hm; rw [hnone] at hk; cases hk)]; exact h.fro k o hk
  · obtain ⟨j,hj⟩:=List.getElem?_of_mem hp
    by_cases hij:i=j
    · subst hij
      rw [List.getElem?_set_self (List.getElem?_eq_some_iff.1 hi).1] at hj
      simp only [Option.some.injEq] at hj
      subst hj
      exact ⟨ho,hnone⟩
    · rw [List.getElem?_set_ne hij] at hj
      have hpm:=List.mem_of_getElem? hj
      have hne:p.1≠b:=by
        intro he
        have hnd:(vb O).Nodup:=(List.nodup_append.1 h.nd).1
        have h1:(vb O)[i]?=some b:=by simp [vb,hi]
        have h2:(vb O)[j]?=some b:=by simp [vb,hj,he]
        have hli:i < (vb O).length:=(List.getElem?_eq_some_iff.1 h1).1
        have:=(List.getElem?_inj hli hnd).1 (h1.trans h2.symm)
        exact hij this
      exact ⟨by rw [hc.block _ (Gd h (List.mem_map.2 ⟨_,hpm,rfl⟩)) (by simpa using hne)]; exact (h.obj p hpm).1,(h.obj p hpm).2⟩

def Dz (Φ:Hp) (b:Nat) (o:Obj):Hp:=fun k=>if k=b then some o else Φ k
def H8 (Φ:Hp) (b:Nat):Hp:=fun k=>if k=b then none else Φ k

theorem St.freeze (h:St w0 Φ O L w) {js:List Nat} {R:fQ} {b:Nat} {o:Obj} (hp:Eng.pick js O=some ([(b,o)],R)):FrH [] Φ (Dz Φ b o)∧St w0 (Dz Φ b o) R ([b] :: L) w:=by
  have h':=h.permO (va hp)
  obtain ⟨hb,hnone⟩:=h'.obj (b,o) (by simp)
  have hnd:=h'.nd
  simp only [vb,List.map_append,List.map_cons,List.map_nil,List.cons_append,List.nil_append] at hnd
  have hnd':=List.nodup_cons.1 hnd
  refine ⟨fun k o' _ hk=>?_,h'.bel,fun k o' hk=>?_,fun k hk hb'=>?_,fun p hpm=>?_,fun k hk=>?_,fun k hk=>?_,?_⟩
  · unfold Dz; split
    · rename_i e; subst e; rw [hnone] at hk; cases hk
    · exact hk
  · unfold Dz at hk; split at hk
    · rename_i e; subst e; rw [hb]; exact hk
    · exact h'.fro k o' hk
  · unfold Dz; split
    · rename_i e; subst e
      rcases h'.new k (by simp [vb]) with h1 | h1
      · omega
      · exact absurd h1 hb'
    · exact h'.old k hk hb'
  · have:=h'.obj p (by simp [hpm])
    refine ⟨this.1,?_⟩
    unfold Dz; rw [if_neg ?_]; exact this.2
    rintro rfl
    exact hnd'.1 (List.mem_append.2 (.inl (List.mem_map.2 ⟨p,hpm,rfl⟩)))
  · rw [List.flatten_cons] at hk
    rcases List.mem_append.1 hk with hk | hk
    · rw [List.mem_singleton] at hk; subst hk; exact (Array.getElem?_eq_some_iff.1 hb).1
    · exact h'.dat k hk
  · refine h'.new k ?_
    rw [List.flatten_cons] at hk
    simp only [vb,List.map_append,List.map_cons,List.map_nil,List.cons_append,List.nil_append,List.mem_append,List.mem_cons,List.mem_singleton,List.not_mem_nil,or_false] at hk ⊢
    rcases hk with hk | hk | hk
    · exact .inr (.inl hk)
    · exact .inl hk
    · exact .inr (.inr hk)
  · rw [List.flatten_cons]
    refine (List.Perm.nodup_iff ?_).1 hnd
    simp only [vb,List.cons_append,List.nil_append]
    exact List.perm_middle.symm

theorem St.thaw (h:St w0 Φ O L w) {js:List Nat} {R:List (List Nat)} {b:Nat} {o:Obj} (hp:Eng.pick js L=some ([[b]],R)) (hb:Φ b=some o):FrH [b] Φ (H8 Φ b)∧St w0 (H8 Φ b) ((b,o) :: O) R w:=by
  have h':=h.pk hp
  have hbw:=h.fro b o hb
  have hnd:=h'.nd
  simp only [List.cons_append,List.nil_append,List.flatten_cons] at hnd
  refine ⟨fun k o' hk hk'=>?_,h'.bel,fun k o' hk=>?_,fun k hk hb'=>?_,fun p hpm=>?_,fun k hk=>?_,fun k hk=>?_,?_⟩
  · unfold H8; rw [if_neg (by simpa using hk)]; exact hk'
  · unfold H8 at hk; split at hk
    · cases hk
    · exact h'.fro k o' hk
  · unfold H8; split
    · rename_i e; subst e
      rcases h'.new k (by simp) with h1 | h1
      · omega
      · exact absurd h1 hb'
    · exact h'.old k hk hb'
  · rcases List.mem_cons.1 hpm with rfl | hpm
    · exact ⟨hbw,by simp [H8]⟩
    · have:=h'.obj p hpm
      refine ⟨this.1,?_⟩
      unfold H8; split
      · rfl
      · exact this.2
  · exact h'.dat k (by simp [hk])
  · refine h'.new k ?_
    simp only [vb,List.map_cons,List.cons_append,List.nil_append,List.flatten_cons,List.mem_append,List.mem_cons,List.mem_singleton] at hk ⊢
    rcases hk with hk | hk | hk
    · exact .inr (.inl hk)
    · exact .inl hk
    · exact .inr (.inr hk)
  · simp only [vb,List.map_cons,List.cons_append]
    refine (List.Perm.nodup_iff ?_).1 hnd
    exact List.perm_middle

theorem St.rgO (h:St w0 Φ O L w) {i b:Nat} {C:Array Value} {T:Nat} {fz:Nat × Nat} (hi:O[i]?=some (b,.cells C T fz)) (o n:Nat) (cs:List Value) (hc:(C.toList.drop o).take n=cs):w.rangeAt b o cs:=by
  have hh:w.heap[b]?=some (.cells C T fz):=(h.obj _ (List.mem_of_getElem? hi)).1
  intro j v hj
  subst hc
  rw [List.getElem?_take] at hj
  split at hj
  · rw [List.getElem?_drop] at hj
    simp only [World.cell?,hh]
    simpa using hj
  · cases hj
theorem ya {b o:Nat} {v:Value} (h:w.rangeAt b o [v]):w.cell? ⟨b,o,none⟩=some v:=by simpa using h 0 v rfl

def Up (Ψ Φ:Hp):Prop:=∀ k o,Ψ k=some o→Φ k=some o
def off (Φ:Hp) (X:List Nat):Hp:=fun k=>if k∈X then none else Φ k
theorem JE {X:List Nat} {k:Nat} {o:Obj} (h:off Φ X k=some o):Φ k=some o∧k ∉ X:=by
  unfold off at h
  split at h
  · cases h
  · exact ⟨h,by assumption⟩
theorem Jj (Φ:Hp) (X:List Nat):FrH X Φ (off Φ X):=fun k o hk h=>by unfold off; rw [if_neg hk]; exact h
theorem St.up (h:St w0 Φ O L w):Up Ψ0 Φ:=fun k o hk=>by
  obtain ⟨h1,h2⟩:=w0.off k o hk
  rw [h.old k (w0.fro.lt h1) h2]; exact h1
theorem St.in0 (h:St w0 Φ O L w):In Ψ0 w:=fun k o hk=>h.fro k o (h.up k o hk)
theorem Old.of {F:List Nat} (w0:af Ψ0 H0 B0) (h:Kw Ψ0 F):Old w0 F:=fun k hk=>by
  obtain ⟨o,ho⟩:=h k hk
  obtain ⟨h1,h2⟩:=w0.off k o ho
  exact ⟨w0.fro.lt h1,h2⟩
theorem Pb {b:Nat} {o:Obj} (w0:af Ψ0 H0 B0) (h:Ψ0 b=some o):Old w0 [b]:=Old.of w0 (fun k hk=>by simp at hk; subst hk; exact ⟨_,h⟩)
theorem Ap.oo {As R:List (List Nat)} (h:Ap w0 O As R) {k:Nat} {o:Obj} (hk:Ψ0 k=some o):k ∉ As.flatten:=h.o (Pb w0 hk) k (by simp)
theorem St.uo (h:St w0 Φ O L w) {As R:List (List Nat)} (ap:Ap w0 O As R):Up Ψ0 (off Φ As.flatten):=fun k o hk=>by
  unfold off; rw [if_neg (ap.oo hk)]; exact h.up k o hk
def ba (hi:In Φ w):af Φ Φ []:=⟨w,hi,fun k o h=>⟨h,by simp⟩,by simp,by simp⟩
def bx (h:St w0 Φ O L w) {As R:List (List Nat)} (ap:Ap w0 O As R) (hl:∀ k∈As.flatten,k < w.heap.size):af (off Φ As.flatten) Φ As.flatten:=⟨w,h.fro,fun k o hk=>JE hk,ap.nd,hl⟩
theorem St.frB (h:St w0 Φ O L w):FrH B0 H0 Φ:=fun k o hk ho=>by rw [h.old k (w0.fro.lt ho) hk]; exact ho
class LS {α:Type} (R:Hp→List Nat→List Value→α→Prop):Prop where
  l:bR R
section
variable {α:Type} {R:Hp→List Nat→List Value→α→Prop} {e sz:Nat} {D F X:List Nat} {v:Value} {xs:List α} {Ψ:Hp}
theorem RSl.y [LS R] (h:RSl R sz Ψ F v xs) (z:Up Ψ Φ):RSl R sz Φ F v xs:=h.frame LS.l (fun k o _ hk=>z k o hk:FrH [] Ψ Φ) (Dj.empty _)
theorem OSl.y [LS R] (h:OSl R e sz Ψ D v xs) (z:Up Ψ Φ):OSl R e sz Φ D v xs:=h.frame LS.l (fun k o _ hk=>z k o hk:FrH [] Ψ Φ) (Dj.empty _) (Dj.empty _)
theorem RSl.x [LS R] (h:RSl R sz Φ F v xs) (hd:Dj F X):RSl R sz (off Φ X) F v xs:=h.frame LS.l (Jj Φ X) hd
theorem OSl.x [LS R] (h:OSl R e sz Φ D v xs) (ho:Dj (ob v) X) (hd:Dj D X):OSl R e sz (off Φ X) D v xs:=h.frame LS.l (Jj Φ X) ho hd
theorem RSl.old (h:RSl R sz Ψ0 F v xs):Old w0 F:=Old.of w0 h.kn
theorem OSl.old (h:OSl R e sz Ψ0 D v xs):Old w0 D:=Old.of w0 h.kn
end
end Go.Proofs.YtnnkgijdbebnaaaGreat.Eng
