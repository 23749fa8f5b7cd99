/-
  The engine, part B: what a function owns and changes; the classes of worlds.
  Nothing here names a program.
-/
import Derived.Test.YtedmfnmbjglmbaaGreatEA
namespace Go.Proofs.YtedmfnmbjglmbaaGreat.Eng
open Go.RowKit (Below wrap64)
set_option linter.unusedVariables false
set_option linter.unusedSimpArgs false

theorem ww {α:Type}:∀ (m:Ask α) (w:World),w.drawn≤(w.ask m).2.drawn
  | .done a,w=>hn _
  | .ask b range k,w=>by
    unfold World.ask
    simp only
    split
    · exact ww (k 0) w
    · exact j4 (Nat.le_succ w.drawn) (ww (k _) { w with drawn:=w.drawn+1 })
theorem Fl (w:World) (c:Sys):w.drawn≤(w.sys c).2.drawn:=by
  have h:=ww (Kernel.perform c w.os) w
  unfold World.sys
  split
  · exact hn _
  · rename_i e
    rw[e] at h
    exact h
theorem wQ {a α β:Type} {m:Except a α} {f:α→Except a β} {r:β} (h:(m >>= f) = .ok r):∃ x,m = .ok x∧f x = .ok r:=by
  cases m with
  | error e=>cases h
  | ok x=>exact⟨x,rfl,h⟩
theorem CN {p:Program} {w:World} {at_:Addr} {u:TypeId} {k:Addr} {v:Value} {b:Bool} {r:World × List Addr} (h:w.viewStore p at_ u k v b = .ok r):r.1.drawn=w.drawn:=by
  unfold World.viewStore at h
  simp only at h
  split at h
  · cases h
  · obtain⟨x,_,h⟩:=wQ h
    split at h
    · split at h
      · cases h
      · obtain⟨z,_,h⟩:=wQ h
        cases h
        rfl
    · cases h
theorem Fz {p:Program} {w:World} {a:Addr} {v:Value} {b:Bool} {r:World × List Addr} (h:w.farStore p a v b = .ok r):r.1.drawn=w.drawn:=by
  unfold World.farStore at h
  split at h
  · split at h
    · rename_i e
      cases h
      exact CN e
    · cases h
  · cases h
set_option maxHeartbeats 1000000 in
theorem qJ {α:Type} {p:Program}:∀ (m:Sem α) {w w':World} {x:α},m.run p w = .ok x w'→w.drawn≤w'.drawn:=by
  intro m
  induction m with
  | pure a=>intro w w' x h;cases h;exact hn _
  | load m a k b=>
    intro w w' x h
    unfold Sem.run at h
    split at h
    · exact b _ h
    · split at h
      · exact b _ h
      · cases h
  | store m a v k b=>
    intro w w' x h
    have key:∀ t, (match w.cell? a with
      | some _=>if w.frozen? a then Result.halt t w else k.run p (w.setCell a v)
      | none=>match w.farStore p a v (m == Mode.atomic) with
        | .ok (w,_)=>k.run p w
        | .error h=>.halt h w) = .ok x w'→w.drawn≤w'.drawn:=fun _ h=>by
      split at h
      · split at h
        · cases h
        · exact b (w:=w.setCell a v) h
      · split at h
        · rename_i e
          have h1:=Fz e
          have d:=b h
          simp only at h1
          omega
        · cases h
    cases v with
    | agg=>cases h
    | tuple=>cases h
    | _=>rw[Sem.run] at h <;> first | exact key _ h | (intro _ e;cases e)
  | new o k b=>intro w w' x h;exact b _ (w:={ w with heap:=w.heap.push o }) h
  | shape r k b=>intro w w' x h;exact b _ (w:=w) h
  | freeze a n k b =>
    intro w w' x h
    have:=b (w:=w.freeze a n) h
    have e:(w.freeze a n).drawn=w.drawn:=by unfold World.freeze;first | rfl | (split <;> rfl)
    rwa [e] at this
  | frozen a k b=>intro w w' x h;exact b _ (w:=w) h
  | getObj r k b=>
    intro w w' x h
    unfold Sem.run at h
    split at h
    · cases h
    · exact b _ h
    · cases h
  | setObj r o k b=>
    intro w w' x h
    unfold Sem.run at h
    split at h
    · cases h
    · exact b (w:={ w with heap:=w.heap.setIfInBounds r o }) h
    · cases h
  | choose q k b=>
    intro w w' x h
    unfold Sem.run at h
    split at h
    · exact b _ h
    · exact j4 (Nat.le_succ _) (b _ h)
  | sys c k b=>
    intro w w' x h
    have d:=b _ (w:=(w.sys c).2) h
    exact j4 (Fl w c) d
  | program k b=>intro w w' x h;exact b _ (w:=w) h
  | mark m k b=>intro w w' x h;exact b (w:=w) h
  | halt e=>intro w w' x h;cases h
structure Chg (B:List Nat) (w w':World):Prop where
  os:w'.os=w.os
  tape:w'.tape=w.tape
  output:w'.output=w.output
  size:w.heap.size≤w'.heap.size
  block:∀ k,k < w.heap.size→k ∉ B→w'.heap[k]?=w.heap[k]?
  drawn:w.drawn≤w'.drawn

theorem Chg.of_none {w w':World} (h:w.grownBy w' none) (a:w.drawn≤w'.drawn) (B:List Nat):Chg B w w':=⟨h.os,h.tape,h.output,h.size,fun k hk _=>h.block k hk NS,a⟩
theorem Chg.of_some {w w':World} {b:Nat} (h:w.grownBy w' (some b)) (a:w.drawn≤w'.drawn):Chg [b] w w':=⟨h.os,h.tape,h.output,h.size,fun k hk c=>h.block k hk (by simpa using c),a⟩
theorem Chg.of_opt {w w':World} {b:Option Nat} (h:w.grownBy w' b) (a:w.drawn≤w'.drawn):Chg b.toList w w':=⟨h.os,h.tape,h.output,h.size,fun k hk c=>h.block k hk (by rintro rfl;simp at c),a⟩
theorem Chg.mono {B a:List Nat} {w w':World} (h:Chg B w w') (b:∀ k∈B,k∈a):Chg a w w':=⟨h.os,h.tape,h.output,h.size,fun k hk c=>h.block k hk (fun hm=>c (b k hm)),h.drawn⟩
theorem Chg.refl (B:List Nat) (w:World):Chg B w w:=⟨rfl,rfl,rfl,hn _,fun _ _ _=>rfl,hn _⟩
theorem Chg.drew (B:List Nat) (w:World):Chg B w w.drew:=⟨rfl,rfl,rfl,hn _,fun _ _ _=>rfl,Nat.le_succ _⟩
theorem Chg.trans' {B X:List Nat} {a b c:World} (h:Chg B a b) (d:Chg X b c) (f:∀ k∈X,a.heap.size≤k∨k∈B):Chg B a c:=
  ⟨d.os.trans h.os,d.tape.trans h.tape,d.output.trans h.output,j4 h.size d.size,fun k hk e=>(d.block k (q4 hk h.size) (fun hm=>by rcases f k hm with h1 | h1;omega;exact e h1)).trans (h.block k hk e),j4 h.drawn d.drawn⟩
theorem Chg.toBelow {a b:World} (h:Chg [] a b):Below a.heap.size a b:=⟨h.os,h.tape,h.output,h.size,fun k hk=>h.block k hk NS⟩
theorem mj (w:World) (o:Obj):w.grownBy (w.alloc o) none:=World.grownBy_alloc w o none

structure aD (Ψ H:Hp) (B:List Nat) where
  w:World
  fro:In H w
  off:∀ k o,Ψ k=some o→H k=some o∧k ∉ B
  nd:B.Nodup
  lt:∀ k∈B,k < w.heap.size
def Old {Ψ0 H0:Hp} {B0:List Nat} (w0:aD Ψ0 H0 B0) (G:List Nat):Prop:=∀ k∈G,k < w0.w.heap.size∧k ∉ B0
theorem Old.mk {Ψ0 H0:Hp} {B0 G:List Nat} (w0:aD Ψ0 H0 B0) (hk:Kw H0 G) (a:Dj G B0):Old w0 G:=fun k hm=>⟨hk.lt w0.fro k hm,a k hm⟩
theorem Old.sub {Ψ0 H0:Hp} {B0:List Nat} {w0:aD Ψ0 H0 B0} {F G:List Nat} (h:Old w0 G) (a:∀ k∈F,k∈G):Old w0 F:=fun k hk=>h k (a k hk)

abbrev gY:=List (Nat × Obj)
def vb (O:gY):List Nat:=O.map Prod.fst

structure St {Ψ0 H0:Hp} {B0:List Nat} (w0:aD Ψ0 H0 B0) (Φ:Hp) (O:gY) (L:List (List Nat)) (w:World):Prop where
  bel:Chg B0 w0.w w
  fro:In Φ w
  old:∀ k,k < w0.w.heap.size→k ∉ B0→Φ k=H0 k
  obj:∀ p∈O,w.heap[p.1]?=some p.2∧Φ p.1=none
  dat:∀ k∈L.flatten,k < w.heap.size
  new:∀ k∈vb O++L.flatten,w0.w.heap.size≤k∨k∈B0
  nd:(vb O++L.flatten).Nodup

variable {Ψ0 H0:Hp} {B0:List Nat} {w0:aD Ψ0 H0 B0} {Φ Φ':Hp} {O:gY} {L:List (List Nat)} {w w':World}

theorem BM (h:St w0 Φ O L w) {k:Nat} (hk:k∈vb O):k < w.heap.size:=by
  obtain⟨p,hp,rfl⟩:=hC.1 hk
  exact (Array.getElem?_eq_some_iff.1 (h.obj p hp).1).1
theorem St.lt (h:St w0 Φ O L w) {k:Nat} (hk:k∈vb O++L.flatten):k < w.heap.size:=(gb.1 hk).elim (BM h) (h.dat k)
theorem St.out (h:St w0 Φ O L w) {k:Nat} (hk:w.heap.size≤k):Φ k=none:=by
  cases hp:Φ k with
  | none=>rfl
  | some o=>have:=h.fro.lt hp;omega
theorem St.notin (h:St w0 Φ O L w) {k:Nat} (hk:w.heap.size≤k):k ∉ vb O++L.flatten:=fun hm=>by have:=h.lt hm;omega

theorem St.start (L:List (List Nat)) (w0:aD Ψ0 H0 L.flatten):St w0 H0 [] L w0.w:=
  ⟨Chg.refl _ _,w0.fro,fun _ _ _=>rfl,NS,w0.lt,fun k hk=>.inr (by simpa[vb] using hk),by simpa[vb] using w0.nd⟩

theorem In.kept (h:In Φ w) (a:Chg [] w w'):In Φ w':=fun k o hk=>by
  have h1:=h k o hk
  rw[a.block k (Array.getElem?_eq_some_iff.1 h1).1 NS];exact h1

theorem St.kept (h:St w0 Φ O L w) (a:Chg [] w w'):St w0 Φ O L w':=
  ⟨h.bel.trans' a NS,h.fro.kept a,h.old,fun p hp=>⟨by rw[a.block _ (BM h (hC.2 ⟨p,hp,rfl⟩)) NS];exact (h.obj p hp).1,(h.obj p hp).2⟩,
    fun k hk=>q4 (h.dat k hk) a.size,h.new,h.nd⟩
theorem St.call (h:St w0 Φ O L w) (a:Chg [] w w'):St w0 Φ O L w':=h.kept a
theorem St.drew (h:St w0 Φ O L w):St w0 Φ O L w.drew:=h.call (Chg.drew _ _)

def SP (A B:List Nat):Prop:=∃ C,(A++C).Perm B
theorem SP.refl (A:List Nat):SP A A:=⟨[],NS⟩
theorem SP.nil (A:List Nat):SP [] A:=⟨A,NS⟩
theorem SP.trans {A B C:List Nat} (h:SP A B) (a:SP B C):SP A C:=by
  obtain⟨D,h⟩:=h
  obtain⟨E,a⟩:=a
  exact⟨D++E,by rw[← gf];exact (h.append_right E).trans a⟩
theorem SP.append {A B C D:List Nat} (h:SP A B) (a:SP C D):SP (A++C) (B++D):=by
  obtain⟨E,h⟩:=h
  obtain⟨F,a⟩:=a
  refine⟨E++F,?_⟩
  have h1:(A++C++(E++F)).Perm (A++E++(C++F)):=by
    simp only[gf]
    refine List.Perm.append_left A ?_
    rw[← gf,← gf]
    exact q6.append_right F
  exact h1.trans (h.append a)
theorem SP.nodup {A B:List Nat} (h:SP A B) (a:B.Nodup):A.Nodup:=by
  obtain⟨C,h⟩:=h
  exact (nn.1 (h.nodup_iff.2 a)).1
theorem SP.mem {A B:List Nat} (h:SP A B) {x:Nat} (a:x∈A):x∈B:=by
  obtain⟨C,h⟩:=h
  exact h.mem_iff.1 (gb.2 (.inl a))
theorem SP.perm {A B:List Nat} (h:A.Perm B):SP A B:=⟨[],by simpa using h⟩
theorem SP.left (A B:List Nat):SP A (A++B):=⟨B,List.Perm.refl _⟩
theorem SP.right (A B:List Nat):SP B (A++B):=⟨A,q6⟩
theorem SP.eq {A B:List Nat} (h:A=B):SP A B:=h ▸ SP.refl A

theorem sM (Fs:List (List Nat)) (i:Nat) (F:List Nat):SP (Fs.set i F).flatten (Fs.flatten++F):=by
  induction Fs generalizing i with
  | nil=>simp;exact SP.nil _
  | cons G a b=>
    cases i with
    | zero=>
      simp only[List.set_cons_zero,ql]
      refine⟨G,?_⟩
      rw[gf,gf]
      have h1:(F++(a.flatten++G)).Perm ((a.flatten++G)++F):=q6
      refine h1.trans ?_
      rw[← gf]
      exact q6.append_right F
    | succ i=>
      simp only[List.set_cons_succ,ql]
      rw[gf]
      exact (SP.refl G).append (b i)

def pick {β:Type}:List Nat→List β→Option (List β × List β)
  | [],L=>some ([],L)
  | j :: js,L=>match L[j]? with
    | some A=>match pick js (L.eraseIdx j) with
      | some (As,R)=>some (A :: As,R)
      | none=>none
    | none=>none

theorem tD {β:Type}:∀ {js:List Nat} {L As R:List β},pick js L=some (As,R)→L.Perm (As++R)
  | [],L,As,R,h=>by simp only[pick,Option.some.injEq,Prod.mk.injEq] at h;obtain⟨rfl,rfl⟩:=h;exact List.Perm.refl _
  | j :: js,L,As,R,h=>by
    simp only[pick] at h
    split at h
    · rename_i A a
      split at h
      · rename_i f R' hp
        simp only[Option.some.injEq,Prod.mk.injEq] at h
        obtain⟨rfl,rfl⟩:=h
        have h1:=tD hp
        have b:j < L.length:=(gx.1 a).1
        have c:L=L.take j++A :: L.drop (j+1):=by
          have d:L[j]'b=A:=(gx.1 a).2
          rw[← d,List.getElem_cons_drop,List.take_append_drop]
        have e:L.Perm (A :: L.eraseIdx j):=by
          conv=>lhs;rw[c]
          rw[List.eraseIdx_eq_take_drop_succ]
          exact ry
        exact e.trans (List.Perm.cons A h1)
      · cases h
    · cases h

theorem St.part {b:List (List Nat)} (h:St w0 Φ O L w) (a:SP b.flatten L.flatten):St w0 Φ O b w:=
  ⟨h.bel,h.fro,h.old,h.obj,fun k hk=>h.dat k (a.mem hk),fun k hk=>h.new k (by
    rcases gb.1 hk with hk | hk
    · exact gb.2 (.inl hk)
    · exact gb.2 (.inr (a.mem hk))),((SP.refl (vb O)).append a).nodup h.nd⟩
theorem St.pk {js:List Nat} {As R:List (List Nat)} (h:St w0 Φ O L w) (hp:pick js L=some (As,R)):St w0 Φ O (As++R) w:=
  h.part (SP.perm (tD hp).flatten.symm)
theorem St.sel {js:List Nat} {As R:List (List Nat)} (h:St w0 Φ O L w) (hp:pick js L=some (As,R)):St w0 Φ O As w:=
  (h.pk hp).part (by rw[j1];exact SP.left _ _)
theorem St.addNil (h:St w0 Φ O L w):St w0 Φ O ([] :: L) w:=h.part (by simpa using SP.refl _)
theorem St.re {js:List Nat} {As R Bs:List (List Nat)} (h:St w0 Φ O L w) (hp:Eng.pick js L=some (As,R)) (a:SP Bs.flatten As.flatten):St w0 Φ O (Bs++R) w:=
  (h.pk hp).part (by rw[j1,j1];exact a.append (SP.refl _))
theorem St.dropO {O':gY} (h:St w0 Φ O L w) (a:O'.Sublist O):St w0 Φ O' L w:=
  have b:(vb O').Sublist (vb O):=a.map _
  ⟨h.bel,h.fro,h.old,fun p hp=>h.obj p (a.subset hp),h.dat,fun k hk=>h.new k (by
    rcases gb.1 hk with hk | hk
    · exact gb.2 (.inl (b.subset hk))
    · exact gb.2 (.inr hk)),(b.append (List.Sublist.refl _)).nodup h.nd⟩
theorem St.permO {O':gY} (h:St w0 Φ O L w) (hp:O.Perm O'):St w0 Φ O' L w:=
  have a:(vb O).Perm (vb O'):=hp.map _
  ⟨h.bel,h.fro,h.old,fun p hm=>h.obj p (hp.mem_iff.2 hm),h.dat,fun k hk=>h.new k (by
    rcases gb.1 hk with hk | hk
    · exact gb.2 (.inl (a.mem_iff.2 hk))
    · exact gb.2 (.inr hk)),(a.append_right _).nodup_iff.1 h.nd⟩
theorem St.selO {js:List Nat} {As R:gY} (h:St w0 Φ O L w) (hp:Eng.pick js O=some (As,R)):St w0 Φ As L w:=
  (h.permO (tD hp)).dropO (List.sublist_append_left _ _)

structure Ap {Ψ0 H0:Hp} {B0:List Nat} (w0:aD Ψ0 H0 B0) (O:gY) (As R:List (List Nat)):Prop where
  nd:As.flatten.Nodup
  new:∀ k∈As.flatten,w0.w.heap.size≤k∨k∈B0
  rest:∀ k∈vb O++R.flatten,k ∉ As.flatten

theorem St.ap {js:List Nat} {As R:List (List Nat)} (h:St w0 Φ O L w) (hp:Eng.pick js L=some (As,R)):Ap w0 O As R:=by
  have a:=h.pk hp
  have b:=a.nd
  rw[j1] at b
  have h1:=nn.1 b
  have c:=nn.1 h1.2.1
  refine⟨c.1,fun k hk=>a.new k (by rw[j1];exact gb.2 (.inr (gb.2 (.inl hk)))),fun k hk hm=>?_⟩
  rcases gb.1 hk with hk | hk
  · exact h1.2.2 k hk k (gb.2 (.inl hm)) rfl
  · exact c.2.2 k hm k hk rfl
theorem Ap.r {As R:List (List Nat)} (h:Ap w0 O As R) {i:Nat} {A:List Nat} (a:R[i]?=some A):Dj A As.flatten:=fun k hk=>h.rest k (gb.2 (.inr (List.mem_flatten.2 ⟨A,jf a,hk⟩)))
theorem Ap.o {As R:List (List Nat)} (h:Ap w0 O As R) {G:List Nat} (a:Old w0 G):Dj G As.flatten:=fun k hk hm=>by
  have h1:=a k hk
  rcases h.new k hm with h2 | h2
  · omega
  · exact h1.2 h2
theorem Ap.none {Ψ0 H0:Hp} {B0:List Nat} (w0:aD Ψ0 H0 B0) (O:gY) (R:List (List Nat)):Ap w0 O [] R:=⟨NS,NS,NS⟩

theorem St.eff {js:List Nat} {As R L1:List (List Nat)} (h:St w0 Φ O L w) (hp:Eng.pick js L=some (As,R)) (g:Chg As.flatten w w') (s:In Φ' w') (hold:∀ k,k < w.heap.size→k ∉ As.flatten→Φ' k=Φ k)
    (e:∀ k∈L1.flatten,(k∈As.flatten∨w.heap.size≤k)∧k < w'.heap.size) (t:L1.flatten.Nodup):St w0 Φ' O (L1++R) w':=by
  have i:=h.pk hp
  have f:=h.ap hp
  have m:=i.nd
  rw[j1] at m
  have h1:=nn.1 m
  have n:=nn.1 h1.2.1
  have o:∀ k∈R.flatten,k < w.heap.size:=fun k hk=>i.dat k (by rw[j1];exact gb.2 (.inr hk))
  refine⟨h.bel.trans' g (fun k hk=>f.new k hk),s,fun k hk c=>?_,fun p j=>?_,fun k hk=>?_,fun k hk=>?_,?_⟩
  · rw[hold k (q4 hk h.bel.size) (fun hm=>?_)]
    · exact h.old k hk c
    · rcases f.new k hm with h3 | h3
      · omega
      · exact c h3
  · have hm:p.1∈vb O:=hC.2 ⟨p,j,rfl⟩
    have q:=BM h hm
    have r:p.1 ∉ As.flatten:=f.rest _ (gb.2 (.inl hm))
    exact⟨by rw[g.block _ q r];exact (h.obj p j).1,by rw[hold _ q r];exact (h.obj p j).2⟩
  · rw[j1] at hk
    rcases gb.1 hk with hk | hk
    · exact (e k hk).2
    · exact q4 (o k hk) g.size
  · rw[j1] at hk
    rcases gb.1 hk with hk | hk
    · exact h.new k (gb.2 (.inl hk))
    · rcases gb.1 hk with hk | hk
      · rcases (e k hk).1 with h3 | h3
        · exact f.new k h3
        · exact .inl (j4 h.bel.size h3)
      · exact i.new k (by rw[j1];exact gb.2 (.inr (gb.2 (.inr hk))))
  · rw[j1]
    refine nn.2 ⟨h1.1,nn.2 ⟨t,n.2.1,fun a d b c l=>?_⟩,fun a d b c l=>?_⟩
    · subst l
      rcases (e a d).1 with h3 | h3
      · exact n.2.2 a h3 a c rfl
      · have:=o a c;omega
    · subst l
      rcases gb.1 c with c | c
      · rcases (e a c).1 with h3 | h3
        · exact h1.2.2 a d a (gb.2 (.inl h3)) rfl
        · have:=BM h d;omega
      · exact h1.2.2 a d a (gb.2 (.inr c)) rfl

theorem Bx {X:List Nat} (a:In Φ w) (hold:∀ k,k < w.heap.size→k ∉ X→Φ' k=Φ k):FrH X Φ Φ':=fun k o hk h=>by rw[hold k (a.lt h) hk];exact h

theorem St.addO (h:St w0 Φ O L w) {b:Nat} {o:Obj} (d:Chg [] w w') (c:w.heap.size≤b) (e:w'.heap[b]?=some o):St w0 Φ ((b,o) :: O) L w':=by
  have a:=h.kept d
  refine⟨a.bel,a.fro,a.old,fun p hp=>?_,a.dat,fun k hk=>?_,?_⟩
  · rcases hE.1 hp with rfl | hp
    · exact⟨e,h.out c⟩
    · exact a.obj p hp
  · simp only[vb,hN,hK] at hk
    rcases hE.1 hk with rfl | hk
    · exact .inl (j4 h.bel.size c)
    · exact a.new k hk
  · simp only[vb,hN,hK]
    exact List.nodup_cons.2 ⟨h.notin c,h.nd⟩

theorem Ny {i:Nat} {b:Nat} {o o':Obj} (a:O[i]?=some (b,o)):vb (O.set i (b,o'))=vb O:=by
  unfold vb
  rw[List.map_set]
  apply List.ext_getElem?
  intro j
  by_cases c:i=j
  · subst c
    have d:i < O.length:=(gx.1 a).1
    rw[j3 (by simpa using d)]
    simp[a]
  · rw[hZ c]

theorem St.setO (h:St w0 Φ O L w) {i b:Nat} {o o':Obj} (c:O[i]?=some (b,o)) (d:Chg [b] w w') (n:w'.heap[b]?=some o'):St w0 Φ (O.set i (b,o')) L w':=by
  have g:=jf c
  have q:b∈vb O:=hC.2 ⟨_,g,rfl⟩
  have l:=Ny (o':=o') c
  have m:Φ b=none:=(h.obj _ g).2
  refine⟨h.bel.trans' d (fun k hk=>?_),fun k o hk=>?_,h.old,fun p hp=>?_,fun k hk=>q4 (h.dat k hk) d.size,by rw[l];exact h.new,by rw[l];exact h.nd⟩
  · rw[hY] at hk;subst hk;exact h.new _ (gb.2 (.inl q))
  · rw[d.block k (h.fro.lt hk) (fun hm=>by rw[hY] at hm;subst hm;rw[m] at hk;cases hk)];exact h.fro k o hk
  · obtain⟨j,a⟩:=List.getElem?_of_mem hp
    by_cases e:i=j
    · subst e
      rw[j3 (gx.1 c).1] at a
      simp only[Option.some.injEq] at a
      subst a
      exact⟨n,m⟩
    · rw[hZ e] at a
      have f:=jf a
      have r:p.1≠b:=by
        intro he
        have s:(vb O).Nodup:=(nn.1 h.nd).1
        have h1:(vb O)[i]?=some b:=by simp[vb,c]
        have t:(vb O)[j]?=some b:=by simp[vb,a,he]
        have u:i < (vb O).length:=(gx.1 h1).1
        have:=(List.getElem?_inj u s).1 (h1.trans t.symm)
        exact e this
      exact⟨by rw[d.block _ (BM h (hC.2 ⟨_,f,rfl⟩)) (by simpa using r)];exact (h.obj p f).1,(h.obj p f).2⟩

def Az (Φ:Hp) (b:Nat) (o:Obj):Hp:=fun k=>if k=b then some o else Φ k
def Ds (Φ:Hp) (b:Nat):Hp:=fun k=>if k=b then none else Φ k

theorem St.freeze (h:St w0 Φ O L w) {js:List Nat} {R:gY} {b:Nat} {o:Obj} (hp:Eng.pick js O=some ([(b,o)],R)):FrH [] Φ (Az Φ b o)∧St w0 (Az Φ b o) R ([b] :: L) w:=by
  have a:=h.permO (tD hp)
  obtain⟨d,i⟩:=a.obj (b,o) NS
  have c:=a.nd
  simp only[vb,List.map_append,hN,List.map_nil,hK,ha] at c
  have j:=List.nodup_cons.1 c
  refine⟨fun k o' _ hk=>?_,a.bel,fun k o' hk=>?_,fun k hk f=>?_,fun p g=>?_,fun k hk=>?_,fun k hk=>?_,?_⟩
  · unfold Az;split
    · rename_i e;subst e;rw[i] at hk;cases hk
    · exact hk
  · unfold Az at hk;split at hk
    · rename_i e;subst e;rw[d];exact hk
    · exact a.fro k o' hk
  · unfold Az;split
    · rename_i e;subst e
      rcases a.new k (by simp[vb]) with h1 | h1
      · omega
      · exact absurd h1 f
    · exact a.old k hk f
  · have:=a.obj p (by simp[g])
    refine⟨this.1,?_⟩
    unfold Az;rw[if_neg ?_];exact this.2
    rintro rfl
    exact j.1 (gb.2 (.inl (hC.2 ⟨p,g,rfl⟩)))
  · rw[ql] at hk
    rcases gb.1 hk with hk | hk
    · rw[hY] at hk;subst hk;exact (Array.getElem?_eq_some_iff.1 d).1
    · exact a.dat k hk
  · refine a.new k ?_
    rw[ql] at hk
    simp only[vb,List.map_append,hN,List.map_nil,hK,ha,gb,hE,hY,List.not_mem_nil,or_false] at hk ⊢
    rcases hk with hk | hk | hk
    · exact .inr (.inl hk)
    · exact .inl hk
    · exact .inr (.inr hk)
  · rw[ql]
    refine (List.Perm.nodup_iff ?_).1 c
    simp only[vb,hK,ha]
    exact ry.symm

theorem St.thaw (h:St w0 Φ O L w) {js:List Nat} {R:List (List Nat)} {b:Nat} {o:Obj} (hp:Eng.pick js L=some ([[b]],R)) (g:Φ b=some o):FrH [b] Φ (Ds Φ b)∧St w0 (Ds Φ b) ((b,o) :: O) R w:=by
  have a:=h.pk hp
  have i:=h.fro b o g
  have d:=a.nd
  simp only[hK,ha,ql] at d
  refine⟨fun k o' hk j=>?_,a.bel,fun k o' hk=>?_,fun k hk f=>?_,fun p c=>?_,fun k hk=>?_,fun k hk=>?_,?_⟩
  · unfold Ds;rw[if_neg (by simpa using hk)];exact j
  · unfold Ds at hk;split at hk
    · cases hk
    · exact a.fro k o' hk
  · unfold Ds;split
    · rename_i e;subst e
      rcases a.new k NS with h1 | h1
      · omega
      · exact absurd h1 f
    · exact a.old k hk f
  · rcases hE.1 c with rfl | c
    · exact⟨i,by simp[Ds]⟩
    · have:=a.obj p c
      refine⟨this.1,?_⟩
      unfold Ds;split
      · rfl
      · exact this.2
  · exact a.dat k (by simp[hk])
  · refine a.new k ?_
    simp only[vb,hN,hK,ha,ql,gb,hE,hY] at hk ⊢
    rcases hk with hk | hk | hk
    · exact .inr (.inl hk)
    · exact .inl hk
    · exact .inr (.inr hk)
  · simp only[vb,hN,hK]
    refine (List.Perm.nodup_iff ?_).1 d
    exact ry

theorem St.rgO (h:St w0 Φ O L w) {i b:Nat} {C:Array Value} {T:Nat} {c:Nat × Nat} (d:O[i]?=some (b,.cells C T c)) (o n:Nat) (cs:List Value) (e:(C.toList.drop o).take n=cs):w.rangeAt b o cs:=by
  have f:w.heap[b]?=some (.cells C T c):=(h.obj _ (jf d)).1
  intro j v a
  subst e
  rw[List.getElem?_take] at a
  split at a
  · rw[List.getElem?_drop] at a
    simp only[World.cell?,f]
    simpa using a
  · cases a
theorem xc {b o:Nat} {v:Value} (h:w.rangeAt b o [v]):w.cell? ⟨b,o,none⟩=some v:=by simpa using h 0 v rfl

def Up (Ψ Φ:Hp):Prop:=∀ k o,Ψ k=some o→Φ k=some o
def off (Φ:Hp) (X:List Nat):Hp:=fun k=>if k∈X then none else Φ k
theorem Ij {X:List Nat} {k:Nat} {o:Obj} (h:off Φ X k=some o):Φ k=some o∧k ∉ X:=by
  unfold off at h
  split at h
  · cases h
  · exact⟨h,by assumption⟩
theorem HH (Φ:Hp) (X:List Nat):FrH X Φ (off Φ X):=fun k o hk h=>by unfold off;rw[if_neg hk];exact h
theorem St.up (h:St w0 Φ O L w):Up Ψ0 Φ:=fun k o hk=>by
  obtain⟨h1,a⟩:=w0.off k o hk
  rw[h.old k (w0.fro.lt h1) a];exact h1
theorem St.in0 (h:St w0 Φ O L w):In Ψ0 w:=fun k o hk=>h.fro k o (h.up k o hk)
theorem Old.of {F:List Nat} (w0:aD Ψ0 H0 B0) (h:Kw Ψ0 F):Old w0 F:=fun k hk=>by
  obtain⟨o,a⟩:=h k hk
  obtain⟨h1,b⟩:=w0.off k o a
  exact⟨w0.fro.lt h1,b⟩
theorem Nl {b:Nat} {o:Obj} (w0:aD Ψ0 H0 B0) (h:Ψ0 b=some o):Old w0 [b]:=Old.of w0 (fun k hk=>by simp at hk;subst hk;exact⟨_,h⟩)
theorem Ap.oo {As R:List (List Nat)} (h:Ap w0 O As R) {k:Nat} {o:Obj} (hk:Ψ0 k=some o):k ∉ As.flatten:=h.o (Nl w0 hk) k NS
theorem St.uo (h:St w0 Φ O L w) {As R:List (List Nat)} (ap:Ap w0 O As R):Up Ψ0 (off Φ As.flatten):=fun k o hk=>by
  unfold off;rw[if_neg (ap.oo hk)];exact h.up k o hk
def ba (a:In Φ w):aD Φ Φ []:=⟨w,a,fun k o h=>⟨h,NS⟩,NS,NS⟩
def bx (h:St w0 Φ O L w) {As R:List (List Nat)} (ap:Ap w0 O As R) (a:∀ k∈As.flatten,k < w.heap.size):aD (off Φ As.flatten) Φ As.flatten:=⟨w,h.fro,fun k o hk=>Ij hk,ap.nd,a⟩
theorem St.frB (h:St w0 Φ O L w):FrH B0 H0 Φ:=fun k o hk a=>by rw[h.old k (w0.fro.lt a) hk];exact a
theorem St.frX (h:St w0 Φ O L w) {As R:List (List Nat)} (ap:Ap w0 O As R) (b:FrH As.flatten Φ Φ'):FrH B0 H0 Φ':=fun k o hk a=>by
  refine b k o (fun hm=>?_) (h.frB k o hk a)
  rcases ap.new k hm with h1 | h1
  · have:=w0.fro.lt a
    omega
  · exact hk h1
class LS {α:Type} (R:Hp→List Nat→List Value→α→Prop):Prop where
  l:cB R
section
variable {α:Type} {R:Hp→List Nat→List Value→α→Prop} {e sz:Nat} {D F X:List Nat} {v:Value} {xs:List α} {Ψ:Hp}
theorem RSl.y [LS R] (h:RSl R sz Ψ F v xs) (z:Up Ψ Φ):RSl R sz Φ F v xs:=h.frame LS.l (fun k o _ hk=>z k o hk:FrH [] Ψ Φ) (Dj.empty _)
theorem OSl.y [LS R] (h:OSl R e sz Ψ D v xs) (z:Up Ψ Φ):OSl R e sz Φ D v xs:=h.frame LS.l (fun k o _ hk=>z k o hk:FrH [] Ψ Φ) (Dj.empty _) (Dj.empty _)
theorem RSl.x [LS R] (h:RSl R sz Φ F v xs) (a:Dj F X):RSl R sz (off Φ X) F v xs:=h.frame LS.l (HH Φ X) a
theorem OSl.x [LS R] (h:OSl R e sz Φ D v xs) (a:Dj (ob v) X) (b:Dj D X):OSl R e sz (off Φ X) D v xs:=h.frame LS.l (HH Φ X) a b
theorem RSl.old (h:RSl R sz Ψ0 F v xs):Old w0 F:=Old.of w0 h.kn
theorem OSl.old (h:OSl R e sz Ψ0 D v xs):Old w0 D:=Old.of w0 h.kn
end
end Go.Proofs.YtedmfnmbjglmbaaGreat.Eng
