/-
  The engine, part A: memory. A heap of known blocks, the variables of a function, the blocks of the data that it owns; readings of data, shared and owned.
  Nothing here names a program.
-/
import Derived.Test.YtedmfnmbjglmbaaGreatEng1
import Derived.KernelRfl
import Derived.Laws.OwnMore
import Derived.Laws.Tables
namespace Go.Proofs.YtedmfnmbjglmbaaGreat.Eng
open Go.RowKit (Below wrap64)
set_option linter.unusedVariables false
set_option linter.unusedSimpArgs false

abbrev Hp:=Nat→Option Obj
def In (Φ:Hp) (w:World):Prop:=∀ k o,Φ k=some o→w.heap[k]?=some o
def FrH (X:List Nat) (Φ Φ':Hp):Prop:=∀ k o,k ∉ X→Φ k=some o→Φ' k=some o
def Dj (F X:List Nat):Prop:=∀ k∈F,k ∉ X
def Kw (Φ:Hp) (F:List Nat):Prop:=∀ k∈F,∃ o,Φ k=some o

theorem In.lt {Φ:Hp} {w:World} (h:In Φ w) {k:Nat} {o:Obj} (hk:Φ k=some o):k < w.heap.size:=(Array.getElem?_eq_some_iff.1 (h k o hk)).1
theorem Kw.lt {Φ:Hp} {w:World} {F:List Nat} (h:Kw Φ F) (hi:In Φ w):∀ k∈F,k < w.heap.size:=fun k hk=>by obtain ⟨o,ho⟩:=h k hk; exact hi.lt ho
theorem Kw.nil {Φ:Hp}:Kw Φ []:=fun k hk=>by cases hk
theorem Kw.app {Φ:Hp} {F G:List Nat} (h:Kw Φ F) (h':Kw Φ G):Kw Φ (F++G):=fun k hk=>(List.mem_append.1 hk).elim (h k) (h' k)
theorem Kw.sub {Φ:Hp} {F G:List Nat} (h:Kw Φ G) (hs:∀ k∈F,k∈G):Kw Φ F:=fun k hk=>h k (hs k hk)
theorem FrH.refl (X:List Nat) (Φ:Hp):FrH X Φ Φ:=fun _ _ _ h=>h
theorem FrH.trans {X:List Nat} {Φ Φ' Φ'':Hp} (h:FrH X Φ Φ') (h':FrH X Φ' Φ''):FrH X Φ Φ'':=fun k o hx hk=>h' k o hx (h k o hx hk)
theorem FrH.mono {X Y:List Nat} {Φ Φ':Hp} (h:FrH X Φ Φ') (hs:∀ k∈X,k∈Y):FrH Y Φ Φ':=fun k o hx hk=>h k o (fun hm=>hx (hs k hm)) hk
theorem FrH.kw {X F:List Nat} {Φ Φ':Hp} (h:FrH X Φ Φ') (hd:Dj F X) (hk:Kw Φ F):Kw Φ' F:=fun k hm=>by obtain ⟨o,ho⟩:=hk k hm; exact ⟨o,h k o (hd k hm) ho⟩
theorem Dj.nil (X:List Nat):Dj [] X:=fun k hk=>by cases hk
theorem Dj.app {F G X:List Nat} (h:Dj F X) (h':Dj G X):Dj (F++G) X:=fun k hk=>(List.mem_append.1 hk).elim (h k) (h' k)
theorem Dj.sub {F G X:List Nat} (h:Dj G X) (hs:∀ k∈F,k∈G):Dj F X:=fun k hk=>h k (hs k hk)
theorem Dj.empty (F:List Nat):Dj F []:=fun k _ hx=>by cases hx
theorem Dj.l {F G X:List Nat} (h:Dj (F++G) X):Dj F X:=fun k hk=>h k (List.mem_append.2 (.inl hk))
theorem Dj.r {F G X:List Nat} (h:Dj (F++G) X):Dj G X:=fun k hk=>h k (List.mem_append.2 (.inr hk))

def rg (Φ:Hp) (b o:Nat) (cs:List Value):Prop:=
  ∃ C T fz,Φ b=some (.cells C T fz)∧∀ j v,cs[j]?=some v→C[o+j]?=some v

theorem rg.frame {X:List Nat} {Φ Φ':Hp} {b o:Nat} {cs:List Value} (hf:FrH X Φ Φ') (hb:b ∉ X) (h:rg Φ b o cs):rg Φ' b o cs:=by
  obtain ⟨C,T,fz,h1,h2⟩:=h
  exact ⟨C,T,fz,hf _ _ hb h1,h2⟩
theorem rg.part {Φ:Hp} {b o:Nat} {cs:List Value} (h:rg Φ b o cs) (i n:Nat):rg Φ b (o+i) ((cs.drop i).take n):=by
  obtain ⟨C,T,fz,h1,h2⟩:=h
  refine ⟨C,T,fz,h1,fun j v hj=>?_⟩
  have:=h2 (i+j) v (by
    rw [List.getElem?_take] at hj
    split at hj
    · rw [List.getElem?_drop] at hj; exact hj
    · cases hj)
  rw [← this]; congr 1; omega

theorem rg.of_eq {Φ:Hp} {b o o':Nat} {cs cs':List Value} (h:rg Φ b o cs) (i n:Nat) (ho:o'=o+i) (hc:(cs.drop i).take n=cs'):rg Φ b o' cs':=by
  subst ho; subst hc; exact h.part i n

theorem rg.rangeAt {Φ:Hp} {w:World} {b o:Nat} {cs:List Value} (hi:In Φ w) (h:rg Φ b o cs):w.rangeAt b o cs:=by
  obtain ⟨C,T,fz,h1,h2⟩:=h
  intro j v hj
  simp only [World.cell?,hi _ _ h1]
  simpa using h2 j v hj

def sb:Value→Nat
  | .slice (some a) _ _=>a.block
  | _=>0
def so:Value→Nat
  | .slice (some a) _ _=>a.off
  | _=>0
def ob (v:Value):List Nat:=v.ownBlock.toList

def bQ {α:Type} (R:Hp→List Nat→List Value→α→Prop):Prop:=∀ X Φ Φ' F cs x,FrH X Φ Φ'→Dj F X→R Φ F cs x→R Φ' F cs x
def cW {α:Type} (R:Hp→List Nat→List Value→α→Prop):Prop:=∀ Φ F cs x,R Φ F cs x→Kw Φ F
def fm {α:Type} (R:Hp→List Nat→List Value→α→Prop):Prop:=∀ Φ F cs x,R Φ F cs x→∀ v∈cs,v.oneCell'=true
def dL {α:Type} (R R':Hp→List Nat→List Value→α→Prop):Prop:=∀ Φ F cs x,R Φ F cs x→R' Φ F cs x
theorem dL.refl {α:Type} (R:Hp→List Nat→List Value→α→Prop):dL R R:=fun _ _ _ _ h=>h

structure RSl {α:Type} (R:Hp→List Nat→List Value→α→Prop) (sz:Nat) (Φ:Hp) (F:List Nat) (v:Value) (xs:List α):Prop where
  form:∃ a cap,v = .slice a xs.length cap∧xs.length≤cap
  addr:xs≠[]→∃ cap,v = .slice (some ⟨sb v,so v,none⟩) xs.length cap
  kn:Kw Φ F
  elems:∃ (Fb:List Nat) (Fs:List (List Nat)),(Fb=ob v∨(xs=[]∧Fb=[]))∧Fs.length=xs.length∧F=Fb++Fs.flatten ∧
    ∀ i x,xs[i]?=some x→∃ cs,cs.length=sz∧rg Φ (sb v) (so v+i*sz) cs∧R Φ (Fs.getD i []) cs x

theorem kP {Fs:List (List Nat)} {i k:Nat} (h:k∈Fs.getD i []):k∈Fs.flatten:=by
  rw [List.getD_eq_getElem?_getD] at h
  cases hi:Fs[i]? with
  | none=>simp [hi] at h
  | some F=>simp only [hi,Option.getD_some] at h; exact List.mem_flatten.2 ⟨F,List.mem_of_getElem? hi,h⟩

theorem RSl.el {α:Type} {R:Hp→List Nat→List Value→α→Prop} {sz:Nat} {Φ:Hp} {F:List Nat} {v:Value} {xs:List α} (h:RSl R sz Φ F v xs) {i:Nat} {x:α} (hi:xs[i]?=some x) :
    ∃ cs G,cs.length=sz∧rg Φ (sb v) (so v+i*sz) cs∧sb v∈F∧(∀ k∈G,k∈F)∧R Φ G cs x:=by
  obtain ⟨Fb,Fs,h0,h1,h2,h3⟩:=h.elems
  obtain ⟨cs,h4,h5,h6⟩:=h3 i x hi
  have hne:xs≠[]:=by rintro rfl; simp at hi
  refine ⟨cs,_,h4,h5,?_,fun k hk=>?_,h6⟩
  · obtain ⟨cap,hv⟩:=h.addr hne
    have hb:Fb=ob v:=h0.resolve_right fun e=>hne e.1
    rw [h2,hb]
    refine List.mem_append.2 (.inl ?_)
    have:ob v=[sb v]:=by
      have h9:∀ u:Value,u = .slice (some ⟨sb v,so v,none⟩) xs.length cap→ob u=[sb v]:=fun u hu=>by subst hu; rfl
      exact h9 v hv
    rw [this]; simp
  · rw [h2]; exact List.mem_append.2 (.inr (kP hk))

theorem RSl.frame {α:Type} {R:Hp→List Nat→List Value→α→Prop} (hR:bQ R) {sz:Nat} {Φ Φ':Hp} {X F:List Nat} {v:Value} {xs:List α} (h:RSl R sz Φ F v xs) (hf:FrH X Φ Φ') (hd:Dj F X):RSl R sz Φ' F v xs:=by
  obtain ⟨Fb,Fs,h0,h1,h2,h3⟩:=h.elems
  refine ⟨h.form,h.addr,hf.kw hd h.kn,Fb,Fs,h0,h1,h2,fun i x hi=>?_⟩
  obtain ⟨cs,h4,h5,h6⟩:=h3 i x hi
  obtain ⟨cs',G,_,_,hb,_,_⟩:=h.el hi
  exact ⟨cs,h4,h5.frame hf (hd _ hb),hR X _ _ _ _ _ hf (fun k hk=>hd k (by rw [h2]; exact List.mem_append.2 (.inr (kP hk)))) h6⟩

theorem RSl.gives {α:Type} {R R':Hp→List Nat→List Value→α→Prop} (hR:dL R R') {sz:Nat} {Φ:Hp} {F:List Nat} {v:Value} {xs:List α} (h:RSl R sz Φ F v xs):RSl R' sz Φ F v xs:=by
  obtain ⟨Fb,Fs,h0,h1,h2,h3⟩:=h.elems
  refine ⟨h.form,h.addr,h.kn,Fb,Fs,h0,h1,h2,fun i x hi=>?_⟩
  obtain ⟨cs,h4,h5,h6⟩:=h3 i x hi
  exact ⟨cs,h4,h5,hR _ _ _ _ h6⟩

theorem RSl.nil {α:Type} (R:Hp→List Nat→List Value→α→Prop) (sz:Nat) (Φ:Hp):RSl R sz Φ [] (.slice none 0 0) ([]:List α):=
  ⟨⟨none,0,rfl,Nat.le_refl _⟩,fun h=>absurd rfl h,Kw.nil,[],[],.inr ⟨rfl,rfl⟩,rfl,rfl,fun i x hi=>by simp at hi⟩
theorem RSl.one {α:Type} {R:Hp→List Nat→List Value→α→Prop} {sz:Nat} {Φ:Hp} {F:List Nat} {v:Value} {xs:List α} (h:RSl R sz Φ F v xs):v.oneCell'=true:=by
  obtain ⟨p,c,hp,_⟩:=h.form
  rw [hp]; rfl
theorem RSl.len {α:Type} {R:Hp→List Nat→List Value→α→Prop} {sz:Nat} {Φ:Hp} {F:List Nat} {v:Value} {xs:List α} (h:RSl R sz Φ F v xs):∃ a c,v = .slice a xs.length c:=by
  obtain ⟨p,c,hp,_⟩:=h.form
  exact ⟨p,c,hp⟩

def idx {α:Type} (xs:List α) (i:Int):Option α:=if 0≤i then xs[i.toNat]? else none
theorem ab {α:Type} {xs:List α} {i:Int} {x:α} (h:idx xs i=some x):0≤i∧i < xs.length∧xs[i.toNat]?=some x:=by
  unfold idx at h
  split at h
  · rename_i h0
    have:=(List.getElem?_eq_some_iff.1 h).1
    exact ⟨h0,by omega,h⟩
  · cases h
theorem xd {α:Type} {xs:List α} {i:Int} {x:α} (h:idx xs i=some x):i.toNat < xs.length:=by
  obtain ⟨h0,h1,_⟩:=ab h
  omega

structure RC {α:Type} (R:Hp→List Nat→List Value→α→Prop) (sz:Nat) (Φ:Hp) (Fs:List (List Nat)) (cells:List Value) (xs:List α):Prop where
  len:cells.length=xs.length*sz
  flen:Fs.length=xs.length
  el:∀ i x,xs[i]?=some x→R Φ (Fs.getD i []) ((cells.drop (i*sz)).take sz) x

variable {α:Type} {R R':Hp→List Nat→List Value→α→Prop} {e sz:Nat} {Φ Φ':Hp} {D F X:List Nat} {v:Value} {xs:List α} {w w':World}

theorem RC.nil (R:Hp→List Nat→List Value→α→Prop) (sz:Nat) (Φ:Hp):RC R sz Φ [] [] ([]:List α):=⟨by simp,rfl,fun i x h=>by simp at h⟩
theorem RC.frame {Fs:List (List Nat)} {cells:List Value} (hR:bQ R) (h:RC R sz Φ Fs cells xs) (hf:FrH X Φ Φ') (hd:Dj Fs.flatten X):RC R sz Φ' Fs cells xs:=
  ⟨h.len,h.flen,fun i x hi=>hR X _ _ _ _ _ hf (fun k hk=>hd k (kP hk)) (h.el i x hi)⟩
theorem RC.gives {Fs:List (List Nat)} {cells:List Value} (hR:dL R R') (h:RC R sz Φ Fs cells xs):RC R' sz Φ Fs cells xs:=⟨h.len,h.flen,fun i x hi=>hR _ _ _ _ (h.el i x hi)⟩

theorem RC.append {Fs Gs:List (List Nat)} {cells news:List Value} {ys:List α} (h:RC R sz Φ Fs cells xs) (h':RC R sz Φ Gs news ys):RC R sz Φ (Fs++Gs) (cells++news) (xs++ys):=by
  refine ⟨by simp [h.len,h'.len,Nat.add_mul],by simp [h.flen,h'.flen],fun i x hi=>?_⟩
  rcases Nat.lt_or_ge i xs.length with hlt | hge
  · rw [List.getElem?_append_left hlt] at hi
    have hle:i*sz+sz≤cells.length:=by rw [h.len,← Nat.succ_mul]; exact Nat.mul_le_mul_right sz hlt
    rw [List.drop_append_of_le_length (by omega),List.take_append_of_le_length (by simp; omega)]
    have hF:(Fs++Gs).getD i []=Fs.getD i []:=by
      simp only [List.getD_eq_getElem?_getD]
      rw [List.getElem?_append_left (by rw [h.flen]; exact hlt)]
    rw [hF]; exact h.el i x hi
  · rw [List.getElem?_append_right hge] at hi
    have hF:(Fs++Gs).getD i []=Gs.getD (i - xs.length) []:=by
      simp only [List.getD_eq_getElem?_getD]
      rw [List.getElem?_append_right (by rw [h.flen]; exact hge),h.flen]
    have hm:i*sz - cells.length=(i - xs.length)*sz:=by rw [h.len,Nat.sub_mul]
    rw [hF,List.drop_append,List.drop_eq_nil_of_le (by rw [h.len]; exact Nat.mul_le_mul_right sz hge),List.nil_append,hm]
    exact h'.el _ x hi

theorem RC.cons {F:List Nat} {Fs:List (List Nat)} {c cells:List Value} {x:α} (hx:R Φ F c x) (hc:c.length=sz) (h:RC R sz Φ Fs cells xs):RC R sz Φ (F :: Fs) (c++cells) (x :: xs):=by
  refine ⟨by simp [hc,h.len,Nat.succ_mul,Nat.add_comm],by simp [h.flen],fun i y hi=>?_⟩
  cases i with
  | zero=>
    simp only [List.getElem?_cons_zero,Option.some.injEq] at hi
    subst hi
    have:((c++cells).drop (0*sz)).take sz=c:=by rw [Nat.zero_mul,List.drop_zero,← hc,List.take_left']; rfl
    rw [this]; exact hx
  | succ i=>
    simp only [List.getElem?_cons_succ] at hi
    have:=h.el i y hi
    have hd:(c++cells).drop ((i+1)*sz)=cells.drop (i*sz):=by
      rw [Nat.succ_mul,Nat.add_comm,← List.drop_drop,← hc,List.drop_left']; rfl
    rw [hd]; exact this

theorem RC.one (h1:fm R) (hs:0 < sz) {Fs:List (List Nat)} {cells:List Value} (h:RC R sz Φ Fs cells xs):∀ v∈cells,v.oneCell'=true:=by
  intro v hv
  obtain ⟨p,hp,rfl⟩:=List.getElem_of_mem hv
  have hlt:p / sz < xs.length:=by rw [Nat.div_lt_iff_lt_mul hs,← h.len]; exact hp
  have:=h.el (p / sz) xs[p / sz] (List.getElem?_eq_getElem hlt)
  refine h1 _ _ _ _ this _ (List.mem_of_getElem? (i:=p % sz) ?_)
  rw [List.getElem?_take,if_pos (Nat.mod_lt _ hs),List.getElem?_drop,Nat.mul_comm,Nat.div_add_mod,List.getElem?_eq_getElem hp]

def mF (cs:List Value) (o:Nat) (vs:List Value):List Value:=cs.take o++vs++cs.drop (o+vs.length)
theorem oy {cs vs:List Value} {o:Nat} (h:o+vs.length≤cs.length):(mF cs o vs).length=cs.length:=by
  simp [mF]; omega

theorem kZ {cs vs:List Value} {o j:Nat} (h:o+vs.length≤cs.length):(mF cs o vs)[j]?=if o≤j∧j < o+vs.length then vs[j - o]? else cs[j]?:=by
  have hl:(cs.take o).length=o:=by rw [List.length_take]; omega
  simp only [mF,List.append_assoc]
  by_cases h1:j < o
  · rw [List.getElem?_append_left (by omega),List.getElem?_take,if_pos h1,if_neg (by omega)]
  · rw [List.getElem?_append_right (by omega),hl]
    by_cases h2:j < o+vs.length
    · rw [List.getElem?_append_left (by omega),if_pos ⟨by omega,h2⟩]
    · rw [List.getElem?_append_right (by omega),List.getElem?_drop,if_neg (by omega)]
      congr 1; omega

theorem Hy {cs vs:List Value} {o:Nat} (h:o+vs.length≤cs.length):((mF cs o vs).drop o).take vs.length=vs:=by
  apply List.ext_getElem?
  intro j
  rw [List.getElem?_take]
  split
  · rename_i hj
    rw [List.getElem?_drop,kZ h,if_pos (by omega)]; congr 1; omega
  · rename_i hj; rw [List.getElem?_eq_none (by omega)]

theorem RC.set {Fs:List (List Nat)} {cells:List Value} (h:RC R sz Φ Fs cells xs) {i:Nat} (hi:i < xs.length) {F:List Nat} {cs:List Value} {x:α} (hl:cs.length=sz) (hx:R Φ F cs x) :
    RC R sz Φ (Fs.set i F) (mF cells (i*sz) cs) (xs.set i x):=by
  have hle:i*sz+sz≤cells.length:=by rw [h.len,← Nat.succ_mul]; exact Nat.mul_le_mul_right sz hi
  refine ⟨by rw [oy (by omega),h.len,List.length_set],by simp [h.flen],fun j y hj=>?_⟩
  by_cases hij:i=j
  · subst hij
    rw [List.getElem?_set_self hi] at hj
    simp only [Option.some.injEq] at hj
    subst hj
    have hF:(Fs.set i F).getD i []=F:=by
      simp only [List.getD_eq_getElem?_getD]
      rw [List.getElem?_set_self (by rw [h.flen]; exact hi)]; rfl
    have:=Hy (cs:=cells) (vs:=cs) (o:=i*sz) (by omega)
    rw [hl] at this
    rw [hF,this]
    exact hx
  · rw [List.getElem?_set_ne hij] at hj
    have hF:(Fs.set i F).getD j []=Fs.getD j []:=by
      simp only [List.getD_eq_getElem?_getD]
      rw [List.getElem?_set_ne hij]
    rw [hF]
    have:((mF cells (i*sz) cs).drop (j*sz)).take sz=(cells.drop (j*sz)).take sz:=by
      apply List.ext_getElem?
      intro m
      rw [List.getElem?_take,List.getElem?_take]
      split
      · rename_i hm
        rw [List.getElem?_drop,List.getElem?_drop,kZ (by omega),if_neg ?_]
        rcases Nat.lt_or_ge j i with hlt | hge
        · have h2:j*sz+sz≤i*sz:=by rw [← Nat.succ_mul]; exact Nat.mul_le_mul_right sz hlt
          omega
        · have h2:i*sz+sz≤j*sz:=by rw [← Nat.succ_mul]; exact Nat.mul_le_mul_right sz (by omega)
          omega
      · rfl
    rw [this]; exact h.el j y hj

def oa (Φ:Hp) (e sz:Nat) (v:Value) (n:Nat) (cells:List Value):Prop:=
  cells.length=n*sz ∧
  ((v = .slice none 0 0∧n=0) ∨
   ∃ g cap cur,v = .slice (some ⟨g,0,none⟩) n cap∧Φ g=some (.cells cur e (0,0))∧n≤cap∧cap≤maxLen∧cur.size=cap*sz∧cur.toList.take (n*sz)=cells)

theorem oa.owns {n:Nat} {cells:List Value} (h:oa Φ e sz v n cells) (hi:In Φ w):w.ownsRow 0 e sz v n cells:=by
  obtain ⟨h1,h2⟩:=h
  refine ⟨h1,h2.imp id ?_⟩
  rintro ⟨g,cap,cur,h3,h4,h5⟩
  exact ⟨g,cap,cur,h3,Nat.zero_le _,hi _ _ h4,h5⟩
theorem oa.of_owns {n:Nat} {cells:List Value} (h:w.ownsRow 0 e sz v n cells) (hi:∀ k∈ob v,Φ k=w.heap[k]?):oa Φ e sz v n cells:=by
  obtain ⟨h1,h2⟩:=h
  refine ⟨h1,h2.imp id ?_⟩
  rintro ⟨g,cap,cur,h3,_,h4,h5⟩
  exact ⟨g,cap,cur,h3,by rw [hi g (by rw [h3]; simp [ob,Value.ownBlock]),h4],h5⟩
theorem oa.frame {n:Nat} {cells:List Value} (h:oa Φ e sz v n cells) (hf:FrH X Φ Φ') (hd:Dj (ob v) X):oa Φ' e sz v n cells:=by
  obtain ⟨h1,h2⟩:=h
  refine ⟨h1,h2.imp id ?_⟩
  rintro ⟨g,cap,cur,h3,h4,h5⟩
  exact ⟨g,cap,cur,h3,hf _ _ (hd g (by rw [h3]; simp [ob,Value.ownBlock])) h4,h5⟩
theorem oa.kn {n:Nat} {cells:List Value} (h:oa Φ e sz v n cells):Kw Φ (ob v):=by
  intro k hk
  rcases h.2 with ⟨h1,_⟩ | ⟨g,cap,cur,h3,h4,_⟩
  · subst h1; cases hk
  · rw [h3] at hk
    simp [ob,Value.ownBlock] at hk
    subst hk
    exact ⟨_,h4⟩
theorem oa.form {n:Nat} {cells:List Value} (h:oa Φ e sz v n cells):∃ a c,v = .slice a n c∧n≤c:=by
  rcases h.2 with ⟨h1,h2⟩ | ⟨g,cap,cur,h3,_,h4,_⟩
  · subst h1; subst h2; exact ⟨_,_,rfl,Nat.le_refl _⟩
  · exact ⟨_,_,h3,h4⟩
theorem oa.at_ {n:Nat} {cells:List Value} (h:oa Φ e sz v n cells) (hn:0 < n):∃ cap,v = .slice (some ⟨sb v,0,none⟩) n cap∧so v=0∧ob v=[sb v]∧rg Φ (sb v) 0 cells:=by
  rcases h.2 with ⟨_,h2⟩ | ⟨g,cap,cur,rfl,h4,h5,h6,h7,h8⟩
  · omega
  · refine ⟨cap,rfl,rfl,rfl,cur,e,(0,0),h4,fun j v hj=>?_⟩
    subst h8
    rw [List.getElem?_take] at hj
    split at hj
    · simpa using hj
    · cases hj

structure OSl (R:Hp→List Nat→List Value→α→Prop) (e sz:Nat) (Φ:Hp) (D:List Nat) (v:Value) (xs:List α):Prop where
  kn:Kw Φ D
  ex:∃ (cells:List Value) (Fs:List (List Nat)),oa Φ e sz v xs.length cells∧RC R sz Φ Fs cells xs∧D=Fs.flatten

theorem OSl.nil (R:Hp→List Nat→List Value→α→Prop) (e sz:Nat) (Φ:Hp):OSl R e sz Φ [] (.slice none 0 0) ([]:List α):=
  ⟨Kw.nil,[],[],⟨by simp,.inl ⟨rfl,rfl⟩⟩,RC.nil _ _ _,rfl⟩
theorem OSl.frame (hR:bQ R) (h:OSl R e sz Φ D v xs) (hf:FrH X Φ Φ') (ho:Dj (ob v) X) (hd:Dj D X):OSl R e sz Φ' D v xs:=by
  obtain ⟨cells,Fs,h1,h2,h3⟩:=h.ex
  exact ⟨hf.kw hd h.kn,cells,Fs,h1.frame hf ho,h2.frame hR hf (by rw [← h3]; exact hd),h3⟩
theorem OSl.gives (hR:dL R R') (h:OSl R e sz Φ D v xs):OSl R' e sz Φ D v xs:=by
  obtain ⟨cells,Fs,h1,h2,h3⟩:=h.ex
  exact ⟨h.kn,cells,Fs,h1,h2.gives hR,h3⟩
theorem OSl.one (h:OSl R e sz Φ D v xs):v.oneCell'=true:=by
  obtain ⟨cells,Fs,h1,_,_⟩:=h.ex
  obtain ⟨a,c,hv,_⟩:=h1.form
  rw [hv]; rfl
theorem OSl.form (h:OSl R e sz Φ D v xs):∃ a c,v = .slice a xs.length c∧xs.length≤c:=by
  obtain ⟨cells,Fs,h1,_,_⟩:=h.ex
  exact h1.form
theorem OSl.knO (h:OSl R e sz Φ D v xs):Kw Φ (ob v):=by
  obtain ⟨cells,Fs,h1,_,_⟩:=h.ex
  exact h1.kn

theorem OSl.rsl (h:OSl R e sz Φ D v xs):RSl R sz Φ (ob v++D) v xs:=by
  obtain ⟨cells,Fs,h1,h2,h3⟩:=h.ex
  refine ⟨h.form,fun hne=>?_,Kw.app h1.kn h.kn,ob v,Fs,.inl rfl,h2.flen,by rw [h3],fun i x hi=>?_⟩
  · obtain ⟨cap,hv,h0,_,_⟩:=h1.at_ (List.length_pos_iff.2 hne)
    exact ⟨cap,by rw [h0]; exact hv⟩
  · have hlt:=(List.getElem?_eq_some_iff.1 hi).1
    obtain ⟨cap,hv,h0,_,hr⟩:=h1.at_ (by omega)
    have hle:i*sz+sz≤cells.length:=by rw [h2.len,← Nat.succ_mul]; exact Nat.mul_le_mul_right sz hlt
    refine ⟨(cells.drop (i*sz)).take sz,by simp; omega,?_,h2.el i x hi⟩
    rw [h0]; simpa using hr.part (i*sz) sz
theorem OSl.rslG (hR:dL R R') (h:OSl R e sz Φ D v xs):RSl R' sz Φ (ob v++D) v xs:=(h.gives hR).rsl

theorem OSl.el (h:OSl R e sz Φ D v xs) {i:Nat} {x:α} (hi:xs[i]?=some x):∃ cs G,cs.length=sz∧rg Φ (sb v) (i*sz) cs∧sb v∈ob v∧(∀ k∈G,k∈D)∧R Φ G cs x:=by
  obtain ⟨cells,Fs,h1,h2,h3⟩:=h.ex
  have hlt:=(List.getElem?_eq_some_iff.1 hi).1
  obtain ⟨cap,hv,h0,hb,hr⟩:=h1.at_ (by omega)
  have hle:i*sz+sz≤cells.length:=by rw [h2.len,← Nat.succ_mul]; exact Nat.mul_le_mul_right sz hlt
  refine ⟨(cells.drop (i*sz)).take sz,_,by simp; omega,by simpa using hr.part (i*sz) sz,by rw [hb]; simp,fun k hk=>?_,h2.el i x hi⟩
  rw [h3]; exact kP hk
theorem OSl.elS (h:OSl R e sz Φ D v xs) {i:Nat} {x:α} (hi:xs[i]?=some x):∃ cs G,cs.length=sz∧rg Φ (sb v) (so v+i*sz) cs∧sb v∈ob v∧(∀ k∈G,k∈D)∧R Φ G cs x:=by
  obtain ⟨cs,G,h1,h2,h3,h4,h5⟩:=h.el hi
  obtain ⟨cells,Fs,g1,_,_⟩:=h.ex
  have hlt:=(List.getElem?_eq_some_iff.1 hi).1
  obtain ⟨cap,hv,h0,_,_⟩:=g1.at_ (by omega)
  exact ⟨cs,G,h1,by rw [h0]; simpa using h2,h3,h4,h5⟩
end Go.Proofs.YtedmfnmbjglmbaaGreat.Eng
