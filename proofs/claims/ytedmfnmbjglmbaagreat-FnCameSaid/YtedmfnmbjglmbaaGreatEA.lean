/-
  The engine, part A: memory. A heap of known blocks, the variables of a function, the blocks of the data that it owns; readings of data, shared and owned.
  Nothing here names a program.
-/
import Derived.Test.YtedmfnmbjglmbaaGreatEng1
import Derived.KernelRfl
import Derived.Laws.OwnMore
import Derived.Laws.Tables
namespace Go.Proofs.YtedmfnmbjglmbaaGreat.Eng
open Go.RowKit (Below wrap64)
set_option linter.unusedVariables false
set_option linter.unusedSimpArgs false

abbrev Hp:=Nat→Option Obj
def In (Φ:Hp) (w:World):Prop:=∀ k o,Φ k=some o→w.heap[k]?=some o
def FrH (X:List Nat) (Φ Φ':Hp):Prop:=∀ k o,k ∉ X→Φ k=some o→Φ' k=some o
def Dj (F X:List Nat):Prop:=∀ k∈F,k ∉ X
def Kw (Φ:Hp) (F:List Nat):Prop:=∀ k∈F,∃ o,Φ k=some o

theorem In.lt {Φ:Hp} {w:World} (h:In Φ w) {k:Nat} {o:Obj} (hk:Φ k=some o):k < w.heap.size:=(Array.getElem?_eq_some_iff.1 (h k o hk)).1
theorem Kw.lt {Φ:Hp} {w:World} {F:List Nat} (h:Kw Φ F) (a:In Φ w):∀ k∈F,k < w.heap.size:=fun k hk=>by obtain⟨o,b⟩:=h k hk;exact a.lt b
theorem Kw.nil {Φ:Hp}:Kw Φ []:=fun k hk=>by cases hk
theorem Kw.app {Φ:Hp} {F G:List Nat} (h:Kw Φ F) (a:Kw Φ G):Kw Φ (F++G):=fun k hk=>(gb.1 hk).elim (h k) (a k)
theorem Kw.sub {Φ:Hp} {F G:List Nat} (h:Kw Φ G) (a:∀ k∈F,k∈G):Kw Φ F:=fun k hk=>h k (a k hk)
theorem FrH.refl (X:List Nat) (Φ:Hp):FrH X Φ Φ:=fun _ _ _ h=>h
theorem FrH.trans {X:List Nat} {Φ Φ' a:Hp} (h:FrH X Φ Φ') (c:FrH X Φ' a):FrH X Φ a:=fun k o b hk=>c k o b (h k o b hk)
theorem FrH.mono {X Y:List Nat} {Φ Φ':Hp} (h:FrH X Φ Φ') (a:∀ k∈X,k∈Y):FrH Y Φ Φ':=fun k o b hk=>h k o (fun hm=>b (a k hm)) hk
theorem FrH.kw {X F:List Nat} {Φ Φ':Hp} (h:FrH X Φ Φ') (a:Dj F X) (hk:Kw Φ F):Kw Φ' F:=fun k hm=>by obtain⟨o,b⟩:=hk k hm;exact⟨o,h k o (a k hm) b⟩
theorem Dj.nil (X:List Nat):Dj [] X:=fun k hk=>by cases hk
theorem Dj.app {F G X:List Nat} (h:Dj F X) (a:Dj G X):Dj (F++G) X:=fun k hk=>(gb.1 hk).elim (h k) (a k)
theorem Dj.sub {F G X:List Nat} (h:Dj G X) (a:∀ k∈F,k∈G):Dj F X:=fun k hk=>h k (a k hk)
theorem Dj.empty (F:List Nat):Dj F []:=fun k _ a=>by cases a
theorem Dj.l {F G X:List Nat} (h:Dj (F++G) X):Dj F X:=fun k hk=>h k (gb.2 (.inl hk))
theorem Dj.r {F G X:List Nat} (h:Dj (F++G) X):Dj G X:=fun k hk=>h k (gb.2 (.inr hk))

def rg (Φ:Hp) (b o:Nat) (cs:List Value):Prop:=
  ∃ C T a,Φ b=some (.cells C T a)∧∀ j v,cs[j]?=some v→C[o+j]?=some v

theorem rg.frame {X:List Nat} {Φ Φ':Hp} {b o:Nat} {cs:List Value} (a:FrH X Φ Φ') (c:b ∉ X) (h:rg Φ b o cs):rg Φ' b o cs:=by
  obtain⟨C,T,d,h1,e⟩:=h
  exact⟨C,T,d,a _ _ c h1,e⟩
theorem rg.part {Φ:Hp} {b o:Nat} {cs:List Value} (h:rg Φ b o cs) (i n:Nat):rg Φ b (o+i) ((cs.drop i).take n):=by
  obtain⟨C,T,c,h1,d⟩:=h
  refine⟨C,T,c,h1,fun j v a=>?_⟩
  have:=d (i+j) v (by
    rw[hQ] at a
    split at a
    · rw[j8] at a;exact a
    · cases a)
  rw[← this];congr 1;omega

theorem rg.of_eq {Φ:Hp} {b o o':Nat} {cs cs':List Value} (h:rg Φ b o cs) (i n:Nat) (a:o'=o+i) (c:(cs.drop i).take n=cs'):rg Φ b o' cs':=by
  subst a;subst c;exact h.part i n

theorem rg.rangeAt {Φ:Hp} {w:World} {b o:Nat} {cs:List Value} (a:In Φ w) (h:rg Φ b o cs):w.rangeAt b o cs:=by
  obtain⟨C,T,e,h1,c⟩:=h
  intro j v d
  simp only[World.cell?,a _ _ h1]
  simpa using c j v d

def sb:Value→Nat
  | .slice (some a) _ _=>a.block
  | _=>0
def so:Value→Nat
  | .slice (some a) _ _=>a.off
  | _=>0
def ob (v:Value):List Nat:=v.ownBlock.toList

def cB {α:Type} (R:Hp→List Nat→List Value→α→Prop):Prop:=∀ X Φ Φ' F cs x,FrH X Φ Φ'→Dj F X→R Φ F cs x→R Φ' F cs x
def dv {α:Type} (R:Hp→List Nat→List Value→α→Prop):Prop:=∀ Φ F cs x,R Φ F cs x→Kw Φ F
def gt {α:Type} (R:Hp→List Nat→List Value→α→Prop):Prop:=∀ Φ F cs x,R Φ F cs x→∀ v∈cs,v.oneCell'=true
def eu {α:Type} (R R':Hp→List Nat→List Value→α→Prop):Prop:=∀ Φ F cs x,R Φ F cs x→R' Φ F cs x
theorem eu.refl {α:Type} (R:Hp→List Nat→List Value→α→Prop):eu R R:=fun _ _ _ _ h=>h

structure RSl {α:Type} (R:Hp→List Nat→List Value→α→Prop) (sz:Nat) (Φ:Hp) (F:List Nat) (v:Value) (xs:List α):Prop where
  form:∃ a cap,v = .slice a xs.length cap∧xs.length≤cap
  addr:xs≠[]→∃ cap,v = .slice (some ⟨sb v,so v,none⟩) xs.length cap
  kn:Kw Φ F
  elems:∃ (Fb:List Nat) (Fs:List (List Nat)),(Fb=ob v∨(xs=[]∧Fb=[]))∧Fs.length=xs.length∧F=Fb++Fs.flatten ∧
    ∀ i x,xs[i]?=some x→∃ cs,cs.length=sz∧rg Φ (sb v) (so v+i*sz) cs∧R Φ (Fs.getD i []) cs x

theorem mJ {Fs:List (List Nat)} {i k:Nat} (h:k∈Fs.getD i []):k∈Fs.flatten:=by
  rw[hS] at h
  cases a:Fs[i]? with
  | none=>simp[a] at h
  | some F=>simp only[a,Option.getD_some] at h;exact List.mem_flatten.2 ⟨F,jf a,h⟩

theorem RSl.el {α:Type} {R:Hp→List Nat→List Value→α→Prop} {sz:Nat} {Φ:Hp} {F:List Nat} {v:Value} {xs:List α} (h:RSl R sz Φ F v xs) {i:Nat} {x:α} (a:xs[i]?=some x) :
    ∃ cs G,cs.length=sz∧rg Φ (sb v) (so v+i*sz) cs∧sb v∈F∧(∀ k∈G,k∈F)∧R Φ G cs x:=by
  obtain⟨Fb,Fs,d,h1,b,f⟩:=h.elems
  obtain⟨cs,g,j,l⟩:=f i x a
  have c:xs≠[]:=by rintro rfl;simp at a
  refine⟨cs,_,g,j,?_,fun k hk=>?_,l⟩
  · obtain⟨cap,m⟩:=h.addr c
    have n:Fb=ob v:=d.resolve_right fun e=>c e.1
    rw[b,n]
    refine gb.2 (.inl ?_)
    have:ob v=[sb v]:=by
      have o:∀ u:Value,u = .slice (some ⟨sb v,so v,none⟩) xs.length cap→ob u=[sb v]:=fun u hu=>by subst hu;rfl
      exact o v m
    rw[this];simp
  · rw[b];exact gb.2 (.inr (mJ hk))

theorem RSl.frame {α:Type} {R:Hp→List Nat→List Value→α→Prop} (e:cB R) {sz:Nat} {Φ Φ':Hp} {X F:List Nat} {v:Value} {xs:List α} (h:RSl R sz Φ F v xs) (a:FrH X Φ Φ') (b:Dj F X):RSl R sz Φ' F v xs:=by
  obtain⟨Fb,Fs,f,h1,c,g⟩:=h.elems
  refine⟨h.form,h.addr,a.kw b h.kn,Fb,Fs,f,h1,c,fun i x d=>?_⟩
  obtain⟨cs,j,l,m⟩:=g i x d
  obtain⟨cs',G,_,_,n,_,_⟩:=h.el d
  exact⟨cs,j,l.frame a (b _ n),e X _ _ _ _ _ a (fun k hk=>b k (by rw[c];exact gb.2 (.inr (mJ hk)))) m⟩

theorem RSl.gives {α:Type} {R R':Hp→List Nat→List Value→α→Prop} (a:eu R R') {sz:Nat} {Φ:Hp} {F:List Nat} {v:Value} {xs:List α} (h:RSl R sz Φ F v xs):RSl R' sz Φ F v xs:=by
  obtain⟨Fb,Fs,b,h1,c,d⟩:=h.elems
  refine⟨h.form,h.addr,h.kn,Fb,Fs,b,h1,c,fun i x e=>?_⟩
  obtain⟨cs,f,g,j⟩:=d i x e
  exact⟨cs,f,g,a _ _ _ _ j⟩

theorem RSl.nil {α:Type} (R:Hp→List Nat→List Value→α→Prop) (sz:Nat) (Φ:Hp):RSl R sz Φ [] (.slice none 0 0) ([]:List α):=
  ⟨⟨none,0,rfl,Nat.le_refl _⟩,fun h=>absurd rfl h,Kw.nil,[],[],.inr ⟨rfl,rfl⟩,rfl,rfl,fun i x a=>by simp at a⟩
theorem RSl.one {α:Type} {R:Hp→List Nat→List Value→α→Prop} {sz:Nat} {Φ:Hp} {F:List Nat} {v:Value} {xs:List α} (h:RSl R sz Φ F v xs):v.oneCell'=true:=by
  obtain⟨p,c,hp,_⟩:=h.form
  rw[hp];rfl
theorem RSl.len {α:Type} {R:Hp→List Nat→List Value→α→Prop} {sz:Nat} {Φ:Hp} {F:List Nat} {v:Value} {xs:List α} (h:RSl R sz Φ F v xs):∃ a c,v = .slice a xs.length c:=by
  obtain⟨p,c,hp,_⟩:=h.form
  exact⟨p,c,hp⟩

def idx {α:Type} (xs:List α) (i:Int):Option α:=if 0≤i then xs[i.toNat]? else none
theorem a8 {α:Type} {xs:List α} {i:Int} {x:α} (h:idx xs i=some x):0≤i∧i < xs.length∧xs[i.toNat]?=some x:=by
  unfold idx at h
  split at h
  · rename_i a
    have:=(gx.1 h).1
    exact⟨a,NR,h⟩
  · cases h
theorem ux {α:Type} {xs:List α} {i:Int} {x:α} (h:idx xs i=some x):i.toNat < xs.length:=by
  obtain⟨a,h1,_⟩:=a8 h
  omega

structure RC {α:Type} (R:Hp→List Nat→List Value→α→Prop) (sz:Nat) (Φ:Hp) (Fs:List (List Nat)) (cells:List Value) (xs:List α):Prop where
  len:cells.length=xs.length*sz
  flen:Fs.length=xs.length
  el:∀ i x,xs[i]?=some x→R Φ (Fs.getD i []) ((cells.drop (i*sz)).take sz) x

variable {α:Type} {R R':Hp→List Nat→List Value→α→Prop} {e sz:Nat} {Φ Φ':Hp} {D F X:List Nat} {v:Value} {xs:List α} {w w':World}

theorem RC.nil (R:Hp→List Nat→List Value→α→Prop) (sz:Nat) (Φ:Hp):RC R sz Φ [] [] ([]:List α):=⟨NS,rfl,fun i x h=>by simp at h⟩
theorem RC.frame {Fs:List (List Nat)} {cells:List Value} (a:cB R) (h:RC R sz Φ Fs cells xs) (b:FrH X Φ Φ') (c:Dj Fs.flatten X):RC R sz Φ' Fs cells xs:=
  ⟨h.len,h.flen,fun i x d=>a X _ _ _ _ _ b (fun k hk=>c k (mJ hk)) (h.el i x d)⟩
theorem RC.gives {Fs:List (List Nat)} {cells:List Value} (a:eu R R') (h:RC R sz Φ Fs cells xs):RC R' sz Φ Fs cells xs:=⟨h.len,h.flen,fun i x b=>a _ _ _ _ (h.el i x b)⟩

theorem RC.append {Fs a:List (List Nat)} {cells news:List Value} {e:List α} (h:RC R sz Φ Fs cells xs) (c:RC R sz Φ a news e):RC R sz Φ (Fs++a) (cells++news) (xs++e):=by
  refine⟨by simp[h.len,c.len,Nat.add_mul],by simp[h.flen,c.flen],fun i x b=>?_⟩
  rcases Nat.lt_or_ge i xs.length with hlt | hge
  · rw[oj hlt] at b
    have hle:i*sz+sz≤cells.length:=by rw[h.len,← hB];exact hL sz hlt
    rw[List.drop_append_of_le_length NR,List.take_append_of_le_length (by simp;omega)]
    have d:(Fs++a).getD i []=Fs.getD i []:=by
      simp only[hS]
      rw[oj (by rw[h.flen];exact hlt)]
    rw[d];exact h.el i x b
  · rw[mx hge] at b
    have d:(Fs++a).getD i []=a.getD (i - xs.length) []:=by
      simp only[hS]
      rw[mx (by rw[h.flen];exact hge),h.flen]
    have hm:i*sz - cells.length=(i - xs.length)*sz:=by rw[h.len,Nat.sub_mul]
    rw[d,List.drop_append,List.drop_eq_nil_of_le (by rw[h.len];exact hL sz hge),List.nil_append,hm]
    exact c.el _ x b

theorem RC.cons {F:List Nat} {Fs:List (List Nat)} {c cells:List Value} {x:α} (d:R Φ F c x) (b:c.length=sz) (h:RC R sz Φ Fs cells xs):RC R sz Φ (F :: Fs) (c++cells) (x :: xs):=by
  refine⟨by simp[b,h.len,hB,Nat.add_comm],by simp[h.flen],fun i y a=>?_⟩
  cases i with
  | zero=>
    simp only[List.getElem?_cons_zero,Option.some.injEq] at a
    subst a
    have:((c++cells).drop (0*sz)).take sz=c:=by rw[Nat.zero_mul,List.drop_zero,← b,List.take_left'];rfl
    rw[this];exact d
  | succ i=>
    simp only[List.getElem?_cons_succ] at a
    have:=h.el i y a
    have e:(c++cells).drop ((i+1)*sz)=cells.drop (i*sz):=by
      rw[hB,Nat.add_comm,← List.drop_drop,← b,List.drop_left'];rfl
    rw[e];exact this

theorem RC.one (h1:gt R) (a:0 < sz) {Fs:List (List Nat)} {cells:List Value} (h:RC R sz Φ Fs cells xs):∀ v∈cells,v.oneCell'=true:=by
  intro v b
  obtain⟨p,hp,rfl⟩:=List.getElem_of_mem b
  have c:p / sz < xs.length:=by rw[Nat.div_lt_iff_lt_mul a,← h.len];exact hp
  have:=h.el (p / sz) xs[p / sz] (gj c)
  refine h1 _ _ _ _ this _ (jf (i:=p % sz) ?_)
  rw[hQ,if_pos (Nat.mod_lt _ a),j8,Nat.mul_comm,Nat.div_add_mod,gj hp]

def o5 (cs:List Value) (o:Nat) (vs:List Value):List Value:=cs.take o++vs++cs.drop (o+vs.length)
theorem qg {cs vs:List Value} {o:Nat} (h:o+vs.length≤cs.length):(o5 cs o vs).length=cs.length:=by
  simp[o5];omega

theorem mw {cs vs:List Value} {o j:Nat} (h:o+vs.length≤cs.length):(o5 cs o vs)[j]?=if o≤j∧j < o+vs.length then vs[j - o]? else cs[j]?:=by
  have a:(cs.take o).length=o:=by rw[List.length_take];omega
  simp only[o5,List.append_assoc]
  by_cases h1:j < o
  · rw[oj NR,hQ,if_pos h1,if_neg NR]
  · rw[mx NR,a]
    by_cases b:j < o+vs.length
    · rw[oj NR,if_pos ⟨NR,b⟩]
    · rw[mx NR,j8,if_neg NR]
      congr 1;omega

theorem Iu {cs vs:List Value} {o:Nat} (h:o+vs.length≤cs.length):((o5 cs o vs).drop o).take vs.length=vs:=by
  apply List.ext_getElem?
  intro j
  rw[hQ]
  split
  · rename_i a
    rw[j8,mw h,if_pos NR];congr 1;omega
  · rename_i a;rw[List.getElem?_eq_none NR]

theorem RC.set {Fs:List (List Nat)} {cells:List Value} (h:RC R sz Φ Fs cells xs) {i:Nat} (b:i < xs.length) {F:List Nat} {cs:List Value} {x:α} (e:cs.length=sz) (f:R Φ F cs x) :
    RC R sz Φ (Fs.set i F) (o5 cells (i*sz) cs) (xs.set i x):=by
  have hle:i*sz+sz≤cells.length:=by rw[h.len,← hB];exact hL sz b
  refine⟨by rw[qg NR,h.len,List.length_set],by simp[h.flen],fun j y a=>?_⟩
  by_cases c:i=j
  · subst c
    rw[j3 b] at a
    simp only[Option.some.injEq] at a
    subst a
    have d:(Fs.set i F).getD i []=F:=by
      simp only[hS]
      rw[j3 (by rw[h.flen];exact b)];rfl
    have:=Iu (cs:=cells) (vs:=cs) (o:=i*sz) NR
    rw[e] at this
    rw[d,this]
    exact f
  · rw[hZ c] at a
    have d:(Fs.set i F).getD j []=Fs.getD j []:=by
      simp only[hS]
      rw[hZ c]
    rw[d]
    have:((o5 cells (i*sz) cs).drop (j*sz)).take sz=(cells.drop (j*sz)).take sz:=by
      apply List.ext_getElem?
      intro m
      rw[hQ,hQ]
      split
      · rename_i hm
        rw[j8,j8,mw NR,if_neg ?_]
        rcases Nat.lt_or_ge j i with hlt | hge
        · have g:j*sz+sz≤i*sz:=by rw[← hB];exact hL sz hlt
          omega
        · have g:i*sz+sz≤j*sz:=by rw[← hB];exact hL sz NR
          omega
      · rfl
    rw[this];exact h.el j y a

def oZ (Φ:Hp) (e sz:Nat) (v:Value) (n:Nat) (cells:List Value):Prop:=
  cells.length=n*sz ∧
  ((v = .slice none 0 0∧n=0) ∨
   ∃ g cap cur,v = .slice (some ⟨g,0,none⟩) n cap∧Φ g=some (.cells cur e (0,0))∧n≤cap∧cap≤maxLen∧cur.size=cap*sz∧cur.toList.take (n*sz)=cells)

theorem oZ.owns {n:Nat} {cells:List Value} (h:oZ Φ e sz v n cells) (a:In Φ w):w.ownsRow 0 e sz v n cells:=by
  obtain⟨h1,b⟩:=h
  refine⟨h1,b.imp id ?_⟩
  rintro⟨g,cap,cur,c,d,f⟩
  exact⟨g,cap,cur,c,Nat.zero_le _,a _ _ d,f⟩
theorem oZ.of_owns {n:Nat} {cells:List Value} (h:w.ownsRow 0 e sz v n cells) (b:∀ k∈ob v,Φ k=w.heap[k]?):oZ Φ e sz v n cells:=by
  obtain⟨h1,c⟩:=h
  refine⟨h1,c.imp id ?_⟩
  rintro⟨g,cap,cur,a,_,d,f⟩
  exact⟨g,cap,cur,a,by rw[b g (by rw[a];simp[ob,Value.ownBlock]),d],f⟩
theorem oZ.frame {n:Nat} {cells:List Value} (h:oZ Φ e sz v n cells) (b:FrH X Φ Φ') (c:Dj (ob v) X):oZ Φ' e sz v n cells:=by
  obtain⟨h1,d⟩:=h
  refine⟨h1,d.imp id ?_⟩
  rintro⟨g,cap,cur,a,f,i⟩
  exact⟨g,cap,cur,a,b _ _ (c g (by rw[a];simp[ob,Value.ownBlock])) f,i⟩
theorem oZ.kn {n:Nat} {cells:List Value} (h:oZ Φ e sz v n cells):Kw Φ (ob v):=by
  intro k hk
  rcases h.2 with ⟨h1,_⟩ | ⟨g,cap,cur,a,b,_⟩
  · subst h1;cases hk
  · rw[a] at hk
    simp[ob,Value.ownBlock] at hk
    subst hk
    exact⟨_,b⟩
theorem oZ.form {n:Nat} {cells:List Value} (h:oZ Φ e sz v n cells):∃ a c,v = .slice a n c∧n≤c:=by
  rcases h.2 with ⟨h1,b⟩ | ⟨g,cap,cur,d,_,f,_⟩
  · subst h1;subst b;exact⟨_,_,rfl,Nat.le_refl _⟩
  · exact⟨_,_,d,f⟩
theorem oZ.at_ {n:Nat} {cells:List Value} (h:oZ Φ e sz v n cells) (d:0 < n):∃ cap,v = .slice (some ⟨sb v,0,none⟩) n cap∧so v=0∧ob v=[sb v]∧rg Φ (sb v) 0 cells:=by
  rcases h.2 with ⟨_,f⟩ | ⟨g,cap,cur,rfl,b,i,k,l,c⟩
  · omega
  · refine⟨cap,rfl,rfl,rfl,cur,e,(0,0),b,fun j v a=>?_⟩
    subst c
    rw[hQ] at a
    split at a
    · simpa using a
    · cases a

structure OSl (R:Hp→List Nat→List Value→α→Prop) (e sz:Nat) (Φ:Hp) (D:List Nat) (v:Value) (xs:List α):Prop where
  kn:Kw Φ D
  ex:∃ (cells:List Value) (Fs:List (List Nat)),oZ Φ e sz v xs.length cells∧RC R sz Φ Fs cells xs∧D=Fs.flatten

theorem OSl.nil (R:Hp→List Nat→List Value→α→Prop) (e sz:Nat) (Φ:Hp):OSl R e sz Φ [] (.slice none 0 0) ([]:List α):=
  ⟨Kw.nil,[],[],⟨NS,.inl ⟨rfl,rfl⟩⟩,RC.nil _ _ _,rfl⟩
theorem OSl.frame (d:cB R) (h:OSl R e sz Φ D v xs) (a:FrH X Φ Φ') (f:Dj (ob v) X) (b:Dj D X):OSl R e sz Φ' D v xs:=by
  obtain⟨cells,Fs,h1,g,c⟩:=h.ex
  exact⟨a.kw b h.kn,cells,Fs,h1.frame a f,g.frame d a (by rw[← c];exact b),c⟩
theorem OSl.gives (a:eu R R') (h:OSl R e sz Φ D v xs):OSl R' e sz Φ D v xs:=by
  obtain⟨cells,Fs,h1,b,c⟩:=h.ex
  exact⟨h.kn,cells,Fs,h1,b.gives a,c⟩
theorem OSl.one (h:OSl R e sz Φ D v xs):v.oneCell'=true:=by
  obtain⟨cells,Fs,h1,_,_⟩:=h.ex
  obtain⟨a,c,b,_⟩:=h1.form
  rw[b];rfl
theorem OSl.form (h:OSl R e sz Φ D v xs):∃ a c,v = .slice a xs.length c∧xs.length≤c:=by
  obtain⟨cells,Fs,h1,_,_⟩:=h.ex
  exact h1.form
theorem OSl.knO (h:OSl R e sz Φ D v xs):Kw Φ (ob v):=by
  obtain⟨cells,Fs,h1,_,_⟩:=h.ex
  exact h1.kn

theorem OSl.rsl (h:OSl R e sz Φ D v xs):RSl R sz Φ (ob v++D) v xs:=by
  obtain⟨cells,Fs,h1,a,f⟩:=h.ex
  refine⟨h.form,fun g=>?_,Kw.app h1.kn h.kn,ob v,Fs,.inl rfl,a.flen,by rw[f],fun i x c=>?_⟩
  · obtain⟨cap,d,b,_,_⟩:=h1.at_ (List.length_pos_iff.2 g)
    exact⟨cap,by rw[b];exact d⟩
  · have j:=(gx.1 c).1
    obtain⟨cap,d,b,_,k⟩:=h1.at_ NR
    have hle:i*sz+sz≤cells.length:=by rw[a.len,← hB];exact hL sz j
    refine⟨(cells.drop (i*sz)).take sz,by simp;omega,?_,a.el i x c⟩
    rw[b];simpa using k.part (i*sz) sz
theorem OSl.rslG (a:eu R R') (h:OSl R e sz Φ D v xs):RSl R' sz Φ (ob v++D) v xs:=(h.gives a).rsl

theorem OSl.el (h:OSl R e sz Φ D v xs) {i:Nat} {x:α} (a:xs[i]?=some x):∃ cs G,cs.length=sz∧rg Φ (sb v) (i*sz) cs∧sb v∈ob v∧(∀ k∈G,k∈D)∧R Φ G cs x:=by
  obtain⟨cells,Fs,h1,b,c⟩:=h.ex
  have d:=(gx.1 a).1
  obtain⟨cap,j,l,f,g⟩:=h1.at_ NR
  have hle:i*sz+sz≤cells.length:=by rw[b.len,← hB];exact hL sz d
  refine⟨(cells.drop (i*sz)).take sz,_,by simp;omega,by simpa using g.part (i*sz) sz,by rw[f];simp,fun k hk=>?_,b.el i x a⟩
  rw[c];exact mJ hk
theorem OSl.elS (h:OSl R e sz Φ D v xs) {i:Nat} {x:α} (a:xs[i]?=some x):∃ cs G,cs.length=sz∧rg Φ (sb v) (so v+i*sz) cs∧sb v∈ob v∧(∀ k∈G,k∈D)∧R Φ G cs x:=by
  obtain⟨cs,G,h1,b,c,d,f⟩:=h.el a
  obtain⟨cells,Fs,g1,_,_⟩:=h.ex
  have j:=(gx.1 a).1
  obtain⟨cap,l,g,_,_⟩:=g1.at_ NR
  exact⟨cs,G,h1,by rw[g];simpa using b,c,d,f⟩
end Go.Proofs.YtedmfnmbjglmbaaGreat.Eng
