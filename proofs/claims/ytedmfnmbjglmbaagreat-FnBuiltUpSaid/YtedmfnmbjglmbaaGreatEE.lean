/-
  The engine, part E: literals, stores into rows, elements that are taken out of a row and put back, variables that become data, parts of slices.
  Nothing here names a program.
-/
import Derived.Test.YtedmfnmbjglmbaaGreatED
namespace Go.Proofs.YtedmfnmbjglmbaaGreat.Eng
open Go.RowKit (Below wrap64)
set_option linter.unusedVariables false
set_option linter.unusedSimpArgs false

variable {g:G} {k:List Item} {ops:Array Oper} {rest:List Oper} {l:Env} {Ψ0 H0:Hp} {B0:List Nat} {w0:av Ψ0 H0 B0} {Φ Φ':Hp} {O:fT} {L:List (List Nat)} {w w':World} {S:World→Prop} {P:Program}

theorem sI (off:Nat):∀ (c:List Value) (j:Nat) (A:Array Value),(c.zipIdx j).foldl (fun cs (p:Value × Nat)=>cs.setIfInBounds (off+p.2) p.1) A=jY A (off+j) c
  | [],j,A=>rfl
  | v :: c,j,A=>by
    rw [List.zipIdx_cons,List.foldl_cons,sI off c (j+1),jY,Nat.add_assoc]

theorem a8 {place:Nat→Option (Nat × Nat)} {cells c C':List Value} {i off size:Nat} {v:Value} {rest:List (Nat × Value)} {C:Array Value} (hp:place i=some (off,size)) (hc:v.cells.toList=c) (hl:c.length=size) (hb:Nat.ble (off+size) cells.length=true)
    (hput:put cells off c=C') (h:Instr.fill place C'.toArray rest=some C):Instr.fill place cells.toArray ((i,v) :: rest)=some C:=by
  subst hput hc
  unfold Instr.fill
  simp only [hp]
  have hs:v.cells.size=size:=by rw [← hl]; simp
  rw [if_neg (by simp only [hs,List.size_toArray]; have:=Nat.le_of_ble_eq_true hb; simp; omega)]
  have e:v.cells.zipIdx.foldl (fun cs (p:Value × Nat)=>cs.setIfInBounds (off+p.2) p.1) cells.toArray=(put cells off v.cells.toList).toArray:=by
    rw [← Array.foldl_toList,Array.toList_zipIdx,sI off _ 0,rC,Nat.add_zero]
  rw [← h]
  congr 1
theorem ac {place:Nat→Option (Nat × Nat)} {cells:Array Value}:Instr.fill place cells []=some cells:=rfl
theorem ag {place:Nat→Option (Nat × Nat)} {z M:Array Value} {n:Nat} {vs:List (Nat × Value)} {C:Array Value} (hM:madeCells z n=M) (h:Instr.fill place M vs=some C):Instr.fill place (madeCells z n) vs=some C:=by rw [hM]; exact h

theorem ru (z:Array Value):madeCells z 0 = #[]:=Array.eq_empty_of_size_eq_zero (by rw [size_madeCells])
theorem wE (f:Nat→Value) {m:Nat} (h:m=0):Array.map f (Array.range m) = #[]:=Array.eq_empty_of_size_eq_zero (by simp [h])


theorem aV {α:Type} {R:Hp→List Nat→List Value→α→Prop} (hR:bQ R) {t e sz n:Nat} {parts:Array (Nat × Operand)} {z:Value} {vs:List (Nat × Value)} {C:Array Value} {xs:List α} {Fs:List (List Nat)} {cells:List Value}
    (ht:Sl P t e sz=true) (hz:Zr P e z) (hzs:z.cells.size=sz) (hsm:Nat.ble (n*sz) 4096=true) (hs0:Nat.blt 0 sz=true)
    (hv:parts.toList.map (fun p=>(p.1,opv l p.2))=vs.map (fun p=>(p.1,some p.2))) (hC:Instr.fill (fun i=>some (i*sz,sz)) (madeCells z.cells (n*sz)) vs=some C) (hCc:C.toList=cells) (hrc:RC R sz Φ Fs cells xs) (hxn:xs.length=n) (hkn:Kw Φ Fs.flatten) :
    OpE P (.buildSlice t n parts) l (St w0 Φ O L) (fun v Φ' D=>FrH [] Φ Φ'∧OSl R e sz Φ' Fs.flatten v xs) (fun v Φ' D=>St w0 Φ' O (ob v :: L)):=fun nn a w o ho hf hw=>by
  have hCs:C.size=n*sz:=by rw [← Array.length_toList,hCc,hrc.len,hxn]
  have hsm':n*sz≤4096:=by simpa using hsm
  have hs0':0 < sz:=by simpa using hs0
  have hnle:n≤n*sz:=Nat.le_mul_of_pos_right n hs0'
  have hrow:(w.alloc (.cells C e)).ownsRow 0 e sz (.slice (some ⟨w.heap.size,0,none⟩) n n) xs.length cells:=by
    have:=World.ownsRow_lit (base:=0) (e:=e) (size:=sz) w C n (Nat.zero_le _) (by unfold maxLen; omega) hCs
    rw [hxn,← hCc]
    exact this
  have hch:Chg [] w (w.alloc (.cells C e)):=Chg.of_none (l5 _ _) (Nat.le_refl _) _
  have hob:∀ k∈ob (.slice (some ⟨w.heap.size,0,none⟩) n n),w.heap.size≤k:=fun k hk=>by simp [ob,Value.ownBlock] at hk; omega
  have hnew:=hw.rowN hch hob (pY hrow)
  obtain ⟨g1,g2⟩:=wQ (v:=.slice none 0 0) hR hw.fro hch (fun k hk=>.inr (hob k hk)) hrow hrc hkn (Dj.empty _)
  refine ⟨_,_,[],_,?_,⟨g1,g2⟩,hnew⟩
  have hu:=ui ht
  have hsz:(P.info? e).map (·.size)=some sz:=by
    unfold Sl at ht
    rw [hu] at ht
    simpa using ht
  cases hti:P.info? e with
  | none=>simp [hti] at hsz
  | some ti=>
    have h2:ti.size=sz:=by simpa [hti] using hsz
    have h3:ti.zero=some z:=by unfold Zr at hz; simpa [hti] using hz
    have hparts:(parts.map fun (i,x)=>(i,a.eval x)).toList=vs:=by
      simp only [Array.toList_map]
      have key:∀ (qs:List (Nat × Operand)) (us:List (Nat × Value)),qs.map (fun p=>(p.1,opv l p.2))=us.map (fun p=>(p.1,some p.2))→qs.map (fun p=>(p.1,a.eval p.2))=us:=by
        intro qs
        induction qs with
        | nil=>intro us h; cases us with
          | nil=>rfl
          | cons u us=>cases h
        | cons q qs ih=>intro us h; cases us with
          | nil=>cases h
          | cons u us=>
            simp only [List.map_cons,List.cons.injEq,Prod.mk.injEq] at h
            obtain ⟨⟨h1,h2⟩,h3⟩:=h
            simp only [List.map_cons,ih us h3,hf.eval h2,h1]
      exact key _ _ hv
    have hb:(Instr.buildSlice t n (parts.map fun (i,x)=>(i,a.eval x))).run P w = .ok (.slice (some ⟨w.heap.size,0,none⟩) n n) (w.alloc (.cells C e)):=by
      unfold Instr.buildSlice
      simp only [Sem.run_bind,run_underlying hu,Result.andThen_ok,sizeOf,typeInfo,run_program,hti,Sem.run_pure,h2]
      rw [if_neg (by simp; omega)]
      by_cases h0:n*sz=0
      · have hC':Instr.fill (fun i=>some (i*sz,sz)) #[] vs=some C:=by rw [← hC,h0,ru]
        rw [if_pos h0]
        simp only [Sem.run_pure,Result.andThen_ok,wE _ h0,hparts,hC']
        simp [newRow]
      · simp [h0,Sem.run_bind,zeroValue,typeInfo,hti,h3,hparts,newRow]
        have:Array.map (fun x=>z.cells[x % z.cells.size]!) (Array.range (n*sz))=madeCells z.cells (n*sz):=rfl
        have hparts2:List.map (fun x=>(x.fst,a.eval x.snd)) parts.toList=vs:=by simpa using hparts
        rw [this,hparts2,hC]
        simp
    unfold execOp
    simp only [ho]
    simp only [Sem.run_bind,hb]; rfl

theorem ro:∀ (vs:List Value) (C:Array Value) (o:Nat),o+vs.length≤C.size→(jY C o vs).toList=mF C.toList o vs
  | [],C,o,h=>by simp [jY,mF]
  | v :: vs,C,o,h=>by
    rw [jY,ro vs _ (o+1) (by simp at h ⊢; omega)]
    apply List.ext_getElem?
    intro j
    simp only [List.length_cons] at h
    rw [kZ (by simp; omega),kZ (by simp; omega)]
    simp only [Array.toList_setIfInBounds,List.length_cons]
    by_cases h1:o+1≤j∧j < o+1+vs.length
    · rw [if_pos h1,if_pos (by omega)]
      have:j - o=(j - (o+1))+1:=by omega
      rw [this,List.getElem?_cons_succ]
    · rw [if_neg h1]
      by_cases h2:j=o
      · subst h2; rw [if_pos (by omega),List.getElem?_set_self (by simp; omega)]; simp
      · rw [List.getElem?_set_ne (Ne.symm h2),if_neg (by omega)]
theorem DM {cs vs:List Value} {o N:Nat} (h:o+vs.length≤N) (hN:N≤cs.length):(mF cs o vs).take N=mF (cs.take N) o vs:=by
  apply List.ext_getElem?
  intro j
  rw [List.getElem?_take,kZ (by omega),kZ (by simp; omega)]
  by_cases hj:j < N
  · rw [if_pos hj,List.getElem?_take,if_pos hj]
  · rw [if_neg hj,if_neg (by omega),List.getElem?_take,if_neg hj]

theorem yZ {t n e sz m o:Nat} {x y:Operand} {v u:Value} {vs cells:List Value} {js:List Nat} {Rr:List (List Nat)} (hz:Sz P t n=true)
    (hx:opv l x=some (.pointer (some ⟨sb v,so v+o,none⟩))) (hy:opv l y=some u) (hvs:u.cells.toList=vs) (hlen:vs.length=n) (h1:One vs) (hp:Eng.pick js L=some ([ob v],Rr)) (hpr:oa Φ e sz v m cells) (hm:0 < m) (ho:o+n≤m*sz) :
    ∀ (nn:Nat) (a:Act) (w:World) (op:Oper),op.op = .store t x y→Eng.Fr nn l a→St w0 Φ O L w→∃ w',(execOp a.eval op).run P w = .ok .skip w'∧Chg (ob v) w w'∧w'.ownsRow 0 e sz v m (mF cells o vs)∧St w0 (lv Φ v v w') O (ob v :: Rr) w':=fun nn a w op hop hf hw=>by
  subst hvs
  rcases hpr.2 with ⟨_,h0⟩ | ⟨gb,cap,cur,rfl,hg2,hn,hcm,hcs,htake⟩
  · omega
  · have hcap:m*sz≤cap*sz:=Nat.mul_le_mul_right sz hn
    have hg2w:=hw.fro _ _ hg2
    obtain ⟨w',h2,h3,h4⟩:=pg (P:=P) (b:=gb) (o:=o) hz (by simpa using hlen) hg2w (by omega) h1
    have hob:ob (.slice (some ⟨gb,0,none⟩) m cap)=[gb]:=rfl
    have hch:Chg (ob (.slice (some ⟨gb,0,none⟩) m cap)) w w':=by rw [hob]; exact Chg.of_some h4 (pr _ h2)
    have hrow:w'.ownsRow 0 e sz (.slice (some ⟨gb,0,none⟩) m cap) m (mF cells o u.cells.toList):=by
      refine ⟨by rw [oy (by rw [hpr.1]; omega),hpr.1],.inr ⟨gb,cap,_,rfl,Nat.zero_le _,h3,hn,hcm,by rw [zI]; exact hcs,?_⟩⟩
      rw [ro _ _ _ (by rw [hlen,hcs]; omega)]
      subst htake
      exact DM (by rw [hlen]; omega) (by simp; omega)
    refine ⟨w',?_,hch,hrow,hw.row hp hch (fun k hk=>.inl hk) (pY hrow)⟩
    have hx':opv l x=some (.pointer (some ⟨gb,o,none⟩)):=by rw [hx]; simp [sb,so]
    unfold execOp
    simp only [hop,hf.eval hx',hf.eval hy]
    simp [Instr.storeAt,Instr.sureAddr,Sem.run_bind,h2]

section rows
variable {α:Type} {R:Hp→List Nat→List Value→α→Prop} {t n e sz i:Nat} {x y:Operand} {v u:Value} {vs cs:List Value} {xs:List α} {D F:List Nat} {js:List Nat} {Rr:List (List Nat)} {x':α}

theorem Bq {o:Nat} {cells:List Value} {Fs:List (List Nat)} {xs':List α} (hR:bQ R) (hz:Sz P t n=true)
    (hx:opv l x=some (.pointer (some ⟨sb v,so v+o,none⟩))) (hy:opv l y=some u) (hvs:u.cells.toList=vs) (hlen:vs.length=n) (h1:One vs) (hp:Eng.pick js L=some ([ob v],Rr)) (hpr:oa Φ e sz v xs'.length cells) (hm:0 < xs'.length) (ho:o+n≤xs'.length*sz)
    (hrc:RC R sz Φ Fs (mF cells o vs) xs') (hk:Kw Φ Fs.flatten) (hd:∀ w,St w0 Φ O L w→Dj Fs.flatten [ob v].flatten) :
    OpU P (.store t x y) l (St w0 Φ O L) (fun Φ' D'=>(Ap w0 O [ob v] Rr∧FrH [ob v].flatten Φ Φ')∧D'=Fs.flatten∧OSl R e sz Φ' D' v xs') (fun Φ' D'=>St w0 Φ' O (ob v :: Rr)):=fun nn a w op hop hf hw=>by
  obtain ⟨w',h2,hch,hrow,hst⟩:=yZ hz hx hy hvs hlen h1 hp hpr hm ho nn a w op hop hf hw
  have h1':[ob v].flatten=ob v:=by simp
  obtain ⟨g1,g2⟩:=wQ hR hw.fro hch (fun k hk=>.inl hk) hrow hrc hk (by have:=hd w hw; rwa [h1'] at this)
  exact ⟨_,_,w',h2,⟨⟨hw.ap hp,by rw [h1']; exact g1⟩,rfl,g2⟩,hst⟩

theorem J6 (hR:bQ R) (hfl:uA R) (hz:Sz P t sz=true)
    (hx:opv l x=some (.pointer (some ⟨sb v,so v+i*sz,none⟩))) (hy:opv l y=some u) (hvs:u.cells.toList=vs) (hlen:vs.length=sz) (h1:One vs) (hp:Eng.pick js L=some ([ob v],Rr)) (h:OSl R e sz Φ D v xs) (hi:i < xs.length) (hx':R Φ F vs x') :
    OpU P (.store t x y) l (St w0 Φ O L) (fun Φ' D'=>(Ap w0 O [ob v] Rr∧FrH [ob v].flatten Φ Φ')∧OSl R e sz Φ' [] v (xs.set i x')) (fun Φ' D'=>St w0 Φ' O (ob v :: Rr)):=by
  obtain ⟨cells,Fs,g1,g2,rfl⟩:=h.ex
  have hrc:=g2.set hi hlen hx'
  have e0:=hrc.flat hfl
  have hle:i*sz+sz≤xs.length*sz:=by rw [← Nat.succ_mul]; exact Nat.mul_le_mul_right sz hi
  intro nn a w op hop hf hw
  obtain ⟨Φ',D',w',q1,⟨q2,q3,q4⟩,q5⟩:=Bq (P:=P) hR hz hx hy hvs hlen h1 hp (by rw [List.length_set]; exact g1) (by rw [List.length_set]; omega) (by rw [List.length_set]; exact hle) hrc (by rw [e0]; exact Kw.nil) (fun w hw=>by rw [e0]; exact Dj.nil _) nn a w op hop hf hw
  exact ⟨Φ',D',w',q1,⟨q2,by rw [← e0,← q3]; exact q4⟩,q5⟩

theorem IU (hR:bQ R) (hz:Sz P t sz=true)
    (hx:opv l x=some (.pointer (some ⟨sb v,so v+i*sz,none⟩))) (hy:opv l y=some u) (hvs:u.cells.toList=vs) (hlen:vs.length=sz) (h1:One vs) (hp:Eng.pick js L=some ([ob v],Rr)) (h:OSl R e sz Φ D v xs) (hi:i < xs.length) (hx':R Φ F vs x') (hkF:Kw Φ F)
    (hd:Ap w0 O [ob v] Rr→Dj D [ob v].flatten) (hdF:Ap w0 O [ob v] Rr→Dj F [ob v].flatten) :
    OpU P (.store t x y) l (St w0 Φ O L) (fun Φ' D'=>(Ap w0 O [ob v] Rr∧FrH [ob v].flatten Φ Φ')∧SP D' (D++F)∧OSl R e sz Φ' D' v (xs.set i x')) (fun Φ' D'=>St w0 Φ' O (ob v :: Rr)):=by
  obtain ⟨cells,Fs,g1,g2,rfl⟩:=h.ex
  have hrc:=g2.set hi hlen hx'
  have hsp:=o1 Fs i F
  have hle:i*sz+sz≤xs.length*sz:=by rw [← Nat.succ_mul]; exact Nat.mul_le_mul_right sz hi
  intro nn a w op hop hf hw
  obtain ⟨Φ',D',w',q1,⟨q2,q3,q4⟩,q5⟩:=Bq (P:=P) hR hz hx hy hvs hlen h1 hp (by rw [List.length_set]; exact g1) (by rw [List.length_set]; omega) (by rw [List.length_set]; exact hle) hrc ((h.kn.app hkF).sub fun k hk=>hsp.mem hk) (fun w hw=>((hd (hw.ap hp)).app (hdF (hw.ap hp))).sub fun k hk=>hsp.mem hk) nn a w op hop hf hw
  exact ⟨Φ',D',w',q1,⟨q2,by rw [q3]; exact hsp,q4⟩,q5⟩

structure HSl (R:Hp→List Nat→List Value→α→Prop) (e sz:Nat) (Φ:Hp) (D:List Nat) (v:Value) (xs:List α) (i:Nat) (cs:List Value):Prop where
  kn:Kw Φ D
  lt:i < xs.length
  len:cs.length=sz
  ex:∃ (cells:List Value) (Fs:List (List Nat)),oa Φ e sz v xs.length cells∧Fs.length=xs.length∧D=(Fs.set i []).flatten∧(cells.drop (i*sz)).take sz=cs ∧
    ∀ j x,j≠i→xs[j]?=some x→R Φ (Fs.getD j []) ((cells.drop (j*sz)).take sz) x

theorem jQ (Fs:List (List Nat)) (i:Nat) (h:i < Fs.length):(Fs.getD i []++(Fs.set i []).flatten).Perm Fs.flatten:=by
  induction Fs generalizing i with
  | nil=>simp at h
  | cons G Gs ih=>
    cases i with
    | zero=>simp
    | succ i=>
      simp only [List.set_cons_succ,List.flatten_cons,List.getD_cons_succ]
      have:=ih i (by simpa using h)
      rw [← List.append_assoc]
      refine (List.Perm.append_right _ List.perm_append_comm).trans ?_
      rw [List.append_assoc]
      exact List.Perm.append_left _ this

theorem OSl.focus (h:OSl R e sz Φ D v xs) {i:Int} {x:α} (hi:idx xs i=some x):∃ cs F D',HSl R e sz Φ D' v xs i.toNat cs∧R Φ F cs x∧Kw Φ F∧SP (F++D') D:=by
  obtain ⟨cells,Fs,g1,g2,rfl⟩:=h.ex
  have hx:=(ab hi).2.2
  have hlt:=xd hi
  have hle:i.toNat*sz+sz≤cells.length:=by rw [g2.len,← Nat.succ_mul]; exact Nat.mul_le_mul_right sz hlt
  have hpm:=jQ Fs i.toNat (by rw [g2.flen]; exact hlt)
  refine ⟨_,Fs.getD i.toNat [],(Fs.set i.toNat []).flatten,⟨h.kn.sub fun k hk=>hpm.mem_iff.1 (List.mem_append.2 (.inr hk)),hlt,by simp; omega,cells,Fs,g1,g2.flen,rfl,rfl,fun j y _ hj=>g2.el j y hj⟩,g2.el _ _ hx,h.kn.sub fun k hk=>hpm.mem_iff.1 (List.mem_append.2 (.inl hk)),SP.perm hpm⟩

theorem HSl.unfocus (h:HSl R e sz Φ D v xs i cs) (hx':R Φ F cs x') (hk:Kw Φ F):∃ D',OSl R e sz Φ D' v (xs.set i x')∧SP D' (F++D):=by
  obtain ⟨cells,Fs,g1,g2,rfl,g4,g5⟩:=h.ex
  have hi:=h.lt
  have hsp:SP (Fs.set i F).flatten (F++(Fs.set i []).flatten):=by
    have:=o1 (Fs.set i []) i F
    rw [List.set_set] at this
    exact this.trans (SP.perm List.perm_append_comm)
  refine ⟨(Fs.set i F).flatten,⟨(hk.app h.kn).sub fun k hk=>hsp.mem hk,cells,Fs.set i F,by rw [List.length_set]; exact g1,⟨by rw [g1.1,List.length_set],by simp [g2],fun j y hj=>?_⟩,rfl⟩,hsp⟩
  by_cases hij:i=j
  · subst hij
    rw [List.getElem?_set_self hi] at hj
    simp only [Option.some.injEq] at hj
    subst hj
    have hF:(Fs.set i F).getD i []=F:=by
      simp only [List.getD_eq_getElem?_getD]
      rw [List.getElem?_set_self (by rw [g2]; exact hi)]; rfl
    rw [hF,g4]; exact hx'
  · rw [List.getElem?_set_ne hij] at hj
    have hF:(Fs.set i F).getD j []=Fs.getD j []:=by
      simp only [List.getD_eq_getElem?_getD]
      rw [List.getElem?_set_ne hij]
    rw [hF]; exact g5 j y (Ne.symm hij) hj

theorem OSl.focusF (hfl:uA R) (h:OSl R e sz Φ D v xs) {i:Int} {x:α} (hi:idx xs i=some x):∃ cs F,HSl R e sz Φ [] v xs i.toNat cs∧R Φ F cs x:=by
  obtain ⟨cs,F,D',h1,h2,h3,h4⟩:=h.focus hi
  obtain ⟨cells,Fs,g1,g2,rfl⟩:=h.ex
  have e0:=g2.flat hfl
  rw [e0] at h4
  have hD:D'=[]:=by
    rcases D' with _ | ⟨k,D'⟩
    · rfl
    · have:=h4.mem (x:=k) (by simp)
      cases this
  subst hD
  exact ⟨cs,F,h1,h2⟩
theorem HSl.unfocusF (hfl:uA R) (h:HSl R e sz Φ D v xs i cs) (hx':R Φ F cs x'):OSl R e sz Φ [] v (xs.set i x'):=by
  have hF:=hfl _ _ _ _ hx'
  subst hF
  obtain ⟨D',h1,h2⟩:=h.unfocus hx' Kw.nil
  obtain ⟨cells,Fs,g1,g2,rfl⟩:=h1.ex
  rw [g2.flat hfl] at h1
  exact h1
theorem EF {i:Int} {x:α} (hi:idx xs i=some x):xs.set i.toNat x=xs:=by
  have h:=(ab hi).2.2
  apply List.ext_getElem?
  intro j
  by_cases hj:i.toNat=j
  · subst hj; rw [List.getElem?_set_self (xd hi),h]
  · rw [List.getElem?_set_ne hj]

theorem HSl.frame {X:List Nat} (hR:bQ R) (h:HSl R e sz Φ D v xs i cs) (hf:FrH X Φ Φ') (ho:Dj (ob v) X) (hd:Dj D X):HSl R e sz Φ' D v xs i cs:=by
  obtain ⟨cells,Fs,g1,g2,g3,g4,g5⟩:=h.ex
  refine ⟨hf.kw hd h.kn,h.lt,h.len,cells,Fs,g1.frame hf ho,g2,g3,g4,fun j x hj hx=>hR X _ _ _ _ _ hf (fun k hk=>hd k ?_) (g5 j x hj hx)⟩
  rw [g3]
  have hF:(Fs.set i []).getD j []=Fs.getD j []:=by
    simp only [List.getD_eq_getElem?_getD]
    rw [List.getElem?_set_ne (Ne.symm hj)]
  exact kP (by rw [hF]; exact hk)
theorem HSl.rg (h:HSl R e sz Φ D v xs i cs):rg Φ (sb v) (so v+i*sz) cs:=by
  obtain ⟨cells,Fs,g1,g2,g3,g4,g5⟩:=h.ex
  obtain ⟨cap,hv,h0,_,hr⟩:=g1.at_ (by have:=h.lt; omega)
  have:=hr.part (i*sz) sz
  rw [g4] at this
  rw [h0]; exact this
theorem gG {ix:Operand} {ii:Int} {y:α} {S:World→Prop} (ht:Sl P t e sz=true) (hx:opv l x=some v) (hix:opv l ix=some (.int .i64 ii)) (h:HSl R e sz Φ D v xs i cs) (hi:idx xs ii=some y) :
    OpQ P (.indexAddr t x ix) l S (.pointer (some ⟨sb v,so v+ii.toNat*sz,none⟩)):=fun n a w o ho hf hw=>by
  obtain ⟨h0,h1,h2⟩:=ab hi
  obtain ⟨cells,Fs,g1,g2,g3,g4,g5⟩:=h.ex
  obtain ⟨cap,hv,hso,_,_⟩:=g1.at_ (by have:=h.lt; omega)
  unfold Sl at ht
  split at ht
  · rename_i e' hu
    simp only [Bool.and_eq_true,beq_iff_eq] at ht
    obtain ⟨rfl,ht⟩:=ht
    cases hti:P.info? e' with
    | none=>simp [hti] at ht
    | some ti=>
      have hsz:ti.size=sz:=by simpa [hti] using ht
      have hxv:opv l x=some (.slice (some ⟨sb v,0,none⟩) xs.length cap):=by rw [hx,← hv]
      unfold execOp; simp only [ho,hf.eval hxv,hf.eval hix]
      rw [hso]
      simp [Instr.indexAt,Sem.run_bind,run_underlying hu,asIntOf,h0,h1,sizeOf,typeInfo,hti,hsz,Addr.add_mid]
  · cases ht
theorem HSl.knO (h:HSl R e sz Φ D v xs i cs):Kw Φ (ob v):=by
  obtain ⟨cells,Fs,g1,_⟩:=h.ex
  exact g1.kn
theorem HSl.form (h:HSl R e sz Φ D v xs i cs):∃ a c,v = .slice a xs.length c∧xs.length≤c:=by
  obtain ⟨cells,Fs,g1,_⟩:=h.ex
  exact g1.form
theorem HSl.one (h:HSl R e sz Φ D v xs i cs):v.oneCell'=true:=by
  obtain ⟨a,c,hv,_⟩:=h.form
  rw [hv]; rfl

theorem rM {cells vs:List Value} {i o:Nat} {sz:Nat} (h:i*sz+sz≤cells.length) (ho:o+vs.length≤sz) (j:Nat) :
    ((mF cells (i*sz+o) vs).drop (j*sz)).take sz=if j=i then mF ((cells.drop (i*sz)).take sz) o vs else (cells.drop (j*sz)).take sz:=by
  by_cases hji:j=i
  · subst hji
    rw [if_pos rfl]
    apply List.ext_getElem?
    intro m
    rw [List.getElem?_take,List.getElem?_drop,kZ (by omega),kZ (by simp; omega),List.getElem?_take,List.getElem?_drop]
    by_cases hm:m < sz
    · rw [if_pos hm,if_pos hm]
      by_cases h1:o≤m∧m < o+vs.length
      · rw [if_pos (by omega),if_pos h1]; congr 1; omega
      · rw [if_neg (by omega),if_neg h1]
    · rw [if_neg hm,if_neg hm,if_neg (by omega)]
  · rw [if_neg hji]
    apply List.ext_getElem?
    intro m
    rw [List.getElem?_take,List.getElem?_take]
    split
    · rename_i hm
      rw [List.getElem?_drop,List.getElem?_drop,kZ (by omega),if_neg ?_]
      rcases Nat.lt_or_ge j i with hlt | hge
      · have h2:j*sz+sz≤i*sz:=by rw [← Nat.succ_mul]; exact Nat.mul_le_mul_right sz hlt
        omega
      · have h2:i*sz+sz≤j*sz:=by rw [← Nat.succ_mul]; exact Nat.mul_le_mul_right sz (by omega)
        omega
    · rfl

theorem BA {o:Nat} (hR:bQ R) (hz:Sz P t n=true)
    (hx:opv l x=some (.pointer (some ⟨sb v,so v+i*sz+o,none⟩))) (hy:opv l y=some u) (hvs:u.cells.toList=vs) (hlen:vs.length=n) (h1:One vs) (hp:Eng.pick js L=some ([ob v],Rr)) (h:HSl R e sz Φ D v xs i cs) (ho:Nat.ble (o+n) sz=true)
    {cs':List Value} (hcs:mF cs o vs=cs') (hd:Ap w0 O [ob v] Rr→Dj D [ob v].flatten) :
    OpU P (.store t x y) l (St w0 Φ O L) (fun Φ' D'=>(Ap w0 O [ob v] Rr∧FrH [ob v].flatten Φ Φ')∧HSl R e sz Φ' D v xs i cs') (fun Φ' D'=>St w0 Φ' O (ob v :: Rr)):=fun nn a w op hop hf hw=>by
  subst hcs
  obtain ⟨cells,Fs,g1,g2,g3,g4,g5⟩:=h.ex
  have hi:=h.lt
  have ho':o+n≤sz:=by simpa using ho
  have hle:i*sz+sz≤xs.length*sz:=by rw [← Nat.succ_mul]; exact Nat.mul_le_mul_right sz hi
  obtain ⟨w',h2,hch,hrow,hst⟩:=yZ (o:=i*sz+o) hz (by rw [hx]; simp [Nat.add_assoc]) hy hvs hlen h1 hp g1 (by omega) (by omega) nn a w op hop hf hw
  have h1':[ob v].flatten=ob v:=by simp
  have hfr:FrH (ob v) Φ (lv Φ v v w'):=A8 hw.fro (pE (fun k hk=>.inl hk))
  have hd':Dj D (ob v):=by have:=hd (hw.ap hp); rwa [h1'] at this
  have hcl:i*sz+sz≤cells.length:=by rw [g1.1]; exact hle
  refine ⟨_,[],w',h2,⟨⟨hw.ap hp,by rw [h1']; exact hfr⟩,hfr.kw hd' h.kn,hi,by rw [oy (by rw [h.len,hlen]; exact ho')]; exact h.len,mF cells (i*sz+o) vs,Fs,oa.of_owns hrow (fun k hk=>by simp [lv,hk]),g2,g3,?_,fun j y hj hy=>?_⟩,hst⟩
  · rw [rM hcl (by rw [hlen]; exact ho'),if_pos rfl,g4]
  · rw [rM hcl (by rw [hlen]; exact ho'),if_neg hj]
    refine hR (ob v) _ _ _ _ _ hfr (fun k hk=>hd' k ?_) (g5 j y hj hy)
    rw [g3]
    have hF:(Fs.set i []).getD j []=Fs.getD j []:=by
      simp only [List.getD_eq_getElem?_getD]
      rw [List.getElem?_set_ne (Ne.symm hj)]
    exact kP (by rw [hF]; exact hk)
end rows

def ssl {α:Type} (xs:List α) (a b:Int):Option (List α):=if 0≤a∧a≤b∧b≤xs.length then some ((xs.take b.toNat).drop a.toNat) else none
theorem xm {α:Type} {xs ys:List α} {a b:Int} (h:ssl xs a b=some ys):0≤a∧a≤b∧b≤xs.length∧ys=(xs.take b.toNat).drop a.toNat:=by
  unfold ssl at h; split at h
  · rename_i h1; simp only [Option.some.injEq] at h; exact ⟨h1.1,h1.2.1,h1.2.2,h.symm⟩
  · cases h
def slc (v:Value) (l h sz:Nat):Value:=match v with
  | .slice p _ c=>.slice (if c=l then p else p.map (·.add (l*sz))) (h - l) (c - l)
  | _=>v

theorem xa {v:Value} {l h sz:Nat} {p:Option Addr} {n c:Nat} (hv:v = .slice p n c):slc v l h sz = .slice (if c=l then p else p.map (·.add (l*sz))) (h - l) (c - l):=by subst hv; rfl

theorem RSl.sub {α:Type} {R:Hp→List Nat→List Value→α→Prop} {sz:Nat} {F:List Nat} {v:Value} {xs ys:List α} {a b:Int} (h:RSl R sz Φ F v xs) (hs:ssl xs a b=some ys):∃ F',RSl R sz Φ F' (slc v a.toNat b.toNat sz) ys∧∀ k∈F',k∈F:=by
  obtain ⟨h0,h1,h2,rfl⟩:=xm hs
  obtain ⟨p,c,hv,hc⟩:=h.form
  obtain ⟨Fb,Fs,g0,g1,g2,g3⟩:=h.elems
  have hlen:((xs.take b.toNat).drop a.toNat).length=b.toNat - a.toNat:=by simp; omega
  have hsub:∀ k∈((Fs.take b.toNat).drop a.toNat).flatten,k∈Fs.flatten:=fun k hk=>by
    obtain ⟨F,hF,hkF⟩:=List.mem_flatten.1 hk
    exact List.mem_flatten.2 ⟨F,List.mem_of_mem_take (List.mem_of_mem_drop hF),hkF⟩
  by_cases he:(xs.take b.toNat).drop a.toNat=[]
  · rw [he]
    rw [he] at hlen
    simp only [List.length_nil] at hlen
    exact ⟨[],⟨⟨_,_,by rw [xa hv,← hlen]; rfl,Nat.zero_le _⟩,fun h=>absurd rfl h,Kw.nil,[],[],.inr ⟨rfl,rfl⟩,rfl,rfl,fun i x hi=>by simp at hi⟩,fun k hk=>by cases hk⟩
  · have hab:a.toNat < b.toNat:=by
      have:=List.length_pos_iff.2 he
      omega
    have hne:xs≠[]:=by rintro rfl; simp at he
    obtain ⟨c',hv'⟩:=h.addr hne
    have hcc:c'=c∧p=some ⟨sb v,so v,none⟩:=by
      rw [hv'] at hv; simp only [Value.slice.injEq] at hv; exact ⟨hv.2.2,hv.1.symm⟩
    obtain ⟨rfl,rfl⟩:=hcc
    have hslc:slc v a.toNat b.toNat sz = .slice (some ⟨sb v,so v+a.toNat*sz,none⟩) (b.toNat - a.toNat) (c' - a.toNat):=by
      rw [xa hv,if_neg (by omega)]
      simp [Addr.add_mid]
    have hsb:sb (slc v a.toNat b.toNat sz)=sb v:=by rw [hslc]; rfl
    have hso:so (slc v a.toNat b.toNat sz)=so v+a.toNat*sz:=by rw [hslc]; rfl
    have hob:ob (slc v a.toNat b.toNat sz)=ob v:=by
      rw [hslc]
      have h9:∀ u:Value,u = .slice (some ⟨sb v,so v,none⟩) xs.length c'→ob u=[sb v]:=fun u hu=>by subst hu; rfl
      rw [h9 v hv']; rfl
    have hFb:Fb=ob v:=g0.resolve_right fun e=>hne e.1
    refine ⟨ob v++((Fs.take b.toNat).drop a.toNat).flatten,⟨⟨_,_,by rw [hslc,hlen],by rw [hlen]; omega⟩,fun _=>⟨_,by rw [hsb,hso,hlen]; exact hslc⟩,?_,ob v,_,.inl hob.symm,?_,rfl,fun i x hi=>?_⟩,fun k hk=>?_⟩
    · exact h.kn.sub fun k hk=>by
        rw [g2,hFb]
        rcases List.mem_append.1 hk with hk | hk
        · exact List.mem_append.2 (.inl hk)
        · exact List.mem_append.2 (.inr (hsub k hk))
    · rw [hlen]; simp [g1]; omega
    · rw [List.getElem?_drop,List.getElem?_take] at hi
      split at hi
      · rename_i hlt
        obtain ⟨cs,k1,k2,k3⟩:=g3 _ x hi
        refine ⟨cs,k1,?_,?_⟩
        · rw [hsb,hso]
          have:so v+a.toNat*sz+i*sz=so v+(a.toNat+i)*sz:=by rw [Nat.add_mul]; omega
          rw [this]; exact k2
        · have hF:((Fs.take b.toNat).drop a.toNat).getD i []=Fs.getD (a.toNat+i) []:=by
            simp only [List.getD_eq_getElem?_getD]
            rw [List.getElem?_drop,List.getElem?_take,if_pos hlt]
          rw [hF]; exact k3
      · cases hi
    · rw [g2,hFb]
      rcases List.mem_append.1 hk with hk | hk
      · exact List.mem_append.2 (.inl hk)
      · exact List.mem_append.2 (.inr (hsub k hk))

theorem OSl.pre {α:Type} {R:Hp→List Nat→List Value→α→Prop} {e sz:Nat} {D:List Nat} {v:Value} {xs ys:List α} {b:Int} (h:OSl R e sz Φ D v xs) (hs:ssl xs 0 b=some ys):∃ D',OSl R e sz Φ D' (slc v 0 b.toNat sz) ys∧SP D' D∧ob (slc v 0 b.toNat sz)=ob v:=by
  obtain ⟨h0,h1,h2,rfl⟩:=xm hs
  obtain ⟨cells,Fs,g1,g2,rfl⟩:=h.ex
  have hlen:(xs.take b.toNat).length=b.toNat:=by simp; omega
  have hlen2:((xs.take b.toNat).drop (0:Int).toNat).length=b.toNat:=by simpa using by omega
  have hble:b.toNat*sz≤cells.length:=by rw [g2.len]; exact Nat.mul_le_mul_right sz (by omega)
  have hsp:SP (Fs.take b.toNat).flatten Fs.flatten:=⟨(Fs.drop b.toNat).flatten,by rw [← List.flatten_append,List.take_append_drop]⟩
  refine ⟨(Fs.take b.toNat).flatten,⟨h.kn.sub fun k hk=>hsp.mem hk,cells.take (b.toNat*sz),Fs.take b.toNat,?_,⟨by rw [hlen2,List.length_take]; omega,by simp [g2.flen],fun i x hi=>?_⟩,rfl⟩,hsp,?_⟩
  · rw [hlen2]
    refine ⟨by simp; omega,?_⟩
    rcases g1.2 with ⟨rfl,hn⟩ | ⟨gb,cap,cur,rfl,k1,k2,k3,k4,k5⟩
    · have hb0:b.toNat=0:=by omega
      exact .inl ⟨by rw [hb0]; rfl,hb0⟩
    · refine .inr ⟨gb,cap,cur,?_,k1,by omega,k3,k4,?_⟩
      · simp only [slc,Nat.sub_zero]
        split
        · rfl
        · simp [Addr.add_mid]
      · rw [← k5,List.take_take,Nat.min_eq_left (Nat.mul_le_mul_right sz (by omega))]
  · simp only [Int.toNat_zero,List.drop_zero] at hi ⊢
    rw [List.getElem?_take] at hi
    split at hi
    · rename_i hlt
      have hF:(Fs.take b.toNat).getD i []=Fs.getD i []:=by
        simp only [List.getD_eq_getElem?_getD]
        rw [List.getElem?_take,if_pos hlt]
      have hle:i*sz+sz≤b.toNat*sz:=by rw [← Nat.succ_mul]; exact Nat.mul_le_mul_right sz hlt
      have:((cells.take (b.toNat*sz)).drop (i*sz)).take sz=(cells.drop (i*sz)).take sz:=by
        rw [List.drop_take,List.take_take,Nat.min_eq_left (by omega)]
      rw [hF,this]; exact g2.el i x hi
    · cases hi
  · rcases g1.2 with ⟨rfl,hn⟩ | ⟨gb,cap,cur,rfl,_⟩
    · rfl
    · simp only [slc]
      split
      · rfl
      · simp [ob,Value.ownBlock,Addr.add_mid]

section
variable {α:Type} {R:Hp→List Nat→List Value→α→Prop} {t e sz:Nat} {F:List Nat} {v:Value} {xs ys:List α} {x lo hi:Operand} {a b:Int} {l:Env} {S:World→Prop}

theorem GS (ht:Sl P t e sz=true):P.underlying t=some (.slice (P.elem t))∧∀ w,(sizeOf (P.elem t)).run P w = .ok sz w:=by
  have hu:=ui ht
  have he:P.elem t=e:=by simp [Program.elem,hu]
  have hsz:(P.info? e).map (·.size)=some sz:=by
    unfold Sl at ht; rw [hu] at ht; simpa using ht
  cases hti:P.info? e with
  | none=>simp [hti] at hsz
  | some ti=>
    have h2:ti.size=sz:=by simpa [hti] using hsz
    refine ⟨by rw [he]; exact hu,fun w=>?_⟩
    simp [sizeOf,typeInfo,he,hti,h2]

theorem AH (ht:Sl P t e sz=true) (hx:opv l x=some v) (hhi:opv l hi=some (.int .i64 b)) (h:RSl R sz Φ F v xs) (hs:ssl xs 0 b=some ys):OpQ P (.slice t x none (some hi) none) l S (slc v (0:Int).toNat b.toNat sz):=fun n A w o ho hf hw=>by
  obtain ⟨h0,h1,h2,rfl⟩:=xm hs
  obtain ⟨p,c,hv,hc⟩:=h.form
  obtain ⟨hu,hz⟩:=GS ht
  unfold execOp; simp only [ho,hf.eval hx,Option.map_some,Option.map_none,hf.eval hhi,hv]
  rw [xa rfl]
  simp only [Sem.run_bind,run_sliceAt_slice w t _ _ _ _ hu,run_slice_h w t p _ c hu .i64 b h1 (by omega),hz]
  rfl

end

end Go.Proofs.YtedmfnmbjglmbaaGreat.Eng
