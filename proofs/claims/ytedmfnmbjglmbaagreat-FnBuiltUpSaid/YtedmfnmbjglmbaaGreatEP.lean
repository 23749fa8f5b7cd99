/-
  The engine, part P: shorter forms of single steps.
  Nothing here names a program.
-/
import Derived.Test.YtedmfnmbjglmbaaGreatEO
namespace Go.Proofs.YtedmfnmbjglmbaaGreat.Eng
open Go.RowKit (Below wrap64)
set_option linter.unusedVariables false
set_option linter.unusedSimpArgs false

variable {g:G} {k:List Item} {ops:Array Oper} {rest:List Oper} {l:Env} {Ψ0 H0:Hp} {B0:List Nat} {w0:av Ψ0 H0 B0} {Φ Φ':Hp} {O:fT} {L:List (List Nat)} {w w':World} {S:World→Prop} {o:Oper} {d:Nat}

def ldX (o:Oper) (n:Nat) (l:Env) (cs:List Value) (i m:Nat):Option (Nat × Value × Nat × Value):=match o.op with
  | .load t x=>(match opv l x,dq o n,(match m with
      | 0=>(match cs.drop i with
        | v :: _=>some v
        | []=>none)
      | m+1=>(match tk (m+1) (cs.drop i) with
        | some xs=>some (.agg xs.toArray)
        | none=>none)) with
    | some u,some d,some v=>some (t,u,d,v)
    | _,_,_=>none)
  | _=>none
def TX (P:Program) (t m:Nat):Bool:=match m with
  | 0=>T1 P t
  | m+1=>Tn P t (m+1)
theorem lgw (i m:Nat) {t b p:Nat} {cs:List Value} {v:Value} {Φ1:Hp} (hi:∀ w,S w→In Φ1 w) (hr:rg Φ1 b p cs) (h:ldX o g.n l cs i m=some (t,.pointer (some ⟨b,p+i,none⟩),d,v)) (hT:TX g.P t m=true)
    (hk:WL g k ops rest ((d,v) :: l) S):WL g k ops (o :: rest) l S:=by
  unfold ldX at h
  split at h
  · rename_i t' x ho
    split at h
    · rename_i u d' v' hx hd hv
      cases h
      cases m with
      | zero=>
        simp only at hv
        split at hv
        · rename_i a r hcs
          cases hv
          have h1:rg Φ1 b (p+i) [v]:=hr.of_eq i 1 rfl (by rw [hcs]; simp)
          exact lq (by rw [ho]; exact cz hT hx (fun w hw=>h1.rangeAt (hi w hw))) hd hk
        · cases hv
      | succ m=>
        simp only at hv
        split at hv
        · rename_i xs hxs
          cases hv
          obtain ⟨e1,e2⟩:=vA _ _ hxs
          have h1:rg Φ1 b (p+i) xs:=hr.of_eq i (m+1) rfl e1
          exact lq (by rw [ho]; exact aG hT hx (fun w hw=>h1.rangeAt (hi w hw)) e2) hd hk
        · cases hv
    · cases h
  · cases h
theorem lgx (i m:Nat) {t b p:Nat} {cs:List Value} {v:Value} (hr:rg Φ b p cs) (h:ldX o g.n l cs i m=some (t,.pointer (some ⟨b,p+i,none⟩),d,v))
    (hk:WL g k ops rest ((d,v) :: l) (St w0 Φ O L)) (hT:TX g.P t m=true:=by kernel_rfl):WL g k ops (o :: rest) l (St w0 Φ O L):=lgw i m (fun w hw=>hw.fro) hr h hT hk
theorem lhx (i m:Nat) {t b p:Nat} {cs:List Value} {v:Value} (hr:rg Ψ0 b p cs) (h:ldX o g.n l cs i m=some (t,.pointer (some ⟨b,p+i,none⟩),d,v))
    (hk:WL g k ops rest ((d,v) :: l) (St w0 Φ O L)) (hT:TX g.P t m=true:=by kernel_rfl):WL g k ops (o :: rest) l (St w0 Φ O L):=lgw i m (fun w hw=>hw.in0) hr h hT hk
def Hd (o:Oper) (n:Nat) (l:Env):Option (Nat × Value × Nat):=match o.op with
  | .call ⟨.builtin .len,⟨[x]⟩,⟨[t]⟩⟩=>(match opv l x,dq o n with
    | some v,some d=>some (t,v,d)
    | _,_=>none)
  | _=>none
def Gx (P:Program) (t:Nat):Bool:=match P.underlying t with
  | some (.slice _)=>true
  | _=>false
theorem lnf {t n:Nat} {v:Value} (hf:∃ p c,v = .slice p n c) (h:Hd o g.n l=some (t,v,d)) (ht:Gx g.P t=true) (hk:WL g k ops rest ((d,.int .i64 n) :: l) S):WL g k ops (o :: rest) l S:=by
  unfold Hd at h
  split at h
  · rename_i x t' ho
    split at h
    · rename_i v' d' hx hd
      cases h
      obtain ⟨p,c,rfl⟩:=hf
      refine lq (v:=.int .i64 n) (fun m a w o' ho' hf hw=>?_) hd hk
      have hu:∃ e,g.P.underlying t=some (.slice e):=by unfold Gx at ht; split at ht <;> simp_all
      obtain ⟨e',hu⟩:=hu
      rw [ho] at ho'
      unfold execOp; simp only [ho',resolve]
      simp [invoke,builtin,Builtin.len_,hf.eval hx,Sem.run_bind,run_underlying hu,goInt]
    · cases h
  · cases h
theorem lnr {α:Type} {R:Hp→List Nat→List Value→α→Prop} {sz:Nat} {Φ1:Hp} {F:List Nat} {v:Value} {xs:List α} {t:Nat} (hr:RSl R sz Φ1 F v xs) (h:Hd o g.n l=some (t,v,d)) (hk:WL g k ops rest ((d,.int .i64 xs.length) :: l) S) (ht:Gx g.P t=true:=by kernel_rfl):WL g k ops (o :: rest) l S:=
  lnf (by obtain ⟨p,c,hp,_⟩:=hr.form; exact ⟨p,c,hp⟩) h ht hk
theorem lno {α:Type} {R:Hp→List Nat→List Value→α→Prop} {e sz:Nat} {Φ1:Hp} {F:List Nat} {v:Value} {xs:List α} {t:Nat} (hr:OSl R e sz Φ1 F v xs) (h:Hd o g.n l=some (t,v,d)) (hk:WL g k ops rest ((d,.int .i64 xs.length) :: l) S) (ht:Gx g.P t=true:=by kernel_rfl):WL g k ops (o :: rest) l S:=
  lnf (by obtain ⟨p,c,hp,_⟩:=hr.form; exact ⟨p,c,hp⟩) h ht hk
def ixO (o:Oper) (n:Nat) (l:Env):Option (Nat × Value × Value × Nat):=match o.op with
  | .indexAddr t x ix=>(match opv l x,opv l ix,dq o n with
    | some v,some i,some d=>some (t,v,i,d)
    | _,_,_=>none)
  | _=>none
def SlZ (P:Program) (t sz:Nat):Bool:=match P.underlying t with
  | some (.slice e)=>Sl P t e sz
  | _=>false
theorem SlZ.sl {P:Program} {t sz:Nat} (h:SlZ P t sz=true):∃ e,Sl P t e sz=true:=by
  unfold SlZ at h
  split at h
  · exact ⟨_,h⟩
  · cases h
theorem AT {n t d:Nat} {v i:Value} (h:ixO o n l=some (t,v,i,d)):∃ x ix,o.op = .indexAddr t x ix∧opv l x=some v∧opv l ix=some i∧dq o n=some d:=by
  unfold ixO at h
  split at h
  · rename_i t' x ix ho
    split at h
    · cases h; exact ⟨x,ix,ho,by assumption,by assumption,by assumption⟩
    · cases h
  · cases h
theorem lia {α:Type} {R:Hp→List Nat→List Value→α→Prop} {sz:Nat} {Φ1:Hp} {F:List Nat} {v:Value} {xs:List α} {t:Nat} {i:Int} {y:α} (hr:RSl R sz Φ1 F v xs) (hi:idx xs i=some y) (h:ixO o g.n l=some (t,v,.int .i64 i,d))
    (hk:WL g k ops rest ((d,.pointer (some ⟨sb v,so v+i.toNat*sz,none⟩)) :: l) S) (ht:SlZ g.P t sz=true:=by kernel_rfl):WL g k ops (o :: rest) l S:=by
  obtain ⟨x,ix,ho,hx,hix,hd⟩:=AT h
  obtain ⟨e,he⟩:=SlZ.sl ht
  exact lq (by rw [ho]; exact aw he hx hix hr hi) hd hk
theorem lio {α:Type} {R:Hp→List Nat→List Value→α→Prop} {e sz:Nat} {Φ1:Hp} {F:List Nat} {v:Value} {xs:List α} {t:Nat} {i:Int} {y:α} (hr:OSl R e sz Φ1 F v xs) (hi:idx xs i=some y) (h:ixO o g.n l=some (t,v,.int .i64 i,d))
    (hk:WL g k ops rest ((d,.pointer (some ⟨sb v,so v+i.toNat*sz,none⟩)) :: l) S) (ht:SlZ g.P t sz=true:=by kernel_rfl):WL g k ops (o :: rest) l S:=lia hr.rsl hi h hk ht
theorem lih {α:Type} {R:Hp→List Nat→List Value→α→Prop} {e sz j:Nat} {Φ1:Hp} {D:List Nat} {v:Value} {xs:List α} {cs:List Value} {t:Nat} {i:Int} {y:α} (hr:HSl R e sz Φ1 D v xs j cs) (hi:idx xs i=some y) (h:ixO o g.n l=some (t,v,.int .i64 i,d))
    (hk:WL g k ops rest ((d,.pointer (some ⟨sb v,so v+i.toNat*sz,none⟩)) :: l) S) (ht:Sl g.P t e sz=true:=by kernel_rfl):WL g k ops (o :: rest) l S:=by
  obtain ⟨x,ix,ho,hx,hix,hd⟩:=AT h
  exact lq (by rw [ho]; exact gG ht hx hix hr hi) hd hk
def bxO (o:Oper) (n:Nat) (l:Env):Option (Nat × Value × Nat):=match o.op with
  | .box t x=>(match opv l x,dq o n with
    | some v,some d=>some (t,v,d)
    | _,_=>none)
  | _=>none
def azO (o:Oper) (n:Nat):Option (Nat × Nat):=match o.op with
  | .alloc t=>(match dq o n with
    | some d=>some (t,d)
    | _=>none)
  | _=>none
theorem lbx {T:Nat} {C:Array Value} (h:bxO o g.n l=some (T,.agg C,d)) (hk:∀ b,WL g k ops rest ((d,.pointer (some ⟨b,0,none⟩)) :: l) (St w0 Φ ((b,.cells C T (0,0)) :: O) L)):WL g k ops (o :: rest) l (St w0 Φ O L):=by
  unfold bxO at h
  split at h
  · rename_i t x ho
    split at h
    · rename_i v d' hx hd
      cases h
      exact ln (by rw [ho]; exact nb hx) hd hk
    · cases h
  · cases h
theorem lnz {T:Nat} {C:Array Value} (hz:Zr g.P T (.agg C)) (h:azO o g.n=some (T,d)) (hk:∀ b,WL g k ops rest ((d,.pointer (some ⟨b,0,none⟩)) :: l) (St w0 Φ ((b,.cells C T (0,0)) :: O) L)):WL g k ops (o :: rest) l (St w0 Φ O L):=by
  unfold azO at h
  split at h
  · rename_i t ho
    split at h
    · rename_i d' hd
      cases h
      exact ln (by rw [ho]; exact nz hz) hd hk
    · cases h
  · cases h
theorem ch {β:Type} {a b z:β} {c:Operand} {x y:Code} {t:Bool} (h:(if t=true then a else b)=z) (hc:opv l c=some (.bool t)) (h1:a=z→WT g (.code x :: k) l S) (h2:b=z→WT g (.code y :: k) l S):WT g (.code (.cond c x y) :: k) l S:=
  cdh hc h (fun _=>h1) (fun _=>h2)
theorem sp {β:Type} {a b' z:β} (d:Nat) {b:Bool} (h:(if b=true then a else b')=z) (hd:lk l d=some (.bool b)) (h1:a=z→WL g k ops rest ((d,.bool true) :: l) S) (h2:b'=z→WL g k ops rest ((d,.bool false) :: l) S):WL g k ops rest l S:=
  spl d hd h (fun _=>h1) (fun _=>h2)
section
variable {f:Nat} {xs:List Operand} {ts:Array TypeId} {vs:List Value} {α β:Type} {m:Option α} {F:α→Option β} {r:β}
theorem qc {v:α→Value} (h:m.bind F=some r) (hc:∀ {x} (b:av Φ Φ []),m=some x→Calls g.P f vs.toArray b.w (lh (v x) b.w)) (ho:o.op = .call ⟨.value (.func f),xs.toArray,ts⟩) (ha:nM l xs=some vs) (hd:dq o g.n=some d)
    (hk:∀ x,F x=some r→WL g k ops rest ((d,v x) :: l) (St w0 Φ O L)) (hF:Fun g.P f=true:=by kernel_rfl):WL g k ops (o :: rest) l (St w0 Φ O L):=by
  obtain ⟨x,h1,h2⟩:=bs h
  exact pc ho ha (fun b=>hc b h1) hd (hk x h2) hF
theorem qd {v:α→Value} (h:m.bind F=some r) (hc:∀ {x} (b:av Ψ0 Ψ0 []),m=some x→Calls g.P f vs.toArray b.w (lh (v x) b.w)) (ho:o.op = .call ⟨.value (.func f),xs.toArray,ts⟩) (ha:nM l xs=some vs) (hd:dq o g.n=some d)
    (hk:∀ x,F x=some r→WL g k ops rest ((d,v x) :: l) (St w0 Φ O L)) (hF:Fun g.P f=true:=by kernel_rfl):WL g k ops (o :: rest) l (St w0 Φ O L):=by
  obtain ⟨x,h1,h2⟩:=bs h
  exact pd ho ha (fun b=>hc b h1) hd (hk x h2) hF
theorem qz {v:α→Value} (h:m.bind F=some r) (hc:∀ {x} (b:av Φ Φ []),Up Ψ0 Φ→m=some x→Calls g.P f vs.toArray b.w (lh (v x) b.w)) (ho:o.op = .call ⟨.value (.func f),xs.toArray,ts⟩) (ha:nM l xs=some vs) (hd:dq o g.n=some d)
    (hk:∀ x,F x=some r→WL g k ops rest ((d,v x) :: l) (St w0 Φ O L)) (hF:Fun g.P f=true:=by kernel_rfl):WL g k ops (o :: rest) l (St w0 Φ O L):=by
  obtain ⟨x,h1,h2⟩:=bs h
  exact pz ho ha (fun b z=>hc b z h1) hd (hk x h2) hF
theorem kcb (js:List Nat) {R As:List (List Nat)} {Q:α→Hp→List (List Nat)→Value→Prop} (h:m.bind F=some r) (ho:o.op = .call ⟨.value (.func f),xs.toArray,ts⟩) (ha:nM l xs=some vs) (hp:Eng.pick js L=some (As,R)) (hd:dq o g.n=some d)
    (hc:∀ {x} (b:av (off Φ As.flatten) Φ As.flatten),Ap w0 O As R→Up Ψ0 (off Φ As.flatten)→m=some x→Calls g.P f vs.toArray b.w (be Φ b.w As.flatten (Q x)))
    (hk:∀ x,F x=some r→∀ v Φ' Fs,Ap w0 O As R∧FrH As.flatten Φ Φ'∧Q x Φ' Fs v→WL g k ops rest ((d,v) :: l) (St w0 Φ' O (Fs++R))) (hF:Fun g.P f=true:=by kernel_rfl):WL g k ops (o :: rest) l (St w0 Φ O L):=by
  obtain ⟨x,h1,h2⟩:=bs h
  exact kc js ho ha hp (fun b ap z=>hc b ap z h1) hd (hk x h2) hF
theorem kab {Q:α→Hp→List (List Nat)→Value→Prop} (h:m.bind F=some r) (ho:o.op = .call ⟨.value (.func f),xs.toArray,ts⟩) (ha:nM l xs=some vs) (hd:dq o g.n=some d)
    (hc:∀ {x} (b:av Φ Φ []),Up Ψ0 Φ→m=some x→Calls g.P f vs.toArray b.w (be Φ b.w [] (Q x)))
    (hk:∀ x,F x=some r→∀ v Φ' Fs,Ap w0 O [] L∧FrH [] Φ Φ'∧Q x Φ' Fs v→WL g k ops rest ((d,v) :: l) (St w0 Φ' O (Fs++L))) (hF:Fun g.P f=true:=by kernel_rfl):WL g k ops (o :: rest) l (St w0 Φ O L):=by
  obtain ⟨x,h1,h2⟩:=bs h
  exact ka ho ha (fun b z=>hc b z h1) hd (hk x h2) hF
variable {P:Program} {v:Value} {Q:Hp→List (List Nat)→Value→Prop} {As R:List (List Nat)}
theorem pcP (ha:nM l xs=some vs) (h:∀ b:av Φ Φ [],Calls P f vs.toArray b.w (lh v b.w)) (hF:Fun P f=true:=by kernel_rfl):OpP P (.call ⟨.value (.func f),xs.toArray,ts⟩) l (St w0 Φ O L) v:=fx hF ha (fun w hw=>h (ba hw.fro))
theorem pdP (ha:nM l xs=some vs) (h:∀ b:av Ψ0 Ψ0 [],Calls P f vs.toArray b.w (lh v b.w)) (hF:Fun P f=true:=by kernel_rfl):OpP P (.call ⟨.value (.func f),xs.toArray,ts⟩) l (St w0 Φ O L) v:=fx hF ha (fun w hw=>h (ba hw.in0))
theorem pzP (ha:nM l xs=some vs) (h:∀ b:av Φ Φ [],Up Ψ0 Φ→Calls P f vs.toArray b.w (lh v b.w)) (hF:Fun P f=true:=by kernel_rfl):OpP P (.call ⟨.value (.func f),xs.toArray,ts⟩) l (St w0 Φ O L) v:=fx hF ha (fun w hw=>h (ba hw.fro) hw.up)
end
section
variable {kp:Nat→Bool} {fuel:Nat} {done:List Nat} {Φ0:Hp} {O':fT}
def kb (ls:List Nat) (i:Nat):Bool:=!(ls.contains i)
theorem nk {p:Prop} (h:false=true):p:=by cases h
theorem kN (js:List Nat) (h:pks js O=some O':=by rfl):∀ w,St w0 Φ O L w→Kn w0 Φ0 [] O' w:=kn Kf.nil (am js h)
theorem kS {p:Prop} (js:List Nat) (h:pks js O=some O':=by rfl):p→∀ w,St w0 Φ O L w→Kn w0 Φ0 [] O' w:=fun _ w hw=>kN js h w hw
theorem on1 {Sw:World→Prop} (i:Nat) (h:WI g k ops S kp fuel done i l Sw) (hr:Region.ready .any ops (lst ops done)=[i]:=by kernel_rfl):WM g k ops S kp (fuel+1) done l Sw:=WM.one i hr h
theorem wm {id:Nat} {os:List Oper} (js ks:List Nat) (hO:pks js O=some O') (h:WM g k os.toArray (Kn w0 Φ [] O') (kb ks) os.length [] l (St w0 Φ O L)) (hm:g.P.follows .mixedOrders=true:=by kernel_rfl):WT g (.code (.region id os.toArray true) :: k) l (St w0 Φ O L):=
  WT.mix _ _ hm (fun _ h=>h.drew) h
theorem msN (i:Nat) {j t n b p T:Nat} {Cl C' vs:List Value} {O2:fT} (hi:ops[j]?=some o) (hkeep:kp j=true→∀ w,St w0 Φ O2 L w→S w) (hz:Sz g.P t n=true) (h:stO o l O i=some (t,b,b,p,Cl.toArray,T,(0,0),.agg vs.toArray)) (h1:One vs) (hn:vs.length=n)
    (hd:dz o=true) (hk:WM g k ops S kp fuel (j :: done) l (St w0 Φ O2 L)) (hp:Put p vs Cl C':=by repeat constructor) (hO:xw i (b,.cells C'.toArray T (0,0)) O O2:=by repeat constructor):WI g k ops S kp fuel done j l (St w0 Φ O L):=by
  obtain ⟨x,y,ho,hx,hi',hy,hd'⟩:=tC h
  obtain ⟨h2,h3⟩:=hp.eq
  exact ms hi hkeep (by rw [ho]; exact vD hz hx hy hi' (vs:=vs) rfl hn (Nat.ble_eq_true_of_le (by simp; omega)) h1 h2 hO.eq) hd hk
theorem msK (i:Nat) (js:List Nat) {j t n b p T:Nat} {Cl C' vs:List Value} {O2:fT} (hi:ops[j]?=some o) (hz:Sz g.P t n=true) (h:stO o l O i=some (t,b,b,p,Cl.toArray,T,(0,0),.agg vs.toArray)) (h1:One vs) (hn:vs.length=n)
    (hd:dz o=true) (hk:WM g k ops (Kn w0 Φ0 [] O') kp fuel (j :: done) l (St w0 Φ O2 L)) (hp:Put p vs Cl C':=by repeat constructor) (hO:xw i (b,.cells C'.toArray T (0,0)) O O2:=by repeat constructor) (hj:pks js O2=some O':=by rfl):WI g k ops (Kn w0 Φ0 [] O') kp fuel done j l (St w0 Φ O L):=
  msN i hi (kS js hj) hz h h1 hn hd hk hp hO
def JU (ops:Array Oper) (done:List Nat) (i:Nat):List Nat:=(List.range ops.size).foldl (fun acc j=>bif j == i || (lst ops done).getD j true then acc else (match ops[j]? with
  | some oj=>bif oj.after.any (fun e=>Region.binds .any e && (e.on == i || acc.contains e.on)) then j :: acc else acc
  | none=>acc)) []
def Bm (ops:Array Oper) (O:fT) (n:Nat):Nat→List Nat→List Nat→Env→List Nat→List Nat→List Fa→List (List Nat × Nat)→Option (List Nat × Env × List Nat × List Nat × List Fa × List (List Nat × Nat))
  | 0,_,done,l,bs,bs',fs,qs=>some (done,l,bs,bs',fs,qs)
  | m+1,i :: is,done,l,bs,bs',fs,qs=>(match ops[i]? with
    | some o=>(match dq o n,op1 O l is o.op with
      | some d,some (v,is',none,f)=>Bm ops O n m is' (i :: done) ((d,v) :: l) bs bs' (f++fs) ((done,i) :: qs)
      | some d,some (v,is',some (b,b'),f)=>Bm ops O n m is' (i :: done) ((d,v) :: l) (b :: bs) (b' :: bs') (f++fs) ((done,i) :: qs)
      | _,_=>none)
    | none=>none)
  | _+1,[],_,_,_,_,_,_=>none
def qsB (ops:Array Oper) (kp:Nat→Bool) (qs:List (List Nat × Nat)):Bool:=qs.all fun q=>qBT ops kp q.1 q.2 (JU ops q.1 q.2)
theorem Fg {l:Env} {is is':List Nat} {op:Op} {v:Value} {e:Option (Nat × Nat)} {fs:List Fa} {F:List Nat} (h:op1 O' l is op=some (v,is',e,fs)) (he:∀ p∈e,p.1=p.2) (hf:∀ f∈fs,fa1 g.P f=true):OpQ g.P op l (Kn w0 Φ0 F O') v:=by
  unfold op1 at h
  split at h
  · split at h
    · cases h
      exact aK (hf _ (List.mem_singleton.2 rfl)) (by assumption)
    · cases h
  · split at h
    · split at h
      · rename_i t x _ _ b p j is' hx _ b' C T fz hO
        split at h
        · split at h
          · rename_i v' vs hd
            cases h
            obtain rfl:b=b':=he _ rfl
            exact cz (hf _ (List.mem_singleton.2 rfl)) hx (fun w hw=>hw.rgO hO p 1 [v] (by rw [hd]; simp))
          · cases h
        · rename_i m hm
          split at h
          · rename_i xs hxs
            cases h
            obtain rfl:b=b':=he _ rfl
            obtain ⟨h1,h2⟩:=vA _ _ hxs
            exact aG (hf _ (List.mem_singleton.2 rfl)) hx (fun w hw=>hw.rgO hO p (m+1) xs (by rw [h1])) h2
          · cases h
      · cases h
    · cases h
  · split at h
    · cases h; exact A7 (by assumption)
    · cases h
theorem te:∀ (m:Nat) {is done done':List Nat} {l l':Env} {bs bs' X X':List Nat} {fs F:List Fa} {qs Qs:List (List Nat × Nat)},Bm ops O' g.n m is done l bs bs' fs qs=some (done',l',X,X',F,Qs)→(X=X'→bs=bs')∧(∀ f∈fs,f∈F)∧∀ q∈qs,q∈Qs
  | 0,is,done,done',l,l',bs,bs',X,X',fs,F,qs,Qs,h=>by cases h; exact ⟨id,fun _ h=>h,fun _ h=>h⟩
  | m+1,[],done,done',l,l',bs,bs',X,X',fs,F,qs,Qs,h=>by cases h
  | m+1,i :: is,done,done',l,l',bs,bs',X,X',fs,F,qs,Qs,h=>by
    unfold Bm at h
    split at h
    · split at h
      · obtain ⟨h1,h2,h3⟩:=te m h
        exact ⟨h1,fun f hf=>h2 f (List.mem_append.2 (.inr hf)),fun q hq=>h3 q (List.mem_cons_of_mem _ hq)⟩
      · obtain ⟨h1,h2,h3⟩:=te m h
        exact ⟨fun hX=>(List.cons.inj (h1 hX)).2,fun f hf=>h2 f (List.mem_append.2 (.inr hf)),fun q hq=>h3 q (List.mem_cons_of_mem _ hq)⟩
      · cases h
    · cases h
theorem zR {F0:List Nat} (hS:∀ w,St w0 Φ O L w→Kn w0 Φ0 F0 O' w):∀ (m:Nat) {is done done':List Nat} {l l':Env} {bs bs' X:List Nat} {fs F:List Fa} {qs Qs:List (List Nat × Nat)},Bm ops O' g.n m is done l bs bs' fs qs=some (done',l',X,X,F,Qs)→(∀ f∈F,fa1 g.P f=true) →
    (∀ q∈Qs,qBT ops kp q.1 q.2 (JU ops q.1 q.2)=true)→WM g k ops (Kn w0 Φ0 F0 O') kp fuel done' l' (St w0 Φ O L)→WM g k ops (Kn w0 Φ0 F0 O') kp (fuel+m) done l (St w0 Φ O L)
  | 0,is,done,done',l,l',bs,bs',X,fs,F,qs,Qs,h,hf,hq,hk=>by cases h; exact hk
  | m+1,[],done,done',l,l',bs,bs',X,fs,F,qs,Qs,h,hf,hq,hk=>by cases h
  | m+1,i :: is,done,done',l,l',bs,bs',X,fs,F,qs,Qs,h,hf,hq,hk=>by
    unfold Bm at h
    split at h
    · rename_i o ho
      split at h
      · rename_i d v is' f hd hv
        obtain ⟨h1,h2,h3⟩:=te m h
        exact mqT i _ ho (hq _ (h3 _ (List.mem_cons_self ..))) hS (Fg hv (by simp) (fun f hm=>hf f (h2 f (List.mem_append.2 (.inl hm))))) hd (zR hS m h hf hq hk)
      · rename_i d v is' b b' f hd hv
        obtain ⟨h1,h2,h3⟩:=te m h
        refine mqT i _ ho (hq _ (h3 _ (List.mem_cons_self ..))) hS (Fg hv (fun p hp=>?_) (fun f hm=>hf f (h2 f (List.mem_append.2 (.inl hm))))) hd (zR hS m h hf hq hk)
        obtain rfl:=Option.mem_some_iff.1 hp
        exact (List.cons.inj (h1 rfl)).1
      · cases h
    · cases h
theorem amm (m:Nat) (is js:List Nat) {done' bs:List Nat} {l':Env} {fs:List Fa} {qs:List (List Nat × Nat)} (hO:pks js O=some O') (h:Bm ops O' g.n m is done l [] [] [] []=some (done',l',bs,bs,fs,qs))
    (hk:WM g k ops (Kn w0 Φ0 [] O') kp fuel done' l' (St w0 Φ O L)) (hf:fas g.P fs=true:=by kernel_rfl) (hq:qsB ops kp qs=true:=by kernel_rfl):WM g k ops (Kn w0 Φ0 [] O') kp (fuel+m) done l (St w0 Φ O L):=
  zR (kN js hO) m h (oG hf) (List.all_eq_true.1 hq) hk
end
abbrev pQ (b:Nat):Value:=.pointer (some ⟨b,0,none⟩)
abbrev iV (x:Int):Value:=.int .i64 x
abbrev CB {Ψ H:Hp} {B:List Nat} (w0:av Ψ H B) (P:Program) (f:Nat) (vs:List Value) (v:Value):Prop:=Calls P f vs.toArray w0.w (lh v w0.w)
theorem eN {P:Program} {fn:Func} {n f:Nat} {c:Code} {vs:List Value} {R:Ending→World→Prop} (hf:P.funcs[f]?=some fn) (hb:fn.body=some c) (hn:fn.ntmps=n) (hk:Nat.ble vs.length n=true) {Ψ0 H0:Hp} (w0:av Ψ0 H0 [])
    (h:P.funcs[f]?=some fn→WT ⟨P,f,n,R⟩ [.code c] (qV 0 vs) (St w0 H0 [] [])):Calls P f vs.toArray w0.w R:=
  eL (L:=[]) hf hb hn hk w0 h
end Go.Proofs.YtedmfnmbjglmbaaGreat.Eng
