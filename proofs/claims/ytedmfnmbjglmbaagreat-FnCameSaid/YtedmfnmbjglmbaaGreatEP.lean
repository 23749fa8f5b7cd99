/-
  The engine, part P: shorter forms of single steps.
  Nothing here names a program.
-/
import Derived.Test.YtedmfnmbjglmbaaGreatEO
namespace Go.Proofs.YtedmfnmbjglmbaaGreat.Eng
open Go.RowKit (Below wrap64)
set_option linter.unusedVariables false
set_option linter.unusedSimpArgs false

variable {g:G} {k:List Item} {ops:Array Oper} {rest:List Oper} {l:Env} {Ψ0 H0:Hp} {B0:List Nat} {w0:aD Ψ0 H0 B0} {Φ Φ':Hp} {O:gY} {L:List (List Nat)} {w w':World} {S:World→Prop} {o:Oper} {d:Nat}

def ldX (o:Oper) (n:Nat) (l:Env) (cs:List Value) (i m:Nat):Option (Nat × Value × Nat × Value):=match o.op with
  | .load t x=>(match opv l x,dq o n,(match m with
      | 0=>(match cs.drop i with
        | v :: _=>some v
        | []=>none)
      | m+1=>(match tk (m+1) (cs.drop i) with
        | some xs=>some (.agg xs.toArray)
        | none=>none)) with
    | some u,some d,some v=>some (t,u,d,v)
    | _,_,_=>none)
  | _=>none
def TX (P:Program) (t m:Nat):Bool:=match m with
  | 0=>T1 P t
  | m+1=>Tn P t (m+1)
theorem lgw (i m:Nat) {t b p:Nat} {cs:List Value} {v:Value} {e:Hp} (f:∀ w,S w→In e w) (j:rg e b p cs) (h:ldX o g.n l cs i m=some (t,.pointer (some ⟨b,p+i,none⟩),d,v)) (n:TX g.P t m=true)
    (hk:WL g k ops rest ((d,v) :: l) S):WL g k ops (o :: rest) l S:=by
  unfold ldX at h
  split at h
  · rename_i D x q
    split at h
    · rename_i u E F s y c
      cases h
      cases m with
      | zero=>
        simp only at c
        split at c
        · rename_i a r z
          cases c
          have h1:rg e b (p+i) [v]:=j.of_eq i 1 rfl (by rw[z];simp)
          exact lq (by rw[q];exact aZ n s (fun w hw=>h1.rangeAt (f w hw))) y hk
        · cases c
      | succ m=>
        simp only at c
        split at c
        · rename_i xs A
          cases c
          obtain⟨B,C⟩:=xm _ _ A
          have h1:rg e b (p+i) xs:=j.of_eq i (m+1) rfl B
          exact lq (by rw[q];exact aw n s (fun w hw=>h1.rangeAt (f w hw)) C) y hk
        · cases c
    · cases h
  · cases h
theorem lgx (i m:Nat) {t b p:Nat} {cs:List Value} {v:Value} (a:rg Φ b p cs) (h:ldX o g.n l cs i m=some (t,.pointer (some ⟨b,p+i,none⟩),d,v))
    (hk:WL g k ops rest ((d,v) :: l) (St w0 Φ O L)) (c:TX g.P t m=true:=by kernel_rfl):WL g k ops (o :: rest) l (St w0 Φ O L):=lgw i m (fun w hw=>hw.fro) a h c hk
theorem lhx (i m:Nat) {t b p:Nat} {cs:List Value} {v:Value} (a:rg Ψ0 b p cs) (h:ldX o g.n l cs i m=some (t,.pointer (some ⟨b,p+i,none⟩),d,v))
    (hk:WL g k ops rest ((d,v) :: l) (St w0 Φ O L)) (c:TX g.P t m=true:=by kernel_rfl):WL g k ops (o :: rest) l (St w0 Φ O L):=lgw i m (fun w hw=>hw.in0) a h c hk
def Jw (o:Oper) (n:Nat) (l:Env):Option (Nat × Value × Nat):=match o.op with
  | .call ⟨.builtin .len,⟨[x]⟩,⟨[t]⟩⟩=>(match opv l x,dq o n with
    | some v,some d=>some (t,v,d)
    | _,_=>none)
  | _=>none
def JA (P:Program) (t:Nat):Bool:=match P.underlying t with
  | some (.slice _)=>true
  | _=>false
theorem lnf {t n:Nat} {v:Value} (b:∃ p c,v = .slice p n c) (h:Jw o g.n l=some (t,v,d)) (f:JA g.P t=true) (hk:WL g k ops rest ((d,.int .i64 n) :: l) S):WL g k ops (o :: rest) l S:=by
  unfold Jw at h
  split at h
  · rename_i x s j
    split at h
    · rename_i u y q r
      cases h
      obtain⟨p,c,rfl⟩:=b
      refine lq (v:=.int .i64 n) (fun m a w o' i b hw=>?_) r hk
      have hu:∃ e,g.P.underlying t=some (.slice e):=by unfold JA at f;split at f <;> simp_all
      obtain⟨z,hu⟩:=hu
      rw[j] at i
      unfold execOp;simp only[i,resolve]
      simp[invoke,builtin,Builtin.len_,b.eval q,Sem.run_bind,run_underlying hu,goInt]
    · cases h
  · cases h
theorem lnr {α:Type} {R:Hp→List Nat→List Value→α→Prop} {sz:Nat} {a:Hp} {F:List Nat} {v:Value} {xs:List α} {t:Nat} (b:RSl R sz a F v xs) (h:Jw o g.n l=some (t,v,d)) (hk:WL g k ops rest ((d,.int .i64 xs.length) :: l) S) (e:JA g.P t=true:=by kernel_rfl):WL g k ops (o :: rest) l S:=
  lnf (by obtain⟨p,c,hp,_⟩:=b.form;exact⟨p,c,hp⟩) h e hk
theorem lno {α:Type} {R:Hp→List Nat→List Value→α→Prop} {e sz:Nat} {a:Hp} {F:List Nat} {v:Value} {xs:List α} {t:Nat} (b:OSl R e sz a F v xs) (h:Jw o g.n l=some (t,v,d)) (hk:WL g k ops rest ((d,.int .i64 xs.length) :: l) S) (f:JA g.P t=true:=by kernel_rfl):WL g k ops (o :: rest) l S:=
  lnf (by obtain⟨p,c,hp,_⟩:=b.form;exact⟨p,c,hp⟩) h f hk
def ixO (o:Oper) (n:Nat) (l:Env):Option (Nat × Value × Value × Nat):=match o.op with
  | .indexAddr t x a=>(match opv l x,opv l a,dq o n with
    | some v,some i,some d=>some (t,v,i,d)
    | _,_,_=>none)
  | _=>none
def SlZ (P:Program) (t sz:Nat):Bool:=match P.underlying t with
  | some (.slice e)=>Sl P t e sz
  | _=>false
theorem SlZ.sl {P:Program} {t sz:Nat} (h:SlZ P t sz=true):∃ e,Sl P t e sz=true:=by
  unfold SlZ at h
  split at h
  · exact⟨_,h⟩
  · cases h
theorem Co {n t d:Nat} {v i:Value} (h:ixO o n l=some (t,v,i,d)):∃ x a,o.op = .indexAddr t x a∧opv l x=some v∧opv l a=some i∧dq o n=some d:=by
  unfold ixO at h
  split at h
  · rename_i c x a b
    split at h
    · cases h;exact⟨x,a,b,by assumption,by assumption,by assumption⟩
    · cases h
  · cases h
theorem lia {α:Type} {R:Hp→List Nat→List Value→α→Prop} {sz:Nat} {a:Hp} {F:List Nat} {v:Value} {xs:List α} {t:Nat} {i:Int} {y:α} (b:RSl R sz a F v xs) (c:idx xs i=some y) (h:ixO o g.n l=some (t,v,.int .i64 i,d))
    (hk:WL g k ops rest ((d,.pointer (some ⟨sb v,so v+i.toNat*sz,none⟩)) :: l) S) (f:SlZ g.P t sz=true:=by kernel_rfl):WL g k ops (o :: rest) l S:=by
  obtain⟨x,q,j,m,n,p⟩:=Co h
  obtain⟨e,he⟩:=SlZ.sl f
  exact lq (by rw[j];exact an he m n b c) p hk
theorem lio {α:Type} {R:Hp→List Nat→List Value→α→Prop} {e sz:Nat} {a:Hp} {F:List Nat} {v:Value} {xs:List α} {t:Nat} {i:Int} {y:α} (b:OSl R e sz a F v xs) (c:idx xs i=some y) (h:ixO o g.n l=some (t,v,.int .i64 i,d))
    (hk:WL g k ops rest ((d,.pointer (some ⟨sb v,so v+i.toNat*sz,none⟩)) :: l) S) (f:SlZ g.P t sz=true:=by kernel_rfl):WL g k ops (o :: rest) l S:=lia b.rsl c h hk f
theorem lih {α:Type} {R:Hp→List Nat→List Value→α→Prop} {e sz j:Nat} {a:Hp} {D:List Nat} {v:Value} {xs:List α} {cs:List Value} {t:Nat} {i:Int} {y:α} (b:HSl R e sz a D v xs j cs) (c:idx xs i=some y) (h:ixO o g.n l=some (t,v,.int .i64 i,d))
    (hk:WL g k ops rest ((d,.pointer (some ⟨sb v,so v+i.toNat*sz,none⟩)) :: l) S) (f:Sl g.P t e sz=true:=by kernel_rfl):WL g k ops (o :: rest) l S:=by
  obtain⟨x,r,m,n,p,q⟩:=Co h
  exact lq (by rw[m];exact cQ f n p b c) q hk
def bxO (o:Oper) (n:Nat) (l:Env):Option (Nat × Value × Nat):=match o.op with
  | .box t x=>(match opv l x,dq o n with
    | some v,some d=>some (t,v,d)
    | _,_=>none)
  | _=>none
def azO (o:Oper) (n:Nat):Option (Nat × Nat):=match o.op with
  | .alloc t=>(match dq o n with
    | some d=>some (t,d)
    | _=>none)
  | _=>none
theorem lbx {T:Nat} {C:Array Value} (h:bxO o g.n l=some (T,.agg C,d)) (hk:∀ b,WL g k ops rest ((d,.pointer (some ⟨b,0,none⟩)) :: l) (St w0 Φ ((b,.cells C T (0,0)) :: O) L)):WL g k ops (o :: rest) l (St w0 Φ O L):=by
  unfold bxO at h
  split at h
  · rename_i t x a
    split at h
    · rename_i v f c e
      cases h
      exact ln (by rw[a];exact nb c) e hk
    · cases h
  · cases h
theorem lnz {T:Nat} {C:Array Value} (a:Zr g.P T (.agg C)) (h:azO o g.n=some (T,d)) (hk:∀ b,WL g k ops rest ((d,.pointer (some ⟨b,0,none⟩)) :: l) (St w0 Φ ((b,.cells C T (0,0)) :: O) L)):WL g k ops (o :: rest) l (St w0 Φ O L):=by
  unfold azO at h
  split at h
  · rename_i t c
    split at h
    · rename_i f e
      cases h
      exact ln (by rw[c];exact nz a) e hk
    · cases h
  · cases h
theorem ch {β:Type} {a b z:β} {c:Operand} {x y:Code} {t:Bool} (h:(if t=true then a else b)=z) (d:opv l c=some (.bool t)) (h1:a=z→WT g (.code x :: k) l S) (e:b=z→WT g (.code y :: k) l S):WT g (.code (.cond c x y) :: k) l S:=
  cdh d h (fun _=>h1) (fun _=>e)
theorem sp {β:Type} {a c z:β} (d:Nat) {b:Bool} (h:(if b=true then a else c)=z) (e:lk l d=some (.bool b)) (h1:a=z→WL g k ops rest ((d,.bool true) :: l) S) (f:c=z→WL g k ops rest ((d,.bool false) :: l) S):WL g k ops rest l S:=
  spl d e h (fun _=>h1) (fun _=>f)
section
variable {f:Nat} {xs:List Operand} {ts:Array TypeId} {vs:List Value} {α β:Type} {m:Option α} {F:α→Option β} {r:β}
theorem qc {v:α→Value} (h:m.bind F=some r) (a:∀ {x} (b:aD Φ Φ []),m=some x→Calls g.P f vs.toArray b.w (lw (v x) b.w)) (c:o.op = .call ⟨.value (.func f),xs.toArray,ts⟩) (e:pm l xs=some vs) (i:dq o g.n=some d)
    (hk:∀ x,F x=some r→WL g k ops rest ((d,v x) :: l) (St w0 Φ O L)) (j:Fun g.P f=true:=by kernel_rfl):WL g k ops (o :: rest) l (St w0 Φ O L):=by
  obtain⟨x,h1,n⟩:=bs h
  exact pc c e (fun b=>a b h1) i (hk x n) j
theorem qd {v:α→Value} (h:m.bind F=some r) (a:∀ {x} (b:aD Ψ0 Ψ0 []),m=some x→Calls g.P f vs.toArray b.w (lw (v x) b.w)) (c:o.op = .call ⟨.value (.func f),xs.toArray,ts⟩) (e:pm l xs=some vs) (i:dq o g.n=some d)
    (hk:∀ x,F x=some r→WL g k ops rest ((d,v x) :: l) (St w0 Φ O L)) (j:Fun g.P f=true:=by kernel_rfl):WL g k ops (o :: rest) l (St w0 Φ O L):=by
  obtain⟨x,h1,n⟩:=bs h
  exact pd c e (fun b=>a b h1) i (hk x n) j
theorem qz {v:α→Value} (h:m.bind F=some r) (a:∀ {x} (b:aD Φ Φ []),Up Ψ0 Φ→m=some x→Calls g.P f vs.toArray b.w (lw (v x) b.w)) (c:o.op = .call ⟨.value (.func f),xs.toArray,ts⟩) (e:pm l xs=some vs) (i:dq o g.n=some d)
    (hk:∀ x,F x=some r→WL g k ops rest ((d,v x) :: l) (St w0 Φ O L)) (j:Fun g.P f=true:=by kernel_rfl):WL g k ops (o :: rest) l (St w0 Φ O L):=by
  obtain⟨x,h1,n⟩:=bs h
  exact pz c e (fun b z=>a b z h1) i (hk x n) j
theorem kcb (js:List Nat) {R As:List (List Nat)} {Q:α→Hp→List (List Nat)→Value→Prop} (h:m.bind F=some r) (a:o.op = .call ⟨.value (.func f),xs.toArray,ts⟩) (c:pm l xs=some vs) (hp:Eng.pick js L=some (As,R)) (e:dq o g.n=some d)
    (i:∀ {x} (b:aD (off Φ As.flatten) Φ As.flatten),Ap w0 O As R→Up Ψ0 (off Φ As.flatten)→m=some x→Calls g.P f vs.toArray b.w (bc Φ b.w As.flatten (Q x)))
    (hk:∀ x,F x=some r→∀ v Φ' Fs,Ap w0 O As R∧FrH As.flatten Φ Φ'∧Q x Φ' Fs v→WL g k ops rest ((d,v) :: l) (St w0 Φ' O (Fs++R))) (j:Fun g.P f=true:=by kernel_rfl):WL g k ops (o :: rest) l (St w0 Φ O L):=by
  obtain⟨x,h1,n⟩:=bs h
  exact kc js a c hp (fun b ap z=>i b ap z h1) e (hk x n) j
theorem kab {Q:α→Hp→List (List Nat)→Value→Prop} (h:m.bind F=some r) (a:o.op = .call ⟨.value (.func f),xs.toArray,ts⟩) (c:pm l xs=some vs) (e:dq o g.n=some d)
    (i:∀ {x} (b:aD Φ Φ []),Up Ψ0 Φ→m=some x→Calls g.P f vs.toArray b.w (bc Φ b.w [] (Q x)))
    (hk:∀ x,F x=some r→∀ v Φ' Fs,Ap w0 O [] L∧FrH [] Φ Φ'∧Q x Φ' Fs v→WL g k ops rest ((d,v) :: l) (St w0 Φ' O (Fs++L))) (j:Fun g.P f=true:=by kernel_rfl):WL g k ops (o :: rest) l (St w0 Φ O L):=by
  obtain⟨x,h1,n⟩:=bs h
  exact ka a c (fun b z=>i b z h1) e (hk x n) j
variable {P:Program} {v:Value} {Q:Hp→List (List Nat)→Value→Prop} {As R:List (List Nat)}
theorem pcP (a:pm l xs=some vs) (h:∀ b:aD Φ Φ [],Calls P f vs.toArray b.w (lw v b.w)) (c:Fun P f=true:=by kernel_rfl):OpP P (.call ⟨.value (.func f),xs.toArray,ts⟩) l (St w0 Φ O L) v:=jk c a (fun w hw=>h (ba hw.fro))
theorem pdP (a:pm l xs=some vs) (h:∀ b:aD Ψ0 Ψ0 [],Calls P f vs.toArray b.w (lw v b.w)) (c:Fun P f=true:=by kernel_rfl):OpP P (.call ⟨.value (.func f),xs.toArray,ts⟩) l (St w0 Φ O L) v:=jk c a (fun w hw=>h (ba hw.in0))
theorem pzP (a:pm l xs=some vs) (h:∀ b:aD Φ Φ [],Up Ψ0 Φ→Calls P f vs.toArray b.w (lw v b.w)) (c:Fun P f=true:=by kernel_rfl):OpP P (.call ⟨.value (.func f),xs.toArray,ts⟩) l (St w0 Φ O L) v:=jk c a (fun w hw=>h (ba hw.fro) hw.up)
end
section
variable {kp:Nat→Bool} {fuel:Nat} {done:List Nat} {Φ0:Hp} {O':gY}
def kb (ls:List Nat) (i:Nat):Bool:=!(ls.contains i)
theorem nk {p:Prop} (h:false=true):p:=by cases h
theorem kN (js:List Nat) (h:pks js O=some O':=by rfl):∀ w,St w0 Φ O L w→Kn w0 Φ0 [] O' w:=kn Kf.nil (am js h)
theorem kB {p:Prop} {a:Nat→gY} (js:List Nat) (h:∀ b,pks js (a b)=some O':=by intro b;rfl):p→∀ b w,St w0 Φ (a b) L w→Kn w0 Φ0 [] O' w:=fun _ b w hw=>kN js (h b) w hw
theorem kS {p:Prop} (js:List Nat) (h:pks js O=some O':=by rfl):p→∀ w,St w0 Φ O L w→Kn w0 Φ0 [] O' w:=fun _ w hw=>kN js h w hw
theorem on1 {a:World→Prop} (i:Nat) (h:WI g k ops S kp fuel done i l a) (b:Region.ready .any ops (lst ops done)=[i]:=by kernel_rfl):WM g k ops S kp (fuel+1) done l a:=WM.one i b h
theorem wm {id:Nat} {os:List Oper} (js a:List Nat) (hO:pks js O=some O') (h:WM g k os.toArray (Kn w0 Φ [] O') (kb a) os.length [] l (St w0 Φ O L)) (hm:g.P.follows .mixedOrders=true:=by kernel_rfl):WT g (.code (.region id os.toArray true) :: k) l (St w0 Φ O L):=
  WT.mix _ _ hm (fun _ h=>h.drew) h
theorem msN (i:Nat) {j t n b p T:Nat} {c C' vs:List Value} {a:gY} (d:ops[j]?=some o) (e:kp j=true→∀ w,St w0 Φ a L w→S w) (f:Sz g.P t n=true) (h:stO o l O i=some (t,b,b,p,c.toArray,T,(0,0),.agg vs.toArray)) (h1:One vs) (m:vs.length=n)
    (q:dz o=true) (hk:WM g k ops S kp fuel (j :: done) l (St w0 Φ a L)) (hp:Put p vs c C':=by repeat constructor) (hO:zp i (b,.cells C'.toArray T (0,0)) O a:=by repeat constructor):WI g k ops S kp fuel done j l (St w0 Φ O L):=by
  obtain⟨x,y,r,s,u,v,A⟩:=vl h
  obtain⟨z,B⟩:=hp.eq
  exact ms d e (by rw[r];exact xB f s v u (vs:=vs) rfl m (Nat.ble_eq_true_of_le (by simp;omega)) h1 z hO.eq) q hk
theorem msK (i:Nat) (js:List Nat) {j t n b p T:Nat} {c C' vs:List Value} {a:gY} (d:ops[j]?=some o) (e:Sz g.P t n=true) (h:stO o l O i=some (t,b,b,p,c.toArray,T,(0,0),.agg vs.toArray)) (h1:One vs) (f:vs.length=n)
    (m:dz o=true) (hk:WM g k ops (Kn w0 Φ0 [] O') kp fuel (j :: done) l (St w0 Φ a L)) (hp:Put p vs c C':=by repeat constructor) (hO:zp i (b,.cells C'.toArray T (0,0)) O a:=by repeat constructor) (q:pks js a=some O':=by rfl):WI g k ops (Kn w0 Φ0 [] O') kp fuel done j l (St w0 Φ O L):=
  msN i d (kS js q) e h h1 f m hk hp hO
def M5 (ops:Array Oper) (done:List Nat) (i:Nat):List Nat:=(List.range ops.size).foldl (fun acc j=>bif j == i || (lst ops done).getD j true then acc else (match ops[j]? with
  | some a=>bif a.after.any (fun e=>Region.binds .any e && (e.on == i || acc.contains e.on)) then j :: acc else acc
  | none=>acc)) []
def Dx (ops:Array Oper) (O:gY) (n:Nat):Nat→List Nat→List Nat→Env→List Nat→List Nat→List Fa→List (List Nat × Nat)→Option (List Nat × Env × List Nat × List Nat × List Fa × List (List Nat × Nat))
  | 0,_,done,l,bs,a,c,e=>some (done,l,bs,a,c,e)
  | m+1,i :: is,done,l,bs,a,c,e=>(match ops[i]? with
    | some o=>(match dq o n,op1 O l is o.op with
      | some d,some (v,g,none,f)=>Dx ops O n m g (i :: done) ((d,v) :: l) bs a (f++c) ((done,i) :: e)
      | some d,some (v,g,some (b,h),f)=>Dx ops O n m g (i :: done) ((d,v) :: l) (b :: bs) (h :: a) (f++c) ((done,i) :: e)
      | _,_=>none)
    | none=>none)
  | _+1,[],_,_,_,_,_,_=>none
def qsB (ops:Array Oper) (kp:Nat→Bool) (a:List (List Nat × Nat)):Bool:=a.all fun q=>qBT ops kp q.1 q.2 (M5 ops q.1 q.2)
theorem Hl {l:Env} {is c:List Nat} {op:Op} {v:Value} {e:Option (Nat × Nat)} {d:List Fa} {F:List Nat} (h:op1 O' l is op=some (v,c,e,d)) (he:∀ p∈e,p.1=p.2) (a:∀ f∈d,fa1 g.P f=true):OpQ g.P op l (Kn w0 Φ0 F O') v:=by
  unfold op1 at h
  split at h
  · split at h
    · cases h
      exact ax (a _ (hY.2 rfl)) (by assumption)
    · cases h
  · split at h
    · split at h
      · rename_i t x _ _ b p j c i _ k C T r hO
        split at h
        · split at h
          · rename_i s vs n
            cases h
            obtain rfl:b=k:=he _ rfl
            exact aZ (a _ (hY.2 rfl)) i (fun w hw=>hw.rgO hO p 1 [v] (by rw[n];simp))
          · cases h
        · rename_i m hm
          split at h
          · rename_i xs o
            cases h
            obtain rfl:b=k:=he _ rfl
            obtain⟨h1,q⟩:=xm _ _ o
            exact aw (a _ (hY.2 rfl)) i (fun w hw=>hw.rgO hO p (m+1) xs (by rw[h1])) q
          · cases h
      · cases h
    · cases h
  · split at h
    · cases h;exact BK (by assumption)
    · cases h
theorem vt:∀ (m:Nat) {is done j:List Nat} {l l':Env} {bs a X b:List Nat} {c F:List Fa} {d e:List (List Nat × Nat)},Dx ops O' g.n m is done l bs a c d=some (j,l',X,b,F,e)→(X=b→bs=a)∧(∀ f∈c,f∈F)∧∀ q∈d,q∈e
  | 0,is,done,j,l,l',bs,a,X,b,c,F,d,e,h=>by cases h;exact⟨id,fun _ h=>h,fun _ h=>h⟩
  | m+1,[],done,j,l,l',bs,a,X,b,c,F,d,e,h=>by cases h
  | m+1,i :: is,done,j,l,l',bs,a,X,b,c,F,d,e,h=>by
    unfold Dx at h
    split at h
    · split at h
      · obtain⟨h1,k,n⟩:=vt m h
        exact⟨h1,fun f o=>k f (gb.2 (.inr o)),fun q p=>n q (O3 _ p)⟩
      · obtain⟨h1,k,n⟩:=vt m h
        exact⟨fun r=>(List.cons.inj (h1 r)).2,fun f o=>k f (gb.2 (.inr o)),fun q p=>n q (O3 _ p)⟩
      · cases h
    · cases h
theorem B8 {u:List Nat} (n:∀ w,St w0 Φ O L w→Kn w0 Φ0 u O' w):∀ (m:Nat) {is done e:List Nat} {l l':Env} {bs r X:List Nat} {s F:List Fa} {t j:List (List Nat × Nat)},Dx ops O' g.n m is done l bs r s t=some (e,l',X,X,F,j)→(∀ f∈F,fa1 g.P f=true) →
    (∀ q∈j,qBT ops kp q.1 q.2 (M5 ops q.1 q.2)=true)→WM g k ops (Kn w0 Φ0 u O') kp fuel e l' (St w0 Φ O L)→WM g k ops (Kn w0 Φ0 u O') kp (fuel+m) done l (St w0 Φ O L)
  | 0,is,done,e,l,l',bs,r,X,s,F,t,j,h,a,c,hk=>by cases h;exact hk
  | m+1,[],done,e,l,l',bs,r,X,s,F,t,j,h,a,c,hk=>by cases h
  | m+1,i :: is,done,e,l,l',bs,r,X,s,F,t,j,h,a,c,hk=>by
    unfold Dx at h
    split at h
    · rename_i o B
      split at h
      · rename_i d v C f x y
        obtain⟨h1,z,A⟩:=vt m h
        exact mqT i _ B (c _ (A _ (List.mem_cons_self ..))) n (Hl y NS (fun f hm=>a f (z f (gb.2 (.inl hm))))) x (B8 n m h a c hk)
      · rename_i d v C b D f x y
        obtain⟨h1,z,A⟩:=vt m h
        refine mqT i _ B (c _ (A _ (List.mem_cons_self ..))) n (Hl y (fun p hp=>?_) (fun f hm=>a f (z f (gb.2 (.inl hm))))) x (B8 n m h a c hk)
        obtain rfl:=Option.mem_some_iff.1 hp
        exact (List.cons.inj (h1 rfl)).1
      · cases h
    · cases h
theorem amm (m:Nat) (is js:List Nat) {a bs:List Nat} {l':Env} {b:List Fa} {c:List (List Nat × Nat)} (hO:pks js O=some O') (h:Dx ops O' g.n m is done l [] [] [] []=some (a,l',bs,bs,b,c))
    (hk:WM g k ops (Kn w0 Φ0 [] O') kp fuel a l' (St w0 Φ O L)) (d:fas g.P b=true:=by kernel_rfl) (e:qsB ops kp c=true:=by kernel_rfl):WM g k ops (Kn w0 Φ0 [] O') kp (fuel+m) done l (St w0 Φ O L):=
  B8 (kN js hO) m h (qi d) (List.all_eq_true.1 e) hk
end
abbrev pQ (b:Nat):Value:=.pointer (some ⟨b,0,none⟩)
abbrev iV (x:Int):Value:=.int .i64 x
abbrev CB {Ψ H:Hp} {B:List Nat} (w0:aD Ψ H B) (P:Program) (f:Nat) (vs:List Value) (v:Value):Prop:=Calls P f vs.toArray w0.w (lw v w0.w)
theorem eN {P:Program} {fn:Func} {n f:Nat} {c:Code} {vs:List Value} {R:Ending→World→Prop} (a:P.funcs[f]?=some fn) (b:fn.body=some c) (d:fn.ntmps=n) (hk:Nat.ble vs.length n=true) {Ψ0 H0:Hp} (w0:aD Ψ0 H0 [])
    (h:P.funcs[f]?=some fn→WT ⟨P,f,n,R⟩ [.code c] (sC 0 vs) (St w0 H0 [] [])):Calls P f vs.toArray w0.w R:=
  eL (L:=[]) a b d hk w0 h
end Go.Proofs.YtedmfnmbjglmbaaGreat.Eng
