/- Printed by a program of ours: Lean functions of plain data for the Go functions. -/
import Derived.Test.YtedmfnmbjglmbaaGreatEN
import Derived.Test.YtedmfnmbjglmbaaGreatES
namespace Go.Proofs.YtedmfnmbjglmbaaGreat
open Eng IntKind
set_option linter.unusedVariables false
set_option linter.unusedSimpArgs false

structure bn where
  K:Int
  N:Int
  S:ByteArray
  deriving DecidableEq
def aS (a:Hp) (F:List Nat) (cs:List Value) (x:bn):Prop:=cs=[.int .i64 x.K,.int .i64 x.N,.string x.S]∧F=[]
theorem aS.lasts:cw aS:=fun _ _ _ _ _ _ _ _ h=>h
instance:LS aS:=⟨aS.lasts⟩
theorem aS.knows:dB aS:=fun _ _ _ _ h=>h.2 ▸ Kw.nil
theorem aS.flat:wL aS:=fun _ _ _ _ h=>h.2
theorem aS.one:gJ aS:=fun _ _ _ _ h=>by obtain⟨rfl,-⟩:=h;exact One.all ⟨rfl,rfl,rfl,trivial⟩
structure bZ where
  K:Int
  S:ByteArray
  V:bn
  deriving DecidableEq
def f8 (a:Hp) (F:List Nat) (cs:List Value) (x:bZ):Prop:=cs=[.int .i64 x.K,.string x.S,.int .i64 x.V.K,.int .i64 x.V.N,.string x.V.S]∧F=[]
theorem f8.lasts:cw f8:=fun _ _ _ _ _ _ _ _ h=>h
instance:LS f8:=⟨f8.lasts⟩
theorem f8.knows:dB f8:=fun _ _ _ _ h=>h.2 ▸ Kw.nil
theorem f8.flat:wL f8:=fun _ _ _ _ h=>h.2
theorem f8.one:gJ f8:=fun _ _ _ _ h=>by obtain⟨rfl,-⟩:=h;exact One.all ⟨rfl,rfl,rfl,rfl,rfl,trivial⟩
structure az where
  Kind:ByteArray
  Args:(List bZ)
  Not:Bool
  deriving DecidableEq
def cI (c:Hp) (F:List Nat) (cs:List Value) (x:az):Prop:=
  ∃ (a:Value) (b:List Nat),cs=[.string x.Kind,a,.bool x.Not]∧F=b∧RSl f8 5 c b a x.Args
theorem cI.lasts:cw cI:=fun X h i F cs x c a ⟨d,e,f,b,g⟩=>by
  rw[b] at a
  exact⟨d,e,f,b,g.frame f8.lasts c (fun k hk=>a k (by simp[hk]))⟩
instance:LS cI:=⟨cI.lasts⟩
theorem cI.knows:dB cI:=fun c F cs x ⟨d,e,f,a,b⟩=>a ▸ b.kn
theorem cI.one:gJ cI:=fun _ _ _ _ h=>by obtain⟨b,c,rfl,-,a⟩:=h;exact One.all ⟨rfl,a.one,rfl,trivial⟩
def eE (b:Hp) (F:List Nat) (cs:List Value) (x:az):Prop:=
  ∃ (a:Value),cs=[.string x.Kind,a,.bool x.Not]∧F=(ob a++[])∧OSl f8 171 5 b [] a x.Args
theorem eE.lasts:cw eE:=fun X g h F cs x c a ⟨d,e,b,f⟩=>by
  rw[b] at a
  exact⟨d,e,b,f.frame f8.lasts c (fun k hk=>a k (by simp[hk])) (Dj.nil _)⟩
instance:LS eE:=⟨eE.lasts⟩
theorem eE.knows:dB eE:=fun c F cs x ⟨d,e,b,a⟩=>b ▸ (a.knO.app a.kn)
theorem eE.one:gJ eE:=fun _ _ _ _ h=>by obtain⟨b,rfl,-,a⟩:=h;exact One.all ⟨rfl,a.one,rfl,trivial⟩
theorem eE.gives:ey eE cI:=fun e F cs x ⟨a,b,c,d⟩=>⟨a,ob a++[],b,c,d.rslG (ey.refl _)⟩
structure cX where
  Op:Int
  L:bZ
  R:bZ
  deriving DecidableEq
def bT (a:Hp) (F:List Nat) (cs:List Value) (x:cX):Prop:=cs=[.int .i64 x.Op,.int .i64 x.L.K,.string x.L.S,.int .i64 x.L.V.K,.int .i64 x.L.V.N,.string x.L.V.S,.int .i64 x.R.K,.string x.R.S,.int .i64 x.R.V.K,.int .i64 x.R.V.N,.string x.R.V.S]∧F=[]
theorem bT.lasts:cw bT:=fun _ _ _ _ _ _ _ _ h=>h
instance:LS bT:=⟨bT.lasts⟩
theorem bT.knows:dB bT:=fun _ _ _ _ h=>h.2 ▸ Kw.nil
theorem bT.flat:wL bT:=fun _ _ _ _ h=>h.2
theorem bT.one:gJ bT:=fun _ _ _ _ h=>by obtain⟨rfl,-⟩:=h;exact One.all ⟨rfl,rfl,rfl,rfl,rfl,rfl,rfl,rfl,rfl,rfl,rfl,trivial⟩
structure d5 where
  Op:ByteArray
  L:bZ
  R:bZ
  deriving DecidableEq
def de (a:Hp) (F:List Nat) (cs:List Value) (x:d5):Prop:=cs=[.string x.Op,.int .i64 x.L.K,.string x.L.S,.int .i64 x.L.V.K,.int .i64 x.L.V.N,.string x.L.V.S,.int .i64 x.R.K,.string x.R.S,.int .i64 x.R.V.K,.int .i64 x.R.V.N,.string x.R.V.S]∧F=[]
theorem de.lasts:cw de:=fun _ _ _ _ _ _ _ _ h=>h
instance:LS de:=⟨de.lasts⟩
theorem de.knows:dB de:=fun _ _ _ _ h=>h.2 ▸ Kw.nil
theorem de.flat:wL de:=fun _ _ _ _ h=>h.2
theorem de.one:gJ de:=fun _ _ _ _ h=>by obtain⟨rfl,-⟩:=h;exact One.all ⟨rfl,rfl,rfl,rfl,rfl,rfl,rfl,rfl,rfl,rfl,rfl,trivial⟩
structure ei where
  Kind:Int
  Name:ByteArray
  Args:(List d5)
  N:Int
  Undo:ByteArray
  deriving DecidableEq
def fm (c:Hp) (F:List Nat) (cs:List Value) (x:ei):Prop:=
  ∃ (a:Value) (b:List Nat),cs=[.int .i64 x.Kind,.string x.Name,a,.int .i64 x.N,.string x.Undo]∧F=b∧RSl de 11 c b a x.Args
theorem fm.lasts:cw fm:=fun X h i F cs x c a ⟨d,e,f,b,g⟩=>by
  rw[b] at a
  exact⟨d,e,f,b,g.frame de.lasts c (fun k hk=>a k (by simp[hk]))⟩
instance:LS fm:=⟨fm.lasts⟩
theorem fm.knows:dB fm:=fun c F cs x ⟨d,e,f,a,b⟩=>a ▸ b.kn
theorem fm.one:gJ fm:=fun _ _ _ _ h=>by obtain⟨b,c,rfl,-,a⟩:=h;exact One.all ⟨rfl,rfl,a.one,rfl,rfl,trivial⟩
def kA (b:Hp) (F:List Nat) (cs:List Value) (x:ei):Prop:=
  ∃ (a:Value),cs=[.int .i64 x.Kind,.string x.Name,a,.int .i64 x.N,.string x.Undo]∧F=(ob a++[])∧OSl de 216 11 b [] a x.Args
theorem kA.lasts:cw kA:=fun X g h F cs x c a ⟨d,e,b,f⟩=>by
  rw[b] at a
  exact⟨d,e,b,f.frame de.lasts c (fun k hk=>a k (by simp[hk])) (Dj.nil _)⟩
instance:LS kA:=⟨kA.lasts⟩
theorem kA.knows:dB kA:=fun c F cs x ⟨d,e,b,a⟩=>b ▸ (a.knO.app a.kn)
theorem kA.one:gJ kA:=fun _ _ _ _ h=>by obtain⟨b,rfl,-,a⟩:=h;exact One.all ⟨rfl,rfl,a.one,rfl,rfl,trivial⟩
theorem kA.gives:ey kA fm:=fun e F cs x ⟨a,b,c,d⟩=>⟨a,ob a++[],b,c,d.rslG (ey.refl _)⟩
structure ah where
  Name:ByteArray
  Sal:Int
  Pats:(List az)
  Conds:(List cX)
  Acts:(List ei)
  deriving DecidableEq
def eC (a:Hp) (F:List Nat) (cs:List Value) (x:ah):Prop:=
  ∃ (b:Value) (c:List Nat) (s1:Value) (d:List Nat) (s2:Value) (e:List Nat),cs=[.string x.Name,.int .i64 x.Sal,b,s1,s2]∧F=c++(d++(e))∧RSl cI 3 a c b x.Pats∧RSl bT 11 a d s1 x.Conds∧RSl fm 5 a e s2 x.Acts
theorem eC.lasts:cw eC:=fun X l m F cs x b a ⟨d,e,s1,f,s2,g,h,c,i,h1,j⟩=>by
  rw[c] at a
  exact⟨d,e,s1,f,s2,g,h,c,i.frame cI.lasts b (fun k hk=>a k (by simp[hk])),h1.frame bT.lasts b (fun k hk=>a k (by simp[hk])),j.frame fm.lasts b (fun k hk=>a k (by simp[hk]))⟩
instance:LS eC:=⟨eC.lasts⟩
theorem eC.knows:dB eC:=fun d F cs x ⟨e,f,s1,g,s2,h,i,a,b,h1,c⟩=>a ▸ (b.kn.app (h1.kn.app c.kn))
theorem eC.one:gJ eC:=fun _ _ _ _ h=>by obtain⟨c,d,s1,e,s2,f,rfl,-,a,h1,b⟩:=h;exact One.all ⟨rfl,rfl,a.one,h1.one,b.one,trivial⟩
def dI (a:Hp) (F:List Nat) (cs:List Value) (x:ah):Prop:=
  ∃ (b:Value) (c:List Nat) (s1:Value) (s2:Value) (d:List Nat),cs=[.string x.Name,.int .i64 x.Sal,b,s1,s2]∧F=(ob b++c)++((ob s1++[])++((ob s2++d)))∧OSl eE 201 3 a c b x.Pats∧OSl bT 173 11 a [] s1 x.Conds∧OSl kA 213 5 a d s2 x.Acts
theorem dI.lasts:cw dI:=fun X j l F cs x b a ⟨d,e,s1,s2,f,g,c,h,h1,i⟩=>by
  rw[c] at a
  exact⟨d,e,s1,s2,f,g,c,h.frame eE.lasts b (fun k hk=>a k (by simp[hk])) (fun k hk=>a k (by simp[hk])),h1.frame bT.lasts b (fun k hk=>a k (by simp[hk])) (Dj.nil _),i.frame kA.lasts b (fun k hk=>a k (by simp[hk])) (fun k hk=>a k (by simp[hk]))⟩
instance:LS dI:=⟨dI.lasts⟩
theorem dI.knows:dB dI:=fun d F cs x ⟨e,f,s1,s2,g,h,c,a,h1,b⟩=>c ▸ ((a.knO.app a.kn).app ((h1.knO.app h1.kn).app (b.knO.app b.kn)))
theorem dI.one:gJ dI:=fun _ _ _ _ h=>by obtain⟨c,d,s1,s2,e,rfl,-,a,h1,b⟩:=h;exact One.all ⟨rfl,rfl,a.one,h1.one,b.one,trivial⟩
theorem dI.gives:ey dI eC:=fun h F cs x ⟨a,b,s1,s2,c,d,e,f,h1,g⟩=>⟨a,ob a++b,s1,ob s1++[],s2,ob s2++c,d,e,f.rslG eE.gives,h1.rslG (ey.refl _),g.rslG kA.gives⟩
def bp (x y:bn):Bool:=((x.K == y.K) && ((x.N == y.N) && (seq x.S y.S && true)))
theorem BB (a b:ByteArray):seq a b=decide (a=b):=by
  unfold seq
  by_cases h:a=b
  · subst h;simp
  · have : ¬ a.toList=b.toList:=fun e=>h (by rw[ByteArray.toList_eq,ByteArray.toList_eq] at e;exact ByteArray.ext (Array.toList_inj.1 e))
    simp[h,this]
theorem hJ (x y:bn):bp x y=decide (x=y):=by
  obtain⟨a0,a,a2⟩:=x;obtain⟨b0,b,c⟩:=y
  rw[rs]
  simp only[bp,BB,q7,gI,beq_iff_eq,decide_eq_true_eq,bn.mk.injEq,and_assoc]
def om (x y:bZ):Bool:=((x.K == y.K) && (seq x.S y.S && ((x.V.K == y.V.K) && ((x.V.N == y.V.N) && (seq x.V.S y.V.S && true)))))

theorem DC (x y:bZ):om x y=decide (x=y):=by
  obtain⟨a0,a1,⟨a20,a21,a22⟩⟩:=x;obtain⟨b0,b1,⟨a,b,c⟩⟩:=y
  rw[rs]
  simp only[om,BB,q7,gI,beq_iff_eq,decide_eq_true_eq,bZ.mk.injEq,bn.mk.injEq,and_assoc]
structure bq where
  Name:ByteArray
  Rules:(List ah)
  deriving DecidableEq
def wi (c:Hp) (F:List Nat) (cs:List Value) (x:bq):Prop:=
  ∃ (a:Value) (b:List Nat),cs=[.string x.Name,a]∧F=b∧RSl eC 5 c b a x.Rules
theorem wi.lasts:cw wi:=fun X h i F cs x c a ⟨d,e,f,b,g⟩=>by
  rw[b] at a
  exact⟨d,e,f,b,g.frame eC.lasts c (fun k hk=>a k (by simp[hk]))⟩
instance:LS wi:=⟨wi.lasts⟩
theorem wi.knows:dB wi:=fun c F cs x ⟨d,e,f,a,b⟩=>a ▸ b.kn
theorem wi.one:gJ wi:=fun _ _ _ _ h=>by obtain⟨b,c,rfl,-,a⟩:=h;exact One.all ⟨rfl,a.one,trivial⟩
def uP (c:Hp) (F:List Nat) (cs:List Value) (x:bq):Prop:=
  ∃ (a:Value) (b:List Nat),cs=[.string x.Name,a]∧F=(ob a++b)∧OSl dI 87 5 c b a x.Rules
theorem uP.lasts:cw uP:=fun X h i F cs x c a ⟨d,e,f,b,g⟩=>by
  rw[b] at a
  exact⟨d,e,f,b,g.frame dI.lasts c (fun k hk=>a k (by simp[hk])) (fun k hk=>a k (by simp[hk]))⟩
instance:LS uP:=⟨uP.lasts⟩
theorem uP.knows:dB uP:=fun c F cs x ⟨d,e,f,b,a⟩=>b ▸ (a.knO.app a.kn)
theorem uP.one:gJ uP:=fun _ _ _ _ h=>by obtain⟨b,c,rfl,-,a⟩:=h;exact One.all ⟨rfl,a.one,trivial⟩
theorem uP.gives:ey uP wi:=fun f F cs x ⟨a,b,c,d,e⟩=>⟨a,ob a++b,c,d,e.rslG dI.gives⟩
structure aL where
  Kind:ByteArray
  Fields:(List bn)
  deriving DecidableEq
def sU (c:Hp) (F:List Nat) (cs:List Value) (x:aL):Prop:=
  ∃ (a:Value) (b:List Nat),cs=[.string x.Kind,a]∧F=b∧RSl aS 3 c b a x.Fields
theorem sU.lasts:cw sU:=fun X h i F cs x c a ⟨d,e,f,b,g⟩=>by
  rw[b] at a
  exact⟨d,e,f,b,g.frame aS.lasts c (fun k hk=>a k (by simp[hk]))⟩
instance:LS sU:=⟨sU.lasts⟩
theorem sU.knows:dB sU:=fun c F cs x ⟨d,e,f,a,b⟩=>a ▸ b.kn
theorem sU.one:gJ sU:=fun _ _ _ _ h=>by obtain⟨b,c,rfl,-,a⟩:=h;exact One.all ⟨rfl,a.one,trivial⟩
def rC (b:Hp) (F:List Nat) (cs:List Value) (x:aL):Prop:=
  ∃ (a:Value),cs=[.string x.Kind,a]∧F=(ob a++[])∧OSl aS 95 3 b [] a x.Fields
theorem rC.lasts:cw rC:=fun X g h F cs x c a ⟨d,e,b,f⟩=>by
  rw[b] at a
  exact⟨d,e,b,f.frame aS.lasts c (fun k hk=>a k (by simp[hk])) (Dj.nil _)⟩
instance:LS rC:=⟨rC.lasts⟩
theorem rC.knows:dB rC:=fun c F cs x ⟨d,e,b,a⟩=>b ▸ (a.knO.app a.kn)
theorem rC.one:gJ rC:=fun _ _ _ _ h=>by obtain⟨b,rfl,-,a⟩:=h;exact One.all ⟨rfl,a.one,trivial⟩
theorem rC.gives:ey rC sU:=fun e F cs x ⟨a,b,c,d⟩=>⟨a,ob a++[],b,c,d.rslG (ey.refl _)⟩
structure au where
  Id:Int
  F:aL
  deriving DecidableEq
def bm (c:Hp) (F:List Nat) (cs:List Value) (x:au):Prop:=
  ∃ (a:Value) (b:List Nat),cs=[.int .i64 x.Id,.string x.F.Kind,a]∧F=b∧RSl aS 3 c b a x.F.Fields
theorem bm.lasts:cw bm:=fun X h i F cs x c a ⟨d,e,f,b,g⟩=>by
  rw[b] at a
  exact⟨d,e,f,b,g.frame aS.lasts c (fun k hk=>a k (by simp[hk]))⟩
instance:LS bm:=⟨bm.lasts⟩
theorem bm.knows:dB bm:=fun c F cs x ⟨d,e,f,a,b⟩=>a ▸ b.kn
theorem bm.one:gJ bm:=fun _ _ _ _ h=>by obtain⟨b,c,rfl,-,a⟩:=h;exact One.all ⟨rfl,rfl,a.one,trivial⟩
def gz (b:Hp) (F:List Nat) (cs:List Value) (x:au):Prop:=
  ∃ (a:Value),cs=[.int .i64 x.Id,.string x.F.Kind,a]∧F=(ob a++[])∧OSl aS 95 3 b [] a x.F.Fields
theorem gz.lasts:cw gz:=fun X g h F cs x c a ⟨d,e,b,f⟩=>by
  rw[b] at a
  exact⟨d,e,b,f.frame aS.lasts c (fun k hk=>a k (by simp[hk])) (Dj.nil _)⟩
instance:LS gz:=⟨gz.lasts⟩
theorem gz.knows:dB gz:=fun c F cs x ⟨d,e,b,a⟩=>b ▸ (a.knO.app a.kn)
theorem gz.one:gJ gz:=fun _ _ _ _ h=>by obtain⟨b,rfl,-,a⟩:=h;exact One.all ⟨rfl,rfl,a.one,trivial⟩
theorem gz.gives:ey gz bm:=fun e F cs x ⟨a,b,c,d⟩=>⟨a,ob a++[],b,c,d.rslG (ey.refl _)⟩
structure af where
  Items:(List au)
  Next:Int
  deriving DecidableEq
def ph (c:Hp) (F:List Nat) (cs:List Value) (x:af):Prop:=
  ∃ (a:Value) (b:List Nat),cs=[a,.int .i64 x.Next]∧F=b∧RSl bm 3 c b a x.Items
theorem ph.lasts:cw ph:=fun X h i F cs x c a ⟨d,e,f,b,g⟩=>by
  rw[b] at a
  exact⟨d,e,f,b,g.frame bm.lasts c (fun k hk=>a k (by simp[hk]))⟩
instance:LS ph:=⟨ph.lasts⟩
theorem ph.knows:dB ph:=fun c F cs x ⟨d,e,f,a,b⟩=>a ▸ b.kn
theorem ph.one:gJ ph:=fun _ _ _ _ h=>by obtain⟨b,c,rfl,-,a⟩:=h;exact One.all ⟨a.one,rfl,trivial⟩
def o4 (c:Hp) (F:List Nat) (cs:List Value) (x:af):Prop:=
  ∃ (a:Value) (b:List Nat),cs=[a,.int .i64 x.Next]∧F=(ob a++b)∧OSl gz 66 3 c b a x.Items
theorem o4.lasts:cw o4:=fun X h i F cs x c a ⟨d,e,f,b,g⟩=>by
  rw[b] at a
  exact⟨d,e,f,b,g.frame gz.lasts c (fun k hk=>a k (by simp[hk])) (fun k hk=>a k (by simp[hk]))⟩
instance:LS o4:=⟨o4.lasts⟩
theorem o4.knows:dB o4:=fun c F cs x ⟨d,e,f,b,a⟩=>b ▸ (a.knO.app a.kn)
theorem o4.one:gJ o4:=fun _ _ _ _ h=>by obtain⟨b,c,rfl,-,a⟩:=h;exact One.all ⟨a.one,rfl,trivial⟩
theorem o4.gives:ey o4 ph:=fun f F cs x ⟨a,b,c,d,e⟩=>⟨a,ob a++b,c,d,e.rslG gz.gives⟩
structure ax where
  Kind:ByteArray
  N:Int
  Consts:(List bn)
  At:(List Int)
  deriving DecidableEq
def cP (a:Hp) (F:List Nat) (cs:List Value) (x:ax):Prop:=
  ∃ (b:Value) (c:List Nat) (s1:Value) (d:List Nat),cs=[.string x.Kind,.int .i64 x.N,b,s1]∧F=c++(d)∧RSl aS 3 a c b x.Consts∧RSl (RI .i64) 1 a d s1 x.At
theorem cP.lasts:cw cP:=fun X i j F cs x b a ⟨d,e,s1,f,g,c,h,h1⟩=>by
  rw[c] at a
  exact⟨d,e,s1,f,g,c,h.frame aS.lasts b (fun k hk=>a k (by simp[hk])),h1.frame RI.lasts b (fun k hk=>a k (by simp[hk]))⟩
instance:LS cP:=⟨cP.lasts⟩
theorem cP.knows:dB cP:=fun c F cs x ⟨d,e,s1,f,g,a,b,h1⟩=>a ▸ (b.kn.app h1.kn)
theorem cP.one:gJ cP:=fun _ _ _ _ h=>by obtain⟨b,c,s1,d,rfl,-,a,h1⟩:=h;exact One.all ⟨rfl,rfl,a.one,h1.one,trivial⟩
def dt (b:Hp) (F:List Nat) (cs:List Value) (x:ax):Prop:=
  ∃ (a:Value) (s1:Value),cs=[.string x.Kind,.int .i64 x.N,a,s1]∧F=(ob a++[])++((ob s1++[]))∧OSl aS 95 3 b [] a x.Consts∧OSl (RI .i64) 3 1 b [] s1 x.At
theorem dt.lasts:cw dt:=fun X g h F cs x b a ⟨d,s1,e,c,f,h1⟩=>by
  rw[c] at a
  exact⟨d,s1,e,c,f.frame aS.lasts b (fun k hk=>a k (by simp[hk])) (Dj.nil _),h1.frame RI.lasts b (fun k hk=>a k (by simp[hk])) (Dj.nil _)⟩
instance:LS dt:=⟨dt.lasts⟩
theorem dt.knows:dB dt:=fun c F cs x ⟨d,s1,e,b,a,h1⟩=>b ▸ ((a.knO.app a.kn).app (h1.knO.app h1.kn))
theorem dt.one:gJ dt:=fun _ _ _ _ h=>by obtain⟨b,s1,rfl,-,a,h1⟩:=h;exact One.all ⟨rfl,rfl,a.one,h1.one,trivial⟩
theorem dt.gives:ey dt cP:=fun e F cs x ⟨a,s1,b,c,d,h1⟩=>⟨a,ob a++[],s1,ob s1++[],b,c,d.rslG (ey.refl _),h1.rslG (ey.refl _)⟩
structure aJ where
  Pos:(List Int)
  Neg:(List Int)
  deriving DecidableEq
def fw (a:Hp) (F:List Nat) (cs:List Value) (x:aJ):Prop:=
  ∃ (b:Value) (c:List Nat) (s1:Value) (d:List Nat),cs=[b,s1]∧F=c++(d)∧RSl (RI .i64) 1 a c b x.Pos∧RSl (RI .i64) 1 a d s1 x.Neg
theorem fw.lasts:cw fw:=fun X i j F cs x b a ⟨d,e,s1,f,g,c,h,h1⟩=>by
  rw[c] at a
  exact⟨d,e,s1,f,g,c,h.frame RI.lasts b (fun k hk=>a k (by simp[hk])),h1.frame RI.lasts b (fun k hk=>a k (by simp[hk]))⟩
instance:LS fw:=⟨fw.lasts⟩
theorem fw.knows:dB fw:=fun c F cs x ⟨d,e,s1,f,g,a,b,h1⟩=>a ▸ (b.kn.app h1.kn)
theorem fw.one:gJ fw:=fun _ _ _ _ h=>by obtain⟨b,c,s1,d,rfl,-,a,h1⟩:=h;exact One.all ⟨a.one,h1.one,trivial⟩
def bI (b:Hp) (F:List Nat) (cs:List Value) (x:aJ):Prop:=
  ∃ (a:Value) (s1:Value),cs=[a,s1]∧F=(ob a++[])++((ob s1++[]))∧OSl (RI .i64) 3 1 b [] a x.Pos∧OSl (RI .i64) 3 1 b [] s1 x.Neg
theorem bI.lasts:cw bI:=fun X g h F cs x b a ⟨d,s1,e,c,f,h1⟩=>by
  rw[c] at a
  exact⟨d,s1,e,c,f.frame RI.lasts b (fun k hk=>a k (by simp[hk])) (Dj.nil _),h1.frame RI.lasts b (fun k hk=>a k (by simp[hk])) (Dj.nil _)⟩
instance:LS bI:=⟨bI.lasts⟩
theorem bI.knows:dB bI:=fun c F cs x ⟨d,s1,e,b,a,h1⟩=>b ▸ ((a.knO.app a.kn).app (h1.knO.app h1.kn))
theorem bI.one:gJ bI:=fun _ _ _ _ h=>by obtain⟨b,s1,rfl,-,a,h1⟩:=h;exact One.all ⟨a.one,h1.one,trivial⟩
theorem bI.gives:ey bI fw:=fun e F cs x ⟨a,s1,b,c,d,h1⟩=>⟨a,ob a++[],s1,ob s1++[],b,c,d.rslG (ey.refl _),h1.rslG (ey.refl _)⟩
structure cA where
  Alphas:(List ax)
  Chains:(List aJ)
  deriving DecidableEq
def vT (a:Hp) (F:List Nat) (cs:List Value) (x:cA):Prop:=
  ∃ (b:Value) (c:List Nat) (s1:Value) (d:List Nat),cs=[b,s1]∧F=c++(d)∧RSl cP 4 a c b x.Alphas∧RSl fw 2 a d s1 x.Chains
theorem vT.lasts:cw vT:=fun X i j F cs x b a ⟨d,e,s1,f,g,c,h,h1⟩=>by
  rw[c] at a
  exact⟨d,e,s1,f,g,c,h.frame cP.lasts b (fun k hk=>a k (by simp[hk])),h1.frame fw.lasts b (fun k hk=>a k (by simp[hk]))⟩
instance:LS vT:=⟨vT.lasts⟩
theorem vT.knows:dB vT:=fun c F cs x ⟨d,e,s1,f,g,a,b,h1⟩=>a ▸ (b.kn.app h1.kn)
theorem vT.one:gJ vT:=fun _ _ _ _ h=>by obtain⟨b,c,s1,d,rfl,-,a,h1⟩:=h;exact One.all ⟨a.one,h1.one,trivial⟩
def uQ (b:Hp) (F:List Nat) (cs:List Value) (x:cA):Prop:=
  ∃ (a:Value) (c:List Nat) (s1:Value) (d:List Nat),cs=[a,s1]∧F=(ob a++c)++((ob s1++d))∧OSl dt 137 4 b c a x.Alphas∧OSl bI 141 2 b d s1 x.Chains
theorem uQ.lasts:cw uQ:=fun X i j F cs x b a ⟨d,e,s1,f,g,c,h,h1⟩=>by
  rw[c] at a
  exact⟨d,e,s1,f,g,c,h.frame dt.lasts b (fun k hk=>a k (by simp[hk])) (fun k hk=>a k (by simp[hk])),h1.frame bI.lasts b (fun k hk=>a k (by simp[hk])) (fun k hk=>a k (by simp[hk]))⟩
instance:LS uQ:=⟨uQ.lasts⟩
theorem uQ.knows:dB uQ:=fun c F cs x ⟨d,e,s1,f,g,b,a,h1⟩=>b ▸ ((a.knO.app a.kn).app (h1.knO.app h1.kn))
theorem uQ.one:gJ uQ:=fun _ _ _ _ h=>by obtain⟨b,c,s1,d,rfl,-,a,h1⟩:=h;exact One.all ⟨a.one,h1.one,trivial⟩
theorem uQ.gives:ey uQ vT:=fun g F cs x ⟨a,b,s1,c,d,e,f,h1⟩=>⟨a,ob a++b,s1,ob s1++c,d,e,f.rslG dt.gives,h1.rslG bI.gives⟩
structure cn where
  L:(List Int)
  deriving DecidableEq
def jO (c:Hp) (F:List Nat) (cs:List Value) (x:cn):Prop:=
  ∃ (a:Value) (b:List Nat),cs=[a]∧F=b∧RSl (RI .i64) 1 c b a x.L
theorem jO.lasts:cw jO:=fun X h i F cs x c a ⟨d,e,f,b,g⟩=>by
  rw[b] at a
  exact⟨d,e,f,b,g.frame RI.lasts c (fun k hk=>a k (by simp[hk]))⟩
instance:LS jO:=⟨jO.lasts⟩
theorem jO.knows:dB jO:=fun c F cs x ⟨d,e,f,a,b⟩=>a ▸ b.kn
theorem jO.one:gJ jO:=fun _ _ _ _ h=>by obtain⟨b,c,rfl,-,a⟩:=h;exact One.all ⟨a.one,trivial⟩
def cz (b:Hp) (F:List Nat) (cs:List Value) (x:cn):Prop:=
  ∃ (a:Value),cs=[a]∧F=(ob a++[])∧OSl (RI .i64) 3 1 b [] a x.L
theorem cz.lasts:cw cz:=fun X g h F cs x c a ⟨d,e,b,f⟩=>by
  rw[b] at a
  exact⟨d,e,b,f.frame RI.lasts c (fun k hk=>a k (by simp[hk])) (Dj.nil _)⟩
instance:LS cz:=⟨cz.lasts⟩
theorem cz.knows:dB cz:=fun c F cs x ⟨d,e,b,a⟩=>b ▸ (a.knO.app a.kn)
theorem cz.one:gJ cz:=fun _ _ _ _ h=>by obtain⟨b,rfl,-,a⟩:=h;exact One.all ⟨a.one,trivial⟩
theorem cz.gives:ey cz jO:=fun e F cs x ⟨a,b,c,d⟩=>⟨a,ob a++[],b,c,d.rslG (ey.refl _)⟩
structure an where
  Ids:(List Int)
  Hits:(List Int)
  deriving DecidableEq
def dU (a:Hp) (F:List Nat) (cs:List Value) (x:an):Prop:=
  ∃ (b:Value) (c:List Nat) (s1:Value) (d:List Nat),cs=[b,s1]∧F=c++(d)∧RSl (RI .i64) 1 a c b x.Ids∧RSl (RI .i64) 1 a d s1 x.Hits
theorem dU.lasts:cw dU:=fun X i j F cs x b a ⟨d,e,s1,f,g,c,h,h1⟩=>by
  rw[c] at a
  exact⟨d,e,s1,f,g,c,h.frame RI.lasts b (fun k hk=>a k (by simp[hk])),h1.frame RI.lasts b (fun k hk=>a k (by simp[hk]))⟩
instance:LS dU:=⟨dU.lasts⟩
theorem dU.knows:dB dU:=fun c F cs x ⟨d,e,s1,f,g,a,b,h1⟩=>a ▸ (b.kn.app h1.kn)
theorem dU.one:gJ dU:=fun _ _ _ _ h=>by obtain⟨b,c,s1,d,rfl,-,a,h1⟩:=h;exact One.all ⟨a.one,h1.one,trivial⟩
def aU (b:Hp) (F:List Nat) (cs:List Value) (x:an):Prop:=
  ∃ (a:Value) (s1:Value),cs=[a,s1]∧F=(ob a++[])++((ob s1++[]))∧OSl (RI .i64) 3 1 b [] a x.Ids∧OSl (RI .i64) 3 1 b [] s1 x.Hits
theorem aU.lasts:cw aU:=fun X g h F cs x b a ⟨d,s1,e,c,f,h1⟩=>by
  rw[c] at a
  exact⟨d,s1,e,c,f.frame RI.lasts b (fun k hk=>a k (by simp[hk])) (Dj.nil _),h1.frame RI.lasts b (fun k hk=>a k (by simp[hk])) (Dj.nil _)⟩
instance:LS aU:=⟨aU.lasts⟩
theorem aU.knows:dB aU:=fun c F cs x ⟨d,s1,e,b,a,h1⟩=>b ▸ ((a.knO.app a.kn).app (h1.knO.app h1.kn))
theorem aU.one:gJ aU:=fun _ _ _ _ h=>by obtain⟨b,s1,rfl,-,a,h1⟩:=h;exact One.all ⟨a.one,h1.one,trivial⟩
theorem aU.gives:ey aU dU:=fun e F cs x ⟨a,s1,b,c,d,h1⟩=>⟨a,ob a++[],s1,ob s1++[],b,c,d.rslG (ey.refl _),h1.rslG (ey.refl _)⟩
structure aw where
  Toks:(List an)
  deriving DecidableEq
def iR (c:Hp) (F:List Nat) (cs:List Value) (x:aw):Prop:=
  ∃ (a:Value) (b:List Nat),cs=[a]∧F=b∧RSl dU 2 c b a x.Toks
theorem iR.lasts:cw iR:=fun X h i F cs x c a ⟨d,e,f,b,g⟩=>by
  rw[b] at a
  exact⟨d,e,f,b,g.frame dU.lasts c (fun k hk=>a k (by simp[hk]))⟩
instance:LS iR:=⟨iR.lasts⟩
theorem iR.knows:dB iR:=fun c F cs x ⟨d,e,f,a,b⟩=>a ▸ b.kn
theorem iR.one:gJ iR:=fun _ _ _ _ h=>by obtain⟨b,c,rfl,-,a⟩:=h;exact One.all ⟨a.one,trivial⟩
def bo (c:Hp) (F:List Nat) (cs:List Value) (x:aw):Prop:=
  ∃ (a:Value) (b:List Nat),cs=[a]∧F=(ob a++b)∧OSl aU 105 2 c b a x.Toks
theorem bo.lasts:cw bo:=fun X h i F cs x c a ⟨d,e,f,b,g⟩=>by
  rw[b] at a
  exact⟨d,e,f,b,g.frame aU.lasts c (fun k hk=>a k (by simp[hk])) (fun k hk=>a k (by simp[hk]))⟩
instance:LS bo:=⟨bo.lasts⟩
theorem bo.knows:dB bo:=fun c F cs x ⟨d,e,f,b,a⟩=>b ▸ (a.knO.app a.kn)
theorem bo.one:gJ bo:=fun _ _ _ _ h=>by obtain⟨b,c,rfl,-,a⟩:=h;exact One.all ⟨a.one,trivial⟩
theorem bo.gives:ey bo iR:=fun f F cs x ⟨a,b,c,d,e⟩=>⟨a,ob a++b,c,d,e.rslG aU.gives⟩
structure aV where
  Levels:(List aw)
  deriving DecidableEq
def oE (c:Hp) (F:List Nat) (cs:List Value) (x:aV):Prop:=
  ∃ (a:Value) (b:List Nat),cs=[a]∧F=b∧RSl iR 1 c b a x.Levels
theorem oE.lasts:cw oE:=fun X h i F cs x c a ⟨d,e,f,b,g⟩=>by
  rw[b] at a
  exact⟨d,e,f,b,g.frame iR.lasts c (fun k hk=>a k (by simp[hk]))⟩
instance:LS oE:=⟨oE.lasts⟩
theorem oE.knows:dB oE:=fun c F cs x ⟨d,e,f,a,b⟩=>a ▸ b.kn
theorem oE.one:gJ oE:=fun _ _ _ _ h=>by obtain⟨b,c,rfl,-,a⟩:=h;exact One.all ⟨a.one,trivial⟩
def bU (c:Hp) (F:List Nat) (cs:List Value) (x:aV):Prop:=
  ∃ (a:Value) (b:List Nat),cs=[a]∧F=(ob a++b)∧OSl bo 103 1 c b a x.Levels
theorem bU.lasts:cw bU:=fun X h i F cs x c a ⟨d,e,f,b,g⟩=>by
  rw[b] at a
  exact⟨d,e,f,b,g.frame bo.lasts c (fun k hk=>a k (by simp[hk])) (fun k hk=>a k (by simp[hk]))⟩
instance:LS bU:=⟨bU.lasts⟩
theorem bU.knows:dB bU:=fun c F cs x ⟨d,e,f,b,a⟩=>b ▸ (a.knO.app a.kn)
theorem bU.one:gJ bU:=fun _ _ _ _ h=>by obtain⟨b,c,rfl,-,a⟩:=h;exact One.all ⟨a.one,trivial⟩
theorem bU.gives:ey bU oE:=fun f F cs x ⟨a,b,c,d,e⟩=>⟨a,ob a++b,c,d,e.rslG bo.gives⟩
structure aY where
  Alphas:(List cn)
  Rules:(List aV)
  deriving DecidableEq
def vO (a:Hp) (F:List Nat) (cs:List Value) (x:aY):Prop:=
  ∃ (b:Value) (c:List Nat) (s1:Value) (d:List Nat),cs=[b,s1]∧F=c++(d)∧RSl jO 1 a c b x.Alphas∧RSl oE 1 a d s1 x.Rules
theorem vO.lasts:cw vO:=fun X i j F cs x b a ⟨d,e,s1,f,g,c,h,h1⟩=>by
  rw[c] at a
  exact⟨d,e,s1,f,g,c,h.frame jO.lasts b (fun k hk=>a k (by simp[hk])),h1.frame oE.lasts b (fun k hk=>a k (by simp[hk]))⟩
instance:LS vO:=⟨vO.lasts⟩
theorem vO.knows:dB vO:=fun c F cs x ⟨d,e,s1,f,g,a,b,h1⟩=>a ▸ (b.kn.app h1.kn)
theorem vO.one:gJ vO:=fun _ _ _ _ h=>by obtain⟨b,c,s1,d,rfl,-,a,h1⟩:=h;exact One.all ⟨a.one,h1.one,trivial⟩
def uO (b:Hp) (F:List Nat) (cs:List Value) (x:aY):Prop:=
  ∃ (a:Value) (c:List Nat) (s1:Value) (d:List Nat),cs=[a,s1]∧F=(ob a++c)++((ob s1++d))∧OSl cz 133 1 b c a x.Alphas∧OSl bU 100 1 b d s1 x.Rules
theorem uO.lasts:cw uO:=fun X i j F cs x b a ⟨d,e,s1,f,g,c,h,h1⟩=>by
  rw[c] at a
  exact⟨d,e,s1,f,g,c,h.frame cz.lasts b (fun k hk=>a k (by simp[hk])) (fun k hk=>a k (by simp[hk])),h1.frame bU.lasts b (fun k hk=>a k (by simp[hk])) (fun k hk=>a k (by simp[hk]))⟩
instance:LS uO:=⟨uO.lasts⟩
theorem uO.knows:dB uO:=fun c F cs x ⟨d,e,s1,f,g,b,a,h1⟩=>b ▸ ((a.knO.app a.kn).app (h1.knO.app h1.kn))
theorem uO.one:gJ uO:=fun _ _ _ _ h=>by obtain⟨b,c,s1,d,rfl,-,a,h1⟩:=h;exact One.all ⟨a.one,h1.one,trivial⟩
theorem uO.gives:ey uO vO:=fun g F cs x ⟨a,b,s1,c,d,e,f,h1⟩=>⟨a,ob a++b,s1,ob s1++c,d,e,f.rslG cz.gives,h1.rslG bU.gives⟩
structure du where
  pos:(List az)
  neg:(List az)
  chain:aJ
  alphas:(List cn)
  s:af
  id:Int
  deriving DecidableEq
def nf (a:Hp) (F:List Nat) (cs:List Value) (x:du):Prop:=
  ∃ (b:Value) (c:List Nat) (s1:Value) (d:List Nat) (s2:Value) (e:List Nat) (f:Value) (g:List Nat) (h:Value) (i:List Nat) (j:Value) (k:List Nat),cs=[b,s1,s2,f,h,j,.int .i64 x.s.Next,.int .i64 x.id]∧F=c++(d++(e++(g++(i++(k)))))∧RSl cI 3 a c b x.pos∧RSl cI 3 a d s1 x.neg∧RSl (RI .i64) 1 a e s2 x.chain.Pos∧RSl (RI .i64) 1 a g f x.chain.Neg∧RSl jO 1 a i h x.alphas∧RSl bm 3 a k j x.s.Items
theorem nf.lasts:cw nf:=fun X u v F cs x b a ⟨d,e,s1,f,s2,g,h,i,j,l,m,n,o,c,p,h1,q,r,s,t⟩=>by
  rw[c] at a
  exact⟨d,e,s1,f,s2,g,h,i,j,l,m,n,o,c,p.frame cI.lasts b (fun k hk=>a k (by simp[hk])),h1.frame cI.lasts b (fun k hk=>a k (by simp[hk])),q.frame RI.lasts b (fun k hk=>a k (by simp[hk])),r.frame RI.lasts b (fun k hk=>a k (by simp[hk])),s.frame jO.lasts b (fun k hk=>a k (by simp[hk])),t.frame bm.lasts b (fun k hk=>a k (by simp[hk]))⟩
instance:LS nf:=⟨nf.lasts⟩
theorem nf.knows:dB nf:=fun g F cs x ⟨h,i,s1,j,s2,k,l,m,n,o,p,q,r,a,b,h1,c,d,e,f⟩=>a ▸ (b.kn.app (h1.kn.app (c.kn.app (d.kn.app (e.kn.app f.kn)))))
theorem nf.one:gJ nf:=fun _ _ _ _ h=>by obtain⟨f,g,s1,i,s2,j,k,l,m,n,o,p,rfl,-,a,h1,b,c,d,e⟩:=h;exact One.all ⟨a.one,h1.one,b.one,c.one,d.one,e.one,rfl,rfl,trivial⟩
def lO (a:Hp) (F:List Nat) (cs:List Value) (x:du):Prop:=
  ∃ (b:Value) (f:List Nat) (s1:Value) (g:List Nat) (s2:Value) (c:Value) (d:Value) (h:List Nat) (e:Value) (i:List Nat),cs=[b,s1,s2,c,d,e,.int .i64 x.s.Next,.int .i64 x.id]∧F=(ob b++f)++((ob s1++g)++((ob s2++[])++((ob c++[])++((ob d++h)++((ob e++i))))))∧OSl eE 201 3 a f b x.pos∧OSl eE 201 3 a g s1 x.neg∧OSl (RI .i64) 3 1 a [] s2 x.chain.Pos∧OSl (RI .i64) 3 1 a [] c x.chain.Neg∧OSl cz 133 1 a h d x.alphas∧OSl gz 66 3 a i e x.s.Items
theorem lO.lasts:cw lO:=fun X s t F cs x b a ⟨d,e,s1,f,s2,g,h,i,j,l,m,c,n,h1,o,p,q,r⟩=>by
  rw[c] at a
  exact⟨d,e,s1,f,s2,g,h,i,j,l,m,c,n.frame eE.lasts b (fun k hk=>a k (by simp[hk])) (fun k hk=>a k (by simp[hk])),h1.frame eE.lasts b (fun k hk=>a k (by simp[hk])) (fun k hk=>a k (by simp[hk])),o.frame RI.lasts b (fun k hk=>a k (by simp[hk])) (Dj.nil _),p.frame RI.lasts b (fun k hk=>a k (by simp[hk])) (Dj.nil _),q.frame cz.lasts b (fun k hk=>a k (by simp[hk])) (fun k hk=>a k (by simp[hk])),r.frame gz.lasts b (fun k hk=>a k (by simp[hk])) (fun k hk=>a k (by simp[hk]))⟩
instance:LS lO:=⟨lO.lasts⟩
theorem lO.knows:dB lO:=fun g F cs x ⟨h,i,s1,j,s2,k,l,m,n,o,p,f,a,h1,b,c,d,e⟩=>f ▸ ((a.knO.app a.kn).app ((h1.knO.app h1.kn).app ((b.knO.app b.kn).app ((c.knO.app c.kn).app ((d.knO.app d.kn).app (e.knO.app e.kn))))))
theorem lO.one:gJ lO:=fun _ _ _ _ h=>by obtain⟨f,g,s1,i,s2,j,k,l,m,n,rfl,-,a,h1,b,c,d,e⟩:=h;exact One.all ⟨a.one,h1.one,b.one,c.one,d.one,e.one,rfl,rfl,trivial⟩
theorem lO.gives:ey lO nf:=fun p F cs x ⟨a,e,s1,f,s2,b,c,g,d,h,i,j,k,h1,l,m,n,o⟩=>⟨a,ob a++e,s1,ob s1++f,s2,ob s2++[],b,ob b++[],c,ob c++g,d,ob d++h,i,j,k.rslG eE.gives,h1.rslG eE.gives,l.rslG (ey.refl _),m.rslG (ey.refl _),n.rslG cz.gives,o.rslG gz.gives⟩
structure aq where
  Name:ByteArray
  V:bn
  deriving DecidableEq
def aG (a:Hp) (F:List Nat) (cs:List Value) (x:aq):Prop:=cs=[.string x.Name,.int .i64 x.V.K,.int .i64 x.V.N,.string x.V.S]∧F=[]
theorem aG.lasts:cw aG:=fun _ _ _ _ _ _ _ _ h=>h
instance:LS aG:=⟨aG.lasts⟩
theorem aG.knows:dB aG:=fun _ _ _ _ h=>h.2 ▸ Kw.nil
theorem aG.flat:wL aG:=fun _ _ _ _ h=>h.2
theorem aG.one:gJ aG:=fun _ _ _ _ h=>by obtain⟨rfl,-⟩:=h;exact One.all ⟨rfl,rfl,rfl,rfl,trivial⟩
structure a7 where
  Rule:Int
  Ids:(List Int)
  Binds:(List aq)
  deriving DecidableEq
def cM (a:Hp) (F:List Nat) (cs:List Value) (x:a7):Prop:=
  ∃ (b:Value) (c:List Nat) (s1:Value) (d:List Nat),cs=[.int .i64 x.Rule,b,s1]∧F=c++(d)∧RSl (RI .i64) 1 a c b x.Ids∧RSl aG 4 a d s1 x.Binds
theorem cM.lasts:cw cM:=fun X i j F cs x b a ⟨d,e,s1,f,g,c,h,h1⟩=>by
  rw[c] at a
  exact⟨d,e,s1,f,g,c,h.frame RI.lasts b (fun k hk=>a k (by simp[hk])),h1.frame aG.lasts b (fun k hk=>a k (by simp[hk]))⟩
instance:LS cM:=⟨cM.lasts⟩
theorem cM.knows:dB cM:=fun c F cs x ⟨d,e,s1,f,g,a,b,h1⟩=>a ▸ (b.kn.app h1.kn)
theorem cM.one:gJ cM:=fun _ _ _ _ h=>by obtain⟨b,c,s1,d,rfl,-,a,h1⟩:=h;exact One.all ⟨rfl,a.one,h1.one,trivial⟩
def av (b:Hp) (F:List Nat) (cs:List Value) (x:a7):Prop:=
  ∃ (a:Value) (s1:Value),cs=[.int .i64 x.Rule,a,s1]∧F=(ob a++[])++((ob s1++[]))∧OSl (RI .i64) 3 1 b [] a x.Ids∧OSl aG 97 4 b [] s1 x.Binds
theorem av.lasts:cw av:=fun X g h F cs x b a ⟨d,s1,e,c,f,h1⟩=>by
  rw[c] at a
  exact⟨d,s1,e,c,f.frame RI.lasts b (fun k hk=>a k (by simp[hk])) (Dj.nil _),h1.frame aG.lasts b (fun k hk=>a k (by simp[hk])) (Dj.nil _)⟩
instance:LS av:=⟨av.lasts⟩
theorem av.knows:dB av:=fun c F cs x ⟨d,s1,e,b,a,h1⟩=>b ▸ ((a.knO.app a.kn).app (h1.knO.app h1.kn))
theorem av.one:gJ av:=fun _ _ _ _ h=>by obtain⟨b,s1,rfl,-,a,h1⟩:=h;exact One.all ⟨rfl,a.one,h1.one,trivial⟩
theorem av.gives:ey av cM:=fun e F cs x ⟨a,s1,b,c,d,h1⟩=>⟨a,ob a++[],s1,ob s1++[],b,c,d.rslG (ey.refl _),h1.rslG (ey.refl _)⟩
def um (x y:aq):Bool:=(seq x.Name y.Name && ((x.V.K == y.V.K) && ((x.V.N == y.V.N) && (seq x.V.S y.V.S && true))))

theorem C4 (x y:aq):um x y=decide (x=y):=by
  obtain⟨a0,⟨a,b,a12⟩⟩:=x;obtain⟨b0,⟨c,d,e⟩⟩:=y
  rw[rs]
  simp only[um,BB,q7,gI,beq_iff_eq,decide_eq_true_eq,aq.mk.injEq,bn.mk.injEq,and_assoc]
structure ab where
  b:(List Int)
  i:Int
  h:Int
  deriving DecidableEq
def pq (c:Hp) (F:List Nat) (cs:List Value) (x:ab):Prop:=
  ∃ (a:Value) (b:List Nat),cs=[a,.int .i64 x.i,.int .i64 x.h]∧F=b∧RSl (RI .u8) 1 c b a x.b
theorem pq.lasts:cw pq:=fun X h i F cs x c a ⟨d,e,f,b,g⟩=>by
  rw[b] at a
  exact⟨d,e,f,b,g.frame RI.lasts c (fun k hk=>a k (by simp[hk]))⟩
instance:LS pq:=⟨pq.lasts⟩
theorem pq.knows:dB pq:=fun c F cs x ⟨d,e,f,a,b⟩=>a ▸ b.kn
theorem pq.one:gJ pq:=fun _ _ _ _ h=>by obtain⟨b,c,rfl,-,a⟩:=h;exact One.all ⟨a.one,rfl,rfl,trivial⟩
def nX (b:Hp) (F:List Nat) (cs:List Value) (x:ab):Prop:=
  ∃ (a:Value),cs=[a,.int .i64 x.i,.int .i64 x.h]∧F=(ob a++[])∧OSl (RI .u8) 5 1 b [] a x.b
theorem nX.lasts:cw nX:=fun X g h F cs x c a ⟨d,e,b,f⟩=>by
  rw[b] at a
  exact⟨d,e,b,f.frame RI.lasts c (fun k hk=>a k (by simp[hk])) (Dj.nil _)⟩
instance:LS nX:=⟨nX.lasts⟩
theorem nX.knows:dB nX:=fun c F cs x ⟨d,e,b,a⟩=>b ▸ (a.knO.app a.kn)
theorem nX.one:gJ nX:=fun _ _ _ _ h=>by obtain⟨b,rfl,-,a⟩:=h;exact One.all ⟨a.one,rfl,rfl,trivial⟩
theorem nX.gives:ey nX pq:=fun e F cs x ⟨a,b,c,d⟩=>⟨a,ob a++[],b,c,d.rslG (ey.refl _)⟩
def y0 (N:Nat) (a:(List Int)):Option (Bool):=
  some (decide (1048576 < (a.length:Int)))
def l7 (N:Nat) (a:Int):Option (Bool):=
  ((if decide (97≤a) then some (decide (a≤122)) else some false).bind fun b=>some b)
def qU (N:Nat) (a:Int):Option (Bool):=
  ((if decide (48≤a) then some (decide (a≤57)) else some false).bind fun b=>some b)
def jr (N:Nat) (a:Int):Option (Bool):=
  ((l7 N a).bind fun b=>((if b then some true else ((qU N a).bind fun c=>some c)).bind fun d=>((if d then some true else some (decide (a=95))).bind fun e=>some e)))
def ft (N:Nat) (a:ByteArray):Nat→Int→Option (Bool)
  | 0,_=>none
  | k+1,s1=>
    (if decide (s1 < (a.size:Int)) then ((idx a.data.toList s1).bind fun b=>((jr N (b.toNat:Int)).bind fun c=>(if !c then some false else ((ft N a k) (i64.wrap (s1+1)))))) else some true)
def nE (N:Nat) (a:ByteArray) (b:Int):Option (Bool):=
  (if decide (b < (a.size:Int)) then some false else ft N a N 0)
def iv (N:Nat) (a:ByteArray):Option (Bool):=
  ((if decide (0 < (a.size:Int)) then ((idx a.data.toList 0).bind fun b=>((l7 N (b.toNat:Int)).bind fun c=>some c)) else some false).bind fun d=>((if d then ((nE N a 12).bind fun e=>some e) else some false).bind fun f=>some f))
def dK (N:Nat) (a:Int) (b:Int) (c:Int):Option (Bool):=
  ((if decide (b≤a) then some (decide (a≤c)) else some false).bind fun d=>some d)
def eo (N:Nat) (a:ah):Nat→Int→Int→Option (Int)
  | 0,_,_=>none
  | k+1,s1,s2=>
    (if decide (s2 < (a.Pats.length:Int)) then ((idx a.Pats s2).bind fun b=>(if !b.Not then ((eo N a k) (i64.wrap (s1+1)) (i64.wrap (s2+1))) else ((eo N a k) s1 (i64.wrap (s2+1))))) else some s1)
def jL (N:Nat) (a:ah):Option (Int):=
  eo N a N 0 0
def mF (N:Nat) (a:bn):Option (Bool):=
  (if decide (a.K=1) then ((dK N a.N (-1000000000) 1000000000).bind fun b=>((if b then some (seq a.S (⟨#[]⟩:ByteArray)) else some false).bind fun c=>some c)) else (if decide (a.K=2) then ((if decide (a.N=0) then ((nE N a.S 20).bind fun d=>some d) else some false).bind fun e=>some e) else some false))
def mG (N:Nat) (a:Int):Option (Bool):=
  ((if decide (65≤a) then some (decide (a≤90)) else some false).bind fun b=>some b)
def iP (N:Nat) (a:ByteArray):Nat→Int→Option (Bool)
  | 0,_=>none
  | k+1,s1=>
    (if decide (s1 < (a.size:Int)) then ((idx a.data.toList s1).bind fun b=>((jr N (b.toNat:Int)).bind fun c=>((if !c then ((idx a.data.toList s1).bind fun d=>((mG N (d.toNat:Int)).bind fun e=>some (!e))) else some false).bind fun f=>(if f then some false else ((iP N a k) (i64.wrap (s1+1))))))) else some true)
def rJ (N:Nat) (a:ByteArray):Option (Bool):=
  ((if decide ((a.size:Int) < 1) then some true else some (decide (12 < (a.size:Int)))).bind fun b=>((if b then some true else ((idx a.data.toList 0).bind fun c=>((mG N (c.toNat:Int)).bind fun d=>some (!d)))).bind fun e=>(if e then some false else iP N a N 0)))
def pC (N:Nat) (a:bZ):Option (Bool):=
  (if decide (a.K=1) then ((rJ N a.S).bind fun b=>((if b then some (bp a.V (⟨0,0,(⟨#[]⟩:ByteArray)⟩:bn)) else some false).bind fun c=>some c)) else (if decide (a.K=2) then ((if seq a.S (⟨#[]⟩:ByteArray) then ((mF N a.V).bind fun d=>some d) else some false).bind fun e=>some e) else (if decide (a.K=3) then ((if seq a.S (⟨#[]⟩:ByteArray) then some (bp a.V (⟨0,0,(⟨#[]⟩:ByteArray)⟩:bn)) else some false).bind fun f=>some f) else some false)))
def iQ (N:Nat) (a:az):Nat→Int→Option (Bool)
  | 0,_=>none
  | k+1,s1=>
    (if decide (s1 < (a.Args.length:Int)) then ((idx a.Args s1).bind fun b=>((pC N b).bind fun c=>(if !c then some false else ((iQ N a k) (i64.wrap (s1+1)))))) else some true)
def rP (N:Nat) (a:az):Option (Bool):=
  ((iv N a.Kind).bind fun b=>((if !b then some true else some (decide (5 < (a.Args.length:Int)))).bind fun c=>(if c then some false else iQ N a N 0)))
def fF (N:Nat) (a:ah):Nat→Int→Option (Bool)
  | 0,_=>none
  | k+1,s1=>
    (if decide (s1 < (a.Pats.length:Int)) then ((idx a.Pats s1).bind fun b=>((rP N b).bind fun c=>((if !c then some true else ((jL N a).bind fun d=>some (b.Not != (decide (d≤s1))))).bind fun e=>(if e then some false else ((fF N a k) (i64.wrap (s1+1))))))) else some true)
def qJ (N:Nat) (a:ah):Option (Bool):=
  ((dK N (a.Pats.length:Int) 1 6).bind fun b=>((if !b then some true else ((jL N a).bind fun c=>((dK N c 1 3).bind fun d=>some (!d)))).bind fun e=>(if e then some false else fF N a N 0)))
def jI (N:Nat) (a:bZ):Option (Bool):=
  ((if !decide (a.K=3) then ((pC N a).bind fun b=>some b) else some false).bind fun c=>some c)
def pN (N:Nat) (a:cX):Option (Bool):=
  ((dK N a.Op 1 3).bind fun b=>((if b then ((jI N a.L).bind fun c=>some c) else some false).bind fun d=>((if d then ((jI N a.R).bind fun e=>some e) else some false).bind fun f=>some f)))
def jX (N:Nat) (a:d5) (s1:Bool):Option (Bool):=
  (if s1 then ((jI N a.L).bind fun b=>((if b then ((jI N a.R).bind fun c=>some c) else some false).bind fun d=>some d)) else some false)
def qk (N:Nat) (a:d5):Option (Bool):=
  (if seq a.Op (⟨#[]⟩:ByteArray) then ((jI N a.L).bind fun b=>((if b then some (om a.R (⟨0,(⟨#[]⟩:ByteArray),(⟨0,0,(⟨#[]⟩:ByteArray)⟩:bn)⟩:bZ)) else some false).bind fun c=>some c)) else (if seq a.Op (⟨#[43]⟩:ByteArray) then jX N a (seq a.Op (⟨#[43]⟩:ByteArray)) else jX N a (seq a.Op (⟨#[45]⟩:ByteArray))))
def fC (N:Nat) (a:ei):Nat→Int→Option (Bool)
  | 0,_=>none
  | k+1,s1=>
    (if decide (s1 < (a.Args.length:Int)) then ((idx a.Args s1).bind fun b=>((qk N b).bind fun c=>(if !c then some false else ((fC N a k) (i64.wrap (s1+1)))))) else some true)
def m8 (N:Nat) (a:ei):Option (Bool):=
  ((iv N a.Name).bind fun b=>((if !b then some true else some (decide (5 < (a.Args.length:Int)))).bind fun c=>(if c then some false else fC N a N 0)))
def sO (N:Nat) (a:ByteArray):Option (Bool):=
  ((if seq a (⟨#[]⟩:ByteArray) then some true else ((iv N a).bind fun b=>some b)).bind fun c=>some c)
def lg (N:Nat) (a:ei) (b:Bool) (s1:Bool):Option (Bool):=
  (if s1 then ((if b then some (decide (a.N=0)) else some false).bind fun c=>((if c then some (seq a.Undo (⟨#[]⟩:ByteArray)) else some false).bind fun d=>some d)) else some false)
def rQ (N:Nat) (a:ei):Option (Bool):=
  ((if seq a.Name (⟨#[]⟩:ByteArray) then some (decide ((a.Args.length:Int)=0)) else some false).bind fun b=>(if decide (a.Kind=1) then ((m8 N a).bind fun c=>((if c then some (decide (a.N=0)) else some false).bind fun d=>((if d then some (seq a.Undo (⟨#[]⟩:ByteArray)) else some false).bind fun e=>some e))) else (if decide (a.Kind=2) then ((if b then ((dK N a.N 0 7).bind fun f=>some f) else some false).bind fun g=>((if g then some (seq a.Undo (⟨#[]⟩:ByteArray)) else some false).bind fun h=>some h)) else (if decide (a.Kind=3) then ((m8 N a).bind fun i=>((if i then some (decide (a.N=0)) else some false).bind fun j=>((if j then ((sO N a.Undo).bind fun k=>some k) else some false).bind fun l=>some l))) else (if decide (a.Kind=4) then ((m8 N a).bind fun m=>((if m then ((dK N a.N 0 100000).bind fun n=>some n) else some false).bind fun o=>((if o then some (seq a.Undo (⟨#[]⟩:ByteArray)) else some false).bind fun p=>some p))) else (if decide (a.Kind=5) then lg N a b (decide (a.Kind=5)) else lg N a b (decide (a.Kind=6))))))))
def bF (N:Nat) (a:(List ByteArray)) (b:ByteArray):Nat→Int→Option (Int)
  | 0,_=>none
  | k+1,s1=>
    (if decide (s1 < (a.length:Int)) then ((idx a s1).bind fun c=>(if seq b c then some s1 else ((bF N a b k) (i64.wrap (s1+1))))) else some (-1))
def dO (N:Nat) (a:(List ByteArray)) (b:ByteArray):Option (Int):=
  bF N a b N 0
def cJ (N:Nat) (a:(List ByteArray)) (b:ByteArray):Option (Bool):=
  ((dO N a b).bind fun c=>some (decide (0≤c)))
def oJ (N:Nat) (a:(List ByteArray)) (b:ByteArray):Option ((List ByteArray)):=
  ((cJ N a b).bind fun c=>(if c then some a else ((app a ([b]:List ByteArray)).bind fun d=>some d)))
def fV (N:Nat) (a:(List bZ)):Nat→(List ByteArray)→Int→Option ((List ByteArray))
  | 0,_,_=>none
  | k+1,s1,s2=>
    (if decide (s2 < (a.length:Int)) then ((idx a s2).bind fun b=>(if decide (b.K=1) then ((oJ N s1 b.S).bind fun c=>((fV N a k) c (i64.wrap (s2+1)))) else ((fV N a k) s1 (i64.wrap (s2+1))))) else some s1)
def kW (N:Nat) (a:(List ByteArray)) (b:(List bZ)):Option ((List ByteArray)):=
  fV N b N a 0
def gl (N:Nat) (a:ah):Nat→(List ByteArray)→Int→Option ((List ByteArray))
  | 0,_,_=>none
  | k+1,s1,s2=>
    (if decide (s2 < (a.Pats.length:Int)) then ((idx a.Pats s2).bind fun b=>(if !b.Not then ((kW N s1 b.Args).bind fun c=>((gl N a k) c (i64.wrap (s2+1)))) else ((gl N a k) s1 (i64.wrap (s2+1))))) else some s1)
def mz (N:Nat) (a:ah):Option ((List ByteArray)):=
  gl N a N ([]:List ByteArray) 0
def ff (N:Nat) (c:Int) (d:(List ByteArray)→Int→Option ((List ByteArray))) (a:ei):Nat→(List ByteArray)→Int→Option ((List ByteArray))
  | 0,_,_=>none
  | k+1,e,b=>
    (if decide (b < (a.Args.length:Int)) then ((idx a.Args b).bind fun f=>((kW N e ([f.L,f.R]:List bZ)).bind fun g=>((ff N c d a k) g (i64.wrap (b+1))))) else (d e (i64.wrap (c+1))))
def dM (N:Nat) (a:ah):Nat→(List ByteArray)→Int→Option ((List ByteArray))
  | 0,_,_=>none
  | k+1,c,b=>
    (if decide (b < (a.Acts.length:Int)) then ((idx a.Acts b).bind fun d=>ff N b (dM N a k) d N c 0) else some c)
def gA (N:Nat) (a:ah):Nat→(List ByteArray)→Int→Option ((List ByteArray))
  | 0,_,_=>none
  | k+1,s1,s2=>
    (if decide (s2 < (a.Conds.length:Int)) then ((idx a.Conds s2).bind fun b=>((kW N s1 ([b.L,b.R]:List bZ)).bind fun c=>((gA N a k) c (i64.wrap (s2+1))))) else dM N a N s1 0)
def nj (N:Nat) (a:ah):Option ((List ByteArray)):=
  gA N a N ([]:List ByteArray) 0
def fE (N:Nat) (c:(List ByteArray)) (a:(List ByteArray)):Nat→Int→Option (Bool)
  | 0,_=>none
  | k+1,b=>
    (if decide (b < (a.length:Int)) then ((idx a b).bind fun d=>((cJ N c d).bind fun e=>(if !e then some false else ((fE N c a k) (i64.wrap (b+1)))))) else some true)
def fG (N:Nat) (a:ah):Nat→Int→Option (Bool)
  | 0,_=>none
  | k+1,s2=>
    (if decide (s2 < (a.Acts.length:Int)) then ((idx a.Acts s2).bind fun b=>((rQ N b).bind fun c=>((if !c then some true else ((if decide (b.Kind=2) then ((jL N a).bind fun d=>some (decide (d≤b.N))) else some false).bind fun e=>some e)).bind fun f=>(if f then some false else ((fG N a k) (i64.wrap (s2+1))))))) else ((mz N a).bind fun g=>((nj N a).bind fun h=>fE N g h N 0)))
def fy (N:Nat) (a:ah):Nat→Int→Option (Bool)
  | 0,_=>none
  | k+1,s1=>
    (if decide (s1 < (a.Conds.length:Int)) then ((idx a.Conds s1).bind fun b=>((pN N b).bind fun c=>(if !c then some false else ((fy N a k) (i64.wrap (s1+1)))))) else fG N a N 0)
def qf (N:Nat) (a:ah):Option (Bool):=
  ((iv N a.Name).bind fun b=>((if !b then some true else ((dK N a.Sal (-100) 100).bind fun c=>some (!c))).bind fun d=>((if d then some true else ((qJ N a).bind fun e=>some (!e))).bind fun f=>(if f then some false else ((if decide (6 < (a.Conds.length:Int)) then some true else ((dK N (a.Acts.length:Int) 1 6).bind fun g=>some (!g))).bind fun h=>(if h then some false else fy N a N 0))))))
def bh (N:Nat) (a:(List ah)) (b:ah→Option (Bool)):Nat→Int→Option (Int)
  | 0,_=>none
  | k+1,s1=>
    (if decide (s1 < (a.length:Int)) then ((idx a s1).bind fun c=>((b c).bind fun d=>(if d then some s1 else ((bh N a b k) (i64.wrap (s1+1)))))) else some (-1))
def dT (N:Nat) (a:(List ah)) (b:ah→Option (Bool)):Option (Int):=
  bh N a b N 0
def jZ (N:Nat) (a:ah) (b:ByteArray):Option (Bool):=
  some (seq a.Name b)
def qS (N:Nat) (a:bq) (b:ByteArray):Option (Int):=
  ((dT N a.Rules (fun a0=>jZ N a0 b)).bind fun c=>some c)
def gQ (N:Nat) (a:bq):Nat→Int→Option (Bool)
  | 0,_=>none
  | k+1,s1=>
    (if decide (s1 < (a.Rules.length:Int)) then ((idx a.Rules s1).bind fun b=>((qf N b).bind fun c=>((if !c then some true else ((qS N a b.Name).bind fun d=>some (!decide (d=s1)))).bind fun e=>(if e then some false else ((gQ N a k) (i64.wrap (s1+1))))))) else some true)
def nS (N:Nat) (a:bq):Option (Bool):=
  ((iv N a.Name).bind fun b=>((if !b then some true else ((dK N (a.Rules.length:Int) 1 12).bind fun c=>some (!c))).bind fun d=>(if d then some false else gQ N a N 0)))
def fL (N:Nat) (a:aL):Nat→Int→Option (Bool)
  | 0,_=>none
  | k+1,s1=>
    (if decide (s1 < (a.Fields.length:Int)) then ((idx a.Fields s1).bind fun b=>((mF N b).bind fun c=>(if !c then some false else ((fL N a k) (i64.wrap (s1+1)))))) else some true)
def qK (N:Nat) (a:aL):Option (Bool):=
  ((iv N a.Kind).bind fun b=>((if !b then some true else some (decide (5 < (a.Fields.length:Int)))).bind fun c=>(if c then some false else fL N a N 0)))
def bC (N:Nat) (a:(List bn)) (b:(List bn)):Nat→Int→Option (Bool)
  | 0,_=>none
  | k+1,s1=>
    (if decide (s1 < (a.length:Int)) then ((idx a s1).bind fun c=>((idx b s1).bind fun d=>(if !(bp c d) then some false else ((bC N a b k) (i64.wrap (s1+1)))))) else some true)
def cE (N:Nat) (a:(List bn)) (b:(List bn)):Option (Bool):=
  (if !decide ((a.length:Int)=(b.length:Int)) then some false else bC N a b N 0)
def np (N:Nat) (a:aL) (b:aL):Option (Bool):=
  ((if seq a.Kind b.Kind then ((cE N a.Fields b.Fields).bind fun c=>some c) else some false).bind fun d=>some d)
def eP (N:Nat) (s1:Int) (b:Int→Option (Bool)) (c:au) (a:(List au)):Nat→Int→Option (Bool)
  | 0,_=>none
  | k+1,s2=>
    (if decide (s2 < (a.length:Int)) then ((idx a s2).bind fun d=>((np N c.F d.F).bind fun e=>(if e then some false else ((eP N s1 b c a k) (i64.wrap (s2+1)))))) else (b (i64.wrap (s1+1))))
def dG (N:Nat) (a:af):Nat→Int→Option (Bool)
  | 0,_=>none
  | k+1,s1=>
    (if decide (s1 < (a.Items.length:Int)) then ((idx a.Items s1).bind fun b=>((qK N b.F).bind fun c=>((if !c then some true else ((dK N b.Id 1 (i64.wrap (a.Next - 1))).bind fun d=>some (!d))).bind fun e=>((if e then some true else ((if decide (0 < s1) then ((idx a.Items (i64.wrap (s1 - 1))).bind fun f=>some (decide (b.Id≤f.Id))) else some false).bind fun g=>some g)).bind fun h=>(if h then some false else ((ssl a.Items 0 s1).bind fun i=>eP N s1 (dG N a k) b i N 0)))))) else some true)
def mm (N:Nat) (a:af):Option (Bool):=
  ((if decide (40 < (a.Items.length:Int)) then some true else ((dK N a.Next 1 1000000).bind fun b=>some (!b))).bind fun c=>(if c then some false else dG N a N 0))
def gy (N:Nat) (a:(List bn)):Option ((List bn)):=
  ((app ([]:List bn) a).bind fun b=>some b)
def nc (N:Nat) (a:aL):Option (aL):=
  ((gy N a.Fields).bind fun b=>some (⟨a.Kind,b⟩:aL))
def hU (N:Nat) (a:af) (b:Int):Nat→Int→Option (aL × Bool)
  | 0,_=>none
  | k+1,s1=>
    (if decide (s1 < (a.Items.length:Int)) then ((idx a.Items s1).bind fun c=>(if decide (c.Id=b) then ((nc N c.F).bind fun d=>some (d,true)) else ((hU N a b k) (i64.wrap (s1+1))))) else some ((⟨(⟨#[]⟩:ByteArray),[]⟩:aL),false))
def mf (N:Nat) (a:af) (b:Int):Option (aL × Bool):=
  hU N a b N 0
def j0 (N:Nat) (a:ax) (b:aL):Nat→Int→Option (Bool)
  | 0,_=>none
  | k+1,s1=>
    (if decide (s1 < (a.At.length:Int)) then ((idx a.At s1).bind fun c=>((if decide (c < 0) then some true else some (decide ((b.Fields.length:Int)≤c))).bind fun d=>((if d then some true else some (decide ((a.Consts.length:Int)≤s1))).bind fun e=>((if e then some true else ((idx b.Fields c).bind fun f=>((idx a.Consts s1).bind fun g=>some (!(bp f g))))).bind fun h=>(if h then some false else ((j0 N a b k) (i64.wrap (s1+1)))))))) else some true)
def pL (N:Nat) (a:ax) (b:aL):Option (Bool):=
  ((if !seq b.Kind a.Kind then some true else some (!decide ((b.Fields.length:Int)=a.N))).bind fun c=>(if c then some false else j0 N a b N 0))
def jz (N:Nat) (a:ah) (b:Bool):Nat→(List az)→Int→Option ((List az))
  | 0,_,_=>none
  | k+1,s1,s2=>
    (if decide (s2 < (a.Pats.length:Int)) then ((idx a.Pats s2).bind fun c=>(if (c.Not == b) then ((app s1 ([c]:List az)).bind fun d=>((jz N a b k) d (i64.wrap (s2+1)))) else ((jz N a b k) s1 (i64.wrap (s2+1))))) else some s1)
def oL (N:Nat) (a:ah) (b:Bool):Option ((List az)):=
  jz N a b N ([]:List az) 0
def pn (N:Nat) (c:bq) (d:cA) (e:aY) (f:af) (g:Int) (a:Int):Option (du):=
  ((idx c.Rules a).bind fun b=>((idx d.Chains a).bind fun h=>((oL N b false).bind fun i=>((oL N b true).bind fun j=>some (⟨i,j,h,e.Alphas,f,g⟩:du)))))
def bz (N:Nat) (a:(List aq)):Option ((List aq)):=
  ((app ([]:List aq) a).bind fun b=>some b)
def iY (N:Nat) (a:(List aq)) (b:ByteArray):Nat→Int→Option (bn × Bool)
  | 0,_=>none
  | k+1,s1=>
    (if decide (s1 < (a.length:Int)) then ((idx a s1).bind fun c=>(if seq c.Name b then some (c.V,true) else ((iY N a b k) (i64.wrap (s1+1))))) else some ((⟨0,0,(⟨#[]⟩:ByteArray)⟩:bn),false))
def nB (N:Nat) (a:(List aq)) (b:ByteArray):Option (bn × Bool):=
  iY N a b N 0
def eh (N:Nat) (a:az) (c:aL) (b:(List aq)):Nat→(List aq)→Int→Option ((List aq) × Bool)
  | 0,_,_=>none
  | k+1,s1,s2=>
    (if decide (s2 < (a.Args.length:Int)) then ((idx a.Args s2).bind fun d=>((idx c.Fields s2).bind fun e=>(if decide (d.K=2) then (if !(bp d.V e) then ((bz N b).bind fun g=>some (g,false)) else ((eh N a c b k) s1 (i64.wrap (s2+1)))) else (if decide (d.K=1) then ((nB N s1 d.S).bind fun f=>((if f.2 then some (!(bp f.1 e)) else some false).bind fun h=>(if h then ((bz N b).bind fun i=>some (i,false)) else (if !f.2 then ((app s1 ([(⟨d.S,e⟩:aq)]:List aq)).bind fun j=>((eh N a c b k) j (i64.wrap (s2+1)))) else ((eh N a c b k) s1 (i64.wrap (s2+1))))))) else ((eh N a c b k) s1 (i64.wrap (s2+1))))))) else some (s1,true))
def iW (N:Nat) (a:az) (b:aL) (c:(List aq)):Option ((List aq) × Bool):=
  ((if !seq b.Kind a.Kind then some true else some (!decide ((b.Fields.length:Int)=(a.Args.length:Int)))).bind fun d=>(if d then ((bz N c).bind fun e=>some (e,false)) else ((bz N c).bind fun f=>eh N a b c N f 0)))
def ee (N:Nat) (b:(List az)) (c:af) (a:(List Int)):Nat→(List aq)→Int→Option ((List aq) × Bool)
  | 0,_,_=>none
  | k+1,s1,s2=>
    (if decide (s2 < (a.length:Int)) then ((idx a s2).bind fun f=>((mf N c f).bind fun d=>(if !d.2 then some ([],false) else ((idx b s2).bind fun g=>((iW N g d.1 s1).bind fun e=>(if !e.2 then some ([],false) else ((ee N b c a k) e.1 (i64.wrap (s2+1))))))))) else some (s1,true))
def iS (N:Nat) (a:(List az)) (b:af) (c:(List Int)):Option ((List aq) × Bool):=
  ee N a b c N ([]:List aq) 0
def cQ (N:Nat) (c:du) (d:Int) (e:aL × Bool) (s1:(List an)) (s2:Int) (f:(List an)→Int→Option ((List an))) (g:an) (h:(List aq) × Bool):Nat→(List Int)→Int→Option ((List an))
  | 0,_,_=>none
  | k+1,b,a=>
    (if decide (a < (c.neg.length:Int)) then ((idx c.neg a).bind fun i=>((iW N i e.1 h.1).bind fun j=>(if j.2 then ((idx b a).bind fun l=>((idx b a).bind fun m=>((cQ N c d e s1 s2 f g h k) (b.set a.toNat (i64.wrap (l+d))) (i64.wrap (a+1))))) else ((cQ N c d e s1 s2 f g h k) b (i64.wrap (a+1)))))) else (f (s1.set s2.toNat (⟨g.Ids,b⟩:an)) (i64.wrap (s2+1))))
def cp (N:Nat) (a:du) (b:(List an)) (c:Int) (d:aL × Bool):Nat→(List an)→Int→Option ((List an))
  | 0,_,_=>none
  | k+1,s1,s2=>
    (if decide (s2 < (b.length:Int)) then ((idx s1 s2).bind fun e=>((iS N a.pos a.s e.Ids).bind fun f=>(if !f.2 then ((cp N a b c d k) s1 (i64.wrap (s2+1))) else cQ N a c d s1 s2 (cp N a b c d k) e f N e.Hits 0))) else some s1)
def iu (N:Nat) (a:du) (b:(List an)) (c:Int):Option ((List an)):=
  ((mf N a.s a.id).bind fun d=>cp N a b c d N b 0)
def eA (N:Nat) (a:(List an)):Option ((List an)):=
  ((app ([]:List an) a).bind fun b=>some b)
def eV (N:Nat) (a:(List an)):Option ((List an)):=
  ((app ([]:List an) a).bind fun b=>some b)
def cH (N:Nat) (a:(List Int)):Option ((List Int)):=
  ((app ([]:List Int) a).bind fun b=>some b)
def fo (N:Nat) (b:az) (a:af) (c:(List aq)):Nat→Int→Int→Option (Int)
  | 0,_,_=>none
  | k+1,s1,s2=>
    (if decide (s2 < (a.Items.length:Int)) then ((idx a.Items s2).bind fun d=>((iW N b d.F c).bind fun e=>(if e.2 then ((fo N b a c k) (i64.wrap (s1+1)) (i64.wrap (s2+1))) else ((fo N b a c k) s1 (i64.wrap (s2+1)))))) else some s1)
def nU (N:Nat) (a:az) (b:af) (c:(List aq)):Option (Int):=
  fo N a b c N 0 0
def cV (N:Nat) (s1:(List an)) (s2:Int) (a:(List an)→Int→Option ((List an))) (b:(List Int)) (c:(List Int)):Option ((List an)):=
  ((app s1 ([(⟨b,c⟩:an)]:List an)).bind fun d=>(a d (i64.wrap (s2+1))))
def cU (N:Nat) (a:du) (s1:(List an)) (s2:Int) (c:(List an)→Int→Option ((List an))) (d:(List Int)) (e:(List aq) × Bool):Nat→(List Int)→Int→Option ((List an))
  | 0,_,_=>none
  | k+1,f,b=>
    (if decide (b < (a.neg.length:Int)) then ((idx a.neg b).bind fun g=>((nU N g a.s e.1).bind fun h=>((app f ([h]:List Int)).bind fun i=>((cU N a s1 s2 c d e k) i (i64.wrap (b+1)))))) else cV N s1 s2 c d f)
def bO (N:Nat) (a:du) (c:(List Int)) (b:(List Int)):Nat→(List an)→Int→Option ((List an))
  | 0,_,_=>none
  | k+1,s1,s2=>
    (if decide (s2 < (b.length:Int)) then ((idx b s2).bind fun f=>((cH N c).bind fun g=>((app g ([f]:List Int)).bind fun d=>((iS N a.pos a.s d).bind fun e=>(if !e.2 then ((bO N a c b k) s1 (i64.wrap (s2+1))) else (if decide ((d.length:Int)=(a.pos.length:Int)) then cU N a s1 s2 (bO N a c b k) d e N ([]:List Int) 0 else cV N s1 s2 (bO N a c b k) d ([]:List Int))))))) else some s1)
def fc (N:Nat) (a:du) (b:(List Int)) (c:(List Int)):Option ((List an)):=
  bO N a b c N ([]:List an) 0
def cL (N:Nat) (s1:(List aw)) (a:Int) (d:(List aw)→(List an)→(List an)→Int→Option ((List aw))) (b:(List an)):Option ((List aw)):=
  ((idx s1 a).bind fun c=>((eV N c.Toks).bind fun e=>((app c.Toks b).bind fun f=>(d (s1.set a.toNat (⟨f⟩:aw)) e b (i64.wrap (a+1))))))
def dH (N:Nat) (a:du) (s1:(List aw)) (b:(List an)) (c:Int) (e:(List aw)→(List an)→(List an)→Int→Option ((List aw))):Nat→(List an)→Int→Option ((List aw))
  | 0,_,_=>none
  | k+1,f,d=>
    (if decide (d < (b.length:Int)) then ((idx b d).bind fun g=>((idx a.chain.Pos c).bind fun h=>((idx a.alphas h).bind fun i=>((fc N a g.Ids i.L).bind fun j=>((app f j).bind fun l=>((dH N a s1 b c e k) l (i64.wrap (d+1)))))))) else cL N s1 c e f)
def dA (N:Nat) (a:du) (s1:(List aw)) (s2:(List an)) (c:(List an)) (d:Int) (e:(List aw)→(List an)→(List an)→Int→Option ((List aw))):Nat→(List an)→Int→Option ((List aw))
  | 0,_,_=>none
  | k+1,f,b=>
    (if decide (b < (s2.length:Int)) then ((idx s2 b).bind fun g=>((fc N a g.Ids ([a.id]:List Int)).bind fun h=>((app f h).bind fun i=>((dA N a s1 s2 c d e k) i (i64.wrap (b+1)))))) else dH N a s1 c d e N f 0)
def bW (N:Nat) (a:du) (c:(List aw)):Nat→(List aw)→(List an)→(List an)→Int→Option ((List aw))
  | 0,_,_,_,_=>none
  | k+1,s1,s2,d,b=>
    (if decide (b < (c.length:Int)) then (if decide (b=0) then ((fc N a [] ([a.id]:List Int)).bind fun e=>cL N s1 b (bW N a c k) e) else dA N a s1 s2 d b (bW N a c k) N ([]:List an) 0) else some s1)
def iI (N:Nat) (b:du) (a:(List aw)):Option ((List aw)):=
  bW N b a N a ([]:List an) ([]:List an) 0
def eJ (N:Nat) (d:bq) (e:cA) (f:aY) (g:af) (h:Int) (s1:(List cn)):Nat→(List aV)→Int→Option ((List cn) × (List aV))
  | 0,_,_=>none
  | k+1,b,a=>
    (if decide (a < (f.Rules.length:Int)) then ((idx b a).bind fun c=>((pn N d e (⟨s1,b⟩:aY) g h a).bind fun i=>((idx c.Levels (i64.wrap ((c.Levels.length:Int) - 1))).bind fun j=>((iu N i j.Toks 1).bind fun l=>((iI N i (c.Levels.set (i64.wrap ((c.Levels.length:Int) - 1)).toNat (⟨l⟩:aw))).bind fun m=>((eJ N d e f g h s1 k) (b.set a.toNat (⟨m⟩:aV)) (i64.wrap (a+1)))))))) else some (s1,b))
def eZ (N:Nat) (d:bq) (a:cA) (b:aY) (e:af) (c:Int) (f:aL × Bool):Nat→(List cn)→Int→Option ((List cn) × (List aV))
  | 0,_,_=>none
  | k+1,s1,s2=>
    (if decide (s2 < (a.Alphas.length:Int)) then ((idx a.Alphas s2).bind fun g=>((pL N g f.1).bind fun h=>(if h then ((idx s1 s2).bind fun i=>((app i.L ([c]:List Int)).bind fun j=>((eZ N d a b e c f k) (s1.set s2.toNat (⟨j⟩:cn)) (i64.wrap (s2+1))))) else ((eZ N d a b e c f k) s1 (i64.wrap (s2+1)))))) else eJ N d a b e c s1 N b.Rules 0)
def ol (N:Nat) (d:bq) (e:cA) (a:aY) (b:af) (c:Int):Option ((List cn) × (List aV)):=
  ((mf N b c).bind fun f=>eZ N d e a b c f N a.Alphas 0)
def cW (N:Nat) (a:(List Int)) (b:(List Int)):Nat→Int→Option (Bool)
  | 0,_=>none
  | k+1,s1=>
    (if decide (s1 < (a.length:Int)) then ((idx a s1).bind fun c=>((idx b s1).bind fun d=>(if !decide (c=d) then some false else ((cW N a b k) (i64.wrap (s1+1)))))) else some true)
def co (N:Nat) (a:(List Int)) (b:(List Int)):Option (Bool):=
  (if !decide ((a.length:Int)=(b.length:Int)) then some false else cW N a b N 0)
def eF (N:Nat) (a:ax) (b:ax):Option (Bool):=
  ((if seq a.Kind b.Kind then some (decide (a.N=b.N)) else some false).bind fun c=>((if c then ((cE N a.Consts b.Consts).bind fun d=>some d) else some false).bind fun e=>((if e then ((co N a.At b.At).bind fun f=>some f) else some false).bind fun g=>some g)))
def fZ (N:Nat) (a:az):Nat→(List bn)→(List Int)→Int→Option (ax)
  | 0,_,_,_=>none
  | k+1,s1,s2,b=>
    (if decide (b < (a.Args.length:Int)) then ((idx a.Args b).bind fun c=>(if decide (c.K=2) then ((app s1 ([c.V]:List bn)).bind fun d=>((app s2 ([b]:List Int)).bind fun e=>((fZ N a k) d e (i64.wrap (b+1))))) else ((fZ N a k) s1 s2 (i64.wrap (b+1))))) else some (⟨a.Kind,(a.Args.length:Int),s1,s2⟩:ax))
def oB (N:Nat) (a:az):Option (ax):=
  fZ N a N ([]:List bn) ([]:List Int) 0
def dJ (N:Nat) (a:cA) (b:ax):Nat→Int→Option (Int × cA)
  | 0,_=>none
  | k+1,s1=>
    (if decide (s1 < (a.Alphas.length:Int)) then ((idx a.Alphas s1).bind fun d=>((eF N d b).bind fun e=>(if e then some (s1,a) else ((dJ N a b k) (i64.wrap (s1+1)))))) else ((app a.Alphas ([b]:List ax)).bind fun c=>some (i64.wrap ((c.length:Int) - 1),(⟨c,a.Chains⟩:cA))))
def jP (N:Nat) (a:cA) (b:az):Option (Int × cA):=
  ((oB N b).bind fun c=>dJ N a c N 0)
def gL (N:Nat) (s2:(List aJ)) (d:Int) (e:(List ax)→(List aJ)→Int→Option (cA)) (a:ah):Nat→(List ax)→(List Int)→(List Int)→Int→Option (cA)
  | 0,_,_,_,_=>none
  | k+1,h,f,g,b=>
    (if decide (b < (a.Pats.length:Int)) then ((idx a.Pats b).bind fun i=>((jP N (⟨h,s2⟩:cA) i).bind fun c=>(if i.Not then ((app f ([c.1]:List Int)).bind fun j=>((gL N s2 d e a k) c.2.Alphas j g (i64.wrap (b+1)))) else ((app g ([c.1]:List Int)).bind fun l=>((gL N s2 d e a k) c.2.Alphas f l (i64.wrap (b+1))))))) else ((app s2 ([(⟨g,f⟩:aJ)]:List aJ)).bind fun m=>(e h m (i64.wrap (d+1)))))
def fH (N:Nat) (a:bq):Nat→(List ax)→(List aJ)→Int→Option (cA)
  | 0,_,_,_=>none
  | k+1,s1,s2,b=>
    (if decide (b < (a.Rules.length:Int)) then ((idx a.Rules b).bind fun c=>gL N s2 b (fH N a k) c N s1 ([]:List Int) ([]:List Int) 0) else some (⟨s1,s2⟩:cA))
def pE (N:Nat) (a:bq):Option (cA):=
  fH N a N ([]:List ax) ([]:List aJ) 0
def j9 (N:Nat) (a:cA) (b:(List cn)):Nat→(List aV)→Int→Option (aY)
  | 0,_,_=>none
  | k+1,s1,s2=>
    (if decide (s2 < (a.Chains.length:Int)) then ((idx a.Chains s2).bind fun c=>((mk (⟨([]:List an)⟩:aw) (c.Pos.length:Int)).bind fun d=>((app s1 ([(⟨d⟩:aV)]:List aV)).bind fun e=>((j9 N a b k) e (i64.wrap (s2+1)))))) else some (⟨b,s1⟩:aY))
def qe (N:Nat) (a:cA):Option (aY):=
  ((mk (⟨([]:List Int)⟩:cn) (a.Alphas.length:Int)).bind fun b=>j9 N a b N ([]:List aV) 0)
def iL (N:Nat) (c:bq) (a:af) (d:cA):Nat→(List cn)→(List aV)→Int→Option (aY)
  | 0,_,_,_=>none
  | k+1,s1,s2,b=>
    (if decide (b < (a.Items.length:Int)) then ((idx a.Items b).bind fun f=>((ssl a.Items 0 (i64.wrap (b+1))).bind fun g=>((ol N c d (⟨s1,s2⟩:aY) (⟨g,a.Next⟩:af) f.Id).bind fun e=>((iL N c a d k) e.1 e.2 (i64.wrap (b+1)))))) else some (⟨s1,s2⟩:aY))
def ut (N:Nat) (a:bq) (d:af):Option (aY):=
  ((pE N a).bind fun b=>((qe N b).bind fun c=>iL N a d b N c.Alphas c.Rules 0))
def aO (N:Nat) (a:(List cn)) (b:(List cn)) (c:cn→cn→Option (Bool)):Nat→Int→Option (Bool)
  | 0,_=>none
  | k+1,s1=>
    (if decide (s1 < (a.length:Int)) then ((idx a s1).bind fun d=>((idx b s1).bind fun e=>((c d e).bind fun f=>(if !f then some false else ((aO N a b c k) (i64.wrap (s1+1))))))) else some true)
def bK (N:Nat) (a:(List cn)) (b:(List cn)) (c:cn→cn→Option (Bool)):Option (Bool):=
  (if !decide ((a.length:Int)=(b.length:Int)) then some false else aO N a b c N 0)
def iC (N:Nat) (a:cn) (b:cn):Option (Bool):=
  ((co N a.L b.L).bind fun c=>some c)
def aN (N:Nat) (a:(List aV)) (b:(List aV)) (c:aV→aV→Option (Bool)):Nat→Int→Option (Bool)
  | 0,_=>none
  | k+1,s1=>
    (if decide (s1 < (a.length:Int)) then ((idx a s1).bind fun d=>((idx b s1).bind fun e=>((c d e).bind fun f=>(if !f then some false else ((aN N a b c k) (i64.wrap (s1+1))))))) else some true)
def bJ (N:Nat) (a:(List aV)) (b:(List aV)) (c:aV→aV→Option (Bool)):Option (Bool):=
  (if !decide ((a.length:Int)=(b.length:Int)) then some false else aN N a b c N 0)
def aF (N:Nat) (a:(List aw)) (b:(List aw)) (c:aw→aw→Option (Bool)):Nat→Int→Option (Bool)
  | 0,_=>none
  | k+1,s1=>
    (if decide (s1 < (a.length:Int)) then ((idx a s1).bind fun d=>((idx b s1).bind fun e=>((c d e).bind fun f=>(if !f then some false else ((aF N a b c k) (i64.wrap (s1+1))))))) else some true)
def bH (N:Nat) (a:(List aw)) (b:(List aw)) (c:aw→aw→Option (Bool)):Option (Bool):=
  (if !decide ((a.length:Int)=(b.length:Int)) then some false else aF N a b c N 0)
noncomputable def eW (N:Nat) (a:(List an)) (b:an→an→Option (Int)):Option ((List an)):=
  Co a b
def gD (N:Nat) (a:(List Int)):Nat→Int→Option (Int)
  | 0,_=>none
  | k+1,s1=>
    (if decide (s1 < (a.length:Int)) then ((idx a s1).bind fun b=>(if !decide (b=0) then some b else ((gD N a k) (i64.wrap (s1+1))))) else some 0)
def gN (N:Nat) (a:(List Int)):Option (Int):=
  gD N a N 0
def jT (N:Nat) (a:Int):Option (Bool):=
  some (!decide (a=a))
def dl (N:Nat) (a:Int) (b:Int):Option (Int):=
  ((jT N a).bind fun d=>((jT N b).bind fun c=>(if d then (if c then some 0 else some (-1)) else (if c then some 1 else (if decide (a < b) then some (-1) else (if decide (b < a) then some 1 else some 0))))))
def bM (N:Nat) (a:(List Int)) (b:(List Int)):Nat→Int→Option (Int)
  | 0,_=>none
  | k+1,s1=>
    (if decide (s1 < (a.length:Int)) then ((idx a s1).bind fun d=>(if decide ((b.length:Int)≤s1) then some 1 else ((idx b s1).bind fun e=>((dl N d e).bind fun c=>(if !decide (c=0) then some c else ((bM N a b k) (i64.wrap (s1+1)))))))) else (if decide ((a.length:Int) < (b.length:Int)) then some (-1) else some 0))
def dd (N:Nat) (a:(List Int)) (b:(List Int)):Option (Int):=
  bM N a b N 0
def cY (N:Nat) (a:an) (b:an):Option (Int):=
  ((dd N a.Ids b.Ids).bind fun c=>((dd N a.Hits b.Hits).bind fun d=>((gN N ([c,d]:List Int)).bind fun e=>some e)))
def aM (N:Nat) (a:(List an)) (b:(List an)) (c:an→an→Option (Bool)):Nat→Int→Option (Bool)
  | 0,_=>none
  | k+1,s1=>
    (if decide (s1 < (a.length:Int)) then ((idx a s1).bind fun d=>((idx b s1).bind fun e=>((c d e).bind fun f=>(if !f then some false else ((aM N a b c k) (i64.wrap (s1+1))))))) else some true)
def cD (N:Nat) (a:(List an)) (b:(List an)) (c:an→an→Option (Bool)):Option (Bool):=
  (if !decide ((a.length:Int)=(b.length:Int)) then some false else aM N a b c N 0)
def mr (N:Nat) (a:an) (b:an):Option (Bool):=
  ((cY N a b).bind fun c=>some (decide (c=0)))
noncomputable def jc (N:Nat) (a:aw) (b:aw):Option (Bool):=
  (if !decide ((a.Toks.length:Int)=(b.Toks.length:Int)) then some false else ((eA N a.Toks).bind fun c=>((eA N b.Toks).bind fun d=>((eW N c (cY N)).bind fun e=>((eW N d (cY N)).bind fun f=>((cD N e f (mr N)).bind fun g=>some g))))))
noncomputable def fU (N:Nat) (a:aV) (b:aV):Option (Bool):=
  ((bH N a.Levels b.Levels (jc N)).bind fun c=>some c)
noncomputable def og (N:Nat) (a:aY) (b:aY):Option (Bool):=
  ((bK N a.Alphas b.Alphas (iC N)).bind fun c=>((if c then ((bJ N a.Rules b.Rules (fU N)).bind fun d=>some d) else some false).bind fun e=>some e))
noncomputable def mX (N:Nat) (a:bq) (c:aY) (b:af):Option (Bool):=
  ((nS N a).bind fun d=>(if d then ((mm N b).bind fun e=>(if e then ((ut N a b).bind fun f=>((og N c f).bind fun g=>some g)) else some false)) else some false))
def aQ (N:Nat) (a:(List a7)) (b:(List a7)) (c:a7→a7→Option (Bool)):Nat→Int→Option (Bool)
  | 0,_=>none
  | k+1,s1=>
    (if decide (s1 < (a.length:Int)) then ((idx a s1).bind fun d=>((idx b s1).bind fun e=>((c d e).bind fun f=>(if !f then some false else ((aQ N a b c k) (i64.wrap (s1+1))))))) else some true)
def be (N:Nat) (a:(List a7)) (b:(List a7)) (c:a7→a7→Option (Bool)):Option (Bool):=
  (if !decide ((a.length:Int)=(b.length:Int)) then some false else aQ N a b c N 0)
def lM (N:Nat) (a:a7) (b:a7):Option (Bool):=
  ((if decide (a.Rule=b.Rule) then ((co N a.Ids b.Ids).bind fun c=>some c) else some false).bind fun d=>some d)
def ce (N:Nat) (a:(List aq)) (b:(List aq)):Nat→Int→Option (Bool)
  | 0,_=>none
  | k+1,s1=>
    (if decide (s1 < (a.length:Int)) then ((idx a s1).bind fun c=>((idx b s1).bind fun d=>(if !(um c d) then some false else ((ce N a b k) (i64.wrap (s1+1)))))) else some true)
def dP (N:Nat) (a:(List aq)) (b:(List aq)):Option (Bool):=
  (if !decide ((a.length:Int)=(b.length:Int)) then some false else ce N a b N 0)
def gg (N:Nat) (a:a7) (b:a7):Option (Bool):=
  ((lM N a b).bind fun c=>((if c then ((dP N a.Binds b.Binds).bind fun d=>some d) else some false).bind fun e=>some e))
def mw (N:Nat) (a:(List a7)) (b:(List a7)):Option (Bool):=
  ((be N a b (gg N)).bind fun c=>some c)
def mV (N:Nat) (d:ah) (e:af) (a:(List Int)):Option ((List aq) × Bool):=
  ((oL N d false).bind fun b=>(if !decide ((a.length:Int)=(b.length:Int)) then some ([],false) else ((iS N b e a).bind fun c=>some (c.1,c.2))))
def ib (N:Nat) (a:an):Nat→Int→Option (Bool)
  | 0,_=>none
  | k+1,s1=>
    (if decide (s1 < (a.Hits.length:Int)) then ((idx a.Hits s1).bind fun b=>(if !decide (b=0) then some false else ((ib N a k) (i64.wrap (s1+1))))) else some true)
def qF (N:Nat) (a:an):Option (Bool):=
  ib N a N 0
def nJ (N:Nat) (a:bZ) (c:(List aq)):Option (bn × Bool):=
  (if decide (a.K=2) then some (a.V,true) else (if decide (a.K=1) then ((nB N c a.S).bind fun b=>some (b.1,b.2)) else some ((⟨0,0,(⟨#[]⟩:ByteArray)⟩:bn),false)))
def iz (N:Nat) (a:ByteArray):Option (Bool):=
  some (!seq a a)
def fQ (N:Nat) (a:ByteArray) (b:ByteArray):Option (Int):=
  ((iz N a).bind fun d=>((iz N b).bind fun c=>(if d then (if c then some 0 else some (-1)) else (if c then some 1 else (if slt a b then some (-1) else (if (!slt a b && !seq a b) then some 1 else some 0))))))
def m4 (N:Nat) (a:bn) (b:bn):Option (Int):=
  ((dl N a.K b.K).bind fun c=>((dl N a.N b.N).bind fun d=>((fQ N a.S b.S).bind fun e=>((gN N ([c,d,e]:List Int)).bind fun f=>some f))))
def o9 (N:Nat) (a:bn) (b:bn):Option (Bool):=
  ((m4 N a b).bind fun c=>some (decide (c < 0)))
def rS (N:Nat) (a:cX) (d:(List aq)):Option (Bool):=
  ((nJ N a.L d).bind fun b=>((nJ N a.R d).bind fun c=>((if !b.2 then some true else some (!c.2)).bind fun e=>(if e then some false else (if decide (a.Op=1) then some (bp b.1 c.1) else (if decide (a.Op=2) then some (!(bp b.1 c.1)) else (if decide (a.Op=3) then ((o9 N b.1 c.1).bind fun f=>some f) else some false)))))))
def fN (N:Nat) (a:(List cX)) (b:(List aq)):Nat→Int→Option (Bool)
  | 0,_=>none
  | k+1,s1=>
    (if decide (s1 < (a.length:Int)) then ((idx a s1).bind fun c=>((rS N c b).bind fun d=>(if !d then some false else ((fN N a b k) (i64.wrap (s1+1)))))) else some true)
def mt (N:Nat) (a:(List cX)) (b:(List aq)):Option (Bool):=
  fN N a b N 0
def bE (N:Nat) (c:Int) (d:a7→a7→Option (Int)) (s2:Int) (e:(List a7)→Int→Option ((List a7))):Nat→(List a7)→Int→Option ((List a7))
  | 0,_,_=>none
  | k+1,b,a=>
    ((if decide (c < a) then ((idx b a).bind fun g=>((idx b (i64.wrap (a - 1))).bind fun h=>((d g h).bind fun i=>some (decide (i < 0))))) else some false).bind fun j=>(if j then ((idx b (i64.wrap (a - 1))).bind fun f=>((idx b a).bind fun l=>((idx b a).bind fun m=>((idx (b.set a.toNat f) (i64.wrap (a - 1))).bind fun n=>((bE N c d s2 e k) ((b.set a.toNat f).set (i64.wrap (a - 1)).toNat l) (i64.wrap (a - 1))))))) else (e b (i64.wrap (s2+1)))))
def bg (N:Nat) (a:Int) (b:Int) (c:a7→a7→Option (Int)):Nat→(List a7)→Int→Option ((List a7))
  | 0,_,_=>none
  | k+1,s1,s2=>
    (if decide (s2 < b) then bE N a c s2 (bg N a b c k) N s1 s2 else some s1)
def bN (N:Nat) (b:(List a7)) (a:Int) (c:Int) (d:a7→a7→Option (Int)):Option ((List a7)):=
  bg N a c d N b (i64.wrap (a+1))
def bB (N:Nat) (a:Int) (b:Int) (c:Int):Nat→(List a7)→Int→Option ((List a7))
  | 0,_,_=>none
  | k+1,s1,s2=>
    (if decide (s2 < c) then ((idx s1 (i64.wrap (b+s2))).bind fun d=>((idx s1 (i64.wrap (a+s2))).bind fun e=>((idx s1 (i64.wrap (a+s2))).bind fun f=>((idx (s1.set (i64.wrap (a+s2)).toNat d) (i64.wrap (b+s2))).bind fun g=>((bB N a b c k) ((s1.set (i64.wrap (a+s2)).toNat d).set (i64.wrap (b+s2)).toNat e) (i64.wrap (s2+1))))))) else some s1)
def bP (N:Nat) (a:(List a7)) (b:Int) (c:Int) (d:Int) (e:a7→a7→Option (Int)):Option ((List a7)):=
  bB N b c d N a 0
def bk (N:Nat) (a:Int) (c:a7→a7→Option (Int)):Nat→(List a7)→Int→Int→Option ((List a7))
  | 0,_,_,_=>none
  | k+1,s1,s2,b=>
    (if !decide (s2=b) then (if decide (b < s2) then ((bP N s1 (i64.wrap (a - s2)) a b c).bind fun d=>((bk N a c k) d (i64.wrap (s2 - b)) b)) else ((bP N s1 (i64.wrap (a - s2)) (i64.wrap ((i64.wrap (a+b)) - s2)) s2 c).bind fun e=>((bk N a c k) e s2 (i64.wrap (b - s2))))) else ((bP N s1 (i64.wrap (a - s2)) a s2 c).bind fun f=>some f))
def dD (N:Nat) (b:(List a7)) (c:Int) (a:Int) (d:Int) (e:a7→a7→Option (Int)):Option ((List a7)):=
  bk N a e N b (i64.wrap (a - c)) (i64.wrap (d - a))
def ct (N:Nat) (s1:Int):Nat→(List a7)→Int→Option ((List a7))
  | 0,_,_=>none
  | k+1,b,a=>
    (if decide (a < i64.wrap (s1 - 1)) then ((idx b (i64.wrap (a+1))).bind fun c=>((idx b a).bind fun d=>((idx b a).bind fun e=>((idx (b.set a.toNat c) (i64.wrap (a+1))).bind fun f=>((ct N s1 k) ((b.set a.toNat c).set (i64.wrap (a+1)).toNat d) (i64.wrap (a+1))))))) else some b)
def bu (N:Nat) (a:(List a7)) (b:Int) (c:a7→a7→Option (Int)):Nat→Int→Int→Option ((List a7))
  | 0,_,_=>none
  | k+1,s1,s2=>
    (if decide (s1 < s2) then ((idx a (i64.wrap (fg .u64 (IntKind.u64.wrap (i64.wrap (s1+s2))) 1))).bind fun d=>((idx a b).bind fun e=>((c d e).bind fun f=>(if decide (f < 0) then ((bu N a b c k) (i64.wrap ((i64.wrap (fg .u64 (IntKind.u64.wrap (i64.wrap (s1+s2))) 1))+1)) s2) else ((bu N a b c k) s1 (i64.wrap (fg .u64 (IntKind.u64.wrap (i64.wrap (s1+s2))) 1))))))) else ct N s1 N a b)
def cr (N:Nat) (c:Int):Nat→(List a7)→Int→Option ((List a7))
  | 0,_,_=>none
  | k+1,b,a=>
    (if decide (c < a) then ((idx b (i64.wrap (a - 1))).bind fun d=>((idx b a).bind fun e=>((idx b a).bind fun f=>((idx (b.set a.toNat d) (i64.wrap (a - 1))).bind fun g=>((cr N c k) ((b.set a.toNat d).set (i64.wrap (a - 1)).toNat e) (i64.wrap (a - 1))))))) else some b)
def br (N:Nat) (b:(List a7)) (d:Int) (e:a7→a7→Option (Int)):Nat→Int→Int→Option ((List a7))
  | 0,_,_=>none
  | k+1,a,c=>
    (if decide (a < c) then ((idx b d).bind fun f=>((idx b (i64.wrap (fg .u64 (IntKind.u64.wrap (i64.wrap (a+c))) 1))).bind fun g=>((e f g).bind fun h=>(if !(decide (h < 0)) then ((br N b d e k) (i64.wrap ((i64.wrap (fg .u64 (IntKind.u64.wrap (i64.wrap (a+c))) 1))+1)) c) else ((br N b d e k) a (i64.wrap (fg .u64 (IntKind.u64.wrap (i64.wrap (a+c))) 1))))))) else cr N a N b d)
def cq (N:Nat) (b:Int) (c:Int) (a:Int) (f:a7→a7→Option (Int)) (g:(List a7)→Int→Int→Int→(a7→a7→Option (Int))→Option ((List a7))) (d:Int) (e:(List a7)):Option ((List a7)):=
  ((if decide ((i64.wrap (fg .u64 (IntKind.u64.wrap (i64.wrap (b+a))) 1)) < i64.wrap ((i64.wrap ((i64.wrap (fg .u64 (IntKind.u64.wrap (i64.wrap (b+a))) 1))+c)) - d)) then some (decide (i64.wrap ((i64.wrap ((i64.wrap (fg .u64 (IntKind.u64.wrap (i64.wrap (b+a))) 1))+c)) - d) < a)) else some false).bind fun h=>(if h then ((g e (i64.wrap (fg .u64 (IntKind.u64.wrap (i64.wrap (b+a))) 1)) (i64.wrap ((i64.wrap ((i64.wrap (fg .u64 (IntKind.u64.wrap (i64.wrap (b+a))) 1))+c)) - d)) a f).bind fun i=>some i) else some e))
def cu (N:Nat) (a:Int) (f:Int) (c:Int) (d:a7→a7→Option (Int)) (e:(List a7)→Int→Int→Int→(a7→a7→Option (Int))→Option ((List a7))) (b:Int) (g:(List a7)):Option ((List a7)):=
  ((if decide (a < b) then some (decide (b < (i64.wrap (fg .u64 (IntKind.u64.wrap (i64.wrap (a+c))) 1)))) else some false).bind fun h=>(if h then ((e g a b (i64.wrap (fg .u64 (IntKind.u64.wrap (i64.wrap (a+c))) 1)) d).bind fun i=>cq N a f c d e b i) else cq N a f c d e b g))
def bt (N:Nat) (e:(List a7)) (c:Int) (b:Int) (d:Int) (f:a7→a7→Option (Int)) (h:(List a7)→Int→Int→Int→(a7→a7→Option (Int))→Option ((List a7))):Nat→Int→Int→Option ((List a7))
  | 0,_,_=>none
  | k+1,a,g=>
    (if decide (a < g) then ((idx e (i64.wrap ((i64.wrap ((i64.wrap ((i64.wrap (fg .u64 (IntKind.u64.wrap (i64.wrap (c+d))) 1))+b)) - 1)) - (i64.wrap (fg .u64 (IntKind.u64.wrap (i64.wrap (a+g))) 1))))).bind fun i=>((idx e (i64.wrap (fg .u64 (IntKind.u64.wrap (i64.wrap (a+g))) 1))).bind fun j=>((f i j).bind fun l=>(if !(decide (l < 0)) then ((bt N e c b d f h k) (i64.wrap ((i64.wrap (fg .u64 (IntKind.u64.wrap (i64.wrap (a+g))) 1))+1)) g) else ((bt N e c b d f h k) a (i64.wrap (fg .u64 (IntKind.u64.wrap (i64.wrap (a+g))) 1))))))) else ((if decide (a < b) then some (decide (b < i64.wrap ((i64.wrap ((i64.wrap (fg .u64 (IntKind.u64.wrap (i64.wrap (c+d))) 1))+b)) - a))) else some false).bind fun m=>(if m then ((dD N e a b (i64.wrap ((i64.wrap ((i64.wrap (fg .u64 (IntKind.u64.wrap (i64.wrap (c+d))) 1))+b)) - a)) f).bind fun n=>cu N c b d f h a n) else cu N c b d f h a e)))
def bG (N:Nat) (a:(List a7)) (b:Int) (c:Int) (d:Int) (e:a7→a7→Option (Int)) (f:(List a7)→Int→Int→Int→(a7→a7→Option (Int))→Option ((List a7))) (g:Int) (h:Int):Option ((List a7)):=
  bt N a b c d e f N g h
def aD:Nat→(List a7)→Int→Int→Int→(a7→a7→Option (Int))→Option ((List a7))
  | 0,_,_,_,_,_=>none
  | N+1,d,b,a,c,e=>
    (if decide (i64.wrap (a - b)=1) then bu N d b e N a c else (if decide (i64.wrap (c - a)=1) then br N d a e N b a else (if decide ((i64.wrap (fg .u64 (IntKind.u64.wrap (i64.wrap (b+c))) 1)) < a) then bG N d b a c e (aD N) (i64.wrap ((i64.wrap ((i64.wrap (fg .u64 (IntKind.u64.wrap (i64.wrap (b+c))) 1))+a)) - c)) (i64.wrap (fg .u64 (IntKind.u64.wrap (i64.wrap (b+c))) 1)) else bG N d b a c e (aD N) b a)))
def cF (N:Nat) (c:Int) (e:a7→a7→Option (Int)) (a:Int) (f:(List a7)→Int→Option ((List a7))):Nat→(List a7)→Int→Int→Option ((List a7))
  | 0,_,_,_=>none
  | k+1,g,b,d=>
    (if decide (d≤c) then ((aD N g b (i64.wrap (b+a)) d e).bind fun h=>((cF N c e a f k) h d (i64.wrap (d+(i64.wrap (2*a)))))) else (if decide (i64.wrap (b+a) < c) then ((aD N g b (i64.wrap (b+a)) c e).bind fun i=>(f i (i64.wrap (a*2)))) else (f g (i64.wrap (a*2)))))
def bl (N:Nat) (a:Int) (c:a7→a7→Option (Int)):Nat→(List a7)→Int→Option ((List a7))
  | 0,_,_=>none
  | k+1,d,b=>
    (if decide (b < a) then cF N a c b (bl N a c k) N d 0 (i64.wrap (2*b)) else some d)
def bQ (N:Nat) (a:Int) (b:a7→a7→Option (Int)):Nat→(List a7)→Int→Int→Option ((List a7))
  | 0,_,_,_=>none
  | k+1,s1,s2,c=>
    (if decide (c≤a) then ((bN N s1 s2 c b).bind fun d=>((bQ N a b k) d c (i64.wrap (c+20)))) else ((bN N s1 s2 a b).bind fun e=>bl N a b N e 20))
def eQ (N:Nat) (a:(List a7)) (b:Int) (c:a7→a7→Option (Int)):Option ((List a7)):=
  bQ N b c N a 0 20
def cm (N:Nat) (a:(List a7)) (b:a7→a7→Option (Int)):Option ((List a7)):=
  ((eQ N a (a.length:Int) b).bind fun c=>some c)
def eu (N:Nat) (a:a7) (b:a7):Option (Int):=
  ((dl N a.Rule b.Rule).bind fun d=>((dl N (a.Ids.length:Int) (b.Ids.length:Int)).bind fun e=>((gN N ([d,e]:List Int)).bind fun c=>(if decide (c=0) then ((dd N a.Ids b.Ids).bind fun f=>some f) else some c))))
def fB (N:Nat) (d:af) (s1:(List a7)) (s2:Int) (e:(List a7)→Int→Option ((List a7))) (a:ah) (b:aw):Nat→(List a7)→Int→Option ((List a7))
  | 0,_,_=>none
  | k+1,f,c=>
    (if decide (c < (b.Toks.length:Int)) then ((idx b.Toks c).bind fun g=>((mV N a d g.Ids).bind fun h=>((if h.2 then ((qF N g).bind fun i=>some i) else some false).bind fun j=>((if j then ((mt N a.Conds h.1).bind fun l=>some l) else some false).bind fun m=>(if m then ((cH N g.Ids).bind fun n=>((app f ([(⟨s2,n,h.1⟩:a7)]:List a7)).bind fun o=>((fB N d s1 s2 e a b k) o (i64.wrap (c+1))))) else ((fB N d s1 s2 e a b k) f (i64.wrap (c+1)))))))) else ((cm N f (eu N)).bind fun p=>((app s1 p).bind fun q=>(e q (i64.wrap (s2+1))))))
def iU (N:Nat) (b:bq) (a:aY) (c:af):Nat→(List a7)→Int→Option ((List a7))
  | 0,_,_=>none
  | k+1,s1,s2=>
    (if decide (s2 < (b.Rules.length:Int)) then ((idx b.Rules s2).bind fun e=>((if decide ((a.Rules.length:Int)≤s2) then some true else ((idx a.Rules s2).bind fun f=>some (decide ((f.Levels.length:Int)=0)))).bind fun g=>(if g then ((iU N b a c k) s1 (i64.wrap (s2+1))) else ((idx a.Rules s2).bind fun d=>((idx d.Levels (i64.wrap ((d.Levels.length:Int) - 1))).bind fun h=>fB N c s1 s2 (iU N b a c k) e h N ([]:List a7) 0))))) else some s1)
def pB (N:Nat) (a:bq) (b:aY) (c:af):Option ((List a7)):=
  iU N a b c N ([]:List a7) 0
def gp (N:Nat) (a:ah) (b:af) (c:(List aq)):Nat→Int→Option (Bool)
  | 0,_=>none
  | k+1,s1=>
    (if decide (s1 < (a.Pats.length:Int)) then ((idx a.Pats s1).bind fun d=>((if d.Not then ((nU N d b c).bind fun e=>some (decide (0 < e))) else some false).bind fun f=>(if f then some true else ((gp N a b c k) (i64.wrap (s1+1)))))) else some false)
def oh (N:Nat) (a:ah) (b:af) (c:(List aq)):Option (Bool):=
  gp N a b c N 0
def mW (N:Nat) (s2:Int) (a:(List a7)→Int→Option ((List a7))) (b:(List a7)):Option ((List a7)):=
  (a b (i64.wrap (s2+1)))
def eK (N:Nat) (c:ah) (a:af) (b:(List Int)) (d:(List aq)) (e:(List a7)→ah→af→(List Int)→(List aq)→Option ((List a7))) (f:(List az)):Nat→(List a7)→Int→Option ((List a7))
  | 0,_,_=>none
  | k+1,s1,s2=>
    (if decide (s2 < (a.Items.length:Int)) then ((idx a.Items s2).bind fun g=>((idx f (b.length:Int)).bind fun i=>((iW N i g.F d).bind fun h=>(if h.2 then ((cH N b).bind fun j=>((app j ([g.Id]:List Int)).bind fun l=>((e s1 c a l h.1).bind fun m=>mW N s2 (eK N c a b d e f k) m))) else ((eK N c a b d e f k) s1 (i64.wrap (s2+1))))))) else some s1)
def fR:Nat→(List a7)→ah→af→(List Int)→(List aq)→Option ((List a7))
  | 0,_,_,_,_,_=>none
  | N+1,c,a,e,d,b=>
    ((oL N a false).bind fun f=>(if decide ((d.length:Int)=(f.length:Int)) then ((oh N a e b).bind fun g=>((if !g then ((mt N a.Conds b).bind fun h=>some h) else some false).bind fun i=>(if i then ((cH N d).bind fun j=>((bz N b).bind fun k=>((app c ([(⟨0,j,k⟩:a7)]:List a7)).bind fun l=>some l))) else some c))) else eK N a e d b (fR N) f N c 0))
def lJ (N:Nat) (a:ah) (b:af):Option ((List a7)):=
  ((fR N ([]:List a7) a b [] []).bind fun c=>some c)
def jJ (N:Nat) (s2:Int) (c:(List a7)→Int→Option ((List a7))) (a:(List a7)):Nat→(List a7)→Int→Option ((List a7))
  | 0,_,_=>none
  | k+1,d,b=>
    (if decide (b < (a.length:Int)) then ((idx a b).bind fun e=>((app d ([(⟨s2,e.Ids,e.Binds⟩:a7)]:List a7)).bind fun f=>((jJ N s2 c a k) f (i64.wrap (b+1))))) else (c d (i64.wrap (s2+1))))
def gO (N:Nat) (a:bq) (b:af):Nat→(List a7)→Int→Option ((List a7))
  | 0,_,_=>none
  | k+1,s1,s2=>
    (if decide (s2 < (a.Rules.length:Int)) then ((idx a.Rules s2).bind fun c=>((lJ N c b).bind fun d=>jJ N s2 (gO N a b k) d N s1 0)) else some s1)
def rF (N:Nat) (a:bq) (b:af):Option ((List a7)):=
  gO N a b N ([]:List a7) 0
def kX (N:Nat) (a:bq) (b:af):Option ((List a7)):=
  ((nS N a).bind fun c=>((if !c then some true else ((mm N b).bind fun d=>some (!d))).bind fun e=>(if e then some [] else ((rF N a b).bind fun f=>some f))))
def jH (N:Nat) (a:(List Int)):Nat→Int→Int→Option (ab)
  | 0,_,_=>none
  | k+1,s1,s2=>
    ((if decide (s2 < (a.length:Int)) then some (decide (s2 < 4000)) else some false).bind fun b=>(if b then ((idx a s2).bind fun c=>((jH N a k) (yZ .i64 (i64.wrap ((i64.wrap ((i64.wrap (s1*137))+(i64.wrap c)))+11)) 1073741823) (i64.wrap (s2+1)))) else some (⟨a,0,s1⟩:ab)))
def rW (N:Nat) (a:(List Int)):Option (ab):=
  jH N a N (i64.wrap (354354+(a.length:Int))) 0
def kK (N:Nat) (a:ab):Option (Int × ab):=
  (if decide (a.i < (a.b.length:Int)) then ((idx a.b a.i).bind fun b=>some ((yZ .i64 (i64.wrap ((yZ .i64 (JX .i64 (fg .i64 (i64.wrap ((i64.wrap (a.h*6364136223846793005))+1442695040888963407)) 33) (fg .i64 (i64.wrap ((i64.wrap (a.h*6364136223846793005))+1442695040888963407)) 47)) 255)+(i64.wrap b))) 255),(⟨a.b,i64.wrap (a.i+1),i64.wrap ((i64.wrap (a.h*6364136223846793005))+1442695040888963407)⟩:ab))) else some ((yZ .i64 (JX .i64 (fg .i64 (i64.wrap ((i64.wrap (a.h*6364136223846793005))+1442695040888963407)) 33) (fg .i64 (i64.wrap ((i64.wrap (a.h*6364136223846793005))+1442695040888963407)) 47)) 255),(⟨a.b,a.i,i64.wrap ((i64.wrap (a.h*6364136223846793005))+1442695040888963407)⟩:ab)))
def cK (N:Nat) (a:ab) (b:Int):Option (Int × ab):=
  (if decide (b≤0) then some (0,a) else (if decide (b≤256) then ((kK N a).bind fun c=>((H8 c.1 b).bind fun g=>some (g,(⟨a.b,c.2.i,c.2.h⟩:ab)))) else ((kK N a).bind fun d=>((kK N (⟨a.b,d.2.i,d.2.h⟩:ab)).bind fun e=>((kK N (⟨a.b,e.2.i,e.2.h⟩:ab)).bind fun f=>((H8 (i64.wrap ((i64.wrap ((i64.wrap (d.1*65536))+(i64.wrap (e.1*256))))+f.1)) b).bind fun h=>some (h,(⟨a.b,f.2.i,f.2.h⟩:ab))))))))
def ik (N:Nat) (b:ab) (c:(List ByteArray)):Option (ByteArray × ab):=
  ((cK N b (c.length:Int)).bind fun a=>((idx c a.1).bind fun d=>some (d,(⟨b.b,a.2.i,a.2.h⟩:ab))))
def gB (N:Nat) (b:ab) (c:Int):Option (Bool × ab):=
  ((cK N b c).bind fun a=>some (decide (a.1=0),(⟨b.b,a.2.i,a.2.h⟩:ab)))
def nC (N:Nat) (b:ab) (c:(List Int)):Option (Int × ab):=
  ((cK N b (c.length:Int)).bind fun a=>((idx c a.1).bind fun d=>some (d,(⟨b.b,a.2.i,a.2.h⟩:ab))))
def jF (N:Nat) (a:(List ByteArray)) (b:ByteArray):Nat→Int→Option (Bool)
  | 0,_=>none
  | k+1,s1=>
    (if decide (s1 < (a.length:Int)) then ((idx a s1).bind fun c=>(if seq c b then some true else ((jF N a b k) (i64.wrap (s1+1))))) else some false)
def nH (N:Nat) (a:(List ByteArray)) (b:ByteArray):Option (Bool):=
  jF N a b N 0
def hP (N:Nat) (a:az):Nat→(List ByteArray)→Int→Option ((List ByteArray))
  | 0,_,_=>none
  | k+1,s1,s2=>
    (if decide (s2 < (a.Args.length:Int)) then ((idx a.Args s2).bind fun b=>((if decide (b.K=1) then ((idx a.Args s2).bind fun c=>((nH N s1 c.S).bind fun d=>some (!d))) else some false).bind fun e=>(if e then ((idx a.Args s2).bind fun f=>((app s1 ([f.S]:List ByteArray)).bind fun g=>((hP N a k) g (i64.wrap (s2+1))))) else ((hP N a k) s1 (i64.wrap (s2+1)))))) else some s1)
def qi (N:Nat) (a:az):Option ((List ByteArray)):=
  hP N a N ([]:List ByteArray) 0
def dC (N:Nat) (d:ah) (s2:Int) (e:(List ByteArray)→Int→Option ((List ByteArray))) (a:(List ByteArray)):Nat→(List ByteArray)→Int→Option ((List ByteArray))
  | 0,_,_=>none
  | k+1,c,b=>
    ((if decide (b < (a.length:Int)) then ((idx d.Pats s2).bind fun f=>some (!f.Not)) else some false).bind fun g=>(if g then ((idx a b).bind fun h=>((nH N c h).bind fun i=>(if !i then ((idx a b).bind fun j=>((app c ([j]:List ByteArray)).bind fun l=>((dC N d s2 e a k) l (i64.wrap (b+1))))) else ((dC N d s2 e a k) c (i64.wrap (b+1)))))) else (e c (i64.wrap (s2+1)))))
def dy (N:Nat) (a:ah):Nat→(List ByteArray)→Int→Option ((List ByteArray))
  | 0,_,_=>none
  | k+1,s1,s2=>
    (if decide (s2 < (a.Pats.length:Int)) then ((idx a.Pats s2).bind fun b=>((qi N b).bind fun c=>dC N a s2 (dy N a k) c N s1 0)) else some s1)
def jC (N:Nat) (a:ah):Option ((List ByteArray)):=
  dy N a N ([]:List ByteArray) 0
def ek (N:Nat) (a:ah):Nat→Int→Int→Option (Int)
  | 0,_,_=>none
  | k+1,s1,s2=>
    (if decide (s2 < (a.Pats.length:Int)) then ((idx a.Pats s2).bind fun b=>(if !b.Not then ((ek N a k) (i64.wrap (s1+1)) (i64.wrap (s2+1))) else ((ek N a k) s1 (i64.wrap (s2+1))))) else some s1)
def iO (N:Nat) (a:ah):Option (Int):=
  ek N a N 0 0
def kP (N:Nat) (a:ab):Option (bn × ab):=
  ((gB N a 2).bind fun b=>(if b.1 then ((cK N (⟨a.b,b.2.i,b.2.h⟩:ab) 3).bind fun c=>some ((⟨1,i64.wrap (1+c.1),(⟨#[]⟩:ByteArray)⟩:bn),(⟨a.b,c.2.i,c.2.h⟩:ab))) else ((ik N (⟨a.b,b.2.i,b.2.h⟩:ab) ([(⟨#[97]⟩:ByteArray),(⟨#[98]⟩:ByteArray)]:List ByteArray)).bind fun d=>some ((⟨2,0,d.1⟩:bn),(⟨a.b,d.2.i,d.2.h⟩:ab)))))
def sj (N:Nat) (a:bn):Option (bZ):=
  some (⟨2,(⟨#[]⟩:ByteArray),a⟩:bZ)
def rR (N:Nat) (a:ByteArray):Option (bZ):=
  some (⟨1,a,(⟨0,0,(⟨#[]⟩:ByteArray)⟩:bn)⟩:bZ)
def sf (N:Nat) (b:ab):Option (bZ × ab):=
  ((cK N b 6).bind fun a=>(if decide (a.1=0) then some ((⟨3,(⟨#[]⟩:ByteArray),(⟨0,0,(⟨#[]⟩:ByteArray)⟩:bn)⟩:bZ),(⟨b.b,a.2.i,a.2.h⟩:ab)) else (if decide (a.1=1) then ((kP N (⟨b.b,a.2.i,a.2.h⟩:ab)).bind fun c=>((sj N c.1).bind fun e=>some (e,(⟨b.b,c.2.i,c.2.h⟩:ab)))) else ((ik N (⟨b.b,a.2.i,a.2.h⟩:ab) ([(⟨#[88]⟩:ByteArray),(⟨#[89]⟩:ByteArray),(⟨#[90]⟩:ByteArray),(⟨#[88]⟩:ByteArray)]:List ByteArray)).bind fun d=>((rR N d.1).bind fun f=>some (f,(⟨b.b,d.2.i,d.2.h⟩:ab)))))))
def kg (N:Nat) (a:ab) (c:Bool) (d:ByteArray × ab) (s1:Int):Nat→(List bZ)→Int→Int→Int→Option (az × ab)
  | 0,_,_,_,_=>none
  | k+1,s2,e,f,g=>
    (if decide (e < s1) then ((sf N (⟨a.b,f,g⟩:ab)).bind fun b=>((app s2 ([b.1]:List bZ)).bind fun h=>((kg N a c d s1 k) h (i64.wrap (e+1)) b.2.i b.2.h))) else some ((⟨d.1,s2,c⟩:az),(⟨a.b,f,g⟩:ab)))
def lR (N:Nat) (b:ab) (c:Bool) (a:ByteArray × ab) (s1:Int):Option (az × ab):=
  kg N b c a s1 N ([]:List bZ) 0 a.2.i a.2.h
def nL (N:Nat) (a:ab) (c:Bool):Option (az × ab):=
  ((ik N a ([(⟨#[111,114,100,101,114]⟩:ByteArray),(⟨#[112,97,105,100]⟩:ByteArray),(⟨#[105,116,101,109]⟩:ByteArray),(⟨#[111,114,100,101,114]⟩:ByteArray)]:List ByteArray)).bind fun b=>(if seq b.1 (⟨#[105,116,101,109]⟩:ByteArray) then lR N a c b 2 else lR N a c b 1))
def mE (N:Nat) (a:ab):Option (bZ × ab):=
  ((gB N a 3).bind fun b=>(if b.1 then ((kP N (⟨a.b,b.2.i,b.2.h⟩:ab)).bind fun c=>((sj N c.1).bind fun e=>some (e,(⟨a.b,c.2.i,c.2.h⟩:ab)))) else ((ik N (⟨a.b,b.2.i,b.2.h⟩:ab) ([(⟨#[88]⟩:ByteArray),(⟨#[89]⟩:ByteArray)]:List ByteArray)).bind fun d=>((rR N d.1).bind fun f=>some (f,(⟨a.b,d.2.i,d.2.h⟩:ab))))))
def qy (N:Nat) (a:ab):Option (cX × ab):=
  ((cK N a 3).bind fun b=>((mE N (⟨a.b,b.2.i,b.2.h⟩:ab)).bind fun c=>((mE N (⟨a.b,c.2.i,c.2.h⟩:ab)).bind fun d=>some ((⟨i64.wrap (1+b.1),c.1,d.1⟩:cX),(⟨a.b,d.2.i,d.2.h⟩:ab)))))
def iM (N:Nat) (a:bZ) (b:(List ByteArray)):Option (Bool):=
  ((if !decide (a.K=1) then some true else ((nH N b a.S).bind fun c=>some c)).bind fun d=>some d)
def mJ (N:Nat) (b:bZ) (a:(List ByteArray)):Option (bZ):=
  ((iM N b a).bind fun c=>(if c then some b else (if decide ((a.length:Int)=0) then ((sj N (⟨1,1,(⟨#[]⟩:ByteArray)⟩:bn)).bind fun d=>some d) else ((idx a 0).bind fun e=>((rR N e).bind fun f=>some f)))))
def o6 (N:Nat) (a:ab) (b:bZ × ab) (s1:Int) (s2:Int) (c:ByteArray) (d:Int) (e:ByteArray) (f:Int) (g:Int) (h:ByteArray):Option (d5 × ab):=
  some ((⟨c,b.1,(⟨d,e,(⟨f,g,h⟩:bn)⟩:bZ)⟩:d5),(⟨a.b,s1,s2⟩:ab))
def qP (N:Nat) (b:ab):Option (d5 × ab):=
  ((mE N b).bind fun d=>((gB N (⟨b.b,d.2.i,d.2.h⟩:ab) 4).bind fun c=>(if c.1 then ((ik N (⟨b.b,c.2.i,c.2.h⟩:ab) ([(⟨#[43]⟩:ByteArray),(⟨#[45]⟩:ByteArray)]:List ByteArray)).bind fun e=>((mE N (⟨b.b,e.2.i,e.2.h⟩:ab)).bind fun a=>o6 N b d a.2.i a.2.h e.1 a.1.K a.1.S a.1.V.K a.1.V.N a.1.V.S)) else o6 N b d c.2.i c.2.h (⟨#[]⟩:ByteArray) 0 (⟨#[]⟩:ByteArray) 0 0 (⟨#[]⟩:ByteArray))))
def o5 (N:Nat) (a:ab) (b:Int × ab) (c:ByteArray × ab) (d:(List d5)) (e:Int) (f:Int) (g:Int) (h:ByteArray):Option (ei × ab):=
  some ((⟨b.1,c.1,d,e,h⟩:ei),(⟨a.b,f,g⟩:ab))
def iZ (N:Nat) (a:ab) (c:Int × ab) (d:ByteArray × ab) (e:(List d5)) (f:Int) (i:Bool) (g:Int) (h:Int):Option (ei × ab):=
  (if i then ((ik N (⟨a.b,g,h⟩:ab) ([(⟨#[114,101,102,117,110,100]⟩:ByteArray),(⟨#[99,97,110,99,101,108]⟩:ByteArray)]:List ByteArray)).bind fun b=>o5 N a c d e f b.2.i b.2.h b.1) else o5 N a c d e f g h (⟨#[]⟩:ByteArray))
def jV (N:Nat) (a:ab) (b:Int × ab) (d:ByteArray × ab) (e:(List d5)) (f:Int) (g:Int) (h:Int):Option (ei × ab):=
  (if decide (b.1=3) then ((gB N (⟨a.b,f,g⟩:ab) 2).bind fun c=>iZ N a b d e h c.1 c.2.i c.2.h) else iZ N a b d e h false f g)
def kf (N:Nat) (a:ab) (b:Int × ab) (c:ByteArray × ab) (s2:Int):Nat→(List d5)→Int→Int→Int→Option (ei × ab)
  | 0,_,_,_,_=>none
  | k+1,d,i,e,f=>
    (if decide (i < s2) then ((qP N (⟨a.b,e,f⟩:ab)).bind fun g=>((app d ([g.1]:List d5)).bind fun j=>((kf N a b c s2 k) j (i64.wrap (i+1)) g.2.i g.2.h))) else (if decide (b.1=4) then ((nC N (⟨a.b,e,f⟩:ab) ([0,1,5,100000]:List Int)).bind fun h=>jV N a b c d h.2.i h.2.h h.1) else jV N a b c d e f 0))
def jU (N:Nat) (b:ab) (c:Int × ab) (a:ByteArray × ab) (s2:Int):Option (ei × ab):=
  kf N b c a s2 N ([]:List d5) 0 a.2.i a.2.h
def dW (N:Nat) (b:ab) (a:Int × ab) (s1:Bool):Option (ei × ab):=
  (if s1 then some ((⟨a.1,(⟨#[]⟩:ByteArray),[],0,(⟨#[]⟩:ByteArray)⟩:ei),(⟨b.b,a.2.i,a.2.h⟩:ab)) else ((ik N (⟨b.b,a.2.i,a.2.h⟩:ab) ([(⟨#[111,114,100,101,114]⟩:ByteArray),(⟨#[112,97,105,100]⟩:ByteArray),(⟨#[105,116,101,109]⟩:ByteArray),(⟨#[115,104,105,112]⟩:ByteArray),(⟨#[99,104,97,114,103,101]⟩:ByteArray)]:List ByteArray)).bind fun c=>(if seq c.1 (⟨#[105,116,101,109]⟩:ByteArray) then jU N b a c 2 else jU N b a c 1)))
def qt (N:Nat) (b:ab) (d:Int):Option (ei × ab):=
  ((nC N b ([1,1,2,3,3,4,5,6]:List Int)).bind fun a=>(if decide (a.1=2) then ((cK N (⟨b.b,a.2.i,a.2.h⟩:ab) d).bind fun c=>some ((⟨a.1,(⟨#[]⟩:ByteArray),[],c.1,(⟨#[]⟩:ByteArray)⟩:ei),(⟨b.b,c.2.i,c.2.h⟩:ab))) else (if decide (a.1=5) then dW N b a (decide (a.1=5)) else dW N b a (decide (a.1=6)))))
def gY (N:Nat) (e:(List ByteArray)) (f:(List ei)) (g:Int) (h:(List ei)→Int→Int→Int→Option (ah × ab)) (a:ei × ab):Nat→(List d5)→Int→Option (ah × ab)
  | 0,_,_=>none
  | k+1,d,b=>
    (if decide (b < (d.length:Int)) then ((idx d b).bind fun c=>((mJ N c.L e).bind fun i=>(if !seq c.Op (⟨#[]⟩:ByteArray) then ((mJ N c.R e).bind fun j=>((gY N e f g h a k) (d.set b.toNat (⟨c.Op,i,j⟩:d5)) (i64.wrap (b+1)))) else ((gY N e f g h a k) (d.set b.toNat (⟨c.Op,i,c.R⟩:d5)) (i64.wrap (b+1)))))) else ((app f ([(⟨a.1.Kind,a.1.Name,d,a.1.N,a.1.Undo⟩:ei)]:List ei)).bind fun l=>(h l (i64.wrap (g - 1)) a.2.i a.2.h)))
def gU (N:Nat) (a:ab) (b:ByteArray) (c:Int × ab) (d:(List az)) (g:(List ByteArray)) (e:(List cX)):Nat→(List ei)→Int→Int→Int→Option (ah × ab)
  | 0,_,_,_,_=>none
  | k+1,f,h,i,j=>
    (if decide (0 < h) then ((iO N (⟨b,c.1,d,e,f⟩:ah)).bind fun m=>((qt N (⟨a.b,i,j⟩:ab) m).bind fun l=>gY N g f h (gU N a b c d g e k) l N l.1.Args 0)) else some ((⟨b,c.1,d,e,f⟩:ah),(⟨a.b,i,j⟩:ab)))
def jY (N:Nat) (b:ab) (c:ByteArray) (d:Int × ab) (e:(List az)) (f:(List ByteArray)) (g:(List cX)) (h:Int) (i:Int):Option (ah × ab):=
  ((cK N (⟨b.b,h,i⟩:ab) 3).bind fun a=>gU N b c d e f g N ([]:List ei) (i64.wrap (1+a.1)) a.2.i a.2.h)
def kr (N:Nat) (c:ab) (e:ByteArray) (f:Int × ab) (g:(List az)) (h:Int) (i:Int):Option (ah × ab):=
  ((jC N (⟨e,f.1,g,[],[]⟩:ah)).bind fun d=>((gB N (⟨c.b,h,i⟩:ab) 3).bind fun a=>(if a.1 then ((qy N (⟨c.b,a.2.i,a.2.h⟩:ab)).bind fun b=>((mJ N b.1.L d).bind fun j=>((mJ N b.1.R d).bind fun k=>((app ([]:List cX) ([(⟨b.1.Op,j,k⟩:cX)]:List cX)).bind fun l=>jY N c e f g d l b.2.i b.2.h)))) else jY N c e f g d ([]:List cX) a.2.i a.2.h)))
def km (N:Nat) (a:ab) (c:ByteArray) (d:Int × ab):Nat→(List az)→Int→Int→Int→Option (ah × ab)
  | 0,_,_,_,_=>none
  | k+1,s1,s2,g,h=>
    (if decide (0 < s2) then ((nL N (⟨a.b,g,h⟩:ab) false).bind fun e=>((app s1 ([e.1]:List az)).bind fun i=>((km N a c d k) i (i64.wrap (s2 - 1)) e.2.i e.2.h))) else ((gB N (⟨a.b,g,h⟩:ab) 3).bind fun b=>(if b.1 then ((nL N (⟨a.b,b.2.i,b.2.h⟩:ab) true).bind fun f=>((app s1 ([f.1]:List az)).bind fun j=>kr N a c d j f.2.i f.2.h)) else kr N a c d s1 b.2.i b.2.h)))
def pH (N:Nat) (a:ab) (d:ByteArray):Option (ah × ab):=
  ((nC N a ([0,0,5,(-5),100]:List Int)).bind fun b=>((cK N (⟨a.b,b.2.i,b.2.h⟩:ab) 3).bind fun c=>km N a d b N ([]:List az) (i64.wrap (1+c.1)) c.2.i c.2.h))
def jn (N:Nat) (b:ab) (d:ByteArray × ab):Nat→(List ah)→Int→Int→Int→Option (bq × ab)
  | 0,_,_,_,_=>none
  | k+1,s1,s2,e,f=>
    ((cK N (⟨b.b,e,f⟩:ab) 4).bind fun a=>((if decide (s2 < i64.wrap (1+a.1)) then some (decide (s2 < 4)) else some false).bind fun g=>(if g then ((idx ([(⟨#[114,49]⟩:ByteArray),(⟨#[114,50]⟩:ByteArray),(⟨#[114,51]⟩:ByteArray),(⟨#[114,52]⟩:ByteArray)]:List ByteArray) s2).bind fun h=>((pH N (⟨b.b,a.2.i,a.2.h⟩:ab) h).bind fun c=>((app s1 ([c.1]:List ah)).bind fun i=>((jn N b d k) i (i64.wrap (s2+1)) c.2.i c.2.h)))) else some ((⟨d.1,s1⟩:bq),(⟨b.b,a.2.i,a.2.h⟩:ab)))))
def oD (N:Nat) (b:ab):Option (bq × ab):=
  ((ik N b ([(⟨#[102,108,111,119]⟩:ByteArray),(⟨#[115,104,105,112]⟩:ByteArray),(⟨#[120]⟩:ByteArray)]:List ByteArray)).bind fun a=>jn N b a N ([]:List ah) 0 a.2.i a.2.h)
def eM (N:Nat) (a:(List bn)) (b:(List bn)):Nat→Int→Option (Bool)
  | 0,_=>none
  | k+1,s1=>
    (if decide (s1 < (a.length:Int)) then ((idx a s1).bind fun c=>((idx b s1).bind fun d=>(if !(bp c d) then some false else ((eM N a b k) (i64.wrap (s1+1)))))) else some true)
def ju (N:Nat) (a:(List bn)) (b:(List bn)):Option (Bool):=
  (if !decide ((a.length:Int)=(b.length:Int)) then some false else eM N a b N 0)
def ng (N:Nat) (a:aL) (b:aL):Option (Bool):=
  ((if seq a.Kind b.Kind then ((ju N a.Fields b.Fields).bind fun c=>some c) else some false).bind fun d=>some d)
def jD (N:Nat) (a:af) (b:aL):Nat→Int→Option (Int)
  | 0,_=>none
  | k+1,s1=>
    (if decide (s1 < (a.Items.length:Int)) then ((idx a.Items s1).bind fun c=>((ng N c.F b).bind fun d=>(if d then ((idx a.Items s1).bind fun e=>some e.Id) else ((jD N a b k) (i64.wrap (s1+1)))))) else some 0)
def qH (N:Nat) (a:af) (b:aL):Option (Int):=
  jD N a b N 0
def kh (N:Nat) (a:ab) (c:ByteArray × ab) (s2:Int):Nat→(List bn)→Int→Int→Int→Option (aL × ab)
  | 0,_,_,_,_=>none
  | k+1,d,e,f,g=>
    (if decide (e < s2) then ((kP N (⟨a.b,f,g⟩:ab)).bind fun b=>((app d ([b.1]:List bn)).bind fun h=>((kh N a c s2 k) h (i64.wrap (e+1)) b.2.i b.2.h))) else some ((⟨c.1,d⟩:aL),(⟨a.b,f,g⟩:ab)))
def lQ (N:Nat) (a:ab) (b:ByteArray × ab) (s2:Int) (c:Int) (d:Int):Option (aL × ab):=
  kh N a b s2 N ([]:List bn) 0 c d
def j6 (N:Nat) (b:ab) (c:ByteArray × ab) (s1:Int):Option (aL × ab):=
  ((gB N (⟨b.b,c.2.i,c.2.h⟩:ab) 12).bind fun a=>(if a.1 then ((cK N (⟨b.b,a.2.i,a.2.h⟩:ab) 6).bind fun d=>lQ N b c d.1 d.2.i d.2.h) else lQ N b c s1 a.2.i a.2.h))
def pX (N:Nat) (a:ab):Option (aL × ab):=
  ((ik N a ([(⟨#[111,114,100,101,114]⟩:ByteArray),(⟨#[112,97,105,100]⟩:ByteArray),(⟨#[105,116,101,109]⟩:ByteArray),(⟨#[111,114,100,101,114]⟩:ByteArray)]:List ByteArray)).bind fun b=>(if seq b.1 (⟨#[105,116,101,109]⟩:ByteArray) then j6 N a b 2 else j6 N a b 1))
def jk (N:Nat) (a:(List Int)) (b:(List Int)):Nat→Int→Option (Bool)
  | 0,_=>none
  | k+1,s1=>
    (if decide (s1 < (a.length:Int)) then ((idx a s1).bind fun c=>((idx b s1).bind fun d=>(if !decide (c=d) then some false else ((jk N a b k) (i64.wrap (s1+1)))))) else some true)
def oI (N:Nat) (a:(List Int)) (b:(List Int)):Option (Bool):=
  (if !decide ((a.length:Int)=(b.length:Int)) then some false else jk N a b N 0)
def lL (N:Nat) (a:ax) (b:ax):Option (Bool):=
  ((if seq a.Kind b.Kind then some (decide (a.N=b.N)) else some false).bind fun c=>((if c then ((oI N a.At b.At).bind fun d=>some d) else some false).bind fun e=>((if e then ((ju N a.Consts b.Consts).bind fun f=>some f) else some false).bind fun g=>some g)))
def fW (N:Nat) (a:cA) (b:ax):Nat→Int→Option (Int × cA)
  | 0,_=>none
  | k+1,s1=>
    (if decide (s1 < (a.Alphas.length:Int)) then ((idx a.Alphas s1).bind fun d=>((lL N d b).bind fun e=>(if e then some (s1,a) else ((fW N a b k) (i64.wrap (s1+1)))))) else ((app a.Alphas ([b]:List ax)).bind fun c=>some (i64.wrap ((c.length:Int) - 1),(⟨c,a.Chains⟩:cA))))
def oy (N:Nat) (a:cA) (b:ax):Option (Int × cA):=
  fW N a b N 0
def gv (N:Nat) (a:az):Nat→(List bn)→(List Int)→Int→Option (ax)
  | 0,_,_,_=>none
  | k+1,s1,s2,b=>
    (if decide (b < (a.Args.length:Int)) then ((idx a.Args b).bind fun c=>(if decide (c.K=2) then ((idx a.Args b).bind fun d=>((app s1 ([d.V]:List bn)).bind fun e=>((app s2 ([b]:List Int)).bind fun f=>((gv N a k) e f (i64.wrap (b+1)))))) else ((gv N a k) s1 s2 (i64.wrap (b+1))))) else some (⟨a.Kind,(a.Args.length:Int),s1,s2⟩:ax))
def oO (N:Nat) (a:az):Option (ax):=
  gv N a N ([]:List bn) ([]:List Int) 0
def fJ (N:Nat) (b:bq) (s2:(List aJ)) (a:Int) (e:(List ax)→(List aJ)→Int→Option (cA)):Nat→(List ax)→(List Int)→(List Int)→Int→Option (cA)
  | 0,_,_,_,_=>none
  | k+1,h,f,g,c=>
    ((idx b.Rules a).bind fun j=>(if decide (c < (j.Pats.length:Int)) then ((idx b.Rules a).bind fun l=>((idx l.Pats c).bind fun i=>((oO N i).bind fun m=>((oy N (⟨h,s2⟩:cA) m).bind fun d=>(if i.Not then ((app f ([d.1]:List Int)).bind fun n=>((fJ N b s2 a e k) d.2.Alphas n g (i64.wrap (c+1)))) else ((app g ([d.1]:List Int)).bind fun o=>((fJ N b s2 a e k) d.2.Alphas f o (i64.wrap (c+1))))))))) else ((app s2 ([(⟨g,f⟩:aJ)]:List aJ)).bind fun p=>(e h p (i64.wrap (a+1))))))
def eG (N:Nat) (a:bq):Nat→(List ax)→(List aJ)→Int→Option (cA)
  | 0,_,_,_=>none
  | k+1,s1,s2,b=>
    (if decide (b < (a.Rules.length:Int)) then fJ N a s2 b (eG N a k) N s1 ([]:List Int) ([]:List Int) 0 else some (⟨s1,s2⟩:cA))
def qA (N:Nat) (a:bq):Option (cA):=
  eG N a N ([]:List ax) ([]:List aJ) 0
def fx (N:Nat) (a:af) (b:Int):Nat→(List au)→Int→Option (Bool × af)
  | 0,_,_=>none
  | k+1,s1,s2=>
    (if decide (s2 < (a.Items.length:Int)) then ((idx a.Items s2).bind fun c=>(if !decide (c.Id=b) then ((idx a.Items s2).bind fun d=>((app s1 ([d]:List au)).bind fun e=>((fx N a b k) e (i64.wrap (s2+1))))) else ((fx N a b k) s1 (i64.wrap (s2+1))))) else some (decide ((s1.length:Int) < (a.Items.length:Int)),(⟨s1,a.Next⟩:af)))
def pR (N:Nat) (a:af) (b:Int):Option (Bool × af):=
  fx N a b N ([]:List au) 0
def kF (N:Nat) (a:aL):Option (aL):=
  ((app ([]:List bn) a.Fields).bind fun b=>some (⟨a.Kind,b⟩:aL))
def mR (N:Nat) (a:af) (b:aL):Option (Int × af):=
  ((qH N a b).bind fun c=>(if decide (0 < c) then some (c,a) else ((if decide (40≤(a.Items.length:Int)) then some true else some (decide (1000000≤a.Next))).bind fun d=>(if d then some (0,a) else ((kF N b).bind fun e=>((app a.Items ([(⟨a.Next,e⟩:au)]:List au)).bind fun f=>some (i64.wrap ((i64.wrap (a.Next+1)) - 1),(⟨f,i64.wrap (a.Next+1)⟩:af))))))))
def kl (N:Nat) (b:cA) (c:(List aV)) (a:Int) (d:(List aV)→Int→Option (aY)):Nat→(List aw)→Int→Option (aY)
  | 0,_,_=>none
  | k+1,e,f=>
    ((idx b.Chains a).bind fun g=>(if decide (f < (g.Pos.length:Int)) then ((app e ([(⟨[]⟩:aw)]:List aw)).bind fun h=>((kl N b c a d k) h (i64.wrap (f+1)))) else ((app c ([(⟨e⟩:aV)]:List aV)).bind fun i=>(d i (i64.wrap (a+1))))))
def fM (N:Nat) (a:cA) (s1:(List cn)):Nat→(List aV)→Int→Option (aY)
  | 0,_,_=>none
  | k+1,b,c=>
    (if decide (c < (a.Chains.length:Int)) then kl N a b c (fM N a s1 k) N ([]:List aw) 0 else some (⟨s1,b⟩:aY))
def ke (N:Nat) (a:cA):Nat→(List cn)→Int→Option (aY)
  | 0,_,_=>none
  | k+1,s1,s2=>
    (if decide (s2 < (a.Alphas.length:Int)) then ((app s1 ([(⟨[]⟩:cn)]:List cn)).bind fun b=>((ke N a k) b (i64.wrap (s2+1)))) else fM N a s1 N ([]:List aV) 0)
def pW (N:Nat) (a:cA):Option (aY):=
  ke N a N ([]:List cn) 0
def gZ (N:Nat) (a:af) (b:Int):Nat→Int→Option (aL × Bool)
  | 0,_=>none
  | k+1,s1=>
    (if decide (s1 < (a.Items.length:Int)) then ((idx a.Items s1).bind fun c=>(if decide (c.Id=b) then ((idx a.Items s1).bind fun d=>((kF N d.F).bind fun e=>some (e,true))) else ((gZ N a b k) (i64.wrap (s1+1))))) else some ((⟨(⟨#[]⟩:ByteArray),[]⟩:aL),false))
def mb (N:Nat) (a:af) (b:Int):Option (aL × Bool):=
  gZ N a b N 0
def i9 (N:Nat) (a:(List Int)) (b:Int):Nat→Int→Option (Bool)
  | 0,_=>none
  | k+1,s1=>
    (if decide (s1 < (a.length:Int)) then ((idx a s1).bind fun c=>(if decide (c=b) then some true else ((i9 N a b k) (i64.wrap (s1+1))))) else some false)
def pK (N:Nat) (a:(List Int)) (b:Int):Option (Bool):=
  i9 N a b N 0
def dS (N:Nat) (a:(List an)) (b:Int):Nat→(List an)→Int→Option ((List an))
  | 0,_,_=>none
  | k+1,s1,s2=>
    (if decide (s2 < (a.length:Int)) then ((idx a s2).bind fun c=>((pK N c.Ids b).bind fun d=>(if !d then ((idx a s2).bind fun e=>((app s1 ([e]:List an)).bind fun f=>((dS N a b k) f (i64.wrap (s2+1))))) else ((dS N a b k) s1 (i64.wrap (s2+1)))))) else some s1)
def kO (N:Nat) (a:(List an)) (b:Int):Option ((List an)):=
  ((Da a).bind fun _=>dS N a b N ([]:List an) 0)
def j7 (N:Nat) (a:(List aq)) (b:ByteArray):Nat→Int→Option (bn × Bool)
  | 0,_=>none
  | k+1,s1=>
    (if decide (s1 < (a.length:Int)) then ((idx a s1).bind fun c=>(if seq c.Name b then ((idx a s1).bind fun d=>some (d.V,true)) else ((j7 N a b k) (i64.wrap (s1+1))))) else some ((⟨0,0,(⟨#[]⟩:ByteArray)⟩:bn),false))
def nW (N:Nat) (a:(List aq)) (b:ByteArray):Option (bn × Bool):=
  j7 N a b N 0
def gE (N:Nat) (c:az) (b:aL) (d:(List aq)):Nat→(List aq)→Int→Option ((List aq) × Bool)
  | 0,_,_=>none
  | k+1,s1,s2=>
    (if decide (s2 < (c.Args.length:Int)) then ((idx c.Args s2).bind fun a=>((nW N s1 a.S).bind fun e=>((if decide (a.K=2) then ((idx b.Fields s2).bind fun f=>some (!(bp a.V f))) else some false).bind fun g=>((if g then some true else ((if decide (a.K=1) then some e.2 else some false).bind fun h=>((if h then ((idx b.Fields s2).bind fun i=>some (!(bp e.1 i))) else some false).bind fun j=>some j))).bind fun l=>(if l then ((app ([]:List aq) d).bind fun m=>some (m,false)) else ((if decide (a.K=1) then some (!e.2) else some false).bind fun n=>(if n then ((idx b.Fields s2).bind fun o=>((app s1 ([(⟨a.S,o⟩:aq)]:List aq)).bind fun p=>((gE N c b d k) p (i64.wrap (s2+1))))) else ((gE N c b d k) s1 (i64.wrap (s2+1)))))))))) else some (s1,true))
def iJ (N:Nat) (a:az) (b:aL) (c:(List aq)):Option ((List aq) × Bool):=
  ((app ([]:List aq) c).bind fun d=>((if !seq a.Kind b.Kind then some true else some (!decide ((a.Args.length:Int)=(b.Fields.length:Int)))).bind fun e=>(if e then some (d,false) else gE N a b c N d 0)))
def lW (N:Nat) (b:ah) (s1:(List aq)) (s2:Int) (c:(List aq)→Int→Option ((List aq) × Bool)) (d:(List bn)) (e:Bool) (f:ByteArray):Option ((List aq) × Bool):=
  ((idx b.Pats s2).bind fun g=>((iJ N g (⟨f,d⟩:aL) s1).bind fun a=>((if !e then some true else some (!a.2)).bind fun h=>(if h then some (s1,false) else (c a.1 (i64.wrap (s2+1)))))))
def fd (N:Nat) (c:ah) (d:af) (a:(List Int)):Nat→(List aq)→Int→Option ((List aq) × Bool)
  | 0,_,_=>none
  | k+1,s1,s2=>
    (if decide (s2 < (a.length:Int)) then ((idx a s2).bind fun e=>((mb N d e).bind fun b=>lW N c s1 s2 (fd N c d a k) b.1.Fields b.2 b.1.Kind)) else some (s1,true))
def jK (N:Nat) (a:ah) (b:af) (c:(List Int)):Option ((List aq) × Bool):=
  fd N a b c N ([]:List aq) 0
def iX (N:Nat) (s1:(List Int)) (s2:Int) (a:(List Int)→Int→Option ((List Int))) (b:Int):Option ((List Int)):=
  ((app s1 ([b]:List Int)).bind fun c=>(a c (i64.wrap (s2+1))))
def dY (N:Nat) (a:ah) (b:aL) (c:(List aq)):Nat→(List Int)→Int→Option ((List Int))
  | 0,_,_=>none
  | k+1,s1,s2=>
    (if decide (s2 < (a.Pats.length:Int)) then ((idx a.Pats s2).bind fun d=>(if d.Not then ((idx a.Pats s2).bind fun e=>((iJ N e b c).bind fun f=>(if f.2 then iX N s1 s2 (dY N a b c k) 1 else iX N s1 s2 (dY N a b c k) 0))) else ((dY N a b c k) s1 (i64.wrap (s2+1))))) else some s1)
def nR (N:Nat) (a:ah) (b:aL) (c:(List aq)):Option ((List Int)):=
  dY N a b c N ([]:List Int) 0
def dV (N:Nat) (e:Int) (s2:Int) (f:(List an)→Int→Option ((List an))) (g:(List aq) × Bool) (c:(List Int)):Nat→(List an)→Int→Option ((List an))
  | 0,_,_=>none
  | k+1,d,a=>
    ((if decide (a < (c.length:Int)) then some g.2 else some false).bind fun h=>(if h then ((idx d s2).bind fun b=>((idx b.Hits a).bind fun i=>((idx c a).bind fun j=>((idx b.Hits a).bind fun l=>((dV N e s2 f g c k) (d.set s2.toNat (⟨b.Ids,(b.Hits.set a.toNat (i64.wrap (i+(i64.wrap (e*j)))))⟩:an)) (i64.wrap (a+1))))))) else (f d (i64.wrap (s2+1)))))
def d4 (N:Nat) (a:ah) (b:af) (c:aL) (d:Int):Nat→(List an)→Int→Option ((List an))
  | 0,_,_=>none
  | k+1,s1,s2=>
    (if decide (s2 < (s1.length:Int)) then ((idx s1 s2).bind fun f=>((jK N a b f.Ids).bind fun e=>((nR N a c e.1).bind fun g=>dV N d s2 (d4 N a b c d k) e g N s1 0))) else some s1)
def mA (N:Nat) (a:ah) (b:af) (c:(List an)) (d:aL) (e:Int):Option ((List an)):=
  d4 N a b d e N c 0
def eS (N:Nat) (b:Int) (s1:(List cn)) (s2:Int) (c:(List cn)→Int→Option (aY)):Nat→(List Int)→Int→Option (aY)
  | 0,_,_=>none
  | k+1,d,a=>
    ((idx s1 s2).bind fun e=>(if decide (a < (e.L.length:Int)) then ((idx s1 s2).bind fun f=>((idx f.L a).bind fun g=>(if !decide (g=b) then ((idx s1 s2).bind fun h=>((idx h.L a).bind fun i=>((app d ([i]:List Int)).bind fun j=>((eS N b s1 s2 c k) j (i64.wrap (a+1)))))) else ((eS N b s1 s2 c k) d (i64.wrap (a+1)))))) else ((idx s1 s2).bind fun l=>(c (s1.set s2.toNat (⟨d⟩:cn)) (i64.wrap (s2+1))))))
def gq (N:Nat) (d:bq) (e:af) (f:Int) (g:aL × Bool) (h:(List aV)) (b:Int) (i:(List aV)→Int→Option (aY)):Nat→(List aw)→Int→Option (aY)
  | 0,_,_=>none
  | k+1,a,c=>
    (if decide (c < (a.length:Int)) then ((idx a c).bind fun j=>((kO N j.Toks f).bind fun l=>((gq N d e f g h b i k) (a.set c.toNat (⟨l⟩:aw)) (i64.wrap (c+1))))) else ((idx d.Rules b).bind fun m=>((idx a (i64.wrap ((a.length:Int) - 1))).bind fun n=>((mA N m e n.Toks g.1 (-1)).bind fun o=>(i (h.set b.toNat (⟨(a.set (i64.wrap ((a.length:Int) - 1)).toNat (⟨o⟩:aw))⟩:aV)) (i64.wrap (b+1)))))))
def eI (N:Nat) (a:bq) (d:af) (e:Int) (f:aL × Bool) (s1:(List cn)):Nat→(List aV)→Int→Option (aY)
  | 0,_,_=>none
  | k+1,b,c=>
    (if decide (c < (a.Rules.length:Int)) then ((idx b c).bind fun g=>gq N a d e f b c (eI N a d e f s1 k) N g.Levels 0) else some (⟨s1,b⟩:aY))
def eX (N:Nat) (b:bq) (c:aY) (d:af) (a:Int) (e:aL × Bool):Nat→(List cn)→Int→Option (aY)
  | 0,_,_=>none
  | k+1,s1,s2=>
    (if decide (s2 < (s1.length:Int)) then eS N a s1 s2 (eX N b c d a e k) N ([]:List Int) 0 else eI N b d a e s1 N c.Rules 0)
def oN (N:Nat) (d:bq) (a:aY) (b:af) (c:Int):Option (aY):=
  ((mb N b c).bind fun e=>eX N d a b c e N a.Alphas 0)
def ev (N:Nat) (a:Int) (b:Int) (c:Int):Option (Bool):=
  ((if decide (b≤a) then some (decide (a≤c)) else some false).bind fun d=>some d)
def jb (N:Nat) (a:ax) (b:aL):Nat→Int→Option (Bool)
  | 0,_=>none
  | k+1,s1=>
    (if decide (s1 < (a.At.length:Int)) then ((idx a.At s1).bind fun c=>((if decide ((a.Consts.length:Int)≤s1) then some true else ((ev N c 0 (i64.wrap ((b.Fields.length:Int) - 1))).bind fun d=>some (!d))).bind fun e=>((if e then some true else ((idx b.Fields c).bind fun f=>((idx a.Consts s1).bind fun g=>some (!(bp f g))))).bind fun h=>(if h then some false else ((jb N a b k) (i64.wrap (s1+1))))))) else some true)
def q9 (N:Nat) (a:ax) (b:aL):Option (Bool):=
  ((if !seq a.Kind b.Kind then some true else some (!decide (a.N=(b.Fields.length:Int)))).bind fun c=>(if c then some false else jb N a b N 0))
def kU (N:Nat) (a:(List an)) (c:ah) (d:af) (e:(List Int)) (f:Int):Option ((List an)):=
  ((app ([]:List Int) e).bind fun g=>((app g ([f]:List Int)).bind fun b=>((jK N c d b).bind fun h=>(if !h.2 then some a else ((app a ([(⟨b,([]:List Int)⟩:an)]:List an)).bind fun i=>some i)))))
def fe (N:Nat) (s2:Int) (d:(List Int)→Int→Option (an)) (c:(List Int)):Nat→(List Int)→Int→Option (an)
  | 0,_,_=>none
  | k+1,b,a=>
    (if decide (a < (c.length:Int)) then ((idx b a).bind fun e=>((idx c a).bind fun f=>((idx b a).bind fun g=>((fe N s2 d c k) (b.set a.toNat (i64.wrap (e+f))) (i64.wrap (a+1)))))) else (d b (i64.wrap (s2+1))))
def dL (N:Nat) (b:ah) (a:af) (c:an) (d:(List aq) × Bool):Nat→(List Int)→Int→Option (an)
  | 0,_,_=>none
  | k+1,s1,s2=>
    (if decide (s2 < (a.Items.length:Int)) then ((idx a.Items s2).bind fun e=>((nR N b e.F d.1).bind fun f=>fe N s2 (dL N b a c d k) f N s1 0)) else some (⟨c.Ids,s1⟩:an))
def mS (N:Nat) (a:ah) (b:af) (c:an):Option (an):=
  ((jK N a b c.Ids).bind fun d=>((iO N a).bind fun e=>((mk 0 (i64.wrap ((a.Pats.length:Int) - e))).bind fun f=>dL N a b c d N f 0)))
def fY (N:Nat) (d:ah) (e:af) (s2:(List an)) (a:cn) (b:Int) (f:(List an)→Int→Option (aY)):Nat→(List an)→Int→Option (aY)
  | 0,_,_=>none
  | k+1,g,c=>
    (if decide (c < (a.L.length:Int)) then ((idx s2 b).bind fun h=>((idx a.L c).bind fun i=>((kU N g d e h.Ids i).bind fun j=>((fY N d e s2 a b f k) j (i64.wrap (c+1)))))) else (f g (i64.wrap (b+1))))
def cB (N:Nat) (d:ah) (e:af) (f:aV) (s1:(List aw)) (a:Int) (g:(List aw)→(List an)→Int→Option (aY)):Nat→(List an)→Int→Option (aY)
  | 0,_,_=>none
  | k+1,b,c=>
    ((if decide (c < (b.length:Int)) then some (decide (a=i64.wrap ((f.Levels.length:Int) - 1))) else some false).bind fun h=>(if h then ((idx b c).bind fun i=>((mS N d e i).bind fun j=>((cB N d e f s1 a g k) (b.set c.toNat j) (i64.wrap (c+1))))) else ((idx s1 a).bind fun l=>((app l.Toks b).bind fun m=>(g (s1.set a.toNat (⟨m⟩:aw)) b (i64.wrap (a+1)))))))
def eR (N:Nat) (a:ah) (b:af) (c:aV) (s1:(List aw)) (s2:(List an)) (d:Int) (e:(List aw)→(List an)→Int→Option (aY)) (f:cn):Nat→(List an)→Int→Option (aY)
  | 0,_,_=>none
  | k+1,g,h=>
    (if decide (h < (s2.length:Int)) then fY N a b s2 f h (eR N a b c s1 s2 d e f k) N g 0 else cB N a b c s1 d e N g 0)
def dX (N:Nat) (b:ah) (c:aJ) (f:aY) (d:af) (g:Int) (h:(List Bool)) (i:aV) (s1:(List aw)) (s2:(List an)) (a:Int) (j:(List aw)→(List an)→Int→Option (aY)) (l:Int):Nat→(List an)→Int→Option (aY)
  | 0,_,_=>none
  | k+1,m,e=>
    ((if decide (e < l) then ((idx c.Pos a).bind fun n=>((idx h n).bind fun o=>some o)) else some false).bind fun p=>(if p then ((idx s1 (i64.wrap (a - 1))).bind fun q=>((idx q.Toks e).bind fun r=>((kU N m b d r.Ids g).bind fun s=>((dX N b c f d g h i s1 s2 a j l k) s (i64.wrap (e+1)))))) else ((idx c.Pos a).bind fun t=>((idx f.Alphas t).bind fun u=>eR N b d i s1 s2 a j u N m 0))))
def jp (N:Nat) (a:ah) (b:aJ) (c:aY) (d:af) (e:Int) (f:(List Bool)) (g:aV) (s1:(List aw)) (s2:(List an)) (h:Int) (i:(List aw)→(List an)→Int→Option (aY)) (j:(List an)) (k:Int):Option (aY):=
  dX N a b c d e f g s1 s2 h i k N j 0
def iA (N:Nat) (b:ah) (c:aJ) (d:aY) (e:af) (f:Int) (g:(List Bool)) (h:aV) (s1:(List aw)) (s2:(List an)) (a:Int) (i:(List aw)→(List an)→Int→Option (aY)) (j:(List an)):Option (aY):=
  (if decide (0 < a) then ((idx s1 (i64.wrap (a - 1))).bind fun k=>jp N b c d e f g h s1 s2 a i j (i64.wrap ((k.Toks.length:Int) - (s2.length:Int)))) else jp N b c d e f g h s1 s2 a i j 0)
def bD (N:Nat) (b:ah) (c:aJ) (a:aY) (i:Int) (d:af) (e:Int) (f:(List Bool)) (g:aV):Nat→(List aw)→(List an)→Int→Option (aY)
  | 0,_,_,_=>none
  | k+1,s1,s2,h=>
    (if decide (h≤i64.wrap ((g.Levels.length:Int) - 1)) then ((if decide (h=0) then ((idx c.Pos 0).bind fun j=>((idx f j).bind fun l=>some l)) else some false).bind fun m=>(if m then ((kU N ([]:List an) b d ([]:List Int) e).bind fun n=>iA N b c a d e f g s1 s2 h (bD N b c a i d e f g k) n) else iA N b c a d e f g s1 s2 h (bD N b c a i d e f g k) ([]:List an))) else some (⟨a.Alphas,(a.Rules.set i.toNat (⟨s1⟩:aV))⟩:aY))
def oA (N:Nat) (b:ah) (f:aJ) (c:aY) (d:Int) (e:af) (g:Int) (h:aL) (i:(List Bool)):Option (aY):=
  ((idx c.Rules d).bind fun a=>((idx a.Levels (i64.wrap ((a.Levels.length:Int) - 1))).bind fun j=>((mA N b e j.Toks h 1).bind fun k=>bD N b f c d e g i a N (a.Levels.set (i64.wrap ((a.Levels.length:Int) - 1)).toNat (⟨k⟩:aw)) ([]:List an) 0)))
def gV (N:Nat) (b:bq) (c:cA) (d:af) (e:Int) (f:aL × Bool) (s1:(List cn)) (s2:(List Bool)):Nat→(List aV)→Int→Option (aY)
  | 0,_,_=>none
  | k+1,g,a=>
    (if decide (a < (b.Rules.length:Int)) then ((idx b.Rules a).bind fun h=>((idx c.Chains a).bind fun i=>((oA N h i (⟨s1,g⟩:aY) a d e f.1 s2).bind fun j=>((gV N b c d e f s1 s2 k) j.Rules (i64.wrap (a+1)))))) else some (⟨s1,g⟩:aY))
def fD (N:Nat) (e:bq) (b:cA) (f:aY) (g:af) (c:Int) (d:aL × Bool):Nat→(List cn)→(List Bool)→Int→Option (aY)
  | 0,_,_,_=>none
  | k+1,s1,s2,a=>
    (if decide (a < (b.Alphas.length:Int)) then ((idx b.Alphas a).bind fun j=>((q9 N j d.1).bind fun h=>((app s2 ([h]:List Bool)).bind fun i=>(if h then ((idx s1 a).bind fun l=>((app l.L ([c]:List Int)).bind fun m=>((fD N e b f g c d k) (s1.set a.toNat (⟨m⟩:cn)) i (i64.wrap (a+1))))) else ((fD N e b f g c d k) s1 i (i64.wrap (a+1))))))) else gV N e b g c d s1 s2 N f.Rules 0)
def qM (N:Nat) (d:bq) (e:cA) (a:aY) (b:af) (c:Int):Option (aY):=
  ((mb N b c).bind fun f=>fD N d e a b c f N a.Alphas ([]:List Bool) 0)
def fT (N:Nat) (b:ab) (c:bq × ab) (f:cA):Nat→(List cn)→(List aV)→(List au)→Int→Int→Int→Int→Option (bq × cA × aY × af × ab)
  | 0,_,_,_,_,_,_,_=>none
  | k+1,s1,s2,a,h,l,m,d=>
    (if decide (0 < h) then ((gB N (⟨b.b,l,m⟩:ab) 4).bind fun g=>((if g.1 then some (decide (0 < (a.length:Int))) else some false).bind fun r=>(if r then ((cK N (⟨b.b,g.2.i,g.2.h⟩:ab) (a.length:Int)).bind fun j=>((idx a j.1).bind fun n=>((oN N c.1 (⟨s1,s2⟩:aY) (⟨a,d⟩:af) n.Id).bind fun o=>((pR N (⟨a,d⟩:af) n.Id).bind fun p=>((fT N b c f k) o.Alphas o.Rules p.2.Items (i64.wrap (h - 1)) j.2.i j.2.h p.2.Next))))) else ((pX N (⟨b.b,g.2.i,g.2.h⟩:ab)).bind fun e=>((qH N (⟨a,d⟩:af) e.1).bind fun s=>(if decide (s=0) then ((mR N (⟨a,d⟩:af) e.1).bind fun i=>((qM N c.1 f (⟨s1,s2⟩:aY) i.2 i.1).bind fun q=>((fT N b c f k) q.Alphas q.Rules i.2.Items (i64.wrap (h - 1)) e.2.i e.2.h i.2.Next))) else ((fT N b c f k) s1 s2 a (i64.wrap (h - 1)) e.2.i e.2.h d))))))) else some (c.1,f,(⟨s1,s2⟩:aY),(⟨a,d⟩:af),(⟨b.b,l,m⟩:ab)))
def ou (N:Nat) (b:ab):Option (bq × cA × aY × af × ab):=
  ((oD N b).bind fun a=>((qA N a.1).bind fun d=>((pW N d).bind fun e=>((cK N (⟨b.b,a.2.i,a.2.h⟩:ab) 10).bind fun c=>fT N b a d N e.Alphas e.Rules ([]:List au) c.1 c.2.i c.2.h 1))))
def ov (N:Nat) (b:(List Int)):Option (bq × cA × aY × af):=
  ((rW N b).bind fun c=>((ou N c).bind fun a=>some (a.1,a.2.1,a.2.2.1,a.2.2.2.1)))
def aR (N:Nat) (a:(List ax)) (b:(List ax)) (c:ax→ax→Option (Bool)):Nat→Int→Option (Bool)
  | 0,_=>none
  | k+1,s1=>
    (if decide (s1 < (a.length:Int)) then ((idx a s1).bind fun d=>((idx b s1).bind fun e=>((c d e).bind fun f=>(if !f then some false else ((aR N a b c k) (i64.wrap (s1+1))))))) else some true)
def bd (N:Nat) (a:(List ax)) (b:(List ax)) (c:ax→ax→Option (Bool)):Option (Bool):=
  (if !decide ((a.length:Int)=(b.length:Int)) then some false else aR N a b c N 0)
def aP (N:Nat) (a:(List aJ)) (b:(List aJ)) (c:aJ→aJ→Option (Bool)):Nat→Int→Option (Bool)
  | 0,_=>none
  | k+1,s1=>
    (if decide (s1 < (a.length:Int)) then ((idx a s1).bind fun d=>((idx b s1).bind fun e=>((c d e).bind fun f=>(if !f then some false else ((aP N a b c k) (i64.wrap (s1+1))))))) else some true)
def bb (N:Nat) (a:(List aJ)) (b:(List aJ)) (c:aJ→aJ→Option (Bool)):Option (Bool):=
  (if !decide ((a.length:Int)=(b.length:Int)) then some false else aP N a b c N 0)
def fA (N:Nat) (a:aJ) (b:aJ):Option (Bool):=
  ((co N a.Pos b.Pos).bind fun c=>((if c then ((co N a.Neg b.Neg).bind fun d=>some d) else some false).bind fun e=>some e))
def sg (N:Nat) (a:cA) (b:bq):Option (Bool):=
  ((nS N b).bind fun d=>(if !d then some false else ((pE N b).bind fun c=>((bd N a.Alphas c.Alphas (eF N)).bind fun e=>((if e then ((bb N a.Chains c.Chains (fA N)).bind fun f=>some f) else some false).bind fun g=>some g)))))
def jM (N:Nat) (a:Int):Option (Bool):=
  ((ev N (i64.wrap a) 97 122).bind fun b=>((if b then some true else ((ev N (i64.wrap a) 48 57).bind fun c=>some c)).bind fun d=>((if d then some true else some (decide (a=95))).bind fun e=>some e)))
def fq (N:Nat) (a:ByteArray):Nat→Int→Option (Bool)
  | 0,_=>none
  | k+1,s1=>
    (if decide (s1 < (a.size:Int)) then ((idx a.data.toList s1).bind fun b=>((jM N (b.toNat:Int)).bind fun c=>((if !c then some true else ((if decide (s1=0) then ((idx a.data.toList s1).bind fun d=>((ev N (i64.wrap (d.toNat:Int)) 97 122).bind fun e=>some (!e))) else some false).bind fun f=>some f)).bind fun g=>(if g then some false else ((fq N a k) (i64.wrap (s1+1))))))) else ((ev N (a.size:Int) 1 12).bind fun h=>some h))
def fk (N:Nat) (a:ByteArray):Option (Bool):=
  fq N a N 0
def gw (N:Nat) (a:ByteArray):Nat→Int→Option (Bool)
  | 0,_=>none
  | k+1,s1=>
    (if decide (s1 < (a.size:Int)) then ((idx a.data.toList s1).bind fun b=>((jM N (b.toNat:Int)).bind fun c=>(if !c then some false else ((gw N a k) (i64.wrap (s1+1)))))) else some (decide ((a.size:Int)≤20)))
def oF (N:Nat) (a:ByteArray):Option (Bool):=
  gw N a N 0
def pD (N:Nat) (a:bn):Option (Bool):=
  (if decide (a.K=1) then ((ev N a.N (-1000000000) 1000000000).bind fun b=>((if b then some (seq a.S (⟨#[]⟩:ByteArray)) else some false).bind fun c=>some c)) else (if decide (a.K=2) then ((oF N a.S).bind fun d=>((if d then some (decide (a.N=0)) else some false).bind fun e=>some e)) else some false))
def ot (N:Nat) (a:Int):Option (Bool):=
  ((ev N (i64.wrap a) 65 90).bind fun b=>some b)
def dZ (N:Nat) (a:ByteArray):Nat→Int→Option (Bool)
  | 0,_=>none
  | k+1,s1=>
    (if decide (s1 < (a.size:Int)) then ((idx a.data.toList s1).bind fun b=>((ot N (b.toNat:Int)).bind fun c=>((if !c then ((if decide (s1=0) then some true else ((idx a.data.toList s1).bind fun d=>((jM N (d.toNat:Int)).bind fun e=>some (!e)))).bind fun f=>some f) else some false).bind fun g=>(if g then some false else ((dZ N a k) (i64.wrap (s1+1))))))) else ((ev N (a.size:Int) 1 12).bind fun h=>some h))
def oP (N:Nat) (a:ByteArray):Option (Bool):=
  dZ N a N 0
def mH (N:Nat) (a:bZ):Option (Bool):=
  (if decide (a.K=1) then ((oP N a.S).bind fun b=>((if b then some (bp a.V (⟨0,0,(⟨#[]⟩:ByteArray)⟩:bn)) else some false).bind fun c=>some c)) else (if decide (a.K=2) then ((pD N a.V).bind fun d=>((if d then some (seq a.S (⟨#[]⟩:ByteArray)) else some false).bind fun e=>some e)) else (if decide (a.K=3) then ((if seq a.S (⟨#[]⟩:ByteArray) then some (bp a.V (⟨0,0,(⟨#[]⟩:ByteArray)⟩:bn)) else some false).bind fun f=>some f) else some false)))
def iK (N:Nat) (a:az):Nat→Int→Option (Bool)
  | 0,_=>none
  | k+1,s1=>
    (if decide (s1 < (a.Args.length:Int)) then ((idx a.Args s1).bind fun b=>((mH N b).bind fun c=>(if !c then some false else ((iK N a k) (i64.wrap (s1+1)))))) else ((fk N a.Kind).bind fun d=>((if d then some (decide ((a.Args.length:Int)≤5)) else some false).bind fun e=>some e)))
def sv (N:Nat) (a:az):Option (Bool):=
  iK N a N 0
def fu (N:Nat) (a:(List az)):Nat→Int→Option (Bool)
  | 0,_=>none
  | k+1,s1=>
    (if decide (s1 < (a.length:Int)) then ((if decide (2 < s1) then ((idx a s1).bind fun b=>some (!b.Not)) else some false).bind fun c=>(if c then some false else ((idx a s1).bind fun d=>((sv N d).bind fun e=>((if !e then some true else ((if decide (s1=0) then ((idx a s1).bind fun f=>some f.Not) else some false).bind fun g=>some g)).bind fun h=>((if h then some true else ((if decide (0 < s1) then ((idx a (i64.wrap (s1 - 1))).bind fun i=>some i.Not) else some false).bind fun j=>((if j then ((idx a s1).bind fun l=>some (!l.Not)) else some false).bind fun m=>some m))).bind fun n=>(if n then some false else ((fu N a k) (i64.wrap (s1+1)))))))))) else ((ev N (a.length:Int) 1 6).bind fun o=>some o))
def pS (N:Nat) (a:(List az)):Option (Bool):=
  fu N a N 0
def pY (N:Nat) (a:cX):Option (Bool):=
  ((ev N a.Op 1 3).bind fun b=>((if b then ((mH N a.L).bind fun c=>some c) else some false).bind fun d=>((if d then ((mH N a.R).bind fun e=>some e) else some false).bind fun f=>((if f then some (!decide (a.L.K=3)) else some false).bind fun g=>((if g then some (!decide (a.R.K=3)) else some false).bind fun h=>some h)))))
def fX (N:Nat) (a:(List cX)) (b:(List ByteArray)):Nat→Int→Option (Bool)
  | 0,_=>none
  | k+1,s1=>
    (if decide (s1 < (a.length:Int)) then ((idx a s1).bind fun c=>((pY N c).bind fun d=>((if !d then some true else ((idx a s1).bind fun e=>((iM N e.L b).bind fun f=>some (!f)))).bind fun g=>((if g then some true else ((idx a s1).bind fun h=>((iM N h.R b).bind fun i=>some (!i)))).bind fun j=>(if j then some false else ((fX N a b k) (i64.wrap (s1+1)))))))) else some (decide ((a.length:Int)≤6)))
def ow (N:Nat) (a:(List cX)) (b:(List ByteArray)):Option (Bool):=
  fX N a b N 0
def kT (N:Nat) (a:bZ):Option (Bool):=
  ((mH N a).bind fun b=>((if b then some (!decide (a.K=3)) else some false).bind fun c=>some c))
def ko (N:Nat) (a:d5) (s1:Bool):Option (Bool):=
  (if s1 then ((kT N a.L).bind fun b=>((if b then ((kT N a.R).bind fun c=>some c) else some false).bind fun d=>some d)) else some false)
def pP (N:Nat) (a:d5):Option (Bool):=
  (if seq a.Op (⟨#[]⟩:ByteArray) then ((kT N a.L).bind fun b=>((if b then some (om a.R (⟨0,(⟨#[]⟩:ByteArray),(⟨0,0,(⟨#[]⟩:ByteArray)⟩:bn)⟩:bZ)) else some false).bind fun c=>some c)) else (if seq a.Op (⟨#[43]⟩:ByteArray) then ko N a (seq a.Op (⟨#[43]⟩:ByteArray)) else ko N a (seq a.Op (⟨#[45]⟩:ByteArray))))
def gW (N:Nat) (a:(List d5)):Nat→Int→Option (Bool)
  | 0,_=>none
  | k+1,s1=>
    (if decide (s1 < (a.length:Int)) then ((idx a s1).bind fun b=>((pP N b).bind fun c=>(if !c then some false else ((gW N a k) (i64.wrap (s1+1)))))) else some (decide ((a.length:Int)≤5)))
def m6 (N:Nat) (a:(List d5)):Option (Bool):=
  gW N a N 0
def l8 (N:Nat) (a:ei) (b:Bool) (s1:Bool):Option (Bool):=
  (if s1 then ((if b then some (decide (a.N=0)) else some false).bind fun c=>some c) else some false)
def rN (N:Nat) (a:ei):Option (Bool):=
  ((if seq a.Name (⟨#[]⟩:ByteArray) then some (decide ((a.Args.length:Int)=0)) else some false).bind fun c=>((if c then some (seq a.Undo (⟨#[]⟩:ByteArray)) else some false).bind fun b=>(if decide (a.Kind=1) then ((fk N a.Name).bind fun d=>((if d then ((m6 N a.Args).bind fun e=>some e) else some false).bind fun f=>((if f then some (decide (a.N=0)) else some false).bind fun g=>((if g then some (seq a.Undo (⟨#[]⟩:ByteArray)) else some false).bind fun h=>some h)))) else (if decide (a.Kind=3) then ((fk N a.Name).bind fun i=>((if i then ((m6 N a.Args).bind fun j=>some j) else some false).bind fun k=>((if k then some (decide (a.N=0)) else some false).bind fun l=>((if l then ((if seq a.Undo (⟨#[]⟩:ByteArray) then some true else ((fk N a.Undo).bind fun m=>some m)).bind fun n=>some n) else some false).bind fun o=>some o)))) else (if decide (a.Kind=4) then ((fk N a.Name).bind fun p=>((if p then ((m6 N a.Args).bind fun q=>some q) else some false).bind fun r=>((if r then ((ev N a.N 0 100000).bind fun s=>some s) else some false).bind fun t=>((if t then some (seq a.Undo (⟨#[]⟩:ByteArray)) else some false).bind fun u=>some u)))) else (if decide (a.Kind=2) then ((if b then ((ev N a.N 0 7).bind fun v=>some v) else some false).bind fun w=>some w) else (if decide (a.Kind=5) then l8 N a b (decide (a.Kind=5)) else l8 N a b (decide (a.Kind=6)))))))))
def i8 (N:Nat) (a:(List ei)) (b:(List ByteArray)) (s1:Int) (c:Int→Option (Bool)):Nat→Int→Option (Bool)
  | 0,_=>none
  | k+1,s2=>
    ((idx a s1).bind fun d=>(if decide (s2 < (d.Args.length:Int)) then ((idx a s1).bind fun e=>((idx e.Args s2).bind fun f=>((iM N f.L b).bind fun g=>((if !g then some true else ((idx a s1).bind fun h=>((idx h.Args s2).bind fun i=>((iM N i.R b).bind fun j=>some (!j))))).bind fun l=>(if l then some false else ((i8 N a b s1 c k) (i64.wrap (s2+1)))))))) else (c (i64.wrap (s1+1)))))
def ed (N:Nat) (a:(List ei)) (b:(List ByteArray)) (c:Int):Nat→Int→Option (Bool)
  | 0,_=>none
  | k+1,s1=>
    (if decide (s1 < (a.length:Int)) then ((idx a s1).bind fun d=>((rN N d).bind fun e=>((if !e then some true else ((idx a s1).bind fun f=>((if decide (f.Kind=2) then ((idx a s1).bind fun g=>some (decide (c≤g.N))) else some false).bind fun h=>some h))).bind fun i=>(if i then some false else i8 N a b s1 (ed N a b c k) N 0)))) else ((ev N (a.length:Int) 1 6).bind fun j=>some j))
def qG (N:Nat) (a:(List ei)) (b:(List ByteArray)) (c:Int):Option (Bool):=
  ed N a b c N 0
def qD (N:Nat) (a:ah):Option (Bool):=
  ((jC N a).bind fun b=>((fk N a.Name).bind fun c=>((if c then ((ev N a.Sal (-100) 100).bind fun d=>some d) else some false).bind fun e=>((if e then ((pS N a.Pats).bind fun f=>some f) else some false).bind fun g=>((if g then ((ow N a.Conds b).bind fun h=>some h) else some false).bind fun i=>((if i then ((iO N a).bind fun j=>((qG N a.Acts b j).bind fun k=>some k)) else some false).bind fun l=>some l))))))
def ia (N:Nat) (a:bq) (b:ByteArray):Nat→Int→Option (Int)
  | 0,_=>none
  | k+1,s1=>
    (if decide (s1 < (a.Rules.length:Int)) then ((idx a.Rules s1).bind fun c=>(if seq c.Name b then some s1 else ((ia N a b k) (i64.wrap (s1+1))))) else some (-1))
def qQ (N:Nat) (a:bq) (b:ByteArray):Option (Int):=
  ia N a b N 0
def gP (N:Nat) (a:bq):Nat→Int→Option (Bool)
  | 0,_=>none
  | k+1,s1=>
    (if decide (s1 < (a.Rules.length:Int)) then ((idx a.Rules s1).bind fun b=>((qD N b).bind fun c=>((if !c then some true else ((idx a.Rules s1).bind fun d=>((qQ N a d.Name).bind fun e=>some (!decide (e=s1))))).bind fun f=>(if f then some false else ((gP N a k) (i64.wrap (s1+1))))))) else ((fk N a.Name).bind fun g=>((if g then ((ev N (a.Rules.length:Int) 1 12).bind fun h=>some h) else some false).bind fun i=>some i)))
def rY (N:Nat) (a:bq):Option (Bool):=
  gP N a N 0
def fv (N:Nat) (a:(List bn)):Nat→Int→Option (Bool)
  | 0,_=>none
  | k+1,s1=>
    (if decide (s1 < (a.length:Int)) then ((idx a s1).bind fun b=>((pD N b).bind fun c=>(if !c then some false else ((fv N a k) (i64.wrap (s1+1)))))) else some (decide ((a.length:Int)≤5)))
def sI (N:Nat) (a:(List bn)):Option (Bool):=
  fv N a N 0
def qR (N:Nat) (a:aL):Option (Bool):=
  ((fk N a.Kind).bind fun b=>((if b then ((sI N a.Fields).bind fun c=>some c) else some false).bind fun d=>some d))
def iB (N:Nat) (a:af):Nat→Int→Option (Bool)
  | 0,_=>none
  | k+1,s1=>
    (if decide (s1 < (a.Items.length:Int)) then ((idx a.Items s1).bind fun b=>((qR N b.F).bind fun c=>((if !c then some true else some (decide (b.Id < 1))).bind fun d=>((if d then some true else some (decide (a.Next≤b.Id))).bind fun e=>((if e then some true else ((if decide (0 < s1) then ((idx a.Items (i64.wrap (s1 - 1))).bind fun f=>some (decide (b.Id≤f.Id))) else some false).bind fun g=>some g)).bind fun h=>((if h then some true else ((qH N a b.F).bind fun i=>some (!decide (i=b.Id)))).bind fun j=>(if j then some false else ((iB N a k) (i64.wrap (s1+1)))))))))) else some true)
def oG (N:Nat) (a:af):Option (Bool):=
  ((ev N a.Next 1 1000000).bind fun b=>((if !b then some true else some (decide (40 < (a.Items.length:Int)))).bind fun c=>(if c then some false else iB N a N 0)))
def eU (N:Nat) (a:ah) (b:af) (c:(List aq)) (s1:Int) (d:Int→Option (Bool)):Nat→Int→Option (Bool)
  | 0,_=>none
  | k+1,s2=>
    ((if decide (s2 < (b.Items.length:Int)) then ((idx a.Pats s1).bind fun e=>some e.Not) else some false).bind fun f=>(if f then ((idx a.Pats s1).bind fun g=>((idx b.Items s2).bind fun h=>((iJ N g h.F c).bind fun i=>(if i.2 then some true else ((eU N a b c s1 d k) (i64.wrap (s2+1))))))) else (d (i64.wrap (s1+1)))))
def d6 (N:Nat) (a:ah) (b:af) (c:(List aq)):Nat→Int→Option (Bool)
  | 0,_=>none
  | k+1,s1=>
    (if decide (s1 < (a.Pats.length:Int)) then eU N a b c s1 (d6 N a b c k) N 0 else some false)
def oc (N:Nat) (a:ah) (b:af) (c:(List aq)):Option (Bool):=
  d6 N a b c N 0
def nN (N:Nat) (a:bZ) (c:(List aq)):Option (bn × Bool):=
  (if decide (a.K=2) then some (a.V,true) else (if decide (a.K=1) then ((nW N c a.S).bind fun b=>some (b.1,b.2)) else some ((⟨0,0,(⟨#[]⟩:ByteArray)⟩:bn),false)))
def oC (N:Nat) (a:bn) (b:bn):Option (Bool):=
  (if !decide (a.K=b.K) then some (decide (a.K < b.K)) else (if !decide (a.N=b.N) then some (decide (a.N < b.N)) else some (slt a.S b.S)))
def ss (N:Nat) (a:cX) (d:(List aq)):Option (Bool):=
  ((nN N a.L d).bind fun b=>((nN N a.R d).bind fun c=>((if !b.2 then some true else some (!c.2)).bind fun e=>(if e then some false else (if decide (a.Op=1) then some (bp b.1 c.1) else (if decide (a.Op=2) then some (!(bp b.1 c.1)) else (if decide (a.Op=3) then ((oC N b.1 c.1).bind fun f=>some f) else some false)))))))
def fO (N:Nat) (a:(List cX)) (b:(List aq)):Nat→Int→Option (Bool)
  | 0,_=>none
  | k+1,s1=>
    (if decide (s1 < (a.length:Int)) then ((idx a s1).bind fun c=>((ss N c b).bind fun d=>(if !d then some false else ((fO N a b k) (i64.wrap (s1+1)))))) else some true)
def oH (N:Nat) (a:(List cX)) (b:(List aq)):Option (Bool):=
  fO N a b N 0
def nq (N:Nat) (s1:(List a7)):Option ((List a7)):=
  some s1
def mQ (N:Nat) (a:Int) (b:(List a7)→Int→Option ((List a7))) (c:(List a7)):Option ((List a7)):=
  (b c (i64.wrap (a+1)))
def fa (N:Nat) (c:ah) (a:af) (d:(List Int)) (e:(List aq)) (f:(List a7)→ah→af→(List Int)→(List aq)→Option ((List a7))):Nat→(List a7)→Int→Option ((List a7))
  | 0,_,_=>none
  | k+1,s2,b=>
    (if decide (b < (a.Items.length:Int)) then ((idx c.Pats (d.length:Int)).bind fun h=>((idx a.Items b).bind fun i=>((iJ N h i.F e).bind fun g=>(if g.2 then ((idx a.Items b).bind fun j=>((app ([]:List Int) d).bind fun l=>((app l ([j.Id]:List Int)).bind fun m=>((f s2 c a m g.1).bind fun n=>mQ N b (fa N c a d e f k) n)))) else ((fa N c a d e f k) s2 (i64.wrap (b+1))))))) else some s2)
def gu:Nat→(List a7)→ah→af→(List Int)→(List aq)→Option ((List a7))
  | 0,_,_,_,_,_=>none
  | N+1,c,a,e,d,b=>
    ((iO N a).bind fun f=>(if decide ((d.length:Int)=f) then ((oc N a e b).bind fun g=>((if !g then ((oH N a.Conds b).bind fun h=>some h) else some false).bind fun i=>(if i then ((app ([]:List Int) d).bind fun j=>((app ([]:List aq) b).bind fun k=>((app c ([(⟨0,j,k⟩:a7)]:List a7)).bind fun l=>nq N l))) else some c))) else fa N a e d b (gu N) N c 0))
def sd (N:Nat) (a:ah) (b:af):Option ((List a7)):=
  ((gu N ([]:List a7) a b ([]:List Int) ([]:List aq)).bind fun c=>some c)
def kj (N:Nat) (s2:Int) (d:(List a7)→Int→Option ((List a7))):Nat→(List a7)→(List a7)→Int→Option ((List a7))
  | 0,_,_,_=>none
  | k+1,e,c,a=>
    (if decide (a < (c.length:Int)) then ((idx c a).bind fun b=>((app e ([(⟨s2,b.Ids,b.Binds⟩:a7)]:List a7)).bind fun f=>((kj N s2 d k) f (c.set a.toNat (⟨s2,b.Ids,b.Binds⟩:a7)) (i64.wrap (a+1))))) else (d e (i64.wrap (s2+1))))
def fK (N:Nat) (a:bq) (b:af):Nat→(List a7)→Int→Option ((List a7))
  | 0,_,_=>none
  | k+1,s1,s2=>
    (if decide (s2 < (a.Rules.length:Int)) then ((idx a.Rules s2).bind fun c=>((sd N c b).bind fun d=>kj N s2 (fK N a b k) N s1 d 0)) else some s1)
def qN (N:Nat) (a:bq) (b:af):Option ((List a7)):=
  fK N a b N ([]:List a7) 0
def kJ (N:Nat) (a:bq) (b:af):Option ((List a7)):=
  ((rY N a).bind fun c=>((if !c then some true else ((oG N b).bind fun d=>some (!d))).bind fun e=>(if e then some ([]:List a7) else ((qN N a b).bind fun f=>some f))))
noncomputable def io (N:Nat) (s2:Bool):Option (Bool):=
  some s2
noncomputable def iq (N:Nat) (a:bq × cA × aY × af) (b:(List a7)) (s1:Bool):Option (Bool):=
  (if s1 then ((kJ N a.1 a.2.2.2).bind fun c=>((mw N b c).bind fun d=>io N d)) else io N false)
noncomputable def lS (N:Nat) (c:(List Int)):Option (Bool):=
  ((y0 N c).bind fun d=>(if d then some true else ((ov N c).bind fun a=>((pB N a.1 a.2.2.1 a.2.2.2).bind fun b=>((sg N a.2.1 a.1).bind fun e=>((if e then ((mX N a.1 a.2.2.1 a.2.2.2).bind fun f=>some f) else some false).bind fun g=>(if g then ((kX N a.1 a.2.2.2).bind fun h=>((mw N b h).bind fun i=>iq N a b i)) else iq N a b false)))))))
end Go.Proofs.YtedmfnmbjglmbaaGreat
