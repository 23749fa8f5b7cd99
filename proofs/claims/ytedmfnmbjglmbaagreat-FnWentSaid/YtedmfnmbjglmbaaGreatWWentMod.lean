/- Printed by a program of ours: Lean functions of plain data for the Go functions. -/
import Derived.Test.YtedmfnmbjglmbaaGreatEW
import Derived.Test.YtedmfnmbjglmbaaGreatES
namespace Go.Proofs.YtedmfnmbjglmbaaGreat
open Eng IntKind
set_option linter.unusedVariables false
set_option linter.unusedSimpArgs false
structure bP where
  K:Int
  N:Int
  S:Qr
  deriving DecidableEq
def aY (a:Hp) (F:List Nat) (cs:List Value) (x:bP):Prop:=cs=[.int .i64 x.K,.int .i64 x.N,.string x.S]∧F=[]
theorem aY.lasts:cu aY:=fun _ _ _ _ _ _ _ _ h=>h
instance:LS aY:=⟨aY.lasts⟩
theorem aY.knows:dG aY:=fun _ _ _ _ h=>h.2 ▸ Kw.nil
theorem aY.flat:xh aY:=fun _ _ _ _ h=>h.2
theorem aY.one:gE aY:=fun _ _ _ _ h=>by obtain⟨rfl,-⟩:=h;exact One.all ⟨rfl,rfl,rfl,trivial⟩
structure cO where
  K:Int
  S:Qr
  V:bP
  deriving DecidableEq
def fu (a:Hp) (F:List Nat) (cs:List Value) (x:cO):Prop:=cs=[.int .i64 x.K,.string x.S,.int .i64 x.V.K,.int .i64 x.V.N,.string x.V.S]∧F=[]
theorem fu.lasts:cu fu:=fun _ _ _ _ _ _ _ _ h=>h
instance:LS fu:=⟨fu.lasts⟩
theorem fu.knows:dG fu:=fun _ _ _ _ h=>h.2 ▸ Kw.nil
theorem fu.flat:xh fu:=fun _ _ _ _ h=>h.2
theorem fu.one:gE fu:=fun _ _ _ _ h=>by obtain⟨rfl,-⟩:=h;exact One.all ⟨rfl,rfl,rfl,rfl,rfl,trivial⟩
structure az where
  Kind:Qr
  Args:(List cO)
  Not:Bool
  deriving DecidableEq
def cX (c:Hp) (F:List Nat) (cs:List Value) (x:az):Prop:=
  ∃ (a:Value) (b:List Nat),cs=[.string x.Kind,a,.bool x.Not]∧F=b∧RSl fu 5 c b a x.Args
theorem cX.lasts:cu cX:=fun X h i F cs x c a ⟨d,e,f,b,g⟩=>by
  rw[b] at a
  exact⟨d,e,f,b,g.frame fu.lasts c (fun k hk=>a k (by simp[hk]))⟩
instance:LS cX:=⟨cX.lasts⟩
theorem cX.knows:dG cX:=fun c F cs x ⟨d,e,f,a,b⟩=>a ▸ b.kn
theorem cX.one:gE cX:=fun _ _ _ _ h=>by obtain⟨b,c,rfl,-,a⟩:=h;exact One.all ⟨rfl,a.one,rfl,trivial⟩
def eM (b:Hp) (F:List Nat) (cs:List Value) (x:az):Prop:=
  ∃ (a:Value),cs=[.string x.Kind,a,.bool x.Not]∧F=(ob a++[])∧OSl fu 171 5 b [] a x.Args
theorem eM.lasts:cu eM:=fun X g h F cs x c a ⟨d,e,b,f⟩=>by
  rw[b] at a
  exact⟨d,e,b,f.frame fu.lasts c (fun k hk=>a k (by simp[hk])) (Dj.nil _)⟩
instance:LS eM:=⟨eM.lasts⟩
theorem eM.knows:dG eM:=fun c F cs x ⟨d,e,b,a⟩=>b ▸ (a.knO.app a.kn)
theorem eM.one:gE eM:=fun _ _ _ _ h=>by obtain⟨b,rfl,-,a⟩:=h;exact One.all ⟨rfl,a.one,rfl,trivial⟩
theorem eM.gives:eG eM cX:=fun e F cs x ⟨a,b,c,d⟩=>⟨a,ob a++[],b,c,d.rslG (eG.refl _)⟩
structure fm where
  Op:Int
  L:cO
  R:cO
  deriving DecidableEq
def cL (a:Hp) (F:List Nat) (cs:List Value) (x:fm):Prop:=cs=[.int .i64 x.Op,.int .i64 x.L.K,.string x.L.S,.int .i64 x.L.V.K,.int .i64 x.L.V.N,.string x.L.V.S,.int .i64 x.R.K,.string x.R.S,.int .i64 x.R.V.K,.int .i64 x.R.V.N,.string x.R.V.S]∧F=[]
theorem cL.lasts:cu cL:=fun _ _ _ _ _ _ _ _ h=>h
instance:LS cL:=⟨cL.lasts⟩
theorem cL.knows:dG cL:=fun _ _ _ _ h=>h.2 ▸ Kw.nil
theorem cL.flat:xh cL:=fun _ _ _ _ h=>h.2
theorem cL.one:gE cL:=fun _ _ _ _ h=>by obtain⟨rfl,-⟩:=h;exact One.all ⟨rfl,rfl,rfl,rfl,rfl,rfl,rfl,rfl,rfl,rfl,rfl,trivial⟩
structure eo where
  Op:Qr
  L:cO
  R:cO
  deriving DecidableEq
def dO (a:Hp) (F:List Nat) (cs:List Value) (x:eo):Prop:=cs=[.string x.Op,.int .i64 x.L.K,.string x.L.S,.int .i64 x.L.V.K,.int .i64 x.L.V.N,.string x.L.V.S,.int .i64 x.R.K,.string x.R.S,.int .i64 x.R.V.K,.int .i64 x.R.V.N,.string x.R.V.S]∧F=[]
theorem dO.lasts:cu dO:=fun _ _ _ _ _ _ _ _ h=>h
instance:LS dO:=⟨dO.lasts⟩
theorem dO.knows:dG dO:=fun _ _ _ _ h=>h.2 ▸ Kw.nil
theorem dO.flat:xh dO:=fun _ _ _ _ h=>h.2
theorem dO.one:gE dO:=fun _ _ _ _ h=>by obtain⟨rfl,-⟩:=h;exact One.all ⟨rfl,rfl,rfl,rfl,rfl,rfl,rfl,rfl,rfl,rfl,rfl,trivial⟩
structure fD where
  Kind:Int
  Name:Qr
  Args:(List eo)
  N:Int
  Undo:Qr
  deriving DecidableEq
def ij (c:Hp) (F:List Nat) (cs:List Value) (x:fD):Prop:=
  ∃ (a:Value) (b:List Nat),cs=[.int .i64 x.Kind,.string x.Name,a,.int .i64 x.N,.string x.Undo]∧F=b∧RSl dO 11 c b a x.Args
theorem ij.lasts:cu ij:=fun X h i F cs x c a ⟨d,e,f,b,g⟩=>by
  rw[b] at a
  exact⟨d,e,f,b,g.frame dO.lasts c (fun k hk=>a k (by simp[hk]))⟩
instance:LS ij:=⟨ij.lasts⟩
theorem ij.knows:dG ij:=fun c F cs x ⟨d,e,f,a,b⟩=>a ▸ b.kn
theorem ij.one:gE ij:=fun _ _ _ _ h=>by obtain⟨b,c,rfl,-,a⟩:=h;exact One.all ⟨rfl,rfl,a.one,rfl,rfl,trivial⟩
def kE (b:Hp) (F:List Nat) (cs:List Value) (x:fD):Prop:=
  ∃ (a:Value),cs=[.int .i64 x.Kind,.string x.Name,a,.int .i64 x.N,.string x.Undo]∧F=(ob a++[])∧OSl dO 216 11 b [] a x.Args
theorem kE.lasts:cu kE:=fun X g h F cs x c a ⟨d,e,b,f⟩=>by
  rw[b] at a
  exact⟨d,e,b,f.frame dO.lasts c (fun k hk=>a k (by simp[hk])) (Dj.nil _)⟩
instance:LS kE:=⟨kE.lasts⟩
theorem kE.knows:dG kE:=fun c F cs x ⟨d,e,b,a⟩=>b ▸ (a.knO.app a.kn)
theorem kE.one:gE kE:=fun _ _ _ _ h=>by obtain⟨b,rfl,-,a⟩:=h;exact One.all ⟨rfl,rfl,a.one,rfl,rfl,trivial⟩
theorem kE.gives:eG kE ij:=fun e F cs x ⟨a,b,c,d⟩=>⟨a,ob a++[],b,c,d.rslG (eG.refl _)⟩
structure ah where
  Name:Qr
  Sal:Int
  Pats:(List az)
  Conds:(List fm)
  Acts:(List fD)
  deriving DecidableEq
def eK (a:Hp) (F:List Nat) (cs:List Value) (x:ah):Prop:=
  ∃ (b:Value) (c:List Nat) (s1:Value) (d:List Nat) (s2:Value) (e:List Nat),cs=[.string x.Name,.int .i64 x.Sal,b,s1,s2]∧F=c++(d++(e))∧RSl cX 3 a c b x.Pats∧RSl cL 11 a d s1 x.Conds∧RSl ij 5 a e s2 x.Acts
theorem eK.lasts:cu eK:=fun X l m F cs x b a ⟨d,e,s1,f,s2,g,h,c,i,h1,j⟩=>by
  rw[c] at a
  exact⟨d,e,s1,f,s2,g,h,c,i.frame cX.lasts b (fun k hk=>a k (by simp[hk])),h1.frame cL.lasts b (fun k hk=>a k (by simp[hk])),j.frame ij.lasts b (fun k hk=>a k (by simp[hk]))⟩
instance:LS eK:=⟨eK.lasts⟩
theorem eK.knows:dG eK:=fun d F cs x ⟨e,f,s1,g,s2,h,i,a,b,h1,c⟩=>a ▸ (b.kn.app (h1.kn.app c.kn))
theorem eK.one:gE eK:=fun _ _ _ _ h=>by obtain⟨c,d,s1,e,s2,f,rfl,-,a,h1,b⟩:=h;exact One.all ⟨rfl,rfl,a.one,h1.one,b.one,trivial⟩
def d8 (a:Hp) (F:List Nat) (cs:List Value) (x:ah):Prop:=
  ∃ (b:Value) (c:List Nat) (s1:Value) (s2:Value) (d:List Nat),cs=[.string x.Name,.int .i64 x.Sal,b,s1,s2]∧F=(ob b++c)++((ob s1++[])++((ob s2++d)))∧OSl eM 201 3 a c b x.Pats∧OSl cL 173 11 a [] s1 x.Conds∧OSl kE 213 5 a d s2 x.Acts
theorem d8.lasts:cu d8:=fun X j l F cs x b a ⟨d,e,s1,s2,f,g,c,h,h1,i⟩=>by
  rw[c] at a
  exact⟨d,e,s1,s2,f,g,c,h.frame eM.lasts b (fun k hk=>a k (by simp[hk])) (fun k hk=>a k (by simp[hk])),h1.frame cL.lasts b (fun k hk=>a k (by simp[hk])) (Dj.nil _),i.frame kE.lasts b (fun k hk=>a k (by simp[hk])) (fun k hk=>a k (by simp[hk]))⟩
instance:LS d8:=⟨d8.lasts⟩
theorem d8.knows:dG d8:=fun d F cs x ⟨e,f,s1,s2,g,h,c,a,h1,b⟩=>c ▸ ((a.knO.app a.kn).app ((h1.knO.app h1.kn).app (b.knO.app b.kn)))
theorem d8.one:gE d8:=fun _ _ _ _ h=>by obtain⟨c,d,s1,s2,e,rfl,-,a,h1,b⟩:=h;exact One.all ⟨rfl,rfl,a.one,h1.one,b.one,trivial⟩
theorem d8.gives:eG d8 eK:=fun h F cs x ⟨a,b,s1,s2,c,d,e,f,h1,g⟩=>⟨a,ob a++b,s1,ob s1++[],s2,ob s2++c,d,e,f.rslG eM.gives,h1.rslG (eG.refl _),g.rslG kE.gives⟩
def bS (x y:bP):Bool:=((x.K == y.K) && ((x.N == y.N) && (seq x.S y.S && true)))
theorem Bi (a b:Qr):seq a b=decide (a=b):=by
  unfold seq
  by_cases h:a=b
  · subst h;simp
  · have : ¬ a.toList=b.toList:=fun e=>h (by rw[ByteArray.toList_eq,ByteArray.toList_eq] at e;exact ByteArray.ext (Array.toList_inj.1 e))
    simp[h,this]
theorem iG (x y:bP):bS x y=decide (x=y):=by
  obtain⟨a0,a,a2⟩:=x;obtain⟨b0,b,c⟩:=y
  rw[vi]
  simp only[bS,Bi,vj,ha,beq_iff_eq,decide_eq_true_eq,bP.mk.injEq,and_assoc]
def rU (x y:cO):Bool:=((x.K == y.K) && (seq x.S y.S && ((x.V.K == y.V.K) && ((x.V.N == y.V.N) && (seq x.V.S y.V.S && true)))))
theorem CF (x y:cO):rU x y=decide (x=y):=by
  obtain⟨a0,a1,⟨a20,a21,a22⟩⟩:=x;obtain⟨b0,b1,⟨a,b,c⟩⟩:=y
  rw[vi]
  simp only[rU,Bi,vj,ha,beq_iff_eq,decide_eq_true_eq,cO.mk.injEq,bP.mk.injEq,and_assoc]
structure bf where
  Name:Qr
  Rules:(List ah)
  deriving DecidableEq
def w8 (c:Hp) (F:List Nat) (cs:List Value) (x:bf):Prop:=
  ∃ (a:Value) (b:List Nat),cs=[.string x.Name,a]∧F=b∧RSl eK 5 c b a x.Rules
theorem w8.lasts:cu w8:=fun X h i F cs x c a ⟨d,e,f,b,g⟩=>by
  rw[b] at a
  exact⟨d,e,f,b,g.frame eK.lasts c (fun k hk=>a k (by simp[hk]))⟩
instance:LS w8:=⟨w8.lasts⟩
theorem w8.knows:dG w8:=fun c F cs x ⟨d,e,f,a,b⟩=>a ▸ b.kn
theorem w8.one:gE w8:=fun _ _ _ _ h=>by obtain⟨b,c,rfl,-,a⟩:=h;exact One.all ⟨rfl,a.one,trivial⟩
def uG (c:Hp) (F:List Nat) (cs:List Value) (x:bf):Prop:=
  ∃ (a:Value) (b:List Nat),cs=[.string x.Name,a]∧F=(ob a++b)∧OSl d8 87 5 c b a x.Rules
theorem uG.lasts:cu uG:=fun X h i F cs x c a ⟨d,e,f,b,g⟩=>by
  rw[b] at a
  exact⟨d,e,f,b,g.frame d8.lasts c (fun k hk=>a k (by simp[hk])) (fun k hk=>a k (by simp[hk]))⟩
instance:LS uG:=⟨uG.lasts⟩
theorem uG.knows:dG uG:=fun c F cs x ⟨d,e,f,b,a⟩=>b ▸ (a.knO.app a.kn)
theorem uG.one:gE uG:=fun _ _ _ _ h=>by obtain⟨b,c,rfl,-,a⟩:=h;exact One.all ⟨rfl,a.one,trivial⟩
theorem uG.gives:eG uG w8:=fun f F cs x ⟨a,b,c,d,e⟩=>⟨a,ob a++b,c,d,e.rslG d8.gives⟩
structure aL where
  Kind:Qr
  Fields:(List bP)
  deriving DecidableEq
def sK (c:Hp) (F:List Nat) (cs:List Value) (x:aL):Prop:=
  ∃ (a:Value) (b:List Nat),cs=[.string x.Kind,a]∧F=b∧RSl aY 3 c b a x.Fields
theorem sK.lasts:cu sK:=fun X h i F cs x c a ⟨d,e,f,b,g⟩=>by
  rw[b] at a
  exact⟨d,e,f,b,g.frame aY.lasts c (fun k hk=>a k (by simp[hk]))⟩
instance:LS sK:=⟨sK.lasts⟩
theorem sK.knows:dG sK:=fun c F cs x ⟨d,e,f,a,b⟩=>a ▸ b.kn
theorem sK.one:gE sK:=fun _ _ _ _ h=>by obtain⟨b,c,rfl,-,a⟩:=h;exact One.all ⟨rfl,a.one,trivial⟩
def rf (b:Hp) (F:List Nat) (cs:List Value) (x:aL):Prop:=
  ∃ (a:Value),cs=[.string x.Kind,a]∧F=(ob a++[])∧OSl aY 95 3 b [] a x.Fields
theorem rf.lasts:cu rf:=fun X g h F cs x c a ⟨d,e,b,f⟩=>by
  rw[b] at a
  exact⟨d,e,b,f.frame aY.lasts c (fun k hk=>a k (by simp[hk])) (Dj.nil _)⟩
instance:LS rf:=⟨rf.lasts⟩
theorem rf.knows:dG rf:=fun c F cs x ⟨d,e,b,a⟩=>b ▸ (a.knO.app a.kn)
theorem rf.one:gE rf:=fun _ _ _ _ h=>by obtain⟨b,rfl,-,a⟩:=h;exact One.all ⟨rfl,a.one,trivial⟩
theorem rf.gives:eG rf sK:=fun e F cs x ⟨a,b,c,d⟩=>⟨a,ob a++[],b,c,d.rslG (eG.refl _)⟩
structure ak where
  Id:Int
  F:aL
  deriving DecidableEq
def br (c:Hp) (F:List Nat) (cs:List Value) (x:ak):Prop:=
  ∃ (a:Value) (b:List Nat),cs=[.int .i64 x.Id,.string x.F.Kind,a]∧F=b∧RSl aY 3 c b a x.F.Fields
theorem br.lasts:cu br:=fun X h i F cs x c a ⟨d,e,f,b,g⟩=>by
  rw[b] at a
  exact⟨d,e,f,b,g.frame aY.lasts c (fun k hk=>a k (by simp[hk]))⟩
instance:LS br:=⟨br.lasts⟩
theorem br.knows:dG br:=fun c F cs x ⟨d,e,f,a,b⟩=>a ▸ b.kn
theorem br.one:gE br:=fun _ _ _ _ h=>by obtain⟨b,c,rfl,-,a⟩:=h;exact One.all ⟨rfl,rfl,a.one,trivial⟩
def cM (b:Hp) (F:List Nat) (cs:List Value) (x:ak):Prop:=
  ∃ (a:Value),cs=[.int .i64 x.Id,.string x.F.Kind,a]∧F=(ob a++[])∧OSl aY 95 3 b [] a x.F.Fields
theorem cM.lasts:cu cM:=fun X g h F cs x c a ⟨d,e,b,f⟩=>by
  rw[b] at a
  exact⟨d,e,b,f.frame aY.lasts c (fun k hk=>a k (by simp[hk])) (Dj.nil _)⟩
instance:LS cM:=⟨cM.lasts⟩
theorem cM.knows:dG cM:=fun c F cs x ⟨d,e,b,a⟩=>b ▸ (a.knO.app a.kn)
theorem cM.one:gE cM:=fun _ _ _ _ h=>by obtain⟨b,rfl,-,a⟩:=h;exact One.all ⟨rfl,rfl,a.one,trivial⟩
theorem cM.gives:eG cM br:=fun e F cs x ⟨a,b,c,d⟩=>⟨a,ob a++[],b,c,d.rslG (eG.refl _)⟩
structure ae where
  Items:(List ak)
  Next:Int
  deriving DecidableEq
def pg (c:Hp) (F:List Nat) (cs:List Value) (x:ae):Prop:=
  ∃ (a:Value) (b:List Nat),cs=[a,.int .i64 x.Next]∧F=b∧RSl br 3 c b a x.Items
theorem pg.lasts:cu pg:=fun X h i F cs x c a ⟨d,e,f,b,g⟩=>by
  rw[b] at a
  exact⟨d,e,f,b,g.frame br.lasts c (fun k hk=>a k (by simp[hk]))⟩
instance:LS pg:=⟨pg.lasts⟩
theorem pg.knows:dG pg:=fun c F cs x ⟨d,e,f,a,b⟩=>a ▸ b.kn
theorem pg.one:gE pg:=fun _ _ _ _ h=>by obtain⟨b,c,rfl,-,a⟩:=h;exact One.all ⟨a.one,rfl,trivial⟩
def nZ (c:Hp) (F:List Nat) (cs:List Value) (x:ae):Prop:=
  ∃ (a:Value) (b:List Nat),cs=[a,.int .i64 x.Next]∧F=(ob a++b)∧OSl cM 66 3 c b a x.Items
theorem nZ.lasts:cu nZ:=fun X h i F cs x c a ⟨d,e,f,b,g⟩=>by
  rw[b] at a
  exact⟨d,e,f,b,g.frame cM.lasts c (fun k hk=>a k (by simp[hk])) (fun k hk=>a k (by simp[hk]))⟩
instance:LS nZ:=⟨nZ.lasts⟩
theorem nZ.knows:dG nZ:=fun c F cs x ⟨d,e,f,b,a⟩=>b ▸ (a.knO.app a.kn)
theorem nZ.one:gE nZ:=fun _ _ _ _ h=>by obtain⟨b,c,rfl,-,a⟩:=h;exact One.all ⟨a.one,rfl,trivial⟩
theorem nZ.gives:eG nZ pg:=fun f F cs x ⟨a,b,c,d,e⟩=>⟨a,ob a++b,c,d,e.rslG cM.gives⟩
structure ax where
  Kind:Qr
  N:Int
  Consts:(List bP)
  At:(List Int)
  deriving DecidableEq
def cF (a:Hp) (F:List Nat) (cs:List Value) (x:ax):Prop:=
  ∃ (b:Value) (c:List Nat) (s1:Value) (d:List Nat),cs=[.string x.Kind,.int .i64 x.N,b,s1]∧F=c++(d)∧RSl aY 3 a c b x.Consts∧RSl (RI .i64) 1 a d s1 x.At
theorem cF.lasts:cu cF:=fun X i j F cs x b a ⟨d,e,s1,f,g,c,h,h1⟩=>by
  rw[c] at a
  exact⟨d,e,s1,f,g,c,h.frame aY.lasts b (fun k hk=>a k (by simp[hk])),h1.frame RI.lasts b (fun k hk=>a k (by simp[hk]))⟩
instance:LS cF:=⟨cF.lasts⟩
theorem cF.knows:dG cF:=fun c F cs x ⟨d,e,s1,f,g,a,b,h1⟩=>a ▸ (b.kn.app h1.kn)
theorem cF.one:gE cF:=fun _ _ _ _ h=>by obtain⟨b,c,s1,d,rfl,-,a,h1⟩:=h;exact One.all ⟨rfl,rfl,a.one,h1.one,trivial⟩
def dv (b:Hp) (F:List Nat) (cs:List Value) (x:ax):Prop:=
  ∃ (a:Value) (s1:Value),cs=[.string x.Kind,.int .i64 x.N,a,s1]∧F=(ob a++[])++((ob s1++[]))∧OSl aY 95 3 b [] a x.Consts∧OSl (RI .i64) 3 1 b [] s1 x.At
theorem dv.lasts:cu dv:=fun X g h F cs x b a ⟨d,s1,e,c,f,h1⟩=>by
  rw[c] at a
  exact⟨d,s1,e,c,f.frame aY.lasts b (fun k hk=>a k (by simp[hk])) (Dj.nil _),h1.frame RI.lasts b (fun k hk=>a k (by simp[hk])) (Dj.nil _)⟩
instance:LS dv:=⟨dv.lasts⟩
theorem dv.knows:dG dv:=fun c F cs x ⟨d,s1,e,b,a,h1⟩=>b ▸ ((a.knO.app a.kn).app (h1.knO.app h1.kn))
theorem dv.one:gE dv:=fun _ _ _ _ h=>by obtain⟨b,s1,rfl,-,a,h1⟩:=h;exact One.all ⟨rfl,rfl,a.one,h1.one,trivial⟩
theorem dv.gives:eG dv cF:=fun e F cs x ⟨a,s1,b,c,d,h1⟩=>⟨a,ob a++[],s1,ob s1++[],b,c,d.rslG (eG.refl _),h1.rslG (eG.refl _)⟩
structure aG where
  Pos:(List Int)
  Neg:(List Int)
  deriving DecidableEq
def ei (a:Hp) (F:List Nat) (cs:List Value) (x:aG):Prop:=
  ∃ (b:Value) (c:List Nat) (s1:Value) (d:List Nat),cs=[b,s1]∧F=c++(d)∧RSl (RI .i64) 1 a c b x.Pos∧RSl (RI .i64) 1 a d s1 x.Neg
theorem ei.lasts:cu ei:=fun X i j F cs x b a ⟨d,e,s1,f,g,c,h,h1⟩=>by
  rw[c] at a
  exact⟨d,e,s1,f,g,c,h.frame RI.lasts b (fun k hk=>a k (by simp[hk])),h1.frame RI.lasts b (fun k hk=>a k (by simp[hk]))⟩
instance:LS ei:=⟨ei.lasts⟩
theorem ei.knows:dG ei:=fun c F cs x ⟨d,e,s1,f,g,a,b,h1⟩=>a ▸ (b.kn.app h1.kn)
theorem ei.one:gE ei:=fun _ _ _ _ h=>by obtain⟨b,c,s1,d,rfl,-,a,h1⟩:=h;exact One.all ⟨a.one,h1.one,trivial⟩
def bK (b:Hp) (F:List Nat) (cs:List Value) (x:aG):Prop:=
  ∃ (a:Value) (s1:Value),cs=[a,s1]∧F=(ob a++[])++((ob s1++[]))∧OSl (RI .i64) 3 1 b [] a x.Pos∧OSl (RI .i64) 3 1 b [] s1 x.Neg
theorem bK.lasts:cu bK:=fun X g h F cs x b a ⟨d,s1,e,c,f,h1⟩=>by
  rw[c] at a
  exact⟨d,s1,e,c,f.frame RI.lasts b (fun k hk=>a k (by simp[hk])) (Dj.nil _),h1.frame RI.lasts b (fun k hk=>a k (by simp[hk])) (Dj.nil _)⟩
instance:LS bK:=⟨bK.lasts⟩
theorem bK.knows:dG bK:=fun c F cs x ⟨d,s1,e,b,a,h1⟩=>b ▸ ((a.knO.app a.kn).app (h1.knO.app h1.kn))
theorem bK.one:gE bK:=fun _ _ _ _ h=>by obtain⟨b,s1,rfl,-,a,h1⟩:=h;exact One.all ⟨a.one,h1.one,trivial⟩
theorem bK.gives:eG bK ei:=fun e F cs x ⟨a,s1,b,c,d,h1⟩=>⟨a,ob a++[],s1,ob s1++[],b,c,d.rslG (eG.refl _),h1.rslG (eG.refl _)⟩
structure bH where
  Alphas:(List ax)
  Chains:(List aG)
  deriving DecidableEq
def vU (a:Hp) (F:List Nat) (cs:List Value) (x:bH):Prop:=
  ∃ (b:Value) (c:List Nat) (s1:Value) (d:List Nat),cs=[b,s1]∧F=c++(d)∧RSl cF 4 a c b x.Alphas∧RSl ei 2 a d s1 x.Chains
theorem vU.lasts:cu vU:=fun X i j F cs x b a ⟨d,e,s1,f,g,c,h,h1⟩=>by
  rw[c] at a
  exact⟨d,e,s1,f,g,c,h.frame cF.lasts b (fun k hk=>a k (by simp[hk])),h1.frame ei.lasts b (fun k hk=>a k (by simp[hk]))⟩
instance:LS vU:=⟨vU.lasts⟩
theorem vU.knows:dG vU:=fun c F cs x ⟨d,e,s1,f,g,a,b,h1⟩=>a ▸ (b.kn.app h1.kn)
theorem vU.one:gE vU:=fun _ _ _ _ h=>by obtain⟨b,c,s1,d,rfl,-,a,h1⟩:=h;exact One.all ⟨a.one,h1.one,trivial⟩
def uP (b:Hp) (F:List Nat) (cs:List Value) (x:bH):Prop:=
  ∃ (a:Value) (c:List Nat) (s1:Value) (d:List Nat),cs=[a,s1]∧F=(ob a++c)++((ob s1++d))∧OSl dv 137 4 b c a x.Alphas∧OSl bK 141 2 b d s1 x.Chains
theorem uP.lasts:cu uP:=fun X i j F cs x b a ⟨d,e,s1,f,g,c,h,h1⟩=>by
  rw[c] at a
  exact⟨d,e,s1,f,g,c,h.frame dv.lasts b (fun k hk=>a k (by simp[hk])) (fun k hk=>a k (by simp[hk])),h1.frame bK.lasts b (fun k hk=>a k (by simp[hk])) (fun k hk=>a k (by simp[hk]))⟩
instance:LS uP:=⟨uP.lasts⟩
theorem uP.knows:dG uP:=fun c F cs x ⟨d,e,s1,f,g,b,a,h1⟩=>b ▸ ((a.knO.app a.kn).app (h1.knO.app h1.kn))
theorem uP.one:gE uP:=fun _ _ _ _ h=>by obtain⟨b,c,s1,d,rfl,-,a,h1⟩:=h;exact One.all ⟨a.one,h1.one,trivial⟩
theorem uP.gives:eG uP vU:=fun g F cs x ⟨a,b,s1,c,d,e,f,h1⟩=>⟨a,ob a++b,s1,ob s1++c,d,e,f.rslG dv.gives,h1.rslG bK.gives⟩
structure bk where
  L:(List Int)
  deriving DecidableEq
def iv (c:Hp) (F:List Nat) (cs:List Value) (x:bk):Prop:=
  ∃ (a:Value) (b:List Nat),cs=[a]∧F=b∧RSl (RI .i64) 1 c b a x.L
theorem iv.lasts:cu iv:=fun X h i F cs x c a ⟨d,e,f,b,g⟩=>by
  rw[b] at a
  exact⟨d,e,f,b,g.frame RI.lasts c (fun k hk=>a k (by simp[hk]))⟩
instance:LS iv:=⟨iv.lasts⟩
theorem iv.knows:dG iv:=fun c F cs x ⟨d,e,f,a,b⟩=>a ▸ b.kn
theorem iv.one:gE iv:=fun _ _ _ _ h=>by obtain⟨b,c,rfl,-,a⟩:=h;exact One.all ⟨a.one,trivial⟩
def bb (b:Hp) (F:List Nat) (cs:List Value) (x:bk):Prop:=
  ∃ (a:Value),cs=[a]∧F=(ob a++[])∧OSl (RI .i64) 3 1 b [] a x.L
theorem bb.lasts:cu bb:=fun X g h F cs x c a ⟨d,e,b,f⟩=>by
  rw[b] at a
  exact⟨d,e,b,f.frame RI.lasts c (fun k hk=>a k (by simp[hk])) (Dj.nil _)⟩
instance:LS bb:=⟨bb.lasts⟩
theorem bb.knows:dG bb:=fun c F cs x ⟨d,e,b,a⟩=>b ▸ (a.knO.app a.kn)
theorem bb.one:gE bb:=fun _ _ _ _ h=>by obtain⟨b,rfl,-,a⟩:=h;exact One.all ⟨a.one,trivial⟩
theorem bb.gives:eG bb iv:=fun e F cs x ⟨a,b,c,d⟩=>⟨a,ob a++[],b,c,d.rslG (eG.refl _)⟩
structure an where
  Ids:(List Int)
  Hits:(List Int)
  deriving DecidableEq
def dY (a:Hp) (F:List Nat) (cs:List Value) (x:an):Prop:=
  ∃ (b:Value) (c:List Nat) (s1:Value) (d:List Nat),cs=[b,s1]∧F=c++(d)∧RSl (RI .i64) 1 a c b x.Ids∧RSl (RI .i64) 1 a d s1 x.Hits
theorem dY.lasts:cu dY:=fun X i j F cs x b a ⟨d,e,s1,f,g,c,h,h1⟩=>by
  rw[c] at a
  exact⟨d,e,s1,f,g,c,h.frame RI.lasts b (fun k hk=>a k (by simp[hk])),h1.frame RI.lasts b (fun k hk=>a k (by simp[hk]))⟩
instance:LS dY:=⟨dY.lasts⟩
theorem dY.knows:dG dY:=fun c F cs x ⟨d,e,s1,f,g,a,b,h1⟩=>a ▸ (b.kn.app h1.kn)
theorem dY.one:gE dY:=fun _ _ _ _ h=>by obtain⟨b,c,s1,d,rfl,-,a,h1⟩:=h;exact One.all ⟨a.one,h1.one,trivial⟩
def aR (b:Hp) (F:List Nat) (cs:List Value) (x:an):Prop:=
  ∃ (a:Value) (s1:Value),cs=[a,s1]∧F=(ob a++[])++((ob s1++[]))∧OSl (RI .i64) 3 1 b [] a x.Ids∧OSl (RI .i64) 3 1 b [] s1 x.Hits
theorem aR.lasts:cu aR:=fun X g h F cs x b a ⟨d,s1,e,c,f,h1⟩=>by
  rw[c] at a
  exact⟨d,s1,e,c,f.frame RI.lasts b (fun k hk=>a k (by simp[hk])) (Dj.nil _),h1.frame RI.lasts b (fun k hk=>a k (by simp[hk])) (Dj.nil _)⟩
instance:LS aR:=⟨aR.lasts⟩
theorem aR.knows:dG aR:=fun c F cs x ⟨d,s1,e,b,a,h1⟩=>b ▸ ((a.knO.app a.kn).app (h1.knO.app h1.kn))
theorem aR.one:gE aR:=fun _ _ _ _ h=>by obtain⟨b,s1,rfl,-,a,h1⟩:=h;exact One.all ⟨a.one,h1.one,trivial⟩
theorem aR.gives:eG aR dY:=fun e F cs x ⟨a,s1,b,c,d,h1⟩=>⟨a,ob a++[],s1,ob s1++[],b,c,d.rslG (eG.refl _),h1.rslG (eG.refl _)⟩
structure ar where
  Toks:(List an)
  deriving DecidableEq
def iK (c:Hp) (F:List Nat) (cs:List Value) (x:ar):Prop:=
  ∃ (a:Value) (b:List Nat),cs=[a]∧F=b∧RSl dY 2 c b a x.Toks
theorem iK.lasts:cu iK:=fun X h i F cs x c a ⟨d,e,f,b,g⟩=>by
  rw[b] at a
  exact⟨d,e,f,b,g.frame dY.lasts c (fun k hk=>a k (by simp[hk]))⟩
instance:LS iK:=⟨iK.lasts⟩
theorem iK.knows:dG iK:=fun c F cs x ⟨d,e,f,a,b⟩=>a ▸ b.kn
theorem iK.one:gE iK:=fun _ _ _ _ h=>by obtain⟨b,c,rfl,-,a⟩:=h;exact One.all ⟨a.one,trivial⟩
def aS (c:Hp) (F:List Nat) (cs:List Value) (x:ar):Prop:=
  ∃ (a:Value) (b:List Nat),cs=[a]∧F=(ob a++b)∧OSl aR 105 2 c b a x.Toks
theorem aS.lasts:cu aS:=fun X h i F cs x c a ⟨d,e,f,b,g⟩=>by
  rw[b] at a
  exact⟨d,e,f,b,g.frame aR.lasts c (fun k hk=>a k (by simp[hk])) (fun k hk=>a k (by simp[hk]))⟩
instance:LS aS:=⟨aS.lasts⟩
theorem aS.knows:dG aS:=fun c F cs x ⟨d,e,f,b,a⟩=>b ▸ (a.knO.app a.kn)
theorem aS.one:gE aS:=fun _ _ _ _ h=>by obtain⟨b,c,rfl,-,a⟩:=h;exact One.all ⟨a.one,trivial⟩
theorem aS.gives:eG aS iK:=fun f F cs x ⟨a,b,c,d,e⟩=>⟨a,ob a++b,c,d,e.rslG aR.gives⟩
structure aH where
  Levels:(List ar)
  deriving DecidableEq
def lH (c:Hp) (F:List Nat) (cs:List Value) (x:aH):Prop:=
  ∃ (a:Value) (b:List Nat),cs=[a]∧F=b∧RSl iK 1 c b a x.Levels
theorem lH.lasts:cu lH:=fun X h i F cs x c a ⟨d,e,f,b,g⟩=>by
  rw[b] at a
  exact⟨d,e,f,b,g.frame iK.lasts c (fun k hk=>a k (by simp[hk]))⟩
instance:LS lH:=⟨lH.lasts⟩
theorem lH.knows:dG lH:=fun c F cs x ⟨d,e,f,a,b⟩=>a ▸ b.kn
theorem lH.one:gE lH:=fun _ _ _ _ h=>by obtain⟨b,c,rfl,-,a⟩:=h;exact One.all ⟨a.one,trivial⟩
def aZ (c:Hp) (F:List Nat) (cs:List Value) (x:aH):Prop:=
  ∃ (a:Value) (b:List Nat),cs=[a]∧F=(ob a++b)∧OSl aS 103 1 c b a x.Levels
theorem aZ.lasts:cu aZ:=fun X h i F cs x c a ⟨d,e,f,b,g⟩=>by
  rw[b] at a
  exact⟨d,e,f,b,g.frame aS.lasts c (fun k hk=>a k (by simp[hk])) (fun k hk=>a k (by simp[hk]))⟩
instance:LS aZ:=⟨aZ.lasts⟩
theorem aZ.knows:dG aZ:=fun c F cs x ⟨d,e,f,b,a⟩=>b ▸ (a.knO.app a.kn)
theorem aZ.one:gE aZ:=fun _ _ _ _ h=>by obtain⟨b,c,rfl,-,a⟩:=h;exact One.all ⟨a.one,trivial⟩
theorem aZ.gives:eG aZ lH:=fun f F cs x ⟨a,b,c,d,e⟩=>⟨a,ob a++b,c,d,e.rslG aS.gives⟩
structure aJ where
  Alphas:(List bk)
  Rules:(List aH)
  deriving DecidableEq
def wD (a:Hp) (F:List Nat) (cs:List Value) (x:aJ):Prop:=
  ∃ (b:Value) (c:List Nat) (s1:Value) (d:List Nat),cs=[b,s1]∧F=c++(d)∧RSl iv 1 a c b x.Alphas∧RSl lH 1 a d s1 x.Rules
theorem wD.lasts:cu wD:=fun X i j F cs x b a ⟨d,e,s1,f,g,c,h,h1⟩=>by
  rw[c] at a
  exact⟨d,e,s1,f,g,c,h.frame iv.lasts b (fun k hk=>a k (by simp[hk])),h1.frame lH.lasts b (fun k hk=>a k (by simp[hk]))⟩
instance:LS wD:=⟨wD.lasts⟩
theorem wD.knows:dG wD:=fun c F cs x ⟨d,e,s1,f,g,a,b,h1⟩=>a ▸ (b.kn.app h1.kn)
theorem wD.one:gE wD:=fun _ _ _ _ h=>by obtain⟨b,c,s1,d,rfl,-,a,h1⟩:=h;exact One.all ⟨a.one,h1.one,trivial⟩
def uz (b:Hp) (F:List Nat) (cs:List Value) (x:aJ):Prop:=
  ∃ (a:Value) (c:List Nat) (s1:Value) (d:List Nat),cs=[a,s1]∧F=(ob a++c)++((ob s1++d))∧OSl bb 133 1 b c a x.Alphas∧OSl aZ 100 1 b d s1 x.Rules
theorem uz.lasts:cu uz:=fun X i j F cs x b a ⟨d,e,s1,f,g,c,h,h1⟩=>by
  rw[c] at a
  exact⟨d,e,s1,f,g,c,h.frame bb.lasts b (fun k hk=>a k (by simp[hk])) (fun k hk=>a k (by simp[hk])),h1.frame aZ.lasts b (fun k hk=>a k (by simp[hk])) (fun k hk=>a k (by simp[hk]))⟩
instance:LS uz:=⟨uz.lasts⟩
theorem uz.knows:dG uz:=fun c F cs x ⟨d,e,s1,f,g,b,a,h1⟩=>b ▸ ((a.knO.app a.kn).app (h1.knO.app h1.kn))
theorem uz.one:gE uz:=fun _ _ _ _ h=>by obtain⟨b,c,s1,d,rfl,-,a,h1⟩:=h;exact One.all ⟨a.one,h1.one,trivial⟩
theorem uz.gives:eG uz wD:=fun g F cs x ⟨a,b,s1,c,d,e,f,h1⟩=>⟨a,ob a++b,s1,ob s1++c,d,e,f.rslG bb.gives,h1.rslG aZ.gives⟩
structure dD where
  pos:(List az)
  neg:(List az)
  chain:aG
  alphas:(List bk)
  s:ae
  id:Int
  deriving DecidableEq
def mY (a:Hp) (F:List Nat) (cs:List Value) (x:dD):Prop:=
  ∃ (b:Value) (c:List Nat) (s1:Value) (d:List Nat) (s2:Value) (e:List Nat) (f:Value) (g:List Nat) (h:Value) (i:List Nat) (j:Value) (k:List Nat),cs=[b,s1,s2,f,h,j,.int .i64 x.s.Next,.int .i64 x.id]∧F=c++(d++(e++(g++(i++(k)))))∧RSl cX 3 a c b x.pos∧RSl cX 3 a d s1 x.neg∧RSl (RI .i64) 1 a e s2 x.chain.Pos∧RSl (RI .i64) 1 a g f x.chain.Neg∧RSl iv 1 a i h x.alphas∧RSl br 3 a k j x.s.Items
theorem mY.lasts:cu mY:=fun X u v F cs x b a ⟨d,e,s1,f,s2,g,h,i,j,l,m,n,o,c,p,h1,q,r,s,t⟩=>by
  rw[c] at a
  exact⟨d,e,s1,f,s2,g,h,i,j,l,m,n,o,c,p.frame cX.lasts b (fun k hk=>a k (by simp[hk])),h1.frame cX.lasts b (fun k hk=>a k (by simp[hk])),q.frame RI.lasts b (fun k hk=>a k (by simp[hk])),r.frame RI.lasts b (fun k hk=>a k (by simp[hk])),s.frame iv.lasts b (fun k hk=>a k (by simp[hk])),t.frame br.lasts b (fun k hk=>a k (by simp[hk]))⟩
instance:LS mY:=⟨mY.lasts⟩
theorem mY.knows:dG mY:=fun g F cs x ⟨h,i,s1,j,s2,k,l,m,n,o,p,q,r,a,b,h1,c,d,e,f⟩=>a ▸ (b.kn.app (h1.kn.app (c.kn.app (d.kn.app (e.kn.app f.kn)))))
theorem mY.one:gE mY:=fun _ _ _ _ h=>by obtain⟨f,g,s1,i,s2,j,k,l,m,n,o,p,rfl,-,a,h1,b,c,d,e⟩:=h;exact One.all ⟨a.one,h1.one,b.one,c.one,d.one,e.one,rfl,rfl,trivial⟩
def lZ (a:Hp) (F:List Nat) (cs:List Value) (x:dD):Prop:=
  ∃ (b:Value) (f:List Nat) (s1:Value) (g:List Nat) (s2:Value) (c:Value) (d:Value) (h:List Nat) (e:Value) (i:List Nat),cs=[b,s1,s2,c,d,e,.int .i64 x.s.Next,.int .i64 x.id]∧F=(ob b++f)++((ob s1++g)++((ob s2++[])++((ob c++[])++((ob d++h)++((ob e++i))))))∧OSl eM 201 3 a f b x.pos∧OSl eM 201 3 a g s1 x.neg∧OSl (RI .i64) 3 1 a [] s2 x.chain.Pos∧OSl (RI .i64) 3 1 a [] c x.chain.Neg∧OSl bb 133 1 a h d x.alphas∧OSl cM 66 3 a i e x.s.Items
theorem lZ.lasts:cu lZ:=fun X s t F cs x b a ⟨d,e,s1,f,s2,g,h,i,j,l,m,c,n,h1,o,p,q,r⟩=>by
  rw[c] at a
  exact⟨d,e,s1,f,s2,g,h,i,j,l,m,c,n.frame eM.lasts b (fun k hk=>a k (by simp[hk])) (fun k hk=>a k (by simp[hk])),h1.frame eM.lasts b (fun k hk=>a k (by simp[hk])) (fun k hk=>a k (by simp[hk])),o.frame RI.lasts b (fun k hk=>a k (by simp[hk])) (Dj.nil _),p.frame RI.lasts b (fun k hk=>a k (by simp[hk])) (Dj.nil _),q.frame bb.lasts b (fun k hk=>a k (by simp[hk])) (fun k hk=>a k (by simp[hk])),r.frame cM.lasts b (fun k hk=>a k (by simp[hk])) (fun k hk=>a k (by simp[hk]))⟩
instance:LS lZ:=⟨lZ.lasts⟩
theorem lZ.knows:dG lZ:=fun g F cs x ⟨h,i,s1,j,s2,k,l,m,n,o,p,f,a,h1,b,c,d,e⟩=>f ▸ ((a.knO.app a.kn).app ((h1.knO.app h1.kn).app ((b.knO.app b.kn).app ((c.knO.app c.kn).app ((d.knO.app d.kn).app (e.knO.app e.kn))))))
theorem lZ.one:gE lZ:=fun _ _ _ _ h=>by obtain⟨f,g,s1,i,s2,j,k,l,m,n,rfl,-,a,h1,b,c,d,e⟩:=h;exact One.all ⟨a.one,h1.one,b.one,c.one,d.one,e.one,rfl,rfl,trivial⟩
theorem lZ.gives:eG lZ mY:=fun p F cs x ⟨a,e,s1,f,s2,b,c,g,d,h,i,j,k,h1,l,m,n,o⟩=>⟨a,ob a++e,s1,ob s1++f,s2,ob s2++[],b,ob b++[],c,ob c++g,d,ob d++h,i,j,k.rslG eM.gives,h1.rslG eM.gives,l.rslG (eG.refl _),m.rslG (eG.refl _),n.rslG bb.gives,o.rslG cM.gives⟩
structure aw where
  Name:Qr
  V:bP
  deriving DecidableEq
def aQ (a:Hp) (F:List Nat) (cs:List Value) (x:aw):Prop:=cs=[.string x.Name,.int .i64 x.V.K,.int .i64 x.V.N,.string x.V.S]∧F=[]
theorem aQ.lasts:cu aQ:=fun _ _ _ _ _ _ _ _ h=>h
instance:LS aQ:=⟨aQ.lasts⟩
theorem aQ.knows:dG aQ:=fun _ _ _ _ h=>h.2 ▸ Kw.nil
theorem aQ.flat:xh aQ:=fun _ _ _ _ h=>h.2
theorem aQ.one:gE aQ:=fun _ _ _ _ h=>by obtain⟨rfl,-⟩:=h;exact One.all ⟨rfl,rfl,rfl,rfl,trivial⟩
structure a7 where
  Rule:Int
  Ids:(List Int)
  Binds:(List aw)
  deriving DecidableEq
def eJ (a:Hp) (F:List Nat) (cs:List Value) (x:a7):Prop:=
  ∃ (b:Value) (c:List Nat) (s1:Value) (d:List Nat),cs=[.int .i64 x.Rule,b,s1]∧F=c++(d)∧RSl (RI .i64) 1 a c b x.Ids∧RSl aQ 4 a d s1 x.Binds
theorem eJ.lasts:cu eJ:=fun X i j F cs x b a ⟨d,e,s1,f,g,c,h,h1⟩=>by
  rw[c] at a
  exact⟨d,e,s1,f,g,c,h.frame RI.lasts b (fun k hk=>a k (by simp[hk])),h1.frame aQ.lasts b (fun k hk=>a k (by simp[hk]))⟩
instance:LS eJ:=⟨eJ.lasts⟩
theorem eJ.knows:dG eJ:=fun c F cs x ⟨d,e,s1,f,g,a,b,h1⟩=>a ▸ (b.kn.app h1.kn)
theorem eJ.one:gE eJ:=fun _ _ _ _ h=>by obtain⟨b,c,s1,d,rfl,-,a,h1⟩:=h;exact One.all ⟨rfl,a.one,h1.one,trivial⟩
def aM (b:Hp) (F:List Nat) (cs:List Value) (x:a7):Prop:=
  ∃ (a:Value) (s1:Value),cs=[.int .i64 x.Rule,a,s1]∧F=(ob a++[])++((ob s1++[]))∧OSl (RI .i64) 3 1 b [] a x.Ids∧OSl aQ 97 4 b [] s1 x.Binds
theorem aM.lasts:cu aM:=fun X g h F cs x b a ⟨d,s1,e,c,f,h1⟩=>by
  rw[c] at a
  exact⟨d,s1,e,c,f.frame RI.lasts b (fun k hk=>a k (by simp[hk])) (Dj.nil _),h1.frame aQ.lasts b (fun k hk=>a k (by simp[hk])) (Dj.nil _)⟩
instance:LS aM:=⟨aM.lasts⟩
theorem aM.knows:dG aM:=fun c F cs x ⟨d,s1,e,b,a,h1⟩=>b ▸ ((a.knO.app a.kn).app (h1.knO.app h1.kn))
theorem aM.one:gE aM:=fun _ _ _ _ h=>by obtain⟨b,s1,rfl,-,a,h1⟩:=h;exact One.all ⟨rfl,a.one,h1.one,trivial⟩
theorem aM.gives:eG aM eJ:=fun e F cs x ⟨a,s1,b,c,d,h1⟩=>⟨a,ob a++[],s1,ob s1++[],b,c,d.rslG (eG.refl _),h1.rslG (eG.refl _)⟩
def ui (x y:aw):Bool:=(seq x.Name y.Name && ((x.V.K == y.V.K) && ((x.V.N == y.V.N) && (seq x.V.S y.V.S && true))))
theorem Bq (x y:aw):ui x y=decide (x=y):=by
  obtain⟨a0,⟨a,b,a12⟩⟩:=x;obtain⟨b0,⟨c,d,e⟩⟩:=y
  rw[vi]
  simp only[ui,Bi,vj,ha,beq_iff_eq,decide_eq_true_eq,aw.mk.injEq,bP.mk.injEq,and_assoc]
structure ab where
  b:(List Int)
  i:Int
  h:Int
  deriving DecidableEq
def pe (c:Hp) (F:List Nat) (cs:List Value) (x:ab):Prop:=
  ∃ (a:Value) (b:List Nat),cs=[a,.int .i64 x.i,.int .i64 x.h]∧F=b∧RSl (RI .u8) 1 c b a x.b
theorem pe.lasts:cu pe:=fun X h i F cs x c a ⟨d,e,f,b,g⟩=>by
  rw[b] at a
  exact⟨d,e,f,b,g.frame RI.lasts c (fun k hk=>a k (by simp[hk]))⟩
instance:LS pe:=⟨pe.lasts⟩
theorem pe.knows:dG pe:=fun c F cs x ⟨d,e,f,a,b⟩=>a ▸ b.kn
theorem pe.one:gE pe:=fun _ _ _ _ h=>by obtain⟨b,c,rfl,-,a⟩:=h;exact One.all ⟨a.one,rfl,rfl,trivial⟩
def o6 (b:Hp) (F:List Nat) (cs:List Value) (x:ab):Prop:=
  ∃ (a:Value),cs=[a,.int .i64 x.i,.int .i64 x.h]∧F=(ob a++[])∧OSl (RI .u8) 5 1 b [] a x.b
theorem o6.lasts:cu o6:=fun X g h F cs x c a ⟨d,e,b,f⟩=>by
  rw[b] at a
  exact⟨d,e,b,f.frame RI.lasts c (fun k hk=>a k (by simp[hk])) (Dj.nil _)⟩
instance:LS o6:=⟨o6.lasts⟩
theorem o6.knows:dG o6:=fun c F cs x ⟨d,e,b,a⟩=>b ▸ (a.knO.app a.kn)
theorem o6.one:gE o6:=fun _ _ _ _ h=>by obtain⟨b,rfl,-,a⟩:=h;exact One.all ⟨a.one,rfl,rfl,trivial⟩
theorem o6.gives:eG o6 pe:=fun e F cs x ⟨a,b,c,d⟩=>⟨a,ob a++[],b,c,d.rslG (eG.refl _)⟩
def y7 (N:Nat) (a:(List Int)):Option (Bool):=
  some (decide (1048576 < (a.length:Int)))
def kJ (N:Nat) (a:Int):Option (Bool):=
  ((if decide (97≤a) then some (decide (a≤122)) else some false).bind fun b=>some b)
def qW (N:Nat) (a:Int):Option (Bool):=
  ((if decide (48≤a) then some (decide (a≤57)) else some false).bind fun b=>some b)
def jn (N:Nat) (a:Int):Option (Bool):=
  ((kJ N a).bind fun b=>((if b then some true else ((qW N a).bind fun c=>some c)).bind fun d=>((if d then some true else some (decide (a=95))).bind fun e=>some e)))
def fN (N:Nat) (a:Qr):Nat→Int→Option (Bool)
  | 0,_=>none
  | k+1,s1=>
    (if decide (s1 < (a.size:Int)) then ((idx a.data.toList s1).bind fun b=>((jn N (b.toNat:Int)).bind fun c=>(if !c then some false else ((fN N a k) (i64.wrap (s1+1)))))) else some true)
def nP (N:Nat) (a:Qr) (b:Int):Option (Bool):=
  (if decide (b < (a.size:Int)) then some false else fN N a N 0)
def ig (N:Nat) (a:Qr):Option (Bool):=
  ((if decide (0 < (a.size:Int)) then ((idx a.data.toList 0).bind fun b=>((kJ N (b.toNat:Int)).bind fun c=>some c)) else some false).bind fun d=>((if d then ((nP N a 12).bind fun e=>some e) else some false).bind fun f=>some f))
def dL (N:Nat) (a:Int) (b:Int) (c:Int):Option (Bool):=
  ((if decide (b≤a) then some (decide (a≤c)) else some false).bind fun d=>some d)
def eC (N:Nat) (a:ah):Nat→Int→Int→Option (Int)
  | 0,_,_=>none
  | k+1,s1,s2=>
    (if decide (s2 < (a.Pats.length:Int)) then ((idx a.Pats s2).bind fun b=>(if !b.Not then ((eC N a k) (i64.wrap (s1+1)) (i64.wrap (s2+1))) else ((eC N a k) s1 (i64.wrap (s2+1))))) else some s1)
def jK (N:Nat) (a:ah):Option (Int):=
  eC N a N 0 0
def po (N:Nat) (a:bP):Option (Bool):=
  (if decide (a.K=1) then ((dL N a.N (-1000000000) 1000000000).bind fun b=>((if b then some (seq a.S (⟨#[]⟩:Qr)) else some false).bind fun c=>some c)) else (if decide (a.K=2) then ((if decide (a.N=0) then ((nP N a.S 20).bind fun d=>some d) else some false).bind fun e=>some e) else some false))
def mo (N:Nat) (a:Int):Option (Bool):=
  ((if decide (65≤a) then some (decide (a≤90)) else some false).bind fun b=>some b)
def iI (N:Nat) (a:Qr):Nat→Int→Option (Bool)
  | 0,_=>none
  | k+1,s1=>
    (if decide (s1 < (a.size:Int)) then ((idx a.data.toList s1).bind fun b=>((jn N (b.toNat:Int)).bind fun c=>((if !c then ((idx a.data.toList s1).bind fun d=>((mo N (d.toNat:Int)).bind fun e=>some (!e))) else some false).bind fun f=>(if f then some false else ((iI N a k) (i64.wrap (s1+1))))))) else some true)
def rI (N:Nat) (a:Qr):Option (Bool):=
  ((if decide ((a.size:Int) < 1) then some true else some (decide (12 < (a.size:Int)))).bind fun b=>((if b then some true else ((idx a.data.toList 0).bind fun c=>((mo N (c.toNat:Int)).bind fun d=>some (!d)))).bind fun e=>(if e then some false else iI N a N 0)))
def pn (N:Nat) (a:cO):Option (Bool):=
  (if decide (a.K=1) then ((rI N a.S).bind fun b=>((if b then some (bS a.V (⟨0,0,(⟨#[]⟩:Qr)⟩:bP)) else some false).bind fun c=>some c)) else (if decide (a.K=2) then ((if seq a.S (⟨#[]⟩:Qr) then ((po N a.V).bind fun d=>some d) else some false).bind fun e=>some e) else (if decide (a.K=3) then ((if seq a.S (⟨#[]⟩:Qr) then some (bS a.V (⟨0,0,(⟨#[]⟩:Qr)⟩:bP)) else some false).bind fun f=>some f) else some false)))
def iM (N:Nat) (a:az):Nat→Int→Option (Bool)
  | 0,_=>none
  | k+1,s1=>
    (if decide (s1 < (a.Args.length:Int)) then ((idx a.Args s1).bind fun b=>((pn N b).bind fun c=>(if !c then some false else ((iM N a k) (i64.wrap (s1+1)))))) else some true)
def rK (N:Nat) (a:az):Option (Bool):=
  ((ig N a.Kind).bind fun b=>((if !b then some true else some (decide (5 < (a.Args.length:Int)))).bind fun c=>(if c then some false else iM N a N 0)))
def fF (N:Nat) (a:ah):Nat→Int→Option (Bool)
  | 0,_=>none
  | k+1,s1=>
    (if decide (s1 < (a.Pats.length:Int)) then ((idx a.Pats s1).bind fun b=>((rK N b).bind fun c=>((if !c then some true else ((jK N a).bind fun d=>some (b.Not != (decide (d≤s1))))).bind fun e=>(if e then some false else ((fF N a k) (i64.wrap (s1+1))))))) else some true)
def pR (N:Nat) (a:ah):Option (Bool):=
  ((dL N (a.Pats.length:Int) 1 6).bind fun b=>((if !b then some true else ((jK N a).bind fun c=>((dL N c 1 3).bind fun d=>some (!d)))).bind fun e=>(if e then some false else fF N a N 0)))
def jI (N:Nat) (a:cO):Option (Bool):=
  ((if !decide (a.K=3) then ((pn N a).bind fun b=>some b) else some false).bind fun c=>some c)
def pF (N:Nat) (a:fm):Option (Bool):=
  ((dL N a.Op 1 3).bind fun b=>((if b then ((jI N a.L).bind fun c=>some c) else some false).bind fun d=>((if d then ((jI N a.R).bind fun e=>some e) else some false).bind fun f=>some f)))
def kv (N:Nat) (a:eo) (s1:Bool):Option (Bool):=
  (if s1 then ((jI N a.L).bind fun b=>((if b then ((jI N a.R).bind fun c=>some c) else some false).bind fun d=>some d)) else some false)
def qC (N:Nat) (a:eo):Option (Bool):=
  (if seq a.Op (⟨#[]⟩:Qr) then ((jI N a.L).bind fun b=>((if b then some (rU a.R (⟨0,(⟨#[]⟩:Qr),(⟨0,0,(⟨#[]⟩:Qr)⟩:bP)⟩:cO)) else some false).bind fun c=>some c)) else (if seq a.Op (⟨#[43]⟩:Qr) then kv N a (seq a.Op (⟨#[43]⟩:Qr)) else kv N a (seq a.Op (⟨#[45]⟩:Qr))))
def fG (N:Nat) (a:fD):Nat→Int→Option (Bool)
  | 0,_=>none
  | k+1,s1=>
    (if decide (s1 < (a.Args.length:Int)) then ((idx a.Args s1).bind fun b=>((qC N b).bind fun c=>(if !c then some false else ((fG N a k) (i64.wrap (s1+1)))))) else some true)
def mg (N:Nat) (a:fD):Option (Bool):=
  ((ig N a.Name).bind fun b=>((if !b then some true else some (decide (5 < (a.Args.length:Int)))).bind fun c=>(if c then some false else fG N a N 0)))
def sI (N:Nat) (a:Qr):Option (Bool):=
  ((if seq a (⟨#[]⟩:Qr) then some true else ((ig N a).bind fun b=>some b)).bind fun c=>some c)
def lw (N:Nat) (a:fD) (b:Bool) (s1:Bool):Option (Bool):=
  (if s1 then ((if b then some (decide (a.N=0)) else some false).bind fun c=>((if c then some (seq a.Undo (⟨#[]⟩:Qr)) else some false).bind fun d=>some d)) else some false)
def rJ (N:Nat) (a:fD):Option (Bool):=
  ((if seq a.Name (⟨#[]⟩:Qr) then some (decide ((a.Args.length:Int)=0)) else some false).bind fun b=>(if decide (a.Kind=1) then ((mg N a).bind fun c=>((if c then some (decide (a.N=0)) else some false).bind fun d=>((if d then some (seq a.Undo (⟨#[]⟩:Qr)) else some false).bind fun e=>some e))) else (if decide (a.Kind=2) then ((if b then ((dL N a.N 0 7).bind fun f=>some f) else some false).bind fun g=>((if g then some (seq a.Undo (⟨#[]⟩:Qr)) else some false).bind fun h=>some h)) else (if decide (a.Kind=3) then ((mg N a).bind fun i=>((if i then some (decide (a.N=0)) else some false).bind fun j=>((if j then ((sI N a.Undo).bind fun k=>some k) else some false).bind fun l=>some l))) else (if decide (a.Kind=4) then ((mg N a).bind fun m=>((if m then ((dL N a.N 0 100000).bind fun n=>some n) else some false).bind fun o=>((if o then some (seq a.Undo (⟨#[]⟩:Qr)) else some false).bind fun p=>some p))) else (if decide (a.Kind=5) then lw N a b (decide (a.Kind=5)) else lw N a b (decide (a.Kind=6))))))))
def bL (N:Nat) (a:(List Qr)) (b:Qr):Nat→Int→Option (Int)
  | 0,_=>none
  | k+1,s1=>
    (if decide (s1 < (a.length:Int)) then ((idx a s1).bind fun c=>(if seq b c then some s1 else ((bL N a b k) (i64.wrap (s1+1))))) else some (-1))
def dZ (N:Nat) (a:(List Qr)) (b:Qr):Option (Int):=
  bL N a b N 0
def cP (N:Nat) (a:(List Qr)) (b:Qr):Option (Bool):=
  ((dZ N a b).bind fun c=>some (decide (0≤c)))
def ot (N:Nat) (a:(List Qr)) (b:Qr):Option ((List Qr)):=
  ((cP N a b).bind fun c=>(if c then some a else ((app a ([b]:List Qr)).bind fun d=>some d)))
def gq (N:Nat) (a:(List cO)):Nat→(List Qr)→Int→Option ((List Qr))
  | 0,_,_=>none
  | k+1,s1,s2=>
    (if decide (s2 < (a.length:Int)) then ((idx a s2).bind fun b=>(if decide (b.K=1) then ((ot N s1 b.S).bind fun c=>((gq N a k) c (i64.wrap (s2+1)))) else ((gq N a k) s1 (i64.wrap (s2+1))))) else some s1)
def l9 (N:Nat) (a:(List Qr)) (b:(List cO)):Option ((List Qr)):=
  gq N b N a 0
def gu (N:Nat) (a:ah):Nat→(List Qr)→Int→Option ((List Qr))
  | 0,_,_=>none
  | k+1,s1,s2=>
    (if decide (s2 < (a.Pats.length:Int)) then ((idx a.Pats s2).bind fun b=>(if !b.Not then ((l9 N s1 b.Args).bind fun c=>((gu N a k) c (i64.wrap (s2+1)))) else ((gu N a k) s1 (i64.wrap (s2+1))))) else some s1)
def mz (N:Nat) (a:ah):Option ((List Qr)):=
  gu N a N ([]:List Qr) 0
def fo (N:Nat) (c:Int) (d:(List Qr)→Int→Option ((List Qr))) (a:fD):Nat→(List Qr)→Int→Option ((List Qr))
  | 0,_,_=>none
  | k+1,e,b=>
    (if decide (b < (a.Args.length:Int)) then ((idx a.Args b).bind fun f=>((l9 N e ([f.L,f.R]:List cO)).bind fun g=>((fo N c d a k) g (i64.wrap (b+1))))) else (d e (i64.wrap (c+1))))
def dV (N:Nat) (a:ah):Nat→(List Qr)→Int→Option ((List Qr))
  | 0,_,_=>none
  | k+1,c,b=>
    (if decide (b < (a.Acts.length:Int)) then ((idx a.Acts b).bind fun d=>fo N b (dV N a k) d N c 0) else some c)
def gJ (N:Nat) (a:ah):Nat→(List Qr)→Int→Option ((List Qr))
  | 0,_,_=>none
  | k+1,s1,s2=>
    (if decide (s2 < (a.Conds.length:Int)) then ((idx a.Conds s2).bind fun b=>((l9 N s1 ([b.L,b.R]:List cO)).bind fun c=>((gJ N a k) c (i64.wrap (s2+1))))) else dV N a N s1 0)
def mW (N:Nat) (a:ah):Option ((List Qr)):=
  gJ N a N ([]:List Qr) 0
def fO (N:Nat) (c:(List Qr)) (a:(List Qr)):Nat→Int→Option (Bool)
  | 0,_=>none
  | k+1,b=>
    (if decide (b < (a.length:Int)) then ((idx a b).bind fun d=>((cP N c d).bind fun e=>(if !e then some false else ((fO N c a k) (i64.wrap (b+1)))))) else some true)
def fH (N:Nat) (a:ah):Nat→Int→Option (Bool)
  | 0,_=>none
  | k+1,s2=>
    (if decide (s2 < (a.Acts.length:Int)) then ((idx a.Acts s2).bind fun b=>((rJ N b).bind fun c=>((if !c then some true else ((if decide (b.Kind=2) then ((jK N a).bind fun d=>some (decide (d≤b.N))) else some false).bind fun e=>some e)).bind fun f=>(if f then some false else ((fH N a k) (i64.wrap (s2+1))))))) else ((mz N a).bind fun g=>((mW N a).bind fun h=>fO N g h N 0)))
def fR (N:Nat) (a:ah):Nat→Int→Option (Bool)
  | 0,_=>none
  | k+1,s1=>
    (if decide (s1 < (a.Conds.length:Int)) then ((idx a.Conds s1).bind fun b=>((pF N b).bind fun c=>(if !c then some false else ((fR N a k) (i64.wrap (s1+1)))))) else fH N a N 0)
def pP (N:Nat) (a:ah):Option (Bool):=
  ((ig N a.Name).bind fun b=>((if !b then some true else ((dL N a.Sal (-100) 100).bind fun c=>some (!c))).bind fun d=>((if d then some true else ((pR N a).bind fun e=>some (!e))).bind fun f=>(if f then some false else ((if decide (6 < (a.Conds.length:Int)) then some true else ((dL N (a.Acts.length:Int) 1 6).bind fun g=>some (!g))).bind fun h=>(if h then some false else fR N a N 0))))))
def bq (N:Nat) (a:(List ah)) (b:ah→Option (Bool)):Nat→Int→Option (Int)
  | 0,_=>none
  | k+1,s1=>
    (if decide (s1 < (a.length:Int)) then ((idx a s1).bind fun c=>((b c).bind fun d=>(if d then some s1 else ((bq N a b k) (i64.wrap (s1+1)))))) else some (-1))
def ee (N:Nat) (a:(List ah)) (b:ah→Option (Bool)):Option (Int):=
  bq N a b N 0
def kf (N:Nat) (a:ah) (b:Qr):Option (Bool):=
  some (seq a.Name b)
def qA (N:Nat) (a:bf) (b:Qr):Option (Int):=
  ((ee N a.Rules (fun a0=>kf N a0 b)).bind fun c=>some c)
def gP (N:Nat) (a:bf):Nat→Int→Option (Bool)
  | 0,_=>none
  | k+1,s1=>
    (if decide (s1 < (a.Rules.length:Int)) then ((idx a.Rules s1).bind fun b=>((pP N b).bind fun c=>((if !c then some true else ((qA N a b.Name).bind fun d=>some (!decide (d=s1)))).bind fun e=>(if e then some false else ((gP N a k) (i64.wrap (s1+1))))))) else some true)
def nV (N:Nat) (a:bf):Option (Bool):=
  ((ig N a.Name).bind fun b=>((if !b then some true else ((dL N (a.Rules.length:Int) 1 12).bind fun c=>some (!c))).bind fun d=>(if d then some false else gP N a N 0)))
def fS (N:Nat) (a:aL):Nat→Int→Option (Bool)
  | 0,_=>none
  | k+1,s1=>
    (if decide (s1 < (a.Fields.length:Int)) then ((idx a.Fields s1).bind fun b=>((po N b).bind fun c=>(if !c then some false else ((fS N a k) (i64.wrap (s1+1)))))) else some true)
def pY (N:Nat) (a:aL):Option (Bool):=
  ((ig N a.Kind).bind fun b=>((if !b then some true else some (decide (5 < (a.Fields.length:Int)))).bind fun c=>(if c then some false else fS N a N 0)))
def bD (N:Nat) (a:(List bP)) (b:(List bP)):Nat→Int→Option (Bool)
  | 0,_=>none
  | k+1,s1=>
    (if decide (s1 < (a.length:Int)) then ((idx a s1).bind fun c=>((idx b s1).bind fun d=>(if !(bS c d) then some false else ((bD N a b k) (i64.wrap (s1+1)))))) else some true)
def cJ (N:Nat) (a:(List bP)) (b:(List bP)):Option (Bool):=
  (if !decide ((a.length:Int)=(b.length:Int)) then some false else bD N a b N 0)
def nq (N:Nat) (a:aL) (b:aL):Option (Bool):=
  ((if seq a.Kind b.Kind then ((cJ N a.Fields b.Fields).bind fun c=>some c) else some false).bind fun d=>some d)
def fe (N:Nat) (s1:Int) (b:Int→Option (Bool)) (c:ak) (a:(List ak)):Nat→Int→Option (Bool)
  | 0,_=>none
  | k+1,s2=>
    (if decide (s2 < (a.length:Int)) then ((idx a s2).bind fun d=>((nq N c.F d.F).bind fun e=>(if e then some false else ((fe N s1 b c a k) (i64.wrap (s2+1)))))) else (b (i64.wrap (s1+1))))
def dP (N:Nat) (a:ae):Nat→Int→Option (Bool)
  | 0,_=>none
  | k+1,s1=>
    (if decide (s1 < (a.Items.length:Int)) then ((idx a.Items s1).bind fun b=>((pY N b.F).bind fun c=>((if !c then some true else ((dL N b.Id 1 (i64.wrap (a.Next - 1))).bind fun d=>some (!d))).bind fun e=>((if e then some true else ((if decide (0 < s1) then ((idx a.Items (i64.wrap (s1 - 1))).bind fun f=>some (decide (b.Id≤f.Id))) else some false).bind fun g=>some g)).bind fun h=>(if h then some false else ((ssl a.Items 0 s1).bind fun i=>fe N s1 (dP N a k) b i N 0)))))) else some true)
def jC (N:Nat) (a:ae):Option (Bool):=
  ((if decide (40 < (a.Items.length:Int)) then some true else ((dL N a.Next 1 1000000).bind fun b=>some (!b))).bind fun c=>(if c then some false else dP N a N 0))
def eE (N:Nat) (a:(List bP)):Option ((List bP)):=
  ((app ([]:List bP) a).bind fun b=>some b)
def iP (N:Nat) (a:aL):Option (aL):=
  ((eE N a.Fields).bind fun b=>some (⟨a.Kind,b⟩:aL))
def hP (N:Nat) (a:ae) (b:Int):Nat→Int→Option (aL × Bool)
  | 0,_=>none
  | k+1,s1=>
    (if decide (s1 < (a.Items.length:Int)) then ((idx a.Items s1).bind fun c=>(if decide (c.Id=b) then ((iP N c.F).bind fun d=>some (d,true)) else ((hP N a b k) (i64.wrap (s1+1))))) else some ((⟨(⟨#[]⟩:Qr),[]⟩:aL),false))
def kI (N:Nat) (a:ae) (b:Int):Option (aL × Bool):=
  hP N a b N 0
def iU (N:Nat) (a:ax) (b:aL):Nat→Int→Option (Bool)
  | 0,_=>none
  | k+1,s1=>
    (if decide (s1 < (a.At.length:Int)) then ((idx a.At s1).bind fun c=>((if decide (c < 0) then some true else some (decide ((b.Fields.length:Int)≤c))).bind fun d=>((if d then some true else some (decide ((a.Consts.length:Int)≤s1))).bind fun e=>((if e then some true else ((idx b.Fields c).bind fun f=>((idx a.Consts s1).bind fun g=>some (!(bS f g))))).bind fun h=>(if h then some false else ((iU N a b k) (i64.wrap (s1+1)))))))) else some true)
def qk (N:Nat) (a:ax) (b:aL):Option (Bool):=
  ((if !seq b.Kind a.Kind then some true else some (!decide ((b.Fields.length:Int)=a.N))).bind fun c=>(if c then some false else iU N a b N 0))
def jF (N:Nat) (a:ah) (b:Bool):Nat→(List az)→Int→Option ((List az))
  | 0,_,_=>none
  | k+1,s1,s2=>
    (if decide (s2 < (a.Pats.length:Int)) then ((idx a.Pats s2).bind fun c=>(if (c.Not == b) then ((app s1 ([c]:List az)).bind fun d=>((jF N a b k) d (i64.wrap (s2+1)))) else ((jF N a b k) s1 (i64.wrap (s2+1))))) else some s1)
def ow (N:Nat) (a:ah) (b:Bool):Option ((List az)):=
  jF N a b N ([]:List az) 0
def lh (N:Nat) (c:bf) (d:bH) (e:aJ) (f:ae) (g:Int) (a:Int):Option (dD):=
  ((idx c.Rules a).bind fun b=>((idx d.Chains a).bind fun h=>((ow N b false).bind fun i=>((ow N b true).bind fun j=>some (⟨i,j,h,e.Alphas,f,g⟩:dD)))))
def bw (N:Nat) (a:(List aw)):Option ((List aw)):=
  ((app ([]:List aw) a).bind fun b=>some b)
def j6 (N:Nat) (a:(List aw)) (b:Qr):Nat→Int→Option (bP × Bool)
  | 0,_=>none
  | k+1,s1=>
    (if decide (s1 < (a.length:Int)) then ((idx a s1).bind fun c=>(if seq c.Name b then some (c.V,true) else ((j6 N a b k) (i64.wrap (s1+1))))) else some ((⟨0,0,(⟨#[]⟩:Qr)⟩:bP),false))
def nG (N:Nat) (a:(List aw)) (b:Qr):Option (bP × Bool):=
  j6 N a b N 0
def eA (N:Nat) (a:az) (c:aL) (b:(List aw)):Nat→(List aw)→Int→Option ((List aw) × Bool)
  | 0,_,_=>none
  | k+1,s1,s2=>
    (if decide (s2 < (a.Args.length:Int)) then ((idx a.Args s2).bind fun d=>((idx c.Fields s2).bind fun e=>(if decide (d.K=2) then (if !(bS d.V e) then ((bw N b).bind fun g=>some (g,false)) else ((eA N a c b k) s1 (i64.wrap (s2+1)))) else (if decide (d.K=1) then ((nG N s1 d.S).bind fun f=>((if f.2 then some (!(bS f.1 e)) else some false).bind fun h=>(if h then ((bw N b).bind fun i=>some (i,false)) else (if !f.2 then ((app s1 ([(⟨d.S,e⟩:aw)]:List aw)).bind fun j=>((eA N a c b k) j (i64.wrap (s2+1)))) else ((eA N a c b k) s1 (i64.wrap (s2+1))))))) else ((eA N a c b k) s1 (i64.wrap (s2+1))))))) else some (s1,true))
def iJ (N:Nat) (a:az) (b:aL) (c:(List aw)):Option ((List aw) × Bool):=
  ((if !seq b.Kind a.Kind then some true else some (!decide ((b.Fields.length:Int)=(a.Args.length:Int)))).bind fun d=>(if d then ((bw N c).bind fun e=>some (e,false)) else ((bw N c).bind fun f=>eA N a b c N f 0)))
def et (N:Nat) (b:(List az)) (c:ae) (a:(List Int)):Nat→(List aw)→Int→Option ((List aw) × Bool)
  | 0,_,_=>none
  | k+1,s1,s2=>
    (if decide (s2 < (a.length:Int)) then ((idx a s2).bind fun f=>((kI N c f).bind fun d=>(if !d.2 then some ([],false) else ((idx b s2).bind fun g=>((iJ N g d.1 s1).bind fun e=>(if !e.2 then some ([],false) else ((et N b c a k) e.1 (i64.wrap (s2+1))))))))) else some (s1,true))
def iH (N:Nat) (a:(List az)) (b:ae) (c:(List Int)):Option ((List aw) × Bool):=
  et N a b c N ([]:List aw) 0
def cV (N:Nat) (c:dD) (d:Int) (e:aL × Bool) (s1:(List an)) (s2:Int) (f:(List an)→Int→Option ((List an))) (g:an) (h:(List aw) × Bool):Nat→(List Int)→Int→Option ((List an))
  | 0,_,_=>none
  | k+1,b,a=>
    (if decide (a < (c.neg.length:Int)) then ((idx c.neg a).bind fun i=>((iJ N i e.1 h.1).bind fun j=>(if j.2 then ((idx b a).bind fun l=>((idx b a).bind fun m=>((cV N c d e s1 s2 f g h k) (b.set a.toNat (i64.wrap (l+d))) (i64.wrap (a+1))))) else ((cV N c d e s1 s2 f g h k) b (i64.wrap (a+1)))))) else (f (s1.set s2.toNat (⟨g.Ids,b⟩:an)) (i64.wrap (s2+1))))
def cw (N:Nat) (a:dD) (b:(List an)) (c:Int) (d:aL × Bool):Nat→(List an)→Int→Option ((List an))
  | 0,_,_=>none
  | k+1,s1,s2=>
    (if decide (s2 < (b.length:Int)) then ((idx s1 s2).bind fun e=>((iH N a.pos a.s e.Ids).bind fun f=>(if !f.2 then ((cw N a b c d k) s1 (i64.wrap (s2+1))) else cV N a c d s1 s2 (cw N a b c d k) e f N e.Hits 0))) else some s1)
def fB (N:Nat) (a:dD) (b:(List an)) (c:Int):Option ((List an)):=
  ((kI N a.s a.id).bind fun d=>cw N a b c d N b 0)
def eH (N:Nat) (a:(List an)):Option ((List an)):=
  ((app ([]:List an) a).bind fun b=>some b)
def eV (N:Nat) (a:(List an)):Option ((List an)):=
  ((app ([]:List an) a).bind fun b=>some b)
def bm (N:Nat) (a:(List Int)):Option ((List Int)):=
  ((app ([]:List Int) a).bind fun b=>some b)
def fT (N:Nat) (b:az) (a:ae) (c:(List aw)):Nat→Int→Int→Option (Int)
  | 0,_,_=>none
  | k+1,s1,s2=>
    (if decide (s2 < (a.Items.length:Int)) then ((idx a.Items s2).bind fun d=>((iJ N b d.F c).bind fun e=>(if e.2 then ((fT N b a c k) (i64.wrap (s1+1)) (i64.wrap (s2+1))) else ((fT N b a c k) s1 (i64.wrap (s2+1)))))) else some s1)
def nM (N:Nat) (a:az) (b:ae) (c:(List aw)):Option (Int):=
  fT N a b c N 0 0
def d5 (N:Nat) (s1:(List an)) (s2:Int) (a:(List an)→Int→Option ((List an))) (b:(List Int)) (c:(List Int)):Option ((List an)):=
  ((app s1 ([(⟨b,c⟩:an)]:List an)).bind fun d=>(a d (i64.wrap (s2+1))))
def d6 (N:Nat) (a:dD) (s1:(List an)) (s2:Int) (c:(List an)→Int→Option ((List an))) (d:(List Int)) (e:(List aw) × Bool):Nat→(List Int)→Int→Option ((List an))
  | 0,_,_=>none
  | k+1,f,b=>
    (if decide (b < (a.neg.length:Int)) then ((idx a.neg b).bind fun g=>((nM N g a.s e.1).bind fun h=>((app f ([h]:List Int)).bind fun i=>((d6 N a s1 s2 c d e k) i (i64.wrap (b+1)))))) else d5 N s1 s2 c d f)
def cm (N:Nat) (a:dD) (c:(List Int)) (b:(List Int)):Nat→(List an)→Int→Option ((List an))
  | 0,_,_=>none
  | k+1,s1,s2=>
    (if decide (s2 < (b.length:Int)) then ((idx b s2).bind fun f=>((bm N c).bind fun g=>((app g ([f]:List Int)).bind fun d=>((iH N a.pos a.s d).bind fun e=>(if !e.2 then ((cm N a c b k) s1 (i64.wrap (s2+1))) else (if decide ((d.length:Int)=(a.pos.length:Int)) then d6 N a s1 s2 (cm N a c b k) d e N ([]:List Int) 0 else d5 N s1 s2 (cm N a c b k) d ([]:List Int))))))) else some s1)
def fg (N:Nat) (a:dD) (b:(List Int)) (c:(List Int)):Option ((List an)):=
  cm N a b c N ([]:List an) 0
def cU (N:Nat) (s1:(List ar)) (a:Int) (d:(List ar)→(List an)→(List an)→Int→Option ((List ar))) (b:(List an)):Option ((List ar)):=
  ((idx s1 a).bind fun c=>((eV N c.Toks).bind fun e=>((app c.Toks b).bind fun f=>(d (s1.set a.toNat (⟨f⟩:ar)) e b (i64.wrap (a+1))))))
def dI (N:Nat) (a:dD) (s1:(List ar)) (b:(List an)) (c:Int) (e:(List ar)→(List an)→(List an)→Int→Option ((List ar))):Nat→(List an)→Int→Option ((List ar))
  | 0,_,_=>none
  | k+1,f,d=>
    (if decide (d < (b.length:Int)) then ((idx b d).bind fun g=>((idx a.chain.Pos c).bind fun h=>((idx a.alphas h).bind fun i=>((fg N a g.Ids i.L).bind fun j=>((app f j).bind fun l=>((dI N a s1 b c e k) l (i64.wrap (d+1)))))))) else cU N s1 c e f)
def dT (N:Nat) (a:dD) (s1:(List ar)) (s2:(List an)) (c:(List an)) (d:Int) (e:(List ar)→(List an)→(List an)→Int→Option ((List ar))):Nat→(List an)→Int→Option ((List ar))
  | 0,_,_=>none
  | k+1,f,b=>
    (if decide (b < (s2.length:Int)) then ((idx s2 b).bind fun g=>((fg N a g.Ids ([a.id]:List Int)).bind fun h=>((app f h).bind fun i=>((dT N a s1 s2 c d e k) i (i64.wrap (b+1)))))) else dI N a s1 c d e N f 0)
def cr (N:Nat) (a:dD) (c:(List ar)):Nat→(List ar)→(List an)→(List an)→Int→Option ((List ar))
  | 0,_,_,_,_=>none
  | k+1,s1,s2,d,b=>
    (if decide (b < (c.length:Int)) then (if decide (b=0) then ((fg N a [] ([a.id]:List Int)).bind fun e=>cU N s1 b (cr N a c k) e) else dT N a s1 s2 d b (cr N a c k) N ([]:List an) 0) else some s1)
def iB (N:Nat) (b:dD) (a:(List ar)):Option ((List ar)):=
  cr N b a N a ([]:List an) ([]:List an) 0
def fj (N:Nat) (d:bf) (e:bH) (f:aJ) (g:ae) (h:Int) (s1:(List bk)):Nat→(List aH)→Int→Option ((List bk) × (List aH))
  | 0,_,_=>none
  | k+1,b,a=>
    (if decide (a < (f.Rules.length:Int)) then ((idx b a).bind fun c=>((lh N d e (⟨s1,b⟩:aJ) g h a).bind fun i=>((idx c.Levels (i64.wrap ((c.Levels.length:Int) - 1))).bind fun j=>((fB N i j.Toks 1).bind fun l=>((iB N i (c.Levels.set (i64.wrap ((c.Levels.length:Int) - 1)).toNat (⟨l⟩:ar))).bind fun m=>((fj N d e f g h s1 k) (b.set a.toNat (⟨m⟩:aH)) (i64.wrap (a+1)))))))) else some (s1,b))
def fd (N:Nat) (d:bf) (a:bH) (b:aJ) (e:ae) (c:Int) (f:aL × Bool):Nat→(List bk)→Int→Option ((List bk) × (List aH))
  | 0,_,_=>none
  | k+1,s1,s2=>
    (if decide (s2 < (a.Alphas.length:Int)) then ((idx a.Alphas s2).bind fun g=>((qk N g f.1).bind fun h=>(if h then ((idx s1 s2).bind fun i=>((app i.L ([c]:List Int)).bind fun j=>((fd N d a b e c f k) (s1.set s2.toNat (⟨j⟩:bk)) (i64.wrap (s2+1))))) else ((fd N d a b e c f k) s1 (i64.wrap (s2+1)))))) else fj N d a b e c s1 N b.Rules 0)
def mK (N:Nat) (d:bf) (e:bH) (a:aJ) (b:ae) (c:Int):Option ((List bk) × (List aH)):=
  ((kI N b c).bind fun f=>fd N d e a b c f N a.Alphas 0)
def d7 (N:Nat) (a:(List Int)) (b:(List Int)):Nat→Int→Option (Bool)
  | 0,_=>none
  | k+1,s1=>
    (if decide (s1 < (a.length:Int)) then ((idx a s1).bind fun c=>((idx b s1).bind fun d=>(if !decide (c=d) then some false else ((d7 N a b k) (i64.wrap (s1+1)))))) else some true)
def cz (N:Nat) (a:(List Int)) (b:(List Int)):Option (Bool):=
  (if !decide ((a.length:Int)=(b.length:Int)) then some false else d7 N a b N 0)
def eP (N:Nat) (a:ax) (b:ax):Option (Bool):=
  ((if seq a.Kind b.Kind then some (decide (a.N=b.N)) else some false).bind fun c=>((if c then ((cJ N a.Consts b.Consts).bind fun d=>some d) else some false).bind fun e=>((if e then ((cz N a.At b.At).bind fun f=>some f) else some false).bind fun g=>some g)))
def gy (N:Nat) (a:az):Nat→(List bP)→(List Int)→Int→Option (ax)
  | 0,_,_,_=>none
  | k+1,s1,s2,b=>
    (if decide (b < (a.Args.length:Int)) then ((idx a.Args b).bind fun c=>(if decide (c.K=2) then ((app s1 ([c.V]:List bP)).bind fun d=>((app s2 ([b]:List Int)).bind fun e=>((gy N a k) d e (i64.wrap (b+1))))) else ((gy N a k) s1 s2 (i64.wrap (b+1))))) else some (⟨a.Kind,(a.Args.length:Int),s1,s2⟩:ax))
def ou (N:Nat) (a:az):Option (ax):=
  gy N a N ([]:List bP) ([]:List Int) 0
def dJ (N:Nat) (a:bH) (b:ax):Nat→Int→Option (Int × bH)
  | 0,_=>none
  | k+1,s1=>
    (if decide (s1 < (a.Alphas.length:Int)) then ((idx a.Alphas s1).bind fun d=>((eP N d b).bind fun e=>(if e then some (s1,a) else ((dJ N a b k) (i64.wrap (s1+1)))))) else ((app a.Alphas ([b]:List ax)).bind fun c=>some (i64.wrap ((c.length:Int) - 1),(⟨c,a.Chains⟩:bH))))
def jT (N:Nat) (a:bH) (b:az):Option (Int × bH):=
  ((ou N b).bind fun c=>dJ N a c N 0)
def gU (N:Nat) (s2:(List aG)) (d:Int) (e:(List ax)→(List aG)→Int→Option (bH)) (a:ah):Nat→(List ax)→(List Int)→(List Int)→Int→Option (bH)
  | 0,_,_,_,_=>none
  | k+1,h,f,g,b=>
    (if decide (b < (a.Pats.length:Int)) then ((idx a.Pats b).bind fun i=>((jT N (⟨h,s2⟩:bH) i).bind fun c=>(if i.Not then ((app f ([c.1]:List Int)).bind fun j=>((gU N s2 d e a k) c.2.Alphas j g (i64.wrap (b+1)))) else ((app g ([c.1]:List Int)).bind fun l=>((gU N s2 d e a k) c.2.Alphas f l (i64.wrap (b+1))))))) else ((app s2 ([(⟨g,f⟩:aG)]:List aG)).bind fun m=>(e h m (i64.wrap (d+1)))))
def fP (N:Nat) (a:bf):Nat→(List ax)→(List aG)→Int→Option (bH)
  | 0,_,_,_=>none
  | k+1,s1,s2,b=>
    (if decide (b < (a.Rules.length:Int)) then ((idx a.Rules b).bind fun c=>gU N s2 b (fP N a k) c N s1 ([]:List Int) ([]:List Int) 0) else some (⟨s1,s2⟩:bH))
def pm (N:Nat) (a:bf):Option (bH):=
  fP N a N ([]:List ax) ([]:List aG) 0
def iZ (N:Nat) (a:bH) (b:(List bk)):Nat→(List aH)→Int→Option (aJ)
  | 0,_,_=>none
  | k+1,s1,s2=>
    (if decide (s2 < (a.Chains.length:Int)) then ((idx a.Chains s2).bind fun c=>((mk (⟨([]:List an)⟩:ar) (c.Pos.length:Int)).bind fun d=>((app s1 ([(⟨d⟩:aH)]:List aH)).bind fun e=>((iZ N a b k) e (i64.wrap (s2+1)))))) else some (⟨b,s1⟩:aJ))
def pM (N:Nat) (a:bH):Option (aJ):=
  ((mk (⟨([]:List Int)⟩:bk) (a.Alphas.length:Int)).bind fun b=>iZ N a b N ([]:List aH) 0)
def iN (N:Nat) (c:bf) (a:ae) (d:bH):Nat→(List bk)→(List aH)→Int→Option (aJ)
  | 0,_,_,_=>none
  | k+1,s1,s2,b=>
    (if decide (b < (a.Items.length:Int)) then ((idx a.Items b).bind fun f=>((ssl a.Items 0 (i64.wrap (b+1))).bind fun g=>((mK N c d (⟨s1,s2⟩:aJ) (⟨g,a.Next⟩:ae) f.Id).bind fun e=>((iN N c a d k) e.1 e.2 (i64.wrap (b+1)))))) else some (⟨s1,s2⟩:aJ))
def uc (N:Nat) (a:bf) (d:ae):Option (aJ):=
  ((pm N a).bind fun b=>((pM N b).bind fun c=>iN N a d b N c.Alphas c.Rules 0))
def aP (N:Nat) (a:(List bk)) (b:(List bk)) (c:bk→bk→Option (Bool)):Nat→Int→Option (Bool)
  | 0,_=>none
  | k+1,s1=>
    (if decide (s1 < (a.length:Int)) then ((idx a s1).bind fun d=>((idx b s1).bind fun e=>((c d e).bind fun f=>(if !f then some false else ((aP N a b c k) (i64.wrap (s1+1))))))) else some true)
def bQ (N:Nat) (a:(List bk)) (b:(List bk)) (c:bk→bk→Option (Bool)):Option (Bool):=
  (if !decide ((a.length:Int)=(b.length:Int)) then some false else aP N a b c N 0)
def ip (N:Nat) (a:bk) (b:bk):Option (Bool):=
  ((cz N a.L b.L).bind fun c=>some c)
def aN (N:Nat) (a:(List aH)) (b:(List aH)) (c:aH→aH→Option (Bool)):Nat→Int→Option (Bool)
  | 0,_=>none
  | k+1,s1=>
    (if decide (s1 < (a.length:Int)) then ((idx a s1).bind fun d=>((idx b s1).bind fun e=>((c d e).bind fun f=>(if !f then some false else ((aN N a b c k) (i64.wrap (s1+1))))))) else some true)
def bO (N:Nat) (a:(List aH)) (b:(List aH)) (c:aH→aH→Option (Bool)):Option (Bool):=
  (if !decide ((a.length:Int)=(b.length:Int)) then some false else aN N a b c N 0)
def aD (N:Nat) (a:(List ar)) (b:(List ar)) (c:ar→ar→Option (Bool)):Nat→Int→Option (Bool)
  | 0,_=>none
  | k+1,s1=>
    (if decide (s1 < (a.length:Int)) then ((idx a s1).bind fun d=>((idx b s1).bind fun e=>((c d e).bind fun f=>(if !f then some false else ((aD N a b c k) (i64.wrap (s1+1))))))) else some true)
def bN (N:Nat) (a:(List ar)) (b:(List ar)) (c:ar→ar→Option (Bool)):Option (Bool):=
  (if !decide ((a.length:Int)=(b.length:Int)) then some false else aD N a b c N 0)
noncomputable def eU (N:Nat) (a:(List an)) (b:an→an→Option (Int)):Option ((List an)):=
  Ci a b
def gF (N:Nat) (a:(List Int)):Nat→Int→Option (Int)
  | 0,_=>none
  | k+1,s1=>
    (if decide (s1 < (a.length:Int)) then ((idx a s1).bind fun b=>(if !decide (b=0) then some b else ((gF N a k) (i64.wrap (s1+1))))) else some 0)
def gR (N:Nat) (a:(List Int)):Option (Int):=
  gF N a N 0
def jV (N:Nat) (a:Int):Option (Bool):=
  some (!decide (a=a))
def dy (N:Nat) (a:Int) (b:Int):Option (Int):=
  ((jV N a).bind fun d=>((jV N b).bind fun c=>(if d then (if c then some 0 else some (-1)) else (if c then some 1 else (if decide (a < b) then some (-1) else (if decide (b < a) then some 1 else some 0))))))
def bU (N:Nat) (a:(List Int)) (b:(List Int)):Nat→Int→Option (Int)
  | 0,_=>none
  | k+1,s1=>
    (if decide (s1 < (a.length:Int)) then ((idx a s1).bind fun d=>(if decide ((b.length:Int)≤s1) then some 1 else ((idx b s1).bind fun e=>((dy N d e).bind fun c=>(if !decide (c=0) then some c else ((bU N a b k) (i64.wrap (s1+1)))))))) else (if decide ((a.length:Int) < (b.length:Int)) then some (-1) else some 0))
def dt (N:Nat) (a:(List Int)) (b:(List Int)):Option (Int):=
  bU N a b N 0
def d9 (N:Nat) (a:an) (b:an):Option (Int):=
  ((dt N a.Ids b.Ids).bind fun c=>((dt N a.Hits b.Hits).bind fun d=>((gR N ([c,d]:List Int)).bind fun e=>some e)))
def aO (N:Nat) (a:(List an)) (b:(List an)) (c:an→an→Option (Bool)):Nat→Int→Option (Bool)
  | 0,_=>none
  | k+1,s1=>
    (if decide (s1 < (a.length:Int)) then ((idx a s1).bind fun d=>((idx b s1).bind fun e=>((c d e).bind fun f=>(if !f then some false else ((aO N a b c k) (i64.wrap (s1+1))))))) else some true)
def cH (N:Nat) (a:(List an)) (b:(List an)) (c:an→an→Option (Bool)):Option (Bool):=
  (if !decide ((a.length:Int)=(b.length:Int)) then some false else aO N a b c N 0)
def mr (N:Nat) (a:an) (b:an):Option (Bool):=
  ((d9 N a b).bind fun c=>some (decide (c=0)))
noncomputable def iT (N:Nat) (a:ar) (b:ar):Option (Bool):=
  (if !decide ((a.Toks.length:Int)=(b.Toks.length:Int)) then some false else ((eH N a.Toks).bind fun c=>((eH N b.Toks).bind fun d=>((eU N c (d9 N)).bind fun e=>((eU N d (d9 N)).bind fun f=>((cH N e f (mr N)).bind fun g=>some g))))))
noncomputable def gA (N:Nat) (a:aH) (b:aH):Option (Bool):=
  ((bN N a.Levels b.Levels (iT N)).bind fun c=>some c)
noncomputable def ox (N:Nat) (a:aJ) (b:aJ):Option (Bool):=
  ((bQ N a.Alphas b.Alphas (ip N)).bind fun c=>((if c then ((bO N a.Rules b.Rules (gA N)).bind fun d=>some d) else some false).bind fun e=>some e))
noncomputable def lA (N:Nat) (a:bf) (c:aJ) (b:ae):Option (Bool):=
  ((nV N a).bind fun d=>(if d then ((jC N b).bind fun e=>(if e then ((uc N a b).bind fun f=>((ox N c f).bind fun g=>some g)) else some false)) else some false))
def aT (N:Nat) (a:(List a7)) (b:(List a7)) (c:a7→a7→Option (Bool)):Nat→Int→Option (Bool)
  | 0,_=>none
  | k+1,s1=>
    (if decide (s1 < (a.length:Int)) then ((idx a s1).bind fun d=>((idx b s1).bind fun e=>((c d e).bind fun f=>(if !f then some false else ((aT N a b c k) (i64.wrap (s1+1))))))) else some true)
def bg (N:Nat) (a:(List a7)) (b:(List a7)) (c:a7→a7→Option (Bool)):Option (Bool):=
  (if !decide ((a.length:Int)=(b.length:Int)) then some false else aT N a b c N 0)
def lW (N:Nat) (a:a7) (b:a7):Option (Bool):=
  ((if decide (a.Rule=b.Rule) then ((cz N a.Ids b.Ids).bind fun c=>some c) else some false).bind fun d=>some d)
def ct (N:Nat) (a:(List aw)) (b:(List aw)):Nat→Int→Option (Bool)
  | 0,_=>none
  | k+1,s1=>
    (if decide (s1 < (a.length:Int)) then ((idx a s1).bind fun c=>((idx b s1).bind fun d=>(if !(ui c d) then some false else ((ct N a b k) (i64.wrap (s1+1)))))) else some true)
def dX (N:Nat) (a:(List aw)) (b:(List aw)):Option (Bool):=
  (if !decide ((a.length:Int)=(b.length:Int)) then some false else ct N a b N 0)
def fW (N:Nat) (a:a7) (b:a7):Option (Bool):=
  ((lW N a b).bind fun c=>((if c then ((dX N a.Binds b.Binds).bind fun d=>some d) else some false).bind fun e=>some e))
def mA (N:Nat) (a:(List a7)) (b:(List a7)):Option (Bool):=
  ((bg N a b (fW N)).bind fun c=>some c)
def nj (N:Nat) (d:ah) (e:ae) (a:(List Int)):Option ((List aw) × Bool):=
  ((ow N d false).bind fun b=>(if !decide ((a.length:Int)=(b.length:Int)) then some ([],false) else ((iH N b e a).bind fun c=>some (c.1,c.2))))
def gW (N:Nat) (a:an):Nat→Int→Option (Bool)
  | 0,_=>none
  | k+1,s1=>
    (if decide (s1 < (a.Hits.length:Int)) then ((idx a.Hits s1).bind fun b=>(if !decide (b=0) then some false else ((gW N a k) (i64.wrap (s1+1))))) else some true)
def pT (N:Nat) (a:an):Option (Bool):=
  gW N a N 0
def nR (N:Nat) (a:cO) (c:(List aw)):Option (bP × Bool):=
  (if decide (a.K=2) then some (a.V,true) else (if decide (a.K=1) then ((nG N c a.S).bind fun b=>some (b.1,b.2)) else some ((⟨0,0,(⟨#[]⟩:Qr)⟩:bP),false)))
def io (N:Nat) (a:Qr):Option (Bool):=
  some (!seq a a)
def gw (N:Nat) (a:Qr) (b:Qr):Option (Int):=
  ((io N a).bind fun d=>((io N b).bind fun c=>(if d then (if c then some 0 else some (-1)) else (if c then some 1 else (if slt a b then some (-1) else (if (!slt a b && !seq a b) then some 1 else some 0))))))
def m5 (N:Nat) (a:bP) (b:bP):Option (Int):=
  ((dy N a.K b.K).bind fun c=>((dy N a.N b.N).bind fun d=>((gw N a.S b.S).bind fun e=>((gR N ([c,d,e]:List Int)).bind fun f=>some f))))
def oE (N:Nat) (a:bP) (b:bP):Option (Bool):=
  ((m5 N a b).bind fun c=>some (decide (c < 0)))
def rp (N:Nat) (a:fm) (d:(List aw)):Option (Bool):=
  ((nR N a.L d).bind fun b=>((nR N a.R d).bind fun c=>((if !b.2 then some true else some (!c.2)).bind fun e=>(if e then some false else (if decide (a.Op=1) then some (bS b.1 c.1) else (if decide (a.Op=2) then some (!(bS b.1 c.1)) else (if decide (a.Op=3) then ((oE N b.1 c.1).bind fun f=>some f) else some false)))))))
def gp (N:Nat) (a:(List fm)) (b:(List aw)):Nat→Int→Option (Bool)
  | 0,_=>none
  | k+1,s1=>
    (if decide (s1 < (a.length:Int)) then ((idx a s1).bind fun c=>((rp N c b).bind fun d=>(if !d then some false else ((gp N a b k) (i64.wrap (s1+1)))))) else some true)
def mI (N:Nat) (a:(List fm)) (b:(List aw)):Option (Bool):=
  gp N a b N 0
def bI (N:Nat) (c:Int) (d:a7→a7→Option (Int)) (s2:Int) (e:(List a7)→Int→Option ((List a7))):Nat→(List a7)→Int→Option ((List a7))
  | 0,_,_=>none
  | k+1,b,a=>
    ((if decide (c < a) then ((idx b a).bind fun g=>((idx b (i64.wrap (a - 1))).bind fun h=>((d g h).bind fun i=>some (decide (i < 0))))) else some false).bind fun j=>(if j then ((idx b (i64.wrap (a - 1))).bind fun f=>((idx b a).bind fun l=>((idx b a).bind fun m=>((idx (b.set a.toNat f) (i64.wrap (a - 1))).bind fun n=>((bI N c d s2 e k) ((b.set a.toNat f).set (i64.wrap (a - 1)).toNat l) (i64.wrap (a - 1))))))) else (e b (i64.wrap (s2+1)))))
def bn (N:Nat) (a:Int) (b:Int) (c:a7→a7→Option (Int)):Nat→(List a7)→Int→Option ((List a7))
  | 0,_,_=>none
  | k+1,s1,s2=>
    (if decide (s2 < b) then bI N a c s2 (bn N a b c k) N s1 s2 else some s1)
def bW (N:Nat) (b:(List a7)) (a:Int) (c:Int) (d:a7→a7→Option (Int)):Option ((List a7)):=
  bn N a c d N b (i64.wrap (a+1))
def bG (N:Nat) (a:Int) (b:Int) (c:Int):Nat→(List a7)→Int→Option ((List a7))
  | 0,_,_=>none
  | k+1,s1,s2=>
    (if decide (s2 < c) then ((idx s1 (i64.wrap (b+s2))).bind fun d=>((idx s1 (i64.wrap (a+s2))).bind fun e=>((idx s1 (i64.wrap (a+s2))).bind fun f=>((idx (s1.set (i64.wrap (a+s2)).toNat d) (i64.wrap (b+s2))).bind fun g=>((bG N a b c k) ((s1.set (i64.wrap (a+s2)).toNat d).set (i64.wrap (b+s2)).toNat e) (i64.wrap (s2+1))))))) else some s1)
def bZ (N:Nat) (a:(List a7)) (b:Int) (c:Int) (d:Int) (e:a7→a7→Option (Int)):Option ((List a7)):=
  bG N b c d N a 0
def bo (N:Nat) (a:Int) (c:a7→a7→Option (Int)):Nat→(List a7)→Int→Int→Option ((List a7))
  | 0,_,_,_=>none
  | k+1,s1,s2,b=>
    (if !decide (s2=b) then (if decide (b < s2) then ((bZ N s1 (i64.wrap (a - s2)) a b c).bind fun d=>((bo N a c k) d (i64.wrap (s2 - b)) b)) else ((bZ N s1 (i64.wrap (a - s2)) (i64.wrap ((i64.wrap (a+b)) - s2)) s2 c).bind fun e=>((bo N a c k) e s2 (i64.wrap (b - s2))))) else ((bZ N s1 (i64.wrap (a - s2)) a s2 c).bind fun f=>some f))
def dM (N:Nat) (b:(List a7)) (c:Int) (a:Int) (d:Int) (e:a7→a7→Option (Int)):Option ((List a7)):=
  bo N a e N b (i64.wrap (a - c)) (i64.wrap (d - a))
def cD (N:Nat) (s1:Int):Nat→(List a7)→Int→Option ((List a7))
  | 0,_,_=>none
  | k+1,b,a=>
    (if decide (a < i64.wrap (s1 - 1)) then ((idx b (i64.wrap (a+1))).bind fun c=>((idx b a).bind fun d=>((idx b a).bind fun e=>((idx (b.set a.toNat c) (i64.wrap (a+1))).bind fun f=>((cD N s1 k) ((b.set a.toNat c).set (i64.wrap (a+1)).toNat d) (i64.wrap (a+1))))))) else some b)
def bu (N:Nat) (a:(List a7)) (b:Int) (c:a7→a7→Option (Int)):Nat→Int→Int→Option ((List a7))
  | 0,_,_=>none
  | k+1,s1,s2=>
    (if decide (s1 < s2) then ((idx a (i64.wrap (fA .u64 (IntKind.u64.wrap (i64.wrap (s1+s2))) 1))).bind fun d=>((idx a b).bind fun e=>((c d e).bind fun f=>(if decide (f < 0) then ((bu N a b c k) (i64.wrap ((i64.wrap (fA .u64 (IntKind.u64.wrap (i64.wrap (s1+s2))) 1))+1)) s2) else ((bu N a b c k) s1 (i64.wrap (fA .u64 (IntKind.u64.wrap (i64.wrap (s1+s2))) 1))))))) else cD N s1 N a b)
def cE (N:Nat) (c:Int):Nat→(List a7)→Int→Option ((List a7))
  | 0,_,_=>none
  | k+1,b,a=>
    (if decide (c < a) then ((idx b (i64.wrap (a - 1))).bind fun d=>((idx b a).bind fun e=>((idx b a).bind fun f=>((idx (b.set a.toNat d) (i64.wrap (a - 1))).bind fun g=>((cE N c k) ((b.set a.toNat d).set (i64.wrap (a - 1)).toNat e) (i64.wrap (a - 1))))))) else some b)
def bv (N:Nat) (b:(List a7)) (d:Int) (e:a7→a7→Option (Int)):Nat→Int→Int→Option ((List a7))
  | 0,_,_=>none
  | k+1,a,c=>
    (if decide (a < c) then ((idx b d).bind fun f=>((idx b (i64.wrap (fA .u64 (IntKind.u64.wrap (i64.wrap (a+c))) 1))).bind fun g=>((e f g).bind fun h=>(if !(decide (h < 0)) then ((bv N b d e k) (i64.wrap ((i64.wrap (fA .u64 (IntKind.u64.wrap (i64.wrap (a+c))) 1))+1)) c) else ((bv N b d e k) a (i64.wrap (fA .u64 (IntKind.u64.wrap (i64.wrap (a+c))) 1))))))) else cE N a N b d)
def cC (N:Nat) (b:Int) (c:Int) (a:Int) (f:a7→a7→Option (Int)) (g:(List a7)→Int→Int→Int→(a7→a7→Option (Int))→Option ((List a7))) (d:Int) (e:(List a7)):Option ((List a7)):=
  ((if decide ((i64.wrap (fA .u64 (IntKind.u64.wrap (i64.wrap (b+a))) 1)) < i64.wrap ((i64.wrap ((i64.wrap (fA .u64 (IntKind.u64.wrap (i64.wrap (b+a))) 1))+c)) - d)) then some (decide (i64.wrap ((i64.wrap ((i64.wrap (fA .u64 (IntKind.u64.wrap (i64.wrap (b+a))) 1))+c)) - d) < a)) else some false).bind fun h=>(if h then ((g e (i64.wrap (fA .u64 (IntKind.u64.wrap (i64.wrap (b+a))) 1)) (i64.wrap ((i64.wrap ((i64.wrap (fA .u64 (IntKind.u64.wrap (i64.wrap (b+a))) 1))+c)) - d)) a f).bind fun i=>some i) else some e))
def cB (N:Nat) (a:Int) (f:Int) (c:Int) (d:a7→a7→Option (Int)) (e:(List a7)→Int→Int→Int→(a7→a7→Option (Int))→Option ((List a7))) (b:Int) (g:(List a7)):Option ((List a7)):=
  ((if decide (a < b) then some (decide (b < (i64.wrap (fA .u64 (IntKind.u64.wrap (i64.wrap (a+c))) 1)))) else some false).bind fun h=>(if h then ((e g a b (i64.wrap (fA .u64 (IntKind.u64.wrap (i64.wrap (a+c))) 1)) d).bind fun i=>cC N a f c d e b i) else cC N a f c d e b g))
def bt (N:Nat) (e:(List a7)) (c:Int) (b:Int) (d:Int) (f:a7→a7→Option (Int)) (h:(List a7)→Int→Int→Int→(a7→a7→Option (Int))→Option ((List a7))):Nat→Int→Int→Option ((List a7))
  | 0,_,_=>none
  | k+1,a,g=>
    (if decide (a < g) then ((idx e (i64.wrap ((i64.wrap ((i64.wrap ((i64.wrap (fA .u64 (IntKind.u64.wrap (i64.wrap (c+d))) 1))+b)) - 1)) - (i64.wrap (fA .u64 (IntKind.u64.wrap (i64.wrap (a+g))) 1))))).bind fun i=>((idx e (i64.wrap (fA .u64 (IntKind.u64.wrap (i64.wrap (a+g))) 1))).bind fun j=>((f i j).bind fun l=>(if !(decide (l < 0)) then ((bt N e c b d f h k) (i64.wrap ((i64.wrap (fA .u64 (IntKind.u64.wrap (i64.wrap (a+g))) 1))+1)) g) else ((bt N e c b d f h k) a (i64.wrap (fA .u64 (IntKind.u64.wrap (i64.wrap (a+g))) 1))))))) else ((if decide (a < b) then some (decide (b < i64.wrap ((i64.wrap ((i64.wrap (fA .u64 (IntKind.u64.wrap (i64.wrap (c+d))) 1))+b)) - a))) else some false).bind fun m=>(if m then ((dM N e a b (i64.wrap ((i64.wrap ((i64.wrap (fA .u64 (IntKind.u64.wrap (i64.wrap (c+d))) 1))+b)) - a)) f).bind fun n=>cB N c b d f h a n) else cB N c b d f h a e)))
def bM (N:Nat) (a:(List a7)) (b:Int) (c:Int) (d:Int) (e:a7→a7→Option (Int)) (f:(List a7)→Int→Int→Int→(a7→a7→Option (Int))→Option ((List a7))) (g:Int) (h:Int):Option ((List a7)):=
  bt N a b c d e f N g h
def aC:Nat→(List a7)→Int→Int→Int→(a7→a7→Option (Int))→Option ((List a7))
  | 0,_,_,_,_,_=>none
  | N+1,d,b,a,c,e=>
    (if decide (i64.wrap (a - b)=1) then bu N d b e N a c else (if decide (i64.wrap (c - a)=1) then bv N d a e N b a else (if decide ((i64.wrap (fA .u64 (IntKind.u64.wrap (i64.wrap (b+c))) 1)) < a) then bM N d b a c e (aC N) (i64.wrap ((i64.wrap ((i64.wrap (fA .u64 (IntKind.u64.wrap (i64.wrap (b+c))) 1))+a)) - c)) (i64.wrap (fA .u64 (IntKind.u64.wrap (i64.wrap (b+c))) 1)) else bM N d b a c e (aC N) b a)))
def cI (N:Nat) (c:Int) (e:a7→a7→Option (Int)) (a:Int) (f:(List a7)→Int→Option ((List a7))):Nat→(List a7)→Int→Int→Option ((List a7))
  | 0,_,_,_=>none
  | k+1,g,b,d=>
    (if decide (d≤c) then ((aC N g b (i64.wrap (b+a)) d e).bind fun h=>((cI N c e a f k) h d (i64.wrap (d+(i64.wrap (2*a)))))) else (if decide (i64.wrap (b+a) < c) then ((aC N g b (i64.wrap (b+a)) c e).bind fun i=>(f i (i64.wrap (a*2)))) else (f g (i64.wrap (a*2)))))
def bp (N:Nat) (a:Int) (c:a7→a7→Option (Int)):Nat→(List a7)→Int→Option ((List a7))
  | 0,_,_=>none
  | k+1,d,b=>
    (if decide (b < a) then cI N a c b (bp N a c k) N d 0 (i64.wrap (2*b)) else some d)
def cg (N:Nat) (a:Int) (b:a7→a7→Option (Int)):Nat→(List a7)→Int→Int→Option ((List a7))
  | 0,_,_,_=>none
  | k+1,s1,s2,c=>
    (if decide (c≤a) then ((bW N s1 s2 c b).bind fun d=>((cg N a b k) d c (i64.wrap (c+20)))) else ((bW N s1 s2 a b).bind fun e=>bp N a b N e 20))
def eZ (N:Nat) (a:(List a7)) (b:Int) (c:a7→a7→Option (Int)):Option ((List a7)):=
  cg N b c N a 0 20
def cA (N:Nat) (a:(List a7)) (b:a7→a7→Option (Int)):Option ((List a7)):=
  ((eZ N a (a.length:Int) b).bind fun c=>some c)
def eD (N:Nat) (a:a7) (b:a7):Option (Int):=
  ((dy N a.Rule b.Rule).bind fun d=>((dy N (a.Ids.length:Int) (b.Ids.length:Int)).bind fun e=>((gR N ([d,e]:List Int)).bind fun c=>(if decide (c=0) then ((dt N a.Ids b.Ids).bind fun f=>some f) else some c))))
def fL (N:Nat) (d:ae) (s1:(List a7)) (s2:Int) (e:(List a7)→Int→Option ((List a7))) (a:ah) (b:ar):Nat→(List a7)→Int→Option ((List a7))
  | 0,_,_=>none
  | k+1,f,c=>
    (if decide (c < (b.Toks.length:Int)) then ((idx b.Toks c).bind fun g=>((nj N a d g.Ids).bind fun h=>((if h.2 then ((pT N g).bind fun i=>some i) else some false).bind fun j=>((if j then ((mI N a.Conds h.1).bind fun l=>some l) else some false).bind fun m=>(if m then ((bm N g.Ids).bind fun n=>((app f ([(⟨s2,n,h.1⟩:a7)]:List a7)).bind fun o=>((fL N d s1 s2 e a b k) o (i64.wrap (c+1))))) else ((fL N d s1 s2 e a b k) f (i64.wrap (c+1)))))))) else ((cA N f (eD N)).bind fun p=>((app s1 p).bind fun q=>(e q (i64.wrap (s2+1))))))
def iF (N:Nat) (b:bf) (a:aJ) (c:ae):Nat→(List a7)→Int→Option ((List a7))
  | 0,_,_=>none
  | k+1,s1,s2=>
    (if decide (s2 < (b.Rules.length:Int)) then ((idx b.Rules s2).bind fun e=>((if decide ((a.Rules.length:Int)≤s2) then some true else ((idx a.Rules s2).bind fun f=>some (decide ((f.Levels.length:Int)=0)))).bind fun g=>(if g then ((iF N b a c k) s1 (i64.wrap (s2+1))) else ((idx a.Rules s2).bind fun d=>((idx d.Levels (i64.wrap ((d.Levels.length:Int) - 1))).bind fun h=>fL N c s1 s2 (iF N b a c k) e h N ([]:List a7) 0))))) else some s1)
def ki (N:Nat) (a:bf) (b:aJ) (c:ae):Option ((List a7)):=
  iF N a b c N ([]:List a7) 0
def gz (N:Nat) (a:ah) (b:ae) (c:(List aw)):Nat→Int→Option (Bool)
  | 0,_=>none
  | k+1,s1=>
    (if decide (s1 < (a.Pats.length:Int)) then ((idx a.Pats s1).bind fun d=>((if d.Not then ((nM N d b c).bind fun e=>some (decide (0 < e))) else some false).bind fun f=>(if f then some true else ((gz N a b c k) (i64.wrap (s1+1)))))) else some false)
def oa (N:Nat) (a:ah) (b:ae) (c:(List aw)):Option (Bool):=
  gz N a b c N 0
def nr (N:Nat) (s2:Int) (a:(List a7)→Int→Option ((List a7))) (b:(List a7)):Option ((List a7)):=
  (a b (i64.wrap (s2+1)))
def f9 (N:Nat) (c:ah) (a:ae) (b:(List Int)) (d:(List aw)) (e:(List a7)→ah→ae→(List Int)→(List aw)→Option ((List a7))) (f:(List az)):Nat→(List a7)→Int→Option ((List a7))
  | 0,_,_=>none
  | k+1,s1,s2=>
    (if decide (s2 < (a.Items.length:Int)) then ((idx a.Items s2).bind fun g=>((idx f (b.length:Int)).bind fun i=>((iJ N i g.F d).bind fun h=>(if h.2 then ((bm N b).bind fun j=>((app j ([g.Id]:List Int)).bind fun l=>((e s1 c a l h.1).bind fun m=>nr N s2 (f9 N c a b d e f k) m))) else ((f9 N c a b d e f k) s1 (i64.wrap (s2+1))))))) else some s1)
def fX:Nat→(List a7)→ah→ae→(List Int)→(List aw)→Option ((List a7))
  | 0,_,_,_,_,_=>none
  | N+1,c,a,e,d,b=>
    ((ow N a false).bind fun f=>(if decide ((d.length:Int)=(f.length:Int)) then ((oa N a e b).bind fun g=>((if !g then ((mI N a.Conds b).bind fun h=>some h) else some false).bind fun i=>(if i then ((bm N d).bind fun j=>((bw N b).bind fun k=>((app c ([(⟨0,j,k⟩:a7)]:List a7)).bind fun l=>some l))) else some c))) else f9 N a e d b (fX N) f N c 0))
def lV (N:Nat) (a:ah) (b:ae):Option ((List a7)):=
  ((fX N ([]:List a7) a b [] []).bind fun c=>some c)
def jN (N:Nat) (s2:Int) (c:(List a7)→Int→Option ((List a7))) (a:(List a7)):Nat→(List a7)→Int→Option ((List a7))
  | 0,_,_=>none
  | k+1,d,b=>
    (if decide (b < (a.length:Int)) then ((idx a b).bind fun e=>((app d ([(⟨s2,e.Ids,e.Binds⟩:a7)]:List a7)).bind fun f=>((jN N s2 c a k) f (i64.wrap (b+1))))) else (c d (i64.wrap (s2+1))))
def gO (N:Nat) (a:bf) (b:ae):Nat→(List a7)→Int→Option ((List a7))
  | 0,_,_=>none
  | k+1,s1,s2=>
    (if decide (s2 < (a.Rules.length:Int)) then ((idx a.Rules s2).bind fun c=>((lV N c b).bind fun d=>jN N s2 (gO N a b k) d N s1 0)) else some s1)
def rk (N:Nat) (a:bf) (b:ae):Option ((List a7)):=
  gO N a b N ([]:List a7) 0
def kV (N:Nat) (a:bf) (b:ae):Option ((List a7)):=
  ((nV N a).bind fun c=>((if !c then some true else ((jC N b).bind fun d=>some (!d))).bind fun e=>(if e then some [] else ((rk N a b).bind fun f=>some f))))
def jM (N:Nat) (a:(List Int)):Nat→Int→Int→Option (ab)
  | 0,_,_=>none
  | k+1,s1,s2=>
    ((if decide (s2 < (a.length:Int)) then some (decide (s2 < 4000)) else some false).bind fun b=>(if b then ((idx a s2).bind fun c=>((jM N a k) (zl .i64 (i64.wrap ((i64.wrap ((i64.wrap (s1*137))+(i64.wrap c)))+11)) 1073741823) (i64.wrap (s2+1)))) else some (⟨a,0,s1⟩:ab)))
def ru (N:Nat) (a:(List Int)):Option (ab):=
  jM N a N (i64.wrap (354354+(a.length:Int))) 0
def kQ (N:Nat) (a:ab):Option (Int × ab):=
  (if decide (a.i < (a.b.length:Int)) then ((idx a.b a.i).bind fun b=>some ((zl .i64 (i64.wrap ((zl .i64 (KK .i64 (fA .i64 (i64.wrap ((i64.wrap (a.h*6364136223846793005))+1442695040888963407)) 33) (fA .i64 (i64.wrap ((i64.wrap (a.h*6364136223846793005))+1442695040888963407)) 47)) 255)+(i64.wrap b))) 255),(⟨a.b,i64.wrap (a.i+1),i64.wrap ((i64.wrap (a.h*6364136223846793005))+1442695040888963407)⟩:ab))) else some ((zl .i64 (KK .i64 (fA .i64 (i64.wrap ((i64.wrap (a.h*6364136223846793005))+1442695040888963407)) 33) (fA .i64 (i64.wrap ((i64.wrap (a.h*6364136223846793005))+1442695040888963407)) 47)) 255),(⟨a.b,a.i,i64.wrap ((i64.wrap (a.h*6364136223846793005))+1442695040888963407)⟩:ab)))
def cR (N:Nat) (a:ab) (b:Int):Option (Int × ab):=
  (if decide (b≤0) then some (0,a) else (if decide (b≤256) then ((kQ N a).bind fun c=>((En c.1 b).bind fun g=>some (g,(⟨a.b,c.2.i,c.2.h⟩:ab)))) else ((kQ N a).bind fun d=>((kQ N (⟨a.b,d.2.i,d.2.h⟩:ab)).bind fun e=>((kQ N (⟨a.b,e.2.i,e.2.h⟩:ab)).bind fun f=>((En (i64.wrap ((i64.wrap ((i64.wrap (d.1*65536))+(i64.wrap (e.1*256))))+f.1)) b).bind fun h=>some (h,(⟨a.b,f.2.i,f.2.h⟩:ab))))))))
def i9 (N:Nat) (b:ab) (c:(List Qr)):Option (Qr × ab):=
  ((cR N b (c.length:Int)).bind fun a=>((idx c a.1).bind fun d=>some (d,(⟨b.b,a.2.i,a.2.h⟩:ab))))
def gG (N:Nat) (b:ab) (c:Int):Option (Bool × ab):=
  ((cR N b c).bind fun a=>some (decide (a.1=0),(⟨b.b,a.2.i,a.2.h⟩:ab)))
def nB (N:Nat) (b:ab) (c:(List Int)):Option (Int × ab):=
  ((cR N b (c.length:Int)).bind fun a=>((idx c a.1).bind fun d=>some (d,(⟨b.b,a.2.i,a.2.h⟩:ab))))
def jJ (N:Nat) (a:(List Qr)) (b:Qr):Nat→Int→Option (Bool)
  | 0,_=>none
  | k+1,s1=>
    (if decide (s1 < (a.length:Int)) then ((idx a s1).bind fun c=>(if seq c b then some true else ((jJ N a b k) (i64.wrap (s1+1))))) else some false)
def nJ (N:Nat) (a:(List Qr)) (b:Qr):Option (Bool):=
  jJ N a b N 0
def gV (N:Nat) (a:az):Nat→(List Qr)→Int→Option ((List Qr))
  | 0,_,_=>none
  | k+1,s1,s2=>
    (if decide (s2 < (a.Args.length:Int)) then ((idx a.Args s2).bind fun b=>((if decide (b.K=1) then ((idx a.Args s2).bind fun c=>((nJ N s1 c.S).bind fun d=>some (!d))) else some false).bind fun e=>(if e then ((idx a.Args s2).bind fun f=>((app s1 ([f.S]:List Qr)).bind fun g=>((gV N a k) g (i64.wrap (s2+1))))) else ((gV N a k) s1 (i64.wrap (s2+1)))))) else some s1)
def pu (N:Nat) (a:az):Option ((List Qr)):=
  gV N a N ([]:List Qr) 0
def dH (N:Nat) (d:ah) (s2:Int) (e:(List Qr)→Int→Option ((List Qr))) (a:(List Qr)):Nat→(List Qr)→Int→Option ((List Qr))
  | 0,_,_=>none
  | k+1,c,b=>
    ((if decide (b < (a.length:Int)) then ((idx d.Pats s2).bind fun f=>some (!f.Not)) else some false).bind fun g=>(if g then ((idx a b).bind fun h=>((nJ N c h).bind fun i=>(if !i then ((idx a b).bind fun j=>((app c ([j]:List Qr)).bind fun l=>((dH N d s2 e a k) l (i64.wrap (b+1))))) else ((dH N d s2 e a k) c (i64.wrap (b+1)))))) else (e c (i64.wrap (s2+1)))))
def dF (N:Nat) (a:ah):Nat→(List Qr)→Int→Option ((List Qr))
  | 0,_,_=>none
  | k+1,s1,s2=>
    (if decide (s2 < (a.Pats.length:Int)) then ((idx a.Pats s2).bind fun b=>((pu N b).bind fun c=>dH N a s2 (dF N a k) c N s1 0)) else some s1)
def mF (N:Nat) (a:ah):Option ((List Qr)):=
  dF N a N ([]:List Qr) 0
def ez (N:Nat) (a:ah):Nat→Int→Int→Option (Int)
  | 0,_,_=>none
  | k+1,s1,s2=>
    (if decide (s2 < (a.Pats.length:Int)) then ((idx a.Pats s2).bind fun b=>(if !b.Not then ((ez N a k) (i64.wrap (s1+1)) (i64.wrap (s2+1))) else ((ez N a k) s1 (i64.wrap (s2+1))))) else some s1)
def lm (N:Nat) (a:ah):Option (Int):=
  ez N a N 0 0
def kU (N:Nat) (a:ab):Option (bP × ab):=
  ((gG N a 2).bind fun b=>(if b.1 then ((cR N (⟨a.b,b.2.i,b.2.h⟩:ab) 3).bind fun c=>some ((⟨1,i64.wrap (1+c.1),(⟨#[]⟩:Qr)⟩:bP),(⟨a.b,c.2.i,c.2.h⟩:ab))) else ((i9 N (⟨a.b,b.2.i,b.2.h⟩:ab) ([(⟨#[97]⟩:Qr),(⟨#[98]⟩:Qr)]:List Qr)).bind fun d=>some ((⟨2,0,d.1⟩:bP),(⟨a.b,d.2.i,d.2.h⟩:ab)))))
def rP (N:Nat) (a:bP):Option (cO):=
  some (⟨2,(⟨#[]⟩:Qr),a⟩:cO)
def rE (N:Nat) (a:Qr):Option (cO):=
  some (⟨1,a,(⟨0,0,(⟨#[]⟩:Qr)⟩:bP)⟩:cO)
def rN (N:Nat) (b:ab):Option (cO × ab):=
  ((cR N b 6).bind fun a=>(if decide (a.1=0) then some ((⟨3,(⟨#[]⟩:Qr),(⟨0,0,(⟨#[]⟩:Qr)⟩:bP)⟩:cO),(⟨b.b,a.2.i,a.2.h⟩:ab)) else (if decide (a.1=1) then ((kU N (⟨b.b,a.2.i,a.2.h⟩:ab)).bind fun c=>((rP N c.1).bind fun e=>some (e,(⟨b.b,c.2.i,c.2.h⟩:ab)))) else ((i9 N (⟨b.b,a.2.i,a.2.h⟩:ab) ([(⟨#[88]⟩:Qr),(⟨#[89]⟩:Qr),(⟨#[90]⟩:Qr),(⟨#[88]⟩:Qr)]:List Qr)).bind fun d=>((rE N d.1).bind fun f=>some (f,(⟨b.b,d.2.i,d.2.h⟩:ab)))))))
def ke (N:Nat) (a:ab) (c:Bool) (d:Qr × ab) (s1:Int):Nat→(List cO)→Int→Int→Int→Option (az × ab)
  | 0,_,_,_,_=>none
  | k+1,s2,e,f,g=>
    (if decide (e < s1) then ((rN N (⟨a.b,f,g⟩:ab)).bind fun b=>((app s2 ([b.1]:List cO)).bind fun h=>((ke N a c d s1 k) h (i64.wrap (e+1)) b.2.i b.2.h))) else some ((⟨d.1,s2,c⟩:az),(⟨a.b,f,g⟩:ab)))
def lQ (N:Nat) (b:ab) (c:Bool) (a:Qr × ab) (s1:Int):Option (az × ab):=
  ke N b c a s1 N ([]:List cO) 0 a.2.i a.2.h
def nS (N:Nat) (a:ab) (c:Bool):Option (az × ab):=
  ((i9 N a ([(⟨#[111,114,100,101,114]⟩:Qr),(⟨#[112,97,105,100]⟩:Qr),(⟨#[105,116,101,109]⟩:Qr),(⟨#[111,114,100,101,114]⟩:Qr)]:List Qr)).bind fun b=>(if seq b.1 (⟨#[105,116,101,109]⟩:Qr) then lQ N a c b 2 else lQ N a c b 1))
def mt (N:Nat) (a:ab):Option (cO × ab):=
  ((gG N a 3).bind fun b=>(if b.1 then ((kU N (⟨a.b,b.2.i,b.2.h⟩:ab)).bind fun c=>((rP N c.1).bind fun e=>some (e,(⟨a.b,c.2.i,c.2.h⟩:ab)))) else ((i9 N (⟨a.b,b.2.i,b.2.h⟩:ab) ([(⟨#[88]⟩:Qr),(⟨#[89]⟩:Qr)]:List Qr)).bind fun d=>((rE N d.1).bind fun f=>some (f,(⟨a.b,d.2.i,d.2.h⟩:ab))))))
def pw (N:Nat) (a:ab):Option (fm × ab):=
  ((cR N a 3).bind fun b=>((mt N (⟨a.b,b.2.i,b.2.h⟩:ab)).bind fun c=>((mt N (⟨a.b,c.2.i,c.2.h⟩:ab)).bind fun d=>some ((⟨i64.wrap (1+b.1),c.1,d.1⟩:fm),(⟨a.b,d.2.i,d.2.h⟩:ab)))))
def oJ (N:Nat) (a:cO) (b:(List Qr)):Option (Bool):=
  ((if !decide (a.K=1) then some true else ((nJ N b a.S).bind fun c=>some c)).bind fun d=>some d)
def mH (N:Nat) (b:cO) (a:(List Qr)):Option (cO):=
  ((oJ N b a).bind fun c=>(if c then some b else (if decide ((a.length:Int)=0) then ((rP N (⟨1,1,(⟨#[]⟩:Qr)⟩:bP)).bind fun d=>some d) else ((idx a 0).bind fun e=>((rE N e).bind fun f=>some f)))))
def nY (N:Nat) (a:ab) (b:cO × ab) (s1:Int) (s2:Int) (c:Qr) (d:Int) (e:Qr) (f:Int) (g:Int) (h:Qr):Option (eo × ab):=
  some ((⟨c,b.1,(⟨d,e,(⟨f,g,h⟩:bP)⟩:cO)⟩:eo),(⟨a.b,s1,s2⟩:ab))
def pK (N:Nat) (b:ab):Option (eo × ab):=
  ((mt N b).bind fun d=>((gG N (⟨b.b,d.2.i,d.2.h⟩:ab) 4).bind fun c=>(if c.1 then ((i9 N (⟨b.b,c.2.i,c.2.h⟩:ab) ([(⟨#[43]⟩:Qr),(⟨#[45]⟩:Qr)]:List Qr)).bind fun e=>((mt N (⟨b.b,e.2.i,e.2.h⟩:ab)).bind fun a=>nY N b d a.2.i a.2.h e.1 a.1.K a.1.S a.1.V.K a.1.V.N a.1.V.S)) else nY N b d c.2.i c.2.h (⟨#[]⟩:Qr) 0 (⟨#[]⟩:Qr) 0 0 (⟨#[]⟩:Qr))))
def o1 (N:Nat) (a:ab) (b:Int × ab) (c:Qr × ab) (d:(List eo)) (e:Int) (f:Int) (g:Int) (h:Qr):Option (fD × ab):=
  some ((⟨b.1,c.1,d,e,h⟩:fD),(⟨a.b,f,g⟩:ab))
def j9 (N:Nat) (a:ab) (c:Int × ab) (d:Qr × ab) (e:(List eo)) (f:Int) (i:Bool) (g:Int) (h:Int):Option (fD × ab):=
  (if i then ((i9 N (⟨a.b,g,h⟩:ab) ([(⟨#[114,101,102,117,110,100]⟩:Qr),(⟨#[99,97,110,99,101,108]⟩:Qr)]:List Qr)).bind fun b=>o1 N a c d e f b.2.i b.2.h b.1) else o1 N a c d e f g h (⟨#[]⟩:Qr))
def ky (N:Nat) (a:ab) (b:Int × ab) (d:Qr × ab) (e:(List eo)) (f:Int) (g:Int) (h:Int):Option (fD × ab):=
  (if decide (b.1=3) then ((gG N (⟨a.b,f,g⟩:ab) 2).bind fun c=>j9 N a b d e h c.1 c.2.i c.2.h) else j9 N a b d e h false f g)
def kA (N:Nat) (a:ab) (b:Int × ab) (c:Qr × ab) (s2:Int):Nat→(List eo)→Int→Int→Int→Option (fD × ab)
  | 0,_,_,_,_=>none
  | k+1,d,i,e,f=>
    (if decide (i < s2) then ((pK N (⟨a.b,e,f⟩:ab)).bind fun g=>((app d ([g.1]:List eo)).bind fun j=>((kA N a b c s2 k) j (i64.wrap (i+1)) g.2.i g.2.h))) else (if decide (b.1=4) then ((nB N (⟨a.b,e,f⟩:ab) ([0,1,5,100000]:List Int)).bind fun h=>ky N a b c d h.2.i h.2.h h.1) else ky N a b c d e f 0))
def jY (N:Nat) (b:ab) (c:Int × ab) (a:Qr × ab) (s2:Int):Option (fD × ab):=
  kA N b c a s2 N ([]:List eo) 0 a.2.i a.2.h
def ev (N:Nat) (b:ab) (a:Int × ab) (s1:Bool):Option (fD × ab):=
  (if s1 then some ((⟨a.1,(⟨#[]⟩:Qr),[],0,(⟨#[]⟩:Qr)⟩:fD),(⟨b.b,a.2.i,a.2.h⟩:ab)) else ((i9 N (⟨b.b,a.2.i,a.2.h⟩:ab) ([(⟨#[111,114,100,101,114]⟩:Qr),(⟨#[112,97,105,100]⟩:Qr),(⟨#[105,116,101,109]⟩:Qr),(⟨#[115,104,105,112]⟩:Qr),(⟨#[99,104,97,114,103,101]⟩:Qr)]:List Qr)).bind fun c=>(if seq c.1 (⟨#[105,116,101,109]⟩:Qr) then jY N b a c 2 else jY N b a c 1)))
def qE (N:Nat) (b:ab) (d:Int):Option (fD × ab):=
  ((nB N b ([1,1,2,3,3,4,5,6]:List Int)).bind fun a=>(if decide (a.1=2) then ((cR N (⟨b.b,a.2.i,a.2.h⟩:ab) d).bind fun c=>some ((⟨a.1,(⟨#[]⟩:Qr),[],c.1,(⟨#[]⟩:Qr)⟩:fD),(⟨b.b,c.2.i,c.2.h⟩:ab))) else (if decide (a.1=5) then ev N b a (decide (a.1=5)) else ev N b a (decide (a.1=6)))))
def gX (N:Nat) (e:(List Qr)) (f:(List fD)) (g:Int) (h:(List fD)→Int→Int→Int→Option (ah × ab)) (a:fD × ab):Nat→(List eo)→Int→Option (ah × ab)
  | 0,_,_=>none
  | k+1,d,b=>
    (if decide (b < (d.length:Int)) then ((idx d b).bind fun c=>((mH N c.L e).bind fun i=>(if !seq c.Op (⟨#[]⟩:Qr) then ((mH N c.R e).bind fun j=>((gX N e f g h a k) (d.set b.toNat (⟨c.Op,i,j⟩:eo)) (i64.wrap (b+1)))) else ((gX N e f g h a k) (d.set b.toNat (⟨c.Op,i,c.R⟩:eo)) (i64.wrap (b+1)))))) else ((app f ([(⟨a.1.Kind,a.1.Name,d,a.1.N,a.1.Undo⟩:fD)]:List fD)).bind fun l=>(h l (i64.wrap (g - 1)) a.2.i a.2.h)))
def hJ (N:Nat) (a:ab) (b:Qr) (c:Int × ab) (d:(List az)) (g:(List Qr)) (e:(List fm)):Nat→(List fD)→Int→Int→Int→Option (ah × ab)
  | 0,_,_,_,_=>none
  | k+1,f,h,i,j=>
    (if decide (0 < h) then ((lm N (⟨b,c.1,d,e,f⟩:ah)).bind fun m=>((qE N (⟨a.b,i,j⟩:ab) m).bind fun l=>gX N g f h (hJ N a b c d g e k) l N l.1.Args 0)) else some ((⟨b,c.1,d,e,f⟩:ah),(⟨a.b,i,j⟩:ab)))
def kt (N:Nat) (b:ab) (c:Qr) (d:Int × ab) (e:(List az)) (f:(List Qr)) (g:(List fm)) (h:Int) (i:Int):Option (ah × ab):=
  ((cR N (⟨b.b,h,i⟩:ab) 3).bind fun a=>hJ N b c d e f g N ([]:List fD) (i64.wrap (1+a.1)) a.2.i a.2.h)
def kh (N:Nat) (c:ab) (e:Qr) (f:Int × ab) (g:(List az)) (h:Int) (i:Int):Option (ah × ab):=
  ((mF N (⟨e,f.1,g,[],[]⟩:ah)).bind fun d=>((gG N (⟨c.b,h,i⟩:ab) 3).bind fun a=>(if a.1 then ((pw N (⟨c.b,a.2.i,a.2.h⟩:ab)).bind fun b=>((mH N b.1.L d).bind fun j=>((mH N b.1.R d).bind fun k=>((app ([]:List fm) ([(⟨b.1.Op,j,k⟩:fm)]:List fm)).bind fun l=>kt N c e f g d l b.2.i b.2.h)))) else kt N c e f g d ([]:List fm) a.2.i a.2.h)))
def kl (N:Nat) (a:ab) (c:Qr) (d:Int × ab):Nat→(List az)→Int→Int→Int→Option (ah × ab)
  | 0,_,_,_,_=>none
  | k+1,s1,s2,g,h=>
    (if decide (0 < s2) then ((nS N (⟨a.b,g,h⟩:ab) false).bind fun e=>((app s1 ([e.1]:List az)).bind fun i=>((kl N a c d k) i (i64.wrap (s2 - 1)) e.2.i e.2.h))) else ((gG N (⟨a.b,g,h⟩:ab) 3).bind fun b=>(if b.1 then ((nS N (⟨a.b,b.2.i,b.2.h⟩:ab) true).bind fun f=>((app s1 ([f.1]:List az)).bind fun j=>kh N a c d j f.2.i f.2.h)) else kh N a c d s1 b.2.i b.2.h)))
def qm (N:Nat) (a:ab) (d:Qr):Option (ah × ab):=
  ((nB N a ([0,0,5,(-5),100]:List Int)).bind fun b=>((cR N (⟨a.b,b.2.i,b.2.h⟩:ab) 3).bind fun c=>kl N a d b N ([]:List az) (i64.wrap (1+c.1)) c.2.i c.2.h))
def jk (N:Nat) (b:ab) (d:Qr × ab):Nat→(List ah)→Int→Int→Int→Option (bf × ab)
  | 0,_,_,_,_=>none
  | k+1,s1,s2,e,f=>
    ((cR N (⟨b.b,e,f⟩:ab) 4).bind fun a=>((if decide (s2 < i64.wrap (1+a.1)) then some (decide (s2 < 4)) else some false).bind fun g=>(if g then ((idx ([(⟨#[114,49]⟩:Qr),(⟨#[114,50]⟩:Qr),(⟨#[114,51]⟩:Qr),(⟨#[114,52]⟩:Qr)]:List Qr) s2).bind fun h=>((qm N (⟨b.b,a.2.i,a.2.h⟩:ab) h).bind fun c=>((app s1 ([c.1]:List ah)).bind fun i=>((jk N b d k) i (i64.wrap (s2+1)) c.2.i c.2.h)))) else some ((⟨d.1,s1⟩:bf),(⟨b.b,a.2.i,a.2.h⟩:ab)))))
def oy (N:Nat) (b:ab):Option (bf × ab):=
  ((i9 N b ([(⟨#[102,108,111,119]⟩:Qr),(⟨#[115,104,105,112]⟩:Qr),(⟨#[120]⟩:Qr)]:List Qr)).bind fun a=>jk N b a N ([]:List ah) 0 a.2.i a.2.h)
def fb (N:Nat) (a:(List bP)) (b:(List bP)):Nat→Int→Option (Bool)
  | 0,_=>none
  | k+1,s1=>
    (if decide (s1 < (a.length:Int)) then ((idx a s1).bind fun c=>((idx b s1).bind fun d=>(if !(bS c d) then some false else ((fb N a b k) (i64.wrap (s1+1)))))) else some true)
def ju (N:Nat) (a:(List bP)) (b:(List bP)):Option (Bool):=
  (if !decide ((a.length:Int)=(b.length:Int)) then some false else fb N a b N 0)
def ng (N:Nat) (a:aL) (b:aL):Option (Bool):=
  ((if seq a.Kind b.Kind then ((ju N a.Fields b.Fields).bind fun c=>some c) else some false).bind fun d=>some d)
def jD (N:Nat) (a:ae) (b:aL):Nat→Int→Option (Int)
  | 0,_=>none
  | k+1,s1=>
    (if decide (s1 < (a.Items.length:Int)) then ((idx a.Items s1).bind fun c=>((ng N c.F b).bind fun d=>(if d then ((idx a.Items s1).bind fun e=>some e.Id) else ((jD N a b k) (i64.wrap (s1+1)))))) else some 0)
def rV (N:Nat) (a:ae) (b:aL):Option (Int):=
  jD N a b N 0
def kx (N:Nat) (a:ab) (c:Qr × ab) (s2:Int):Nat→(List bP)→Int→Int→Int→Option (aL × ab)
  | 0,_,_,_,_=>none
  | k+1,d,e,f,g=>
    (if decide (e < s2) then ((kU N (⟨a.b,f,g⟩:ab)).bind fun b=>((app d ([b.1]:List bP)).bind fun h=>((kx N a c s2 k) h (i64.wrap (e+1)) b.2.i b.2.h))) else some ((⟨c.1,d⟩:aL),(⟨a.b,f,g⟩:ab)))
def lT (N:Nat) (a:ab) (b:Qr × ab) (s2:Int) (c:Int) (d:Int):Option (aL × ab):=
  kx N a b s2 N ([]:List bP) 0 c d
def iW (N:Nat) (b:ab) (c:Qr × ab) (s1:Int):Option (aL × ab):=
  ((gG N (⟨b.b,c.2.i,c.2.h⟩:ab) 12).bind fun a=>(if a.1 then ((cR N (⟨b.b,a.2.i,a.2.h⟩:ab) 6).bind fun d=>lT N b c d.1 d.2.i d.2.h) else lT N b c s1 a.2.i a.2.h))
def pB (N:Nat) (a:ab):Option (aL × ab):=
  ((i9 N a ([(⟨#[111,114,100,101,114]⟩:Qr),(⟨#[112,97,105,100]⟩:Qr),(⟨#[105,116,101,109]⟩:Qr),(⟨#[111,114,100,101,114]⟩:Qr)]:List Qr)).bind fun b=>(if seq b.1 (⟨#[105,116,101,109]⟩:Qr) then iW N a b 2 else iW N a b 1))
def jl (N:Nat) (a:(List Int)) (b:(List Int)):Nat→Int→Option (Bool)
  | 0,_=>none
  | k+1,s1=>
    (if decide (s1 < (a.length:Int)) then ((idx a s1).bind fun c=>((idx b s1).bind fun d=>(if !decide (c=d) then some false else ((jl N a b k) (i64.wrap (s1+1)))))) else some true)
def oz (N:Nat) (a:(List Int)) (b:(List Int)):Option (Bool):=
  (if !decide ((a.length:Int)=(b.length:Int)) then some false else jl N a b N 0)
def lP (N:Nat) (a:ax) (b:ax):Option (Bool):=
  ((if seq a.Kind b.Kind then some (decide (a.N=b.N)) else some false).bind fun c=>((if c then ((oz N a.At b.At).bind fun d=>some d) else some false).bind fun e=>((if e then ((ju N a.Consts b.Consts).bind fun f=>some f) else some false).bind fun g=>some g)))
def ga (N:Nat) (a:bH) (b:ax):Nat→Int→Option (Int × bH)
  | 0,_=>none
  | k+1,s1=>
    (if decide (s1 < (a.Alphas.length:Int)) then ((idx a.Alphas s1).bind fun d=>((lP N d b).bind fun e=>(if e then some (s1,a) else ((ga N a b k) (i64.wrap (s1+1)))))) else ((app a.Alphas ([b]:List ax)).bind fun c=>some (i64.wrap ((c.length:Int) - 1),(⟨c,a.Chains⟩:bH))))
def om (N:Nat) (a:bH) (b:ax):Option (Int × bH):=
  ga N a b N 0
def gg (N:Nat) (a:az):Nat→(List bP)→(List Int)→Int→Option (ax)
  | 0,_,_,_=>none
  | k+1,s1,s2,b=>
    (if decide (b < (a.Args.length:Int)) then ((idx a.Args b).bind fun c=>(if decide (c.K=2) then ((idx a.Args b).bind fun d=>((app s1 ([d.V]:List bP)).bind fun e=>((app s2 ([b]:List Int)).bind fun f=>((gg N a k) e f (i64.wrap (b+1)))))) else ((gg N a k) s1 s2 (i64.wrap (b+1))))) else some (⟨a.Kind,(a.Args.length:Int),s1,s2⟩:ax))
def oe (N:Nat) (a:az):Option (ax):=
  gg N a N ([]:List bP) ([]:List Int) 0
def fJ (N:Nat) (b:bf) (s2:(List aG)) (a:Int) (e:(List ax)→(List aG)→Int→Option (bH)):Nat→(List ax)→(List Int)→(List Int)→Int→Option (bH)
  | 0,_,_,_,_=>none
  | k+1,h,f,g,c=>
    ((idx b.Rules a).bind fun j=>(if decide (c < (j.Pats.length:Int)) then ((idx b.Rules a).bind fun l=>((idx l.Pats c).bind fun i=>((oe N i).bind fun m=>((om N (⟨h,s2⟩:bH) m).bind fun d=>(if i.Not then ((app f ([d.1]:List Int)).bind fun n=>((fJ N b s2 a e k) d.2.Alphas n g (i64.wrap (c+1)))) else ((app g ([d.1]:List Int)).bind fun o=>((fJ N b s2 a e k) d.2.Alphas f o (i64.wrap (c+1))))))))) else ((app s2 ([(⟨g,f⟩:aG)]:List aG)).bind fun p=>(e h p (i64.wrap (a+1))))))
def eO (N:Nat) (a:bf):Nat→(List ax)→(List aG)→Int→Option (bH)
  | 0,_,_,_=>none
  | k+1,s1,s2,b=>
    (if decide (b < (a.Rules.length:Int)) then fJ N a s2 b (eO N a k) N s1 ([]:List Int) ([]:List Int) 0 else some (⟨s1,s2⟩:bH))
def pW (N:Nat) (a:bf):Option (bH):=
  eO N a N ([]:List ax) ([]:List aG) 0
def fK (N:Nat) (a:ae) (b:Int):Nat→(List ak)→Int→Option (Bool × ae)
  | 0,_,_=>none
  | k+1,s1,s2=>
    (if decide (s2 < (a.Items.length:Int)) then ((idx a.Items s2).bind fun c=>(if !decide (c.Id=b) then ((idx a.Items s2).bind fun d=>((app s1 ([d]:List ak)).bind fun e=>((fK N a b k) e (i64.wrap (s2+1))))) else ((fK N a b k) s1 (i64.wrap (s2+1))))) else some (decide ((s1.length:Int) < (a.Items.length:Int)),(⟨s1,a.Next⟩:ae)))
def qt (N:Nat) (a:ae) (b:Int):Option (Bool × ae):=
  fK N a b N ([]:List ak) 0
def kO (N:Nat) (a:aL):Option (aL):=
  ((app ([]:List bP) a.Fields).bind fun b=>some (⟨a.Kind,b⟩:aL))
def mO (N:Nat) (a:ae) (b:aL):Option (Int × ae):=
  ((rV N a b).bind fun c=>(if decide (0 < c) then some (c,a) else ((if decide (40≤(a.Items.length:Int)) then some true else some (decide (1000000≤a.Next))).bind fun d=>(if d then some (0,a) else ((kO N b).bind fun e=>((app a.Items ([(⟨a.Next,e⟩:ak)]:List ak)).bind fun f=>some (i64.wrap ((i64.wrap (a.Next+1)) - 1),(⟨f,i64.wrap (a.Next+1)⟩:ae))))))))
def kj (N:Nat) (b:bH) (c:(List aH)) (a:Int) (d:(List aH)→Int→Option (aJ)):Nat→(List ar)→Int→Option (aJ)
  | 0,_,_=>none
  | k+1,e,f=>
    ((idx b.Chains a).bind fun g=>(if decide (f < (g.Pos.length:Int)) then ((app e ([(⟨[]⟩:ar)]:List ar)).bind fun h=>((kj N b c a d k) h (i64.wrap (f+1)))) else ((app c ([(⟨e⟩:aH)]:List aH)).bind fun i=>(d i (i64.wrap (a+1))))))
def fM (N:Nat) (a:bH) (s1:(List bk)):Nat→(List aH)→Int→Option (aJ)
  | 0,_,_=>none
  | k+1,b,c=>
    (if decide (c < (a.Chains.length:Int)) then kj N a b c (fM N a s1 k) N ([]:List ar) 0 else some (⟨s1,b⟩:aJ))
def jZ (N:Nat) (a:bH):Nat→(List bk)→Int→Option (aJ)
  | 0,_,_=>none
  | k+1,s1,s2=>
    (if decide (s2 < (a.Alphas.length:Int)) then ((app s1 ([(⟨[]⟩:bk)]:List bk)).bind fun b=>((jZ N a k) b (i64.wrap (s2+1)))) else fM N a s1 N ([]:List aH) 0)
def qD (N:Nat) (a:bH):Option (aJ):=
  jZ N a N ([]:List bk) 0
def i7 (N:Nat) (a:ae) (b:Int):Nat→Int→Option (aL × Bool)
  | 0,_=>none
  | k+1,s1=>
    (if decide (s1 < (a.Items.length:Int)) then ((idx a.Items s1).bind fun c=>(if decide (c.Id=b) then ((idx a.Items s1).bind fun d=>((kO N d.F).bind fun e=>some (e,true))) else ((i7 N a b k) (i64.wrap (s1+1))))) else some ((⟨(⟨#[]⟩:Qr),[]⟩:aL),false))
def mb (N:Nat) (a:ae) (b:Int):Option (aL × Bool):=
  i7 N a b N 0
def gZ (N:Nat) (a:(List Int)) (b:Int):Nat→Int→Option (Bool)
  | 0,_=>none
  | k+1,s1=>
    (if decide (s1 < (a.length:Int)) then ((idx a s1).bind fun c=>(if decide (c=b) then some true else ((gZ N a b k) (i64.wrap (s1+1))))) else some false)
def pV (N:Nat) (a:(List Int)) (b:Int):Option (Bool):=
  gZ N a b N 0
def ef (N:Nat) (a:(List an)) (b:Int):Nat→(List an)→Int→Option ((List an))
  | 0,_,_=>none
  | k+1,s1,s2=>
    (if decide (s2 < (a.length:Int)) then ((idx a s2).bind fun c=>((pV N c.Ids b).bind fun d=>(if !d then ((idx a s2).bind fun e=>((app s1 ([e]:List an)).bind fun f=>((ef N a b k) f (i64.wrap (s2+1))))) else ((ef N a b k) s1 (i64.wrap (s2+1)))))) else some s1)
def kH (N:Nat) (a:(List an)) (b:Int):Option ((List an)):=
  ((td a).bind fun _=>ef N a b N ([]:List an) 0)
def j7 (N:Nat) (a:(List aw)) (b:Qr):Nat→Int→Option (bP × Bool)
  | 0,_=>none
  | k+1,s1=>
    (if decide (s1 < (a.length:Int)) then ((idx a s1).bind fun c=>(if seq c.Name b then ((idx a s1).bind fun d=>some (d.V,true)) else ((j7 N a b k) (i64.wrap (s1+1))))) else some ((⟨0,0,(⟨#[]⟩:Qr)⟩:bP),false))
def qi (N:Nat) (a:(List aw)) (b:Qr):Option (bP × Bool):=
  j7 N a b N 0
def gH (N:Nat) (c:az) (b:aL) (d:(List aw)):Nat→(List aw)→Int→Option ((List aw) × Bool)
  | 0,_,_=>none
  | k+1,s1,s2=>
    (if decide (s2 < (c.Args.length:Int)) then ((idx c.Args s2).bind fun a=>((qi N s1 a.S).bind fun e=>((if decide (a.K=2) then ((idx b.Fields s2).bind fun f=>some (!(bS a.V f))) else some false).bind fun g=>((if g then some true else ((if decide (a.K=1) then some e.2 else some false).bind fun h=>((if h then ((idx b.Fields s2).bind fun i=>some (!(bS e.1 i))) else some false).bind fun j=>some j))).bind fun l=>(if l then ((app ([]:List aw) d).bind fun m=>some (m,false)) else ((if decide (a.K=1) then some (!e.2) else some false).bind fun n=>(if n then ((idx b.Fields s2).bind fun o=>((app s1 ([(⟨a.S,o⟩:aw)]:List aw)).bind fun p=>((gH N c b d k) p (i64.wrap (s2+1))))) else ((gH N c b d k) s1 (i64.wrap (s2+1)))))))))) else some (s1,true))
def lz (N:Nat) (a:az) (b:aL) (c:(List aw)):Option ((List aw) × Bool):=
  ((app ([]:List aw) c).bind fun d=>((if !seq a.Kind b.Kind then some true else some (!decide ((a.Args.length:Int)=(b.Fields.length:Int)))).bind fun e=>(if e then some (d,false) else gH N a b c N d 0)))
def m6 (N:Nat) (b:ah) (s1:(List aw)) (s2:Int) (c:(List aw)→Int→Option ((List aw) × Bool)) (d:(List bP)) (e:Bool) (f:Qr):Option ((List aw) × Bool):=
  ((idx b.Pats s2).bind fun g=>((lz N g (⟨f,d⟩:aL) s1).bind fun a=>((if !e then some true else some (!a.2)).bind fun h=>(if h then some (s1,false) else (c a.1 (i64.wrap (s2+1)))))))
def ft (N:Nat) (c:ah) (d:ae) (a:(List Int)):Nat→(List aw)→Int→Option ((List aw) × Bool)
  | 0,_,_=>none
  | k+1,s1,s2=>
    (if decide (s2 < (a.length:Int)) then ((idx a s2).bind fun e=>((mb N d e).bind fun b=>m6 N c s1 s2 (ft N c d a k) b.1.Fields b.2 b.1.Kind)) else some (s1,true))
def jL (N:Nat) (a:ah) (b:ae) (c:(List Int)):Option ((List aw) × Bool):=
  ft N a b c N ([]:List aw) 0
def j0 (N:Nat) (s1:(List Int)) (s2:Int) (a:(List Int)→Int→Option ((List Int))) (b:Int):Option ((List Int)):=
  ((app s1 ([b]:List Int)).bind fun c=>(a c (i64.wrap (s2+1))))
def ej (N:Nat) (a:ah) (b:aL) (c:(List aw)):Nat→(List Int)→Int→Option ((List Int))
  | 0,_,_=>none
  | k+1,s1,s2=>
    (if decide (s2 < (a.Pats.length:Int)) then ((idx a.Pats s2).bind fun d=>(if d.Not then ((idx a.Pats s2).bind fun e=>((lz N e b c).bind fun f=>(if f.2 then j0 N s1 s2 (ej N a b c k) 1 else j0 N s1 s2 (ej N a b c k) 0))) else ((ej N a b c k) s1 (i64.wrap (s2+1))))) else some s1)
def nK (N:Nat) (a:ah) (b:aL) (c:(List aw)):Option ((List Int)):=
  ej N a b c N ([]:List Int) 0
def ey (N:Nat) (e:Int) (s2:Int) (f:(List an)→Int→Option ((List an))) (g:(List aw) × Bool) (c:(List Int)):Nat→(List an)→Int→Option ((List an))
  | 0,_,_=>none
  | k+1,d,a=>
    ((if decide (a < (c.length:Int)) then some g.2 else some false).bind fun h=>(if h then ((idx d s2).bind fun b=>((idx b.Hits a).bind fun i=>((idx c a).bind fun j=>((idx b.Hits a).bind fun l=>((ey N e s2 f g c k) (d.set s2.toNat (⟨b.Ids,(b.Hits.set a.toNat (i64.wrap (i+(i64.wrap (e*j)))))⟩:an)) (i64.wrap (a+1))))))) else (f d (i64.wrap (s2+1)))))
def df (N:Nat) (a:ah) (b:ae) (c:aL) (d:Int):Nat→(List an)→Int→Option ((List an))
  | 0,_,_=>none
  | k+1,s1,s2=>
    (if decide (s2 < (s1.length:Int)) then ((idx s1 s2).bind fun f=>((jL N a b f.Ids).bind fun e=>((nK N a c e.1).bind fun g=>ey N d s2 (df N a b c d k) e g N s1 0))) else some s1)
def mG (N:Nat) (a:ah) (b:ae) (c:(List an)) (d:aL) (e:Int):Option ((List an)):=
  df N a b d e N c 0
def fc (N:Nat) (b:Int) (s1:(List bk)) (s2:Int) (c:(List bk)→Int→Option (aJ)):Nat→(List Int)→Int→Option (aJ)
  | 0,_,_=>none
  | k+1,d,a=>
    ((idx s1 s2).bind fun e=>(if decide (a < (e.L.length:Int)) then ((idx s1 s2).bind fun f=>((idx f.L a).bind fun g=>(if !decide (g=b) then ((idx s1 s2).bind fun h=>((idx h.L a).bind fun i=>((app d ([i]:List Int)).bind fun j=>((fc N b s1 s2 c k) j (i64.wrap (a+1)))))) else ((fc N b s1 s2 c k) d (i64.wrap (a+1)))))) else ((idx s1 s2).bind fun l=>(c (s1.set s2.toNat (⟨d⟩:bk)) (i64.wrap (s2+1))))))
def gr (N:Nat) (d:bf) (e:ae) (f:Int) (g:aL × Bool) (h:(List aH)) (b:Int) (i:(List aH)→Int→Option (aJ)):Nat→(List ar)→Int→Option (aJ)
  | 0,_,_=>none
  | k+1,a,c=>
    (if decide (c < (a.length:Int)) then ((idx a c).bind fun j=>((kH N j.Toks f).bind fun l=>((gr N d e f g h b i k) (a.set c.toNat (⟨l⟩:ar)) (i64.wrap (c+1))))) else ((idx d.Rules b).bind fun m=>((idx a (i64.wrap ((a.length:Int) - 1))).bind fun n=>((mG N m e n.Toks g.1 (-1)).bind fun o=>(i (h.set b.toNat (⟨(a.set (i64.wrap ((a.length:Int) - 1)).toNat (⟨o⟩:ar))⟩:aH)) (i64.wrap (b+1)))))))
def f8 (N:Nat) (a:bf) (d:ae) (e:Int) (f:aL × Bool) (s1:(List bk)):Nat→(List aH)→Int→Option (aJ)
  | 0,_,_=>none
  | k+1,b,c=>
    (if decide (c < (a.Rules.length:Int)) then ((idx b c).bind fun g=>gr N a d e f b c (f8 N a d e f s1 k) N g.Levels 0) else some (⟨s1,b⟩:aJ))
def eR (N:Nat) (b:bf) (c:aJ) (d:ae) (a:Int) (e:aL × Bool):Nat→(List bk)→Int→Option (aJ)
  | 0,_,_=>none
  | k+1,s1,s2=>
    (if decide (s2 < (s1.length:Int)) then fc N a s1 s2 (eR N b c d a e k) N ([]:List Int) 0 else f8 N b d a e s1 N c.Rules 0)
def ol (N:Nat) (d:bf) (a:aJ) (b:ae) (c:Int):Option (aJ):=
  ((mb N b c).bind fun e=>eR N d a b c e N a.Alphas 0)
def tL (N:Nat) (a:Int) (b:Int) (c:Int):Option (Bool):=
  ((if decide (b≤a) then some (decide (a≤c)) else some false).bind fun d=>some d)
def iS (N:Nat) (a:ax) (b:aL):Nat→Int→Option (Bool)
  | 0,_=>none
  | k+1,s1=>
    (if decide (s1 < (a.At.length:Int)) then ((idx a.At s1).bind fun c=>((if decide ((a.Consts.length:Int)≤s1) then some true else ((tL N c 0 (i64.wrap ((b.Fields.length:Int) - 1))).bind fun d=>some (!d))).bind fun e=>((if e then some true else ((idx b.Fields c).bind fun f=>((idx a.Consts s1).bind fun g=>some (!(bS f g))))).bind fun h=>(if h then some false else ((iS N a b k) (i64.wrap (s1+1))))))) else some true)
def qe (N:Nat) (a:ax) (b:aL):Option (Bool):=
  ((if !seq a.Kind b.Kind then some true else some (!decide (a.N=(b.Fields.length:Int)))).bind fun c=>(if c then some false else iS N a b N 0))
def kZ (N:Nat) (a:(List an)) (c:ah) (d:ae) (e:(List Int)) (f:Int):Option ((List an)):=
  ((app ([]:List Int) e).bind fun g=>((app g ([f]:List Int)).bind fun b=>((jL N c d b).bind fun h=>(if !h.2 then some a else ((app a ([(⟨b,([]:List Int)⟩:an)]:List an)).bind fun i=>some i)))))
def fv (N:Nat) (s2:Int) (d:(List Int)→Int→Option (an)) (c:(List Int)):Nat→(List Int)→Int→Option (an)
  | 0,_,_=>none
  | k+1,b,a=>
    (if decide (a < (c.length:Int)) then ((idx b a).bind fun e=>((idx c a).bind fun f=>((idx b a).bind fun g=>((fv N s2 d c k) (b.set a.toNat (i64.wrap (e+f))) (i64.wrap (a+1)))))) else (d b (i64.wrap (s2+1))))
def dU (N:Nat) (b:ah) (a:ae) (c:an) (d:(List aw) × Bool):Nat→(List Int)→Int→Option (an)
  | 0,_,_=>none
  | k+1,s1,s2=>
    (if decide (s2 < (a.Items.length:Int)) then ((idx a.Items s2).bind fun e=>((nK N b e.F d.1).bind fun f=>fv N s2 (dU N b a c d k) f N s1 0)) else some (⟨c.Ids,s1⟩:an))
def mX (N:Nat) (a:ah) (b:ae) (c:an):Option (an):=
  ((jL N a b c.Ids).bind fun d=>((lm N a).bind fun e=>((mk 0 (i64.wrap ((a.Pats.length:Int) - e))).bind fun f=>dU N a b c d N f 0)))
def fZ (N:Nat) (d:ah) (e:ae) (s2:(List an)) (a:bk) (b:Int) (f:(List an)→Int→Option (aJ)):Nat→(List an)→Int→Option (aJ)
  | 0,_,_=>none
  | k+1,g,c=>
    (if decide (c < (a.L.length:Int)) then ((idx s2 b).bind fun h=>((idx a.L c).bind fun i=>((kZ N g d e h.Ids i).bind fun j=>((fZ N d e s2 a b f k) j (i64.wrap (c+1)))))) else (f g (i64.wrap (b+1))))
def cG (N:Nat) (d:ah) (e:ae) (f:aH) (s1:(List ar)) (a:Int) (g:(List ar)→(List an)→Int→Option (aJ)):Nat→(List an)→Int→Option (aJ)
  | 0,_,_=>none
  | k+1,b,c=>
    ((if decide (c < (b.length:Int)) then some (decide (a=i64.wrap ((f.Levels.length:Int) - 1))) else some false).bind fun h=>(if h then ((idx b c).bind fun i=>((mX N d e i).bind fun j=>((cG N d e f s1 a g k) (b.set c.toNat j) (i64.wrap (c+1))))) else ((idx s1 a).bind fun l=>((app l.Toks b).bind fun m=>(g (s1.set a.toNat (⟨m⟩:ar)) b (i64.wrap (a+1)))))))
def eQ (N:Nat) (a:ah) (b:ae) (c:aH) (s1:(List ar)) (s2:(List an)) (d:Int) (e:(List ar)→(List an)→Int→Option (aJ)) (f:bk):Nat→(List an)→Int→Option (aJ)
  | 0,_,_=>none
  | k+1,g,h=>
    (if decide (h < (s2.length:Int)) then fZ N a b s2 f h (eQ N a b c s1 s2 d e f k) N g 0 else cG N a b c s1 d e N g 0)
def ep (N:Nat) (b:ah) (c:aG) (f:aJ) (d:ae) (g:Int) (h:(List Bool)) (i:aH) (s1:(List ar)) (s2:(List an)) (a:Int) (j:(List ar)→(List an)→Int→Option (aJ)) (l:Int):Nat→(List an)→Int→Option (aJ)
  | 0,_,_=>none
  | k+1,m,e=>
    ((if decide (e < l) then ((idx c.Pos a).bind fun n=>((idx h n).bind fun o=>some o)) else some false).bind fun p=>(if p then ((idx s1 (i64.wrap (a - 1))).bind fun q=>((idx q.Toks e).bind fun r=>((kZ N m b d r.Ids g).bind fun s=>((ep N b c f d g h i s1 s2 a j l k) s (i64.wrap (e+1)))))) else ((idx c.Pos a).bind fun t=>((idx f.Alphas t).bind fun u=>eQ N b d i s1 s2 a j u N m 0))))
def jo (N:Nat) (a:ah) (b:aG) (c:aJ) (d:ae) (e:Int) (f:(List Bool)) (g:aH) (s1:(List ar)) (s2:(List an)) (h:Int) (i:(List ar)→(List an)→Int→Option (aJ)) (j:(List an)) (k:Int):Option (aJ):=
  ep N a b c d e f g s1 s2 h i k N j 0
def im (N:Nat) (b:ah) (c:aG) (d:aJ) (e:ae) (f:Int) (g:(List Bool)) (h:aH) (s1:(List ar)) (s2:(List an)) (a:Int) (i:(List ar)→(List an)→Int→Option (aJ)) (j:(List an)):Option (aJ):=
  (if decide (0 < a) then ((idx s1 (i64.wrap (a - 1))).bind fun k=>jo N b c d e f g h s1 s2 a i j (i64.wrap ((k.Toks.length:Int) - (s2.length:Int)))) else jo N b c d e f g h s1 s2 a i j 0)
def bF (N:Nat) (b:ah) (c:aG) (a:aJ) (i:Int) (d:ae) (e:Int) (f:(List Bool)) (g:aH):Nat→(List ar)→(List an)→Int→Option (aJ)
  | 0,_,_,_=>none
  | k+1,s1,s2,h=>
    (if decide (h≤i64.wrap ((g.Levels.length:Int) - 1)) then ((if decide (h=0) then ((idx c.Pos 0).bind fun j=>((idx f j).bind fun l=>some l)) else some false).bind fun m=>(if m then ((kZ N ([]:List an) b d ([]:List Int) e).bind fun n=>im N b c a d e f g s1 s2 h (bF N b c a i d e f g k) n) else im N b c a d e f g s1 s2 h (bF N b c a i d e f g k) ([]:List an))) else some (⟨a.Alphas,(a.Rules.set i.toNat (⟨s1⟩:aH))⟩:aJ))
def ov (N:Nat) (b:ah) (f:aG) (c:aJ) (d:Int) (e:ae) (g:Int) (h:aL) (i:(List Bool)):Option (aJ):=
  ((idx c.Rules d).bind fun a=>((idx a.Levels (i64.wrap ((a.Levels.length:Int) - 1))).bind fun j=>((mG N b e j.Toks h 1).bind fun k=>bF N b f c d e g i a N (a.Levels.set (i64.wrap ((a.Levels.length:Int) - 1)).toNat (⟨k⟩:ar)) ([]:List an) 0)))
def gY (N:Nat) (b:bf) (c:bH) (d:ae) (e:Int) (f:aL × Bool) (s1:(List bk)) (s2:(List Bool)):Nat→(List aH)→Int→Option (aJ)
  | 0,_,_=>none
  | k+1,g,a=>
    (if decide (a < (b.Rules.length:Int)) then ((idx b.Rules a).bind fun h=>((idx c.Chains a).bind fun i=>((ov N h i (⟨s1,g⟩:aJ) a d e f.1 s2).bind fun j=>((gY N b c d e f s1 s2 k) j.Rules (i64.wrap (a+1)))))) else some (⟨s1,g⟩:aJ))
def fV (N:Nat) (e:bf) (b:bH) (f:aJ) (g:ae) (c:Int) (d:aL × Bool):Nat→(List bk)→(List Bool)→Int→Option (aJ)
  | 0,_,_,_=>none
  | k+1,s1,s2,a=>
    (if decide (a < (b.Alphas.length:Int)) then ((idx b.Alphas a).bind fun j=>((qe N j d.1).bind fun h=>((app s2 ([h]:List Bool)).bind fun i=>(if h then ((idx s1 a).bind fun l=>((app l.L ([c]:List Int)).bind fun m=>((fV N e b f g c d k) (s1.set a.toNat (⟨m⟩:bk)) i (i64.wrap (a+1))))) else ((fV N e b f g c d k) s1 i (i64.wrap (a+1))))))) else gY N e b g c d s1 s2 N f.Rules 0)
def pS (N:Nat) (d:bf) (e:bH) (a:aJ) (b:ae) (c:Int):Option (aJ):=
  ((mb N b c).bind fun f=>fV N d e a b c f N a.Alphas ([]:List Bool) 0)
def gn (N:Nat) (b:ab) (c:bf × ab) (f:bH):Nat→(List bk)→(List aH)→(List ak)→Int→Int→Int→Int→Option (bf × bH × aJ × ae × ab)
  | 0,_,_,_,_,_,_,_=>none
  | k+1,s1,s2,a,h,l,m,d=>
    (if decide (0 < h) then ((gG N (⟨b.b,l,m⟩:ab) 4).bind fun g=>((if g.1 then some (decide (0 < (a.length:Int))) else some false).bind fun r=>(if r then ((cR N (⟨b.b,g.2.i,g.2.h⟩:ab) (a.length:Int)).bind fun j=>((idx a j.1).bind fun n=>((ol N c.1 (⟨s1,s2⟩:aJ) (⟨a,d⟩:ae) n.Id).bind fun o=>((qt N (⟨a,d⟩:ae) n.Id).bind fun p=>((gn N b c f k) o.Alphas o.Rules p.2.Items (i64.wrap (h - 1)) j.2.i j.2.h p.2.Next))))) else ((pB N (⟨b.b,g.2.i,g.2.h⟩:ab)).bind fun e=>((rV N (⟨a,d⟩:ae) e.1).bind fun s=>(if decide (s=0) then ((mO N (⟨a,d⟩:ae) e.1).bind fun i=>((pS N c.1 f (⟨s1,s2⟩:aJ) i.2 i.1).bind fun q=>((gn N b c f k) q.Alphas q.Rules i.2.Items (i64.wrap (h - 1)) e.2.i e.2.h i.2.Next))) else ((gn N b c f k) s1 s2 a (i64.wrap (h - 1)) e.2.i e.2.h d))))))) else some (c.1,f,(⟨s1,s2⟩:aJ),(⟨a,d⟩:ae),(⟨b.b,l,m⟩:ab)))
def oK (N:Nat) (b:ab):Option (bf × bH × aJ × ae × ab):=
  ((oy N b).bind fun a=>((pW N a.1).bind fun d=>((qD N d).bind fun e=>((cR N (⟨b.b,a.2.i,a.2.h⟩:ab) 10).bind fun c=>gn N b a d N e.Alphas e.Rules ([]:List ak) c.1 c.2.i c.2.h 1))))
def oh (N:Nat) (b:(List Int)):Option (bf × bH × aJ × ae):=
  ((ru N b).bind fun c=>((oK N c).bind fun a=>some (a.1,a.2.1,a.2.2.1,a.2.2.2.1)))
def fY (N:Nat) (c:(List ar)) (d:Int) (e:(List ar)→Int→Option (aJ)) (a:ar):Nat→(List an)→Int→Option (aJ)
  | 0,_,_=>none
  | k+1,f,b=>
    (if decide (b < (a.Toks.length:Int)) then ((idx a.Toks b).bind fun g=>((bm N g.Ids).bind fun h=>((bm N g.Hits).bind fun i=>((app f ([(⟨h,i⟩:an)]:List an)).bind fun j=>((fY N c d e a k) j (i64.wrap (b+1))))))) else ((app c ([(⟨f⟩:ar)]:List ar)).bind fun l=>(e l (i64.wrap (d+1)))))
def eS (N:Nat) (c:(List aH)) (d:Int) (e:(List aH)→Int→Option (aJ)) (a:aH):Nat→(List ar)→Int→Option (aJ)
  | 0,_,_=>none
  | k+1,f,b=>
    (if decide (b < (a.Levels.length:Int)) then ((idx a.Levels b).bind fun g=>fY N f b (eS N c d e a k) g N ([]:List an) 0) else ((app c ([(⟨f⟩:aH)]:List aH)).bind fun h=>(e h (i64.wrap (d+1)))))
def ek (N:Nat) (a:aJ) (s1:(List bk)):Nat→(List aH)→Int→Option (aJ)
  | 0,_,_=>none
  | k+1,c,b=>
    (if decide (b < (a.Rules.length:Int)) then ((idx a.Rules b).bind fun d=>eS N c b (ek N a s1 k) d N ([]:List ar) 0) else some (⟨s1,c⟩:aJ))
def ir (N:Nat) (a:aJ):Nat→(List bk)→Int→Option (aJ)
  | 0,_,_=>none
  | k+1,s1,s2=>
    (if decide (s2 < (a.Alphas.length:Int)) then ((idx a.Alphas s2).bind fun b=>((bm N b.L).bind fun c=>((app s1 ([(⟨c⟩:bk)]:List bk)).bind fun d=>((ir N a k) d (i64.wrap (s2+1)))))) else ek N a s1 N ([]:List aH) 0)
def mw (N:Nat) (a:aJ):Option (aJ):=
  ir N a N ([]:List bk) 0
def aV (N:Nat) (a:(List ax)) (b:(List ax)) (c:ax→ax→Option (Bool)):Nat→Int→Option (Bool)
  | 0,_=>none
  | k+1,s1=>
    (if decide (s1 < (a.length:Int)) then ((idx a s1).bind fun d=>((idx b s1).bind fun e=>((c d e).bind fun f=>(if !f then some false else ((aV N a b c k) (i64.wrap (s1+1))))))) else some true)
def bl (N:Nat) (a:(List ax)) (b:(List ax)) (c:ax→ax→Option (Bool)):Option (Bool):=
  (if !decide ((a.length:Int)=(b.length:Int)) then some false else aV N a b c N 0)
def aU (N:Nat) (a:(List aG)) (b:(List aG)) (c:aG→aG→Option (Bool)):Nat→Int→Option (Bool)
  | 0,_=>none
  | k+1,s1=>
    (if decide (s1 < (a.length:Int)) then ((idx a s1).bind fun d=>((idx b s1).bind fun e=>((c d e).bind fun f=>(if !f then some false else ((aU N a b c k) (i64.wrap (s1+1))))))) else some true)
def bh (N:Nat) (a:(List aG)) (b:(List aG)) (c:aG→aG→Option (Bool)):Option (Bool):=
  (if !decide ((a.length:Int)=(b.length:Int)) then some false else aU N a b c N 0)
def fQ (N:Nat) (a:aG) (b:aG):Option (Bool):=
  ((cz N a.Pos b.Pos).bind fun c=>((if c then ((cz N a.Neg b.Neg).bind fun d=>some d) else some false).bind fun e=>some e))
def rG (N:Nat) (a:bH) (b:bf):Option (Bool):=
  ((nV N b).bind fun d=>(if !d then some false else ((pm N b).bind fun c=>((bl N a.Alphas c.Alphas (eP N)).bind fun e=>((if e then ((bh N a.Chains c.Chains (fQ N)).bind fun f=>some f) else some false).bind fun g=>some g)))))
def fU (N:Nat) (s2:Int) (c:Int→Option (Bool)) (a:ar) (d:Int):Nat→Int→Option (Bool)
  | 0,_=>none
  | k+1,b=>
    (if decide (b < (a.Toks.length:Int)) then ((idx a.Toks b).bind fun e=>((if !decide ((e.Ids.length:Int)=i64.wrap (s2+1)) then some true else some (!decide ((e.Hits.length:Int)=d))).bind fun f=>(if f then some false else ((fU N s2 c a d k) (i64.wrap (b+1)))))) else (c (i64.wrap (s2+1))))
def iY (N:Nat) (s2:Int) (a:Int→Option (Bool)) (b:ar) (c:Int):Option (Bool):=
  fU N s2 a b c N 0
def cY (N:Nat) (s1:Int) (c:Int→Option (Bool)) (a:aH) (b:aG):Nat→Int→Option (Bool)
  | 0,_=>none
  | k+1,s2=>
    (if decide (s2 < (a.Levels.length:Int)) then ((idx a.Levels s2).bind fun d=>(if decide (s2=i64.wrap ((b.Pos.length:Int) - 1)) then iY N s2 (cY N s1 c a b k) d (b.Neg.length:Int) else iY N s2 (cY N s1 c a b k) d 0)) else (c (i64.wrap (s1+1))))
def cN (N:Nat) (b:bH) (a:aJ):Nat→Int→Option (Bool)
  | 0,_=>none
  | k+1,s1=>
    (if decide (s1 < (a.Rules.length:Int)) then ((idx a.Rules s1).bind fun c=>((idx b.Chains s1).bind fun d=>(if !decide ((c.Levels.length:Int)=(d.Pos.length:Int)) then some false else cY N s1 (cN N b a k) c d N 0))) else some true)
def pO (N:Nat) (a:bH) (b:aJ):Option (Bool):=
  ((if !decide ((b.Alphas.length:Int)=(a.Alphas.length:Int)) then some true else some (!decide ((b.Rules.length:Int)=(a.Chains.length:Int)))).bind fun c=>(if c then some false else cN N a b N 0))
def nH (N:Nat) (c:bf) (a:bH) (d:aJ) (b:ae) (e:Int):Option (Bool):=
  ((rG N a c).bind fun f=>((if !f then some true else ((jC N b).bind fun g=>some (!g))).bind fun h=>((if h then some true else ((pO N a d).bind fun i=>some (!i))).bind fun j=>(if j then some false else ((kI N b e).bind fun k=>some k.2)))))
def kT (N:Nat) (s1:(List bk)) (s2:(List aH)):Option (aJ):=
  some (⟨s1,s2⟩:aJ)
def oD (N:Nat) (b:bf) (c:bH) (d:aJ) (e:ae) (f:Int):Option (aJ):=
  ((mw N d).bind fun a=>((nH N b c d e f).bind fun h=>(if h then ((mK N b c a e f).bind fun g=>kT N g.1 g.2) else kT N a.Alphas a.Rules)))
def l5 (N:Nat) (a:(List Int)) (b:Int):Nat→Int→Option (Bool)
  | 0,_=>none
  | k+1,s1=>
    (if decide (s1 < (a.length:Int)) then ((idx a s1).bind fun c=>(if decide (c=b) then some true else ((l5 N a b k) (i64.wrap (s1+1))))) else some false)
def vI (N:Nat) (a:(List Int)) (b:Int):Option (Bool):=
  l5 N a b N 0
def yQ (N:Nat) (a:(List Int)) (b:Int):Option (Int):=
  (if decide (b < (a.length:Int)) then ((idx a b).bind fun c=>some (i64.wrap c)) else some ((i64.wrap ((i64.wrap (b*31))+(i64.wrap ((a.length:Int)*7)))).tmod 256))
def jW (N:Nat) (a:Int) (b:Int):Option (Bool):=
  some (decide (a=b))
def c8 (N:Nat) (a:(List Int)) (b:Int→Option (Bool)):Nat→Int→Option (Int)
  | 0,_=>none
  | k+1,s1=>
    (if decide (s1 < (a.length:Int)) then ((idx a s1).bind fun c=>((b c).bind fun d=>(if d then some s1 else ((c8 N a b k) (i64.wrap (s1+1)))))) else some (-1))
def gC (N:Nat) (a:(List Int)) (b:Int→Option (Bool)):Option (Int):=
  c8 N a b N 0
def eu (N:Nat) (a:(List Int)) (c:Int→Option (Bool)):Option ((List Int)):=
  ((td a).bind fun _=>((gC N a c).bind fun b=>(if decide (b=(-1)) then some a else ((idx a b).bind fun _=>((zH c (a.drop (b.toNat+1))).bind fun t=>some (a.take b.toNat++t))))))
def bA (N:Nat) (a:(List an)) (b:an→Option (Bool)):Nat→Int→Option (Int)
  | 0,_=>none
  | k+1,s1=>
    (if decide (s1 < (a.length:Int)) then ((idx a s1).bind fun c=>((b c).bind fun d=>(if d then some s1 else ((bA N a b k) (i64.wrap (s1+1)))))) else some (-1))
def eI (N:Nat) (a:(List an)) (b:an→Option (Bool)):Option (Int):=
  bA N a b N 0
def dd (N:Nat) (a:(List an)) (c:an→Option (Bool)):Option ((List an)):=
  ((td a).bind fun _=>((eI N a c).bind fun b=>(if decide (b=(-1)) then some a else ((idx a b).bind fun _=>((zH c (a.drop (b.toNat+1))).bind fun t=>some (a.take b.toNat++t))))))
def cT (N:Nat) (a:(List Int)) (b:Int):Nat→Int→Option (Int)
  | 0,_=>none
  | k+1,s1=>
    (if decide (s1 < (a.length:Int)) then ((idx a s1).bind fun c=>(if decide (b=c) then some s1 else ((cT N a b k) (i64.wrap (s1+1))))) else some (-1))
def jg (N:Nat) (a:(List Int)) (b:Int):Option (Int):=
  cT N a b N 0
def fa (N:Nat) (a:(List Int)) (b:Int):Option (Bool):=
  ((jg N a b).bind fun c=>some (decide (0≤c)))
def iz (N:Nat) (a:an) (b:Int):Option (Bool):=
  ((fa N a.Ids b).bind fun c=>some c)
def fq (N:Nat) (f:bf) (g:bH) (h:ae) (d:Int) (s1:(List bk)) (e:(List aH)) (b:Int) (i:(List aH)→Int→Option ((List bk) × (List aH))) (j:aH):Nat→(List ar)→Int→Option ((List bk) × (List aH))
  | 0,_,_=>none
  | k+1,a,c=>
    (if decide (c < (j.Levels.length:Int)) then ((idx a c).bind fun l=>((dd N l.Toks (fun a0=>iz N a0 d)).bind fun m=>((fq N f g h d s1 e b i j k) (a.set c.toNat (⟨m⟩:ar)) (i64.wrap (c+1))))) else ((idx a (i64.wrap ((a.length:Int) - 1))).bind fun n=>((lh N f g (⟨s1,e⟩:aJ) h d b).bind fun o=>((fB N o n.Toks (-1)).bind fun p=>(i (e.set b.toNat (⟨(a.set (i64.wrap ((a.length:Int) - 1)).toNat (⟨p⟩:ar))⟩:aH)) (i64.wrap (b+1)))))))
def eB (N:Nat) (c:bf) (d:bH) (e:aJ) (f:ae) (g:Int) (s1:(List bk)):Nat→(List aH)→Int→Option ((List bk) × (List aH))
  | 0,_,_=>none
  | k+1,a,b=>
    (if decide (b < (e.Rules.length:Int)) then ((idx a b).bind fun h=>fq N c d f g s1 a b (eB N c d e f g s1 k) h N h.Levels 0) else some (s1,a))
def fw (N:Nat) (c:bf) (d:bH) (a:aJ) (e:ae) (b:Int):Nat→(List bk)→Int→Option ((List bk) × (List aH))
  | 0,_,_=>none
  | k+1,s1,s2=>
    (if decide (s2 < (a.Alphas.length:Int)) then ((idx s1 s2).bind fun f=>((eu N f.L (fun a0=>jW N a0 b)).bind fun g=>((fw N c d a e b k) (s1.set s2.toNat (⟨g⟩:bk)) (i64.wrap (s2+1))))) else eB N c d a e b s1 N a.Rules 0)
def mZ (N:Nat) (b:bf) (c:bH) (a:aJ) (d:ae) (e:Int):Option ((List bk) × (List aH)):=
  fw N b c a d e N a.Alphas 0
def jX (N:Nat) (s1:(List bk)) (s2:(List aH)):Option (aJ):=
  some (⟨s1,s2⟩:aJ)
def n8 (N:Nat) (b:bf) (c:bH) (d:aJ) (e:ae) (f:Int):Option (aJ):=
  ((mw N d).bind fun a=>((nH N b c d e f).bind fun h=>(if h then ((mZ N b c a e f).bind fun g=>jX N g.1 g.2) else jX N a.Alphas a.Rules)))
def fE (N:Nat) (a:ae):Nat→(List ak)→Int→Option (ae)
  | 0,_,_=>none
  | k+1,s1,s2=>
    (if decide (s2 < (a.Items.length:Int)) then ((idx a.Items s2).bind fun b=>((iP N b.F).bind fun c=>((app s1 ([(⟨b.Id,c⟩:ak)]:List ak)).bind fun d=>((fE N a k) d (i64.wrap (s2+1)))))) else some (⟨s1,a.Next⟩:ae))
def lU (N:Nat) (a:ae):Option (ae):=
  fE N a N ([]:List ak) 0
def dQ (N:Nat) (a:ae) (b:Int):Nat→Int→Option (Bool × ae)
  | 0,_=>none
  | k+1,s1=>
    (if decide (s1 < (a.Items.length:Int)) then ((idx a.Items s1).bind fun c=>(if decide (c.Id=b) then ((ssl a.Items 0 s1).bind fun d=>((ssl a.Items (i64.wrap (s1+1)) (a.Items.length:Int)).bind fun e=>((app d e).bind fun f=>some (true,(⟨f,a.Next⟩:ae))))) else ((dQ N a b k) (i64.wrap (s1+1))))) else some (false,a))
def iQ (N:Nat) (a:ae) (b:Int):Option (Bool × ae):=
  dQ N a b N 0
def ji (N:Nat) (s1:(List ak)) (s2:Bool) (a:Int):Option (ae × Bool):=
  some ((⟨s1,a⟩:ae),s2)
def o8 (N:Nat) (c:ae) (d:Int):Option (ae × Bool):=
  ((lU N c).bind fun a=>((jC N c).bind fun e=>(if e then ((iQ N a d).bind fun b=>ji N b.2.Items b.1 b.2.Next) else ji N a.Items false a.Next)))
noncomputable def kz (N:Nat) (s1:Bool):Option (Bool):=
  some s1
noncomputable def kg (N:Nat) (a:Bool):Option (Bool):=
  some a
noncomputable def ko (N:Nat) (a:bf × bH × aJ × ae) (b:(List a7)) (c:Bool):Option (Bool):=
  (if c then ((ki N a.1 a.2.2.1 a.2.2.2).bind fun d=>((mA N b d).bind fun e=>kg N e)) else kg N false)
noncomputable def i8 (N:Nat) (a:bf × bH × aJ × ae) (d:ak) (e:aJ) (b:ae × Bool) (c:(List a7)):Nat→Int→Option (Bool)
  | 0,_=>none
  | k+1,s2=>
    (if decide (s2 < (c.length:Int)) then ((idx c s2).bind fun g=>((vI N g.Ids d.Id).bind fun h=>(if h then some false else ((i8 N a d e b c k) (i64.wrap (s2+1)))))) else ((oD N a.1 a.2.1 e a.2.2.2 d.Id).bind fun i=>((ki N a.1 i a.2.2.2).bind fun f=>((if b.2 then ((lA N a.1 e b.1).bind fun j=>some j) else some false).bind fun l=>(if l then ((kV N a.1 b.1).bind fun m=>((mA N c m).bind fun n=>ko N a f n)) else ko N a f false)))))
noncomputable def qj (N:Nat) (b:(List Int)):Option (Bool):=
  ((y7 N b).bind fun f=>(if f then some true else ((oh N b).bind fun a=>(if decide ((a.2.2.2.Items.length:Int)=0) then ((lA N a.1 a.2.2.1 a.2.2.2).bind fun g=>(if g then ((ki N a.1 a.2.2.1 a.2.2.2).bind fun h=>kz N (decide ((h.length:Int)=0))) else kz N false)) else ((yQ N b 2).bind fun i=>((En i (a.2.2.2.Items.length:Int)).bind fun j=>((idx a.2.2.2.Items j).bind fun c=>((n8 N a.1 a.2.1 a.2.2.1 a.2.2.2 c.Id).bind fun d=>((o8 N a.2.2.2 c.Id).bind fun e=>((ki N a.1 d e.1).bind fun k=>i8 N a c d e k N 0))))))))))
end Go.Proofs.YtedmfnmbjglmbaaGreat
