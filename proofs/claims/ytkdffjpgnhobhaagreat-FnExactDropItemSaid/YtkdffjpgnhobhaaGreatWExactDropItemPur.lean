/- Printed by a program of ours: the plain laws of the sizes, copies, comparisons and marks. -/
import Derived.Test.YtkdffjpgnhobhaaGreatPLib
import Derived.Test.YtkdffjpgnhobhaaGreatWExactDropItemMod
namespace Go.Proofs.YtkdffjpgnhobhaaGreat
open Eng
set_option linter.unusedVariables false
set_option linter.unusedSimpArgs false
set_option maxRecDepth 10000
def wB (x:aE):Prop:=(WfI .i64) x.K∧(WfI .i64) x.N∧WfS x.S
def bZ (x:aE):Int:=((x.S.size:Int))
theorem ef (x:aE):0≤bZ x:=by
  unfold bZ
  omega
def tB (x:aW):Prop:=(WfI .i64) x.K∧WfS x.S∧wB x.V
def cZ (x:aW):Int:=((x.S.size:Int))+(bZ x.V)
theorem co (x:aW):0≤cZ x:=by
  unfold cZ
  have:=ef x.V
  omega
def DS (x:ax):Prop:=WfS x.Kind∧(WfL tB) x.Args∧WfB x.Not
def dW (x:ax):Int:=((x.Kind.size:Int))+((x.Args.length:Int)+(x.Args.map cZ).sum)
theorem nA (x:ax):0≤dW x:=by
  unfold dW
  have:=a9 cZ x.Args (fun y _=>co y)
  omega
def yb (x:bj):Prop:=(WfI .i64) x.Op∧tB x.L∧tB x.R
def eK (x:bj):Int:=(cZ x.L)+(cZ x.R)
theorem lI (x:bj):0≤eK x:=by
  unfold eK
  have:=co x.L
  have:=co x.R
  omega
def y9 (x:bh):Prop:=WfS x.Op∧tB x.L∧tB x.R
def ec (x:bh):Int:=((x.Op.size:Int))+(cZ x.L)+(cZ x.R)
theorem jw (x:bh):0≤ec x:=by
  unfold ec
  have:=co x.L
  have:=co x.R
  omega
def Eb (x:bH):Prop:=(WfI .i64) x.Kind∧WfS x.Name∧(WfL y9) x.Args∧(WfI .i64) x.N∧WfS x.Undo
def dX (x:bH):Int:=((x.Name.size:Int))+((x.Args.length:Int)+(x.Args.map ec).sum)+((x.Undo.size:Int))
theorem nj (x:bH):0≤dX x:=by
  unfold dX
  have:=a9 ec x.Args (fun y _=>jw y)
  omega
def ye (x:af):Prop:=WfS x.Name∧(WfI .i64) x.Sal∧(WfL DS) x.Pats∧(WfL yb) x.Conds∧(WfL Eb) x.Acts
def dE (x:af):Int:=((x.Name.size:Int))+((x.Pats.length:Int)+(x.Pats.map dW).sum)+((x.Conds.length:Int)+(x.Conds.map eK).sum)+((x.Acts.length:Int)+(x.Acts.map dX).sum)
theorem lg (x:af):0≤dE x:=by
  unfold dE
  have:=a9 dW x.Pats (fun y _=>nA y)
  have:=a9 eK x.Conds (fun y _=>lI y)
  have:=a9 dX x.Acts (fun y _=>nj y)
  omega
def DH (x:bl):Prop:=WfS x.Name∧(WfL ye) x.Rules
def jP (x:bl):Int:=((x.Name.size:Int))+((x.Rules.length:Int)+(x.Rules.map dE).sum)
theorem FE (x:bl):0≤jP x:=by
  unfold jP
  have:=a9 dE x.Rules (fun y _=>lg y)
  omega
def vT (x:a8):Prop:=WfS x.Kind∧(WfI .i64) x.N∧(WfL wB) x.Consts∧(WfL (WfI .i64)) x.At
def cv (x:a8):Int:=((x.Kind.size:Int))+((x.Consts.length:Int)+(x.Consts.map bZ).sum)+((x.At.length:Int))
theorem jR (x:a8):0≤cv x:=by
  unfold cv
  have:=a9 bZ x.Consts (fun y _=>ef y)
  omega
def vj (x:ac):Prop:=(WfL (WfI .i64)) x.Pos∧(WfL (WfI .i64)) x.Neg
def cA (x:ac):Int:=((x.Pos.length:Int))+((x.Neg.length:Int))
theorem jZ (x:ac):0≤cA x:=by
  unfold cA
  omega
def Dr (x:bd):Prop:=(WfL vT) x.Alphas∧(WfL vj) x.Chains
def jO (x:bd):Int:=((x.Alphas.length:Int)+(x.Alphas.map cv).sum)+((x.Chains.length:Int)+(x.Chains.map cA).sum)
theorem FP (x:bd):0≤jO x:=by
  unfold jO
  have:=a9 cv x.Alphas (fun y _=>jR y)
  have:=a9 cA x.Chains (fun y _=>jZ y)
  omega
def DL (x:aP):Prop:=(WfL (WfI .i64)) x.L
def f8 (x:aP):Int:=((x.L.length:Int))
theorem nu (x:aP):0≤f8 x:=by
  unfold f8
  omega
def wN (x:ak):Prop:=(WfL (WfI .i64)) x.Ids∧(WfL (WfI .i64)) x.Hits
def eZ (x:ak):Int:=((x.Ids.length:Int))+((x.Hits.length:Int))
theorem nv (x:ak):0≤eZ x:=by
  unfold eZ
  omega
def sF (x:ae):Prop:=(WfL wN) x.Toks
def bT (x:ae):Int:=((x.Toks.length:Int)+(x.Toks.map eZ).sum)
theorem jL (x:ae):0≤bT x:=by
  unfold bT
  have:=a9 eZ x.Toks (fun y _=>nv y)
  omega
def zd (x:aC):Prop:=(WfL sF) x.Levels
def eC (x:aC):Int:=((x.Levels.length:Int)+(x.Levels.map bT).sum)
theorem nh (x:aC):0≤eC x:=by
  unfold eC
  have:=a9 bT x.Levels (fun y _=>jL y)
  omega
def wF (x:aG):Prop:=(WfL DL) x.Alphas∧(WfL zd) x.Rules
def gf (x:aG):Int:=((x.Alphas.length:Int)+(x.Alphas.map f8).sum)+((x.Rules.length:Int)+(x.Rules.map eC).sum)
theorem Ge (x:aG):0≤gf x:=by
  unfold gf
  have:=a9 f8 x.Alphas (fun y _=>nu y)
  have:=a9 eC x.Rules (fun y _=>nh y)
  omega
def CZ (x:aA):Prop:=WfS x.Kind∧(WfL wB) x.Fields
def mv (x:aA):Int:=((x.Kind.size:Int))+((x.Fields.length:Int)+(x.Fields.map bZ).sum)
theorem tw (x:aA):0≤mv x:=by
  unfold mv
  have:=a9 bZ x.Fields (fun y _=>ef y)
  omega
def ya (x:aY):Prop:=(WfI .i64) x.Id∧CZ x.F
def dF (x:aY):Int:=(mv x.F)
theorem lH (x:aY):0≤dF x:=by
  unfold dF
  have:=tw x.F
  omega
def vM (x:ah):Prop:=(WfL ya) x.Items∧(WfI .i64) x.Next
def fT (x:ah):Int:=((x.Items.length:Int)+(x.Items.map dF).sum)
theorem E6 (x:ah):0≤fT x:=by
  unfold fT
  have:=a9 dF x.Items (fun y _=>lH y)
  omega
theorem vL {N:Nat} (hN:1099000000000≤N) (x:aE) (w:wB x) (left:Int) (h0:0≤left) (h1:left≤1048576):∃ v,nc N x left=some v∧Szd v left (bZ x):=by
  obtain ⟨w0,w1,w2⟩:=w
  unfold nc
  unfold bZ
  have hl2:=w2; unfold WfS maxLen at hl2
  have e2:IntKind.i64.wrap (left - (x.S.size:Int))=left - (x.S.size:Int):=wr (by omega) (by omega)
  simp only [e2]
  by_cases c2:(left - (x.S.size:Int)) < 0
  · rw [if_pos (by simpa using c2)]; exact ⟨-1,rfl,.inl (by omega)⟩
  rw [if_neg (by simpa using c2)]
  exact ⟨_,rfl,.inr ⟨by omega,by omega⟩⟩
theorem m8 {N:Nat} (hN:1099000000000≤N) (x:aW) (w:tB x) (left:Int) (h0:0≤left) (h1:left≤1048576):∃ v,iR N x left=some v∧Szd v left (cZ x):=by
  obtain ⟨w0,w1,w2⟩:=w
  unfold iR
  unfold cZ
  have:=ef x.V
  have hl1:=w1; unfold WfS maxLen at hl1
  have e1:IntKind.i64.wrap (left - (x.S.size:Int))=left - (x.S.size:Int):=wr (by omega) (by omega)
  simp only [e1]
  by_cases c1:(left - (x.S.size:Int)) < 0
  · rw [if_pos (by simpa using c1)]; exact ⟨-1,rfl,.inl (by omega)⟩
  rw [if_neg (by simpa using c1)]
  obtain ⟨v2,hv2,hs2⟩:=vL hN x.V w2 (left - (x.S.size:Int)) (by omega) (by omega)
  rw [hv2]; simp only [Option.bind_some]
  by_cases c2:v2 < 0
  · rw [if_pos (by simpa using c2)]; exact ⟨-1,rfl,.inl (by omega)⟩
  rw [if_neg (by simpa using c2)]
  replace hs2:=hs2.resolve_left c2
  exact ⟨_,rfl,.inr ⟨by omega,by omega⟩⟩
theorem BZ {N:Nat} (hN:1099000000000≤N) (x:(List aW)) (w:(WfL tB) x) (left:Int) (h0:0≤left) (h1:left≤1048576):∃ v,qO N x left=some v∧Szd v left ((x.length:Int)+(x.map cZ).sum):=by
  have hl:=w.1; unfold maxLen at hl
  have e1:IntKind.i64.wrap (left - (x.length:Int))=left - (x.length:Int):=wr (by omega) (by omega)
  unfold qO
  simp only [e1]
  by_cases c:left - (x.length:Int) < 0
  · rw [if_pos (by simpa using c)]; exact ⟨-1,rfl,.inl (by omega)⟩
  · rw [if_neg (by simpa using c)]
    obtain ⟨v,hv,hs⟩:=mH (jh N x) x (by omega) cZ (fun y _=>co y) (fun y l=>iR N y l) (fun y hy l g0 g1=>m8 hN y (w.2 y hy) l g0 g1) (fun k l i=>rfl) N 0 (left - (x.length:Int)) (by omega) (by omega) (by omega) (by omega)
    refine ⟨v,hv,?_⟩
    rw [List.drop_zero] at hs
    rcases hs with hs | ⟨hs0,hs⟩
    · exact .inl hs
    · exact .inr ⟨hs0,by omega⟩
theorem CR {N:Nat} (hN:1099000000000≤N) (x:ax) (w:DS x) (left:Int) (h0:0≤left) (h1:left≤1048576):∃ v,pq N x left=some v∧Szd v left (dW x):=by
  obtain ⟨w0,w1,w2⟩:=w
  unfold pq
  unfold dW
  have:=a9 cZ x.Args (fun y _=>co y)
  have hl0:=w0; unfold WfS maxLen at hl0
  have e0:IntKind.i64.wrap (left - (x.Kind.size:Int))=left - (x.Kind.size:Int):=wr (by omega) (by omega)
  simp only [e0]
  by_cases c0:(left - (x.Kind.size:Int)) < 0
  · rw [if_pos (by simpa using c0)]; exact ⟨-1,rfl,.inl (by omega)⟩
  rw [if_neg (by simpa using c0)]
  obtain ⟨v1,hv1,hs1⟩:=BZ hN x.Args w1 (left - (x.Kind.size:Int)) (by omega) (by omega)
  rw [hv1]; simp only [Option.bind_some]
  by_cases c1:v1 < 0
  · rw [if_pos (by simpa using c1)]; exact ⟨-1,rfl,.inl (by omega)⟩
  rw [if_neg (by simpa using c1)]
  replace hs1:=hs1.resolve_left c1
  exact ⟨_,rfl,.inr ⟨by omega,by omega⟩⟩
theorem BN {N:Nat} (hN:1099000000000≤N) (x:(List ax)) (w:(WfL DS) x) (left:Int) (h0:0≤left) (h1:left≤1048576):∃ v,qv N x left=some v∧Szd v left ((x.length:Int)+(x.map dW).sum):=by
  have hl:=w.1; unfold maxLen at hl
  have e1:IntKind.i64.wrap (left - (x.length:Int))=left - (x.length:Int):=wr (by omega) (by omega)
  unfold qv
  simp only [e1]
  by_cases c:left - (x.length:Int) < 0
  · rw [if_pos (by simpa using c)]; exact ⟨-1,rfl,.inl (by omega)⟩
  · rw [if_neg (by simpa using c)]
    obtain ⟨v,hv,hs⟩:=mH (j4 N x) x (by omega) dW (fun y _=>nA y) (fun y l=>pq N y l) (fun y hy l g0 g1=>CR hN y (w.2 y hy) l g0 g1) (fun k l i=>rfl) N 0 (left - (x.length:Int)) (by omega) (by omega) (by omega) (by omega)
    refine ⟨v,hv,?_⟩
    rw [List.drop_zero] at hs
    rcases hs with hs | ⟨hs0,hs⟩
    · exact .inl hs
    · exact .inr ⟨hs0,by omega⟩
theorem AT {N:Nat} (hN:1099000000000≤N) (x:bj) (w:yb x) (left:Int) (h0:0≤left) (h1:left≤1048576):∃ v,mV N x left=some v∧Szd v left (eK x):=by
  obtain ⟨w0,w1,w2⟩:=w
  unfold mV
  unfold eK
  have:=co x.L
  have:=co x.R
  obtain ⟨v1,hv1,hs1⟩:=m8 hN x.L w1 left (by omega) (by omega)
  rw [hv1]; simp only [Option.bind_some]
  by_cases c1:v1 < 0
  · rw [if_pos (by simpa using c1)]; exact ⟨-1,rfl,.inl (by omega)⟩
  rw [if_neg (by simpa using c1)]
  replace hs1:=hs1.resolve_left c1
  obtain ⟨v2,hv2,hs2⟩:=m8 hN x.R w2 v1 (by omega) (by omega)
  rw [hv2]; simp only [Option.bind_some]
  by_cases c2:v2 < 0
  · rw [if_pos (by simpa using c2)]; exact ⟨-1,rfl,.inl (by omega)⟩
  rw [if_neg (by simpa using c2)]
  replace hs2:=hs2.resolve_left c2
  exact ⟨_,rfl,.inr ⟨by omega,by omega⟩⟩
theorem A5 {N:Nat} (hN:1099000000000≤N) (x:(List bj)) (w:(WfL yb) x) (left:Int) (h0:0≤left) (h1:left≤1048576):∃ v,oy N x left=some v∧Szd v left ((x.length:Int)+(x.map eK).sum):=by
  have hl:=w.1; unfold maxLen at hl
  have e1:IntKind.i64.wrap (left - (x.length:Int))=left - (x.length:Int):=wr (by omega) (by omega)
  unfold oy
  simp only [e1]
  by_cases c:left - (x.length:Int) < 0
  · rw [if_pos (by simpa using c)]; exact ⟨-1,rfl,.inl (by omega)⟩
  · rw [if_neg (by simpa using c)]
    obtain ⟨v,hv,hs⟩:=mH (gY N x) x (by omega) eK (fun y _=>lI y) (fun y l=>mV N y l) (fun y hy l g0 g1=>AT hN y (w.2 y hy) l g0 g1) (fun k l i=>rfl) N 0 (left - (x.length:Int)) (by omega) (by omega) (by omega) (by omega)
    refine ⟨v,hv,?_⟩
    rw [List.drop_zero] at hs
    rcases hs with hs | ⟨hs0,hs⟩
    · exact .inl hs
    · exact .inr ⟨hs0,by omega⟩
theorem Bj {N:Nat} (hN:1099000000000≤N) (x:bh) (w:y9 x) (left:Int) (h0:0≤left) (h1:left≤1048576):∃ v,nw N x left=some v∧Szd v left (ec x):=by
  obtain ⟨w0,w1,w2⟩:=w
  unfold nw
  unfold ec
  have:=co x.L
  have:=co x.R
  have hl0:=w0; unfold WfS maxLen at hl0
  have e0:IntKind.i64.wrap (left - (x.Op.size:Int))=left - (x.Op.size:Int):=wr (by omega) (by omega)
  simp only [e0]
  by_cases c0:(left - (x.Op.size:Int)) < 0
  · rw [if_pos (by simpa using c0)]; exact ⟨-1,rfl,.inl (by omega)⟩
  rw [if_neg (by simpa using c0)]
  obtain ⟨v1,hv1,hs1⟩:=m8 hN x.L w1 (left - (x.Op.size:Int)) (by omega) (by omega)
  rw [hv1]; simp only [Option.bind_some]
  by_cases c1:v1 < 0
  · rw [if_pos (by simpa using c1)]; exact ⟨-1,rfl,.inl (by omega)⟩
  rw [if_neg (by simpa using c1)]
  replace hs1:=hs1.resolve_left c1
  obtain ⟨v2,hv2,hs2⟩:=m8 hN x.R w2 v1 (by omega) (by omega)
  rw [hv2]; simp only [Option.bind_some]
  by_cases c2:v2 < 0
  · rw [if_pos (by simpa using c2)]; exact ⟨-1,rfl,.inl (by omega)⟩
  rw [if_neg (by simpa using c2)]
  replace hs2:=hs2.resolve_left c2
  exact ⟨_,rfl,.inr ⟨by omega,by omega⟩⟩
theorem yk {N:Nat} (hN:1099000000000≤N) (x:(List bh)) (w:(WfL y9) x) (left:Int) (h0:0≤left) (h1:left≤1048576):∃ v,oA N x left=some v∧Szd v left ((x.length:Int)+(x.map ec).sum):=by
  have hl:=w.1; unfold maxLen at hl
  have e1:IntKind.i64.wrap (left - (x.length:Int))=left - (x.length:Int):=wr (by omega) (by omega)
  unfold oA
  simp only [e1]
  by_cases c:left - (x.length:Int) < 0
  · rw [if_pos (by simpa using c)]; exact ⟨-1,rfl,.inl (by omega)⟩
  · rw [if_neg (by simpa using c)]
    obtain ⟨v,hv,hs⟩:=mH (i7 N x) x (by omega) ec (fun y _=>jw y) (fun y l=>nw N y l) (fun y hy l g0 g1=>Bj hN y (w.2 y hy) l g0 g1) (fun k l i=>rfl) N 0 (left - (x.length:Int)) (by omega) (by omega) (by omega) (by omega)
    refine ⟨v,hv,?_⟩
    rw [List.drop_zero] at hs
    rcases hs with hs | ⟨hs0,hs⟩
    · exact .inl hs
    · exact .inr ⟨hs0,by omega⟩
theorem Em {N:Nat} (hN:1099000000000≤N) (x:bH) (w:Eb x) (left:Int) (h0:0≤left) (h1:left≤1048576):∃ v,pJ N x left=some v∧Szd v left (dX x):=by
  obtain ⟨w0,w1,w2,w3,w4⟩:=w
  unfold pJ
  unfold dX
  have:=a9 ec x.Args (fun y _=>jw y)
  have hl1:=w1; unfold WfS maxLen at hl1
  have e1:IntKind.i64.wrap (left - (x.Name.size:Int))=left - (x.Name.size:Int):=wr (by omega) (by omega)
  simp only [e1]
  by_cases c1:(left - (x.Name.size:Int)) < 0
  · rw [if_pos (by simpa using c1)]; exact ⟨-1,rfl,.inl (by omega)⟩
  rw [if_neg (by simpa using c1)]
  obtain ⟨v2,hv2,hs2⟩:=yk hN x.Args w2 (left - (x.Name.size:Int)) (by omega) (by omega)
  rw [hv2]; simp only [Option.bind_some]
  by_cases c2:v2 < 0
  · rw [if_pos (by simpa using c2)]; exact ⟨-1,rfl,.inl (by omega)⟩
  rw [if_neg (by simpa using c2)]
  replace hs2:=hs2.resolve_left c2
  have hl4:=w4; unfold WfS maxLen at hl4
  have e4:IntKind.i64.wrap (v2 - (x.Undo.size:Int))=v2 - (x.Undo.size:Int):=wr (by omega) (by omega)
  simp only [e4]
  by_cases c4:(v2 - (x.Undo.size:Int)) < 0
  · rw [if_pos (by simpa using c4)]; exact ⟨-1,rfl,.inl (by omega)⟩
  rw [if_neg (by simpa using c4)]
  exact ⟨_,rfl,.inr ⟨by omega,by omega⟩⟩
theorem BM {N:Nat} (hN:1099000000000≤N) (x:(List bH)) (w:(WfL Eb) x) (left:Int) (h0:0≤left) (h1:left≤1048576):∃ v,rh N x left=some v∧Szd v left ((x.length:Int)+(x.map dX).sum):=by
  have hl:=w.1; unfold maxLen at hl
  have e1:IntKind.i64.wrap (left - (x.length:Int))=left - (x.length:Int):=wr (by omega) (by omega)
  unfold rh
  simp only [e1]
  by_cases c:left - (x.length:Int) < 0
  · rw [if_pos (by simpa using c)]; exact ⟨-1,rfl,.inl (by omega)⟩
  · rw [if_neg (by simpa using c)]
    obtain ⟨v,hv,hs⟩:=mH (iY N x) x (by omega) dX (fun y _=>nj y) (fun y l=>pJ N y l) (fun y hy l g0 g1=>Em hN y (w.2 y hy) l g0 g1) (fun k l i=>rfl) N 0 (left - (x.length:Int)) (by omega) (by omega) (by omega) (by omega)
    refine ⟨v,hv,?_⟩
    rw [List.drop_zero] at hs
    rcases hs with hs | ⟨hs0,hs⟩
    · exact .inl hs
    · exact .inr ⟨hs0,by omega⟩
theorem AA {N:Nat} (hN:1099000000000≤N) (x:af) (w:ye x) (left:Int) (h0:0≤left) (h1:left≤1048576):∃ v,nf N x left=some v∧Szd v left (dE x):=by
  obtain ⟨w0,w1,w2,w3,w4⟩:=w
  unfold nf
  unfold dE
  have:=a9 dW x.Pats (fun y _=>nA y)
  have:=a9 eK x.Conds (fun y _=>lI y)
  have:=a9 dX x.Acts (fun y _=>nj y)
  have hl0:=w0; unfold WfS maxLen at hl0
  have e0:IntKind.i64.wrap (left - (x.Name.size:Int))=left - (x.Name.size:Int):=wr (by omega) (by omega)
  simp only [e0]
  by_cases c0:(left - (x.Name.size:Int)) < 0
  · rw [if_pos (by simpa using c0)]; exact ⟨-1,rfl,.inl (by omega)⟩
  rw [if_neg (by simpa using c0)]
  obtain ⟨v2,hv2,hs2⟩:=BN hN x.Pats w2 (left - (x.Name.size:Int)) (by omega) (by omega)
  rw [hv2]; simp only [Option.bind_some]
  by_cases c2:v2 < 0
  · rw [if_pos (by simpa using c2)]; exact ⟨-1,rfl,.inl (by omega)⟩
  rw [if_neg (by simpa using c2)]
  replace hs2:=hs2.resolve_left c2
  obtain ⟨v3,hv3,hs3⟩:=A5 hN x.Conds w3 v2 (by omega) (by omega)
  rw [hv3]; simp only [Option.bind_some]
  by_cases c3:v3 < 0
  · rw [if_pos (by simpa using c3)]; exact ⟨-1,rfl,.inl (by omega)⟩
  rw [if_neg (by simpa using c3)]
  replace hs3:=hs3.resolve_left c3
  obtain ⟨v4,hv4,hs4⟩:=BM hN x.Acts w4 v3 (by omega) (by omega)
  rw [hv4]; simp only [Option.bind_some]
  by_cases c4:v4 < 0
  · rw [if_pos (by simpa using c4)]; exact ⟨-1,rfl,.inl (by omega)⟩
  rw [if_neg (by simpa using c4)]
  replace hs4:=hs4.resolve_left c4
  exact ⟨_,rfl,.inr ⟨by omega,by omega⟩⟩
theorem Ah {N:Nat} (hN:1099000000000≤N) (x:(List af)) (w:(WfL ye) x) (left:Int) (h0:0≤left) (h1:left≤1048576):∃ v,om N x left=some v∧Szd v left ((x.length:Int)+(x.map dE).sum):=by
  have hl:=w.1; unfold maxLen at hl
  have e1:IntKind.i64.wrap (left - (x.length:Int))=left - (x.length:Int):=wr (by omega) (by omega)
  unfold om
  simp only [e1]
  by_cases c:left - (x.length:Int) < 0
  · rw [if_pos (by simpa using c)]; exact ⟨-1,rfl,.inl (by omega)⟩
  · rw [if_neg (by simpa using c)]
    obtain ⟨v,hv,hs⟩:=mH (ia N x) x (by omega) dE (fun y _=>lg y) (fun y l=>nf N y l) (fun y hy l g0 g1=>AA hN y (w.2 y hy) l g0 g1) (fun k l i=>rfl) N 0 (left - (x.length:Int)) (by omega) (by omega) (by omega) (by omega)
    refine ⟨v,hv,?_⟩
    rw [List.drop_zero] at hs
    rcases hs with hs | ⟨hs0,hs⟩
    · exact .inl hs
    · exact .inr ⟨hs0,by omega⟩
theorem Ee {N:Nat} (hN:1099000000000≤N) (x:bl) (w:DH x) (left:Int) (h0:0≤left) (h1:left≤1048576):∃ v,sD N x left=some v∧Szd v left (jP x):=by
  obtain ⟨w0,w1⟩:=w
  unfold sD
  unfold jP
  have:=a9 dE x.Rules (fun y _=>lg y)
  have hl0:=w0; unfold WfS maxLen at hl0
  have e0:IntKind.i64.wrap (left - (x.Name.size:Int))=left - (x.Name.size:Int):=wr (by omega) (by omega)
  simp only [e0]
  by_cases c0:(left - (x.Name.size:Int)) < 0
  · rw [if_pos (by simpa using c0)]; exact ⟨-1,rfl,.inl (by omega)⟩
  rw [if_neg (by simpa using c0)]
  obtain ⟨v1,hv1,hs1⟩:=Ah hN x.Rules w1 (left - (x.Name.size:Int)) (by omega) (by omega)
  rw [hv1]; simp only [Option.bind_some]
  by_cases c1:v1 < 0
  · rw [if_pos (by simpa using c1)]; exact ⟨-1,rfl,.inl (by omega)⟩
  rw [if_neg (by simpa using c1)]
  replace hs1:=hs1.resolve_left c1
  exact ⟨_,rfl,.inr ⟨by omega,by omega⟩⟩
theorem uE {N:Nat} (hN:1099000000000≤N) (x:(List aE)) (w:(WfL wB) x) (left:Int) (h0:0≤left) (h1:left≤1048576):∃ v,n6 N x left=some v∧Szd v left ((x.length:Int)+(x.map bZ).sum):=by
  have hl:=w.1; unfold maxLen at hl
  have e1:IntKind.i64.wrap (left - (x.length:Int))=left - (x.length:Int):=wr (by omega) (by omega)
  unfold n6
  simp only [e1]
  by_cases c:left - (x.length:Int) < 0
  · rw [if_pos (by simpa using c)]; exact ⟨-1,rfl,.inl (by omega)⟩
  · rw [if_neg (by simpa using c)]
    obtain ⟨v,hv,hs⟩:=mH (jb N x) x (by omega) bZ (fun y _=>ef y) (fun y l=>nc N y l) (fun y hy l g0 g1=>vL hN y (w.2 y hy) l g0 g1) (fun k l i=>rfl) N 0 (left - (x.length:Int)) (by omega) (by omega) (by omega) (by omega)
    refine ⟨v,hv,?_⟩
    rw [List.drop_zero] at hs
    rcases hs with hs | ⟨hs0,hs⟩
    · exact .inl hs
    · exact .inr ⟨hs0,by omega⟩
theorem j7 {N:Nat} (hN:1099000000000≤N) (x:(List Int)) (w:(WfL (WfI .i64)) x) (left:Int) (h0:0≤left) (h1:left≤1048576):∃ v,gK N x left=some v∧Szd v left ((x.length:Int)):=by
  have hl:=w.1; unfold maxLen at hl
  have e1:IntKind.i64.wrap (left - (x.length:Int))=left - (x.length:Int):=wr (by omega) (by omega)
  unfold gK
  simp only [e1]
  by_cases c:left - (x.length:Int) < 0
  · rw [if_pos (by simpa using c)]; exact ⟨-1,rfl,.inl (by omega)⟩
  · rw [if_neg (by simpa using c)]
    exact ⟨_,rfl,.inr ⟨by omega,rfl⟩⟩
theorem zQ {N:Nat} (hN:1099000000000≤N) (x:a8) (w:vT x) (left:Int) (h0:0≤left) (h1:left≤1048576):∃ v,lG N x left=some v∧Szd v left (cv x):=by
  obtain ⟨w0,w1,w2,w3⟩:=w
  unfold lG
  unfold cv
  have:=a9 bZ x.Consts (fun y _=>ef y)
  have hl0:=w0; unfold WfS maxLen at hl0
  have e0:IntKind.i64.wrap (left - (x.Kind.size:Int))=left - (x.Kind.size:Int):=wr (by omega) (by omega)
  simp only [e0]
  by_cases c0:(left - (x.Kind.size:Int)) < 0
  · rw [if_pos (by simpa using c0)]; exact ⟨-1,rfl,.inl (by omega)⟩
  rw [if_neg (by simpa using c0)]
  obtain ⟨v2,hv2,hs2⟩:=uE hN x.Consts w2 (left - (x.Kind.size:Int)) (by omega) (by omega)
  rw [hv2]; simp only [Option.bind_some]
  by_cases c2:v2 < 0
  · rw [if_pos (by simpa using c2)]; exact ⟨-1,rfl,.inl (by omega)⟩
  rw [if_neg (by simpa using c2)]
  replace hs2:=hs2.resolve_left c2
  obtain ⟨v3,hv3,hs3⟩:=j7 hN x.At w3 v2 (by omega) (by omega)
  rw [hv3]; simp only [Option.bind_some]
  by_cases c3:v3 < 0
  · rw [if_pos (by simpa using c3)]; exact ⟨-1,rfl,.inl (by omega)⟩
  rw [if_neg (by simpa using c3)]
  replace hs3:=hs3.resolve_left c3
  exact ⟨_,rfl,.inr ⟨by omega,by omega⟩⟩
theorem xZ {N:Nat} (hN:1099000000000≤N) (x:(List a8)) (w:(WfL vT) x) (left:Int) (h0:0≤left) (h1:left≤1048576):∃ v,mh N x left=some v∧Szd v left ((x.length:Int)+(x.map cv).sum):=by
  have hl:=w.1; unfold maxLen at hl
  have e1:IntKind.i64.wrap (left - (x.length:Int))=left - (x.length:Int):=wr (by omega) (by omega)
  unfold mh
  simp only [e1]
  by_cases c:left - (x.length:Int) < 0
  · rw [if_pos (by simpa using c)]; exact ⟨-1,rfl,.inl (by omega)⟩
  · rw [if_neg (by simpa using c)]
    obtain ⟨v,hv,hs⟩:=mH (gp N x) x (by omega) cv (fun y _=>jR y) (fun y l=>lG N y l) (fun y hy l g0 g1=>zQ hN y (w.2 y hy) l g0 g1) (fun k l i=>rfl) N 0 (left - (x.length:Int)) (by omega) (by omega) (by omega) (by omega)
    refine ⟨v,hv,?_⟩
    rw [List.drop_zero] at hs
    rcases hs with hs | ⟨hs0,hs⟩
    · exact .inl hs
    · exact .inr ⟨hs0,by omega⟩
theorem zZ {N:Nat} (hN:1099000000000≤N) (x:ac) (w:vj x) (left:Int) (h0:0≤left) (h1:left≤1048576):∃ v,lD N x left=some v∧Szd v left (cA x):=by
  obtain ⟨w0,w1⟩:=w
  unfold lD
  unfold cA
  obtain ⟨v0,hv0,hs0⟩:=j7 hN x.Pos w0 left (by omega) (by omega)
  rw [hv0]; simp only [Option.bind_some]
  by_cases c0:v0 < 0
  · rw [if_pos (by simpa using c0)]; exact ⟨-1,rfl,.inl (by omega)⟩
  rw [if_neg (by simpa using c0)]
  replace hs0:=hs0.resolve_left c0
  obtain ⟨v1,hv1,hs1⟩:=j7 hN x.Neg w1 v0 (by omega) (by omega)
  rw [hv1]; simp only [Option.bind_some]
  by_cases c1:v1 < 0
  · rw [if_pos (by simpa using c1)]; exact ⟨-1,rfl,.inl (by omega)⟩
  rw [if_neg (by simpa using c1)]
  replace hs1:=hs1.resolve_left c1
  exact ⟨_,rfl,.inr ⟨by omega,by omega⟩⟩
theorem xf {N:Nat} (hN:1099000000000≤N) (x:(List ac)) (w:(WfL vj) x) (left:Int) (h0:0≤left) (h1:left≤1048576):∃ v,mw N x left=some v∧Szd v left ((x.length:Int)+(x.map cA).sum):=by
  have hl:=w.1; unfold maxLen at hl
  have e1:IntKind.i64.wrap (left - (x.length:Int))=left - (x.length:Int):=wr (by omega) (by omega)
  unfold mw
  simp only [e1]
  by_cases c:left - (x.length:Int) < 0
  · rw [if_pos (by simpa using c)]; exact ⟨-1,rfl,.inl (by omega)⟩
  · rw [if_neg (by simpa using c)]
    obtain ⟨v,hv,hs⟩:=mH (gv N x) x (by omega) cA (fun y _=>jZ y) (fun y l=>lD N y l) (fun y hy l g0 g1=>zZ hN y (w.2 y hy) l g0 g1) (fun k l i=>rfl) N 0 (left - (x.length:Int)) (by omega) (by omega) (by omega) (by omega)
    refine ⟨v,hv,?_⟩
    rw [List.drop_zero] at hs
    rcases hs with hs | ⟨hs0,hs⟩
    · exact .inl hs
    · exact .inr ⟨hs0,by omega⟩
theorem Df {N:Nat} (hN:1099000000000≤N) (x:bd) (w:Dr x) (left:Int) (h0:0≤left) (h1:left≤1048576):∃ v,rT N x left=some v∧Szd v left (jO x):=by
  obtain ⟨w0,w1⟩:=w
  unfold rT
  unfold jO
  have:=a9 cv x.Alphas (fun y _=>jR y)
  have:=a9 cA x.Chains (fun y _=>jZ y)
  obtain ⟨v0,hv0,hs0⟩:=xZ hN x.Alphas w0 left (by omega) (by omega)
  rw [hv0]; simp only [Option.bind_some]
  by_cases c0:v0 < 0
  · rw [if_pos (by simpa using c0)]; exact ⟨-1,rfl,.inl (by omega)⟩
  rw [if_neg (by simpa using c0)]
  replace hs0:=hs0.resolve_left c0
  obtain ⟨v1,hv1,hs1⟩:=xf hN x.Chains w1 v0 (by omega) (by omega)
  rw [hv1]; simp only [Option.bind_some]
  by_cases c1:v1 < 0
  · rw [if_pos (by simpa using c1)]; exact ⟨-1,rfl,.inl (by omega)⟩
  rw [if_neg (by simpa using c1)]
  replace hs1:=hs1.resolve_left c1
  exact ⟨_,rfl,.inr ⟨by omega,by omega⟩⟩
theorem CO {N:Nat} (hN:1099000000000≤N) (x:aP) (w:DL x) (left:Int) (h0:0≤left) (h1:left≤1048576):∃ v,pD N x left=some v∧Szd v left (f8 x):=by
  have w0:(WfL (WfI .i64)) x.L:=w
  unfold pD
  unfold f8
  obtain ⟨v0,hv0,hs0⟩:=j7 hN x.L w0 left (by omega) (by omega)
  rw [hv0]; simp only [Option.bind_some]
  by_cases c0:v0 < 0
  · rw [if_pos (by simpa using c0)]; exact ⟨-1,rfl,.inl (by omega)⟩
  rw [if_neg (by simpa using c0)]
  replace hs0:=hs0.resolve_left c0
  exact ⟨_,rfl,.inr ⟨by omega,by omega⟩⟩
theorem BH {N:Nat} (hN:1099000000000≤N) (x:(List aP)) (w:(WfL DL) x) (left:Int) (h0:0≤left) (h1:left≤1048576):∃ v,ra N x left=some v∧Szd v left ((x.length:Int)+(x.map f8).sum):=by
  have hl:=w.1; unfold maxLen at hl
  have e1:IntKind.i64.wrap (left - (x.length:Int))=left - (x.length:Int):=wr (by omega) (by omega)
  unfold ra
  simp only [e1]
  by_cases c:left - (x.length:Int) < 0
  · rw [if_pos (by simpa using c)]; exact ⟨-1,rfl,.inl (by omega)⟩
  · rw [if_neg (by simpa using c)]
    obtain ⟨v,hv,hs⟩:=mH (j0 N x) x (by omega) f8 (fun y _=>nu y) (fun y l=>pD N y l) (fun y hy l g0 g1=>CO hN y (w.2 y hy) l g0 g1) (fun k l i=>rfl) N 0 (left - (x.length:Int)) (by omega) (by omega) (by omega) (by omega)
    refine ⟨v,hv,?_⟩
    rw [List.drop_zero] at hs
    rcases hs with hs | ⟨hs0,hs⟩
    · exact .inl hs
    · exact .inr ⟨hs0,by omega⟩
theorem Ek {N:Nat} (hN:1099000000000≤N) (x:ak) (w:wN x) (left:Int) (h0:0≤left) (h1:left≤1048576):∃ v,pr N x left=some v∧Szd v left (eZ x):=by
  obtain ⟨w0,w1⟩:=w
  unfold pr
  unfold eZ
  obtain ⟨v0,hv0,hs0⟩:=j7 hN x.Ids w0 left (by omega) (by omega)
  rw [hv0]; simp only [Option.bind_some]
  by_cases c0:v0 < 0
  · rw [if_pos (by simpa using c0)]; exact ⟨-1,rfl,.inl (by omega)⟩
  rw [if_neg (by simpa using c0)]
  replace hs0:=hs0.resolve_left c0
  obtain ⟨v1,hv1,hs1⟩:=j7 hN x.Hits w1 v0 (by omega) (by omega)
  rw [hv1]; simp only [Option.bind_some]
  by_cases c1:v1 < 0
  · rw [if_pos (by simpa using c1)]; exact ⟨-1,rfl,.inl (by omega)⟩
  rw [if_neg (by simpa using c1)]
  replace hs1:=hs1.resolve_left c1
  exact ⟨_,rfl,.inr ⟨by omega,by omega⟩⟩
theorem B4 {N:Nat} (hN:1099000000000≤N) (x:(List ak)) (w:(WfL wN) x) (left:Int) (h0:0≤left) (h1:left≤1048576):∃ v,qt N x left=some v∧Szd v left ((x.length:Int)+(x.map eZ).sum):=by
  have hl:=w.1; unfold maxLen at hl
  have e1:IntKind.i64.wrap (left - (x.length:Int))=left - (x.length:Int):=wr (by omega) (by omega)
  unfold qt
  simp only [e1]
  by_cases c:left - (x.length:Int) < 0
  · rw [if_pos (by simpa using c)]; exact ⟨-1,rfl,.inl (by omega)⟩
  · rw [if_neg (by simpa using c)]
    obtain ⟨v,hv,hs⟩:=mH (iO N x) x (by omega) eZ (fun y _=>nv y) (fun y l=>pr N y l) (fun y hy l g0 g1=>Ek hN y (w.2 y hy) l g0 g1) (fun k l i=>rfl) N 0 (left - (x.length:Int)) (by omega) (by omega) (by omega) (by omega)
    refine ⟨v,hv,?_⟩
    rw [List.drop_zero] at hs
    rcases hs with hs | ⟨hs0,hs⟩
    · exact .inl hs
    · exact .inr ⟨hs0,by omega⟩
theorem zu {N:Nat} (hN:1099000000000≤N) (x:ae) (w:sF x) (left:Int) (h0:0≤left) (h1:left≤1048576):∃ v,l7 N x left=some v∧Szd v left (bT x):=by
  have w0:(WfL wN) x.Toks:=w
  unfold l7
  unfold bT
  have:=a9 eZ x.Toks (fun y _=>nv y)
  obtain ⟨v0,hv0,hs0⟩:=B4 hN x.Toks w0 left (by omega) (by omega)
  rw [hv0]; simp only [Option.bind_some]
  by_cases c0:v0 < 0
  · rw [if_pos (by simpa using c0)]; exact ⟨-1,rfl,.inl (by omega)⟩
  rw [if_neg (by simpa using c0)]
  replace hs0:=hs0.resolve_left c0
  exact ⟨_,rfl,.inr ⟨by omega,by omega⟩⟩
theorem xY {N:Nat} (hN:1099000000000≤N) (x:(List ae)) (w:(WfL sF) x) (left:Int) (h0:0≤left) (h1:left≤1048576):∃ v,ml N x left=some v∧Szd v left ((x.length:Int)+(x.map bT).sum):=by
  have hl:=w.1; unfold maxLen at hl
  have e1:IntKind.i64.wrap (left - (x.length:Int))=left - (x.length:Int):=wr (by omega) (by omega)
  unfold ml
  simp only [e1]
  by_cases c:left - (x.length:Int) < 0
  · rw [if_pos (by simpa using c)]; exact ⟨-1,rfl,.inl (by omega)⟩
  · rw [if_neg (by simpa using c)]
    obtain ⟨v,hv,hs⟩:=mH (gn N x) x (by omega) bT (fun y _=>jL y) (fun y l=>l7 N y l) (fun y hy l g0 g1=>zu hN y (w.2 y hy) l g0 g1) (fun k l i=>rfl) N 0 (left - (x.length:Int)) (by omega) (by omega) (by omega) (by omega)
    refine ⟨v,hv,?_⟩
    rw [List.drop_zero] at hs
    rcases hs with hs | ⟨hs0,hs⟩
    · exact .inl hs
    · exact .inr ⟨hs0,by omega⟩
theorem CT {N:Nat} (hN:1099000000000≤N) (x:aC) (w:zd x) (left:Int) (h0:0≤left) (h1:left≤1048576):∃ v,pL N x left=some v∧Szd v left (eC x):=by
  have w0:(WfL sF) x.Levels:=w
  unfold pL
  unfold eC
  have:=a9 bT x.Levels (fun y _=>jL y)
  obtain ⟨v0,hv0,hs0⟩:=xY hN x.Levels w0 left (by omega) (by omega)
  rw [hv0]; simp only [Option.bind_some]
  by_cases c0:v0 < 0
  · rw [if_pos (by simpa using c0)]; exact ⟨-1,rfl,.inl (by omega)⟩
  rw [if_neg (by simpa using c0)]
  replace hs0:=hs0.resolve_left c0
  exact ⟨_,rfl,.inr ⟨by omega,by omega⟩⟩
theorem BA {N:Nat} (hN:1099000000000≤N) (x:(List aC)) (w:(WfL zd) x) (left:Int) (h0:0≤left) (h1:left≤1048576):∃ v,qh N x left=some v∧Szd v left ((x.length:Int)+(x.map eC).sum):=by
  have hl:=w.1; unfold maxLen at hl
  have e1:IntKind.i64.wrap (left - (x.length:Int))=left - (x.length:Int):=wr (by omega) (by omega)
  unfold qh
  simp only [e1]
  by_cases c:left - (x.length:Int) < 0
  · rw [if_pos (by simpa using c)]; exact ⟨-1,rfl,.inl (by omega)⟩
  · rw [if_neg (by simpa using c)]
    obtain ⟨v,hv,hs⟩:=mH (jd N x) x (by omega) eC (fun y _=>nh y) (fun y l=>pL N y l) (fun y hy l g0 g1=>CT hN y (w.2 y hy) l g0 g1) (fun k l i=>rfl) N 0 (left - (x.length:Int)) (by omega) (by omega) (by omega) (by omega)
    refine ⟨v,hv,?_⟩
    rw [List.drop_zero] at hs
    rcases hs with hs | ⟨hs0,hs⟩
    · exact .inl hs
    · exact .inr ⟨hs0,by omega⟩
theorem Ec {N:Nat} (hN:1099000000000≤N) (x:aG) (w:wF x) (left:Int) (h0:0≤left) (h1:left≤1048576):∃ v,sw N x left=some v∧Szd v left (gf x):=by
  obtain ⟨w0,w1⟩:=w
  unfold sw
  unfold gf
  have:=a9 f8 x.Alphas (fun y _=>nu y)
  have:=a9 eC x.Rules (fun y _=>nh y)
  obtain ⟨v0,hv0,hs0⟩:=BH hN x.Alphas w0 left (by omega) (by omega)
  rw [hv0]; simp only [Option.bind_some]
  by_cases c0:v0 < 0
  · rw [if_pos (by simpa using c0)]; exact ⟨-1,rfl,.inl (by omega)⟩
  rw [if_neg (by simpa using c0)]
  replace hs0:=hs0.resolve_left c0
  obtain ⟨v1,hv1,hs1⟩:=BA hN x.Rules w1 v0 (by omega) (by omega)
  rw [hv1]; simp only [Option.bind_some]
  by_cases c1:v1 < 0
  · rw [if_pos (by simpa using c1)]; exact ⟨-1,rfl,.inl (by omega)⟩
  rw [if_neg (by simpa using c1)]
  replace hs1:=hs1.resolve_left c1
  exact ⟨_,rfl,.inr ⟨by omega,by omega⟩⟩
theorem Bc {N:Nat} (hN:1099000000000≤N) (x:aA) (w:CZ x) (left:Int) (h0:0≤left) (h1:left≤1048576):∃ v,q9 N x left=some v∧Szd v left (mv x):=by
  obtain ⟨w0,w1⟩:=w
  unfold q9
  unfold mv
  have:=a9 bZ x.Fields (fun y _=>ef y)
  have hl0:=w0; unfold WfS maxLen at hl0
  have e0:IntKind.i64.wrap (left - (x.Kind.size:Int))=left - (x.Kind.size:Int):=wr (by omega) (by omega)
  simp only [e0]
  by_cases c0:(left - (x.Kind.size:Int)) < 0
  · rw [if_pos (by simpa using c0)]; exact ⟨-1,rfl,.inl (by omega)⟩
  rw [if_neg (by simpa using c0)]
  obtain ⟨v1,hv1,hs1⟩:=uE hN x.Fields w1 (left - (x.Kind.size:Int)) (by omega) (by omega)
  rw [hv1]; simp only [Option.bind_some]
  by_cases c1:v1 < 0
  · rw [if_pos (by simpa using c1)]; exact ⟨-1,rfl,.inl (by omega)⟩
  rw [if_neg (by simpa using c1)]
  replace hs1:=hs1.resolve_left c1
  exact ⟨_,rfl,.inr ⟨by omega,by omega⟩⟩
theorem AI {N:Nat} (hN:1099000000000≤N) (x:aY) (w:ya x) (left:Int) (h0:0≤left) (h1:left≤1048576):∃ v,n9 N x left=some v∧Szd v left (dF x):=by
  obtain ⟨w0,w1⟩:=w
  unfold n9
  unfold dF
  have:=tw x.F
  obtain ⟨v1,hv1,hs1⟩:=Bc hN x.F w1 left (by omega) (by omega)
  rw [hv1]; simp only [Option.bind_some]
  by_cases c1:v1 < 0
  · rw [if_pos (by simpa using c1)]; exact ⟨-1,rfl,.inl (by omega)⟩
  rw [if_neg (by simpa using c1)]
  replace hs1:=hs1.resolve_left c1
  exact ⟨_,rfl,.inr ⟨by omega,by omega⟩⟩
theorem A1 {N:Nat} (hN:1099000000000≤N) (x:(List aY)) (w:(WfL ya) x) (left:Int) (h0:0≤left) (h1:left≤1048576):∃ v,o5 N x left=some v∧Szd v left ((x.length:Int)+(x.map dF).sum):=by
  have hl:=w.1; unfold maxLen at hl
  have e1:IntKind.i64.wrap (left - (x.length:Int))=left - (x.length:Int):=wr (by omega) (by omega)
  unfold o5
  simp only [e1]
  by_cases c:left - (x.length:Int) < 0
  · rw [if_pos (by simpa using c)]; exact ⟨-1,rfl,.inl (by omega)⟩
  · rw [if_neg (by simpa using c)]
    obtain ⟨v,hv,hs⟩:=mH (gW N x) x (by omega) dF (fun y _=>lH y) (fun y l=>n9 N y l) (fun y hy l g0 g1=>AI hN y (w.2 y hy) l g0 g1) (fun k l i=>rfl) N 0 (left - (x.length:Int)) (by omega) (by omega) (by omega) (by omega)
    refine ⟨v,hv,?_⟩
    rw [List.drop_zero] at hs
    rcases hs with hs | ⟨hs0,hs⟩
    · exact .inl hs
    · exact .inr ⟨hs0,by omega⟩
theorem yp {N:Nat} (hN:1099000000000≤N) (x:ah) (w:vM x) (left:Int) (h0:0≤left) (h1:left≤1048576):∃ v,ow N x left=some v∧Szd v left (fT x):=by
  obtain ⟨w0,w1⟩:=w
  unfold ow
  unfold fT
  have:=a9 dF x.Items (fun y _=>lH y)
  obtain ⟨v0,hv0,hs0⟩:=A1 hN x.Items w0 left (by omega) (by omega)
  rw [hv0]; simp only [Option.bind_some]
  by_cases c0:v0 < 0
  · rw [if_pos (by simpa using c0)]; exact ⟨-1,rfl,.inl (by omega)⟩
  rw [if_neg (by simpa using c0)]
  replace hs0:=hs0.resolve_left c0
  exact ⟨_,rfl,.inr ⟨by omega,by omega⟩⟩
def nQ (x:ax):Prop:=(x.Args.length≤4294967296)
theorem FL (x:ax) (h:dW x≤1048576):nQ x:=by
  unfold dW at h
  have nn_Args:∀ y∈x.Args,0≤cZ y:=fun y _=>co y
  have:=a9 _ _ nn_Args
  unfold nQ; omega
def nP (x:bH):Prop:=(x.Args.length≤4294967296)
theorem Gf (x:bH) (h:dX x≤1048576):nP x:=by
  unfold dX at h
  have nn_Args:∀ y∈x.Args,0≤ec y:=fun y _=>jw y
  have:=a9 _ _ nn_Args
  unfold nP; omega
def lS (x:af):Prop:=(x.Pats.length≤4294967296∧∀ y∈x.Pats,nQ y)∧(x.Conds.length≤4294967296)∧(x.Acts.length≤4294967296∧∀ y∈x.Acts,nP y)
theorem Fh (x:af) (h:dE x≤1048576):lS x:=by
  unfold dE at h
  have nn_Pats:∀ y∈x.Pats,0≤dW y:=fun y _=>nA y
  have:=a9 _ _ nn_Pats
  have nn_Conds:∀ y∈x.Conds,0≤eK y:=fun y _=>lI y
  have:=a9 _ _ nn_Conds
  have nn_Acts:∀ y∈x.Acts,0≤dX y:=fun y _=>nj y
  have:=a9 _ _ nn_Acts
  exact ⟨⟨by omega,fun y hy=>FL y (by have:=db _ _ nn_Pats y hy; omega)⟩,by omega,⟨by omega,fun y hy=>Gf y (by have:=db _ _ nn_Acts y hy; omega)⟩⟩
def vZ (x:bl):Prop:=(x.Rules.length≤4294967296∧∀ y∈x.Rules,lS y)
theorem FU (x:bl) (h:jP x≤1048576):vZ x:=by
  unfold jP at h
  have nn_Rules:∀ y∈x.Rules,0≤dE y:=fun y _=>lg y
  have:=a9 _ _ nn_Rules
  exact ⟨by omega,fun y hy=>Fh y (by have:=db _ _ nn_Rules y hy; omega)⟩
theorem vV {N:Nat} (hN:1099000000000≤N) (x:aE):mZ N x=some x:=by
  unfold mZ
  rfl
theorem mD {N:Nat} (hN:1099000000000≤N) (x:aW):j9 N x=some x:=by
  unfold j9
  rw [vV hN _,Option.bind_some]
theorem BT {N:Nat} (hN:1099000000000≤N) (x:(List aW)) (h:(x.length≤4294967296)):rk N x=some x:=by
  have hl:x.length≤4294967296:=h
  unfold rk
  rw [kM _ (by omega),Option.bind_some]
  refine (kQ (kC N x) x (by omega) (fun y=>j9 N y) (fun y hy=>mD hN y) (fun k s i=>rfl) N 0 _ (by simp) (by omega) (by omega)).trans ?_
  simp
theorem DQ {N:Nat} (hN:1099000000000≤N) (x:ax) (h:nQ x):pj N x=some x:=by
  unfold pj
  rw [BT hN _ (h),Option.bind_some]
theorem AM {N:Nat} (hN:1099000000000≤N) (x:(List ax)) (h:(x.length≤4294967296∧∀ y∈x,nQ y)):qD N x=some x:=by
  have hl:x.length≤4294967296:=h.1
  unfold qD
  rw [kM _ (by omega),Option.bind_some]
  refine (kQ (kv N x) x (by omega) (fun y=>pj N y) (fun y hy=>DQ hN y (h.2 y hy)) (fun k s i=>rfl) N 0 _ (by simp) (by omega) (by omega)).trans ?_
  simp
theorem BY {N:Nat} (hN:1099000000000≤N) (x:bj):n7 N x=some x:=by
  unfold n7
  rw [mD hN _,Option.bind_some,mD hN _,Option.bind_some]
theorem zw {N:Nat} (hN:1099000000000≤N) (x:(List bj)) (h:(x.length≤4294967296)):nV N x=some x:=by
  have hl:x.length≤4294967296:=h
  unfold nV
  rw [kM _ (by omega),Option.bind_some]
  refine (kQ (jr N x) x (by omega) (fun y=>n7 N y) (fun y hy=>BY hN y) (fun k s i=>rfl) N 0 _ (by simp) (by omega) (by omega)).trans ?_
  simp
theorem Bk {N:Nat} (hN:1099000000000≤N) (x:bh):ni N x=some x:=by
  unfold ni
  rw [mD hN _,Option.bind_some,mD hN _,Option.bind_some]
theorem A6 {N:Nat} (hN:1099000000000≤N) (x:(List bh)) (h:(x.length≤4294967296)):o2 N x=some x:=by
  have hl:x.length≤4294967296:=h
  unfold o2
  rw [kM _ (by omega),Option.bind_some]
  refine (kQ (jE N x) x (by omega) (fun y=>ni N y) (fun y hy=>Bk hN y) (fun k s i=>rfl) N 0 _ (by simp) (by omega) (by omega)).trans ?_
  simp
theorem DA {N:Nat} (hN:1099000000000≤N) (x:bH) (h:nP x):pn N x=some x:=by
  unfold pn
  rw [A6 hN _ (h),Option.bind_some]
theorem B1 {N:Nat} (hN:1099000000000≤N) (x:(List bH)) (h:(x.length≤4294967296∧∀ y∈x,nP y)):pZ N x=some x:=by
  have hl:x.length≤4294967296:=h.1
  unfold pZ
  rw [kM _ (by omega),Option.bind_some]
  refine (kQ (kz N x) x (by omega) (fun y=>pn N y) (fun y hy=>DA hN y (h.2 y hy)) (fun k s i=>rfl) N 0 _ (by simp) (by omega) (by omega)).trans ?_
  simp
theorem Bz {N:Nat} (hN:1099000000000≤N) (x:af) (h:lS x):nE N x=some x:=by
  unfold nE
  rw [AM hN _ (h.1),Option.bind_some,zw hN _ (h.2.1),Option.bind_some,B1 hN _ (h.2.2),Option.bind_some]
theorem yB {N:Nat} (hN:1099000000000≤N) (x:(List af)) (h:(x.length≤4294967296∧∀ y∈x,lS y)):o6 N x=some x:=by
  have hl:x.length≤4294967296:=h.1
  unfold o6
  rw [kM _ (by omega),Option.bind_some]
  refine (kQ (jG N x) x (by omega) (fun y=>nE N y) (fun y hy=>Bz hN y (h.2 y hy)) (fun k s i=>rfl) N 0 _ (by simp) (by omega) (by omega)).trans ?_
  simp
theorem DC {N:Nat} (hN:1099000000000≤N) (x:bl) (h:vZ x):lJ N x=some x:=by
  unfold lJ
  rw [yB hN _ (h),Option.bind_some]
def jQ (x:a8):Prop:=(x.Consts.length≤4294967296)∧(x.At.length≤4294967296)
theorem CD (x:a8) (h:cv x≤1048576):jQ x:=by
  unfold cv at h
  have nn_Consts:∀ y∈x.Consts,0≤bZ y:=fun y _=>ef y
  have:=a9 _ _ nn_Consts
  exact ⟨by omega,by omega⟩
def jY (x:ac):Prop:=(x.Pos.length≤4294967296)∧(x.Neg.length≤4294967296)
theorem Dz (x:ac) (h:cA x≤1048576):jY x:=by
  unfold cA at h
  exact ⟨by omega,by omega⟩
def vp (x:bd):Prop:=(x.Alphas.length≤4294967296∧∀ y∈x.Alphas,jQ y)∧(x.Chains.length≤4294967296∧∀ y∈x.Chains,jY y)
theorem Gb (x:bd) (h:jO x≤1048576):vp x:=by
  unfold jO at h
  have nn_Alphas:∀ y∈x.Alphas,0≤cv y:=fun y _=>jR y
  have:=a9 _ _ nn_Alphas
  have nn_Chains:∀ y∈x.Chains,0≤cA y:=fun y _=>jZ y
  have:=a9 _ _ nn_Chains
  exact ⟨⟨by omega,fun y hy=>CD y (by have:=db _ _ nn_Alphas y hy; omega)⟩,⟨by omega,fun y hy=>Dz y (by have:=db _ _ nn_Chains y hy; omega)⟩⟩
theorem uC {N:Nat} (hN:1099000000000≤N) (x:(List aE)) (h:(x.length≤4294967296)):ng N x=some x:=by
  have hl:x.length≤4294967296:=h
  unfold ng
  rw [kM _ (by omega),Option.bind_some]
  refine (kQ (kD N x) x (by omega) (fun y=>mZ N y) (fun y hy=>vV hN y) (fun k s i=>rfl) N 0 _ (by simp) (by omega) (by omega)).trans ?_
  simp
theorem iT {N:Nat} (hN:1099000000000≤N) (x:(List Int)) (h:(x.length≤4294967296)):gO N x=some x:=by
  have hl:x.length≤4294967296:=h
  unfold gO
  rw [kM _ (by omega),Option.bind_some]
  refine (kQ (kt N x) x (by omega) (fun y=>some y) (fun y _=>rfl) (fun k s i=>rfl) N 0 _ (by simp) (by omega) (by omega)).trans ?_
  simp
theorem zh {N:Nat} (hN:1099000000000≤N) (x:a8) (h:jQ x):lw N x=some x:=by
  unfold lw
  rw [uC hN _ (h.1),Option.bind_some,iT hN _ (h.2),Option.bind_some]
theorem y5 {N:Nat} (hN:1099000000000≤N) (x:(List a8)) (h:(x.length≤4294967296∧∀ y∈x,jQ y)):lP N x=some x:=by
  have hl:x.length≤4294967296:=h.1
  unfold lP
  rw [kM _ (by omega),Option.bind_some]
  refine (kQ (iC N x) x (by omega) (fun y=>lw N y) (fun y hy=>zh hN y (h.2 y hy)) (fun k s i=>rfl) N 0 _ (by simp) (by omega) (by omega)).trans ?_
  simp
theorem zX {N:Nat} (hN:1099000000000≤N) (x:ac) (h:jY x):l9 N x=some x:=by
  unfold l9
  rw [iT hN _ (h.1),Option.bind_some,iT hN _ (h.2),Option.bind_some]
theorem y8 {N:Nat} (hN:1099000000000≤N) (x:(List ac)) (h:(x.length≤4294967296∧∀ y∈x,jY y)):mN N x=some x:=by
  have hl:x.length≤4294967296:=h.1
  unfold mN
  rw [kM _ (by omega),Option.bind_some]
  refine (kQ (iI N x) x (by omega) (fun y=>l9 N y) (fun y hy=>zX hN y (h.2 y hy)) (fun k s i=>rfl) N 0 _ (by simp) (by omega) (by omega)).trans ?_
  simp
theorem Dw {N:Nat} (hN:1099000000000≤N) (x:bd) (h:vp x):lv N x=some x:=by
  unfold lv
  rw [y5 hN _ (h.1),Option.bind_some,y8 hN _ (h.2),Option.bind_some]
def jS (x:aP):Prop:=(x.L.length≤4294967296)
theorem FF (x:aP) (h:f8 x≤1048576):jS x:=by
  unfold f8 at h
  unfold jS; omega
def mG (x:ak):Prop:=(x.Ids.length≤4294967296)∧(x.Hits.length≤4294967296)
theorem Fx (x:ak) (h:eZ x≤1048576):mG x:=by
  unfold eZ at h
  exact ⟨by omega,by omega⟩
def gX (x:ae):Prop:=(x.Toks.length≤4294967296∧∀ y∈x.Toks,mG y)
theorem CV (x:ae) (h:bT x≤1048576):gX x:=by
  unfold bT at h
  have nn_Toks:∀ y∈x.Toks,0≤eZ y:=fun y _=>nv y
  have:=a9 _ _ nn_Toks
  exact ⟨by omega,fun y hy=>Fx y (by have:=db _ _ nn_Toks y hy; omega)⟩
def kI (x:aC):Prop:=(x.Levels.length≤4294967296∧∀ y∈x.Levels,gX y)
theorem Gk (x:aC) (h:eC x≤1048576):kI x:=by
  unfold eC at h
  have nn_Levels:∀ y∈x.Levels,0≤bT y:=fun y _=>jL y
  have:=a9 _ _ nn_Levels
  exact ⟨by omega,fun y hy=>CV y (by have:=db _ _ nn_Levels y hy; omega)⟩
def pe (x:aG):Prop:=(x.Alphas.length≤4294967296∧∀ y∈x.Alphas,jS y)∧(x.Rules.length≤4294967296∧∀ y∈x.Rules,kI y)
theorem z9 (x:aG) (h:gf x≤1048576):pe x:=by
  unfold gf at h
  have nn_Alphas:∀ y∈x.Alphas,0≤f8 y:=fun y _=>nu y
  have:=a9 _ _ nn_Alphas
  have nn_Rules:∀ y∈x.Rules,0≤eC y:=fun y _=>nh y
  have:=a9 _ _ nn_Rules
  exact ⟨⟨by omega,fun y hy=>FF y (by have:=db _ _ nn_Alphas y hy; omega)⟩,⟨by omega,fun y hy=>Gk y (by have:=db _ _ nn_Rules y hy; omega)⟩⟩
theorem Di {N:Nat} (hN:1099000000000≤N) (x:aP) (h:jS x):pB N x=some x:=by
  unfold pB
  rw [iT hN _ (h),Option.bind_some]
theorem Bv {N:Nat} (hN:1099000000000≤N) (x:(List aP)) (h:(x.length≤4294967296∧∀ y∈x,jS y)):qE N x=some x:=by
  have hl:x.length≤4294967296:=h.1
  unfold qE
  rw [kM _ (by omega),Option.bind_some]
  refine (kQ (kr N x) x (by omega) (fun y=>pB N y) (fun y hy=>Di hN y (h.2 y hy)) (fun k s i=>rfl) N 0 _ (by simp) (by omega) (by omega)).trans ?_
  simp
theorem Ep {N:Nat} (hN:1099000000000≤N) (x:ak) (h:mG x):pF N x=some x:=by
  unfold pF
  rw [iT hN _ (h.1),Option.bind_some,iT hN _ (h.2),Option.bind_some]
theorem BP {N:Nat} (hN:1099000000000≤N) (x:(List ak)) (h:(x.length≤4294967296∧∀ y∈x,mG y)):qn N x=some x:=by
  have hl:x.length≤4294967296:=h.1
  unfold qn
  rw [kM _ (by omega),Option.bind_some]
  refine (kQ (kl N x) x (by omega) (fun y=>pF N y) (fun y hy=>Ep hN y (h.2 y hy)) (fun k s i=>rfl) N 0 _ (by simp) (by omega) (by omega)).trans ?_
  simp
theorem yC {N:Nat} (hN:1099000000000≤N) (x:ae) (h:gX x):l6 N x=some x:=by
  unfold l6
  rw [BP hN _ (h),Option.bind_some]
theorem xU {N:Nat} (hN:1099000000000≤N) (x:(List ae)) (h:(x.length≤4294967296∧∀ y∈x,gX y)):mb N x=some x:=by
  have hl:x.length≤4294967296:=h.1
  unfold mb
  rw [kM _ (by omega),Option.bind_some]
  refine (kQ (iJ N x) x (by omega) (fun y=>l6 N y) (fun y hy=>yC hN y (h.2 y hy)) (fun k s i=>rfl) N 0 _ (by simp) (by omega) (by omega)).trans ?_
  simp
theorem DG {N:Nat} (hN:1099000000000≤N) (x:aC) (h:kI x):pH N x=some x:=by
  unfold pH
  rw [xU hN _ (h),Option.bind_some]
theorem Bi {N:Nat} (hN:1099000000000≤N) (x:(List aC)) (h:(x.length≤4294967296∧∀ y∈x,kI y)):qj N x=some x:=by
  have hl:x.length≤4294967296:=h.1
  unfold qj
  rw [kM _ (by omega),Option.bind_some]
  refine (kQ (kA N x) x (by omega) (fun y=>pH N y) (fun y hy=>DG hN y (h.2 y hy)) (fun k s i=>rfl) N 0 _ (by simp) (by omega) (by omega)).trans ?_
  simp
theorem DU {N:Nat} (hN:1099000000000≤N) (x:aG) (h:pe x):lm N x=some x:=by
  unfold lm
  rw [Bv hN _ (h.1),Option.bind_some,Bi hN _ (h.2),Option.bind_some]
def u0 (x:aA):Prop:=(x.Fields.length≤4294967296)
theorem EV (x:aA) (h:mv x≤1048576):u0 x:=by
  unfold mv at h
  have nn_Fields:∀ y∈x.Fields,0≤bZ y:=fun y _=>ef y
  have:=a9 _ _ nn_Fields
  unfold u0; omega
def mP (x:aY):Prop:=u0 x.F
theorem EX (x:aY) (h:dF x≤1048576):mP x:=by
  unfold dF at h
  have:=tw x.F
  exact EV _ (by omega)
def rY (x:ah):Prop:=(x.Items.length≤4294967296∧∀ y∈x.Items,mP y)
theorem CF (x:ah) (h:fT x≤1048576):rY x:=by
  unfold fT at h
  have nn_Items:∀ y∈x.Items,0≤dF y:=fun y _=>lH y
  have:=a9 _ _ nn_Items
  exact ⟨by omega,fun y hy=>EX y (by have:=db _ _ nn_Items y hy; omega)⟩
theorem BC {N:Nat} (hN:1099000000000≤N) (x:aA) (h:u0 x):qN N x=some x:=by
  unfold qN
  rw [uC hN _ (h),Option.bind_some]
theorem Ba {N:Nat} (hN:1099000000000≤N) (x:aY) (h:mP x):nr N x=some x:=by
  unfold nr
  rw [BC hN _ (h),Option.bind_some]
theorem zr {N:Nat} (hN:1099000000000≤N) (x:(List aY)) (h:(x.length≤4294967296∧∀ y∈x,mP y)):o4 N x=some x:=by
  have hl:x.length≤4294967296:=h.1
  unfold o4
  rw [kM _ (by omega),Option.bind_some]
  refine (kQ (jI N x) x (by omega) (fun y=>nr N y) (fun y hy=>Ba hN y (h.2 y hy)) (fun k s i=>rfl) N 0 _ (by simp) (by omega) (by omega)).trans ?_
  simp
theorem zR {N:Nat} (hN:1099000000000≤N) (x:ah) (h:rY x):ig N x=some x:=by
  unfold ig
  rw [zr hN _ (h),Option.bind_some]
theorem ji {N:Nat} (hN:1099000000000≤N) (x y:(List Int)) (h:(x.length≤4294967296)):gP N x y=some (decide (x=y)):=by
  have hl:x.length≤4294967296:=h
  unfold gP
  by_cases c:x.length=y.length
  · rw [if_neg (by simp; omega)]
    refine (fU (iP N x y) x y c (by omega) (fun a b=>some (decide (a=b))) (fun a _ b _=>rfl) (fun k i=>rfl) N 0 (by omega) (by omega)).trans ?_
    simp
  · rw [if_pos (by simp; omega)]
    have : ¬ x=y:=fun e=>c (by rw [e])
    simp [this]
theorem Dy {N:Nat} (hN:1099000000000≤N) (x y:aP) (h:jS x):pA N x y=some (decide (x=y)):=by
  unfold pA
  rw [ji hN _ _ (h)]
  simp only [dT,Option.bind_some]
  obtain ⟨a0⟩:=x; obtain ⟨b0⟩:=y
  simp only [aP.mk.injEq]
  by_cases c0:a0=b0
  · subst c0
    simp
  · simp [c0]
theorem BD {N:Nat} (hN:1099000000000≤N) (x y:(List aP)) (h:(x.length≤4294967296∧∀ y∈x,jS y)):pM N x y=some (decide (x=y)):=by
  have hl:x.length≤4294967296:=h.1
  unfold pM
  by_cases c:x.length=y.length
  · rw [if_neg (by simp; omega)]
    refine (fU (iK N x y) x y c (by omega) (fun a b=>pA N a b) (fun a ha b hb=>Dy hN a b (h.2 a ha)) (fun k i=>rfl) N 0 (by omega) (by omega)).trans ?_
    simp
  · rw [if_pos (by simp; omega)]
    have : ¬ x=y:=fun e=>c (by rw [e])
    simp [this]
theorem DV {N:Nat} (hN:1099000000000≤N) (x y:ak) (h:mG x):pw N x y=some (decide (x=y)):=by
  unfold pw
  rw [ji hN _ _ (h.1),ji hN _ _ (h.2)]
  simp only [dT,Option.bind_some]
  obtain ⟨a0,a1⟩:=x; obtain ⟨b0,b1⟩:=y
  simp only [ak.mk.injEq]
  by_cases c0:a0=b0
  · subst c0
    by_cases c1:a1=b1
    · subst c1
      simp
    · simp [c1]
  · simp [c0]
theorem AY {N:Nat} (hN:1099000000000≤N) (x y:(List ak)) (h:(x.length≤4294967296∧∀ y∈x,mG y)):qH N x y=some (decide (x=y)):=by
  have hl:x.length≤4294967296:=h.1
  unfold qH
  by_cases c:x.length=y.length
  · rw [if_neg (by simp; omega)]
    refine (fU (iM N x y) x y c (by omega) (fun a b=>pw N a b) (fun a ha b hb=>DV hN a b (h.2 a ha)) (fun k i=>rfl) N 0 (by omega) (by omega)).trans ?_
    simp
  · rw [if_pos (by simp; omega)]
    have : ¬ x=y:=fun e=>c (by rw [e])
    simp [this]
theorem yJ {N:Nat} (hN:1099000000000≤N) (x y:ae) (h:gX x):lB N x y=some (decide (x=y)):=by
  unfold lB
  rw [AY hN _ _ (h)]
  simp only [dT,Option.bind_some]
  obtain ⟨a0⟩:=x; obtain ⟨b0⟩:=y
  simp only [ae.mk.injEq]
  by_cases c0:a0=b0
  · subst c0
    simp
  · simp [c0]
theorem xN {N:Nat} (hN:1099000000000≤N) (x y:(List ae)) (h:(x.length≤4294967296∧∀ y∈x,gX y)):mI N x y=some (decide (x=y)):=by
  have hl:x.length≤4294967296:=h.1
  unfold mI
  by_cases c:x.length=y.length
  · rw [if_neg (by simp; omega)]
    refine (fU (gl N x y) x y c (by omega) (fun a b=>lB N a b) (fun a ha b hb=>yJ hN a b (h.2 a ha)) (fun k i=>rfl) N 0 (by omega) (by omega)).trans ?_
    simp
  · rw [if_pos (by simp; omega)]
    have : ¬ x=y:=fun e=>c (by rw [e])
    simp [this]
theorem E3 {N:Nat} (hN:1099000000000≤N) (x y:aC) (h:kI x):pI N x y=some (decide (x=y)):=by
  unfold pI
  rw [xN hN _ _ (h)]
  simp only [dT,Option.bind_some]
  obtain ⟨a0⟩:=x; obtain ⟨b0⟩:=y
  simp only [aC.mk.injEq]
  by_cases c0:a0=b0
  · subst c0
    simp
  · simp [c0]
theorem Au {N:Nat} (hN:1099000000000≤N) (x y:(List aC)) (h:(x.length≤4294967296∧∀ y∈x,kI y)):qX N x y=some (decide (x=y)):=by
  have hl:x.length≤4294967296:=h.1
  unfold qX
  by_cases c:x.length=y.length
  · rw [if_neg (by simp; omega)]
    refine (fU (j6 N x y) x y c (by omega) (fun a b=>pI N a b) (fun a ha b hb=>E3 hN a b (h.2 a ha)) (fun k i=>rfl) N 0 (by omega) (by omega)).trans ?_
    simp
  · rw [if_pos (by simp; omega)]
    have : ¬ x=y:=fun e=>c (by rw [e])
    simp [this]
theorem vF {N:Nat} (hN:1099000000000≤N) (x y:aG) (h:pe x):kZ N x y=some (decide (x=y)):=by
  unfold kZ
  rw [BD hN _ _ (h.1),Au hN _ _ (h.2)]
  simp only [dT,Option.bind_some]
  obtain ⟨a0,a1⟩:=x; obtain ⟨b0,b1⟩:=y
  simp only [aG.mk.injEq]
  by_cases c0:a0=b0
  · subst c0
    by_cases c1:a1=b1
    · subst c1
      simp
    · simp [c1]
  · simp [c0]
theorem vD {N:Nat} (hN:1099000000000≤N) (x y:aE):mX N x y=some (decide (x=y)):=by
  unfold mX
  simp only [dT,Option.bind_some]
  obtain ⟨a0,a1,a2⟩:=x; obtain ⟨b0,b1,b2⟩:=y
  simp only [aE.mk.injEq]
  by_cases c0:a0=b0
  · subst c0
    by_cases c1:a1=b1
    · subst c1
      by_cases c2:a2=b2
      · subst c2
        simp
      · simp [c2]
    · simp [c1]
  · simp [c0]
theorem mR {N:Nat} (hN:1099000000000≤N) (x y:aW):iQ N x y=some (decide (x=y)):=by
  unfold iQ
  rw [vD hN _ _]
  simp only [dT,Option.bind_some]
  obtain ⟨a0,a1,a2⟩:=x; obtain ⟨b0,b1,b2⟩:=y
  simp only [aW.mk.injEq]
  by_cases c0:a0=b0
  · subst c0
    by_cases c1:a1=b1
    · subst c1
      by_cases c2:a2=b2
      · subst c2
        simp
      · simp [c2]
    · simp [c1]
  · simp [c0]
theorem Bp {N:Nat} (hN:1099000000000≤N) (x y:(List aW)) (h:(x.length≤4294967296)):qQ N x y=some (decide (x=y)):=by
  have hl:x.length≤4294967296:=h
  unfold qQ
  by_cases c:x.length=y.length
  · rw [if_neg (by simp; omega)]
    refine (fU (j5 N x y) x y c (by omega) (fun a b=>iQ N a b) (fun a ha b hb=>mR hN a b) (fun k i=>rfl) N 0 (by omega) (by omega)).trans ?_
    simp
  · rw [if_pos (by simp; omega)]
    have : ¬ x=y:=fun e=>c (by rw [e])
    simp [this]
theorem Dh {N:Nat} (hN:1099000000000≤N) (x y:ax) (h:nQ x):pG N x y=some (decide (x=y)):=by
  unfold pG
  rw [Bp hN _ _ (h)]
  simp only [dT,Option.bind_some]
  obtain ⟨a0,a1,a2⟩:=x; obtain ⟨b0,b1,b2⟩:=y
  simp only [ax.mk.injEq]
  by_cases c0:a0=b0
  · subst c0
    by_cases c1:a1=b1
    · subst c1
      by_cases c2:a2=b2
      · subst c2
        simp
      · simp [c2]
    · simp [c1]
  · simp [c0]
theorem BF {N:Nat} (hN:1099000000000≤N) (x y:(List ax)) (h:(x.length≤4294967296∧∀ y∈x,nQ y)):pO N x y=some (decide (x=y)):=by
  have hl:x.length≤4294967296:=h.1
  unfold pO
  by_cases c:x.length=y.length
  · rw [if_neg (by simp; omega)]
    refine (fU (je N x y) x y c (by omega) (fun a b=>pG N a b) (fun a ha b hb=>Dh hN a b (h.2 a ha)) (fun k i=>rfl) N 0 (by omega) (by omega)).trans ?_
    simp
  · rw [if_pos (by simp; omega)]
    have : ¬ x=y:=fun e=>c (by rw [e])
    simp [this]
theorem Bf {N:Nat} (hN:1099000000000≤N) (x y:bj):nC N x y=some (decide (x=y)):=by
  unfold nC
  rw [mR hN _ _,mR hN _ _]
  simp only [dT,Option.bind_some]
  obtain ⟨a0,a1,a2⟩:=x; obtain ⟨b0,b1,b2⟩:=y
  simp only [bj.mk.injEq]
  by_cases c0:a0=b0
  · subst c0
    by_cases c1:a1=b1
    · subst c1
      by_cases c2:a2=b2
      · subst c2
        simp
      · simp [c2]
    · simp [c1]
  · simp [c0]
theorem zi {N:Nat} (hN:1099000000000≤N) (x y:(List bj)) (h:(x.length≤4294967296)):ov N x y=some (decide (x=y)):=by
  have hl:x.length≤4294967296:=h
  unfold ov
  by_cases c:x.length=y.length
  · rw [if_neg (by simp; omega)]
    refine (fU (hH N x y) x y c (by omega) (fun a b=>nC N a b) (fun a ha b hb=>Bf hN a b) (fun k i=>rfl) N 0 (by omega) (by omega)).trans ?_
    simp
  · rw [if_pos (by simp; omega)]
    have : ¬ x=y:=fun e=>c (by rw [e])
    simp [this]
theorem Bd {N:Nat} (hN:1099000000000≤N) (x y:bh):mY N x y=some (decide (x=y)):=by
  unfold mY
  rw [mR hN _ _,mR hN _ _]
  simp only [dT,Option.bind_some]
  obtain ⟨a0,a1,a2⟩:=x; obtain ⟨b0,b1,b2⟩:=y
  simp only [bh.mk.injEq]
  by_cases c0:a0=b0
  · subst c0
    by_cases c1:a1=b1
    · subst c1
      by_cases c2:a2=b2
      · subst c2
        simp
      · simp [c2]
    · simp [c1]
  · simp [c0]
theorem A8 {N:Nat} (hN:1099000000000≤N) (x y:(List bh)) (h:(x.length≤4294967296)):ot N x y=some (decide (x=y)):=by
  have hl:x.length≤4294967296:=h
  unfold ot
  by_cases c:x.length=y.length
  · rw [if_neg (by simp; omega)]
    refine (fU (hY N x y) x y c (by omega) (fun a b=>mY N a b) (fun a ha b hb=>Bd hN a b) (fun k i=>rfl) N 0 (by omega) (by omega)).trans ?_
    simp
  · rw [if_pos (by simp; omega)]
    have : ¬ x=y:=fun e=>c (by rw [e])
    simp [this]
theorem E9 {N:Nat} (hN:1099000000000≤N) (x y:bH) (h:nP x):pu N x y=some (decide (x=y)):=by
  unfold pu
  rw [A8 hN _ _ (h)]
  simp only [dT,Option.bind_some]
  obtain ⟨a0,a1,a2,a3,a4⟩:=x; obtain ⟨b0,b1,b2,b3,b4⟩:=y
  simp only [bH.mk.injEq]
  by_cases c0:a0=b0
  · subst c0
    by_cases c1:a1=b1
    · subst c1
      by_cases c2:a2=b2
      · subst c2
        by_cases c3:a3=b3
        · subst c3
          by_cases c4:a4=b4
          · subst c4
            simp
          · simp [c4]
        · simp [c3]
      · simp [c2]
    · simp [c1]
  · simp [c0]
theorem AZ {N:Nat} (hN:1099000000000≤N) (x y:(List bH)) (h:(x.length≤4294967296∧∀ y∈x,nP y)):q8 N x y=some (decide (x=y)):=by
  have hl:x.length≤4294967296:=h.1
  unfold q8
  by_cases c:x.length=y.length
  · rw [if_neg (by simp; omega)]
    refine (fU (iZ N x y) x y c (by omega) (fun a b=>pu N a b) (fun a ha b hb=>E9 hN a b (h.2 a ha)) (fun k i=>rfl) N 0 (by omega) (by omega)).trans ?_
    simp
  · rw [if_pos (by simp; omega)]
    have : ¬ x=y:=fun e=>c (by rw [e])
    simp [this]
theorem AW {N:Nat} (hN:1099000000000≤N) (x y:af) (h:lS x):n8 N x y=some (decide (x=y)):=by
  unfold n8
  rw [BF hN _ _ (h.1),zi hN _ _ (h.2.1),AZ hN _ _ (h.2.2)]
  simp only [dT,Option.bind_some]
  obtain ⟨a0,a1,a2,a3,a4⟩:=x; obtain ⟨b0,b1,b2,b3,b4⟩:=y
  simp only [af.mk.injEq]
  by_cases c0:a0=b0
  · subst c0
    by_cases c1:a1=b1
    · subst c1
      by_cases c2:a2=b2
      · subst c2
        by_cases c3:a3=b3
        · subst c3
          by_cases c4:a4=b4
          · subst c4
            simp
          · simp [c4]
        · simp [c3]
      · simp [c2]
    · simp [c1]
  · simp [c0]
theorem zn {N:Nat} (hN:1099000000000≤N) (x y:(List af)) (h:(x.length≤4294967296∧∀ y∈x,lS y)):oa N x y=some (decide (x=y)):=by
  have hl:x.length≤4294967296:=h.1
  unfold oa
  by_cases c:x.length=y.length
  · rw [if_neg (by simp; omega)]
    refine (fU (hP N x y) x y c (by omega) (fun a b=>n8 N a b) (fun a ha b hb=>AW hN a b (h.2 a ha)) (fun k i=>rfl) N 0 (by omega) (by omega)).trans ?_
    simp
  · rw [if_pos (by simp; omega)]
    have : ¬ x=y:=fun e=>c (by rw [e])
    simp [this]
theorem DP {N:Nat} (hN:1099000000000≤N) (x y:bl) (h:vZ x):sE N x y=some (decide (x=y)):=by
  unfold sE
  rw [zn hN _ _ (h)]
  simp only [dT,Option.bind_some]
  obtain ⟨a0,a1⟩:=x; obtain ⟨b0,b1⟩:=y
  simp only [bl.mk.injEq]
  by_cases c0:a0=b0
  · subst c0
    by_cases c1:a1=b1
    · subst c1
      simp
    · simp [c1]
  · simp [c0]
theorem uq {N:Nat} (hN:1099000000000≤N) (x y:(List aE)) (h:(x.length≤4294967296)):nG N x y=some (decide (x=y)):=by
  have hl:x.length≤4294967296:=h
  unfold nG
  by_cases c:x.length=y.length
  · rw [if_neg (by simp; omega)]
    refine (fU (jj N x y) x y c (by omega) (fun a b=>mX N a b) (fun a ha b hb=>vD hN a b) (fun k i=>rfl) N 0 (by omega) (by omega)).trans ?_
    simp
  · rw [if_pos (by simp; omega)]
    have : ¬ x=y:=fun e=>c (by rw [e])
    simp [this]
theorem Aa {N:Nat} (hN:1099000000000≤N) (x y:a8) (h:jQ x):lC N x y=some (decide (x=y)):=by
  unfold lC
  rw [uq hN _ _ (h.1),ji hN _ _ (h.2)]
  simp only [dT,Option.bind_some]
  obtain ⟨a0,a1,a2,a3⟩:=x; obtain ⟨b0,b1,b2,b3⟩:=y
  simp only [a8.mk.injEq]
  by_cases c0:a0=b0
  · subst c0
    by_cases c1:a1=b1
    · subst c1
      by_cases c2:a2=b2
      · subst c2
        by_cases c3:a3=b3
        · subst c3
          simp
        · simp [c3]
      · simp [c2]
    · simp [c1]
  · simp [c0]
theorem xC {N:Nat} (hN:1099000000000≤N) (x y:(List a8)) (h:(x.length≤4294967296∧∀ y∈x,jQ y)):m6 N x y=some (decide (x=y)):=by
  have hl:x.length≤4294967296:=h.1
  unfold m6
  by_cases c:x.length=y.length
  · rw [if_neg (by simp; omega)]
    refine (fU (gw N x y) x y c (by omega) (fun a b=>lC N a b) (fun a ha b hb=>Aa hN a b (h.2 a ha)) (fun k i=>rfl) N 0 (by omega) (by omega)).trans ?_
    simp
  · rw [if_pos (by simp; omega)]
    have : ¬ x=y:=fun e=>c (by rw [e])
    simp [this]
theorem Ac {N:Nat} (hN:1099000000000≤N) (x y:ac) (h:jY x):lK N x y=some (decide (x=y)):=by
  unfold lK
  rw [ji hN _ _ (h.1),ji hN _ _ (h.2)]
  simp only [dT,Option.bind_some]
  obtain ⟨a0,a1⟩:=x; obtain ⟨b0,b1⟩:=y
  simp only [ac.mk.injEq]
  by_cases c0:a0=b0
  · subst c0
    by_cases c1:a1=b1
    · subst c1
      simp
    · simp [c1]
  · simp [c0]
theorem y6 {N:Nat} (hN:1099000000000≤N) (x y:(List ac)) (h:(x.length≤4294967296∧∀ y∈x,jY y)):mt N x y=some (decide (x=y)):=by
  have hl:x.length≤4294967296:=h.1
  unfold mt
  by_cases c:x.length=y.length
  · rw [if_neg (by simp; omega)]
    refine (fU (gr N x y) x y c (by omega) (fun a b=>lK N a b) (fun a ha b hb=>Ac hN a b (h.2 a ha)) (fun k i=>rfl) N 0 (by omega) (by omega)).trans ?_
    simp
  · rw [if_pos (by simp; omega)]
    have : ¬ x=y:=fun e=>c (by rw [e])
    simp [this]
theorem Do {N:Nat} (hN:1099000000000≤N) (x y:bd) (h:vp x):sk N x y=some (decide (x=y)):=by
  unfold sk
  rw [xC hN _ _ (h.1),y6 hN _ _ (h.2)]
  simp only [dT,Option.bind_some]
  obtain ⟨a0,a1⟩:=x; obtain ⟨b0,b1⟩:=y
  simp only [bd.mk.injEq]
  by_cases c0:a0=b0
  · subst c0
    by_cases c1:a1=b1
    · subst c1
      simp
    · simp [c1]
  · simp [c0]
theorem BB {N:Nat} (hN:1099000000000≤N) (x y:aA) (h:u0 x):qi N x y=some (decide (x=y)):=by
  unfold qi
  rw [uq hN _ _ (h)]
  simp only [dT,Option.bind_some]
  obtain ⟨a0,a1⟩:=x; obtain ⟨b0,b1⟩:=y
  simp only [aA.mk.injEq]
  by_cases c0:a0=b0
  · subst c0
    by_cases c1:a1=b1
    · subst c1
      simp
    · simp [c1]
  · simp [c0]
theorem BG {N:Nat} (hN:1099000000000≤N) (x y:aY) (h:mP x):ny N x y=some (decide (x=y)):=by
  unfold ny
  rw [BB hN _ _ (h)]
  simp only [dT,Option.bind_some]
  obtain ⟨a0,a1⟩:=x; obtain ⟨b0,b1⟩:=y
  simp only [aY.mk.injEq]
  by_cases c0:a0=b0
  · subst c0
    by_cases c1:a1=b1
    · subst c1
      simp
    · simp [c1]
  · simp [c0]
theorem z6 {N:Nat} (hN:1099000000000≤N) (x y:(List aY)) (h:(x.length≤4294967296∧∀ y∈x,mP y)):oE N x y=some (decide (x=y)):=by
  have hl:x.length≤4294967296:=h.1
  unfold oE
  by_cases c:x.length=y.length
  · rw [if_neg (by simp; omega)]
    refine (fU (gV N x y) x y c (by omega) (fun a b=>ny N a b) (fun a ha b hb=>BG hN a b (h.2 a ha)) (fun k i=>rfl) N 0 (by omega) (by omega)).trans ?_
    simp
  · rw [if_pos (by simp; omega)]
    have : ¬ x=y:=fun e=>c (by rw [e])
    simp [this]
theorem z8 {N:Nat} (hN:1099000000000≤N) (x y:ah) (h:rY x):o8 N x y=some (decide (x=y)):=by
  unfold o8
  rw [z6 hN _ _ (h)]
  simp only [dT,Option.bind_some]
  obtain ⟨a0,a1⟩:=x; obtain ⟨b0,b1⟩:=y
  simp only [ah.mk.injEq]
  by_cases c0:a0=b0
  · subst c0
    by_cases c1:a1=b1
    · subst c1
      simp
    · simp [c1]
  · simp [c0]
theorem mtx {N:Nat} (hN:1099000000000≤N) (k:Int) (h0:0≤k) (h1:k≤aB):∃ t,aj N k=some t:=by
  unfold aj
  by_cases c:k≤0
  · rw [if_pos (by simpa using c)]; exact ⟨_,rfl⟩
  · rw [if_neg (by simpa using c)]
    obtain ⟨m,hm⟩:∃ m,N=20+1+m:=⟨N - 21,by omega⟩
    have:=Jy (fg N) (fun n s t=>by simp only [fg]) 20 m k (⟨#[]⟩:ByteArray) h0 h1 (by unfold aB at h1; omega) (by decide)
    rw [← hm] at this; exact this
def eE (x:aW):Int:=1+1+1+1+1
theorem uL (x:aW):0≤eE x:=by
  unfold eE
  omega
theorem FZ (x:aW):eE x≤32+32*(cZ x):=by
  unfold eE cZ bZ
  omega
def FX (N:Nat) (x:aW) (k:Int):Prop:=x.K=k∧aj N (k+1)=some x.S∧x.V.K=((k+1)+1)∧x.V.N=(((k+1)+1)+1)∧aj N ((((k+1)+1)+1)+1)=some x.V.S
def er (x:ax):Int:=1+ai eE x.Args+1
theorem uS (x:ax):0≤er x:=by
  unfold er
  have:=aQ uL x.Args
  omega
theorem Fw (x:ax):er x≤32+32*(dW x):=by
  have:=it (p:=x.Args) (tot:=cZ) (fun y _=>FZ y)
  have:=a9 cZ x.Args (fun y _=>co y)
  unfold er dW
  omega
def Da (N:Nat) (x:ax) (k:Int):Prop:=aj N k=some x.Kind∧HdL (FX N) eE x.Args (k+1)∧x.Not=decide (((k+1)+ai eE x.Args).tmod 3=0)
def dp (x:bj):Int:=1+1+1+1+1+1+1+1+1+1+1
theorem tQ (x:bj):0≤dp x:=by
  unfold dp
  omega
theorem EJ (x:bj):dp x≤32+32*(eK x):=by
  unfold dp eK cZ bZ
  omega
def El (N:Nat) (x:bj) (k:Int):Prop:=x.Op=k∧x.L.K=(k+1)∧aj N ((k+1)+1)=some x.L.S∧x.L.V.K=(((k+1)+1)+1)∧x.L.V.N=((((k+1)+1)+1)+1)∧aj N (((((k+1)+1)+1)+1)+1)=some x.L.V.S∧x.R.K=((((((k+1)+1)+1)+1)+1)+1)∧aj N (((((((k+1)+1)+1)+1)+1)+1)+1)=some x.R.S∧x.R.V.K=((((((((k+1)+1)+1)+1)+1)+1)+1)+1)∧x.R.V.N=(((((((((k+1)+1)+1)+1)+1)+1)+1)+1)+1)∧aj N ((((((((((k+1)+1)+1)+1)+1)+1)+1)+1)+1)+1)=some x.R.V.S
def bX (x:bh):Int:=1+1+1+1+1+1+1+1+1+1+1
theorem tO (x:bh):0≤bX x:=by
  unfold bX
  omega
theorem Fk (x:bh):bX x≤32+32*(ec x):=by
  unfold bX ec cZ bZ
  omega
def CG (N:Nat) (x:bh) (k:Int):Prop:=aj N k=some x.Op∧x.L.K=(k+1)∧aj N ((k+1)+1)=some x.L.S∧x.L.V.K=(((k+1)+1)+1)∧x.L.V.N=((((k+1)+1)+1)+1)∧aj N (((((k+1)+1)+1)+1)+1)=some x.L.V.S∧x.R.K=((((((k+1)+1)+1)+1)+1)+1)∧aj N (((((((k+1)+1)+1)+1)+1)+1)+1)=some x.R.S∧x.R.V.K=((((((((k+1)+1)+1)+1)+1)+1)+1)+1)∧x.R.V.N=(((((((((k+1)+1)+1)+1)+1)+1)+1)+1)+1)∧aj N ((((((((((k+1)+1)+1)+1)+1)+1)+1)+1)+1)+1)=some x.R.V.S
def gC (x:bH):Int:=1+1+ai bX x.Args+1+1
theorem uZ (x:bH):0≤gC x:=by
  unfold gC
  have:=aQ tO x.Args
  omega
theorem Gj (x:bH):gC x≤32+32*(dX x):=by
  have:=it (p:=x.Args) (tot:=ec) (fun y _=>Fk y)
  have:=a9 ec x.Args (fun y _=>jw y)
  unfold gC dX
  omega
def CE (N:Nat) (x:bH) (k:Int):Prop:=x.Kind=k∧aj N (k+1)=some x.Name∧HdL (CG N) bX x.Args ((k+1)+1)∧x.N=(((k+1)+1)+ai bX x.Args)∧aj N ((((k+1)+1)+ai bX x.Args)+1)=some x.Undo
def dY (x:af):Int:=1+1+ai er x.Pats+ai dp x.Conds+ai gC x.Acts
theorem rA (x:af):0≤dY x:=by
  unfold dY
  have:=aQ uS x.Pats
  have:=aQ tQ x.Conds
  have:=aQ uZ x.Acts
  omega
theorem ES (x:af):dY x≤32+32*(dE x):=by
  have:=it (p:=x.Pats) (tot:=dW) (fun y _=>Fw y)
  have:=a9 dW x.Pats (fun y _=>nA y)
  have:=it (p:=x.Conds) (tot:=eK) (fun y _=>EJ y)
  have:=a9 eK x.Conds (fun y _=>lI y)
  have:=it (p:=x.Acts) (tot:=dX) (fun y _=>Gj y)
  have:=a9 dX x.Acts (fun y _=>nj y)
  unfold dY dE
  omega
def yg (N:Nat) (x:af) (k:Int):Prop:=aj N k=some x.Name∧x.Sal=(k+1)∧HdL (Da N) er x.Pats ((k+1)+1)∧HdL (El N) dp x.Conds (((k+1)+1)+ai er x.Pats)∧HdL (CE N) gC x.Acts ((((k+1)+1)+ai er x.Pats)+ai dp x.Conds)
def vm (x:bl):Int:=1+ai dY x.Rules
theorem Lf (x:bl):0≤vm x:=by
  unfold vm
  have:=aQ rA x.Rules
  omega
theorem FH (x:bl):vm x≤32+32*(jP x):=by
  have:=it (p:=x.Rules) (tot:=dE) (fun y _=>ES y)
  have:=a9 dE x.Rules (fun y _=>lg y)
  unfold vm jP
  omega
def NQ (N:Nat) (x:bl) (k:Int):Prop:=aj N k=some x.Name∧HdL (yg N) dY x.Rules (k+1)
theorem xF {N:Nat} (hN:1099000000000≤N) (x:(List aW)) (h:(x.length≤4294967296)) (k:Int) (h0:0≤k) (h1:k+ai eE x≤aB):∃ ys,pb N x k=some (k+ai eE x,ys)∧ai eE ys=ai eE x∧HdL (FX N) eE ys k∧(ys.length≤4294967296):=by
  have hl:x.length≤4294967296:=h
  obtain ⟨ys,a1,a2,a3,a4,a5⟩:=kP (fu N) (FX N) eE (fun _=>True) uL (fun n s k i x hx hi hlt h0 h1 h=>by
    unfold aB at h1
    have hcnt:eE x=1+1+1+1+1:=rfl
    rw [hcnt] at h1
    have e0:IntKind.i64.wrap (k+1)=k+1:=wr (by omega) (by omega)
    obtain ⟨t1,m1⟩:=mtx hN (k+1) (by omega) (by unfold aB; omega)
    have e1:IntKind.i64.wrap ((k+1)+1)=(k+1)+1:=wr (by omega) (by omega)
    have e2:IntKind.i64.wrap (((k+1)+1)+1)=((k+1)+1)+1:=wr (by omega) (by omega)
    have e3:IntKind.i64.wrap ((((k+1)+1)+1)+1)=(((k+1)+1)+1)+1:=wr (by omega) (by omega)
    obtain ⟨t4,m4⟩:=mtx hN ((((k+1)+1)+1)+1) (by omega) (by unfold aB; omega)
    have e4:IntKind.i64.wrap (((((k+1)+1)+1)+1)+1)=((((k+1)+1)+1)+1)+1:=wr (by omega) (by omega)
    have cc:decide ((i:Int) < (s.length:Int))=true:=decide_eq_true hlt
    refine ⟨(⟨k,t1,(⟨((k+1)+1),(((k+1)+1)+1),t4⟩:aE)⟩:aW),?_,?_,?_,?_⟩
    · exact ⟨(by trivial),m1,(by trivial),(by trivial),m4⟩
    · simp only [eE]
    · exact trivial
    · have hp:(((((k+1)+1)+1)+1)+1)=k+eE x:=by omega
      rw [← hp,← wr1 i (by omega)]
      simp only [fu,cc,if_true,show idx s (i:Int)=some x from by rw [dc,hx],Option.bind_some,Int.toNat_natCast,e0,m1,e1,e2,e3,m4,e4])
    (fun n s k i hi=>by simp only [fu]; rw [if_neg (by simpa using hi)]) N 0 x k hl (by omega) (by omega) h0 (by simpa using h1) (fun _ _=>trivial)
  simp only [List.drop_zero,List.take_zero,List.nil_append] at a1 a3
  exact ⟨ys,a1,a3,a4,by omega⟩
theorem xq {N:Nat} (hN:1099000000000≤N) (x:(List ax)) (h:(x.length≤4294967296∧∀ y∈x,nQ y)) (k:Int) (h0:0≤k) (h1:k+ai er x≤aB):∃ ys,oX N x k=some (k+ai er x,ys)∧ai er ys=ai er x∧HdL (Da N) er ys k∧(ys.length≤4294967296∧∀ y∈ys,nQ y):=by
  have hl:x.length≤4294967296:=h.1
  obtain ⟨ys,a1,a2,a3,a4,a5⟩:=kP (fe N) (Da N) er nQ uS (fun n s k i x hx hi hlt h0 h1 h=>by
    unfold aB at h1
    have hcnt:er x=1+ai eE x.Args+1:=rfl
    rw [hcnt] at h1
    have n1:=aQ uL x.Args
    obtain ⟨t0,m0⟩:=mtx hN k (by omega) (by unfold aB; omega)
    have e0:IntKind.i64.wrap (k+1)=k+1:=wr (by omega) (by omega)
    obtain ⟨y1,m1,c1,d1,l1⟩:=xF hN x.Args (h) (k+1) (by omega) (by unfold aB; omega)
    have e2:IntKind.i64.wrap (((k+1)+ai eE x.Args)+1)=((k+1)+ai eE x.Args)+1:=wr (by omega) (by omega)
    have cc:decide ((i:Int) < (s.length:Int))=true:=decide_eq_true hlt
    refine ⟨(⟨t0,y1,decide (((k+1)+ai eE x.Args).tmod 3=0)⟩:ax),?_,?_,?_,?_⟩
    · simp only [Da,c1]; exact ⟨m0,d1,(by trivial)⟩
    · simp only [er,c1]
    · exact l1
    · have hp:(((k+1)+ai eE x.Args)+1)=k+er x:=by omega
      rw [← hp,← wr1 i (by omega)]
      simp only [fe,cc,if_true,show idx s (i:Int)=some x from by rw [dc,hx],Option.bind_some,Int.toNat_natCast,m0,e0,m1,e2])
    (fun n s k i hi=>by simp only [fe]; rw [if_neg (by simpa using hi)]) N 0 x k hl (by omega) (by omega) h0 (by simpa using h1) (h.2)
  simp only [List.drop_zero,List.take_zero,List.nil_append] at a1 a3
  exact ⟨ys,a1,a3,a4,⟨by omega,a5⟩⟩
theorem wi {N:Nat} (hN:1099000000000≤N) (x:(List bj)) (h:(x.length≤4294967296)) (k:Int) (h0:0≤k) (h1:k+ai dp x≤aB):∃ ys,nS N x k=some (k+ai dp x,ys)∧ai dp ys=ai dp x∧HdL (El N) dp ys k∧(ys.length≤4294967296):=by
  have hl:x.length≤4294967296:=h
  obtain ⟨ys,a1,a2,a3,a4,a5⟩:=kP (ei N) (El N) dp (fun _=>True) tQ (fun n s k i x hx hi hlt h0 h1 h=>by
    unfold aB at h1
    have hcnt:dp x=1+1+1+1+1+1+1+1+1+1+1:=rfl
    rw [hcnt] at h1
    have e0:IntKind.i64.wrap (k+1)=k+1:=wr (by omega) (by omega)
    have e1:IntKind.i64.wrap ((k+1)+1)=(k+1)+1:=wr (by omega) (by omega)
    obtain ⟨t2,m2⟩:=mtx hN ((k+1)+1) (by omega) (by unfold aB; omega)
    have e2:IntKind.i64.wrap (((k+1)+1)+1)=((k+1)+1)+1:=wr (by omega) (by omega)
    have e3:IntKind.i64.wrap ((((k+1)+1)+1)+1)=(((k+1)+1)+1)+1:=wr (by omega) (by omega)
    have e4:IntKind.i64.wrap (((((k+1)+1)+1)+1)+1)=((((k+1)+1)+1)+1)+1:=wr (by omega) (by omega)
    obtain ⟨t5,m5⟩:=mtx hN (((((k+1)+1)+1)+1)+1) (by omega) (by unfold aB; omega)
    have e5:IntKind.i64.wrap ((((((k+1)+1)+1)+1)+1)+1)=(((((k+1)+1)+1)+1)+1)+1:=wr (by omega) (by omega)
    have e6:IntKind.i64.wrap (((((((k+1)+1)+1)+1)+1)+1)+1)=((((((k+1)+1)+1)+1)+1)+1)+1:=wr (by omega) (by omega)
    obtain ⟨t7,m7⟩:=mtx hN (((((((k+1)+1)+1)+1)+1)+1)+1) (by omega) (by unfold aB; omega)
    have e7:IntKind.i64.wrap ((((((((k+1)+1)+1)+1)+1)+1)+1)+1)=(((((((k+1)+1)+1)+1)+1)+1)+1)+1:=wr (by omega) (by omega)
    have e8:IntKind.i64.wrap (((((((((k+1)+1)+1)+1)+1)+1)+1)+1)+1)=((((((((k+1)+1)+1)+1)+1)+1)+1)+1)+1:=wr (by omega) (by omega)
    have e9:IntKind.i64.wrap ((((((((((k+1)+1)+1)+1)+1)+1)+1)+1)+1)+1)=(((((((((k+1)+1)+1)+1)+1)+1)+1)+1)+1)+1:=wr (by omega) (by omega)
    obtain ⟨t10,m10⟩:=mtx hN ((((((((((k+1)+1)+1)+1)+1)+1)+1)+1)+1)+1) (by omega) (by unfold aB; omega)
    have e10:IntKind.i64.wrap (((((((((((k+1)+1)+1)+1)+1)+1)+1)+1)+1)+1)+1)=((((((((((k+1)+1)+1)+1)+1)+1)+1)+1)+1)+1)+1:=wr (by omega) (by omega)
    have cc:decide ((i:Int) < (s.length:Int))=true:=decide_eq_true hlt
    refine ⟨(⟨k,(⟨(k+1),t2,(⟨(((k+1)+1)+1),((((k+1)+1)+1)+1),t5⟩:aE)⟩:aW),(⟨((((((k+1)+1)+1)+1)+1)+1),t7,(⟨((((((((k+1)+1)+1)+1)+1)+1)+1)+1),(((((((((k+1)+1)+1)+1)+1)+1)+1)+1)+1),t10⟩:aE)⟩:aW)⟩:bj),?_,?_,?_,?_⟩
    · exact ⟨(by trivial),(by trivial),m2,(by trivial),(by trivial),m5,(by trivial),m7,(by trivial),(by trivial),m10⟩
    · simp only [dp]
    · exact trivial
    · have hp:(((((((((((k+1)+1)+1)+1)+1)+1)+1)+1)+1)+1)+1)=k+dp x:=by omega
      rw [← hp,← wr1 i (by omega)]
      simp only [ei,cc,if_true,show idx s (i:Int)=some x from by rw [dc,hx],Option.bind_some,Int.toNat_natCast,e0,e1,m2,e2,e3,e4,m5,e5,e6,m7,e7,e8,e9,m10,e10])
    (fun n s k i hi=>by simp only [ei]; rw [if_neg (by simpa using hi)]) N 0 x k hl (by omega) (by omega) h0 (by simpa using h1) (fun _ _=>trivial)
  simp only [List.drop_zero,List.take_zero,List.nil_append] at a1 a3
  exact ⟨ys,a1,a3,a4,by omega⟩
theorem wC {N:Nat} (hN:1099000000000≤N) (x:(List bh)) (h:(x.length≤4294967296)) (k:Int) (h0:0≤k) (h1:k+ai bX x≤aB):∃ ys,nJ N x k=some (k+ai bX x,ys)∧ai bX ys=ai bX x∧HdL (CG N) bX ys k∧(ys.length≤4294967296):=by
  have hl:x.length≤4294967296:=h
  obtain ⟨ys,a1,a2,a3,a4,a5⟩:=kP (ej N) (CG N) bX (fun _=>True) tO (fun n s k i x hx hi hlt h0 h1 h=>by
    unfold aB at h1
    have hcnt:bX x=1+1+1+1+1+1+1+1+1+1+1:=rfl
    rw [hcnt] at h1
    obtain ⟨t0,m0⟩:=mtx hN k (by omega) (by unfold aB; omega)
    have e0:IntKind.i64.wrap (k+1)=k+1:=wr (by omega) (by omega)
    have e1:IntKind.i64.wrap ((k+1)+1)=(k+1)+1:=wr (by omega) (by omega)
    obtain ⟨t2,m2⟩:=mtx hN ((k+1)+1) (by omega) (by unfold aB; omega)
    have e2:IntKind.i64.wrap (((k+1)+1)+1)=((k+1)+1)+1:=wr (by omega) (by omega)
    have e3:IntKind.i64.wrap ((((k+1)+1)+1)+1)=(((k+1)+1)+1)+1:=wr (by omega) (by omega)
    have e4:IntKind.i64.wrap (((((k+1)+1)+1)+1)+1)=((((k+1)+1)+1)+1)+1:=wr (by omega) (by omega)
    obtain ⟨t5,m5⟩:=mtx hN (((((k+1)+1)+1)+1)+1) (by omega) (by unfold aB; omega)
    have e5:IntKind.i64.wrap ((((((k+1)+1)+1)+1)+1)+1)=(((((k+1)+1)+1)+1)+1)+1:=wr (by omega) (by omega)
    have e6:IntKind.i64.wrap (((((((k+1)+1)+1)+1)+1)+1)+1)=((((((k+1)+1)+1)+1)+1)+1)+1:=wr (by omega) (by omega)
    obtain ⟨t7,m7⟩:=mtx hN (((((((k+1)+1)+1)+1)+1)+1)+1) (by omega) (by unfold aB; omega)
    have e7:IntKind.i64.wrap ((((((((k+1)+1)+1)+1)+1)+1)+1)+1)=(((((((k+1)+1)+1)+1)+1)+1)+1)+1:=wr (by omega) (by omega)
    have e8:IntKind.i64.wrap (((((((((k+1)+1)+1)+1)+1)+1)+1)+1)+1)=((((((((k+1)+1)+1)+1)+1)+1)+1)+1)+1:=wr (by omega) (by omega)
    have e9:IntKind.i64.wrap ((((((((((k+1)+1)+1)+1)+1)+1)+1)+1)+1)+1)=(((((((((k+1)+1)+1)+1)+1)+1)+1)+1)+1)+1:=wr (by omega) (by omega)
    obtain ⟨t10,m10⟩:=mtx hN ((((((((((k+1)+1)+1)+1)+1)+1)+1)+1)+1)+1) (by omega) (by unfold aB; omega)
    have e10:IntKind.i64.wrap (((((((((((k+1)+1)+1)+1)+1)+1)+1)+1)+1)+1)+1)=((((((((((k+1)+1)+1)+1)+1)+1)+1)+1)+1)+1)+1:=wr (by omega) (by omega)
    have cc:decide ((i:Int) < (s.length:Int))=true:=decide_eq_true hlt
    refine ⟨(⟨t0,(⟨(k+1),t2,(⟨(((k+1)+1)+1),((((k+1)+1)+1)+1),t5⟩:aE)⟩:aW),(⟨((((((k+1)+1)+1)+1)+1)+1),t7,(⟨((((((((k+1)+1)+1)+1)+1)+1)+1)+1),(((((((((k+1)+1)+1)+1)+1)+1)+1)+1)+1),t10⟩:aE)⟩:aW)⟩:bh),?_,?_,?_,?_⟩
    · exact ⟨m0,(by trivial),m2,(by trivial),(by trivial),m5,(by trivial),m7,(by trivial),(by trivial),m10⟩
    · simp only [bX]
    · exact trivial
    · have hp:(((((((((((k+1)+1)+1)+1)+1)+1)+1)+1)+1)+1)+1)=k+bX x:=by omega
      rw [← hp,← wr1 i (by omega)]
      simp only [ej,cc,if_true,show idx s (i:Int)=some x from by rw [dc,hx],Option.bind_some,Int.toNat_natCast,m0,e0,e1,m2,e2,e3,e4,m5,e5,e6,m7,e7,e8,e9,m10,e10])
    (fun n s k i hi=>by simp only [ej]; rw [if_neg (by simpa using hi)]) N 0 x k hl (by omega) (by omega) h0 (by simpa using h1) (fun _ _=>trivial)
  simp only [List.drop_zero,List.take_zero,List.nil_append] at a1 a3
  exact ⟨ys,a1,a3,a4,by omega⟩
theorem xK {N:Nat} (hN:1099000000000≤N) (x:(List bH)) (h:(x.length≤4294967296∧∀ y∈x,nP y)) (k:Int) (h0:0≤k) (h1:k+ai gC x≤aB):∃ ys,oZ N x k=some (k+ai gC x,ys)∧ai gC ys=ai gC x∧HdL (CE N) gC ys k∧(ys.length≤4294967296∧∀ y∈ys,nP y):=by
  have hl:x.length≤4294967296:=h.1
  obtain ⟨ys,a1,a2,a3,a4,a5⟩:=kP (fb N) (CE N) gC nP uZ (fun n s k i x hx hi hlt h0 h1 h=>by
    unfold aB at h1
    have hcnt:gC x=1+1+ai bX x.Args+1+1:=rfl
    rw [hcnt] at h1
    have n2:=aQ tO x.Args
    have e0:IntKind.i64.wrap (k+1)=k+1:=wr (by omega) (by omega)
    obtain ⟨t1,m1⟩:=mtx hN (k+1) (by omega) (by unfold aB; omega)
    have e1:IntKind.i64.wrap ((k+1)+1)=(k+1)+1:=wr (by omega) (by omega)
    obtain ⟨y2,m2,c2,d2,l2⟩:=wC hN x.Args (h) ((k+1)+1) (by omega) (by unfold aB; omega)
    have e3:IntKind.i64.wrap ((((k+1)+1)+ai bX x.Args)+1)=(((k+1)+1)+ai bX x.Args)+1:=wr (by omega) (by omega)
    obtain ⟨t4,m4⟩:=mtx hN ((((k+1)+1)+ai bX x.Args)+1) (by omega) (by unfold aB; omega)
    have e4:IntKind.i64.wrap (((((k+1)+1)+ai bX x.Args)+1)+1)=((((k+1)+1)+ai bX x.Args)+1)+1:=wr (by omega) (by omega)
    have cc:decide ((i:Int) < (s.length:Int))=true:=decide_eq_true hlt
    refine ⟨(⟨k,t1,y2,(((k+1)+1)+ai bX x.Args),t4⟩:bH),?_,?_,?_,?_⟩
    · simp only [CE,c2]; exact ⟨(by trivial),m1,d2,(by trivial),m4⟩
    · simp only [gC,c2]
    · exact l2
    · have hp:(((((k+1)+1)+ai bX x.Args)+1)+1)=k+gC x:=by omega
      rw [← hp,← wr1 i (by omega)]
      simp only [fb,cc,if_true,show idx s (i:Int)=some x from by rw [dc,hx],Option.bind_some,Int.toNat_natCast,e0,m1,e1,m2,e3,m4,e4])
    (fun n s k i hi=>by simp only [fb]; rw [if_neg (by simpa using hi)]) N 0 x k hl (by omega) (by omega) h0 (by simpa using h1) (h.2)
  simp only [List.drop_zero,List.take_zero,List.nil_append] at a1 a3
  exact ⟨ys,a1,a3,a4,⟨by omega,a5⟩⟩
theorem wL {N:Nat} (hN:1099000000000≤N) (x:(List af)) (h:(x.length≤4294967296∧∀ y∈x,lS y)) (k:Int) (h0:0≤k) (h1:k+ai dY x≤aB):∃ ys,nL N x k=some (k+ai dY x,ys)∧ai dY ys=ai dY x∧HdL (yg N) dY ys k∧(ys.length≤4294967296∧∀ y∈ys,lS y):=by
  have hl:x.length≤4294967296:=h.1
  obtain ⟨ys,a1,a2,a3,a4,a5⟩:=kP (eh N) (yg N) dY lS rA (fun n s k i x hx hi hlt h0 h1 h=>by
    unfold aB at h1
    have hcnt:dY x=1+1+ai er x.Pats+ai dp x.Conds+ai gC x.Acts:=rfl
    rw [hcnt] at h1
    have n2:=aQ uS x.Pats
    have n3:=aQ tQ x.Conds
    have n4:=aQ uZ x.Acts
    obtain ⟨t0,m0⟩:=mtx hN k (by omega) (by unfold aB; omega)
    have e0:IntKind.i64.wrap (k+1)=k+1:=wr (by omega) (by omega)
    have e1:IntKind.i64.wrap ((k+1)+1)=(k+1)+1:=wr (by omega) (by omega)
    obtain ⟨y2,m2,c2,d2,l2⟩:=xq hN x.Pats (h.1) ((k+1)+1) (by omega) (by unfold aB; omega)
    obtain ⟨y3,m3,c3,d3,l3⟩:=wi hN x.Conds (h.2.1) (((k+1)+1)+ai er x.Pats) (by omega) (by unfold aB; omega)
    obtain ⟨y4,m4,c4,d4,l4⟩:=xK hN x.Acts (h.2.2) ((((k+1)+1)+ai er x.Pats)+ai dp x.Conds) (by omega) (by unfold aB; omega)
    have cc:decide ((i:Int) < (s.length:Int))=true:=decide_eq_true hlt
    refine ⟨(⟨t0,(k+1),y2,y3,y4⟩:af),?_,?_,?_,?_⟩
    · simp only [yg,c2,c3,c4]; exact ⟨m0,(by trivial),d2,d3,d4⟩
    · simp only [dY,c2,c3,c4]
    · exact ⟨l2,l3,l4⟩
    · have hp:(((((k+1)+1)+ai er x.Pats)+ai dp x.Conds)+ai gC x.Acts)=k+dY x:=by omega
      rw [← hp,← wr1 i (by omega)]
      simp only [eh,cc,if_true,show idx s (i:Int)=some x from by rw [dc,hx],Option.bind_some,Int.toNat_natCast,m0,e0,e1,m2,m3,m4])
    (fun n s k i hi=>by simp only [eh]; rw [if_neg (by simpa using hi)]) N 0 x k hl (by omega) (by omega) h0 (by simpa using h1) (h.2)
  simp only [List.drop_zero,List.take_zero,List.nil_append] at a1 a3
  exact ⟨ys,a1,a3,a4,⟨by omega,a5⟩⟩
def jm (x:bl):Int:=ai dY x.Rules
theorem FK (x:bl):0≤jm x:=by
  unfold jm
  have:=aQ rA x.Rules
  omega
theorem FW (x:bl):jm x≤32+32*jP x:=by
  have:=FH x; unfold vm at this; unfold jm; omega
theorem Aj {N:Nat} (hN:1099000000000≤N) (x:bl) (h:vZ x) (k:Int) (h0:0≤k) (h1:k+jm x≤aB):∃ y0,oh N x k=some (k+jm x,y0):=by
  unfold jm aB at *
  have n0:=aQ rA x.Rules
  obtain ⟨y0,m0,c0,d0,l0⟩:=wL hN x.Rules (h) k (by omega) (by unfold aB; omega)
  have hp:k+(ai dY x.Rules)=(k+ai dY x.Rules):=by omega
  refine ⟨y0,?_⟩
  · rw [hp]; simp only [oh,Option.bind_some,m0]
def dk (x:aE):Int:=1+1+1
theorem qe (x:aE):0≤dk x:=by
  unfold dk
  omega
theorem za (x:aE):dk x≤32+32*(bZ x):=by
  unfold dk bZ
  omega
def DN (N:Nat) (x:aE) (k:Int):Prop:=x.K=k∧x.N=(k+1)∧aj N ((k+1)+1)=some x.S
def cg (x:a8):Int:=1+1+ai dk x.Consts+ai one x.At
theorem oT (x:a8):0≤cg x:=by
  unfold cg
  have:=aQ qe x.Consts
  have:=aQ jy x.At
  omega
theorem Ed (x:a8):cg x≤32+32*(cv x):=by
  have:=it (p:=x.Consts) (tot:=bZ) (fun y _=>za y)
  have:=a9 bZ x.Consts (fun y _=>ef y)
  have:=sm (cnt:=one) (p:=x.At) (fun y _=>by simp [one])
  unfold cg cv
  omega
def vB (N:Nat) (x:a8) (k:Int):Prop:=aj N k=some x.Kind∧x.N=(k+1)∧HdL (DN N) dk x.Consts ((k+1)+1)∧HdL (fun x k=>x=k) one x.At (((k+1)+1)+ai dk x.Consts)
def cK (x:ac):Int:=ai one x.Pos+ai one x.Neg
theorem ph (x:ac):0≤cK x:=by
  unfold cK
  have:=aQ jy x.Pos
  have:=aQ jy x.Neg
  omega
theorem DF (x:ac):cK x≤32+32*(cA x):=by
  have:=sm (cnt:=one) (p:=x.Pos) (fun y _=>by simp [one])
  have:=sm (cnt:=one) (p:=x.Neg) (fun y _=>by simp [one])
  unfold cK cA
  omega
def vl (N:Nat) (x:ac) (k:Int):Prop:=HdL (fun x k=>x=k) one x.Pos k∧HdL (fun x k=>x=k) one x.Neg (k+ai one x.Pos)
def vk (x:bd):Int:=ai cg x.Alphas+ai cK x.Chains
theorem LL (x:bd):0≤vk x:=by
  unfold vk
  have:=aQ oT x.Alphas
  have:=aQ ph x.Chains
  omega
theorem Ga (x:bd):vk x≤32+32*(jO x):=by
  have:=it (p:=x.Alphas) (tot:=cv) (fun y _=>Ed y)
  have:=a9 cv x.Alphas (fun y _=>jR y)
  have:=it (p:=x.Chains) (tot:=cA) (fun y _=>DF y)
  have:=a9 cA x.Chains (fun y _=>jZ y)
  unfold vk jO
  omega
def NC (N:Nat) (x:bd) (k:Int):Prop:=HdL (vB N) cg x.Alphas k∧HdL (vl N) cK x.Chains (k+ai cg x.Alphas)
theorem tj {N:Nat} (hN:1099000000000≤N) (x:(List aE)) (h:(x.length≤4294967296)) (k:Int) (h0:0≤k) (h1:k+ai dk x≤aB):∃ ys,mM N x k=some (k+ai dk x,ys)∧ai dk ys=ai dk x∧HdL (DN N) dk ys k∧(ys.length≤4294967296):=by
  have hl:x.length≤4294967296:=h
  obtain ⟨ys,a1,a2,a3,a4,a5⟩:=kP (fo N) (DN N) dk (fun _=>True) qe (fun n s k i x hx hi hlt h0 h1 h=>by
    unfold aB at h1
    have hcnt:dk x=1+1+1:=rfl
    rw [hcnt] at h1
    have e0:IntKind.i64.wrap (k+1)=k+1:=wr (by omega) (by omega)
    have e1:IntKind.i64.wrap ((k+1)+1)=(k+1)+1:=wr (by omega) (by omega)
    obtain ⟨t2,m2⟩:=mtx hN ((k+1)+1) (by omega) (by unfold aB; omega)
    have e2:IntKind.i64.wrap (((k+1)+1)+1)=((k+1)+1)+1:=wr (by omega) (by omega)
    have cc:decide ((i:Int) < (s.length:Int))=true:=decide_eq_true hlt
    refine ⟨(⟨k,(k+1),t2⟩:aE),?_,?_,?_,?_⟩
    · exact ⟨(by trivial),(by trivial),m2⟩
    · simp only [dk]
    · exact trivial
    · have hp:(((k+1)+1)+1)=k+dk x:=by omega
      rw [← hp,← wr1 i (by omega)]
      simp only [fo,cc,if_true,show idx s (i:Int)=some x from by rw [dc,hx],Option.bind_some,Int.toNat_natCast,e0,e1,m2,e2])
    (fun n s k i hi=>by simp only [fo]; rw [if_neg (by simpa using hi)]) N 0 x k hl (by omega) (by omega) h0 (by simpa using h1) (fun _ _=>trivial)
  simp only [List.drop_zero,List.take_zero,List.nil_append] at a1 a3
  exact ⟨ys,a1,a3,a4,by omega⟩
theorem gz {N:Nat} (hN:1099000000000≤N) (x:(List Int)) (h:(x.length≤4294967296)) (k:Int) (h0:0≤k) (h1:k+ai one x≤aB):∃ ys,fD N x k=some (k+ai one x,ys)∧ai one ys=ai one x∧HdL (fun x k=>x=k) one ys k∧(ys.length≤4294967296):=by
  have hl:x.length≤4294967296:=h
  obtain ⟨ys,a1,a2,a3,a4,a5⟩:=kP (fq N) (fun x k=>x=k) one (fun _=>True) jy (fun n s k i x hx hi hlt h0 h1 h=>by
    unfold aB at h1
    simp only [one] at h1
    have e0:IntKind.i64.wrap (k+1)=k+1:=wr (by omega) (by omega)
    have cc:decide ((i:Int) < (s.length:Int))=true:=decide_eq_true hlt
    refine ⟨k,(by trivial),rfl,trivial,?_⟩
    · have hp:(k+1)=k+one x:=by rfl
      rw [← hp,← wr1 i (by omega)]
      simp only [fq,cc,if_true,show idx s (i:Int)=some x from by rw [dc,hx],Option.bind_some,Int.toNat_natCast,e0])
    (fun n s k i hi=>by simp only [fq]; rw [if_neg (by simpa using hi)]) N 0 x k hl (by omega) (by omega) h0 (by simpa using h1) (fun _ _=>trivial)
  simp only [List.drop_zero,List.take_zero,List.nil_append] at a1 a3
  exact ⟨ys,a1,a3,a4,by omega⟩
theorem oO {N:Nat} (hN:1099000000000≤N) (x:(List Int)) (h:(x.length≤4294967296)) (k:Int) (h0:0≤k) (h1:k+ai one x≤aB) (hh:HdL (fun x k=>x=k) one x k):io N x k=some (k+ai one x):=by
  have hl:x.length≤4294967296:=h
  have:=yo (dQ N x) x (fun x k=>x=k) one (fun _=>True) jy hl (fun _ _=>trivial) (fun n k i y hx hi hlt h0 h1 h hy=>by
    unfold aB at h1
    simp only [one] at h1
    have e0:IntKind.i64.wrap (k+1)=k+1:=wr (by omega) (by omega)
    have cc:decide ((i:Int) < (x.length:Int))=true:=decide_eq_true hlt
    have hp:(k+1)=k+one y:=by rfl
    have q0:=hy
    rw [← hp,← wr1 i (by omega)]
    have hb:∀ {β:Type} (f:Int→Option β),(idx x (i:Int)).bind f=f y:=fun f=>by rw [dc,hx]; rfl
    simp only [dQ,cc,if_true]
    simp only [e0]
    simp only [↓hb,↓reduceIte,sd,decide_true,Bool.not_true,Bool.false_eq_true,bne_self_eq_false,q0,e0])
    (fun n k i hi=>by simp only [dQ]; rw [if_neg (by simpa using hi)]) N 0 k (by omega) (by omega) h0 (by simpa using h1) (by simpa using hh)
  unfold io; simpa using this
theorem vu {N:Nat} (hN:1099000000000≤N) (x:(List a8)) (h:(x.length≤4294967296∧∀ y∈x,jQ y)) (k:Int) (h0:0≤k) (h1:k+ai cg x≤aB):∃ ys,lU N x k=some (k+ai cg x,ys)∧ai cg ys=ai cg x∧HdL (vB N) cg ys k∧(ys.length≤4294967296∧∀ y∈ys,jQ y):=by
  have hl:x.length≤4294967296:=h.1
  obtain ⟨ys,a1,a2,a3,a4,a5⟩:=kP (dA N) (vB N) cg jQ oT (fun n s k i x hx hi hlt h0 h1 h=>by
    unfold aB at h1
    have hcnt:cg x=1+1+ai dk x.Consts+ai one x.At:=rfl
    rw [hcnt] at h1
    have n2:=aQ qe x.Consts
    have n3:=aQ jy x.At
    obtain ⟨t0,m0⟩:=mtx hN k (by omega) (by unfold aB; omega)
    have e0:IntKind.i64.wrap (k+1)=k+1:=wr (by omega) (by omega)
    have e1:IntKind.i64.wrap ((k+1)+1)=(k+1)+1:=wr (by omega) (by omega)
    obtain ⟨y2,m2,c2,d2,l2⟩:=tj hN x.Consts (h.1) ((k+1)+1) (by omega) (by unfold aB; omega)
    obtain ⟨y3,m3,c3,d3,l3⟩:=gz hN x.At (h.2) (((k+1)+1)+ai dk x.Consts) (by omega) (by unfold aB; omega)
    have cc:decide ((i:Int) < (s.length:Int))=true:=decide_eq_true hlt
    refine ⟨(⟨t0,(k+1),y2,y3⟩:a8),?_,?_,?_,?_⟩
    · simp only [vB,c2,c3]; exact ⟨m0,(by trivial),d2,d3⟩
    · simp only [cg,c2,c3]
    · exact ⟨l2,l3⟩
    · have hp:((((k+1)+1)+ai dk x.Consts)+ai one x.At)=k+cg x:=by omega
      rw [← hp,← wr1 i (by omega)]
      simp only [dA,cc,if_true,show idx s (i:Int)=some x from by rw [dc,hx],Option.bind_some,Int.toNat_natCast,m0,e0,e1,m2,m3])
    (fun n s k i hi=>by simp only [dA]; rw [if_neg (by simpa using hi)]) N 0 x k hl (by omega) (by omega) h0 (by simpa using h1) (h.2)
  simp only [List.drop_zero,List.take_zero,List.nil_append] at a1 a3
  exact ⟨ys,a1,a3,a4,⟨by omega,a5⟩⟩
theorem vJ {N:Nat} (hN:1099000000000≤N) (x:(List ac)) (h:(x.length≤4294967296∧∀ y∈x,jY y)) (k:Int) (h0:0≤k) (h1:k+ai cK x≤aB):∃ ys,mO N x k=some (k+ai cK x,ys)∧ai cK ys=ai cK x∧HdL (vl N) cK ys k∧(ys.length≤4294967296∧∀ y∈ys,jY y):=by
  have hl:x.length≤4294967296:=h.1
  obtain ⟨ys,a1,a2,a3,a4,a5⟩:=kP (df N) (vl N) cK jY ph (fun n s k i x hx hi hlt h0 h1 h=>by
    unfold aB at h1
    have hcnt:cK x=ai one x.Pos+ai one x.Neg:=rfl
    rw [hcnt] at h1
    have n0:=aQ jy x.Pos
    have n1:=aQ jy x.Neg
    obtain ⟨y0,m0,c0,d0,l0⟩:=gz hN x.Pos (h.1) k (by omega) (by unfold aB; omega)
    obtain ⟨y1,m1,c1,d1,l1⟩:=gz hN x.Neg (h.2) (k+ai one x.Pos) (by omega) (by unfold aB; omega)
    have cc:decide ((i:Int) < (s.length:Int))=true:=decide_eq_true hlt
    refine ⟨(⟨y0,y1⟩:ac),?_,?_,?_,?_⟩
    · simp only [vl,c0,c1]; exact ⟨d0,d1⟩
    · simp only [cK,c0,c1]
    · exact ⟨l0,l1⟩
    · have hp:((k+ai one x.Pos)+ai one x.Neg)=k+cK x:=by omega
      rw [← hp,← wr1 i (by omega)]
      simp only [df,cc,if_true,show idx s (i:Int)=some x from by rw [dc,hx],Option.bind_some,Int.toNat_natCast,m0,m1])
    (fun n s k i hi=>by simp only [df]; rw [if_neg (by simpa using hi)]) N 0 x k hl (by omega) (by omega) h0 (by simpa using h1) (h.2)
  simp only [List.drop_zero,List.take_zero,List.nil_append] at a1 a3
  exact ⟨ys,a1,a3,a4,⟨by omega,a5⟩⟩
def kH (x:bd):Int:=ai cg x.Alphas+ai cK x.Chains
theorem FD (x:bd):0≤kH x:=by
  unfold kH
  have:=aQ oT x.Alphas
  have:=aQ ph x.Chains
  omega
theorem Gn (x:bd):kH x≤32+32*jO x:=by
  have:=Ga x; unfold vk at this; unfold kH; omega
theorem yj {N:Nat} (hN:1099000000000≤N) (x:bd) (h:vp x) (k:Int) (h0:0≤k) (h1:k+kH x≤aB):∃ y0 y1,nW N x k=some (k+kH x,y0,y1):=by
  unfold kH aB at *
  have n0:=aQ oT x.Alphas
  have n1:=aQ ph x.Chains
  obtain ⟨y0,m0,c0,d0,l0⟩:=vu hN x.Alphas (h.1) k (by omega) (by unfold aB; omega)
  obtain ⟨y1,m1,c1,d1,l1⟩:=vJ hN x.Chains (h.2) (k+ai cg x.Alphas) (by omega) (by unfold aB; omega)
  have hp:k+(ai cg x.Alphas+ai cK x.Chains)=((k+ai cg x.Alphas)+ai cK x.Chains):=by omega
  refine ⟨y0,y1,?_⟩
  · rw [hp]; simp only [nW,Option.bind_some,m0,m1]
def cf (x:aP):Int:=ai one x.L
theorem q7 (x:aP):0≤cf x:=by
  unfold cf
  have:=aQ jy x.L
  omega
theorem Gt (x:aP):cf x≤32+32*(f8 x):=by
  have:=sm (cnt:=one) (p:=x.L) (fun y _=>by simp [one])
  unfold cf f8
  omega
def uY (N:Nat) (x:aP) (k:Int):Prop:=HdL (fun x k=>x=k) one x.L k
def cB (x:ak):Int:=ai one x.Ids+ai one x.Hits
theorem pN (x:ak):0≤cB x:=by
  unfold cB
  have:=aQ jy x.Ids
  have:=aQ jy x.Hits
  omega
theorem Gq (x:ak):cB x≤32+32*(eZ x):=by
  have:=sm (cnt:=one) (p:=x.Ids) (fun y _=>by simp [one])
  have:=sm (cnt:=one) (p:=x.Hits) (fun y _=>by simp [one])
  unfold cB eZ
  omega
def wt (N:Nat) (x:ak) (k:Int):Prop:=HdL (fun x k=>x=k) one x.Ids k∧HdL (fun x k=>x=k) one x.Hits (k+ai one x.Ids)
def bz (x:ae):Int:=ai cB x.Toks
theorem mJ (x:ae):0≤bz x:=by
  unfold bz
  have:=aQ pN x.Toks
  omega
theorem Db (x:ae):bz x≤32+32*(bT x):=by
  have:=it (p:=x.Toks) (tot:=eZ) (fun y _=>Gq y)
  have:=a9 eZ x.Toks (fun y _=>nv y)
  unfold bz bT
  omega
def qU (N:Nat) (x:ae) (k:Int):Prop:=HdL (wt N) cB x.Toks k
def cW (x:aC):Int:=ai bz x.Levels
theorem qC (x:aC):0≤cW x:=by
  unfold cW
  have:=aQ mJ x.Levels
  omega
theorem Gd (x:aC):cW x≤32+32*(eC x):=by
  have:=it (p:=x.Levels) (tot:=bT) (fun y _=>Db y)
  have:=a9 bT x.Levels (fun y _=>jL y)
  unfold cW eC
  omega
def uU (N:Nat) (x:aC) (k:Int):Prop:=HdL (qU N) bz x.Levels k
def vi (x:aG):Int:=ai cf x.Alphas+ai cW x.Rules
theorem Kk (x:aG):0≤vi x:=by
  unfold vi
  have:=aQ q7 x.Alphas
  have:=aQ qC x.Rules
  omega
theorem Gr (x:aG):vi x≤32+32*(gf x):=by
  have:=it (p:=x.Alphas) (tot:=f8) (fun y _=>Gt y)
  have:=a9 f8 x.Alphas (fun y _=>nu y)
  have:=it (p:=x.Rules) (tot:=eC) (fun y _=>Gd y)
  have:=a9 eC x.Rules (fun y _=>nh y)
  unfold vi gf
  omega
def Ns (N:Nat) (x:aG) (k:Int):Prop:=HdL (uY N) cf x.Alphas k∧HdL (uU N) cW x.Rules (k+ai cf x.Alphas)
theorem xv {N:Nat} (hN:1099000000000≤N) (x:(List aP)) (h:(x.length≤4294967296∧∀ y∈x,jS y)) (k:Int) (h0:0≤k) (h1:k+ai cf x≤aB):∃ ys,p8 N x k=some (k+ai cf x,ys)∧ai cf ys=ai cf x∧HdL (uY N) cf ys k∧(ys.length≤4294967296∧∀ y∈ys,jS y):=by
  have hl:x.length≤4294967296:=h.1
  obtain ⟨ys,a1,a2,a3,a4,a5⟩:=kP (fk N) (uY N) cf jS q7 (fun n s k i x hx hi hlt h0 h1 h=>by
    unfold aB at h1
    have hcnt:cf x=ai one x.L:=rfl
    rw [hcnt] at h1
    have n0:=aQ jy x.L
    obtain ⟨y0,m0,c0,d0,l0⟩:=gz hN x.L (h) k (by omega) (by unfold aB; omega)
    have cc:decide ((i:Int) < (s.length:Int))=true:=decide_eq_true hlt
    refine ⟨(⟨y0⟩:aP),?_,?_,?_,?_⟩
    · simp only [uY,c0]; exact d0
    · simp only [cf,c0]
    · exact l0
    · have hp:(k+ai one x.L)=k+cf x:=by omega
      rw [← hp,← wr1 i (by omega)]
      simp only [fk,cc,if_true,show idx s (i:Int)=some x from by rw [dc,hx],Option.bind_some,Int.toNat_natCast,m0])
    (fun n s k i hi=>by simp only [fk]; rw [if_neg (by simpa using hi)]) N 0 x k hl (by omega) (by omega) h0 (by simpa using h1) (h.2)
  simp only [List.drop_zero,List.take_zero,List.nil_append] at a1 a3
  exact ⟨ys,a1,a3,a4,⟨by omega,a5⟩⟩
theorem xO {N:Nat} (hN:1099000000000≤N) (x:(List aP)) (h:(x.length≤4294967296∧∀ y∈x,jS y)) (k:Int) (h0:0≤k) (h1:k+ai cf x≤aB) (hh:HdL (uY N) cf x k):mK N x k=some (k+ai cf x):=by
  have hl:x.length≤4294967296:=h.1
  have:=yo (dR N x) x (uY N) cf jS q7 hl (h.2) (fun n k i y hx hi hlt h0 h1 h hy=>by
    unfold aB at h1
    have hcnt:cf y=ai one y.L:=rfl
    rw [hcnt] at h1
    have n0:=aQ jy y.L
    have a0:0≤k:=by omega
    have d0:k+ai one y.L≤aB:=by unfold aB; omega
    have p0:decide ((k+ai one y.L) < 0)=false:=decide_eq_false (by omega)
    have cc:decide ((i:Int) < (x.length:Int))=true:=decide_eq_true hlt
    have hp:(k+ai one y.L)=k+cf y:=by omega
    have q0:=hy; simp only [uY] at q0
    have m0:=oO hN y.L (h) k a0 d0 q0
    rw [← hp,← wr1 i (by omega)]
    have hb:∀ {β:Type} (f:aP→Option β),(idx x (i:Int)).bind f=f y:=fun f=>by rw [dc,hx]; rfl
    have bm0:=fun (β:Type)=>@Fp _ _ _ m0 β
    simp only [dR,cc,if_true]
    simp only [↓hb,↓bm0,↓reduceIte,sd,decide_true,Bool.not_true,Bool.false_eq_true,bne_self_eq_false,p0])
    (fun n k i hi=>by simp only [dR]; rw [if_neg (by simpa using hi)]) N 0 k (by omega) (by omega) h0 (by simpa using h1) (by simpa using hh)
  unfold mK; simpa using this
theorem xT {N:Nat} (hN:1099000000000≤N) (x:(List ak)) (h:(x.length≤4294967296∧∀ y∈x,mG y)) (k:Int) (h0:0≤k) (h1:k+ai cB x≤aB):∃ ys,pi N x k=some (k+ai cB x,ys)∧ai cB ys=ai cB x∧HdL (wt N) cB ys k∧(ys.length≤4294967296∧∀ y∈ys,mG y):=by
  have hl:x.length≤4294967296:=h.1
  obtain ⟨ys,a1,a2,a3,a4,a5⟩:=kP (fc N) (wt N) cB mG pN (fun n s k i x hx hi hlt h0 h1 h=>by
    unfold aB at h1
    have hcnt:cB x=ai one x.Ids+ai one x.Hits:=rfl
    rw [hcnt] at h1
    have n0:=aQ jy x.Ids
    have n1:=aQ jy x.Hits
    obtain ⟨y0,m0,c0,d0,l0⟩:=gz hN x.Ids (h.1) k (by omega) (by unfold aB; omega)
    obtain ⟨y1,m1,c1,d1,l1⟩:=gz hN x.Hits (h.2) (k+ai one x.Ids) (by omega) (by unfold aB; omega)
    have cc:decide ((i:Int) < (s.length:Int))=true:=decide_eq_true hlt
    refine ⟨(⟨y0,y1⟩:ak),?_,?_,?_,?_⟩
    · simp only [wt,c0,c1]; exact ⟨d0,d1⟩
    · simp only [cB,c0,c1]
    · exact ⟨l0,l1⟩
    · have hp:((k+ai one x.Ids)+ai one x.Hits)=k+cB x:=by omega
      rw [← hp,← wr1 i (by omega)]
      simp only [fc,cc,if_true,show idx s (i:Int)=some x from by rw [dc,hx],Option.bind_some,Int.toNat_natCast,m0,m1])
    (fun n s k i hi=>by simp only [fc]; rw [if_neg (by simpa using hi)]) N 0 x k hl (by omega) (by omega) h0 (by simpa using h1) (h.2)
  simp only [List.drop_zero,List.take_zero,List.nil_append] at a1 a3
  exact ⟨ys,a1,a3,a4,⟨by omega,a5⟩⟩
theorem xx {N:Nat} (hN:1099000000000≤N) (x:(List ak)) (h:(x.length≤4294967296∧∀ y∈x,mG y)) (k:Int) (h0:0≤k) (h1:k+ai cB x≤aB) (hh:HdL (wt N) cB x k):mj N x k=some (k+ai cB x):=by
  have hl:x.length≤4294967296:=h.1
  have:=yo (dL N x) x (wt N) cB mG pN hl (h.2) (fun n k i y hx hi hlt h0 h1 h hy=>by
    unfold aB at h1
    have hcnt:cB y=ai one y.Ids+ai one y.Hits:=rfl
    rw [hcnt] at h1
    have n0:=aQ jy y.Ids
    have n1:=aQ jy y.Hits
    have a0:0≤k:=by omega
    have d0:k+ai one y.Ids≤aB:=by unfold aB; omega
    have p0:decide ((k+ai one y.Ids) < 0)=false:=decide_eq_false (by omega)
    have a1:0≤(k+ai one y.Ids):=by omega
    have d1:(k+ai one y.Ids)+ai one y.Hits≤aB:=by unfold aB; omega
    have p1:decide (((k+ai one y.Ids)+ai one y.Hits) < 0)=false:=decide_eq_false (by omega)
    have cc:decide ((i:Int) < (x.length:Int))=true:=decide_eq_true hlt
    have hp:((k+ai one y.Ids)+ai one y.Hits)=k+cB y:=by omega
    obtain ⟨q0,q1⟩:=hy
    have m0:=oO hN y.Ids (h.1) k a0 d0 q0
    have m1:=oO hN y.Hits (h.2) (k+ai one y.Ids) a1 d1 q1
    rw [← hp,← wr1 i (by omega)]
    have hb:∀ {β:Type} (f:ak→Option β),(idx x (i:Int)).bind f=f y:=fun f=>by rw [dc,hx]; rfl
    have bm0:=fun (β:Type)=>@Fp _ _ _ m0 β
    have bm1:=fun (β:Type)=>@Fp _ _ _ m1 β
    simp only [dL,cc,if_true]
    simp only [↓hb,↓bm0,↓bm1,↓reduceIte,sd,decide_true,Bool.not_true,Bool.false_eq_true,bne_self_eq_false,p0,p1])
    (fun n k i hi=>by simp only [dL]; rw [if_neg (by simpa using hi)]) N 0 k (by omega) (by omega) h0 (by simpa using h1) (by simpa using hh)
  unfold mj; simpa using this
theorem vq {N:Nat} (hN:1099000000000≤N) (x:(List ae)) (h:(x.length≤4294967296∧∀ y∈x,gX y)) (k:Int) (h0:0≤k) (h1:k+ai bz x≤aB):∃ ys,lM N x k=some (k+ai bz x,ys)∧ai bz ys=ai bz x∧HdL (qU N) bz ys k∧(ys.length≤4294967296∧∀ y∈ys,gX y):=by
  have hl:x.length≤4294967296:=h.1
  obtain ⟨ys,a1,a2,a3,a4,a5⟩:=kP (dm N) (qU N) bz gX mJ (fun n s k i x hx hi hlt h0 h1 h=>by
    unfold aB at h1
    have hcnt:bz x=ai cB x.Toks:=rfl
    rw [hcnt] at h1
    have n0:=aQ pN x.Toks
    obtain ⟨y0,m0,c0,d0,l0⟩:=xT hN x.Toks (h) k (by omega) (by unfold aB; omega)
    have cc:decide ((i:Int) < (s.length:Int))=true:=decide_eq_true hlt
    refine ⟨(⟨y0⟩:ae),?_,?_,?_,?_⟩
    · simp only [qU,c0]; exact d0
    · simp only [bz,c0]
    · exact l0
    · have hp:(k+ai cB x.Toks)=k+bz x:=by omega
      rw [← hp,← wr1 i (by omega)]
      simp only [dm,cc,if_true,show idx s (i:Int)=some x from by rw [dc,hx],Option.bind_some,Int.toNat_natCast,m0])
    (fun n s k i hi=>by simp only [dm]; rw [if_neg (by simpa using hi)]) N 0 x k hl (by omega) (by omega) h0 (by simpa using h1) (h.2)
  simp only [List.drop_zero,List.take_zero,List.nil_append] at a1 a3
  exact ⟨ys,a1,a3,a4,⟨by omega,a5⟩⟩
theorem vI {N:Nat} (hN:1099000000000≤N) (x:(List ae)) (h:(x.length≤4294967296∧∀ y∈x,gX y)) (k:Int) (h0:0≤k) (h1:k+ai bz x≤aB) (hh:HdL (qU N) bz x k):jK N x k=some (k+ai bz x):=by
  have hl:x.length≤4294967296:=h.1
  have:=yo (cH N x) x (qU N) bz gX mJ hl (h.2) (fun n k i y hx hi hlt h0 h1 h hy=>by
    unfold aB at h1
    have hcnt:bz y=ai cB y.Toks:=rfl
    rw [hcnt] at h1
    have n0:=aQ pN y.Toks
    have a0:0≤k:=by omega
    have d0:k+ai cB y.Toks≤aB:=by unfold aB; omega
    have p0:decide ((k+ai cB y.Toks) < 0)=false:=decide_eq_false (by omega)
    have cc:decide ((i:Int) < (x.length:Int))=true:=decide_eq_true hlt
    have hp:(k+ai cB y.Toks)=k+bz y:=by omega
    have q0:=hy; simp only [qU] at q0
    have m0:=xx hN y.Toks (h) k a0 d0 q0
    rw [← hp,← wr1 i (by omega)]
    have hb:∀ {β:Type} (f:ae→Option β),(idx x (i:Int)).bind f=f y:=fun f=>by rw [dc,hx]; rfl
    have bm0:=fun (β:Type)=>@Fp _ _ _ m0 β
    simp only [cH,cc,if_true]
    simp only [↓hb,↓bm0,↓reduceIte,sd,decide_true,Bool.not_true,Bool.false_eq_true,bne_self_eq_false,p0])
    (fun n k i hi=>by simp only [cH]; rw [if_neg (by simpa using hi)]) N 0 k (by omega) (by omega) h0 (by simpa using h1) (by simpa using hh)
  unfold jK; simpa using this
theorem xP {N:Nat} (hN:1099000000000≤N) (x:(List aC)) (h:(x.length≤4294967296∧∀ y∈x,kI y)) (k:Int) (h0:0≤k) (h1:k+ai cW x≤aB):∃ ys,oY N x k=some (k+ai cW x,ys)∧ai cW ys=ai cW x∧HdL (uU N) cW ys k∧(ys.length≤4294967296∧∀ y∈ys,kI y):=by
  have hl:x.length≤4294967296:=h.1
  obtain ⟨ys,a1,a2,a3,a4,a5⟩:=kP (fm N) (uU N) cW kI qC (fun n s k i x hx hi hlt h0 h1 h=>by
    unfold aB at h1
    have hcnt:cW x=ai bz x.Levels:=rfl
    rw [hcnt] at h1
    have n0:=aQ mJ x.Levels
    obtain ⟨y0,m0,c0,d0,l0⟩:=vq hN x.Levels (h) k (by omega) (by unfold aB; omega)
    have cc:decide ((i:Int) < (s.length:Int))=true:=decide_eq_true hlt
    refine ⟨(⟨y0⟩:aC),?_,?_,?_,?_⟩
    · simp only [uU,c0]; exact d0
    · simp only [cW,c0]
    · exact l0
    · have hp:(k+ai bz x.Levels)=k+cW x:=by omega
      rw [← hp,← wr1 i (by omega)]
      simp only [fm,cc,if_true,show idx s (i:Int)=some x from by rw [dc,hx],Option.bind_some,Int.toNat_natCast,m0])
    (fun n s k i hi=>by simp only [fm]; rw [if_neg (by simpa using hi)]) N 0 x k hl (by omega) (by omega) h0 (by simpa using h1) (h.2)
  simp only [List.drop_zero,List.take_zero,List.nil_append] at a1 a3
  exact ⟨ys,a1,a3,a4,⟨by omega,a5⟩⟩
theorem xL {N:Nat} (hN:1099000000000≤N) (x:(List aC)) (h:(x.length≤4294967296∧∀ y∈x,kI y)) (k:Int) (h0:0≤k) (h1:k+ai cW x≤aB) (hh:HdL (uU N) cW x k):lT N x k=some (k+ai cW x):=by
  have hl:x.length≤4294967296:=h.1
  have:=yo (dS N x) x (uU N) cW kI qC hl (h.2) (fun n k i y hx hi hlt h0 h1 h hy=>by
    unfold aB at h1
    have hcnt:cW y=ai bz y.Levels:=rfl
    rw [hcnt] at h1
    have n0:=aQ mJ y.Levels
    have a0:0≤k:=by omega
    have d0:k+ai bz y.Levels≤aB:=by unfold aB; omega
    have p0:decide ((k+ai bz y.Levels) < 0)=false:=decide_eq_false (by omega)
    have cc:decide ((i:Int) < (x.length:Int))=true:=decide_eq_true hlt
    have hp:(k+ai bz y.Levels)=k+cW y:=by omega
    have q0:=hy; simp only [uU] at q0
    have m0:=vI hN y.Levels (h) k a0 d0 q0
    rw [← hp,← wr1 i (by omega)]
    have hb:∀ {β:Type} (f:aC→Option β),(idx x (i:Int)).bind f=f y:=fun f=>by rw [dc,hx]; rfl
    have bm0:=fun (β:Type)=>@Fp _ _ _ m0 β
    simp only [dS,cc,if_true]
    simp only [↓hb,↓bm0,↓reduceIte,sd,decide_true,Bool.not_true,Bool.false_eq_true,bne_self_eq_false,p0])
    (fun n k i hi=>by simp only [dS]; rw [if_neg (by simpa using hi)]) N 0 k (by omega) (by omega) h0 (by simpa using h1) (by simpa using hh)
  unfold lT; simpa using this
def kF (x:aG):Int:=ai cf x.Alphas+ai cW x.Rules
theorem yM (x:aG):0≤kF x:=by
  unfold kF
  have:=aQ q7 x.Alphas
  have:=aQ qC x.Rules
  omega
theorem zE (x:aG):kF x≤32+32*gf x:=by
  have:=Gr x; unfold vi at this; unfold kF; omega
theorem tY {N:Nat} (hN:1099000000000≤N) (x:aG) (h:pe x) (k:Int) (h0:0≤k) (h1:k+kF x≤aB):∃ y0 y1,l5 N x k=some (k+kF x,y0,y1)∧lz N (⟨y0,y1⟩:aG) k=some (k+kF x):=by
  unfold kF aB at *
  have n0:=aQ q7 x.Alphas
  have n1:=aQ qC x.Rules
  obtain ⟨y0,m0,c0,d0,l0⟩:=xv hN x.Alphas (h.1) k (by omega) (by unfold aB; omega)
  have w0:=xO hN y0 l0 k (by omega) (by rw [c0]; unfold aB; omega) d0
  rw [c0] at w0
  have p0:decide ((k+ai cf x.Alphas) < 0)=false:=decide_eq_false (by omega)
  obtain ⟨y1,m1,c1,d1,l1⟩:=xP hN x.Rules (h.2) (k+ai cf x.Alphas) (by omega) (by unfold aB; omega)
  have w1:=xL hN y1 l1 (k+ai cf x.Alphas) (by omega) (by rw [c1]; unfold aB; omega) d1
  rw [c1] at w1
  have p1:decide (((k+ai cf x.Alphas)+ai cW x.Rules) < 0)=false:=decide_eq_false (by omega)
  have hp:k+(ai cf x.Alphas+ai cW x.Rules)=((k+ai cf x.Alphas)+ai cW x.Rules):=by omega
  refine ⟨y0,y1,?_,?_⟩
  · rw [hp]; simp only [l5,Option.bind_some,m0,m1]
  · rw [hp]; simp only [lz,Option.bind_some,Bool.false_eq_true,if_false,w0,p0,w1,p1]
def dG (x:aY):Int:=1+1+ai dk x.F.Fields
theorem rD (x:aY):0≤dG x:=by
  unfold dG
  have:=aQ qe x.F.Fields
  omega
theorem Ev (x:aY):dG x≤32+32*(dF x):=by
  have:=it (p:=x.F.Fields) (tot:=bZ) (fun y _=>za y)
  have:=a9 bZ x.F.Fields (fun y _=>ef y)
  unfold dG dF mv
  omega
def yd (N:Nat) (x:aY) (k:Int):Prop:=x.Id=k∧aj N (k+1)=some x.F.Kind∧HdL (DN N) dk x.F.Fields ((k+1)+1)
def sL (x:ah):Int:=ai dG x.Items+1
theorem IP (x:ah):0≤sL x:=by
  unfold sL
  have:=aQ rD x.Items
  omega
theorem CA (x:ah):sL x≤32+32*(fT x):=by
  have:=it (p:=x.Items) (tot:=dF) (fun y _=>Ev y)
  have:=a9 dF x.Items (fun y _=>lH y)
  unfold sL fT
  omega
def MB (N:Nat) (x:ah) (k:Int):Prop:=HdL (yd N) dG x.Items k∧x.Next=(k+ai dG x.Items)
theorem wu {N:Nat} (hN:1099000000000≤N) (x:(List aY)) (h:(x.length≤4294967296∧∀ y∈x,mP y)) (k:Int) (h0:0≤k) (h1:k+ai dG x≤aB):∃ ys,nK N x k=some (k+ai dG x,ys)∧ai dG ys=ai dG x∧HdL (yd N) dG ys k∧(ys.length≤4294967296∧∀ y∈ys,mP y):=by
  have hl:x.length≤4294967296:=h.1
  obtain ⟨ys,a1,a2,a3,a4,a5⟩:=kP (ee N) (yd N) dG mP rD (fun n s k i x hx hi hlt h0 h1 h=>by
    unfold aB at h1
    have hcnt:dG x=1+1+ai dk x.F.Fields:=rfl
    rw [hcnt] at h1
    have n2:=aQ qe x.F.Fields
    have e0:IntKind.i64.wrap (k+1)=k+1:=wr (by omega) (by omega)
    obtain ⟨t1,m1⟩:=mtx hN (k+1) (by omega) (by unfold aB; omega)
    have e1:IntKind.i64.wrap ((k+1)+1)=(k+1)+1:=wr (by omega) (by omega)
    obtain ⟨y2,m2,c2,d2,l2⟩:=tj hN x.F.Fields (h) ((k+1)+1) (by omega) (by unfold aB; omega)
    have cc:decide ((i:Int) < (s.length:Int))=true:=decide_eq_true hlt
    refine ⟨(⟨k,(⟨t1,y2⟩:aA)⟩:aY),?_,?_,?_,?_⟩
    · simp only [yd,c2]; exact ⟨(by trivial),m1,d2⟩
    · simp only [dG,c2]
    · exact l2
    · have hp:(((k+1)+1)+ai dk x.F.Fields)=k+dG x:=by omega
      rw [← hp,← wr1 i (by omega)]
      simp only [ee,cc,if_true,show idx s (i:Int)=some x from by rw [dc,hx],Option.bind_some,Int.toNat_natCast,e0,m1,e1,m2])
    (fun n s k i hi=>by simp only [ee]; rw [if_neg (by simpa using hi)]) N 0 x k hl (by omega) (by omega) h0 (by simpa using h1) (h.2)
  simp only [List.drop_zero,List.take_zero,List.nil_append] at a1 a3
  exact ⟨ys,a1,a3,a4,⟨by omega,a5⟩⟩
def l8 (x:ah):Int:=ai dG x.Items
theorem Ea (x:ah):0≤l8 x:=by
  unfold l8
  have:=aQ rD x.Items
  omega
theorem DD (x:ah):l8 x≤32+32*fT x:=by
  have:=CA x; unfold sL at this; unfold l8; omega
theorem wR {N:Nat} (hN:1099000000000≤N) (x:ah) (h:rY x) (k:Int) (h0:0≤k) (h1:k+l8 x≤aB):∃ y0,km N x k=some (k+l8 x,y0):=by
  unfold l8 aB at *
  have n0:=aQ rD x.Items
  obtain ⟨y0,m0,c0,d0,l0⟩:=wu hN x.Items (h) k (by omega) (by unfold aB; omega)
  have hp:k+(ai dG x.Items)=(k+ai dG x.Items):=by omega
  refine ⟨y0,?_⟩
  · rw [hp]; simp only [km,Option.bind_some,m0]
end Go.Proofs.YtkdffjpgnhobhaaGreat
