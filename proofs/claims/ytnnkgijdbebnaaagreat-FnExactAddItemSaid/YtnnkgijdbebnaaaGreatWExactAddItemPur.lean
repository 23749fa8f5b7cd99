/- Printed by a program of ours: the plain laws of the sizes, copies, comparisons and marks. -/
import Derived.Test.YtnnkgijdbebnaaaGreatPLib
import Derived.Test.YtnnkgijdbebnaaaGreatWExactAddItemMod
namespace Go.Proofs.YtnnkgijdbebnaaaGreat
open Eng
set_option linter.unusedVariables false
set_option linter.unusedSimpArgs false
set_option maxRecDepth 10000
def wV (x:aL):Prop:=(WfI .i64) x.K∧(WfI .i64) x.N∧WfS x.S
def cl (x:aL):Int:=((x.S.size:Int))
theorem eC (x:aL):0≤cl x:=by
 unfold cl
 omega
def uu (x:be):Prop:=(WfI .i64) x.K∧WfS x.S∧wV x.V
def dv (x:be):Int:=((x.S.size:Int))+(cl x.V)
theorem cL (x:be):0≤dv x:=by
 unfold dv
 have:=eC x.V
 omega
def Ey (x:av):Prop:=WfS x.Kind∧(WfL uu) x.Args∧WfB x.Not
def et (x:av):Int:=((x.Kind.size:Int))+((x.Args.length:Int)+(x.Args.map dv).sum)
theorem nD (x:av):0≤et x:=by
 unfold et
 have:=ac dv x.Args (fun y _=>cL y)
 omega
def z5 (x:bn):Prop:=(WfI .i64) x.Op∧uu x.L∧uu x.R
def fa (x:bn):Int:=(dv x.L)+(dv x.R)
theorem lJ (x:bn):0≤fa x:=by
 unfold fa
 have:=cL x.L
 have:=cL x.R
 omega
def yY (x:bk):Prop:=WfS x.Op∧uu x.L∧uu x.R
def eu (x:bk):Int:=((x.Op.size:Int))+(dv x.L)+(dv x.R)
theorem ke (x:bk):0≤eu x:=by
 unfold eu
 have:=cL x.L
 have:=cL x.R
 omega
def EV (x:bM):Prop:=(WfI .i64) x.Kind∧WfS x.Name∧(WfL yY) x.Args∧(WfI .i64) x.N∧WfS x.Undo
def es (x:bM):Int:=((x.Name.size:Int))+((x.Args.length:Int)+(x.Args.map eu).sum)+((x.Undo.size:Int))
theorem o6 (x:bM):0≤es x:=by
 unfold es
 have:=ac eu x.Args (fun y _=>ke y)
 omega
def yV (x:ag):Prop:=WfS x.Name∧(WfI .i64) x.Sal∧(WfL Ey) x.Pats∧(WfL z5) x.Conds∧(WfL EV) x.Acts
def dZ (x:ag):Int:=((x.Name.size:Int))+((x.Pats.length:Int)+(x.Pats.map et).sum)+((x.Conds.length:Int)+(x.Conds.map fa).sum)+((x.Acts.length:Int)+(x.Acts.map es).sum)
theorem mi (x:ag):0≤dZ x:=by
 unfold dZ
 have:=ac et x.Pats (fun y _=>nD y)
 have:=ac fa x.Conds (fun y _=>lJ y)
 have:=ac es x.Acts (fun y _=>o6 y)
 omega
def EZ (x:bo):Prop:=WfS x.Name∧(WfL yV) x.Rules
def kE (x:bo):Int:=((x.Name.size:Int))+((x.Rules.length:Int)+(x.Rules.map dZ).sum)
theorem GJ (x:bo):0≤kE x:=by
 unfold kE
 have:=ac dZ x.Rules (fun y _=>mi y)
 omega
def wO (x:a9):Prop:=WfS x.Kind∧(WfI .i64) x.N∧(WfL wV) x.Consts∧(WfL (WfI .i64)) x.At
def cT (x:a9):Int:=((x.Kind.size:Int))+((x.Consts.length:Int)+(x.Consts.map cl).sum)+((x.At.length:Int))
theorem kG (x:a9):0≤cT x:=by
 unfold cT
 have:=ac cl x.Consts (fun y _=>eC y)
 omega
def wR (x:ae):Prop:=(WfL (WfI .i64)) x.Pos∧(WfL (WfI .i64)) x.Neg
def cS (x:ae):Int:=((x.Pos.length:Int))+((x.Neg.length:Int))
theorem kv (x:ae):0≤cS x:=by
 unfold cS
 omega
def EK (x:bc):Prop:=(WfL wO) x.Alphas∧(WfL wR) x.Chains
def kC (x:bc):Int:=((x.Alphas.length:Int)+(x.Alphas.map cT).sum)+((x.Chains.length:Int)+(x.Chains.map cS).sum)
theorem Gx (x:bc):0≤kC x:=by
 unfold kC
 have:=ac cT x.Alphas (fun y _=>kG y)
 have:=ac cS x.Chains (fun y _=>kv y)
 omega
def Ez (x:aS):Prop:=(WfL (WfI .i64)) x.L
def cV (x:aS):Int:=((x.L.length:Int))
theorem lB (x:aS):0≤cV x:=by
 unfold cV
 omega
def xL (x:ab):Prop:=(WfL (WfI .i64)) x.Ids∧(WfL (WfI .i64)) x.Hits
def fT (x:ab):Int:=((x.Ids.length:Int))+((x.Hits.length:Int))
theorem nN (x:ab):0≤fT x:=by
 unfold fT
 omega
def sX (x:aa):Prop:=(WfL xL) x.Toks
def bW (x:aa):Int:=((x.Toks.length:Int)+(x.Toks.map fT).sum)
theorem mP (x:aa):0≤bW x:=by
 unfold bW
 have:=ac fT x.Toks (fun y _=>nN y)
 omega
def A3 (x:aF):Prop:=(WfL sX) x.Levels
def er (x:aF):Int:=((x.Levels.length:Int)+(x.Levels.map bW).sum)
theorem lA (x:aF):0≤er x:=by
 unfold er
 have:=ac bW x.Levels (fun y _=>mP y)
 omega
def xD (x:aA):Prop:=(WfL Ez) x.Alphas∧(WfL A3) x.Rules
def gz (x:aA):Int:=((x.Alphas.length:Int)+(x.Alphas.map cV).sum)+((x.Rules.length:Int)+(x.Rules.map er).sum)
theorem GH (x:aA):0≤gz x:=by
 unfold gz
 have:=ac cV x.Alphas (fun y _=>lB y)
 have:=ac er x.Rules (fun y _=>lA y)
 omega
def DQ (x:aw):Prop:=WfS x.Kind∧(WfL wV) x.Fields
def nw (x:aw):Int:=((x.Kind.size:Int))+((x.Fields.length:Int)+(x.Fields.map cl).sum)
theorem uG (x:aw):0≤nw x:=by
 unfold nw
 have:=ac cl x.Fields (fun y _=>eC y)
 omega
def yS (x:aC):Prop:=(WfI .i64) x.Id∧DQ x.F
def ec (x:aC):Int:=(nw x.F)
theorem lI (x:aC):0≤ec x:=by
 unfold ec
 have:=uG x.F
 omega
def wD (x:ah):Prop:=(WfL yS) x.Items∧(WfI .i64) x.Next
def gj (x:ah):Int:=((x.Items.length:Int)+(x.Items.map ec).sum)
theorem Eq (x:ah):0≤gj x:=by
 unfold gj
 have:=ac ec x.Items (fun y _=>lI y)
 omega
theorem wU {N:Nat} (hN:1399000000000≤N) (x:aL) (w:wV x) (left:Int) (h0:0≤left) (h1:left≤1048576):∃ v,nU N x left=some v∧Szd v left (cl x):=by
 obtain ⟨w0,w1,w2⟩:=w
 unfold nU
 unfold cl
 have hl2:=w2; unfold WfS maxLen at hl2
 have e2:IntKind.i64.wrap (left - (x.S.size:Int))=left - (x.S.size:Int):=wr (by omega) (by omega)
 simp only [e2]
 by_cases c2:(left - (x.S.size:Int)) < 0
 ·rw [if_pos (by simpa using c2)]; exact ⟨-1,rfl,.inl (by omega)⟩
 rw [if_neg (by simpa using c2)]
 exact ⟨_,rfl,.inr ⟨by omega,by omega⟩⟩
theorem mF {N:Nat} (hN:1399000000000≤N) (x:be) (w:uu x) (left:Int) (h0:0≤left) (h1:left≤1048576):∃ v,ji N x left=some v∧Szd v left (dv x):=by
 obtain ⟨w0,w1,w2⟩:=w
 unfold ji
 unfold dv
 have:=eC x.V
 have hl1:=w1; unfold WfS maxLen at hl1
 have e1:IntKind.i64.wrap (left - (x.S.size:Int))=left - (x.S.size:Int):=wr (by omega) (by omega)
 simp only [e1]
 by_cases c1:(left - (x.S.size:Int)) < 0
 ·rw [if_pos (by simpa using c1)]; exact ⟨-1,rfl,.inl (by omega)⟩
 rw [if_neg (by simpa using c1)]
 obtain ⟨v2,hv2,hs2⟩:=wU hN x.V w2 (left - (x.S.size:Int)) (by omega) (by omega)
 rw [hv2]; simp only [Option.bind_some]
 by_cases c2:v2 < 0
 ·rw [if_pos (by simpa using c2)]; exact ⟨-1,rfl,.inl (by omega)⟩
 rw [if_neg (by simpa using c2)]
 replace hs2:=hs2.resolve_left c2
 exact ⟨_,rfl,.inr ⟨by omega,by omega⟩⟩
theorem Bw {N:Nat} (hN:1399000000000≤N) (x:(List be)) (w:(WfL uu) x) (left:Int) (h0:0≤left) (h1:left≤1048576):∃ v,rS N x left=some v∧Szd v left ((x.length:Int)+(x.map dv).sum):=by
 have hl:=w.1; unfold maxLen at hl
 have e1:IntKind.i64.wrap (left - (x.length:Int))=left - (x.length:Int):=wr (by omega) (by omega)
 unfold rS
 simp only [e1]
 by_cases c:left - (x.length:Int) < 0
 ·rw [if_pos (by simpa using c)]; exact ⟨-1,rfl,.inl (by omega)⟩
 ·rw [if_neg (by simpa using c)]
  obtain ⟨v,hv,hs⟩:=mT (jl N x) x (by omega) dv (fun y _=>cL y) (fun y l=>ji N y l) (fun y hy l g0 g1=>mF hN y (w.2 y hy) l g0 g1) (fun k l i=>rfl) N 0 (left - (x.length:Int)) (by omega) (by omega) (by omega) (by omega)
  refine ⟨v,hv,?_⟩
  rw [List.drop_zero] at hs
  rcases hs with hs | ⟨hs0,hs⟩
  ·exact .inl hs
  ·exact .inr ⟨hs0,by omega⟩
theorem EP {N:Nat} (hN:1399000000000≤N) (x:av) (w:Ey x) (left:Int) (h0:0≤left) (h1:left≤1048576):∃ v,qx N x left=some v∧Szd v left (et x):=by
 obtain ⟨w0,w1,w2⟩:=w
 unfold qx
 unfold et
 have:=ac dv x.Args (fun y _=>cL y)
 have hl0:=w0; unfold WfS maxLen at hl0
 have e0:IntKind.i64.wrap (left - (x.Kind.size:Int))=left - (x.Kind.size:Int):=wr (by omega) (by omega)
 simp only [e0]
 by_cases c0:(left - (x.Kind.size:Int)) < 0
 ·rw [if_pos (by simpa using c0)]; exact ⟨-1,rfl,.inl (by omega)⟩
 rw [if_neg (by simpa using c0)]
 obtain ⟨v1,hv1,hs1⟩:=Bw hN x.Args w1 (left - (x.Kind.size:Int)) (by omega) (by omega)
 rw [hv1]; simp only [Option.bind_some]
 by_cases c1:v1 < 0
 ·rw [if_pos (by simpa using c1)]; exact ⟨-1,rfl,.inl (by omega)⟩
 rw [if_neg (by simpa using c1)]
 replace hs1:=hs1.resolve_left c1
 exact ⟨_,rfl,.inr ⟨by omega,by omega⟩⟩
theorem Bv {N:Nat} (hN:1399000000000≤N) (x:(List av)) (w:(WfL Ey) x) (left:Int) (h0:0≤left) (h1:left≤1048576):∃ v,rB N x left=some v∧Szd v left ((x.length:Int)+(x.map et).sum):=by
 have hl:=w.1; unfold maxLen at hl
 have e1:IntKind.i64.wrap (left - (x.length:Int))=left - (x.length:Int):=wr (by omega) (by omega)
 unfold rB
 simp only [e1]
 by_cases c:left - (x.length:Int) < 0
 ·rw [if_pos (by simpa using c)]; exact ⟨-1,rfl,.inl (by omega)⟩
 ·rw [if_neg (by simpa using c)]
  obtain ⟨v,hv,hs⟩:=mT (jH N x) x (by omega) et (fun y _=>nD y) (fun y l=>qx N y l) (fun y hy l g0 g1=>EP hN y (w.2 y hy) l g0 g1) (fun k l i=>rfl) N 0 (left - (x.length:Int)) (by omega) (by omega) (by omega) (by omega)
  refine ⟨v,hv,?_⟩
  rw [List.drop_zero] at hs
  rcases hs with hs | ⟨hs0,hs⟩
  ·exact .inl hs
  ·exact .inr ⟨hs0,by omega⟩
theorem Cn {N:Nat} (hN:1399000000000≤N) (x:bn) (w:z5 x) (left:Int) (h0:0≤left) (h1:left≤1048576):∃ v,nX N x left=some v∧Szd v left (fa x):=by
 obtain ⟨w0,w1,w2⟩:=w
 unfold nX
 unfold fa
 have:=cL x.L
 have:=cL x.R
 obtain ⟨v1,hv1,hs1⟩:=mF hN x.L w1 left (by omega) (by omega)
 rw [hv1]; simp only [Option.bind_some]
 by_cases c1:v1 < 0
 ·rw [if_pos (by simpa using c1)]; exact ⟨-1,rfl,.inl (by omega)⟩
 rw [if_neg (by simpa using c1)]
 replace hs1:=hs1.resolve_left c1
 obtain ⟨v2,hv2,hs2⟩:=mF hN x.R w2 v1 (by omega) (by omega)
 rw [hv2]; simp only [Option.bind_some]
 by_cases c2:v2 < 0
 ·rw [if_pos (by simpa using c2)]; exact ⟨-1,rfl,.inl (by omega)⟩
 rw [if_neg (by simpa using c2)]
 replace hs2:=hs2.resolve_left c2
 exact ⟨_,rfl,.inr ⟨by omega,by omega⟩⟩
theorem B2 {N:Nat} (hN:1399000000000≤N) (x:(List bn)) (w:(WfL z5) x) (left:Int) (h0:0≤left) (h1:left≤1048576):∃ v,oI N x left=some v∧Szd v left ((x.length:Int)+(x.map fa).sum):=by
 have hl:=w.1; unfold maxLen at hl
 have e1:IntKind.i64.wrap (left - (x.length:Int))=left - (x.length:Int):=wr (by omega) (by omega)
 unfold oI
 simp only [e1]
 by_cases c:left - (x.length:Int) < 0
 ·rw [if_pos (by simpa using c)]; exact ⟨-1,rfl,.inl (by omega)⟩
 ·rw [if_neg (by simpa using c)]
  obtain ⟨v,hv,hs⟩:=mT (iC N x) x (by omega) fa (fun y _=>lJ y) (fun y l=>nX N y l) (fun y hy l g0 g1=>Cn hN y (w.2 y hy) l g0 g1) (fun k l i=>rfl) N 0 (left - (x.length:Int)) (by omega) (by omega) (by omega) (by omega)
  refine ⟨v,hv,?_⟩
  rw [List.drop_zero] at hs
  rcases hs with hs | ⟨hs0,hs⟩
  ·exact .inl hs
  ·exact .inr ⟨hs0,by omega⟩
theorem Bx {N:Nat} (hN:1399000000000≤N) (x:bk) (w:yY x) (left:Int) (h0:0≤left) (h1:left≤1048576):∃ v,o0 N x left=some v∧Szd v left (eu x):=by
 obtain ⟨w0,w1,w2⟩:=w
 unfold o0
 unfold eu
 have:=cL x.L
 have:=cL x.R
 have hl0:=w0; unfold WfS maxLen at hl0
 have e0:IntKind.i64.wrap (left - (x.Op.size:Int))=left - (x.Op.size:Int):=wr (by omega) (by omega)
 simp only [e0]
 by_cases c0:(left - (x.Op.size:Int)) < 0
 ·rw [if_pos (by simpa using c0)]; exact ⟨-1,rfl,.inl (by omega)⟩
 rw [if_neg (by simpa using c0)]
 obtain ⟨v1,hv1,hs1⟩:=mF hN x.L w1 (left - (x.Op.size:Int)) (by omega) (by omega)
 rw [hv1]; simp only [Option.bind_some]
 by_cases c1:v1 < 0
 ·rw [if_pos (by simpa using c1)]; exact ⟨-1,rfl,.inl (by omega)⟩
 rw [if_neg (by simpa using c1)]
 replace hs1:=hs1.resolve_left c1
 obtain ⟨v2,hv2,hs2⟩:=mF hN x.R w2 v1 (by omega) (by omega)
 rw [hv2]; simp only [Option.bind_some]
 by_cases c2:v2 < 0
 ·rw [if_pos (by simpa using c2)]; exact ⟨-1,rfl,.inl (by omega)⟩
 rw [if_neg (by simpa using c2)]
 replace hs2:=hs2.resolve_left c2
 exact ⟨_,rfl,.inr ⟨by omega,by omega⟩⟩
theorem zO {N:Nat} (hN:1399000000000≤N) (x:(List bk)) (w:(WfL yY) x) (left:Int) (h0:0≤left) (h1:left≤1048576):∃ v,oY N x left=some v∧Szd v left ((x.length:Int)+(x.map eu).sum):=by
 have hl:=w.1; unfold maxLen at hl
 have e1:IntKind.i64.wrap (left - (x.length:Int))=left - (x.length:Int):=wr (by omega) (by omega)
 unfold oY
 simp only [e1]
 by_cases c:left - (x.length:Int) < 0
 ·rw [if_pos (by simpa using c)]; exact ⟨-1,rfl,.inl (by omega)⟩
 ·rw [if_neg (by simpa using c)]
  obtain ⟨v,hv,hs⟩:=mT (iv N x) x (by omega) eu (fun y _=>ke y) (fun y l=>o0 N y l) (fun y hy l g0 g1=>Bx hN y (w.2 y hy) l g0 g1) (fun k l i=>rfl) N 0 (left - (x.length:Int)) (by omega) (by omega) (by omega) (by omega)
  refine ⟨v,hv,?_⟩
  rw [List.drop_zero] at hs
  rcases hs with hs | ⟨hs0,hs⟩
  ·exact .inl hs
  ·exact .inr ⟨hs0,by omega⟩
theorem En {N:Nat} (hN:1399000000000≤N) (x:bM) (w:EV x) (left:Int) (h0:0≤left) (h1:left≤1048576):∃ v,qh N x left=some v∧Szd v left (es x):=by
 obtain ⟨w0,w1,w2,w3,w4⟩:=w
 unfold qh
 unfold es
 have:=ac eu x.Args (fun y _=>ke y)
 have hl1:=w1; unfold WfS maxLen at hl1
 have e1:IntKind.i64.wrap (left - (x.Name.size:Int))=left - (x.Name.size:Int):=wr (by omega) (by omega)
 simp only [e1]
 by_cases c1:(left - (x.Name.size:Int)) < 0
 ·rw [if_pos (by simpa using c1)]; exact ⟨-1,rfl,.inl (by omega)⟩
 rw [if_neg (by simpa using c1)]
 obtain ⟨v2,hv2,hs2⟩:=zO hN x.Args w2 (left - (x.Name.size:Int)) (by omega) (by omega)
 rw [hv2]; simp only [Option.bind_some]
 by_cases c2:v2 < 0
 ·rw [if_pos (by simpa using c2)]; exact ⟨-1,rfl,.inl (by omega)⟩
 rw [if_neg (by simpa using c2)]
 replace hs2:=hs2.resolve_left c2
 have hl4:=w4; unfold WfS maxLen at hl4
 have e4:IntKind.i64.wrap (v2 - (x.Undo.size:Int))=v2 - (x.Undo.size:Int):=wr (by omega) (by omega)
 simp only [e4]
 by_cases c4:(v2 - (x.Undo.size:Int)) < 0
 ·rw [if_pos (by simpa using c4)]; exact ⟨-1,rfl,.inl (by omega)⟩
 rw [if_neg (by simpa using c4)]
 exact ⟨_,rfl,.inr ⟨by omega,by omega⟩⟩
theorem BE {N:Nat} (hN:1399000000000≤N) (x:(List bM)) (w:(WfL EV) x) (left:Int) (h0:0≤left) (h1:left≤1048576):∃ v,qC N x left=some v∧Szd v left ((x.length:Int)+(x.map es).sum):=by
 have hl:=w.1; unfold maxLen at hl
 have e1:IntKind.i64.wrap (left - (x.length:Int))=left - (x.length:Int):=wr (by omega) (by omega)
 unfold qC
 simp only [e1]
 by_cases c:left - (x.length:Int) < 0
 ·rw [if_pos (by simpa using c)]; exact ⟨-1,rfl,.inl (by omega)⟩
 ·rw [if_neg (by simpa using c)]
  obtain ⟨v,hv,hs⟩:=mT (jC N x) x (by omega) es (fun y _=>o6 y) (fun y l=>qh N y l) (fun y hy l g0 g1=>En hN y (w.2 y hy) l g0 g1) (fun k l i=>rfl) N 0 (left - (x.length:Int)) (by omega) (by omega) (by omega) (by omega)
  refine ⟨v,hv,?_⟩
  rw [List.drop_zero] at hs
  rcases hs with hs | ⟨hs0,hs⟩
  ·exact .inl hs
  ·exact .inr ⟨hs0,by omega⟩
theorem CJ {N:Nat} (hN:1399000000000≤N) (x:ag) (w:yV x) (left:Int) (h0:0≤left) (h1:left≤1048576):∃ v,nV N x left=some v∧Szd v left (dZ x):=by
 obtain ⟨w0,w1,w2,w3,w4⟩:=w
 unfold nV
 unfold dZ
 have:=ac et x.Pats (fun y _=>nD y)
 have:=ac fa x.Conds (fun y _=>lJ y)
 have:=ac es x.Acts (fun y _=>o6 y)
 have hl0:=w0; unfold WfS maxLen at hl0
 have e0:IntKind.i64.wrap (left - (x.Name.size:Int))=left - (x.Name.size:Int):=wr (by omega) (by omega)
 simp only [e0]
 by_cases c0:(left - (x.Name.size:Int)) < 0
 ·rw [if_pos (by simpa using c0)]; exact ⟨-1,rfl,.inl (by omega)⟩
 rw [if_neg (by simpa using c0)]
 obtain ⟨v2,hv2,hs2⟩:=Bv hN x.Pats w2 (left - (x.Name.size:Int)) (by omega) (by omega)
 rw [hv2]; simp only [Option.bind_some]
 by_cases c2:v2 < 0
 ·rw [if_pos (by simpa using c2)]; exact ⟨-1,rfl,.inl (by omega)⟩
 rw [if_neg (by simpa using c2)]
 replace hs2:=hs2.resolve_left c2
 obtain ⟨v3,hv3,hs3⟩:=B2 hN x.Conds w3 v2 (by omega) (by omega)
 rw [hv3]; simp only [Option.bind_some]
 by_cases c3:v3 < 0
 ·rw [if_pos (by simpa using c3)]; exact ⟨-1,rfl,.inl (by omega)⟩
 rw [if_neg (by simpa using c3)]
 replace hs3:=hs3.resolve_left c3
 obtain ⟨v4,hv4,hs4⟩:=BE hN x.Acts w4 v3 (by omega) (by omega)
 rw [hv4]; simp only [Option.bind_some]
 by_cases c4:v4 < 0
 ·rw [if_pos (by simpa using c4)]; exact ⟨-1,rfl,.inl (by omega)⟩
 rw [if_neg (by simpa using c4)]
 replace hs4:=hs4.resolve_left c4
 exact ⟨_,rfl,.inr ⟨by omega,by omega⟩⟩
theorem zw {N:Nat} (hN:1399000000000≤N) (x:(List ag)) (w:(WfL yV) x) (left:Int) (h0:0≤left) (h1:left≤1048576):∃ v,oU N x left=some v∧Szd v left ((x.length:Int)+(x.map dZ).sum):=by
 have hl:=w.1; unfold maxLen at hl
 have e1:IntKind.i64.wrap (left - (x.length:Int))=left - (x.length:Int):=wr (by omega) (by omega)
 unfold oU
 simp only [e1]
 by_cases c:left - (x.length:Int) < 0
 ·rw [if_pos (by simpa using c)]; exact ⟨-1,rfl,.inl (by omega)⟩
 ·rw [if_neg (by simpa using c)]
  obtain ⟨v,hv,hs⟩:=mT (ip N x) x (by omega) dZ (fun y _=>mi y) (fun y l=>nV N y l) (fun y hy l g0 g1=>CJ hN y (w.2 y hy) l g0 g1) (fun k l i=>rfl) N 0 (left - (x.length:Int)) (by omega) (by omega) (by omega) (by omega)
  refine ⟨v,hv,?_⟩
  rw [List.drop_zero] at hs
  rcases hs with hs | ⟨hs0,hs⟩
  ·exact .inl hs
  ·exact .inr ⟨hs0,by omega⟩
theorem Eb {N:Nat} (hN:1399000000000≤N) (x:bo) (w:EZ x) (left:Int) (h0:0≤left) (h1:left≤1048576):∃ v,tC N x left=some v∧Szd v left (kE x):=by
 obtain ⟨w0,w1⟩:=w
 unfold tC
 unfold kE
 have:=ac dZ x.Rules (fun y _=>mi y)
 have hl0:=w0; unfold WfS maxLen at hl0
 have e0:IntKind.i64.wrap (left - (x.Name.size:Int))=left - (x.Name.size:Int):=wr (by omega) (by omega)
 simp only [e0]
 by_cases c0:(left - (x.Name.size:Int)) < 0
 ·rw [if_pos (by simpa using c0)]; exact ⟨-1,rfl,.inl (by omega)⟩
 rw [if_neg (by simpa using c0)]
 obtain ⟨v1,hv1,hs1⟩:=zw hN x.Rules w1 (left - (x.Name.size:Int)) (by omega) (by omega)
 rw [hv1]; simp only [Option.bind_some]
 by_cases c1:v1 < 0
 ·rw [if_pos (by simpa using c1)]; exact ⟨-1,rfl,.inl (by omega)⟩
 rw [if_neg (by simpa using c1)]
 replace hs1:=hs1.resolve_left c1
 exact ⟨_,rfl,.inr ⟨by omega,by omega⟩⟩
theorem vA {N:Nat} (hN:1399000000000≤N) (x:(List aL)) (w:(WfL wV) x) (left:Int) (h0:0≤left) (h1:left≤1048576):∃ v,nP N x left=some v∧Szd v left ((x.length:Int)+(x.map cl).sum):=by
 have hl:=w.1; unfold maxLen at hl
 have e1:IntKind.i64.wrap (left - (x.length:Int))=left - (x.length:Int):=wr (by omega) (by omega)
 unfold nP
 simp only [e1]
 by_cases c:left - (x.length:Int) < 0
 ·rw [if_pos (by simpa using c)]; exact ⟨-1,rfl,.inl (by omega)⟩
 ·rw [if_neg (by simpa using c)]
  obtain ⟨v,hv,hs⟩:=mT (jc N x) x (by omega) cl (fun y _=>eC y) (fun y l=>nU N y l) (fun y hy l g0 g1=>wU hN y (w.2 y hy) l g0 g1) (fun k l i=>rfl) N 0 (left - (x.length:Int)) (by omega) (by omega) (by omega) (by omega)
  refine ⟨v,hv,?_⟩
  rw [List.drop_zero] at hs
  rcases hs with hs | ⟨hs0,hs⟩
  ·exact .inl hs
  ·exact .inr ⟨hs0,by omega⟩
theorem jz {N:Nat} (hN:1399000000000≤N) (x:(List Int)) (w:(WfL (WfI .i64)) x) (left:Int) (h0:0≤left) (h1:left≤1048576):∃ v,ic N x left=some v∧Szd v left ((x.length:Int)):=by
 have hl:=w.1; unfold maxLen at hl
 have e1:IntKind.i64.wrap (left - (x.length:Int))=left - (x.length:Int):=wr (by omega) (by omega)
 unfold ic
 simp only [e1]
 by_cases c:left - (x.length:Int) < 0
 ·rw [if_pos (by simpa using c)]; exact ⟨-1,rfl,.inl (by omega)⟩
 ·rw [if_neg (by simpa using c)]
  exact ⟨_,rfl,.inr ⟨by omega,rfl⟩⟩
theorem zk {N:Nat} (hN:1399000000000≤N) (x:a9) (w:wO x) (left:Int) (h0:0≤left) (h1:left≤1048576):∃ v,lT N x left=some v∧Szd v left (cT x):=by
 obtain ⟨w0,w1,w2,w3⟩:=w
 unfold lT
 unfold cT
 have:=ac cl x.Consts (fun y _=>eC y)
 have hl0:=w0; unfold WfS maxLen at hl0
 have e0:IntKind.i64.wrap (left - (x.Kind.size:Int))=left - (x.Kind.size:Int):=wr (by omega) (by omega)
 simp only [e0]
 by_cases c0:(left - (x.Kind.size:Int)) < 0
 ·rw [if_pos (by simpa using c0)]; exact ⟨-1,rfl,.inl (by omega)⟩
 rw [if_neg (by simpa using c0)]
 obtain ⟨v2,hv2,hs2⟩:=vA hN x.Consts w2 (left - (x.Kind.size:Int)) (by omega) (by omega)
 rw [hv2]; simp only [Option.bind_some]
 by_cases c2:v2 < 0
 ·rw [if_pos (by simpa using c2)]; exact ⟨-1,rfl,.inl (by omega)⟩
 rw [if_neg (by simpa using c2)]
 replace hs2:=hs2.resolve_left c2
 obtain ⟨v3,hv3,hs3⟩:=jz hN x.At w3 v2 (by omega) (by omega)
 rw [hv3]; simp only [Option.bind_some]
 by_cases c3:v3 < 0
 ·rw [if_pos (by simpa using c3)]; exact ⟨-1,rfl,.inl (by omega)⟩
 rw [if_neg (by simpa using c3)]
 replace hs3:=hs3.resolve_left c3
 exact ⟨_,rfl,.inr ⟨by omega,by omega⟩⟩
theorem yr {N:Nat} (hN:1399000000000≤N) (x:(List a9)) (w:(WfL wO) x) (left:Int) (h0:0≤left) (h1:left≤1048576):∃ v,mt N x left=some v∧Szd v left ((x.length:Int)+(x.map cT).sum):=by
 have hl:=w.1; unfold maxLen at hl
 have e1:IntKind.i64.wrap (left - (x.length:Int))=left - (x.length:Int):=wr (by omega) (by omega)
 unfold mt
 simp only [e1]
 by_cases c:left - (x.length:Int) < 0
 ·rw [if_pos (by simpa using c)]; exact ⟨-1,rfl,.inl (by omega)⟩
 ·rw [if_neg (by simpa using c)]
  obtain ⟨v,hv,hs⟩:=mT (gQ N x) x (by omega) cT (fun y _=>kG y) (fun y l=>lT N y l) (fun y hy l g0 g1=>zk hN y (w.2 y hy) l g0 g1) (fun k l i=>rfl) N 0 (left - (x.length:Int)) (by omega) (by omega) (by omega) (by omega)
  refine ⟨v,hv,?_⟩
  rw [List.drop_zero] at hs
  rcases hs with hs | ⟨hs0,hs⟩
  ·exact .inl hs
  ·exact .inr ⟨hs0,by omega⟩
theorem zH {N:Nat} (hN:1399000000000≤N) (x:ae) (w:wR x) (left:Int) (h0:0≤left) (h1:left≤1048576):∃ v,mm N x left=some v∧Szd v left (cS x):=by
 obtain ⟨w0,w1⟩:=w
 unfold mm
 unfold cS
 obtain ⟨v0,hv0,hs0⟩:=jz hN x.Pos w0 left (by omega) (by omega)
 rw [hv0]; simp only [Option.bind_some]
 by_cases c0:v0 < 0
 ·rw [if_pos (by simpa using c0)]; exact ⟨-1,rfl,.inl (by omega)⟩
 rw [if_neg (by simpa using c0)]
 replace hs0:=hs0.resolve_left c0
 obtain ⟨v1,hv1,hs1⟩:=jz hN x.Neg w1 v0 (by omega) (by omega)
 rw [hv1]; simp only [Option.bind_some]
 by_cases c1:v1 < 0
 ·rw [if_pos (by simpa using c1)]; exact ⟨-1,rfl,.inl (by omega)⟩
 rw [if_neg (by simpa using c1)]
 replace hs1:=hs1.resolve_left c1
 exact ⟨_,rfl,.inr ⟨by omega,by omega⟩⟩
theorem yf {N:Nat} (hN:1399000000000≤N) (x:(List ae)) (w:(WfL wR) x) (left:Int) (h0:0≤left) (h1:left≤1048576):∃ v,mW N x left=some v∧Szd v left ((x.length:Int)+(x.map cS).sum):=by
 have hl:=w.1; unfold maxLen at hl
 have e1:IntKind.i64.wrap (left - (x.length:Int))=left - (x.length:Int):=wr (by omega) (by omega)
 unfold mW
 simp only [e1]
 by_cases c:left - (x.length:Int) < 0
 ·rw [if_pos (by simpa using c)]; exact ⟨-1,rfl,.inl (by omega)⟩
 ·rw [if_neg (by simpa using c)]
  obtain ⟨v,hv,hs⟩:=mT (gP N x) x (by omega) cS (fun y _=>kv y) (fun y l=>mm N y l) (fun y hy l g0 g1=>zH hN y (w.2 y hy) l g0 g1) (fun k l i=>rfl) N 0 (left - (x.length:Int)) (by omega) (by omega) (by omega) (by omega)
  refine ⟨v,hv,?_⟩
  rw [List.drop_zero] at hs
  rcases hs with hs | ⟨hs0,hs⟩
  ·exact .inl hs
  ·exact .inr ⟨hs0,by omega⟩
theorem ET {N:Nat} (hN:1399000000000≤N) (x:bc) (w:EK x) (left:Int) (h0:0≤left) (h1:left≤1048576):∃ v,tc N x left=some v∧Szd v left (kC x):=by
 obtain ⟨w0,w1⟩:=w
 unfold tc
 unfold kC
 have:=ac cT x.Alphas (fun y _=>kG y)
 have:=ac cS x.Chains (fun y _=>kv y)
 obtain ⟨v0,hv0,hs0⟩:=yr hN x.Alphas w0 left (by omega) (by omega)
 rw [hv0]; simp only [Option.bind_some]
 by_cases c0:v0 < 0
 ·rw [if_pos (by simpa using c0)]; exact ⟨-1,rfl,.inl (by omega)⟩
 rw [if_neg (by simpa using c0)]
 replace hs0:=hs0.resolve_left c0
 obtain ⟨v1,hv1,hs1⟩:=yf hN x.Chains w1 v0 (by omega) (by omega)
 rw [hv1]; simp only [Option.bind_some]
 by_cases c1:v1 < 0
 ·rw [if_pos (by simpa using c1)]; exact ⟨-1,rfl,.inl (by omega)⟩
 rw [if_neg (by simpa using c1)]
 replace hs1:=hs1.resolve_left c1
 exact ⟨_,rfl,.inr ⟨by omega,by omega⟩⟩
theorem Dx {N:Nat} (hN:1399000000000≤N) (x:aS) (w:Ez x) (left:Int) (h0:0≤left) (h1:left≤1048576):∃ v,qb N x left=some v∧Szd v left (cV x):=by
 have w0:(WfL (WfI .i64)) x.L:=w
 unfold qb
 unfold cV
 obtain ⟨v0,hv0,hs0⟩:=jz hN x.L w0 left (by omega) (by omega)
 rw [hv0]; simp only [Option.bind_some]
 by_cases c0:v0 < 0
 ·rw [if_pos (by simpa using c0)]; exact ⟨-1,rfl,.inl (by omega)⟩
 rw [if_neg (by simpa using c0)]
 replace hs0:=hs0.resolve_left c0
 exact ⟨_,rfl,.inr ⟨by omega,by omega⟩⟩
theorem C3 {N:Nat} (hN:1399000000000≤N) (x:(List aS)) (w:(WfL Ez) x) (left:Int) (h0:0≤left) (h1:left≤1048576):∃ v,rI N x left=some v∧Szd v left ((x.length:Int)+(x.map cV).sum):=by
 have hl:=w.1; unfold maxLen at hl
 have e1:IntKind.i64.wrap (left - (x.length:Int))=left - (x.length:Int):=wr (by omega) (by omega)
 unfold rI
 simp only [e1]
 by_cases c:left - (x.length:Int) < 0
 ·rw [if_pos (by simpa using c)]; exact ⟨-1,rfl,.inl (by omega)⟩
 ·rw [if_neg (by simpa using c)]
  obtain ⟨v,hv,hs⟩:=mT (je N x) x (by omega) cV (fun y _=>lB y) (fun y l=>qb N y l) (fun y hy l g0 g1=>Dx hN y (w.2 y hy) l g0 g1) (fun k l i=>rfl) N 0 (left - (x.length:Int)) (by omega) (by omega) (by omega) (by omega)
  refine ⟨v,hv,?_⟩
  rw [List.drop_zero] at hs
  rcases hs with hs | ⟨hs0,hs⟩
  ·exact .inl hs
  ·exact .inr ⟨hs0,by omega⟩
theorem DZ {N:Nat} (hN:1399000000000≤N) (x:ab) (w:xL x) (left:Int) (h0:0≤left) (h1:left≤1048576):∃ v,qt N x left=some v∧Szd v left (fT x):=by
 obtain ⟨w0,w1⟩:=w
 unfold qt
 unfold fT
 obtain ⟨v0,hv0,hs0⟩:=jz hN x.Ids w0 left (by omega) (by omega)
 rw [hv0]; simp only [Option.bind_some]
 by_cases c0:v0 < 0
 ·rw [if_pos (by simpa using c0)]; exact ⟨-1,rfl,.inl (by omega)⟩
 rw [if_neg (by simpa using c0)]
 replace hs0:=hs0.resolve_left c0
 obtain ⟨v1,hv1,hs1⟩:=jz hN x.Hits w1 v0 (by omega) (by omega)
 rw [hv1]; simp only [Option.bind_some]
 by_cases c1:v1 < 0
 ·rw [if_pos (by simpa using c1)]; exact ⟨-1,rfl,.inl (by omega)⟩
 rw [if_neg (by simpa using c1)]
 replace hs1:=hs1.resolve_left c1
 exact ⟨_,rfl,.inr ⟨by omega,by omega⟩⟩
theorem CN {N:Nat} (hN:1399000000000≤N) (x:(List ab)) (w:(WfL xL) x) (left:Int) (h0:0≤left) (h1:left≤1048576):∃ v,ra N x left=some v∧Szd v left ((x.length:Int)+(x.map fT).sum):=by
 have hl:=w.1; unfold maxLen at hl
 have e1:IntKind.i64.wrap (left - (x.length:Int))=left - (x.length:Int):=wr (by omega) (by omega)
 unfold ra
 simp only [e1]
 by_cases c:left - (x.length:Int) < 0
 ·rw [if_pos (by simpa using c)]; exact ⟨-1,rfl,.inl (by omega)⟩
 ·rw [if_neg (by simpa using c)]
  obtain ⟨v,hv,hs⟩:=mT (jt N x) x (by omega) fT (fun y _=>nN y) (fun y l=>qt N y l) (fun y hy l g0 g1=>DZ hN y (w.2 y hy) l g0 g1) (fun k l i=>rfl) N 0 (left - (x.length:Int)) (by omega) (by omega) (by omega) (by omega)
  refine ⟨v,hv,?_⟩
  rw [List.drop_zero] at hs
  rcases hs with hs | ⟨hs0,hs⟩
  ·exact .inl hs
  ·exact .inr ⟨hs0,by omega⟩
theorem AR {N:Nat} (hN:1399000000000≤N) (x:aa) (w:sX x) (left:Int) (h0:0≤left) (h1:left≤1048576):∃ v,lR N x left=some v∧Szd v left (bW x):=by
 have w0:(WfL xL) x.Toks:=w
 unfold lR
 unfold bW
 have:=ac fT x.Toks (fun y _=>nN y)
 obtain ⟨v0,hv0,hs0⟩:=CN hN x.Toks w0 left (by omega) (by omega)
 rw [hv0]; simp only [Option.bind_some]
 by_cases c0:v0 < 0
 ·rw [if_pos (by simpa using c0)]; exact ⟨-1,rfl,.inl (by omega)⟩
 rw [if_neg (by simpa using c0)]
 replace hs0:=hs0.resolve_left c0
 exact ⟨_,rfl,.inr ⟨by omega,by omega⟩⟩
theorem yP {N:Nat} (hN:1399000000000≤N) (x:(List aa)) (w:(WfL sX) x) (left:Int) (h0:0≤left) (h1:left≤1048576):∃ v,n8 N x left=some v∧Szd v left ((x.length:Int)+(x.map bW).sum):=by
 have hl:=w.1; unfold maxLen at hl
 have e1:IntKind.i64.wrap (left - (x.length:Int))=left - (x.length:Int):=wr (by omega) (by omega)
 unfold n8
 simp only [e1]
 by_cases c:left - (x.length:Int) < 0
 ·rw [if_pos (by simpa using c)]; exact ⟨-1,rfl,.inl (by omega)⟩
 ·rw [if_neg (by simpa using c)]
  obtain ⟨v,hv,hs⟩:=mT (gJ N x) x (by omega) bW (fun y _=>mP y) (fun y l=>lR N y l) (fun y hy l g0 g1=>AR hN y (w.2 y hy) l g0 g1) (fun k l i=>rfl) N 0 (left - (x.length:Int)) (by omega) (by omega) (by omega) (by omega)
  refine ⟨v,hv,?_⟩
  rw [List.drop_zero] at hs
  rcases hs with hs | ⟨hs0,hs⟩
  ·exact .inl hs
  ·exact .inr ⟨hs0,by omega⟩
theorem Ev {N:Nat} (hN:1399000000000≤N) (x:aF) (w:A3 x) (left:Int) (h0:0≤left) (h1:left≤1048576):∃ v,qe N x left=some v∧Szd v left (er x):=by
 have w0:(WfL sX) x.Levels:=w
 unfold qe
 unfold er
 have:=ac bW x.Levels (fun y _=>mP y)
 obtain ⟨v0,hv0,hs0⟩:=yP hN x.Levels w0 left (by omega) (by omega)
 rw [hv0]; simp only [Option.bind_some]
 by_cases c0:v0 < 0
 ·rw [if_pos (by simpa using c0)]; exact ⟨-1,rfl,.inl (by omega)⟩
 rw [if_neg (by simpa using c0)]
 replace hs0:=hs0.resolve_left c0
 exact ⟨_,rfl,.inr ⟨by omega,by omega⟩⟩
theorem BK {N:Nat} (hN:1399000000000≤N) (x:(List aF)) (w:(WfL A3) x) (left:Int) (h0:0≤left) (h1:left≤1048576):∃ v,qJ N x left=some v∧Szd v left ((x.length:Int)+(x.map er).sum):=by
 have hl:=w.1; unfold maxLen at hl
 have e1:IntKind.i64.wrap (left - (x.length:Int))=left - (x.length:Int):=wr (by omega) (by omega)
 unfold qJ
 simp only [e1]
 by_cases c:left - (x.length:Int) < 0
 ·rw [if_pos (by simpa using c)]; exact ⟨-1,rfl,.inl (by omega)⟩
 ·rw [if_neg (by simpa using c)]
  obtain ⟨v,hv,hs⟩:=mT (jj N x) x (by omega) er (fun y _=>lA y) (fun y l=>qe N y l) (fun y hy l g0 g1=>Ev hN y (w.2 y hy) l g0 g1) (fun k l i=>rfl) N 0 (left - (x.length:Int)) (by omega) (by omega) (by omega) (by omega)
  refine ⟨v,hv,?_⟩
  rw [List.drop_zero] at hs
  rcases hs with hs | ⟨hs0,hs⟩
  ·exact .inl hs
  ·exact .inr ⟨hs0,by omega⟩
theorem Ef {N:Nat} (hN:1399000000000≤N) (x:aA) (w:xD x) (left:Int) (h0:0≤left) (h1:left≤1048576):∃ v,tE N x left=some v∧Szd v left (gz x):=by
 obtain ⟨w0,w1⟩:=w
 unfold tE
 unfold gz
 have:=ac cV x.Alphas (fun y _=>lB y)
 have:=ac er x.Rules (fun y _=>lA y)
 obtain ⟨v0,hv0,hs0⟩:=C3 hN x.Alphas w0 left (by omega) (by omega)
 rw [hv0]; simp only [Option.bind_some]
 by_cases c0:v0 < 0
 ·rw [if_pos (by simpa using c0)]; exact ⟨-1,rfl,.inl (by omega)⟩
 rw [if_neg (by simpa using c0)]
 replace hs0:=hs0.resolve_left c0
 obtain ⟨v1,hv1,hs1⟩:=BK hN x.Rules w1 v0 (by omega) (by omega)
 rw [hv1]; simp only [Option.bind_some]
 by_cases c1:v1 < 0
 ·rw [if_pos (by simpa using c1)]; exact ⟨-1,rfl,.inl (by omega)⟩
 rw [if_neg (by simpa using c1)]
 replace hs1:=hs1.resolve_left c1
 exact ⟨_,rfl,.inr ⟨by omega,by omega⟩⟩
theorem Cw {N:Nat} (hN:1399000000000≤N) (x:aw) (w:DQ x) (left:Int) (h0:0≤left) (h1:left≤1048576):∃ v,rL N x left=some v∧Szd v left (nw x):=by
 obtain ⟨w0,w1⟩:=w
 unfold rL
 unfold nw
 have:=ac cl x.Fields (fun y _=>eC y)
 have hl0:=w0; unfold WfS maxLen at hl0
 have e0:IntKind.i64.wrap (left - (x.Kind.size:Int))=left - (x.Kind.size:Int):=wr (by omega) (by omega)
 simp only [e0]
 by_cases c0:(left - (x.Kind.size:Int)) < 0
 ·rw [if_pos (by simpa using c0)]; exact ⟨-1,rfl,.inl (by omega)⟩
 rw [if_neg (by simpa using c0)]
 obtain ⟨v1,hv1,hs1⟩:=vA hN x.Fields w1 (left - (x.Kind.size:Int)) (by omega) (by omega)
 rw [hv1]; simp only [Option.bind_some]
 by_cases c1:v1 < 0
 ·rw [if_pos (by simpa using c1)]; exact ⟨-1,rfl,.inl (by omega)⟩
 rw [if_neg (by simpa using c1)]
 replace hs1:=hs1.resolve_left c1
 exact ⟨_,rfl,.inr ⟨by omega,by omega⟩⟩
theorem Bg {N:Nat} (hN:1399000000000≤N) (x:aC) (w:yS x) (left:Int) (h0:0≤left) (h1:left≤1048576):∃ v,nF N x left=some v∧Szd v left (ec x):=by
 obtain ⟨w0,w1⟩:=w
 unfold nF
 unfold ec
 have:=uG x.F
 obtain ⟨v1,hv1,hs1⟩:=Cw hN x.F w1 left (by omega) (by omega)
 rw [hv1]; simp only [Option.bind_some]
 by_cases c1:v1 < 0
 ·rw [if_pos (by simpa using c1)]; exact ⟨-1,rfl,.inl (by omega)⟩
 rw [if_neg (by simpa using c1)]
 replace hs1:=hs1.resolve_left c1
 exact ⟨_,rfl,.inr ⟨by omega,by omega⟩⟩
theorem Ab {N:Nat} (hN:1399000000000≤N) (x:(List aC)) (w:(WfL yS) x) (left:Int) (h0:0≤left) (h1:left≤1048576):∃ v,oP N x left=some v∧Szd v left ((x.length:Int)+(x.map ec).sum):=by
 have hl:=w.1; unfold maxLen at hl
 have e1:IntKind.i64.wrap (left - (x.length:Int))=left - (x.length:Int):=wr (by omega) (by omega)
 unfold oP
 simp only [e1]
 by_cases c:left - (x.length:Int) < 0
 ·rw [if_pos (by simpa using c)]; exact ⟨-1,rfl,.inl (by omega)⟩
 ·rw [if_neg (by simpa using c)]
  obtain ⟨v,hv,hs⟩:=mT (im N x) x (by omega) ec (fun y _=>lI y) (fun y l=>nF N y l) (fun y hy l g0 g1=>Bg hN y (w.2 y hy) l g0 g1) (fun k l i=>rfl) N 0 (left - (x.length:Int)) (by omega) (by omega) (by omega) (by omega)
  refine ⟨v,hv,?_⟩
  rw [List.drop_zero] at hs
  rcases hs with hs | ⟨hs0,hs⟩
  ·exact .inl hs
  ·exact .inr ⟨hs0,by omega⟩
theorem zL {N:Nat} (hN:1399000000000≤N) (x:ah) (w:wD x) (left:Int) (h0:0≤left) (h1:left≤1048576):∃ v,oz N x left=some v∧Szd v left (gj x):=by
 obtain ⟨w0,w1⟩:=w
 unfold oz
 unfold gj
 have:=ac ec x.Items (fun y _=>lI y)
 obtain ⟨v0,hv0,hs0⟩:=Ab hN x.Items w0 left (by omega) (by omega)
 rw [hv0]; simp only [Option.bind_some]
 by_cases c0:v0 < 0
 ·rw [if_pos (by simpa using c0)]; exact ⟨-1,rfl,.inl (by omega)⟩
 rw [if_neg (by simpa using c0)]
 replace hs0:=hs0.resolve_left c0
 exact ⟨_,rfl,.inr ⟨by omega,by omega⟩⟩
def oh (x:av):Prop:=(x.Args.length≤1099511627776)
theorem Gp (x:av) (h:et x≤1048576):oh x:=by
 unfold et at h
 have nn_Args:∀ y∈x.Args,0≤dv y:=fun y _=>cL y
 have:=ac _ _ nn_Args
 unfold oh; omega
def ol (x:bM):Prop:=(x.Args.length≤1099511627776)
theorem H7 (x:bM) (h:es x≤1048576):ol x:=by
 unfold es at h
 have nn_Args:∀ y∈x.Args,0≤eu y:=fun y _=>ke y
 have:=ac _ _ nn_Args
 unfold ol; omega
def mD (x:ag):Prop:=(x.Pats.length≤1099511627776∧∀ y∈x.Pats,oh y)∧(x.Conds.length≤1099511627776)∧(x.Acts.length≤1099511627776∧∀ y∈x.Acts,ol y)
theorem Fz (x:ag) (h:dZ x≤1048576):mD x:=by
 unfold dZ at h
 have nn_Pats:∀ y∈x.Pats,0≤et y:=fun y _=>nD y
 have:=ac _ _ nn_Pats
 have nn_Conds:∀ y∈x.Conds,0≤fa y:=fun y _=>lJ y
 have:=ac _ _ nn_Conds
 have nn_Acts:∀ y∈x.Acts,0≤es y:=fun y _=>o6 y
 have:=ac _ _ nn_Acts
 exact ⟨⟨by omega,fun y hy=>Gp y (by have:=dE _ _ nn_Pats y hy; omega)⟩,by omega,⟨by omega,fun y hy=>H7 y (by have:=dE _ _ nn_Acts y hy; omega)⟩⟩
def vW (x:bo):Prop:=(x.Rules.length≤1099511627776∧∀ y∈x.Rules,mD y)
theorem GU (x:bo) (h:kE x≤1048576):vW x:=by
 unfold kE at h
 have nn_Rules:∀ y∈x.Rules,0≤dZ y:=fun y _=>mi y
 have:=ac _ _ nn_Rules
 exact ⟨by omega,fun y hy=>Fz y (by have:=dE _ _ nn_Rules y hy; omega)⟩
theorem wN {N:Nat} (hN:1399000000000≤N) (x:aL):nS N x=some x:=by
 unfold nS
 rfl
theorem nq {N:Nat} (hN:1399000000000≤N) (x:be):jv N x=some x:=by
 unfold jv
 rw [wN hN _,Option.bind_some]
theorem CM {N:Nat} (hN:1399000000000≤N) (x:(List be)) (h:(x.length≤1099511627776)):qQ N x=some x:=by
 have hl:x.length≤1099511627776:=h
 unfold qQ
 rw [kR _ (by omega),Option.bind_some]
 refine (lC (kX N x) x (by omega) (fun y=>jv N y) (fun y hy=>nq hN y) (fun k s i=>rfl) N 0 _ (by simp) (by omega) (by omega)).trans ?_
 simp
theorem DT {N:Nat} (hN:1399000000000≤N) (x:av) (h:oh x):qn N x=some x:=by
 unfold qn
 rw [CM hN _ (h),Option.bind_some]
theorem BZ {N:Nat} (hN:1399000000000≤N) (x:(List av)) (h:(x.length≤1099511627776∧∀ y∈x,oh y)):rj N x=some x:=by
 have hl:x.length≤1099511627776:=h.1
 unfold rj
 rw [kR _ (by omega),Option.bind_some]
 refine (lC (kW N x) x (by omega) (fun y=>qn N y) (fun y hy=>DT hN y (h.2 y hy)) (fun k s i=>rfl) N 0 _ (by simp) (by omega) (by omega)).trans ?_
 simp
theorem Cr {N:Nat} (hN:1399000000000≤N) (x:bn):nB N x=some x:=by
 unfold nB
 rw [nq hN _,Option.bind_some,nq hN _,Option.bind_some]
theorem B6 {N:Nat} (hN:1399000000000≤N) (x:(List bn)) (h:(x.length≤1099511627776)):oR N x=some x:=by
 have hl:x.length≤1099511627776:=h
 unfold oR
 rw [kR _ (by omega),Option.bind_some]
 refine (lC (jR N x) x (by omega) (fun y=>nB N y) (fun y hy=>Cr hN y) (fun k s i=>rfl) N 0 _ (by simp) (by omega) (by omega)).trans ?_
 simp
theorem BY {N:Nat} (hN:1399000000000≤N) (x:bk):nW N x=some x:=by
 unfold nW
 rw [nq hN _,Option.bind_some,nq hN _,Option.bind_some]
theorem AS {N:Nat} (hN:1399000000000≤N) (x:(List bk)) (h:(x.length≤1099511627776)):oM N x=some x:=by
 have hl:x.length≤1099511627776:=h
 unfold oM
 rw [kR _ (by omega),Option.bind_some]
 refine (lC (jS N x) x (by omega) (fun y=>nW N y) (fun y hy=>BY hN y) (fun k s i=>rfl) N 0 _ (by simp) (by omega) (by omega)).trans ?_
 simp
theorem EM {N:Nat} (hN:1399000000000≤N) (x:bM) (h:ol x):qg N x=some x:=by
 unfold qg
 rw [AS hN _ (h),Option.bind_some]
theorem CC {N:Nat} (hN:1399000000000≤N) (x:(List bM)) (h:(x.length≤1099511627776∧∀ y∈x,ol y)):rN N x=some x:=by
 have hl:x.length≤1099511627776:=h.1
 unfold rN
 rw [kR _ (by omega),Option.bind_some]
 refine (lC (l5 N x) x (by omega) (fun y=>qg N y) (fun y hy=>EM hN y (h.2 y hy)) (fun k s i=>rfl) N 0 _ (by simp) (by omega) (by omega)).trans ?_
 simp
theorem Co {N:Nat} (hN:1399000000000≤N) (x:ag) (h:mD x):o9 N x=some x:=by
 unfold o9
 rw [BZ hN _ (h.1),Option.bind_some,B6 hN _ (h.2.1),Option.bind_some,CC hN _ (h.2.2),Option.bind_some]
theorem zG {N:Nat} (hN:1399000000000≤N) (x:(List ag)) (h:(x.length≤1099511627776∧∀ y∈x,mD y)):ph N x=some x:=by
 have hl:x.length≤1099511627776:=h.1
 unfold ph
 rw [kR _ (by omega),Option.bind_some]
 refine (lC (jX N x) x (by omega) (fun y=>o9 N y) (fun y hy=>Co hN y (h.2 y hy)) (fun k s i=>rfl) N 0 _ (by simp) (by omega) (by omega)).trans ?_
 simp
theorem DV {N:Nat} (hN:1399000000000≤N) (x:bo) (h:vW x):lO N x=some x:=by
 unfold lO
 rw [zG hN _ (h),Option.bind_some]
def kr (x:a9):Prop:=(x.Consts.length≤1099511627776)∧(x.At.length≤1099511627776)
theorem DD (x:a9) (h:cT x≤1048576):kr x:=by
 unfold cT at h
 have nn_Consts:∀ y∈x.Consts,0≤cl y:=fun y _=>eC y
 have:=ac _ _ nn_Consts
 exact ⟨by omega,by omega⟩
def kD (x:ae):Prop:=(x.Pos.length≤1099511627776)∧(x.Neg.length≤1099511627776)
theorem Fm (x:ae) (h:cS x≤1048576):kD x:=by
 unfold cS at h
 exact ⟨by omega,by omega⟩
def w6 (x:bc):Prop:=(x.Alphas.length≤1099511627776∧∀ y∈x.Alphas,kr y)∧(x.Chains.length≤1099511627776∧∀ y∈x.Chains,kD y)
theorem Gt (x:bc) (h:kC x≤1048576):w6 x:=by
 unfold kC at h
 have nn_Alphas:∀ y∈x.Alphas,0≤cT y:=fun y _=>kG y
 have:=ac _ _ nn_Alphas
 have nn_Chains:∀ y∈x.Chains,0≤cS y:=fun y _=>kv y
 have:=ac _ _ nn_Chains
 exact ⟨⟨by omega,fun y hy=>DD y (by have:=dE _ _ nn_Alphas y hy; omega)⟩,⟨by omega,fun y hy=>Fm y (by have:=dE _ _ nn_Chains y hy; omega)⟩⟩
theorem vC {N:Nat} (hN:1399000000000≤N) (x:(List aL)) (h:(x.length≤1099511627776)):nZ N x=some x:=by
 have hl:x.length≤1099511627776:=h
 unfold nZ
 rw [kR _ (by omega),Option.bind_some]
 refine (lC (kT N x) x (by omega) (fun y=>nS N y) (fun y hy=>wN hN y) (fun k s i=>rfl) N 0 _ (by simp) (by omega) (by omega)).trans ?_
 simp
theorem jp {N:Nat} (hN:1399000000000≤N) (x:(List Int)) (h:(x.length≤1099511627776)):ia N x=some x:=by
 have hl:x.length≤1099511627776:=h
 unfold ia
 rw [kR _ (by omega),Option.bind_some]
 refine (lC (l6 N x) x (by omega) (fun y=>some y) (fun y _=>rfl) (fun k s i=>rfl) N 0 _ (by simp) (by omega) (by omega)).trans ?_
 simp
theorem Ar {N:Nat} (hN:1399000000000≤N) (x:a9) (h:kr x):m6 N x=some x:=by
 unfold m6
 rw [vC hN _ (h.1),Option.bind_some,jp hN _ (h.2),Option.bind_some]
theorem yi {N:Nat} (hN:1399000000000≤N) (x:(List a9)) (h:(x.length≤1099511627776∧∀ y∈x,kr y)):mO N x=some x:=by
 have hl:x.length≤1099511627776:=h.1
 unfold mO
 rw [kR _ (by omega),Option.bind_some]
 refine (lC (j0 N x) x (by omega) (fun y=>m6 N y) (fun y hy=>Ar hN y (h.2 y hy)) (fun k s i=>rfl) N 0 _ (by simp) (by omega) (by omega)).trans ?_
 simp
theorem zD {N:Nat} (hN:1399000000000≤N) (x:ae) (h:kD x):mb N x=some x:=by
 unfold mb
 rw [jp hN _ (h.1),Option.bind_some,jp hN _ (h.2),Option.bind_some]
theorem yR {N:Nat} (hN:1399000000000≤N) (x:(List ae)) (h:(x.length≤1099511627776∧∀ y∈x,kD y)):mB N x=some x:=by
 have hl:x.length≤1099511627776:=h.1
 unfold mB
 rw [kR _ (by omega),Option.bind_some]
 refine (lC (j4 N x) x (by omega) (fun y=>mb N y) (fun y hy=>zD hN y (h.2 y hy)) (fun k s i=>rfl) N 0 _ (by simp) (by omega) (by omega)).trans ?_
 simp
theorem DI {N:Nat} (hN:1399000000000≤N) (x:bc) (h:w6 x):lU N x=some x:=by
 unfold lU
 rw [yi hN _ (h.1),Option.bind_some,yR hN _ (h.2),Option.bind_some]
def kF (x:aS):Prop:=(x.L.length≤1099511627776)
theorem H3 (x:aS) (h:cV x≤1048576):kF x:=by
 unfold cV at h
 unfold kF; omega
def n9 (x:ab):Prop:=(x.Ids.length≤1099511627776)∧(x.Hits.length≤1099511627776)
theorem H5 (x:ab) (h:fT x≤1048576):n9 x:=by
 unfold fT at h
 exact ⟨by omega,by omega⟩
def iD (x:aa):Prop:=(x.Toks.length≤1099511627776∧∀ y∈x.Toks,n9 y)
theorem ER (x:aa) (h:bW x≤1048576):iD x:=by
 unfold bW at h
 have nn_Toks:∀ y∈x.Toks,0≤fT y:=fun y _=>nN y
 have:=ac _ _ nn_Toks
 exact ⟨by omega,fun y hy=>H5 y (by have:=dE _ _ nn_Toks y hy; omega)⟩
def lm (x:aF):Prop:=(x.Levels.length≤1099511627776∧∀ y∈x.Levels,iD y)
theorem GQ (x:aF) (h:er x≤1048576):lm x:=by
 unfold er at h
 have nn_Levels:∀ y∈x.Levels,0≤bW y:=fun y _=>mP y
 have:=ac _ _ nn_Levels
 exact ⟨by omega,fun y hy=>ER y (by have:=dE _ _ nn_Levels y hy; omega)⟩
def tO (x:aA):Prop:=(x.Alphas.length≤1099511627776∧∀ y∈x.Alphas,kF y)∧(x.Rules.length≤1099511627776∧∀ y∈x.Rules,lm y)
theorem zc (x:aA) (h:gz x≤1048576):tO x:=by
 unfold gz at h
 have nn_Alphas:∀ y∈x.Alphas,0≤cV y:=fun y _=>lB y
 have:=ac _ _ nn_Alphas
 have nn_Rules:∀ y∈x.Rules,0≤er y:=fun y _=>lA y
 have:=ac _ _ nn_Rules
 exact ⟨⟨by omega,fun y hy=>H3 y (by have:=dE _ _ nn_Alphas y hy; omega)⟩,⟨by omega,fun y hy=>GQ y (by have:=dE _ _ nn_Rules y hy; omega)⟩⟩
theorem Ea {N:Nat} (hN:1399000000000≤N) (x:aS) (h:kF x):qi N x=some x:=by
 unfold qi
 rw [jp hN _ (h),Option.bind_some]
theorem Bm {N:Nat} (hN:1399000000000≤N) (x:(List aS)) (h:(x.length≤1099511627776∧∀ y∈x,kF y)):rC N x=some x:=by
 have hl:x.length≤1099511627776:=h.1
 unfold rC
 rw [kR _ (by omega),Option.bind_some]
 refine (lC (l7 N x) x (by omega) (fun y=>qi N y) (fun y hy=>Ea hN y (h.2 y hy)) (fun k s i=>rfl) N 0 _ (by simp) (by omega) (by omega)).trans ?_
 simp
theorem E3 {N:Nat} (hN:1399000000000≤N) (x:ab) (h:n9 x):qf N x=some x:=by
 unfold qf
 rw [jp hN _ (h.1),Option.bind_some,jp hN _ (h.2),Option.bind_some]
theorem BV {N:Nat} (hN:1399000000000≤N) (x:(List ab)) (h:(x.length≤1099511627776∧∀ y∈x,n9 y)):rH N x=some x:=by
 have hl:x.length≤1099511627776:=h.1
 unfold rH
 rw [kR _ (by omega),Option.bind_some]
 refine (lC (l9 N x) x (by omega) (fun y=>qf N y) (fun y hy=>E3 hN y (h.2 y hy)) (fun k s i=>rfl) N 0 _ (by simp) (by omega) (by omega)).trans ?_
 simp
theorem zI {N:Nat} (hN:1399000000000≤N) (x:aa) (h:iD x):lH N x=some x:=by
 unfold lH
 rw [BV hN _ (h),Option.bind_some]
theorem yJ {N:Nat} (hN:1399000000000≤N) (x:(List aa)) (h:(x.length≤1099511627776∧∀ y∈x,iD y)):mw N x=some x:=by
 have hl:x.length≤1099511627776:=h.1
 unfold mw
 rw [kR _ (by omega),Option.bind_some]
 refine (lC (j9 N x) x (by omega) (fun y=>lH N y) (fun y hy=>zI hN y (h.2 y hy)) (fun k s i=>rfl) N 0 _ (by simp) (by omega) (by omega)).trans ?_
 simp
theorem Er {N:Nat} (hN:1399000000000≤N) (x:aF) (h:lm x):qo N x=some x:=by
 unfold qo
 rw [yJ hN _ (h),Option.bind_some]
theorem Bh {N:Nat} (hN:1399000000000≤N) (x:(List aF)) (h:(x.length≤1099511627776∧∀ y∈x,lm y)):rZ N x=some x:=by
 have hl:x.length≤1099511627776:=h.1
 unfold rZ
 rw [kR _ (by omega),Option.bind_some]
 refine (lC (lg N x) x (by omega) (fun y=>qo N y) (fun y hy=>Er hN y (h.2 y hy)) (fun k s i=>rfl) N 0 _ (by simp) (by omega) (by omega)).trans ?_
 simp
theorem Em {N:Nat} (hN:1399000000000≤N) (x:aA) (h:tO x):lN N x=some x:=by
 unfold lN
 rw [Bm hN _ (h.1),Option.bind_some,Bh hN _ (h.2),Option.bind_some]
def uv (x:aw):Prop:=(x.Fields.length≤1099511627776)
theorem FY (x:aw) (h:nw x≤1048576):uv x:=by
 unfold nw at h
 have nn_Fields:∀ y∈x.Fields,0≤cl y:=fun y _=>eC y
 have:=ac _ _ nn_Fields
 unfold uv; omega
def mI (x:aC):Prop:=uv x.F
theorem FJ (x:aC) (h:ec x≤1048576):mI x:=by
 unfold ec at h
 have:=uG x.F
 exact FY _ (by omega)
def tw (x:ah):Prop:=(x.Items.length≤1099511627776∧∀ y∈x.Items,mI y)
theorem EA (x:ah) (h:gj x≤1048576):tw x:=by
 unfold gj at h
 have nn_Items:∀ y∈x.Items,0≤ec y:=fun y _=>lI y
 have:=ac _ _ nn_Items
 exact ⟨by omega,fun y hy=>FJ y (by have:=dE _ _ nn_Items y hy; omega)⟩
theorem Cx {N:Nat} (hN:1399000000000≤N) (x:aw) (h:uv x):rM N x=some x:=by
 unfold rM
 rw [vC hN _ (h),Option.bind_some]
theorem BM {N:Nat} (hN:1399000000000≤N) (x:aC) (h:mI x):nK N x=some x:=by
 unfold nK
 rw [Cx hN _ (h),Option.bind_some]
theorem AY {N:Nat} (hN:1399000000000≤N) (x:(List aC)) (h:(x.length≤1099511627776∧∀ y∈x,mI y)):pe N x=some x:=by
 have hl:x.length≤1099511627776:=h.1
 unfold pe
 rw [kR _ (by omega),Option.bind_some]
 refine (lC (kg N x) x (by omega) (fun y=>nK N y) (fun y hy=>BM hN y (h.2 y hy)) (fun k s i=>rfl) N 0 _ (by simp) (by omega) (by omega)).trans ?_
 simp
theorem B8 {N:Nat} (hN:1399000000000≤N) (x:ah) (h:tw x):iJ N x=some x:=by
 unfold iJ
 rw [AY hN _ (h),Option.bind_some]
theorem jg {N:Nat} (hN:1399000000000≤N) (x y:(List Int)) (h:(x.length≤1099511627776)):ib N x y=some (decide (x=y)):=by
 have hl:x.length≤1099511627776:=h
 unfold ib
 by_cases c:x.length=y.length
 ·rw [if_neg (by simp; omega)]
  refine (gn (jF N x y) x y c (by omega) (fun a b=>some (decide (a=b))) (fun a _ b _=>rfl) (fun k i=>rfl) N 0 (by omega) (by omega)).trans ?_
  simp
 ·rw [if_pos (by simp; omega)]
  have : ¬ x=y:=fun e=>c (by rw [e])
  simp [this]
theorem Fc {N:Nat} (hN:1399000000000≤N) (x y:aS) (h:kF x):qu N x y=some (decide (x=y)):=by
 unfold qu
 rw [jg hN _ _ (h)]
 simp only [dA,Option.bind_some]
 obtain ⟨a0⟩:=x; obtain ⟨b0⟩:=y
 simp only [aS.mk.injEq]
 by_cases c0:a0=b0
 ·subst c0
  simp
 ·simp [c0]
theorem Bi {N:Nat} (hN:1399000000000≤N) (x y:(List aS)) (h:(x.length≤1099511627776∧∀ y∈x,kF y)):rn N x y=some (decide (x=y)):=by
 have hl:x.length≤1099511627776:=h.1
 unfold rn
 by_cases c:x.length=y.length
 ·rw [if_neg (by simp; omega)]
  refine (gn (jq N x y) x y c (by omega) (fun a b=>qu N a b) (fun a ha b hb=>Fc hN a b (h.2 a ha)) (fun k i=>rfl) N 0 (by omega) (by omega)).trans ?_
  simp
 ·rw [if_pos (by simp; omega)]
  have : ¬ x=y:=fun e=>c (by rw [e])
  simp [this]
theorem EN {N:Nat} (hN:1399000000000≤N) (x y:ab) (h:n9 x):qa N x y=some (decide (x=y)):=by
 unfold qa
 rw [jg hN _ _ (h.1),jg hN _ _ (h.2)]
 simp only [dA,Option.bind_some]
 obtain ⟨a0,a1⟩:=x; obtain ⟨b0,b1⟩:=y
 simp only [ab.mk.injEq]
 by_cases c0:a0=b0
 ·subst c0
  by_cases c1:a1=b1
  ·subst c1
   simp
  ·simp [c1]
 ·simp [c0]
theorem Cv {N:Nat} (hN:1399000000000≤N) (x y:(List ab)) (h:(x.length≤1099511627776∧∀ y∈x,n9 y)):qX N x y=some (decide (x=y)):=by
 have hl:x.length≤1099511627776:=h.1
 unfold qX
 by_cases c:x.length=y.length
 ·rw [if_neg (by simp; omega)]
  refine (gn (jn N x y) x y c (by omega) (fun a b=>qa N a b) (fun a ha b hb=>EN hN a b (h.2 a ha)) (fun k i=>rfl) N 0 (by omega) (by omega)).trans ?_
  simp
 ·rw [if_pos (by simp; omega)]
  have : ¬ x=y:=fun e=>c (by rw [e])
  simp [this]
theorem zj {N:Nat} (hN:1399000000000≤N) (x y:aa) (h:iD x):lZ N x y=some (decide (x=y)):=by
 unfold lZ
 rw [Cv hN _ _ (h)]
 simp only [dA,Option.bind_some]
 obtain ⟨a0⟩:=x; obtain ⟨b0⟩:=y
 simp only [aa.mk.injEq]
 by_cases c0:a0=b0
 ·subst c0
  simp
 ·simp [c0]
theorem y9 {N:Nat} (hN:1399000000000≤N) (x y:(List aa)) (h:(x.length≤1099511627776∧∀ y∈x,iD y)):nh N x y=some (decide (x=y)):=by
 have hl:x.length≤1099511627776:=h.1
 unfold nh
 by_cases c:x.length=y.length
 ·rw [if_neg (by simp; omega)]
  refine (gn (gH N x y) x y c (by omega) (fun a b=>lZ N a b) (fun a ha b hb=>zj hN a b (h.2 a ha)) (fun k i=>rfl) N 0 (by omega) (by omega)).trans ?_
  simp
 ·rw [if_pos (by simp; omega)]
  have : ¬ x=y:=fun e=>c (by rw [e])
  simp [this]
theorem Ep {N:Nat} (hN:1399000000000≤N) (x y:aF) (h:lm x):qk N x y=some (decide (x=y)):=by
 unfold qk
 rw [y9 hN _ _ (h)]
 simp only [dA,Option.bind_some]
 obtain ⟨a0⟩:=x; obtain ⟨b0⟩:=y
 simp only [aF.mk.injEq]
 by_cases c0:a0=b0
 ·subst c0
  simp
 ·simp [c0]
theorem BW {N:Nat} (hN:1399000000000≤N) (x y:(List aF)) (h:(x.length≤1099511627776∧∀ y∈x,lm y)):rJ N x y=some (decide (x=y)):=by
 have hl:x.length≤1099511627776:=h.1
 unfold rJ
 by_cases c:x.length=y.length
 ·rw [if_neg (by simp; omega)]
  refine (gn (jk N x y) x y c (by omega) (fun a b=>qk N a b) (fun a ha b hb=>Ep hN a b (h.2 a ha)) (fun k i=>rfl) N 0 (by omega) (by omega)).trans ?_
  simp
 ·rw [if_pos (by simp; omega)]
  have : ¬ x=y:=fun e=>c (by rw [e])
  simp [this]
theorem wM {N:Nat} (hN:1399000000000≤N) (x y:aA) (h:tO x):mh N x y=some (decide (x=y)):=by
 unfold mh
 rw [Bi hN _ _ (h.1),BW hN _ _ (h.2)]
 simp only [dA,Option.bind_some]
 obtain ⟨a0,a1⟩:=x; obtain ⟨b0,b1⟩:=y
 simp only [aA.mk.injEq]
 by_cases c0:a0=b0
 ·subst c0
  by_cases c1:a1=b1
  ·subst c1
   simp
  ·simp [c1]
 ·simp [c0]
theorem wi {N:Nat} (hN:1399000000000≤N) (x y:aL):nJ N x y=some (decide (x=y)):=by
 unfold nJ
 simp only [dA,Option.bind_some]
 obtain ⟨a0,a1,a2⟩:=x; obtain ⟨b0,b1,b2⟩:=y
 simp only [aL.mk.injEq]
 by_cases c0:a0=b0
 ·subst c0
  by_cases c1:a1=b1
  ·subst c1
   by_cases c2:a2=b2
   ·subst c2
    simp
   ·simp [c2]
  ·simp [c1]
 ·simp [c0]
theorem mR {N:Nat} (hN:1399000000000≤N) (x y:be):jr N x y=some (decide (x=y)):=by
 unfold jr
 rw [wi hN _ _]
 simp only [dA,Option.bind_some]
 obtain ⟨a0,a1,a2⟩:=x; obtain ⟨b0,b1,b2⟩:=y
 simp only [be.mk.injEq]
 by_cases c0:a0=b0
 ·subst c0
  by_cases c1:a1=b1
  ·subst c1
   by_cases c2:a2=b2
   ·subst c2
    simp
   ·simp [c2]
  ·simp [c1]
 ·simp [c0]
theorem Bq {N:Nat} (hN:1399000000000≤N) (x y:(List be)) (h:(x.length≤1099511627776)):rO N x y=some (decide (x=y)):=by
 have hl:x.length≤1099511627776:=h
 unfold rO
 by_cases c:x.length=y.length
 ·rw [if_neg (by simp; omega)]
  refine (gn (jB N x y) x y c (by omega) (fun a b=>jr N a b) (fun a ha b hb=>mR hN a b) (fun k i=>rfl) N 0 (by omega) (by omega)).trans ?_
  simp
 ·rw [if_pos (by simp; omega)]
  have : ¬ x=y:=fun e=>c (by rw [e])
  simp [this]
theorem Fh {N:Nat} (hN:1399000000000≤N) (x y:av) (h:oh x):qj N x y=some (decide (x=y)):=by
 unfold qj
 rw [Bq hN _ _ (h)]
 simp only [dA,Option.bind_some]
 obtain ⟨a0,a1,a2⟩:=x; obtain ⟨b0,b1,b2⟩:=y
 simp only [av.mk.injEq]
 by_cases c0:a0=b0
 ·subst c0
  by_cases c1:a1=b1
  ·subst c1
   by_cases c2:a2=b2
   ·subst c2
    simp
   ·simp [c2]
  ·simp [c1]
 ·simp [c0]
theorem BI {N:Nat} (hN:1399000000000≤N) (x y:(List av)) (h:(x.length≤1099511627776∧∀ y∈x,oh y)):qV N x y=some (decide (x=y)):=by
 have hl:x.length≤1099511627776:=h.1
 unfold qV
 by_cases c:x.length=y.length
 ·rw [if_neg (by simp; omega)]
  refine (gn (jw N x y) x y c (by omega) (fun a b=>qj N a b) (fun a ha b hb=>Fh hN a b (h.2 a ha)) (fun k i=>rfl) N 0 (by omega) (by omega)).trans ?_
  simp
 ·rw [if_pos (by simp; omega)]
  have : ¬ x=y:=fun e=>c (by rw [e])
  simp [this]
theorem BL {N:Nat} (hN:1399000000000≤N) (x y:bn):nO N x y=some (decide (x=y)):=by
 unfold nO
 rw [mR hN _ _,mR hN _ _]
 simp only [dA,Option.bind_some]
 obtain ⟨a0,a1,a2⟩:=x; obtain ⟨b0,b1,b2⟩:=y
 simp only [bn.mk.injEq]
 by_cases c0:a0=b0
 ·subst c0
  by_cases c1:a1=b1
  ·subst c1
   by_cases c2:a2=b2
   ·subst c2
    simp
   ·simp [c2]
  ·simp [c1]
 ·simp [c0]
theorem B1 {N:Nat} (hN:1399000000000≤N) (x y:(List bn)) (h:(x.length≤1099511627776)):oD N x y=some (decide (x=y)):=by
 have hl:x.length≤1099511627776:=h
 unfold oD
 by_cases c:x.length=y.length
 ·rw [if_neg (by simp; omega)]
  refine (gn (iz N x y) x y c (by omega) (fun a b=>nO N a b) (fun a ha b hb=>BL hN a b) (fun k i=>rfl) N 0 (by omega) (by omega)).trans ?_
  simp
 ·rw [if_pos (by simp; omega)]
  have : ¬ x=y:=fun e=>c (by rw [e])
  simp [this]
theorem BH {N:Nat} (hN:1399000000000≤N) (x y:bk):nG N x y=some (decide (x=y)):=by
 unfold nG
 rw [mR hN _ _,mR hN _ _]
 simp only [dA,Option.bind_some]
 obtain ⟨a0,a1,a2⟩:=x; obtain ⟨b0,b1,b2⟩:=y
 simp only [bk.mk.injEq]
 by_cases c0:a0=b0
 ·subst c0
  by_cases c1:a1=b1
  ·subst c1
   by_cases c2:a2=b2
   ·subst c2
    simp
   ·simp [c2]
  ·simp [c1]
 ·simp [c0]
theorem AH {N:Nat} (hN:1399000000000≤N) (x y:(List bk)) (h:(x.length≤1099511627776)):pb N x y=some (decide (x=y)):=by
 have hl:x.length≤1099511627776:=h
 unfold pb
 by_cases c:x.length=y.length
 ·rw [if_neg (by simp; omega)]
  refine (gn (ij N x y) x y c (by omega) (fun a b=>nG N a b) (fun a ha b hb=>BH hN a b) (fun k i=>rfl) N 0 (by omega) (by omega)).trans ?_
  simp
 ·rw [if_pos (by simp; omega)]
  have : ¬ x=y:=fun e=>c (by rw [e])
  simp [this]
theorem E7 {N:Nat} (hN:1399000000000≤N) (x y:bM) (h:ol x):qm N x y=some (decide (x=y)):=by
 unfold qm
 rw [AH hN _ _ (h)]
 simp only [dA,Option.bind_some]
 obtain ⟨a0,a1,a2,a3,a4⟩:=x; obtain ⟨b0,b1,b2,b3,b4⟩:=y
 simp only [bM.mk.injEq]
 by_cases c0:a0=b0
 ·subst c0
  by_cases c1:a1=b1
  ·subst c1
   by_cases c2:a2=b2
   ·subst c2
    by_cases c3:a3=b3
    ·subst c3
     by_cases c4:a4=b4
     ·subst c4
      simp
     ·simp [c4]
    ·simp [c3]
   ·simp [c2]
  ·simp [c1]
 ·simp [c0]
theorem BS {N:Nat} (hN:1399000000000≤N) (x y:(List bM)) (h:(x.length≤1099511627776∧∀ y∈x,ol y)):rU N x y=some (decide (x=y)):=by
 have hl:x.length≤1099511627776:=h.1
 unfold rU
 by_cases c:x.length=y.length
 ·rw [if_neg (by simp; omega)]
  refine (gn (jy N x y) x y c (by omega) (fun a b=>qm N a b) (fun a ha b hb=>E7 hN a b (h.2 a ha)) (fun k i=>rfl) N 0 (by omega) (by omega)).trans ?_
  simp
 ·rw [if_pos (by simp; omega)]
  have : ¬ x=y:=fun e=>c (by rw [e])
  simp [this]
theorem BN {N:Nat} (hN:1399000000000≤N) (x y:ag) (h:mD x):o1 N x y=some (decide (x=y)):=by
 unfold o1
 rw [BI hN _ _ (h.1),B1 hN _ _ (h.2.1),BS hN _ _ (h.2.2)]
 simp only [dA,Option.bind_some]
 obtain ⟨a0,a1,a2,a3,a4⟩:=x; obtain ⟨b0,b1,b2,b3,b4⟩:=y
 simp only [ag.mk.injEq]
 by_cases c0:a0=b0
 ·subst c0
  by_cases c1:a1=b1
  ·subst c1
   by_cases c2:a2=b2
   ·subst c2
    by_cases c3:a3=b3
    ·subst c3
     by_cases c4:a4=b4
     ·subst c4
      simp
     ·simp [c4]
    ·simp [c3]
   ·simp [c2]
  ·simp [c1]
 ·simp [c0]
theorem zB {N:Nat} (hN:1399000000000≤N) (x y:(List ag)) (h:(x.length≤1099511627776∧∀ y∈x,mD y)):p9 N x y=some (decide (x=y)):=by
 have hl:x.length≤1099511627776:=h.1
 unfold p9
 by_cases c:x.length=y.length
 ·rw [if_neg (by simp; omega)]
  refine (gn (ir N x y) x y c (by omega) (fun a b=>o1 N a b) (fun a ha b hb=>BN hN a b (h.2 a ha)) (fun k i=>rfl) N 0 (by omega) (by omega)).trans ?_
  simp
 ·rw [if_pos (by simp; omega)]
  have : ¬ x=y:=fun e=>c (by rw [e])
  simp [this]
theorem DG {N:Nat} (hN:1399000000000≤N) (x y:bo) (h:vW x):tp N x y=some (decide (x=y)):=by
 unfold tp
 rw [zB hN _ _ (h)]
 simp only [dA,Option.bind_some]
 obtain ⟨a0,a1⟩:=x; obtain ⟨b0,b1⟩:=y
 simp only [bo.mk.injEq]
 by_cases c0:a0=b0
 ·subst c0
  by_cases c1:a1=b1
  ·subst c1
   simp
  ·simp [c1]
 ·simp [c0]
theorem vD {N:Nat} (hN:1399000000000≤N) (x y:(List aL)) (h:(x.length≤1099511627776)):nH N x y=some (decide (x=y)):=by
 have hl:x.length≤1099511627776:=h
 unfold nH
 by_cases c:x.length=y.length
 ·rw [if_neg (by simp; omega)]
  refine (gn (jG N x y) x y c (by omega) (fun a b=>nJ N a b) (fun a ha b hb=>wi hN a b) (fun k i=>rfl) N 0 (by omega) (by omega)).trans ?_
  simp
 ·rw [if_pos (by simp; omega)]
  have : ¬ x=y:=fun e=>c (by rw [e])
  simp [this]
theorem AA {N:Nat} (hN:1399000000000≤N) (x y:a9) (h:kr x):lM N x y=some (decide (x=y)):=by
 unfold lM
 rw [vD hN _ _ (h.1),jg hN _ _ (h.2)]
 simp only [dA,Option.bind_some]
 obtain ⟨a0,a1,a2,a3⟩:=x; obtain ⟨b0,b1,b2,b3⟩:=y
 simp only [a9.mk.injEq]
 by_cases c0:a0=b0
 ·subst c0
  by_cases c1:a1=b1
  ·subst c1
   by_cases c2:a2=b2
   ·subst c2
    by_cases c3:a3=b3
    ·subst c3
     simp
    ·simp [c3]
   ·simp [c2]
  ·simp [c1]
 ·simp [c0]
theorem yO {N:Nat} (hN:1399000000000≤N) (x y:(List a9)) (h:(x.length≤1099511627776∧∀ y∈x,kr y)):nr N x y=some (decide (x=y)):=by
 have hl:x.length≤1099511627776:=h.1
 unfold nr
 by_cases c:x.length=y.length
 ·rw [if_neg (by simp; omega)]
  refine (gn (gN N x y) x y c (by omega) (fun a b=>lM N a b) (fun a ha b hb=>AA hN a b (h.2 a ha)) (fun k i=>rfl) N 0 (by omega) (by omega)).trans ?_
  simp
 ·rw [if_pos (by simp; omega)]
  have : ¬ x=y:=fun e=>c (by rw [e])
  simp [this]
theorem Ah {N:Nat} (hN:1399000000000≤N) (x y:ae) (h:kD x):lK N x y=some (decide (x=y)):=by
 unfold lK
 rw [jg hN _ _ (h.1),jg hN _ _ (h.2)]
 simp only [dA,Option.bind_some]
 obtain ⟨a0,a1⟩:=x; obtain ⟨b0,b1⟩:=y
 simp only [ae.mk.injEq]
 by_cases c0:a0=b0
 ·subst c0
  by_cases c1:a1=b1
  ·subst c1
   simp
  ·simp [c1]
 ·simp [c0]
theorem yE {N:Nat} (hN:1399000000000≤N) (x y:(List ae)) (h:(x.length≤1099511627776∧∀ y∈x,kD y)):ng N x y=some (decide (x=y)):=by
 have hl:x.length≤1099511627776:=h.1
 unfold ng
 by_cases c:x.length=y.length
 ·rw [if_neg (by simp; omega)]
  refine (gn (gG N x y) x y c (by omega) (fun a b=>lK N a b) (fun a ha b hb=>Ah hN a b (h.2 a ha)) (fun k i=>rfl) N 0 (by omega) (by omega)).trans ?_
  simp
 ·rw [if_pos (by simp; omega)]
  have : ¬ x=y:=fun e=>c (by rw [e])
  simp [this]
theorem Es {N:Nat} (hN:1399000000000≤N) (x y:bc) (h:w6 x):tv N x y=some (decide (x=y)):=by
 unfold tv
 rw [yO hN _ _ (h.1),yE hN _ _ (h.2)]
 simp only [dA,Option.bind_some]
 obtain ⟨a0,a1⟩:=x; obtain ⟨b0,b1⟩:=y
 simp only [bc.mk.injEq]
 by_cases c0:a0=b0
 ·subst c0
  by_cases c1:a1=b1
  ·subst c1
   simp
  ·simp [c1]
 ·simp [c0]
theorem CF {N:Nat} (hN:1399000000000≤N) (x y:aw) (h:uv x):rf N x y=some (decide (x=y)):=by
 unfold rf
 rw [vD hN _ _ (h)]
 simp only [dA,Option.bind_some]
 obtain ⟨a0,a1⟩:=x; obtain ⟨b0,b1⟩:=y
 simp only [aw.mk.injEq]
 by_cases c0:a0=b0
 ·subst c0
  by_cases c1:a1=b1
  ·subst c1
   simp
  ·simp [c1]
 ·simp [c0]
theorem Bp {N:Nat} (hN:1399000000000≤N) (x y:aC) (h:mI x):o5 N x y=some (decide (x=y)):=by
 unfold o5
 rw [CF hN _ _ (h)]
 simp only [dA,Option.bind_some]
 obtain ⟨a0,a1⟩:=x; obtain ⟨b0,b1⟩:=y
 simp only [aC.mk.injEq]
 by_cases c0:a0=b0
 ·subst c0
  by_cases c1:a1=b1
  ·subst c1
   simp
  ·simp [c1]
 ·simp [c0]
theorem zp {N:Nat} (hN:1399000000000≤N) (x y:(List aC)) (h:(x.length≤1099511627776∧∀ y∈x,mI y)):oJ N x y=some (decide (x=y)):=by
 have hl:x.length≤1099511627776:=h.1
 unfold oJ
 by_cases c:x.length=y.length
 ·rw [if_neg (by simp; omega)]
  refine (gn (iA N x y) x y c (by omega) (fun a b=>o5 N a b) (fun a ha b hb=>Bp hN a b (h.2 a ha)) (fun k i=>rfl) N 0 (by omega) (by omega)).trans ?_
  simp
 ·rw [if_pos (by simp; omega)]
  have : ¬ x=y:=fun e=>c (by rw [e])
  simp [this]
theorem Ai {N:Nat} (hN:1399000000000≤N) (x y:ah) (h:tw x):oK N x y=some (decide (x=y)):=by
 unfold oK
 rw [zp hN _ _ (h)]
 simp only [dA,Option.bind_some]
 obtain ⟨a0,a1⟩:=x; obtain ⟨b0,b1⟩:=y
 simp only [ah.mk.injEq]
 by_cases c0:a0=b0
 ·subst c0
  by_cases c1:a1=b1
  ·subst c1
   simp
  ·simp [c1]
 ·simp [c0]
theorem mtx {N:Nat} (hN:1399000000000≤N) (k:Int) (h0:0≤k) (h1:k≤aG):∃ t,au N k=some t:=by
 unfold au
 by_cases c:k≤0
 ·rw [if_pos (by simpa using c)]; exact ⟨_,rfl⟩
 ·rw [if_neg (by simpa using c)]
  obtain ⟨m,hm⟩:∃ m,N=20+1+m:=⟨N - 21,by omega⟩
  have:=JH (fE N) (fun n s t=>by simp only [fE]) 20 m k (⟨#[]⟩:ByteArray) h0 h1 (by unfold aG at h1; omega) (by decide)
  rw [← hm] at this; exact this
def eV (x:be):Int:=1+1+1+1+1
theorem vV (x:be):0≤eV x:=by
 unfold eV
 omega
theorem Gm (x:be):eV x≤32+32*(dv x):=by
 unfold eV dv cl
 omega
def Gy (N:Nat) (x:be) (k:Int):Prop:=x.K=k∧au N (k+1)=some x.S∧x.V.K=((k+1)+1)∧x.V.N=(((k+1)+1)+1)∧au N ((((k+1)+1)+1)+1)=some x.V.S
def eW (x:av):Int:=1+aq eV x.Args+1
theorem vG (x:av):0≤eW x:=by
 unfold eW
 have:=aV vV x.Args
 omega
theorem H2 (x:av):eW x≤32+32*(et x):=by
 have:=iQ (p:=x.Args) (tot:=dv) (fun y _=>Gm y)
 have:=ac dv x.Args (fun y _=>cL y)
 unfold eW et
 omega
def DL (N:Nat) (x:av) (k:Int):Prop:=au N k=some x.Kind∧HdL (Gy N) eV x.Args (k+1)∧x.Not=decide (((k+1)+aq eV x.Args).tmod 3=0)
def dV (x:bn):Int:=1+1+1+1+1+1+1+1+1+1+1
theorem uA (x:bn):0≤dV x:=by
 unfold dV
 omega
theorem Gb (x:bn):dV x≤32+32*(fa x):=by
 unfold dV fa dv cl
 omega
def ED (N:Nat) (x:bn) (k:Int):Prop:=x.Op=k∧x.L.K=(k+1)∧au N ((k+1)+1)=some x.L.S∧x.L.V.K=(((k+1)+1)+1)∧x.L.V.N=((((k+1)+1)+1)+1)∧au N (((((k+1)+1)+1)+1)+1)=some x.L.V.S∧x.R.K=((((((k+1)+1)+1)+1)+1)+1)∧au N (((((((k+1)+1)+1)+1)+1)+1)+1)=some x.R.S∧x.R.V.K=((((((((k+1)+1)+1)+1)+1)+1)+1)+1)∧x.R.V.N=(((((((((k+1)+1)+1)+1)+1)+1)+1)+1)+1)∧au N ((((((((((k+1)+1)+1)+1)+1)+1)+1)+1)+1)+1)=some x.R.V.S
def ck (x:bk):Int:=1+1+1+1+1+1+1+1+1+1+1
theorem uD (x:bk):0≤ck x:=by
 unfold ck
 omega
theorem FH (x:bk):ck x≤32+32*(eu x):=by
 unfold ck eu dv cl
 omega
def Ej (N:Nat) (x:bk) (k:Int):Prop:=au N k=some x.Op∧x.L.K=(k+1)∧au N ((k+1)+1)=some x.L.S∧x.L.V.K=(((k+1)+1)+1)∧x.L.V.N=((((k+1)+1)+1)+1)∧au N (((((k+1)+1)+1)+1)+1)=some x.L.V.S∧x.R.K=((((((k+1)+1)+1)+1)+1)+1)∧au N (((((((k+1)+1)+1)+1)+1)+1)+1)=some x.R.S∧x.R.V.K=((((((((k+1)+1)+1)+1)+1)+1)+1)+1)∧x.R.V.N=(((((((((k+1)+1)+1)+1)+1)+1)+1)+1)+1)∧au N ((((((((((k+1)+1)+1)+1)+1)+1)+1)+1)+1)+1)=some x.R.V.S
def gS (x:bM):Int:=1+1+aq ck x.Args+1+1
theorem vF (x:bM):0≤gS x:=by
 unfold gS
 have:=aV uD x.Args
 omega
theorem GF (x:bM):gS x≤32+32*(es x):=by
 have:=iQ (p:=x.Args) (tot:=eu) (fun y _=>FH y)
 have:=ac eu x.Args (fun y _=>ke y)
 unfold gS es
 omega
def Eo (N:Nat) (x:bM) (k:Int):Prop:=x.Kind=k∧au N (k+1)=some x.Name∧HdL (Ej N) ck x.Args ((k+1)+1)∧x.N=(((k+1)+1)+aq ck x.Args)∧au N ((((k+1)+1)+aq ck x.Args)+1)=some x.Undo
def ev (x:ag):Int:=1+1+aq eW x.Pats+aq dV x.Conds+aq gS x.Acts
theorem sC (x:ag):0≤ev x:=by
 unfold ev
 have:=aV vG x.Pats
 have:=aV uA x.Conds
 have:=aV vF x.Acts
 omega
theorem FT (x:ag):ev x≤32+32*(dZ x):=by
 have:=iQ (p:=x.Pats) (tot:=et) (fun y _=>H2 y)
 have:=ac et x.Pats (fun y _=>nD y)
 have:=iQ (p:=x.Conds) (tot:=fa) (fun y _=>Gb y)
 have:=ac fa x.Conds (fun y _=>lJ y)
 have:=iQ (p:=x.Acts) (tot:=es) (fun y _=>GF y)
 have:=ac es x.Acts (fun y _=>o6 y)
 unfold ev dZ
 omega
def yW (N:Nat) (x:ag) (k:Int):Prop:=au N k=some x.Name∧x.Sal=(k+1)∧HdL (DL N) eW x.Pats ((k+1)+1)∧HdL (ED N) dV x.Conds (((k+1)+1)+aq eW x.Pats)∧HdL (Eo N) gS x.Acts ((((k+1)+1)+aq eW x.Pats)+aq dV x.Conds)
def vZ (x:bo):Int:=1+aq ev x.Rules
theorem Mj (x:bo):0≤vZ x:=by
 unfold vZ
 have:=aV sC x.Rules
 omega
theorem He (x:bo):vZ x≤32+32*(kE x):=by
 have:=iQ (p:=x.Rules) (tot:=dZ) (fun y _=>FT y)
 have:=ac dZ x.Rules (fun y _=>mi y)
 unfold vZ kE
 omega
def OQ (N:Nat) (x:bo) (k:Int):Prop:=au N k=some x.Name∧HdL (yW N) ev x.Rules (k+1)
theorem yD {N:Nat} (hN:1399000000000≤N) (x:(List be)) (h:(x.length≤1099511627776)) (k:Int) (h0:0≤k) (h1:k+aq eV x≤aG):∃ ys,pX N x k=some (k+aq eV x,ys)∧aq eV ys=aq eV x∧HdL (Gy N) eV ys k∧(ys.length≤1099511627776):=by
 have hl:x.length≤1099511627776:=h
 obtain ⟨ys,a1,a2,a3,a4,a5⟩:=lE (fG N) (Gy N) eV (fun _=>True) vV (fun n s k i x hx hi hlt h0 h1 h=>by
  unfold aG at h1
  have hcnt:eV x=1+1+1+1+1:=rfl
  rw [hcnt] at h1
  have e0:IntKind.i64.wrap (k+1)=k+1:=wr (by omega) (by omega)
  obtain ⟨t1,m1⟩:=mtx hN (k+1) (by omega) (by unfold aG; omega)
  have e1:IntKind.i64.wrap ((k+1)+1)=(k+1)+1:=wr (by omega) (by omega)
  have e2:IntKind.i64.wrap (((k+1)+1)+1)=((k+1)+1)+1:=wr (by omega) (by omega)
  have e3:IntKind.i64.wrap ((((k+1)+1)+1)+1)=(((k+1)+1)+1)+1:=wr (by omega) (by omega)
  obtain ⟨t4,m4⟩:=mtx hN ((((k+1)+1)+1)+1) (by omega) (by unfold aG; omega)
  have e4:IntKind.i64.wrap (((((k+1)+1)+1)+1)+1)=((((k+1)+1)+1)+1)+1:=wr (by omega) (by omega)
  have cc:decide ((i:Int) < (s.length:Int))=true:=decide_eq_true hlt
  refine ⟨(⟨k,t1,(⟨((k+1)+1),(((k+1)+1)+1),t4⟩:aL)⟩:be),?_,?_,?_,?_⟩
  ·exact ⟨(by trivial),m1,(by trivial),(by trivial),m4⟩
  ·simp only [eV]
  ·exact trivial
  ·have hp:(((((k+1)+1)+1)+1)+1)=k+eV x:=by omega
   rw [← hp,← wr1 i (by omega)]
   simp only [fG,cc,if_true,show idx s (i:Int)=some x from by rw [cq,hx],Option.bind_some,Int.toNat_natCast,e0,m1,e1,e2,e3,m4,e4])
  (fun n s k i hi=>by simp only [fG]; rw [if_neg (by simpa using hi)]) N 0 x k hl (by omega) (by omega) h0 (by simpa using h1) (fun _ _=>trivial)
 simp only [List.drop_zero,List.take_zero,List.nil_append] at a1 a3
 exact ⟨ys,a1,a3,a4,by omega⟩
theorem yk {N:Nat} (hN:1399000000000≤N) (x:(List av)) (h:(x.length≤1099511627776∧∀ y∈x,oh y)) (k:Int) (h0:0≤k) (h1:k+aq eW x≤aG):∃ ys,pR N x k=some (k+aq eW x,ys)∧aq eW ys=aq eW x∧HdL (DL N) eW ys k∧(ys.length≤1099511627776∧∀ y∈ys,oh y):=by
 have hl:x.length≤1099511627776:=h.1
 obtain ⟨ys,a1,a2,a3,a4,a5⟩:=lE (fC N) (DL N) eW oh vG (fun n s k i x hx hi hlt h0 h1 h=>by
  unfold aG at h1
  have hcnt:eW x=1+aq eV x.Args+1:=rfl
  rw [hcnt] at h1
  have n1:=aV vV x.Args
  obtain ⟨t0,m0⟩:=mtx hN k (by omega) (by unfold aG; omega)
  have e0:IntKind.i64.wrap (k+1)=k+1:=wr (by omega) (by omega)
  obtain ⟨y1,m1,c1,d1,l1⟩:=yD hN x.Args (h) (k+1) (by omega) (by unfold aG; omega)
  have e2:IntKind.i64.wrap (((k+1)+aq eV x.Args)+1)=((k+1)+aq eV x.Args)+1:=wr (by omega) (by omega)
  have cc:decide ((i:Int) < (s.length:Int))=true:=decide_eq_true hlt
  refine ⟨(⟨t0,y1,decide (((k+1)+aq eV x.Args).tmod 3=0)⟩:av),?_,?_,?_,?_⟩
  ·simp only [DL,c1]; exact ⟨m0,d1,(by trivial)⟩
  ·simp only [eW,c1]
  ·exact l1
  ·have hp:(((k+1)+aq eV x.Args)+1)=k+eW x:=by omega
   rw [← hp,← wr1 i (by omega)]
   simp only [fC,cc,if_true,show idx s (i:Int)=some x from by rw [cq,hx],Option.bind_some,Int.toNat_natCast,m0,e0,m1,e2])
  (fun n s k i hi=>by simp only [fC]; rw [if_neg (by simpa using hi)]) N 0 x k hl (by omega) (by omega) h0 (by simpa using h1) (h.2)
 simp only [List.drop_zero,List.take_zero,List.nil_append] at a1 a3
 exact ⟨ys,a1,a3,a4,⟨by omega,a5⟩⟩
theorem xi {N:Nat} (hN:1399000000000≤N) (x:(List bn)) (h:(x.length≤1099511627776)) (k:Int) (h0:0≤k) (h1:k+aq dV x≤aG):∃ ys,oe N x k=some (k+aq dV x,ys)∧aq dV ys=aq dV x∧HdL (ED N) dV ys k∧(ys.length≤1099511627776):=by
 have hl:x.length≤1099511627776:=h
 obtain ⟨ys,a1,a2,a3,a4,a5⟩:=lE (eF N) (ED N) dV (fun _=>True) uA (fun n s k i x hx hi hlt h0 h1 h=>by
  unfold aG at h1
  have hcnt:dV x=1+1+1+1+1+1+1+1+1+1+1:=rfl
  rw [hcnt] at h1
  have e0:IntKind.i64.wrap (k+1)=k+1:=wr (by omega) (by omega)
  have e1:IntKind.i64.wrap ((k+1)+1)=(k+1)+1:=wr (by omega) (by omega)
  obtain ⟨t2,m2⟩:=mtx hN ((k+1)+1) (by omega) (by unfold aG; omega)
  have e2:IntKind.i64.wrap (((k+1)+1)+1)=((k+1)+1)+1:=wr (by omega) (by omega)
  have e3:IntKind.i64.wrap ((((k+1)+1)+1)+1)=(((k+1)+1)+1)+1:=wr (by omega) (by omega)
  have e4:IntKind.i64.wrap (((((k+1)+1)+1)+1)+1)=((((k+1)+1)+1)+1)+1:=wr (by omega) (by omega)
  obtain ⟨t5,m5⟩:=mtx hN (((((k+1)+1)+1)+1)+1) (by omega) (by unfold aG; omega)
  have e5:IntKind.i64.wrap ((((((k+1)+1)+1)+1)+1)+1)=(((((k+1)+1)+1)+1)+1)+1:=wr (by omega) (by omega)
  have e6:IntKind.i64.wrap (((((((k+1)+1)+1)+1)+1)+1)+1)=((((((k+1)+1)+1)+1)+1)+1)+1:=wr (by omega) (by omega)
  obtain ⟨t7,m7⟩:=mtx hN (((((((k+1)+1)+1)+1)+1)+1)+1) (by omega) (by unfold aG; omega)
  have e7:IntKind.i64.wrap ((((((((k+1)+1)+1)+1)+1)+1)+1)+1)=(((((((k+1)+1)+1)+1)+1)+1)+1)+1:=wr (by omega) (by omega)
  have e8:IntKind.i64.wrap (((((((((k+1)+1)+1)+1)+1)+1)+1)+1)+1)=((((((((k+1)+1)+1)+1)+1)+1)+1)+1)+1:=wr (by omega) (by omega)
  have e9:IntKind.i64.wrap ((((((((((k+1)+1)+1)+1)+1)+1)+1)+1)+1)+1)=(((((((((k+1)+1)+1)+1)+1)+1)+1)+1)+1)+1:=wr (by omega) (by omega)
  obtain ⟨t10,m10⟩:=mtx hN ((((((((((k+1)+1)+1)+1)+1)+1)+1)+1)+1)+1) (by omega) (by unfold aG; omega)
  have e10:IntKind.i64.wrap (((((((((((k+1)+1)+1)+1)+1)+1)+1)+1)+1)+1)+1)=((((((((((k+1)+1)+1)+1)+1)+1)+1)+1)+1)+1)+1:=wr (by omega) (by omega)
  have cc:decide ((i:Int) < (s.length:Int))=true:=decide_eq_true hlt
  refine ⟨(⟨k,(⟨(k+1),t2,(⟨(((k+1)+1)+1),((((k+1)+1)+1)+1),t5⟩:aL)⟩:be),(⟨((((((k+1)+1)+1)+1)+1)+1),t7,(⟨((((((((k+1)+1)+1)+1)+1)+1)+1)+1),(((((((((k+1)+1)+1)+1)+1)+1)+1)+1)+1),t10⟩:aL)⟩:be)⟩:bn),?_,?_,?_,?_⟩
  ·exact ⟨(by trivial),(by trivial),m2,(by trivial),(by trivial),m5,(by trivial),m7,(by trivial),(by trivial),m10⟩
  ·simp only [dV]
  ·exact trivial
  ·have hp:(((((((((((k+1)+1)+1)+1)+1)+1)+1)+1)+1)+1)+1)=k+dV x:=by omega
   rw [← hp,← wr1 i (by omega)]
   simp only [eF,cc,if_true,show idx s (i:Int)=some x from by rw [cq,hx],Option.bind_some,Int.toNat_natCast,e0,e1,m2,e2,e3,e4,m5,e5,e6,m7,e7,e8,e9,m10,e10])
  (fun n s k i hi=>by simp only [eF]; rw [if_neg (by simpa using hi)]) N 0 x k hl (by omega) (by omega) h0 (by simpa using h1) (fun _ _=>trivial)
 simp only [List.drop_zero,List.take_zero,List.nil_append] at a1 a3
 exact ⟨ys,a1,a3,a4,by omega⟩
theorem xy {N:Nat} (hN:1399000000000≤N) (x:(List bk)) (h:(x.length≤1099511627776)) (k:Int) (h0:0≤k) (h1:k+aq ck x≤aG):∃ ys,ou N x k=some (k+aq ck x,ys)∧aq ck ys=aq ck x∧HdL (Ej N) ck ys k∧(ys.length≤1099511627776):=by
 have hl:x.length≤1099511627776:=h
 obtain ⟨ys,a1,a2,a3,a4,a5⟩:=lE (ez N) (Ej N) ck (fun _=>True) uD (fun n s k i x hx hi hlt h0 h1 h=>by
  unfold aG at h1
  have hcnt:ck x=1+1+1+1+1+1+1+1+1+1+1:=rfl
  rw [hcnt] at h1
  obtain ⟨t0,m0⟩:=mtx hN k (by omega) (by unfold aG; omega)
  have e0:IntKind.i64.wrap (k+1)=k+1:=wr (by omega) (by omega)
  have e1:IntKind.i64.wrap ((k+1)+1)=(k+1)+1:=wr (by omega) (by omega)
  obtain ⟨t2,m2⟩:=mtx hN ((k+1)+1) (by omega) (by unfold aG; omega)
  have e2:IntKind.i64.wrap (((k+1)+1)+1)=((k+1)+1)+1:=wr (by omega) (by omega)
  have e3:IntKind.i64.wrap ((((k+1)+1)+1)+1)=(((k+1)+1)+1)+1:=wr (by omega) (by omega)
  have e4:IntKind.i64.wrap (((((k+1)+1)+1)+1)+1)=((((k+1)+1)+1)+1)+1:=wr (by omega) (by omega)
  obtain ⟨t5,m5⟩:=mtx hN (((((k+1)+1)+1)+1)+1) (by omega) (by unfold aG; omega)
  have e5:IntKind.i64.wrap ((((((k+1)+1)+1)+1)+1)+1)=(((((k+1)+1)+1)+1)+1)+1:=wr (by omega) (by omega)
  have e6:IntKind.i64.wrap (((((((k+1)+1)+1)+1)+1)+1)+1)=((((((k+1)+1)+1)+1)+1)+1)+1:=wr (by omega) (by omega)
  obtain ⟨t7,m7⟩:=mtx hN (((((((k+1)+1)+1)+1)+1)+1)+1) (by omega) (by unfold aG; omega)
  have e7:IntKind.i64.wrap ((((((((k+1)+1)+1)+1)+1)+1)+1)+1)=(((((((k+1)+1)+1)+1)+1)+1)+1)+1:=wr (by omega) (by omega)
  have e8:IntKind.i64.wrap (((((((((k+1)+1)+1)+1)+1)+1)+1)+1)+1)=((((((((k+1)+1)+1)+1)+1)+1)+1)+1)+1:=wr (by omega) (by omega)
  have e9:IntKind.i64.wrap ((((((((((k+1)+1)+1)+1)+1)+1)+1)+1)+1)+1)=(((((((((k+1)+1)+1)+1)+1)+1)+1)+1)+1)+1:=wr (by omega) (by omega)
  obtain ⟨t10,m10⟩:=mtx hN ((((((((((k+1)+1)+1)+1)+1)+1)+1)+1)+1)+1) (by omega) (by unfold aG; omega)
  have e10:IntKind.i64.wrap (((((((((((k+1)+1)+1)+1)+1)+1)+1)+1)+1)+1)+1)=((((((((((k+1)+1)+1)+1)+1)+1)+1)+1)+1)+1)+1:=wr (by omega) (by omega)
  have cc:decide ((i:Int) < (s.length:Int))=true:=decide_eq_true hlt
  refine ⟨(⟨t0,(⟨(k+1),t2,(⟨(((k+1)+1)+1),((((k+1)+1)+1)+1),t5⟩:aL)⟩:be),(⟨((((((k+1)+1)+1)+1)+1)+1),t7,(⟨((((((((k+1)+1)+1)+1)+1)+1)+1)+1),(((((((((k+1)+1)+1)+1)+1)+1)+1)+1)+1),t10⟩:aL)⟩:be)⟩:bk),?_,?_,?_,?_⟩
  ·exact ⟨m0,(by trivial),m2,(by trivial),(by trivial),m5,(by trivial),m7,(by trivial),(by trivial),m10⟩
  ·simp only [ck]
  ·exact trivial
  ·have hp:(((((((((((k+1)+1)+1)+1)+1)+1)+1)+1)+1)+1)+1)=k+ck x:=by omega
   rw [← hp,← wr1 i (by omega)]
   simp only [ez,cc,if_true,show idx s (i:Int)=some x from by rw [cq,hx],Option.bind_some,Int.toNat_natCast,m0,e0,e1,m2,e2,e3,e4,m5,e5,e6,m7,e7,e8,e9,m10,e10])
  (fun n s k i hi=>by simp only [ez]; rw [if_neg (by simpa using hi)]) N 0 x k hl (by omega) (by omega) h0 (by simpa using h1) (fun _ _=>trivial)
 simp only [List.drop_zero,List.take_zero,List.nil_append] at a1 a3
 exact ⟨ys,a1,a3,a4,by omega⟩
theorem ym {N:Nat} (hN:1399000000000≤N) (x:(List bM)) (h:(x.length≤1099511627776∧∀ y∈x,ol y)) (k:Int) (h0:0≤k) (h1:k+aq gS x≤aG):∃ ys,q9 N x k=some (k+aq gS x,ys)∧aq gS ys=aq gS x∧HdL (Eo N) gS ys k∧(ys.length≤1099511627776∧∀ y∈ys,ol y):=by
 have hl:x.length≤1099511627776:=h.1
 obtain ⟨ys,a1,a2,a3,a4,a5⟩:=lE (fy N) (Eo N) gS ol vF (fun n s k i x hx hi hlt h0 h1 h=>by
  unfold aG at h1
  have hcnt:gS x=1+1+aq ck x.Args+1+1:=rfl
  rw [hcnt] at h1
  have n2:=aV uD x.Args
  have e0:IntKind.i64.wrap (k+1)=k+1:=wr (by omega) (by omega)
  obtain ⟨t1,m1⟩:=mtx hN (k+1) (by omega) (by unfold aG; omega)
  have e1:IntKind.i64.wrap ((k+1)+1)=(k+1)+1:=wr (by omega) (by omega)
  obtain ⟨y2,m2,c2,d2,l2⟩:=xy hN x.Args (h) ((k+1)+1) (by omega) (by unfold aG; omega)
  have e3:IntKind.i64.wrap ((((k+1)+1)+aq ck x.Args)+1)=(((k+1)+1)+aq ck x.Args)+1:=wr (by omega) (by omega)
  obtain ⟨t4,m4⟩:=mtx hN ((((k+1)+1)+aq ck x.Args)+1) (by omega) (by unfold aG; omega)
  have e4:IntKind.i64.wrap (((((k+1)+1)+aq ck x.Args)+1)+1)=((((k+1)+1)+aq ck x.Args)+1)+1:=wr (by omega) (by omega)
  have cc:decide ((i:Int) < (s.length:Int))=true:=decide_eq_true hlt
  refine ⟨(⟨k,t1,y2,(((k+1)+1)+aq ck x.Args),t4⟩:bM),?_,?_,?_,?_⟩
  ·simp only [Eo,c2]; exact ⟨(by trivial),m1,d2,(by trivial),m4⟩
  ·simp only [gS,c2]
  ·exact l2
  ·have hp:(((((k+1)+1)+aq ck x.Args)+1)+1)=k+gS x:=by omega
   rw [← hp,← wr1 i (by omega)]
   simp only [fy,cc,if_true,show idx s (i:Int)=some x from by rw [cq,hx],Option.bind_some,Int.toNat_natCast,e0,m1,e1,m2,e3,m4,e4])
  (fun n s k i hi=>by simp only [fy]; rw [if_neg (by simpa using hi)]) N 0 x k hl (by omega) (by omega) h0 (by simpa using h1) (h.2)
 simp only [List.drop_zero,List.take_zero,List.nil_append] at a1 a3
 exact ⟨ys,a1,a3,a4,⟨by omega,a5⟩⟩
theorem xg {N:Nat} (hN:1399000000000≤N) (x:(List ag)) (h:(x.length≤1099511627776∧∀ y∈x,mD y)) (k:Int) (h0:0≤k) (h1:k+aq ev x≤aG):∃ ys,ov N x k=some (k+aq ev x,ys)∧aq ev ys=aq ev x∧HdL (yW N) ev ys k∧(ys.length≤1099511627776∧∀ y∈ys,mD y):=by
 have hl:x.length≤1099511627776:=h.1
 obtain ⟨ys,a1,a2,a3,a4,a5⟩:=lE (eB N) (yW N) ev mD sC (fun n s k i x hx hi hlt h0 h1 h=>by
  unfold aG at h1
  have hcnt:ev x=1+1+aq eW x.Pats+aq dV x.Conds+aq gS x.Acts:=rfl
  rw [hcnt] at h1
  have n2:=aV vG x.Pats
  have n3:=aV uA x.Conds
  have n4:=aV vF x.Acts
  obtain ⟨t0,m0⟩:=mtx hN k (by omega) (by unfold aG; omega)
  have e0:IntKind.i64.wrap (k+1)=k+1:=wr (by omega) (by omega)
  have e1:IntKind.i64.wrap ((k+1)+1)=(k+1)+1:=wr (by omega) (by omega)
  obtain ⟨y2,m2,c2,d2,l2⟩:=yk hN x.Pats (h.1) ((k+1)+1) (by omega) (by unfold aG; omega)
  obtain ⟨y3,m3,c3,d3,l3⟩:=xi hN x.Conds (h.2.1) (((k+1)+1)+aq eW x.Pats) (by omega) (by unfold aG; omega)
  obtain ⟨y4,m4,c4,d4,l4⟩:=ym hN x.Acts (h.2.2) ((((k+1)+1)+aq eW x.Pats)+aq dV x.Conds) (by omega) (by unfold aG; omega)
  have cc:decide ((i:Int) < (s.length:Int))=true:=decide_eq_true hlt
  refine ⟨(⟨t0,(k+1),y2,y3,y4⟩:ag),?_,?_,?_,?_⟩
  ·simp only [yW,c2,c3,c4]; exact ⟨m0,(by trivial),d2,d3,d4⟩
  ·simp only [ev,c2,c3,c4]
  ·exact ⟨l2,l3,l4⟩
  ·have hp:(((((k+1)+1)+aq eW x.Pats)+aq dV x.Conds)+aq gS x.Acts)=k+ev x:=by omega
   rw [← hp,← wr1 i (by omega)]
   simp only [eB,cc,if_true,show idx s (i:Int)=some x from by rw [cq,hx],Option.bind_some,Int.toNat_natCast,m0,e0,e1,m2,m3,m4])
  (fun n s k i hi=>by simp only [eB]; rw [if_neg (by simpa using hi)]) N 0 x k hl (by omega) (by omega) h0 (by simpa using h1) (h.2)
 simp only [List.drop_zero,List.take_zero,List.nil_append] at a1 a3
 exact ⟨ys,a1,a3,a4,⟨by omega,a5⟩⟩
def jM (x:bo):Int:=aq ev x.Rules
theorem Hh (x:bo):0≤jM x:=by
 unfold jM
 have:=aV sC x.Rules
 omega
theorem GO (x:bo):jM x≤32+32*kE x:=by
 have:=He x; unfold vZ at this; unfold jM; omega
theorem zd {N:Nat} (hN:1399000000000≤N) (x:bo) (h:vW x) (k:Int) (h0:0≤k) (h1:k+jM x≤aG):∃ y0,oO N x k=some (k+jM x,y0):=by
 unfold jM aG at *
 have n0:=aV sC x.Rules
 obtain ⟨y0,m0,c0,d0,l0⟩:=xg hN x.Rules (h) k (by omega) (by unfold aG; omega)
 have hp:k+(aq ev x.Rules)=(k+aq ev x.Rules):=by omega
 refine ⟨y0,?_⟩
 ·rw [hp]; simp only [oO,Option.bind_some,m0]
def dO (x:aL):Int:=1+1+1
theorem qK (x:aL):0≤dO x:=by
 unfold dO
 omega
theorem zP (x:aL):dO x≤32+32*(cl x):=by
 unfold dO cl
 omega
def DM (N:Nat) (x:aL) (k:Int):Prop:=x.K=k∧x.N=(k+1)∧au N ((k+1)+1)=some x.S
def cv (x:a9):Int:=1+1+aq dO x.Consts+aq one x.At
theorem pO (x:a9):0≤cv x:=by
 unfold cv
 have:=aV qK x.Consts
 have:=aV jT x.At
 omega
theorem E4 (x:a9):cv x≤32+32*(cT x):=by
 have:=iQ (p:=x.Consts) (tot:=cl) (fun y _=>zP y)
 have:=ac cl x.Consts (fun y _=>eC y)
 have:=tq (cnt:=one) (p:=x.At) (fun y _=>by simp [one])
 unfold cv cT
 omega
def wu (N:Nat) (x:a9) (k:Int):Prop:=au N k=some x.Kind∧x.N=(k+1)∧HdL (DM N) dO x.Consts ((k+1)+1)∧HdL (fun x k=>x=k) one x.At (((k+1)+1)+aq dO x.Consts)
def d6 (x:ae):Int:=aq one x.Pos+aq one x.Neg
theorem pT (x:ae):0≤d6 x:=by
 unfold d6
 have:=aV jT x.Pos
 have:=aV jT x.Neg
 omega
theorem Ed (x:ae):d6 x≤32+32*(cS x):=by
 have:=tq (cnt:=one) (p:=x.Pos) (fun y _=>by simp [one])
 have:=tq (cnt:=one) (p:=x.Neg) (fun y _=>by simp [one])
 unfold d6 cS
 omega
def wK (N:Nat) (x:ae) (k:Int):Prop:=HdL (fun x k=>x=k) one x.Pos k∧HdL (fun x k=>x=k) one x.Neg (k+aq one x.Pos)
def wQ (x:bc):Int:=aq cv x.Alphas+aq d6 x.Chains
theorem Nj (x:bc):0≤wQ x:=by
 unfold wQ
 have:=aV pO x.Alphas
 have:=aV pT x.Chains
 omega
theorem GW (x:bc):wQ x≤32+32*(kC x):=by
 have:=iQ (p:=x.Alphas) (tot:=cT) (fun y _=>E4 y)
 have:=ac cT x.Alphas (fun y _=>kG y)
 have:=iQ (p:=x.Chains) (tot:=cS) (fun y _=>Ed y)
 have:=ac cS x.Chains (fun y _=>kv y)
 unfold wQ kC
 omega
def OX (N:Nat) (x:bc) (k:Int):Prop:=HdL (wu N) cv x.Alphas k∧HdL (wK N) d6 x.Chains (k+aq cv x.Alphas)
theorem ue {N:Nat} (hN:1399000000000≤N) (x:(List aL)) (h:(x.length≤1099511627776)) (k:Int) (h0:0≤k) (h1:k+aq dO x≤aG):∃ ys,mQ N x k=some (k+aq dO x,ys)∧aq dO ys=aq dO x∧HdL (DM N) dO ys k∧(ys.length≤1099511627776):=by
 have hl:x.length≤1099511627776:=h
 obtain ⟨ys,a1,a2,a3,a4,a5⟩:=lE (fx N) (DM N) dO (fun _=>True) qK (fun n s k i x hx hi hlt h0 h1 h=>by
  unfold aG at h1
  have hcnt:dO x=1+1+1:=rfl
  rw [hcnt] at h1
  have e0:IntKind.i64.wrap (k+1)=k+1:=wr (by omega) (by omega)
  have e1:IntKind.i64.wrap ((k+1)+1)=(k+1)+1:=wr (by omega) (by omega)
  obtain ⟨t2,m2⟩:=mtx hN ((k+1)+1) (by omega) (by unfold aG; omega)
  have e2:IntKind.i64.wrap (((k+1)+1)+1)=((k+1)+1)+1:=wr (by omega) (by omega)
  have cc:decide ((i:Int) < (s.length:Int))=true:=decide_eq_true hlt
  refine ⟨(⟨k,(k+1),t2⟩:aL),?_,?_,?_,?_⟩
  ·exact ⟨(by trivial),(by trivial),m2⟩
  ·simp only [dO]
  ·exact trivial
  ·have hp:(((k+1)+1)+1)=k+dO x:=by omega
   rw [← hp,← wr1 i (by omega)]
   simp only [fx,cc,if_true,show idx s (i:Int)=some x from by rw [cq,hx],Option.bind_some,Int.toNat_natCast,e0,e1,m2,e2])
  (fun n s k i hi=>by simp only [fx]; rw [if_neg (by simpa using hi)]) N 0 x k hl (by omega) (by omega) h0 (by simpa using h1) (fun _ _=>trivial)
 simp only [List.drop_zero,List.take_zero,List.nil_append] at a1 a3
 exact ⟨ys,a1,a3,a4,by omega⟩
theorem gL {N:Nat} (hN:1399000000000≤N) (x:(List Int)) (h:(x.length≤1099511627776)) (k:Int) (h0:0≤k) (h1:k+aq one x≤aG):∃ ys,fP N x k=some (k+aq one x,ys)∧aq one ys=aq one x∧HdL (fun x k=>x=k) one ys k∧(ys.length≤1099511627776):=by
 have hl:x.length≤1099511627776:=h
 obtain ⟨ys,a1,a2,a3,a4,a5⟩:=lE (fA N) (fun x k=>x=k) one (fun _=>True) jT (fun n s k i x hx hi hlt h0 h1 h=>by
  unfold aG at h1
  simp only [one] at h1
  have e0:IntKind.i64.wrap (k+1)=k+1:=wr (by omega) (by omega)
  have cc:decide ((i:Int) < (s.length:Int))=true:=decide_eq_true hlt
  refine ⟨k,(by trivial),rfl,trivial,?_⟩
  ·have hp:(k+1)=k+one x:=by rfl
   rw [← hp,← wr1 i (by omega)]
   simp only [fA,cc,if_true,show idx s (i:Int)=some x from by rw [cq,hx],Option.bind_some,Int.toNat_natCast,e0])
  (fun n s k i hi=>by simp only [fA]; rw [if_neg (by simpa using hi)]) N 0 x k hl (by omega) (by omega) h0 (by simpa using h1) (fun _ _=>trivial)
 simp only [List.drop_zero,List.take_zero,List.nil_append] at a1 a3
 exact ⟨ys,a1,a3,a4,by omega⟩
theorem pm {N:Nat} (hN:1399000000000≤N) (x:(List Int)) (h:(x.length≤1099511627776)) (k:Int) (h0:0≤k) (h1:k+aq one x≤aG) (hh:HdL (fun x k=>x=k) one x k):iT N x k=some (k+aq one x):=by
 have hl:x.length≤1099511627776:=h
 have:=Ae (eo N x) x (fun x k=>x=k) one (fun _=>True) jT hl (fun _ _=>trivial) (fun n k i y hx hi hlt h0 h1 h hy=>by
  unfold aG at h1
  simp only [one] at h1
  have e0:IntKind.i64.wrap (k+1)=k+1:=wr (by omega) (by omega)
  have cc:decide ((i:Int) < (x.length:Int))=true:=decide_eq_true hlt
  have hp:(k+1)=k+one y:=by rfl
  have q0:=hy
  rw [← hp,← wr1 i (by omega)]
  have hb:∀ {β:Type} (f:Int→Option β),(idx x (i:Int)).bind f=f y:=fun f=>by rw [cq,hx]; rfl
  simp only [eo,cc,if_true]
  simp only [e0]
  simp only [↓hb,↓reduceIte,tf,decide_true,Bool.not_true,Bool.false_eq_true,bne_self_eq_false,q0,e0])
  (fun n k i hi=>by simp only [eo]; rw [if_neg (by simpa using hi)]) N 0 k (by omega) (by omega) h0 (by simpa using h1) (by simpa using hh)
 unfold iT; simpa using this
theorem wj {N:Nat} (hN:1399000000000≤N) (x:(List a9)) (h:(x.length≤1099511627776∧∀ y∈x,kr y)) (k:Int) (h0:0≤k) (h1:k+aq cv x≤aG):∃ ys,mY N x k=some (k+aq cv x,ys)∧aq cv ys=aq cv x∧HdL (wu N) cv ys k∧(ys.length≤1099511627776∧∀ y∈ys,kr y):=by
 have hl:x.length≤1099511627776:=h.1
 obtain ⟨ys,a1,a2,a3,a4,a5⟩:=lE (dL N) (wu N) cv kr pO (fun n s k i x hx hi hlt h0 h1 h=>by
  unfold aG at h1
  have hcnt:cv x=1+1+aq dO x.Consts+aq one x.At:=rfl
  rw [hcnt] at h1
  have n2:=aV qK x.Consts
  have n3:=aV jT x.At
  obtain ⟨t0,m0⟩:=mtx hN k (by omega) (by unfold aG; omega)
  have e0:IntKind.i64.wrap (k+1)=k+1:=wr (by omega) (by omega)
  have e1:IntKind.i64.wrap ((k+1)+1)=(k+1)+1:=wr (by omega) (by omega)
  obtain ⟨y2,m2,c2,d2,l2⟩:=ue hN x.Consts (h.1) ((k+1)+1) (by omega) (by unfold aG; omega)
  obtain ⟨y3,m3,c3,d3,l3⟩:=gL hN x.At (h.2) (((k+1)+1)+aq dO x.Consts) (by omega) (by unfold aG; omega)
  have cc:decide ((i:Int) < (s.length:Int))=true:=decide_eq_true hlt
  refine ⟨(⟨t0,(k+1),y2,y3⟩:a9),?_,?_,?_,?_⟩
  ·simp only [wu,c2,c3]; exact ⟨m0,(by trivial),d2,d3⟩
  ·simp only [cv,c2,c3]
  ·exact ⟨l2,l3⟩
  ·have hp:((((k+1)+1)+aq dO x.Consts)+aq one x.At)=k+cv x:=by omega
   rw [← hp,← wr1 i (by omega)]
   simp only [dL,cc,if_true,show idx s (i:Int)=some x from by rw [cq,hx],Option.bind_some,Int.toNat_natCast,m0,e0,e1,m2,m3])
  (fun n s k i hi=>by simp only [dL]; rw [if_neg (by simpa using hi)]) N 0 x k hl (by omega) (by omega) h0 (by simpa using h1) (h.2)
 simp only [List.drop_zero,List.take_zero,List.nil_append] at a1 a3
 exact ⟨ys,a1,a3,a4,⟨by omega,a5⟩⟩
theorem wP {N:Nat} (hN:1399000000000≤N) (x:(List ae)) (h:(x.length≤1099511627776∧∀ y∈x,kD y)) (k:Int) (h0:0≤k) (h1:k+aq d6 x≤aG):∃ ys,mS N x k=some (k+aq d6 x,ys)∧aq d6 ys=aq d6 x∧HdL (wK N) d6 ys k∧(ys.length≤1099511627776∧∀ y∈ys,kD y):=by
 have hl:x.length≤1099511627776:=h.1
 obtain ⟨ys,a1,a2,a3,a4,a5⟩:=lE (dQ N) (wK N) d6 kD pT (fun n s k i x hx hi hlt h0 h1 h=>by
  unfold aG at h1
  have hcnt:d6 x=aq one x.Pos+aq one x.Neg:=rfl
  rw [hcnt] at h1
  have n0:=aV jT x.Pos
  have n1:=aV jT x.Neg
  obtain ⟨y0,m0,c0,d0,l0⟩:=gL hN x.Pos (h.1) k (by omega) (by unfold aG; omega)
  obtain ⟨y1,m1,c1,d1,l1⟩:=gL hN x.Neg (h.2) (k+aq one x.Pos) (by omega) (by unfold aG; omega)
  have cc:decide ((i:Int) < (s.length:Int))=true:=decide_eq_true hlt
  refine ⟨(⟨y0,y1⟩:ae),?_,?_,?_,?_⟩
  ·simp only [wK,c0,c1]; exact ⟨d0,d1⟩
  ·simp only [d6,c0,c1]
  ·exact ⟨l0,l1⟩
  ·have hp:((k+aq one x.Pos)+aq one x.Neg)=k+d6 x:=by omega
   rw [← hp,← wr1 i (by omega)]
   simp only [dQ,cc,if_true,show idx s (i:Int)=some x from by rw [cq,hx],Option.bind_some,Int.toNat_natCast,m0,m1])
  (fun n s k i hi=>by simp only [dQ]; rw [if_neg (by simpa using hi)]) N 0 x k hl (by omega) (by omega) h0 (by simpa using h1) (h.2)
 simp only [List.drop_zero,List.take_zero,List.nil_append] at a1 a3
 exact ⟨ys,a1,a3,a4,⟨by omega,a5⟩⟩
def lh (x:bc):Int:=aq cv x.Alphas+aq d6 x.Chains
theorem GT (x:bc):0≤lh x:=by
 unfold lh
 have:=aV pO x.Alphas
 have:=aV pT x.Chains
 omega
theorem GE (x:bc):lh x≤32+32*kC x:=by
 have:=GW x; unfold wQ at this; unfold lh; omega
theorem AP {N:Nat} (hN:1399000000000≤N) (x:bc) (h:w6 x) (k:Int) (h0:0≤k) (h1:k+lh x≤aG):∃ y0 y1,oE N x k=some (k+lh x,y0,y1):=by
 unfold lh aG at *
 have n0:=aV pO x.Alphas
 have n1:=aV pT x.Chains
 obtain ⟨y0,m0,c0,d0,l0⟩:=wj hN x.Alphas (h.1) k (by omega) (by unfold aG; omega)
 obtain ⟨y1,m1,c1,d1,l1⟩:=wP hN x.Chains (h.2) (k+aq cv x.Alphas) (by omega) (by unfold aG; omega)
 have hp:k+(aq cv x.Alphas+aq d6 x.Chains)=((k+aq cv x.Alphas)+aq d6 x.Chains):=by omega
 refine ⟨y0,y1,?_⟩
 ·rw [hp]; simp only [oE,Option.bind_some,m0,m1]
def ct (x:aS):Int:=aq one x.L
theorem qH (x:aS):0≤ct x:=by
 unfold ct
 have:=aV jT x.L
 omega
theorem GL (x:aS):ct x≤32+32*(cV x):=by
 have:=tq (cnt:=one) (p:=x.L) (fun y _=>by simp [one])
 unfold ct cV
 omega
def vM (N:Nat) (x:aS) (k:Int):Prop:=HdL (fun x k=>x=k) one x.L k
def cU (x:ab):Int:=aq one x.Ids+aq one x.Hits
theorem rq (x:ab):0≤cU x:=by
 unfold cU
 have:=aV jT x.Ids
 have:=aV jT x.Hits
 omega
theorem GP (x:ab):cU x≤32+32*(fT x):=by
 have:=tq (cnt:=one) (p:=x.Ids) (fun y _=>by simp [one])
 have:=tq (cnt:=one) (p:=x.Hits) (fun y _=>by simp [one])
 unfold cU fT
 omega
def xj (N:Nat) (x:ab) (k:Int):Prop:=HdL (fun x k=>x=k) one x.Ids k∧HdL (fun x k=>x=k) one x.Hits (k+aq one x.Ids)
def bD (x:aa):Int:=aq cU x.Toks
theorem mN (x:aa):0≤bD x:=by
 unfold bD
 have:=aV rq x.Toks
 omega
theorem Eg (x:aa):bD x≤32+32*(bW x):=by
 have:=iQ (p:=x.Toks) (tot:=fT) (fun y _=>GP y)
 have:=ac fT x.Toks (fun y _=>nN y)
 unfold bD bW
 omega
def rF (N:Nat) (x:aa) (k:Int):Prop:=HdL (xj N) cU x.Toks k
def dm (x:aF):Int:=aq bD x.Levels
theorem qA (x:aF):0≤dm x:=by
 unfold dm
 have:=aV mN x.Levels
 omega
theorem Gv (x:aF):dm x≤32+32*(er x):=by
 have:=iQ (p:=x.Levels) (tot:=bW) (fun y _=>Eg y)
 have:=ac bW x.Levels (fun y _=>mP y)
 unfold dm er
 omega
def vO (N:Nat) (x:aF) (k:Int):Prop:=HdL (rF N) bD x.Levels k
def wb (x:aA):Int:=aq ct x.Alphas+aq dm x.Rules
theorem LU (x:aA):0≤wb x:=by
 unfold wb
 have:=aV qH x.Alphas
 have:=aV qA x.Rules
 omega
theorem GN (x:aA):wb x≤32+32*(gz x):=by
 have:=iQ (p:=x.Alphas) (tot:=cV) (fun y _=>GL y)
 have:=ac cV x.Alphas (fun y _=>lB y)
 have:=iQ (p:=x.Rules) (tot:=er) (fun y _=>Gv y)
 have:=ac er x.Rules (fun y _=>lA y)
 unfold wb gz
 omega
def OR (N:Nat) (x:aA) (k:Int):Prop:=HdL (vM N) ct x.Alphas k∧HdL (vO N) dm x.Rules (k+aq ct x.Alphas)
theorem yA {N:Nat} (hN:1399000000000≤N) (x:(List aS)) (h:(x.length≤1099511627776∧∀ y∈x,kF y)) (k:Int) (h0:0≤k) (h1:k+aq ct x≤aG):∃ ys,pY N x k=some (k+aq ct x,ys)∧aq ct ys=aq ct x∧HdL (vM N) ct ys k∧(ys.length≤1099511627776∧∀ y∈ys,kF y):=by
 have hl:x.length≤1099511627776:=h.1
 obtain ⟨ys,a1,a2,a3,a4,a5⟩:=lE (fw N) (vM N) ct kF qH (fun n s k i x hx hi hlt h0 h1 h=>by
  unfold aG at h1
  have hcnt:ct x=aq one x.L:=rfl
  rw [hcnt] at h1
  have n0:=aV jT x.L
  obtain ⟨y0,m0,c0,d0,l0⟩:=gL hN x.L (h) k (by omega) (by unfold aG; omega)
  have cc:decide ((i:Int) < (s.length:Int))=true:=decide_eq_true hlt
  refine ⟨(⟨y0⟩:aS),?_,?_,?_,?_⟩
  ·simp only [vM,c0]; exact d0
  ·simp only [ct,c0]
  ·exact l0
  ·have hp:(k+aq one x.L)=k+ct x:=by omega
   rw [← hp,← wr1 i (by omega)]
   simp only [fw,cc,if_true,show idx s (i:Int)=some x from by rw [cq,hx],Option.bind_some,Int.toNat_natCast,m0])
  (fun n s k i hi=>by simp only [fw]; rw [if_neg (by simpa using hi)]) N 0 x k hl (by omega) (by omega) h0 (by simpa using h1) (h.2)
 simp only [List.drop_zero,List.take_zero,List.nil_append] at a1 a3
 exact ⟨ys,a1,a3,a4,⟨by omega,a5⟩⟩
theorem ye {N:Nat} (hN:1399000000000≤N) (x:(List aS)) (h:(x.length≤1099511627776∧∀ y∈x,kF y)) (k:Int) (h0:0≤k) (h1:k+aq ct x≤aG) (hh:HdL (vM N) ct x k):nm N x k=some (k+aq ct x):=by
 have hl:x.length≤1099511627776:=h.1
 have:=Ae (ei N x) x (vM N) ct kF qH hl (h.2) (fun n k i y hx hi hlt h0 h1 h hy=>by
  unfold aG at h1
  have hcnt:ct y=aq one y.L:=rfl
  rw [hcnt] at h1
  have n0:=aV jT y.L
  have a0:0≤k:=by omega
  have d0:k+aq one y.L≤aG:=by unfold aG; omega
  have p0:decide ((k+aq one y.L) < 0)=false:=decide_eq_false (by omega)
  have cc:decide ((i:Int) < (x.length:Int))=true:=decide_eq_true hlt
  have hp:(k+aq one y.L)=k+ct y:=by omega
  have q0:=hy; simp only [vM] at q0
  have m0:=pm hN y.L (h) k a0 d0 q0
  rw [← hp,← wr1 i (by omega)]
  have hb:∀ {β:Type} (f:aS→Option β),(idx x (i:Int)).bind f=f y:=fun f=>by rw [cq,hx]; rfl
  have bm0:=fun (β:Type)=>@Gk _ _ _ m0 β
  simp only [ei,cc,if_true]
  simp only [↓hb,↓bm0,↓reduceIte,tf,decide_true,Bool.not_true,Bool.false_eq_true,bne_self_eq_false,p0])
  (fun n k i hi=>by simp only [ei]; rw [if_neg (by simpa using hi)]) N 0 k (by omega) (by omega) h0 (by simpa using h1) (by simpa using hh)
 unfold nm; simpa using this
theorem yM {N:Nat} (hN:1399000000000≤N) (x:(List ab)) (h:(x.length≤1099511627776∧∀ y∈x,n9 y)) (k:Int) (h0:0≤k) (h1:k+aq cU x≤aG):∃ ys,pW N x k=some (k+aq cU x,ys)∧aq cU ys=aq cU x∧HdL (xj N) cU ys k∧(ys.length≤1099511627776∧∀ y∈ys,n9 y):=by
 have hl:x.length≤1099511627776:=h.1
 obtain ⟨ys,a1,a2,a3,a4,a5⟩:=lE (fB N) (xj N) cU n9 rq (fun n s k i x hx hi hlt h0 h1 h=>by
  unfold aG at h1
  have hcnt:cU x=aq one x.Ids+aq one x.Hits:=rfl
  rw [hcnt] at h1
  have n0:=aV jT x.Ids
  have n1:=aV jT x.Hits
  obtain ⟨y0,m0,c0,d0,l0⟩:=gL hN x.Ids (h.1) k (by omega) (by unfold aG; omega)
  obtain ⟨y1,m1,c1,d1,l1⟩:=gL hN x.Hits (h.2) (k+aq one x.Ids) (by omega) (by unfold aG; omega)
  have cc:decide ((i:Int) < (s.length:Int))=true:=decide_eq_true hlt
  refine ⟨(⟨y0,y1⟩:ab),?_,?_,?_,?_⟩
  ·simp only [xj,c0,c1]; exact ⟨d0,d1⟩
  ·simp only [cU,c0,c1]
  ·exact ⟨l0,l1⟩
  ·have hp:((k+aq one x.Ids)+aq one x.Hits)=k+cU x:=by omega
   rw [← hp,← wr1 i (by omega)]
   simp only [fB,cc,if_true,show idx s (i:Int)=some x from by rw [cq,hx],Option.bind_some,Int.toNat_natCast,m0,m1])
  (fun n s k i hi=>by simp only [fB]; rw [if_neg (by simpa using hi)]) N 0 x k hl (by omega) (by omega) h0 (by simpa using h1) (h.2)
 simp only [List.drop_zero,List.take_zero,List.nil_append] at a1 a3
 exact ⟨ys,a1,a3,a4,⟨by omega,a5⟩⟩
theorem yh {N:Nat} (hN:1399000000000≤N) (x:(List ab)) (h:(x.length≤1099511627776∧∀ y∈x,n9 y)) (k:Int) (h0:0≤k) (h1:k+aq cU x≤aG) (hh:HdL (xj N) cU x k):mH N x k=some (k+aq cU x):=by
 have hl:x.length≤1099511627776:=h.1
 have:=Ae (eg N x) x (xj N) cU n9 rq hl (h.2) (fun n k i y hx hi hlt h0 h1 h hy=>by
  unfold aG at h1
  have hcnt:cU y=aq one y.Ids+aq one y.Hits:=rfl
  rw [hcnt] at h1
  have n0:=aV jT y.Ids
  have n1:=aV jT y.Hits
  have a0:0≤k:=by omega
  have d0:k+aq one y.Ids≤aG:=by unfold aG; omega
  have p0:decide ((k+aq one y.Ids) < 0)=false:=decide_eq_false (by omega)
  have a1:0≤(k+aq one y.Ids):=by omega
  have d1:(k+aq one y.Ids)+aq one y.Hits≤aG:=by unfold aG; omega
  have p1:decide (((k+aq one y.Ids)+aq one y.Hits) < 0)=false:=decide_eq_false (by omega)
  have cc:decide ((i:Int) < (x.length:Int))=true:=decide_eq_true hlt
  have hp:((k+aq one y.Ids)+aq one y.Hits)=k+cU y:=by omega
  obtain ⟨q0,q1⟩:=hy
  have m0:=pm hN y.Ids (h.1) k a0 d0 q0
  have m1:=pm hN y.Hits (h.2) (k+aq one y.Ids) a1 d1 q1
  rw [← hp,← wr1 i (by omega)]
  have hb:∀ {β:Type} (f:ab→Option β),(idx x (i:Int)).bind f=f y:=fun f=>by rw [cq,hx]; rfl
  have bm0:=fun (β:Type)=>@Gk _ _ _ m0 β
  have bm1:=fun (β:Type)=>@Gk _ _ _ m1 β
  simp only [eg,cc,if_true]
  simp only [↓hb,↓bm0,↓bm1,↓reduceIte,tf,decide_true,Bool.not_true,Bool.false_eq_true,bne_self_eq_false,p0,p1])
  (fun n k i hi=>by simp only [eg]; rw [if_neg (by simpa using hi)]) N 0 k (by omega) (by omega) h0 (by simpa using h1) (by simpa using hh)
 unfold mH; simpa using this
theorem wF {N:Nat} (hN:1399000000000≤N) (x:(List aa)) (h:(x.length≤1099511627776∧∀ y∈x,iD y)) (k:Int) (h0:0≤k) (h1:k+aq bD x≤aG):∃ ys,mV N x k=some (k+aq bD x,ys)∧aq bD ys=aq bD x∧HdL (rF N) bD ys k∧(ys.length≤1099511627776∧∀ y∈ys,iD y):=by
 have hl:x.length≤1099511627776:=h.1
 obtain ⟨ys,a1,a2,a3,a4,a5⟩:=lE (dJ N) (rF N) bD iD mN (fun n s k i x hx hi hlt h0 h1 h=>by
  unfold aG at h1
  have hcnt:bD x=aq cU x.Toks:=rfl
  rw [hcnt] at h1
  have n0:=aV rq x.Toks
  obtain ⟨y0,m0,c0,d0,l0⟩:=yM hN x.Toks (h) k (by omega) (by unfold aG; omega)
  have cc:decide ((i:Int) < (s.length:Int))=true:=decide_eq_true hlt
  refine ⟨(⟨y0⟩:aa),?_,?_,?_,?_⟩
  ·simp only [rF,c0]; exact d0
  ·simp only [bD,c0]
  ·exact l0
  ·have hp:(k+aq cU x.Toks)=k+bD x:=by omega
   rw [← hp,← wr1 i (by omega)]
   simp only [dJ,cc,if_true,show idx s (i:Int)=some x from by rw [cq,hx],Option.bind_some,Int.toNat_natCast,m0])
  (fun n s k i hi=>by simp only [dJ]; rw [if_neg (by simpa using hi)]) N 0 x k hl (by omega) (by omega) h0 (by simpa using h1) (h.2)
 simp only [List.drop_zero,List.take_zero,List.nil_append] at a1 a3
 exact ⟨ys,a1,a3,a4,⟨by omega,a5⟩⟩
theorem wL {N:Nat} (hN:1399000000000≤N) (x:(List aa)) (h:(x.length≤1099511627776∧∀ y∈x,iD y)) (k:Int) (h0:0≤k) (h1:k+aq bD x≤aG) (hh:HdL (rF N) bD x k):jO N x k=some (k+aq bD x):=by
 have hl:x.length≤1099511627776:=h.1
 have:=Ae (cZ N x) x (rF N) bD iD mN hl (h.2) (fun n k i y hx hi hlt h0 h1 h hy=>by
  unfold aG at h1
  have hcnt:bD y=aq cU y.Toks:=rfl
  rw [hcnt] at h1
  have n0:=aV rq y.Toks
  have a0:0≤k:=by omega
  have d0:k+aq cU y.Toks≤aG:=by unfold aG; omega
  have p0:decide ((k+aq cU y.Toks) < 0)=false:=decide_eq_false (by omega)
  have cc:decide ((i:Int) < (x.length:Int))=true:=decide_eq_true hlt
  have hp:(k+aq cU y.Toks)=k+bD y:=by omega
  have q0:=hy; simp only [rF] at q0
  have m0:=yh hN y.Toks (h) k a0 d0 q0
  rw [← hp,← wr1 i (by omega)]
  have hb:∀ {β:Type} (f:aa→Option β),(idx x (i:Int)).bind f=f y:=fun f=>by rw [cq,hx]; rfl
  have bm0:=fun (β:Type)=>@Gk _ _ _ m0 β
  simp only [cZ,cc,if_true]
  simp only [↓hb,↓bm0,↓reduceIte,tf,decide_true,Bool.not_true,Bool.false_eq_true,bne_self_eq_false,p0])
  (fun n k i hi=>by simp only [cZ]; rw [if_neg (by simpa using hi)]) N 0 k (by omega) (by omega) h0 (by simpa using h1) (by simpa using hh)
 unfold jO; simpa using this
theorem yz {N:Nat} (hN:1399000000000≤N) (x:(List aF)) (h:(x.length≤1099511627776∧∀ y∈x,lm y)) (k:Int) (h0:0≤k) (h1:k+aq dm x≤aG):∃ ys,pS N x k=some (k+aq dm x,ys)∧aq dm ys=aq dm x∧HdL (vO N) dm ys k∧(ys.length≤1099511627776∧∀ y∈ys,lm y):=by
 have hl:x.length≤1099511627776:=h.1
 obtain ⟨ys,a1,a2,a3,a4,a5⟩:=lE (fH N) (vO N) dm lm qA (fun n s k i x hx hi hlt h0 h1 h=>by
  unfold aG at h1
  have hcnt:dm x=aq bD x.Levels:=rfl
  rw [hcnt] at h1
  have n0:=aV mN x.Levels
  obtain ⟨y0,m0,c0,d0,l0⟩:=wF hN x.Levels (h) k (by omega) (by unfold aG; omega)
  have cc:decide ((i:Int) < (s.length:Int))=true:=decide_eq_true hlt
  refine ⟨(⟨y0⟩:aF),?_,?_,?_,?_⟩
  ·simp only [vO,c0]; exact d0
  ·simp only [dm,c0]
  ·exact l0
  ·have hp:(k+aq bD x.Levels)=k+dm x:=by omega
   rw [← hp,← wr1 i (by omega)]
   simp only [fH,cc,if_true,show idx s (i:Int)=some x from by rw [cq,hx],Option.bind_some,Int.toNat_natCast,m0])
  (fun n s k i hi=>by simp only [fH]; rw [if_neg (by simpa using hi)]) N 0 x k hl (by omega) (by omega) h0 (by simpa using h1) (h.2)
 simp only [List.drop_zero,List.take_zero,List.nil_append] at a1 a3
 exact ⟨ys,a1,a3,a4,⟨by omega,a5⟩⟩
theorem y8 {N:Nat} (hN:1399000000000≤N) (x:(List aF)) (h:(x.length≤1099511627776∧∀ y∈x,lm y)) (k:Int) (h0:0≤k) (h1:k+aq dm x≤aG) (hh:HdL (vO N) dm x k):np N x k=some (k+aq dm x):=by
 have hl:x.length≤1099511627776:=h.1
 have:=Ae (ej N x) x (vO N) dm lm qA hl (h.2) (fun n k i y hx hi hlt h0 h1 h hy=>by
  unfold aG at h1
  have hcnt:dm y=aq bD y.Levels:=rfl
  rw [hcnt] at h1
  have n0:=aV mN y.Levels
  have a0:0≤k:=by omega
  have d0:k+aq bD y.Levels≤aG:=by unfold aG; omega
  have p0:decide ((k+aq bD y.Levels) < 0)=false:=decide_eq_false (by omega)
  have cc:decide ((i:Int) < (x.length:Int))=true:=decide_eq_true hlt
  have hp:(k+aq bD y.Levels)=k+dm y:=by omega
  have q0:=hy; simp only [vO] at q0
  have m0:=wL hN y.Levels (h) k a0 d0 q0
  rw [← hp,← wr1 i (by omega)]
  have hb:∀ {β:Type} (f:aF→Option β),(idx x (i:Int)).bind f=f y:=fun f=>by rw [cq,hx]; rfl
  have bm0:=fun (β:Type)=>@Gk _ _ _ m0 β
  simp only [ej,cc,if_true]
  simp only [↓hb,↓bm0,↓reduceIte,tf,decide_true,Bool.not_true,Bool.false_eq_true,bne_self_eq_false,p0])
  (fun n k i hi=>by simp only [ej]; rw [if_neg (by simpa using hi)]) N 0 k (by omega) (by omega) h0 (by simpa using h1) (by simpa using hh)
 unfold np; simpa using this
def lw (x:aA):Int:=aq ct x.Alphas+aq dm x.Rules
theorem AU (x:aA):0≤lw x:=by
 unfold lw
 have:=aV qH x.Alphas
 have:=aV qA x.Rules
 omega
theorem Ak (x:aA):lw x≤32+32*gz x:=by
 have:=GN x; unfold wb at this; unfold lw; omega
theorem uy {N:Nat} (hN:1399000000000≤N) (x:aA) (h:tO x) (k:Int) (h0:0≤k) (h1:k+lw x≤aG):∃ y0 y1,ml N x k=some (k+lw x,y0,y1)∧mo N (⟨y0,y1⟩:aA) k=some (k+lw x):=by
 unfold lw aG at *
 have n0:=aV qH x.Alphas
 have n1:=aV qA x.Rules
 obtain ⟨y0,m0,c0,d0,l0⟩:=yA hN x.Alphas (h.1) k (by omega) (by unfold aG; omega)
 have w0:=ye hN y0 l0 k (by omega) (by rw [c0]; unfold aG; omega) d0
 rw [c0] at w0
 have p0:decide ((k+aq ct x.Alphas) < 0)=false:=decide_eq_false (by omega)
 obtain ⟨y1,m1,c1,d1,l1⟩:=yz hN x.Rules (h.2) (k+aq ct x.Alphas) (by omega) (by unfold aG; omega)
 have w1:=y8 hN y1 l1 (k+aq ct x.Alphas) (by omega) (by rw [c1]; unfold aG; omega) d1
 rw [c1] at w1
 have p1:decide (((k+aq ct x.Alphas)+aq dm x.Rules) < 0)=false:=decide_eq_false (by omega)
 have hp:k+(aq ct x.Alphas+aq dm x.Rules)=((k+aq ct x.Alphas)+aq dm x.Rules):=by omega
 refine ⟨y0,y1,?_,?_⟩
 ·rw [hp]; simp only [ml,Option.bind_some,m0,m1]
 ·rw [hp]; simp only [mo,Option.bind_some,Bool.false_eq_true,if_false,w0,p0,w1,p1]
def ee (x:aC):Int:=1+1+aq dO x.F.Fields
theorem sF (x:aC):0≤ee x:=by
 unfold ee
 have:=aV qK x.F.Fields
 omega
theorem Fq0 (x:aC):ee x≤32+32*(ec x):=by
 have:=iQ (p:=x.F.Fields) (tot:=cl) (fun y _=>zP y)
 have:=ac cl x.F.Fields (fun y _=>eC y)
 unfold ee ec nw
 omega
def yX (N:Nat) (x:aC) (k:Int):Prop:=x.Id=k∧au N (k+1)=some x.F.Kind∧HdL (DM N) dO x.F.Fields ((k+1)+1)
def tg (x:ah):Int:=aq ee x.Items+1
theorem Ks (x:ah):0≤tg x:=by
 unfold tg
 have:=aV sF x.Items
 omega
theorem DJ (x:ah):tg x≤32+32*(gj x):=by
 have:=iQ (p:=x.Items) (tot:=ec) (fun y _=>Fq0 y)
 have:=ac ec x.Items (fun y _=>lI y)
 unfold tg gj
 omega
def Ok (N:Nat) (x:ah) (k:Int):Prop:=HdL (yX N) ee x.Items k∧x.Next=(k+aq ee x.Items)
theorem wX {N:Nat} (hN:1399000000000≤N) (x:(List aC)) (h:(x.length≤1099511627776∧∀ y∈x,mI y)) (k:Int) (h0:0≤k) (h1:k+aq ee x≤aG):∃ ys,om N x k=some (k+aq ee x,ys)∧aq ee ys=aq ee x∧HdL (yX N) ee ys k∧(ys.length≤1099511627776∧∀ y∈ys,mI y):=by
 have hl:x.length≤1099511627776:=h.1
 obtain ⟨ys,a1,a2,a3,a4,a5⟩:=lE (eA N) (yX N) ee mI sF (fun n s k i x hx hi hlt h0 h1 h=>by
  unfold aG at h1
  have hcnt:ee x=1+1+aq dO x.F.Fields:=rfl
  rw [hcnt] at h1
  have n2:=aV qK x.F.Fields
  have e0:IntKind.i64.wrap (k+1)=k+1:=wr (by omega) (by omega)
  obtain ⟨t1,m1⟩:=mtx hN (k+1) (by omega) (by unfold aG; omega)
  have e1:IntKind.i64.wrap ((k+1)+1)=(k+1)+1:=wr (by omega) (by omega)
  obtain ⟨y2,m2,c2,d2,l2⟩:=ue hN x.F.Fields (h) ((k+1)+1) (by omega) (by unfold aG; omega)
  have cc:decide ((i:Int) < (s.length:Int))=true:=decide_eq_true hlt
  refine ⟨(⟨k,(⟨t1,y2⟩:aw)⟩:aC),?_,?_,?_,?_⟩
  ·simp only [yX,c2]; exact ⟨(by trivial),m1,d2⟩
  ·simp only [ee,c2]
  ·exact l2
  ·have hp:(((k+1)+1)+aq dO x.F.Fields)=k+ee x:=by omega
   rw [← hp,← wr1 i (by omega)]
   simp only [eA,cc,if_true,show idx s (i:Int)=some x from by rw [cq,hx],Option.bind_some,Int.toNat_natCast,e0,m1,e1,m2])
  (fun n s k i hi=>by simp only [eA]; rw [if_neg (by simpa using hi)]) N 0 x k hl (by omega) (by omega) h0 (by simpa using h1) (h.2)
 simp only [List.drop_zero,List.take_zero,List.nil_append] at a1 a3
 exact ⟨ys,a1,a3,a4,⟨by omega,a5⟩⟩
def lQ (x:ah):Int:=aq ee x.Items
theorem EU (x:ah):0≤lQ x:=by
 unfold lQ
 have:=aV sF x.Items
 omega
theorem ES (x:ah):lQ x≤32+32*gj x:=by
 have:=DJ x; unfold tg at this; unfold lQ; omega
theorem xJ {N:Nat} (hN:1399000000000≤N) (x:ah) (h:tw x) (k:Int) (h0:0≤k) (h1:k+lQ x≤aG):∃ y0,kZ N x k=some (k+lQ x,y0):=by
 unfold lQ aG at *
 have n0:=aV sF x.Items
 obtain ⟨y0,m0,c0,d0,l0⟩:=wX hN x.Items (h) k (by omega) (by unfold aG; omega)
 have hp:k+(aq ee x.Items)=(k+aq ee x.Items):=by omega
 refine ⟨y0,?_⟩
 ·rw [hp]; simp only [kZ,Option.bind_some,m0]
end Go.Proofs.YtnnkgijdbebnaaaGreat
