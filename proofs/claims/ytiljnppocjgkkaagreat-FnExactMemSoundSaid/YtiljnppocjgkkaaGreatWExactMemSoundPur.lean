/- Printed by a program of ours: the plain laws of the sizes, copies, comparisons and marks. -/
import Derived.Test.YtiljnppocjgkkaaGreatPLib
import Derived.Test.YtiljnppocjgkkaaGreatWExactMemSoundMod
namespace Go.Proofs.YtiljnppocjgkkaaGreat
open Eng
set_option linter.unusedVariables false
set_option linter.unusedSimpArgs false
set_option maxRecDepth 10000
def wU (x:aP):Prop:=(WfI .i64) x.K∧(WfI .i64) x.N∧WfS x.S
def fS (x:aP):Int:=((x.S.size:Int))
theorem jA (x:aP):0≤fS x:=by
 unfold fS
 omega
def rp (x:bk):Prop:=(WfI .i64) x.K∧WfS x.S∧wU x.V
def eG (x:bk):Int:=((x.S.size:Int))+(fS x.V)
theorem cC (x:bk):0≤eG x:=by
 unfold eG
 have:=jA x.V
 omega
def Bm (x:ao):Prop:=WfS x.Kind∧(WfL rp) x.Args∧WfB x.Not
def fd (x:ao):Int:=((x.Kind.size:Int))+((x.Args.length:Int)+(x.Args.map eG).sum)
theorem oG (x:ao):0≤fd x:=by
 unfold fd
 have:=aw eG x.Args (fun y _=>cC y)
 omega
def vh (x:bz):Prop:=(WfI .i64) x.Op∧rp x.L∧rp x.R
def fX (x:bz):Int:=(eG x.L)+(eG x.R)
theorem mj (x:bz):0≤fX x:=by
 unfold fX
 have:=cC x.L
 have:=cC x.R
 omega
def vg (x:br):Prop:=WfS x.Op∧rp x.L∧rp x.R
def fH (x:br):Int:=((x.Op.size:Int))+(eG x.L)+(eG x.R)
theorem jP (x:br):0≤fH x:=by
 unfold fH
 have:=cC x.L
 have:=cC x.R
 omega
def BF (x:bX):Prop:=(WfI .i64) x.Kind∧WfS x.Name∧(WfL vg) x.Args∧(WfI .i64) x.N∧WfS x.Undo
def fc (x:bX):Int:=((x.Name.size:Int))+((x.Args.length:Int)+(x.Args.map fH).sum)+((x.Undo.size:Int))
theorem ou (x:bX):0≤fc x:=by
 unfold fc
 have:=aw fH x.Args (fun y _=>jP y)
 omega
def vi (x:ac):Prop:=WfS x.Name∧(WfI .i64) x.Sal∧(WfL Bm) x.Pats∧(WfL vh) x.Conds∧(WfL BF) x.Acts
def f7 (x:ac):Int:=((x.Name.size:Int))+((x.Pats.length:Int)+(x.Pats.map fd).sum)+((x.Conds.length:Int)+(x.Conds.map fX).sum)+((x.Acts.length:Int)+(x.Acts.map fc).sum)
theorem mm (x:ac):0≤f7 x:=by
 unfold f7
 have:=aw fd x.Pats (fun y _=>oG y)
 have:=aw fX x.Conds (fun y _=>mj y)
 have:=aw fc x.Acts (fun y _=>ou y)
 omega
def Bj (x:bh):Prop:=WfS x.Name∧(WfL vi) x.Rules
def lJ (x:bh):Int:=((x.Name.size:Int))+((x.Rules.length:Int)+(x.Rules.map f7).sum)
theorem CZ (x:bh):0≤lJ x:=by
 unfold lJ
 have:=aw f7 x.Rules (fun y _=>mm y)
 omega
def BH (x:aQ):Prop:=(WfL (WfI .i64)) x.L
def iB (x:aQ):Int:=((x.L.length:Int))
theorem qJ (x:aQ):0≤iB x:=by
 unfold iB
 omega
def xl (x:aa):Prop:=(WfL (WfI .i64)) x.Ids∧(WfL (WfI .i64)) x.Hits
def iz (x:aa):Int:=((x.Ids.length:Int))+((x.Hits.length:Int))
theorem qC (x:aa):0≤iz x:=by
 unfold iz
 omega
def rW (x:ab):Prop:=(WfL xl) x.Toks
def dj (x:ab):Int:=((x.Toks.length:Int)+(x.Toks.map iz).sum)
theorem n8 (x:ab):0≤dj x:=by
 unfold dj
 have:=aw iz x.Toks (fun y _=>qC y)
 omega
def B8 (x:aF):Prop:=(WfL rW) x.Levels
def gN (x:aF):Int:=((x.Levels.length:Int)+(x.Levels.map dj).sum)
theorem qA (x:aF):0≤gN x:=by
 unfold gN
 have:=aw dj x.Levels (fun y _=>n8 y)
 omega
def Bu (x:aJ):Prop:=(WfL BH) x.Alphas∧(WfL B8) x.Rules
def lK (x:aJ):Int:=((x.Alphas.length:Int)+(x.Alphas.map iB).sum)+((x.Rules.length:Int)+(x.Rules.map gN).sum)
theorem CL (x:aJ):0≤lK x:=by
 unfold lK
 have:=aw iB x.Alphas (fun y _=>qJ y)
 have:=aw gN x.Rules (fun y _=>qA y)
 omega
def AL (x:av):Prop:=WfS x.Kind∧(WfL wU) x.Fields
def lV (x:av):Int:=((x.Kind.size:Int))+((x.Fields.length:Int)+(x.Fields.map fS).sum)
theorem rT (x:av):0≤lV x:=by
 unfold lV
 have:=aw fS x.Fields (fun y _=>jA y)
 omega
def vo (x:an):Prop:=(WfI .i64) x.Id∧AL x.F
def eU (x:an):Int:=(lV x.F)
theorem mC (x:an):0≤eU x:=by
 unfold eU
 have:=rT x.F
 omega
def tI (x:ae):Prop:=(WfL vo) x.Items∧(WfI .i64) x.Next
def gX (x:ae):Int:=((x.Items.length:Int)+(x.Items.map eU).sum)
theorem Bk (x:ae):0≤gX x:=by
 unfold gX
 have:=aw eU x.Items (fun y _=>mC y)
 omega
theorem tB {N:Nat} (hN:1099000000000≤N) (x:aP) (w:wU x) (left:Int) (h0:0≤left) (h1:left≤1048576):∃ v,lz N x left=some v∧Szd v left (fS x):=by
 obtain ⟨w0,w1,w2⟩:=w
 unfold lz
 unfold fS
 have hl2:=w2; unfold WfS maxLen at hl2
 have e2:IntKind.i64.wrap (left - (x.S.size:Int))=left - (x.S.size:Int):=wr (by omega) (by omega)
 simp only [e2]
 by_cases c2:(left - (x.S.size:Int)) < 0
 ·rw [if_pos (by simpa using c2)]; exact ⟨-1,rfl,.inl (by omega)⟩
 rw [if_neg (by simpa using c2)]
 exact ⟨_,rfl,.inr ⟨by omega,by omega⟩⟩
theorem kQ {N:Nat} (hN:1099000000000≤N) (x:bk) (w:rp x) (left:Int) (h0:0≤left) (h1:left≤1048576):∃ v,ig N x left=some v∧Szd v left (eG x):=by
 obtain ⟨w0,w1,w2⟩:=w
 unfold ig
 unfold eG
 have:=jA x.V
 have hl1:=w1; unfold WfS maxLen at hl1
 have e1:IntKind.i64.wrap (left - (x.S.size:Int))=left - (x.S.size:Int):=wr (by omega) (by omega)
 simp only [e1]
 by_cases c1:(left - (x.S.size:Int)) < 0
 ·rw [if_pos (by simpa using c1)]; exact ⟨-1,rfl,.inl (by omega)⟩
 rw [if_neg (by simpa using c1)]
 obtain ⟨v2,hv2,hs2⟩:=tB hN x.V w2 (left - (x.S.size:Int)) (by omega) (by omega)
 rw [hv2]; simp only [Option.bind_some]
 by_cases c2:v2 < 0
 ·rw [if_pos (by simpa using c2)]; exact ⟨-1,rfl,.inl (by omega)⟩
 rw [if_neg (by simpa using c2)]
 replace hs2:=hs2.resolve_left c2
 exact ⟨_,rfl,.inr ⟨by omega,by omega⟩⟩
theorem zu {N:Nat} (hN:1099000000000≤N) (x:(List bk)) (w:(WfL rp) x) (left:Int) (h0:0≤left) (h1:left≤1048576):∃ v,o3 N x left=some v∧Szd v left ((x.length:Int)+(x.map eG).sum):=by
 have hl:=w.1; unfold maxLen at hl
 have e1:IntKind.i64.wrap (left - (x.length:Int))=left - (x.length:Int):=wr (by omega) (by omega)
 unfold o3
 simp only [e1]
 by_cases c:left - (x.length:Int) < 0
 ·rw [if_pos (by simpa using c)]; exact ⟨-1,rfl,.inl (by omega)⟩
 ·rw [if_neg (by simpa using c)]
  obtain ⟨v,hv,hs⟩:=mK (gU N x) x (by omega) eG (fun y _=>cC y) (fun y l=>ig N y l) (fun y hy l g0 g1=>kQ hN y (w.2 y hy) l g0 g1) (fun k l i=>rfl) N 0 (left - (x.length:Int)) (by omega) (by omega) (by omega) (by omega)
  refine ⟨v,hv,?_⟩
  rw [List.drop_zero] at hs
  rcases hs with hs | ⟨hs0,hs⟩
  ·exact .inl hs
  ·exact .inr ⟨hs0,by omega⟩
theorem AN {N:Nat} (hN:1099000000000≤N) (x:ao) (w:Bm x) (left:Int) (h0:0≤left) (h1:left≤1048576):∃ v,nm N x left=some v∧Szd v left (fd x):=by
 obtain ⟨w0,w1,w2⟩:=w
 unfold nm
 unfold fd
 have:=aw eG x.Args (fun y _=>cC y)
 have hl0:=w0; unfold WfS maxLen at hl0
 have e0:IntKind.i64.wrap (left - (x.Kind.size:Int))=left - (x.Kind.size:Int):=wr (by omega) (by omega)
 simp only [e0]
 by_cases c0:(left - (x.Kind.size:Int)) < 0
 ·rw [if_pos (by simpa using c0)]; exact ⟨-1,rfl,.inl (by omega)⟩
 rw [if_neg (by simpa using c0)]
 obtain ⟨v1,hv1,hs1⟩:=zu hN x.Args w1 (left - (x.Kind.size:Int)) (by omega) (by omega)
 rw [hv1]; simp only [Option.bind_some]
 by_cases c1:v1 < 0
 ·rw [if_pos (by simpa using c1)]; exact ⟨-1,rfl,.inl (by omega)⟩
 rw [if_neg (by simpa using c1)]
 replace hs1:=hs1.resolve_left c1
 exact ⟨_,rfl,.inr ⟨by omega,by omega⟩⟩
theorem yA {N:Nat} (hN:1099000000000≤N) (x:(List ao)) (w:(WfL Bm) x) (left:Int) (h0:0≤left) (h1:left≤1048576):∃ v,oK N x left=some v∧Szd v left ((x.length:Int)+(x.map fd).sum):=by
 have hl:=w.1; unfold maxLen at hl
 have e1:IntKind.i64.wrap (left - (x.length:Int))=left - (x.length:Int):=wr (by omega) (by omega)
 unfold oK
 simp only [e1]
 by_cases c:left - (x.length:Int) < 0
 ·rw [if_pos (by simpa using c)]; exact ⟨-1,rfl,.inl (by omega)⟩
 ·rw [if_neg (by simpa using c)]
  obtain ⟨v,hv,hs⟩:=mK (gY N x) x (by omega) fd (fun y _=>oG y) (fun y l=>nm N y l) (fun y hy l g0 g1=>AN hN y (w.2 y hy) l g0 g1) (fun k l i=>rfl) N 0 (left - (x.length:Int)) (by omega) (by omega) (by omega) (by omega)
  refine ⟨v,hv,?_⟩
  rw [List.drop_zero] at hs
  rcases hs with hs | ⟨hs0,hs⟩
  ·exact .inl hs
  ·exact .inr ⟨hs0,by omega⟩
theorem xU {N:Nat} (hN:1099000000000≤N) (x:bz) (w:vh x) (left:Int) (h0:0≤left) (h1:left≤1048576):∃ v,l9 N x left=some v∧Szd v left (fX x):=by
 obtain ⟨w0,w1,w2⟩:=w
 unfold l9
 unfold fX
 have:=cC x.L
 have:=cC x.R
 obtain ⟨v1,hv1,hs1⟩:=kQ hN x.L w1 left (by omega) (by omega)
 rw [hv1]; simp only [Option.bind_some]
 by_cases c1:v1 < 0
 ·rw [if_pos (by simpa using c1)]; exact ⟨-1,rfl,.inl (by omega)⟩
 rw [if_neg (by simpa using c1)]
 replace hs1:=hs1.resolve_left c1
 obtain ⟨v2,hv2,hs2⟩:=kQ hN x.R w2 v1 (by omega) (by omega)
 rw [hv2]; simp only [Option.bind_some]
 by_cases c2:v2 < 0
 ·rw [if_pos (by simpa using c2)]; exact ⟨-1,rfl,.inl (by omega)⟩
 rw [if_neg (by simpa using c2)]
 replace hs2:=hs2.resolve_left c2
 exact ⟨_,rfl,.inr ⟨by omega,by omega⟩⟩
theorem ww {N:Nat} (hN:1099000000000≤N) (x:(List bz)) (w:(WfL vh) x) (left:Int) (h0:0≤left) (h1:left≤1048576):∃ v,m6 N x left=some v∧Szd v left ((x.length:Int)+(x.map fX).sum):=by
 have hl:=w.1; unfold maxLen at hl
 have e1:IntKind.i64.wrap (left - (x.length:Int))=left - (x.length:Int):=wr (by omega) (by omega)
 unfold m6
 simp only [e1]
 by_cases c:left - (x.length:Int) < 0
 ·rw [if_pos (by simpa using c)]; exact ⟨-1,rfl,.inl (by omega)⟩
 ·rw [if_neg (by simpa using c)]
  obtain ⟨v,hv,hs⟩:=mK (gc N x) x (by omega) fX (fun y _=>mj y) (fun y l=>l9 N y l) (fun y hy l g0 g1=>xU hN y (w.2 y hy) l g0 g1) (fun k l i=>rfl) N 0 (left - (x.length:Int)) (by omega) (by omega) (by omega) (by omega)
  refine ⟨v,hv,?_⟩
  rw [List.drop_zero] at hs
  rcases hs with hs | ⟨hs0,hs⟩
  ·exact .inl hs
  ·exact .inr ⟨hs0,by omega⟩
theorem z7 {N:Nat} (hN:1099000000000≤N) (x:br) (w:vg x) (left:Int) (h0:0≤left) (h1:left≤1048576):∃ v,lw N x left=some v∧Szd v left (fH x):=by
 obtain ⟨w0,w1,w2⟩:=w
 unfold lw
 unfold fH
 have:=cC x.L
 have:=cC x.R
 have hl0:=w0; unfold WfS maxLen at hl0
 have e0:IntKind.i64.wrap (left - (x.Op.size:Int))=left - (x.Op.size:Int):=wr (by omega) (by omega)
 simp only [e0]
 by_cases c0:(left - (x.Op.size:Int)) < 0
 ·rw [if_pos (by simpa using c0)]; exact ⟨-1,rfl,.inl (by omega)⟩
 rw [if_neg (by simpa using c0)]
 obtain ⟨v1,hv1,hs1⟩:=kQ hN x.L w1 (left - (x.Op.size:Int)) (by omega) (by omega)
 rw [hv1]; simp only [Option.bind_some]
 by_cases c1:v1 < 0
 ·rw [if_pos (by simpa using c1)]; exact ⟨-1,rfl,.inl (by omega)⟩
 rw [if_neg (by simpa using c1)]
 replace hs1:=hs1.resolve_left c1
 obtain ⟨v2,hv2,hs2⟩:=kQ hN x.R w2 v1 (by omega) (by omega)
 rw [hv2]; simp only [Option.bind_some]
 by_cases c2:v2 < 0
 ·rw [if_pos (by simpa using c2)]; exact ⟨-1,rfl,.inl (by omega)⟩
 rw [if_neg (by simpa using c2)]
 replace hs2:=hs2.resolve_left c2
 exact ⟨_,rfl,.inr ⟨by omega,by omega⟩⟩
theorem vR {N:Nat} (hN:1099000000000≤N) (x:(List br)) (w:(WfL vg) x) (left:Int) (h0:0≤left) (h1:left≤1048576):∃ v,mw N x left=some v∧Szd v left ((x.length:Int)+(x.map fH).sum):=by
 have hl:=w.1; unfold maxLen at hl
 have e1:IntKind.i64.wrap (left - (x.length:Int))=left - (x.length:Int):=wr (by omega) (by omega)
 unfold mw
 simp only [e1]
 by_cases c:left - (x.length:Int) < 0
 ·rw [if_pos (by simpa using c)]; exact ⟨-1,rfl,.inl (by omega)⟩
 ·rw [if_neg (by simpa using c)]
  obtain ⟨v,hv,hs⟩:=mK (gj N x) x (by omega) fH (fun y _=>jP y) (fun y l=>lw N y l) (fun y hy l g0 g1=>z7 hN y (w.2 y hy) l g0 g1) (fun k l i=>rfl) N 0 (left - (x.length:Int)) (by omega) (by omega) (by omega) (by omega)
  refine ⟨v,hv,?_⟩
  rw [List.drop_zero] at hs
  rcases hs with hs | ⟨hs0,hs⟩
  ·exact .inl hs
  ·exact .inr ⟨hs0,by omega⟩
theorem AW {N:Nat} (hN:1099000000000≤N) (x:bX) (w:BF x) (left:Int) (h0:0≤left) (h1:left≤1048576):∃ v,nj N x left=some v∧Szd v left (fc x):=by
 obtain ⟨w0,w1,w2,w3,w4⟩:=w
 unfold nj
 unfold fc
 have:=aw fH x.Args (fun y _=>jP y)
 have hl1:=w1; unfold WfS maxLen at hl1
 have e1:IntKind.i64.wrap (left - (x.Name.size:Int))=left - (x.Name.size:Int):=wr (by omega) (by omega)
 simp only [e1]
 by_cases c1:(left - (x.Name.size:Int)) < 0
 ·rw [if_pos (by simpa using c1)]; exact ⟨-1,rfl,.inl (by omega)⟩
 rw [if_neg (by simpa using c1)]
 obtain ⟨v2,hv2,hs2⟩:=vR hN x.Args w2 (left - (x.Name.size:Int)) (by omega) (by omega)
 rw [hv2]; simp only [Option.bind_some]
 by_cases c2:v2 < 0
 ·rw [if_pos (by simpa using c2)]; exact ⟨-1,rfl,.inl (by omega)⟩
 rw [if_neg (by simpa using c2)]
 replace hs2:=hs2.resolve_left c2
 have hl4:=w4; unfold WfS maxLen at hl4
 have e4:IntKind.i64.wrap (v2 - (x.Undo.size:Int))=v2 - (x.Undo.size:Int):=wr (by omega) (by omega)
 simp only [e4]
 by_cases c4:(v2 - (x.Undo.size:Int)) < 0
 ·rw [if_pos (by simpa using c4)]; exact ⟨-1,rfl,.inl (by omega)⟩
 rw [if_neg (by simpa using c4)]
 exact ⟨_,rfl,.inr ⟨by omega,by omega⟩⟩
theorem yY {N:Nat} (hN:1099000000000≤N) (x:(List bX)) (w:(WfL BF) x) (left:Int) (h0:0≤left) (h1:left≤1048576):∃ v,oR N x left=some v∧Szd v left ((x.length:Int)+(x.map fc).sum):=by
 have hl:=w.1; unfold maxLen at hl
 have e1:IntKind.i64.wrap (left - (x.length:Int))=left - (x.length:Int):=wr (by omega) (by omega)
 unfold oR
 simp only [e1]
 by_cases c:left - (x.length:Int) < 0
 ·rw [if_pos (by simpa using c)]; exact ⟨-1,rfl,.inl (by omega)⟩
 ·rw [if_neg (by simpa using c)]
  obtain ⟨v,hv,hs⟩:=mK (hJ N x) x (by omega) fc (fun y _=>ou y) (fun y l=>nj N y l) (fun y hy l g0 g1=>AW hN y (w.2 y hy) l g0 g1) (fun k l i=>rfl) N 0 (left - (x.length:Int)) (by omega) (by omega) (by omega) (by omega)
  refine ⟨v,hv,?_⟩
  rw [List.drop_zero] at hs
  rcases hs with hs | ⟨hs0,hs⟩
  ·exact .inl hs
  ·exact .inr ⟨hs0,by omega⟩
theorem yf {N:Nat} (hN:1099000000000≤N) (x:ac) (w:vi x) (left:Int) (h0:0≤left) (h1:left≤1048576):∃ v,lG N x left=some v∧Szd v left (f7 x):=by
 obtain ⟨w0,w1,w2,w3,w4⟩:=w
 unfold lG
 unfold f7
 have:=aw fd x.Pats (fun y _=>oG y)
 have:=aw fX x.Conds (fun y _=>mj y)
 have:=aw fc x.Acts (fun y _=>ou y)
 have hl0:=w0; unfold WfS maxLen at hl0
 have e0:IntKind.i64.wrap (left - (x.Name.size:Int))=left - (x.Name.size:Int):=wr (by omega) (by omega)
 simp only [e0]
 by_cases c0:(left - (x.Name.size:Int)) < 0
 ·rw [if_pos (by simpa using c0)]; exact ⟨-1,rfl,.inl (by omega)⟩
 rw [if_neg (by simpa using c0)]
 obtain ⟨v2,hv2,hs2⟩:=yA hN x.Pats w2 (left - (x.Name.size:Int)) (by omega) (by omega)
 rw [hv2]; simp only [Option.bind_some]
 by_cases c2:v2 < 0
 ·rw [if_pos (by simpa using c2)]; exact ⟨-1,rfl,.inl (by omega)⟩
 rw [if_neg (by simpa using c2)]
 replace hs2:=hs2.resolve_left c2
 obtain ⟨v3,hv3,hs3⟩:=ww hN x.Conds w3 v2 (by omega) (by omega)
 rw [hv3]; simp only [Option.bind_some]
 by_cases c3:v3 < 0
 ·rw [if_pos (by simpa using c3)]; exact ⟨-1,rfl,.inl (by omega)⟩
 rw [if_neg (by simpa using c3)]
 replace hs3:=hs3.resolve_left c3
 obtain ⟨v4,hv4,hs4⟩:=yY hN x.Acts w4 v3 (by omega) (by omega)
 rw [hv4]; simp only [Option.bind_some]
 by_cases c4:v4 < 0
 ·rw [if_pos (by simpa using c4)]; exact ⟨-1,rfl,.inl (by omega)⟩
 rw [if_neg (by simpa using c4)]
 replace hs4:=hs4.resolve_left c4
 exact ⟨_,rfl,.inr ⟨by omega,by omega⟩⟩
theorem wA {N:Nat} (hN:1099000000000≤N) (x:(List ac)) (w:(WfL vi) x) (left:Int) (h0:0≤left) (h1:left≤1048576):∃ v,mG N x left=some v∧Szd v left ((x.length:Int)+(x.map f7).sum):=by
 have hl:=w.1; unfold maxLen at hl
 have e1:IntKind.i64.wrap (left - (x.length:Int))=left - (x.length:Int):=wr (by omega) (by omega)
 unfold mG
 simp only [e1]
 by_cases c:left - (x.length:Int) < 0
 ·rw [if_pos (by simpa using c)]; exact ⟨-1,rfl,.inl (by omega)⟩
 ·rw [if_neg (by simpa using c)]
  obtain ⟨v,hv,hs⟩:=mK (gl N x) x (by omega) f7 (fun y _=>mm y) (fun y l=>lG N y l) (fun y hy l g0 g1=>yf hN y (w.2 y hy) l g0 g1) (fun k l i=>rfl) N 0 (left - (x.length:Int)) (by omega) (by omega) (by omega) (by omega)
  refine ⟨v,hv,?_⟩
  rw [List.drop_zero] at hs
  rcases hs with hs | ⟨hs0,hs⟩
  ·exact .inl hs
  ·exact .inr ⟨hs0,by omega⟩
theorem BK {N:Nat} (hN:1099000000000≤N) (x:bh) (w:Bj x) (left:Int) (h0:0≤left) (h1:left≤1048576):∃ v,q8 N x left=some v∧Szd v left (lJ x):=by
 obtain ⟨w0,w1⟩:=w
 unfold q8
 unfold lJ
 have:=aw f7 x.Rules (fun y _=>mm y)
 have hl0:=w0; unfold WfS maxLen at hl0
 have e0:IntKind.i64.wrap (left - (x.Name.size:Int))=left - (x.Name.size:Int):=wr (by omega) (by omega)
 simp only [e0]
 by_cases c0:(left - (x.Name.size:Int)) < 0
 ·rw [if_pos (by simpa using c0)]; exact ⟨-1,rfl,.inl (by omega)⟩
 rw [if_neg (by simpa using c0)]
 obtain ⟨v1,hv1,hs1⟩:=wA hN x.Rules w1 (left - (x.Name.size:Int)) (by omega) (by omega)
 rw [hv1]; simp only [Option.bind_some]
 by_cases c1:v1 < 0
 ·rw [if_pos (by simpa using c1)]; exact ⟨-1,rfl,.inl (by omega)⟩
 rw [if_neg (by simpa using c1)]
 replace hs1:=hs1.resolve_left c1
 exact ⟨_,rfl,.inr ⟨by omega,by omega⟩⟩
theorem pO {N:Nat} (hN:1099000000000≤N) (x:(List Int)) (w:(WfL (WfI .i64)) x) (left:Int) (h0:0≤left) (h1:left≤1048576):∃ v,jv N x left=some v∧Szd v left ((x.length:Int)):=by
 have hl:=w.1; unfold maxLen at hl
 have e1:IntKind.i64.wrap (left - (x.length:Int))=left - (x.length:Int):=wr (by omega) (by omega)
 unfold jv
 simp only [e1]
 by_cases c:left - (x.length:Int) < 0
 ·rw [if_pos (by simpa using c)]; exact ⟨-1,rfl,.inl (by omega)⟩
 ·rw [if_neg (by simpa using c)]
  exact ⟨_,rfl,.inr ⟨by omega,rfl⟩⟩
theorem Bw {N:Nat} (hN:1099000000000≤N) (x:aQ) (w:BH x) (left:Int) (h0:0≤left) (h1:left≤1048576):∃ v,nr N x left=some v∧Szd v left (iB x):=by
 have w0:(WfL (WfI .i64)) x.L:=w
 unfold nr
 unfold iB
 obtain ⟨v0,hv0,hs0⟩:=pO hN x.L w0 left (by omega) (by omega)
 rw [hv0]; simp only [Option.bind_some]
 by_cases c0:v0 < 0
 ·rw [if_pos (by simpa using c0)]; exact ⟨-1,rfl,.inl (by omega)⟩
 rw [if_neg (by simpa using c0)]
 replace hs0:=hs0.resolve_left c0
 exact ⟨_,rfl,.inr ⟨by omega,by omega⟩⟩
theorem ze {N:Nat} (hN:1099000000000≤N) (x:(List aQ)) (w:(WfL BH) x) (left:Int) (h0:0≤left) (h1:left≤1048576):∃ v,oz N x left=some v∧Szd v left ((x.length:Int)+(x.map iB).sum):=by
 have hl:=w.1; unfold maxLen at hl
 have e1:IntKind.i64.wrap (left - (x.length:Int))=left - (x.length:Int):=wr (by omega) (by omega)
 unfold oz
 simp only [e1]
 by_cases c:left - (x.length:Int) < 0
 ·rw [if_pos (by simpa using c)]; exact ⟨-1,rfl,.inl (by omega)⟩
 ·rw [if_neg (by simpa using c)]
  obtain ⟨v,hv,hs⟩:=mK (im N x) x (by omega) iB (fun y _=>qJ y) (fun y l=>nr N y l) (fun y hy l g0 g1=>Bw hN y (w.2 y hy) l g0 g1) (fun k l i=>rfl) N 0 (left - (x.length:Int)) (by omega) (by omega) (by omega) (by omega)
  refine ⟨v,hv,?_⟩
  rw [List.drop_zero] at hs
  rcases hs with hs | ⟨hs0,hs⟩
  ·exact .inl hs
  ·exact .inr ⟨hs0,by omega⟩
theorem BE {N:Nat} (hN:1099000000000≤N) (x:aa) (w:xl x) (left:Int) (h0:0≤left) (h1:left≤1048576):∃ v,nI N x left=some v∧Szd v left (iz x):=by
 obtain ⟨w0,w1⟩:=w
 unfold nI
 unfold iz
 obtain ⟨v0,hv0,hs0⟩:=pO hN x.Ids w0 left (by omega) (by omega)
 rw [hv0]; simp only [Option.bind_some]
 by_cases c0:v0 < 0
 ·rw [if_pos (by simpa using c0)]; exact ⟨-1,rfl,.inl (by omega)⟩
 rw [if_neg (by simpa using c0)]
 replace hs0:=hs0.resolve_left c0
 obtain ⟨v1,hv1,hs1⟩:=pO hN x.Hits w1 v0 (by omega) (by omega)
 rw [hv1]; simp only [Option.bind_some]
 by_cases c1:v1 < 0
 ·rw [if_pos (by simpa using c1)]; exact ⟨-1,rfl,.inl (by omega)⟩
 rw [if_neg (by simpa using c1)]
 replace hs1:=hs1.resolve_left c1
 exact ⟨_,rfl,.inr ⟨by omega,by omega⟩⟩
theorem xW {N:Nat} (hN:1099000000000≤N) (x:(List aa)) (w:(WfL xl) x) (left:Int) (h0:0≤left) (h1:left≤1048576):∃ v,ot N x left=some v∧Szd v left ((x.length:Int)+(x.map iz).sum):=by
 have hl:=w.1; unfold maxLen at hl
 have e1:IntKind.i64.wrap (left - (x.length:Int))=left - (x.length:Int):=wr (by omega) (by omega)
 unfold ot
 simp only [e1]
 by_cases c:left - (x.length:Int) < 0
 ·rw [if_pos (by simpa using c)]; exact ⟨-1,rfl,.inl (by omega)⟩
 ·rw [if_neg (by simpa using c)]
  obtain ⟨v,hv,hs⟩:=mK (ib N x) x (by omega) iz (fun y _=>qC y) (fun y l=>nI N y l) (fun y hy l g0 g1=>BE hN y (w.2 y hy) l g0 g1) (fun k l i=>rfl) N 0 (left - (x.length:Int)) (by omega) (by omega) (by omega) (by omega)
  refine ⟨v,hv,?_⟩
  rw [List.drop_zero] at hs
  rcases hs with hs | ⟨hs0,hs⟩
  ·exact .inl hs
  ·exact .inr ⟨hs0,by omega⟩
theorem vN {N:Nat} (hN:1099000000000≤N) (x:ab) (w:rW x) (left:Int) (h0:0≤left) (h1:left≤1048576):∃ v,jO N x left=some v∧Szd v left (dj x):=by
 have w0:(WfL xl) x.Toks:=w
 unfold jO
 unfold dj
 have:=aw iz x.Toks (fun y _=>qC y)
 obtain ⟨v0,hv0,hs0⟩:=xW hN x.Toks w0 left (by omega) (by omega)
 rw [hv0]; simp only [Option.bind_some]
 by_cases c0:v0 < 0
 ·rw [if_pos (by simpa using c0)]; exact ⟨-1,rfl,.inl (by omega)⟩
 rw [if_neg (by simpa using c0)]
 replace hs0:=hs0.resolve_left c0
 exact ⟨_,rfl,.inr ⟨by omega,by omega⟩⟩
theorem uN {N:Nat} (hN:1099000000000≤N) (x:(List ab)) (w:(WfL rW) x) (left:Int) (h0:0≤left) (h1:left≤1048576):∃ v,jW N x left=some v∧Szd v left ((x.length:Int)+(x.map dj).sum):=by
 have hl:=w.1; unfold maxLen at hl
 have e1:IntKind.i64.wrap (left - (x.length:Int))=left - (x.length:Int):=wr (by omega) (by omega)
 unfold jW
 simp only [e1]
 by_cases c:left - (x.length:Int) < 0
 ·rw [if_pos (by simpa using c)]; exact ⟨-1,rfl,.inl (by omega)⟩
 ·rw [if_neg (by simpa using c)]
  obtain ⟨v,hv,hs⟩:=mK (fv N x) x (by omega) dj (fun y _=>n8 y) (fun y l=>jO N y l) (fun y hy l g0 g1=>vN hN y (w.2 y hy) l g0 g1) (fun k l i=>rfl) N 0 (left - (x.length:Int)) (by omega) (by omega) (by omega) (by omega)
  refine ⟨v,hv,?_⟩
  rw [List.drop_zero] at hs
  rcases hs with hs | ⟨hs0,hs⟩
  ·exact .inl hs
  ·exact .inr ⟨hs0,by omega⟩
theorem Ba {N:Nat} (hN:1099000000000≤N) (x:aF) (w:B8 x) (left:Int) (h0:0≤left) (h1:left≤1048576):∃ v,nq N x left=some v∧Szd v left (gN x):=by
 have w0:(WfL rW) x.Levels:=w
 unfold nq
 unfold gN
 have:=aw dj x.Levels (fun y _=>n8 y)
 obtain ⟨v0,hv0,hs0⟩:=uN hN x.Levels w0 left (by omega) (by omega)
 rw [hv0]; simp only [Option.bind_some]
 by_cases c0:v0 < 0
 ·rw [if_pos (by simpa using c0)]; exact ⟨-1,rfl,.inl (by omega)⟩
 rw [if_neg (by simpa using c0)]
 replace hs0:=hs0.resolve_left c0
 exact ⟨_,rfl,.inr ⟨by omega,by omega⟩⟩
theorem xG {N:Nat} (hN:1099000000000≤N) (x:(List aF)) (w:(WfL B8) x) (left:Int) (h0:0≤left) (h1:left≤1048576):∃ v,o6 N x left=some v∧Szd v left ((x.length:Int)+(x.map gN).sum):=by
 have hl:=w.1; unfold maxLen at hl
 have e1:IntKind.i64.wrap (left - (x.length:Int))=left - (x.length:Int):=wr (by omega) (by omega)
 unfold o6
 simp only [e1]
 by_cases c:left - (x.length:Int) < 0
 ·rw [if_pos (by simpa using c)]; exact ⟨-1,rfl,.inl (by omega)⟩
 ·rw [if_neg (by simpa using c)]
  obtain ⟨v,hv,hs⟩:=mK (gZ N x) x (by omega) gN (fun y _=>qA y) (fun y l=>nq N y l) (fun y hy l g0 g1=>Ba hN y (w.2 y hy) l g0 g1) (fun k l i=>rfl) N 0 (left - (x.length:Int)) (by omega) (by omega) (by omega) (by omega)
  refine ⟨v,hv,?_⟩
  rw [List.drop_zero] at hs
  rcases hs with hs | ⟨hs0,hs⟩
  ·exact .inl hs
  ·exact .inr ⟨hs0,by omega⟩
theorem Be {N:Nat} (hN:1099000000000≤N) (x:aJ) (w:Bu x) (left:Int) (h0:0≤left) (h1:left≤1048576):∃ v,qt N x left=some v∧Szd v left (lK x):=by
 obtain ⟨w0,w1⟩:=w
 unfold qt
 unfold lK
 have:=aw iB x.Alphas (fun y _=>qJ y)
 have:=aw gN x.Rules (fun y _=>qA y)
 obtain ⟨v0,hv0,hs0⟩:=ze hN x.Alphas w0 left (by omega) (by omega)
 rw [hv0]; simp only [Option.bind_some]
 by_cases c0:v0 < 0
 ·rw [if_pos (by simpa using c0)]; exact ⟨-1,rfl,.inl (by omega)⟩
 rw [if_neg (by simpa using c0)]
 replace hs0:=hs0.resolve_left c0
 obtain ⟨v1,hv1,hs1⟩:=xG hN x.Rules w1 v0 (by omega) (by omega)
 rw [hv1]; simp only [Option.bind_some]
 by_cases c1:v1 < 0
 ·rw [if_pos (by simpa using c1)]; exact ⟨-1,rfl,.inl (by omega)⟩
 rw [if_neg (by simpa using c1)]
 replace hs1:=hs1.resolve_left c1
 exact ⟨_,rfl,.inr ⟨by omega,by omega⟩⟩
theorem xI {N:Nat} (hN:1099000000000≤N) (x:(List aP)) (w:(WfL wU) x) (left:Int) (h0:0≤left) (h1:left≤1048576):∃ v,oA N x left=some v∧Szd v left ((x.length:Int)+(x.map fS).sum):=by
 have hl:=w.1; unfold maxLen at hl
 have e1:IntKind.i64.wrap (left - (x.length:Int))=left - (x.length:Int):=wr (by omega) (by omega)
 unfold oA
 simp only [e1]
 by_cases c:left - (x.length:Int) < 0
 ·rw [if_pos (by simpa using c)]; exact ⟨-1,rfl,.inl (by omega)⟩
 ·rw [if_neg (by simpa using c)]
  obtain ⟨v,hv,hs⟩:=mK (hU N x) x (by omega) fS (fun y _=>jA y) (fun y l=>lz N y l) (fun y hy l g0 g1=>tB hN y (w.2 y hy) l g0 g1) (fun k l i=>rfl) N 0 (left - (x.length:Int)) (by omega) (by omega) (by omega) (by omega)
  refine ⟨v,hv,?_⟩
  rw [List.drop_zero] at hs
  rcases hs with hs | ⟨hs0,hs⟩
  ·exact .inl hs
  ·exact .inr ⟨hs0,by omega⟩
theorem xJ {N:Nat} (hN:1099000000000≤N) (x:av) (w:AL x) (left:Int) (h0:0≤left) (h1:left≤1048576):∃ v,oX N x left=some v∧Szd v left (lV x):=by
 obtain ⟨w0,w1⟩:=w
 unfold oX
 unfold lV
 have:=aw fS x.Fields (fun y _=>jA y)
 have hl0:=w0; unfold WfS maxLen at hl0
 have e0:IntKind.i64.wrap (left - (x.Kind.size:Int))=left - (x.Kind.size:Int):=wr (by omega) (by omega)
 simp only [e0]
 by_cases c0:(left - (x.Kind.size:Int)) < 0
 ·rw [if_pos (by simpa using c0)]; exact ⟨-1,rfl,.inl (by omega)⟩
 rw [if_neg (by simpa using c0)]
 obtain ⟨v1,hv1,hs1⟩:=xI hN x.Fields w1 (left - (x.Kind.size:Int)) (by omega) (by omega)
 rw [hv1]; simp only [Option.bind_some]
 by_cases c1:v1 < 0
 ·rw [if_pos (by simpa using c1)]; exact ⟨-1,rfl,.inl (by omega)⟩
 rw [if_neg (by simpa using c1)]
 replace hs1:=hs1.resolve_left c1
 exact ⟨_,rfl,.inr ⟨by omega,by omega⟩⟩
theorem zf {N:Nat} (hN:1099000000000≤N) (x:an) (w:vo x) (left:Int) (h0:0≤left) (h1:left≤1048576):∃ v,kX N x left=some v∧Szd v left (eU x):=by
 obtain ⟨w0,w1⟩:=w
 unfold kX
 unfold eU
 have:=rT x.F
 obtain ⟨v1,hv1,hs1⟩:=xJ hN x.F w1 left (by omega) (by omega)
 rw [hv1]; simp only [Option.bind_some]
 by_cases c1:v1 < 0
 ·rw [if_pos (by simpa using c1)]; exact ⟨-1,rfl,.inl (by omega)⟩
 rw [if_neg (by simpa using c1)]
 replace hs1:=hs1.resolve_left c1
 exact ⟨_,rfl,.inr ⟨by omega,by omega⟩⟩
theorem wY {N:Nat} (hN:1099000000000≤N) (x:(List an)) (w:(WfL vo) x) (left:Int) (h0:0≤left) (h1:left≤1048576):∃ v,mz N x left=some v∧Szd v left ((x.length:Int)+(x.map eU).sum):=by
 have hl:=w.1; unfold maxLen at hl
 have e1:IntKind.i64.wrap (left - (x.length:Int))=left - (x.length:Int):=wr (by omega) (by omega)
 unfold mz
 simp only [e1]
 by_cases c:left - (x.length:Int) < 0
 ·rw [if_pos (by simpa using c)]; exact ⟨-1,rfl,.inl (by omega)⟩
 ·rw [if_neg (by simpa using c)]
  obtain ⟨v,hv,hs⟩:=mK (fV N x) x (by omega) eU (fun y _=>mC y) (fun y l=>kX N y l) (fun y hy l g0 g1=>zf hN y (w.2 y hy) l g0 g1) (fun k l i=>rfl) N 0 (left - (x.length:Int)) (by omega) (by omega) (by omega) (by omega)
  refine ⟨v,hv,?_⟩
  rw [List.drop_zero] at hs
  rcases hs with hs | ⟨hs0,hs⟩
  ·exact .inl hs
  ·exact .inr ⟨hs0,by omega⟩
theorem xw {N:Nat} (hN:1099000000000≤N) (x:ae) (w:tI x) (left:Int) (h0:0≤left) (h1:left≤1048576):∃ v,lX N x left=some v∧Szd v left (gX x):=by
 obtain ⟨w0,w1⟩:=w
 unfold lX
 unfold gX
 have:=aw eU x.Items (fun y _=>mC y)
 obtain ⟨v0,hv0,hs0⟩:=wY hN x.Items w0 left (by omega) (by omega)
 rw [hv0]; simp only [Option.bind_some]
 by_cases c0:v0 < 0
 ·rw [if_pos (by simpa using c0)]; exact ⟨-1,rfl,.inl (by omega)⟩
 rw [if_neg (by simpa using c0)]
 replace hs0:=hs0.resolve_left c0
 exact ⟨_,rfl,.inr ⟨by omega,by omega⟩⟩
def qO (x:ao):Prop:=(x.Args.length≤4294967296)
theorem Dp (x:ao) (h:fd x≤1048576):qO x:=by
 unfold fd at h
 have nn_Args:∀ y∈x.Args,0≤eG y:=fun y _=>cC y
 have:=aw _ _ nn_Args
 unfold qO; omega
def qD (x:bX):Prop:=(x.Args.length≤4294967296)
theorem CO (x:bX) (h:fc x≤1048576):qD x:=by
 unfold fc at h
 have nn_Args:∀ y∈x.Args,0≤fH y:=fun y _=>jP y
 have:=aw _ _ nn_Args
 unfold qD; omega
def qg (x:ac):Prop:=(x.Pats.length≤4294967296∧∀ y∈x.Pats,qO y)∧(x.Conds.length≤4294967296)∧(x.Acts.length≤4294967296∧∀ y∈x.Acts,qD y)
theorem CK (x:ac) (h:f7 x≤1048576):qg x:=by
 unfold f7 at h
 have nn_Pats:∀ y∈x.Pats,0≤fd y:=fun y _=>oG y
 have:=aw _ _ nn_Pats
 have nn_Conds:∀ y∈x.Conds,0≤fX y:=fun y _=>mj y
 have:=aw _ _ nn_Conds
 have nn_Acts:∀ y∈x.Acts,0≤fc y:=fun y _=>ou y
 have:=aw _ _ nn_Acts
 exact ⟨⟨by omega,fun y hy=>Dp y (by have:=fB _ _ nn_Pats y hy; omega)⟩,by omega,⟨by omega,fun y hy=>CO y (by have:=fB _ _ nn_Acts y hy; omega)⟩⟩
def vp (x:bh):Prop:=(x.Rules.length≤4294967296∧∀ y∈x.Rules,qg y)
theorem Du (x:bh) (h:lJ x≤1048576):vp x:=by
 unfold lJ at h
 have nn_Rules:∀ y∈x.Rules,0≤f7 y:=fun y _=>mm y
 have:=aw _ _ nn_Rules
 exact ⟨by omega,fun y hy=>CK y (by have:=fB _ _ nn_Rules y hy; omega)⟩
theorem tN {N:Nat} (hN:1099000000000≤N) (x:aP):lj N x=some x:=by
 unfold lj
 rfl
theorem ko {N:Nat} (hN:1099000000000≤N) (x:bk):io N x=some x:=by
 unfold io
 rw [tN hN _,Option.bind_some]
theorem zy {N:Nat} (hN:1099000000000≤N) (x:(List bk)) (h:(x.length≤4294967296)):nL N x=some x:=by
 have hl:x.length≤4294967296:=h
 unfold nL
 rw [j0 _ (by omega),Option.bind_some]
 refine (l8 (jg N x) x (by omega) (fun y=>io N y) (fun y hy=>ko hN y) (fun k s i=>rfl) N 0 _ (by simp) (by omega) (by omega)).trans ?_
 simp
theorem AH {N:Nat} (hN:1099000000000≤N) (x:ao) (h:qO x):np N x=some x:=by
 unfold np
 rw [zy hN _ (h),Option.bind_some]
theorem zc {N:Nat} (hN:1099000000000≤N) (x:(List ao)) (h:(x.length≤4294967296∧∀ y∈x,qO y)):nU N x=some x:=by
 have hl:x.length≤4294967296:=h.1
 unfold nU
 rw [j0 _ (by omega),Option.bind_some]
 refine (l8 (jf N x) x (by omega) (fun y=>np N y) (fun y hy=>AH hN y (h.2 y hy)) (fun k s i=>rfl) N 0 _ (by simp) (by omega) (by omega)).trans ?_
 simp
theorem zb {N:Nat} (hN:1099000000000≤N) (x:bz):kZ N x=some x:=by
 unfold kZ
 rw [ko hN _,Option.bind_some,ko hN _,Option.bind_some]
theorem xB {N:Nat} (hN:1099000000000≤N) (x:(List bz)) (h:(x.length≤4294967296)):lU N x=some x:=by
 have hl:x.length≤4294967296:=h
 unfold lU
 rw [j0 _ (by omega),Option.bind_some]
 refine (l8 (iE N x) x (by omega) (fun y=>kZ N y) (fun y hy=>zb hN y) (fun k s i=>rfl) N 0 _ (by simp) (by omega) (by omega)).trans ?_
 simp
theorem yx {N:Nat} (hN:1099000000000≤N) (x:br):lH N x=some x:=by
 unfold lH
 rw [ko hN _,Option.bind_some,ko hN _,Option.bind_some]
theorem xq {N:Nat} (hN:1099000000000≤N) (x:(List br)) (h:(x.length≤4294967296)):mt N x=some x:=by
 have hl:x.length≤4294967296:=h
 unfold mt
 rw [j0 _ (by omega),Option.bind_some]
 refine (l8 (iJ N x) x (by omega) (fun y=>lH N y) (fun y hy=>yx hN y) (fun k s i=>rfl) N 0 _ (by simp) (by omega) (by omega)).trans ?_
 simp
theorem Aw {N:Nat} (hN:1099000000000≤N) (x:bX) (h:qD x):ni N x=some x:=by
 unfold ni
 rw [xq hN _ (h),Option.bind_some]
theorem yV {N:Nat} (hN:1099000000000≤N) (x:(List bX)) (h:(x.length≤4294967296∧∀ y∈x,qD y)):oE N x=some x:=by
 have hl:x.length≤4294967296:=h.1
 unfold oE
 rw [j0 _ (by omega),Option.bind_some]
 refine (l8 (jk N x) x (by omega) (fun y=>ni N y) (fun y hy=>Aw hN y (h.2 y hy)) (fun k s i=>rfl) N 0 _ (by simp) (by omega) (by omega)).trans ?_
 simp
theorem yQ {N:Nat} (hN:1099000000000≤N) (x:ac) (h:qg x):l7 N x=some x:=by
 unfold l7
 rw [zc hN _ (h.1),Option.bind_some,xB hN _ (h.2.1),Option.bind_some,yV hN _ (h.2.2),Option.bind_some]
theorem wd {N:Nat} (hN:1099000000000≤N) (x:(List ac)) (h:(x.length≤4294967296∧∀ y∈x,qg y)):lY N x=some x:=by
 have hl:x.length≤4294967296:=h.1
 unfold lY
 rw [j0 _ (by omega),Option.bind_some]
 refine (l8 (iG N x) x (by omega) (fun y=>l7 N y) (fun y hy=>yQ hN y (h.2 y hy)) (fun k s i=>rfl) N 0 _ (by simp) (by omega) (by omega)).trans ?_
 simp
theorem Am {N:Nat} (hN:1099000000000≤N) (x:bh) (h:vp x):lE N x=some x:=by
 unfold lE
 rw [wd hN _ (h),Option.bind_some]
def pg (x:aQ):Prop:=(x.L.length≤4294967296)
theorem CU (x:aQ) (h:iB x≤1048576):pg x:=by
 unfold iB at h
 unfold pg; omega
def sc (x:aa):Prop:=(x.Ids.length≤4294967296)∧(x.Hits.length≤4294967296)
theorem CY (x:aa) (h:iz x≤1048576):sc x:=by
 unfold iz at h
 exact ⟨by omega,by omega⟩
def nH (x:ab):Prop:=(x.Toks.length≤4294967296∧∀ y∈x.Toks,sc y)
theorem BI (x:ab) (h:dj x≤1048576):nH x:=by
 unfold dj at h
 have nn_Toks:∀ y∈x.Toks,0≤iz y:=fun y _=>qC y
 have:=aw _ _ nn_Toks
 exact ⟨by omega,fun y hy=>CY y (by have:=fB _ _ nn_Toks y hy; omega)⟩
def rb (x:aF):Prop:=(x.Levels.length≤4294967296∧∀ y∈x.Levels,nH y)
theorem Dy (x:aF) (h:gN x≤1048576):rb x:=by
 unfold gN at h
 have nn_Levels:∀ y∈x.Levels,0≤dj y:=fun y _=>n8 y
 have:=aw _ _ nn_Levels
 exact ⟨by omega,fun y hy=>BI y (by have:=fB _ _ nn_Levels y hy; omega)⟩
def rZ (x:aJ):Prop:=(x.Alphas.length≤4294967296∧∀ y∈x.Alphas,pg y)∧(x.Rules.length≤4294967296∧∀ y∈x.Rules,rb y)
theorem xo (x:aJ) (h:lK x≤1048576):rZ x:=by
 unfold lK at h
 have nn_Alphas:∀ y∈x.Alphas,0≤iB y:=fun y _=>qJ y
 have:=aw _ _ nn_Alphas
 have nn_Rules:∀ y∈x.Rules,0≤gN y:=fun y _=>qA y
 have:=aw _ _ nn_Rules
 exact ⟨⟨by omega,fun y hy=>CU y (by have:=fB _ _ nn_Alphas y hy; omega)⟩,⟨by omega,fun y hy=>Dy y (by have:=fB _ _ nn_Rules y hy; omega)⟩⟩
theorem pP {N:Nat} (hN:1099000000000≤N) (x:(List Int)) (h:(x.length≤4294967296)):jx N x=some x:=by
 have hl:x.length≤4294967296:=h
 unfold jx
 rw [j0 _ (by omega),Option.bind_some]
 refine (l8 (j8 N x) x (by omega) (fun y=>some y) (fun y _=>rfl) (fun k s i=>rfl) N 0 _ (by simp) (by omega) (by omega)).trans ?_
 simp
theorem BP {N:Nat} (hN:1099000000000≤N) (x:aQ) (h:pg x):nB N x=some x:=by
 unfold nB
 rw [pP hN _ (h),Option.bind_some]
theorem zj {N:Nat} (hN:1099000000000≤N) (x:(List aQ)) (h:(x.length≤4294967296∧∀ y∈x,pg y)):o4 N x=some x:=by
 have hl:x.length≤4294967296:=h.1
 unfold o4
 rw [j0 _ (by omega),Option.bind_some]
 refine (l8 (j9 N x) x (by omega) (fun y=>nB N y) (fun y hy=>BP hN y (h.2 y hy)) (fun k s i=>rfl) N 0 _ (by simp) (by omega) (by omega)).trans ?_
 simp
theorem AY {N:Nat} (hN:1099000000000≤N) (x:aa) (h:sc x):nA N x=some x:=by
 unfold nA
 rw [pP hN _ (h.1),Option.bind_some,pP hN _ (h.2),Option.bind_some]
theorem yN {N:Nat} (hN:1099000000000≤N) (x:(List aa)) (h:(x.length≤4294967296∧∀ y∈x,sc y)):nT N x=some x:=by
 have hl:x.length≤4294967296:=h.1
 unfold nT
 rw [j0 _ (by omega),Option.bind_some]
 refine (l8 (j7 N x) x (by omega) (fun y=>nA N y) (fun y hy=>AY hN y (h.2 y hy)) (fun k s i=>rfl) N 0 _ (by simp) (by omega) (by omega)).trans ?_
 simp
theorem xA {N:Nat} (hN:1099000000000≤N) (x:ab) (h:nH x):jS N x=some x:=by
 unfold jS
 rw [yN hN _ (h),Option.bind_some]
theorem uX {N:Nat} (hN:1099000000000≤N) (x:(List ab)) (h:(x.length≤4294967296∧∀ y∈x,nH y)):kM N x=some x:=by
 have hl:x.length≤4294967296:=h.1
 unfold kM
 rw [j0 _ (by omega),Option.bind_some]
 refine (l8 (gR N x) x (by omega) (fun y=>jS N y) (fun y hy=>xA hN y (h.2 y hy)) (fun k s i=>rfl) N 0 _ (by simp) (by omega) (by omega)).trans ?_
 simp
theorem Ar {N:Nat} (hN:1099000000000≤N) (x:aF) (h:rb x):nw N x=some x:=by
 unfold nw
 rw [uX hN _ (h),Option.bind_some]
theorem y7 {N:Nat} (hN:1099000000000≤N) (x:(List aF)) (h:(x.length≤4294967296∧∀ y∈x,rb y)):oO N x=some x:=by
 have hl:x.length≤4294967296:=h.1
 unfold oO
 rw [j0 _ (by omega),Option.bind_some]
 refine (l8 (jm N x) x (by omega) (fun y=>nw N y) (fun y hy=>Ar hN y (h.2 y hy)) (fun k s i=>rfl) N 0 _ (by simp) (by omega) (by omega)).trans ?_
 simp
theorem An {N:Nat} (hN:1099000000000≤N) (x:aJ) (h:rZ x):lx N x=some x:=by
 unfold lx
 rw [zj hN _ (h.1),Option.bind_some,y7 hN _ (h.2),Option.bind_some]
def rE (x:av):Prop:=(x.Fields.length≤4294967296)
theorem Cg (x:av) (h:lV x≤1048576):rE x:=by
 unfold lV at h
 have nn_Fields:∀ y∈x.Fields,0≤fS y:=fun y _=>jA y
 have:=aw _ _ nn_Fields
 unfold rE; omega
def qx (x:an):Prop:=rE x.F
theorem CF (x:an) (h:eU x≤1048576):qx x:=by
 unfold eU at h
 have:=rT x.F
 exact Cg _ (by omega)
def sw (x:ae):Prop:=(x.Items.length≤4294967296∧∀ y∈x.Items,qx y)
theorem BA (x:ae) (h:gX x≤1048576):sw x:=by
 unfold gX at h
 have nn_Items:∀ y∈x.Items,0≤eU y:=fun y _=>mC y
 have:=aw _ _ nn_Items
 exact ⟨by omega,fun y hy=>CF y (by have:=fB _ _ nn_Items y hy; omega)⟩
theorem yB {N:Nat} (hN:1099000000000≤N) (x:(List aP)) (h:(x.length≤4294967296)):nS N x=some x:=by
 have hl:x.length≤4294967296:=h
 unfold nS
 rw [j0 _ (by omega),Option.bind_some]
 refine (l8 (jc N x) x (by omega) (fun y=>lj N y) (fun y hy=>tN hN y) (fun k s i=>rfl) N 0 _ (by simp) (by omega) (by omega)).trans ?_
 simp
theorem zt {N:Nat} (hN:1099000000000≤N) (x:av) (h:rE x):oe N x=some x:=by
 unfold oe
 rw [yB hN _ (h),Option.bind_some]
theorem xO {N:Nat} (hN:1099000000000≤N) (x:an) (h:qx x):lA N x=some x:=by
 unfold lA
 rw [zt hN _ (h),Option.bind_some]
theorem xx {N:Nat} (hN:1099000000000≤N) (x:(List an)) (h:(x.length≤4294967296∧∀ y∈x,qx y)):mi N x=some x:=by
 have hl:x.length≤4294967296:=h.1
 unfold mi
 rw [j0 _ (by omega),Option.bind_some]
 refine (l8 (iH N x) x (by omega) (fun y=>lA N y) (fun y hy=>xO hN y (h.2 y hy)) (fun k s i=>rfl) N 0 _ (by simp) (by omega) (by omega)).trans ?_
 simp
theorem xf {N:Nat} (hN:1099000000000≤N) (x:ae) (h:sw x):iR N x=some x:=by
 unfold iR
 rw [xx hN _ (h),Option.bind_some]
theorem tG {N:Nat} (hN:1099000000000≤N) (x y:aP):kT N x y=some (decide (x=y)):=by
 unfold kT
 simp only [dB,Option.bind_some]
 obtain ⟨a0,a1,a2⟩:=x; obtain ⟨b0,b1,b2⟩:=y
 simp only [aP.mk.injEq]
 by_cases c0:a0=b0
 ·subst c0
  by_cases c1:a1=b1
  ·subst c1
   by_cases c2:a2=b2
   ·subst c2
    simp
   ·simp [c2]
  ·simp [c1]
 ·simp [c0]
theorem ke {N:Nat} (hN:1099000000000≤N) (x y:bk):i8 N x y=some (decide (x=y)):=by
 unfold i8
 rw [tG hN _ _]
 simp only [dB,Option.bind_some]
 obtain ⟨a0,a1,a2⟩:=x; obtain ⟨b0,b1,b2⟩:=y
 simp only [bk.mk.injEq]
 by_cases c0:a0=b0
 ·subst c0
  by_cases c1:a1=b1
  ·subst c1
   by_cases c2:a2=b2
   ·subst c2
    simp
   ·simp [c2]
  ·simp [c1]
 ·simp [c0]
theorem yS {N:Nat} (hN:1099000000000≤N) (x y:(List bk)) (h:(x.length≤4294967296)):oh N x y=some (decide (x=y)):=by
 have hl:x.length≤4294967296:=h
 unfold oh
 by_cases c:x.length=y.length
 ·rw [if_neg (by simp; omega)]
  refine (it (gW N x y) x y c (by omega) (fun a b=>i8 N a b) (fun a ha b hb=>ke hN a b) (fun k i=>rfl) N 0 (by omega) (by omega)).trans ?_
  simp
 ·rw [if_pos (by simp; omega)]
  have : ¬ x=y:=fun e=>c (by rw [e])
  simp [this]
theorem Br {N:Nat} (hN:1099000000000≤N) (x y:ao) (h:qO x):nC N x y=some (decide (x=y)):=by
 unfold nC
 rw [yS hN _ _ (h)]
 simp only [dB,Option.bind_some]
 obtain ⟨a0,a1,a2⟩:=x; obtain ⟨b0,b1,b2⟩:=y
 simp only [ao.mk.injEq]
 by_cases c0:a0=b0
 ·subst c0
  by_cases c1:a1=b1
  ·subst c1
   by_cases c2:a2=b2
   ·subst c2
    simp
   ·simp [c2]
  ·simp [c1]
 ·simp [c0]
theorem xY {N:Nat} (hN:1099000000000≤N) (x y:(List ao)) (h:(x.length≤4294967296∧∀ y∈x,qO y)):nQ N x y=some (decide (x=y)):=by
 have hl:x.length≤4294967296:=h.1
 unfold nQ
 by_cases c:x.length=y.length
 ·rw [if_neg (by simp; omega)]
  refine (it (ij N x y) x y c (by omega) (fun a b=>nC N a b) (fun a ha b hb=>Br hN a b (h.2 a ha)) (fun k i=>rfl) N 0 (by omega) (by omega)).trans ?_
  simp
 ·rw [if_pos (by simp; omega)]
  have : ¬ x=y:=fun e=>c (by rw [e])
  simp [this]
theorem ye {N:Nat} (hN:1099000000000≤N) (x y:bz):lD N x y=some (decide (x=y)):=by
 unfold lD
 rw [ke hN _ _,ke hN _ _]
 simp only [dB,Option.bind_some]
 obtain ⟨a0,a1,a2⟩:=x; obtain ⟨b0,b1,b2⟩:=y
 simp only [bz.mk.injEq]
 by_cases c0:a0=b0
 ·subst c0
  by_cases c1:a1=b1
  ·subst c1
   by_cases c2:a2=b2
   ·subst c2
    simp
   ·simp [c2]
  ·simp [c1]
 ·simp [c0]
theorem vF {N:Nat} (hN:1099000000000≤N) (x y:(List bz)) (h:(x.length≤4294967296)):lP N x y=some (decide (x=y)):=by
 have hl:x.length≤4294967296:=h
 unfold lP
 by_cases c:x.length=y.length
 ·rw [if_neg (by simp; omega)]
  refine (it (ga N x y) x y c (by omega) (fun a b=>lD N a b) (fun a ha b hb=>ye hN a b) (fun k i=>rfl) N 0 (by omega) (by omega)).trans ?_
  simp
 ·rw [if_pos (by simp; omega)]
  have : ¬ x=y:=fun e=>c (by rw [e])
  simp [this]
theorem yP {N:Nat} (hN:1099000000000≤N) (x y:br):kW N x y=some (decide (x=y)):=by
 unfold kW
 rw [ke hN _ _,ke hN _ _]
 simp only [dB,Option.bind_some]
 obtain ⟨a0,a1,a2⟩:=x; obtain ⟨b0,b1,b2⟩:=y
 simp only [br.mk.injEq]
 by_cases c0:a0=b0
 ·subst c0
  by_cases c1:a1=b1
  ·subst c1
   by_cases c2:a2=b2
   ·subst c2
    simp
   ·simp [c2]
  ·simp [c1]
 ·simp [c0]
theorem wH {N:Nat} (hN:1099000000000≤N) (x y:(List br)) (h:(x.length≤4294967296)):lW N x y=some (decide (x=y)):=by
 have hl:x.length≤4294967296:=h
 unfold lW
 by_cases c:x.length=y.length
 ·rw [if_neg (by simp; omega)]
  refine (it (fU N x y) x y c (by omega) (fun a b=>kW N a b) (fun a ha b hb=>yP hN a b) (fun k i=>rfl) N 0 (by omega) (by omega)).trans ?_
  simp
 ·rw [if_pos (by simp; omega)]
  have : ¬ x=y:=fun e=>c (by rw [e])
  simp [this]
theorem B2 {N:Nat} (hN:1099000000000≤N) (x y:bX) (h:qD x):nF N x y=some (decide (x=y)):=by
 unfold nF
 rw [wH hN _ _ (h)]
 simp only [dB,Option.bind_some]
 obtain ⟨a0,a1,a2,a3,a4⟩:=x; obtain ⟨b0,b1,b2,b3,b4⟩:=y
 simp only [bX.mk.injEq]
 by_cases c0:a0=b0
 ·subst c0
  by_cases c1:a1=b1
  ·subst c1
   by_cases c2:a2=b2
   ·subst c2
    by_cases c3:a3=b3
    ·subst c3
     by_cases c4:a4=b4
     ·subst c4
      simp
     ·simp [c4]
    ·simp [c3]
   ·simp [c2]
  ·simp [c1]
 ·simp [c0]
theorem xQ {N:Nat} (hN:1099000000000≤N) (x y:(List bX)) (h:(x.length≤4294967296∧∀ y∈x,qD y)):nV N x y=some (decide (x=y)):=by
 have hl:x.length≤4294967296:=h.1
 unfold nV
 by_cases c:x.length=y.length
 ·rw [if_neg (by simp; omega)]
  refine (it (ip N x y) x y c (by omega) (fun a b=>nF N a b) (fun a ha b hb=>B2 hN a b (h.2 a ha)) (fun k i=>rfl) N 0 (by omega) (by omega)).trans ?_
  simp
 ·rw [if_pos (by simp; omega)]
  have : ¬ x=y:=fun e=>c (by rw [e])
  simp [this]
theorem xZ {N:Nat} (hN:1099000000000≤N) (x y:ac) (h:qg x):kV N x y=some (decide (x=y)):=by
 unfold kV
 rw [xY hN _ _ (h.1),vF hN _ _ (h.2.1),xQ hN _ _ (h.2.2)]
 simp only [dB,Option.bind_some]
 obtain ⟨a0,a1,a2,a3,a4⟩:=x; obtain ⟨b0,b1,b2,b3,b4⟩:=y
 simp only [ac.mk.injEq]
 by_cases c0:a0=b0
 ·subst c0
  by_cases c1:a1=b1
  ·subst c1
   by_cases c2:a2=b2
   ·subst c2
    by_cases c3:a3=b3
    ·subst c3
     by_cases c4:a4=b4
     ·subst c4
      simp
     ·simp [c4]
    ·simp [c3]
   ·simp [c2]
  ·simp [c1]
 ·simp [c0]
theorem xC {N:Nat} (hN:1099000000000≤N) (x y:(List ac)) (h:(x.length≤4294967296∧∀ y∈x,qg y)):mv N x y=some (decide (x=y)):=by
 have hl:x.length≤4294967296:=h.1
 unfold mv
 by_cases c:x.length=y.length
 ·rw [if_neg (by simp; omega)]
  refine (it (gf N x y) x y c (by omega) (fun a b=>kV N a b) (fun a ha b hb=>xZ hN a b (h.2 a ha)) (fun k i=>rfl) N 0 (by omega) (by omega)).trans ?_
  simp
 ·rw [if_pos (by simp; omega)]
  have : ¬ x=y:=fun e=>c (by rw [e])
  simp [this]
theorem BN {N:Nat} (hN:1099000000000≤N) (x y:bh) (h:vp x):qb N x y=some (decide (x=y)):=by
 unfold qb
 rw [xC hN _ _ (h)]
 simp only [dB,Option.bind_some]
 obtain ⟨a0,a1⟩:=x; obtain ⟨b0,b1⟩:=y
 simp only [bh.mk.injEq]
 by_cases c0:a0=b0
 ·subst c0
  by_cases c1:a1=b1
  ·subst c1
   simp
  ·simp [c1]
 ·simp [c0]
theorem pN {N:Nat} (hN:1099000000000≤N) (x y:(List Int)) (h:(x.length≤4294967296)):jC N x y=some (decide (x=y)):=by
 have hl:x.length≤4294967296:=h
 unfold jC
 by_cases c:x.length=y.length
 ·rw [if_neg (by simp; omega)]
  refine (it (gT N x y) x y c (by omega) (fun a b=>some (decide (a=b))) (fun a _ b _=>rfl) (fun k i=>rfl) N 0 (by omega) (by omega)).trans ?_
  simp
 ·rw [if_pos (by simp; omega)]
  have : ¬ x=y:=fun e=>c (by rw [e])
  simp [this]
theorem B6 {N:Nat} (hN:1099000000000≤N) (x y:aQ) (h:pg x):nG N x y=some (decide (x=y)):=by
 unfold nG
 rw [pN hN _ _ (h)]
 simp only [dB,Option.bind_some]
 obtain ⟨a0⟩:=x; obtain ⟨b0⟩:=y
 simp only [aQ.mk.injEq]
 by_cases c0:a0=b0
 ·subst c0
  simp
 ·simp [c0]
theorem zq {N:Nat} (hN:1099000000000≤N) (x y:(List aQ)) (h:(x.length≤4294967296∧∀ y∈x,pg y)):ox N x y=some (decide (x=y)):=by
 have hl:x.length≤4294967296:=h.1
 unfold ox
 by_cases c:x.length=y.length
 ·rw [if_neg (by simp; omega)]
  refine (it (hY N x y) x y c (by omega) (fun a b=>nG N a b) (fun a ha b hb=>B6 hN a b (h.2 a ha)) (fun k i=>rfl) N 0 (by omega) (by omega)).trans ?_
  simp
 ·rw [if_pos (by simp; omega)]
  have : ¬ x=y:=fun e=>c (by rw [e])
  simp [this]
theorem Ay {N:Nat} (hN:1099000000000≤N) (x y:aa) (h:sc x):nv N x y=some (decide (x=y)):=by
 unfold nv
 rw [pN hN _ _ (h.1),pN hN _ _ (h.2)]
 simp only [dB,Option.bind_some]
 obtain ⟨a0,a1⟩:=x; obtain ⟨b0,b1⟩:=y
 simp only [aa.mk.injEq]
 by_cases c0:a0=b0
 ·subst c0
  by_cases c1:a1=b1
  ·subst c1
   simp
  ·simp [c1]
 ·simp [c0]
theorem yW {N:Nat} (hN:1099000000000≤N) (x y:(List aa)) (h:(x.length≤4294967296∧∀ y∈x,sc y)):oU N x y=some (decide (x=y)):=by
 have hl:x.length≤4294967296:=h.1
 unfold oU
 by_cases c:x.length=y.length
 ·rw [if_neg (by simp; omega)]
  refine (it (ie N x y) x y c (by omega) (fun a b=>nv N a b) (fun a ha b hb=>Ay hN a b (h.2 a ha)) (fun k i=>rfl) N 0 (by omega) (by omega)).trans ?_
  simp
 ·rw [if_pos (by simp; omega)]
  have : ¬ x=y:=fun e=>c (by rw [e])
  simp [this]
theorem vS {N:Nat} (hN:1099000000000≤N) (x y:ab) (h:nH x):jH N x y=some (decide (x=y)):=by
 unfold jH
 rw [yW hN _ _ (h)]
 simp only [dB,Option.bind_some]
 obtain ⟨a0⟩:=x; obtain ⟨b0⟩:=y
 simp only [ab.mk.injEq]
 by_cases c0:a0=b0
 ·subst c0
  simp
 ·simp [c0]
theorem uR {N:Nat} (hN:1099000000000≤N) (x y:(List ab)) (h:(x.length≤4294967296∧∀ y∈x,nH y)):kl N x y=some (decide (x=y)):=by
 have hl:x.length≤4294967296:=h.1
 unfold kl
 by_cases c:x.length=y.length
 ·rw [if_neg (by simp; omega)]
  refine (it (fu N x y) x y c (by omega) (fun a b=>jH N a b) (fun a ha b hb=>vS hN a b (h.2 a ha)) (fun k i=>rfl) N 0 (by omega) (by omega)).trans ?_
  simp
 ·rw [if_pos (by simp; omega)]
  have : ¬ x=y:=fun e=>c (by rw [e])
  simp [this]
theorem BO {N:Nat} (hN:1099000000000≤N) (x y:aF) (h:rb x):nD N x y=some (decide (x=y)):=by
 unfold nD
 rw [uR hN _ _ (h)]
 simp only [dB,Option.bind_some]
 obtain ⟨a0⟩:=x; obtain ⟨b0⟩:=y
 simp only [aF.mk.injEq]
 by_cases c0:a0=b0
 ·subst c0
  simp
 ·simp [c0]
theorem yw {N:Nat} (hN:1099000000000≤N) (x y:(List aF)) (h:(x.length≤4294967296∧∀ y∈x,rb y)):oH N x y=some (decide (x=y)):=by
 have hl:x.length≤4294967296:=h.1
 unfold oH
 by_cases c:x.length=y.length
 ·rw [if_neg (by simp; omega)]
  refine (it (i9 N x y) x y c (by omega) (fun a b=>nD N a b) (fun a ha b hb=>BO hN a b (h.2 a ha)) (fun k i=>rfl) N 0 (by omega) (by omega)).trans ?_
  simp
 ·rw [if_pos (by simp; omega)]
  have : ¬ x=y:=fun e=>c (by rw [e])
  simp [this]
theorem Bx {N:Nat} (hN:1099000000000≤N) (x y:aJ) (h:rZ x):qa N x y=some (decide (x=y)):=by
 unfold qa
 rw [zq hN _ _ (h.1),yw hN _ _ (h.2)]
 simp only [dB,Option.bind_some]
 obtain ⟨a0,a1⟩:=x; obtain ⟨b0,b1⟩:=y
 simp only [aJ.mk.injEq]
 by_cases c0:a0=b0
 ·subst c0
  by_cases c1:a1=b1
  ·subst c1
   simp
  ·simp [c1]
 ·simp [c0]
theorem zi {N:Nat} (hN:1099000000000≤N) (x y:(List aP)) (h:(x.length≤4294967296)):nK N x y=some (decide (x=y)):=by
 have hl:x.length≤4294967296:=h
 unfold nK
 by_cases c:x.length=y.length
 ·rw [if_neg (by simp; omega)]
  refine (it (hP N x y) x y c (by omega) (fun a b=>kT N a b) (fun a ha b hb=>tG hN a b) (fun k i=>rfl) N 0 (by omega) (by omega)).trans ?_
  simp
 ·rw [if_pos (by simp; omega)]
  have : ¬ x=y:=fun e=>c (by rw [e])
  simp [this]
theorem xV {N:Nat} (hN:1099000000000≤N) (x y:av) (h:rE x):oN N x y=some (decide (x=y)):=by
 unfold oN
 rw [zi hN _ _ (h)]
 simp only [dB,Option.bind_some]
 obtain ⟨a0,a1⟩:=x; obtain ⟨b0,b1⟩:=y
 simp only [av.mk.injEq]
 by_cases c0:a0=b0
 ·subst c0
  by_cases c1:a1=b1
  ·subst c1
   simp
  ·simp [c1]
 ·simp [c0]
theorem xH {N:Nat} (hN:1099000000000≤N) (x y:an) (h:qx x):lm N x y=some (decide (x=y)):=by
 unfold lm
 rw [xV hN _ _ (h)]
 simp only [dB,Option.bind_some]
 obtain ⟨a0,a1⟩:=x; obtain ⟨b0,b1⟩:=y
 simp only [an.mk.injEq]
 by_cases c0:a0=b0
 ·subst c0
  by_cases c1:a1=b1
  ·subst c1
   simp
  ·simp [c1]
 ·simp [c0]
theorem wL {N:Nat} (hN:1099000000000≤N) (x y:(List an)) (h:(x.length≤4294967296∧∀ y∈x,qx y)):m8 N x y=some (decide (x=y)):=by
 have hl:x.length≤4294967296:=h.1
 unfold m8
 by_cases c:x.length=y.length
 ·rw [if_neg (by simp; omega)]
  refine (it (gn N x y) x y c (by omega) (fun a b=>lm N a b) (fun a ha b hb=>xH hN a b (h.2 a ha)) (fun k i=>rfl) N 0 (by omega) (by omega)).trans ?_
  simp
 ·rw [if_pos (by simp; omega)]
  have : ¬ x=y:=fun e=>c (by rw [e])
  simp [this]
theorem wn {N:Nat} (hN:1099000000000≤N) (x y:ae) (h:sw x):lT N x y=some (decide (x=y)):=by
 unfold lT
 rw [wL hN _ _ (h)]
 simp only [dB,Option.bind_some]
 obtain ⟨a0,a1⟩:=x; obtain ⟨b0,b1⟩:=y
 simp only [ae.mk.injEq]
 by_cases c0:a0=b0
 ·subst c0
  by_cases c1:a1=b1
  ·subst c1
   simp
  ·simp [c1]
 ·simp [c0]
end Go.Proofs.YtiljnppocjgkkaaGreat
