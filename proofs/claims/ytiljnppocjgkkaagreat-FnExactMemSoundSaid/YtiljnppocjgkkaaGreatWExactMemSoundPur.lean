/- Printed by a program of ours: the plain laws of the sizes, copies, comparisons and marks. -/
import Derived.Test.YtiljnppocjgkkaaGreatPLib
import Derived.Test.YtiljnppocjgkkaaGreatWExactMemSoundMod
namespace Go.Proofs.YtiljnppocjgkkaaGreat
open Eng
set_option linter.unusedVariables false
set_option linter.unusedSimpArgs false
set_option maxRecDepth 10000
def xu (x:aQ):Prop:=(WfI .i64) x.K∧(WfI .i64) x.N∧WfS x.S
def fV (x:aQ):Int:=((x.S.size:Int))
theorem jA (x:aQ):0≤fV x:=by
 unfold fV
 omega
def rG (x:bk):Prop:=(WfI .i64) x.K∧WfS x.S∧xu x.V
def eI (x:bk):Int:=((x.S.size:Int))+(fV x.V)
theorem cF (x:bk):0≤eI x:=by
 unfold eI
 have:=jA x.V
 omega
def BQ (x:aq):Prop:=WfS x.Kind∧(WfL rG) x.Args∧WfB x.Not
def ff (x:aq):Int:=((x.Kind.size:Int))+((x.Args.length:Int)+(x.Args.map eI).sum)
theorem ov (x:aq):0≤ff x:=by
 unfold ff
 have:=ax eI x.Args (fun y _=>cF y)
 omega
def vo (x:bA):Prop:=(WfI .i64) x.Op∧rG x.L∧rG x.R
def fX (x:bA):Int:=(eI x.L)+(eI x.R)
theorem m8 (x:bA):0≤fX x:=by
 unfold fX
 have:=cF x.L
 have:=cF x.R
 omega
def vk (x:bv):Prop:=WfS x.Op∧rG x.L∧rG x.R
def fE (x:bv):Int:=((x.Op.size:Int))+(eI x.L)+(eI x.R)
theorem jN (x:bv):0≤fE x:=by
 unfold fE
 have:=cF x.L
 have:=cF x.R
 omega
def Bf (x:bY):Prop:=(WfI .i64) x.Kind∧WfS x.Name∧(WfL vk) x.Args∧(WfI .i64) x.N∧WfS x.Undo
def fe (x:bY):Int:=((x.Name.size:Int))+((x.Args.length:Int)+(x.Args.map fE).sum)+((x.Undo.size:Int))
theorem oP (x:bY):0≤fe x:=by
 unfold fe
 have:=ax fE x.Args (fun y _=>jN y)
 omega
def vr (x:ac):Prop:=WfS x.Name∧(WfI .i64) x.Sal∧(WfL BQ) x.Pats∧(WfL vo) x.Conds∧(WfL Bf) x.Acts
def fd (x:ac):Int:=((x.Name.size:Int))+((x.Pats.length:Int)+(x.Pats.map ff).sum)+((x.Conds.length:Int)+(x.Conds.map fX).sum)+((x.Acts.length:Int)+(x.Acts.map fe).sum)
theorem mg (x:ac):0≤fd x:=by
 unfold fd
 have:=ax ff x.Pats (fun y _=>ov y)
 have:=ax fX x.Conds (fun y _=>m8 y)
 have:=ax fe x.Acts (fun y _=>oP y)
 omega
def AU (x:bi):Prop:=WfS x.Name∧(WfL vr) x.Rules
def lN (x:bi):Int:=((x.Name.size:Int))+((x.Rules.length:Int)+(x.Rules.map fd).sum)
theorem CV (x:bi):0≤lN x:=by
 unfold lN
 have:=ax fd x.Rules (fun y _=>mg y)
 omega
def AL (x:aR):Prop:=(WfL (WfI .i64)) x.L
def iB (x:aR):Int:=((x.L.length:Int))
theorem qD (x:aR):0≤iB x:=by
 unfold iB
 omega
def vT (x:aa):Prop:=(WfL (WfI .i64)) x.Ids∧(WfL (WfI .i64)) x.Hits
def iC (x:aa):Int:=((x.Ids.length:Int))+((x.Hits.length:Int))
theorem qF (x:aa):0≤iC x:=by
 unfold iC
 omega
def rB (x:ab):Prop:=(WfL vT) x.Toks
def dp (x:ab):Int:=((x.Toks.length:Int)+(x.Toks.map iC).sum)
theorem nh (x:ab):0≤dp x:=by
 unfold dp
 have:=ax iC x.Toks (fun y _=>qF y)
 omega
def Az (x:aG):Prop:=(WfL rB) x.Levels
def gE (x:aG):Int:=((x.Levels.length:Int)+(x.Levels.map dp).sum)
theorem rd (x:aG):0≤gE x:=by
 unfold gE
 have:=ax dp x.Levels (fun y _=>nh y)
 omega
def AV (x:aK):Prop:=(WfL AL) x.Alphas∧(WfL Az) x.Rules
def lL (x:aK):Int:=((x.Alphas.length:Int)+(x.Alphas.map iB).sum)+((x.Rules.length:Int)+(x.Rules.map gE).sum)
theorem DF (x:aK):0≤lL x:=by
 unfold lL
 have:=ax iB x.Alphas (fun y _=>qD y)
 have:=ax gE x.Rules (fun y _=>rd y)
 omega
def AQ (x:aw):Prop:=WfS x.Kind∧(WfL xu) x.Fields
def lY (x:aw):Int:=((x.Kind.size:Int))+((x.Fields.length:Int)+(x.Fields.map fV).sum)
theorem rD (x:aw):0≤lY x:=by
 unfold lY
 have:=ax fV x.Fields (fun y _=>jA y)
 omega
def vp (x:ao):Prop:=(WfI .i64) x.Id∧AQ x.F
def eY (x:ao):Int:=(lY x.F)
theorem mm (x:ao):0≤eY x:=by
 unfold eY
 have:=rD x.F
 omega
def tN (x:ae):Prop:=(WfL vp) x.Items∧(WfI .i64) x.Next
def gV (x:ae):Int:=((x.Items.length:Int)+(x.Items.map eY).sum)
theorem Bg (x:ae):0≤gV x:=by
 unfold gV
 have:=ax eY x.Items (fun y _=>mm y)
 omega
theorem tA {N:Nat} (hN:1099000000000≤N) (x:aQ) (w:xu x) (left:Int) (h0:0≤left) (h1:left≤1048576):∃ v,l7 N x left=some v∧Szd v left (fV x):=by
 obtain ⟨w0,w1,w2⟩:=w
 unfold l7
 unfold fV
 have hl2:=w2; unfold WfS maxLen at hl2
 have e2:IntKind.i64.wrap (left - (x.S.size:Int))=left - (x.S.size:Int):=wr (by omega) (by omega)
 simp only [e2]
 by_cases c2:(left - (x.S.size:Int)) < 0
 ·rw [if_pos (by simpa using c2)]; exact ⟨-1,rfl,.inl (by omega)⟩
 rw [if_neg (by simpa using c2)]
 exact ⟨_,rfl,.inr ⟨by omega,by omega⟩⟩
theorem jY {N:Nat} (hN:1099000000000≤N) (x:bk) (w:rG x) (left:Int) (h0:0≤left) (h1:left≤1048576):∃ v,i7 N x left=some v∧Szd v left (eI x):=by
 obtain ⟨w0,w1,w2⟩:=w
 unfold i7
 unfold eI
 have:=jA x.V
 have hl1:=w1; unfold WfS maxLen at hl1
 have e1:IntKind.i64.wrap (left - (x.S.size:Int))=left - (x.S.size:Int):=wr (by omega) (by omega)
 simp only [e1]
 by_cases c1:(left - (x.S.size:Int)) < 0
 ·rw [if_pos (by simpa using c1)]; exact ⟨-1,rfl,.inl (by omega)⟩
 rw [if_neg (by simpa using c1)]
 obtain ⟨v2,hv2,hs2⟩:=tA hN x.V w2 (left - (x.S.size:Int)) (by omega) (by omega)
 rw [hv2]; simp only [Option.bind_some]
 by_cases c2:v2 < 0
 ·rw [if_pos (by simpa using c2)]; exact ⟨-1,rfl,.inl (by omega)⟩
 rw [if_neg (by simpa using c2)]
 replace hs2:=hs2.resolve_left c2
 exact ⟨_,rfl,.inr ⟨by omega,by omega⟩⟩
theorem yV {N:Nat} (hN:1099000000000≤N) (x:(List bk)) (w:(WfL rG) x) (left:Int) (h0:0≤left) (h1:left≤1048576):∃ v,ox N x left=some v∧Szd v left ((x.length:Int)+(x.map eI).sum):=by
 have hl:=w.1; unfold maxLen at hl
 have e1:IntKind.i64.wrap (left - (x.length:Int))=left - (x.length:Int):=wr (by omega) (by omega)
 unfold ox
 simp only [e1]
 by_cases c:left - (x.length:Int) < 0
 ·rw [if_pos (by simpa using c)]; exact ⟨-1,rfl,.inl (by omega)⟩
 ·rw [if_neg (by simpa using c)]
  obtain ⟨v,hv,hs⟩:=mS (i8 N x) x (by omega) eI (fun y _=>cF y) (fun y l=>i7 N y l) (fun y hy l g0 g1=>jY hN y (w.2 y hy) l g0 g1) (fun k l i=>rfl) N 0 (left - (x.length:Int)) (by omega) (by omega) (by omega) (by omega)
  refine ⟨v,hv,?_⟩
  rw [List.drop_zero] at hs
  rcases hs with hs | ⟨hs0,hs⟩
  ·exact .inl hs
  ·exact .inr ⟨hs0,by omega⟩
theorem Bt {N:Nat} (hN:1099000000000≤N) (x:aq) (w:BQ x) (left:Int) (h0:0≤left) (h1:left≤1048576):∃ v,nJ N x left=some v∧Szd v left (ff x):=by
 obtain ⟨w0,w1,w2⟩:=w
 unfold nJ
 unfold ff
 have:=ax eI x.Args (fun y _=>cF y)
 have hl0:=w0; unfold WfS maxLen at hl0
 have e0:IntKind.i64.wrap (left - (x.Kind.size:Int))=left - (x.Kind.size:Int):=wr (by omega) (by omega)
 simp only [e0]
 by_cases c0:(left - (x.Kind.size:Int)) < 0
 ·rw [if_pos (by simpa using c0)]; exact ⟨-1,rfl,.inl (by omega)⟩
 rw [if_neg (by simpa using c0)]
 obtain ⟨v1,hv1,hs1⟩:=yV hN x.Args w1 (left - (x.Kind.size:Int)) (by omega) (by omega)
 rw [hv1]; simp only [Option.bind_some]
 by_cases c1:v1 < 0
 ·rw [if_pos (by simpa using c1)]; exact ⟨-1,rfl,.inl (by omega)⟩
 rw [if_neg (by simpa using c1)]
 replace hs1:=hs1.resolve_left c1
 exact ⟨_,rfl,.inr ⟨by omega,by omega⟩⟩
theorem yS {N:Nat} (hN:1099000000000≤N) (x:(List aq)) (w:(WfL BQ) x) (left:Int) (h0:0≤left) (h1:left≤1048576):∃ v,nM N x left=some v∧Szd v left ((x.length:Int)+(x.map ff).sum):=by
 have hl:=w.1; unfold maxLen at hl
 have e1:IntKind.i64.wrap (left - (x.length:Int))=left - (x.length:Int):=wr (by omega) (by omega)
 unfold nM
 simp only [e1]
 by_cases c:left - (x.length:Int) < 0
 ·rw [if_pos (by simpa using c)]; exact ⟨-1,rfl,.inl (by omega)⟩
 ·rw [if_neg (by simpa using c)]
  obtain ⟨v,hv,hs⟩:=mS (ig N x) x (by omega) ff (fun y _=>ov y) (fun y l=>nJ N y l) (fun y hy l g0 g1=>Bt hN y (w.2 y hy) l g0 g1) (fun k l i=>rfl) N 0 (left - (x.length:Int)) (by omega) (by omega) (by omega) (by omega)
  refine ⟨v,hv,?_⟩
  rw [List.drop_zero] at hs
  rcases hs with hs | ⟨hs0,hs⟩
  ·exact .inl hs
  ·exact .inr ⟨hs0,by omega⟩
theorem yx {N:Nat} (hN:1099000000000≤N) (x:bA) (w:vo x) (left:Int) (h0:0≤left) (h1:left≤1048576):∃ v,lF N x left=some v∧Szd v left (fX x):=by
 obtain ⟨w0,w1,w2⟩:=w
 unfold lF
 unfold fX
 have:=cF x.L
 have:=cF x.R
 obtain ⟨v1,hv1,hs1⟩:=jY hN x.L w1 left (by omega) (by omega)
 rw [hv1]; simp only [Option.bind_some]
 by_cases c1:v1 < 0
 ·rw [if_pos (by simpa using c1)]; exact ⟨-1,rfl,.inl (by omega)⟩
 rw [if_neg (by simpa using c1)]
 replace hs1:=hs1.resolve_left c1
 obtain ⟨v2,hv2,hs2⟩:=jY hN x.R w2 v1 (by omega) (by omega)
 rw [hv2]; simp only [Option.bind_some]
 by_cases c2:v2 < 0
 ·rw [if_pos (by simpa using c2)]; exact ⟨-1,rfl,.inl (by omega)⟩
 rw [if_neg (by simpa using c2)]
 replace hs2:=hs2.resolve_left c2
 exact ⟨_,rfl,.inr ⟨by omega,by omega⟩⟩
theorem vu {N:Nat} (hN:1099000000000≤N) (x:(List bA)) (w:(WfL vo) x) (left:Int) (h0:0≤left) (h1:left≤1048576):∃ v,mo N x left=some v∧Szd v left ((x.length:Int)+(x.map fX).sum):=by
 have hl:=w.1; unfold maxLen at hl
 have e1:IntKind.i64.wrap (left - (x.length:Int))=left - (x.length:Int):=wr (by omega) (by omega)
 unfold mo
 simp only [e1]
 by_cases c:left - (x.length:Int) < 0
 ·rw [if_pos (by simpa using c)]; exact ⟨-1,rfl,.inl (by omega)⟩
 ·rw [if_neg (by simpa using c)]
  obtain ⟨v,hv,hs⟩:=mS (gn N x) x (by omega) fX (fun y _=>m8 y) (fun y l=>lF N y l) (fun y hy l g0 g1=>yx hN y (w.2 y hy) l g0 g1) (fun k l i=>rfl) N 0 (left - (x.length:Int)) (by omega) (by omega) (by omega) (by omega)
  refine ⟨v,hv,?_⟩
  rw [List.drop_zero] at hs
  rcases hs with hs | ⟨hs0,hs⟩
  ·exact .inl hs
  ·exact .inr ⟨hs0,by omega⟩
theorem yu {N:Nat} (hN:1099000000000≤N) (x:bv) (w:vk x) (left:Int) (h0:0≤left) (h1:left≤1048576):∃ v,l6 N x left=some v∧Szd v left (fE x):=by
 obtain ⟨w0,w1,w2⟩:=w
 unfold l6
 unfold fE
 have:=cF x.L
 have:=cF x.R
 have hl0:=w0; unfold WfS maxLen at hl0
 have e0:IntKind.i64.wrap (left - (x.Op.size:Int))=left - (x.Op.size:Int):=wr (by omega) (by omega)
 simp only [e0]
 by_cases c0:(left - (x.Op.size:Int)) < 0
 ·rw [if_pos (by simpa using c0)]; exact ⟨-1,rfl,.inl (by omega)⟩
 rw [if_neg (by simpa using c0)]
 obtain ⟨v1,hv1,hs1⟩:=jY hN x.L w1 (left - (x.Op.size:Int)) (by omega) (by omega)
 rw [hv1]; simp only [Option.bind_some]
 by_cases c1:v1 < 0
 ·rw [if_pos (by simpa using c1)]; exact ⟨-1,rfl,.inl (by omega)⟩
 rw [if_neg (by simpa using c1)]
 replace hs1:=hs1.resolve_left c1
 obtain ⟨v2,hv2,hs2⟩:=jY hN x.R w2 v1 (by omega) (by omega)
 rw [hv2]; simp only [Option.bind_some]
 by_cases c2:v2 < 0
 ·rw [if_pos (by simpa using c2)]; exact ⟨-1,rfl,.inl (by omega)⟩
 rw [if_neg (by simpa using c2)]
 replace hs2:=hs2.resolve_left c2
 exact ⟨_,rfl,.inr ⟨by omega,by omega⟩⟩
theorem wv {N:Nat} (hN:1099000000000≤N) (x:(List bv)) (w:(WfL vk) x) (left:Int) (h0:0≤left) (h1:left≤1048576):∃ v,ml N x left=some v∧Szd v left ((x.length:Int)+(x.map fE).sum):=by
 have hl:=w.1; unfold maxLen at hl
 have e1:IntKind.i64.wrap (left - (x.length:Int))=left - (x.length:Int):=wr (by omega) (by omega)
 unfold ml
 simp only [e1]
 by_cases c:left - (x.length:Int) < 0
 ·rw [if_pos (by simpa using c)]; exact ⟨-1,rfl,.inl (by omega)⟩
 ·rw [if_neg (by simpa using c)]
  obtain ⟨v,hv,hs⟩:=mS (gg N x) x (by omega) fE (fun y _=>jN y) (fun y l=>l6 N y l) (fun y hy l g0 g1=>yu hN y (w.2 y hy) l g0 g1) (fun k l i=>rfl) N 0 (left - (x.length:Int)) (by omega) (by omega) (by omega) (by omega)
  refine ⟨v,hv,?_⟩
  rw [List.drop_zero] at hs
  rcases hs with hs | ⟨hs0,hs⟩
  ·exact .inl hs
  ·exact .inr ⟨hs0,by omega⟩
theorem Bd {N:Nat} (hN:1099000000000≤N) (x:bY) (w:Bf x) (left:Int) (h0:0≤left) (h1:left≤1048576):∃ v,nG N x left=some v∧Szd v left (fe x):=by
 obtain ⟨w0,w1,w2,w3,w4⟩:=w
 unfold nG
 unfold fe
 have:=ax fE x.Args (fun y _=>jN y)
 have hl1:=w1; unfold WfS maxLen at hl1
 have e1:IntKind.i64.wrap (left - (x.Name.size:Int))=left - (x.Name.size:Int):=wr (by omega) (by omega)
 simp only [e1]
 by_cases c1:(left - (x.Name.size:Int)) < 0
 ·rw [if_pos (by simpa using c1)]; exact ⟨-1,rfl,.inl (by omega)⟩
 rw [if_neg (by simpa using c1)]
 obtain ⟨v2,hv2,hs2⟩:=wv hN x.Args w2 (left - (x.Name.size:Int)) (by omega) (by omega)
 rw [hv2]; simp only [Option.bind_some]
 by_cases c2:v2 < 0
 ·rw [if_pos (by simpa using c2)]; exact ⟨-1,rfl,.inl (by omega)⟩
 rw [if_neg (by simpa using c2)]
 replace hs2:=hs2.resolve_left c2
 have hl4:=w4; unfold WfS maxLen at hl4
 have e4:IntKind.i64.wrap (v2 - (x.Undo.size:Int))=v2 - (x.Undo.size:Int):=wr (by omega) (by omega)
 simp only [e4]
 by_cases c4:(v2 - (x.Undo.size:Int)) < 0
 ·rw [if_pos (by simpa using c4)]; exact ⟨-1,rfl,.inl (by omega)⟩
 rw [if_neg (by simpa using c4)]
 exact ⟨_,rfl,.inr ⟨by omega,by omega⟩⟩
theorem zq {N:Nat} (hN:1099000000000≤N) (x:(List bY)) (w:(WfL Bf) x) (left:Int) (h0:0≤left) (h1:left≤1048576):∃ v,oY N x left=some v∧Szd v left ((x.length:Int)+(x.map fe).sum):=by
 have hl:=w.1; unfold maxLen at hl
 have e1:IntKind.i64.wrap (left - (x.length:Int))=left - (x.length:Int):=wr (by omega) (by omega)
 unfold oY
 simp only [e1]
 by_cases c:left - (x.length:Int) < 0
 ·rw [if_pos (by simpa using c)]; exact ⟨-1,rfl,.inl (by omega)⟩
 ·rw [if_neg (by simpa using c)]
  obtain ⟨v,hv,hs⟩:=mS (ik N x) x (by omega) fe (fun y _=>oP y) (fun y l=>nG N y l) (fun y hy l g0 g1=>Bd hN y (w.2 y hy) l g0 g1) (fun k l i=>rfl) N 0 (left - (x.length:Int)) (by omega) (by omega) (by omega) (by omega)
  refine ⟨v,hv,?_⟩
  rw [List.drop_zero] at hs
  rcases hs with hs | ⟨hs0,hs⟩
  ·exact .inl hs
  ·exact .inr ⟨hs0,by omega⟩
theorem zy {N:Nat} (hN:1099000000000≤N) (x:ac) (w:vr x) (left:Int) (h0:0≤left) (h1:left≤1048576):∃ v,lm N x left=some v∧Szd v left (fd x):=by
 obtain ⟨w0,w1,w2,w3,w4⟩:=w
 unfold lm
 unfold fd
 have:=ax ff x.Pats (fun y _=>ov y)
 have:=ax fX x.Conds (fun y _=>m8 y)
 have:=ax fe x.Acts (fun y _=>oP y)
 have hl0:=w0; unfold WfS maxLen at hl0
 have e0:IntKind.i64.wrap (left - (x.Name.size:Int))=left - (x.Name.size:Int):=wr (by omega) (by omega)
 simp only [e0]
 by_cases c0:(left - (x.Name.size:Int)) < 0
 ·rw [if_pos (by simpa using c0)]; exact ⟨-1,rfl,.inl (by omega)⟩
 rw [if_neg (by simpa using c0)]
 obtain ⟨v2,hv2,hs2⟩:=yS hN x.Pats w2 (left - (x.Name.size:Int)) (by omega) (by omega)
 rw [hv2]; simp only [Option.bind_some]
 by_cases c2:v2 < 0
 ·rw [if_pos (by simpa using c2)]; exact ⟨-1,rfl,.inl (by omega)⟩
 rw [if_neg (by simpa using c2)]
 replace hs2:=hs2.resolve_left c2
 obtain ⟨v3,hv3,hs3⟩:=vu hN x.Conds w3 v2 (by omega) (by omega)
 rw [hv3]; simp only [Option.bind_some]
 by_cases c3:v3 < 0
 ·rw [if_pos (by simpa using c3)]; exact ⟨-1,rfl,.inl (by omega)⟩
 rw [if_neg (by simpa using c3)]
 replace hs3:=hs3.resolve_left c3
 obtain ⟨v4,hv4,hs4⟩:=zq hN x.Acts w4 v3 (by omega) (by omega)
 rw [hv4]; simp only [Option.bind_some]
 by_cases c4:v4 < 0
 ·rw [if_pos (by simpa using c4)]; exact ⟨-1,rfl,.inl (by omega)⟩
 rw [if_neg (by simpa using c4)]
 replace hs4:=hs4.resolve_left c4
 exact ⟨_,rfl,.inr ⟨by omega,by omega⟩⟩
theorem vL {N:Nat} (hN:1099000000000≤N) (x:(List ac)) (w:(WfL vr) x) (left:Int) (h0:0≤left) (h1:left≤1048576):∃ v,mv N x left=some v∧Szd v left ((x.length:Int)+(x.map fd).sum):=by
 have hl:=w.1; unfold maxLen at hl
 have e1:IntKind.i64.wrap (left - (x.length:Int))=left - (x.length:Int):=wr (by omega) (by omega)
 unfold mv
 simp only [e1]
 by_cases c:left - (x.length:Int) < 0
 ·rw [if_pos (by simpa using c)]; exact ⟨-1,rfl,.inl (by omega)⟩
 ·rw [if_neg (by simpa using c)]
  obtain ⟨v,hv,hs⟩:=mS (gj N x) x (by omega) fd (fun y _=>mg y) (fun y l=>lm N y l) (fun y hy l g0 g1=>zy hN y (w.2 y hy) l g0 g1) (fun k l i=>rfl) N 0 (left - (x.length:Int)) (by omega) (by omega) (by omega) (by omega)
  refine ⟨v,hv,?_⟩
  rw [List.drop_zero] at hs
  rcases hs with hs | ⟨hs0,hs⟩
  ·exact .inl hs
  ·exact .inr ⟨hs0,by omega⟩
theorem Ay {N:Nat} (hN:1099000000000≤N) (x:bi) (w:AU x) (left:Int) (h0:0≤left) (h1:left≤1048576):∃ v,qj N x left=some v∧Szd v left (lN x):=by
 obtain ⟨w0,w1⟩:=w
 unfold qj
 unfold lN
 have:=ax fd x.Rules (fun y _=>mg y)
 have hl0:=w0; unfold WfS maxLen at hl0
 have e0:IntKind.i64.wrap (left - (x.Name.size:Int))=left - (x.Name.size:Int):=wr (by omega) (by omega)
 simp only [e0]
 by_cases c0:(left - (x.Name.size:Int)) < 0
 ·rw [if_pos (by simpa using c0)]; exact ⟨-1,rfl,.inl (by omega)⟩
 rw [if_neg (by simpa using c0)]
 obtain ⟨v1,hv1,hs1⟩:=vL hN x.Rules w1 (left - (x.Name.size:Int)) (by omega) (by omega)
 rw [hv1]; simp only [Option.bind_some]
 by_cases c1:v1 < 0
 ·rw [if_pos (by simpa using c1)]; exact ⟨-1,rfl,.inl (by omega)⟩
 rw [if_neg (by simpa using c1)]
 replace hs1:=hs1.resolve_left c1
 exact ⟨_,rfl,.inr ⟨by omega,by omega⟩⟩
theorem pS {N:Nat} (hN:1099000000000≤N) (x:(List Int)) (w:(WfL (WfI .i64)) x) (left:Int) (h0:0≤left) (h1:left≤1048576):∃ v,jE N x left=some v∧Szd v left ((x.length:Int)):=by
 have hl:=w.1; unfold maxLen at hl
 have e1:IntKind.i64.wrap (left - (x.length:Int))=left - (x.length:Int):=wr (by omega) (by omega)
 unfold jE
 simp only [e1]
 by_cases c:left - (x.length:Int) < 0
 ·rw [if_pos (by simpa using c)]; exact ⟨-1,rfl,.inl (by omega)⟩
 ·rw [if_neg (by simpa using c)]
  exact ⟨_,rfl,.inr ⟨by omega,rfl⟩⟩
theorem BR {N:Nat} (hN:1099000000000≤N) (x:aR) (w:AL x) (left:Int) (h0:0≤left) (h1:left≤1048576):∃ v,nB N x left=some v∧Szd v left (iB x):=by
 have w0:(WfL (WfI .i64)) x.L:=w
 unfold nB
 unfold iB
 obtain ⟨v0,hv0,hs0⟩:=pS hN x.L w0 left (by omega) (by omega)
 rw [hv0]; simp only [Option.bind_some]
 by_cases c0:v0 < 0
 ·rw [if_pos (by simpa using c0)]; exact ⟨-1,rfl,.inl (by omega)⟩
 rw [if_neg (by simpa using c0)]
 replace hs0:=hs0.resolve_left c0
 exact ⟨_,rfl,.inr ⟨by omega,by omega⟩⟩
theorem zg {N:Nat} (hN:1099000000000≤N) (x:(List aR)) (w:(WfL AL) x) (left:Int) (h0:0≤left) (h1:left≤1048576):∃ v,pb N x left=some v∧Szd v left ((x.length:Int)+(x.map iB).sum):=by
 have hl:=w.1; unfold maxLen at hl
 have e1:IntKind.i64.wrap (left - (x.length:Int))=left - (x.length:Int):=wr (by omega) (by omega)
 unfold pb
 simp only [e1]
 by_cases c:left - (x.length:Int) < 0
 ·rw [if_pos (by simpa using c)]; exact ⟨-1,rfl,.inl (by omega)⟩
 ·rw [if_neg (by simpa using c)]
  obtain ⟨v,hv,hs⟩:=mS (im N x) x (by omega) iB (fun y _=>qD y) (fun y l=>nB N y l) (fun y hy l g0 g1=>BR hN y (w.2 y hy) l g0 g1) (fun k l i=>rfl) N 0 (left - (x.length:Int)) (by omega) (by omega) (by omega) (by omega)
  refine ⟨v,hv,?_⟩
  rw [List.drop_zero] at hs
  rcases hs with hs | ⟨hs0,hs⟩
  ·exact .inl hs
  ·exact .inr ⟨hs0,by omega⟩
theorem B7 {N:Nat} (hN:1099000000000≤N) (x:aa) (w:vT x) (left:Int) (h0:0≤left) (h1:left≤1048576):∃ v,nD N x left=some v∧Szd v left (iC x):=by
 obtain ⟨w0,w1⟩:=w
 unfold nD
 unfold iC
 obtain ⟨v0,hv0,hs0⟩:=pS hN x.Ids w0 left (by omega) (by omega)
 rw [hv0]; simp only [Option.bind_some]
 by_cases c0:v0 < 0
 ·rw [if_pos (by simpa using c0)]; exact ⟨-1,rfl,.inl (by omega)⟩
 rw [if_neg (by simpa using c0)]
 replace hs0:=hs0.resolve_left c0
 obtain ⟨v1,hv1,hs1⟩:=pS hN x.Hits w1 v0 (by omega) (by omega)
 rw [hv1]; simp only [Option.bind_some]
 by_cases c1:v1 < 0
 ·rw [if_pos (by simpa using c1)]; exact ⟨-1,rfl,.inl (by omega)⟩
 rw [if_neg (by simpa using c1)]
 replace hs1:=hs1.resolve_left c1
 exact ⟨_,rfl,.inr ⟨by omega,by omega⟩⟩
theorem yy {N:Nat} (hN:1099000000000≤N) (x:(List aa)) (w:(WfL vT) x) (left:Int) (h0:0≤left) (h1:left≤1048576):∃ v,nW N x left=some v∧Szd v left ((x.length:Int)+(x.map iC).sum):=by
 have hl:=w.1; unfold maxLen at hl
 have e1:IntKind.i64.wrap (left - (x.length:Int))=left - (x.length:Int):=wr (by omega) (by omega)
 unfold nW
 simp only [e1]
 by_cases c:left - (x.length:Int) < 0
 ·rw [if_pos (by simpa using c)]; exact ⟨-1,rfl,.inl (by omega)⟩
 ·rw [if_neg (by simpa using c)]
  obtain ⟨v,hv,hs⟩:=mS (gU N x) x (by omega) iC (fun y _=>qF y) (fun y l=>nD N y l) (fun y hy l g0 g1=>B7 hN y (w.2 y hy) l g0 g1) (fun k l i=>rfl) N 0 (left - (x.length:Int)) (by omega) (by omega) (by omega) (by omega)
  refine ⟨v,hv,?_⟩
  rw [List.drop_zero] at hs
  rcases hs with hs | ⟨hs0,hs⟩
  ·exact .inl hs
  ·exact .inr ⟨hs0,by omega⟩
theorem wt {N:Nat} (hN:1099000000000≤N) (x:ab) (w:rB x) (left:Int) (h0:0≤left) (h1:left≤1048576):∃ v,jI N x left=some v∧Szd v left (dp x):=by
 have w0:(WfL vT) x.Toks:=w
 unfold jI
 unfold dp
 have:=ax iC x.Toks (fun y _=>qF y)
 obtain ⟨v0,hv0,hs0⟩:=yy hN x.Toks w0 left (by omega) (by omega)
 rw [hv0]; simp only [Option.bind_some]
 by_cases c0:v0 < 0
 ·rw [if_pos (by simpa using c0)]; exact ⟨-1,rfl,.inl (by omega)⟩
 rw [if_neg (by simpa using c0)]
 replace hs0:=hs0.resolve_left c0
 exact ⟨_,rfl,.inr ⟨by omega,by omega⟩⟩
theorem uR {N:Nat} (hN:1099000000000≤N) (x:(List ab)) (w:(WfL rB) x) (left:Int) (h0:0≤left) (h1:left≤1048576):∃ v,kr N x left=some v∧Szd v left ((x.length:Int)+(x.map dp).sum):=by
 have hl:=w.1; unfold maxLen at hl
 have e1:IntKind.i64.wrap (left - (x.length:Int))=left - (x.length:Int):=wr (by omega) (by omega)
 unfold kr
 simp only [e1]
 by_cases c:left - (x.length:Int) < 0
 ·rw [if_pos (by simpa using c)]; exact ⟨-1,rfl,.inl (by omega)⟩
 ·rw [if_neg (by simpa using c)]
  obtain ⟨v,hv,hs⟩:=mS (fy N x) x (by omega) dp (fun y _=>nh y) (fun y l=>jI N y l) (fun y hy l g0 g1=>wt hN y (w.2 y hy) l g0 g1) (fun k l i=>rfl) N 0 (left - (x.length:Int)) (by omega) (by omega) (by omega) (by omega)
  refine ⟨v,hv,?_⟩
  rw [List.drop_zero] at hs
  rcases hs with hs | ⟨hs0,hs⟩
  ·exact .inl hs
  ·exact .inr ⟨hs0,by omega⟩
theorem Bu {N:Nat} (hN:1099000000000≤N) (x:aG) (w:Az x) (left:Int) (h0:0≤left) (h1:left≤1048576):∃ v,nF N x left=some v∧Szd v left (gE x):=by
 have w0:(WfL rB) x.Levels:=w
 unfold nF
 unfold gE
 have:=ax dp x.Levels (fun y _=>nh y)
 obtain ⟨v0,hv0,hs0⟩:=uR hN x.Levels w0 left (by omega) (by omega)
 rw [hv0]; simp only [Option.bind_some]
 by_cases c0:v0 < 0
 ·rw [if_pos (by simpa using c0)]; exact ⟨-1,rfl,.inl (by omega)⟩
 rw [if_neg (by simpa using c0)]
 replace hs0:=hs0.resolve_left c0
 exact ⟨_,rfl,.inr ⟨by omega,by omega⟩⟩
theorem yQ {N:Nat} (hN:1099000000000≤N) (x:(List aG)) (w:(WfL Az) x) (left:Int) (h0:0≤left) (h1:left≤1048576):∃ v,od N x left=some v∧Szd v left ((x.length:Int)+(x.map gE).sum):=by
 have hl:=w.1; unfold maxLen at hl
 have e1:IntKind.i64.wrap (left - (x.length:Int))=left - (x.length:Int):=wr (by omega) (by omega)
 unfold od
 simp only [e1]
 by_cases c:left - (x.length:Int) < 0
 ·rw [if_pos (by simpa using c)]; exact ⟨-1,rfl,.inl (by omega)⟩
 ·rw [if_neg (by simpa using c)]
  obtain ⟨v,hv,hs⟩:=mS (iq N x) x (by omega) gE (fun y _=>rd y) (fun y l=>nF N y l) (fun y hy l g0 g1=>Bu hN y (w.2 y hy) l g0 g1) (fun k l i=>rfl) N 0 (left - (x.length:Int)) (by omega) (by omega) (by omega) (by omega)
  refine ⟨v,hv,?_⟩
  rw [List.drop_zero] at hs
  rcases hs with hs | ⟨hs0,hs⟩
  ·exact .inl hs
  ·exact .inr ⟨hs0,by omega⟩
theorem BH {N:Nat} (hN:1099000000000≤N) (x:aK) (w:AV x) (left:Int) (h0:0≤left) (h1:left≤1048576):∃ v,qA N x left=some v∧Szd v left (lL x):=by
 obtain ⟨w0,w1⟩:=w
 unfold qA
 unfold lL
 have:=ax iB x.Alphas (fun y _=>qD y)
 have:=ax gE x.Rules (fun y _=>rd y)
 obtain ⟨v0,hv0,hs0⟩:=zg hN x.Alphas w0 left (by omega) (by omega)
 rw [hv0]; simp only [Option.bind_some]
 by_cases c0:v0 < 0
 ·rw [if_pos (by simpa using c0)]; exact ⟨-1,rfl,.inl (by omega)⟩
 rw [if_neg (by simpa using c0)]
 replace hs0:=hs0.resolve_left c0
 obtain ⟨v1,hv1,hs1⟩:=yQ hN x.Rules w1 v0 (by omega) (by omega)
 rw [hv1]; simp only [Option.bind_some]
 by_cases c1:v1 < 0
 ·rw [if_pos (by simpa using c1)]; exact ⟨-1,rfl,.inl (by omega)⟩
 rw [if_neg (by simpa using c1)]
 replace hs1:=hs1.resolve_left c1
 exact ⟨_,rfl,.inr ⟨by omega,by omega⟩⟩
theorem zn {N:Nat} (hN:1099000000000≤N) (x:(List aQ)) (w:(WfL xu) x) (left:Int) (h0:0≤left) (h1:left≤1048576):∃ v,oE N x left=some v∧Szd v left ((x.length:Int)+(x.map fV).sum):=by
 have hl:=w.1; unfold maxLen at hl
 have e1:IntKind.i64.wrap (left - (x.length:Int))=left - (x.length:Int):=wr (by omega) (by omega)
 unfold oE
 simp only [e1]
 by_cases c:left - (x.length:Int) < 0
 ·rw [if_pos (by simpa using c)]; exact ⟨-1,rfl,.inl (by omega)⟩
 ·rw [if_neg (by simpa using c)]
  obtain ⟨v,hv,hs⟩:=mS (ib N x) x (by omega) fV (fun y _=>jA y) (fun y l=>l7 N y l) (fun y hy l g0 g1=>tA hN y (w.2 y hy) l g0 g1) (fun k l i=>rfl) N 0 (left - (x.length:Int)) (by omega) (by omega) (by omega) (by omega)
  refine ⟨v,hv,?_⟩
  rw [List.drop_zero] at hs
  rcases hs with hs | ⟨hs0,hs⟩
  ·exact .inl hs
  ·exact .inr ⟨hs0,by omega⟩
theorem zo {N:Nat} (hN:1099000000000≤N) (x:aw) (w:AQ x) (left:Int) (h0:0≤left) (h1:left≤1048576):∃ v,nR N x left=some v∧Szd v left (lY x):=by
 obtain ⟨w0,w1⟩:=w
 unfold nR
 unfold lY
 have:=ax fV x.Fields (fun y _=>jA y)
 have hl0:=w0; unfold WfS maxLen at hl0
 have e0:IntKind.i64.wrap (left - (x.Kind.size:Int))=left - (x.Kind.size:Int):=wr (by omega) (by omega)
 simp only [e0]
 by_cases c0:(left - (x.Kind.size:Int)) < 0
 ·rw [if_pos (by simpa using c0)]; exact ⟨-1,rfl,.inl (by omega)⟩
 rw [if_neg (by simpa using c0)]
 obtain ⟨v1,hv1,hs1⟩:=zn hN x.Fields w1 (left - (x.Kind.size:Int)) (by omega) (by omega)
 rw [hv1]; simp only [Option.bind_some]
 by_cases c1:v1 < 0
 ·rw [if_pos (by simpa using c1)]; exact ⟨-1,rfl,.inl (by omega)⟩
 rw [if_neg (by simpa using c1)]
 replace hs1:=hs1.resolve_left c1
 exact ⟨_,rfl,.inr ⟨by omega,by omega⟩⟩
theorem yh {N:Nat} (hN:1099000000000≤N) (x:ao) (w:vp x) (left:Int) (h0:0≤left) (h1:left≤1048576):∃ v,lg N x left=some v∧Szd v left (eY x):=by
 obtain ⟨w0,w1⟩:=w
 unfold lg
 unfold eY
 have:=rD x.F
 obtain ⟨v1,hv1,hs1⟩:=zo hN x.F w1 left (by omega) (by omega)
 rw [hv1]; simp only [Option.bind_some]
 by_cases c1:v1 < 0
 ·rw [if_pos (by simpa using c1)]; exact ⟨-1,rfl,.inl (by omega)⟩
 rw [if_neg (by simpa using c1)]
 replace hs1:=hs1.resolve_left c1
 exact ⟨_,rfl,.inr ⟨by omega,by omega⟩⟩
theorem vt {N:Nat} (hN:1099000000000≤N) (x:(List ao)) (w:(WfL vp) x) (left:Int) (h0:0≤left) (h1:left≤1048576):∃ v,lQ N x left=some v∧Szd v left ((x.length:Int)+(x.map eY).sum):=by
 have hl:=w.1; unfold maxLen at hl
 have e1:IntKind.i64.wrap (left - (x.length:Int))=left - (x.length:Int):=wr (by omega) (by omega)
 unfold lQ
 simp only [e1]
 by_cases c:left - (x.length:Int) < 0
 ·rw [if_pos (by simpa using c)]; exact ⟨-1,rfl,.inl (by omega)⟩
 ·rw [if_neg (by simpa using c)]
  obtain ⟨v,hv,hs⟩:=mS (gq N x) x (by omega) eY (fun y _=>mm y) (fun y l=>lg N y l) (fun y hy l g0 g1=>yh hN y (w.2 y hy) l g0 g1) (fun k l i=>rfl) N 0 (left - (x.length:Int)) (by omega) (by omega) (by omega) (by omega)
  refine ⟨v,hv,?_⟩
  rw [List.drop_zero] at hs
  rcases hs with hs | ⟨hs0,hs⟩
  ·exact .inl hs
  ·exact .inr ⟨hs0,by omega⟩
theorem wP {N:Nat} (hN:1099000000000≤N) (x:ae) (w:tN x) (left:Int) (h0:0≤left) (h1:left≤1048576):∃ v,lT N x left=some v∧Szd v left (gV x):=by
 obtain ⟨w0,w1⟩:=w
 unfold lT
 unfold gV
 have:=ax eY x.Items (fun y _=>mm y)
 obtain ⟨v0,hv0,hs0⟩:=vt hN x.Items w0 left (by omega) (by omega)
 rw [hv0]; simp only [Option.bind_some]
 by_cases c0:v0 < 0
 ·rw [if_pos (by simpa using c0)]; exact ⟨-1,rfl,.inl (by omega)⟩
 rw [if_neg (by simpa using c0)]
 replace hs0:=hs0.resolve_left c0
 exact ⟨_,rfl,.inr ⟨by omega,by omega⟩⟩
def qH (x:aq):Prop:=(x.Args.length≤4294967296)
theorem DB (x:aq) (h:ff x≤1048576):qH x:=by
 unfold ff at h
 have nn_Args:∀ y∈x.Args,0≤eI y:=fun y _=>cF y
 have:=ax _ _ nn_Args
 unfold qH; omega
def qQ (x:bY):Prop:=(x.Args.length≤4294967296)
theorem Di (x:bY) (h:fe x≤1048576):qQ x:=by
 unfold fe at h
 have nn_Args:∀ y∈x.Args,0≤fE y:=fun y _=>jN y
 have:=ax _ _ nn_Args
 unfold qQ; omega
def qr (x:ac):Prop:=(x.Pats.length≤4294967296∧∀ y∈x.Pats,qH y)∧(x.Conds.length≤4294967296)∧(x.Acts.length≤4294967296∧∀ y∈x.Acts,qQ y)
theorem Cp (x:ac) (h:fd x≤1048576):qr x:=by
 unfold fd at h
 have nn_Pats:∀ y∈x.Pats,0≤ff y:=fun y _=>ov y
 have:=ax _ _ nn_Pats
 have nn_Conds:∀ y∈x.Conds,0≤fX y:=fun y _=>m8 y
 have:=ax _ _ nn_Conds
 have nn_Acts:∀ y∈x.Acts,0≤fe y:=fun y _=>oP y
 have:=ax _ _ nn_Acts
 exact ⟨⟨by omega,fun y hy=>DB y (by have:=fD _ _ nn_Pats y hy; omega)⟩,by omega,⟨by omega,fun y hy=>Di y (by have:=fD _ _ nn_Acts y hy; omega)⟩⟩
def vm (x:bi):Prop:=(x.Rules.length≤4294967296∧∀ y∈x.Rules,qr y)
theorem CU (x:bi) (h:lN x≤1048576):vm x:=by
 unfold lN at h
 have nn_Rules:∀ y∈x.Rules,0≤fd y:=fun y _=>mg y
 have:=ax _ _ nn_Rules
 exact ⟨by omega,fun y hy=>Cp y (by have:=fD _ _ nn_Rules y hy; omega)⟩
theorem tM {N:Nat} (hN:1099000000000≤N) (x:aQ):l5 N x=some x:=by
 unfold l5
 rfl
theorem kH {N:Nat} (hN:1099000000000≤N) (x:bk):hU N x=some x:=by
 unfold hU
 rw [tM hN _,Option.bind_some]
theorem xP {N:Nat} (hN:1099000000000≤N) (x:(List bk)) (h:(x.length≤4294967296)):o3 N x=some x:=by
 have hl:x.length≤4294967296:=h
 unfold o3
 rw [j8 _ (by omega),Option.bind_some]
 refine (lE (jl N x) x (by omega) (fun y=>hU N y) (fun y hy=>kH hN y) (fun k s i=>rfl) N 0 _ (by simp) (by omega) (by omega)).trans ?_
 simp
theorem BI {N:Nat} (hN:1099000000000≤N) (x:aq) (h:qH x):nw N x=some x:=by
 unfold nw
 rw [xP hN _ (h),Option.bind_some]
theorem y5 {N:Nat} (hN:1099000000000≤N) (x:(List aq)) (h:(x.length≤4294967296∧∀ y∈x,qH y)):oB N x=some x:=by
 have hl:x.length≤4294967296:=h.1
 unfold oB
 rw [j8 _ (by omega),Option.bind_some]
 refine (lE (jm N x) x (by omega) (fun y=>nw N y) (fun y hy=>BI hN y (h.2 y hy)) (fun k s i=>rfl) N 0 _ (by simp) (by omega) (by omega)).trans ?_
 simp
theorem zB {N:Nat} (hN:1099000000000≤N) (x:bA):kV N x=some x:=by
 unfold kV
 rw [kH hN _,Option.bind_some,kH hN _,Option.bind_some]
theorem xj {N:Nat} (hN:1099000000000≤N) (x:(List bA)) (h:(x.length≤4294967296)):mb N x=some x:=by
 have hl:x.length≤4294967296:=h
 unfold mb
 rw [j8 _ (by omega),Option.bind_some]
 refine (lE (iP N x) x (by omega) (fun y=>kV N y) (fun y hy=>zB hN y) (fun k s i=>rfl) N 0 _ (by simp) (by omega) (by omega)).trans ?_
 simp
theorem yA {N:Nat} (hN:1099000000000≤N) (x:bv):kU N x=some x:=by
 unfold kU
 rw [kH hN _,Option.bind_some,kH hN _,Option.bind_some]
theorem xE {N:Nat} (hN:1099000000000≤N) (x:(List bv)) (h:(x.length≤4294967296)):lU N x=some x:=by
 have hl:x.length≤4294967296:=h
 unfold lU
 rw [j8 _ (by omega),Option.bind_some]
 refine (lE (iK N x) x (by omega) (fun y=>kU N y) (fun y hy=>yA hN y) (fun k s i=>rfl) N 0 _ (by simp) (by omega) (by omega)).trans ?_
 simp
theorem Aq {N:Nat} (hN:1099000000000≤N) (x:bY) (h:qQ x):nq N x=some x:=by
 unfold nq
 rw [xE hN _ (h),Option.bind_some]
theorem yw {N:Nat} (hN:1099000000000≤N) (x:(List bY)) (h:(x.length≤4294967296∧∀ y∈x,qQ y)):nX N x=some x:=by
 have hl:x.length≤4294967296:=h.1
 unfold nX
 rw [j8 _ (by omega),Option.bind_some]
 refine (lE (jp N x) x (by omega) (fun y=>nq N y) (fun y hy=>Aq hN y (h.2 y hy)) (fun k s i=>rfl) N 0 _ (by simp) (by omega) (by omega)).trans ?_
 simp
theorem y6 {N:Nat} (hN:1099000000000≤N) (x:ac) (h:qr x):kX N x=some x:=by
 unfold kX
 rw [y5 hN _ (h.1),Option.bind_some,xj hN _ (h.2.1),Option.bind_some,yw hN _ (h.2.2),Option.bind_some]
theorem wi {N:Nat} (hN:1099000000000≤N) (x:(List ac)) (h:(x.length≤4294967296∧∀ y∈x,qr y)):mr N x=some x:=by
 have hl:x.length≤4294967296:=h.1
 unfold mr
 rw [j8 _ (by omega),Option.bind_some]
 refine (lE (iS N x) x (by omega) (fun y=>kX N y) (fun y hy=>y6 hN y (h.2 y hy)) (fun k s i=>rfl) N 0 _ (by simp) (by omega) (by omega)).trans ?_
 simp
theorem An {N:Nat} (hN:1099000000000≤N) (x:bi) (h:vm x):l4 N x=some x:=by
 unfold l4
 rw [wi hN _ (h),Option.bind_some]
def po (x:aR):Prop:=(x.L.length≤4294967296)
theorem Dc (x:aR) (h:iB x≤1048576):po x:=by
 unfold iB at h
 unfold po; omega
def sk (x:aa):Prop:=(x.Ids.length≤4294967296)∧(x.Hits.length≤4294967296)
theorem Db (x:aa) (h:iC x≤1048576):sk x:=by
 unfold iC at h
 exact ⟨by omega,by omega⟩
def nC (x:ab):Prop:=(x.Toks.length≤4294967296∧∀ y∈x.Toks,sk y)
theorem BS (x:ab) (h:dp x≤1048576):nC x:=by
 unfold dp at h
 have nn_Toks:∀ y∈x.Toks,0≤iC y:=fun y _=>qF y
 have:=ax _ _ nn_Toks
 exact ⟨by omega,fun y hy=>Db y (by have:=fD _ _ nn_Toks y hy; omega)⟩
def qV (x:aG):Prop:=(x.Levels.length≤4294967296∧∀ y∈x.Levels,nC y)
theorem CR (x:aG) (h:gE x≤1048576):qV x:=by
 unfold gE at h
 have nn_Levels:∀ y∈x.Levels,0≤dp y:=fun y _=>nh y
 have:=ax _ _ nn_Levels
 exact ⟨by omega,fun y hy=>BS y (by have:=fD _ _ nn_Levels y hy; omega)⟩
def sv (x:aK):Prop:=(x.Alphas.length≤4294967296∧∀ y∈x.Alphas,po y)∧(x.Rules.length≤4294967296∧∀ y∈x.Rules,qV y)
theorem wV (x:aK) (h:lL x≤1048576):sv x:=by
 unfold lL at h
 have nn_Alphas:∀ y∈x.Alphas,0≤iB y:=fun y _=>qD y
 have:=ax _ _ nn_Alphas
 have nn_Rules:∀ y∈x.Rules,0≤gE y:=fun y _=>rd y
 have:=ax _ _ nn_Rules
 exact ⟨⟨by omega,fun y hy=>Dc y (by have:=fD _ _ nn_Alphas y hy; omega)⟩,⟨by omega,fun y hy=>CR y (by have:=fD _ _ nn_Rules y hy; omega)⟩⟩
theorem pH {N:Nat} (hN:1099000000000≤N) (x:(List Int)) (h:(x.length≤4294967296)):jB N x=some x:=by
 have hl:x.length≤4294967296:=h
 unfold jB
 rw [j8 _ (by omega),Option.bind_some]
 refine (lE (jc N x) x (by omega) (fun y=>some y) (fun y _=>rfl) (fun k s i=>rfl) N 0 _ (by simp) (by omega) (by omega)).trans ?_
 simp
theorem AN {N:Nat} (hN:1099000000000≤N) (x:aR) (h:po x):np N x=some x:=by
 unfold np
 rw [pH hN _ (h),Option.bind_some]
theorem xX {N:Nat} (hN:1099000000000≤N) (x:(List aR)) (h:(x.length≤4294967296∧∀ y∈x,po y)):oL N x=some x:=by
 have hl:x.length≤4294967296:=h.1
 unfold oL
 rw [j8 _ (by omega),Option.bind_some]
 refine (lE (je N x) x (by omega) (fun y=>np N y) (fun y hy=>AN hN y (h.2 y hy)) (fun k s i=>rfl) N 0 _ (by simp) (by omega) (by omega)).trans ?_
 simp
theorem Ao {N:Nat} (hN:1099000000000≤N) (x:aa) (h:sk x):nH N x=some x:=by
 unfold nH
 rw [pH hN _ (h.1),Option.bind_some,pH hN _ (h.2),Option.bind_some]
theorem z6 {N:Nat} (hN:1099000000000≤N) (x:(List aa)) (h:(x.length≤4294967296∧∀ y∈x,sk y)):o7 N x=some x:=by
 have hl:x.length≤4294967296:=h.1
 unfold o7
 rw [j8 _ (by omega),Option.bind_some]
 refine (lE (jk N x) x (by omega) (fun y=>nH N y) (fun y hy=>Ao hN y (h.2 y hy)) (fun k s i=>rfl) N 0 _ (by simp) (by omega) (by omega)).trans ?_
 simp
theorem wO {N:Nat} (hN:1099000000000≤N) (x:ab) (h:nC x):jH N x=some x:=by
 unfold jH
 rw [z6 hN _ (h),Option.bind_some]
theorem uO {N:Nat} (hN:1099000000000≤N) (x:(List ab)) (h:(x.length≤4294967296∧∀ y∈x,nC y)):kz N x=some x:=by
 have hl:x.length≤4294967296:=h.1
 unfold kz
 rw [j8 _ (by omega),Option.bind_some]
 refine (lE (gQ N x) x (by omega) (fun y=>jH N y) (fun y hy=>wO hN y (h.2 y hy)) (fun k s i=>rfl) N 0 _ (by simp) (by omega) (by omega)).trans ?_
 simp
theorem Bm {N:Nat} (hN:1099000000000≤N) (x:aG) (h:qV x):nm N x=some x:=by
 unfold nm
 rw [uO hN _ (h),Option.bind_some]
theorem yt {N:Nat} (hN:1099000000000≤N) (x:(List aG)) (h:(x.length≤4294967296∧∀ y∈x,qV y)):nP N x=some x:=by
 have hl:x.length≤4294967296:=h.1
 unfold nP
 rw [j8 _ (by omega),Option.bind_some]
 refine (lE (ja N x) x (by omega) (fun y=>nm N y) (fun y hy=>Bm hN y (h.2 y hy)) (fun k s i=>rfl) N 0 _ (by simp) (by omega) (by omega)).trans ?_
 simp
theorem Aw {N:Nat} (hN:1099000000000≤N) (x:aK) (h:sv x):kW N x=some x:=by
 unfold kW
 rw [xX hN _ (h.1),Option.bind_some,yt hN _ (h.2),Option.bind_some]
def rH (x:aw):Prop:=(x.Fields.length≤4294967296)
theorem Cr (x:aw) (h:lY x≤1048576):rH x:=by
 unfold lY at h
 have nn_Fields:∀ y∈x.Fields,0≤fV y:=fun y _=>jA y
 have:=ax _ _ nn_Fields
 unfold rH; omega
def qg (x:ao):Prop:=rH x.F
theorem Cw (x:ao) (h:eY x≤1048576):qg x:=by
 unfold eY at h
 have:=rD x.F
 exact Cr _ (by omega)
def sd (x:ae):Prop:=(x.Items.length≤4294967296∧∀ y∈x.Items,qg y)
theorem BU (x:ae) (h:gV x≤1048576):sd x:=by
 unfold gV at h
 have nn_Items:∀ y∈x.Items,0≤eY y:=fun y _=>mm y
 have:=ax _ _ nn_Items
 exact ⟨by omega,fun y hy=>Cw y (by have:=fD _ _ nn_Items y hy; omega)⟩
theorem yE {N:Nat} (hN:1099000000000≤N) (x:(List aQ)) (h:(x.length≤4294967296)):oM N x=some x:=by
 have hl:x.length≤4294967296:=h
 unfold oM
 rw [j8 _ (by omega),Option.bind_some]
 refine (lE (jf N x) x (by omega) (fun y=>l5 N y) (fun y hy=>tM hN y) (fun k s i=>rfl) N 0 _ (by simp) (by omega) (by omega)).trans ?_
 simp
theorem yd {N:Nat} (hN:1099000000000≤N) (x:aw) (h:rH x):o4 N x=some x:=by
 unfold o4
 rw [yE hN _ (h),Option.bind_some]
theorem xI {N:Nat} (hN:1099000000000≤N) (x:ao) (h:qg x):lH N x=some x:=by
 unfold lH
 rw [yd hN _ (h),Option.bind_some]
theorem wQ {N:Nat} (hN:1099000000000≤N) (x:(List ao)) (h:(x.length≤4294967296∧∀ y∈x,qg y)):mh N x=some x:=by
 have hl:x.length≤4294967296:=h.1
 unfold mh
 rw [j8 _ (by omega),Option.bind_some]
 refine (lE (iT N x) x (by omega) (fun y=>lH N y) (fun y hy=>xI hN y (h.2 y hy)) (fun k s i=>rfl) N 0 _ (by simp) (by omega) (by omega)).trans ?_
 simp
theorem xD {N:Nat} (hN:1099000000000≤N) (x:ae) (h:sd x):iO N x=some x:=by
 unfold iO
 rw [wQ hN _ (h),Option.bind_some]
theorem tv {N:Nat} (hN:1099000000000≤N) (x y:aQ):lh N x y=some (decide (x=y)):=by
 unfold lh
 simp only [dD,Option.bind_some]
 obtain ⟨a0,a1,a2⟩:=x; obtain ⟨b0,b1,b2⟩:=y
 simp only [aQ.mk.injEq]
 by_cases c0:a0=b0
 ·subst c0
  by_cases c1:a1=b1
  ·subst c1
   by_cases c2:a2=b2
   ·subst c2
    simp
   ·simp [c2]
  ·simp [c1]
 ·simp [c0]
theorem kI {N:Nat} (hN:1099000000000≤N) (x y:bk):i9 N x y=some (decide (x=y)):=by
 unfold i9
 rw [tv hN _ _]
 simp only [dD,Option.bind_some]
 obtain ⟨a0,a1,a2⟩:=x; obtain ⟨b0,b1,b2⟩:=y
 simp only [bk.mk.injEq]
 by_cases c0:a0=b0
 ·subst c0
  by_cases c1:a1=b1
  ·subst c1
   by_cases c2:a2=b2
   ·subst c2
    simp
   ·simp [c2]
  ·simp [c1]
 ·simp [c0]
theorem yG {N:Nat} (hN:1099000000000≤N) (x y:(List bk)) (h:(x.length≤4294967296)):oh N x y=some (decide (x=y)):=by
 have hl:x.length≤4294967296:=h
 unfold oh
 by_cases c:x.length=y.length
 ·rw [if_neg (by simp; omega)]
  refine (iu (gZ N x y) x y c (by omega) (fun a b=>i9 N a b) (fun a ha b hb=>kI hN a b) (fun k i=>rfl) N 0 (by omega) (by omega)).trans ?_
  simp
 ·rw [if_pos (by simp; omega)]
  have : ¬ x=y:=fun e=>c (by rw [e])
  simp [this]
theorem BP {N:Nat} (hN:1099000000000≤N) (x y:aq) (h:qH x):nE N x y=some (decide (x=y)):=by
 unfold nE
 rw [yG hN _ _ (h)]
 simp only [dD,Option.bind_some]
 obtain ⟨a0,a1,a2⟩:=x; obtain ⟨b0,b1,b2⟩:=y
 simp only [aq.mk.injEq]
 by_cases c0:a0=b0
 ·subst c0
  by_cases c1:a1=b1
  ·subst c1
   by_cases c2:a2=b2
   ·subst c2
    simp
   ·simp [c2]
  ·simp [c1]
 ·simp [c0]
theorem yU {N:Nat} (hN:1099000000000≤N) (x y:(List aq)) (h:(x.length≤4294967296∧∀ y∈x,qH y)):o6 N x y=some (decide (x=y)):=by
 have hl:x.length≤4294967296:=h.1
 unfold o6
 by_cases c:x.length=y.length
 ·rw [if_neg (by simp; omega)]
  refine (iu (gW N x y) x y c (by omega) (fun a b=>nE N a b) (fun a ha b hb=>BP hN a b (h.2 a ha)) (fun k i=>rfl) N 0 (by omega) (by omega)).trans ?_
  simp
 ·rw [if_pos (by simp; omega)]
  have : ¬ x=y:=fun e=>c (by rw [e])
  simp [this]
theorem ye {N:Nat} (hN:1099000000000≤N) (x y:bA):lJ N x y=some (decide (x=y)):=by
 unfold lJ
 rw [kI hN _ _,kI hN _ _]
 simp only [dD,Option.bind_some]
 obtain ⟨a0,a1,a2⟩:=x; obtain ⟨b0,b1,b2⟩:=y
 simp only [bA.mk.injEq]
 by_cases c0:a0=b0
 ·subst c0
  by_cases c1:a1=b1
  ·subst c1
   by_cases c2:a2=b2
   ·subst c2
    simp
   ·simp [c2]
  ·simp [c1]
 ·simp [c0]
theorem xw {N:Nat} (hN:1099000000000≤N) (x y:(List bA)) (h:(x.length≤4294967296)):mj N x y=some (decide (x=y)):=by
 have hl:x.length≤4294967296:=h
 unfold mj
 by_cases c:x.length=y.length
 ·rw [if_neg (by simp; omega)]
  refine (iu (gc N x y) x y c (by omega) (fun a b=>lJ N a b) (fun a ha b hb=>ye hN a b) (fun k i=>rfl) N 0 (by omega) (by omega)).trans ?_
  simp
 ·rw [if_pos (by simp; omega)]
  have : ¬ x=y:=fun e=>c (by rw [e])
  simp [this]
theorem zA {N:Nat} (hN:1099000000000≤N) (x y:bv):li N x y=some (decide (x=y)):=by
 unfold li
 rw [kI hN _ _,kI hN _ _]
 simp only [dD,Option.bind_some]
 obtain ⟨a0,a1,a2⟩:=x; obtain ⟨b0,b1,b2⟩:=y
 simp only [bv.mk.injEq]
 by_cases c0:a0=b0
 ·subst c0
  by_cases c1:a1=b1
  ·subst c1
   by_cases c2:a2=b2
   ·subst c2
    simp
   ·simp [c2]
  ·simp [c1]
 ·simp [c0]
theorem xy {N:Nat} (hN:1099000000000≤N) (x y:(List bv)) (h:(x.length≤4294967296)):m4 N x y=some (decide (x=y)):=by
 have hl:x.length≤4294967296:=h
 unfold m4
 by_cases c:x.length=y.length
 ·rw [if_neg (by simp; omega)]
  refine (iu (fY N x y) x y c (by omega) (fun a b=>li N a b) (fun a ha b hb=>zA hN a b) (fun k i=>rfl) N 0 (by omega) (by omega)).trans ?_
  simp
 ·rw [if_pos (by simp; omega)]
  have : ¬ x=y:=fun e=>c (by rw [e])
  simp [this]
theorem BN {N:Nat} (hN:1099000000000≤N) (x y:bY) (h:qQ x):nK N x y=some (decide (x=y)):=by
 unfold nK
 rw [xy hN _ _ (h)]
 simp only [dD,Option.bind_some]
 obtain ⟨a0,a1,a2,a3,a4⟩:=x; obtain ⟨b0,b1,b2,b3,b4⟩:=y
 simp only [bY.mk.injEq]
 by_cases c0:a0=b0
 ·subst c0
  by_cases c1:a1=b1
  ·subst c1
   by_cases c2:a2=b2
   ·subst c2
    by_cases c3:a3=b3
    ·subst c3
     by_cases c4:a4=b4
     ·subst c4
      simp
     ·simp [c4]
    ·simp [c3]
   ·simp [c2]
  ·simp [c1]
 ·simp [c0]
theorem yo {N:Nat} (hN:1099000000000≤N) (x y:(List bY)) (h:(x.length≤4294967296∧∀ y∈x,qQ y)):o8 N x y=some (decide (x=y)):=by
 have hl:x.length≤4294967296:=h.1
 unfold o8
 by_cases c:x.length=y.length
 ·rw [if_neg (by simp; omega)]
  refine (iu (ir N x y) x y c (by omega) (fun a b=>nK N a b) (fun a ha b hb=>BN hN a b (h.2 a ha)) (fun k i=>rfl) N 0 (by omega) (by omega)).trans ?_
  simp
 ·rw [if_pos (by simp; omega)]
  have : ¬ x=y:=fun e=>c (by rw [e])
  simp [this]
theorem xJ {N:Nat} (hN:1099000000000≤N) (x y:ac) (h:qr x):lw N x y=some (decide (x=y)):=by
 unfold lw
 rw [yU hN _ _ (h.1),xw hN _ _ (h.2.1),yo hN _ _ (h.2.2)]
 simp only [dD,Option.bind_some]
 obtain ⟨a0,a1,a2,a3,a4⟩:=x; obtain ⟨b0,b1,b2,b3,b4⟩:=y
 simp only [ac.mk.injEq]
 by_cases c0:a0=b0
 ·subst c0
  by_cases c1:a1=b1
  ·subst c1
   by_cases c2:a2=b2
   ·subst c2
    by_cases c3:a3=b3
    ·subst c3
     by_cases c4:a4=b4
     ·subst c4
      simp
     ·simp [c4]
    ·simp [c3]
   ·simp [c2]
  ·simp [c1]
 ·simp [c0]
theorem vN {N:Nat} (hN:1099000000000≤N) (x y:(List ac)) (h:(x.length≤4294967296∧∀ y∈x,qr y)):lX N x y=some (decide (x=y)):=by
 have hl:x.length≤4294967296:=h.1
 unfold lX
 by_cases c:x.length=y.length
 ·rw [if_neg (by simp; omega)]
  refine (iu (gr N x y) x y c (by omega) (fun a b=>lw N a b) (fun a ha b hb=>xJ hN a b (h.2 a ha)) (fun k i=>rfl) N 0 (by omega) (by omega)).trans ?_
  simp
 ·rw [if_pos (by simp; omega)]
  have : ¬ x=y:=fun e=>c (by rw [e])
  simp [this]
theorem AC {N:Nat} (hN:1099000000000≤N) (x y:bi) (h:vm x):ql N x y=some (decide (x=y)):=by
 unfold ql
 rw [vN hN _ _ (h)]
 simp only [dD,Option.bind_some]
 obtain ⟨a0,a1⟩:=x; obtain ⟨b0,b1⟩:=y
 simp only [bi.mk.injEq]
 by_cases c0:a0=b0
 ·subst c0
  by_cases c1:a1=b1
  ·subst c1
   simp
  ·simp [c1]
 ·simp [c0]
theorem pU {N:Nat} (hN:1099000000000≤N) (x y:(List Int)) (h:(x.length≤4294967296)):jF N x y=some (decide (x=y)):=by
 have hl:x.length≤4294967296:=h
 unfold jF
 by_cases c:x.length=y.length
 ·rw [if_neg (by simp; omega)]
  refine (iu (ic N x y) x y c (by omega) (fun a b=>some (decide (a=b))) (fun a _ b _=>rfl) (fun k i=>rfl) N 0 (by omega) (by omega)).trans ?_
  simp
 ·rw [if_pos (by simp; omega)]
  have : ¬ x=y:=fun e=>c (by rw [e])
  simp [this]
theorem Ax {N:Nat} (hN:1099000000000≤N) (x y:aR) (h:po x):nI N x y=some (decide (x=y)):=by
 unfold nI
 rw [pU hN _ _ (h)]
 simp only [dD,Option.bind_some]
 obtain ⟨a0⟩:=x; obtain ⟨b0⟩:=y
 simp only [aR.mk.injEq]
 by_cases c0:a0=b0
 ·subst c0
  simp
 ·simp [c0]
theorem yJ {N:Nat} (hN:1099000000000≤N) (x y:(List aR)) (h:(x.length≤4294967296∧∀ y∈x,po y)):oq N x y=some (decide (x=y)):=by
 have hl:x.length≤4294967296:=h.1
 unfold oq
 by_cases c:x.length=y.length
 ·rw [if_neg (by simp; omega)]
  refine (iu (ie N x y) x y c (by omega) (fun a b=>nI N a b) (fun a ha b hb=>Ax hN a b (h.2 a ha)) (fun k i=>rfl) N 0 (by omega) (by omega)).trans ?_
  simp
 ·rw [if_pos (by simp; omega)]
  have : ¬ x=y:=fun e=>c (by rw [e])
  simp [this]
theorem B8 {N:Nat} (hN:1099000000000≤N) (x y:aa) (h:sk x):ny N x y=some (decide (x=y)):=by
 unfold ny
 rw [pU hN _ _ (h.1),pU hN _ _ (h.2)]
 simp only [dD,Option.bind_some]
 obtain ⟨a0,a1⟩:=x; obtain ⟨b0,b1⟩:=y
 simp only [aa.mk.injEq]
 by_cases c0:a0=b0
 ·subst c0
  by_cases c1:a1=b1
  ·subst c1
   simp
  ·simp [c1]
 ·simp [c0]
theorem xM {N:Nat} (hN:1099000000000≤N) (x y:(List aa)) (h:(x.length≤4294967296∧∀ y∈x,sk y)):oX N x y=some (decide (x=y)):=by
 have hl:x.length≤4294967296:=h.1
 unfold oX
 by_cases c:x.length=y.length
 ·rw [if_neg (by simp; omega)]
  refine (iu (it N x y) x y c (by omega) (fun a b=>ny N a b) (fun a ha b hb=>B8 hN a b (h.2 a ha)) (fun k i=>rfl) N 0 (by omega) (by omega)).trans ?_
  simp
 ·rw [if_pos (by simp; omega)]
  have : ¬ x=y:=fun e=>c (by rw [e])
  simp [this]
theorem xk {N:Nat} (hN:1099000000000≤N) (x y:ab) (h:nC x):jL N x y=some (decide (x=y)):=by
 unfold jL
 rw [xM hN _ _ (h)]
 simp only [dD,Option.bind_some]
 obtain ⟨a0⟩:=x; obtain ⟨b0⟩:=y
 simp only [ab.mk.injEq]
 by_cases c0:a0=b0
 ·subst c0
  simp
 ·simp [c0]
theorem vg {N:Nat} (hN:1099000000000≤N) (x y:(List ab)) (h:(x.length≤4294967296∧∀ y∈x,nC y)):kv N x y=some (decide (x=y)):=by
 have hl:x.length≤4294967296:=h.1
 unfold kv
 by_cases c:x.length=y.length
 ·rw [if_neg (by simp; omega)]
  refine (iu (fu N x y) x y c (by omega) (fun a b=>jL N a b) (fun a ha b hb=>xk hN a b (h.2 a ha)) (fun k i=>rfl) N 0 (by omega) (by omega)).trans ?_
  simp
 ·rw [if_pos (by simp; omega)]
  have : ¬ x=y:=fun e=>c (by rw [e])
  simp [this]
theorem AD {N:Nat} (hN:1099000000000≤N) (x y:aG) (h:qV x):nu N x y=some (decide (x=y)):=by
 unfold nu
 rw [vg hN _ _ (h)]
 simp only [dD,Option.bind_some]
 obtain ⟨a0⟩:=x; obtain ⟨b0⟩:=y
 simp only [aG.mk.injEq]
 by_cases c0:a0=b0
 ·subst c0
  simp
 ·simp [c0]
theorem yF {N:Nat} (hN:1099000000000≤N) (x y:(List aG)) (h:(x.length≤4294967296∧∀ y∈x,qV y)):oG N x y=some (decide (x=y)):=by
 have hl:x.length≤4294967296:=h.1
 unfold oG
 by_cases c:x.length=y.length
 ·rw [if_neg (by simp; omega)]
  refine (iu (hY N x y) x y c (by omega) (fun a b=>nu N a b) (fun a ha b hb=>AD hN a b (h.2 a ha)) (fun k i=>rfl) N 0 (by omega) (by omega)).trans ?_
  simp
 ·rw [if_pos (by simp; omega)]
  have : ¬ x=y:=fun e=>c (by rw [e])
  simp [this]
theorem Bh {N:Nat} (hN:1099000000000≤N) (x y:aK) (h:sv x):qw N x y=some (decide (x=y)):=by
 unfold qw
 rw [yJ hN _ _ (h.1),yF hN _ _ (h.2)]
 simp only [dD,Option.bind_some]
 obtain ⟨a0,a1⟩:=x; obtain ⟨b0,b1⟩:=y
 simp only [aK.mk.injEq]
 by_cases c0:a0=b0
 ·subst c0
  by_cases c1:a1=b1
  ·subst c1
   simp
  ·simp [c1]
 ·simp [c0]
theorem zm {N:Nat} (hN:1099000000000≤N) (x y:(List aQ)) (h:(x.length≤4294967296)):oV N x y=some (decide (x=y)):=by
 have hl:x.length≤4294967296:=h
 unfold oV
 by_cases c:x.length=y.length
 ·rw [if_neg (by simp; omega)]
  refine (iu (gY N x y) x y c (by omega) (fun a b=>lh N a b) (fun a ha b hb=>tv hN a b) (fun k i=>rfl) N 0 (by omega) (by omega)).trans ?_
  simp
 ·rw [if_pos (by simp; omega)]
  have : ¬ x=y:=fun e=>c (by rw [e])
  simp [this]
theorem zc {N:Nat} (hN:1099000000000≤N) (x y:aw) (h:rH x):ou N x y=some (decide (x=y)):=by
 unfold ou
 rw [zm hN _ _ (h)]
 simp only [dD,Option.bind_some]
 obtain ⟨a0,a1⟩:=x; obtain ⟨b0,b1⟩:=y
 simp only [aw.mk.injEq]
 by_cases c0:a0=b0
 ·subst c0
  by_cases c1:a1=b1
  ·subst c1
   simp
  ·simp [c1]
 ·simp [c0]
theorem yD {N:Nat} (hN:1099000000000≤N) (x y:ao) (h:qg x):lG N x y=some (decide (x=y)):=by
 unfold lG
 rw [zc hN _ _ (h)]
 simp only [dD,Option.bind_some]
 obtain ⟨a0,a1⟩:=x; obtain ⟨b0,b1⟩:=y
 simp only [ao.mk.injEq]
 by_cases c0:a0=b0
 ·subst c0
  by_cases c1:a1=b1
  ·subst c1
   simp
  ·simp [c1]
 ·simp [c0]
theorem w7 {N:Nat} (hN:1099000000000≤N) (x y:(List ao)) (h:(x.length≤4294967296∧∀ y∈x,qg y)):mC N x y=some (decide (x=y)):=by
 have hl:x.length≤4294967296:=h.1
 unfold mC
 by_cases c:x.length=y.length
 ·rw [if_neg (by simp; omega)]
  refine (iu (gl N x y) x y c (by omega) (fun a b=>lG N a b) (fun a ha b hb=>yD hN a b (h.2 a ha)) (fun k i=>rfl) N 0 (by omega) (by omega)).trans ?_
  simp
 ·rw [if_pos (by simp; omega)]
  have : ¬ x=y:=fun e=>c (by rw [e])
  simp [this]
theorem wR {N:Nat} (hN:1099000000000≤N) (x y:ae) (h:sd x):mE N x y=some (decide (x=y)):=by
 unfold mE
 rw [w7 hN _ _ (h)]
 simp only [dD,Option.bind_some]
 obtain ⟨a0,a1⟩:=x; obtain ⟨b0,b1⟩:=y
 simp only [ae.mk.injEq]
 by_cases c0:a0=b0
 ·subst c0
  by_cases c1:a1=b1
  ·subst c1
   simp
  ·simp [c1]
 ·simp [c0]
end Go.Proofs.YtiljnppocjgkkaaGreat
