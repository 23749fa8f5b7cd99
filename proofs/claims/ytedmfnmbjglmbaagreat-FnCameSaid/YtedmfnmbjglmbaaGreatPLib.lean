/-
  Plain laws of the loops that the printed functions are made of. No program, no memory.
-/
import Derived.Test.YtedmfnmbjglmbaaGreatEG
import Derived.Test.YtedmfnmbjglmbaaGreatEI
namespace Go.Proofs.YtedmfnmbjglmbaaGreat
open Eng
set_option linter.unusedVariables false
set_option linter.unusedSimpArgs false

theorem wr {n:Int} (h : -9223372036854775808≤n) (c:n < 9223372036854775808):IntKind.i64.wrap n=n:=by
  have:IntKind.i64.wrap n=(n+9223372036854775808) % 18446744073709551616 - 9223372036854775808:=by
    simp only[IntKind.wrap,IntKind.bits,IntKind.signed]
    have a:(2:Int) ^ 64=18446744073709551616:=by decide
    have b:(2:Int) ^ (64 - 1)=9223372036854775808:=by decide
    simp only[a,b,Bool.true_and,decide_eq_true_eq]
    split <;> omega
  rw[this];omega

theorem wr1 (i:Nat) (h:i≤4611686018427387904):IntKind.i64.wrap ((i:Int)+1)=((i+1:Nat):Int):=by
  rw[wr NR NR];rfl

theorem nE {α:Type} (xs:List α) (i:Nat):idx xs (i:Int)=xs[i]?:=by simp[idx]
theorem ah {α:Type} {xs:List α} {i:Nat} (h:i < xs.length):idx xs (i:Int)=some xs[i]:=by rw[nE,List.getElem?_eq_getElem h]

theorem toList_inj {a b:ByteArray} (h:a.toList=b.toList):a=b:=by
  rw[ByteArray.toList_eq,ByteArray.toList_eq] at h
  exact ByteArray.ext (Array.toList_inj.1 h)

theorem kZ (a b:ByteArray):seq a b=decide (a=b):=by
  unfold seq
  by_cases h:a=b
  · subst h;simp
  · have : ¬ a.toList=b.toList:=fun e=>h (toList_inj e)
    simp[h,this]

theorem kf (a:ByteArray):seq a a=true:=by simp[kZ]

theorem qn {α:Type} [DecidableEq α] (f:Nat→Int→Option Bool) (a b:List α) (o:a.length=b.length) (hm:a.length≤4611686018427387903) (e:α→α→Option Bool) (he:∀ x∈a,∀ y∈b,e x y=some (decide (x=y)))
    (h:∀ k i,f (k+1) i=if decide (i < (a.length:Int)) then (idx a i).bind fun x=>(idx b i).bind fun y=>(e x y).bind fun t=>if !t then some false else f k (IntKind.i64.wrap (i+1)) else some true) :
    ∀ (n i:Nat),i≤a.length→a.length - i < n→f n i=some (decide (a.drop i=b.drop i)):=by
  intro n
  induction n with
  | zero=>intro i _ h;omega
  | succ n j=>
    intro i p q
    rw[h]
    by_cases c:i < a.length
    · have h1:decide ((i:Int) < (a.length:Int))=true:=by simp;omega
      have d:i < b.length:=by omega
      rw[if_pos h1,ah c,ah d,fz,fz,he _ (List.getElem_mem c) _ (List.getElem_mem d),fz,wr1 i NR,j (i+1) NR NR]
      have l:=gI c
      have m:=gI d
      rw[l,m]
      by_cases g:a[i]=b[i]
      · simp only[g,decide_true,Bool.not_true,Bool.false_eq_true,if_false,List.cons.injEq,true_and]
      · simp only[g,decide_false,Bool.not_false,if_true,List.cons.injEq,false_and]
    · have h1 : ¬ decide ((i:Int) < (a.length:Int))=true:=by simp;omega
      rw[if_neg h1,hz NR,hz NR]
      simp

theorem Dc {α:Type} (z:α) {n:Nat} (h:n≤4294967296):mk z (n:Int)=some (List.replicate n z):=by
  unfold mk
  rw[if_pos ⟨NR,NR⟩,Int.toNat_natCast]


def one {α:Type} (_:α):Int:=1
end Go.Proofs.YtedmfnmbjglmbaaGreat
