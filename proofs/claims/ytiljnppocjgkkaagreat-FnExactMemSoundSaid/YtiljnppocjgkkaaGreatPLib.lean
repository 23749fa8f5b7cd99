/-
  Plain laws of the loops that the printed functions are made of. No program, no memory.
-/
import Derived.Test.YtiljnppocjgkkaaGreatEG
import Derived.Test.YtiljnppocjgkkaaGreatEI
namespace Go.Proofs.YtiljnppocjgkkaaGreat
open Eng
set_option linter.unusedVariables false
set_option linter.unusedSimpArgs false

theorem wr {n:Int} (h : -9223372036854775808≤n) (h':n < 9223372036854775808):IntKind.i64.wrap n=n:=by
  have:IntKind.i64.wrap n=(n+9223372036854775808) % 18446744073709551616 - 9223372036854775808:=by
    simp only [IntKind.wrap,IntKind.bits,IntKind.signed]
    have e1:(2:Int) ^ 64=18446744073709551616:=by decide
    have e2:(2:Int) ^ (64 - 1)=9223372036854775808:=by decide
    simp only [e1,e2,Bool.true_and,decide_eq_true_eq]
    split <;> omega
  rw [this]; omega

theorem wr1 (i:Nat) (h:i≤4611686018427387904):IntKind.i64.wrap ((i:Int)+1)=((i+1:Nat):Int):=by
  rw [wr (by omega) (by omega)]; rfl

theorem kK {α:Type} (xs:List α) (i:Nat):idx xs (i:Int)=xs[i]?:=by simp [idx]
theorem ag {α:Type} {xs:List α} {i:Nat} (h:i < xs.length):idx xs (i:Int)=some xs[i]:=by rw [kK,List.getElem?_eq_getElem h]

theorem toList_inj {a b:ByteArray} (h:a.toList=b.toList):a=b:=by
  rw [ByteArray.toList_eq,ByteArray.toList_eq] at h
  exact ByteArray.ext (Array.toList_inj.1 h)

theorem dB (a b:ByteArray):seq a b=decide (a=b):=by
  unfold seq
  by_cases h:a=b
  · subst h; simp
  · have : ¬ a.toList=b.toList:=fun e=>h (toList_inj e)
    simp [h,this]

theorem Fe (a:ByteArray):seq a a=true:=by simp [dB]

theorem it {α:Type} [DecidableEq α] (f:Nat→Int→Option Bool) (a b:List α) (hl:a.length=b.length) (hm:a.length≤4611686018427387903) (e:α→α→Option Bool) (he:∀ x∈a,∀ y∈b,e x y=some (decide (x=y)))
    (h:∀ k i,f (k+1) i=if decide (i < (a.length:Int)) then (idx a i).bind fun x=>(idx b i).bind fun y=>(e x y).bind fun t=>if !t then some false else f k (IntKind.i64.wrap (i+1)) else some true) :
    ∀ (n i:Nat),i≤a.length→a.length - i < n→f n i=some (decide (a.drop i=b.drop i)):=by
  intro n
  induction n with
  | zero=>intro i _ h; omega
  | succ n ih=>
    intro i hi hn
    rw [h]
    by_cases hlt:i < a.length
    · have h1:decide ((i:Int) < (a.length:Int))=true:=by simp; omega
      have hlt':i < b.length:=by omega
      rw [if_pos h1,ag hlt,ag hlt',Option.bind_some,Option.bind_some,he _ (List.getElem_mem hlt) _ (List.getElem_mem hlt'),Option.bind_some,wr1 i (by omega),ih (i+1) (by omega) (by omega)]
      have ea:=List.drop_eq_getElem_cons hlt
      have eb:=List.drop_eq_getElem_cons hlt'
      rw [ea,eb]
      by_cases hx:a[i]=b[i]
      · simp only [hx,decide_true,Bool.not_true,Bool.false_eq_true,if_false,List.cons.injEq,true_and]
      · simp only [hx,decide_false,Bool.not_false,if_true,List.cons.injEq,false_and]
    · have h1 : ¬ decide ((i:Int) < (a.length:Int))=true:=by simp; omega
      rw [if_neg h1,List.drop_of_length_le (by omega),List.drop_of_length_le (by omega)]
      simp

theorem l8 {α:Type} (f:Nat→List α→Int→Option (List α)) (p:List α) (hm:p.length≤4611686018427387903) (e:α→Option α) (he:∀ x∈p,e x=some x)
    (h:∀ k s i,f (k+1) s i=if decide (i < (p.length:Int)) then (idx p i).bind fun x=>(e x).bind fun y=>(idx s i).bind fun _=>f k (s.set i.toNat y) (IntKind.i64.wrap (i+1)) else some s) :
    ∀ (n i:Nat) (s:List α),s.length=p.length→i≤p.length→p.length - i < n→f n s i=some (s.take i++p.drop i):=by
  intro n
  induction n with
  | zero=>intro i s _ _ h; omega
  | succ n ih=>
    intro i s hs hi hn
    rw [h]
    by_cases hlt:i < p.length
    · have h1:decide ((i:Int) < (p.length:Int))=true:=by simp; omega
      rw [if_pos h1,ag hlt,Option.bind_some,he _ (List.getElem_mem hlt),Option.bind_some,ag (by omega),Option.bind_some,wr1 i (by omega),Int.toNat_natCast,ih (i+1) _ (by simp [hs]) (by omega) (by omega)]
      congr 1
      rw [List.drop_eq_getElem_cons hlt]
      have h2:(s.set i p[i]).take (i+1)=s.take i++[p[i]]:=by
        apply List.ext_getElem?
        intro j
        rw [List.getElem?_take,List.getElem?_set]
        by_cases hj:j < i
        · rw [List.getElem?_append_left (by simp; omega),List.getElem?_take]
          simp [hj,show j < i+1 by omega,show ¬ i=j by omega]
        · by_cases hji:j=i
          · subst hji
            rw [List.getElem?_append_right (by simp; omega)]
            have:j - (List.take j s).length=0:=by simp; omega
            rw [this]
            simp; omega
          · rw [if_neg (by omega),List.getElem?_append_right (by simp; omega)]
            symm
            apply List.getElem?_eq_none
            simp; omega
      rw [h2]; simp
    · have h1 : ¬ decide ((i:Int) < (p.length:Int))=true:=by simp; omega
      rw [if_neg h1,List.drop_of_length_le (by omega),List.take_of_length_le (by omega)]
      simp

def Szd (v left tot:Int):Prop:=v < 0∨(0≤v∧v=left - tot)

theorem mK {α:Type} (f:Nat→Int→Int→Option Int) (p:List α) (hm:p.length≤4611686018427387903) (tot:α→Int) (ht:∀ x∈p,0≤tot x) (e:α→Int→Option Int) (he:∀ x∈p,∀ left,0≤left→left≤1048576→∃ v,e x left=some v∧Szd v left (tot x))
    (h:∀ k left i,f (k+1) left i=if decide (i < (p.length:Int)) then (idx p i).bind fun x=>(e x left).bind fun v=>if decide (v < 0) then some (-1) else f k v (IntKind.i64.wrap (i+1)) else some left) :
    ∀ (n i:Nat) (left:Int),0≤left→left≤1048576→i≤p.length→p.length - i < n→∃ v,f n left i=some v∧Szd v left ((p.drop i).map tot).sum:=by
  intro n
  induction n with
  | zero=>intro i left _ _ _ h; omega
  | succ n ih=>
    intro i left h0 h1 hi hn
    rw [h]
    by_cases hlt:i < p.length
    · have h2:decide ((i:Int) < (p.length:Int))=true:=by simp; omega
      obtain ⟨v,hv,hs⟩:=he _ (List.getElem_mem hlt) left h0 h1
      have htx:=ht _ (List.getElem_mem hlt)
      rw [if_pos h2,ag hlt,Option.bind_some,hv,Option.bind_some]
      by_cases hneg:v < 0
      · rw [if_pos (by simpa using hneg)]
        exact ⟨-1,rfl,.inl (by omega)⟩
      · rw [if_neg (by simpa using hneg),wr1 i (by omega)]
        rcases hs with hs | ⟨hs0,hs⟩
        · omega
        · obtain ⟨u,hu,hsu⟩:=ih (i+1) v hs0 (by omega) (by omega) (by omega)
          refine ⟨u,hu,?_⟩
          rw [List.drop_eq_getElem_cons hlt,List.map_cons,List.sum_cons]
          rcases hsu with hsu | ⟨hsu0,hsu⟩
          · exact .inl hsu
          · exact .inr ⟨hsu0,by omega⟩
    · have h2 : ¬ decide ((i:Int) < (p.length:Int))=true:=by simp; omega
      rw [if_neg h2,List.drop_of_length_le (by omega)]
      exact ⟨left,rfl,.inr ⟨h0,by simp⟩⟩

theorem aw {α:Type} (tot:α→Int):∀ (p:List α),(∀ x∈p,0≤tot x)→0≤(p.map tot).sum
  | [],_=>by simp
  | x :: p,h=>by
    have h1:=h x (by simp)
    have h2:=aw tot p (fun y hy=>h y (by simp [hy]))
    simp only [List.map_cons,List.sum_cons]
    omega

theorem fB {α:Type} (tot:α→Int):∀ (p:List α),(∀ x∈p,0≤tot x)→∀ x∈p,tot x≤(p.map tot).sum
  | [],_,x,hx=>by cases hx
  | y :: p,h,x,hx=>by
    have h1:=h y (by simp)
    have h2:=aw tot p (fun z hz=>h z (by simp [hz]))
    simp only [List.map_cons,List.sum_cons]
    rcases List.mem_cons.1 hx with rfl | hx
    · omega
    · have:=fB tot p (fun z hz=>h z (by simp [hz])) x hx
      omega

theorem j0 {α:Type} (z:α) {n:Nat} (h:n≤4294967296):mk z (n:Int)=some (List.replicate n z):=by
  unfold mk
  rw [if_pos ⟨by omega,by omega⟩,Int.toNat_natCast]


def one {α:Type} (_:α):Int:=1
end Go.Proofs.YtiljnppocjgkkaaGreat
