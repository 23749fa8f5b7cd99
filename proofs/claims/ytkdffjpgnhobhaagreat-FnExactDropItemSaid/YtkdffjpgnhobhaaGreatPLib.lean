/-
  Plain laws of the loops that the printed functions are made of. No program, no memory.
-/
import Derived.Test.YtkdffjpgnhobhaaGreatEG
import Derived.Test.YtkdffjpgnhobhaaGreatEI
namespace Go.Proofs.YtkdffjpgnhobhaaGreat
open Eng
set_option linter.unusedVariables false
set_option linter.unusedSimpArgs false

theorem wr {n:Int} (h : -9223372036854775808≤n) (h':n < 9223372036854775808):IntKind.i64.wrap n=n:=by
  have:IntKind.i64.wrap n=(n+9223372036854775808) % 18446744073709551616 - 9223372036854775808:=by
    simp only [IntKind.wrap,IntKind.bits,IntKind.signed]
    have e1:(2:Int) ^ 64=18446744073709551616:=by decide
    have e2:(2:Int) ^ (64 - 1)=9223372036854775808:=by decide
    simp only [e1,e2,Bool.true_and,decide_eq_true_eq]
    split <;> omega
  rw [this]; omega

theorem wr1 (i:Nat) (h:i≤4611686018427387904):IntKind.i64.wrap ((i:Int)+1)=((i+1:Nat):Int):=by
  rw [wr (by omega) (by omega)]; rfl

theorem Fp {α:Type} {o:Option α} {a:α} (h:o=some a) {β:Type} (f:α→Option β):o.bind f=f a:=by rw [h]; rfl
theorem dc {α:Type} (xs:List α) (i:Nat):idx xs (i:Int)=xs[i]?:=by simp [idx]
theorem au {α:Type} {xs:List α} {i:Nat} (h:i < xs.length):idx xs (i:Int)=some xs[i]:=by rw [dc,List.getElem?_eq_getElem h]

theorem toList_inj {a b:ByteArray} (h:a.toList=b.toList):a=b:=by
  rw [ByteArray.toList_eq,ByteArray.toList_eq] at h
  exact ByteArray.ext (Array.toList_inj.1 h)

theorem dT (a b:ByteArray):seq a b=decide (a=b):=by
  unfold seq
  by_cases h:a=b
  · subst h; simp
  · have : ¬ a.toList=b.toList:=fun e=>h (toList_inj e)
    simp [h,this]

theorem sd (a:ByteArray):seq a a=true:=by simp [dT]

theorem fU {α:Type} [DecidableEq α] (f:Nat→Int→Option Bool) (a b:List α) (hl:a.length=b.length) (hm:a.length≤4611686018427387903) (e:α→α→Option Bool) (he:∀ x∈a,∀ y∈b,e x y=some (decide (x=y)))
    (h:∀ k i,f (k+1) i=if decide (i < (a.length:Int)) then (idx a i).bind fun x=>(idx b i).bind fun y=>(e x y).bind fun t=>if !t then some false else f k (IntKind.i64.wrap (i+1)) else some true) :
    ∀ (n i:Nat),i≤a.length→a.length - i < n→f n i=some (decide (a.drop i=b.drop i)):=by
  intro n
  induction n with
  | zero=>intro i _ h; omega
  | succ n ih=>
    intro i hi hn
    rw [h]
    by_cases hlt:i < a.length
    · have h1:decide ((i:Int) < (a.length:Int))=true:=by simp; omega
      have hlt':i < b.length:=by omega
      rw [if_pos h1,au hlt,au hlt',Option.bind_some,Option.bind_some,he _ (List.getElem_mem hlt) _ (List.getElem_mem hlt'),Option.bind_some,wr1 i (by omega),ih (i+1) (by omega) (by omega)]
      have ea:=List.drop_eq_getElem_cons hlt
      have eb:=List.drop_eq_getElem_cons hlt'
      rw [ea,eb]
      by_cases hx:a[i]=b[i]
      · simp only [hx,decide_true,Bool.not_true,Bool.false_eq_true,if_false,List.cons.injEq,true_and]
      · simp only [hx,decide_false,Bool.not_false,if_true,List.cons.injEq,false_and]
    · have h1 : ¬ decide ((i:Int) < (a.length:Int))=true:=by simp; omega
      rw [if_neg h1,List.drop_of_length_le (by omega),List.drop_of_length_le (by omega)]
      simp

theorem kQ {α:Type} (f:Nat→List α→Int→Option (List α)) (p:List α) (hm:p.length≤4611686018427387903) (e:α→Option α) (he:∀ x∈p,e x=some x)
    (h:∀ k s i,f (k+1) s i=if decide (i < (p.length:Int)) then (idx p i).bind fun x=>(e x).bind fun y=>(idx s i).bind fun _=>f k (s.set i.toNat y) (IntKind.i64.wrap (i+1)) else some s) :
    ∀ (n i:Nat) (s:List α),s.length=p.length→i≤p.length→p.length - i < n→f n s i=some (s.take i++p.drop i):=by
  intro n
  induction n with
  | zero=>intro i s _ _ h; omega
  | succ n ih=>
    intro i s hs hi hn
    rw [h]
    by_cases hlt:i < p.length
    · have h1:decide ((i:Int) < (p.length:Int))=true:=by simp; omega
      rw [if_pos h1,au hlt,Option.bind_some,he _ (List.getElem_mem hlt),Option.bind_some,au (by omega),Option.bind_some,wr1 i (by omega),Int.toNat_natCast,ih (i+1) _ (by simp [hs]) (by omega) (by omega)]
      congr 1
      rw [List.drop_eq_getElem_cons hlt]
      have h2:(s.set i p[i]).take (i+1)=s.take i++[p[i]]:=by
        apply List.ext_getElem?
        intro j
        rw [List.getElem?_take,List.getElem?_set]
        by_cases hj:j < i
        · rw [List.getElem?_append_left (by simp; omega),List.getElem?_take]
          simp [hj,show j < i+1 by omega,show ¬ i=j by omega]
        · by_cases hji:j=i
          · subst hji
            rw [List.getElem?_append_right (by simp; omega)]
            have:j - (List.take j s).length=0:=by simp; omega
            rw [this]
            simp; omega
          · rw [if_neg (by omega),List.getElem?_append_right (by simp; omega)]
            symm
            apply List.getElem?_eq_none
            simp; omega
      rw [h2]; simp
    · have h1 : ¬ decide ((i:Int) < (p.length:Int))=true:=by simp; omega
      rw [if_neg h1,List.drop_of_length_le (by omega),List.take_of_length_le (by omega)]
      simp

def Szd (v left tot:Int):Prop:=v < 0∨(0≤v∧v=left - tot)

theorem mH {α:Type} (f:Nat→Int→Int→Option Int) (p:List α) (hm:p.length≤4611686018427387903) (tot:α→Int) (ht:∀ x∈p,0≤tot x) (e:α→Int→Option Int) (he:∀ x∈p,∀ left,0≤left→left≤1048576→∃ v,e x left=some v∧Szd v left (tot x))
    (h:∀ k left i,f (k+1) left i=if decide (i < (p.length:Int)) then (idx p i).bind fun x=>(e x left).bind fun v=>if decide (v < 0) then some (-1) else f k v (IntKind.i64.wrap (i+1)) else some left) :
    ∀ (n i:Nat) (left:Int),0≤left→left≤1048576→i≤p.length→p.length - i < n→∃ v,f n left i=some v∧Szd v left ((p.drop i).map tot).sum:=by
  intro n
  induction n with
  | zero=>intro i left _ _ _ h; omega
  | succ n ih=>
    intro i left h0 h1 hi hn
    rw [h]
    by_cases hlt:i < p.length
    · have h2:decide ((i:Int) < (p.length:Int))=true:=by simp; omega
      obtain ⟨v,hv,hs⟩:=he _ (List.getElem_mem hlt) left h0 h1
      have htx:=ht _ (List.getElem_mem hlt)
      rw [if_pos h2,au hlt,Option.bind_some,hv,Option.bind_some]
      by_cases hneg:v < 0
      · rw [if_pos (by simpa using hneg)]
        exact ⟨-1,rfl,.inl (by omega)⟩
      · rw [if_neg (by simpa using hneg),wr1 i (by omega)]
        rcases hs with hs | ⟨hs0,hs⟩
        · omega
        · obtain ⟨u,hu,hsu⟩:=ih (i+1) v hs0 (by omega) (by omega) (by omega)
          refine ⟨u,hu,?_⟩
          rw [List.drop_eq_getElem_cons hlt,List.map_cons,List.sum_cons]
          rcases hsu with hsu | ⟨hsu0,hsu⟩
          · exact .inl hsu
          · exact .inr ⟨hsu0,by omega⟩
    · have h2 : ¬ decide ((i:Int) < (p.length:Int))=true:=by simp; omega
      rw [if_neg h2,List.drop_of_length_le (by omega)]
      exact ⟨left,rfl,.inr ⟨h0,by simp⟩⟩

theorem a9 {α:Type} (tot:α→Int):∀ (p:List α),(∀ x∈p,0≤tot x)→0≤(p.map tot).sum
  | [],_=>by simp
  | x :: p,h=>by
    have h1:=h x (by simp)
    have h2:=a9 tot p (fun y hy=>h y (by simp [hy]))
    simp only [List.map_cons,List.sum_cons]
    omega

theorem db {α:Type} (tot:α→Int):∀ (p:List α),(∀ x∈p,0≤tot x)→∀ x∈p,tot x≤(p.map tot).sum
  | [],_,x,hx=>by cases hx
  | y :: p,h,x,hx=>by
    have h1:=h y (by simp)
    have h2:=a9 tot p (fun z hz=>h z (by simp [hz]))
    simp only [List.map_cons,List.sum_cons]
    rcases List.mem_cons.1 hx with rfl | hx
    · omega
    · have:=db tot p (fun z hz=>h z (by simp [hz])) x hx
      omega

theorem kM {α:Type} (z:α) {n:Nat} (h:n≤4294967296):mk z (n:Int)=some (List.replicate n z):=by
  unfold mk
  rw [if_pos ⟨by omega,by omega⟩,Int.toNat_natCast]


abbrev aB:Int:=4611686018427387904
def HdL {α:Type} (hd:α→Int→Prop) (cnt:α→Int):List α→Int→Prop
  | [],_=>True
  | x :: xs,k=>hd x k∧HdL hd cnt xs (k+cnt x)
def ai {α:Type} (cnt:α→Int) (xs:List α):Int:=(xs.map cnt).sum
def one {α:Type} (_:α):Int:=1
theorem jy {α:Type} (x:α):0≤one x:=by simp [one]
theorem aQ {α:Type} {cnt:α→Int} (h:∀ x,0≤cnt x) (xs:List α):0≤ai cnt xs:=a9 _ _ fun x _=>h x
theorem np {α:Type} {cnt:α→Int} (x:α) (xs:List α):ai cnt (x :: xs)=cnt x+ai cnt xs:=by simp [ai]
theorem it {α:Type} {cnt tot:α→Int} {p:List α} (h:∀ x∈p,cnt x≤32+32*tot x):ai cnt p≤32*((p.length:Int)+(p.map tot).sum):=by
  induction p with
  | nil=>simp [ai]
  | cons x xs ih=>
    have h1:=h x (by simp)
    have h2:=ih fun y hy=>h y (by simp [hy])
    rw [np,List.map_cons,List.sum_cons,List.length_cons]
    omega
theorem sm {α:Type} {cnt:α→Int} {p:List α} (h:∀ x∈p,cnt x≤32):ai cnt p≤32*(p.length:Int):=by
  induction p with
  | nil=>simp [ai]
  | cons x xs ih=>
    have h1:=h x (by simp)
    have h2:=ih fun y hy=>h y (by simp [hy])
    rw [np,List.length_cons]
    omega

theorem kP {α:Type} (f:Nat→List α→Int→Int→Option (Int × List α)) (hd:α→Int→Prop) (cnt:α→Int) (Pre:α→Prop) (hc:∀ x,0≤cnt x)
    (hs:∀ n (s:List α) (k:Int) (i:Nat) (x:α),s[i]?=some x→i < 4294967296→(i:Int) < (s.length:Int)→0≤k→k+cnt x≤aB→Pre x→∃ x',hd x' k∧cnt x'=cnt x∧Pre x'∧f (n+1) s k i=f n (s.set i x') (k+cnt x) ((i+1:Nat):Int))
    (he:∀ n (s:List α) (k:Int) (i:Nat),¬ (i:Int) < (s.length:Int)→f (n+1) s k i=some (k,s)) :
    ∀ (n i:Nat) (s:List α) (k:Int),s.length≤4294967296→i≤s.length→s.length - i < n→0≤k→k+ai cnt (s.drop i)≤aB→(∀ x∈s,Pre x) →
      ∃ ys,f n s k i=some (k+ai cnt (s.drop i),s.take i++ys)∧ys.length=s.length - i∧ai cnt ys=ai cnt (s.drop i)∧HdL hd cnt ys k∧∀ y∈ys,Pre y:=by
  intro n
  induction n with
  | zero=>intro i s k _ _ h; omega
  | succ n ih=>
    intro i s k hl hi hn h0 h1 hp
    by_cases hlt:i < s.length
    · have hd1:=List.drop_eq_getElem_cons hlt
      rw [hd1,np] at h1
      have nn:=aQ hc (s.drop (i+1))
      have nx:=hc s[i]
      obtain ⟨x',a1,a2,a3,a4⟩:=hs n s k i s[i] (List.getElem?_eq_getElem hlt) (by omega) (by omega) h0 (by omega) (hp _ (List.getElem_mem hlt))
      have e1:(s.set i x').drop (i+1)=s.drop (i+1):=by
        rw [List.drop_set,if_pos (by omega)]
      have e2:(s.set i x').take (i+1)=s.take i++[x']:=by
        rw [List.take_set]
        rw [List.take_succ_eq_append_getElem hlt,List.set_append_right _ _ (by simp; omega)]
        have:i - (List.take i s).length=0:=by simp; omega
        rw [this]; rfl
      obtain ⟨ys,b1,b2,b3,b4,b5⟩:=ih (i+1) (s.set i x') (k+cnt s[i]) (by simpa using hl) (by simp; omega) (by simp; omega) (by omega) (by rw [e1]; omega) (fun x hx=>by
        rcases List.mem_or_eq_of_mem_set hx with h | h
        · exact hp x h
        · exact h ▸ a3)
      refine ⟨x' :: ys,?_,by simp [b2]; omega,by rw [np,b3,e1,hd1,np,a2],⟨a1,a2 ▸ b4⟩,fun y hy=>?_⟩
      · rw [a4,b1,e1,e2,hd1,np,Int.add_assoc]
        simp
      · rcases List.mem_cons.1 hy with rfl | hy
        · exact a3
        · exact b5 y hy
    · refine ⟨[],?_,by simp; omega,?_,trivial,by simp⟩
      · rw [he _ _ _ _ (by omega),List.drop_of_length_le (by omega),List.take_of_length_le (by omega)]
        simp [ai]
      · rw [List.drop_of_length_le (by omega)]

theorem yo {α:Type} (g:Nat→Int→Int→Option Int) (xs:List α) (hd:α→Int→Prop) (cnt:α→Int) (Pre:α→Prop) (hc:∀ x,0≤cnt x) (hl:xs.length≤4294967296) (hp:∀ x∈xs,Pre x)
    (hs:∀ n (k:Int) (i:Nat) (x:α),xs[i]?=some x→i < 4294967296→(i:Int) < (xs.length:Int)→0≤k→k+cnt x≤aB→Pre x→hd x k→g (n+1) k i=g n (k+cnt x) ((i+1:Nat):Int))
    (he:∀ n (k:Int) (i:Nat),¬ (i:Int) < (xs.length:Int)→g (n+1) k i=some k) :
    ∀ (n i:Nat) (k:Int),i≤xs.length→xs.length - i < n→0≤k→k+ai cnt (xs.drop i)≤aB→HdL hd cnt (xs.drop i) k→g n k i=some (k+ai cnt (xs.drop i)):=by
  intro n
  induction n with
  | zero=>intro i k _ h; omega
  | succ n ih=>
    intro i k hi hn h0 h1 hh
    by_cases hlt:i < xs.length
    · have hd1:=List.drop_eq_getElem_cons hlt
      rw [hd1,np] at h1 ⊢
      rw [hd1] at hh
      have nn:=aQ hc (xs.drop (i+1))
      have nx:=hc xs[i]
      rw [hs n k i xs[i] (List.getElem?_eq_getElem hlt) (by omega) (by omega) h0 (by omega) (hp _ (List.getElem_mem hlt)) hh.1,ih (i+1) _ (by omega) (by omega) (by omega) (by omega) hh.2,Int.add_assoc]
    · rw [he _ _ _ (by omega),List.drop_of_length_le (by omega)]
      simp [ai]

theorem Jy (f:Nat→Int→ByteArray→Option ByteArray) (hf:∀ n s t,f (n+1) s t=if decide (0 < s) then (cat (HM ([IntKind.u8.wrap (IntKind.i64.wrap (48+s.tmod 10))]:List Int)) t).bind fun z=>f n (IntKind.i64.wrap (s.tdiv 10)) z else (cat (⟨#[109]⟩:ByteArray) t).bind fun z=>some z) :
    ∀ (n m:Nat) (s:Int) (t:ByteArray),0≤s→s≤aB→s < 10 ^ n→t.size+n≤100→∃ r,f (n+1+m) s t=some r:=by
  have hcat:∀ (x:UInt8) (t:ByteArray),t.size≤100→cat (⟨#[x]⟩:ByteArray) t=some ((⟨#[x]⟩:ByteArray)++t):=fun x t h=>by
    unfold cat; rw [if_pos]
    have:(⟨#[x]⟩:ByteArray).size=1:=rfl
    omega
  intro n
  induction n with
  | zero=>
    intro m s t h0 hb h1 hl
    have:s=0:=by simp at h1; omega
    subst this
    rw [show 0+1+m=m+1 by omega,hf,if_neg (by simp),hcat _ _ (by omega)]
    exact ⟨_,rfl⟩
  | succ n ih=>
    intro m s t h0 hb h1 hl
    rw [show n+1+1+m=(n+1+m)+1 by omega,hf]
    by_cases c:0 < s
    · rw [if_pos (by simpa using c)]
      show ∃ r,((cat (⟨#[_]⟩:ByteArray) t).bind _)=some r
      rw [hcat _ _ (by omega),Option.bind_some]
      have hdv:s.tdiv 10=s / 10:=Int.tdiv_eq_ediv_of_nonneg h0
      unfold aB at hb
      have hw:IntKind.i64.wrap (s.tdiv 10)=s / 10:=by rw [hdv]; exact wr (by omega) (by omega)
      rw [hw]
      refine ih m _ _ ?_ ?_ ?_ ?_
      · omega
      · unfold aB; omega
      · have:(10:Int) ^ (n+1)=10 ^ n*10:=rfl
        omega
      · rw [ByteArray.size_append]
        have:∀ x:UInt8,(⟨#[x]⟩:ByteArray).size=1:=fun _=>rfl
        rw [this]; omega
    · rw [if_neg (by simpa using c),hcat _ _ (by omega)]
      exact ⟨_,rfl⟩
end Go.Proofs.YtkdffjpgnhobhaaGreat
