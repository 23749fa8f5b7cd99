/-
  The engine, part G: an argument of a law, as the form reads it, is data as our contracts read it.
  Nothing here names a program.
-/
import Derived.Test.YtedmfnmbjglmbaaGreatEF
import Derived.ProofKit
import Derived.Deep.Slices
namespace Go.Proofs.YtedmfnmbjglmbaaGreat.Eng
open Go.ChangeShapes Go.WideShapes Go.ChangeAt Go.RowKit Go.Deep
set_option linter.unusedVariables false
set_option linter.unusedSimpArgs false

def hp (w:World):Hp:=fun k=>w.heap[k]?
theorem KI (w:World):In (hp w) w:=fun _ _ h=>h

def Rdt (P:Program) (w:World) (t:Nat) {α:Type} (R:Hp→List Nat→List Value→α→Prop) (Wf:α→Prop):Prop:=
  ∀ (H:Type) (enc:TypeId × Value→H) (sp:Nat→Bool) (held:Bool) (n:Nat) (cs:List Value) (x:DataW H × List MemPlace),DataW.trod enc P w 0 sp held n t cs=some x→∃ F y,R (hp w) F cs y∧Kw (hp w) F∧Wf y

def WfI (kd:IntKind) (x:Int):Prop:=(Lit.int kd x).wf=true
def WfL {α:Type} (W:α→Prop) (xs:List α):Prop:=xs.length≤maxLen∧∀ x∈xs,W x

variable {P:Program} {w:World}

theorem Ju {t:Nat} {kd:IntKind} (h:P.underlying t=some (.int kd)):Rdt P w t (RI kd) (WfI kd):=fun H enc sp held n cs x hx=>by
  obtain ⟨m,hc,_,hw⟩:=DataW.trod_int h hx
  exact ⟨[],m,⟨hc,rfl⟩,Kw.nil,hw⟩
def Ly {α:Type} (R:Hp→List Nat→List Value→α→Prop) (sz:Nat) (Φ:Hp) (F:List Nat) (cs:List Value) (xs:List α):Prop:=∃ v,cs=[v]∧RSl R sz Φ F v xs

theorem vN {α β:Type} {p:Nat→α→β→Prop}:∀ (n:Nat),(∀ i,i < n→∃ a b,p i a b)→∃ (as:List α) (bs:List β),as.length=n∧bs.length=n∧∀ i a,as[i]?=some a→∃ b,bs[i]?=some b∧p i a b
  | 0,_=>⟨[],[],rfl,rfl,fun i a h=>by simp at h⟩
  | n+1,h=>by
    obtain ⟨as,bs,h1,h2,h3⟩:=vN n (fun i hi=>h i (by omega))
    obtain ⟨a,b,hab⟩:=h n (by omega)
    refine ⟨as++[a],bs++[b],by simp [h1],by simp [h2],fun i x hx=>?_⟩
    rcases Nat.lt_or_ge i n with hlt | hge
    · rw [List.getElem?_append_left (by omega)] at hx
      obtain ⟨y,hy,hp⟩:=h3 i x hx
      exact ⟨y,by rw [List.getElem?_append_left (by omega)]; exact hy,hp⟩
    · have hi:i=n:=by
        have:=(List.getElem?_eq_some_iff.1 hx).1
        simp at this; omega
      subst hi
      rw [← h1] at hx
      simp at hx
      subst hx
      exact ⟨b,by rw [← h2]; simp,hab⟩

theorem FW {α:Type} {t e sz:Nat} {R:Hp→List Nat→List Value→α→Prop} {Wf:α→Prop} (ht:Sl P t e sz=true) (he:Rdt P w e R Wf) (hs:Nat.blt 0 sz=true):Rdt P w t (Ly R sz) (WfL Wf):=fun H enc sp held n cs x hx=>by
  have hu:=ui ht
  have hsz:P.cellsOf e=sz:=by
    unfold Sl at ht; rw [hu] at ht
    simp only [Bool.and_eq_true,beq_iff_eq] at ht
    simp [Program.cellsOf,ht.2]
  have hs0:0 < sz:=by simpa using hs
  rcases open_slice hu hx with ⟨hc,_⟩ | ⟨a,len,cap,m,n',D,Pl,hc,_,hl,hm,hmm,_,hel⟩
  · exact ⟨[],[],⟨_,hc,RSl.nil R sz _⟩,Kw.nil,by simp [WfL,maxLen]⟩
  · rw [hsz] at hel
    have hlm:len≤m:=by rw [hmm]; split <;> omega
    obtain ⟨ys,Fs,h1,h2,h3⟩:=vN (p:=fun i (y:α) (F:List Nat)=>Wf y∧Kw (hp w) F∧∃ cs',cs'.length=sz∧(∀ j,j < sz→w.cell? ((a.add (i*sz)).add j)=cs'[j]?)∧R (hp w) F cs' y) len (fun i hi=>by
      obtain ⟨cs',hc',ht'⟩:=hel i (by omega)
      obtain ⟨_,hlen,hat⟩:=World.cells?_some hc'
      obtain ⟨F,y,hR,hk,hw⟩:=he H enc sp held n' cs' _ ht'
      exact ⟨y,F,hw,hk,cs',hlen,hat,hR⟩)
    have hspot:0 < len→a.spot=none:=fun h0=>by
      obtain ⟨y,hy⟩:∃ y,ys[0]?=some y:=⟨_,List.getElem?_eq_getElem (by omega)⟩
      obtain ⟨F,_,_,_,cs',hlen,hat,_⟩:=h3 0 y hy
      have h4:=hat 0 hs0
      rw [List.getElem?_eq_getElem (by omega)] at h4
      have:=World.cell?_spot h4
      simpa [Addr.add] using this
    have hblk:0 < len→∃ o,hp w a.block=some o:=fun h0=>by
      obtain ⟨y,hy⟩:∃ y,ys[0]?=some y:=⟨_,List.getElem?_eq_getElem (by omega)⟩
      obtain ⟨F,_,_,_,cs',hlen,hat,_⟩:=h3 0 y hy
      have h4:=hat 0 hs0
      rw [List.getElem?_eq_getElem (by omega)] at h4
      have hsp:=hspot h0
      obtain ⟨b,o,s⟩:=a
      simp only at hsp
      subst hsp
      rw [Addr.add_mid,Addr.add_mid] at h4
      unfold World.cell? at h4
      split at h4
      · rename_i C T fz hC; exact ⟨_,hC⟩
      · cases h4
    have hFs:Kw (hp w) Fs.flatten:=fun k hk=>by
      obtain ⟨F,hF,hkF⟩:=List.mem_flatten.1 hk
      obtain ⟨i,hi,rfl⟩:=List.getElem_of_mem hF
      obtain ⟨y,hy⟩:∃ y,ys[i]?=some y:=⟨_,List.getElem?_eq_getElem (by omega)⟩
      obtain ⟨F',hF',_,hk',_⟩:=h3 i y hy
      rw [List.getElem?_eq_getElem hi] at hF'
      simp only [Option.some.injEq] at hF'
      subst hF'
      exact hk' k hkF
    have hWf:WfL Wf ys:=⟨by rw [h1]; omega,fun y hy=>by
      obtain ⟨i,hi,rfl⟩:=List.getElem_of_mem hy
      obtain ⟨F,_,hw,_⟩:=h3 i _ (List.getElem?_eq_getElem hi)
      exact hw⟩
    have hel':∀ i y,ys[i]?=some y→∃ cs,cs.length=sz∧rg (hp w) (sb (.slice (some a) len cap)) (so (.slice (some a) len cap)+i*sz) cs∧R (hp w) (Fs.getD i []) cs y:=fun i y hi=>by
      obtain ⟨F,hF,_,_,cs',hlen,hat,hR⟩:=h3 i y hi
      have hilt:i < len:=by have:=(List.getElem?_eq_some_iff.1 hi).1; omega
      have:=hspot (by omega)
      obtain ⟨b,o,s⟩:=a
      simp only at this
      subst this
      refine ⟨cs',hlen,?_,by simp only [List.getD_eq_getElem?_getD,hF]; exact hR⟩
      have h0:=hat 0 hs0
      rw [List.getElem?_eq_getElem (by omega)] at h0
      rw [Addr.add_mid,Addr.add_mid] at h0
      have hob:∃ C T fz,w.heap[b]?=some (.cells C T fz):=by
        unfold World.cell? at h0
        split at h0
        · rename_i C T fz hC; exact ⟨C,T,fz,hC⟩
        · cases h0
      obtain ⟨C,T,fz,hC⟩:=hob
      refine ⟨C,T,fz,hC,fun j v hj=>?_⟩
      have hjlt:j < sz:=by have:=(List.getElem?_eq_some_iff.1 hj).1; omega
      have h5:=hat j hjlt
      rw [hj,Addr.add_mid,Addr.add_mid] at h5
      simp only [World.cell?,hC] at h5
      simpa [so] using h5
    by_cases h0:0 < len
    · have hk:Kw (hp w) (ob (.slice (some a) len cap)++Fs.flatten):=Kw.app (fun k hk=>by
        simp [ob,Value.ownBlock] at hk; subst hk; exact hblk h0) hFs
      refine ⟨ob (.slice (some a) len cap)++Fs.flatten,ys,⟨_,hc,⟨_,_,by rw [h1],by rw [h1]; exact hl⟩,fun hne=>⟨cap,?_⟩,hk,ob _,Fs,.inl rfl,by rw [h1,h2],rfl,hel'⟩,hk,hWf⟩
      have:=hspot h0
      obtain ⟨b,o,s⟩:=a
      simp only at this
      subst this
      rw [h1]; rfl
    · have hys:ys=[]:=List.eq_nil_of_length_eq_zero (by omega)
      have hFs0:Fs=[]:=List.eq_nil_of_length_eq_zero (by omega)
      subst hys hFs0
      exact ⟨[],[],⟨_,hc,⟨_,_,by rw [h1],by rw [h1]; exact hl⟩,fun hne=>absurd rfl hne,Kw.nil,[],[],.inr ⟨rfl,rfl⟩,rfl,rfl,hel'⟩,Kw.nil,hWf⟩

theorem Gb {p:Option Addr} {m c:Nat} {s:Value} (h:(Value.slice p m c).cells.toList=[s]):s = .slice p m c:=by
  simpa [Value.cells] using h.symm
end Go.Proofs.YtedmfnmbjglmbaaGreat.Eng
