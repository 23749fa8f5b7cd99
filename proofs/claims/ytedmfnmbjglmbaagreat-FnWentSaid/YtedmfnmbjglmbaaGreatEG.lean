/-
  The engine, part G: an argument of a law, as the form reads it, is data as our contracts read it.
  Nothing here names a program.
-/
import Derived.Test.YtedmfnmbjglmbaaGreatEF
import Derived.ProofKit
import Derived.Deep.Slices
namespace Go.Proofs.YtedmfnmbjglmbaaGreat.Eng
open Go.ChangeShapes Go.WideShapes Go.ChangeAt Go.RowKit Go.Deep
set_option linter.unusedVariables false
set_option linter.unusedSimpArgs false
def hp (w:World):Hp:=fun k=>w.heap[k]?
theorem Nh (w:World):In (hp w) w:=fun _ _ h=>h
def Rdt (P:Program) (w:World) (t:Nat) {α:Type} (R:Hp→List Nat→List Value→α→Prop) (a:α→Prop):Prop:=
  ∀ (H:Type) (enc:TypeId × Value→H) (sp:Nat→Bool) (held:Bool) (n:Nat) (cs:List Value) (x:DataW H × List MemPlace),DataW.trod enc P w 0 sp held n t cs=some x→∃ F y,R (hp w) F cs y∧Kw (hp w) F∧a y
def WfI (a:IntKind) (x:Int):Prop:=(Lit.int a x).wf=true
def WfL {α:Type} (W:α→Prop) (xs:List α):Prop:=xs.length≤maxLen∧∀ x∈xs,W x
variable {P:Program} {w:World}
theorem Ma {t:Nat} {a:IntKind} (h:P.underlying t=some (.int a)):Rdt P w t (RI a) (WfI a):=fun H enc sp held n cs x b=>by
  obtain⟨m,c,_,hw⟩:=DataW.trod_int h b
  exact⟨[],m,⟨c,rfl⟩,Kw.nil,hw⟩
def OC {α:Type} (R:Hp→List Nat→List Value→α→Prop) (sz:Nat) (a:Hp) (F:List Nat) (cs:List Value) (xs:List α):Prop:=∃ v,cs=[v]∧RSl R sz a F v xs
theorem z6 {α β:Type} {p:Nat→α→β→Prop}:∀ (n:Nat),(∀ i,i < n→∃ a b,p i a b)→∃ (as:List α) (bs:List β),as.length=n∧bs.length=n∧∀ i a,as[i]?=some a→∃ b,bs[i]?=some b∧p i a b
  | 0,_=>⟨[],[],rfl,rfl,fun i a h=>by simp at h⟩
  | n+1,h=>by
    obtain⟨as,bs,h1,d,f⟩:=z6 n (fun i e=>h i OV)
    obtain⟨a,b,g⟩:=h n OV
    refine⟨as++[a],bs++[b],by simp[h1],by simp[d],fun i x c=>?_⟩
    rcases Nat.lt_or_ge i n with hlt | hge
    · rw[nt OV] at c
      obtain⟨y,j,hp⟩:=f i x c
      exact⟨y,by rw[nt OV];exact j,hp⟩
    · have e:i=n:=by
        have:=(gI.1 c).1
        simp at this;omega
      subst e
      rw[← h1] at c
      simp at c
      subst c
      exact⟨b,by rw[← d];simp,g⟩
theorem Ir {α:Type} {t e sz:Nat} {R:Hp→List Nat→List Value→α→Prop} {z:α→Prop} (r:Sl P t e sz=true) (he:Rdt P w e R z) (W:Nat.blt 0 sz=true):Rdt P w t (OC R sz) (WfL z):=fun H enc sp held n cs x X=>by
  have hu:=vk r
  have Y:P.cellsOf e=sz:=by
    unfold Sl at r;rw[hu] at r
    simp only[Bool.and_eq_true,beq_iff_eq] at r
    simp[Program.cellsOf,r.2]
  have B:0 < sz:=by simpa using W
  rcases open_slice hu X with ⟨A,_⟩ | ⟨a,len,cap,m,Z,D,Pl,A,_,M,hm,a1,_,N⟩
  · exact⟨[],[],⟨_,A,RSl.nil R sz _⟩,Kw.nil,by simp[WfL,maxLen]⟩
  · rw[Y] at N
    have ah:len≤m:=by rw[a1];split<;>omega
    obtain⟨ys,Fs,h1,h2,u⟩:=z6 (p:=fun i (y:α) (F:List Nat)=>z y∧Kw (hp w) F∧∃ cs',cs'.length=sz∧(∀ j,j < sz→w.cell? ((a.add (i*sz)).add j)=cs'[j]?)∧R (hp w) F cs' y) len (fun i g=>by
      obtain⟨cs',a6,a7⟩:=N i OV
      obtain⟨_,hlen,d⟩:=World.cells?_some a6
      obtain⟨F,y,E,hk,hw⟩:=he H enc sp held Z cs' _ a7
      exact⟨y,F,hw,hk,cs',hlen,d,E⟩)
    have G:0 < len→a.spot=none:=fun c=>by
      obtain⟨y,h⟩:∃ y,ys[0]?=some y:=⟨_,gx OV⟩
      obtain⟨F,_,_,_,cs',hlen,d,_⟩:=u 0 y h
      have f:=d 0 B
      rw[gx OV] at f
      have:=World.cell?_spot f
      simpa[Addr.add] using this
    have hblk:0 < len→∃ o,hp w a.block=some o:=fun c=>by
      obtain⟨y,h⟩:∃ y,ys[0]?=some y:=⟨_,gx OV⟩
      obtain⟨F,_,_,_,cs',hlen,d,_⟩:=u 0 y h
      have f:=d 0 B
      rw[gx OV] at f
      have O:=G c
      obtain⟨b,o,s⟩:=a
      simp only at O
      subst O
      rw[Addr.add_mid,Addr.add_mid] at f
      unfold World.cell? at f
      split at f
      · rename_i C T l q;exact⟨_,q⟩
      · cases f
    have a8:Kw (hp w) Fs.flatten:=fun k hk=>by
      obtain⟨F,I,aa⟩:=List.mem_flatten.1 hk
      obtain⟨i,g,rfl⟩:=List.getElem_of_mem I
      obtain⟨y,h⟩:∃ y,ys[i]?=some y:=⟨_,gx OV⟩
      obtain⟨F',K,_,ab,_⟩:=u i y h
      rw[gx g] at K
      simp only[Option.some.injEq] at K
      subst K
      exact ab k aa
    have Q:WfL z ys:=⟨by rw[h1];omega,fun y h=>by
      obtain⟨i,g,rfl⟩:=List.getElem_of_mem h
      obtain⟨F,_,hw,_⟩:=u i _ (gx g)
      exact hw⟩
    have S:∀ i y,ys[i]?=some y→∃ cs,cs.length=sz∧rg (hp w) (sb (.slice (some a) len cap)) (so (.slice (some a) len cap)+i*sz) cs∧R (hp w) (Fs.getD i []) cs y:=fun i y g=>by
      obtain⟨F,I,_,_,cs',hlen,d,E⟩:=u i y g
      have ai:i < len:=by have:=(gI.1 g).1;omega
      have:=G OV
      obtain⟨b,o,s⟩:=a
      simp only at this
      subst this
      refine⟨cs',hlen,?_,by simp only[List.getD_eq_getElem?_getD,I];exact E⟩
      have c:=d 0 B
      rw[gx OV] at c
      rw[Addr.add_mid,Addr.add_mid] at c
      have ad:∃ C T l,w.heap[b]?=some (.cells C T l):=by
        unfold World.cell? at c
        split at c
        · rename_i C T l q;exact⟨C,T,l,q⟩
        · cases c
      obtain⟨C,T,l,q⟩:=ad
      refine⟨C,T,l,q,fun j v U=>?_⟩
      have ae:j < sz:=by have:=(gI.1 U).1;omega
      have L:=d j ae
      rw[U,Addr.add_mid,Addr.add_mid] at L
      simp only[World.cell?,q] at L
      simpa[so] using L
    by_cases c:0 < len
    · have hk:Kw (hp w) (ob (.slice (some a) len cap)++Fs.flatten):=Kw.app (fun k hk=>by
        simp[ob,Value.ownBlock] at hk;subst hk;exact hblk c) a8
      refine⟨ob (.slice (some a) len cap)++Fs.flatten,ys,⟨_,A,⟨_,_,by rw[h1],by rw[h1];exact M⟩,fun V=>⟨cap,?_⟩,hk,ob _,Fs,.inl rfl,by rw[h1,h2],rfl,S⟩,hk,Q⟩
      have:=G c
      obtain⟨b,o,s⟩:=a
      simp only at this
      subst this
      rw[h1];rfl
    · have af:ys=[]:=rv OV
      have ag:Fs=[]:=rv OV
      subst af ag
      exact⟨[],[],⟨_,A,⟨_,_,by rw[h1],by rw[h1];exact M⟩,fun V=>absurd rfl V,Kw.nil,[],[],.inr ⟨rfl,rfl⟩,rfl,rfl,S⟩,Kw.nil,Q⟩
theorem HL {p:Option Addr} {m c:Nat} {s:Value} (h:(Value.slice p m c).cells.toList=[s]):s = .slice p m c:=by
  simpa[Value.cells] using h.symm
end Go.Proofs.YtedmfnmbjglmbaaGreat.Eng
