/-
  The engine, part G: an argument of a law, as the form reads it, is data as our contracts read it.
  Nothing here names a program.
-/
import Derived.Test.YtedmfnmbjglmbaaGreatEF
import Derived.ProofKit
import Derived.Deep.Slices
namespace Go.Proofs.YtedmfnmbjglmbaaGreat.Eng
open Go.ChangeShapes Go.WideShapes Go.ChangeAt Go.RowKit Go.Deep
set_option linter.unusedVariables false
set_option linter.unusedSimpArgs false

def hp (w:World):Hp:=fun k=>w.heap[k]?
theorem MH (w:World):In (hp w) w:=fun _ _ h=>h

def Rdt (P:Program) (w:World) (t:Nat) {α:Type} (R:Hp→List Nat→List Value→α→Prop) (a:α→Prop):Prop:=
  ∀ (H:Type) (enc:TypeId × Value→H) (sp:Nat→Bool) (held:Bool) (n:Nat) (cs:List Value) (x:DataW H × List MemPlace),DataW.trod enc P w 0 sp held n t cs=some x→∃ F y,R (hp w) F cs y∧Kw (hp w) F∧a y

def WfI (a:IntKind) (x:Int):Prop:=(Lit.int a x).wf=true
def WfL {α:Type} (W:α→Prop) (xs:List α):Prop:=xs.length≤maxLen∧∀ x∈xs,W x

variable {P:Program} {w:World}

theorem L0 {t:Nat} {a:IntKind} (h:P.underlying t=some (.int a)):Rdt P w t (RI a) (WfI a):=fun H enc sp held n cs x b=>by
  obtain⟨m,c,_,hw⟩:=DataW.trod_int h b
  exact⟨[],m,⟨c,rfl⟩,Kw.nil,hw⟩
def Nj {α:Type} (R:Hp→List Nat→List Value→α→Prop) (sz:Nat) (a:Hp) (F:List Nat) (cs:List Value) (xs:List α):Prop:=∃ v,cs=[v]∧RSl R sz a F v xs

theorem yk {α β:Type} {p:Nat→α→β→Prop}:∀ (n:Nat),(∀ i,i < n→∃ a b,p i a b)→∃ (as:List α) (bs:List β),as.length=n∧bs.length=n∧∀ i a,as[i]?=some a→∃ b,bs[i]?=some b∧p i a b
  | 0,_=>⟨[],[],rfl,rfl,fun i a h=>by simp at h⟩
  | n+1,h=>by
    obtain⟨as,bs,h1,d,f⟩:=yk n (fun i e=>h i NR)
    obtain⟨a,b,g⟩:=h n NR
    refine⟨as++[a],bs++[b],by simp[h1],by simp[d],fun i x c=>?_⟩
    rcases Nat.lt_or_ge i n with hlt | hge
    · rw[oj NR] at c
      obtain⟨y,j,hp⟩:=f i x c
      exact⟨y,by rw[oj NR];exact j,hp⟩
    · have e:i=n:=by
        have:=(gx.1 c).1
        simp at this;omega
      subst e
      rw[← h1] at c
      simp at c
      subst c
      exact⟨b,by rw[← d];simp,g⟩

theorem GM {α:Type} {t e sz:Nat} {R:Hp→List Nat→List Value→α→Prop} {A:α→Prop} (u:Sl P t e sz=true) (he:Rdt P w e R A) (X:Nat.blt 0 sz=true):Rdt P w t (Nj R sz) (WfL A):=fun H enc sp held n cs x Y=>by
  have hu:=w7 u
  have Z:P.cellsOf e=sz:=by
    unfold Sl at u;rw[hu] at u
    simp only[Bool.and_eq_true,beq_iff_eq] at u
    simp[Program.cellsOf,u.2]
  have E:0 < sz:=by simpa using X
  rcases open_slice hu Y with ⟨B,_⟩ | ⟨a,len,cap,m,n',D,Pl,B,_,N,hm,a1,_,O⟩
  · exact⟨[],[],⟨_,B,RSl.nil R sz _⟩,Kw.nil,by simp[WfL,maxLen]⟩
  · rw[Z] at O
    have ah:len≤m:=by rw[a1];split <;> omega
    obtain⟨g,Fs,h1,h2,z⟩:=yk (p:=fun i (y:α) (F:List Nat)=>A y∧Kw (hp w) F∧∃ cs',cs'.length=sz∧(∀ j,j < sz→w.cell? ((a.add (i*sz)).add j)=cs'[j]?)∧R (hp w) F cs' y) len (fun i h=>by
      obtain⟨cs',a6,a7⟩:=O i NR
      obtain⟨_,hlen,d⟩:=World.cells?_some a6
      obtain⟨F,y,G,hk,hw⟩:=he H enc sp held n' cs' _ a7
      exact⟨y,F,hw,hk,cs',hlen,d,G⟩)
    have I:0 < len→a.spot=none:=fun c=>by
      obtain⟨y,l⟩:∃ y,g[0]?=some y:=⟨_,gj NR⟩
      obtain⟨F,_,_,_,cs',hlen,d,_⟩:=z 0 y l
      have f:=d 0 E
      rw[gj NR] at f
      have:=World.cell?_spot f
      simpa[Addr.add] using this
    have hblk:0 < len→∃ o,hp w a.block=some o:=fun c=>by
      obtain⟨y,l⟩:∃ y,g[0]?=some y:=⟨_,gj NR⟩
      obtain⟨F,_,_,_,cs',hlen,d,_⟩:=z 0 y l
      have f:=d 0 E
      rw[gj NR] at f
      have Q:=I c
      obtain⟨b,o,s⟩:=a
      simp only at Q
      subst Q
      rw[Addr.add_mid,Addr.add_mid] at f
      unfold World.cell? at f
      split at f
      · rename_i C T q r;exact⟨_,r⟩
      · cases f
    have a8:Kw (hp w) Fs.flatten:=fun k hk=>by
      obtain⟨F,K,aa⟩:=List.mem_flatten.1 hk
      obtain⟨i,h,rfl⟩:=List.getElem_of_mem K
      obtain⟨y,l⟩:∃ y,g[i]?=some y:=⟨_,gj NR⟩
      obtain⟨F',L,_,ab,_⟩:=z i y l
      rw[gj h] at L
      simp only[Option.some.injEq] at L
      subst L
      exact ab k aa
    have S:WfL A g:=⟨by rw[h1];omega,fun y l=>by
      obtain⟨i,h,rfl⟩:=List.getElem_of_mem l
      obtain⟨F,_,hw,_⟩:=z i _ (gj h)
      exact hw⟩
    have U:∀ i y,g[i]?=some y→∃ cs,cs.length=sz∧rg (hp w) (sb (.slice (some a) len cap)) (so (.slice (some a) len cap)+i*sz) cs∧R (hp w) (Fs.getD i []) cs y:=fun i y h=>by
      obtain⟨F,K,_,_,cs',hlen,d,G⟩:=z i y h
      have ai:i < len:=by have:=(gx.1 h).1;omega
      have:=I NR
      obtain⟨b,o,s⟩:=a
      simp only at this
      subst this
      refine⟨cs',hlen,?_,by simp only[List.getD_eq_getElem?_getD,K];exact G⟩
      have c:=d 0 E
      rw[gj NR] at c
      rw[Addr.add_mid,Addr.add_mid] at c
      have ad:∃ C T q,w.heap[b]?=some (.cells C T q):=by
        unfold World.cell? at c
        split at c
        · rename_i C T q r;exact⟨C,T,q,r⟩
        · cases c
      obtain⟨C,T,q,r⟩:=ad
      refine⟨C,T,q,r,fun j v V=>?_⟩
      have ae:j < sz:=by have:=(gx.1 V).1;omega
      have M:=d j ae
      rw[V,Addr.add_mid,Addr.add_mid] at M
      simp only[World.cell?,r] at M
      simpa[so] using M
    by_cases c:0 < len
    · have hk:Kw (hp w) (ob (.slice (some a) len cap)++Fs.flatten):=Kw.app (fun k hk=>by
        simp[ob,Value.ownBlock] at hk;subst hk;exact hblk c) a8
      refine⟨ob (.slice (some a) len cap)++Fs.flatten,g,⟨_,B,⟨_,_,by rw[h1],by rw[h1];exact N⟩,fun W=>⟨cap,?_⟩,hk,ob _,Fs,.inl rfl,by rw[h1,h2],rfl,U⟩,hk,S⟩
      have:=I c
      obtain⟨b,o,s⟩:=a
      simp only at this
      subst this
      rw[h1];rfl
    · have af:g=[]:=qo NR
      have ag:Fs=[]:=qo NR
      subst af ag
      exact⟨[],[],⟨_,B,⟨_,_,by rw[h1],by rw[h1];exact N⟩,fun W=>absurd rfl W,Kw.nil,[],[],.inr ⟨rfl,rfl⟩,rfl,rfl,U⟩,Kw.nil,S⟩

theorem Il {p:Option Addr} {m c:Nat} {s:Value} (h:(Value.slice p m c).cells.toList=[s]):s = .slice p m c:=by
  simpa[Value.cells] using h.symm
end Go.Proofs.YtedmfnmbjglmbaaGreat.Eng
