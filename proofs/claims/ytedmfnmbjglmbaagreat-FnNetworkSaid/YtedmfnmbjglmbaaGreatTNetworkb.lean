/- Plain laws, one after the other: PLNetwork. -/
import Derived.Test.YtedmfnmbjglmbaaGreatTNetwork
import Derived.Test.YtedmfnmbjglmbaaGreatPLib
import Derived.Test.YtedmfnmbjglmbaaGreatWNetworkMod
import Derived.Test.YtedmfnmbjglmbaaGreatWNetworkPur
namespace Go.Proofs.YtedmfnmbjglmbaaGreat
open Eng
set_option linter.unusedVariables false
set_option linter.unusedSimpArgs false
theorem lw {α:Type} (d:List α) (x y:α) (t:List α):(d++x :: t).set d.length y=(d++[y])++t:=by
 rw[ry _ _ (hz _),x0,O2,gi];rfl
theorem ej {α:Type} (d:List α) (x:α) (t:List α):idx (d++x :: t) (d.length:Int)=some x:=by rw[nY];simp
theorem DB {N:Nat} (r:1099000000000≤N) (g:du) (l:SzG g) (d:Int) (i:aL × Bool) (s1:List an) (s2:Int) (K:List an→Int→Option (List an)) (o:an) (e:List aq × Bool) (s:e.1.length≤2147483648) :
  ∀ (ns:List az) (n:Nat) (a:List az) (b h:List Int),ns.length < n→g.neg=a++ns→b.length=a.length→h.length=ns.length →
   cQ N g d i s1 s2 K o e n (b++h) (a.length:Int)=K (s1.set s2.toNat ⟨o.Ids,b++lB i.1 e.1 d ns h⟩) (IntKind.i64.wrap (s2+1))
 | [],n,a,b,h,j,c,f,k=>by
  obtain⟨n,rfl⟩:∃ m,n=m+1:=⟨n - 1,by simp at j;omega⟩
  have c1:decide ((a.length:Int) < (g.neg.length:Int))=false:=decide_eq_false (by rw[c];simp)
  simp only[cQ,c1,gf,if_false,lB]
 | p :: ns,n,a,b,[],j,c,f,k=>by simp at k
 | p :: ns,n,a,b,x :: h,j,c,f,k=>by
  obtain⟨n,rfl⟩:∃ m,n=m+1:=⟨n - 1,OY⟩
  simp only[gj] at j k
  have w:=l.nl
  have y:g.neg.length=a.length+(ns.length+1):=by rw[c];simp
  have c1:decide ((a.length:Int) < (g.neg.length:Int))=true:=decide_eq_true OY
  have t:idx g.neg (a.length:Int)=some p:=by rw[c];exact ej _ _ _
  have u:idx (b++x :: h) (a.length:Int)=some x:=by rw[← f];exact ej _ _ _
  have hp:p∈g.neg:=by rw[c];simp
  simp only[cQ,c1,if_true,t,gb,vW r p i.1 e.1 (l.na p hp) s,wr1 a.length OY,lB]
  have q:=DB r g l d i s1 s2 K o e s ns n (a++[p])
  simp only[gk,gj,gx,hA] at q
  cases hm:(aX p i.1 e.1).2 with
  | true=>
   simp only[if_true,u,gb]
   have v:(b++x :: h).set ((a.length:Int)).toNat (IntKind.i64.wrap (x+d))=(b++[IntKind.i64.wrap (x+d)])++h:=by rw[hX,← f];exact lw _ _ _ _
   rw[v,q (b++[IntKind.i64.wrap (x+d)]) h OY (by rw[c];simp) (by simp[f]) OY]
   simp
  | false=>
   simp only[gf,if_false]
   have:=q (b++[x]) h OY (by rw[c];simp) (by simp[f]) OY
   simp only[gi,hL,ho] at this
   exact this
theorem Dk {N:Nat} (h:1099000000000≤N) (g:du) (e:SzG g) (f:List an) (b:Int) (c:aL × Bool) (p:f.length≤4294967296):∀ (a:List an) (n:Nat) (d:List an),a.length < n→d.length+a.length=f.length→(∀ t∈a,t.Ids.length≤g.pos.length∧t.Hits.length=g.neg.length) →
  cp N g f b c n (d++a) (d.length:Int)=some (d++kD g.s.Items g.pos g.neg c.1 b a)
 | [],n,d,i,j,k=>by
  obtain⟨n,rfl⟩:∃ m,n=m+1:=⟨n - 1,by simp at i;omega⟩
  simp only[gx,l4] at j
  have c1:decide ((d.length:Int) < (f.length:Int))=false:=decide_eq_false OY
  simp only[cp,c1,gf,if_false,kD,qa]
 | t :: a,n,d,i,j,k=>by
  obtain⟨n,rfl⟩:∃ m,n=m+1:=⟨n - 1,OY⟩
  simp only[gj] at i j
  have w:=e.pl
  have x:=e.sa
  have c1:decide ((d.length:Int) < (f.length:Int))=true:=decide_eq_true OY
  obtain⟨h1,q⟩:=k t OZ
  have z:=tb g.s.Items g.pos t.Ids
  have r:aZ g.s.Items (g.pos.take t.Ids.length) t.Ids []=okB g.s.Items g.pos t.Ids:=rfl
  have l:=fun y=>Dk h g e f b c p a n (d++[y]) OY (by simp;omega) (fun u hu=>k u (by simp[hu]))
  simp only[gk,gj,gx,hA] at l
  simp only[cp,c1,if_true,ej,gb,Cf h g.pos g.s t.Ids e.sa e.pa e.sl e.fl OY h1,r,wr1 d.length OY]
  have s:kD g.s.Items g.pos g.neg c.1 b (t :: a)=(if (okB g.s.Items g.pos t.Ids).2=true then ⟨t.Ids,lB c.1 (okB g.s.Items g.pos t.Ids).1 b g.neg t.Hits⟩ else t) :: kD g.s.Items g.pos g.neg c.1 b a:=rfl
  rw[s]
  cases A:(okB g.s.Items g.pos t.Ids).2 with
  | false=>
   simp only[hG,if_true,gf,if_false]
   have:=l t
   simp only[gi,hL,ho] at this
   exact this
  | true=>
   simp only[hC,gf,if_false,if_true]
   have o:=DB h g e b c (d++t :: a) (d.length:Int) (cp N g f b c n) t (okB g.s.Items g.pos t.Ids) OY g.neg N [] [] t.Hits (by have:=e.nl;omega) rfl rfl q
   simp only[ho,gx,p4,hX] at o
   have v:cQ N g b c (d++t :: a) (d.length:Int) (cp N g f b c n) t (okB g.s.Items g.pos t.Ids) N t.Hits 0=_:=o
   rw[v,lw,wr1 d.length OY,l,gi];rfl
theorem J4 {N:Nat} (d:1099000000000≤N) (g:du) (b:SzG g) (a:List an) (c:Int) (e:a.length≤4294967296) (f:∀ t∈a,t.Ids.length≤g.pos.length∧t.Hits.length=g.neg.length) :
  iu N g a c=some (kD g.s.Items g.pos g.neg (aH g.s.Items g.id).1 c a):=by
 unfold iu
 rw[wa d g.s g.id b.sl b.fl,gb]
 have:=Dk d g b a c (aH g.s.Items g.id) e a N [] OY OZ f
 simpa using this
structure CS (as:List cn) (r:ah) (c:aJ) (row:aV):Prop where
 ne:1≤row.Levels.length
 ll:row.Levels.length=(pos r.Pats).length
 ids:∀ i L,row.Levels[i]?=some L→∀ t∈L.Toks,t.Ids.length=i+1
 hit:∀ L,row.Levels[row.Levels.length - 1]?=some L→∀ t∈L.Toks,t.Hits.length=(neg r.Pats).length
 at_:∀ k,k < row.Levels.length→∃ a i,idx c.Pos (k:Int)=some a∧idx as a=some i
 fit:vE (fun k=>(uZ as c k).length) 0 (row.Levels.map (·.Toks.length)) 0 0
 al:∀ k,(uZ as c k).length≤4294967296
theorem xV {A:Nat→Nat}:∀ {ls:List Nat} {k b f:Nat},vE A k ls b f→∀ l∈ls,l≤4294967296
 | [],_,_,_,_,_,h=>by cases h
 | l :: ls,k,b,f,h,x,a=>by
  rcases hK.1 a with rfl | a
  ·have:=h.1;omega
  ·exact xV h.2 x a
theorem CE {row:aV} {L:aw} {M:List an} {i:Nat} (a:row.Levels[i]?=some L) (b:M.length=L.Toks.length):(row.Levels.set i ⟨M⟩).map (·.Toks.length)=row.Levels.map (·.Toks.length):=by
 rw[List.map_set]
 have:(row.Levels.map (·.Toks.length))[i]?=some L.Toks.length:=by rw[nt,a];rfl
 apply List.ext_getElem?
 intro j
 rw[vx]
 split
 ·rename_i e;subst e
  split
  ·rw[this,← b]
  ·rename_i c;rw[py] at c;have:=(ha.1 a).1;omega
 ·rfl
theorem wD {as:List cn} {c:aJ} {k:Nat} {a:Int} {i:cn} (h1:idx c.Pos (k:Int)=some a) (b:idx as a=some i):i.L=uZ as c k:=by
 unfold uZ
 rw[nY] at h1
 rw[h1]
 simp only[b]
structure SzR (r:ah):Prop where
 pl:r.Pats.length≤1048576
 sa:df r.Pats≤1048576
 pa:∀ p∈r.Pats,p.Args.length≤1048576
theorem GA {r:ah} {c:aJ} {as:List cn} {s:af} {id:Int} (a:SzR r) (b:s.Items.length≤1048576) (d:∀ x∈s.Items,x.F.Fields.length≤1048576):SzG ⟨pos r.Pats,neg r.Pats,c,as,s,id⟩:=by
 have h1:=qX r.Pats
 have e:=a.sa
 have f:(pos r.Pats).length≤r.Pats.length:=ql _ _
 have g:(neg r.Pats).length≤r.Pats.length:=ql _ _
 have h:=a.pl
 exact⟨by simp only;omega,by simp only;omega,fun p hp=>a.pa p (p5.1 hp).1,by simp only;omega,fun p hp=>a.pa p (p5.1 hp).1,b,d⟩
theorem Hl (l:List az):(l.filter fun p=>p.Not == true)=neg l:=by
 unfold neg;congr 1;funext p;cases p.Not <;> rfl
theorem Nm {N:Nat} (n:1099000000000≤N) (r:ah) (c:aJ) (as:List cn) (s:af) (id:Int) (row:aV) (o:SzR r) (p:s.Items.length≤1048576) (q:∀ x∈s.Items,x.F.Fields.length≤1048576) (ok:CS as r c row) {β:Type} (K:List aw→Option β) :
  ((idx row.Levels (IntKind.i64.wrap ((row.Levels.length:Int) - 1))).bind fun v=>((iu N ⟨pos r.Pats,neg r.Pats,c,as,s,id⟩ v.Toks 1).bind fun w=>((iI N ⟨pos r.Pats,neg r.Pats,c,as,s,id⟩ (row.Levels.set (IntKind.i64.wrap ((row.Levels.length:Int) - 1)).toNat (⟨w⟩:aw))).bind fun y=>K y)))
   = K (pG s.Items as (aH s.Items id).1 id r c row).Levels:=by
 have l:=GA (c:=c) (as:=as) (s:=s) (id:=id) o p q
 have D:=ok.ne
 have E:=ok.ll
 have z:=l.pl
 simp only at z
 have A:IntKind.i64.wrap ((row.Levels.length:Int) - 1)=((row.Levels.length - 1:Nat):Int):=by
  rw[show ((row.Levels.length:Int) - 1)=((row.Levels.length - 1:Nat):Int) by omega]
  exact wr OY OY
 have m:row.Levels.length - 1 < row.Levels.length:=by omega
 have d:row.Levels[row.Levels.length - 1]?=some row.Levels[row.Levels.length - 1]:=gm m
 have hlen:(row.Levels[row.Levels.length - 1]).Toks.length≤4294967296:=xV ok.fit _ (hN.2 ⟨_,hB m,rfl⟩)
 rw[A,ag m,gb,J4 n _ l _ 1 hlen (fun t g=>⟨by have:=ok.ids _ _ d t g;simp only;omega,ok.hit _ d t g⟩),gb,hX]
 have B:=CE (M:=kD s.Items (pos r.Pats) (neg r.Pats) (aH s.Items id).1 1 (row.Levels[row.Levels.length - 1]).Toks) d (wH _)
 have C:=MM n _ l (row.Levels.set (row.Levels.length - 1) ⟨kD s.Items (pos r.Pats) (neg r.Pats) (aH s.Items id).1 1 (row.Levels[row.Levels.length - 1]).Toks⟩) (uZ as c) (by simp only[my];omega)
  (fun k hk=>by
   rw[my] at hk
   obtain⟨a,i,h1,j⟩:=ok.at_ k hk
   exact⟨a,i,h1,j,wD h1 j⟩) ok.al
  (fun i L h t g=>by
   rw[vx] at h
   split at h
   ·rename_i e;subst e
    ·simp only[Option.some.injEq] at h
     subst h
     have h1:=uq (xs:=s.Items) (ps:=pos r.Pats) (ns:=neg r.Pats) (f:=(aH s.Items id).1) (b:=1) (row.Levels[row.Levels.length - 1]).Toks
     have j:t.Ids∈(row.Levels[row.Levels.length - 1]).Toks.map (·.Ids):=by rw[← h1];exact hN.2 ⟨t,g,rfl⟩
     obtain⟨u,hu,e⟩:=hN.1 j
     rw[← e];exact ok.ids _ _ d u hu
   ·exact ok.ids i L h t g)
  (by rw[B];exact ok.fit)
 rw[C,gb]
 unfold pG gn
 rw[d]
theorem HQ {N:Nat} (u:1099000000000≤N) (d:bq) (n:cA) (m:aY) (s:af) (id:Int) (as:List cn) (y:s.Items.length≤1048576) (z:∀ x∈s.Items,x.F.Fields.length≤1048576) (A:m.Rules.length≤1048576) :
  ∀ (ws:List aV) (b:List ah) (cs:List aJ) (k:Nat) (e:List ah) (f:List aJ) (a:List aV),ws.length < k→d.Rules=e++b→n.Chains=f++cs→a.length+ws.length=m.Rules.length→e.length=a.length→f.length=a.length→b.length=ws.length→cs.length=ws.length →
   (∀ (i:Nat) (r:ah) (c:aJ) (w:aV),b[i]?=some r→cs[i]?=some c→ws[i]?=some w→SzR r∧CS as r c w) →
   eJ N d n m s id as k (a++ws) (a.length:Int)=some (as,a++oU (pG s.Items as (aH s.Items id).1 id) b cs ws)
 | [],b,cs,k,e,f,a,hk,h1,g,h,l,o,p,q,t=>by
  obtain⟨k,rfl⟩:∃ j,k=j+1:=⟨k - 1,by simp at hk;omega⟩
  simp only[gx,l4] at h
  have c1:decide ((a.length:Int) < (m.Rules.length:Int))=false:=decide_eq_false OY
  simp only[eJ,c1,gf,if_false]
  cases b <;> cases cs <;> simp[oU]
 | w :: ws,[],cs,k,e,f,a,hk,h1,g,h,l,o,p,q,t=>by simp at p
 | w :: ws,r :: b,[],k,e,f,a,hk,h1,g,h,l,o,p,q,t=>by simp at q
 | w :: ws,r :: b,c :: cs,k,e,f,a,hk,h1,g,h,l,o,p,q,t=>by
  obtain⟨k,rfl⟩:∃ j,k=j+1:=⟨k - 1,OY⟩
  simp only[gj] at hk h p q
  have c1:decide ((a.length:Int) < (m.Rules.length:Int))=true:=decide_eq_true OY
  obtain⟨v,B⟩:=t 0 r c w rfl rfl rfl
  have C:idx d.Rules (a.length:Int)=some r:=by rw[h1,← l];exact ej _ _ _
  have D:idx n.Chains (a.length:Int)=some c:=by rw[g,← o];exact ej _ _ _
  simp only[eJ,c1,if_true,ej,gb,pn,C,D,tX u r false v.pl,tX u r true v.pl,BJ,Hl]
  rw[Nm u r c as s id w v y z B (fun E=>eJ N d n m s id as k ((a++w :: ws).set (a.length:Int).toNat (⟨E⟩:aV)) (IntKind.i64.wrap ((a.length:Int)+1)))]
  rw[hX,lw,wr1 a.length OY]
  have:=HQ u d n m s id as y z A ws b cs k (e++[r]) (f++[c]) (a++[⟨(pG s.Items as (aH s.Items id).1 id r c w).Levels⟩]) OY (by rw[h1];simp) (by rw[g];simp) (by simp;omega) (by simp[l]) (by simp[o]) OY OY
   (fun i F G w' H a2 a3=>t (i+1) F G w' (by simpa using H) (by simpa using a2) (by simpa using a3))
  simp only[gk,gj,gx,hA] at this
  rw[this,gi]
  rfl
theorem Ie {N:Nat} (o:1099000000000≤N) (d:bq) (n:cA) (m:aY) (s:af) (id:Int) (f:aL × Bool) (p:∀ a∈n.Alphas,a.At.length≤1048576) (q:n.Alphas.length≤1048576) :
  ∀ (as:List ax) (k:Nat) (b:List ax) (c is:List cn),as.length < k→n.Alphas=b++as→c.length=b.length→is.length=as.length→(∀ i∈is,i.L.length+1≤4294967296) →
   eZ N d n m s id f k (c++is) (b.length:Int)=eJ N d n m s id (c++d7 f.1 id as is) N m.Rules 0
 | [],k,b,c,is,hk,h1,e,g,h=>by
  obtain⟨k,rfl⟩:∃ j,k=j+1:=⟨k - 1,by simp at hk;omega⟩
  have c1:decide ((b.length:Int) < (n.Alphas.length:Int))=false:=decide_eq_false (by rw[h1];simp)
  simp only[eZ,c1,gf,if_false,d7]
 | a :: as,k,b,c,[],hk,h1,e,g,h=>by simp at g
 | a :: as,k,b,c,i :: is,hk,h1,e,g,h=>by
  obtain⟨k,rfl⟩:∃ j,k=j+1:=⟨k - 1,OY⟩
  simp only[gj] at hk g
  have z:n.Alphas.length=b.length+(as.length+1):=by rw[h1];simp
  have c1:decide ((b.length:Int) < (n.Alphas.length:Int))=true:=decide_eq_true OY
  have r:idx n.Alphas (b.length:Int)=some a:=by rw[h1];exact ej _ _ _
  have t:idx (c++i :: is) (b.length:Int)=some i:=by rw[← e];exact ej _ _ _
  have u:a∈n.Alphas:=by rw[h1];simp
  have v:=h i OZ
  have l:=fun y=>Ie o d n m s id f p q as k (b++[a]) (c++[y]) is OY (by rw[h1];simp) (by simp[e]) OY (fun j w=>h j (by simp[w]))
  simp only[gk,gj,gx,hA,gi,hL,ho] at l
  simp only[eZ,c1,if_true,r,gb,Ha o a f.1 (p a u),wr1 b.length OY,d7]
  cases hp:gC a f.1 with
  | true=>
   simp only[if_true,t,gb,cg (show i.L.length+[id].length≤4294967296 by simpa using v)]
   have x:(c++i :: is).set ((b.length:Int)).toNat (⟨i.L++[id]⟩:cn)=c++⟨i.L++[id]⟩ :: is:=by
    rw[hX,← e,lw,gi];rfl
   rw[x]
   exact l _
  | false=>
   simp only[gf,if_false]
   exact l i
structure L3 (d:bq) (n:cA) (m:aY) (s:af) (id:Int):Prop where
 sl:s.Items.length≤1048576
 fl:∀ x∈s.Items,x.F.Fields.length≤1048576
 at_:∀ a∈n.Alphas,a.At.length≤1048576
 al:n.Alphas.length≤1048576
 rl:m.Rules.length≤1048576
 la:m.Alphas.length=n.Alphas.length
 lc:n.Chains.length=m.Rules.length
 ld:d.Rules.length=m.Rules.length
 il:∀ i∈m.Alphas,i.L.length+1≤4294967296
 rows:∀ (i:Nat) (r:ah) (c:aJ) (w:aV),d.Rules[i]?=some r→n.Chains[i]?=some c→m.Rules[i]?=some w→SzR r∧CS (d7 (aH s.Items id).1 id n.Alphas m.Alphas) r c w
theorem N2 {N:Nat} (a:1099000000000≤N) (d:bq) (n:cA) (m:aY) (s:af) (id:Int) (h:L3 d n m s id):ol N d n m s id=some ((A8 d n m s id).Alphas,(A8 d n m s id).Rules):=by
 have e:=h.al
 have f:=h.rl
 unfold ol
 rw[wa a s id h.sl h.fl,gb]
 have h1:=Ie a d n m s id (aH s.Items id) h.at_ h.al n.Alphas N [] [] m.Alphas OY rfl rfl h.la h.il
 simp only[ho,gx,p4] at h1
 have c:eZ N d n m s id (aH s.Items id) N m.Alphas 0=_:=h1
 rw[c]
 have b:=HQ a d n m s id (d7 (aH s.Items id).1 id n.Alphas m.Alphas) h.sl h.fl h.rl m.Rules d.Rules n.Chains N [] [] [] OY rfl rfl OZ rfl rfl h.ld h.lc h.rows
 simp only[ho,gx,p4] at b
 exact b
def InR (x:Int):Prop:=IntKind.i64.wrap x=x
theorem EL {N:Nat} (c s2:Int) (K:List an→Int→Option (List an)) (f:aL) (l:List aq) (o:c=1∨c = -1) (d:List Int) (r:d.length≤1048576) (done:List an) (k:s2=(done.length:Int)) (ids:List Int) (rest:List an) :
  ∀ (ns:List az) (n:Nat) (a b h:List Int),ns.length < n→d=a++pT ns f l→b.length=a.length→h.length=ns.length→(∀ x∈h,InR x) →
   dV N c s2 K (l,true) d n (done++⟨ids,b++h⟩ :: rest) (a.length:Int)=K (done++⟨ids,b++lB f l c ns h⟩ :: rest) (IntKind.i64.wrap (s2+1))
 | [],n,a,b,h,g,h1,e,i,j=>by
  obtain⟨n,rfl⟩:∃ m,n=m+1:=⟨n - 1,by simp at g;omega⟩
  have c1:decide ((a.length:Int) < (d.length:Int))=false:=decide_eq_false (by rw[h1];simp[pT])
  simp only[dV,c1,gf,if_false,gb,lB]
 | p :: ns,n,a,b,[],g,h1,e,i,j=>by simp at i
 | p :: ns,n,a,b,x :: h,g,h1,e,i,j=>by
  obtain⟨n,rfl⟩:∃ m,n=m+1:=⟨n - 1,OY⟩
  simp only[gj] at g i
  have D:d.length=a.length+(ns.length+1):=by rw[h1];simp[pT]
  have c1:decide ((a.length:Int) < (d.length:Int))=true:=decide_eq_true OY
  have q:pT (p :: ns) f l=(if (aX p f l).2=true then 1 else 0) :: pT ns f l:=rfl
  have s:idx d (a.length:Int)=some (if (aX p f l).2=true then 1 else 0):=by rw[h1,q];exact ej _ _ _
  have t:idx (done++(⟨ids,b++x :: h⟩:an) :: rest) s2=some ⟨ids,b++x :: h⟩:=by rw[k];exact ej _ _ _
  have u:idx (b++x :: h) (a.length:Int)=some x:=by rw[← e];exact ej _ _ _
  have v:IntKind.i64.wrap x=x:=j x OZ
  have w:IntKind.i64.wrap (x+IntKind.i64.wrap (c*(if (aX p f l).2=true then 1 else 0)))=if (aX p f l).2=true then IntKind.i64.wrap (x+c) else x:=by
   split
   ·rw[Int.mul_one]
    have:IntKind.i64.wrap c=c:=by rcases o with rfl | rfl <;> decide
    rw[this]
   ·rw[Int.mul_zero,show IntKind.i64.wrap 0=0 by decide,Int.add_zero,v]
  have A:∀ y:Int,(b++x :: h).set ((a.length:Int)).toNat y=(b++[y])++h:=fun y=>by rw[hX,← e];exact lw _ _ _ _
  have B:∀ y:an,(done++(⟨ids,b++x :: h⟩:an) :: rest).set s2.toNat y=done++y :: rest:=fun y=>by rw[k,hX,lw,gi];rfl
  simp only[dV,c1,if_true,gb,s,t,u,w,A,B,wr1 a.length OY]
  have:=EL (N:=N) c s2 K f l o d r done k ids rest ns n (a++[if (aX p f l).2=true then 1 else 0]) (b++[if (aX p f l).2=true then IntKind.i64.wrap (x+c) else x]) h OY (by rw[h1,q];simp) (by simp[e]) OY (fun z C=>j z (by simp[C]))
  simp only[gk,gj,gx,hA] at this
  rw[this,lB]
  simp only[gi,hL,ho]
theorem Hr {N:Nat} (g:1099000000000≤N) (r:ah) (s:af) (d:SzS r s) (f:aL) (a:Int) (j:a=1∨a = -1) (c:List an) (k:c.length≤4294967296)
  (o:∀ t∈c,t.Ids.length≤ac r.Pats∧t.Hits.length=(neg r.Pats).length∧∀ x∈t.Hits,InR x):mA N r s c f a=some (kD s.Items (pos r.Pats) (neg r.Pats) f a c):=by
 have B:=d.pl
 have C:(neg r.Pats).length≤r.Pats.length:=ql _ _
 unfold mA
 have lp:∀ (b:List an) (n:Nat) (done:List an),b.length < n→done.length+b.length≤4294967296→(∀ t∈b,t∈c)→d4 N r s f a n (done++b) (done.length:Int)=some (done++kD s.Items (pos r.Pats) (neg r.Pats) f a b):=by
  intro b
  induction b with
  | nil=>
   intro n done e i hm
   obtain⟨n,rfl⟩:∃ m,n=m+1:=⟨n - 1,by simp at e;omega⟩
   have c1:decide ((done.length:Int) < ((done++[]).length:Int))=false:=decide_eq_false OZ
   simp only[d4,c1,gf,if_false,kD,qa]
  | cons t b p=>
   intro n done e i hm
   obtain⟨n,rfl⟩:∃ m,n=m+1:=⟨n - 1,OY⟩
   simp only[gj] at e i
   have c1:decide ((done.length:Int) < ((done++t :: b).length:Int))=true:=decide_eq_true (by simp;omega)
   obtain⟨h1,q,v⟩:=o t (hm t OZ)
   obtain⟨l,g1,g2,g3⟩:=Bm g r s d t.Ids h1
   simp only[d4,c1,if_true,ej,gb,g1,KV g r f l d.pl d.pa g3]
   have w:kD s.Items (pos r.Pats) (neg r.Pats) f a (t :: b)=(if (okB s.Items (pos r.Pats) t.Ids).2=true then ⟨t.Ids,lB f (okB s.Items (pos r.Pats) t.Ids).1 a (neg r.Pats) t.Hits⟩ else t) :: kD s.Items (pos r.Pats) (neg r.Pats) f a b:=rfl
   rw[w]
   have next:=fun y=>p n (done++[y]) OY (by simp;omega) (fun u hu=>hm u (by simp[hu]))
   simp only[gk,gj,gx,hA,gi,hL,ho] at next
   cases z:(okB s.Items (pos r.Pats) t.Ids).2 with
   | false=>
    simp only[gf,if_false]
    have:∀ n,dV N a (done.length:Int) (d4 N r s f a n) (l,false) (pT (neg r.Pats) f l) N (done++t :: b) 0=d4 N r s f a n (done++t :: b) (IntKind.i64.wrap ((done.length:Int)+1)):=fun n=>by
     obtain⟨M,rfl⟩:∃ m,N=m+1:=⟨N - 1,OY⟩
     unfold dV
     split <;> simp
    rw[this,wr1 done.length OY]
    exact next t
   | true=>
    obtain rfl:=g2 z
    simp only[if_true]
    have:=EL (N:=N) a (done.length:Int) (d4 N r s f a n) f (okB s.Items (pos r.Pats) t.Ids).1 j (pT (neg r.Pats) f (okB s.Items (pos r.Pats) t.Ids).1) (by simp[pT];omega) done rfl t.Ids b (neg r.Pats) N [] [] t.Hits OY rfl rfl q v
    simp only[ho,gx,p4] at this
    have A:dV N a (done.length:Int) (d4 N r s f a n) ((okB s.Items (pos r.Pats) t.Ids).1,true) (pT (neg r.Pats) f (okB s.Items (pos r.Pats) t.Ids).1) N (done++t :: b) 0=_:=this
    rw[A,wr1 done.length OY]
    exact next _
 have:=lp c N [] OY (by simpa using k) (fun t h=>h)
 simpa using this
def p8 (xs:List au) (ps:List az) (row ids:List Int):List an:=ids.flatMap (lx xs ps row)
def xA (xs:List au) (ps:List az) (id:Int) (k:Nat) (B F:List an) (A:List Int):List an:=
 (if k=0 then lx xs ps [] id else B.flatMap fun t=>lx xs ps t.Ids id)++F.flatMap fun t=>p8 xs ps t.Ids A
def wQ (xs:List au) (ps ns:List az) (k:Nat) (t:an):an:=if k+1=ps.length then ⟨t.Ids,gr xs ns (okB xs ps t.Ids).1⟩ else t
theorem xb {xs:List au} {ps ns:List az} {row:List Int} {id:Int} {k:Nat} (h:row.length=k):(lx xs ps row id).map (wQ xs ps ns k)=od xs ps ns row id:=by
 subst h
 unfold lx od
 by_cases a:(okB xs ps (row++[id])).2=true
 ·rw[if_pos a,if_pos a,hS,qa]
  unfold wQ
  by_cases hk:row.length+1=ps.length
  ·rw[if_pos hk,if_pos hk]
  ·rw[if_neg hk,if_neg hk]
 ·rw[if_neg a,if_neg a];rfl
theorem FX {xs:List au} {ps ns:List az} {row:List Int} {k:Nat} (h:row.length=k) (ids:List Int):(p8 xs ps row ids).map (wQ xs ps ns k)=gG xs ps ns row ids:=by
 unfold p8 gG
 rw[P0]
 congr 1
 funext v
 exact xb h
theorem mU {α β:Type} {f g:α→List β}:∀ {l:List α},(∀ x∈l,f x=g x)→l.flatMap f=l.flatMap g
 | [],_=>rfl
 | x :: t,h=>by rw[l0,l0,h x OZ,mU fun y a=>h y (by simp[a])]
theorem Gg {xs:List au} {ps ns:List az} {id:Int} {k:Nat} {B F:List an} {A:List Int} (b:k=0→F=[]) (c:∀ t∈B,t.Ids.length=k) (d:∀ t∈F,t.Ids.length=k):(xA xs ps id k B F A).map (wQ xs ps ns k)=jl xs ps ns id k B F A:=by
 unfold xA jl
 rw[q0]
 by_cases hk:k=0
 ·rw[if_pos hk,if_pos hk,b hk,xb (by simp[hk])]
  simp[gG]
 ·rw[if_neg hk,if_neg hk,P0,P0]
  congr 1
  ·refine mU fun t a=>?_
   rw[xb (c t a)];simp[gG]
  ·exact mU fun t a=>FX (d t a) A
theorem ue (xs:List au) (ps:List az) (row:List Int) (id:Int):(lx xs ps row id).length≤1:=by unfold lx;split <;> simp
theorem AD (xs:List au) (ps:List az) (row:List Int):∀ (ids:List Int),(p8 xs ps row ids).length≤ids.length
 | []=>by simp[p8]
 | v :: ids=>by
  have h1:=AD xs ps row ids
  have a:=ue xs ps row v
  unfold p8 at h1 ⊢
  rw[l0,gk,gj];omega
theorem IH {xs:List au} {ps:List az} {id:Int} {k:Nat} {B F:List an} {A:List Int} (c:∀ t∈B,t.Ids.length=k) (d:∀ t∈F,t.Ids.length=k):∀ t∈xA xs ps id k B F A,t.Ids.length=k+1∧(okB xs ps t.Ids).2=true:=by
 have b:∀ (row:List Int) (v:Int),row.length=k→∀ t∈lx xs ps row v,t.Ids.length=k+1∧(okB xs ps t.Ids).2=true:=fun row v e t a=>by
  unfold lx at a
  split at a
  ·simp only[hY] at a;subst a;exact⟨by simp[e],by assumption⟩
  ·cases a
 intro t a
 unfold xA at a
 rcases gh.1 a with h | h
 ·split at h
  ·rename_i hk;exact b [] id (by simp[hk]) t h
  ·obtain⟨u,hu,h⟩:=j1.1 h
   exact b _ _ (c u hu) t h
 ·obtain⟨u,hu,h⟩:=j1.1 h
  unfold p8 at h
  obtain⟨v,_,h⟩:=j1.1 h
  exact b _ _ (d u hu) t h
theorem Kq {N:Nat} (c:1099000000000≤N) (r:ah) (s:af) (e:SzS r s) (F:List an) (a:cn) (j:Nat) (K:List an→Int→Option aY) (t:an) (f:idx F (j:Int)=some t) (m:j≤4294967296) (g:t.Ids.length+1≤ac r.Pats) (h:a.L.length≤4294967296) (b:List an) (k:b.length+a.L.length≤4294967296) :
  fY N r s F a (j:Int) K N b 0=K (b++p8 s.Items (pos r.Pats) t.Ids a.L) ((j+1:Nat):Int):=by
 refine lp' c a.L h (fun n (u:List an) i=>fY N r s F a (j:Int) K n u i) (fun w u=>K (u++p8 s.Items (pos r.Pats) t.Ids w) ((j+1:Nat):Int)) (fun u w=>u.length+w.length≤4294967296) b k (fun n u i v w g1 g2 g3 g4 g5 g6 d l=>?_) (fun n u i g1 g2 d=>?_)
 ·simp only[gj] at d
  have h1:=ue s.Items (pos r.Pats) t.Ids v
  simp only[fY,g5,if_true,f,g4,gb,E8 c r s e u t.Ids v g OY,g6]
  rw[l _ (by rw[gk];omega)]
  simp[p8]
 ·simp only[fY,g2,gf,if_false,wr1 j OY];simp[p8]
theorem Kg {N:Nat} (d:1099000000000≤N) (r:ah) (s:af) (f:SzS r s) (b:aV) (s1:List aw) (F:List an) (k:Int) (K:List aw→List an→Int→Option aY) (a:cn) (g:∀ t∈F,t.Ids.length+1≤ac r.Pats) (h:F.length≤4294967296) (j:a.L.length≤4294967296) (c:List an) (l:c.length+F.length*a.L.length≤4294967296) :
  eR N r s b s1 F k K a N c 0=cB N r s b s1 k K N (c++F.flatMap fun t=>p8 s.Items (pos r.Pats) t.Ids a.L) 0:=by
 refine lp' d F h (fun n (u:List an) i=>eR N r s b s1 F k K a n u i) (fun w u=>cB N r s b s1 k K N (u++w.flatMap fun t=>p8 s.Items (pos r.Pats) t.Ids a.L) 0) (fun u w=>u.length+w.length*a.L.length≤4294967296) c l (fun n u i v w g1 g2 g3 g4 g5 g6 e m=>?_) (fun n u i g1 g2 e=>?_)
 ·rw[gj,hE] at e
  have h1:=AD s.Items (pos r.Pats) v.Ids a.L
  simp only[eR,g5,if_true]
  rw[Kq d r s f F a i _ v g4 OY (g v g2) j u OY,m _ (by rw[gk];omega),l0,gi]
 ·simp only[eR,g2,gf,if_false];simp
theorem J3 {N:Nat} (j:1099000000000≤N) (r:ah) (s:af) (e:SzS r s) (a:aV) (done:List aw) (L:aw) (Ls:List aw) (K:List aw→List an→Int→Option aY) (v:a.Levels.length=(pos r.Pats).length) (hk:done.length+1≤(pos r.Pats).length) (w:(pos r.Pats).length=ac r.Pats) (M:List an)
  (k:∀ t∈M,t.Ids.length=done.length+1∧(okB s.Items (pos r.Pats) t.Ids).2=true) (x:L.Toks.length+M.length≤4294967296) :
  cB N r s a (done++L :: Ls) (done.length:Int) K N M 0=K (done++⟨L.Toks++M.map (wQ s.Items (pos r.Pats) (neg r.Pats) done.length)⟩ :: Ls) (M.map (wQ s.Items (pos r.Pats) (neg r.Pats) done.length)) ((done.length+1:Nat):Int):=by
 have y:=e.pl
 have z:=dv r.Pats
 have f:IntKind.i64.wrap ((a.Levels.length:Int) - 1)=((a.Levels.length - 1:Nat):Int):=by
  rw[show ((a.Levels.length:Int) - 1)=((a.Levels.length - 1:Nat):Int) by omega]
  exact wr OY OY
 have fin:∀ (n:Nat) (Z:List an) (i:Int),Z.length=M.length→((if decide (i < (Z.length:Int)) then some (decide ((done.length:Int)=IntKind.i64.wrap ((a.Levels.length:Int) - 1))) else some false)=some false) →
   cB N r s a (done++L :: Ls) (done.length:Int) K (n+1) Z i=K (done++⟨L.Toks++Z⟩ :: Ls) Z ((done.length+1:Nat):Int):=by
  intro n Z i A l
  have o:(done++L :: Ls).set ((done.length:Int)).toNat (⟨L.Toks++Z⟩:aw)=done++⟨L.Toks++Z⟩ :: Ls:=by rw[hX,lw,gi];rfl
  simp only[cB,l,gb,gf,if_false,ej,cg (show L.Toks.length+Z.length≤4294967296 by omega),o,wr1 done.length OY]
 by_cases g:done.length+1=(pos r.Pats).length
 ·have c2:decide ((done.length:Int)=IntKind.i64.wrap ((a.Levels.length:Int) - 1))=true:=by rw[f];exact decide_eq_true OY
  have lp:∀ (Z:List an) (n:Nat) (D:List an),Z.length < n→D.length+Z.length=M.length→(∀ t∈Z,t∈M) →
    cB N r s a (done++L :: Ls) (done.length:Int) K n (D++Z) (D.length:Int)=K (done++⟨L.Toks++(D++Z.map (wQ s.Items (pos r.Pats) (neg r.Pats) done.length))⟩ :: Ls) (D++Z.map (wQ s.Items (pos r.Pats) (neg r.Pats) done.length)) ((done.length+1:Nat):Int):=by
   intro Z
   induction Z with
   | nil=>
    intro n D b c hm
    obtain⟨n,rfl⟩:∃ m,n=m+1:=⟨n - 1,by simp at b;omega⟩
    have c1:decide ((D.length:Int) < ((D++[]).length:Int))=false:=decide_eq_false OZ
    rw[fin n (D++[]) (D.length:Int) (by simpa using c) (by rw[c1];rfl)]
    simp
   | cons t Z p=>
    intro n D b c hm
    obtain⟨n,rfl⟩:∃ m,n=m+1:=⟨n - 1,OY⟩
    simp only[gj] at b c
    have c1:decide ((D.length:Int) < ((D++t :: Z).length:Int))=true:=decide_eq_true (by simp;omega)
    obtain⟨h1,q⟩:=k t (hm t OZ)
    have d:wQ s.Items (pos r.Pats) (neg r.Pats) done.length t=⟨t.Ids,gr s.Items (neg r.Pats) (okB s.Items (pos r.Pats) t.Ids).1⟩:=by unfold wQ;rw[if_pos g]
    simp only[cB,c1,if_true,c2,gb,ej,IM j r s e t OY q,hX,lw,wr1 D.length OY]
    have:=p n (D++[⟨t.Ids,gr s.Items (neg r.Pats) (okB s.Items (pos r.Pats) t.Ids).1⟩]) OY (by simp;omega) (fun u hu=>hm u (by simp[hu]))
    simp only[gk,gj,gx,hA] at this
    rw[this,hS,d]
    simp only[gi,hL,ho]
  have:=lp M N [] OY OZ (fun t h=>h)
  simpa using this
 ·have c2:decide ((done.length:Int)=IntKind.i64.wrap ((a.Levels.length:Int) - 1))=false:=by rw[f];exact decide_eq_false OY
  have d:M.map (wQ s.Items (pos r.Pats) (neg r.Pats) done.length)=M:=by
   rw[show wQ s.Items (pos r.Pats) (neg r.Pats) done.length=id from by funext t;unfold wQ;rw[if_neg g];rfl,List.map_id]
  obtain⟨m,rfl⟩:∃ m,N=m+1:=⟨N - 1,OY⟩
  rw[d]
  have:=fin m M 0 rfl (by rw[c2];split <;> rfl)
  exact this
theorem FU {N:Nat} (w:1099000000000≤N) (r:ah) (s:af) (l:SzS r s) (c:aJ) (m:aY) (id:Int) (h:List Bool) (d:aV) (done:List aw) (L:aw) (Ls:List aw) (K:List aw→List an→Int→Option aY) (k:Nat) (hk:done.length=k) (B F:List an) (a:Int) (A:cn) (b:Bool)
  (o:idx c.Pos (k:Int)=some a) (E:idx m.Alphas a=some A) (x:idx h a=some b) (G:b=false→∀ row:List Int,row.length=k→lx s.Items (pos r.Pats) row id=[])
  (H:k≠0→∃ D,done=D++[⟨B++F⟩]) (I:k=0→B=[]) (M:k+1≤ac r.Pats) (y:∀ t∈B,t.Ids.length=k) (O:∀ t∈F,t.Ids.length=k) (P:A.L.length≤4294967296) (Q:F.length≤4294967296) (j:List an) (R:j.length+B.length+F.length*A.L.length≤4294967296) :
  dX N r c m s id h d (done++L :: Ls) F (k:Int) K (B.length:Int) N j 0=cB N r s d (done++L :: Ls) (k:Int) K N (j++(B.flatMap fun t=>lx s.Items (pos r.Pats) t.Ids id)++F.flatMap fun t=>p8 s.Items (pos r.Pats) t.Ids A.L) 0:=by
 have a1:=l.pl
 have a6:=dv r.Pats
 have tail:∀ (n:Nat) (u:List an) (i:Int),((if decide (i < (B.length:Int)) then ((idx c.Pos (k:Int)).bind fun S=>((idx h S).bind fun T=>some T)) else some false)=some false)→u.length+F.length*A.L.length≤4294967296 →
   dX N r c m s id h d (done++L :: Ls) F (k:Int) K (B.length:Int) (n+1) u i=cB N r s d (done++L :: Ls) (k:Int) K N (u++F.flatMap fun t=>p8 s.Items (pos r.Pats) t.Ids A.L) 0:=by
  intro n u i U hu
  unfold dX
  rw[U]
  simp only[gb,gf,if_false,o,E]
  exact Kg w r s l d _ F (k:Int) K A (fun t p=>by rw[O t p];exact M) Q P u hu
 cases b with
 | false=>
  have q:(B.flatMap fun t=>lx s.Items (pos r.Pats) t.Ids id)=[]:=by
   rw[mU (g:=fun _=>[]) fun t p=>G rfl _ (y t p)];simp
  obtain⟨n,rfl⟩:∃ n,N=n+1:=⟨N - 1,OY⟩
  rw[q,j5]
  exact tail n j 0 (by simp only[o,x,gb];split <;> rfl) OY
 | true=>
  have lp:∀ (Z:List an) (n:Nat) (D:List an) (u:List an),Z.length < n→B=D++Z→u.length+Z.length+F.length*A.L.length≤4294967296 →
    dX N r c m s id h d (done++L :: Ls) F (k:Int) K (B.length:Int) n u (D.length:Int)=cB N r s d (done++L :: Ls) (k:Int) K N (u++(Z.flatMap fun t=>lx s.Items (pos r.Pats) t.Ids id)++F.flatMap fun t=>p8 s.Items (pos r.Pats) t.Ids A.L) 0:=by
   intro Z
   induction Z with
   | nil=>
    intro n D u v f hu
    obtain⟨n,rfl⟩:∃ m,n=m+1:=⟨n - 1,by simp at v;omega⟩
    have c1:decide ((D.length:Int) < (B.length:Int))=false:=decide_eq_false (by rw[f];simp)
    rw[tail n u _ (by rw[c1];rfl) (by simpa using hu)]
    simp
   | cons t Z V=>
    intro n D u v f hu
    obtain⟨n,rfl⟩:∃ m,n=m+1:=⟨n - 1,OY⟩
    simp only[gj] at v hu
    have z:B.length=D.length+(Z.length+1):=by rw[f];simp
    have c1:decide ((D.length:Int) < (B.length:Int))=true:=decide_eq_true OY
    have W:k≠0:=fun e=>by rw[I e] at z;simp at z
    obtain⟨D',C⟩:=H W
    have X:IntKind.i64.wrap ((k:Int) - 1)=((k - 1:Nat):Int):=by
     rw[show ((k:Int) - 1)=((k - 1:Nat):Int) by omega]
     exact wr OY OY
    have q:idx (done++L :: Ls) ((k - 1:Nat):Int)=some ⟨B++F⟩:=by
     rw[C,gi,← hk,C,nY]
     simp
    have Y:idx (B++F) (D.length:Int)=some t:=by rw[f,gi];exact ej _ _ _
    have h1:=ue s.Items (pos r.Pats) t.Ids id
    have a7:=y t (by rw[f];simp)
    simp only[dX,c1,if_true,o,x,gb,X,q,Y,E8 w r s l u t.Ids id OY OY,wr1 D.length OY]
    have:=V n (D++[t]) (u++lx s.Items (pos r.Pats) t.Ids id) OY (by rw[f];simp) (by rw[gk];omega)
    simp only[gk,gj,gx,hA] at this
    rw[this,l0]
    simp only[gi]
  exact lp B N [] j OY rfl R
theorem Fk {N:Nat} (o:1099000000000≤N) (r:ah) (s:af) (h:SzS r s) (c:aJ) (m:aY) (at_ id:Int) (f:List Bool) (d:aV) (O:d.Levels.length=(pos r.Pats).length) (Z:1≤d.Levels.length) (P:(pos r.Pats).length=ac r.Pats) (A:Nat→List Int) (w:∀ k,(A k).length≤4294967296)
  (Q:∀ k,k < d.Levels.length→∃ a i b,idx c.Pos (k:Int)=some a∧idx m.Alphas a=some i∧i.L=A k∧idx f a=some b∧(b=false→∀ row:List Int,row.length=k→lx s.Items (pos r.Pats) row id=[])) :
  ∀ (rest:List aw) (n:Nat) (done:List aw) (B F:List an),rest.length < n→done.length+rest.length=d.Levels.length→(done.length≠0→∃ D,done=D++[⟨B++F⟩])→(done.length=0→B=[]∧F=[])→(∀ t∈B,t.Ids.length=done.length)→(∀ t∈F,t.Ids.length=done.length)→(∀ i L,rest[i]?=some L→∀ t∈L.Toks,t.Ids.length=done.length+1+i) →
   F.length≤4294967296→vE (fun k=>(A k).length) done.length (rest.map (·.Toks.length)) B.length F.length →
   bD N r c m at_ s id f d n (done++rest) F (done.length:Int)=some ⟨m.Alphas,m.Rules.set at_.toNat ⟨done++mC s.Items (pos r.Pats) (neg r.Pats) id A done.length rest B F⟩⟩
 | [],n,done,B,F,x,y,R,z,p,q,C,S,T=>by
  obtain⟨n,rfl⟩:∃ m,n=m+1:=⟨n - 1,by simp at x;omega⟩
  simp only[gx,l4] at y
  have a1:=h.pl
  have a6:=dv r.Pats
  have E:IntKind.i64.wrap ((d.Levels.length:Int) - 1)=((d.Levels.length - 1:Nat):Int):=by
   rw[show ((d.Levels.length:Int) - 1)=((d.Levels.length - 1:Nat):Int) by omega]
   exact wr OY OY
  have c1:decide ((done.length:Int)≤IntKind.i64.wrap ((d.Levels.length:Int) - 1))=false:=by rw[E];exact decide_eq_false OY
  simp only[bD,c1,gf,if_false,mC]
 | L :: Ls,n,done,B,F,x,y,R,z,p,q,C,S,T=>by
  obtain⟨n,rfl⟩:∃ m,n=m+1:=⟨n - 1,OY⟩
  simp only[gj] at x y
  obtain⟨U,V⟩:=T
  simp only at U V
  have a1:=h.pl
  have a6:=dv r.Pats
  have E:IntKind.i64.wrap ((d.Levels.length:Int) - 1)=((d.Levels.length - 1:Nat):Int):=by
   rw[show ((d.Levels.length:Int) - 1)=((d.Levels.length - 1:Nat):Int) by omega]
   exact wr OY OY
  have c1:decide ((done.length:Int)≤IntKind.i64.wrap ((d.Levels.length:Int) - 1))=true:=by rw[E];exact decide_eq_true OY
  obtain⟨a,i,b,G,W,v,H,I⟩:=Q done.length OY
  have a7:=wK s.Items (pos r.Pats) (neg r.Pats) id done.length B F (A done.length)
  have a8:=B7 (xs:=s.Items) (ps:=pos r.Pats) (ns:=neg r.Pats) (id:=id) (A:=A done.length) p q
  have X:=Gg (xs:=s.Items) (ps:=pos r.Pats) (ns:=neg r.Pats) (id:=id) (A:=A done.length) (fun e=>(z e).2) p q
  have aa:=IH (xs:=s.Items) (ps:=pos r.Pats) (id:=id) (A:=A done.length) p q
  have ae:(xA s.Items (pos r.Pats) id done.length B F (A done.length)).length=(jl s.Items (pos r.Pats) (neg r.Pats) id done.length B F (A done.length)).length:=by rw[← X,py]
  have key:∀ M,M=xA s.Items (pos r.Pats) id done.length B F (A done.length)→cB N r s d (done++L :: Ls) (done.length:Int) (bD N r c m at_ s id f d n) N M 0=some ⟨m.Alphas,m.Rules.set at_.toNat ⟨done++mC s.Items (pos r.Pats) (neg r.Pats) id A done.length (L :: Ls) B F⟩⟩:=by
   intro M hM
   subst hM
   rw[J3 o r s h d done L Ls _ O OY P _ aa OY,X]
   have:=Fk o r s h c m at_ id f d O Z P A w Q Ls n (done++[⟨L.Toks++jl s.Items (pos r.Pats) (neg r.Pats) id done.length B F (A done.length)⟩]) L.Toks (jl s.Items (pos r.Pats) (neg r.Pats) id done.length B F (A done.length)) OY (by simp;omega)
    (fun _=>⟨done,rfl⟩) (fun e=>by simp at e) (fun t u=>by have:=C 0 L rfl t u;simpa using this) (fun t u=>by simpa using a8 t u) (fun j M hj t u=>by have:=C (j+1) M (by simpa using hj) t u;simp only[gk,gj,gx];omega) OY
    (by simp only[gk,gj,gx];exact xc V (hz _) a7)
   simp only[gk,gj,gx,hA,gi,hL,ho] at this
   exact this
  simp only[bD,c1,if_true]
  by_cases g:done.length=0
  ·obtain⟨rfl,rfl⟩:=z g
   have c2:decide ((done.length:Int)=0)=true:=decide_eq_true OY
   have K:decide ((0:Int) < (done.length:Int))=false:=decide_eq_false OY
   have ab:idx c.Pos 0=some a:=by rw[← G,g];rfl
   have h1:=ue s.Items (pos r.Pats) [] id
   have fin:∀ l,l=lx s.Items (pos r.Pats) [] id→iA N r c m s id f d (done++L :: Ls) [] (done.length:Int) (bD N r c m at_ s id f d n) l=some ⟨m.Alphas,m.Rules.set at_.toNat ⟨done++mC s.Items (pos r.Pats) (neg r.Pats) id A done.length (L :: Ls) [] []⟩⟩:=by
    intro l hu
    unfold iA jp
    rw[K]
    simp only[gf,if_false]
    have ag:l.length≤1:=by rw[hu];exact h1
    have:=FU o r s h c m id f d done L Ls (bD N r c m at_ s id f d n) done.length rfl [] [] a i b G W H I (fun e=>absurd g e) (fun _=>rfl) OY OZ OZ (by rw[v];exact w _) OZ l (by simp;omega)
    simp only[gx,p4] at this
    have h5:dX N r c m s id f d (done++L :: Ls) [] (done.length:Int) (bD N r c m at_ s id f d n) 0 N l 0=_:=this
    rw[h5]
    exact key _ (by unfold xA;rw[if_pos g,hu];simp)
   simp only[c2,if_true,ab,H,gb]
   cases b with
   | true=>
    simp only[if_true,E8 o r s h [] [] id (by simp;omega) OZ,gb]
    exact fin _ OZ
   | false=>
    simp only[gf,if_false]
    exact fin _ (I rfl [] (by simp[g])).symm
  ·have c2:decide ((done.length:Int)=0)=false:=decide_eq_false OY
   have K:decide ((0:Int) < (done.length:Int))=true:=decide_eq_true OY
   obtain⟨D',Y⟩:=R g
   have ad:IntKind.i64.wrap ((done.length:Int) - 1)=((done.length - 1:Nat):Int):=by
    rw[show ((done.length:Int) - 1)=((done.length - 1:Nat):Int) by omega]
    exact wr OY OY
   have e1:idx (done++L :: Ls) ((done.length - 1:Nat):Int)=some ⟨B++F⟩:=by
    rw[Y,gi,nY]
    simp
   rw[if_neg g] at U
   have ai:B.length≤4294967296:=by omega
   have e2:IntKind.i64.wrap (((B++F).length:Int) - (F.length:Int))=(B.length:Int):=by
    rw[gk,show (((B.length+F.length:Nat):Int) - (F.length:Int))=(B.length:Int) by omega]
    exact wr OY OY
   simp only[c2,gf,if_false,gb,iA,K,if_true,ad,e1,e2,jp]
   rw[FU o r s h c m id f d done L Ls _ done.length rfl B F a i b G W H I (fun _=>⟨D',Y⟩) (fun e=>absurd e g) OY p q (by rw[v];exact w _) S [] (by rw[v];simp;omega)]
   exact key _ (by unfold xA;rw[if_neg g,v];simp)
theorem Ar {b0:List aq}:∀ (as:List bZ) (vs:List bn) (s:List aq) (pre:List bn),(ez b0 as vs s).2=true→as.length=vs.length→kC (pre++vs) (ats pre.length as) (kH as)=true
 | [],vs,s,pre,_,_=>rfl
 | a :: as,[],s,pre,_,c=>by simp at c
 | a :: as,v :: vs,s,pre,h,c=>by
  have e:as.length=vs.length:=by simpa using c
  have next:∀ d,(ez b0 as vs d).2=true→kC (pre++v :: vs) (ats (pre.length+1) as) (kH as)=true:=fun d f=>by
   have:=Ar as vs d (pre++[v]) f e
   simpa using this
  unfold ez at h
  unfold ats kH
  by_cases b:a.K=2
  ·rw[if_pos b] at h
   rw[if_pos b,if_pos b]
   by_cases he:bp a.V v=true
   ·rw[if_pos he] at h
    rw[hJ,decide_eq_true_eq] at he
    unfold kC
    have g:idx (pre++v :: vs) (pre.length:Int)=some a.V:=by
     rw[ag (show pre.length < (pre++v :: vs).length by simp),he];simp
    rw[next s h,g,decide_eq_true (show (0:Int)≤(pre.length:Int) by omega),decide_eq_true (show (pre.length:Int) < ((pre++v :: vs).length:Int) by simp;omega)]
    simp
   ·rw[if_neg he] at h;cases h
  ·rw[if_neg b] at h
   rw[if_neg b,if_neg b]
   split at h
   ·split at h
    ·split at h
     ·exact next s h
     ·cases h
    ·exact next _ h
   ·exact next s h
theorem BI {p:az} {f:aL} {b:List aq} (h:(aX p f b).2=true):gC (aT p) f=true:=by
 unfold aX at h
 split at h
 ·rename_i a
  have:=Ar p.Args f.Fields b [] h a.2
  have hk:seq f.Kind p.Kind=true:=by
   have:=a.1
   rw[lG,decide_eq_true_eq] at this ⊢
   exact this.symm
  show ((seq f.Kind p.Kind && decide ((f.Fields.length:Int)=(p.Args.length:Int))) && kC f.Fields (ats 0 p.Args) (kH p.Args))=true
  rw[hk,decide_eq_true (show (f.Fields.length:Int)=(p.Args.length:Int) by omega)]
  simpa using this
 ·cases h
theorem Ib {N:Nat} (r:1099000000000≤N) (a:ax) (f:aL) (h:a.At.length≤1048576) (s:f.Fields.length≤1048576):q9 N a f=some (gC a f):=by
 have k:IntKind.i64.wrap ((f.Fields.length:Int) - 1)=(f.Fields.length:Int) - 1:=wr OY OY
 have lp:∀ (n i:Nat),i≤a.At.length→a.At.length - i < n→jb N a f n i=some (kC f.Fields (a.At.drop i) (a.Consts.drop i)):=by
  intro n
  induction n with
  | zero=>intro i _ h;omega
  | succ n l=>
   intro i t u
   simp only[jb,in0,gb,k]
   by_cases b:i < a.At.length
   ·have c1:decide ((i:Int) < (a.At.length:Int))=true:=decide_eq_true OY
    rw[hn b]
    simp only[c1,if_true,ag b,gb,wr1 i OY,l (i+1) OY OY]
    by_cases c:i < a.Consts.length
    ·have c2:decide ((a.Consts.length:Int)≤(i:Int))=false:=decide_eq_false OY
     rw[hn c,kC]
     by_cases m:a.At[i] < 0
     ·simp[show ¬ a.Consts.length≤i by omega,show ¬ 0≤a.At[i] by omega]
     ·by_cases h1:(f.Fields.length:Int)≤a.At[i]
      ·simp[show ¬ a.Consts.length≤i by omega,show 0≤a.At[i] by omega,show ¬ a.At[i]≤(f.Fields.length:Int) - 1 by omega,show ¬ a.At[i] < (f.Fields.length:Int) by omega]
      ·obtain⟨j,d⟩:∃ j:Nat,a.At[i]=(j:Int):=⟨a.At[i].toNat,OY⟩
       have e:j < f.Fields.length:=by omega
       rw[d]
       rw[d] at m h1
       have o:(j:Int)≤(f.Fields.length:Int) - 1:=by omega
       have p:(0:Int)≤(j:Int):=by omega
       simp only[p,o,decide_true,Bool.and_self,hC,c2,decide_false,gf,if_false,gb,ag e,ag c,hJ,Option.some.injEq]
       by_cases he:f.Fields[j]=a.Consts[i] <;> simp[he,e]
    ·have c2:decide ((a.Consts.length:Int)≤(i:Int))=true:=decide_eq_true OY
     rw[hy (show a.Consts.length≤i by omega),kC]
     simp[show a.Consts.length≤i by omega]
   ·have c1:decide ((i:Int) < (a.At.length:Int))=false:=decide_eq_false OY
    rw[hy (show a.At.length≤i by omega)]
    simp only[c1,gf,if_false,kC]
 have g:=lp N 0 OY OY
 rw[hQ,hQ,show ((0:Nat):Int)=0 from rfl] at g
 unfold q9 gC
 rw[g]
 have hk:seq a.Kind f.Kind=seq f.Kind a.Kind:=by rw[lG,lG];simp[eq_comm]
 rw[hk]
 have q:decide (a.N=(f.Fields.length:Int))=decide ((f.Fields.length:Int)=a.N):=by rw[decide_eq_decide];exact eq_comm
 rw[q]
 cases seq f.Kind a.Kind <;> cases decide ((f.Fields.length:Int)=a.N) <;> simp
theorem tE {xs:List au} {id:Int}:∀ (ps:List az) (row:List Int) (l:List aq),(aZ xs (ps.take (row.length+1)) (row++[id]) l).2=true→∃ p,ps[row.length]?=some p∧gC (aT p) (aH xs id).1=true
 | [],row,l,h=>by
  cases row <;> simp[aZ] at h
 | p :: ps,[],l,h=>by
  simp only[gx,hA,P1,ho,aZ] at h
  split at h
  ·rename_i a
   exact⟨p,rfl,BI a.2⟩
  ·cases h
 | p :: ps,v :: row,l,h=>by
  simp only[gj,P1,hL,aZ] at h
  split at h
  ·have:=tE ps row _ h
   simpa using this
  ·cases h
theorem GJ {xs:List au} {ps:List az} {row:List Int} {id:Int} {p:az} (hp:ps[row.length]?=some p) (h:gC (aT p) (aH xs id).1=false):lx xs ps row id=[]:=by
 unfold lx
 rw[if_neg]
 intro hk
 unfold okB at hk
 rw[gk,gj,gx,hA] at hk
 obtain⟨q,a,b⟩:=tE ps row [] hk
 rw[hp] at a
 cases a
 rw[h] at b
 cases b
theorem MR {N:Nat} (p:1099000000000≤N) (r:ah) (c:aJ) (m:aY) (at_:Int) (s:af) (id:Int) (l:List Bool) (row:aV) (n:SzS r s) (q:(pos r.Pats).length=ac r.Pats) (v:idx m.Rules at_=some row) (ok:CS m.Alphas r c row)
  (w:∀ L,row.Levels[row.Levels.length - 1]?=some L→∀ t∈L.Toks,∀ x∈t.Hits,InR x)
  (y:∀ k,k < row.Levels.length→∃ a i b,idx c.Pos (k:Int)=some a∧idx m.Alphas a=some i∧idx l a=some b∧(b=false→∀ row:List Int,row.length=k→lx s.Items (pos r.Pats) row id=[])) :
  oA N r c m at_ s id (aH s.Items id).1 l=some ⟨m.Alphas,m.Rules.set at_.toNat ⟨(pG s.Items m.Alphas (aH s.Items id).1 id r c row).Levels⟩⟩:=by
 have z:=ok.ne
 have A:=ok.ll
 have F:=n.pl
 have G:=dv r.Pats
 have B:IntKind.i64.wrap ((row.Levels.length:Int) - 1)=((row.Levels.length - 1:Nat):Int):=by
  rw[show ((row.Levels.length:Int) - 1)=((row.Levels.length - 1:Nat):Int) by omega]
  exact wr OY OY
 have o:row.Levels.length - 1 < row.Levels.length:=by omega
 have d:row.Levels[row.Levels.length - 1]?=some row.Levels[row.Levels.length - 1]:=gm o
 have hlen:(row.Levels[row.Levels.length - 1]).Toks.length≤4294967296:=xV ok.fit _ (hN.2 ⟨_,hB o,rfl⟩)
 have C:=CE (M:=kD s.Items (pos r.Pats) (neg r.Pats) (aH s.Items id).1 1 (row.Levels[row.Levels.length - 1]).Toks) d (wH _)
 unfold oA
 rw[v,gb,B,ag o,gb,Hr p r s n _ 1 (Or.inl rfl) _ hlen (fun t g=>⟨by have:=ok.ids _ _ d t g;omega,ok.hit _ d t g,w _ d t g⟩),gb,hX]
 have h1:=Fk p r s n c m at_ id l row A z q (uZ m.Alphas c) ok.al
  (fun k hk=>by
   obtain⟨a,i,b,h1,h,D,E⟩:=y k hk
   exact⟨a,i,b,h1,h,wD h1 h,D,E⟩)
  (row.Levels.set (row.Levels.length - 1) ⟨kD s.Items (pos r.Pats) (neg r.Pats) (aH s.Items id).1 1 (row.Levels[row.Levels.length - 1]).Toks⟩) N [] [] [] (by rw[my];omega) OZ (fun e=>absurd rfl e) (fun _=>⟨rfl,rfl⟩) OZ OZ
  (fun i L j t g=>by
   rw[gx,hA,F0]
   rw[vx] at j
   split at j
   ·rename_i e;subst e
    ·simp only[Option.some.injEq] at j
     subst j
     have h1:=uq (xs:=s.Items) (ps:=pos r.Pats) (ns:=neg r.Pats) (f:=(aH s.Items id).1) (b:=1) (row.Levels[row.Levels.length - 1]).Toks
     have h:t.Ids∈(row.Levels[row.Levels.length - 1]).Toks.map (·.Ids):=by rw[← h1];exact hN.2 ⟨t,g,rfl⟩
     obtain⟨u,hu,e⟩:=hN.1 h
     rw[← e];exact ok.ids _ _ d u hu
   ·exact ok.ids i L j t g)
  OZ (by rw[C];exact ok.fit)
 simp only[ho,gx,p4] at h1
 have h:bD N r c m at_ s id l row N (row.Levels.set (row.Levels.length - 1) ⟨kD s.Items (pos r.Pats) (neg r.Pats) (aH s.Items id).1 1 (row.Levels[row.Levels.length - 1]).Toks⟩) [] 0=_:=h1
 rw[h]
 unfold pG gn
 rw[d]
theorem FQ {N:Nat} (y:1099000000000≤N) (d:bq) (n:cA) (s:af) (id:Int) (b:Bool) (as:List cn) (v:List Bool) (z:d.Rules.length≤1048576) :
  ∀ (ws:List aV) (f:List ah) (cs:List aJ) (k:Nat) (g:List ah) (h:List aJ) (e:List aV),ws.length < k→d.Rules=g++f→n.Chains=h++cs→g.length=e.length→h.length=e.length→f.length=ws.length→cs.length=ws.length →
   (∀ (i:Nat) (r:ah) (c:aJ) (w:aV),f[i]?=some r→cs[i]?=some c→ws[i]?=some w→SzS r s∧(pos r.Pats).length=ac r.Pats∧CS as r c w∧(∀ L,w.Levels[w.Levels.length - 1]?=some L→∀ t∈L.Toks,∀ x∈t.Hits,InR x) ∧
    ∀ k,k < w.Levels.length→∃ a i b,idx c.Pos (k:Int)=some a∧idx as a=some i∧idx v a=some b∧(b=false→∀ row:List Int,row.length=k→lx s.Items (pos r.Pats) row id=[])) →
   gV N d n s id ((aH s.Items id).1,b) as v k (e++ws) (e.length:Int)=some ⟨as,e++oU (pG s.Items as (aH s.Items id).1 id) f cs ws⟩
 | [],f,cs,k,g,h,e,hk,h1,o,l,p,m,q,u=>by
  obtain⟨k,rfl⟩:∃ j,k=j+1:=⟨k - 1,by simp at hk;omega⟩
  have A:f=[]:=qo.1 m
  subst A
  have c1:decide ((e.length:Int) < (d.Rules.length:Int))=false:=decide_eq_false (by rw[h1,← l];simp)
  simp only[gV,c1,gf,if_false,oU]
 | w :: ws,[],cs,k,g,h,e,hk,h1,o,l,p,m,q,u=>by simp at m
 | w :: ws,r :: f,[],k,g,h,e,hk,h1,o,l,p,m,q,u=>by simp at q
 | w :: ws,r :: f,c :: cs,k,g,h,e,hk,h1,o,l,p,m,q,u=>by
  obtain⟨k,rfl⟩:∃ j,k=j+1:=⟨k - 1,OY⟩
  simp only[gj] at hk m q
  have O:d.Rules.length=e.length+(f.length+1):=by rw[h1,← l];simp
  have c1:decide ((e.length:Int) < (d.Rules.length:Int))=true:=decide_eq_true OY
  obtain⟨B,C,D,E,F⟩:=u 0 r c w rfl rfl rfl
  have G:idx d.Rules (e.length:Int)=some r:=by rw[h1,← l];exact ej _ _ _
  have H:idx n.Chains (e.length:Int)=some c:=by rw[o,← p];exact ej _ _ _
  simp only[gV,c1,if_true,gb,G,H]
  rw[MR y r c ⟨as,e++w :: ws⟩ (e.length:Int) s id v w B C (ej _ _ _) D E F]
  simp only[gb,hX,lw,wr1 e.length OY]
  have:=FQ y d n s id b as v z ws f cs k (g++[r]) (h++[c]) (e++[⟨(pG s.Items as (aH s.Items id).1 id r c w).Levels⟩]) OY (by rw[h1];simp) (by rw[o];simp) (by simp[l]) (by simp[p]) OY OY
   (fun i I K w' M a2 a3=>u (i+1) I K w' (by simpa using M) (by simpa using a2) (by simpa using a3))
  simp only[gk,gj,gx,hA] at this
  rw[this,gi]
  rfl
theorem FA {N:Nat} (p:1099000000000≤N) (d:bq) (n:cA) (m:aY) (s:af) (id:Int) (f:aL × Bool) (q:∀ a∈n.Alphas,a.At.length≤1048576) (t:n.Alphas.length≤1048576) (r:f.1.Fields.length≤1048576) :
  ∀ (as:List ax) (k:Nat) (b:List ax) (c is:List cn),as.length < k→n.Alphas=b++as→c.length=b.length→is.length=as.length→(∀ i∈is,i.L.length+1≤4294967296) →
   fD N d n m s id f k (c++is) (b.map fun a=>gC a f.1) (b.length:Int)=gV N d n s id f (c++d7 f.1 id as is) (n.Alphas.map fun a=>gC a f.1) N m.Rules 0
 | [],k,b,c,is,hk,h1,g,l,o=>by
  obtain⟨k,rfl⟩:∃ j,k=j+1:=⟨k - 1,by simp at hk;omega⟩
  have c1:decide ((b.length:Int) < (n.Alphas.length:Int))=false:=decide_eq_false (by rw[h1];simp)
  have e:n.Alphas=b:=by rw[h1];simp
  simp only[fD,c1,gf,if_false,d7]
  rw[e]
 | a :: as,k,b,c,[],hk,h1,g,l,o=>by simp at l
 | a :: as,k,b,c,i :: is,hk,h1,g,l,o=>by
  obtain⟨k,rfl⟩:∃ j,k=j+1:=⟨k - 1,OY⟩
  simp only[gj] at hk l
  have B:n.Alphas.length=b.length+(as.length+1):=by rw[h1];simp
  have c1:decide ((b.length:Int) < (n.Alphas.length:Int))=true:=decide_eq_true OY
  have u:idx n.Alphas (b.length:Int)=some a:=by rw[h1];exact ej _ _ _
  have v:idx (c++i :: is) (b.length:Int)=some i:=by rw[← g];exact ej _ _ _
  have w:a∈n.Alphas:=by rw[h1];simp
  have x:=o i OZ
  have h:=fun y=>FA p d n m s id f q t r as k (b++[a]) (c++[y]) is OY (by rw[h1];simp) (by simp[g]) OY (fun j z=>o j (by simp[z]))
  simp only[gk,gj,gx,hA,gi,hL,ho,q0,hS,qa] at h
  simp only[fD,c1,if_true,u,gb,Ib p a f.1 (q a w) r,wr1 b.length OY,d7,cg (show (b.map fun a=>gC a f.1).length+[gC a f.1].length≤4294967296 by simp;omega)]
  cases hp:gC a f.1 with
  | true=>
   rw[hp] at h
   simp only[if_true,v,gb,cg (show i.L.length+[id].length≤4294967296 by simpa using x)]
   have A:(c++i :: is).set ((b.length:Int)).toNat (⟨i.L++[id]⟩:cn)=c++⟨i.L++[id]⟩ :: is:=by
    rw[hX,← g,lw,gi];rfl
   rw[A]
   exact h _
  | false=>
   rw[hp] at h
   simp only[gf,if_false]
   exact h i
theorem rf {f:aL} {id:Int}:∀ (as:List ax) (is:List cn),(d7 f id as is).length=is.length
 | [],is=>by simp[d7]
 | a :: as,[]=>by simp[d7]
 | a :: as,i :: is=>by simp[d7,rf as is]
structure HD (d:bq) (n:cA) (m:aY) (s:af) (id:Int):Prop where
 ok:L3 d n m s id
 ats:Ats n.Alphas n.Chains d.Rules
 rows:∀ (i:Nat) (r:ah) (w:aV),d.Rules[i]?=some r→m.Rules[i]?=some w→SzS r s∧(pos r.Pats).length=ac r.Pats∧∀ L,w.Levels[w.Levels.length - 1]?=some L→∀ t∈L.Toks,∀ x∈t.Hits,InR x
theorem NT {N:Nat} (b:1099000000000≤N) (d:bq) (n:cA) (m:aY) (s:af) (id:Int) (h:HD d n m s id):qM N d n m s id=some (A8 d n m s id):=by
 have H:=h.ok.al
 have I:=h.ok.rl
 have K:=h.ok.ld
 have p:=h.ok.la
 unfold qM
 rw[zl b s id h.ok.sl h.ok.fl,gb]
 have h1:=FA b d n m s id (aH s.Items id) h.ok.at_ h.ok.al (DQ h.ok.fl id) n.Alphas N [] [] m.Alphas OY rfl rfl h.ok.la h.ok.il
 simp only[ho,gx,p4,qa] at h1
 have t:fD N d n m s id (aH s.Items id) N m.Alphas [] 0=_:=h1
 rw[t]
 have j:=FQ b d n s id (aH s.Items id).2 (d7 (aH s.Items id).1 id n.Alphas m.Alphas) (n.Alphas.map fun a=>gC a (aH s.Items id).1) OY m.Rules d.Rules n.Chains N [] [] [] OY rfl rfl rfl rfl h.ok.ld h.ok.lc
  (fun i r c w g1 g2 g3=>by
   obtain⟨L,l⟩:=h.ok.rows i r c w g1 g2 g3
   obtain⟨u,v,x⟩:=h.rows i r w g1 g3
   refine⟨u,v,l,x,fun k hk=>?_⟩
   obtain⟨y,z⟩:=ha.1 g1
   obtain⟨A,B⟩:=ha.1 g2
   have f:=(h.ats.get i A y).1
   rw[B,z] at f
   have g:k < (pos r.Pats).length:=by rw[← l.ll];exact hk
   have o:k < c.Pos.length:=by rw[f.len];exact g
   have C:=f.get k o g
   obtain⟨a0,M,e⟩:=a8 C
   have D:c.Pos[k].toNat < (d7 (aH s.Items id).1 id n.Alphas m.Alphas).length:=by
    rw[rf,p]
    obtain⟨q,_⟩:=ha.1 e
    exact q
   have E:c.Pos[k]=((c.Pos[k].toNat:Nat):Int):=by omega
   refine⟨c.Pos[k],_,gC (aT (pos r.Pats)[k]) (aH s.Items id).1,ag o,by rw[E];exact ag D,?_,fun F row G=>?_⟩
   ·have:(n.Alphas.map fun a=>gC a (aH s.Items id).1)[c.Pos[k].toNat]?=some (gC (aT (pos r.Pats)[k]) (aH s.Items id).1):=by
     rw[nt,e];rfl
    unfold idx
    rw[if_pos a0]
    exact this
   ·exact GJ (by rw[G];exact gm g) F)
 simp only[ho,gx,p4] at j
 exact j
def GM (ps ns:List az) (i:Nat) (t:an):Prop:=t.Ids.length=i+1∧t.Hits.length≤ns.length∧(i+1=ps.length→t.Hits.length=ns.length∧∀ x∈t.Hits,InR x)
def Mc (ps ns:List az) (j i:Nat) (L:aw):Prop:=L.Toks.length≤j*100 ^ i∧∀ t∈L.Toks,GM ps ns i t
def Ea (r:ah) (j:Nat) (w:aV):Prop:=w.Levels.length=(pos r.Pats).length∧∀ i L,w.Levels[i]?=some L→Mc (pos r.Pats) (neg r.Pats) j i L
theorem Gm {xs:List au} {ps ns:List az} {row:List Int} {id:Int} (c:xs.length≤1048576):∀ t∈od xs ps ns row id,GM ps ns row.length t:=by
 intro t a
 unfold od at a
 split at a
 ·simp only[hY] at a
  subst a
  refine⟨OZ,?_,fun e=>?_⟩
  ·simp only
   split
   ·simp[gr]
   ·simp
  ·simp only[e,if_true]
   refine⟨by simp[gr],fun x b=>?_⟩
   unfold gr at b
   obtain⟨p,_,rfl⟩:=hN.1 b
   have:=xS p (okB xs ps (row++[id])).1 xs
   exact wr OY OY
 ·cases a
theorem xi {xs:List au} {ps ns:List az} {row ids:List Int} (b:xs.length≤1048576):∀ t∈gG xs ps ns row ids,GM ps ns row.length t:=by
 intro t a
 unfold gG at a
 obtain⟨v,_,h⟩:=j1.1 a
 exact Gm b t h
theorem AM {xs:List au} {ps ns:List az} {id:Int} {k:Nat} {B F:List an} {A:List Int} (b:xs.length≤1048576) (c:∀ t∈B,t.Ids.length=k) (d:∀ t∈F,t.Ids.length=k):∀ t∈jl xs ps ns id k B F A,GM ps ns k t:=by
 intro t a
 unfold jl at a
 split at a
 ·rename_i e
  subst e
  exact xi b t a
 ·rcases gh.1 a with a | a
  ·obtain⟨u,hu,h⟩:=j1.1 a
   have:=xi b t h
   rwa [c u hu] at this
  ·obtain⟨u,hu,h⟩:=j1.1 a
   have:=xi b t h
   rwa [d u hu] at this
theorem Dh {j k b f a:Nat} (d:j≤40) (g:a≤41) (h:k≠0→b≤j*100 ^ (k - 1)∧f≤100 ^ (k - 1)):(if k=0 then 1 else b+f*a)≤100 ^ k:=by
 split
 ·rename_i e;subst e;exact hz _
 ·rename_i e
  obtain⟨k,rfl⟩:∃ m,k=m+1:=⟨k - 1,OY⟩
  obtain⟨h1,c⟩:=h e
  simp only[y1] at h1 c
  have i:f*a≤100 ^ k*41:=P2 c g
  have l:j*100 ^ k≤40*100 ^ k:=Nat.mul_le_mul_right _ d
  rw[Nat.pow_succ]
  omega
theorem AA {xs:List au} {ps ns:List az} {id:Int} {A:Nat→List Int} {j:Nat} (c:j≤40) (d:∀ k,(A k).length≤41) (e:xs.length≤1048576):∀ (ls:List aw) (k:Nat) (B F:List an),(k≠0→B.length≤j*100 ^ (k - 1)∧F.length≤100 ^ (k - 1))→(∀ t∈B,t.Ids.length=k)→(∀ t∈F,t.Ids.length=k) →
  (∀ i L,ls[i]?=some L→Mc ps ns j (k+i) L)→(mC xs ps ns id A k ls B F).length=ls.length∧∀ i L,(mC xs ps ns id A k ls B F)[i]?=some L→Mc ps ns (j+1) (k+i) L
 | [],k,B,F,h1,f,g,a=>⟨rfl,fun i L h=>by simp[mC] at h⟩
 | M :: Ls,k,B,F,h1,f,g,a=>by
  have hm:=j4 (wK xs ps ns id k B F (A k)) (Dh c (d k) h1)
  have l:=AM (xs:=xs) (ps:=ps) (ns:=ns) (id:=id) (A:=A k) e f g
  have o:=a 0 M rfl
  obtain⟨m,b⟩:=o
  simp only[l4] at m b
  have n:=AA (xs:=xs) (ps:=ps) (ns:=ns) (id:=id) (A:=A) c d e Ls (k+1) M.Toks (jl xs ps ns id k B F (A k)) (fun _=>⟨by simpa using m,by simpa using hm⟩) (fun t h=>(b t h).1) (fun t h=>(l t h).1) (fun i L h=>by
   have:=a (i+1) L (by simpa using h)
   rwa [show k+(i+1)=k+1+i by omega] at this)
  unfold mC
  refine⟨by simp[n.1],fun i L h=>?_⟩
  cases i with
  | zero=>
   simp only[G0,Option.some.injEq] at h
   subst h
   refine⟨?_,fun t h=>?_⟩
   ·simp only[gk,l4,hE];omega
   ·rcases gh.1 h with h | h
    ·exact b t h
    ·exact l t h
  | succ i=>
   have:=n.2 i L (by simpa using h)
   rwa [show k+1+i=k+(i+1) by omega] at this
theorem Jn (n:Int):InR (IntKind.i64.wrap n):=by
 have a:(2:Int) ^ 64=18446744073709551616:=by decide
 have b:(2:Int) ^ (64 - 1)=9223372036854775808:=by decide
 unfold InR
 apply wr
 ·simp only[IntKind.wrap,IntKind.bits,IntKind.signed,a,b,hI,decide_eq_true_eq]
  split <;> omega
 ·simp only[IntKind.wrap,IntKind.bits,IntKind.signed,a,b,hI,decide_eq_true_eq]
  split <;> omega
theorem Dy {f:aL} {l:List aq} {b:Int}:∀ (ns:List az) (h:List Int),(∀ x∈h,InR x)→∀ x∈lB f l b ns h,InR x
 | p :: ns,y :: h,c,x,a=>by
  unfold lB at a
  rcases hK.1 a with rfl | a
  ·split
   ·exact Jn _
   ·exact c y OZ
  ·exact Dy ns h (fun z d=>c z (by simp[d])) x a
 | [],h,c,x,a=>by
  have:lB f l b [] h=h:=by cases h <;> rfl
  rw[this] at a;exact c x a
 | p :: ns,[],c,x,a=>by simp[lB] at a
theorem Gl {xs:List au} {ps ns:List az} {f:aL} {b:Int} {i:Nat} {c:List an} (h:∀ t∈c,GM ps ns i t):∀ t∈kD xs ps ns f b c,GM ps ns i t:=by
 intro t d
 unfold kD at d
 obtain⟨u,hu,rfl⟩:=hN.1 d
 obtain⟨h1,g,a⟩:=h u hu
 split
 ·exact⟨h1,by simp only[xh];exact g,fun e=>⟨by simp only[xh];exact (a e).1,Dy _ _ (a e).2⟩⟩
 ·exact⟨h1,g,a⟩
theorem vz {xs:List au} {r:ah} {f:aL} {b:Int} {j:Nat} {w:aV} (h:Ea r j w):Ea r j (gn xs (pos r.Pats) (neg r.Pats) f b w):=by
 obtain⟨h1,d⟩:=h
 unfold gn
 split
 ·rename_i L g
  refine⟨by simpa using h1,fun i M c=>?_⟩
  simp only at c
  rw[vx] at c
  split at c
  ·rename_i e
   split at c
   ·simp only[Option.some.injEq] at c
    subst c
    subst e
    obtain⟨a,b⟩:=d _ L g
    exact⟨by simpa[wH] using a,Gl b⟩
   ·cases c
  ·exact d i M c
 ·exact⟨h1,d⟩
theorem zy {as:List cn} {B:Nat} (h:∀ i∈as,i.L.length≤B) (c:aJ) (k:Nat):(uZ as c k).length≤B:=by
 unfold uZ
 split
 ·split
  ·rename_i i a
   obtain⟨_,_,e⟩:=a8 a
   exact h i (jt e)
  ·simp
 ·simp
theorem FZ {xs:List au} {as:List cn} {f:aL} {id:Int} {r:ah} {c:aJ} {j:Nat} {w:aV} (a:j≤40) (d:∀ i∈as,i.L.length≤41) (g:xs.length≤1048576) (h:Ea r j w):Ea r (j+1) (pG xs as f id r c w):=by
 obtain⟨h1,k⟩:=vz (xs:=xs) (f:=f) (b:=1) h
 have:=AA (xs:=xs) (ps:=pos r.Pats) (ns:=neg r.Pats) (id:=id) (A:=uZ as c) a (zy d c) g (gn xs (pos r.Pats) (neg r.Pats) f 1 w).Levels 0 [] [] (fun e=>absurd rfl e) OZ OZ (fun i L h=>by rw[hA];exact k i L h)
 unfold pG
 exact⟨by rw[this.1];exact h1,fun i L h=>by have:=this.2 i L h;rwa [hA] at this⟩
theorem Fu {A:Nat→Nat} {j:Nat} (a:j≤40) (d:∀ k,A k≤41):∀ (ls:List Nat) (k b f:Nat),(k≠0→b≤j*100 ^ (k - 1)∧f≤100 ^ (k - 1))→(∀ i l,ls[i]?=some l→l≤j*100 ^ (k+i))→k+ls.length≤4→vE A k ls b f
 | [],k,b,f,h1,c,e=>trivial
 | l :: ls,k,b,f,h1,c,e=>by
  simp only[gj] at e
  have hm:=Dh a (d k) h1
  have g:=c 0 l rfl
  rw[l4] at g
  have hp:100 ^ k≤1000000:=by
   have:100 ^ k≤100 ^ 3:=Nat.pow_le_pow_right OY OY
   simpa using this
  have m:j*100 ^ k≤40*1000000:=P2 a hp
  refine⟨OY,Fu a d ls (k+1) l _ (fun _=>⟨by simpa using g,by simpa using hm⟩) (fun i l' h=>?_) OY⟩
  have:=c (i+1) l' (by simpa using h)
  rwa [show k+(i+1)=k+1+i by omega] at this
theorem vw {g:ah→aJ→aV→aV}:∀ (d:List ah) (cs:List aJ) (ws:List aV),d.length=ws.length→cs.length=ws.length→(oU g d cs ws).length=ws.length∧∀ (i:Nat) (v:aV),(oU g d cs ws)[i]?=some v→∃ (r:ah) (c:aJ) (w:aV),d[i]?=some r∧cs[i]?=some c∧ws[i]?=some w∧v=g r c w
 | [],cs,[],_,_=>⟨by simp[oU],fun i v h=>by simp[oU] at h⟩
 | r :: d,[],w :: ws,_,h=>by simp at h
 | r :: d,c :: cs,w :: ws,h1,f=>by
  have e:=vw (g:=g) d cs ws (by simpa using h1) (by simpa using f)
  unfold oU
  refine⟨by simp[e.1],fun i v h=>?_⟩
  cases i with
  | zero=>exact⟨r,c,w,rfl,rfl,rfl,by simpa using h.symm⟩
  | succ i=>
   obtain⟨a,b,j,k,l,m,n⟩:=e.2 i v (by simpa using h)
   exact⟨a,b,j,by simpa using k,by simpa using l,by simpa using m,n⟩
theorem th {f:aL} {id:Int} {B:Nat}:∀ (as:List ax) (is:List cn),(∀ i∈is,i.L.length≤B)→∀ i∈d7 f id as is,i.L.length≤B+1
 | [],is,h,i,b=>by
  have:d7 f id [] is=is:=by cases is <;> rfl
  rw[this] at b
  have:=h i b;omega
 | a :: as,[],h,i,b=>by simp[d7] at b
 | a :: as,y :: is,h,i,b=>by
  unfold d7 at b
  rcases hK.1 b with rfl | b
  ·have:=h y OZ
   split
   ·simpa using this
   ·omega
  ·exact th as is (fun z c=>h z (by simp[c])) i b
structure pu (d:bq) (n:cA) (j:Nat) (m:aY):Prop where
 la:m.Alphas.length=n.Alphas.length
 lr:m.Rules.length=d.Rules.length
 al:∀ i∈m.Alphas,i.L.length≤j
 rows:∀ (i:Nat) (r:ah) (w:aV),d.Rules[i]?=some r→m.Rules[i]?=some w→Ea r j w
theorem vN {d:bq} {n:cA} {m:aY} {s:af} {id:Int} {j:Nat} (k:j≤40) (l:s.Items.length≤1048576) (o:n.Chains.length=d.Rules.length) (h:pu d n j m):pu d n (j+1) (A8 d n m s id):=by
 have h1:=th (f:=(aH s.Items id).1) (id:=id) n.Alphas m.Alphas h.al
 have a:=vw (g:=pG s.Items (d7 (aH s.Items id).1 id n.Alphas m.Alphas) (aH s.Items id).1 id) d.Rules n.Chains m.Rules h.lr.symm (by rw[o,h.lr])
 refine⟨?_,?_,h1,?_⟩
 ·show (d7 _ _ _ _).length=_
  rw[rf];exact h.la
 ·show (oU _ _ _ _).length=_
  rw[a.1];exact h.lr
 ·intro i r v b p
  obtain⟨t,c,w,e,a2,a3,rfl⟩:=a.2 i v p
  rw[b] at e
  cases e
  exact FZ k (fun y q=>by have:=h1 y q;omega) l (h.rows i r w b a3)
theorem yL {d:bq} {n:cA} (h:Ats n.Alphas n.Chains d.Rules):pu d n 0 (lH n):=by
 unfold lH
 refine⟨OZ,by simp[h.len],fun i a=>?_,fun i r w l f=>?_⟩
 ·rw[(List.mem_replicate.1 a).2];simp
 ·simp only[nt,vy] at f
  obtain⟨c,b,rfl⟩:=f
  obtain⟨a,m⟩:=ha.1 l
  obtain⟨o,b⟩:=ha.1 b
  have g:=(h.get i o a).1
  rw[b,m] at g
  refine⟨by simp only[rK,List.length_replicate];exact g.len,fun k L j=>?_⟩
  simp only[rK] at j
  obtain⟨_,e⟩:=ha.1 j
  rw[Pg] at e
  subst e
  exact⟨OZ,OZ⟩
theorem zC {d:bq} {m:aY} {s:af} {id:Int} {j:Nat} (C:ji d=true) (D:sk d) (hs:s.Items.length≤40) (E:∀ x∈s.Items,x.F.Fields.length≤1048576) (Q:j≤40) (h:pu d (cS d) j m):HD d (cS d) m s id:=by
 have F:=nF C
 obtain⟨_,v,ae⟩:=ud F
 obtain⟨⟨R,z2⟩,z3,z4⟩:=tp F
 have S:=th (f:=(aH s.Items id).1) (id:=id) (cS d).Alphas m.Alphas h.al
 have G:∀ i∈d7 (aH s.Items id).1 id (cS d).Alphas m.Alphas,i.L.length≤41:=fun i g=>by have:=S i g;omega
 have T:d.Rules.length≤1048576:=D.2.1
 have n:∀ r∈d.Rules,r.Pats.length≤6∧1≤(pos r.Pats).length∧(pos r.Pats).length≤3∧(pos r.Pats).length=ac r.Pats∧pos r.Pats=r.Pats.take (ac r.Pats)∧df r.Pats≤1048576∧∀ p∈r.Pats,p.Args.length≤1048576:=fun r n=>by
  have y:=m9 C r n
  have hp:gS r.Pats=true:=by
   unfold iy at y
   simp only[gI] at y
   exact y.2.2.1
  have U:=tT hp
  have V:(pos r.Pats).length=ac r.Pats:=qh r.Pats
  unfold gS at hp
  simp only[gI,decide_eq_true_eq] at hp
  obtain⟨⟨_,W⟩,⟨p2,p3⟩,_⟩:=hp
  obtain⟨_,⟨_,g1⟩,_,_,g2,_⟩:=D.2.2 r n
  exact⟨W,OY,OY,V,U,g2,fun p hp=>(g1 p hp).2.1⟩
 have H:∀ (i:Nat) (r:ah),d.Rules[i]?=some r→r∈d.Rules:=fun i r e=>jt e
 refine⟨⟨OY,E,fun a X=>(z2 a X).2,R,by rw[h.lr];exact T,h.la,by rw[v.len,h.lr],h.lr.symm,fun i g=>by have:=h.al i g;omega,fun i r c w g1 g2 g3=>?_⟩,v,fun i r w g1 g3=>?_⟩
 ·obtain⟨Y,Z,q3,I,K,z,A⟩:=n r (H i r g1)
  obtain⟨M,o⟩:=h.rows i r w g1 g3
  refine⟨⟨OY,z,A⟩,⟨OY,M,fun i L b t u=>((o i L b).2 t u).1,fun L b t u=>(((o _ L b).2 t u).2.2 OY).1,fun k hk=>?_,?_,fun k=>by have:=zy G c k;omega⟩⟩
  ·obtain⟨g,a6⟩:=ha.1 g1
   obtain⟨a7,aa⟩:=ha.1 g2
   have B:=(v.get i a7 g).1
   rw[aa,a6] at B
   have N:k < (pos r.Pats).length:=by omega
   have O:k < c.Pos.length:=by rw[B.len];exact N
   have e1:=B.get k O N
   obtain⟨a0,a1,e⟩:=a8 e1
   obtain⟨q,_⟩:=ha.1 e
   have ab:c.Pos[k].toNat < (d7 (aH s.Items id).1 id (cS d).Alphas m.Alphas).length:=by rw[rf,h.la];exact q
   have ad:c.Pos[k]=((c.Pos[k].toNat:Nat):Int):=by omega
   exact⟨c.Pos[k],_,ag O,by rw[ad];exact ag ab⟩
  ·refine Fu Q (zy G c) _ 0 0 0 (fun e=>absurd rfl e) (fun i l P=>?_) (by simp;omega)
   rw[nt,vy] at P
   obtain⟨L,b,rfl⟩:=P
   rw[hA]
   exact (o i L b).1
 ·obtain⟨Y,Z,q3,I,K,z,A⟩:=n r (H i r g1)
  obtain⟨M,o⟩:=h.rows i r w g1 g3
  exact⟨⟨OY,z,A,OY,E,K⟩,I,fun L b t u=>(((o _ L b).2 t u).2.2 OY).2⟩
theorem Jv {N:Nat} (p:cA) (b:List aV) (a:Nat) (K:List aV→Int→Option aY) (c:a < p.Chains.length) (f:p.Chains[a].Pos.length≤1048576) (g:b.length≤a) (j:p.Chains.length≤1048576):∀ (n i:Nat),i≤p.Chains[a].Pos.length→p.Chains[a].Pos.length - i < n →
  kl N p b a K n (List.replicate i ⟨[]⟩) i=K (b++[rK p.Chains[a]]) ((a+1:Nat):Int):=by
 intro n
 induction n with
 | zero=>intro i _ h;omega
 | succ n d=>
  intro i k l
  simp only[kl,ag c,gb]
  by_cases m:i < p.Chains[a].Pos.length
  ·have c1:decide ((i:Int) < (p.Chains[a].Pos.length:Int))=true:=decide_eq_true OY
   simp only[c1,if_true,cg (show (List.replicate i (⟨[]⟩:aw)).length+[(⟨[]⟩:aw)].length≤4294967296 by simp;omega),gb,wr1 i OY]
   have:=d (i+1) OY OY
   rw[Ph] at this
   exact this
  ·have c1:decide ((i:Int) < (p.Chains[a].Pos.length:Int))=false:=decide_eq_false OY
   have e:i=p.Chains[a].Pos.length:=by omega
   simp only[c1,gf,if_false,cg (show b.length+[(⟨List.replicate i ⟨[]⟩⟩:aV)].length≤4294967296 by simp;omega),gb,wr1 a OY]
   rw[e];rfl
theorem Kj {N:Nat} (g:1099000000000≤N) (p:cA) (as:List cn) (d:p.Chains.length≤1048576) (hp:∀ c∈p.Chains,c.Pos.length≤1048576):∀ (n i:Nat),i≤p.Chains.length→p.Chains.length - i < n →
  fM N p as n ((p.Chains.take i).map rK) i=some ⟨as,p.Chains.map rK⟩:=by
 intro n
 induction n with
 | zero=>intro i _ h;omega
 | succ n e=>
  intro i j k
  simp only[fM]
  by_cases a:i < p.Chains.length
  ·have c1:decide ((i:Int) < (p.Chains.length:Int))=true:=decide_eq_true OY
   have hm:=hp _ (hB a)
   have:=Jv (N:=N) p ((p.Chains.take i).map rK) i (fM N p as n) a hm (by simp;omega) d N 0 OY OY
   have b:=e (i+1) OY OY
   have f:(p.Chains.take (i+1)).map rK=(p.Chains.take i).map rK++[rK p.Chains[i]]:=by
    rw[P3 a,q0];rfl
   rw[f] at b
   simp only[c1,if_true];rw[← b];exact this
  ·have c1:decide ((i:Int) < (p.Chains.length:Int))=false:=decide_eq_false OY
   simp only[c1,gf,if_false]
   rw[P4 OY]
theorem Ja {N:Nat} (p:cA) (c:p.Alphas.length≤1048576):∀ (n i:Nat),i≤p.Alphas.length→p.Alphas.length - i < n →
  ke N p n (List.replicate i ⟨[]⟩) i=fM N p (List.replicate p.Alphas.length ⟨[]⟩) N [] 0:=by
 intro n
 induction n with
 | zero=>intro i _ h;omega
 | succ n a=>
  intro i d e
  simp only[ke]
  by_cases f:i < p.Alphas.length
  ·have c1:decide ((i:Int) < (p.Alphas.length:Int))=true:=decide_eq_true OY
   simp only[c1,if_true,cg (show (List.replicate i (⟨[]⟩:cn)).length+[(⟨[]⟩:cn)].length≤4294967296 by simp;omega),gb,wr1 i OY]
   have:=a (i+1) OY OY
   rw[Ph] at this
   exact this
  ·have c1:decide ((i:Int) < (p.Alphas.length:Int))=false:=decide_eq_false OY
   have b:i=p.Alphas.length:=by omega
   simp only[c1,gf,if_false]
   rw[b]
theorem I3 {N:Nat} (d:1099000000000≤N) (p:cA) (e:p.Alphas.length≤1048576) (f:p.Chains.length≤1048576) (hp:∀ c∈p.Chains,c.Pos.length≤1048576):pW N p=some (lH p):=by
 have a:=Ja (N:=N) p e N 0 OY OY
 have b:=Kj d p (List.replicate p.Alphas.length ⟨[]⟩) f hp N 0 OY OY
 unfold pW lH;exact a.trans b
theorem Ms {N:Nat} (a:1099000000000≤N) (f:aL) (h:yX f):qR N f=some (sS f):=by
 obtain⟨h1,d,b⟩:=h
 unfold qR sS sI
 have d1:decide ((f.Fields.length:Int)≤5)=decide (f.Fields.length≤5):=by rw[decide_eq_decide];omega
 have c:fv N f.Fields N 0=some (f.Fields.all rG && decide (f.Fields.length≤5)):=lp0 a f.Fields OY (fv N f.Fields) (fun t=>some (t.all rG && decide (f.Fields.length≤5))) (fun n i x t g1 g2 g3 g4 g5 g6 g7=>by
  simp only[fv,g5,if_true,g4,gb,KQ (show 1048578≤N by omega) x (b x g2),Fm (show 1048578≤N by omega) x (b x g2),g6,g7,hZ]
  cases rG x <;> simp) (fun n i g1 g2=>by simp only[fv,g2,gf,if_false,d1];rfl)
 simp only[rM a _ h1,gb,c,mL]
theorem GS {done t:List au} {x:au} (h:∀ y∈done,y.Id < x.Id):decide (zW (done++x :: t) x.F=x.Id)=done.all fun y=>!decide (x.F=y.F):=by
 induction done with
 | nil=>
  rw[ho,wG,if_pos rfl];simp
 | cons y d b=>
  rw[hL,wG,hZ]
  by_cases he:y.F=x.F
  ·have:=h y OZ
   rw[if_pos he]
   have a:decide (x.F=y.F)=true:=decide_eq_true he.symm
   rw[a,decide_eq_false OY];simp
  ·rw[if_neg he,b fun z c=>h z (by simp[c])]
   have a:decide (x.F=y.F)=false:=decide_eq_false (fun e=>he e.symm)
   rw[a];simp
theorem Ko {N:Nat} (j:1099000000000≤N) (s:af) (h:pe s):oG N s=some (iD s):=by
 obtain⟨h1,k⟩:=h
 unfold oG iD
 have d1:decide ((40:Int) < (s.Items.length:Int)) = !decide (s.Items.length≤40):=by rw[← decide_not,decide_eq_decide];omega
 have lp:∀ (n i:Nat),i≤s.Items.length→s.Items.length - i < n→(∀ y∈s.Items.take i,∀ z,(s.Items.take i).getLast?=some z→y.Id≤z.Id)→iB N s n i=some (m5 s.Next (s.Items.take i) (s.Items.drop i)):=by
  intro n
  induction n with
  | zero=>intro i _ h;omega
  | succ n u=>
   intro i v hm w
   simp only[iB]
   by_cases c:i < s.Items.length
   ·have c1:decide ((i:Int) < (s.Items.length:Int))=true:=decide_eq_true OY
    have A:=k _ (hB c)
    have B:(if decide (0 < (i:Int))=true then (idx s.Items (IntKind.i64.wrap ((i:Int) - 1))).bind fun C=>some (decide (s.Items[i].Id≤C.Id)) else some false)=some (!(ip (s.Items.take i) s.Items[i].Id)):=by
     by_cases D:0 < i
     ·have d:IntKind.i64.wrap ((i:Int) - 1)=((i - 1:Nat):Int):=by rw[wr OY OY];omega
      unfold ip;rw[CA D v,decide_eq_true (show (0:Int) < (i:Int) by omega),d]
      simp only[if_true,ag (show i - 1 < s.Items.length by omega),gb]
      rw[← decide_not];congr 1;rw[decide_eq_decide];omega
     ·have:i=0:=by omega
      subst this
      simp[ip]
    have l:s.Items.take (i+1)=s.Items.take i++[s.Items[i]]:=P3 c
    have E:s.Items=s.Items.take i++s.Items[i] :: s.Items.drop (i+1):=by
     rw[← hn c,l3]
    rw[hn c,m5,← l]
    simp only[c1,if_true,ag c,gb,Ms j _ A,B,E6 j s s.Items[i].F OY (fun x F=>(k x F).2.1),wr1 i OY]
    cases sS s.Items[i].F with
    | false=>simp
    | true=>
     by_cases m:1≤s.Items[i].Id
     ·by_cases o:s.Items[i].Id < s.Next
      ·have d:decide (s.Items[i].Id < 1)=false:=decide_eq_false OY
       have f:decide (s.Next≤s.Items[i].Id)=false:=decide_eq_false OY
       rw[d,f,decide_eq_true m,decide_eq_true o]
       cases g:(ip (s.Items.take i) s.Items[i].Id) with
       | false=>simp
       | true=>
        have p:∀ y∈s.Items.take i,y.Id < s.Items[i].Id:=by
         intro y a
         cases e:(s.Items.take i).getLast? with
         | none=>rw[List.getLast?_eq_none_iff] at e;rw[e] at a;cases a
         | some z=>
          unfold ip at g
          rw[e] at g
          have:=of_decide_eq_true g
          have:=w y a z e
          omega
        have q:=GS (t:=s.Items.drop (i+1)) p
        rw[← E] at q
        have G:=u (i+1) OY OY (by
         intro y a z b
         rw[l] at a b
         rw[Pj] at b
         have b:=Option.some.inj b
         rcases gh.1 a with a | a
         ·have:=p y a;rw[← b];omega
         ·simp at a;rw[a,← b];exact Int.le_refl _)
        simp only[hC,gf,if_false,gb,q,G,hI,Bool.and_self]
        cases (s.Items.take i).all fun y=>!decide (s.Items[i].F=y.F) <;> simp
      ·have f:decide (s.Next≤s.Items[i].Id)=true:=decide_eq_true OY
       rw[f,decide_eq_false o]
       cases decide (s.Items[i].Id < 1) <;> simp
     ·have d:decide (s.Items[i].Id < 1)=true:=decide_eq_true OY
      rw[d,decide_eq_false m]
      simp
   ·have c1:decide ((i:Int) < (s.Items.length:Int))=false:=decide_eq_false OY
    rw[hy OY]
    simp only[c1,gf,if_false];rfl
 have r:=lp N 0 OY OY OZ
 rw[P5,hQ,show ((0:Nat):Int)=0 from rfl] at r
 simp only[in0,gb,d1,r]
 cases (decide (1≤s.Next) && decide (s.Next≤1000000)) <;> cases decide (s.Items.length≤40) <;> simp
theorem LH {N:Nat} (a:1099000000000≤N) (f:aL) (h:yX f):qK N f=some (sS f):=by
 obtain⟨h1,d,b⟩:=h
 unfold qK sS
 have c:fL N f N 0=some (f.Fields.all rG):=lp0 a f.Fields OY (fL N f) (fun t=>some (t.all rG)) (fun n i x t g1 g2 g3 g4 g5 g6 g7=>by
  simp only[fL,g5,if_true,g4,gb,Fm (show 1048578≤N by omega) x (b x g2),g6,g7,hZ]
  cases rG x <;> simp) (fun n i g1 g2=>by simp only[fL,g2,gf,if_false];rfl)
 have d1:decide ((5:Int) < (f.Fields.length:Int)) = !decide (f.Fields.length≤5):=by rw[← decide_not,decide_eq_decide];omega
 simp only[rU a _ h1,gb,d1,c]
 cases eD f.Kind <;> cases decide (f.Fields.length≤5) <;> simp
theorem Kp {N:Nat} (f:1099000000000≤N) (x y:aL) (g:x.Fields.length≤4294967296):np N x y=some (decide (x=y)):=by
 have e:cE N x.Fields y.Fields=some (decide (x.Fields=y.Fields)):=by
  unfold cE
  by_cases c:x.Fields.length=y.Fields.length
  ·rw[if_neg (by simp;omega)]
   refine (rq (bC N x.Fields y.Fields) x.Fields y.Fields c OY (fun a b=>some (decide (a=b))) (fun a _ b _=>rfl) (fun k i=>by simp only[bC,hJ,gb]) N 0 OY OY).trans ?_
   simp
  ·rw[if_pos (by simp;omega)]
   have : ¬ x.Fields=y.Fields:=fun e=>c (by rw[e])
   simp[this]
 unfold np
 simp only[e,gb,mL,lG]
 obtain⟨a,b⟩:=x;obtain⟨c,d⟩:=y
 simp only[aL.mk.injEq,Bool.decide_and]
theorem Dw {α:Type} {xs:List α} {i:Nat} (h:i≤xs.length):ssl xs 0 (i:Int)=some (xs.take i):=by
 unfold ssl
 have:(0:Int)≤0∧(0:Int)≤(i:Int)∧(i:Int)≤(xs.length:Int):=by omega
 simp[h]
theorem EB {N:Nat} (b:1099000000000≤N) (s:af) (h:pe s):mm N s=some (iD s):=by
 obtain⟨h1,f⟩:=h
 unfold mm iD
 have d1:decide ((40:Int) < (s.Items.length:Int)) = !decide (s.Items.length≤40):=by rw[← decide_not,decide_eq_decide];omega
 simp only[in1,gb,d1]
 by_cases c:1≤s.Next∧s.Next≤1000000
 ·have lp:∀ (n i:Nat),i≤s.Items.length→s.Items.length - i < n→dG N s n i=some (m5 s.Next (s.Items.take i) (s.Items.drop i)):=by
   intro n
   induction n with
   | zero=>intro i _ h;omega
   | succ n g=>
    intro i j hm
    simp only[dG]
    by_cases a:i < s.Items.length
    ·have c1:decide ((i:Int) < (s.Items.length:Int))=true:=decide_eq_true OY
     have d:=f _ (hB a)
     have l:IntKind.i64.wrap (s.Next - 1)=s.Next - 1:=wr OY OY
     have o:(if decide (0 < (i:Int))=true then (idx s.Items (IntKind.i64.wrap ((i:Int) - 1))).bind fun p=>some (decide (s.Items[i].Id≤p.Id)) else some false)=some (!(ip (s.Items.take i) s.Items[i].Id)):=by
      by_cases q:0 < i
      ·have r:IntKind.i64.wrap ((i:Int) - 1)=((i - 1:Nat):Int):=by rw[wr OY OY];omega
       unfold ip;rw[CA q j,decide_eq_true (show (0:Int) < (i:Int) by omega),r]
       simp only[if_true,ag (show i - 1 < s.Items.length by omega),gb]
       rw[← decide_not];congr 1;rw[decide_eq_decide];omega
      ·have:i=0:=by omega
       subst this
       simp[ip]
     have u:eP N (i:Int) (dG N s n) s.Items[i] (s.Items.take i) N 0=some ((((s.Items.take i).all fun y=>!decide (s.Items[i].F=y.F))) && m5 s.Next (s.Items.take (i+1)) (s.Items.drop (i+1))):=by
      refine lp0 b (s.Items.take i) (by rw[List.length_take];omega) (eP N (i:Int) (dG N s n) s.Items[i] (s.Items.take i)) (fun t=>some ((t.all fun y=>!decide (s.Items[i].F=y.F)) && m5 s.Next (s.Items.take (i+1)) (s.Items.drop (i+1)))) (fun m k y t g1 g2 g3 g4 g5 g6 g7=>?_) (fun m k g1 g2=>?_)
      ·simp only[eP,g5,if_true,g4,gb,Kp b s.Items[i].F y.F (by have:=d.2.1;omega),g6,g7,hZ]
       cases decide (s.Items[i].F=y.F) <;> simp
      ·simp only[eP,g2,gf,if_false,wr1 i OY,g (i+1) OY OY];rfl
     have d2:decide (s.Items[i].Id≤s.Next - 1)=decide (s.Items[i].Id < s.Next):=by rw[decide_eq_decide];omega
     have v:s.Items.take (i+1)=s.Items.take i++[s.Items[i]]:=P3 a
     rw[hn a,m5,← v]
     simp only[c1,if_true,ag a,gb,LH b _ d,in1,l,d2,o,Dw (show i≤s.Items.length by omega),u]
     cases sS s.Items[i].F with
     | false=>simp
     | true=>
      cases (decide (1≤s.Items[i].Id) && decide (s.Items[i].Id < s.Next)) with
      | false=>simp
      | true=>
       cases (ip (s.Items.take i) s.Items[i].Id) <;> simp
    ·have c1:decide ((i:Int) < (s.Items.length:Int))=false:=decide_eq_false OY
     rw[hy OY]
     simp only[c1,gf,if_false];rfl
  have e:=lp N 0 OY OY
  rw[P5,hQ,show ((0:Nat):Int)=0 from rfl] at e
  rw[e,decide_eq_true c.1,decide_eq_true c.2]
  cases decide (s.Items.length≤40) <;> simp
 ·have:(decide (1≤s.Next) && decide (s.Next≤1000000))=false:=by
   rw[Bool.eq_false_iff]
   intro h
   simp only[gI,decide_eq_true_eq] at h
   exact c h
  rw[this]
  cases decide (s.Items.length≤40) <;> simp
theorem Ly {N:Nat} (d:1099000000000≤N) (x y:List Int) (f:x.length≤4294967296):oI N x y=some (decide (x=y)):=by
 unfold oI
 by_cases c:x.length=y.length
 ·rw[if_neg (by simp;omega)]
  refine (rq (jk N x y) x y c OY (fun a b=>some (decide (a=b))) (fun a _ b _=>rfl) (fun k i=>rfl) N 0 OY OY).trans ?_
  simp
 ·rw[if_pos (by simp;omega)]
  have : ¬ x=y:=fun e=>c (by rw[e])
  simp[this]
theorem J1 {N:Nat} (c:1099000000000≤N) (p:az) (d:p.Args.length≤1048576):oO N p=some (aT p):=by
 have lp:∀ (n i:Nat) (cs:List bn) (as:List Int),i≤p.Args.length→p.Args.length - i < n→cs.length≤i→as.length≤i →
   gv N p n cs as i=some ⟨p.Kind,(p.Args.length:Int),cs++kH (p.Args.drop i),as++ats i (p.Args.drop i)⟩:=by
  intro n
  induction n with
  | zero=>intro i _ _ _ h;omega
  | succ n a=>
   intro i cs as e f h1 g
   by_cases b:i < p.Args.length
   ·have c1:decide ((i:Int) < (p.Args.length:Int))=true:=decide_eq_true OY
    rw[hn b]
    simp only[gv,c1,if_true,ag b,gb,wr1 i OY,kH,ats]
    by_cases hk:p.Args[i].K=2
    ·simp only[hk,decide_true,if_true,cg (show cs.length+[p.Args[i].V].length≤4294967296 by simp;omega),cg (show as.length+[(i:Int)].length≤4294967296 by simp;omega),gb]
     rw[a (i+1) _ _ OY OY (by simp;omega) (by simp;omega)];simp
    ·simp only[hk,decide_false,gf,if_false]
     exact a (i+1) _ _ OY OY OY OY
   ·have c1:decide ((i:Int) < (p.Args.length:Int))=false:=decide_eq_false OY
    rw[hy OY]
    simp only[gv,c1,gf,if_false,kH,ats,j5]
 have:=lp N 0 [] [] OY OY OZ OZ
 unfold oO aT
 simpa using this
theorem JM {N:Nat} (m:1099000000000≤N) (x y:ax) (h:lh x):lL N x y=some (decide (x=y)):=by
 unfold lL
 simp only[Ly m _ _ (show x.At.length≤4294967296 by have:=h.2;omega),IS m _ _ (show x.Consts.length≤4294967296 by have:=h.1;omega),gb,mL,lG]
 obtain⟨a,b,c,d⟩:=x;obtain⟨e,f,g,k⟩:=y
 congr 1
 rw[Bool.eq_iff_iff]
 simp only[ax.mk.injEq,gI,decide_eq_true_eq]
 constructor
 ·rintro⟨⟨⟨h1,i⟩,j⟩,l⟩;exact⟨h1,i,l,j⟩
 ·rintro⟨h1,i,l,j⟩;exact⟨⟨⟨h1,i⟩,j⟩,l⟩
theorem M1 {N:Nat} (c:1099000000000≤N) (as:List ax) (cs:List aJ) (a:ax) (f:as.length≤4194304) (h:∀ a∈as,lh a) :
  oy N ⟨as,cs⟩ a=some ((bR as a).1,⟨(bR as a).2,cs⟩):=by
 unfold oy
 have lp:∀ (n i:Nat),i≤as.length→as.length - i < n→fW N ⟨as,cs⟩ a n i =
   some (match (as.drop i).findIdx? (fun x=>decide (x=a)) with | some j=>((i+j:Nat):Int) | none=>(as.length:Int),⟨match (as.drop i).findIdx? (fun x=>decide (x=a)) with | some j=>as | none=>as++[a],cs⟩):=by
  intro n
  induction n with
  | zero=>intro i _ h;omega
  | succ n d=>
   intro i g k
   by_cases b:i < as.length
   ·have c1:decide ((i:Int) < (as.length:Int))=true:=decide_eq_true OY
    rw[hn b,List.findIdx?_cons]
    simp only[fW,c1,if_true,ag b,gb,JM c _ _ (h _ (hB b)),wr1 i OY,d (i+1) OY OY]
    by_cases he:as[i]=a
    ·simp[he]
    ·simp only[he,decide_false,gf,if_false]
     cases (as.drop (i+1)).findIdx? (fun x=>decide (x=a)) with
     | none=>rfl
     | some j=>simp only[Option.map_some];rw[show i+(j+1)=i+1+j by omega]
   ·have c1:decide ((i:Int) < (as.length:Int))=false:=decide_eq_false OY
    rw[hy OY]
    simp only[fW,c1,gf,if_false,cg (show as.length+[a].length≤4294967296 by simp;omega),gb,List.findIdx?_nil]
    have e:IntKind.i64.wrap (((as++[a]).length:Int) - 1)=(as.length:Int):=by
     rw[wr (by simp only[gk,gj,gx];omega) (by simp only[gk,gj,gx];omega)];simp only[gk,gj,gx];omega
    rw[e]
 have:=lp N 0 OY OY
 rw[show ((0:Nat):Int)=0 from rfl,hQ] at this
 rw[this]
 unfold bR
 cases as.findIdx? (fun x=>decide (x=a)) <;> simp
theorem NH {N:Nat} (b:1099000000000≤N) (d:bq) (h:yH d.Rules):qA N d=some (cS d):=by
 obtain⟨h1,v,w⟩:=h
 unfold qA cS
 refine lp' b d.Rules OY (fun n (s:List ax × List aJ) i=>eG N d n s.1 s.2 i) (fun t s=>some (eT s.1 s.2 t)) (fun s t=>s.1.length+o8 t≤1048576∧s.2.length+t.length≤1048576∧∀ a∈s.1,lh a) ([],[]) ⟨by simpa using v,by simpa using h1,OZ⟩ (fun n s i r t g1 g2 g3 g4 g5 g6 g x=>?_) (fun n s i g1 g2 g=>?_)
 ·obtain⟨y,i2,i3⟩:=g
  rw[nV] at y
  simp only[gj] at i2
  simp only[eG,g5,if_true,eT]
  have key:∀ (as:List ax),as.length+r.Pats.length+o8 t≤1048576→(∀ a∈as,lh a)→fJ N d s.2 (i:Int) (eG N d n) N as [] [] 0=some (eT (bV as [] [] r.Pats).1 (s.2++[⟨(bV as [] [] r.Pats).2.1,(bV as [] [] r.Pats).2.2⟩]) t):=by
   intro as z A
   refine lp' b r.Pats OY (fun m (u:List ax × List Int × List Int) k=>fJ N d s.2 (i:Int) (eG N d n) m u.1 u.2.1 u.2.2 k) (fun l u=>some (eT (bV u.1 u.2.2 u.2.1 l).1 (s.2++[⟨(bV u.1 u.2.2 u.2.1 l).2.1,(bV u.1 u.2.2 u.2.1 l).2.2⟩]) t))
    (fun u l=>u.1.length+l.length+o8 t≤1048576∧u.2.1.length+u.2.2.length+l.length≤1048576∧∀ a∈u.1,lh a) (as,[],[]) ⟨z,by simp;omega,A⟩ (fun m u k p l f1 f2 f3 f4 f5 f6 e j=>?_) (fun m u k f1 f2 e=>?_)
   ·obtain⟨f,o,c⟩:=e
    simp only[gj] at f o
    have hp:=w r g2 p f2
    have B:=(rh u.1 (aT p)).1
    have q:=tR c (vk hp)
    simp only[fJ,g4,f5,if_true,f4,gb,J1 b p hp,M1 b u.1 s.2 _ (show u.1.length≤4194304 by omega) c,f6,bV]
    cases C:p.Not with
    | true=>
     simp only[if_true,cg (show u.2.1.length+[(bR u.1 (aT p)).1].length≤4294967296 by simp;omega),gb]
     exact j ((bR u.1 (aT p)).2,u.2.1++[(bR u.1 (aT p)).1],u.2.2) ⟨by simp only;omega,by simp;omega,q⟩
    | false=>
     simp only[gf,if_false,cg (show u.2.2.length+[(bR u.1 (aT p)).1].length≤4294967296 by simp;omega),gb]
     exact j ((bR u.1 (aT p)).2,u.2.1,u.2.2++[(bR u.1 (aT p)).1]) ⟨by simp only;omega,by simp;omega,q⟩
   ·obtain⟨f,o,c⟩:=e
    simp only[fJ,g4,f2,gf,if_false,cg (show s.2.length+[(⟨u.2.2,u.2.1⟩:aJ)].length≤4294967296 by simp;omega),gb,g6,bV]
    exact x (u.1,s.2++[⟨u.2.2,u.2.1⟩]) ⟨by simp only[gx] at f ⊢;omega,by simp;omega,c⟩
  exact key s.1 OY i3
 ·simp only[eG,g2,gf,if_false];rfl
def wc (d:bq) (n:cA) (nx:Int):List au→List au→aY→aY
 | _,[],m=>m
 | done,x :: t,m=>wc d n nx (done++[x]) t (A8 d n m ⟨done++[x],nx⟩ x.Id)
theorem HM {d:bq} {n:cA} {nx:Int} (a:n.Chains.length=d.Rules.length):∀ (rest done:List au) (m:aY),done.length+rest.length≤40→pu d n done.length m→pu d n (done.length+rest.length) (wc d n nx done rest m)
 | [],done,m,_,h=>h
 | x :: t,done,m,b,h=>by
  simp only[gj] at b
  have h1:=vN (s:=⟨done++[x],nx⟩) (id:=x.Id) OY (by simp;omega) a h
  have:=HM (nx:=nx) a t (done++[x]) _ (by simp;omega) (by simpa using h1)
  unfold wc
  simpa[Gs,F0 1] using this
def cmp (a b:Int):Int:=if a < b then -1 else if b < a then 1 else 0
theorem Bw (N:Nat) (a b:Int):dl N a b=some (cmp a b):=by
 unfold dl jT cmp
 by_cases h1:a < b
 ·simp[h1]
 ·by_cases c:b < a <;> simp[h1,c]
theorem KT {N:Nat} (i:1048578≤N) (a b:Int):gN N [a,b]=some (if a=0 then b else a):=by
 obtain⟨n,rfl⟩:∃ n,N=n+3:=⟨N - 3,OY⟩
 unfold gN
 have d:IntKind.i64.wrap ((0:Int)+1)=1:=by decide
 have e:IntKind.i64.wrap ((1:Int)+1)=2:=by decide
 have i0:idx [a,b] 0=some a:=rfl
 have f:idx [a,b] 1=some b:=rfl
 have g:(([a,b]:List Int).length:Int)=2:=rfl
 simp only[gD,d,e,i0,f,g,gb]
 by_cases c:a=0
 ·by_cases h:b=0 <;> simp[c,h]
 ·simp[c]
def mY:List Int→List Int→Int
 | [],[]=>0
 | [],_ :: _=>-1
 | _ :: _,[]=>1
 | a :: x,b :: y=>if a=b then mY x y else if a < b then -1 else 1
theorem yo:∀ x y,mY y x = - mY x y
 | [],[]=>rfl
 | [],_ :: _=>rfl
 | _ :: _,[]=>rfl
 | a :: x,b :: y=>by
  unfold mY
  by_cases h:a=b
  ·rw[if_pos h,if_pos h.symm,yo x y]
  ·rw[if_neg h,if_neg fun e=>h e.symm]
   by_cases c:a < b
   ·rw[if_pos c,if_neg OY];rfl
   ·rw[if_neg c,if_pos OY]
theorem pF:∀ x y,mY x y=0↔x=y
 | [],[]=>by simp[mY]
 | [],_ :: _=>by simp[mY]
 | _ :: _,[]=>by simp[mY]
 | a :: x,b :: y=>by
  unfold mY
  by_cases h:a=b
  ·rw[if_pos h,pF x y,h];simp
  ·rw[if_neg h]
   by_cases c:a < b
   ·rw[if_pos c];simp[h]
   ·rw[if_neg c];simp[h]
theorem Bp:∀ x y z,mY x y < 0→mY y z < 0→mY x z < 0
 | [],[],z,h,_=>absurd h (by simp[mY])
 | [],_ :: _,[],_,h=>absurd h (by simp[mY])
 | [],_ :: _,_ :: _,_,_=>by simp[mY]
 | _ :: _,[],_,h,_=>absurd h (by simp[mY])
 | _ :: _,_ :: _,[],_,h=>absurd h (by simp[mY])
 | a :: x,b :: y,d :: z,h1,c=>by
  unfold mY at h1 c ⊢
  by_cases f:a=b
  ·rw[if_pos f] at h1
   subst f
   by_cases e:a=d
   ·rw[if_pos e] at c ⊢
    exact Bp x y z h1 c
   ·rw[if_neg e] at c ⊢;exact c
  ·rw[if_neg f] at h1
   have:a < b:=by
    by_cases h:a < b
    ·exact h
    ·rw[if_neg h] at h1;simp at h1
   by_cases e:b=d
   ·subst e
    rw[if_neg f,if_pos this];decide
   ·rw[if_neg e] at c
    have g:b < d:=by
     by_cases h:b < d
     ·exact h
     ·rw[if_neg h] at c;simp at c
    rw[if_neg OY,if_pos OY];decide
def qC {α β:Type} (p:α→β→Bool):List α→List β→Bool
 | [],[]=>true
 | a :: l,b :: m=>p a b && qC p l m
 | _,_=>false
theorem we {α β:Type} {p:α→β→Bool}:∀ {l:List α} {m:List β},qC p l m=true→l.length=m.length
 | [],[],_=>rfl
 | a :: l,b :: m,h=>by
  simp only[qC,gI] at h
  simp[we h.2]
 | [],_ :: _,h=>by cases h
 | _ :: _,[],h=>by cases h
theorem lp2 {α β e:Type} (f:Nat→Int→Option e) (a:List α) (b:List β) (k:a.length=b.length) (hm:a.length≤4294967296) (p:α→β→Bool) (K Z:Option e)
  (g:∀ n (i:Nat) (x:α) (y:β),idx a (i:Int)=some x→idx b (i:Int)=some y→x∈a→y∈b→decide ((i:Int) < (a.length:Int))=true→IntKind.i64.wrap ((i:Int)+1)=((i+1:Nat):Int)→f (n+1) i=if p x y=true then f n ((i+1:Nat):Int) else Z)
  (he:∀ n (i:Nat),decide ((i:Int) < (a.length:Int))=false→i=a.length→f (n+1) i=K) :
  ∀ (n i:Nat),i≤a.length→a.length - i < n→f n i=if qC p (a.drop i) (b.drop i)=true then K else Z:=by
 intro n
 induction n with
 | zero=>intro i _ h;omega
 | succ n j=>
  intro i l m
  by_cases c:i < a.length
  ·have d:i < b.length:=by omega
   rw[g n i _ _ (ag c) (ag d) (hB c) (hB d) (decide_eq_true OY) (wr1 i OY),j (i+1) OY OY,hn c,hn d,qC]
   cases p a[i] b[i] <;> simp
  ·rw[he n i (decide_eq_false OY) OY,hy OY,hy OY]
   simp[qC]
theorem EN {N:Nat} (x y:List Int) (hm:x.length≤1099000000000):∀ n i:Nat,i≤x.length→i≤y.length→x.length - i < n→bM N x y n i=some (mY (x.drop i) (y.drop i)):=by
 intro n
 induction n with
 | zero=>intro i _ _ h;omega
 | succ n d=>
  intro i e f g
  simp only[bM]
  by_cases b:i < x.length
  ·have c1:decide ((i:Int) < (x.length:Int))=true:=decide_eq_true OY
   rw[hn b]
   by_cases a:i < y.length
   ·have c2:decide ((y.length:Int)≤(i:Int))=false:=decide_eq_false OY
    rw[hn a,mY]
    simp only[c1,c2,if_true,gf,if_false,ag b,ag a,gb,Bw,wr1 i OY]
    by_cases he:x[i]=y[i]
    ·have c:cmp y[i] y[i]=0:=by unfold cmp;simp
     simp only[c,he,decide_true,hC,gf,if_false,if_true]
     exact d (i+1) OY OY OY
    ·have c:cmp x[i] y[i]≠0:=by unfold cmp;split <;> (try split) <;> omega
     simp only[c,he,decide_false,hG,if_true,if_false]
     unfold cmp
     split
     ·rfl
     ·rw[if_pos OY]
   ·have c2:decide ((y.length:Int)≤(i:Int))=true:=decide_eq_true OY
    rw[hy (show y.length≤i by omega)]
    simp only[c1,c2,if_true,ag b,gb,mY]
  ·have c1:decide ((i:Int) < (x.length:Int))=false:=decide_eq_false OY
   simp only[c1,gf,if_false]
   rw[hy (show x.length≤i by omega)]
   by_cases a:i < y.length
   ·have c2:decide ((x.length:Int) < (y.length:Int))=true:=decide_eq_true OY
    rw[hn a,c2];rfl
   ·have c2:decide ((x.length:Int) < (y.length:Int))=false:=decide_eq_false OY
    rw[hy (show y.length≤i by omega),c2];rfl
def gt (a b:an):Int:=if mY a.Ids b.Ids=0 then mY a.Hits b.Hits else mY a.Ids b.Ids
theorem rd {a b:an}:gt a b=0↔a=b:=by
 unfold gt
 by_cases h:mY a.Ids b.Ids=0
 ·rw[if_pos h,pF]
  have:=(pF _ _).1 h
  constructor
  ·intro e;cases a;cases b;simp_all
  ·rintro rfl;rfl
 ·rw[if_neg h]
  exact⟨fun e=>absurd e h,fun e=>by rw[e] at h;exact absurd ((pF _ _).2 rfl) h⟩
theorem E2 (a b:an):gt b a = - gt a b:=by
 unfold gt
 rw[yo a.Ids b.Ids,yo a.Hits b.Hits]
 by_cases h:mY a.Ids b.Ids=0
 ·rw[if_pos h,if_pos OY]
 ·rw[if_neg h,if_neg OY]
theorem qT:zt gt:=by
 refine⟨fun x=>?_,fun x y z h1 a=>?_,fun x y h1 a=>?_⟩
 ·rw[rd.2 rfl];decide
 ·unfold gt at h1 a ⊢
  by_cases c:mY x.Ids y.Ids=0
  ·rw[if_pos c] at h1
   have d:=(pF _ _).1 c
   rw[d]
   by_cases b:mY y.Ids z.Ids=0
   ·rw[if_pos b] at a ⊢
    exact Bp _ _ _ h1 a
   ·rw[if_neg b] at a ⊢;exact a
  ·rw[if_neg c] at h1
   by_cases b:mY y.Ids z.Ids=0
   ·rw[← (pF _ _).1 b,if_neg c];exact h1
   ·rw[if_neg b] at a
    have:=Bp _ _ _ h1 a
    rw[if_neg OY];exact this
 ·rw[E2 x y] at a
  exact rd.1 OY
def CN (t:an):Prop:=t.Ids.length≤4294967296∧t.Hits.length≤4294967296
theorem rA {N:Nat} (e:1099000000000≤N) (a b:an) (c:CN a):cY N a b=some (gt a b):=by
 unfold cY dd gt
 have h1:=EN (N:=N) a.Ids b.Ids (by have:=c.1;omega) N 0 OY OY (by have:=c.1;omega)
 have d:=EN (N:=N) a.Hits b.Hits (by have:=c.2;omega) N 0 OY OY (by have:=c.2;omega)
 simp only[hQ] at h1 d
 rw[show ((0:Nat):Int)=0 from rfl] at h1 d
 simp only[h1,d,gb,KT (show 1048578≤N by omega)]
theorem FM {α:Type} [DecidableEq α]:∀ (l m:List α),l.length=m.length→qC (fun x y=>decide (x=y)) l m=decide (l=m)
 | [],[],_=>by simp[qC]
 | a :: l,b :: m,h=>by
  simp only[qC]
  rw[FM l m (by simpa using h)]
  by_cases e:a=b <;> simp[e]
 | [],_ :: _,h=>by simp at h
 | _ :: _,[],h=>by simp at h
def tt (a b:aw):Bool:=decide (a.Toks.Perm b.Toks)
def pm (v w:aV):Bool:=qC tt v.Levels w.Levels
def EY (m x:aY):Bool:=qC (fun a b=>decide (a.L=b.L)) m.Alphas x.Alphas && qC pm m.Rules x.Rules
theorem Dc {N:Nat} (f:1099000000000≤N) (a b:aw) (g:a.Toks.length≤4294967296) (l:∀ t∈a.Toks,CN t) (o:∀ t∈b.Toks,CN t):jc N a b=some (tt a b):=by
 unfold jc tt
 by_cases c:a.Toks.length=b.Toks.length
 ·have c1:decide ((a.Toks.length:Int)=(b.Toks.length:Int))=true:=decide_eq_true OY
  have p:Co a.Toks (cY N)=some (srt gt a.Toks):=EW g qT fun x d y q=>rA f x y (l x d)
  have r:Co b.Toks (cY N)=some (srt gt b.Toks):=EW OY qT fun x d y q=>rA f x y (o x d)
  have j:=lP (c:=gt) a.Toks
  have s:=lP (c:=gt) b.Toks
  have m:(srt gt a.Toks).length=(srt gt b.Toks).length:=by rw[j.length_eq,s.length_eq];exact c
  have hm:(srt gt a.Toks).length≤4294967296:=by rw[j.length_eq];exact g
  have k:=lp2 (aM N (srt gt a.Toks) (srt gt b.Toks) (mr N)) (srt gt a.Toks) (srt gt b.Toks) m hm (fun x y=>decide (x=y)) (some true) (some false)
   (fun n i x y g1 g2 g3 g4 g5 g6=>by
    have d:CN x:=l x (j.mem_iff.1 g3)
    simp only[aM,g5,if_true,g1,g2,gb,mr,rA f x y d,g6]
    by_cases e:x=y
    ·subst e
     have:gt x x=0:=rd.2 rfl
     simp[this]
    ·have:gt x y≠0:=fun h=>e (rd.1 h)
     simp[this,e])
   (fun n i g1 g2=>by simp only[aM,g1,gf,if_false]) N 0 OY OY
  simp only[hQ,FM _ _ m] at k
  have c2:decide (((srt gt a.Toks).length:Int)=((srt gt b.Toks).length:Int))=true:=decide_eq_true OY
  simp only[c1,hC,gf,if_false,eA,gR g,gR (show b.Toks.length≤4294967296 by omega),gb,eW,p,r,cD,c2]
  rw[show ((0:Nat):Int)=0 from rfl] at k
  rw[k]
  by_cases hp:a.Toks.Perm b.Toks
  ·simp[hp,(Ey qT).2 hp]
  ·have u : ¬ srt gt a.Toks=srt gt b.Toks:=fun e=>hp ((Ey qT).1 e)
   simp[hp,u]
 ·have c1:decide ((a.Toks.length:Int)=(b.Toks.length:Int))=false:=decide_eq_false OY
  simp only[c1,hG,if_true]
  rw[decide_eq_false fun h=>c h.length_eq]
def Ol (a:aw):Prop:=a.Toks.length≤4294967296∧∀ t∈a.Toks,CN t
def Mt (w:aV):Prop:=w.Levels.length≤4294967296∧∀ a∈w.Levels,Ol a
def JT (m:aY):Prop:=(m.Alphas.length≤4294967296∧∀ a∈m.Alphas,a.L.length≤4294967296)∧m.Rules.length≤4294967296∧∀ w∈m.Rules,Mt w
theorem GH {N:Nat} (d:1099000000000≤N) (v w:aV) (a:Mt v) (hw:Mt w):fU N v w=some (pm v w):=by
 unfold fU bH pm
 by_cases c:v.Levels.length=w.Levels.length
 ·have b:=lp2 (aF N v.Levels w.Levels (jc N)) v.Levels w.Levels c a.1 tt (some true) (some false)
   (fun n i x y g1 g2 g3 g4 g5 g6=>by
    simp only[aF,g5,if_true,g1,g2,gb,Dc d x y (a.2 x g3).1 (a.2 x g3).2 (hw.2 y g4).2,g6]
    cases tt x y <;> simp)
   (fun n i g1 g2=>by simp only[aF,g1,gf,if_false]) N 0 OY (by have:=a.1;omega)
  simp only[hQ] at b
  rw[show ((0:Nat):Int)=0 from rfl] at b
  have c1:decide ((v.Levels.length:Int)=(w.Levels.length:Int))=true:=decide_eq_true OY
  simp only[c1,hC,gf,if_false,b]
  cases qC tt v.Levels w.Levels <;> rfl
 ·have c1:decide ((v.Levels.length:Int)=(w.Levels.length:Int))=false:=decide_eq_false OY
  simp only[c1,hG,if_true,gb]
  cases h:qC tt v.Levels w.Levels with
  | false=>rfl
  | true=>exact absurd (we h) c
theorem Gi {N:Nat} (f:1099000000000≤N) (m x:aY) (hm:JT m) (g:JT x):og N m x=some (EY m x):=by
 unfold og EY
 have j:bK N m.Alphas x.Alphas (iC N)=some (qC (fun a b=>decide (a.L=b.L)) m.Alphas x.Alphas):=by
  unfold bK
  by_cases c:m.Alphas.length=x.Alphas.length
  ·have d:=lp2 (aO N m.Alphas x.Alphas (iC N)) m.Alphas x.Alphas c hm.1.1 (fun a b=>decide (a.L=b.L)) (some true) (some false)
    (fun n i u v g1 g2 g3 g4 g5 g6=>by
     simp only[aO,g5,if_true,g1,g2,gb,iC,BW f u.L v.L (hm.1.2 u g3),g6]
     by_cases e:u.L=v.L <;> simp[e])
    (fun n i g1 g2=>by simp only[aO,g1,gf,if_false]) N 0 OY (by have:=hm.1.1;omega)
   simp only[hQ] at d
   rw[show ((0:Nat):Int)=0 from rfl] at d
   have c1:decide ((m.Alphas.length:Int)=(x.Alphas.length:Int))=true:=decide_eq_true OY
   simp only[c1,hC,gf,if_false,d]
   cases qC (fun a b=>decide (a.L=b.L)) m.Alphas x.Alphas <;> rfl
  ·have c1:decide ((m.Alphas.length:Int)=(x.Alphas.length:Int))=false:=decide_eq_false OY
   simp only[c1,hG,if_true]
   cases h:qC (fun a b=>decide (a.L=b.L)) m.Alphas x.Alphas with
   | false=>rfl
   | true=>exact absurd (we h) c
 have a2:bJ N m.Rules x.Rules (fU N)=some (qC pm m.Rules x.Rules):=by
  unfold bJ
  by_cases c:m.Rules.length=x.Rules.length
  ·have d:=lp2 (aN N m.Rules x.Rules (fU N)) m.Rules x.Rules c hm.2.1 pm (some true) (some false)
    (fun n i u v g1 g2 g3 g4 g5 g6=>by
     simp only[aN,g5,if_true,g1,g2,gb,GH f u v (hm.2.2 u g3) (g.2.2 v g4),g6]
     cases pm u v <;> simp)
    (fun n i g1 g2=>by simp only[aN,g1,gf,if_false]) N 0 OY (by have:=hm.2.1;omega)
   simp only[hQ] at d
   rw[show ((0:Nat):Int)=0 from rfl] at d
   have c1:decide ((m.Rules.length:Int)=(x.Rules.length:Int))=true:=decide_eq_true OY
   simp only[c1,hC,gf,if_false,d]
   cases qC pm m.Rules x.Rules <;> rfl
  ·have c1:decide ((m.Rules.length:Int)=(x.Rules.length:Int))=false:=decide_eq_false OY
   simp only[c1,hG,if_true]
   cases h:qC pm m.Rules x.Rules with
   | false=>rfl
   | true=>exact absurd (we h) c
 simp only[j,a2,gb]
 cases qC (fun a b=>decide (a.L=b.L)) m.Alphas x.Alphas <;> simp
def jQ (id:Int) (l:List an):List an:=l.filter fun t=>!decide (id∈t.Ids)
def nu (id:Int) (L:aw):aw:=⟨jQ id L.Toks⟩
def Bc (id:Int) (i:cn):cn:=⟨i.L.filter fun x=>!decide (x=id)⟩
def o0 (xs:List au) (f:aL) (id:Int) (r:ah) (w:aV):aV:=gn xs (pos r.Pats) (neg r.Pats) f (-1) ⟨w.Levels.map (nu id)⟩
def pV (g:ah→aV→aV):List ah→List aV→List aV
 | r :: a,w :: ws=>g r w :: pV g a ws
 | _,ws=>ws
def xw (d:bq) (m:aY) (s:af) (id:Int):aY:=⟨m.Alphas.map (Bc id),pV (o0 s.Items (aH s.Items id).1 id) d.Rules m.Rules⟩
theorem vd {g:ah→aV→aV}:∀ (a:List ah) (ws:List aV),a.length=ws.length→(pV g a ws).length=ws.length∧∀ (i:Nat) (v:aV),(pV g a ws)[i]?=some v→∃ (r:ah) (w:aV),a[i]?=some r∧ws[i]?=some w∧v=g r w
 | [],[],_=>⟨rfl,fun i v h=>by simp[pV] at h⟩
 | [],w :: ws,h=>by simp at h
 | r :: a,[],h=>by simp at h
 | r :: a,w :: ws,h=>by
  obtain⟨h1,c⟩:=vd (g:=g) a ws (by simpa using h)
  refine⟨by simp[pV,h1],fun i v b=>?_⟩
  cases i with
  | zero=>simp only[pV,G0,Option.some.injEq] at b;exact⟨r,w,rfl,rfl,b.symm⟩
  | succ i=>simp only[pV,P6] at b;simpa using c i v b
theorem HB {id:Int} {r:ah} {j:Nat} {w:aV} (h:Ea r j w):Ea r j ⟨w.Levels.map (nu id)⟩:=by
 obtain⟨h1,d⟩:=h
 refine⟨by simpa using h1,fun i M c=>?_⟩
 simp only[nt,vy] at c
 obtain⟨L,e,rfl⟩:=c
 obtain⟨a,b⟩:=d i L e
 have f:(jQ id L.Toks).length≤L.Toks.length:=ql _ _
 exact⟨j4 f a,fun t g=>b t (p5.1 g).1⟩
theorem Gd {d:bq} {n:cA} {m:aY} {s:af} {id:Int} {j:Nat} (h:pu d n j m):pu d n j (xw d m s id):=by
 have a:=vd (g:=o0 s.Items (aH s.Items id).1 id) d.Rules m.Rules h.lr.symm
 refine⟨by simpa[xw] using h.la,by show (pV _ _ _).length=_;rw[a.1];exact h.lr,fun i b=>?_,fun i r v c f=>?_⟩
 ·simp only[xw] at b
  obtain⟨y,k,rfl⟩:=hN.1 b
  have l:(Bc id y).L.length≤y.L.length:=ql _ _
  exact j4 l (h.al y k)
 ·obtain⟨o,w,e,a3,rfl⟩:=a.2 i v f
  rw[c] at e
  cases e
  exact vz (HB (h.rows i r w c a3))
theorem Nn {N:Nat} (a:1099000000000≤N) (l:List Int) (v:Int) (b:l.length≤4294967296):pK N l v=some (decide (v∈l)):=by
 unfold pK
 refine lp0 a l b (i9 N l v) (fun t=>some (decide (v∈t))) (fun n j x t g1 g2 g3 g4 g5 g6 g7=>?_) (fun n j g1 g2=>?_)
 ·simp only[i9,g5,if_true,g4,gb,g6,g7]
  by_cases h:x=v
  ·simp[h]
  ·have c : ¬ v=x:=fun e=>h e.symm
   simp[h,c]
 ·simp only[i9,g2,gf,if_false];simp
theorem Gu {N:Nat} (b:1099000000000≤N) (l:List an) (id:Int) (a:l.length≤4294967296) (f:∀ t∈l,t.Ids.length≤4294967296):kO N l id=some (jQ id l):=by
 unfold kO
 have g:Da l=some ():=by unfold Da;rw[if_pos a]
 rw[g,gb]
 refine (lp' b l a (fun n (u:List an) i=>dS N l id n u i) (fun t u=>some (u++jQ id t)) (fun u t=>u.length+t.length≤4294967296) [] (by simpa using a) (fun n u i x t g1 g2 g3 g4 g5 g6 c d=>?_) (fun n u i g1 g2 c=>?_)).trans OZ
 ·simp only[gj] at c
  have e:jQ id (x :: t)=if id∈x.Ids then jQ id t else x :: jQ id t:=by
   unfold jQ;rw[j8];by_cases h:id∈x.Ids <;> simp[h]
  simp only[dS,g5,if_true,g4,gb,Nn b x.Ids id (f x g2),g6,e]
  by_cases h:id∈x.Ids
  ·simp only[h,decide_true,hC,gf,if_false,if_true]
   exact d u OY
  ·simp only[h,decide_false,hG,if_true,if_false,cg (show u.length+[x].length≤4294967296 by simp;omega),gb]
   rw[d _ (by simp;omega)];simp
 ·simp only[dS,g2,gf,if_false];simp[jQ]
structure If (d:bq) (m:aY) (s:af):Prop where
 sl:s.Items.length≤1048576
 fl:∀ x∈s.Items,x.F.Fields.length≤1048576
 al:m.Alphas.length≤1048576
 ll:∀ i∈m.Alphas,i.L.length≤1048576
 rl:m.Rules.length≤1048576
 ld:d.Rules.length=m.Rules.length
 rows:∀ (i:Nat) (r:ah) (w:aV),d.Rules[i]?=some r→m.Rules[i]?=some w→SzS r s∧(pos r.Pats).length=ac r.Pats∧1≤w.Levels.length∧w.Levels.length≤(pos r.Pats).length ∧
  (∀ L∈w.Levels,L.Toks.length≤4294967296∧∀ t∈L.Toks,t.Ids.length≤(pos r.Pats).length)∧∀ L,w.Levels[w.Levels.length - 1]?=some L→∀ t∈L.Toks,t.Hits.length=(neg r.Pats).length∧∀ x∈t.Hits,InR x
theorem J6 {N:Nat} (i:1099000000000≤N) (d:bq) (s:af) (id:Int) (b:Bool) (f:List aV) (a:Int) (K:List aV→Int→Option aY) (r:ah) (w:aV) (v:idx d.Rules a=some r) (j:SzS r s) (F:(pos r.Pats).length=ac r.Pats) (h1:1≤w.Levels.length) (G:w.Levels.length≤(pos r.Pats).length)
  (k:∀ L∈w.Levels,L.Toks.length≤4294967296∧∀ t∈L.Toks,t.Ids.length≤(pos r.Pats).length) (z:∀ L,w.Levels[w.Levels.length - 1]?=some L→∀ t∈L.Toks,t.Hits.length=(neg r.Pats).length∧∀ x∈t.Hits,InR x) :
  gq N d s id ((aH s.Items id).1,b) f a K N w.Levels 0=K (f.set a.toNat (o0 s.Items (aH s.Items id).1 id r w)) (IntKind.i64.wrap (a+1)):=by
 have H:=dv r.Pats
 have I:=j.pl
 have lp:∀ (rest:List aw) (n:Nat) (done:List aw),rest.length < n→w.Levels=done++rest →
   gq N d s id ((aH s.Items id).1,b) f a K n (done.map (nu id)++rest) (done.length:Int)=K (f.set a.toNat (o0 s.Items (aH s.Items id).1 id r w)) (IntKind.i64.wrap (a+1)):=by
  intro rest
  induction rest with
  | nil=>
   intro n done g c
   obtain⟨n,rfl⟩:∃ m,n=m+1:=⟨n - 1,by simp at g;omega⟩
   have A:w.Levels=done:=by simpa using c
   subst A
   have c1:decide ((w.Levels.length:Int) < ((w.Levels.map (nu id)++[]).length:Int))=false:=decide_eq_false OZ
   have h:IntKind.i64.wrap (((w.Levels.map (nu id)++[]).length:Int) - 1)=((w.Levels.length - 1:Nat):Int):=by
    rw[j5,py,show ((w.Levels.length:Int) - 1)=((w.Levels.length - 1:Nat):Int) by omega]
    exact wr OY OY
   have l:w.Levels.length - 1 < w.Levels.length:=by omega
   have o:w.Levels[w.Levels.length - 1]?=some w.Levels[w.Levels.length - 1]:=gm l
   have p:(w.Levels.map (nu id))[w.Levels.length - 1]?=some (nu id w.Levels[w.Levels.length - 1]):=by rw[nt,o];rfl
   have B:idx (w.Levels.map (nu id)++[]) ((w.Levels.length - 1:Nat):Int)=some (nu id w.Levels[w.Levels.length - 1]):=by rw[j5,nY,p]
   obtain⟨q,z2⟩:=k _ (hB l)
   have M:(nu id w.Levels[w.Levels.length - 1]).Toks.length≤w.Levels[w.Levels.length - 1].Toks.length:=ql _ _
   have e:=Hr i r s j (aH s.Items id).1 (-1) (Or.inr rfl) (nu id w.Levels[w.Levels.length - 1]).Toks OY (fun t e=>by
    have hm:t∈w.Levels[w.Levels.length - 1].Toks:=(p5.1 e).1
    exact⟨by have:=z2 t hm;omega,z _ o t hm⟩)
   simp only[gq,c1,gf,if_false,v,gb,h,B,e,hX]
   unfold o0 gn
   simp only[py,p,j5]
  | cons L Ls C=>
   intro n done g c
   obtain⟨n,rfl⟩:∃ m,n=m+1:=⟨n - 1,OY⟩
   simp only[gj] at g
   have O:w.Levels.length=done.length+(Ls.length+1):=by rw[c];simp
   have c1:decide ((done.length:Int) < ((done.map (nu id)++L :: Ls).length:Int))=true:=decide_eq_true (by simp;omega)
   have u:(done.map (nu id)).length=done.length:=by simp
   have D:idx (done.map (nu id)++L :: Ls) (done.length:Int)=some L:=by rw[← u];exact ej _ _ _
   have E:∀ y:aw,(done.map (nu id)++L :: Ls).set (done.length:Int).toNat y=(done.map (nu id)++[y])++Ls:=fun y=>by rw[hX,← u];exact lw _ _ _ _
   obtain⟨q,z2⟩:=k L (by rw[c];simp)
   have h:=Gu i L.Toks id q (fun t e=>by have:=z2 t e;omega)
   simp only[gq,c1,if_true,D,gb,h,E,wr1 done.length OY]
   have:=C n (done++[L]) OY (by rw[c];simp)
   simp only[gk,gj,gx,hA,q0,hS,qa] at this
   exact this
 have:=lp w.Levels N [] OY rfl
 simpa using this
theorem Ft {N:Nat} (l:1099000000000≤N) (d:bq) (s:af) (id:Int) (b:Bool) (as:List cn) (m:d.Rules.length≤1048576) :
  ∀ (ws:List aV) (c:List ah) (k:Nat) (e:List ah) (a:List aV),ws.length < k→d.Rules=e++c→e.length=a.length→c.length=ws.length →
   (∀ (i:Nat) (r:ah) (w:aV),c[i]?=some r→ws[i]?=some w→SzS r s∧(pos r.Pats).length=ac r.Pats∧1≤w.Levels.length∧w.Levels.length≤(pos r.Pats).length ∧
    (∀ L∈w.Levels,L.Toks.length≤4294967296∧∀ t∈L.Toks,t.Ids.length≤(pos r.Pats).length)∧∀ L,w.Levels[w.Levels.length - 1]?=some L→∀ t∈L.Toks,t.Hits.length=(neg r.Pats).length∧∀ x∈t.Hits,InR x) →
   eI N d s id ((aH s.Items id).1,b) as k (a++ws) (a.length:Int)=some ⟨as,a++pV (o0 s.Items (aH s.Items id).1 id) c ws⟩
 | [],c,k,e,a,hk,h1,f,g,h=>by
  obtain⟨k,rfl⟩:∃ j,k=j+1:=⟨k - 1,by simp at hk;omega⟩
  have n:c=[]:=qo.1 g
  subst n
  have c1:decide ((a.length:Int) < (d.Rules.length:Int))=false:=decide_eq_false (by rw[h1,← f];simp)
  simp only[eI,c1,gf,if_false,pV]
 | w :: ws,[],k,e,a,hk,h1,f,g,h=>by simp at g
 | w :: ws,r :: c,k,e,a,hk,h1,f,g,h=>by
  obtain⟨k,rfl⟩:∃ j,k=j+1:=⟨k - 1,OY⟩
  simp only[gj] at hk g
  have C:d.Rules.length=a.length+(c.length+1):=by rw[h1,← f];simp
  have c1:decide ((a.length:Int) < (d.Rules.length:Int))=true:=decide_eq_true OY
  obtain⟨o,p,q,u,v,y⟩:=h 0 r w rfl rfl
  have z:idx d.Rules (a.length:Int)=some r:=by rw[h1,← f];exact ej _ _ _
  simp only[eI,c1,if_true,ej,gb]
  rw[J6 l d s id b (a++w :: ws) (a.length:Int) _ r w z o p q u v y]
  simp only[hX,lw,wr1 a.length OY]
  have:=Ft l d s id b as m ws c k (e++[r]) (a++[o0 s.Items (aH s.Items id).1 id r w]) OY (by rw[h1];simp) (by simp[f]) OY
   (fun i A w' B a3=>h (i+1) A w' (by simpa using B) (by simpa using a3))
  simp only[gk,gj,gx,hA] at this
  rw[this,gi]
  rfl
theorem JN {N:Nat} (d:1099000000000≤N) (id:Int) (s1:List cn) (s2:Int) (K:List cn→Int→Option aY) (x:cn) (a:idx s1 s2=some x) (e:x.L.length≤1048576) :
  eS N id s1 s2 K N [] 0=K (s1.set s2.toNat (Bc id x)) (IntKind.i64.wrap (s2+1)):=by
 refine (lp' d x.L OY (fun n (u:List Int) i=>eS N id s1 s2 K n u i) (fun t u=>K (s1.set s2.toNat (⟨u++t.filter fun x=>!decide (x=id)⟩:cn)) (IntKind.i64.wrap (s2+1))) (fun u t=>u.length+t.length≤1048576) [] (by simpa using e) (fun n u i v t g1 g2 g3 g4 g5 g6 b c=>?_) (fun n u i g1 g2 b=>?_)).trans (by simp[Bc])
 ·simp only[gj] at b
  simp only[eS,a,gb,g5,if_true,g4,g6,j8]
  by_cases h:v=id
  ·simp only[h,decide_true,hC,gf,if_false]
   exact c u OY
  ·simp only[h,decide_false,hG,if_true,cg (show u.length+[v].length≤4294967296 by simp;omega),gb]
   rw[c _ (by simp;omega)];simp
 ·simp only[eS,a,gb,g2,gf,if_false,List.filter_nil,j5]
theorem Ki {N:Nat} (b:1099000000000≤N) (d:bq) (m:aY) (s:af) (id:Int) (h:If d m s):oN N d m s id=some (xw d m s id):=by
 have p:=h.al
 have q:=h.rl
 have r:=h.ld
 unfold oN
 rw[zl b s id h.sl h.fl,gb]
 have lp:∀ (is:List cn) (n:Nat) (a:List cn),is.length < n→m.Alphas.length=a.length+is.length→(∀ i∈is,i.L.length≤1048576) →
   eX N d m s id (aH s.Items id) n (a++is) (a.length:Int)=eI N d s id (aH s.Items id) (a++is.map (Bc id)) N m.Rules 0:=by
  intro is
  induction is with
  | nil=>
   intro n a c f e
   obtain⟨n,rfl⟩:∃ m,n=m+1:=⟨n - 1,by simp at c;omega⟩
   have c1:decide ((a.length:Int) < ((a++[]).length:Int))=false:=decide_eq_false OZ
   simp only[eX,c1,gf,if_false,qa]
  | cons i is k=>
   intro n a c f e
   obtain⟨n,rfl⟩:∃ m,n=m+1:=⟨n - 1,OY⟩
   simp only[gj] at c f
   have c1:decide ((a.length:Int) < ((a++i :: is).length:Int))=true:=decide_eq_true (by simp;omega)
   simp only[eX,c1,if_true]
   rw[JN b id _ _ _ i (ej _ _ _) (e i OZ),hX,lw,wr1 a.length OY]
   have:=k n (a++[Bc id i]) OY (by simp;omega) (fun j l=>e j (by simp[l]))
   simp only[gk,gj,gx,hA] at this
   rw[this,hS,gi];rfl
 have h1:=lp m.Alphas N [] OY OZ h.ll
 simp only[ho,gx,p4] at h1
 have o:eX N d m s id (aH s.Items id) N m.Alphas 0=_:=h1
 rw[o]
 have g:=Ft b d s id (aH s.Items id).2 (m.Alphas.map (Bc id)) OY m.Rules d.Rules N [] [] OY rfl rfl h.ld h.rows
 simp only[ho,gx,p4] at g
 exact g
structure Mf (j:Nat) (m:aY):Prop where
 la:m.Alphas.length≤1001
 lr:m.Rules.length≤1001
 al:∀ i∈m.Alphas,i.L.length≤j
 rows:∀ w∈m.Rules,w.Levels.length≤3∧∀ k L,w.Levels[k]?=some L→L.Toks.length≤j*100 ^ k∧∀ t∈L.Toks,t.Ids.length≤1000∧t.Hits.length≤1000∧(k+1=w.Levels.length→∀ x∈t.Hits,InR x)
theorem Mf.sz {j:Nat} {m:aY} (c:j≤40) (h:Mf j m):JT m:=by
 have h1:=h.la
 have g:=h.lr
 refine⟨⟨OY,fun a d=>by have:=h.al a d;omega⟩,OY,fun w hw=>?_⟩
 obtain⟨i,z2⟩:=h.rows w hw
 refine⟨OY,fun L e=>?_⟩
 obtain⟨k,hk,rfl⟩:=y3 e
 obtain⟨a,b⟩:=z2 k _ (gm hk)
 have hp:100 ^ k≤100 ^ 2:=Nat.pow_le_pow_right OY OY
 have:j*100 ^ k≤40*100 ^ 2:=P2 c hp
 refine⟨OY,fun t f=>?_⟩
 have:=b t f
 exact⟨OY,OY⟩
theorem Ee {d:bq} (b:ji d=true):∀ r∈d.Rules,r.Pats.length≤6∧1≤(pos r.Pats).length∧(pos r.Pats).length≤3∧(neg r.Pats).length≤6:=fun r c=>by
 have a:=m9 b r c
 have hp:gS r.Pats=true:=by
  unfold iy at a
  simp only[gI] at a
  exact a.2.2.1
 have f:(pos r.Pats).length=ac r.Pats:=qh r.Pats
 have g:(neg r.Pats).length≤r.Pats.length:=ql _ _
 unfold gS at hp
 simp only[gI,decide_eq_true_eq] at hp
 obtain⟨⟨_,e⟩,⟨h,i⟩,_⟩:=hp
 exact⟨e,OY,OY,OY⟩
theorem EH {d:bq} {n:cA} {j:Nat} {m:aY} (c:ji d=true) (q:n.Alphas.length≤1001) (h:pu d n j m):Mf j m:=by
 have r:d.Rules.length≤12:=by
  unfold ji at c
  simp only[gI,decide_eq_true_eq] at c
  exact c.2.1.2
 have h1:=h.la
 have s:=h.lr
 refine⟨OY,OY,h.al,fun w hw=>?_⟩
 obtain⟨i,l,rfl⟩:=y3 hw
 have f:i < d.Rules.length:=by omega
 obtain⟨u,o⟩:=h.rows i _ _ (gm f) (gm l)
 obtain⟨v,x,y,z⟩:=Ee c _ (hB f)
 refine⟨OY,fun k L g=>?_⟩
 obtain⟨a,b⟩:=o k L g
 have hk:k < m.Rules[i].Levels.length:=(ha.1 g).1
 refine⟨a,fun t p=>?_⟩
 obtain⟨t1,t2,t3⟩:=b t p
 exact⟨OY,OY,fun e=>(t3 OY).2⟩
theorem Ga {d:bq} {m:aY} {s:af} {id:Int} {j:Nat} (l:ji d=true) (n:sk d) (o:s.Items.length≤40) (f:∀ x∈s.Items,x.F.Fields.length≤1048576) (p:j≤40) (h:pu d (cS d) j m):If d m s:=by
 have ok:=zC (id:=id) l n o f p h
 have z:=ok.ok.la
 have A:=ok.ok.al
 refine⟨ok.ok.sl,f,OY,fun i c=>by have:=h.al i c;omega,ok.ok.rl,ok.ok.ld,fun i r w g e=>?_⟩
 obtain⟨q,u,v⟩:=ok.rows i r w g e
 have c:i < (cS d).Chains.length:=by
  have:=(ha.1 e).1
  have:=ok.ok.lc
  omega
 obtain⟨_,ro⟩:=ok.ok.rows i r _ w g (gm c) e
 have y:=ro.ne
 have B:=ro.ll
 refine⟨q,u,y,OY,fun L a=>?_,fun L a t b=>⟨ro.hit L a t b,v L a t b⟩⟩
 obtain⟨k,hk,rfl⟩:=y3 a
 refine⟨xV ro.fit _ (hN.2 ⟨_,hB hk,rfl⟩),fun t b=>?_⟩
 have:=ro.ids k _ (gm hk) t b
 omega
theorem DP {nx:Int} {l:List au} (h:pr nx l):∀ x∈l,yX x.F:=fun x a=>Ge (h.2.2.1 x a).2.2
def Ao (g:List Int→Bool) (r a:List Int):List (List Int):=(a.map fun y=>r++[y]).filter g
def Cy (g:List Int→Bool) (id:Int) (before fresh:List (List Int)) (A:List Int):List (List Int):=before.flatMap (fun r=>Ao g r [id])++fresh.flatMap (fun r=>Ao g r A)
structure Has (p:List Int→Bool) (k:Nat) (L:List (List Int)):Prop where
 nd:L.Nodup
 iff:∀ r,r∈L↔r.length=k∧p r=true
theorem Has.perm {p:List Int→Bool} {k:Nat} {L M:List (List Int)} (h:Has p k L) (a:Has p k M):L.Perm M:=
 (List.perm_ext_iff_of_nodup h.nd a.nd).2 fun r=>(h.iff r).trans (a.iff r).symm
theorem oe {g:List Int→Bool} {r b q:List Int}:q∈Ao g r b↔∃ y∈b,q=r++[y]∧g q=true:=by
 unfold Ao
 rw[p5,hN]
 constructor
 ·rintro⟨⟨y,a,rfl⟩,h⟩;exact⟨y,a,rfl,h⟩
 ·rintro⟨y,a,rfl,h⟩;exact⟨⟨y,a,rfl⟩,h⟩
theorem Eb {g:List Int→Bool} {r c:List Int} (h:c.Nodup):(Ao g r c).Nodup:=by
 unfold Ao
 refine List.Pairwise.filter _ (List.Pairwise.map _ (fun a b d e=>d ?_) h)
 simpa using e
theorem xn {g:List Int→Bool} {c:List Int} (d:c.Nodup) {L:List (List Int)} (h:L.Nodup):(L.flatMap fun r=>Ao g r c).Nodup:=by
 unfold List.Nodup
 rw[List.pairwise_flatMap]
 refine⟨fun r _=>Eb d,h.imp fun {a b} f q i k j e=>f ?_⟩
 obtain⟨y,_,rfl,_⟩:=oe.1 i
 obtain⟨l,_,rfl,_⟩:=oe.1 j
 exact (List.append_inj' e rfl).1
structure CH (g g':List Int→Bool) (id:Int) (A:Nat→List Int) (K:Nat):Prop where
 old:∀ r,g r=true→id ∉ r∧g' r=true
 new:∀ r,g' r=true→id ∉ r→g r=true
 pre:∀ r y,g' (r++[y])=true→g' r=true
 inA:∀ r y,r.length < K→g' (r++[y])=true→y∈A r.length
 nd:∀ k,k < K→(A k).Nodup
theorem Hv {g g':List Int→Bool} {id:Int} {A:Nat→List Int} {K k:Nat} (H:CH g g' id A K) (hk:k < K) {B F:List (List Int)} (i:Has g k B) (j:Has (fun r=>g' r && decide (id∈r)) k F) :
  Has (fun r=>g' r && decide (id∈r)) (k+1) (Cy g' id B F (A k)):=by
 refine⟨?_,fun r=>?_⟩
 ·unfold Cy
  rw[nn]
  refine⟨xn OZ i.nd,xn (H.nd k hk) j.nd,fun a t b w e=>?_⟩
  subst e
  obtain⟨x,c,h1⟩:=j1.1 t
  obtain⟨y,d,z⟩:=j1.1 w
  obtain⟨u,_,rfl,_⟩:=oe.1 h1
  obtain⟨v,_,e,_⟩:=oe.1 z
  obtain⟨rfl,-⟩:=List.append_inj' e rfl
  have C:=((i.iff x).1 c).2
  have p:=((j.iff x).1 d).2
  simp only[gI,decide_eq_true_eq] at p
  exact (H.old x C).1 p.2
 ·unfold Cy
  rw[gh,j1,j1]
  simp only[gI,decide_eq_true_eq]
  constructor
  ·rintro (⟨x,c,h⟩ | ⟨x,c,h⟩)
   ·obtain⟨y,d,rfl,h1⟩:=oe.1 h
    have:=(i.iff x).1 c
    refine⟨by simp[this.1],h1,?_⟩
    simp at d;simp[d]
   ·obtain⟨y,d,rfl,h1⟩:=oe.1 h
    have:=(j.iff x).1 c
    simp only[gI,decide_eq_true_eq] at this
    exact⟨by simp[this.1],h1,by simp[this.2.2]⟩
  ·rintro⟨l,f,m⟩
   rcases Pk r with rfl | ⟨q,y,rfl⟩
   ·simp at l
   ·rw[Pm] at l f m ⊢
    have n:q.length=k:=by simpa using l
    have s:=H.pre q y f
    by_cases o:id∈q
    ·right
     refine⟨q,(j.iff q).2 ⟨n,by simp[s,o]⟩,oe.2 ⟨y,?_,rfl,f⟩⟩
     have:=H.inA q y OY f
     rwa [n] at this
    ·left
     refine⟨q,(i.iff q).2 ⟨n,H.new q s o⟩,oe.2 ⟨y,?_,rfl,f⟩⟩
     simp only[gh,o,false_or,hY] at m
     simp[m]
theorem Gr {g g':List Int→Bool} {id:Int} {A:Nat→List Int} {K k:Nat} (H:CH g g' id A K) {L M:List (List Int)} (d:Has g k L) (f:Has (fun r=>g' r && decide (id∈r)) k M):Has g' k (L++M):=by
 refine⟨?_,fun r=>?_⟩
 ·rw[nn]
  refine⟨d.nd,f.nd,fun a i b j e=>?_⟩
  subst e
  have h1:=((d.iff a).1 i).2
  have c:=((f.iff a).1 j).2
  simp only[gI,decide_eq_true_eq] at c
  exact (H.old a h1).1 c.2
 ·rw[gh,d.iff,f.iff]
  simp only[gI,decide_eq_true_eq]
  constructor
  ·rintro (⟨h1,c⟩ | ⟨h1,c,_⟩)
   ·exact⟨h1,(H.old r c).2⟩
   ·exact⟨h1,c⟩
  ·rintro⟨h1,c⟩
   by_cases h:id∈r
   ·exact .inr ⟨h1,c,h⟩
   ·exact .inl ⟨h1,H.new r c h⟩
def xx (g:List Int→Bool) (id:Int) (A:Nat→List Int):Nat→List (List (List Int))→List (List Int)→List (List Int)→List (List (List Int))
 | _,[],_,_=>[]
 | k,L :: Ls,B,F=>(L++Cy g id B F (A k)) :: xx g id A (k+1) Ls L (Cy g id B F (A k))
theorem AV {g g':List Int→Bool} {id:Int} {A:Nat→List Int} {K:Nat} (H:CH g g' id A K):∀ (Ls:List (List (List Int))) (k:Nat) (B F:List (List Int)),k+Ls.length≤K→Has g k B→Has (fun r=>g' r && decide (id∈r)) k F→(∀ i L,Ls[i]?=some L→Has g (k+1+i) L) →
  ∀ i L,(xx g' id A k Ls B F)[i]?=some L→Has g' (k+1+i) L
 | [],k,B,F,_,_,_,_,i,L,h=>by simp[xx] at h
 | L :: Ls,k,B,F,c,d,e,a,i,M,h=>by
  rw[gj] at c
  have hm:=Hv H OY d e
  have b:Has g (k+1) L:=by simpa using a 0 L rfl
  cases i with
  | zero=>
   simp only[xx,G0,Option.some.injEq] at h
   subst h
   exact Gr H b hm
  | succ i=>
   simp only[xx,P6] at h
   have:=AV H Ls (k+1) L _ OY b hm (fun j N f=>by
    have:=a (j+1) N (by simpa using f)
    rwa [show k+1+(j+1)=k+1+1+j by omega] at this) i M h
   rwa [show k+1+(i+1)=k+1+1+i by omega]
theorem GQ {g g':List Int→Bool} {id:Int} {A:Nat→List Int} {K:Nat} (H:CH g g' id A K) (a:g []=true) {Ls:List (List (List Int))} (d:Ls.length≤K) (b:∀ i L,Ls[i]?=some L→Has g (i+1) L):∀ i L,(xx g' id A 0 Ls [[]] [])[i]?=some L→Has g' (i+1) L:=by
 intro i L h
 have:=AV H Ls 0 [[]] [] OY ⟨OZ,fun r=>by
  constructor
  ·intro h;simp at h;subst h;exact⟨rfl,a⟩
  ·rintro⟨h,_⟩;simp[qo.1 h]⟩ ⟨OZ,fun r=>by
  constructor
  ·intro h;cases h
  ·rintro⟨h,h1⟩;have:=qo.1 h;subst this;simp at h1⟩ (fun j N c=>by
   have:=b j N c
   rwa [show 0+1+j=j+1 by omega]) i L h
 rwa [show i+1=0+1+i by omega]
theorem Ix {g g':List Int→Bool} {id:Int} (h:∀ r,g' r=true↔g r=true∧id ∉ r) {k:Nat} {L:List (List Int)} (a:Has g k L):Has g' k (L.filter fun r=>!decide (id∈r)):=by
 refine⟨a.nd.filter _,fun r=>?_⟩
 rw[p5,a.iff,h]
 simp only[Bool.not_eq_true',decide_eq_false_iff_not,and_assoc]
theorem y8 {xs:List au} {v:Int} (h:∀ y∈xs,y.Id≠v):aH xs v=(DK,false):=by
 unfold aH
 rw[P7.2 fun y a=>by simpa using h y a]
theorem DV {xs:List au} {x:au} {v:Int} (h:v≠x.Id):aH (xs++[x]) v=aH xs v:=by
 unfold aH
 rw[List.find?_append,List.find?_cons_of_neg (by simpa using fun e:x.Id=v=>h e.symm),List.find?_nil,Option.or_none]
theorem Ek {xs:List au} {x:au} (h:∀ y∈xs,y.Id≠x.Id):aH (xs++[x]) x.Id=(x.F,true):=by
 unfold aH
 rw[List.find?_append,P7.2 fun y a=>by simpa using h y a]
 simp
theorem xE {xs:List au} {v:Int} (h:(aH xs v).2=true):∃ x∈xs,x.Id=v∧aH xs v=(x.F,true):=by
 unfold aH at h ⊢
 split at h
 ·rename_i x a
  exact⟨x,D0 a,by simpa using List.find?_some a,rfl⟩
 ·cases h
theorem l9 {xs:List au}:∀ (ps:List az) (ids:List Int) (l:List aq),(aZ xs ps ids l).2=true→∀ v∈ids,(aH xs v).2=true
 | [],[],l,h,v,a=>by cases a
 | [],u :: ids,l,h,v,a=>by cases h
 | p :: ps,[],l,h,v,a=>by cases a
 | p :: ps,u :: ids,l,h,v,a=>by
  unfold aZ at h
  split at h
  ·rename_i c
   rcases hK.1 a with rfl | a
   ·exact c.1
   ·exact l9 ps ids _ h v a
  ·cases h
theorem sZ {xs a:List au}:∀ (ps:List az) (ids:List Int) (l:List aq),(∀ v∈ids,aH xs v=aH a v)→aZ xs ps ids l=aZ a ps ids l
 | [],[],l,h=>rfl
 | [],u :: ids,l,h=>rfl
 | p :: ps,[],l,h=>rfl
 | p :: ps,u :: ids,l,h=>by
  unfold aZ
  rw[h u OZ,sZ ps ids _ fun v b=>h v (by simp[b])]
theorem y9 {xs:List au} {y:Int}:∀ (ps:List az) (row:List Int) (l:List aq),(aZ xs (ps.take (row.length+1)) (row++[y]) l).2=true→(aZ xs (ps.take row.length) row l).2=true
 | [],row,l,h=>by cases row <;> simp[aZ] at h
 | p :: ps,[],l,h=>by simp[aZ]
 | p :: ps,v :: row,l,h=>by
  simp only[gj,P1,hL,aZ] at h ⊢
  split at h
  ·rename_i c
   rw[if_pos c]
   exact y9 ps row _ h
  ·cases h
def okR (xs:List au) (ps:List az) (r:List Int):Bool:=(okB xs ps r).2
theorem C5 {xs:List au} {ps:List az} {x:au} {r:List Int} (h:x.Id ∉ r):okB (xs++[x]) ps r=okB xs ps r:=by
 unfold okB
 exact sZ _ _ _ fun v a=>DV fun e=>h (e ▸ a)
theorem IL {xs:List au} {ps:List az} {x:au} {A:Nat→List Int} (b:∀ y∈xs,y.Id≠x.Id)
  (c:∀ k p,ps[k]?=some p→∀ y∈xs++[x],gC (aT p) y.F=true→y.Id∈A k) (d:∀ k,k < ps.length→(A k).Nodup):CH (okR xs ps) (okR (xs++[x]) ps) x.Id A ps.length:=by
 have key:∀ r,okR xs ps r=true→x.Id ∉ r:=fun r h hm=>by
  have:=l9 _ _ _ h x.Id hm
  rw[y8 b] at this
  cases this
 refine⟨fun r h=>?_,fun r h hm=>?_,fun r y h=>?_,fun r y i h=>?_,d⟩
 ·have hk:=key r h
  exact⟨hk,by unfold okR;rw[C5 hk];exact h⟩
 ·unfold okR at h ⊢
  rwa [C5 hm] at h
 ·unfold okR okB at h ⊢
  rw[gk,gj,gx,hA] at h
  exact y9 ps r [] h
 ·have f:=l9 _ _ _ h y OZ
  unfold okR okB at h
  rw[gk,gj,gx,hA] at h
  obtain⟨p,hp,a⟩:=tE ps r [] h
  obtain⟨z,g,rfl,e⟩:=xE f
  rw[e] at a
  exact c _ p hp z g a
def gH (l:List an):List (List Int):=l.map (·.Ids)
theorem vt {xs:List au} {ps ns:List az} (row:List Int):∀ (ids:List Int),gH (gG xs ps ns row ids)=Ao (okR xs ps) row ids
 | []=>rfl
 | v :: ids=>by
  have a:=vt (xs:=xs) (ps:=ps) (ns:=ns) row ids
  unfold gG gH Ao at *
  rw[l0,q0,a,hS,j8]
  unfold od
  by_cases h:(okB xs ps (row++[v])).2=true
  ·rw[if_pos h,if_pos (show okR xs ps (row++[v])=true from h)];rfl
  ·rw[if_neg h,if_neg (show ¬ okR xs ps (row++[v])=true from h)];rfl
theorem sy {xs:List au} {ps ns:List az} (ids:List Int):∀ (B:List an),gH (B.flatMap fun t=>gG xs ps ns t.Ids ids)=(gH B).flatMap fun r=>Ao (okR xs ps) r ids
 | []=>rfl
 | t :: B=>by
  have a:=sy (xs:=xs) (ps:=ps) (ns:=ns) ids B
  have h1:=vt (xs:=xs) (ps:=ps) (ns:=ns) t.Ids ids
  unfold gH at *
  rw[l0,q0,a,h1,hS,l0]
theorem E4 {xs:List au} {ps ns:List az} {id:Int} {k:Nat} {B F:List an} {A:List Int} {a b:List (List Int)} (d:k=0→a=[[]]∧b=[]) (hk:k≠0→a=gH B∧b=gH F):gH (jl xs ps ns id k B F A)=Cy (okR xs ps) id a b A:=by
 unfold jl Cy
 by_cases c:k=0
 ·obtain⟨rfl,rfl⟩:=d c
  rw[if_pos c,vt]
  simp
 ·obtain⟨rfl,rfl⟩:=hk c
  rw[if_neg c]
  have h1:=sy (xs:=xs) (ps:=ps) (ns:=ns) [id] B
  have e:=sy (xs:=xs) (ps:=ps) (ns:=ns) A F
  unfold gH at *
  rw[q0,h1,e]
theorem yN {xs:List au} {ps ns:List az} {id:Int} {A:Nat→List Int}:∀ (Ls:List aw) (k:Nat) (B F:List an) (a b:List (List Int)),(k=0→a=[[]]∧b=[])→(k≠0→a=gH B∧b=gH F)→(mC xs ps ns id A k Ls B F).map (fun L=>gH L.Toks)=xx (okR xs ps) id A k (Ls.map fun L=>gH L.Toks) a b
 | [],k,B,F,a,b,c,hk=>rfl
 | L :: Ls,k,B,F,a,b,c,hk=>by
  have hm:=E4 (xs:=xs) (ps:=ps) (ns:=ns) (id:=id) (A:=A k) c hk
  have d:=yN (xs:=xs) (ps:=ps) (ns:=ns) (id:=id) (A:=A) Ls (k+1) L.Toks (jl xs ps ns id k B F (A k)) (gH L.Toks) (Cy (okR xs ps) id a b (A k)) (fun e=>by omega) (fun _=>⟨rfl,hm.symm⟩)
  unfold mC
  rw[hS,hS,d,xx]
  congr 1
  unfold gH at *
  rw[q0,hm]
def lF (xs:List au) (ps ns:List az) (k:Nat) (r:List Int):List Int:=if k+1=ps.length then gr xs ns (okB xs ps r).1 else []
theorem vn {xs:List au} {ps ns:List az} {row ids:List Int}:∀ t∈gG xs ps ns row ids,t.Hits=lF xs ps ns row.length t.Ids:=by
 intro t a
 unfold gG at a
 obtain⟨v,_,h⟩:=j1.1 a
 unfold od at h
 split at h
 ·simp only[hY] at h
  subst h
  rfl
 ·cases h
theorem Ef {xs:List au} {ps ns:List az} {id:Int} {k:Nat} {B F:List an} {A:List Int} (b:∀ t∈B,t.Ids.length=k) (c:∀ t∈F,t.Ids.length=k):∀ t∈jl xs ps ns id k B F A,t.Hits=lF xs ps ns k t.Ids:=by
 intro t a
 unfold jl at a
 split at a
 ·rename_i e;subst e;exact vn t a
 ·rcases gh.1 a with a | a
  ·obtain⟨u,hu,h⟩:=j1.1 a
   have:=vn t h
   rwa [b u hu] at this
  ·obtain⟨u,hu,h⟩:=j1.1 a
   have:=vn t h
   rwa [c u hu] at this
theorem zr {xs:List au} {ps ns:List az} {id:Int} {A:Nat→List Int} (e:xs.length≤1048576):∀ (Ls:List aw) (k:Nat) (B F:List an),(∀ t∈B,t.Ids.length=k)→(∀ t∈F,t.Ids.length=k)→(∀ i L,Ls[i]?=some L→∀ t∈L.Toks,t.Ids.length=k+i+1∧t.Hits=lF xs ps ns (k+i) t.Ids) →
  ∀ i L,(mC xs ps ns id A k Ls B F)[i]?=some L→∀ t∈L.Toks,t.Hits=lF xs ps ns (k+i) t.Ids
 | [],k,B,F,b,c,d,i,L,h=>by simp[mC] at h
 | M :: Ls,k,B,F,b,c,d,i,L,h=>by
  have hm:=Ef (xs:=xs) (ps:=ps) (ns:=ns) (id:=id) (A:=A k) b c
  have g:=AM (xs:=xs) (ps:=ps) (ns:=ns) (id:=id) (A:=A k) e b c
  have f:=d 0 M rfl
  unfold mC at h
  cases i with
  | zero=>
   simp only[G0,Option.some.injEq] at h
   subst h
   intro t a
   rcases gh.1 a with a | a
   ·exact (f t a).2
   ·exact hm t a
  | succ i=>
   have:=zr (ps:=ps) (ns:=ns) (id:=id) (A:=A) e Ls (k+1) M.Toks _ (fun t a=>(f t a).1) (fun t a=>(g t a).1) (fun j N l=>by
    have:=d (j+1) N (by simpa using l)
    rwa [show k+(j+1)=k+1+j by omega] at this) i L (by simpa using h)
   rwa [show k+1+i=k+(i+1) by omega] at this
theorem zq {xs:List au} {x:au} {l:List aq} (b:xs.length≤1048576):∀ (ns:List az),lB x.F l 1 ns (gr xs ns l)=gr (xs++[x]) ns l
 | []=>rfl
 | p :: ns=>by
  have a:=zq (x:=x) (l:=l) b ns
  have h1:=xS p l xs
  unfold gr at a ⊢
  rw[hS,hS,lB,a]
  congr 1
  unfold tx
  rw[List.countP_append,List.countP_singleton]
  unfold tx at h1
  split
  ·rw[wr OY OY];omega
  ·simp
def CL (xs:List au) (r:ah) (w:aV):Prop:=∀ k L,w.Levels[k]?=some L→Has (okR xs (pos r.Pats)) (k+1) (gH L.Toks)∧∀ t∈L.Toks,t.Hits=lF xs (pos r.Pats) (neg r.Pats) k t.Ids
theorem Has.len {p:List Int→Bool} {k:Nat} {l:List an} (h:Has p k (gH l)):∀ t∈l,t.Ids.length=k∧p t.Ids=true:=fun t a=>(h.iff t.Ids).1 (hN.2 ⟨t,a,rfl⟩)
theorem Et {xs:List au} {x:au} {r:ah} {w:aV} (g:xs.length≤1048576) (i:∀ y∈xs,y.Id≠x.Id) (s:w.Levels.length=(pos r.Pats).length) (h:CL xs r w) :
  ∀ k L,(gn (xs++[x]) (pos r.Pats) (neg r.Pats) x.F 1 w).Levels[k]?=some L→Has (okR xs (pos r.Pats)) (k+1) (gH L.Toks)∧∀ t∈L.Toks,t.Hits=lF (xs++[x]) (pos r.Pats) (neg r.Pats) k t.Ids:=by
 have key:∀ q,okR xs (pos r.Pats) q=true→okB (xs++[x]) (pos r.Pats) q=okB xs (pos r.Pats) q:=fun q j=>C5 fun hm=>by
  have:=l9 _ _ _ j x.Id hm
  rw[y8 i] at this
  cases this
 have l:∀ k L,w.Levels[k]?=some L→k≠w.Levels.length - 1→Has (okR xs (pos r.Pats)) (k+1) (gH L.Toks)∧∀ t∈L.Toks,t.Hits=lF (xs++[x]) (pos r.Pats) (neg r.Pats) k t.Ids:=fun k L a hk=>by
  obtain⟨h1,c⟩:=h k L a
  refine⟨h1,fun t b=>?_⟩
  have:=(ha.1 a).1
  rw[c t b]
  unfold lF
  rw[if_neg OY,if_neg OY]
 intro k L a
 unfold gn at a
 split at a
 ·rename_i M d
  simp only at a
  rw[vx] at a
  split at a
  ·rename_i e
   split at a
   ·simp only[Option.some.injEq] at a
    subst a
    subst e
    obtain⟨h1,c⟩:=h _ M d
    have v:=(ha.1 d).1
    refine⟨?_,fun t b=>?_⟩
    ·unfold gH at h1 ⊢
     rw[uq];exact h1
    ·simp only at b
     unfold kD at b
     obtain⟨u,hu,rfl⟩:=hN.1 b
     have m:=c u hu
     have f:=(Has.len h1 u hu).2
     have hk:=key _ f
     have n:(okB (xs++[x]) (pos r.Pats) u.Ids).2=true:=by rw[hk];exact f
     rw[if_pos n]
     simp only
     rw[m,hk]
     unfold lF
     rw[if_pos OY,if_pos OY,zq g,hk]
   ·cases a
  ·rename_i e
   exact l k L a fun o=>e o.symm
 ·rename_i p
  have:=Pn.1 p
  have:=(ha.1 a).1
  omega
theorem Kz {xs:List au} {x:au} {as:List cn} {r:ah} {c:aJ} {w:aV} (u:xs.length+1≤1048576) (d:∀ y∈xs,y.Id≠x.Id) (f:w.Levels.length=(pos r.Pats).length)
  (g:∀ k p,(pos r.Pats)[k]?=some p→uZ as c k=((xs++[x]).filter fun y=>gC (aT p) y.F).map (·.Id)) (l:((xs++[x]).map (·.Id)).Nodup) (h:CL xs r w):CL (xs++[x]) r (pG (xs++[x]) as x.F x.Id r c w):=by
 have j:=Et (x:=x) OY d f h
 have hlen:(gn (xs++[x]) (pos r.Pats) (neg r.Pats) x.F 1 w).Levels.length=w.Levels.length:=by unfold gn;split <;> simp
 have G:=IL (xs:=xs) (ps:=pos r.Pats) (x:=x) (A:=uZ as c) d
  (fun k p hp y m n=>by rw[g k p hp];exact hN.2 ⟨y,p5.2 ⟨m,n⟩,rfl⟩)
  (fun k hk=>by
   rw[g k _ (gm hk)]
   exact List.Nodup.sublist (List.Sublist.map _ (List.filter_sublist)) l)
 have o:okR xs (pos r.Pats) []=true:=by unfold okR okB;simp[aZ]
 have e:=yN (xs:=xs++[x]) (ps:=pos r.Pats) (ns:=neg r.Pats) (id:=x.Id) (A:=uZ as c) (gn (xs++[x]) (pos r.Pats) (neg r.Pats) x.F 1 w).Levels 0 [] [] [[]] [] (fun _=>⟨rfl,rfl⟩) (fun e=>absurd rfl e)
 have q:=GQ G o (Ls:=(gn (xs++[x]) (pos r.Pats) (neg r.Pats) x.F 1 w).Levels.map fun L=>gH L.Toks) (by rw[py,hlen,f];exact hz _) (fun i L a=>by
  rw[nt,vy] at a
  obtain⟨M,b,rfl⟩:=a
  exact (j i M b).1)
 intro k L a
 refine⟨q k _ ?_,?_⟩
 ·rw[← e,nt]
  unfold pG at a
  rw[show (mC (xs++[x]) (pos r.Pats) (neg r.Pats) x.Id (uZ as c) 0 (gn (xs++[x]) (pos r.Pats) (neg r.Pats) x.F 1 w).Levels [] [])[k]?=some L from a]
  rfl
 ·have:=zr (xs:=xs++[x]) (ps:=pos r.Pats) (ns:=neg r.Pats) (id:=x.Id) (A:=uZ as c) (by simp;omega) (gn (xs++[x]) (pos r.Pats) (neg r.Pats) x.F 1 w).Levels 0 [] [] OZ OZ (fun i M b t hm=>by
   obtain⟨h1,s⟩:=j i M b
   rw[hA]
   exact⟨(Has.len h1 t hm).1,s t hm⟩) k L a
  rwa [hA] at this
def qg (n:cA) (xs:List au):List cn:=n.Alphas.map fun a=>⟨(xs.filter fun x=>gC a x.F).map (·.Id)⟩
theorem AT {x:au} {xs:List au}:∀ (as:List ax),d7 x.F x.Id as (as.map fun a=>⟨(xs.filter fun x=>gC a x.F).map (·.Id)⟩)=as.map fun a=>⟨((xs++[x]).filter fun x=>gC a x.F).map (·.Id)⟩
 | []=>rfl
 | a :: as=>by
  rw[hS,hS,d7,AT as]
  congr 1
  rw[List.filter_append,j8]
  cases gC a x.F <;> simp
structure wt (d:bq) (n:cA) (xs:List au) (m:aY):Prop where
 al:m.Alphas=qg n xs
 rows:∀ (i:Nat) (r:ah) (w:aV),d.Rules[i]?=some r→m.Rules[i]?=some w→CL xs r w
theorem IJ {d:bq} {n:cA} {m:aY} {xs:List au} {x:au} {nx:Int} {j:Nat} (C:xs.length+1≤1048576) (b:((xs++[x]).map (·.Id)).Nodup) (q:Ats n.Alphas n.Chains d.Rules) (f:pu d n j m) (h:wt d n xs m):wt d n (xs++[x]) (A8 d n m ⟨xs++[x],nx⟩ x.Id):=by
 have s:∀ y∈xs,y.Id≠x.Id:=fun y D e=>by
  rw[q0,nn] at b
  exact b.2.2 y.Id (hN.2 ⟨y,D,rfl⟩) x.Id OZ e
 have t:=Ek s
 have u:d7 x.F x.Id n.Alphas m.Alphas=qg n (xs++[x]):=by rw[h.al];exact AT n.Alphas
 have E:=vw (g:=pG (xs++[x]) (d7 x.F x.Id n.Alphas m.Alphas) x.F x.Id) d.Rules n.Chains m.Rules f.lr.symm (by rw[q.len,f.lr])
 refine⟨?_,fun i r v a l=>?_⟩
 ·unfold A8
  simp only[t]
  exact u
 ·unfold A8 at l
  simp only[t] at l
  obtain⟨O,c,w,z,a2,a3,rfl⟩:=E.2 i v l
  rw[a] at z
  cases z
  refine Kz C s (f.rows i r w a a3).1 (fun k p hp=>?_) b (h.rows i r w a a3)
  obtain⟨F,G⟩:=ha.1 a
  obtain⟨H,I⟩:=ha.1 a2
  have o:=(q.get i H F).1
  rw[I,G] at o
  obtain⟨A,K⟩:=ha.1 hp
  have B:k < c.Pos.length:=by rw[o.len];exact A
  have L:=o.get k B A
  obtain⟨a0,_,M⟩:=a8 L
  have N:idx (d7 x.F x.Id n.Alphas m.Alphas) c.Pos[k]=some ⟨((xs++[x]).filter fun y=>gC (aT p) y.F).map (·.Id)⟩:=by
   rw[u]
   unfold idx qg
   rw[if_pos a0,nt,M,← K]
   rfl
  exact (wD (ag B) N).symm
def vf (id:Int) (xs:List au):List au:=xs.filter fun y=>!decide (y.Id=id)
theorem yu {id v:Int} (h:v≠id):∀ (xs:List au),aH (vf id xs) v=aH xs v
 | []=>rfl
 | y :: t=>by
  have a:=yu h t
  unfold vf at a ⊢
  rw[j8]
  by_cases c:y.Id=id
  ·rw[decide_eq_true c,hC,if_neg OZ,a,kR,if_neg OY]
  ·rw[decide_eq_false c,hG,if_pos rfl,kR,kR,a]
theorem BA {id:Int} {xs:List au} {ps:List az} {q:List Int} (h:id ∉ q):okB (vf id xs) ps q=okB xs ps q:=by
 unfold okB
 exact sZ _ _ _ fun v a=>yu (fun e=>h (by rw[← e];exact a)) xs
theorem Jm {id:Int} {xs:List au} {ps:List az} (q:List Int):okR (vf id xs) ps q=true↔okR xs ps q=true∧id ∉ q:=by
 unfold okR
 constructor
 ·intro h
  have a:id ∉ q:=fun b=>by
   obtain⟨x,c,e,_⟩:=xE (l9 _ _ _ h id b)
   have:=(p5.1 c).2
   simp[e] at this
  rw[BA a] at h
  exact⟨h,a⟩
 ·rintro⟨h,a⟩
  rw[BA a];exact h
theorem EI {x:au} (P:au→Bool):∀ (xs:List au),(xs.map (·.Id)).Nodup→x∈xs→xs.countP P=(vf x.Id xs).countP P+if P x=true then 1 else 0
 | [],_,h=>by cases h
 | y :: t,a,h=>by
  rw[hS,List.nodup_cons] at a
  unfold vf
  rw[j8]
  rcases hK.1 h with rfl | h
  ·have e:(t.filter fun y=>!decide (y.Id=x.Id))=t:=List.filter_eq_self.2 fun z d=>by
    have:z.Id≠x.Id:=fun e=>a.1 (hN.2 ⟨z,d,e⟩)
    simp[this]
   rw[decide_eq_true rfl,hC,if_neg OZ,e,P8]
  ·have c:y.Id≠x.Id:=fun e=>a.1 (hN.2 ⟨x,h,e.symm⟩)
   have b:=EI P t a.2 h
   unfold vf at b
   rw[decide_eq_false c,hG,if_pos rfl,P8,P8,b]
   omega
theorem B3 {xs:List au} {x:au} {l:List aq} (e:xs.length≤1048576) (a:(xs.map (·.Id)).Nodup) (hm:x∈xs):∀ (ns:List az),lB x.F l (-1) ns (gr xs ns l)=gr (vf x.Id xs) ns l
 | []=>rfl
 | p :: ns=>by
  have b:=B3 (l:=l) e a hm ns
  have h1:=xS p l xs
  unfold gr at b ⊢
  rw[hS,hS,lB,b]
  congr 1
  have d:=EI (fun y=>(aX p y.F l).2) xs a hm
  unfold tx at h1 ⊢
  split
  ·rename_i c
   simp only[c,if_true] at d
   rw[wr OY OY];omega
  ·rename_i c
   simp only[c,gf,if_false] at d
   omega
theorem Dq (id:Int) (l:List an):gH (jQ id l)=(gH l).filter fun r=>!decide (id∈r):=by
 unfold gH jQ
 rw[List.filter_map];rfl
theorem Gw {xs:List au} {x:au} {r:ah} {w:aV} (f:xs.length≤1048576) (g:(xs.map (·.Id)).Nodup) (hm:x∈xs) (y:w.Levels.length=(pos r.Pats).length) (h:CL xs r w):CL (vf x.Id xs) r (o0 xs x.F x.Id r w):=by
 have base:∀ (k:Nat) (M:aw),(w.Levels.map (nu x.Id))[k]?=some M→Has (okR (vf x.Id xs) (pos r.Pats)) (k+1) (gH M.Toks)∧∀ t∈M.Toks,t.Hits=lF xs (pos r.Pats) (neg r.Pats) k t.Ids∧x.Id ∉ t.Ids∧okR xs (pos r.Pats) t.Ids=true:=fun k M b=>by
  simp only[nt,vy] at b
  obtain⟨L,a,rfl⟩:=b
  obtain⟨h1,d⟩:=h k L a
  refine⟨?_,fun t c=>?_⟩
  ·show Has _ _ (gH (jQ x.Id L.Toks))
   rw[Dq]
   exact Ix (fun q=>Jm q) h1
  ·have hm:=p5.1 c
   exact⟨d t hm.1,by simpa using hm.2,(Has.len h1 t hm.1).2⟩
 have i:∀ (k:Nat) (M:aw),(w.Levels.map (nu x.Id))[k]?=some M→k≠w.Levels.length - 1→Has (okR (vf x.Id xs) (pos r.Pats)) (k+1) (gH M.Toks)∧∀ t∈M.Toks,t.Hits=lF (vf x.Id xs) (pos r.Pats) (neg r.Pats) k t.Ids:=fun k M b hk=>by
  obtain⟨h1,d⟩:=base k M b
  have:=(ha.1 b).1
  simp only[py] at this
  refine⟨h1,fun t c=>?_⟩
  rw[(d t c).1]
  unfold lF
  rw[if_neg OY,if_neg OY]
 intro k L a
 unfold o0 gn at a
 simp only[py] at a
 split at a
 ·rename_i M b
  simp only at a
  rw[vx] at a
  split at a
  ·rename_i e
   split at a
   ·simp only[Option.some.injEq] at a
    subst a
    subst e
    obtain⟨h1,d⟩:=base _ M b
    have j:=(ha.1 b).1
    simp only[py] at j
    refine⟨?_,fun t c=>?_⟩
    ·unfold gH at h1 ⊢
     rw[uq];exact h1
    ·simp only at c
     unfold kD at c
     obtain⟨u,hu,rfl⟩:=hN.1 c
     obtain⟨l,m,n⟩:=d u hu
     have o:(okB xs (pos r.Pats) u.Ids).2=true:=n
     rw[if_pos o]
     simp only
     rw[l]
     unfold lF
     rw[if_pos OY,if_pos OY,B3 f g hm,BA m]
   ·cases a
  ·rename_i e
   exact i k L a fun p=>e p.symm
 ·rename_i s
  have:=Pn.1 s
  have v:=(ha.1 a).1
  simp only[py] at this v
  omega
theorem Ep (n:cA) (id:Int) (xs:List au):(qg n xs).map (Bc id)=qg n (vf id xs):=by
 unfold qg
 rw[List.map_map]
 refine List.map_congr_left fun a _=>?_
 unfold Bc vf
 simp only[Function.comp,cn.mk.injEq]
 rw[List.filter_map,List.filter_filter,List.filter_filter]
 congr 1
 refine List.filter_congr fun y _=>?_
 simp only[Function.comp,Bool.and_comm]
theorem Ke {d:bq} {n:cA} {m:aY} {xs:List au} {x:au} {nx:Int} {j:Nat} (o:xs.length≤1048576) (a:(xs.map (·.Id)).Nodup) (hm:x∈xs) (f:pu d n j m) (h:wt d n xs m):wt d n (vf x.Id xs) (xw d m ⟨xs,nx⟩ x.Id):=by
 have p:aH xs x.Id=(x.F,true):=by
  have:∀ (l:List au),(l.map (·.Id)).Nodup→x∈l→aH l x.Id=(x.F,true):=by
   intro l
   induction l with
   | nil=>intro _ h;cases h
   | cons y t q=>
    intro a h
    rw[hS,List.nodup_cons] at a
    rw[kR]
    rcases hK.1 h with rfl | h
    ·rw[if_pos rfl]
    ·rw[if_neg fun e=>a.1 (hN.2 ⟨x,h,e.symm⟩)]
     exact q a.2 h
  exact this xs a hm
 have s:=vd (g:=o0 xs x.F x.Id) d.Rules m.Rules f.lr.symm
 refine⟨?_,fun i r v b c=>?_⟩
 ·unfold xw
  simp only
  rw[h.al]
  exact Ep n x.Id xs
 ·unfold xw at c
  simp only[p] at c
  obtain⟨u,w,k,a3,rfl⟩:=s.2 i v c
  rw[b] at k
  cases k
  exact Gw o a hm (f.rows i r w b a3).1 (h.rows i r w b a3)
theorem xW {α β:Type} {f:α→β→Bool}:∀ (xs:List α) (c:List β),xs.length=c.length→(∀ (i:Nat) (x:α) (y:β),xs[i]?=some x→c[i]?=some y→f x y=true)→qC f xs c=true
 | [],[],_,_=>rfl
 | [],_ :: _,h,_=>by simp at h
 | _ :: _,[],h,_=>by simp at h
 | x :: xs,y :: c,h,d=>by
  unfold qC
  rw[d 0 x y rfl rfl,xW xs c (by simpa using h) fun i a b e g=>d (i+1) a b (by simpa using e) (by simpa using g)]
  rfl
theorem K9 {d:bq} {n:cA} {m x:aY} {xs:List au} {j k:Nat} (hm:pu d n j m) (g:pu d n k x) (h:wt d n xs m) (o:wt d n xs x):EY m x=true:=by
 unfold EY
 rw[gI]
 refine⟨xW _ _ (by rw[hm.la,g.la]) fun i a b c e=>?_,xW _ _ (by rw[hm.lr,g.lr]) fun i v w c e=>?_⟩
 ·rw[h.al] at c
  rw[o.al,c] at e
  cases e
  exact decide_eq_true rfl
 ·have G:=(ha.1 c).1
  have f:d.Rules[i]?=some (d.Rules[i]'(by have:=hm.lr;omega)):=gm _
  obtain⟨p,_⟩:=hm.rows i _ v f c
  obtain⟨s,_⟩:=g.rows i _ w f e
  have u:=h.rows i _ v f c
  have y:=o.rows i _ w f e
  unfold pm
  refine xW _ _ (by rw[p,s]) fun q L M z A=>?_
  obtain⟨B,a2⟩:=u q L z
  obtain⟨C,D⟩:=y q M A
  unfold tt
  refine decide_eq_true ?_
  have form:∀ (l:List an),(∀ t∈l,t.Hits=lF xs (pos (d.Rules[i]'(by have:=hm.lr;omega)).Pats) (neg (d.Rules[i]'(by have:=hm.lr;omega)).Pats) q t.Ids)→l=(gH l).map fun r=>⟨r,lF xs (pos (d.Rules[i]'(by have:=hm.lr;omega)).Pats) (neg (d.Rules[i]'(by have:=hm.lr;omega)).Pats) q r⟩:=fun l E=>by
   unfold gH
   rw[List.map_map]
   conv=>lhs;rw[← List.map_id l]
   refine List.map_congr_left fun t F=>?_
   have:=E t F
   cases t
   simp only at this
   simp[this]
  rw[form L.Toks a2,form M.Toks D]
  exact (Has.perm B C).map _
theorem MW {d:bq} {n:cA} {nx:Int} (a:Ats n.Alphas n.Chains d.Rules):∀ (rest done:List au) (m:aY),done.length+rest.length≤40→((done++rest).map (·.Id)).Nodup→pu d n done.length m→wt d n done m→wt d n (done++rest) (wc d n nx done rest m)
 | [],done,m,_,_,b,h=>by simpa[wc] using h
 | x :: t,done,m,e,c,b,h=>by
  simp only[gj] at e
  have f:((done++[x]).map (·.Id)).Nodup:=by
   refine List.Nodup.sublist (List.Sublist.map _ ?_) c
   simp
  have h1:=vN (s:=⟨done++[x],nx⟩) (id:=x.Id) OY (by simp;omega) a.len b
  have g:=IJ (nx:=nx) OY f a b h
  have:=MW (nx:=nx) a t (done++[x]) _ (by simp;omega) (by simpa using c) (by simpa using h1) g
  unfold wc
  simpa using this
theorem KU {d:bq} {n:cA}:wt d n [] (lH n):=by
 unfold lH
 refine⟨?_,fun i r w g a=>?_⟩
 ·unfold qg
  refine List.ext_getElem OZ fun i h1 h=>by simp
 ·simp only[nt,vy] at a
  obtain⟨c,j,rfl⟩:=a
  intro k L b
  simp only[rK] at b
  obtain⟨_,e⟩:=ha.1 b
  rw[Pg] at e
  subst e
  refine⟨⟨by simp[gH],fun q=>?_⟩,OZ⟩
  simp only[gH,qa,List.not_mem_nil,false_iff,not_and]
  intro f hk
  have:=l9 _ _ _ hk
  cases q with
  | nil=>simp at f
  | cons v q=>
   have:=this v OZ
   simp[aH] at this
theorem L9 {nx:Int}:∀ (t done:List au),m5 nx done t=true→(done.Pairwise fun a b=>a.Id < b.Id)→(done++t).Pairwise fun a b=>a.Id < b.Id
 | [],done,_,h=>by simpa using h
 | x :: t,done,e,h=>by
  unfold m5 at e
  simp only[gI] at e
  have d:=e.2.1
  have g:(done++[x]).Pairwise fun a b=>a.Id < b.Id:=by
   rw[n0]
   refine⟨h,OZ,fun a c b f=>?_⟩
   simp only[hY] at f
   subst f
   unfold ip at d
   rcases Pk done with rfl | ⟨q,y,rfl⟩
   ·cases c
   ·rw[Pm] at c d h
    rw[Pj] at d
    have d:=of_decide_eq_true d
    rcases gh.1 c with c | c
    ·have:=(n0.1 h).2.2 a c y OZ
     omega
    ·simp only[hY] at c
     subst c;exact d
  have:=L9 t (done++[x]) e.2.2.2 g
  simpa using this
theorem Aj {s:af} (h:iD s=true):(s.Items.map (·.Id)).Nodup:=by
 unfold iD at h
 simp only[gI] at h
 have:=L9 s.Items [] h.2.2 OZ
 rw[ho] at this
 unfold List.Nodup
 rw[List.pairwise_map]
 exact this.imp fun h=>by omega
theorem yn {nx:Int} {l:List au} (h:pr nx l):(l.map (·.Id)).Nodup:=by
 unfold List.Nodup
 rw[List.pairwise_map]
 exact h.2.2.2.imp fun {a b} q e=>by have:=q.1;omega
theorem E0 {nx:Int} {l:List au} (h:pr nx l):sE l:=h.2.2.2.imp fun q=>q.1
theorem Em {s:af} (h:pr s.Next s.Items) (d:s.Next≤40):iD s=true:=by
 obtain⟨a,e,b,c⟩:=h
 unfold iD
 rw[decide_eq_true a,decide_eq_true (show s.Next≤1000000 by omega),decide_eq_true (show s.Items.length≤40 by omega),CR s.Items [] b (by simpa using c)];rfl
theorem DI {N:Nat} (m:1099000000000≤N) (l:List au) (nx:Int) (f:aL) (i:tC f) (h:pr nx l) (s:nx≤100) (t:zW l f=0) (u:l.length < 40):mR N ⟨l,nx⟩ f=some (nx,⟨l++[⟨nx,f⟩],nx+1⟩)∧pr (nx+1) (l++[⟨nx,f⟩]):=by
 obtain⟨h1,v,d,n⟩:=h
 have o:=fun x c=>(d x c).2.2.2.1
 unfold mR
 rw[E6 m ⟨l,nx⟩ f (by show l.length≤_;omega) (fun x c=>by have:=o x c;omega)]
 simp only[gb]
 have hp : ¬ 0 < zW l f:=by omega
 simp only[hp,decide_false,gf,if_false]
 have p:∀ x∈l,x.F≠f:=by
  intro x c e
  apply hp
  unfold zW
  cases g:l.find? (fun x=>decide (x.F=f)) with
  | none=>
   rw[P7] at g
   have:=g x c
   simp[e] at this
  | some y=>
   have:=(d y (D0 g)).1
   simp only;omega
 have q : ¬ (40:Int)≤(l.length:Int):=by omega
 have hm : ¬ (1000000:Int)≤nx:=by omega
 simp only[q,hm,decide_false,gf,if_false,gb]
 have r:kF N f=some f:=by
  unfold kF
  rw[gR (show f.Fields.length≤4294967296 by have:=i.2.1;omega)];rfl
 simp only[r,gb,cg (show l.length+[(⟨nx,f⟩:au)].length≤4294967296 by simp;omega)]
 rw[wr (show -9223372036854775808≤nx+1 by omega) OY,wr (show -9223372036854775808≤nx+1 - 1 by omega) OY,show nx+1 - 1=nx by omega]
 refine⟨rfl,OY,by simp;omega,?_,?_⟩
 ·refine qj (fun x c=>?_) ⟨OY,by simp only;omega,i⟩
  have:=d x c
  exact⟨this.1,OY,this.2.2⟩
 ·refine n0.2 ⟨n,OZ,fun a j b k=>?_⟩
  simp at k;subst k
  exact⟨(d a j).2.1,p a j⟩
structure MX (b:List Int) (B:Int) (d:bq) (m:aY) (s:af) (c:ab):Prop where
 g:GC b c
 def_:CZ d
 mem:∃ j:Nat,(j:Int)≤B∧pu d (cS d) j m
 nx:s.Next≤B+1
 it:pr s.Next s.Items
 has:wt d (cS d) s.Items m
theorem MN {N:Nat} (a:1099000000000≤N) {b:List Int} (r:b.length≤1048576) {c:ab} (g:GC b c):∃ d m s p,ou N c=some (d,cS d,m,s,p)∧MX b 9 d m s p:=by
 unfold ou
 obtain⟨d,c1,V,g1,A⟩:=Nc a r g
 have B:=CO A
 have Q:=CQ (Dp A)
 have C:=nF B
 obtain⟨⟨W,z2⟩,z3,z4⟩:=tp C
 have D:=(ud C).2.1
 have X:=yL D
 have Y:wt d (cS d) [] (lH (cS d)):=KU
 obtain⟨v,c2,Z,g2,hv⟩:=mO (N:=N) r (g1.at (c:=c) g.1) 10 OY
 simp only[V,gb,NH a d C,I3 a (cS d) W z3 (fun c hc=>(z4 c hc).1),Z]
 have lp:∀ (n:Nat) (m:aY) (l:List au) (k x h nx:Int) (j:Nat),0≤k→k < n→(j:Int)+k≤9→nx+k≤10→pu d (cS d) j m→wt d (cS d) l m→pr nx l→GC b ⟨c.b,x,h⟩ →
   ∃ R s p,fT N c (d,c1) (cS d) n m.Alphas m.Rules l k x h nx=some (d,cS d,R,s,p)∧MX b 9 d R s p:=by
  intro n
  induction n with
  | zero=>intro m l k x h nx j h0 h1;omega
  | succ n E=>
   intro m l k x h nx j h0 h1 h2 h3 hm u o F
   simp only[fT]
   by_cases hk:0 < k
   ·have G:decide (0 < k)=true:=decide_eq_true hk
    have hlen:=o.2.1
    have S:=xB o
    obtain⟨q,e,e3,ge,-⟩:=tO (N:=N) r F 4
    have z:=ge.at (c:=⟨c.b,x,h⟩) F.1
    simp only[G,if_true,e3,gb]
    by_cases T:q=true∧0 < l.length
    ·have H:(if q=true then some (decide (0 < (l.length:Int))) else some false)=some true:=by
      rw[T.1,decide_eq_true (show (0:Int) < (l.length:Int) by omega)];rfl
     obtain⟨w,e4,I,K,hw⟩:=mO (N:=N) r z (l.length:Int) OY
     obtain⟨i,rfl⟩:∃ i:Nat,w=(i:Int):=⟨w.toNat,OY⟩
     obtain⟨q',L⟩:=Lk a ⟨l,nx⟩ l[i].Id (show l.length≤1048576 by omega)
     have ok:=Ga (s:=⟨l,nx⟩) (id:=l[i].Id) B Q (show l.length≤40 by omega) (fun y t=>by have:=S y t;omega) OY hm
     have M:=Ki a d m ⟨l,nx⟩ l[i].Id ok
     simp only[H,gb,if_true,I,ag (show i < l.length by omega),show (⟨m.Alphas,m.Rules⟩:aY)=m from rfl,M,L,wrm hk (show k≤4611686018427387904 by omega)]
     have a7:=ql (fun x:au=>!decide (x.Id=l[i].Id)) l
     exact E (xw d m ⟨l,nx⟩ l[i].Id) (l.filter fun x=>!decide (x.Id=l[i].Id)) (k - 1) _ _ nx j OY OY OY OY (Gd hm) (Ke (x:=l[i]) (show l.length≤1048576 by omega) (yn o) (hB (show i < l.length by omega)) hm u) ⟨o.1,OY,fun y t=>o.2.2.1 y (p5.1 t).1,o.2.2.2.filter _⟩ (K.at (c:=⟨c.b,e.i,e.h⟩) z.1)
    ·have H:(if q=true then some (decide (0 < (l.length:Int))) else some false)=some false:=by
      cases q with
      | false=>rfl
      | true=>
       have : ¬ 0 < l.length:=fun h=>T ⟨rfl,h⟩
       rw[decide_eq_false (show ¬ (0:Int) < (l.length:Int) by omega)];rfl
     obtain⟨f,e4,I,K,hf⟩:=Li a r z
     have U:=K.at (c:=⟨c.b,e.i,e.h⟩) z.1
     simp only[H,gb,gf,if_false,I,E6 a ⟨l,nx⟩ f (by show l.length≤_;omega) (fun x hx=>by have:=S x hx;omega)]
     by_cases O:zW l f=0
     ·obtain⟨L,P⟩:=DI a l nx f hf o OY O OY
      have a1:=xB P
      have a8:(l++[(⟨nx,f⟩:au)]).length=l.length+1:=by simp
      have ok:=zC (s:=⟨l++[⟨nx,f⟩],nx+1⟩) (id:=nx) B Q (show (l++[(⟨nx,f⟩:au)]).length≤40 by omega) (fun y t=>by have:=a1 y t;omega) OY hm
      have M:=NT a d (cS d) m ⟨l++[⟨nx,f⟩],nx+1⟩ nx ok
      have a6:=yn P
      simp only[O,decide_true,if_true,L,gb,show (⟨m.Alphas,m.Rules⟩:aY)=m from rfl,M,wrm hk (show k≤4611686018427387904 by omega)]
      exact E (A8 d (cS d) m ⟨l++[⟨nx,f⟩],nx+1⟩ nx) (l++[⟨nx,f⟩]) (k - 1) _ _ (nx+1) (j+1) OY OY OY OY (vN OY (show (l++[(⟨nx,f⟩:au)]).length≤1048576 by omega) D.len hm) (IJ (x:=⟨nx,f⟩) OY a6 D hm u) P U
     ·simp only[O,decide_false,gf,if_false,wrm hk (show k≤4611686018427387904 by omega)]
      exact E m l (k - 1) _ _ nx j OY OY OY OY hm u o U
   ·have G:decide (0 < k)=false:=decide_eq_false hk
    simp only[G,gf,if_false]
    exact⟨m,⟨l,nx⟩,_,rfl,F,A,⟨j,OY,hm⟩,by show nx≤_;omega,o,u⟩
 obtain⟨m,s,p,e9,h9⟩:=lp N (lH (cS d)) [] v c2.i c2.h 1 0 hv.1 OY OY OY X Y ⟨OY,OZ,OZ,OZ⟩ (g2.at (c:=⟨c.b,c1.i,c1.h⟩) g.1)
 exact⟨d,m,s,p,e9,h9⟩
theorem OA {N:Nat} (x y:List Int) (f:x.length=y.length) (hm:x.length≤1048576):∀ n i:Nat,i≤x.length→x.length - i < n→∃ c,bM N x y n i=some c∧decide (c < 0)=jy (x.drop i) (y.drop i):=by
 intro n
 induction n with
 | zero=>intro i _ h;omega
 | succ n e=>
  intro i g j
  simp only[bM]
  by_cases b:i < x.length
  ·have d:i < y.length:=by omega
   have c1:decide ((i:Int) < (x.length:Int))=true:=decide_eq_true OY
   have c2:decide ((y.length:Int)≤(i:Int))=false:=decide_eq_false OY
   rw[hn b,hn d,jy]
   simp only[c1,c2,if_true,gf,if_false,ag b,ag d,gb,Bw,wr1 i OY]
   by_cases he:x[i]=y[i]
   ·have a:cmp y[i] y[i]=0:=by unfold cmp;simp
    simp only[a,he,decide_true,hC,gf,if_false,if_true]
    exact e (i+1) OY OY
   ·have a:cmp x[i] y[i]≠0:=by unfold cmp;split <;> (try split) <;> omega
    simp only[a,he,decide_false,hG,if_true,if_false]
    refine⟨_,rfl,?_⟩
    rw[decide_eq_decide]
    unfold cmp;split <;> (try split) <;> omega
  ·have c1:decide ((i:Int) < (x.length:Int))=false:=decide_eq_false OY
   have c2:decide ((x.length:Int) < (y.length:Int))=false:=decide_eq_false OY
   simp only[c1,c2,gf,if_false]
   rw[hy OY,hy OY]
   exact⟨0,rfl,rfl⟩
theorem N1 {N:Nat} (d:1048578≤N) (x y:List Int) (f:x.length≤1048576):co N x y=some (decide (x=y)):=by
 unfold co
 by_cases c:x.length=y.length
 ·rw[if_neg (by simp;omega)]
  refine (rq (cW N x y) x y c OY (fun a b=>some (decide (a=b))) (fun a _ b _=>rfl) (fun k i=>rfl) N 0 OY OY).trans ?_
  simp
 ·rw[if_pos (by simp;omega)]
  have : ¬ x=y:=fun e=>c (by rw[e])
  simp[this]
def uw (x y:a7):Bool:=decide (x.Rule=y.Rule) && decide (x.Ids=y.Ids)
theorem LZ {N:Nat} (a:1048578≤N) (x y:a7) (h:x.Ids.length≤1048576):lM N x y=some (uw x y):=by
 unfold lM uw
 simp only[N1 a _ _ h,gb,mL]
theorem DD (x y:a7):(mK x y || mK y x) = !uw x y:=by
 unfold mK uw
 by_cases b:x.Rule=y.Rule
 ·by_cases a:x.Ids.length=y.Ids.length
  ·simp only[b,a,if_true,decide_true,hI];exact EG _ _ a
  ·have c : ¬ y.Ids.length=x.Ids.length:=fun e=>a e.symm
   have d : ¬ x.Ids=y.Ids:=fun e=>a (by rw[e])
   simp only[b,a,c,d,if_true,if_false,decide_true,decide_false,hI,hG]
   rw[← Bool.decide_or,decide_eq_true_eq];omega
 ·have f : ¬ y.Rule=x.Rule:=fun e=>b e.symm
  simp only[b,f,if_false,decide_false,Bool.false_and,hG]
  rw[← Bool.decide_or,decide_eq_true_eq];omega
variable {α:Type}
structure vr (lt:α→α→Bool):Prop where
 asymm:∀ a b,lt a b=true→lt b a=false
 trans:∀ a b c,lt b a=false→lt c b=false→lt c a=false
abbrev Srt (lt:α→α→Bool) (l:List α):Prop:=l.Pairwise fun a b=>lt b a=false
variable {lt:α→α→Bool}
theorem vr.irr (h:vr lt) (a:α):lt a a=false:=by
 cases e:lt a a with
 | false=>rfl
 | true=>rw[h.asymm a a e] at e;cases e
theorem Srt.last (h:vr lt) {l:List α} (f:Srt lt l) {y z:α} (a:l[l.length - 1]?=some z) (b:lt y z=false):∀ x∈l,lt y x=false:=by
 intro x g
 obtain⟨i,d,rfl⟩:=y3 g
 by_cases c:i=l.length - 1
 ·subst c
  rw[gm d] at a
  cases a
  exact b
 ·have e:l.length - 1 < l.length:=by omega
  rw[gm e] at a
  cases a
  exact h.trans _ _ _ (Po.1 f i (l.length - 1) d e OY) b
theorem Srt.first (h:vr lt) {l:List α} (f:Srt lt l) {y z:α} (a:l[0]?=some z) (b:lt z y=false):∀ x∈l,lt x y=false:=by
 intro x g
 obtain⟨i,d,rfl⟩:=y3 g
 by_cases c:i=0
 ·subst c
  rw[gm d] at a
  cases a
  exact b
 ·have e:0 < l.length:=by omega
  rw[gm e] at a
  cases a
  exact h.trans _ _ _ b (Po.1 f 0 i e d OY)
theorem IC (h:vr lt) {X Y:List α} (q:Srt lt X) (r:Srt lt Y) {s t:Nat} (I:s≤X.length) (K:t≤Y.length)
  (h1:∀ x y,1≤s→X[s - 1]?=some x→Y[t]?=some y→lt y x=false) (u:∀ x y,1≤t→Y[t - 1]?=some y→X[s]?=some x→lt x y=false)
  {Z1 Z2:List α} (s1:Srt lt Z1) (o:Z1.Perm (X.take s++Y.take t)) (s2:Srt lt Z2) (p:Z2.Perm (X.drop s++Y.drop t)) :
  Srt lt (Z1++Z2)∧(Z1++Z2).Perm (X++Y):=by
 have v:Srt lt (X.take s++X.drop s):=by rw[l3];exact q
 have w:Srt lt (Y.take t++Y.drop t):=by rw[l3];exact r
 obtain⟨z,A,B⟩:=n0.1 v
 obtain⟨C,D,E⟩:=n0.1 w
 have F:∀ x∈X.take s,∀ y∈Y.drop t,lt y x=false:=by
  intro x f y g
  have ls:(X.take s).length=s:=by simp;omega
  have i:1≤s:=by
   have:=w2 f
   omega
  have j:t < Y.length:=by
   have:=w2 g
   simp at this;omega
  have k:(X.take s)[(X.take s).length - 1]?=some (X[s - 1]'OY):=by
   rw[ls,hV,if_pos OY,gm]
  have l:(Y.drop t)[0]?=some (Y[t]'j):=by
   rw[jf,l4,gm]
  have m:=h1 _ _ i (gm OY) (gm j)
  have n:=Srt.first h D l m y g
  exact Srt.last h z k n x f
 have a2:∀ y∈Y.take t,∀ x∈X.drop s,lt x y=false:=by
  intro y g x f
  have G:(Y.take t).length=t:=by simp;omega
  have j:1≤t:=by
   have:=w2 g
   omega
  have i:s < X.length:=by
   have:=w2 f
   simp at this;omega
  have k:(Y.take t)[(Y.take t).length - 1]?=some (Y[t - 1]'OY):=by
   rw[G,hV,if_pos OY,gm]
  have l:(X.drop s)[0]?=some (X[s]'i):=by
   rw[jf,l4,gm]
  have m:=u _ _ j (gm OY) (gm i)
  have n:=Srt.first h A l m x f
  exact Srt.last h C k n y g
 refine⟨n0.2 ⟨s1,s2,fun a c b d=>?_⟩,?_⟩
 ·rcases gh.1 (o.mem_iff.1 c) with c | c <;> rcases gh.1 (p.mem_iff.1 d) with d | d
  ·exact B a c b d
  ·exact F a c b d
  ·exact a2 a c b d
  ·exact E a c b d
 ·have e:(X++Y).Perm ((X.take s++Y.take t)++(X.drop s++Y.drop t)):=by
   have H:X++Y=(X.take s++X.drop s)++(Y.take t++Y.drop t):=by rw[l3,l3]
   rw[H]
   simp only[gi]
   refine List.Perm.append_left _ ?_
   rw[← gi,← gi]
   exact List.Perm.append_right _ q4
  exact (o.append p).trans e.symm
theorem Hm (h:vr lt) {x:α} {Y:List α} (j:Srt lt Y) {k:Nat} (hk:k≤Y.length) (h1:∀ y,1≤k→Y[k - 1]?=some y→lt x y=false) (l:∀ y,Y[k]?=some y→lt y x=false) :
  Srt lt (Y.take k++x :: Y.drop k)∧(Y.take k++x :: Y.drop k).Perm (x :: Y):=by
 have m:Srt lt (Y.take k++Y.drop k):=by rw[l3];exact j
 obtain⟨f,g,n⟩:=n0.1 m
 have lk:(Y.take k).length=k:=by simp;omega
 refine⟨n0.2 ⟨f,oj.2 ⟨fun y i=>?_,g⟩,fun a c b d=>?_⟩,?_⟩
 ·have e:k < Y.length:=by
   have:=w2 i
   simp at this;omega
  exact Srt.first h g (z:=Y[k]) (by rw[jf,l4,gm]) (l _ (gm e)) y i
 ·rcases hK.1 d with rfl | d
  ·have e:1≤k:=by
    have:=w2 c
    omega
   exact Srt.last h f (z:=Y[k - 1]'OY) (by rw[lk,hV,if_pos OY,gm]) (h1 _ e (gm OY)) a c
  ·exact n a c b d
 ·have:(Y.take k++x :: Y.drop k).Perm (x :: (Y.take k++Y.drop k)):=ti
  rwa [l3] at this
def swp (l:List α) (i j:Nat):List α:=match l[i]?,l[j]? with
 | some x,some y=>(l.set i y).set j x
 | _,_=>l
theorem Ir {P Q R:List α} {x y:α}:swp (P++x :: (Q++y :: R)) P.length (P.length+1+Q.length)=P++y :: (Q++x :: R):=by
 unfold swp
 have a:(P++x :: (Q++y :: R))[P.length]?=some x:=by simp
 have b:(P++x :: (Q++y :: R))[P.length+1+Q.length]?=some y:=by
  rw[mx OY,show P.length+1+Q.length - P.length=Q.length+1 by omega,P6]
  simp
 rw[a,b]
 simp only
 rw[ry _ _ OY,x0,O2,ry _ _ OY,show P.length+1+Q.length - P.length=Q.length+1 by omega,List.set_cons_succ,ry _ _ OY,x0,O2]
def sD (l:List α) (a b:Nat):Nat→Nat→List α
 | _,0=>l
 | k,n+1=>sD (swp l (a+k) (b+k)) a b (k+1) n
theorem FO:∀ (U V a b:List α) {P M Q:List α},U.length=V.length→a.length=b.length →
  sD (P++b++U++M++a++V++Q) P.length (P.length+b.length+U.length+M.length) a.length U.length=P++b++V++M++a++U++Q
 | [],[],a,b,P,M,Q,_,_=>by simp[sD]
 | u :: U,v :: V,a,b,P,M,Q,h,d=>by
  simp only[gj] at h
  have e:swp (P++b++(u :: U)++M++a++(v :: V)++Q) (P.length+a.length) (P.length+b.length+(U.length+1)+M.length+a.length)=P++b++(v :: U)++M++a++(u :: V)++Q:=by
   have:=Ir (P:=P++b) (Q:=U++M++a) (R:=V++Q) (x:=u) (y:=v)
   simp only[gi,hL,gk] at this ⊢
   rw[d]
   rw[← this]
   congr 1
   omega
  show sD (swp _ (P.length+a.length) _) _ _ (a.length+1) U.length=_
  simp only[gj]
  rw[e]
  have c:=FO U V (a++[u]) (b++[v]) (P:=P) (M:=M) (Q:=Q) OY (by simp;omega)
  simp only[gi,hL,ho,gk,gj,gx] at c ⊢
  rw[show P.length+b.length+(U.length+1)+M.length=P.length+(b.length+(0+1))+U.length+M.length by omega,show a.length+1=a.length+(0+1) by omega]
  exact c
 | [],v :: V,_,_,_,_,_,h,_=>by simp at h
 | u :: U,[],_,_,_,_,_,h,_=>by simp at h
theorem BK {U V P M Q:List α} (h:U.length=V.length):sD (P++U++M++V++Q) P.length (P.length+U.length+M.length) 0 U.length=P++V++M++U++Q:=by
 have:=FO U V [] [] (P:=P) (M:=M) (Q:=Q) h rfl
 simpa using this
def rot (l:List α) (m:Nat):Nat→Nat→Nat→List α
 | 0,_,_=>l
 | f+1,i,j=>if i=j then sD l (m - i) m 0 i else if j < i then rot (sD l (m - i) m 0 j) m f (i - j) j else rot (sD l (m - i) (m+j - i) 0 i) m f i (j - i)
theorem DZ:∀ (f:Nat) (U V P Q:List α),0 < U.length→0 < V.length→U.length+V.length≤f→rot (P++U++V++Q) (P.length+U.length) f U.length V.length=P++V++U++Q
 | 0,U,V,P,Q,h1,l,j=>by omega
 | f+1,U,V,P,Q,h1,l,j=>by
  unfold rot
  by_cases c:U.length=V.length
  ·rw[if_pos c]
   have:=BK (P:=P) (M:=[]) (Q:=Q) c
   simp only[j5,gx,l4] at this
   rw[y1]
   exact this
  ·rw[if_neg c]
   by_cases c2:V.length < U.length
   ·rw[if_pos c2,y1]
    -- the first of U changes with V
    obtain⟨g,a,rfl,h⟩:∃ g a,U=g++a∧g.length=V.length:=⟨U.take V.length,U.drop V.length,OZ,by simp;omega⟩
    simp only[gk] at j c2 ⊢
    have e:=BK (P:=P) (M:=a) (Q:=Q) h
    rw[h] at e
    have k:sD (P++(g++a)++V++Q) P.length (P.length+(g.length+a.length)) 0 V.length=P++V++a++g++Q:=by
     rw[← e,h]
     simp only[gi,Gs]
    rw[k]
    have i:=DZ f a g (P++V) Q OY OY OY
    rw[show g.length+a.length - V.length=a.length by omega]
    rw[gk] at i
    rw[show P.length+(g.length+a.length)=P.length+V.length+a.length by omega,← h]
    rw[← h] at i
    rw[i]
    simp only[gi]
   ·rw[if_neg c2,y1]
    obtain⟨b,d,rfl,h⟩:∃ b d,V=b++d∧d.length=U.length:=⟨V.take (V.length - U.length),V.drop (V.length - U.length),OZ,by simp;omega⟩
    simp only[gk] at j c c2 ⊢
    have e:=BK (U:=U) (V:=d) (P:=P) (M:=b) (Q:=Q) h.symm
    have k:sD (P++U++(b++d)++Q) P.length (P.length+U.length+(b.length+d.length) - U.length) 0 U.length=P++d++b++U++Q:=by
     rw[← e,show P.length+U.length+(b.length+d.length) - U.length=P.length+U.length+b.length by omega]
     simp only[gi]
    rw[k]
    have i:=DZ f d b P (U++Q) OY OY OY
    rw[show b.length+d.length - U.length=b.length by omega,← h]
    simp only[gi] at i ⊢
    exact i
theorem Hw {N:Nat} (g:1048578≤N) (x y:a7) (h:x.Ids.length≤1048576):∃ v,eu N x y=some v∧mK x y=decide (v < 0):=by
 unfold eu mK dd
 simp only[Bw,gb,KT g]
 by_cases d:x.Rule=y.Rule
 ·have a:cmp x.Rule y.Rule=0:=by unfold cmp;rw[d];simp
  rw[if_pos d,if_pos a]
  by_cases b:x.Ids.length=y.Ids.length
  ·have e:cmp (x.Ids.length:Int) (y.Ids.length:Int)=0:=by unfold cmp;rw[b];simp
   obtain⟨c,h1,f⟩:=OA (N:=N) x.Ids y.Ids b h N 0 OY OY
   simp only[hQ] at f
   rw[show ((0:Nat):Int)=0 from rfl] at h1
   rw[if_pos b,e]
   simp only[decide_true,if_true,h1,gb]
   exact⟨c,rfl,f.symm⟩
  ·have e:cmp (x.Ids.length:Int) (y.Ids.length:Int)≠0:=by unfold cmp;split <;> (try split) <;> omega
   rw[if_neg b]
   simp only[e,decide_false,gf,if_false]
   refine⟨_,rfl,?_⟩
   rw[decide_eq_decide]
   unfold cmp;split <;> (try split) <;> omega
 ·have a:cmp x.Rule y.Rule≠0:=by unfold cmp;split <;> (try split) <;> omega
  rw[if_neg d,if_neg a]
  simp only[a,decide_false,gf,if_false]
  refine⟨_,rfl,?_⟩
  rw[decide_eq_decide]
  unfold cmp;split <;> (try split) <;> omega
theorem Ca {x y z:a7} (h:uw x y=true):mK x z=mK y z∧mK z x=mK z y:=by
 unfold uw at h
 simp only[gI,decide_eq_true_eq] at h
 unfold mK
 rw[h.1,h.2]
 exact⟨rfl,rfl⟩
theorem xd:vr mK:=by
 refine⟨fun a b h=>?_,fun a b c h1 g=>?_⟩
 ·have:=FY a b
  rw[h,hI] at this;exact this
 ·cases e:mK c a with
  | false=>rfl
  | true=>
   have d:=DD c b
   rw[g,Bool.false_or] at d
   cases f:uw c b with
   | true=>
    have:=(Ca f (z:=a)).1
    rw[e] at this;rw[← this] at h1;cases h1
   | false=>
    rw[f] at d
    have:=DO d e
    rw[h1] at this;cases this
variable {α:Type} {lt:α→α→Bool}
def bsr (ask:Nat→Bool):Nat→Nat→Nat→Nat
 | 0,i,_=>i
 | f+1,i,j=>if i < j then (if ask ((i+j) / 2)=true then bsr ask f ((i+j) / 2+1) j else bsr ask f i ((i+j) / 2)) else i
theorem zn (ask:Nat→Bool) (lo a:Nat):∀ (f i j:Nat),lo≤i→i≤j→j≤a→j - i < f→(i=lo∨ask (i - 1)=true)→(j=a∨ask j=false) →
  lo≤bsr ask f i j∧bsr ask f i j≤a∧(bsr ask f i j=lo∨ask (bsr ask f i j - 1)=true)∧(bsr ask f i j=a∨ask (bsr ask f i j)=false)
 | 0,i,j,_,_,_,h,_,_=>by omega
 | f+1,i,j,h1,k,b,l,d,g=>by
  unfold bsr
  by_cases c:i < j
  ·rw[if_pos c]
   cases e:ask ((i+j) / 2) with
   | true=>
    rw[if_pos rfl]
    exact zn ask lo a f _ j OY OY b OY (.inr (by rw[y1];exact e)) g
   | false=>
    rw[if_neg OZ]
    exact zn ask lo a f i _ h1 OY OY OY d (.inr e)
  ·rw[if_neg c]
   have:i=j:=by omega
   subst this
   exact⟨h1,b,d,g⟩
def uy (lt:α→α→Bool) (l:List α) (i j:Nat):Bool:=match l[i]?,l[j]? with
 | some x,some y=>lt x y
 | _,_=>false
theorem mD {l:List α} {i j:Nat} {x y:α} (h1:l[i]?=some x) (a:l[j]?=some y):uy lt l i j=lt x y:=by
 unfold uy;rw[h1,a]
def shR (l:List α):Nat→Nat→List α
 | _,0=>l
 | k,n+1=>shR (swp l k (k+1)) (k+1) n
def shL (l:List α):Nat→Nat→List α
 | _,0=>l
 | k,n+1=>shL (swp l (k - 1) k) (k - 1) n
theorem BD {P Q:List α} {x y:α}:swp (P++x :: y :: Q) P.length (P.length+1)=P++y :: x :: Q:=by
 have:=Ir (P:=P) (Q:=[]) (R:=Q) (x:=x) (y:=y)
 simpa using this
theorem I9:∀ (U P Q:List α) (x:α),shR (P++x :: (U++Q)) P.length U.length=P++U++x :: Q
 | [],P,Q,x=>by simp[shR]
 | u :: U,P,Q,x=>by
  show shR (swp (P++x :: u :: (U++Q)) P.length (P.length+1)) (P.length+1) U.length=_
  rw[BD]
  have:=I9 U (P++[u]) Q x
  simp only[gi,hL,ho,gk,gj,gx] at this ⊢
  exact this
theorem I8:∀ (n:Nat) (U P Q:List α) (x:α),U.length=n→shL (P++U++x :: Q) (P.length+n) n=P++x :: (U++Q)
 | 0,U,P,Q,x,h=>by
  have:U=[]:=qo.1 h
  subst this;simp[shL]
 | n+1,U,P,Q,x,h=>by
  have a:U≠[]:=by rintro rfl;simp at h
  obtain⟨V,u,rfl⟩:∃ V u,U=V++[u]:=⟨U.dropLast,U.getLast a,(Pp a).symm⟩
  simp at h
  show shL (swp (P++(V++[u])++x :: Q) (P.length+(n+1) - 1) (P.length+(n+1))) (P.length+(n+1) - 1) n=_
  have e:=BD (P:=P++V) (Q:=Q) (x:=u) (y:=x)
  simp only[gi,hL,ho,gk,h] at e ⊢
  rw[show P.length+(n+1) - 1=P.length+n by omega,show P.length+(n+1)=P.length+n+1 by omega,e]
  have b:=I8 n V P (u :: Q) x h
  simp only[gi,hL] at b
  exact b
def nO (lt:α→α→Bool):Nat→List α→Nat→Nat→Nat→List α
 | 0,l,_,_,_=>l
 | f+1,l,a,m,b=>
  if m - a=1 then
   let i:=bsr (fun h=>uy lt l h a) (b - m+1) m b
   shR l a (i - 1 - a)
  else if b - m=1 then
   let i:=bsr (fun h=>!uy lt l m h) (m - a+1) a m
   shL l m (m - i)
  else
   let mid:=(a+b) / 2
   let n:=mid+m
   let s0:=if mid < m then n - b else a
   let r0:=if mid < m then mid else m
   let s:=bsr (fun c=>!uy lt l (n - 1 - c) c) (r0 - s0+1) s0 r0
   let e:=n - s
   let l1:=if s < m∧m < e then rot l m (e - s) (m - s) (e - m) else l
   let l2:=if a < s∧s < mid then nO lt f l1 a s mid else l1
   if mid < e∧e < b then nO lt f l2 mid e b else l2
theorem Jx {P X R:List α} {c:Nat} (h:c < X.length):(P++(X++R))[P.length+c]?=X[c]?:=by
 rw[mx OY,P9,oi h]
theorem JG {P X Y Q:List α} {c:Nat} (h:c < Y.length):(P++(X++(Y++Q)))[P.length+X.length+c]?=Y[c]?:=by
 rw[mx OY,mx OY,show P.length+X.length+c - P.length - X.length=c by omega,oi h]
theorem xR (h:vr lt):∀ (f:Nat) (X Y P Q:List α),Srt lt X→Srt lt Y→0 < X.length→0 < Y.length→X.length+Y.length≤f →
  ∃ Z,nO lt f (P++(X++(Y++Q))) P.length (P.length+X.length) (P.length+X.length+Y.length)=P++(Z++Q)∧Srt lt Z∧Z.Perm (X++Y)
 | 0,X,Y,P,Q,_,_,h1,S,T=>by omega
 | f+1,X,Y,P,Q,u,v,h1,S,T=>by
  unfold nO
  by_cases c1:P.length+X.length - P.length=1
  ·rw[if_pos c1]
   have j:X.length=1:=by omega
   obtain⟨x,rfl⟩:∃ x,X=[x]:=Pq.1 j
   simp only[gj,gx]
   obtain⟨n,o,a,b⟩:=zn (fun h=>uy lt (P++([x]++(Y++Q))) h P.length) (P.length+(0+1)) (P.length+(0+1)+Y.length) (P.length+(0+1)+Y.length - (P.length+(0+1))+1) (P.length+(0+1)) (P.length+(0+1)+Y.length)
    (hz _) OY (hz _) OY (.inl rfl) (.inl rfl)
   generalize e:bsr (fun h=>uy lt (P++([x]++(Y++Q))) h P.length) (P.length+(0+1)+Y.length - (P.length+(0+1))+1) (P.length+(0+1)) (P.length+(0+1)+Y.length)=i at n o a b
   obtain⟨k,rfl⟩:∃ k,i=P.length+1+k:=⟨i - (P.length+1),OY⟩
   have hk:k≤Y.length:=by omega
   have p:(P++([x]++(Y++Q)))[P.length]?=some x:=by simp
   have F:∀ c,c < Y.length→(P++([x]++(Y++Q)))[P.length+1+c]?=Y[c]?:=fun c U=>JG (X:=[x]) U
   obtain⟨q,r⟩:=Hm h (x:=x) v hk (fun y V l=>by
    rcases a with a | a
    ·omega
    ·have g:(P++([x]++(Y++Q)))[P.length+1+k - 1]?=some y:=by
      rw[show P.length+1+k - 1=P.length+1+(k - 1) by omega,F _ OY];exact l
     rw[mD g p] at a
     exact h.asymm _ _ a) (fun y l=>by
    have w:=(ha.1 l).1
    rcases b with b | b
    ·omega
    ·rw[mD (by rw[F _ w];exact l) p] at b
     exact b)
   refine⟨_,?_,q,by simpa using r⟩
   have:=I9 (Y.take k) P (Y.drop k++Q) x
   rw[← gi (Y.take k),l3] at this
   have z:(Y.take k).length=k:=by simp;omega
   rw[z] at this
   rw[show P.length+1+k - 1 - P.length=k by omega]
   simp only[hL,ho,gi] at this ⊢
   exact this
  rw[if_neg c1]
  by_cases c2:P.length+X.length+Y.length - (P.length+X.length)=1
  ·rw[if_pos c2]
   obtain⟨y,rfl⟩:∃ y,Y=[y]:=Pq.1 OY
   obtain⟨n,o,a,b⟩:=zn (fun h=>!uy lt (P++(X++([y]++Q))) (P.length+X.length) h) P.length (P.length+X.length) (P.length+X.length - P.length+1) P.length (P.length+X.length)
    (hz _) OY (hz _) OY (.inl rfl) (.inl rfl)
   simp only
   generalize e:bsr (fun h=>!uy lt (P++(X++([y]++Q))) (P.length+X.length) h) (P.length+X.length - P.length+1) P.length (P.length+X.length)=i at n o a b
   obtain⟨k,rfl⟩:∃ k,i=P.length+k:=⟨i - P.length,OY⟩
   have hk:k≤X.length:=by omega
   have p:(P++(X++([y]++Q)))[P.length+X.length]?=some y:=by
    have:=JG (P:=P) (X:=X) (Y:=[y]) (Q:=Q) (c:=0) OZ
    rw[l4] at this;exact this
   obtain⟨q,r⟩:=Hm h (x:=y) u hk (fun x V j=>by
    rcases a with a | a
    ·omega
    ·have g:(P++(X++([y]++Q)))[P.length+k - 1]?=some x:=by
      rw[show P.length+k - 1=P.length+(k - 1) by omega,Jx OY];exact j
     rw[mD p g] at a
     simpa using a) (fun x j=>by
    have w:=(ha.1 j).1
    rcases b with b | b
    ·omega
    ·rw[mD p (by rw[Jx w];exact j)] at b
     exact h.asymm _ _ (by simpa using b))
   refine⟨_,?_,q,r.trans (q4 (l₁:=[y]) (l₂:=X))⟩
   have:=I8 (X.length - k) (X.drop k) (P++X.take k) Q y OZ
   have z:(X.take k).length=k:=by simp;omega
   simp only[gk,z] at this
   rw[show P.length+k+(X.length - k)=P.length+X.length by omega] at this
   rw[show P.length+X.length - (P.length+k)=X.length - k by omega]
   simp only[gi,hL,ho] at this ⊢
   rw[← gi (X.take k),l3] at this
   exact this
  rw[if_neg c2]
  have x2:2≤X.length:=by omega
  have y2:2≤Y.length:=by omega
  -- the middle, from P on
  obtain⟨d,hd⟩:∃ d,d=(X.length+Y.length) / 2:=⟨_,rfl⟩
  have W:(P.length+(P.length+X.length+Y.length)) / 2=P.length+d:=by omega
  simp only[W]
  have a1:(if P.length+d < P.length+X.length then P.length+d+(P.length+X.length) - (P.length+X.length+Y.length) else P.length)=P.length+(if d < X.length then d - Y.length else 0):=by
   by_cases c:d < X.length
   ·rw[if_pos OY,if_pos c];omega
   ·rw[if_neg OY,if_neg c];omega
  have a6:(if P.length+d < P.length+X.length then P.length+d else P.length+X.length)=P.length+(if d < X.length then d else X.length):=by
   by_cases c:d < X.length
   ·rw[if_pos OY,if_pos c]
   ·rw[if_neg OY,if_neg c]
  rw[a1,a6]
  obtain⟨lo,A⟩:∃ lo,lo=(if d < X.length then d - Y.length else 0):=⟨_,rfl⟩
  obtain⟨e,B⟩:∃ e,e=(if d < X.length then d else X.length):=⟨_,rfl⟩
  rw[← A,← B]
  have hb:lo≤e∧e≤X.length∧e≤d∧d≤lo+Y.length∧(lo=0∨lo+Y.length=d)∧(e=d∨e=X.length):=by
   by_cases c:d < X.length
   ·rw[if_pos c] at A B;omega
   ·rw[if_neg c] at A B;omega
  obtain⟨b1,b2,b3,b4,C,D⟩:=hb
  obtain⟨n,o,a,b⟩:=zn (fun c=>!uy lt (P++(X++(Y++Q))) (P.length+d+(P.length+X.length) - 1 - c) c) (P.length+lo) (P.length+e) (P.length+e - (P.length+lo)+1) (P.length+lo) (P.length+e)
   (hz _) OY (hz _) OY (.inl rfl) (.inl rfl)
  generalize ai:bsr (fun c=>!uy lt (P++(X++(Y++Q))) (P.length+d+(P.length+X.length) - 1 - c) c) (P.length+e - (P.length+lo)+1) (P.length+lo) (P.length+e)=i at n o a b
  obtain⟨s,rfl⟩:∃ s,i=P.length+s:=⟨i - P.length,OY⟩
  obtain⟨t,ht⟩:∃ t,t=d - s:=⟨_,rfl⟩
  have a7:s≤X.length∧t≤Y.length∧s+t=d:=by omega
  obtain⟨g1,g2,g3⟩:=a7
  have he:P.length+d+(P.length+X.length) - (P.length+s)=P.length+X.length+t:=by omega
  rw[he]
  -- the halves
  have H:=fun {Z1 Z2:List α}=>IC h u v g1 g2 (Z1:=Z1) (Z2:=Z2) (fun x y aj j l=>by
   have a8:=(ha.1 l).1
   rcases a with a | a
   ·rcases C with C | C <;> omega
   ·have g:(P++(X++(Y++Q)))[P.length+d+(P.length+X.length) - 1 - (P.length+s - 1)]?=some y:=by
     rw[show P.length+d+(P.length+X.length) - 1 - (P.length+s - 1)=P.length+X.length+t by omega,JG a8];exact l
    have m:(P++(X++(Y++Q)))[P.length+s - 1]?=some x:=by
     rw[show P.length+s - 1=P.length+(s - 1) by omega,Jx OY];exact j
    rw[mD g m] at a
    simpa using a) (fun x y ak l j=>by
   have aa:=(ha.1 j).1
   rcases b with b | b
   ·rcases D with D | D <;> omega
   ·have g:(P++(X++(Y++Q)))[P.length+d+(P.length+X.length) - 1 - (P.length+s)]?=some y:=by
     rw[show P.length+d+(P.length+X.length) - 1 - (P.length+s)=P.length+X.length+(t - 1) by omega,JG OY];exact l
    have m:(P++(X++(Y++Q)))[P.length+s]?=some x:=by
     rw[Jx aa];exact j
    rw[mD g m] at b
    exact h.asymm _ _ (by simpa using b))
  -- turned round
  have ab:(if P.length+s < P.length+X.length∧P.length+X.length < P.length+X.length+t then rot (P++(X++(Y++Q))) (P.length+X.length) (P.length+X.length+t - (P.length+s)) (P.length+X.length - (P.length+s)) (P.length+X.length+t - (P.length+X.length)) else P++(X++(Y++Q)))
    = P++(X.take s++(Y.take t++(X.drop s++(Y.drop t++Q)))):=by
   by_cases c:s < X.length∧0 < t
   ·rw[if_pos OY]
    have lX:(X.take s).length=s:=by simp;omega
    have lD:(X.drop s).length=X.length - s:=by simp
    have lY:(Y.take t).length=t:=by simp;omega
    have:=DZ (X.length - s+t) (X.drop s) (Y.take t) (P++X.take s) (Y.drop t++Q) OY OY OY
    simp only[gk,lX,lD,lY] at this
    rw[show P.length+X.length+t - (P.length+s)=X.length - s+t by omega,show P.length+X.length - (P.length+s)=X.length - s by omega,show P.length+X.length+t - (P.length+X.length)=t by omega]
    rw[show P.length+s+(X.length - s)=P.length+X.length by omega] at this
    simp only[gi] at this ⊢
    rw[← gi (Y.take t) (Y.drop t) Q,l3,← gi (X.take s) (X.drop s),l3] at this
    exact this
   ·rw[if_neg OY]
    by_cases G:s < X.length
    ·have:t=0:=by omega
     subst this
     simp only[P5,hQ,ho]
     rw[← gi (X.take s) (X.drop s),l3]
    ·have:s=X.length:=by omega
     subst this
     simp only[List.take_length,List.drop_length,ho]
     rw[← gi (Y.take t) (Y.drop t) Q,l3]
  rw[ab]
  have I:(X.take s).length=s:=by simp;omega
  have K:(Y.take t).length=t:=by simp;omega
  have ad:(X.drop s).length=X.length - s:=by simp
  have ae:(Y.drop t).length=Y.length - t:=by simp
  have af:Srt lt (X.take s++X.drop s):=by rw[l3];exact u
  have ag:Srt lt (Y.take t++Y.drop t):=by rw[l3];exact v
  obtain⟨L,M,-⟩:=n0.1 af
  obtain⟨N,O,-⟩:=n0.1 ag
  -- the first half
  obtain⟨Z1,f1,z1,R⟩:∃ Z1,(if P.length < P.length+s∧P.length+s < P.length+d then nO lt f (P++(X.take s++(Y.take t++(X.drop s++(Y.drop t++Q))))) P.length (P.length+s) (P.length+d) else P++(X.take s++(Y.take t++(X.drop s++(Y.drop t++Q)))))
    = P++(Z1++(X.drop s++(Y.drop t++Q)))∧Srt lt Z1∧Z1.Perm (X.take s++Y.take t):=by
   by_cases c:0 < s∧0 < t
   ·rw[if_pos OY]
    obtain⟨Z,g,m,E⟩:=xR h f (X.take s) (Y.take t) P (X.drop s++(Y.drop t++Q)) L N OY OY OY
    rw[I,K,show P.length+s+t=P.length+d by omega] at g
    exact⟨Z,g,m,E⟩
   ·rw[if_neg OY]
    by_cases G:0 < s
    ·have:t=0:=by omega
     subst this
     exact⟨X.take s,OZ,L,OZ⟩
    ·have:s=0:=by omega
     subst this
     exact⟨Y.take t,OZ,N,OZ⟩
  rw[f1]
  have ah:Z1.length=d:=by rw[R.length_eq,gk,I,K];omega
  obtain⟨Z2,f2,z2,p2⟩:∃ Z2,(if P.length+d < P.length+X.length+t∧P.length+X.length+t < P.length+X.length+Y.length then nO lt f (P++(Z1++(X.drop s++(Y.drop t++Q)))) (P.length+d) (P.length+X.length+t) (P.length+X.length+Y.length) else P++(Z1++(X.drop s++(Y.drop t++Q))))
    = P++(Z1++(Z2++Q))∧Srt lt Z2∧Z2.Perm (X.drop s++Y.drop t):=by
   by_cases c:s < X.length∧t < Y.length
   ·rw[if_pos OY]
    obtain⟨Z,g,m,E⟩:=xR h f (X.drop s) (Y.drop t) (P++Z1) Q M O OY OY OY
    rw[gk,ad,ae,ah,show P.length+d+(X.length - s)=P.length+X.length+t by omega,show P.length+X.length+t+(Y.length - t)=P.length+X.length+Y.length by omega] at g
    simp only[gi] at g
    exact⟨Z,g,m,E⟩
   ·rw[if_neg OY]
    by_cases G:s < X.length
    ·have:t=Y.length:=by omega
     exact⟨X.drop s,by simp[this],M,by simp[this]⟩
    ·have:s=X.length:=by omega
     exact⟨Y.drop t,by simp[this],O,by simp[this]⟩
  rw[f2]
  obtain⟨q,r⟩:=H z1 R z2 p2
  exact⟨Z1++Z2,by simp only[gi],q,r⟩
variable {α:Type} {lt:α→α→Bool}
def A7 (lt:α→α→Bool):Nat→List α→Nat→Nat→List α
 | 0,l,_,_=>l
 | f+1,l,a,j=>if a < j∧uy lt l j (j - 1)=true then A7 lt f (swp l (j - 1) j) a (j - 1) else l
theorem FD (h:vr lt):∀ (f:Nat) (P S T Q:List α) (x:α),S.length < f→Srt lt (S++T)→(∀ t∈T,lt x t=true) →
  ∃ Z,A7 lt f (P++(S++x :: (T++Q))) P.length (P.length+S.length)=P++(Z++Q)∧Srt lt Z∧Z.Perm (x :: (S++T))
 | 0,P,S,T,Q,x,h1,_,_=>by omega
 | f+1,P,S,T,Q,x,h1,e,i=>by
  unfold A7
  have d:∀ t∈T,lt t x=false:=fun t d=>h.asymm _ _ (i t d)
  by_cases c:S.length=0
  ·have:S=[]:=qo.1 c
   subst this
   rw[if_neg OZ]
   exact⟨x :: T,OZ,oj.2 ⟨d,by simpa using e⟩,OZ⟩
  ·have j:S≠[]:=by rintro rfl;simp at c
   obtain⟨S',u,rfl⟩:∃ S' u,S=S'++[u]:=⟨S.dropLast,S.getLast j,(Pp j).symm⟩
   have m:(P++((S'++[u])++x :: (T++Q)))[P.length+(S'++[u]).length]?=some x:=by
    rw[mx OY,P9,mx (hz _),x0];rfl
   have n:(P++((S'++[u])++x :: (T++Q)))[P.length+(S'++[u]).length - 1]?=some u:=by
    have:P.length+(S'++[u]).length - 1=P.length+S'.length:=by simp
    rw[this,mx OY,P9,gi,mx (hz _),x0];rfl
   rw[mD m n]
   cases q:lt x u with
   | true=>
    rw[if_pos ⟨OZ,rfl⟩]
    have k:=BD (P:=P++S') (Q:=T++Q) (x:=u) (y:=x)
    have hw:swp (P++((S'++[u])++x :: (T++Q))) (P.length+(S'++[u]).length - 1) (P.length+(S'++[u]).length)=P++(S'++x :: ((u :: T)++Q)):=by
     simp only[gi,hL,ho,gk,gj,gx] at k ⊢
     rw[show P.length+(S'.length+(0+1)) - 1=P.length+S'.length by omega,show P.length+(S'.length+(0+1))=P.length+S'.length+1 by omega]
     exact k
    rw[hw]
    have o:Srt lt (S'++(u :: T)):=by simpa using e
    obtain⟨Z,p,z2,z3⟩:=FD h f P S' (u :: T) Q x (by simp at h1;omega) o (fun t d=>by
     rcases hK.1 d with rfl | d
     ·exact q
     ·exact i t d)
    rw[show P.length+(S'++[u]).length - 1=P.length+S'.length by simp]
    exact⟨Z,p,z2,by simpa using z3⟩
   | false=>
    rw[if_neg OZ]
    obtain⟨s1,s2,r⟩:=n0.1 e
    refine⟨(S'++[u])++x :: T,OZ,n0.2 ⟨s1,oj.2 ⟨d,s2⟩,fun a l b g=>?_⟩,ti⟩
    rcases hK.1 g with rfl | g
    ·exact Srt.last h s1 (z:=u) OZ q a l
    ·exact r a l b g
def vl (lt:α→α→Bool):Nat→List α→Nat→Nat→Nat→List α
 | 0,l,_,_,_=>l
 | f+1,l,a,i,b=>if i < b then vl lt f (A7 lt (i - a+1) l a i) a (i+1) b else l
theorem Fq0 (h:vr lt):∀ (f:Nat) (P S U Q:List α),U.length < f→Srt lt S →
  ∃ Z,vl lt f (P++(S++(U++Q))) P.length (P.length+S.length) (P.length+S.length+U.length)=P++(Z++Q)∧Srt lt Z∧Z.Perm (S++U)
 | 0,P,S,U,Q,h1,_=>by omega
 | f+1,P,S,[],Q,h1,b=>⟨S,by unfold vl;rw[if_neg OZ];simp,b,OZ⟩
 | f+1,P,S,u :: U,Q,h1,b=>by
  unfold vl
  rw[if_pos OZ]
  obtain⟨Z,c,z2,z3⟩:=FD h (P.length+S.length - P.length+1) P S [] (U++Q) u OY (by simpa using b) OZ
  simp only[ho,j5] at c z3
  simp only[hL]
  rw[c]
  have e:Z.length=S.length+1:=by rw[z3.length_eq];simp
  obtain⟨W,d,g,i⟩:=Fq0 h f P Z U Q (by simp at h1;omega) z2
  rw[e] at d
  rw[show P.length+S.length+1=P.length+(S.length+1) by omega,show P.length+S.length+(u :: U).length=P.length+(S.length+1)+U.length by simp;omega]
  refine⟨W,d,g,i.trans ?_⟩
  refine (z3.append_right U).trans ?_
  exact (ti (l₁:=S) (l₂:=U) (a:=u)).symm
theorem Cq (h:vr lt) (P X Q:List α) {f:Nat} (b:X.length < f):∃ Z,vl lt f (P++(X++Q)) P.length (P.length+1) (P.length+X.length)=P++(Z++Q)∧Srt lt Z∧Z.Perm X:=by
 cases X with
 | nil=>
  refine⟨[],?_,List.Pairwise.nil,List.Perm.refl _⟩
  cases f with
  | zero=>omega
  | succ f=>unfold vl;rw[if_neg OZ]
 | cons x X=>
  obtain⟨Z,a,z2,z3⟩:=Fq0 h f P [x] X Q (by simp at b;omega) OZ
  refine⟨Z,?_,z2,by simpa using z3⟩
  simp only[gj,gx,hL,ho] at a ⊢
  rw[show P.length+(X.length+1)=P.length+(0+1)+X.length by omega]
  exact a
def sV (lt:α→α→Bool) (s:Nat) (l:List α):Prop:=∀ k,Srt lt ((l.drop (k*s)).take s)
theorem sV.cons {s:Nat} {Z R:List α} (b:Srt lt Z) (a:Z.length=s) (c:sV lt s R):sV lt s (Z++R):=by
 intro k
 cases k with
 | zero=>rw[K1,hQ,← a,List.take_left];exact b
 | succ k=>
  have:=c k
  rw[hE,F0,← List.drop_drop,← a,List.drop_left]
  rw[a];exact this
theorem sV.short {s:Nat} {Z:List α} (a:Srt lt Z) (b:Z.length≤s):sV lt s Z:=by
 intro k
 cases k with
 | zero=>rw[K1,hQ,P4 b];exact a
 | succ k=>rw[hy (by rw[hE];omega)];simp
theorem sV.head {s:Nat} {X R:List α} (h:sV lt s (X++R)) (a:X.length=s):Srt lt X∧sV lt s R:=by
 refine⟨?_,fun k=>?_⟩
 ·have:=h 0
  rwa [K1,hQ,← a,List.take_left] at this
 ·have:=h (k+1)
  rw[hE,F0,← List.drop_drop] at this
  have e:(X++R).drop s=R:=by rw[← a,List.drop_left]
  rwa [e] at this
theorem sV.all {s:Nat} {X:List α} (h:sV lt s X) (a:X.length≤s):Srt lt X:=by
 have:=h 0
 rwa [K1,hQ,P4 a] at this
def yy (lt:α→α→Bool) (s:Nat):Nat→List α→Nat→Nat→List α
 | 0,l,_,_=>l
 | f+1,l,a,n=>if a+s≤n then yy lt s f (vl lt (s+1) l a (a+1) (a+s)) (a+s) n else vl lt (n - a+1) l a (a+1) n
theorem cut {s:Nat} {R:List α} (h:s≤R.length):∃ X a,R=X++a∧X.length=s:=⟨R.take s,R.drop s,OZ,by simp;omega⟩
theorem Fj (h:vr lt) {s:Nat} (i:0 < s):∀ (f:Nat) (D R:List α),R.length < f→∃ R',yy lt s f (D++R) D.length (D.length+R.length)=D++R'∧R'.Perm R∧sV lt s R'
 | 0,D,R,h1=>by omega
 | f+1,D,R,h1=>by
  unfold yy
  by_cases c:s≤R.length
  ·rw[if_pos OY]
   obtain⟨X,d,rfl,b⟩:=cut c
   obtain⟨Z,a,z2,z3⟩:=Cq h D X d (f:=s+1) OY
   rw[b] at a
   rw[a]
   have e:Z.length=s:=by rw[z3.length_eq,b]
   simp only[gk] at h1
   obtain⟨R',g,j,k⟩:=Fj h i f (D++Z) d OY
   rw[gk,e,gi] at g
   rw[gk,b,← Gs,g]
   exact⟨Z++R',OZ,z3.append j,sV.cons z2 e k⟩
  ·rw[if_neg OY]
   obtain⟨Z,a,z2,z3⟩:=Cq h D R [] (f:=D.length+R.length - D.length+1) OY
   simp only[j5] at a
   rw[a]
   exact⟨Z,rfl,z3,sV.short z2 (by rw[z3.length_eq];omega)⟩
def pas (lt:α→α→Bool) (F s:Nat):Nat→List α→Nat→Nat→List α
 | 0,l,_,_=>l
 | f+1,l,a,n=>if a+2*s≤n then pas lt F s f (nO lt F l a (a+s) (a+2*s)) (a+2*s) n else if a+s < n then nO lt F l a (a+s) n else l
theorem Hh (h:vr lt) {F s:Nat} (n:0 < s):∀ (f:Nat) (D R:List α),R.length < f→R.length≤F→sV lt s R→∃ R',pas lt F s f (D++R) D.length (D.length+R.length)=D++R'∧R'.Perm R∧sV lt (2*s) R'
 | 0,D,R,h1,_,_=>by omega
 | f+1,D,R,h1,e,g=>by
  unfold pas
  by_cases c:2*s≤R.length
  ·rw[if_pos OY]
   obtain⟨X,o,rfl,a⟩:=cut (s:=s) (R:=R) OY
   obtain⟨i,p⟩:=g.head a
   rw[gk] at c h1 e
   obtain⟨Y,d,rfl,j⟩:=cut (s:=s) (R:=o) OY
   obtain⟨k,q⟩:=p.head j
   rw[gk] at c h1 e
   obtain⟨Z,b,z2,z3⟩:=xR h F X Y D d i k OY OY OY
   rw[a,j,show D.length+s+s=D.length+2*s by omega] at b
   rw[b]
   have l:Z.length=2*s:=by rw[z3.length_eq,gk];omega
   obtain⟨R',m,r,t⟩:=Hh h (F:=F) n f (D++Z) d OY OY q
   rw[gk,l,gi] at m
   rw[gk,gk,a,j,show D.length+(s+(s+d.length))=D.length+2*s+d.length by omega,m]
   refine⟨Z++R',OZ,?_,sV.cons z2 l t⟩
   have:=z3.append r
   rwa [gi] at this
  ·rw[if_neg OY]
   by_cases c2:s < R.length
   ·rw[if_pos OY]
    obtain⟨X,Y,rfl,a⟩:=cut (s:=s) (R:=R) OY
    obtain⟨i,k⟩:=g.head a
    rw[gk] at c c2 h1 e
    obtain⟨Z,b,z2,z3⟩:=xR h F X Y D [] i (k.all OY) OY OY OY
    simp only[j5] at b
    rw[a] at b
    rw[gk,a,← Gs,b]
    exact⟨Z,rfl,z3,sV.short z2 (by rw[z3.length_eq,gk];omega)⟩
   ·rw[if_neg OY]
    exact⟨R,rfl,List.Perm.refl _,sV.short (g.all OY) OY⟩
def stL (lt:α→α→Bool) (F:Nat):Nat→List α→Nat→Nat→List α
 | 0,l,_,_=>l
 | f+1,l,n,s=>if s < n then stL lt F f (pas lt F s (n+1) l 0 n) n (2*s) else l
theorem Ii (h:vr lt) {F:Nat}:∀ (f:Nat) (l:List α) (s:Nat),0 < s→l.length - s < f→l.length≤F→sV lt s l→Srt lt (stL lt F f l l.length s)∧(stL lt F f l l.length s).Perm l
 | 0,l,s,_,h1,_,_=>by omega
 | f+1,l,s,e,h1,g,a=>by
  unfold stL
  by_cases c:s < l.length
  ·rw[if_pos c]
   obtain⟨R',b,d,i⟩:=Hh h (F:=F) e (l.length+1) [] l OY g a
   simp only[ho,gx,hA] at b
   rw[b]
   have j:R'.length=l.length:=d.length_eq
   obtain⟨g1,g2⟩:=Ii (F:=F) h f R' (2*s) OY OY OY i
   rw[j] at g1 g2
   exact⟨g1,g2.trans d⟩
  ·rw[if_neg c]
   exact⟨a.all OY,List.Perm.refl _⟩
def wY (lt:α→α→Bool) (F:Nat) (l:List α):List α:=stL lt F (l.length+1) (yy lt 20 (l.length+1) l 0 l.length) l.length 20
theorem Gj (h:vr lt) {F:Nat} (l:List α) (e:l.length≤F):Srt lt (wY lt F l)∧(wY lt F l).Perm l:=by
 obtain⟨R,a,b,c⟩:=Fj h (s:=20) OY (l.length+1) [] l OY
 simp only[ho,gx,hA] at a
 unfold wY
 rw[a]
 have d:R.length=l.length:=b.length_eq
 obtain⟨g1,g2⟩:=Ii h (F:=F) (l.length+1) R 20 OY OY OY c
 rw[d] at g1 g2
 exact⟨g1,g2.trans b⟩
variable {α:Type} {lt:α→α→Bool}
theorem FT:∀ (A B:List α),(∀ a∈A,∀ b∈A,lt a b=false→lt b a=false→a=b)→Srt lt A→Srt lt B→A.Perm B→A=B
 | [],B,_,_,_,h=>(List.perm_nil.1 h.symm).symm
 | a :: A,[],_,_,_,h=>by have:=h.length_eq;simp at this
 | a :: A,b :: B,he,c,d,h=>by
  obtain⟨f,a2⟩:=oj.1 c
  obtain⟨g,i⟩:=oj.1 d
  have m2:b∈a :: A:=h.mem_iff.2 OZ
  have e:a=b:=by
   have m1:a∈b :: B:=h.mem_iff.1 OZ
   rcases hK.1 m1 with m1 | m1
   ·exact m1
   ·rcases hK.1 m2 with m2' | m2'
    ·exact m2'.symm
    ·exact he a OZ b m2 (g a m1) (f b m2')
  subst e
  rw[FT A B (fun x j y k=>he x (by simp[j]) y (by simp[k])) a2 i (List.Perm.cons_inv h)]
def xp (t:an):Bool:=t.Hits.all fun n=>decide (n=0)
def tw (xs:List au) (i:Int) (r:ah) (t:an):List a7:=if ((aZ xs (pos r.Pats) t.Ids []).2 && (xp t && r.Conds.all fun c=>holds c (aZ xs (pos r.Pats) t.Ids []).1))=true then [⟨i,t.Ids,(aZ xs (pos r.Pats) t.Ids []).1⟩] else []
def pi (xs:List au) (i:Int) (r:ah) (l:List an):List a7:=l.flatMap (tw xs i r)
def qv (w:aV):List an:=match w.Levels[w.Levels.length - 1]? with
 | some L=>L.Toks
 | none=>[]
def vh (l:List a7):List a7:=wY mK l.length l
def Eu (xs:List au):Nat→List ah→List aV→List a7
 | i,r :: a,w :: ws=>vh (pi xs (i:Int) r (qv w))++Eu xs (i+1) a ws
 | _,_,_=>[]
theorem Dz {xs:List au} {i:Int} {r:ah} {l:List an} {x:a7} (h:x∈pi xs i r l):∃ t∈l,x=⟨i,t.Ids,(aZ xs (pos r.Pats) t.Ids []).1⟩:=by
 obtain⟨t,b,a⟩:=j1.1 h
 unfold tw at a
 split at a
 ·simp only[hY] at a
  exact⟨t,b,a⟩
 ·cases a
theorem CF {xs:List au} {i:Int} {r:ah}:∀ (l:List an),(pi xs i r l).length≤l.length
 | []=>by simp[pi]
 | t :: l=>by
  have h1:=CF (xs:=xs) (i:=i) (r:=r) l
  unfold pi at h1 ⊢
  rw[l0,gk,gj]
  have a:(tw xs i r t).length≤1:=by unfold tw;split <;> simp
  omega
theorem Iz {xs:List au} {i:Int} {r:ah} {l:List an} {x y:a7} (c:x∈pi xs i r l) (d:y∈pi xs i r l) (h1:mK x y=false) (f:mK y x=false):x=y:=by
 have b:=DD x y
 rw[h1,f] at b
 have a:uw x y=true:=by
  cases e:uw x y with
  | true=>rfl
  | false=>rw[e] at b;cases b
 unfold uw at a
 simp only[gI,decide_eq_true_eq] at a
 obtain⟨t,_,rfl⟩:=Dz c
 obtain⟨u,_,rfl⟩:=Dz d
 simp only at a
 rw[a.2]
theorem C8 (l:List a7):Srt mK (vh l)∧(vh l).Perm l:=Gj xd l (hz _)
theorem Ju {xs:List au} {i:Int} {r:ah} {l:List an} {A:List a7} (h1:Srt mK A) (c:A.Perm (pi xs i r l)):A=vh (pi xs i r l):=by
 obtain⟨g1,g2⟩:=C8 (pi xs i r l)
 exact FT A _ (fun a d b e f g=>Iz (c.mem_iff.1 d) (c.mem_iff.1 e) f g) h1 g1 (c.trans g2.symm)
end Go.Proofs.YtedmfnmbjglmbaaGreat
