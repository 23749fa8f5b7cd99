/- Plain laws, one after the other: PLKept. -/
import Derived.Test.YtinomobmcjnfjaaGreatTKept
import Derived.Test.YtinomobmcjnfjaaGreatPLib
import Derived.Test.YtinomobmcjnfjaaGreatWKeptMod
import Derived.Test.YtinomobmcjnfjaaGreatWKeptPur
namespace Go.Proofs.YtinomobmcjnfjaaGreat
open Eng
set_option linter.unusedVariables false
set_option linter.unusedSimpArgs false
theorem iZ {α:Type} (d:List α) (x y:α) (t:List α):(d++x :: t).set d.length y=(d++[y])++t:=by
 rw [List.set_append_right _ _ (Nat.le_refl _),Nat.sub_self,List.set_cons_zero,List.append_assoc]; rfl
theorem d4 {α:Type} (d:List α) (x:α) (t:List α):idx (d++x :: t) (d.length:Int)=some x:=by rw [l6]; simp
theorem yi {N:Nat} (hN:1099000000000≤N) (g:cj) (hz:SzG g) (by_:Int) (x1:aA × Bool) (s1:List af) (s2:Int) (K:List af→Int→Option (List af)) (x2:af) (x3:List aD × Bool) (hb:x3.1.length≤2147483648) :
  ∀ (ns:List av) (n:Nat) (dn:List av) (dh h:List Int),ns.length < n→g.neg=dn++ns→dh.length=dn.length→h.length=ns.length →
   bM N g by_ x1 s1 s2 K x2 x3 n (dh++h) (dn.length:Int)=K (s1.set s2.toNat ⟨x2.Ids,dh++kx x1.1 x3.1 by_ ns h⟩) (IntKind.i64.wrap (s2+1))
 | [],n,dn,dh,h,hn,hg,hd,hh=>by
  obtain ⟨n,rfl⟩:∃ m,n=m+1:=⟨n - 1,by simp at hn; omega⟩
  have c1:decide ((dn.length:Int) < (g.neg.length:Int))=false:=decide_eq_false (by rw [hg]; simp)
  simp only [bM,c1,Bool.false_eq_true,if_false,kx]
 | p :: ns,n,dn,dh,[],hn,hg,hd,hh=>by simp at hh
 | p :: ns,n,dn,dh,x :: h,hn,hg,hd,hh=>by
  obtain ⟨n,rfl⟩:∃ m,n=m+1:=⟨n - 1,by omega⟩
  simp only [List.length_cons] at hn hh
  have hnl:=hz.nl
  have hl:g.neg.length=dn.length+(ns.length+1):=by rw [hg]; simp
  have c1:decide ((dn.length:Int) < (g.neg.length:Int))=true:=decide_eq_true (by omega)
  have e1:idx g.neg (dn.length:Int)=some p:=by rw [hg]; exact d4 _ _ _
  have e2:idx (dh++x :: h) (dn.length:Int)=some x:=by rw [← hd]; exact d4 _ _ _
  have hp:p∈g.neg:=by rw [hg]; simp
  simp only [bM,c1,if_true,e1,Option.bind_some,wE hN p x1.1 x3.1 (hz.na p hp) hb,wr1 dn.length (by omega),kx]
  have ih:=yi hN g hz by_ x1 s1 s2 K x2 x3 hb ns n (dn++[p])
  simp only [List.length_append,List.length_cons,List.length_nil,Nat.zero_add] at ih
  cases hm:(bS p x1.1 x3.1).2 with
  | true=>
   simp only [if_true,e2,Option.bind_some]
   have e3:(dh++x :: h).set ((dn.length:Int)).toNat (IntKind.i64.wrap (x+by_))=(dh++[IntKind.i64.wrap (x+by_)])++h:=by rw [Int.toNat_natCast,← hd]; exact iZ _ _ _ _
   rw [e3,ih (dh++[IntKind.i64.wrap (x+by_)]) h (by omega) (by rw [hg]; simp) (by simp [hd]) (by omega)]
   simp
  | false=>
   simp only [Bool.false_eq_true,if_false]
   have:=ih (dh++[x]) h (by omega) (by rw [hg]; simp) (by simp [hd]) (by omega)
   simp only [List.append_assoc,List.cons_append,List.nil_append] at this
   exact this
theorem xF {N:Nat} (hN:1099000000000≤N) (g:cj) (hz:SzG g) (p1:List af) (by_:Int) (x1:aA × Bool) (hl:p1.length≤4294967296):∀ (ts:List af) (n:Nat) (d:List af),ts.length < n→d.length+ts.length=p1.length→(∀ t∈ts,t.Ids.length≤g.pos.length∧t.Hits.length=g.neg.length) →
  bA N g p1 by_ x1 n (d++ts) (d.length:Int)=some (d++j8 g.s.Items g.pos g.neg x1.1 by_ ts)
 | [],n,d,hn,hd,ht=>by
  obtain ⟨n,rfl⟩:∃ m,n=m+1:=⟨n - 1,by simp at hn; omega⟩
  simp only [List.length_nil,Nat.add_zero] at hd
  have c1:decide ((d.length:Int) < (p1.length:Int))=false:=decide_eq_false (by omega)
  simp only [bA,c1,Bool.false_eq_true,if_false,j8,List.map_nil]
 | t :: ts,n,d,hn,hd,ht=>by
  obtain ⟨n,rfl⟩:∃ m,n=m+1:=⟨n - 1,by omega⟩
  simp only [List.length_cons] at hn hd
  have hpl:=hz.pl
  have hsa:=hz.sa
  have c1:decide ((d.length:Int) < (p1.length:Int))=true:=decide_eq_true (by omega)
  obtain ⟨h1,h2⟩:=ht t (by simp)
  have hbl:=pK g.s.Items g.pos t.Ids
  have e0:fH g.s.Items (g.pos.take t.Ids.length) t.Ids []=okB g.s.Items g.pos t.Ids:=rfl
  have ih:=fun y=>xF hN g hz p1 by_ x1 hl ts n (d++[y]) (by omega) (by simp; omega) (fun u hu=>ht u (by simp [hu]))
  simp only [List.length_append,List.length_cons,List.length_nil,Nat.zero_add] at ih
  simp only [bA,c1,if_true,d4,Option.bind_some,xC hN g.pos g.s t.Ids hz.sa hz.pa hz.sl hz.fl (by omega) h1,e0,wr1 d.length (by omega)]
  have e4:j8 g.s.Items g.pos g.neg x1.1 by_ (t :: ts)=(if (okB g.s.Items g.pos t.Ids).2=true then ⟨t.Ids,kx x1.1 (okB g.s.Items g.pos t.Ids).1 by_ g.neg t.Hits⟩ else t) :: j8 g.s.Items g.pos g.neg x1.1 by_ ts:=rfl
  rw [e4]
  cases hok:(okB g.s.Items g.pos t.Ids).2 with
  | false=>
   simp only [Bool.not_false,if_true,Bool.false_eq_true,if_false]
   have:=ih t
   simp only [List.append_assoc,List.cons_append,List.nil_append] at this
   exact this
  | true=>
   simp only [Bool.not_true,Bool.false_eq_true,if_false,if_true]
   have h3:=yi hN g hz by_ x1 (d++t :: ts) (d.length:Int) (bA N g p1 by_ x1 n) t (okB g.s.Items g.pos t.Ids) (by omega) g.neg N [] [] t.Hits (by have:=hz.nl; omega) rfl rfl h2
   simp only [List.nil_append,List.length_nil,Int.natCast_zero,Int.toNat_natCast] at h3
   have h3':bM N g by_ x1 (d++t :: ts) (d.length:Int) (bA N g p1 by_ x1 n) t (okB g.s.Items g.pos t.Ids) N t.Hits 0=_:=h3
   rw [h3',iZ,wr1 d.length (by omega),ih,List.append_assoc]; rfl
theorem CN {N:Nat} (hN:1099000000000≤N) (g:cj) (hz:SzG g) (ts:List af) (by_:Int) (hl:ts.length≤4294967296) (ht:∀ t∈ts,t.Ids.length≤g.pos.length∧t.Hits.length=g.neg.length) :
  ft N g ts by_=some (j8 g.s.Items g.pos g.neg (aG g.s.Items g.id).1 by_ ts):=by
 unfold ft
 rw [qb hN g.s g.id hz.sl hz.fl,Option.bind_some]
 have:=xF hN g hz ts by_ (aG g.s.Items g.id) hl ts N [] (by omega) (by simp) ht
 simpa using this
structure xy (as:List bk) (r:an) (c:ao) (row:aJ):Prop where
 ne:1≤row.Levels.length
 ll:row.Levels.length=(pos r.Pats).length
 ids:∀ i L,row.Levels[i]?=some L→∀ t∈L.Toks,t.Ids.length=i+1
 hit:∀ L,row.Levels[row.Levels.length - 1]?=some L→∀ t∈L.Toks,t.Hits.length=(neg r.Pats).length
 at_:∀ k,k < row.Levels.length→∃ a i,idx c.Pos (k:Int)=some a∧idx as a=some i
 fit:sA (fun k=>(vM as c k).length) 0 (row.Levels.map (·.Toks.length)) 0 0
 al:∀ k,(vM as c k).length≤4294967296
theorem tE {A:Nat→Nat}:∀ {ls:List Nat} {k b f:Nat},sA A k ls b f→∀ l∈ls,l≤4294967296
 | [],_,_,_,_,_,h=>by cases h
 | l :: ls,k,b,f,h,x,hx=>by
  rcases List.mem_cons.1 hx with rfl | hx
  ·have:=h.1; omega
  ·exact tE h.2 x hx
theorem y7 {row:aJ} {L:aj} {M:List af} {i:Nat} (hL:row.Levels[i]?=some L) (hM:M.length=L.Toks.length):(row.Levels.set i ⟨M⟩).map (·.Toks.length)=row.Levels.map (·.Toks.length):=by
 rw [List.map_set]
 have:(row.Levels.map (·.Toks.length))[i]?=some L.Toks.length:=by rw [List.getElem?_map,hL]; rfl
 apply List.ext_getElem?
 intro j
 rw [List.getElem?_set]
 split
 ·rename_i e; subst e
  split
  ·rw [this,← hM]
  ·rename_i hlt; rw [List.length_map] at hlt; have:=(List.getElem?_eq_some_iff.1 hL).1; omega
 ·rfl
theorem w3 {as:List bk} {c:ao} {k:Nat} {a:Int} {i:bk} (h1:idx c.Pos (k:Int)=some a) (h2:idx as a=some i):i.L=vM as c k:=by
 unfold vM
 rw [l6] at h1
 rw [h1]
 simp only [h2]
structure SzR (r:an):Prop where
 pl:r.Pats.length≤1048576
 sa:eX r.Pats≤1048576
 pa:∀ p∈r.Pats,p.Args.length≤1048576
theorem Aq {r:an} {c:ao} {as:List bk} {s:ah} {id:Int} (hr:SzR r) (hs:s.Items.length≤1048576) (hx:∀ x∈s.Items,x.F.Fields.length≤1048576):SzG ⟨pos r.Pats,neg r.Pats,c,as,s,id⟩:=by
 have h1:=tn r.Pats
 have h2:=hr.sa
 have h3:(pos r.Pats).length≤r.Pats.length:=List.length_filter_le _ _
 have h4:(neg r.Pats).length≤r.Pats.length:=List.length_filter_le _ _
 have h5:=hr.pl
 exact ⟨by simp only; omega,by simp only; omega,fun p hp=>hr.pa p (List.mem_filter.1 hp).1,by simp only; omega,fun p hp=>hr.pa p (List.mem_filter.1 hp).1,hs,hx⟩
theorem Cd (l:List av):(l.filter fun p=>p.Not == true)=neg l:=by
 unfold neg; congr 1; funext p; cases p.Not <;> rfl
theorem GG {N:Nat} (hN:1099000000000≤N) (r:an) (c:ao) (as:List bk) (s:ah) (id:Int) (row:aJ) (hr:SzR r) (hs:s.Items.length≤1048576) (hx:∀ x∈s.Items,x.F.Fields.length≤1048576) (ok:xy as r c row) {β:Type} (K:List aj→Option β) :
  ((idx row.Levels (IntKind.i64.wrap ((row.Levels.length:Int) - 1))).bind fun x8=>((ft N ⟨pos r.Pats,neg r.Pats,c,as,s,id⟩ x8.Toks 1).bind fun x9=>((fL N ⟨pos r.Pats,neg r.Pats,c,as,s,id⟩ (row.Levels.set (IntKind.i64.wrap ((row.Levels.length:Int) - 1)).toNat (⟨x9⟩:aj))).bind fun x10=>K x10)))
   = K (pG s.Items as (aG s.Items id).1 id r c row).Levels:=by
 have hg:=Aq (c:=c) (as:=as) (s:=s) (id:=id) hr hs hx
 have hne:=ok.ne
 have hll:=ok.ll
 have hpl:=hg.pl
 simp only at hpl
 have ew:IntKind.i64.wrap ((row.Levels.length:Int) - 1)=((row.Levels.length - 1:Nat):Int):=by
  rw [show ((row.Levels.length:Int) - 1)=((row.Levels.length - 1:Nat):Int) by omega]
  exact wr (by omega) (by omega)
 have hlt:row.Levels.length - 1 < row.Levels.length:=by omega
 have hL:row.Levels[row.Levels.length - 1]?=some row.Levels[row.Levels.length - 1]:=List.getElem?_eq_getElem hlt
 have hlen:(row.Levels[row.Levels.length - 1]).Toks.length≤4294967296:=tE ok.fit _ (List.mem_map.2 ⟨_,List.getElem_mem hlt,rfl⟩)
 rw [ew,ak hlt,Option.bind_some,CN hN _ hg _ 1 hlen (fun t ht=>⟨by have:=ok.ids _ _ hL t ht; simp only; omega,ok.hit _ hL t ht⟩),Option.bind_some,Int.toNat_natCast]
 have hset:=y7 (M:=j8 s.Items (pos r.Pats) (neg r.Pats) (aG s.Items id).1 1 (row.Levels[row.Levels.length - 1]).Toks) hL (sO _)
 have hgrow:=EG hN _ hg (row.Levels.set (row.Levels.length - 1) ⟨j8 s.Items (pos r.Pats) (neg r.Pats) (aG s.Items id).1 1 (row.Levels[row.Levels.length - 1]).Toks⟩) (vM as c) (by simp only [List.length_set]; omega)
  (fun k hk=>by
   rw [List.length_set] at hk
   obtain ⟨a,i,h1,h2⟩:=ok.at_ k hk
   exact ⟨a,i,h1,h2,w3 h1 h2⟩) ok.al
  (fun i L hi t ht=>by
   rw [List.getElem?_set] at hi
   split at hi
   ·rename_i e; subst e
    ·simp only [Option.some.injEq] at hi
     subst hi
     have h1:=wd (xs:=s.Items) (ps:=pos r.Pats) (ns:=neg r.Pats) (f:=(aG s.Items id).1) (b:=1) (row.Levels[row.Levels.length - 1]).Toks
     have h2:t.Ids∈(row.Levels[row.Levels.length - 1]).Toks.map (·.Ids):=by rw [← h1]; exact List.mem_map.2 ⟨t,ht,rfl⟩
     obtain ⟨u,hu,e⟩:=List.mem_map.1 h2
     rw [← e]; exact ok.ids _ _ hL u hu
   ·exact ok.ids i L hi t ht)
  (by rw [hset]; exact ok.fit)
 rw [hgrow,Option.bind_some]
 unfold pG lK
 rw [hL]
theorem BG {N:Nat} (hN:1099000000000≤N) (d:bm) (n:aO) (m:ax) (s:ah) (id:Int) (as:List bk) (hs:s.Items.length≤1048576) (hx:∀ x∈s.Items,x.F.Fields.length≤1048576) (hlr:m.Rules.length≤1048576) :
  ∀ (ws:List aJ) (rs:List an) (cs:List ao) (k:Nat) (dr:List an) (dc:List ao) (dw:List aJ),ws.length < k→d.Rules=dr++rs→n.Chains=dc++cs→dw.length+ws.length=m.Rules.length→dr.length=dw.length→dc.length=dw.length→rs.length=ws.length→cs.length=ws.length →
   (∀ (i:Nat) (r:an) (c:ao) (w:aJ),rs[i]?=some r→cs[i]?=some c→ws[i]?=some w→SzR r∧xy as r c w) →
   dA N d n m s id as k (dw++ws) (dw.length:Int)=some (as,dw++lZ (pG s.Items as (aG s.Items id).1 id) rs cs ws)
 | [],rs,cs,k,dr,dc,dw,hk,h1,h2,h3,h4,h5,h6,h7,h8=>by
  obtain ⟨k,rfl⟩:∃ j,k=j+1:=⟨k - 1,by simp at hk; omega⟩
  simp only [List.length_nil,Nat.add_zero] at h3
  have c1:decide ((dw.length:Int) < (m.Rules.length:Int))=false:=decide_eq_false (by omega)
  simp only [dA,c1,Bool.false_eq_true,if_false]
  cases rs <;> cases cs <;> simp [lZ]
 | w :: ws,[],cs,k,dr,dc,dw,hk,h1,h2,h3,h4,h5,h6,h7,h8=>by simp at h6
 | w :: ws,r :: rs,[],k,dr,dc,dw,hk,h1,h2,h3,h4,h5,h6,h7,h8=>by simp at h7
 | w :: ws,r :: rs,c :: cs,k,dr,dc,dw,hk,h1,h2,h3,h4,h5,h6,h7,h8=>by
  obtain ⟨k,rfl⟩:∃ j,k=j+1:=⟨k - 1,by omega⟩
  simp only [List.length_cons] at hk h3 h6 h7
  have c1:decide ((dw.length:Int) < (m.Rules.length:Int))=true:=decide_eq_true (by omega)
  obtain ⟨q1,q2⟩:=h8 0 r c w rfl rfl rfl
  have e1:idx d.Rules (dw.length:Int)=some r:=by rw [h1,← h4]; exact d4 _ _ _
  have e2:idx n.Chains (dw.length:Int)=some c:=by rw [h2,← h5]; exact d4 _ _ _
  simp only [dA,c1,if_true,d4,Option.bind_some,mo,e1,e2,yt hN r false q1.pl,yt hN r true q1.pl,EW,Cd]
  rw [GG hN r c as s id w q1 hs hx q2 (fun x10=>dA N d n m s id as k ((dw++w :: ws).set (dw.length:Int).toNat (⟨x10⟩:aJ)) (IntKind.i64.wrap ((dw.length:Int)+1)))]
  rw [Int.toNat_natCast,iZ,wr1 dw.length (by omega)]
  have:=BG hN d n m s id as hs hx hlr ws rs cs k (dr++[r]) (dc++[c]) (dw++[⟨(pG s.Items as (aG s.Items id).1 id r c w).Levels⟩]) (by omega) (by rw [h1]; simp) (by rw [h2]; simp) (by simp; omega) (by simp [h4]) (by simp [h5]) (by omega) (by omega)
   (fun i r' c' w' a1 a2 a3=>h8 (i+1) r' c' w' (by simpa using a1) (by simpa using a2) (by simpa using a3))
  simp only [List.length_append,List.length_cons,List.length_nil,Nat.zero_add] at this
  rw [this,List.append_assoc]
  rfl
theorem Bm {N:Nat} (hN:1099000000000≤N) (d:bm) (n:aO) (m:ax) (s:ah) (id:Int) (f:aA × Bool) (ha:∀ a∈n.Alphas,a.At.length≤1048576) (hl:n.Alphas.length≤1048576) :
  ∀ (as:List ai) (k:Nat) (da:List ai) (di is:List bk),as.length < k→n.Alphas=da++as→di.length=da.length→is.length=as.length→(∀ i∈is,i.L.length+1≤4294967296) →
   dd N d n m s id f k (di++is) (da.length:Int)=dA N d n m s id (di++cW f.1 id as is) N m.Rules 0
 | [],k,da,di,is,hk,h1,h2,h3,h4=>by
  obtain ⟨k,rfl⟩:∃ j,k=j+1:=⟨k - 1,by simp at hk; omega⟩
  have c1:decide ((da.length:Int) < (n.Alphas.length:Int))=false:=decide_eq_false (by rw [h1]; simp)
  simp only [dd,c1,Bool.false_eq_true,if_false,cW]
 | a :: as,k,da,di,[],hk,h1,h2,h3,h4=>by simp at h3
 | a :: as,k,da,di,i :: is,hk,h1,h2,h3,h4=>by
  obtain ⟨k,rfl⟩:∃ j,k=j+1:=⟨k - 1,by omega⟩
  simp only [List.length_cons] at hk h3
  have hal:n.Alphas.length=da.length+(as.length+1):=by rw [h1]; simp
  have c1:decide ((da.length:Int) < (n.Alphas.length:Int))=true:=decide_eq_true (by omega)
  have e1:idx n.Alphas (da.length:Int)=some a:=by rw [h1]; exact d4 _ _ _
  have e2:idx (di++i :: is) (da.length:Int)=some i:=by rw [← h2]; exact d4 _ _ _
  have ham:a∈n.Alphas:=by rw [h1]; simp
  have hil:=h4 i (by simp)
  have ih:=fun y=>Bm hN d n m s id f ha hl as k (da++[a]) (di++[y]) is (by omega) (by rw [h1]; simp) (by simp [h2]) (by omega) (fun j hj=>h4 j (by simp [hj]))
  simp only [List.length_append,List.length_cons,List.length_nil,Nat.zero_add,List.append_assoc,List.cons_append,List.nil_append] at ih
  simp only [dd,c1,if_true,e1,Option.bind_some,AW hN a f.1 (ha a ham),wr1 da.length (by omega),cW]
  cases hp:iv a f.1 with
  | true=>
   simp only [if_true,e2,Option.bind_some,bj (show i.L.length+[id].length≤4294967296 by simpa using hil)]
   have e3:(di++i :: is).set ((da.length:Int)).toNat (⟨i.L++[id]⟩:bk)=di++⟨i.L++[id]⟩ :: is:=by
    rw [Int.toNat_natCast,← h2,iZ,List.append_assoc]; rfl
   rw [e3]
   exact ih _
  | false=>
   simp only [Bool.false_eq_true,if_false]
   exact ih i
structure DI (d:bm) (n:aO) (m:ax) (s:ah) (id:Int):Prop where
 sl:s.Items.length≤1048576
 fl:∀ x∈s.Items,x.F.Fields.length≤1048576
 at_:∀ a∈n.Alphas,a.At.length≤1048576
 al:n.Alphas.length≤1048576
 rl:m.Rules.length≤1048576
 la:m.Alphas.length=n.Alphas.length
 lc:n.Chains.length=m.Rules.length
 ld:d.Rules.length=m.Rules.length
 il:∀ i∈m.Alphas,i.L.length+1≤4294967296
 rows:∀ (i:Nat) (r:an) (c:ao) (w:aJ),d.Rules[i]?=some r→n.Chains[i]?=some c→m.Rules[i]?=some w→SzR r∧xy (cW (aG s.Items id).1 id n.Alphas m.Alphas) r c w
theorem GJ {N:Nat} (hN:1099000000000≤N) (d:bm) (n:aO) (m:ax) (s:ah) (id:Int) (h:DI d n m s id):lz N d n m s id=some ((Az d n m s id).Alphas,(Az d n m s id).Rules):=by
 have hal:=h.al
 have hrl:=h.rl
 unfold lz
 rw [qb hN s id h.sl h.fl,Option.bind_some]
 have h1:=Bm hN d n m s id (aG s.Items id) h.at_ h.al n.Alphas N [] [] m.Alphas (by omega) rfl rfl h.la h.il
 simp only [List.nil_append,List.length_nil,Int.natCast_zero] at h1
 have h1':dd N d n m s id (aG s.Items id) N m.Alphas 0=_:=h1
 rw [h1']
 have h2:=BG hN d n m s id (cW (aG s.Items id).1 id n.Alphas m.Alphas) h.sl h.fl h.rl m.Rules d.Rules n.Chains N [] [] [] (by omega) rfl rfl (by simp) rfl rfl h.ld h.lc h.rows
 simp only [List.nil_append,List.length_nil,Int.natCast_zero] at h2
 exact h2
def InR (x:Int):Prop:=IntKind.i64.wrap x=x
theorem zt {N:Nat} (by_ s2:Int) (K:List af→Int→Option (List af)) (f:aA) (l:List aD) (hby:by_=1∨by_ = -1) (x3:List Int) (hx:x3.length≤1048576) (done:List af) (hs2:s2=(done.length:Int)) (ids:List Int) (rest:List af) :
  ∀ (ns:List av) (n:Nat) (dx dh h:List Int),ns.length < n→x3=dx++mO ns f l→dh.length=dx.length→h.length=ns.length→(∀ x∈h,InR x) →
   cL N by_ s2 K (l,true) x3 n (done++⟨ids,dh++h⟩ :: rest) (dx.length:Int)=K (done++⟨ids,dh++kx f l by_ ns h⟩ :: rest) (IntKind.i64.wrap (s2+1))
 | [],n,dx,dh,h,hn,h1,h2,h3,h4=>by
  obtain ⟨n,rfl⟩:∃ m,n=m+1:=⟨n - 1,by simp at hn; omega⟩
  have c1:decide ((dx.length:Int) < (x3.length:Int))=false:=decide_eq_false (by rw [h1]; simp [mO])
  simp only [cL,c1,Bool.false_eq_true,if_false,Option.bind_some,kx]
 | p :: ns,n,dx,dh,[],hn,h1,h2,h3,h4=>by simp at h3
 | p :: ns,n,dx,dh,x :: h,hn,h1,h2,h3,h4=>by
  obtain ⟨n,rfl⟩:∃ m,n=m+1:=⟨n - 1,by omega⟩
  simp only [List.length_cons] at hn h3
  have hl:x3.length=dx.length+(ns.length+1):=by rw [h1]; simp [mO]
  have c1:decide ((dx.length:Int) < (x3.length:Int))=true:=decide_eq_true (by omega)
  have e0:mO (p :: ns) f l=(if (bS p f l).2=true then 1 else 0) :: mO ns f l:=rfl
  have e1:idx x3 (dx.length:Int)=some (if (bS p f l).2=true then 1 else 0):=by rw [h1,e0]; exact d4 _ _ _
  have e2:idx (done++(⟨ids,dh++x :: h⟩:af) :: rest) s2=some ⟨ids,dh++x :: h⟩:=by rw [hs2]; exact d4 _ _ _
  have e3:idx (dh++x :: h) (dx.length:Int)=some x:=by rw [← h2]; exact d4 _ _ _
  have hxr:IntKind.i64.wrap x=x:=h4 x (by simp)
  have e4:IntKind.i64.wrap (x+IntKind.i64.wrap (by_*(if (bS p f l).2=true then 1 else 0)))=if (bS p f l).2=true then IntKind.i64.wrap (x+by_) else x:=by
   split
   ·rw [Int.mul_one]
    have:IntKind.i64.wrap by_=by_:=by rcases hby with rfl | rfl <;> decide
    rw [this]
   ·rw [Int.mul_zero,show IntKind.i64.wrap 0=0 by decide,Int.add_zero,hxr]
  have e5:∀ y:Int,(dh++x :: h).set ((dx.length:Int)).toNat y=(dh++[y])++h:=fun y=>by rw [Int.toNat_natCast,← h2]; exact iZ _ _ _ _
  have e6:∀ y:af,(done++(⟨ids,dh++x :: h⟩:af) :: rest).set s2.toNat y=done++y :: rest:=fun y=>by rw [hs2,Int.toNat_natCast,iZ,List.append_assoc]; rfl
  simp only [cL,c1,if_true,Option.bind_some,e1,e2,e3,e4,e5,e6,wr1 dx.length (by omega)]
  have:=zt (N:=N) by_ s2 K f l hby x3 hx done hs2 ids rest ns n (dx++[if (bS p f l).2=true then 1 else 0]) (dh++[if (bS p f l).2=true then IntKind.i64.wrap (x+by_) else x]) h (by omega) (by rw [h1,e0]; simp) (by simp [h2]) (by omega) (fun z hz=>h4 z (by simp [hz]))
  simp only [List.length_append,List.length_cons,List.length_nil,Nat.zero_add] at this
  rw [this,kx]
  simp only [List.append_assoc,List.cons_append,List.nil_append]
theorem Bf {N:Nat} (hN:1099000000000≤N) (r:an) (s:ah) (hz:SzS r s) (f:aA) (by_:Int) (hby:by_=1∨by_ = -1) (toks:List af) (hl:toks.length≤4294967296)
  (ht:∀ t∈toks,t.Ids.length≤ae r.Pats∧t.Hits.length=(neg r.Pats).length∧∀ x∈t.Hits,InR x):jy N r s toks f by_=some (j8 s.Items (pos r.Pats) (neg r.Pats) f by_ toks):=by
 have hpl:=hz.pl
 have hnl:(neg r.Pats).length≤r.Pats.length:=List.length_filter_le _ _
 unfold jy
 have lp:∀ (ts:List af) (n:Nat) (done:List af),ts.length < n→done.length+ts.length≤4294967296→(∀ t∈ts,t∈toks)→bY N r s f by_ n (done++ts) (done.length:Int)=some (done++j8 s.Items (pos r.Pats) (neg r.Pats) f by_ ts):=by
  intro ts
  induction ts with
  | nil=>
   intro n done hn hd hm
   obtain ⟨n,rfl⟩:∃ m,n=m+1:=⟨n - 1,by simp at hn; omega⟩
   have c1:decide ((done.length:Int) < ((done++[]).length:Int))=false:=decide_eq_false (by simp)
   simp only [bY,c1,Bool.false_eq_true,if_false,j8,List.map_nil]
  | cons t ts ih=>
   intro n done hn hd hm
   obtain ⟨n,rfl⟩:∃ m,n=m+1:=⟨n - 1,by omega⟩
   simp only [List.length_cons] at hn hd
   have c1:decide ((done.length:Int) < ((done++t :: ts).length:Int))=true:=decide_eq_true (by simp; omega)
   obtain ⟨h1,h2,h3⟩:=ht t (hm t (by simp))
   obtain ⟨l,g1,g2,g3⟩:=xa hN r s hz t.Ids h1
   simp only [bY,c1,if_true,d4,Option.bind_some,g1,DD hN r f l hz.pl hz.pa g3]
   have e4:j8 s.Items (pos r.Pats) (neg r.Pats) f by_ (t :: ts)=(if (okB s.Items (pos r.Pats) t.Ids).2=true then ⟨t.Ids,kx f (okB s.Items (pos r.Pats) t.Ids).1 by_ (neg r.Pats) t.Hits⟩ else t) :: j8 s.Items (pos r.Pats) (neg r.Pats) f by_ ts:=rfl
   rw [e4]
   have next:=fun y=>ih n (done++[y]) (by omega) (by simp; omega) (fun u hu=>hm u (by simp [hu]))
   simp only [List.length_append,List.length_cons,List.length_nil,Nat.zero_add,List.append_assoc,List.cons_append,List.nil_append] at next
   cases hok:(okB s.Items (pos r.Pats) t.Ids).2 with
   | false=>
    simp only [Bool.false_eq_true,if_false]
    have:∀ n,cL N by_ (done.length:Int) (bY N r s f by_ n) (l,false) (mO (neg r.Pats) f l) N (done++t :: ts) 0=bY N r s f by_ n (done++t :: ts) (IntKind.i64.wrap ((done.length:Int)+1)):=fun n=>by
     obtain ⟨M,rfl⟩:∃ m,N=m+1:=⟨N - 1,by omega⟩
     unfold cL
     split <;> simp
    rw [this,wr1 done.length (by omega)]
    exact next t
   | true=>
    obtain rfl:=g2 hok
    simp only [if_true]
    have:=zt (N:=N) by_ (done.length:Int) (bY N r s f by_ n) f (okB s.Items (pos r.Pats) t.Ids).1 hby (mO (neg r.Pats) f (okB s.Items (pos r.Pats) t.Ids).1) (by simp [mO]; omega) done rfl t.Ids ts (neg r.Pats) N [] [] t.Hits (by omega) rfl rfl h2 h3
    simp only [List.nil_append,List.length_nil,Int.natCast_zero] at this
    have h5:cL N by_ (done.length:Int) (bY N r s f by_ n) ((okB s.Items (pos r.Pats) t.Ids).1,true) (mO (neg r.Pats) f (okB s.Items (pos r.Pats) t.Ids).1) N (done++t :: ts) 0=_:=this
    rw [h5,wr1 done.length (by omega)]
    exact next _
 have:=lp toks N [] (by omega) (by simpa using hl) (fun t h=>h)
 simpa using this
def mf (xs:List aP) (ps:List av) (row ids:List Int):List af:=ids.flatMap (ja xs ps row)
def tt (xs:List aP) (ps:List av) (id:Int) (k:Nat) (B F:List af) (A:List Int):List af:=
 (if k=0 then ja xs ps [] id else B.flatMap fun t=>ja xs ps t.Ids id)++F.flatMap fun t=>mf xs ps t.Ids A
def t7 (xs:List aP) (ps ns:List av) (k:Nat) (t:af):af:=if k+1=ps.length then ⟨t.Ids,gK xs ns (okB xs ps t.Ids).1⟩ else t
theorem sU {xs:List aP} {ps ns:List av} {row:List Int} {id:Int} {k:Nat} (h:row.length=k):(ja xs ps row id).map (t7 xs ps ns k)=n9 xs ps ns row id:=by
 subst h
 unfold ja n9
 by_cases hok:(okB xs ps (row++[id])).2=true
 ·rw [if_pos hok,if_pos hok,List.map_cons,List.map_nil]
  unfold t7
  by_cases hk:row.length+1=ps.length
  ·rw [if_pos hk,if_pos hk]
  ·rw [if_neg hk,if_neg hk]
 ·rw [if_neg hok,if_neg hok]; rfl
theorem Aw {xs:List aP} {ps ns:List av} {row:List Int} {k:Nat} (h:row.length=k) (ids:List Int):(mf xs ps row ids).map (t7 xs ps ns k)=gq xs ps ns row ids:=by
 unfold mf gq
 rw [List.map_flatMap]
 congr 1
 funext v
 exact sU h
theorem kf {α β:Type} {f g:α→List β}:∀ {l:List α},(∀ x∈l,f x=g x)→l.flatMap f=l.flatMap g
 | [],_=>rfl
 | x :: t,h=>by rw [List.flatMap_cons,List.flatMap_cons,h x (by simp),kf fun y hy=>h y (by simp [hy])]
theorem AA {xs:List aP} {ps ns:List av} {id:Int} {k:Nat} {B F:List af} {A:List Int} (h0:k=0→F=[]) (hB:∀ t∈B,t.Ids.length=k) (hF:∀ t∈F,t.Ids.length=k):(tt xs ps id k B F A).map (t7 xs ps ns k)=jb xs ps ns id k B F A:=by
 unfold tt jb
 rw [List.map_append]
 by_cases hk:k=0
 ·rw [if_pos hk,if_pos hk,h0 hk,sU (by simp [hk])]
  simp [gq]
 ·rw [if_neg hk,if_neg hk,List.map_flatMap,List.map_flatMap]
  congr 1
  ·refine kf fun t ht=>?_
   rw [sU (hB t ht)]; simp [gq]
  ·exact kf fun t ht=>Aw (hF t ht) A
theorem qK (xs:List aP) (ps:List av) (row:List Int) (id:Int):(ja xs ps row id).length≤1:=by unfold ja; split <;> simp
theorem wt (xs:List aP) (ps:List av) (row:List Int):∀ (ids:List Int),(mf xs ps row ids).length≤ids.length
 | []=>by simp [mf]
 | v :: ids=>by
  have h1:=wt xs ps row ids
  have h2:=qK xs ps row v
  unfold mf at h1 ⊢
  rw [List.flatMap_cons,List.length_append,List.length_cons]; omega
theorem BZ {xs:List aP} {ps:List av} {id:Int} {k:Nat} {B F:List af} {A:List Int} (hB:∀ t∈B,t.Ids.length=k) (hF:∀ t∈F,t.Ids.length=k):∀ t∈tt xs ps id k B F A,t.Ids.length=k+1∧(okB xs ps t.Ids).2=true:=by
 have hj:∀ (row:List Int) (v:Int),row.length=k→∀ t∈ja xs ps row v,t.Ids.length=k+1∧(okB xs ps t.Ids).2=true:=fun row v hr t ht=>by
  unfold ja at ht
  split at ht
  ·simp only [List.mem_singleton] at ht; subst ht; exact ⟨by simp [hr],by assumption⟩
  ·cases ht
 intro t ht
 unfold tt at ht
 rcases List.mem_append.1 ht with h | h
 ·split at h
  ·rename_i hk; exact hj [] id (by simp [hk]) t h
  ·obtain ⟨u,hu,h⟩:=List.mem_flatMap.1 h
   exact hj _ _ (hB u hu) t h
 ·obtain ⟨u,hu,h⟩:=List.mem_flatMap.1 h
  unfold mf at h
  obtain ⟨v,_,h⟩:=List.mem_flatMap.1 h
  exact hj _ _ (hF u hu) t h
theorem CD {N:Nat} (hN:1099000000000≤N) (r:an) (s:ah) (hz:SzS r s) (F:List af) (x12:bk) (j:Nat) (K:List af→Int→Option ax) (t:af) (ht:idx F (j:Int)=some t) (hj:j≤4294967296) (hr:t.Ids.length+1≤ae r.Pats) (hA:x12.L.length≤4294967296) (u0:List af) (hl:u0.length+x12.L.length≤4294967296) :
  eK N r s F x12 (j:Int) K N u0 0=K (u0++mf s.Items (pos r.Pats) t.Ids x12.L) ((j+1:Nat):Int):=by
 refine lp' hN x12.L hA (fun n (u:List af) i=>eK N r s F x12 (j:Int) K n u i) (fun w u=>K (u++mf s.Items (pos r.Pats) t.Ids w) ((j+1:Nat):Int)) (fun u w=>u.length+w.length≤4294967296) u0 hl (fun n u i v w g1 g2 g3 g4 g5 g6 gI gh=>?_) (fun n u i g1 g2 gI=>?_)
 ·simp only [List.length_cons] at gI
  have h1:=qK s.Items (pos r.Pats) t.Ids v
  simp only [eK,g5,if_true,ht,g4,Option.bind_some,z8 hN r s hz u t.Ids v hr (by omega),g6]
  rw [gh _ (by rw [List.length_append]; omega)]
  simp [mf]
 ·simp only [eK,g2,Bool.false_eq_true,if_false,wr1 j (by omega)]; simp [mf]
theorem Dm {N:Nat} (hN:1099000000000≤N) (r:an) (s:ah) (hz:SzS r s) (x1:aJ) (s1:List aj) (F:List af) (k:Int) (K:List aj→List af→Int→Option ax) (x12:bk) (hF:∀ t∈F,t.Ids.length+1≤ae r.Pats) (hFl:F.length≤4294967296) (hA:x12.L.length≤4294967296) (u0:List af) (hl:u0.length+F.length*x12.L.length≤4294967296) :
  dl N r s x1 s1 F k K x12 N u0 0=bE N r s x1 s1 k K N (u0++F.flatMap fun t=>mf s.Items (pos r.Pats) t.Ids x12.L) 0:=by
 refine lp' hN F hFl (fun n (u:List af) i=>dl N r s x1 s1 F k K x12 n u i) (fun w u=>bE N r s x1 s1 k K N (u++w.flatMap fun t=>mf s.Items (pos r.Pats) t.Ids x12.L) 0) (fun u w=>u.length+w.length*x12.L.length≤4294967296) u0 hl (fun n u i v w g1 g2 g3 g4 g5 g6 gI gh=>?_) (fun n u i g1 g2 gI=>?_)
 ·rw [List.length_cons,Nat.succ_mul] at gI
  have h1:=wt s.Items (pos r.Pats) v.Ids x12.L
  simp only [dl,g5,if_true]
  rw [CD hN r s hz F x12 i _ v g4 (by omega) (hF v g2) hA u (by omega),gh _ (by rw [List.length_append]; omega),List.flatMap_cons,List.append_assoc]
 ·simp only [dl,g2,Bool.false_eq_true,if_false]; simp
theorem Cp {N:Nat} (hN:1099000000000≤N) (r:an) (s:ah) (hz:SzS r s) (x1:aJ) (done:List aj) (L:aj) (Ls:List aj) (K:List aj→List af→Int→Option ax) (hx:x1.Levels.length=(pos r.Pats).length) (hk:done.length+1≤(pos r.Pats).length) (hpp:(pos r.Pats).length=ae r.Pats) (M:List af)
  (hM:∀ t∈M,t.Ids.length=done.length+1∧(okB s.Items (pos r.Pats) t.Ids).2=true) (hl:L.Toks.length+M.length≤4294967296) :
  bE N r s x1 (done++L :: Ls) (done.length:Int) K N M 0=K (done++⟨L.Toks++M.map (t7 s.Items (pos r.Pats) (neg r.Pats) done.length)⟩ :: Ls) (M.map (t7 s.Items (pos r.Pats) (neg r.Pats) done.length)) ((done.length+1:Nat):Int):=by
 have hpl:=hz.pl
 have hpc:=fb r.Pats
 have ew:IntKind.i64.wrap ((x1.Levels.length:Int) - 1)=((x1.Levels.length - 1:Nat):Int):=by
  rw [show ((x1.Levels.length:Int) - 1)=((x1.Levels.length - 1:Nat):Int) by omega]
  exact wr (by omega) (by omega)
 have fin:∀ (n:Nat) (Z:List af) (i:Int),Z.length=M.length→((if decide (i < (Z.length:Int)) then some (decide ((done.length:Int)=IntKind.i64.wrap ((x1.Levels.length:Int) - 1))) else some false)=some false) →
   bE N r s x1 (done++L :: Ls) (done.length:Int) K (n+1) Z i=K (done++⟨L.Toks++Z⟩ :: Ls) Z ((done.length+1:Nat):Int):=by
  intro n Z i hZ hb
  have e6:(done++L :: Ls).set ((done.length:Int)).toNat (⟨L.Toks++Z⟩:aj)=done++⟨L.Toks++Z⟩ :: Ls:=by rw [Int.toNat_natCast,iZ,List.append_assoc]; rfl
  simp only [bE,hb,Option.bind_some,Bool.false_eq_true,if_false,d4,bj (show L.Toks.length+Z.length≤4294967296 by omega),e6,wr1 done.length (by omega)]
 by_cases hlast:done.length+1=(pos r.Pats).length
 ·have c2:decide ((done.length:Int)=IntKind.i64.wrap ((x1.Levels.length:Int) - 1))=true:=by rw [ew]; exact decide_eq_true (by omega)
  have lp:∀ (Z:List af) (n:Nat) (D:List af),Z.length < n→D.length+Z.length=M.length→(∀ t∈Z,t∈M) →
    bE N r s x1 (done++L :: Ls) (done.length:Int) K n (D++Z) (D.length:Int)=K (done++⟨L.Toks++(D++Z.map (t7 s.Items (pos r.Pats) (neg r.Pats) done.length))⟩ :: Ls) (D++Z.map (t7 s.Items (pos r.Pats) (neg r.Pats) done.length)) ((done.length+1:Nat):Int):=by
   intro Z
   induction Z with
   | nil=>
    intro n D hn hD hm
    obtain ⟨n,rfl⟩:∃ m,n=m+1:=⟨n - 1,by simp at hn; omega⟩
    have c1:decide ((D.length:Int) < ((D++[]).length:Int))=false:=decide_eq_false (by simp)
    rw [fin n (D++[]) (D.length:Int) (by simpa using hD) (by rw [c1]; rfl)]
    simp
   | cons t Z ih=>
    intro n D hn hD hm
    obtain ⟨n,rfl⟩:∃ m,n=m+1:=⟨n - 1,by omega⟩
    simp only [List.length_cons] at hn hD
    have c1:decide ((D.length:Int) < ((D++t :: Z).length:Int))=true:=decide_eq_true (by simp; omega)
    obtain ⟨h1,h2⟩:=hM t (hm t (by simp))
    have e7:t7 s.Items (pos r.Pats) (neg r.Pats) done.length t=⟨t.Ids,gK s.Items (neg r.Pats) (okB s.Items (pos r.Pats) t.Ids).1⟩:=by unfold t7; rw [if_pos hlast]
    simp only [bE,c1,if_true,c2,Option.bind_some,d4,Bz hN r s hz t (by omega) h2,Int.toNat_natCast,iZ,wr1 D.length (by omega)]
    have:=ih n (D++[⟨t.Ids,gK s.Items (neg r.Pats) (okB s.Items (pos r.Pats) t.Ids).1⟩]) (by omega) (by simp; omega) (fun u hu=>hm u (by simp [hu]))
    simp only [List.length_append,List.length_cons,List.length_nil,Nat.zero_add] at this
    rw [this,List.map_cons,e7]
    simp only [List.append_assoc,List.cons_append,List.nil_append]
  have:=lp M N [] (by omega) (by simp) (fun t h=>h)
  simpa using this
 ·have c2:decide ((done.length:Int)=IntKind.i64.wrap ((x1.Levels.length:Int) - 1))=false:=by rw [ew]; exact decide_eq_false (by omega)
  have e7:M.map (t7 s.Items (pos r.Pats) (neg r.Pats) done.length)=M:=by
   rw [show t7 s.Items (pos r.Pats) (neg r.Pats) done.length=id from by funext t; unfold t7; rw [if_neg hlast]; rfl,List.map_id]
  obtain ⟨m,rfl⟩:∃ m,N=m+1:=⟨N - 1,by omega⟩
  rw [e7]
  have:=fin m M 0 rfl (by rw [c2]; split <;> rfl)
  exact this
theorem zL {N:Nat} (hN:1099000000000≤N) (r:an) (s:ah) (hz:SzS r s) (c:ao) (m:ax) (id:Int) (thr:List Bool) (x1:aJ) (done:List aj) (L:aj) (Ls:List aj) (K:List aj→List af→Int→Option ax) (k:Nat) (hk:done.length=k) (B F:List af) (a:Int) (A:bk) (b:Bool)
  (hp1:idx c.Pos (k:Int)=some a) (hA:idx m.Alphas a=some A) (hb:idx thr a=some b) (hbf:b=false→∀ row:List Int,row.length=k→ja s.Items (pos r.Pats) row id=[])
  (hd:k≠0→∃ D,done=D++[⟨B++F⟩]) (h0:k=0→B=[]) (hkp:k+1≤ae r.Pats) (hB:∀ t∈B,t.Ids.length=k) (hF:∀ t∈F,t.Ids.length=k) (hAl:A.L.length≤4294967296) (hFl:F.length≤4294967296) (u0:List af) (hl:u0.length+B.length+F.length*A.L.length≤4294967296) :
  cN N r c m s id thr x1 (done++L :: Ls) F (k:Int) K (B.length:Int) N u0 0=bE N r s x1 (done++L :: Ls) (k:Int) K N (u0++(B.flatMap fun t=>ja s.Items (pos r.Pats) t.Ids id)++F.flatMap fun t=>mf s.Items (pos r.Pats) t.Ids A.L) 0:=by
 have hpl:=hz.pl
 have hpc:=fb r.Pats
 have tail:∀ (n:Nat) (u:List af) (i:Int),((if decide (i < (B.length:Int)) then ((idx c.Pos (k:Int)).bind fun x6=>((idx thr x6).bind fun x7=>some x7)) else some false)=some false)→u.length+F.length*A.L.length≤4294967296 →
   cN N r c m s id thr x1 (done++L :: Ls) F (k:Int) K (B.length:Int) (n+1) u i=bE N r s x1 (done++L :: Ls) (k:Int) K N (u++F.flatMap fun t=>mf s.Items (pos r.Pats) t.Ids A.L) 0:=by
  intro n u i hc hu
  unfold cN
  rw [hc]
  simp only [Option.bind_some,Bool.false_eq_true,if_false,hp1,hA]
  exact Dm hN r s hz x1 _ F (k:Int) K A (fun t ht=>by rw [hF t ht]; exact hkp) hFl hAl u hu
 cases b with
 | false=>
  have e1:(B.flatMap fun t=>ja s.Items (pos r.Pats) t.Ids id)=[]:=by
   rw [kf (g:=fun _=>[]) fun t ht=>hbf rfl _ (hB t ht)]; simp
  obtain ⟨n,rfl⟩:∃ n,N=n+1:=⟨N - 1,by omega⟩
  rw [e1,List.append_nil]
  exact tail n u0 0 (by simp only [hp1,hb,Option.bind_some]; split <;> rfl) (by omega)
 | true=>
  have lp:∀ (Z:List af) (n:Nat) (D:List af) (u:List af),Z.length < n→B=D++Z→u.length+Z.length+F.length*A.L.length≤4294967296 →
    cN N r c m s id thr x1 (done++L :: Ls) F (k:Int) K (B.length:Int) n u (D.length:Int)=bE N r s x1 (done++L :: Ls) (k:Int) K N (u++(Z.flatMap fun t=>ja s.Items (pos r.Pats) t.Ids id)++F.flatMap fun t=>mf s.Items (pos r.Pats) t.Ids A.L) 0:=by
   intro Z
   induction Z with
   | nil=>
    intro n D u hn hD hu
    obtain ⟨n,rfl⟩:∃ m,n=m+1:=⟨n - 1,by simp at hn; omega⟩
    have c1:decide ((D.length:Int) < (B.length:Int))=false:=decide_eq_false (by rw [hD]; simp)
    rw [tail n u _ (by rw [c1]; rfl) (by simpa using hu)]
    simp
   | cons t Z ih=>
    intro n D u hn hD hu
    obtain ⟨n,rfl⟩:∃ m,n=m+1:=⟨n - 1,by omega⟩
    simp only [List.length_cons] at hn hu
    have hBl:B.length=D.length+(Z.length+1):=by rw [hD]; simp
    have c1:decide ((D.length:Int) < (B.length:Int))=true:=decide_eq_true (by omega)
    have hk0:k≠0:=fun e=>by rw [h0 e] at hBl; simp at hBl
    obtain ⟨D',hD'⟩:=hd hk0
    have ew:IntKind.i64.wrap ((k:Int) - 1)=((k - 1:Nat):Int):=by
     rw [show ((k:Int) - 1)=((k - 1:Nat):Int) by omega]
     exact wr (by omega) (by omega)
    have e1:idx (done++L :: Ls) ((k - 1:Nat):Int)=some ⟨B++F⟩:=by
     rw [hD',List.append_assoc,← hk,hD',l6]
     simp
    have e2:idx (B++F) (D.length:Int)=some t:=by rw [hD,List.append_assoc]; exact d4 _ _ _
    have h1:=qK s.Items (pos r.Pats) t.Ids id
    have htk:=hB t (by rw [hD]; simp)
    simp only [cN,c1,if_true,hp1,hb,Option.bind_some,ew,e1,e2,z8 hN r s hz u t.Ids id (by omega) (by omega),wr1 D.length (by omega)]
    have:=ih n (D++[t]) (u++ja s.Items (pos r.Pats) t.Ids id) (by omega) (by rw [hD]; simp) (by rw [List.length_append]; omega)
    simp only [List.length_append,List.length_cons,List.length_nil,Nat.zero_add] at this
    rw [this,List.flatMap_cons]
    simp only [List.append_assoc]
  exact lp B N [] u0 (by omega) rfl hl
theorem zC {N:Nat} (hN:1099000000000≤N) (r:an) (s:ah) (hz:SzS r s) (c:ao) (m:ax) (at_ id:Int) (thr:List Bool) (x1:aJ) (hx:x1.Levels.length=(pos r.Pats).length) (hx1:1≤x1.Levels.length) (hpp:(pos r.Pats).length=ae r.Pats) (A:Nat→List Int) (hAl:∀ k,(A k).length≤4294967296)
  (hA:∀ k,k < x1.Levels.length→∃ a i b,idx c.Pos (k:Int)=some a∧idx m.Alphas a=some i∧i.L=A k∧idx thr a=some b∧(b=false→∀ row:List Int,row.length=k→ja s.Items (pos r.Pats) row id=[])) :
  ∀ (rest:List aj) (n:Nat) (done:List aj) (B F:List af),rest.length < n→done.length+rest.length=x1.Levels.length→(done.length≠0→∃ D,done=D++[⟨B++F⟩])→(done.length=0→B=[]∧F=[])→(∀ t∈B,t.Ids.length=done.length)→(∀ t∈F,t.Ids.length=done.length)→(∀ i L,rest[i]?=some L→∀ t∈L.Toks,t.Ids.length=done.length+1+i) →
   F.length≤4294967296→sA (fun k=>(A k).length) done.length (rest.map (·.Toks.length)) B.length F.length →
   be N r c m at_ s id thr x1 n (done++rest) F (done.length:Int)=some ⟨m.Alphas,m.Rules.set at_.toNat ⟨done++nY s.Items (pos r.Pats) (neg r.Pats) id A done.length rest B F⟩⟩
 | [],n,done,B,F,hn,hd,hD,h0,hB,hF,hL,hFl,hf=>by
  obtain ⟨n,rfl⟩:∃ m,n=m+1:=⟨n - 1,by simp at hn; omega⟩
  simp only [List.length_nil,Nat.add_zero] at hd
  have hpl:=hz.pl
  have hpc:=fb r.Pats
  have ew:IntKind.i64.wrap ((x1.Levels.length:Int) - 1)=((x1.Levels.length - 1:Nat):Int):=by
   rw [show ((x1.Levels.length:Int) - 1)=((x1.Levels.length - 1:Nat):Int) by omega]
   exact wr (by omega) (by omega)
  have c1:decide ((done.length:Int)≤IntKind.i64.wrap ((x1.Levels.length:Int) - 1))=false:=by rw [ew]; exact decide_eq_false (by omega)
  simp only [be,c1,Bool.false_eq_true,if_false,nY]
 | L :: Ls,n,done,B,F,hn,hd,hD,h0,hB,hF,hL,hFl,hf=>by
  obtain ⟨n,rfl⟩:∃ m,n=m+1:=⟨n - 1,by omega⟩
  simp only [List.length_cons] at hn hd
  obtain ⟨hf1,hf2⟩:=hf
  simp only at hf1 hf2
  have hpl:=hz.pl
  have hpc:=fb r.Pats
  have ew:IntKind.i64.wrap ((x1.Levels.length:Int) - 1)=((x1.Levels.length - 1:Nat):Int):=by
   rw [show ((x1.Levels.length:Int) - 1)=((x1.Levels.length - 1:Nat):Int) by omega]
   exact wr (by omega) (by omega)
  have c1:decide ((done.length:Int)≤IntKind.i64.wrap ((x1.Levels.length:Int) - 1))=true:=by rw [ew]; exact decide_eq_true (by omega)
  obtain ⟨a,i,b,ha,hi,hiA,hb,hbf⟩:=hA done.length (by omega)
  have hml:=sZ s.Items (pos r.Pats) (neg r.Pats) id done.length B F (A done.length)
  have hmi:=vW (xs:=s.Items) (ps:=pos r.Pats) (ns:=neg r.Pats) (id:=id) (A:=A done.length) hB hF
  have hfin:=AA (xs:=s.Items) (ps:=pos r.Pats) (ns:=neg r.Pats) (id:=id) (A:=A done.length) (fun e=>(h0 e).2) hB hF
  have hsok:=BZ (xs:=s.Items) (ps:=pos r.Pats) (id:=id) (A:=A done.length) hB hF
  have hsl:(tt s.Items (pos r.Pats) id done.length B F (A done.length)).length=(jb s.Items (pos r.Pats) (neg r.Pats) id done.length B F (A done.length)).length:=by rw [← hfin,List.length_map]
  have key:∀ M,M=tt s.Items (pos r.Pats) id done.length B F (A done.length)→bE N r s x1 (done++L :: Ls) (done.length:Int) (be N r c m at_ s id thr x1 n) N M 0=some ⟨m.Alphas,m.Rules.set at_.toNat ⟨done++nY s.Items (pos r.Pats) (neg r.Pats) id A done.length (L :: Ls) B F⟩⟩:=by
   intro M hM
   subst hM
   rw [Cp hN r s hz x1 done L Ls _ hx (by omega) hpp _ hsok (by omega),hfin]
   have:=zC hN r s hz c m at_ id thr x1 hx hx1 hpp A hAl hA Ls n (done++[⟨L.Toks++jb s.Items (pos r.Pats) (neg r.Pats) id done.length B F (A done.length)⟩]) L.Toks (jb s.Items (pos r.Pats) (neg r.Pats) id done.length B F (A done.length)) (by omega) (by simp; omega)
    (fun _=>⟨done,rfl⟩) (fun e=>by simp at e) (fun t ht=>by have:=hL 0 L rfl t ht; simpa using this) (fun t ht=>by simpa using hmi t ht) (fun j M hj t ht=>by have:=hL (j+1) M (by simpa using hj) t ht; simp only [List.length_append,List.length_cons,List.length_nil]; omega) (by omega)
    (by simp only [List.length_append,List.length_cons,List.length_nil]; exact sP hf2 (Nat.le_refl _) hml)
   simp only [List.length_append,List.length_cons,List.length_nil,Nat.zero_add,List.append_assoc,List.cons_append,List.nil_append] at this
   exact this
  simp only [be,c1,if_true]
  by_cases hk0:done.length=0
  ·obtain ⟨rfl,rfl⟩:=h0 hk0
   have c2:decide ((done.length:Int)=0)=true:=decide_eq_true (by omega)
   have c3:decide ((0:Int) < (done.length:Int))=false:=decide_eq_false (by omega)
   have ha0:idx c.Pos 0=some a:=by rw [← ha,hk0]; rfl
   have h1:=qK s.Items (pos r.Pats) [] id
   have fin:∀ u0,u0=ja s.Items (pos r.Pats) [] id→fG N r c m s id thr x1 (done++L :: Ls) [] (done.length:Int) (be N r c m at_ s id thr x1 n) u0=some ⟨m.Alphas,m.Rules.set at_.toNat ⟨done++nY s.Items (pos r.Pats) (neg r.Pats) id A done.length (L :: Ls) [] []⟩⟩:=by
    intro u0 hu
    unfold fG gz
    rw [c3]
    simp only [Bool.false_eq_true,if_false]
    have hul:u0.length≤1:=by rw [hu]; exact h1
    have:=zL hN r s hz c m id thr x1 done L Ls (be N r c m at_ s id thr x1 n) done.length rfl [] [] a i b ha hi hb hbf (fun e=>absurd hk0 e) (fun _=>rfl) (by omega) (by simp) (by simp) (by rw [hiA]; exact hAl _) (by simp) u0 (by simp; omega)
    simp only [List.length_nil,Int.natCast_zero] at this
    have h5:cN N r c m s id thr x1 (done++L :: Ls) [] (done.length:Int) (be N r c m at_ s id thr x1 n) 0 N u0 0=_:=this
    rw [h5]
    exact key _ (by unfold tt; rw [if_pos hk0,hu]; simp)
   simp only [c2,if_true,ha0,hb,Option.bind_some]
   cases b with
   | true=>
    simp only [if_true,z8 hN r s hz [] [] id (by simp; omega) (by simp),Option.bind_some]
    exact fin _ (by simp)
   | false=>
    simp only [Bool.false_eq_true,if_false]
    exact fin _ (hbf rfl [] (by simp [hk0])).symm
  ·have c2:decide ((done.length:Int)=0)=false:=decide_eq_false (by omega)
   have c3:decide ((0:Int) < (done.length:Int))=true:=decide_eq_true (by omega)
   obtain ⟨D',hD'⟩:=hD hk0
   have ew2:IntKind.i64.wrap ((done.length:Int) - 1)=((done.length - 1:Nat):Int):=by
    rw [show ((done.length:Int) - 1)=((done.length - 1:Nat):Int) by omega]
    exact wr (by omega) (by omega)
   have e1:idx (done++L :: Ls) ((done.length - 1:Nat):Int)=some ⟨B++F⟩:=by
    rw [hD',List.append_assoc,l6]
    simp
   rw [if_neg hk0] at hf1
   have hBl:B.length≤4294967296:=by omega
   have e2:IntKind.i64.wrap (((B++F).length:Int) - (F.length:Int))=(B.length:Int):=by
    rw [List.length_append,show (((B.length+F.length:Nat):Int) - (F.length:Int))=(B.length:Int) by omega]
    exact wr (by omega) (by omega)
   simp only [c2,Bool.false_eq_true,if_false,Option.bind_some,fG,c3,if_true,ew2,e1,e2,gz]
   rw [zL hN r s hz c m id thr x1 done L Ls _ done.length rfl B F a i b ha hi hb hbf (fun _=>⟨D',hD'⟩) (fun e=>absurd e hk0) (by omega) hB hF (by rw [hiA]; exact hAl _) hFl [] (by rw [hiA]; simp; omega)]
   exact key _ (by unfold tt; rw [if_neg hk0,hiA]; simp)
theorem wu {b0:List aD}:∀ (as:List bD) (vs:List bn) (s:List aD) (pre:List bn),(cY b0 as vs s).2=true→as.length=vs.length→iC (pre++vs) (ats pre.length as) (iD as)=true
 | [],vs,s,pre,_,_=>rfl
 | a :: as,[],s,pre,_,hl=>by simp at hl
 | a :: as,v :: vs,s,pre,h,hl=>by
  have hl':as.length=vs.length:=by simpa using hl
  have next:∀ s',(cY b0 as vs s').2=true→iC (pre++v :: vs) (ats (pre.length+1) as) (iD as)=true:=fun s' h'=>by
   have:=wu as vs s' (pre++[v]) h' hl'
   simpa using this
  unfold cY at h
  unfold ats iD
  by_cases k2:a.K=2
  ·rw [if_pos k2] at h
   rw [if_pos k2,if_pos k2]
   by_cases he:bo a.V v=true
   ·rw [if_pos he] at h
    rw [gF,decide_eq_true_eq] at he
    unfold iC
    have e1:idx (pre++v :: vs) (pre.length:Int)=some a.V:=by
     rw [ak (show pre.length < (pre++v :: vs).length by simp),he]; simp
    rw [next s h,e1,decide_eq_true (show (0:Int)≤(pre.length:Int) by omega),decide_eq_true (show (pre.length:Int) < ((pre++v :: vs).length:Int) by simp; omega)]
    simp
   ·rw [if_neg he] at h; cases h
  ·rw [if_neg k2] at h
   rw [if_neg k2,if_neg k2]
   split at h
   ·split at h
    ·split at h
     ·exact next s h
     ·cases h
    ·exact next _ h
   ·exact next s h
theorem xm {p:av} {f:aA} {b:List aD} (h:(bS p f b).2=true):iv (aK p) f=true:=by
 unfold bS at h
 split at h
 ·rename_i hc
  have:=wu p.Args f.Fields b [] h hc.2
  have hk:seq f.Kind p.Kind=true:=by
   have:=hc.1
   rw [jc,decide_eq_true_eq] at this ⊢
   exact this.symm
  show ((seq f.Kind p.Kind && decide ((f.Fields.length:Int)=(p.Args.length:Int))) && iC f.Fields (ats 0 p.Args) (iD p.Args))=true
  rw [hk,decide_eq_true (show (f.Fields.length:Int)=(p.Args.length:Int) by omega)]
  simpa using this
 ·cases h
theorem B1 {N:Nat} (hN:1099000000000≤N) (a:ai) (f:aA) (h:a.At.length≤1048576) (hf:f.Fields.length≤1048576):nu N a f=some (iv a f):=by
 have hwr:IntKind.i64.wrap ((f.Fields.length:Int) - 1)=(f.Fields.length:Int) - 1:=wr (by omega) (by omega)
 have lp:∀ (n i:Nat),i≤a.At.length→a.At.length - i < n→gg N a f n i=some (iC f.Fields (a.At.drop i) (a.Consts.drop i)):=by
  intro n
  induction n with
  | zero=>intro i _ h; omega
  | succ n ih=>
   intro i hi hn
   simp only [gg,in0,Option.bind_some,hwr]
   by_cases hlt:i < a.At.length
   ·have c1:decide ((i:Int) < (a.At.length:Int))=true:=decide_eq_true (by omega)
    rw [List.drop_eq_getElem_cons hlt]
    simp only [c1,if_true,ak hlt,Option.bind_some,wr1 i (by omega),ih (i+1) (by omega) (by omega)]
    by_cases hc:i < a.Consts.length
    ·have c2:decide ((a.Consts.length:Int)≤(i:Int))=false:=decide_eq_false (by omega)
     rw [List.drop_eq_getElem_cons hc,iC]
     by_cases h0:a.At[i] < 0
     ·simp [show ¬ a.Consts.length≤i by omega,show ¬ 0≤a.At[i] by omega]
     ·by_cases h1:(f.Fields.length:Int)≤a.At[i]
      ·simp [show ¬ a.Consts.length≤i by omega,show 0≤a.At[i] by omega,show ¬ a.At[i]≤(f.Fields.length:Int) - 1 by omega,show ¬ a.At[i] < (f.Fields.length:Int) by omega]
      ·obtain ⟨j,hj⟩:∃ j:Nat,a.At[i]=(j:Int):=⟨a.At[i].toNat,by omega⟩
       have hjl:j < f.Fields.length:=by omega
       rw [hj]
       rw [hj] at h0 h1
       have hj1:(j:Int)≤(f.Fields.length:Int) - 1:=by omega
       have hj0:(0:Int)≤(j:Int):=by omega
       simp only [hj0,hj1,decide_true,Bool.and_self,Bool.not_true,c2,decide_false,Bool.false_eq_true,if_false,Option.bind_some,ak hjl,ak hc,gF,Option.some.injEq]
       by_cases he:f.Fields[j]=a.Consts[i] <;> simp [he,hjl]
    ·have c2:decide ((a.Consts.length:Int)≤(i:Int))=true:=decide_eq_true (by omega)
     rw [List.drop_of_length_le (show a.Consts.length≤i by omega),iC]
     simp [show a.Consts.length≤i by omega]
   ·have c1:decide ((i:Int) < (a.At.length:Int))=false:=decide_eq_false (by omega)
    rw [List.drop_of_length_le (show a.At.length≤i by omega)]
    simp only [c1,Bool.false_eq_true,if_false,iC]
 have l0:=lp N 0 (by omega) (by omega)
 rw [List.drop_zero,List.drop_zero,show ((0:Nat):Int)=0 from rfl] at l0
 unfold nu iv
 rw [l0]
 have hk:seq a.Kind f.Kind=seq f.Kind a.Kind:=by rw [jc,jc]; simp [eq_comm]
 rw [hk]
 have hd:decide (a.N=(f.Fields.length:Int))=decide ((f.Fields.length:Int)=a.N):=by rw [decide_eq_decide]; exact eq_comm
 rw [hd]
 cases seq f.Kind a.Kind <;> cases decide ((f.Fields.length:Int)=a.N) <;> simp
theorem tr {xs:List aP} {id:Int}:∀ (ps:List av) (row:List Int) (l:List aD),(fH xs (ps.take (row.length+1)) (row++[id]) l).2=true→∃ p,ps[row.length]?=some p∧iv (aK p) (aG xs id).1=true
 | [],row,l,h=>by
  cases row <;> simp [fH] at h
 | p :: ps,[],l,h=>by
  simp only [List.length_nil,Nat.zero_add,List.take_succ_cons,List.nil_append,fH] at h
  split at h
  ·rename_i hc
   exact ⟨p,rfl,xm hc.2⟩
  ·cases h
 | p :: ps,v :: row,l,h=>by
  simp only [List.length_cons,List.take_succ_cons,List.cons_append,fH] at h
  split at h
  ·have:=tr ps row _ h
   simpa using this
  ·cases h
theorem AJ {xs:List aP} {ps:List av} {row:List Int} {id:Int} {p:av} (hp:ps[row.length]?=some p) (h:iv (aK p) (aG xs id).1=false):ja xs ps row id=[]:=by
 unfold ja
 rw [if_neg]
 intro hk
 unfold okB at hk
 rw [List.length_append,List.length_cons,List.length_nil,Nat.zero_add] at hk
 obtain ⟨q,hq,h2⟩:=tr ps row [] hk
 rw [hp] at hq
 cases hq
 rw [h] at h2
 cases h2
theorem Fc {N:Nat} (hN:1099000000000≤N) (r:an) (c:ao) (m:ax) (at_:Int) (s:ah) (id:Int) (thr:List Bool) (row:aJ) (hz:SzS r s) (hpp:(pos r.Pats).length=ae r.Pats) (hrow:idx m.Rules at_=some row) (ok:xy m.Alphas r c row)
  (hir:∀ L,row.Levels[row.Levels.length - 1]?=some L→∀ t∈L.Toks,∀ x∈t.Hits,InR x)
  (hthr:∀ k,k < row.Levels.length→∃ a i b,idx c.Pos (k:Int)=some a∧idx m.Alphas a=some i∧idx thr a=some b∧(b=false→∀ row:List Int,row.length=k→ja s.Items (pos r.Pats) row id=[])) :
  lm N r c m at_ s id (aG s.Items id).1 thr=some ⟨m.Alphas,m.Rules.set at_.toNat ⟨(pG s.Items m.Alphas (aG s.Items id).1 id r c row).Levels⟩⟩:=by
 have hne:=ok.ne
 have hll:=ok.ll
 have hpl:=hz.pl
 have hpc:=fb r.Pats
 have ew:IntKind.i64.wrap ((row.Levels.length:Int) - 1)=((row.Levels.length - 1:Nat):Int):=by
  rw [show ((row.Levels.length:Int) - 1)=((row.Levels.length - 1:Nat):Int) by omega]
  exact wr (by omega) (by omega)
 have hlt:row.Levels.length - 1 < row.Levels.length:=by omega
 have hL:row.Levels[row.Levels.length - 1]?=some row.Levels[row.Levels.length - 1]:=List.getElem?_eq_getElem hlt
 have hlen:(row.Levels[row.Levels.length - 1]).Toks.length≤4294967296:=tE ok.fit _ (List.mem_map.2 ⟨_,List.getElem_mem hlt,rfl⟩)
 have hset:=y7 (M:=j8 s.Items (pos r.Pats) (neg r.Pats) (aG s.Items id).1 1 (row.Levels[row.Levels.length - 1]).Toks) hL (sO _)
 unfold lm
 rw [hrow,Option.bind_some,ew,ak hlt,Option.bind_some,Bf hN r s hz _ 1 (Or.inl rfl) _ hlen (fun t ht=>⟨by have:=ok.ids _ _ hL t ht; omega,ok.hit _ hL t ht,hir _ hL t ht⟩),Option.bind_some,Int.toNat_natCast]
 have h1:=zC hN r s hz c m at_ id thr row hll hne hpp (vM m.Alphas c) ok.al
  (fun k hk=>by
   obtain ⟨a,i,b,h1,h2,h3,h4⟩:=hthr k hk
   exact ⟨a,i,b,h1,h2,w3 h1 h2,h3,h4⟩)
  (row.Levels.set (row.Levels.length - 1) ⟨j8 s.Items (pos r.Pats) (neg r.Pats) (aG s.Items id).1 1 (row.Levels[row.Levels.length - 1]).Toks⟩) N [] [] [] (by rw [List.length_set]; omega) (by simp) (fun e=>absurd rfl e) (fun _=>⟨rfl,rfl⟩) (by simp) (by simp)
  (fun i L hi t ht=>by
   rw [List.length_nil,Nat.zero_add,Nat.add_comm]
   rw [List.getElem?_set] at hi
   split at hi
   ·rename_i e; subst e
    ·simp only [Option.some.injEq] at hi
     subst hi
     have h1:=wd (xs:=s.Items) (ps:=pos r.Pats) (ns:=neg r.Pats) (f:=(aG s.Items id).1) (b:=1) (row.Levels[row.Levels.length - 1]).Toks
     have h2:t.Ids∈(row.Levels[row.Levels.length - 1]).Toks.map (·.Ids):=by rw [← h1]; exact List.mem_map.2 ⟨t,ht,rfl⟩
     obtain ⟨u,hu,e⟩:=List.mem_map.1 h2
     rw [← e]; exact ok.ids _ _ hL u hu
   ·exact ok.ids i L hi t ht)
  (by simp) (by rw [hset]; exact ok.fit)
 simp only [List.nil_append,List.length_nil,Int.natCast_zero] at h1
 have h2:be N r c m at_ s id thr row N (row.Levels.set (row.Levels.length - 1) ⟨j8 s.Items (pos r.Pats) (neg r.Pats) (aG s.Items id).1 1 (row.Levels[row.Levels.length - 1]).Toks⟩) [] 0=_:=h1
 rw [h2]
 unfold pG lK
 rw [hL]
theorem zS {N:Nat} (hN:1099000000000≤N) (d:bm) (n:aO) (s:ah) (id:Int) (b:Bool) (as:List bk) (thr:List Bool) (hlr:d.Rules.length≤1048576) :
  ∀ (ws:List aJ) (rs:List an) (cs:List ao) (k:Nat) (dr:List an) (dc:List ao) (dw:List aJ),ws.length < k→d.Rules=dr++rs→n.Chains=dc++cs→dr.length=dw.length→dc.length=dw.length→rs.length=ws.length→cs.length=ws.length →
   (∀ (i:Nat) (r:an) (c:ao) (w:aJ),rs[i]?=some r→cs[i]?=some c→ws[i]?=some w→SzS r s∧(pos r.Pats).length=ae r.Pats∧xy as r c w∧(∀ L,w.Levels[w.Levels.length - 1]?=some L→∀ t∈L.Toks,∀ x∈t.Hits,InR x) ∧
    ∀ k,k < w.Levels.length→∃ a i b,idx c.Pos (k:Int)=some a∧idx as a=some i∧idx thr a=some b∧(b=false→∀ row:List Int,row.length=k→ja s.Items (pos r.Pats) row id=[])) →
   fa N d n s id ((aG s.Items id).1,b) as thr k (dw++ws) (dw.length:Int)=some ⟨as,dw++lZ (pG s.Items as (aG s.Items id).1 id) rs cs ws⟩
 | [],rs,cs,k,dr,dc,dw,hk,h1,h2,h4,h5,h6,h7,h8=>by
  obtain ⟨k,rfl⟩:∃ j,k=j+1:=⟨k - 1,by simp at hk; omega⟩
  have hr0:rs=[]:=List.length_eq_zero_iff.1 h6
  subst hr0
  have c1:decide ((dw.length:Int) < (d.Rules.length:Int))=false:=decide_eq_false (by rw [h1,← h4]; simp)
  simp only [fa,c1,Bool.false_eq_true,if_false,lZ]
 | w :: ws,[],cs,k,dr,dc,dw,hk,h1,h2,h4,h5,h6,h7,h8=>by simp at h6
 | w :: ws,r :: rs,[],k,dr,dc,dw,hk,h1,h2,h4,h5,h6,h7,h8=>by simp at h7
 | w :: ws,r :: rs,c :: cs,k,dr,dc,dw,hk,h1,h2,h4,h5,h6,h7,h8=>by
  obtain ⟨k,rfl⟩:∃ j,k=j+1:=⟨k - 1,by omega⟩
  simp only [List.length_cons] at hk h6 h7
  have hdl:d.Rules.length=dw.length+(rs.length+1):=by rw [h1,← h4]; simp
  have c1:decide ((dw.length:Int) < (d.Rules.length:Int))=true:=decide_eq_true (by omega)
  obtain ⟨q1,q2,q3,q4,q5⟩:=h8 0 r c w rfl rfl rfl
  have e1:idx d.Rules (dw.length:Int)=some r:=by rw [h1,← h4]; exact d4 _ _ _
  have e2:idx n.Chains (dw.length:Int)=some c:=by rw [h2,← h5]; exact d4 _ _ _
  simp only [fa,c1,if_true,Option.bind_some,e1,e2]
  rw [Fc hN r c ⟨as,dw++w :: ws⟩ (dw.length:Int) s id thr w q1 q2 (d4 _ _ _) q3 q4 q5]
  simp only [Option.bind_some,Int.toNat_natCast,iZ,wr1 dw.length (by omega)]
  have:=zS hN d n s id b as thr hlr ws rs cs k (dr++[r]) (dc++[c]) (dw++[⟨(pG s.Items as (aG s.Items id).1 id r c w).Levels⟩]) (by omega) (by rw [h1]; simp) (by rw [h2]; simp) (by simp [h4]) (by simp [h5]) (by omega) (by omega)
   (fun i r' c' w' a1 a2 a3=>h8 (i+1) r' c' w' (by simpa using a1) (by simpa using a2) (by simpa using a3))
  simp only [List.length_append,List.length_cons,List.length_nil,Nat.zero_add] at this
  rw [this,List.append_assoc]
  rfl
theorem zf {N:Nat} (hN:1099000000000≤N) (d:bm) (n:aO) (m:ax) (s:ah) (id:Int) (f:aA × Bool) (ha:∀ a∈n.Alphas,a.At.length≤1048576) (hl:n.Alphas.length≤1048576) (hf:f.1.Fields.length≤1048576) :
  ∀ (as:List ai) (k:Nat) (da:List ai) (di is:List bk),as.length < k→n.Alphas=da++as→di.length=da.length→is.length=as.length→(∀ i∈is,i.L.length+1≤4294967296) →
   ef N d n m s id f k (di++is) (da.map fun a=>iv a f.1) (da.length:Int)=fa N d n s id f (di++cW f.1 id as is) (n.Alphas.map fun a=>iv a f.1) N m.Rules 0
 | [],k,da,di,is,hk,h1,h2,h3,h4=>by
  obtain ⟨k,rfl⟩:∃ j,k=j+1:=⟨k - 1,by simp at hk; omega⟩
  have c1:decide ((da.length:Int) < (n.Alphas.length:Int))=false:=decide_eq_false (by rw [h1]; simp)
  have e:n.Alphas=da:=by rw [h1]; simp
  simp only [ef,c1,Bool.false_eq_true,if_false,cW]
  rw [e]
 | a :: as,k,da,di,[],hk,h1,h2,h3,h4=>by simp at h3
 | a :: as,k,da,di,i :: is,hk,h1,h2,h3,h4=>by
  obtain ⟨k,rfl⟩:∃ j,k=j+1:=⟨k - 1,by omega⟩
  simp only [List.length_cons] at hk h3
  have hal:n.Alphas.length=da.length+(as.length+1):=by rw [h1]; simp
  have c1:decide ((da.length:Int) < (n.Alphas.length:Int))=true:=decide_eq_true (by omega)
  have e1:idx n.Alphas (da.length:Int)=some a:=by rw [h1]; exact d4 _ _ _
  have e2:idx (di++i :: is) (da.length:Int)=some i:=by rw [← h2]; exact d4 _ _ _
  have ham:a∈n.Alphas:=by rw [h1]; simp
  have hil:=h4 i (by simp)
  have ih:=fun y=>zf hN d n m s id f ha hl hf as k (da++[a]) (di++[y]) is (by omega) (by rw [h1]; simp) (by simp [h2]) (by omega) (fun j hj=>h4 j (by simp [hj]))
  simp only [List.length_append,List.length_cons,List.length_nil,Nat.zero_add,List.append_assoc,List.cons_append,List.nil_append,List.map_append,List.map_cons,List.map_nil] at ih
  simp only [ef,c1,if_true,e1,Option.bind_some,B1 hN a f.1 (ha a ham) hf,wr1 da.length (by omega),cW,bj (show (da.map fun a=>iv a f.1).length+[iv a f.1].length≤4294967296 by simp; omega)]
  cases hp:iv a f.1 with
  | true=>
   rw [hp] at ih
   simp only [if_true,e2,Option.bind_some,bj (show i.L.length+[id].length≤4294967296 by simpa using hil)]
   have e3:(di++i :: is).set ((da.length:Int)).toNat (⟨i.L++[id]⟩:bk)=di++⟨i.L++[id]⟩ :: is:=by
    rw [Int.toNat_natCast,← h2,iZ,List.append_assoc]; rfl
   rw [e3]
   exact ih _
  | false=>
   rw [hp] at ih
   simp only [Bool.false_eq_true,if_false]
   exact ih i
theorem nO {f:aA} {id:Int}:∀ (as:List ai) (is:List bk),(cW f id as is).length=is.length
 | [],is=>by simp [cW]
 | a :: as,[]=>by simp [cW]
 | a :: as,i :: is=>by simp [cW,nO as is]
structure Bh (d:bm) (n:aO) (m:ax) (s:ah) (id:Int):Prop where
 ok:DI d n m s id
 ats:Ats n.Alphas n.Chains d.Rules
 rows:∀ (i:Nat) (r:an) (w:aJ),d.Rules[i]?=some r→m.Rules[i]?=some w→SzS r s∧(pos r.Pats).length=ae r.Pats∧∀ L,w.Levels[w.Levels.length - 1]?=some L→∀ t∈L.Toks,∀ x∈t.Hits,InR x
theorem DK {N:Nat} (hN:1099000000000≤N) (d:bm) (n:aO) (m:ax) (s:ah) (id:Int) (h:Bh d n m s id):kJ N d n m s id=some (Az d n m s id):=by
 have hal:=h.ok.al
 have hrl:=h.ok.rl
 have hld:=h.ok.ld
 have hla:=h.ok.la
 unfold kJ
 rw [rY hN s id h.ok.sl h.ok.fl,Option.bind_some]
 have h1:=zf hN d n m s id (aG s.Items id) h.ok.at_ h.ok.al (yZ h.ok.fl id) n.Alphas N [] [] m.Alphas (by omega) rfl rfl h.ok.la h.ok.il
 simp only [List.nil_append,List.length_nil,Int.natCast_zero,List.map_nil] at h1
 have h1':ef N d n m s id (aG s.Items id) N m.Alphas [] 0=_:=h1
 rw [h1']
 have h2:=zS hN d n s id (aG s.Items id).2 (cW (aG s.Items id).1 id n.Alphas m.Alphas) (n.Alphas.map fun a=>iv a (aG s.Items id).1) (by omega) m.Rules d.Rules n.Chains N [] [] [] (by omega) rfl rfl rfl rfl h.ok.ld h.ok.lc
  (fun i r c w g1 g2 g3=>by
   obtain ⟨q1,q2⟩:=h.ok.rows i r c w g1 g2 g3
   obtain ⟨q3,q4,q5⟩:=h.rows i r w g1 g3
   refine ⟨q3,q4,q2,q5,fun k hk=>?_⟩
   obtain ⟨hi,hr⟩:=List.getElem?_eq_some_iff.1 g1
   obtain ⟨hi',hc⟩:=List.getElem?_eq_some_iff.1 g2
   have hat:=(h.ats.get i hi' hi).1
   rw [hc,hr] at hat
   have hkp:k < (pos r.Pats).length:=by rw [← q2.ll]; exact hk
   have hkc:k < c.Pos.length:=by rw [hat.len]; exact hkp
   have e1:=hat.get k hkc hkp
   obtain ⟨a0,a1,e⟩:=a9 e1
   have hlt:c.Pos[k].toNat < (cW (aG s.Items id).1 id n.Alphas m.Alphas).length:=by
    rw [nO,hla]
    obtain ⟨q,_⟩:=List.getElem?_eq_some_iff.1 e
    exact q
   have ecp:c.Pos[k]=((c.Pos[k].toNat:Nat):Int):=by omega
   refine ⟨c.Pos[k],_,iv (aK (pos r.Pats)[k]) (aG s.Items id).1,ak hkc,by rw [ecp]; exact ak hlt,?_,fun hb row hrow=>?_⟩
   ·have:(n.Alphas.map fun a=>iv a (aG s.Items id).1)[c.Pos[k].toNat]?=some (iv (aK (pos r.Pats)[k]) (aG s.Items id).1):=by
     rw [List.getElem?_map,e]; rfl
    unfold idx
    rw [if_pos a0]
    exact this
   ·exact AJ (by rw [hrow]; exact List.getElem?_eq_getElem hkp) hb)
 simp only [List.nil_append,List.length_nil,Int.natCast_zero] at h2
 exact h2
def zX (ps ns:List av) (i:Nat) (t:af):Prop:=t.Ids.length=i+1∧t.Hits.length≤ns.length∧(i+1=ps.length→t.Hits.length=ns.length∧∀ x∈t.Hits,InR x)
def Ee (ps ns:List av) (j i:Nat) (L:aj):Prop:=L.Toks.length≤j*100 ^ i∧∀ t∈L.Toks,zX ps ns i t
def yG (r:an) (j:Nat) (w:aJ):Prop:=w.Levels.length=(pos r.Pats).length∧∀ i L,w.Levels[i]?=some L→Ee (pos r.Pats) (neg r.Pats) j i L
theorem Ag {xs:List aP} {ps ns:List av} {row:List Int} {id:Int} (hx:xs.length≤1048576):∀ t∈n9 xs ps ns row id,zX ps ns row.length t:=by
 intro t ht
 unfold n9 at ht
 split at ht
 ·simp only [List.mem_singleton] at ht
  subst ht
  refine ⟨by simp,?_,fun e=>?_⟩
  ·simp only
   split
   ·simp [gK]
   ·simp
  ·simp only [e,if_true]
   refine ⟨by simp [gK],fun x hx'=>?_⟩
   unfold gK at hx'
   obtain ⟨p,_,rfl⟩:=List.mem_map.1 hx'
   have:=zm p (okB xs ps (row++[id])).1 xs
   exact wr (by omega) (by omega)
 ·cases ht
theorem t6 {xs:List aP} {ps ns:List av} {row ids:List Int} (hx:xs.length≤1048576):∀ t∈gq xs ps ns row ids,zX ps ns row.length t:=by
 intro t ht
 unfold gq at ht
 obtain ⟨v,_,h⟩:=List.mem_flatMap.1 ht
 exact Ag hx t h
theorem zY {xs:List aP} {ps ns:List av} {id:Int} {k:Nat} {B F:List af} {A:List Int} (hx:xs.length≤1048576) (hB:∀ t∈B,t.Ids.length=k) (hF:∀ t∈F,t.Ids.length=k):∀ t∈jb xs ps ns id k B F A,zX ps ns k t:=by
 intro t ht
 unfold jb at ht
 split at ht
 ·rename_i e
  subst e
  exact t6 hx t ht
 ·rcases List.mem_append.1 ht with ht | ht
  ·obtain ⟨u,hu,h⟩:=List.mem_flatMap.1 ht
   have:=t6 hx t h
   rwa [hB u hu] at this
  ·obtain ⟨u,hu,h⟩:=List.mem_flatMap.1 ht
   have:=t6 hx t h
   rwa [hF u hu] at this
theorem xz {j k b f a:Nat} (hj:j≤40) (ha:a≤41) (h:k≠0→b≤j*100 ^ (k - 1)∧f≤100 ^ (k - 1)):(if k=0 then 1 else b+f*a)≤100 ^ k:=by
 split
 ·rename_i e; subst e; exact Nat.le_refl _
 ·rename_i e
  obtain ⟨k,rfl⟩:∃ m,k=m+1:=⟨k - 1,by omega⟩
  obtain ⟨h1,h2⟩:=h e
  simp only [Nat.add_sub_cancel] at h1 h2
  have h3:f*a≤100 ^ k*41:=Nat.mul_le_mul h2 ha
  have h4:j*100 ^ k≤40*100 ^ k:=Nat.mul_le_mul_right _ hj
  rw [Nat.pow_succ]
  omega
theorem wn {xs:List aP} {ps ns:List av} {id:Int} {A:Nat→List Int} {j:Nat} (hj:j≤40) (hA:∀ k,(A k).length≤41) (hx:xs.length≤1048576):∀ (ls:List aj) (k:Nat) (B F:List af),(k≠0→B.length≤j*100 ^ (k - 1)∧F.length≤100 ^ (k - 1))→(∀ t∈B,t.Ids.length=k)→(∀ t∈F,t.Ids.length=k) →
  (∀ i L,ls[i]?=some L→Ee ps ns j (k+i) L)→(nY xs ps ns id A k ls B F).length=ls.length∧∀ i L,(nY xs ps ns id A k ls B F)[i]?=some L→Ee ps ns (j+1) (k+i) L
 | [],k,B,F,h1,h2,h3,h4=>⟨rfl,fun i L h=>by simp [nY] at h⟩
 | M :: Ls,k,B,F,h1,h2,h3,h4=>by
  have hm:=Nat.le_trans (sZ xs ps ns id k B F (A k)) (xz hj (hA k) h1)
  have ht:=zY (xs:=xs) (ps:=ps) (ns:=ns) (id:=id) (A:=A k) hx h2 h3
  have hM:=h4 0 M rfl
  obtain ⟨hM1,hM2⟩:=hM
  simp only [Nat.add_zero] at hM1 hM2
  have ih:=wn (xs:=xs) (ps:=ps) (ns:=ns) (id:=id) (A:=A) hj hA hx Ls (k+1) M.Toks (jb xs ps ns id k B F (A k)) (fun _=>⟨by simpa using hM1,by simpa using hm⟩) (fun t h=>(hM2 t h).1) (fun t h=>(ht t h).1) (fun i L h=>by
   have:=h4 (i+1) L (by simpa using h)
   rwa [show k+(i+1)=k+1+i by omega] at this)
  unfold nY
  refine ⟨by simp [ih.1],fun i L h=>?_⟩
  cases i with
  | zero=>
   simp only [List.getElem?_cons_zero,Option.some.injEq] at h
   subst h
   refine ⟨?_,fun t h=>?_⟩
   ·simp only [List.length_append,Nat.add_zero,Nat.succ_mul]; omega
   ·rcases List.mem_append.1 h with h | h
    ·exact hM2 t h
    ·exact ht t h
  | succ i=>
   have:=ih.2 i L (by simpa using h)
   rwa [show k+1+i=k+(i+1) by omega] at this
theorem CG (n:Int):InR (IntKind.i64.wrap n):=by
 have e1:(2:Int) ^ 64=18446744073709551616:=by decide
 have e2:(2:Int) ^ (64 - 1)=9223372036854775808:=by decide
 unfold InR
 apply wr
 ·simp only [IntKind.wrap,IntKind.bits,IntKind.signed,e1,e2,Bool.true_and,decide_eq_true_eq]
  split <;> omega
 ·simp only [IntKind.wrap,IntKind.bits,IntKind.signed,e1,e2,Bool.true_and,decide_eq_true_eq]
  split <;> omega
theorem yf {f:aA} {l:List aD} {b:Int}:∀ (ns:List av) (h:List Int),(∀ x∈h,InR x)→∀ x∈kx f l b ns h,InR x
 | p :: ns,y :: h,hh,x,hx=>by
  unfold kx at hx
  rcases List.mem_cons.1 hx with rfl | hx
  ·split
   ·exact CG _
   ·exact hh y (by simp)
  ·exact yf ns h (fun z hz=>hh z (by simp [hz])) x hx
 | [],h,hh,x,hx=>by
  have:kx f l b [] h=h:=by cases h <;> rfl
  rw [this] at hx; exact hh x hx
 | p :: ns,[],hh,x,hx=>by simp [kx] at hx
theorem Ai {xs:List aP} {ps ns:List av} {f:aA} {b:Int} {i:Nat} {toks:List af} (h:∀ t∈toks,zX ps ns i t):∀ t∈j8 xs ps ns f b toks,zX ps ns i t:=by
 intro t ht
 unfold j8 at ht
 obtain ⟨u,hu,rfl⟩:=List.mem_map.1 ht
 obtain ⟨h1,h2,h3⟩:=h u hu
 split
 ·exact ⟨h1,by simp only [t5]; exact h2,fun e=>⟨by simp only [t5]; exact (h3 e).1,yf _ _ (h3 e).2⟩⟩
 ·exact ⟨h1,h2,h3⟩
theorem rJ {xs:List aP} {r:an} {f:aA} {b:Int} {j:Nat} {w:aJ} (h:yG r j w):yG r j (lK xs (pos r.Pats) (neg r.Pats) f b w):=by
 obtain ⟨h1,h2⟩:=h
 unfold lK
 split
 ·rename_i L hL
  refine ⟨by simpa using h1,fun i M hM=>?_⟩
  simp only at hM
  rw [List.getElem?_set] at hM
  split at hM
  ·rename_i e
   split at hM
   ·simp only [Option.some.injEq] at hM
    subst hM
    subst e
    obtain ⟨a,b⟩:=h2 _ L hL
    exact ⟨by simpa [sO] using a,Ai b⟩
   ·cases hM
  ·exact h2 i M hM
 ·exact ⟨h1,h2⟩
theorem uE {as:List bk} {B:Nat} (h:∀ i∈as,i.L.length≤B) (c:ao) (k:Nat):(vM as c k).length≤B:=by
 unfold vM
 split
 ·split
  ·rename_i i hi
   obtain ⟨_,_,e⟩:=a9 hi
   exact h i (List.mem_of_getElem? e)
  ·simp
 ·simp
theorem Ar {xs:List aP} {as:List bk} {f:aA} {id:Int} {r:an} {c:ao} {j:Nat} {w:aJ} (hj:j≤40) (hA:∀ i∈as,i.L.length≤41) (hx:xs.length≤1048576) (h:yG r j w):yG r (j+1) (pG xs as f id r c w):=by
 obtain ⟨h1,h2⟩:=rJ (xs:=xs) (f:=f) (b:=1) h
 have:=wn (xs:=xs) (ps:=pos r.Pats) (ns:=neg r.Pats) (id:=id) (A:=vM as c) hj (uE hA c) hx (lK xs (pos r.Pats) (neg r.Pats) f 1 w).Levels 0 [] [] (fun e=>absurd rfl e) (by simp) (by simp) (fun i L h=>by rw [Nat.zero_add]; exact h2 i L h)
 unfold pG
 exact ⟨by rw [this.1]; exact h1,fun i L h=>by have:=this.2 i L h; rwa [Nat.zero_add] at this⟩
theorem zn {A:Nat→Nat} {j:Nat} (hj:j≤40) (hA:∀ k,A k≤41):∀ (ls:List Nat) (k b f:Nat),(k≠0→b≤j*100 ^ (k - 1)∧f≤100 ^ (k - 1))→(∀ i l,ls[i]?=some l→l≤j*100 ^ (k+i))→k+ls.length≤4→sA A k ls b f
 | [],k,b,f,h1,h2,h3=>trivial
 | l :: ls,k,b,f,h1,h2,h3=>by
  simp only [List.length_cons] at h3
  have hm:=xz hj (hA k) h1
  have hl:=h2 0 l rfl
  rw [Nat.add_zero] at hl
  have hp:100 ^ k≤1000000:=by
   have:100 ^ k≤100 ^ 3:=Nat.pow_le_pow_right (by omega) (by omega)
   simpa using this
  have hl':j*100 ^ k≤40*1000000:=Nat.mul_le_mul hj hp
  refine ⟨by omega,zn hj hA ls (k+1) l _ (fun _=>⟨by simpa using hl,by simpa using hm⟩) (fun i l' h=>?_) (by omega)⟩
  have:=h2 (i+1) l' (by simpa using h)
  rwa [show k+(i+1)=k+1+i by omega] at this
theorem uq {g:an→ao→aJ→aJ}:∀ (rs:List an) (cs:List ao) (ws:List aJ),rs.length=ws.length→cs.length=ws.length→(lZ g rs cs ws).length=ws.length∧∀ (i:Nat) (v:aJ),(lZ g rs cs ws)[i]?=some v→∃ (r:an) (c:ao) (w:aJ),rs[i]?=some r∧cs[i]?=some c∧ws[i]?=some w∧v=g r c w
 | [],cs,[],_,_=>⟨by simp [lZ],fun i v h=>by simp [lZ] at h⟩
 | r :: rs,[],w :: ws,_,h=>by simp at h
 | r :: rs,c :: cs,w :: ws,h1,h2=>by
  have ih:=uq (g:=g) rs cs ws (by simpa using h1) (by simpa using h2)
  unfold lZ
  refine ⟨by simp [ih.1],fun i v h=>?_⟩
  cases i with
  | zero=>exact ⟨r,c,w,rfl,rfl,rfl,by simpa using h.symm⟩
  | succ i=>
   obtain ⟨a,b,c',e1,e2,e3,e4⟩:=ih.2 i v (by simpa using h)
   exact ⟨a,b,c',by simpa using e1,by simpa using e2,by simpa using e3,e4⟩
theorem pX {f:aA} {id:Int} {B:Nat}:∀ (as:List ai) (is:List bk),(∀ i∈is,i.L.length≤B)→∀ i∈cW f id as is,i.L.length≤B+1
 | [],is,h,i,hi=>by
  have:cW f id [] is=is:=by cases is <;> rfl
  rw [this] at hi
  have:=h i hi; omega
 | a :: as,[],h,i,hi=>by simp [cW] at hi
 | a :: as,y :: is,h,i,hi=>by
  unfold cW at hi
  rcases List.mem_cons.1 hi with rfl | hi
  ·have:=h y (by simp)
   split
   ·simpa using this
   ·omega
  ·exact pX as is (fun z hz=>h z (by simp [hz])) i hi
structure tZ (d:bm) (n:aO) (j:Nat) (m:ax):Prop where
 la:m.Alphas.length=n.Alphas.length
 lr:m.Rules.length=d.Rules.length
 al:∀ i∈m.Alphas,i.L.length≤j
 rows:∀ (i:Nat) (r:an) (w:aJ),d.Rules[i]?=some r→m.Rules[i]?=some w→yG r j w
theorem yh {d:bm} {n:aO} {m:ax} {s:ah} {id:Int} {j:Nat} (hj:j≤40) (hs:s.Items.length≤1048576) (hc:n.Chains.length=d.Rules.length) (h:tZ d n j m):tZ d n (j+1) (Az d n m s id):=by
 have h1:=pX (f:=(aG s.Items id).1) (id:=id) n.Alphas m.Alphas h.al
 have h2:=uq (g:=pG s.Items (cW (aG s.Items id).1 id n.Alphas m.Alphas) (aG s.Items id).1 id) d.Rules n.Chains m.Rules h.lr.symm (by rw [hc,h.lr])
 refine ⟨?_,?_,h1,?_⟩
 ·show (cW _ _ _ _).length=_
  rw [nO]; exact h.la
 ·show (lZ _ _ _ _).length=_
  rw [h2.1]; exact h.lr
 ·intro i r v e1 e2
  obtain ⟨r',c,w,a1,a2,a3,rfl⟩:=h2.2 i v e2
  rw [e1] at a1
  cases a1
  exact Ar hj (fun y hy=>by have:=h1 y hy; omega) hs (h.rows i r w e1 a3)
theorem yO {d:bm} {n:aO} (h:Ats n.Alphas n.Chains d.Rules):tZ d n 0 (vc n):=by
 unfold vc
 refine ⟨by simp,by simp [h.len],fun i hi=>?_,fun i r w e1 e2=>?_⟩
 ·rw [(List.mem_replicate.1 hi).2]; simp
 ·simp only [List.getElem?_map,Option.map_eq_some_iff] at e2
  obtain ⟨c,hc,rfl⟩:=e2
  obtain ⟨hi,hr⟩:=List.getElem?_eq_some_iff.1 e1
  obtain ⟨hi',hc⟩:=List.getElem?_eq_some_iff.1 hc
  have hat:=(h.get i hi' hi).1
  rw [hc,hr] at hat
  refine ⟨by simp only [ri,List.length_replicate]; exact hat.len,fun k L hL=>?_⟩
  simp only [ri] at hL
  obtain ⟨_,e⟩:=List.getElem?_eq_some_iff.1 hL
  rw [List.getElem_replicate] at e
  subst e
  exact ⟨by simp,by simp⟩
theorem uj {d:bm} {m:ax} {s:ah} {id:Int} {j:Nat} (hd:gC d=true) (hsz:pL d) (hs:s.Items.length≤40) (hf:∀ x∈s.Items,x.F.Fields.length≤1048576) (hj:j≤40) (h:tZ d (cm d) j m):Bh d (cm d) m s id:=by
 have hnd:=mC hd
 obtain ⟨_,hats,hal⟩:=oq hnd
 obtain ⟨⟨z1,z2⟩,z3,z4⟩:=uS hnd
 have hA:=pX (f:=(aG s.Items id).1) (id:=id) (cm d).Alphas m.Alphas h.al
 have hA':∀ i∈cW (aG s.Items id).1 id (cm d).Alphas m.Alphas,i.L.length≤41:=fun i hi=>by have:=hA i hi; omega
 have hrl:d.Rules.length≤1048576:=hsz.2.1
 have hr:∀ r∈d.Rules,r.Pats.length≤6∧1≤(pos r.Pats).length∧(pos r.Pats).length≤3∧(pos r.Pats).length=ae r.Pats∧pos r.Pats=r.Pats.take (ae r.Pats)∧eX r.Pats≤1048576∧∀ p∈r.Pats,p.Args.length≤1048576:=fun r hr=>by
  have ho:=rD hd r hr
  have hp:iw r.Pats=true:=by
   unfold jr at ho
   simp only [Bool.and_eq_true] at ho
   exact ho.2.2.1
  have hfl:=y0 hp
  have hfc:(pos r.Pats).length=ae r.Pats:=pu r.Pats
  unfold iw at hp
  simp only [Bool.and_eq_true,decide_eq_true_eq] at hp
  obtain ⟨⟨_,p1⟩,⟨p2,p3⟩,_⟩:=hp
  obtain ⟨_,⟨_,g1⟩,_,_,g2,_⟩:=hsz.2.2 r hr
  exact ⟨p1,by omega,by omega,hfc,hfl,g2,fun p hp=>(g1 p hp).2.1⟩
 have hmem:∀ (i:Nat) (r:an),d.Rules[i]?=some r→r∈d.Rules:=fun i r e=>List.mem_of_getElem? e
 refine ⟨⟨by omega,hf,fun a ha=>(z2 a ha).2,z1,by rw [h.lr]; exact hrl,h.la,by rw [hats.len,h.lr],h.lr.symm,fun i hi=>by have:=h.al i hi; omega,fun i r c w g1 g2 g3=>?_⟩,hats,fun i r w g1 g3=>?_⟩
 ·obtain ⟨q1,q2,q3,q4,q5,q6,q7⟩:=hr r (hmem i r g1)
  obtain ⟨k1,k2⟩:=h.rows i r w g1 g3
  refine ⟨⟨by omega,q6,q7⟩,⟨by omega,k1,fun i L hL t ht=>((k2 i L hL).2 t ht).1,fun L hL t ht=>(((k2 _ L hL).2 t ht).2.2 (by omega)).1,fun k hk=>?_,?_,fun k=>by have:=uE hA' c k; omega⟩⟩
  ·obtain ⟨hi,hrr⟩:=List.getElem?_eq_some_iff.1 g1
   obtain ⟨hi',hcc⟩:=List.getElem?_eq_some_iff.1 g2
   have hat:=(hats.get i hi' hi).1
   rw [hcc,hrr] at hat
   have hkp:k < (pos r.Pats).length:=by omega
   have hkc:k < c.Pos.length:=by rw [hat.len]; exact hkp
   have e1:=hat.get k hkc hkp
   obtain ⟨a0,a1,e⟩:=a9 e1
   obtain ⟨q,_⟩:=List.getElem?_eq_some_iff.1 e
   have hlt:c.Pos[k].toNat < (cW (aG s.Items id).1 id (cm d).Alphas m.Alphas).length:=by rw [nO,h.la]; exact q
   have ecp:c.Pos[k]=((c.Pos[k].toNat:Nat):Int):=by omega
   exact ⟨c.Pos[k],_,ak hkc,by rw [ecp]; exact ak hlt⟩
  ·refine zn hj (uE hA' c) _ 0 0 0 (fun e=>absurd rfl e) (fun i l hl=>?_) (by simp; omega)
   rw [List.getElem?_map,Option.map_eq_some_iff] at hl
   obtain ⟨L,hL,rfl⟩:=hl
   rw [Nat.zero_add]
   exact (k2 i L hL).1
 ·obtain ⟨q1,q2,q3,q4,q5,q6,q7⟩:=hr r (hmem i r g1)
  obtain ⟨k1,k2⟩:=h.rows i r w g1 g3
  exact ⟨⟨by omega,q6,q7,by omega,hf,q5⟩,q4,fun L hL t ht=>(((k2 _ L hL).2 t ht).2.2 (by omega)).2⟩
theorem Cw {N:Nat} (p:aO) (s3:List aJ) (s4:Nat) (K:List aJ→Int→Option ax) (h4:s4 < p.Chains.length) (hl:p.Chains[s4].Pos.length≤1048576) (hs:s3.length≤s4) (hc:p.Chains.length≤1048576):∀ (n i:Nat),i≤p.Chains[s4].Pos.length→p.Chains[s4].Pos.length - i < n →
  ie N p s3 s4 K n (List.replicate i ⟨[]⟩) i=K (s3++[ri p.Chains[s4]]) ((s4+1:Nat):Int):=by
 intro n
 induction n with
 | zero=>intro i _ h; omega
 | succ n ih=>
  intro i hi hn
  simp only [ie,ak h4,Option.bind_some]
  by_cases hlt:i < p.Chains[s4].Pos.length
  ·have c1:decide ((i:Int) < (p.Chains[s4].Pos.length:Int))=true:=decide_eq_true (by omega)
   simp only [c1,if_true,bj (show (List.replicate i (⟨[]⟩:aj)).length+[(⟨[]⟩:aj)].length≤4294967296 by simp; omega),Option.bind_some,wr1 i (by omega)]
   have:=ih (i+1) (by omega) (by omega)
   rw [List.replicate_succ'] at this
   exact this
  ·have c1:decide ((i:Int) < (p.Chains[s4].Pos.length:Int))=false:=decide_eq_false (by omega)
   have hi':i=p.Chains[s4].Pos.length:=by omega
   simp only [c1,Bool.false_eq_true,if_false,bj (show s3.length+[(⟨List.replicate i ⟨[]⟩⟩:aJ)].length≤4294967296 by simp; omega),Option.bind_some,wr1 s4 (by omega)]
   rw [hi']; rfl
theorem CY {N:Nat} (hN:1099000000000≤N) (p:aO) (as:List bk) (hc:p.Chains.length≤1048576) (hp:∀ c∈p.Chains,c.Pos.length≤1048576):∀ (n i:Nat),i≤p.Chains.length→p.Chains.length - i < n →
  ee N p as n ((p.Chains.take i).map ri) i=some ⟨as,p.Chains.map ri⟩:=by
 intro n
 induction n with
 | zero=>intro i _ h; omega
 | succ n ih=>
  intro i hi hn
  simp only [ee]
  by_cases hlt:i < p.Chains.length
  ·have c1:decide ((i:Int) < (p.Chains.length:Int))=true:=decide_eq_true (by omega)
   have hm:=hp _ (List.getElem_mem hlt)
   have:=Cw (N:=N) p ((p.Chains.take i).map ri) i (ee N p as n) hlt hm (by simp; omega) hc N 0 (by omega) (by omega)
   have ih1:=ih (i+1) (by omega) (by omega)
   have ht:(p.Chains.take (i+1)).map ri=(p.Chains.take i).map ri++[ri p.Chains[i]]:=by
    rw [List.take_succ_eq_append_getElem hlt,List.map_append]; rfl
   rw [ht] at ih1
   simp only [c1,if_true]; rw [← ih1]; exact this
  ·have c1:decide ((i:Int) < (p.Chains.length:Int))=false:=decide_eq_false (by omega)
   simp only [c1,Bool.false_eq_true,if_false]
   rw [List.take_of_length_le (by omega)]
theorem Cz {N:Nat} (p:aO) (ha:p.Alphas.length≤1048576):∀ (n i:Nat),i≤p.Alphas.length→p.Alphas.length - i < n →
  iq N p n (List.replicate i ⟨[]⟩) i=ee N p (List.replicate p.Alphas.length ⟨[]⟩) N [] 0:=by
 intro n
 induction n with
 | zero=>intro i _ h; omega
 | succ n ih=>
  intro i hi hn
  simp only [iq]
  by_cases hlt:i < p.Alphas.length
  ·have c1:decide ((i:Int) < (p.Alphas.length:Int))=true:=decide_eq_true (by omega)
   simp only [c1,if_true,bj (show (List.replicate i (⟨[]⟩:bk)).length+[(⟨[]⟩:bk)].length≤4294967296 by simp; omega),Option.bind_some,wr1 i (by omega)]
   have:=ih (i+1) (by omega) (by omega)
   rw [List.replicate_succ'] at this
   exact this
  ·have c1:decide ((i:Int) < (p.Alphas.length:Int))=false:=decide_eq_false (by omega)
   have hi':i=p.Alphas.length:=by omega
   simp only [c1,Bool.false_eq_true,if_false]
   rw [hi']
theorem Bp {N:Nat} (hN:1099000000000≤N) (p:aO) (ha:p.Alphas.length≤1048576) (hc:p.Chains.length≤1048576) (hp:∀ c∈p.Chains,c.Pos.length≤1048576):mL N p=some (vc p):=by
 have a:=Cz (N:=N) p ha N 0 (by omega) (by omega)
 have b:=CY hN p (List.replicate p.Alphas.length ⟨[]⟩) hc hp N 0 (by omega) (by omega)
 unfold mL vc; exact a.trans b
theorem EF {N:Nat} (hN:1099000000000≤N) (f:aA) (h:uw f):mN N f=some (rC f):=by
 obtain ⟨h1,h2,h3⟩:=h
 unfold mN rC pB
 have d1:decide ((f.Fields.length:Int)≤5)=decide (f.Fields.length≤5):=by rw [decide_eq_decide]; omega
 have l1:dY N f.Fields N 0=some (f.Fields.all ow && decide (f.Fields.length≤5)):=lp0 hN f.Fields (by omega) (dY N f.Fields) (fun t=>some (t.all ow && decide (f.Fields.length≤5))) (fun n i x t g1 g2 g3 g4 g5 g6 g7=>by
  simp only [dY,g5,if_true,g4,Option.bind_some,DH (show 1048578≤N by omega) x (h3 x g2),zg (show 1048578≤N by omega) x (h3 x g2),g6,g7,List.all_cons]
  cases ow x <;> simp) (fun n i g1 g2=>by simp only [dY,g2,Bool.false_eq_true,if_false,d1]; rfl)
 simp only [oz hN _ h1,Option.bind_some,l1,lh]
theorem A2 {done t:List aP} {x:aP} (h:∀ y∈done,y.Id < x.Id):decide (xq (done++x :: t) x.F=x.Id)=done.all fun y=>!decide (x.F=y.F):=by
 induction done with
 | nil=>
  rw [List.nil_append,sR,if_pos rfl]; simp
 | cons y d ih=>
  rw [List.cons_append,sR,List.all_cons]
  by_cases he:y.F=x.F
  ·have:=h y (by simp)
   rw [if_pos he]
   have e2:decide (x.F=y.F)=true:=decide_eq_true he.symm
   rw [e2,decide_eq_false (by omega)]; simp
  ·rw [if_neg he,ih fun z hz=>h z (by simp [hz])]
   have e2:decide (x.F=y.F)=false:=decide_eq_false (fun e=>he e.symm)
   rw [e2]; simp
theorem CA {N:Nat} (hN:1099000000000≤N) (s:ah) (h:o2 s):lD N s=some (nW s):=by
 obtain ⟨h1,h2⟩:=h
 unfold lD nW
 have d1:decide ((40:Int) < (s.Items.length:Int)) = !decide (s.Items.length≤40):=by rw [← decide_not,decide_eq_decide]; omega
 have lp:∀ (n i:Nat),i≤s.Items.length→s.Items.length - i < n→(∀ y∈s.Items.take i,∀ z,(s.Items.take i).getLast?=some z→y.Id≤z.Id)→fA N s n i=some (nR s.Next (s.Items.take i) (s.Items.drop i)):=by
  intro n
  induction n with
  | zero=>intro i _ h; omega
  | succ n ih=>
   intro i hi hm hup
   simp only [fA]
   by_cases hlt:i < s.Items.length
   ·have c1:decide ((i:Int) < (s.Items.length:Int))=true:=decide_eq_true (by omega)
    have hf:=h2 _ (List.getElem_mem hlt)
    have hprev:(if decide (0 < (i:Int))=true then (idx s.Items (IntKind.i64.wrap ((i:Int) - 1))).bind fun x5=>some (decide (s.Items[i].Id≤x5.Id)) else some false)=some (!(ir (s.Items.take i) s.Items[i].Id)):=by
     by_cases h0:0 < i
     ·have e1:IntKind.i64.wrap ((i:Int) - 1)=((i - 1:Nat):Int):=by rw [wr (by omega) (by omega)]; omega
      unfold ir; rw [xW h0 hi,decide_eq_true (show (0:Int) < (i:Int) by omega),e1]
      simp only [if_true,ak (show i - 1 < s.Items.length by omega),Option.bind_some]
      rw [← decide_not]; congr 1; rw [decide_eq_decide]; omega
     ·have:i=0:=by omega
      subst this
      simp [ir]
    have htk:s.Items.take (i+1)=s.Items.take i++[s.Items[i]]:=List.take_succ_eq_append_getElem hlt
    have hall:s.Items=s.Items.take i++s.Items[i] :: s.Items.drop (i+1):=by
     rw [← List.drop_eq_getElem_cons hlt,List.take_append_drop]
    rw [List.drop_eq_getElem_cons hlt,nR,← htk]
    simp only [c1,if_true,ak hlt,Option.bind_some,EF hN _ hf,hprev,wU hN s s.Items[i].F (by omega) (fun x hx=>(h2 x hx).2.1),wr1 i (by omega)]
    cases rC s.Items[i].F with
    | false=>simp
    | true=>
     by_cases hid:1≤s.Items[i].Id
     ·by_cases hnx:s.Items[i].Id < s.Next
      ·have e1:decide (s.Items[i].Id < 1)=false:=decide_eq_false (by omega)
       have e2:decide (s.Next≤s.Items[i].Id)=false:=decide_eq_false (by omega)
       rw [e1,e2,decide_eq_true hid,decide_eq_true hnx]
       cases hl:(ir (s.Items.take i) s.Items[i].Id) with
       | false=>simp
       | true=>
        have hlow:∀ y∈s.Items.take i,y.Id < s.Items[i].Id:=by
         intro y hy
         cases hg:(s.Items.take i).getLast? with
         | none=>rw [List.getLast?_eq_none_iff] at hg; rw [hg] at hy; cases hy
         | some z=>
          unfold ir at hl
          rw [hg] at hl
          have:=of_decide_eq_true hl
          have:=hup y hy z hg
          omega
        have hd:=A2 (t:=s.Items.drop (i+1)) hlow
        rw [← hall] at hd
        have ih1:=ih (i+1) (by omega) (by omega) (by
         intro y hy z hz
         rw [htk] at hy hz
         rw [List.getLast?_concat] at hz
         have hz:=Option.some.inj hz
         rcases List.mem_append.1 hy with hy | hy
         ·have:=hlow y hy; rw [← hz]; omega
         ·simp at hy; rw [hy,← hz]; exact Int.le_refl _)
        simp only [Bool.not_true,Bool.false_eq_true,if_false,Option.bind_some,hd,ih1,Bool.true_and,Bool.and_self]
        cases (s.Items.take i).all fun y=>!decide (s.Items[i].F=y.F) <;> simp
      ·have e2:decide (s.Next≤s.Items[i].Id)=true:=decide_eq_true (by omega)
       rw [e2,decide_eq_false hnx]
       cases decide (s.Items[i].Id < 1) <;> simp
     ·have e1:decide (s.Items[i].Id < 1)=true:=decide_eq_true (by omega)
      rw [e1,decide_eq_false hid]
      simp
   ·have c1:decide ((i:Int) < (s.Items.length:Int))=false:=decide_eq_false (by omega)
    rw [List.drop_of_length_le (by omega)]
    simp only [c1,Bool.false_eq_true,if_false]; rfl
 have l0:=lp N 0 (by omega) (by omega) (by simp)
 rw [List.take_zero,List.drop_zero,show ((0:Nat):Int)=0 from rfl] at l0
 simp only [in0,Option.bind_some,d1,l0]
 cases (decide (1≤s.Next) && decide (s.Next≤1000000)) <;> cases decide (s.Items.length≤40) <;> simp
theorem FA {N:Nat} (hN:1099000000000≤N) (f:aA) (h:uw f):nI N f=some (rC f):=by
 obtain ⟨h1,h2,h3⟩:=h
 unfold nI rC
 have l1:dS N f N 0=some (f.Fields.all ow):=lp0 hN f.Fields (by omega) (dS N f) (fun t=>some (t.all ow)) (fun n i x t g1 g2 g3 g4 g5 g6 g7=>by
  simp only [dS,g5,if_true,g4,Option.bind_some,zg (show 1048578≤N by omega) x (h3 x g2),g6,g7,List.all_cons]
  cases ow x <;> simp) (fun n i g1 g2=>by simp only [dS,g2,Bool.false_eq_true,if_false]; rfl)
 have d1:decide ((5:Int) < (f.Fields.length:Int)) = !decide (f.Fields.length≤5):=by rw [← decide_not,decide_eq_decide]; omega
 simp only [ox hN _ h1,Option.bind_some,d1,l1]
 cases dj f.Kind <;> cases decide (f.Fields.length≤5) <;> simp
theorem CI {N:Nat} (hN:1099000000000≤N) (x y:aA) (hl:x.Fields.length≤4294967296):jN N x y=some (decide (x=y)):=by
 have e:bF N x.Fields y.Fields=some (decide (x.Fields=y.Fields)):=by
  unfold bF
  by_cases c:x.Fields.length=y.Fields.length
  ·rw [if_neg (by simp; omega)]
   refine (pA (bd N x.Fields y.Fields) x.Fields y.Fields c (by omega) (fun a b=>some (decide (a=b))) (fun a _ b _=>rfl) (fun k i=>by simp only [bd,gF,Option.bind_some]) N 0 (by omega) (by omega)).trans ?_
   simp
  ·rw [if_pos (by simp; omega)]
   have : ¬ x.Fields=y.Fields:=fun e=>c (by rw [e])
   simp [this]
 unfold jN
 simp only [e,Option.bind_some,lh,jc]
 obtain ⟨a,b⟩:=x; obtain ⟨c,d⟩:=y
 simp only [aA.mk.injEq,Bool.decide_and]
theorem BA {α:Type} {xs:List α} {i:Nat} (h:i≤xs.length):ssl xs 0 (i:Int)=some (xs.take i):=by
 unfold ssl
 have:(0:Int)≤0∧(0:Int)≤(i:Int)∧(i:Int)≤(xs.length:Int):=by omega
 simp [h]
theorem CW {N:Nat} (hN:1099000000000≤N) (s:ah) (h:o2 s):lN N s=some (nW s):=by
 obtain ⟨h1,h2⟩:=h
 unfold lN nW
 have d1:decide ((40:Int) < (s.Items.length:Int)) = !decide (s.Items.length≤40):=by rw [← decide_not,decide_eq_decide]; omega
 simp only [in1,Option.bind_some,d1]
 by_cases hn:1≤s.Next∧s.Next≤1000000
 ·have lp:∀ (n i:Nat),i≤s.Items.length→s.Items.length - i < n→cp N s n i=some (nR s.Next (s.Items.take i) (s.Items.drop i)):=by
   intro n
   induction n with
   | zero=>intro i _ h; omega
   | succ n ih=>
    intro i hi hm
    simp only [cp]
    by_cases hlt:i < s.Items.length
    ·have c1:decide ((i:Int) < (s.Items.length:Int))=true:=decide_eq_true (by omega)
     have hf:=h2 _ (List.getElem_mem hlt)
     have hnx:IntKind.i64.wrap (s.Next - 1)=s.Next - 1:=wr (by omega) (by omega)
     have hprev:(if decide (0 < (i:Int))=true then (idx s.Items (IntKind.i64.wrap ((i:Int) - 1))).bind fun x5=>some (decide (s.Items[i].Id≤x5.Id)) else some false)=some (!(ir (s.Items.take i) s.Items[i].Id)):=by
      by_cases h0:0 < i
      ·have e1:IntKind.i64.wrap ((i:Int) - 1)=((i - 1:Nat):Int):=by rw [wr (by omega) (by omega)]; omega
       unfold ir; rw [xW h0 hi,decide_eq_true (show (0:Int) < (i:Int) by omega),e1]
       simp only [if_true,ak (show i - 1 < s.Items.length by omega),Option.bind_some]
       rw [← decide_not]; congr 1; rw [decide_eq_decide]; omega
      ·have:i=0:=by omega
       subst this
       simp [ir]
     have hdup:dB N (i:Int) (cp N s n) s.Items[i] (s.Items.take i) N 0=some ((((s.Items.take i).all fun y=>!decide (s.Items[i].F=y.F))) && nR s.Next (s.Items.take (i+1)) (s.Items.drop (i+1))):=by
      refine lp0 hN (s.Items.take i) (by rw [List.length_take]; omega) (dB N (i:Int) (cp N s n) s.Items[i] (s.Items.take i)) (fun t=>some ((t.all fun y=>!decide (s.Items[i].F=y.F)) && nR s.Next (s.Items.take (i+1)) (s.Items.drop (i+1)))) (fun m k y t g1 g2 g3 g4 g5 g6 g7=>?_) (fun m k g1 g2=>?_)
      ·simp only [dB,g5,if_true,g4,Option.bind_some,CI hN s.Items[i].F y.F (by have:=hf.2.1; omega),g6,g7,List.all_cons]
       cases decide (s.Items[i].F=y.F) <;> simp
      ·simp only [dB,g2,Bool.false_eq_true,if_false,wr1 i (by omega),ih (i+1) (by omega) (by omega)]; rfl
     have d2:decide (s.Items[i].Id≤s.Next - 1)=decide (s.Items[i].Id < s.Next):=by rw [decide_eq_decide]; omega
     have htk:s.Items.take (i+1)=s.Items.take i++[s.Items[i]]:=List.take_succ_eq_append_getElem hlt
     rw [List.drop_eq_getElem_cons hlt,nR,← htk]
     simp only [c1,if_true,ak hlt,Option.bind_some,FA hN _ hf,in1,hnx,d2,hprev,BA (show i≤s.Items.length by omega),hdup]
     cases rC s.Items[i].F with
     | false=>simp
     | true=>
      cases (decide (1≤s.Items[i].Id) && decide (s.Items[i].Id < s.Next)) with
      | false=>simp
      | true=>
       cases (ir (s.Items.take i) s.Items[i].Id) <;> simp
    ·have c1:decide ((i:Int) < (s.Items.length:Int))=false:=decide_eq_false (by omega)
     rw [List.drop_of_length_le (by omega)]
     simp only [c1,Bool.false_eq_true,if_false]; rfl
  have l0:=lp N 0 (by omega) (by omega)
  rw [List.take_zero,List.drop_zero,show ((0:Nat):Int)=0 from rfl] at l0
  rw [l0,decide_eq_true hn.1,decide_eq_true hn.2]
  cases decide (s.Items.length≤40) <;> simp
 ·have:(decide (1≤s.Next) && decide (s.Next≤1000000))=false:=by
   rw [Bool.eq_false_iff]
   intro h
   simp only [Bool.and_eq_true,decide_eq_true_eq] at h
   exact hn h
  rw [this]
  cases decide (s.Items.length≤40) <;> simp
theorem z6 {N:Nat} (hN:1099000000000≤N) (x y:List Int) (hl:x.length≤4294967296):iH N x y=some (decide (x=y)):=by
 unfold iH
 by_cases c:x.length=y.length
 ·rw [if_neg (by simp; omega)]
  refine (pA (gu N x y) x y c (by omega) (fun a b=>some (decide (a=b))) (fun a _ b _=>rfl) (fun k i=>rfl) N 0 (by omega) (by omega)).trans ?_
  simp
 ·rw [if_pos (by simp; omega)]
  have : ¬ x=y:=fun e=>c (by rw [e])
  simp [this]
theorem Cu {N:Nat} (hN:1099000000000≤N) (p:av) (hl:p.Args.length≤1048576):lS N p=some (aK p):=by
 have lp:∀ (n i:Nat) (cs:List bn) (as:List Int),i≤p.Args.length→p.Args.length - i < n→cs.length≤i→as.length≤i →
   eC N p n cs as i=some ⟨p.Kind,(p.Args.length:Int),cs++iD (p.Args.drop i),as++ats i (p.Args.drop i)⟩:=by
  intro n
  induction n with
  | zero=>intro i _ _ _ h; omega
  | succ n ih=>
   intro i cs as hi hn h1 h2
   by_cases hlt:i < p.Args.length
   ·have c1:decide ((i:Int) < (p.Args.length:Int))=true:=decide_eq_true (by omega)
    rw [List.drop_eq_getElem_cons hlt]
    simp only [eC,c1,if_true,ak hlt,Option.bind_some,wr1 i (by omega),iD,ats]
    by_cases hk:p.Args[i].K=2
    ·simp only [hk,decide_true,if_true,bj (show cs.length+[p.Args[i].V].length≤4294967296 by simp; omega),bj (show as.length+[(i:Int)].length≤4294967296 by simp; omega),Option.bind_some]
     rw [ih (i+1) _ _ (by omega) (by omega) (by simp; omega) (by simp; omega)]; simp
    ·simp only [hk,decide_false,Bool.false_eq_true,if_false]
     exact ih (i+1) _ _ (by omega) (by omega) (by omega) (by omega)
   ·have c1:decide ((i:Int) < (p.Args.length:Int))=false:=decide_eq_false (by omega)
    rw [List.drop_of_length_le (by omega)]
    simp only [eC,c1,Bool.false_eq_true,if_false,iD,ats,List.append_nil]
 have:=lp N 0 [] [] (by omega) (by omega) (by simp) (by simp)
 unfold lS aK
 simpa using this
theorem zi {N:Nat} (hN:1099000000000≤N) (x y:ai) (h:iA x):i9 N x y=some (decide (x=y)):=by
 unfold i9
 simp only [z6 hN _ _ (show x.At.length≤4294967296 by have:=h.2; omega),Ce hN _ _ (show x.Consts.length≤4294967296 by have:=h.1; omega),Option.bind_some,lh,jc]
 obtain ⟨a,b,c,d⟩:=x; obtain ⟨e,f,g,k⟩:=y
 congr 1
 rw [Bool.eq_iff_iff]
 simp only [ai.mk.injEq,Bool.and_eq_true,decide_eq_true_eq]
 constructor
 ·rintro ⟨⟨⟨h1,h2⟩,h3⟩,h4⟩; exact ⟨h1,h2,h4,h3⟩
 ·rintro ⟨h1,h2,h4,h3⟩; exact ⟨⟨⟨h1,h2⟩,h3⟩,h4⟩
theorem EX {N:Nat} (hN:1099000000000≤N) (as:List ai) (cs:List ao) (a:ai) (hl:as.length≤4194304) (h:∀ a∈as,iA a) :
  lA N ⟨as,cs⟩ a=some ((br as a).1,⟨(br as a).2,cs⟩):=by
 unfold lA
 have lp:∀ (n i:Nat),i≤as.length→as.length - i < n→eI N ⟨as,cs⟩ a n i =
   some (match (as.drop i).findIdx? (fun x=>decide (x=a)) with | some j=>((i+j:Nat):Int) | none=>(as.length:Int),⟨match (as.drop i).findIdx? (fun x=>decide (x=a)) with | some j=>as | none=>as++[a],cs⟩):=by
  intro n
  induction n with
  | zero=>intro i _ h; omega
  | succ n ih=>
   intro i hi hn
   by_cases hlt:i < as.length
   ·have c1:decide ((i:Int) < (as.length:Int))=true:=decide_eq_true (by omega)
    rw [List.drop_eq_getElem_cons hlt,List.findIdx?_cons]
    simp only [eI,c1,if_true,ak hlt,Option.bind_some,zi hN _ _ (h _ (List.getElem_mem hlt)),wr1 i (by omega),ih (i+1) (by omega) (by omega)]
    by_cases he:as[i]=a
    ·simp [he]
    ·simp only [he,decide_false,Bool.false_eq_true,if_false]
     cases (as.drop (i+1)).findIdx? (fun x=>decide (x=a)) with
     | none=>rfl
     | some j=>simp only [Option.map_some]; rw [show i+(j+1)=i+1+j by omega]
   ·have c1:decide ((i:Int) < (as.length:Int))=false:=decide_eq_false (by omega)
    rw [List.drop_of_length_le (by omega)]
    simp only [eI,c1,Bool.false_eq_true,if_false,bj (show as.length+[a].length≤4294967296 by simp; omega),Option.bind_some,List.findIdx?_nil]
    have e:IntKind.i64.wrap (((as++[a]).length:Int) - 1)=(as.length:Int):=by
     rw [wr (by simp only [List.length_append,List.length_cons,List.length_nil]; omega) (by simp only [List.length_append,List.length_cons,List.length_nil]; omega)]; simp only [List.length_append,List.length_cons,List.length_nil]; omega
    rw [e]
 have:=lp N 0 (by omega) (by omega)
 rw [show ((0:Nat):Int)=0 from rfl,List.drop_zero] at this
 rw [this]
 unfold br
 cases as.findIdx? (fun x=>decide (x=a)) <;> simp
theorem DT {N:Nat} (hN:1099000000000≤N) (d:bm) (h:sY d.Rules):kI N d=some (cm d):=by
 obtain ⟨h1,h2,h3⟩:=h
 unfold kI cm
 refine lp' hN d.Rules (by omega) (fun n (s:List ai × List ao) i=>d6 N d n s.1 s.2 i) (fun t s=>some (df s.1 s.2 t)) (fun s t=>s.1.length+kv t≤1048576∧s.2.length+t.length≤1048576∧∀ a∈s.1,iA a) ([],[]) ⟨by simpa using h2,by simpa using h1,by simp⟩ (fun n s i r t g1 g2 g3 g4 g5 g6 gI ih=>?_) (fun n s i g1 g2 gI=>?_)
 ·obtain ⟨i1,i2,i3⟩:=gI
  rw [kD] at i1
  simp only [List.length_cons] at i2
  simp only [d6,g5,if_true,df]
  have key:∀ (as:List ai),as.length+r.Pats.length+kv t≤1048576→(∀ a∈as,iA a)→ei N d s.2 (i:Int) (d6 N d n) N as [] [] 0=some (df (bu as [] [] r.Pats).1 (s.2++[⟨(bu as [] [] r.Pats).2.1,(bu as [] [] r.Pats).2.2⟩]) t):=by
   intro as ha hz
   refine lp' hN r.Pats (by omega) (fun m (u:List ai × List Int × List Int) k=>ei N d s.2 (i:Int) (d6 N d n) m u.1 u.2.1 u.2.2 k) (fun l u=>some (df (bu u.1 u.2.2 u.2.1 l).1 (s.2++[⟨(bu u.1 u.2.2 u.2.1 l).2.1,(bu u.1 u.2.2 u.2.1 l).2.2⟩]) t))
    (fun u l=>u.1.length+l.length+kv t≤1048576∧u.2.1.length+u.2.2.length+l.length≤1048576∧∀ a∈u.1,iA a) (as,[],[]) ⟨ha,by simp; omega,hz⟩ (fun m u k p l f1 f2 f3 f4 f5 f6 fI fh=>?_) (fun m u k f1 f2 fI=>?_)
   ·obtain ⟨j1,j2,j3⟩:=fI
    simp only [List.length_cons] at j1 j2
    have hp:=h3 r g2 p f2
    have hpl:=(nS u.1 (aK p)).1
    have hall:=pS j3 (rG hp)
    simp only [ei,g4,f5,if_true,f4,Option.bind_some,Cu hN p hp,EX hN u.1 s.2 _ (show u.1.length≤4194304 by omega) j3,f6,bu]
    cases hnot:p.Not with
    | true=>
     simp only [if_true,bj (show u.2.1.length+[(br u.1 (aK p)).1].length≤4294967296 by simp; omega),Option.bind_some]
     exact fh ((br u.1 (aK p)).2,u.2.1++[(br u.1 (aK p)).1],u.2.2) ⟨by simp only; omega,by simp; omega,hall⟩
    | false=>
     simp only [Bool.false_eq_true,if_false,bj (show u.2.2.length+[(br u.1 (aK p)).1].length≤4294967296 by simp; omega),Option.bind_some]
     exact fh ((br u.1 (aK p)).2,u.2.1,u.2.2++[(br u.1 (aK p)).1]) ⟨by simp only; omega,by simp; omega,hall⟩
   ·obtain ⟨j1,j2,j3⟩:=fI
    simp only [ei,g4,f2,Bool.false_eq_true,if_false,bj (show s.2.length+[(⟨u.2.2,u.2.1⟩:ao)].length≤4294967296 by simp; omega),Option.bind_some,g6,bu]
    exact ih (u.1,s.2++[⟨u.2.2,u.2.1⟩]) ⟨by simp only [List.length_nil] at j1 ⊢; omega,by simp; omega,j3⟩
  exact key s.1 (by omega) i3
 ·simp only [d6,g2,Bool.false_eq_true,if_false]; rfl
def wR {α β:Type} (p:α→β→Bool):List α→List β→Bool
 | [],[]=>true
 | a :: l,b :: m=>p a b && wR p l m
 | _,_=>false
theorem lp2 {α β γ:Type} (f:Nat→Int→Option γ) (a:List α) (b:List β) (hl:a.length=b.length) (hm:a.length≤4294967296) (p:α→β→Bool) (K Z:Option γ)
  (hs:∀ n (i:Nat) (x:α) (y:β),idx a (i:Int)=some x→idx b (i:Int)=some y→x∈a→y∈b→decide ((i:Int) < (a.length:Int))=true→IntKind.i64.wrap ((i:Int)+1)=((i+1:Nat):Int)→f (n+1) i=if p x y=true then f n ((i+1:Nat):Int) else Z)
  (he:∀ n (i:Nat),decide ((i:Int) < (a.length:Int))=false→i=a.length→f (n+1) i=K) :
  ∀ (n i:Nat),i≤a.length→a.length - i < n→f n i=if wR p (a.drop i) (b.drop i)=true then K else Z:=by
 intro n
 induction n with
 | zero=>intro i _ h; omega
 | succ n ih=>
  intro i hi hn
  by_cases hlt:i < a.length
  ·have hlt':i < b.length:=by omega
   rw [hs n i _ _ (ak hlt) (ak hlt') (List.getElem_mem hlt) (List.getElem_mem hlt') (decide_eq_true (by omega)) (wr1 i (by omega)),ih (i+1) (by omega) (by omega),List.drop_eq_getElem_cons hlt,List.drop_eq_getElem_cons hlt',wR]
   cases p a[i] b[i] <;> simp
  ·rw [he n i (decide_eq_false (by omega)) (by omega),List.drop_of_length_le (by omega),List.drop_of_length_le (by omega)]
   simp [wR]
def DE (t:af):Prop:=t.Ids.length≤4294967296∧t.Hits.length≤4294967296
def GO (a:aj):Prop:=a.Toks.length≤4294967296∧∀ t∈a.Toks,DE t
def Fq (w:aJ):Prop:=w.Levels.length≤4294967296∧∀ a∈w.Levels,GO a
def yS (m:ax):Prop:=(m.Alphas.length≤4294967296∧∀ a∈m.Alphas,a.L.length≤4294967296)∧m.Rules.length≤4294967296∧∀ w∈m.Rules,Fq w
def oT (k h:Int) (t:af):Bool:=decide ((t.Ids.length:Int)=k) && decide ((t.Hits.length:Int)=h)
theorem Fw {N:Nat} (hN:1099000000000≤N) (l:List af) (k h:Int) (hl:l.length≤4294967296):lx N l k h=some (l.all (oT k h)):=by
 unfold lx
 refine lp0 hN l hl (eu N l k h) (fun t=>some (t.all (oT k h))) (fun n i x t g1 g2 g3 g4 g5 g6 g7=>?_) (fun n i g1 g2=>?_)
 ·simp only [eu,g5,if_true,g4,Option.bind_some,g6,g7,List.all_cons,oT]
  by_cases c1:(x.Ids.length:Int)=k
  ·by_cases c2:(x.Hits.length:Int)=h <;> simp [c1,c2]
  ·simp [c1]
 ·simp only [eu,g2,Bool.false_eq_true,if_false]; rfl
def tD (c:ao):Nat→List aj→Bool
 | _,[]=>true
 | i,L :: Ls=>L.Toks.all (oT ((i+1:Nat):Int) (if i+1=c.Pos.length then (c.Neg.length:Int) else 0)) && tD c (i+1) Ls
def pH (c:ao) (w:aJ):Bool:=decide (w.Levels.length=c.Pos.length) && tD c 0 w.Levels
def og (n:aO) (m:ax):Bool:=(decide (m.Alphas.length=n.Alphas.length) && decide (m.Rules.length=n.Chains.length)) && wR pH n.Chains m.Rules
theorem BP {N:Nat} (hN:1099000000000≤N) (n:aO) (m:ax) (s1:Int) (K:Int→Option Bool) (c:ao) (w:aJ) (hc:idx n.Chains s1=some c) (hw:idx m.Rules s1=some w) (hl:w.Levels.length=c.Pos.length) (hlm:w.Levels.length≤4294967296) (hz:∀ L∈w.Levels,L.Toks.length≤4294967296) :
  ∀ (k i:Nat),i≤w.Levels.length→w.Levels.length - i < k→bO N n m s1 K c k (i:Int)=if tD c i (w.Levels.drop i)=true then K (IntKind.i64.wrap (s1+1)) else some false:=by
 intro k
 induction k with
 | zero=>intro i _ h; omega
 | succ k ih=>
  intro i hi hk
  by_cases hlt:i < w.Levels.length
  ·have c1:decide ((i:Int) < (c.Pos.length:Int))=true:=decide_eq_true (by omega)
   have ew:IntKind.i64.wrap ((c.Pos.length:Int) - 1)=((c.Pos.length - 1:Nat):Int):=by
    rw [show ((c.Pos.length:Int) - 1)=((c.Pos.length - 1:Nat):Int) by omega]
    exact wr (by omega) (by omega)
   have hzl:=hz _ (List.getElem_mem hlt)
   rw [List.drop_eq_getElem_cons hlt,tD]
   have j:∀ h:Int,eS N m s1 (i:Int) (bO N n m s1 K c k) h=if (w.Levels[i].Toks.all (oT ((i+1:Nat):Int) h) && tD c (i+1) (w.Levels.drop (i+1)))=true then K (IntKind.i64.wrap (s1+1)) else some false:=by
    intro h
    unfold eS
    simp only [hw,Option.bind_some,ak hlt,wr1 i (by omega),Fw hN _ _ h hzl,ih (i+1) (by omega) (by omega)]
    cases w.Levels[i].Toks.all (oT ((i+1:Nat):Int) h) <;> simp
   simp only [bO,c1,if_true,ew,hc,Option.bind_some,j]
   by_cases he:i+1=c.Pos.length
   ·have c2:decide ((i:Int)=((c.Pos.length - 1:Nat):Int))=true:=decide_eq_true (by omega)
    rw [c2,if_pos rfl,if_pos he]
   ·have c2:decide ((i:Int)=((c.Pos.length - 1:Nat):Int))=false:=decide_eq_false (by omega)
    rw [c2,if_neg (by simp),if_neg he]
  ·have c1:decide ((i:Int) < (c.Pos.length:Int))=false:=decide_eq_false (by omega)
   rw [List.drop_of_length_le (by omega)]
   simp only [bO,c1,Bool.false_eq_true,if_false,tD,if_true]
theorem Cn {N:Nat} (hN:1099000000000≤N) (n:aO) (m:ax) (hm:yS m):jS N n m=some (og n m):=by
 unfold jS og
 by_cases a1:m.Alphas.length=n.Alphas.length
 ·by_cases a2:m.Rules.length=n.Chains.length
  ·have c1:decide ((m.Alphas.length:Int)=(n.Alphas.length:Int))=true:=decide_eq_true (by omega)
   have c2:decide ((m.Rules.length:Int)=(n.Chains.length:Int))=true:=decide_eq_true (by omega)
   have e3:=lp2 (bC N n m) n.Chains m.Rules a2.symm (by have:=hm.2.1; omega) pH (some true) (some false)
    (fun k i c w g1 g2 g3 g4 g5 g6=>by
     have c3:decide ((i:Int) < (m.Rules.length:Int))=true:=by rw [a2]; exact g5
     have hw:=hm.2.2 w g4
     by_cases hl:w.Levels.length=c.Pos.length
     ·have c4:decide ((w.Levels.length:Int)=(c.Pos.length:Int))=true:=decide_eq_true (by omega)
      have e:=BP hN n m (i:Int) (bC N n m k) c w g1 g2 hl hw.1 (fun L hL=>(hw.2 L hL).1) N 0 (by omega) (by have:=hw.1; omega)
      simp only [List.drop_zero] at e
      rw [show ((0:Nat):Int)=0 from rfl] at e
      simp only [bC,c3,if_true,g1,g2,Option.bind_some,c4,Bool.not_true,Bool.false_eq_true,if_false,e,pH,g6]
      simp only [decide_eq_true hl,Bool.true_and]
     ·have c4:decide ((w.Levels.length:Int)=(c.Pos.length:Int))=false:=decide_eq_false (by omega)
      simp only [bC,c3,if_true,g1,g2,Option.bind_some,c4,Bool.not_false,pH]
      simp only [decide_eq_false hl,Bool.false_and,Bool.false_eq_true,if_false])
    (fun k i g1 g2=>by
     have c3:decide ((i:Int) < (m.Rules.length:Int))=false:=by rw [a2]; exact g1
     simp only [bC,c3,Bool.false_eq_true,if_false]) N 0 (by omega) (by have:=hm.2.1; omega)
   simp only [List.drop_zero] at e3
   rw [show ((0:Nat):Int)=0 from rfl] at e3
   simp only [c1,c2,Bool.not_true,Bool.false_eq_true,if_false,Option.bind_some,e3]
   rw [decide_eq_true a1,decide_eq_true a2]
   cases wR pH n.Chains m.Rules <;> rfl
  ·have c1:decide ((m.Alphas.length:Int)=(n.Alphas.length:Int))=true:=decide_eq_true (by omega)
   have c2:decide ((m.Rules.length:Int)=(n.Chains.length:Int))=false:=decide_eq_false (by omega)
   simp only [c1,c2,Bool.not_true,Bool.not_false,Bool.false_eq_true,if_false,Option.bind_some,if_true]
   rw [decide_eq_false a2]; simp
 ·have c1:decide ((m.Alphas.length:Int)=(n.Alphas.length:Int))=false:=decide_eq_false (by omega)
  simp only [c1,Bool.not_false,if_true,Option.bind_some]
  rw [decide_eq_false a1]; simp
def jZ (id:Int) (l:List af):List af:=l.filter fun t=>!decide (id∈t.Ids)
def mb (id:Int) (L:aj):aj:=⟨jZ id L.Toks⟩
def yM (id:Int) (i:bk):bk:=⟨i.L.filter fun x=>!decide (x=id)⟩
def p9 (xs:List aP) (f:aA) (id:Int) (r:an) (w:aJ):aJ:=lK xs (pos r.Pats) (neg r.Pats) f (-1) ⟨w.Levels.map (mb id)⟩
def mW (g:an→aJ→aJ):List an→List aJ→List aJ
 | r :: rs,w :: ws=>g r w :: mW g rs ws
 | _,ws=>ws
def ya (d:bm) (m:ax) (s:ah) (id:Int):ax:=⟨m.Alphas.map (yM id),mW (p9 s.Items (aG s.Items id).1 id) d.Rules m.Rules⟩
theorem ue {g:an→aJ→aJ}:∀ (rs:List an) (ws:List aJ),rs.length=ws.length→(mW g rs ws).length=ws.length∧∀ (i:Nat) (v:aJ),(mW g rs ws)[i]?=some v→∃ (r:an) (w:aJ),rs[i]?=some r∧ws[i]?=some w∧v=g r w
 | [],[],_=>⟨rfl,fun i v h=>by simp [mW] at h⟩
 | [],w :: ws,h=>by simp at h
 | r :: rs,[],h=>by simp at h
 | r :: rs,w :: ws,h=>by
  obtain ⟨h1,h2⟩:=ue (g:=g) rs ws (by simpa using h)
  refine ⟨by simp [mW,h1],fun i v hv=>?_⟩
  cases i with
  | zero=>simp only [mW,List.getElem?_cons_zero,Option.some.injEq] at hv; exact ⟨r,w,rfl,rfl,hv.symm⟩
  | succ i=>simp only [mW,List.getElem?_cons_succ] at hv; simpa using h2 i v hv
theorem C6 {id:Int} {r:an} {j:Nat} {w:aJ} (h:yG r j w):yG r j ⟨w.Levels.map (mb id)⟩:=by
 obtain ⟨h1,h2⟩:=h
 refine ⟨by simpa using h1,fun i M hM=>?_⟩
 simp only [List.getElem?_map,Option.map_eq_some_iff] at hM
 obtain ⟨L,hL,rfl⟩:=hM
 obtain ⟨a,b⟩:=h2 i L hL
 have hl:(jZ id L.Toks).length≤L.Toks.length:=List.length_filter_le _ _
 exact ⟨Nat.le_trans hl a,fun t ht=>b t (List.mem_filter.1 ht).1⟩
theorem A6 {d:bm} {n:aO} {m:ax} {s:ah} {id:Int} {j:Nat} (h:tZ d n j m):tZ d n j (ya d m s id):=by
 have h2:=ue (g:=p9 s.Items (aG s.Items id).1 id) d.Rules m.Rules h.lr.symm
 refine ⟨by simpa [ya] using h.la,by show (mW _ _ _).length=_; rw [h2.1]; exact h.lr,fun i hi=>?_,fun i r v e1 e2=>?_⟩
 ·simp only [ya] at hi
  obtain ⟨y,hy,rfl⟩:=List.mem_map.1 hi
  have hl:(yM id y).L.length≤y.L.length:=List.length_filter_le _ _
  exact Nat.le_trans hl (h.al y hy)
 ·obtain ⟨r',w,a1,a3,rfl⟩:=h2.2 i v e2
  rw [e1] at a1
  cases a1
  exact rJ (C6 (h.rows i r w e1 a3))
theorem Gu {N:Nat} (hN:1099000000000≤N) (l:List Int) (v:Int) (hl:l.length≤4294967296):nL N l v=some (decide (v∈l)):=by
 unfold nL
 refine lp0 hN l hl (fc N l v) (fun t=>some (decide (v∈t))) (fun n j x t g1 g2 g3 g4 g5 g6 g7=>?_) (fun n j g1 g2=>?_)
 ·simp only [fc,g5,if_true,g4,Option.bind_some,g6,g7]
  by_cases h:x=v
  ·simp [h]
  ·have h' : ¬ v=x:=fun e=>h e.symm
   simp [h,h']
 ·simp only [fc,g2,Bool.false_eq_true,if_false]; simp
theorem AI {N:Nat} (hN:1099000000000≤N) (l:List af) (id:Int) (hl:l.length≤4294967296) (hi:∀ t∈l,t.Ids.length≤4294967296):iK N l id=some (jZ id l):=by
 unfold iK
 have hlk:xx l=some ():=by unfold xx; rw [if_pos hl]
 rw [hlk,Option.bind_some]
 refine (lp' hN l hl (fun n (u:List af) i=>cI N l id n u i) (fun t u=>some (u++jZ id t)) (fun u t=>u.length+t.length≤4294967296) [] (by simpa using hl) (fun n u i x t g1 g2 g3 g4 g5 g6 gI gh=>?_) (fun n u i g1 g2 gI=>?_)).trans (by simp)
 ·simp only [List.length_cons] at gI
  have e:jZ id (x :: t)=if id∈x.Ids then jZ id t else x :: jZ id t:=by
   unfold jZ; rw [List.filter_cons]; by_cases h:id∈x.Ids <;> simp [h]
  simp only [cI,g5,if_true,g4,Option.bind_some,Gu hN x.Ids id (hi x g2),g6,e]
  by_cases h:id∈x.Ids
  ·simp only [h,decide_true,Bool.not_true,Bool.false_eq_true,if_false,if_true]
   exact gh u (by omega)
  ·simp only [h,decide_false,Bool.not_false,if_true,if_false,bj (show u.length+[x].length≤4294967296 by simp; omega),Option.bind_some]
   rw [gh _ (by simp; omega)]; simp
 ·simp only [cI,g2,Bool.false_eq_true,if_false]; simp [jZ]
structure C4 (d:bm) (m:ax) (s:ah):Prop where
 sl:s.Items.length≤1048576
 fl:∀ x∈s.Items,x.F.Fields.length≤1048576
 al:m.Alphas.length≤1048576
 ll:∀ i∈m.Alphas,i.L.length≤1048576
 rl:m.Rules.length≤1048576
 ld:d.Rules.length=m.Rules.length
 rows:∀ (i:Nat) (r:an) (w:aJ),d.Rules[i]?=some r→m.Rules[i]?=some w→SzS r s∧(pos r.Pats).length=ae r.Pats∧1≤w.Levels.length∧w.Levels.length≤(pos r.Pats).length ∧
  (∀ L∈w.Levels,L.Toks.length≤4294967296∧∀ t∈L.Toks,t.Ids.length≤(pos r.Pats).length)∧∀ L,w.Levels[w.Levels.length - 1]?=some L→∀ t∈L.Toks,t.Hits.length=(neg r.Pats).length∧∀ x∈t.Hits,InR x
theorem CM {N:Nat} (hN:1099000000000≤N) (d:bm) (s:ah) (id:Int) (b:Bool) (s5:List aJ) (s6:Int) (K:List aJ→Int→Option ax) (r:an) (w:aJ) (hr:idx d.Rules s6=some r) (hz:SzS r s) (hpp:(pos r.Pats).length=ae r.Pats) (h1:1≤w.Levels.length) (h2:w.Levels.length≤(pos r.Pats).length)
  (h3:∀ L∈w.Levels,L.Toks.length≤4294967296∧∀ t∈L.Toks,t.Ids.length≤(pos r.Pats).length) (h4:∀ L,w.Levels[w.Levels.length - 1]?=some L→∀ t∈L.Toks,t.Hits.length=(neg r.Pats).length∧∀ x∈t.Hits,InR x) :
  ev N d s id ((aG s.Items id).1,b) s5 s6 K N w.Levels 0=K (s5.set s6.toNat (p9 s.Items (aG s.Items id).1 id r w)) (IntKind.i64.wrap (s6+1)):=by
 have hpc:=fb r.Pats
 have hpl:=hz.pl
 have lp:∀ (rest:List aj) (n:Nat) (done:List aj),rest.length < n→w.Levels=done++rest →
   ev N d s id ((aG s.Items id).1,b) s5 s6 K n (done.map (mb id)++rest) (done.length:Int)=K (s5.set s6.toNat (p9 s.Items (aG s.Items id).1 id r w)) (IntKind.i64.wrap (s6+1)):=by
  intro rest
  induction rest with
  | nil=>
   intro n done hn hd
   obtain ⟨n,rfl⟩:∃ m,n=m+1:=⟨n - 1,by simp at hn; omega⟩
   have hd':w.Levels=done:=by simpa using hd
   subst hd'
   have c1:decide ((w.Levels.length:Int) < ((w.Levels.map (mb id)++[]).length:Int))=false:=decide_eq_false (by simp)
   have ew:IntKind.i64.wrap (((w.Levels.map (mb id)++[]).length:Int) - 1)=((w.Levels.length - 1:Nat):Int):=by
    rw [List.append_nil,List.length_map,show ((w.Levels.length:Int) - 1)=((w.Levels.length - 1:Nat):Int) by omega]
    exact wr (by omega) (by omega)
   have hlt:w.Levels.length - 1 < w.Levels.length:=by omega
   have hL:w.Levels[w.Levels.length - 1]?=some w.Levels[w.Levels.length - 1]:=List.getElem?_eq_getElem hlt
   have hL2:(w.Levels.map (mb id))[w.Levels.length - 1]?=some (mb id w.Levels[w.Levels.length - 1]):=by rw [List.getElem?_map,hL]; rfl
   have hidx:idx (w.Levels.map (mb id)++[]) ((w.Levels.length - 1:Nat):Int)=some (mb id w.Levels[w.Levels.length - 1]):=by rw [List.append_nil,l6,hL2]
   obtain ⟨z1,z2⟩:=h3 _ (List.getElem_mem hlt)
   have hll:(mb id w.Levels[w.Levels.length - 1]).Toks.length≤w.Levels[w.Levels.length - 1].Toks.length:=List.length_filter_le _ _
   have ht:=Bf hN r s hz (aG s.Items id).1 (-1) (Or.inr rfl) (mb id w.Levels[w.Levels.length - 1]).Toks (by omega) (fun t ht=>by
    have hm:t∈w.Levels[w.Levels.length - 1].Toks:=(List.mem_filter.1 ht).1
    exact ⟨by have:=z2 t hm; omega,h4 _ hL t hm⟩)
   simp only [ev,c1,Bool.false_eq_true,if_false,hr,Option.bind_some,ew,hidx,ht,Int.toNat_natCast]
   unfold p9 lK
   simp only [List.length_map,hL2,List.append_nil]
  | cons L Ls ih=>
   intro n done hn hd
   obtain ⟨n,rfl⟩:∃ m,n=m+1:=⟨n - 1,by omega⟩
   simp only [List.length_cons] at hn
   have hlw:w.Levels.length=done.length+(Ls.length+1):=by rw [hd]; simp
   have c1:decide ((done.length:Int) < ((done.map (mb id)++L :: Ls).length:Int))=true:=decide_eq_true (by simp; omega)
   have hdm:(done.map (mb id)).length=done.length:=by simp
   have e1:idx (done.map (mb id)++L :: Ls) (done.length:Int)=some L:=by rw [← hdm]; exact d4 _ _ _
   have e2:∀ y:aj,(done.map (mb id)++L :: Ls).set (done.length:Int).toNat y=(done.map (mb id)++[y])++Ls:=fun y=>by rw [Int.toNat_natCast,← hdm]; exact iZ _ _ _ _
   obtain ⟨z1,z2⟩:=h3 L (by rw [hd]; simp)
   have ew:=AI hN L.Toks id z1 (fun t ht=>by have:=z2 t ht; omega)
   simp only [ev,c1,if_true,e1,Option.bind_some,ew,e2,wr1 done.length (by omega)]
   have:=ih n (done++[L]) (by omega) (by rw [hd]; simp)
   simp only [List.length_append,List.length_cons,List.length_nil,Nat.zero_add,List.map_append,List.map_cons,List.map_nil] at this
   exact this
 have:=lp w.Levels N [] (by omega) rfl
 simpa using this
theorem zp {N:Nat} (hN:1099000000000≤N) (d:bm) (s:ah) (id:Int) (b:Bool) (as:List bk) (hlr:d.Rules.length≤1048576) :
  ∀ (ws:List aJ) (rs:List an) (k:Nat) (dr:List an) (dw:List aJ),ws.length < k→d.Rules=dr++rs→dr.length=dw.length→rs.length=ws.length →
   (∀ (i:Nat) (r:an) (w:aJ),rs[i]?=some r→ws[i]?=some w→SzS r s∧(pos r.Pats).length=ae r.Pats∧1≤w.Levels.length∧w.Levels.length≤(pos r.Pats).length ∧
    (∀ L∈w.Levels,L.Toks.length≤4294967296∧∀ t∈L.Toks,t.Ids.length≤(pos r.Pats).length)∧∀ L,w.Levels[w.Levels.length - 1]?=some L→∀ t∈L.Toks,t.Hits.length=(neg r.Pats).length∧∀ x∈t.Hits,InR x) →
   dC N d s id ((aG s.Items id).1,b) as k (dw++ws) (dw.length:Int)=some ⟨as,dw++mW (p9 s.Items (aG s.Items id).1 id) rs ws⟩
 | [],rs,k,dr,dw,hk,h1,h4,h6,h8=>by
  obtain ⟨k,rfl⟩:∃ j,k=j+1:=⟨k - 1,by simp at hk; omega⟩
  have hr0:rs=[]:=List.length_eq_zero_iff.1 h6
  subst hr0
  have c1:decide ((dw.length:Int) < (d.Rules.length:Int))=false:=decide_eq_false (by rw [h1,← h4]; simp)
  simp only [dC,c1,Bool.false_eq_true,if_false,mW]
 | w :: ws,[],k,dr,dw,hk,h1,h4,h6,h8=>by simp at h6
 | w :: ws,r :: rs,k,dr,dw,hk,h1,h4,h6,h8=>by
  obtain ⟨k,rfl⟩:∃ j,k=j+1:=⟨k - 1,by omega⟩
  simp only [List.length_cons] at hk h6
  have hdl:d.Rules.length=dw.length+(rs.length+1):=by rw [h1,← h4]; simp
  have c1:decide ((dw.length:Int) < (d.Rules.length:Int))=true:=decide_eq_true (by omega)
  obtain ⟨q1,q2,q3,q4,q5,q6⟩:=h8 0 r w rfl rfl
  have e1:idx d.Rules (dw.length:Int)=some r:=by rw [h1,← h4]; exact d4 _ _ _
  simp only [dC,c1,if_true,d4,Option.bind_some]
  rw [CM hN d s id b (dw++w :: ws) (dw.length:Int) _ r w e1 q1 q2 q3 q4 q5 q6]
  simp only [Int.toNat_natCast,iZ,wr1 dw.length (by omega)]
  have:=zp hN d s id b as hlr ws rs k (dr++[r]) (dw++[p9 s.Items (aG s.Items id).1 id r w]) (by omega) (by rw [h1]; simp) (by simp [h4]) (by omega)
   (fun i r' w' a1 a3=>h8 (i+1) r' w' (by simpa using a1) (by simpa using a3))
  simp only [List.length_append,List.length_cons,List.length_nil,Nat.zero_add] at this
  rw [this,List.append_assoc]
  rfl
theorem CT {N:Nat} (hN:1099000000000≤N) (id:Int) (s1:List bk) (s2:Int) (K:List bk→Int→Option ax) (x:bk) (hx:idx s1 s2=some x) (hl:x.L.length≤1048576) :
  dy N id s1 s2 K N [] 0=K (s1.set s2.toNat (yM id x)) (IntKind.i64.wrap (s2+1)):=by
 refine (lp' hN x.L (by omega) (fun n (u:List Int) i=>dy N id s1 s2 K n u i) (fun t u=>K (s1.set s2.toNat (⟨u++t.filter fun x=>!decide (x=id)⟩:bk)) (IntKind.i64.wrap (s2+1))) (fun u t=>u.length+t.length≤1048576) [] (by simpa using hl) (fun n u i v t g1 g2 g3 g4 g5 g6 gI gh=>?_) (fun n u i g1 g2 gI=>?_)).trans (by simp [yM])
 ·simp only [List.length_cons] at gI
  simp only [dy,hx,Option.bind_some,g5,if_true,g4,g6,List.filter_cons]
  by_cases h:v=id
  ·simp only [h,decide_true,Bool.not_true,Bool.false_eq_true,if_false]
   exact gh u (by omega)
  ·simp only [h,decide_false,Bool.not_false,if_true,bj (show u.length+[v].length≤4294967296 by simp; omega),Option.bind_some]
   rw [gh _ (by simp; omega)]; simp
 ·simp only [dy,hx,Option.bind_some,g2,Bool.false_eq_true,if_false,List.filter_nil,List.append_nil]
theorem CV {N:Nat} (hN:1099000000000≤N) (d:bm) (m:ax) (s:ah) (id:Int) (h:C4 d m s):lj N d m s id=some (ya d m s id):=by
 have hal:=h.al
 have hrl:=h.rl
 have hld:=h.ld
 unfold lj
 rw [rY hN s id h.sl h.fl,Option.bind_some]
 have lp:∀ (is:List bk) (n:Nat) (di:List bk),is.length < n→m.Alphas.length=di.length+is.length→(∀ i∈is,i.L.length≤1048576) →
   d9 N d m s id (aG s.Items id) n (di++is) (di.length:Int)=dC N d s id (aG s.Items id) (di++is.map (yM id)) N m.Rules 0:=by
  intro is
  induction is with
  | nil=>
   intro n di hn hd hi
   obtain ⟨n,rfl⟩:∃ m,n=m+1:=⟨n - 1,by simp at hn; omega⟩
   have c1:decide ((di.length:Int) < ((di++[]).length:Int))=false:=decide_eq_false (by simp)
   simp only [d9,c1,Bool.false_eq_true,if_false,List.map_nil]
  | cons i is ih=>
   intro n di hn hd hi
   obtain ⟨n,rfl⟩:∃ m,n=m+1:=⟨n - 1,by omega⟩
   simp only [List.length_cons] at hn hd
   have c1:decide ((di.length:Int) < ((di++i :: is).length:Int))=true:=decide_eq_true (by simp; omega)
   simp only [d9,c1,if_true]
   rw [CT hN id _ _ _ i (d4 _ _ _) (hi i (by simp)),Int.toNat_natCast,iZ,wr1 di.length (by omega)]
   have:=ih n (di++[yM id i]) (by omega) (by simp; omega) (fun j hj=>hi j (by simp [hj]))
   simp only [List.length_append,List.length_cons,List.length_nil,Nat.zero_add] at this
   rw [this,List.map_cons,List.append_assoc]; rfl
 have h1:=lp m.Alphas N [] (by omega) (by simp) h.ll
 simp only [List.nil_append,List.length_nil,Int.natCast_zero] at h1
 have h1':d9 N d m s id (aG s.Items id) N m.Alphas 0=_:=h1
 rw [h1']
 have h2:=zp hN d s id (aG s.Items id).2 (m.Alphas.map (yM id)) (by omega) m.Rules d.Rules N [] [] (by omega) rfl rfl h.ld h.rows
 simp only [List.nil_append,List.length_nil,Int.natCast_zero] at h2
 exact h2
structure sH (j:Nat) (m:ax):Prop where
 la:m.Alphas.length≤1001
 lr:m.Rules.length≤1001
 al:∀ i∈m.Alphas,i.L.length≤j
 rows:∀ w∈m.Rules,w.Levels.length≤3∧∀ k L,w.Levels[k]?=some L→L.Toks.length≤j*100 ^ k∧∀ t∈L.Toks,t.Ids.length≤1000∧t.Hits.length≤1000∧(k+1=w.Levels.length→∀ x∈t.Hits,InR x)
theorem sH.sz {j:Nat} {m:ax} (hj:j≤40) (h:sH j m):yS m:=by
 have h1:=h.la
 have h2:=h.lr
 refine ⟨⟨by omega,fun a ha=>by have:=h.al a ha; omega⟩,by omega,fun w hw=>?_⟩
 obtain ⟨z1,z2⟩:=h.rows w hw
 refine ⟨by omega,fun L hL=>?_⟩
 obtain ⟨k,hk,rfl⟩:=List.getElem_of_mem hL
 obtain ⟨a,b⟩:=z2 k _ (List.getElem?_eq_getElem hk)
 have hp:100 ^ k≤100 ^ 2:=Nat.pow_le_pow_right (by omega) (by omega)
 have:j*100 ^ k≤40*100 ^ 2:=Nat.mul_le_mul hj hp
 refine ⟨by omega,fun t ht=>?_⟩
 have:=b t ht
 exact ⟨by omega,by omega⟩
theorem yD {d:bm} (hd:gC d=true):∀ r∈d.Rules,r.Pats.length≤6∧1≤(pos r.Pats).length∧(pos r.Pats).length≤3∧(neg r.Pats).length≤6:=fun r hr=>by
 have ho:=rD hd r hr
 have hp:iw r.Pats=true:=by
  unfold jr at ho
  simp only [Bool.and_eq_true] at ho
  exact ho.2.2.1
 have hfc:(pos r.Pats).length=ae r.Pats:=pu r.Pats
 have hnl:(neg r.Pats).length≤r.Pats.length:=List.length_filter_le _ _
 unfold iw at hp
 simp only [Bool.and_eq_true,decide_eq_true_eq] at hp
 obtain ⟨⟨_,p1⟩,⟨p2,p3⟩,_⟩:=hp
 exact ⟨p1,by omega,by omega,by omega⟩
theorem CQ {d:bm} {n:aO} {j:Nat} {m:ax} (hd:gC d=true) (ha:n.Alphas.length≤1001) (h:tZ d n j m):sH j m:=by
 have hrl:d.Rules.length≤12:=by
  unfold gC at hd
  simp only [Bool.and_eq_true,decide_eq_true_eq] at hd
  exact hd.2.1.2
 have h1:=h.la
 have h2:=h.lr
 refine ⟨by omega,by omega,h.al,fun w hw=>?_⟩
 obtain ⟨i,hi,rfl⟩:=List.getElem_of_mem hw
 have hi':i < d.Rules.length:=by omega
 obtain ⟨k1,k2⟩:=h.rows i _ _ (List.getElem?_eq_getElem hi') (List.getElem?_eq_getElem hi)
 obtain ⟨q1,q2,q3,q4⟩:=yD hd _ (List.getElem_mem hi')
 refine ⟨by omega,fun k L hL=>?_⟩
 obtain ⟨a,b⟩:=k2 k L hL
 have hk:k < m.Rules[i].Levels.length:=(List.getElem?_eq_some_iff.1 hL).1
 refine ⟨a,fun t ht=>?_⟩
 obtain ⟨t1,t2,t3⟩:=b t ht
 exact ⟨by omega,by omega,fun e=>(t3 (by omega)).2⟩
theorem CK {d:bm} {j:Nat} {m:ax} (hd:gC d=true) (h:sH j m) (hs:og (cm d) m=true):tZ d (cm d) j m:=by
 have hats:=(oq (mC hd)).2.1
 unfold og at hs
 simp only [Bool.and_eq_true,decide_eq_true_eq] at hs
 obtain ⟨⟨s1,s2⟩,s3⟩:=hs
 have hcl:=hats.len
 have hall:∀ (cs:List ao) (ws:List aJ),wR pH cs ws=true→∀ (i:Nat) (c:ao) (w:aJ),cs[i]?=some c→ws[i]?=some w→pH c w=true:=by
  intro cs
  induction cs with
  | nil=>intro ws _ i c w h; simp at h
  | cons c cs ih=>
   intro ws ha i c' w h1 h2
   cases ws with
   | nil=>simp at h2
   | cons v ws=>
    simp only [wR,Bool.and_eq_true] at ha
    cases i with
    | zero=>simp at h1 h2; subst h1; subst h2; exact ha.1
    | succ i=>exact ih ws ha.2 i c' w (by simpa using h1) (by simpa using h2)
 have hlv:∀ (c:ao) (Ls:List aj) (i0:Nat),tD c i0 Ls=true→∀ (k:Nat) (L:aj),Ls[k]?=some L→L.Toks.all (oT ((i0+k+1:Nat):Int) (if i0+k+1=c.Pos.length then (c.Neg.length:Int) else 0))=true:=by
  intro c Ls
  induction Ls with
  | nil=>intro i0 _ k L h; simp at h
  | cons M Ls ih=>
   intro i0 ha k L hk
   simp only [tD,Bool.and_eq_true] at ha
   cases k with
   | zero=>simp at hk; subst hk; exact ha.1
   | succ k=>
    have:=ih (i0+1) ha.2 k L (by simpa using hk)
    rw [show i0+(k+1)+1=i0+1+k+1 by omega]; exact this
 refine ⟨s1,by omega,h.al,fun i r w e1 e2=>?_⟩
 obtain ⟨hi,hrr⟩:=List.getElem?_eq_some_iff.1 e1
 have hi':i < (cm d).Chains.length:=by omega
 have hat:=hats.get i hi' hi
 rw [hrr] at hat
 have hsh:=hall _ _ s3 i _ w (List.getElem?_eq_getElem hi') e2
 unfold pH at hsh
 simp only [Bool.and_eq_true,decide_eq_true_eq] at hsh
 have hpl:(cm d).Chains[i].Pos.length=(pos r.Pats).length:=hat.1.len
 have hnl:(cm d).Chains[i].Neg.length=(neg r.Pats).length:=hat.2.len
 obtain ⟨z1,z2⟩:=h.rows w (List.mem_of_getElem? e2)
 refine ⟨by omega,fun k L hL=>?_⟩
 obtain ⟨a,b⟩:=z2 k L hL
 have hk:k < w.Levels.length:=(List.getElem?_eq_some_iff.1 hL).1
 have hsk:=hlv _ _ 0 hsh.2 k L hL
 rw [List.all_eq_true] at hsk
 refine ⟨a,fun t ht=>?_⟩
 have ht':=hsk t ht
 unfold oT at ht'
 simp only [Bool.and_eq_true,decide_eq_true_eq] at ht'
 obtain ⟨t1,t2⟩:=ht'
 obtain ⟨_,_,t3⟩:=b t ht
 by_cases he:0+k+1=(cm d).Chains[i].Pos.length
 ·rw [if_pos he] at t2
  exact ⟨by omega,by omega,fun _=>⟨by omega,t3 (by omega)⟩⟩
 ·rw [if_neg he] at t2
  exact ⟨by omega,by omega,fun e=>absurd e (by omega)⟩
theorem Ay {d:bm} {m:ax} {s:ah} {id:Int} {j:Nat} (hd:gC d=true) (hsz:pL d) (hs:s.Items.length≤40) (hf:∀ x∈s.Items,x.F.Fields.length≤1048576) (hj:j≤40) (h:tZ d (cm d) j m):C4 d m s:=by
 have ok:=uj (id:=id) hd hsz hs hf hj h
 have hla:=ok.ok.la
 have hal:=ok.ok.al
 refine ⟨ok.ok.sl,hf,by omega,fun i hi=>by have:=h.al i hi; omega,ok.ok.rl,ok.ok.ld,fun i r w e1 e2=>?_⟩
 obtain ⟨q1,q2,q3⟩:=ok.rows i r w e1 e2
 have hi:i < (cm d).Chains.length:=by
  have:=(List.getElem?_eq_some_iff.1 e2).1
  have:=ok.ok.lc
  omega
 obtain ⟨_,ro⟩:=ok.ok.rows i r _ w e1 (List.getElem?_eq_getElem hi) e2
 have hne:=ro.ne
 have hll:=ro.ll
 refine ⟨q1,q2,hne,by omega,fun L hL=>?_,fun L hL t ht=>⟨ro.hit L hL t ht,q3 L hL t ht⟩⟩
 obtain ⟨k,hk,rfl⟩:=List.getElem_of_mem hL
 refine ⟨tE ro.fit _ (List.mem_map.2 ⟨_,List.getElem_mem hk,rfl⟩),fun t ht=>?_⟩
 have:=ro.ids k _ (List.getElem?_eq_getElem hk) t ht
 omega
theorem B6 {N:Nat} (hN:1099000000000≤N) (l:List af) (hl:l.length≤4294967296) (hz:∀ t∈l,DE t):hH N l=some l:=by
 unfold hH
 refine (lp' hN l hl (fun n (u:List af) i=>cu N l n u i) (fun t u=>some (u++t)) (fun u t=>u.length+t.length≤4294967296) [] (by simpa using hl) (fun n u i x t g1 g2 g3 g4 g5 g6 gI gh=>?_) (fun n u i g1 g2 gI=>?_)).trans (by simp)
 ·simp only [List.length_cons] at gI
  obtain ⟨z1,z2⟩:=hz x g2
  simp only [cu,g5,if_true,g4,Option.bind_some,eO z1,eO z2,show (⟨x.Ids,x.Hits⟩:af)=x from rfl,bj (show u.length+[x].length≤4294967296 by simp; omega),gU,g6]
  rw [gh _ (by simp; omega)]; simp
 ·simp only [cu,g2,Bool.false_eq_true,if_false,List.append_nil]
theorem FK {N:Nat} (hN:1099000000000≤N) (m:ax) (s3:List aJ) (s4:Int) (K:List aJ→Int→Option ax) (w:aJ) (hw:idx m.Rules s4=some w) (hz:Fq w) (h3:s3.length+1≤4294967296) :
  eJ N m s3 s4 K N [] 0=K (s3++[w]) (IntKind.i64.wrap (s4+1)):=by
 refine (lp' hN w.Levels hz.1 (fun n (u:List aj) i=>eJ N m s3 s4 K n u i) (fun t u=>K (s3++[(⟨u++t⟩:aJ)]) (IntKind.i64.wrap (s4+1))) (fun u t=>u.length+t.length≤4294967296) [] (by simpa using hz.1) (fun n u i x t g1 g2 g3 g4 g5 g6 gI gh=>?_) (fun n u i g1 g2 gI=>?_)).trans (by simp)
 ·simp only [List.length_cons] at gI
  obtain ⟨z1,z2⟩:=hz.2 x g2
  simp only [eJ,hw,g5,if_true,g4,Option.bind_some,B6 hN x.Toks z1 z2,show (⟨x.Toks⟩:aj)=x from rfl,bj (show u.length+[x].length≤4294967296 by simp; omega),g6]
  rw [gh _ (by simp; omega)]; simp
 ·simp only [eJ,hw,Option.bind_some,g2,Bool.false_eq_true,if_false,List.append_nil,bj (show s3.length+[(⟨u⟩:aJ)].length≤4294967296 by simpa using h3)]
theorem BN {N:Nat} (hN:1099000000000≤N) (m:ax) (hm:yS m):jK N m=some m:=by
 obtain ⟨⟨h1,h2⟩,h3,h4⟩:=hm
 have l2:∀ as:List bk,dt N m as N [] 0=some ⟨as,m.Rules⟩:=by
  intro as
  refine (lp' hN m.Rules h3 (fun n (u:List aJ) i=>dt N m as n u i) (fun t u=>some ⟨as,u++t⟩) (fun u t=>u.length+t.length≤4294967296) [] (by simpa using h3) (fun n u i x t g1 g2 g3 g4 g5 g6 gI gh=>?_) (fun n u i g1 g2 gI=>?_)).trans (by simp)
  ·simp only [List.length_cons] at gI
   simp only [dt,g5,if_true]
   rw [FK hN m u i _ x g4 (h4 x g2) (by omega),g6,gh _ (by simp; omega)]; simp
  ·simp only [dt,g2,Bool.false_eq_true,if_false,List.append_nil]
 unfold jK
 refine (lp' hN m.Alphas h1 (fun n (u:List bk) i=>fE N m n u i) (fun t u=>some ⟨u++t,m.Rules⟩) (fun u t=>u.length+t.length≤4294967296) [] (by simpa using h1) (fun n u i x t g1 g2 g3 g4 g5 g6 gI gh=>?_) (fun n u i g1 g2 gI=>?_)).trans (by simp)
 ·simp only [List.length_cons] at gI
  simp only [fE,g5,if_true,g4,Option.bind_some,eO (h2 x g2),show (⟨x.L⟩:bk)=x from rfl,bj (show u.length+[x].length≤4294967296 by simp; omega),g6]
  rw [gh _ (by simp; omega)]; simp
 ·simp only [fE,g2,Bool.false_eq_true,if_false,l2,List.append_nil]
theorem Ep {N:Nat} (hN:1099000000000≤N) (s5:List aj) (s6:Int) (K:List aj→Int→Option ax) (L:aj) (hz:GO L) (h5:s5.length+1≤4294967296) :
  eH N s5 s6 K L N [] 0=K (s5++[L]) (IntKind.i64.wrap (s6+1)):=by
 refine (lp' hN L.Toks hz.1 (fun n (u:List af) i=>eH N s5 s6 K L n u i) (fun t u=>K (s5++[(⟨u++t⟩:aj)]) (IntKind.i64.wrap (s6+1))) (fun u t=>u.length+t.length≤4294967296) [] (by simpa using hz.1) (fun n u i x t g1 g2 g3 g4 g5 g6 gI gh=>?_) (fun n u i g1 g2 gI=>?_)).trans (by simp)
 ·simp only [List.length_cons] at gI
  obtain ⟨z1,z2⟩:=hz.2 x g2
  simp only [eH,g5,if_true,g4,Option.bind_some,bN,eO z1,eO z2,show (⟨x.Ids,x.Hits⟩:af)=x from rfl,bj (show u.length+[x].length≤4294967296 by simp; omega),g6]
  rw [gh _ (by simp; omega)]; simp
 ·simp only [eH,g2,Bool.false_eq_true,if_false,List.append_nil,bj (show s5.length+[(⟨u⟩:aj)].length≤4294967296 by simpa using h5),Option.bind_some]
theorem ES {N:Nat} (hN:1099000000000≤N) (s3:List aJ) (s4:Int) (K:List aJ→Int→Option ax) (w:aJ) (hz:Fq w) (h3:s3.length+1≤4294967296) :
  dk N s3 s4 K w N [] 0=K (s3++[w]) (IntKind.i64.wrap (s4+1)):=by
 refine (lp' hN w.Levels hz.1 (fun n (u:List aj) i=>dk N s3 s4 K w n u i) (fun t u=>K (s3++[(⟨u++t⟩:aJ)]) (IntKind.i64.wrap (s4+1))) (fun u t=>u.length+t.length≤4294967296) [] (by simpa using hz.1) (fun n u i x t g1 g2 g3 g4 g5 g6 gI gh=>?_) (fun n u i g1 g2 gI=>?_)).trans (by simp)
 ·simp only [List.length_cons] at gI
  simp only [dk,g5,if_true,g4,Option.bind_some]
  rw [Ep hN u i _ x (hz.2 x g2) (by omega),g6,gh _ (by simp; omega)]; simp
 ·simp only [dk,g2,Bool.false_eq_true,if_false,List.append_nil,bj (show s3.length+[(⟨u⟩:aJ)].length≤4294967296 by simpa using h3),Option.bind_some]
theorem FI {N:Nat} (hN:1099000000000≤N) (m:ax) (hm:yS m):lJ N m=some m:=by
 obtain ⟨⟨h1,h2⟩,h3,h4⟩:=hm
 have l2:∀ as:List bk,cR N m as N [] 0=some ⟨as,m.Rules⟩:=by
  intro as
  refine (lp' hN m.Rules h3 (fun n (u:List aJ) i=>cR N m as n u i) (fun t u=>some ⟨as,u++t⟩) (fun u t=>u.length+t.length≤4294967296) [] (by simpa using h3) (fun n u i x t g1 g2 g3 g4 g5 g6 gI gh=>?_) (fun n u i g1 g2 gI=>?_)).trans (by simp)
  ·simp only [List.length_cons] at gI
   simp only [cR,g5,if_true,g4,Option.bind_some]
   rw [ES hN u i _ x (h4 x g2) (by omega),g6,gh _ (by simp; omega)]; simp
  ·simp only [cR,g2,Bool.false_eq_true,if_false,List.append_nil]
 unfold lJ
 refine (lp' hN m.Alphas h1 (fun n (u:List bk) i=>fD N m n u i) (fun t u=>some ⟨u++t,m.Rules⟩) (fun u t=>u.length+t.length≤4294967296) [] (by simpa using h1) (fun n u i x t g1 g2 g3 g4 g5 g6 gI gh=>?_) (fun n u i g1 g2 gI=>?_)).trans (by simp)
 ·simp only [List.length_cons] at gI
  simp only [fD,g5,if_true,g4,Option.bind_some,bN,eO (h2 x g2),show (⟨x.L⟩:bk)=x from rfl,bj (show u.length+[x].length≤4294967296 by simp; omega),g6]
  rw [gh _ (by simp; omega)]; simp
 ·simp only [fD,g2,Bool.false_eq_true,if_false,l2,List.append_nil]
theorem GA {N:Nat} (hN:1099000000000≤N) (i:Nat) (hi:i≤4294967296) (K:Int→Option Bool) (L:aj) (h:Int) (hl:L.Toks.length≤4294967296) :
  eg N (i:Int) K L h N 0=if L.Toks.all (oT ((i+1:Nat):Int) h)=true then K ((i+1:Nat):Int) else some false:=by
 refine lp0 hN L.Toks hl (eg N (i:Int) K L h) (fun t=>if t.all (oT ((i+1:Nat):Int) h)=true then K ((i+1:Nat):Int) else some false) (fun n j x t g1 g2 g3 g4 g5 g6 g7=>?_) (fun n j g1 g2=>?_)
 ·simp only [eg,g5,if_true,g4,Option.bind_some,wr1 i (by omega),g6,g7,List.all_cons,oT]
  by_cases c1:(x.Ids.length:Int)=((i+1:Nat):Int)
  ·by_cases c2:(x.Hits.length:Int)=h <;> simp [c1,c2]
  ·simp only [decide_eq_false c1,Bool.not_false,if_true,Option.bind_some,Bool.false_and,Bool.false_eq_true,if_false]
 ·simp only [eg,g2,Bool.false_eq_true,if_false,wr1 i (by omega)]; rfl
theorem FM {N:Nat} (hN:1099000000000≤N) (s1:Int) (K:Int→Option Bool) (c:ao) (w:aJ) (hl:w.Levels.length=c.Pos.length) (hlm:w.Levels.length≤4294967296) (hz:∀ L∈w.Levels,L.Toks.length≤4294967296) :
  ∀ (k i:Nat),i≤w.Levels.length→w.Levels.length - i < k→bQ N s1 K w c k (i:Int)=if tD c i (w.Levels.drop i)=true then K (IntKind.i64.wrap (s1+1)) else some false:=by
 intro k
 induction k with
 | zero=>intro i _ h; omega
 | succ k ih=>
  intro i hi hk
  by_cases hlt:i < w.Levels.length
  ·have c1:decide ((i:Int) < (w.Levels.length:Int))=true:=decide_eq_true (by omega)
   have ew:IntKind.i64.wrap ((c.Pos.length:Int) - 1)=((c.Pos.length - 1:Nat):Int):=by
    rw [show ((c.Pos.length:Int) - 1)=((c.Pos.length - 1:Nat):Int) by omega]
    exact wr (by omega) (by omega)
   have hzl:=hz _ (List.getElem_mem hlt)
   rw [List.drop_eq_getElem_cons hlt,tD]
   have j:∀ h:Int,gj N (i:Int) (bQ N s1 K w c k) w.Levels[i] h=if (w.Levels[i].Toks.all (oT ((i+1:Nat):Int) h) && tD c (i+1) (w.Levels.drop (i+1)))=true then K (IntKind.i64.wrap (s1+1)) else some false:=by
    intro h
    unfold gj
    rw [GA hN i (by omega) _ _ h hzl,ih (i+1) (by omega) (by omega)]
    cases w.Levels[i].Toks.all (oT ((i+1:Nat):Int) h) <;> simp
   simp only [bQ,c1,if_true,ew,ak hlt,Option.bind_some,j]
   by_cases he:i+1=c.Pos.length
   ·have c2:decide ((i:Int)=((c.Pos.length - 1:Nat):Int))=true:=decide_eq_true (by omega)
    rw [c2,if_pos rfl,if_pos he]
   ·have c2:decide ((i:Int)=((c.Pos.length - 1:Nat):Int))=false:=decide_eq_false (by omega)
    rw [c2,if_neg (by simp),if_neg he]
  ·have c1:decide ((i:Int) < (w.Levels.length:Int))=false:=decide_eq_false (by omega)
   rw [List.drop_of_length_le (by omega)]
   simp only [bQ,c1,Bool.false_eq_true,if_false,tD,if_true]
theorem CX {N:Nat} (hN:1099000000000≤N) (n:aO) (m:ax) (hm:yS m):nK N n m=some (og n m):=by
 unfold nK og
 by_cases a1:m.Alphas.length=n.Alphas.length
 ·by_cases a2:m.Rules.length=n.Chains.length
  ·have c1:decide ((m.Alphas.length:Int)=(n.Alphas.length:Int))=true:=decide_eq_true (by omega)
   have c2:decide ((m.Rules.length:Int)=(n.Chains.length:Int))=true:=decide_eq_true (by omega)
   have e3:=lp2 (bG N n m) n.Chains m.Rules a2.symm (by have:=hm.2.1; omega) pH (some true) (some false)
    (fun k i c w g1 g2 g3 g4 g5 g6=>by
     have c3:decide ((i:Int) < (m.Rules.length:Int))=true:=by rw [a2]; exact g5
     have hw:=hm.2.2 w g4
     by_cases hl:w.Levels.length=c.Pos.length
     ·have c4:decide ((w.Levels.length:Int)=(c.Pos.length:Int))=true:=decide_eq_true (by omega)
      have e:=FM hN (i:Int) (bG N n m k) c w hl hw.1 (fun L hL=>(hw.2 L hL).1) N 0 (by omega) (by have:=hw.1; omega)
      simp only [List.drop_zero] at e
      rw [show ((0:Nat):Int)=0 from rfl] at e
      simp only [bG,c3,if_true,g1,g2,Option.bind_some,c4,Bool.not_true,Bool.false_eq_true,if_false,e,pH,g6]
      simp only [decide_eq_true hl,Bool.true_and]
     ·have c4:decide ((w.Levels.length:Int)=(c.Pos.length:Int))=false:=decide_eq_false (by omega)
      simp only [bG,c3,if_true,g1,g2,Option.bind_some,c4,Bool.not_false,pH]
      simp only [decide_eq_false hl,Bool.false_and,Bool.false_eq_true,if_false])
    (fun k i g1 g2=>by
     have c3:decide ((i:Int) < (m.Rules.length:Int))=false:=by rw [a2]; exact g1
     simp only [bG,c3,Bool.false_eq_true,if_false]) N 0 (by omega) (by have:=hm.2.1; omega)
   simp only [List.drop_zero] at e3
   rw [show ((0:Nat):Int)=0 from rfl] at e3
   simp only [c1,c2,Bool.not_true,Bool.false_eq_true,if_false,Option.bind_some,e3]
   rw [decide_eq_true a1,decide_eq_true a2]
   cases wR pH n.Chains m.Rules <;> rfl
  ·have c1:decide ((m.Alphas.length:Int)=(n.Alphas.length:Int))=true:=decide_eq_true (by omega)
   have c2:decide ((m.Rules.length:Int)=(n.Chains.length:Int))=false:=decide_eq_false (by omega)
   simp only [c1,c2,Bool.not_true,Bool.not_false,Bool.false_eq_true,if_false,Option.bind_some,if_true]
   rw [decide_eq_false a2]; simp
 ·have c1:decide ((m.Alphas.length:Int)=(n.Alphas.length:Int))=false:=decide_eq_false (by omega)
  simp only [c1,Bool.not_false,if_true,Option.bind_some]
  rw [decide_eq_false a1]; simp
theorem yY {nx:Int} {l:List aP} (h:pe nx l):∀ x∈l,uw x.F:=fun x hx=>Ak (h.2.2.1 x hx).2.2
structure DrM (b:List Int) (B:Int) (d:bm) (m:ax) (s:ah) (c:a8):Prop where
 g:GC b c
 def_:yw d
 mem:∃ j:Nat,(j:Int)≤B∧tZ d (cm d) j m
 nx:s.Next≤B+1
 it:pe s.Next s.Items
theorem FT {N:Nat} (hN:1099000000000≤N) {b:List Int} (hb:b.length≤1048576) {c:a8} (g:GC b c):∃ d m s c',l7 N c=some (d,cm d,m,s,c')∧DrM b 9 d m s c':=by
 unfold l7
 obtain ⟨d,c1,e1,g1,hd⟩:=GK hN hb g
 have hok:=xG hd
 have hsz:=yr (yg hd)
 have hnd:=mC hok
 obtain ⟨⟨z1,z2⟩,z3,z4⟩:=uS hnd
 have hats:=(oq hnd).2.1
 have hm0:=yO hats
 obtain ⟨v,c2,e2,g2,hv⟩:=dT (N:=N) hb (g1.at (c:=c) g.1) 10 (by omega)
 simp only [e1,Option.bind_some,DT hN d hnd,Bp hN (cm d) z1 z3 (fun c hc=>(z4 c hc).1),e2]
 have lp:∀ (n:Nat) (m:ax) (l:List aP) (k x h nx:Int) (j:Nat),0≤k→k < n→(j:Int)+k≤9→nx+k≤10→tZ d (cm d) j m→pe nx l→GC b ⟨c.b,x,h⟩ →
   ∃ m' s c',eD N c (d,c1) (cm d) n m.Alphas m.Rules l k x h nx=some (d,cm d,m',s,c')∧DrM b 9 d m' s c':=by
  intro n
  induction n with
  | zero=>intro m l k x h nx j h0 h1; omega
  | succ n ih=>
   intro m l k x h nx j h0 h1 h2 h3 hm hl gx
   simp only [eD]
   by_cases hk:0 < k
   ·have ck:decide (0 < k)=true:=decide_eq_true hk
    have hlen:=hl.2.1
    have hfl:=qn hl
    obtain ⟨q,e,e3,ge,-⟩:=oZ (N:=N) hb gx 4
    have gx':=ge.at (c:=⟨c.b,x,h⟩) gx.1
    simp only [ck,if_true,e3,Option.bind_some]
    by_cases hq:q=true∧0 < l.length
    ·have e0:(if q=true then some (decide (0 < (l.length:Int))) else some false)=some true:=by
      rw [hq.1,decide_eq_true (show (0:Int) < (l.length:Int) by omega)]; rfl
     obtain ⟨w,e4,e5,ge5,hw⟩:=dT (N:=N) hb gx' (l.length:Int) (by omega)
     obtain ⟨i,rfl⟩:∃ i:Nat,w=(i:Int):=⟨w.toNat,by omega⟩
     obtain ⟨q',e6⟩:=EU hN ⟨l,nx⟩ l[i].Id (show l.length≤1048576 by omega)
     have ok:=Ay (s:=⟨l,nx⟩) (id:=l[i].Id) hok hsz (show l.length≤40 by omega) (fun y hy=>by have:=hfl y hy; omega) (by omega) hm
     have e7:=CV hN d m ⟨l,nx⟩ l[i].Id ok
     simp only [e0,Option.bind_some,if_true,e5,ak (show i < l.length by omega),show (⟨m.Alphas,m.Rules⟩:ax)=m from rfl,e7,e6,wrm hk (show k≤4611686018427387904 by omega)]
     have hfl2:=List.length_filter_le (fun x:aP=>!decide (x.Id=l[i].Id)) l
     exact ih (ya d m ⟨l,nx⟩ l[i].Id) (l.filter fun x=>!decide (x.Id=l[i].Id)) (k - 1) _ _ nx j (by omega) (by omega) (by omega) (by omega) (A6 hm) ⟨hl.1,by omega,fun y hy=>hl.2.2.1 y (List.mem_filter.1 hy).1,hl.2.2.2.filter _⟩ (ge5.at (c:=⟨c.b,e.i,e.h⟩) gx'.1)
    ·have e0:(if q=true then some (decide (0 < (l.length:Int))) else some false)=some false:=by
      cases q with
      | false=>rfl
      | true=>
       have : ¬ 0 < l.length:=fun h=>hq ⟨rfl,h⟩
       rw [decide_eq_false (show ¬ (0:Int) < (l.length:Int) by omega)]; rfl
     obtain ⟨f,e4,e5,ge5,hf⟩:=C5 hN hb gx'
     have gx5:=ge5.at (c:=⟨c.b,e.i,e.h⟩) gx'.1
     simp only [e0,Option.bind_some,Bool.false_eq_true,if_false,e5,wU hN ⟨l,nx⟩ f (by show l.length≤_; omega) (fun x hx=>by have:=hfl x hx; omega)]
     by_cases hi:xq l f=0
     ·obtain ⟨q',l',nx',e6,hl',hnx'⟩:=y6 hN l nx f hf hl (by omega)
      have hlen':=hl'.2.1
      have hfl':=qn hl'
      have ok:=uj (s:=⟨l',nx'⟩) (id:=q') hok hsz (show l'.length≤40 by omega) (fun y hy=>by have:=hfl' y hy; omega) (by omega) hm
      have e7:=DK hN d (cm d) m ⟨l',nx'⟩ q' ok
      simp only [hi,decide_true,if_true,e6,Option.bind_some,show (⟨m.Alphas,m.Rules⟩:ax)=m from rfl,e7,wrm hk (show k≤4611686018427387904 by omega)]
      exact ih (Az d (cm d) m ⟨l',nx'⟩ q') l' (k - 1) _ _ nx' (j+1) (by omega) (by omega) (by omega) (by omega) (yh (by omega) (show l'.length≤1048576 by omega) hats.len hm) hl' gx5
     ·simp only [hi,decide_false,Bool.false_eq_true,if_false,wrm hk (show k≤4611686018427387904 by omega)]
      exact ih m l (k - 1) _ _ nx j (by omega) (by omega) (by omega) (by omega) hm hl gx5
   ·have ck:decide (0 < k)=false:=decide_eq_false hk
    simp only [ck,Bool.false_eq_true,if_false]
    exact ⟨m,⟨l,nx⟩,_,rfl,gx,hd,⟨j,by omega,hm⟩,by show nx≤_; omega,hl⟩
 obtain ⟨m,s,c',e9,h9⟩:=lp N (vc (cm d)) [] v c2.i c2.h 1 0 hv.1 (by omega) (by omega) (by omega) hm0 ⟨by omega,by simp,by simp,by simp⟩ (g2.at (c:=⟨c.b,c1.i,c1.h⟩) g.1)
 exact ⟨d,m,s,c',e9,h9⟩
theorem De {N:Nat} (hN:1099000000000≤N) {b:List Int} (hb:b.length≤1048576) {c:a8} (g:GC b c) {j:Nat} {m:ax} (hj:j≤20) (ha:m.Alphas.length≤1000) (hr:m.Rules.length≤1000) (h:sH j m):Dr b (sH (j+1)) (l8 N c m):=by
 unfold l8
 have up:∀ k:Nat,j*100 ^ k≤(j+1)*100 ^ k:=fun k=>Nat.mul_le_mul_right _ (by omega)
 have al':∀ i∈m.Alphas,i.L.length≤j+1:=fun i hi=>by have:=h.al i hi; omega
 have rows':∀ w∈m.Rules,w.Levels.length≤3∧∀ k L,w.Levels[k]?=some L→L.Toks.length≤(j+1)*100 ^ k∧∀ t∈L.Toks,t.Ids.length≤1000∧t.Hits.length≤1000∧(k+1=w.Levels.length→∀ x∈t.Hits,InR x):=fun w hw=>by
  obtain ⟨a,b⟩:=h.rows w hw
  exact ⟨a,fun k L hL=>⟨Nat.le_trans (b k L hL).1 (up k),(b k L hL).2⟩⟩
 refine .bindO (BN hN m (h.sz (by omega))) ((dT hb g 6 (by omega)).bind fun v e ge _=>?_)
 have same:sH (j+1) ⟨m.Alphas,m.Rules⟩:=⟨h.la,h.lr,al',rows'⟩
 refine .ite (fun _=>.ite (fun hl=>?_) fun _=>.ret (ge.at g.1) same) fun _=>.ite (fun _=>?_) fun _=>.ite (fun _=>?_) fun _=>.ret (ge.at g.1) same
 ·have hl:=of_decide_eq_true hl
  have hl0:0 < m.Alphas.length:=by omega
  have e0:idx m.Alphas 0=some m.Alphas[0]:=ak (xs:=m.Alphas) (i:=0) hl0
  have h0:=h.al _ (List.getElem_mem hl0)
  refine .bindO e0 ((dT hb (ge.at g.1) 9 (by omega)).bind fun w f gf _=>.bindO (bj (by simp; omega)) (.ret (gf.at g.1) ⟨by simp; omega,h.lr,rM al' (by simp; omega),rows'⟩))
 ·by_cases hr0:0 < m.Rules.length
  ·have e0:idx m.Rules 0=some m.Rules[0]:=ak (xs:=m.Rules) (i:=0) hr0
   have hc:(if decide (0 < (m.Rules.length:Int)) then ((idx m.Rules 0).bind fun x6=>some (decide (0 < (x6.Levels.length:Int)))) else some false)=some (decide (0 < (m.Rules[0].Levels.length:Int))):=by
    rw [decide_eq_true (show (0:Int) < (m.Rules.length:Int) by omega),if_pos rfl,e0,Option.bind_some]; rfl
   refine .bindO hc (.ite (fun hl=>?_) fun _=>.ret (ge.at g.1) same)
   have hl:=of_decide_eq_true hl
   have hl0:0 < m.Rules[0].Levels.length:=by omega
   have e1:idx m.Rules[0].Levels 0=some m.Rules[0].Levels[0]:=ak (xs:=m.Rules[0].Levels) (i:=0) hl0
   obtain ⟨a,b⟩:=h.rows _ (List.getElem_mem hr0)
   obtain ⟨b1,b2⟩:=b 0 _ (List.getElem?_eq_getElem hl0)
   simp only [Nat.pow_zero,Nat.mul_one] at b1
   refine .bindO e0 (.bindO e1 ((dT hb (ge.at g.1) 9 (by omega)).bind fun w f gf _=>.bindO (bj (by simp; omega)) (.ret (gf.at g.1) ⟨h.la,by simp; omega,al',rM rows' ⟨by simp; omega,fun k L hL=>?_⟩⟩)))
   simp only at hL
   rw [List.getElem?_set] at hL
   split at hL
   ·rename_i e; subst e
    simp only [hl0,if_true,Int.toNat_zero,Option.some.injEq] at hL
    subst hL
    refine ⟨by simp; omega,fun t ht=>?_⟩
    simp only at ht
    rcases List.mem_append.1 ht with ht | ht
    ·simpa using b2 t ht
    ·simp only [List.mem_singleton] at ht
     subst ht
     exact ⟨by simp,by simp,fun _=>by simp⟩
   ·obtain ⟨c1,c2⟩:=b k L hL
    exact ⟨Nat.le_trans c1 (up k),by simpa using c2⟩
  ·have hc:(if decide (0 < (m.Rules.length:Int)) then ((idx m.Rules 0).bind fun x6=>some (decide (0 < (x6.Levels.length:Int)))) else some false)=some false:=by
    rw [decide_eq_false (show ¬ (0:Int) < (m.Rules.length:Int) by omega),if_neg (by simp)]
   refine .bindO hc ?_
   simp only [Bool.false_eq_true,if_false]
   exact .ret (ge.at g.1) same
 ·exact .bindO (bj (show m.Rules.length+_≤_ by simp; omega)) (.ret (ge.at g.1) ⟨h.la,by simp; omega,al',ki rows' ⟨by simp,by simp⟩⟩)
theorem Cf {N:Nat} (hN:1099000000000≤N) (x y:List Int) (hl:x.length≤4294967296):iX N x y=some (decide (x=y)):=by
 unfold iX
 by_cases c:x.length=y.length
 ·rw [if_neg (by simp; omega)]
  refine (pA (fJ N x y) x y c (by omega) (fun a b=>some (decide (a=b))) (fun a _ b _=>rfl) (fun k i=>rfl) N 0 (by omega) (by omega)).trans ?_
  simp
 ·rw [if_pos (by simp; omega)]
  have : ¬ x=y:=fun e=>c (by rw [e])
  simp [this]
theorem Dh {N:Nat} (hN:1099000000000≤N) (x y:aO) (hx:qj x):l9 N x y=some (decide (x=y)):=by
 obtain ⟨⟨h1,h2⟩,h3,h4⟩:=hx
 have dec:decide (x=y)=(decide (x.Alphas=y.Alphas) && decide (x.Chains=y.Chains)):=by
  obtain ⟨a,b⟩:=x; obtain ⟨c,d⟩:=y
  simp only [aO.mk.injEq,Bool.decide_and]
 unfold l9
 by_cases ha:x.Alphas.length=y.Alphas.length
 ·by_cases hc:x.Chains.length=y.Chains.length
  ·have c1:decide ((x.Alphas.length:Int)=(y.Alphas.length:Int))=true:=decide_eq_true (by omega)
   have c2:decide ((x.Chains.length:Int)=(y.Chains.length:Int))=true:=decide_eq_true (by omega)
   have l2:eM N x y N 0=some (decide (x.Chains=y.Chains)):=by
    have:=pA (eM N x y) x.Chains y.Chains hc (by omega) (fun a b=>some (decide (a=b))) (fun a _ b _=>rfl) (fun k i=>?_) N 0 (by omega) (by omega)
    ·simpa using this
    ·simp only [eM]
     by_cases hi:i < (x.Chains.length:Int)
     ·rw [decide_eq_true hi]
      simp only [if_true]
      cases hxi:idx x.Chains i with
      | none=>rfl
      | some c=>
       cases hyi:idx y.Chains i with
       | none=>rfl
       | some e=>
        obtain ⟨_,_,hm⟩:=a9 hxi
        have hcm:=h4 c (List.mem_of_getElem? hm)
        simp only [Option.bind_some,z6 hN c.Pos e.Pos (by omega),z6 hN c.Neg e.Neg (by omega)]
        obtain ⟨c1,c2⟩:=c; obtain ⟨e1,e2⟩:=e
        simp only [ao.mk.injEq]
        by_cases q1:c1=e1 <;> by_cases q2:c2=e2 <;> simp [q1,q2]
     ·rw [decide_eq_false hi]; simp only [Bool.false_eq_true,if_false]
   have l1:dv N x y N 0=some (decide (x.Alphas=y.Alphas) && decide (x.Chains=y.Chains)):=by
    have:∀ (n i:Nat),i≤x.Alphas.length→x.Alphas.length - i < n→dv N x y n i=some (decide (x.Alphas.drop i=y.Alphas.drop i) && decide (x.Chains=y.Chains)):=by
     intro n
     induction n with
     | zero=>intro i _ h; omega
     | succ n ih=>
      intro i hi hn
      by_cases hlt:i < x.Alphas.length
      ·have c3:decide ((i:Int) < (x.Alphas.length:Int))=true:=decide_eq_true (by omega)
       have hlt':i < y.Alphas.length:=by omega
       rw [List.drop_eq_getElem_cons hlt,List.drop_eq_getElem_cons hlt']
       simp only [dv,c3,if_true,ak hlt,ak hlt',Option.bind_some,zi hN _ _ (h2 _ (List.getElem_mem hlt)),wr1 i (by omega),ih (i+1) (by omega) (by omega),List.cons.injEq]
       by_cases q:x.Alphas[i]=y.Alphas[i] <;> simp [q]
      ·have c3:decide ((i:Int) < (x.Alphas.length:Int))=false:=decide_eq_false (by omega)
       rw [List.drop_of_length_le (by omega),List.drop_of_length_le (by omega)]
       simp only [dv,c3,Bool.false_eq_true,if_false,l2,decide_true,Bool.true_and]
    have:=this N 0 (by omega) (by omega)
    simpa using this
   rw [c1,c2,dec]
   simp only [Bool.not_true,Bool.false_eq_true,if_false,Option.bind_some,l1]
  ·have c1:decide ((x.Alphas.length:Int)=(y.Alphas.length:Int))=true:=decide_eq_true (by omega)
   have c2:decide ((x.Chains.length:Int)=(y.Chains.length:Int))=false:=decide_eq_false (by omega)
   have : ¬ x.Chains=y.Chains:=fun e=>hc (by rw [e])
   rw [c1,c2,dec,decide_eq_false this]
   simp
 ·have c1:decide ((x.Alphas.length:Int)=(y.Alphas.length:Int))=false:=decide_eq_false (by omega)
  have : ¬ x.Alphas=y.Alphas:=fun e=>ha (by rw [e])
  rw [c1,dec,decide_eq_false this]
  simp
theorem CC {N:Nat} (hN:1099000000000≤N) (n:aO) (d:bm) (hd:pL d) (hn:qj n):oM N n d=some (gC d && decide (n=cm d)):=by
 unfold oM
 rw [FQ hN d hd,Option.bind_some]
 cases ho:gC d with
 | false=>simp
 | true=>simp [DT hN d (mC ho),Dh hN n _ hn]
def may (d:bm) (n:aO) (m:ax) (s:ah) (id:Int):Bool:=(gC d && decide (n=cm d)) && (nW s && (og n m && (aG s.Items id).2))
theorem FY {N:Nat} (hN:1099000000000≤N) (d:bm) (n:aO) (m:ax) (s:ah) (id:Int) (hd:pL d) (hn:qj n) (hm:yS m) (hs:o2 s):nE N d n m s id=some (may d n m s id):=by
 unfold nE may
 rw [ze hN n d hd hn,Option.bind_some]
 cases gC d && decide (n=cm d) with
 | false=>simp
 | true=>
  rw [CW hN s hs]
  cases nW s with
  | false=>simp
  | true=>
   rw [CX hN n m hm]
   cases og n m with
   | false=>simp
   | true=>simp [qb hN s id hs.1 (fun x hx=>(hs.2 x hx).2.1)]
theorem FX {N:Nat} (hN:1099000000000≤N) (d:bm) (n:aO) (m:ax) (s:ah) (id:Int) (hd:pL d) (hn:qj n) (hm:yS m) (hs:o2 s):mH N d n m s id=some (may d n m s id):=by
 unfold mH may
 rw [rY hN s id hs.1 (fun x hx=>(hs.2 x hx).2.1),Option.bind_some,CA hN s hs,CC hN n d hd hn,Cn hN n m hm]
 cases (aG s.Items id).2 <;> cases nW s <;> cases gC d <;> cases decide (n=cm d) <;> cases og n m <;> rfl
theorem AM {N:Nat} (hN:1099000000000≤N) (d:bm) (n:aO) (m:ax) (s:ah) (id:Int) (hd:pL d) (hn:qj n) (hm:sH 20 m) (hs:o2 s) (hl:s.Items.length≤40) :
  ∃ r,lB N d n m s id=some r∧li N d n m s id=some r∧r.Rules.length=m.Rules.length∧r.Alphas.length≤1048576∧(∀ i∈r.Alphas,i.L.length≤1048576)∧(may d n m s id=false→r=m):=by
 have hsz:=hm.sz (by omega)
 have h1:=hm.la
 unfold lB li
 rw [FI hN m hsz,BN hN m hsz,Option.bind_some,Option.bind_some,FY hN d n m s id hd hn hsz hs,FX hN d n m s id hd hn hsz hs,Option.bind_some,Option.bind_some]
 cases hmay:may d n m s id with
 | false=>
  simp only [Bool.false_eq_true,if_false]
  exact ⟨m,rfl,rfl,rfl,by omega,fun i hi=>by have:=hm.al i hi; omega,fun _=>rfl⟩
 | true=>
  have hmay':=hmay
  unfold may at hmay'
  simp only [Bool.and_eq_true,decide_eq_true_eq] at hmay'
  obtain ⟨⟨m1,rfl⟩,m2,m3,m4⟩:=hmay'
  have hI:=CK m1 hm m3
  have ok:=uj (id:=id) m1 hd hl (fun x hx=>(hs.2 x hx).2.1) (by omega) hI
  have hats:=(oq (mC m1)).2.1
  have hI':=yh (s:=s) (id:=id) (by omega) hs.1 hats.len hI
  simp only [if_true,GJ hN d (cm d) m s id ok.ok,DK hN d (cm d) m s id ok,Option.bind_some]
  refine ⟨Az d (cm d) m s id,rfl,rfl,?_,?_,fun i hi=>?_,fun h=>by simp at h⟩
  ·rw [hI'.lr,hI.lr]
  ·rw [hI'.la,← hI.la]; omega
  ·have:=hI'.al i hi; omega
theorem yT {N:Nat} (hN:1099000000000≤N) {b:List Int} (hb:b.length≤1048576):∃ d n m s id,hJ N b=some (d,n,m,s,id)∧pL d∧qj n∧sH 20 m∧o2 s∧s.Items.length≤40:=by
 unfold hJ
 obtain ⟨c,e0,g0⟩:=Ft hN b hb
 obtain ⟨d,m,s,c1,e1,h1⟩:=FT hN hb g0
 obtain ⟨f,c2,e2,g2,hf⟩:=C5 hN hb (h1.g.at (c:=c) g0.1)
 obtain ⟨v,c3,e3,g3,-⟩:=H4 (N:=N) hb (g2.at (c:=c) g0.1) s
 have hok:=xG h1.def_
 have hshd:=yg h1.def_
 have hsz:=yr hshd
 have hshn:=AU hshd
 obtain ⟨j,hj,hm⟩:=h1.mem
 have hnx:=h1.nx
 have hlen:=h1.it.2.1
 have hfl:=qn h1.it
 have hml:sH j m:=CQ hok (by have:=hshn.1.1; omega) hm
 have hrl:d.Rules.length≤4:=h1.def_.2.2.1
 have hma:m.Alphas.length≤1000:=by rw [hm.la]; exact hshn.1.1
 have hmr:m.Rules.length≤1000:=by rw [hm.lr]; omega
 have up:∀ {i:Nat} {m:ax},i≤20→sH i m→sH 20 m:=fun {i m} hi h=>⟨h.la,h.lr,fun y hy=>by have:=h.al y hy; omega,fun w hw=>by
  obtain ⟨a,b⟩:=h.rows w hw
  exact ⟨a,fun k L hL=>⟨Nat.le_trans (b k L hL).1 (Nat.mul_le_mul_right _ hi),(b k L hL).2⟩⟩⟩
 simp only [e0,Option.bind_some,e1,e2,e3,wU hN s f (by omega) (fun x hx=>by have:=hfl x hx; omega)]
 have hn1:qj (cm d):=yq (by omega) hshn
 have j1:∀ (l:List aP) (id nx:Int),pe nx l→nx≤11→∃ d' n' m' s' id',dM N c (d,cm d,m,s,c1) (v,c3) l id nx=some (d',n',m',s',id')∧pL d'∧qj n'∧sH 20 m'∧o2 s'∧s'.Items.length≤40:=by
  intro l id nx hl hnx'
  have hll:=hl.2.1
  have hS:o2 ⟨l,nx⟩:=⟨show l.length≤1048576 by omega,yY hl⟩
  have hS40:l.length≤40:=by omega
  unfold dM
  obtain ⟨w,c4,e4,g4,-⟩:=dT (N:=N) hb (g3.at (c:=c) g0.1) 12 (by omega)
  have g4':=g4.at (c:=c) g0.1
  simp only [e4,Option.bind_some]
  split
  ·obtain ⟨n',c5,e5,g5,hn'⟩:=Da hN hb g4' hshn
   simp only [e5,Option.bind_some,bK]
   exact ⟨_,_,_,_,_,rfl,hsz,yq (by omega) hn',up (by omega) hml,hS,hS40⟩
  ·split
   ·obtain ⟨m',c5,e5,g5,hm'⟩:=De hN hb g4' (by omega) hma hmr hml
    simp only [e5,Option.bind_some,bK]
    exact ⟨_,_,_,_,_,rfl,hsz,hn1,up (by omega) hm',hS,hS40⟩
   ·split
    ·obtain ⟨v',c5,e5,g5,-⟩:=dT (N:=N) hb g4' 30 (by omega)
     simp only [e5,Option.bind_some,bK]
     exact ⟨_,_,_,_,_,rfl,hsz,hn1,up (by omega) hml,hS,hS40⟩
    ·simp only [bK]
     exact ⟨_,_,_,_,_,rfl,hsz,hn1,up (by omega) hml,hS,hS40⟩
 split
 ·obtain ⟨q',l',nx',e6,hl',hnx'⟩:=y6 hN s.Items s.Next f hf h1.it (by omega)
  have e6':gN N s f=some (q',⟨l',nx'⟩):=e6
  simp only [e6',Option.bind_some]
  exact j1 l' q' nx' hl' (by omega)
 ·exact j1 s.Items v s.Next h1.it (by omega)
theorem yQ {N:Nat} (hN:1099000000000≤N) (b:List Int):ny N b=some true:=by
 unfold ny tF
 by_cases hb:b.length≤1048576
 ·have c1:decide (1048576 < (b.length:Int))=false:=decide_eq_false (by omega)
  obtain ⟨d,n,m,s,id,e,hd,hn,hm,hs,hl⟩:=yT hN hb
  obtain ⟨r,e1,e2,h1,h2,h3,h4⟩:=AM hN d n m s id hd hn hm hs hl
  simp only [c1,Option.bind_some,Bool.false_eq_true,if_false,e,e1,e2,decide_true,Bool.not_true]
  refine lp0 hN r.Alphas (by omega) (f7 N (d,n,m,s,id) r r) (fun _=>some true) (fun k i x t g1 g2 g3 g4 g5 g6 g7=>?_) (fun k i g1 g2=>?_)
  ·simp only [f7,g5,if_true,g4,Option.bind_some,Cf hN x.L x.L (by have:=h3 x g2; omega),decide_true,Bool.not_true,Bool.false_eq_true,if_false,g6,g7]
  ·simp only [f7,g2,Bool.false_eq_true,if_false,qb hN s id hs.1 (fun x hx=>(hs.2 x hx).2.1),ze hN n d hd hn,Option.bind_some]
   by_cases hc:(aG s.Items id).2=true∧(gC d && decide (n=cm d))=true
   ·simp only [hc.1,hc.2,if_true,Option.bind_some]
   ·have hmf:may d n m s id=false:=by
     cases hmm:may d n m s id with
     | false=>rfl
     | true=>
      unfold may at hmm
      rw [Bool.and_eq_true,Bool.and_eq_true (nW s),Bool.and_eq_true (og n m)] at hmm
      exact absurd ⟨hmm.2.2.2,hmm.1⟩ hc
    have hr:=h4 hmf
    have hb2:(if (aG s.Items id).2=true then some (gC d && decide (n=cm d)) else some false)=some false:=by
     cases h5:(aG s.Items id).2 with
     | false=>rfl
     | true=>
      cases h6:(gC d && decide (n=cm d)) with
      | false=>rfl
      | true=>exact absurd ⟨h5,h6⟩ hc
    rw [hb2,Option.bind_some]
    simp only [Bool.false_eq_true,if_false]
    subst hr
    refine lp0 hN r.Alphas (by omega) (fe N (d,n,r,s,id) r) (fun _=>some true) (fun k i x t g1 g2 g3 g4 g5 g6 g7=>?_) (fun k i g1 g2=>?_)
    ·simp only [fe,g5,if_true,g4,Option.bind_some,Cf hN x.L x.L (by have:=h3 x g2; omega),decide_true,Bool.not_true,Bool.false_eq_true,if_false,g6,g7]
    ·simp only [fe,g2,Bool.false_eq_true,if_false,decide_true]
 ·have c1:decide (1048576 < (b.length:Int))=true:=decide_eq_true (by omega)
  simp only [c1,Option.bind_some,if_true]
namespace fnKept
theorem law {x0:List Int} (w0:(WfL (WfI .u8)) x0):ny 1099511627776 x0=some true:=yQ (by omega) x0
end fnKept
end Go.Proofs.YtinomobmcjnfjaaGreat
