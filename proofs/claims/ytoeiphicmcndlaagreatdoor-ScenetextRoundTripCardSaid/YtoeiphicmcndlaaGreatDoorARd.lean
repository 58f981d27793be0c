/-
 How slices of digits are read.
-/
import Derived.WalkKit
import Derived.WalkSpells
import Derived.WalkLawsBesides
import Derived.Deep.AppendLies
import Derived.Deep.Draws
import Derived.Maps.AppendAt
import Derived.Test.YtoeiphicmcndlaaGreatDoorANum
namespace Go.Proofs.YtoeiphicmcndlaaGreatDoor
set_option linter.unusedVariables false
set_option linter.unusedSimpArgs false
open Go.RowKit
theorem G3(a:Addr)(n:Nat):(a.add n).block=a.block:=by unfold Addr.add;split<;>rfl
def Oj(w:World)(B size:Nat)(A:Option Addr)(n:Nat)(xs:List Value):Prop:=
 xs.length=n*size∧(0<n→∃ad,A=some ad∧ad.block<B∧∀j u,xs[j]? =some u→w.cell? (ad.add j)=some u)
section
variable{w w':World}{B B' size n:Nat}{A:Option Addr}{xs:List Value}
theorem Oj.none_:Oj w B size A 0 []:=⟨by simp,fun h=>absurd h Zo⟩
theorem Oj.at_{k:Nat}(h:Oj w B 1 A n xs)(hk:k<n):∃ad u,A=some ad∧ad.block<B∧xs[k]? =some u∧w.cell? (ad.add k)=some u:=by
 obtain⟨ad,e,hb,hc⟩:=h.2 Zo
 have hl:k<xs.length:=by have:=h.1;omega
 exact⟨ad,xs[k],e,hb,List.getElem?_eq_getElem hl,hc k _ (List.getElem?_eq_getElem hl)⟩
theorem Oj.keep(h:Oj w B size A n xs)(hk:∀p:Addr,p.block<B→w'.cell? p=w.cell? p):Oj w' B size A n xs:=
 ⟨h.1,fun hn=>by
  obtain⟨ad,e,hb,hc⟩:=h.2 hn
  exact⟨ad,e,hb,fun j u hu=>(hk _ (by rw[G3];exact hb)).trans (hc j u hu)⟩⟩
theorem Oj.more(h:Oj w B size A n xs)(hB:B≤B'):Oj w B' size A n xs:=
 ⟨h.1,fun hn=>by
  obtain⟨ad,e,hb,hc⟩:=h.2 hn
  exact⟨ad,e,by omega,hc⟩⟩
theorem Oj.below(h:Oj w B size A n xs)(hb:Below B w w'):Oj w' B size A n xs:=h.keep fun _ hp=>hb.cell hp
theorem Oj.alloc(h:Oj w B size A n xs)(hB:B≤w.heap.size)(o:Obj):Oj (w.alloc o) B size A n xs:=h.keep fun p hp=>World.cell?_alloc_lt w o p Zo
theorem Oj.of_own{base:Nat}{e:TypeId}{c:Nat}(h:w.ownsRow base e size (.slice A n c) n xs):Oj w w.heap.size size A n xs:=by
 refine⟨h.1,fun hn=> ?_⟩
 obtain⟨g,cap,hv,_,hlt⟩:=h.form hn
 have hA:A=some ⟨g,0,none⟩:=by injection hv
 subst hA
 exact⟨_,rfl,hlt,h.cells (g:=g) rfl⟩
end
def Ah(w:World)(g:Nat)(t:TypeId)(cs:Array Value):Prop:=w.heap[g]? =some (.cells cs t (0,0))
section
variable{w w':World}{g:Nat}{t:TypeId}{cs:Array Value}
theorem Ah.lt(h:Ah w g t cs):g<w.heap.size:=by
 rcases Nat.lt_or_ge g w.heap.size with hlt|hge
 ·exact hlt
 ·unfold Ah at h;rw[Array.getElem?_eq_none hge]at h;cases h
theorem Ah.cell(h:Ah w g t cs)(i:Nat):w.cell? ⟨g,i,none⟩=cs[i]? :=cell_of_row w g i cs t (0,0) h
theorem Ah.frozen(h:Ah w g t cs)(i:Nat):w.frozen? ⟨g,i,none⟩=false:=by
 unfold Ah at h
 simp[World.frozen?,h]
theorem Ah.new(w:World)(t:TypeId)(cs:Array Value):Ah (w.alloc (.cells cs t)) w.heap.size t cs:=heap_alloc_new w _
theorem Ah.alloc(h:Ah w g t cs)(o:Obj):Ah (w.alloc o) g t cs:=(Below.heap_alloc w o g h.lt).trans h
theorem Ah.set_(h:Ah w g t cs)(i:Nat)(u:Value):Ah (w.setCell ⟨g,i,none⟩ u) g t (cs.setIfInBounds i u):=by
 unfold Ah at h ⊢
 simp[World.setCell,Array.getElem?_modify,h]
theorem Ah.far(h:Ah w g t cs){p:Addr}(hp:g≠p.block)(u:Value):Ah (w.setCell p u) g t cs:=(Below.heap_setCell w p u g hp).trans h
theorem Ah.below{B:Nat}(h:Ah w g t cs)(hb:Below B w w')(hg:g<B):Ah w' g t cs:=(hb.block g hg).trans h
theorem Ah.grown{row:Option Nat}(h:Ah w g t cs)(hb:w.grownBy w' row)(hg:some g≠row):Ah w' g t cs:=(hb.block g h.lt hg).trans h
end
section
variable{P:Program}(w:World)
theorem F9(base:Nat)(t ty e:TypeId)(i:TypeInfo)(size:Nat)(ht:P.underlying t=some (.slice e))(hi:P.info? e=some i)
 (v:Value) (n:Nat) (xs:List Value) (hown:w.ownsRow base e size v n xs) (c:Nat):(Builtin.append_ #[t,t] ty #[v,.slice none 0 c]).run P w= .ok v w:=by
 rcases hown.2 with ⟨rfl,rfl⟩|⟨g,cap,cur,rfl,_,_,hnc,_⟩
 ·simp[Builtin.append_,run_underlying ht,sizeOf,typeInfo,hi,Builtin.lenOf,Builtin.firstCells]
 ·simp[Builtin.append_,run_underlying ht,sizeOf,typeInfo,hi,Builtin.lenOf,Builtin.firstCells,hnc,storeCells]
theorem B8(base:Nat)(t ty e:TypeId)(i:TypeInfo)(z:Value)(size bytes:Nat)(ht:P.underlying t=some (.slice e))(hi:P.info? e=some i)(hz:i.zero=some z)
 (hsize:i.size=size) (hby:i.bytes=bytes) (hzs:z.cells.size=size) (hsz:0<size)
 (v:Value) (n:Nat) (xs:List Value) (hown:w.ownsRow base e size v n xs)
 (B:Nat) (A:Option Addr) (m c:Nat) (news:List Value) (hr:Oj w B size A m news) (h1:∀u∈news,u.oneCell'=true)
 (h63:n+m≤maxLen) (hbytes:(n+m)*bytes≤140737488355328) (hbase:base≤w.heap.size):
 ∃v' w',(Builtin.append_ #[t,t] ty #[v,.slice A m c]).run P w= .ok v' w'∧w'.ownsRow base e size v' (n+m) (xs++news)∧w.grownBy w' v.ownBlock∧
  (v'.ownBlock=v.ownBlock∨v'.ownBlock=some w.heap.size):=by
 rcases A with _|ad
 ·have hm:m=0:=by
   rcases Nat.eq_zero_or_pos m with h0|h0
   ·exact h0
   ·obtain⟨ad,h,_⟩:=hr.2 h0
    cases h
  subst hm
  have hn:news=[]:=List.eq_nil_of_length_eq_zero (by simpa using hr.1)
  subst hn
  exact⟨v,w,F9 w base t ty e i size ht hi v n xs hown c,by simpa using hown,World.grownBy.refl w _,.inl rfl⟩
 ·have hcells:∀j u,news[j]? =some u→w.cell? (ad.add j)=some u:=by
   intro j u hu
   rcases Nat.eq_zero_or_pos m with h0|h0
   ·subst h0
    have hn:news=[]:=List.eq_nil_of_length_eq_zero (by simpa using hr.1)
    subst hn
    simp at hu
   ·obtain⟨ad',h,_,hc⟩:=hr.2 h0
    injection h with h
    subst h
    exact hc j u hu
  obtain⟨v',w',hrun,h2,h3,_,h5⟩:=run_append_own_at (P:=P) w base t ty e i z size bytes ht hi hz hsize hby hzs hsz v n xs hown ad m c news hr.1 hcells h1 h63 hbytes hbase
  exact⟨v',w',hrun,h2,h3,h5⟩
theorem wp_append_any{o:Oper}{a:Act}{K:Act→World→Prop}{Q:Exit→Act→World→Prop}(s x:Operand)(t:TypeId)
 (ho:o.op= .call {callee:= .builtin .append,args:= #[s,x],argTypes:= #[t,t]})
 (base:Nat) (e:TypeId) (i:TypeInfo) (z:Value) (size bytes:Nat) (ht:P.underlying t=some (.slice e)) (hi:P.info? e=some i) (hz:i.zero=some z)
 (hsize:i.size=size) (hby:i.bytes=bytes) (hzs:z.cells.size=size) (hsz:0<size)
 (v:Value) (n:Nat) (xs:List Value) (hs:a.eval s=v) (hown:w.ownsRow base e size v n xs)
 (B:Nat) (A:Option Addr) (m c:Nat) (news:List Value) (hx:a.eval x= .slice A m c) (hr:Oj w B size A m news) (h1:∀u∈news,u.oneCell'=true)
 (h63:n+m≤maxLen) (hbytes:(n+m)*bytes≤140737488355328) (hbase:base≤w.heap.size)
 (h:∀v' w',w'.ownsRow base e size v' (n+m) (xs++news)→w.grownBy w' v.ownBlock→(v'.ownBlock=v.ownBlock∨v'.ownBlock=some w.heap.size)→K (a.put o.dst v') w'):o.wp P a w K Q:=by
 obtain⟨v',w',hrun,h2,h3,h4⟩:=B8 (P:=P) w base t o.type e i z size bytes ht hi hz hsize hby hzs hsz v n xs hown B A m c news hr h1 h63 hbytes hbase
 unfold Oper.wp execOp
 simp only[ho,resolve,invoke,builtin,Sem.run_bind,Sem.run_pure,Result.andThen_ok,List.map_toArray,List.map_cons,List.map_nil,hs,hx,hrun]
 exact h v' w' h2 h3 h4
theorem Er{ops:Array Oper}{rest:List Oper}{o:Oper}{a:Act}{Q:Exit→Act→World→Prop}(hgd:o.guard=none)(s x:Operand)(t:TypeId)
 (ho:o.op= .call {callee:= .builtin .append,args:= #[s,x],argTypes:= #[t,t]})
 (base:Nat) (e:TypeId) (i:TypeInfo) (z:Value) (size bytes:Nat) (ht:P.underlying t=some (.slice e)) (hi:P.info? e=some i) (hz:i.zero=some z)
 (hsize:i.size=size) (hby:i.bytes=bytes) (hzs:z.cells.size=size) (hsz:0<size)
 (v:Value) (n:Nat) (xs:List Value) (hs:a.eval s=v) (hown:w.ownsRow base e size v n xs)
 (B:Nat) (A:Option Addr) (m c:Nat) (news:List Value) (hx:a.eval x= .slice A m c) (hr:Oj w B size A m news) (h1:∀u∈news,u.oneCell'=true)
 (h63:n+m≤maxLen) (hbytes:(n+m)*bytes≤140737488355328) (hbase:base≤w.heap.size)
 (h:∀v' w',w'.ownsRow base e size v' (n+m) (xs++news)→w.grownBy w' v.ownBlock→(v'.ownBlock=v.ownBlock∨v'.ownBlock=some w.heap.size)→wpList P ops Q rest (a.put o.dst v') w'):wpList P ops Q (o::rest) a w:=
 wpList_plain hgd fun _ hK=>wp_append_any w s x t ho base e i z size bytes ht hi hz hsize hby hzs hsz v n xs hs hown B A m c news hx hr h1 h63 hbytes hbase fun v' w' h2 h3 h4=>hK _ _ (h v' w' h2 h3 h4)
end
theorem Km{p:Prop}(h:p):Hid p:=h
theorem K3{p:Prop}(h:Hid p):p:=h
def Of(l:List Nat):List Value:=l.map fun(d:Nat)=>Value.int .u32 (d:Int)
theorem Pj(l:List Nat):(Of l).length=l.length:=by simp[Of]
theorem Y5{l:List Nat}{i:Nat}(h:i<l.length):(Of l)[i]? =some (.int .u32 (dg l i:Int)):=by
 simp[Of,dg,h]
theorem u32s_one{l:List Nat}:∀u∈Of l,u.oneCell'=true:=by
 intro u hu
 simp only[Of,List.mem_map]at hu
 obtain⟨d,_,rfl⟩:=hu
 rfl
theorem u32s_set(l:List Nat)(i d:Nat):(Of l).set i (.int .u32 (d:Int))=Of (l.set i d):=by
 simp[Of,List.map_set]
theorem I1(a b:List Nat):Of (a++b)=Of a++Of b:=by simp[Of]
structure In(w:World)(A:Option Addr)(n c:Nat)(l:List Nat):Prop where
 dig:N8 l
 len:l.length=n
 le:n≤c
 cap:c≤maxLen
 rd:Oj w w.heap.size 1 A n (Of l)
structure Py(w:World)(B:Nat)(A:Option Addr)(n c:Nat)(l:List Nat):Prop extends In w A n c l where
 own:0<c→∃g cur t,A=some ⟨g,0,none⟩∧B≤g∧w.heap[g]? =some (.cells cur t (0,0))∧c≤cur.size
section
variable{w w':World}{A:Option Addr}{n c:Nat}{l:List Nat}
theorem In.keep(h:In w A n c l)(hs:w.heap.size≤w'.heap.size)(hk:∀p:Addr,p.block<w.heap.size→w'.cell? p=w.cell? p):In w' A n c l:=
 ⟨h.dig,h.len,h.le,h.cap,(h.rd.keep hk).more hs⟩
theorem In.below(h:In w A n c l)(hb:Below w.heap.size w w'):In w' A n c l:=h.keep hb.size fun _ hp=>hb.cell hp
theorem In.at_(h:In w A n c l){k:Nat}(hk:k<n):∃ad,A=some ad∧w.cell? (ad.add k)=some (.int .u32 (dg l k:Int)):=by
 obtain⟨ad,u,hA,_,hu,hc⟩:=h.rd.at_ hk
 rw[Y5 (by rw[h.len];exact hk)]at hu
 injection hu with hu
 subst hu
 exact⟨ad,hA,hc⟩
theorem In.nil_:In w none 0 0 []:=⟨N8.nil,rfl,Nat.le_refl _,by unfold maxLen;omega,Oj.none_⟩
theorem In.take(h:In w A n c l){k c':Nat}(hk:k≤n)(hc:k≤c')(hcap:c'≤maxLen):In w A k c' (l.take k):=by
 refine⟨h.dig.take k,by rw[List.length_take,h.len];omega,hc,hcap,?_⟩
 refine⟨by rw[Pj,List.length_take,h.len];omega,fun h0=> ?_⟩
 obtain⟨ad,hA,hb,hcell⟩:=h.rd.2 Zo
 refine⟨ad,hA,hb,fun j u hu=>hcell j u ?_⟩
 have e:Of (l.take k)=(Of l).take k:=by simp[Of,List.map_take]
 rw[e,List.getElem?_take]at hu
 split at hu
 ·exact hu
 ·cases hu
theorem In.trim(h:In w A n c l):In w A (tlen l n) (tlen l n) (Go.Proofs.YtoeiphicmcndlaaGreatDoor.trim l):=by
 have e:Go.Proofs.YtoeiphicmcndlaaGreatDoor.trim l=l.take (tlen l n):=by rw[Go.Proofs.YtoeiphicmcndlaaGreatDoor.trim,h.len]
 rw[e]
 exact h.take (Nw _ _) (Nat.le_refl _) (Nat.le_trans (Nat.le_trans (Nw _ _) h.le) h.cap)
theorem Py.below{B:Nat}(h:Py w B A n c l)(hb:Below w.heap.size w w'):Py w' B A n c l:=
 ⟨h.toIn.below hb,fun h0=>by
  obtain⟨g,cur,t,hA,hg,hh,hcs⟩:=h.own h0
  exact⟨g,cur,t,hA,hg,(hb.block g (Array.getElem?_eq_some_iff.1 hh).1).trans hh,hcs⟩⟩
theorem Py.base{B B':Nat}(h:Py w B A n c l)(hB:B'≤B):Py w B' A n c l:=
 ⟨h.toIn,fun h0=>by
  obtain⟨g,cur,t,hA,hg,hh,hcs⟩:=h.own h0
  exact⟨g,cur,t,hA,by omega,hh,hcs⟩⟩
theorem Py.nil_{B:Nat}:Py w B none 0 0 []:=⟨In.nil_,fun h=>absurd h Zo⟩
theorem Py.take{B:Nat}(h:Py w B A n c l){k c':Nat}(hk:k≤n)(hc:k≤c')(hcap:c'≤c):Py w B A k c' (l.take k):=
 ⟨h.toIn.take hk hc (Nat.le_trans hcap h.cap),fun h0=>by
  obtain⟨g,cur,t,hA,hg,hh,hcs⟩:=h.own Zo
  exact⟨g,cur,t,hA,hg,hh,by omega⟩⟩
theorem Py.trim{B:Nat}(h:Py w B A n c l):Py w B A (tlen l n) (tlen l n) (Go.Proofs.YtoeiphicmcndlaaGreatDoor.trim l):=by
 have e:Go.Proofs.YtoeiphicmcndlaaGreatDoor.trim l=l.take (tlen l n):=by rw[Go.Proofs.YtoeiphicmcndlaaGreatDoor.trim,h.len]
 rw[e]
 exact h.take (Nw _ _) (Nat.le_refl _) (Nat.le_trans (Nw _ _) h.le)
def Mk(w:World)(g t:Nat)(l:List Nat):Prop:=Ah w g t (Of l).toArray
theorem Mk.cell{g t:Nat}(h:Mk w g t l){i:Nat}(hi:i<l.length):w.cell? ⟨g,i,none⟩=some (.int .u32 (dg l i:Int)):=by
 rw[Ah.cell h,List.getElem?_toArray,Y5 hi]
theorem Mk.frozen{g t:Nat}(h:Mk w g t l)(i:Nat):w.frozen? ⟨g,i,none⟩=false:=Ah.frozen h i
theorem Mk.lt{g t:Nat}(h:Mk w g t l):g<w.heap.size:=Ah.lt h
theorem Mk.set_{g t:Nat}(h:Mk w g t l)(i d:Nat):Mk (w.setCell ⟨g,i,none⟩ (.int .u32 (d:Int))) g t (l.set i d):=by
 have:=Ah.set_ h i (.int .u32 (d:Int))
 unfold Mk
 rw[←u32s_set]
 simpa using this
theorem Mk.below{g t B:Nat}(h:Mk w g t l)(hb:Below B w w')(hg:g<B):Mk w' g t l:=Ah.below h hb hg
theorem Mk.alloc{g t:Nat}(h:Mk w g t l)(o:Obj):Mk (w.alloc o) g t l:=Ah.alloc h o
theorem Mk.far{g t:Nat}(h:Mk w g t l){p:Addr}(hp:g≠p.block)(u:Value):Mk (w.setCell p u) g t l:=Ah.far h hp u
theorem Mk.own{g t B:Nat}(h:Mk w g t l)(hd:N8 l)(hB:B≤g)(hm:l.length≤maxLen):Py w B (some ⟨g,0,none⟩) l.length l.length l:=by
 refine⟨⟨hd,rfl,Nat.le_refl _,hm,⟨by rw[Pj];omega,fun _=>⟨_,rfl,h.lt,fun j u hu=> ?_⟩⟩⟩,fun _=>⟨g,_,t,rfl,hB,h,by simp[Pj]⟩⟩
 have e:(⟨g,0,none⟩:Addr).add j=⟨g,j,none⟩:=by unfold Addr.add;split<;>simp_all
 rw[e,Ah.cell h,List.getElem?_toArray];exact hu
theorem Py.of_row{B t:Nat}{v:Value}(h:w.ownsRow B t 1 v n (Of l))(hd:N8 l)(hl:l.length=n):∃A c,v= .slice A n c∧Py w B A n c l:=by
 rcases h.2 with ⟨rfl,rfl⟩|⟨g,cap,cur,rfl,hg,hh,hn,hc,hs,ht⟩
 ·have:l=[]:=List.length_eq_zero_iff.1 hl
  subst this
  exact⟨none,0,rfl,Py.nil_⟩
 ·exact⟨some ⟨g,0,none⟩,cap,rfl,⟨hd,hl,hn,hc,Oj.of_own h⟩,fun _=>⟨g,cur,t,rfl,hg,hh,by omega⟩⟩
def Tq(w:World)(k:Nat)(e:Ending)(w':World):Prop:=
 ∃A n c l,e= .returned (.slice A n c)∧Mx l∧val l=k∧Py w' w.heap.size A n c l∧Below w.heap.size w w'
end
def U4(a b:Nat):Int:=if a<b then -1 else if a=b then 0 else 1
theorem D9{a b:Nat}(h:a<b):U4 a b= -1:=by simp[U4,h]
theorem Jq{a b:Nat}(h:b<a):U4 a b=1:=by
 unfold U4;rw[if_neg Zo,if_neg Zo]
theorem cmpN_eq{a b:Nat}(h:a=b):U4 a b=0:=by
 unfold U4;rw[if_neg Zo,if_pos h]
end Go.Proofs.YtoeiphicmcndlaaGreatDoor
