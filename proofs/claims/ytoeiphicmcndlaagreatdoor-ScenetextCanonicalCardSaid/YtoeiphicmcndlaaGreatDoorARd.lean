/-
 How slices of digits are read.
-/
import Derived.WalkKit
import Derived.WalkSpells
import Derived.WalkLawsBesides
import Derived.Deep.AppendLies
import Derived.Deep.Draws
import Derived.Maps.AppendAt
import Derived.Test.YtoeiphicmcndlaaGreatDoorANum
namespace Go.Proofs.YtoeiphicmcndlaaGreatDoor
set_option linter.unusedVariables false
set_option linter.unusedSimpArgs false
open Go.RowKit
theorem block_of_add(a:Addr)(n:Nat):(a.add n).block=a.block:=by unfold Addr.add;split<;>rfl
def Oe(w:World)(B size:Nat)(A:Option Addr)(n:Nat)(xs:List Value):Prop:=
 xs.length=n*size∧(0<n→∃ad,A=some ad∧ad.block<B∧∀j u,xs[j]? =some u→w.cell? (ad.add j)=some u)
section
variable{w w':World}{B B' size n:Nat}{A:Option Addr}{xs:List Value}
theorem Oe.none_:Oe w B size A 0 []:=⟨by simp,fun h=>absurd h Zo⟩
theorem Oe.at_{k:Nat}(h:Oe w B 1 A n xs)(hk:k<n):∃ad u,A=some ad∧ad.block<B∧xs[k]? =some u∧w.cell? (ad.add k)=some u:=by
 obtain⟨ad,e,hb,hc⟩:=h.2 Zo
 have hl:k<xs.length:=by have:=h.1;omega
 exact⟨ad,xs[k],e,hb,List.getElem?_eq_getElem hl,hc k _ (List.getElem?_eq_getElem hl)⟩
theorem Oe.keep(h:Oe w B size A n xs)(hk:∀p:Addr,p.block<B→w'.cell? p=w.cell? p):Oe w' B size A n xs:=
 ⟨h.1,fun hn=>by
  obtain⟨ad,e,hb,hc⟩:=h.2 hn
  exact⟨ad,e,hb,fun j u hu=>(hk _ (by rw[block_of_add];exact hb)).trans (hc j u hu)⟩⟩
theorem Oe.more(h:Oe w B size A n xs)(hB:B≤B'):Oe w B' size A n xs:=
 ⟨h.1,fun hn=>by
  obtain⟨ad,e,hb,hc⟩:=h.2 hn
  exact⟨ad,e,by omega,hc⟩⟩
theorem Oe.below(h:Oe w B size A n xs)(hb:Below B w w'):Oe w' B size A n xs:=h.keep fun _ hp=>hb.cell hp
theorem Oe.alloc(h:Oe w B size A n xs)(hB:B≤w.heap.size)(o:Obj):Oe (w.alloc o) B size A n xs:=h.keep fun p hp=>World.cell?_alloc_lt w o p Zo
theorem Oe.of_own{base:Nat}{e:TypeId}{c:Nat}(h:w.ownsRow base e size (.slice A n c) n xs):Oe w w.heap.size size A n xs:=by
 refine⟨h.1,fun hn=> ?_⟩
 obtain⟨g,cap,hv,_,hlt⟩:=h.form hn
 have hA:A=some ⟨g,0,none⟩:=by injection hv
 subst hA
 exact⟨_,rfl,hlt,h.cells (g:=g) rfl⟩
end
def Yq(w:World)(g:Nat)(t:TypeId)(cs:Array Value):Prop:=w.heap[g]? =some (.cells cs t (0,0))
section
variable{w w':World}{g:Nat}{t:TypeId}{cs:Array Value}
theorem Yq.lt(h:Yq w g t cs):g<w.heap.size:=by
 rcases Nat.lt_or_ge g w.heap.size with hlt|hge
 ·exact hlt
 ·unfold Yq at h;rw[Array.getElem?_eq_none hge]at h;cases h
theorem Yq.cell(h:Yq w g t cs)(i:Nat):w.cell? ⟨g,i,none⟩=cs[i]? :=cell_of_row w g i cs t (0,0) h
theorem Yq.frozen(h:Yq w g t cs)(i:Nat):w.frozen? ⟨g,i,none⟩=false:=by
 unfold Yq at h
 simp[World.frozen?,h]
theorem Yq.new(w:World)(t:TypeId)(cs:Array Value):Yq (w.alloc (.cells cs t)) w.heap.size t cs:=heap_alloc_new w _
theorem Yq.alloc(h:Yq w g t cs)(o:Obj):Yq (w.alloc o) g t cs:=(Below.heap_alloc w o g h.lt).trans h
theorem Yq.set_(h:Yq w g t cs)(i:Nat)(u:Value):Yq (w.setCell ⟨g,i,none⟩ u) g t (cs.setIfInBounds i u):=by
 unfold Yq at h ⊢
 simp[World.setCell,Array.getElem?_modify,h]
theorem Yq.far(h:Yq w g t cs){p:Addr}(hp:g≠p.block)(u:Value):Yq (w.setCell p u) g t cs:=(Below.heap_setCell w p u g hp).trans h
theorem Yq.below{B:Nat}(h:Yq w g t cs)(hb:Below B w w')(hg:g<B):Yq w' g t cs:=(hb.block g hg).trans h
theorem Yq.grown{row:Option Nat}(h:Yq w g t cs)(hb:w.grownBy w' row)(hg:some g≠row):Yq w' g t cs:=(hb.block g h.lt hg).trans h
end
section
variable{P:Program}(w:World)
theorem run_append_of_nil(base:Nat)(t ty e:TypeId)(i:TypeInfo)(size:Nat)(ht:P.underlying t=some (.slice e))(hi:P.info? e=some i)
 (v:Value) (n:Nat) (xs:List Value) (hown:w.ownsRow base e size v n xs) (c:Nat):(Builtin.append_ #[t,t] ty #[v,.slice none 0 c]).run P w= .ok v w:=by
 rcases hown.2 with ⟨rfl,rfl⟩|⟨g,cap,cur,rfl,_,_,hnc,_⟩
 ·simp[Builtin.append_,run_underlying ht,sizeOf,typeInfo,hi,Builtin.lenOf,Builtin.firstCells]
 ·simp[Builtin.append_,run_underlying ht,sizeOf,typeInfo,hi,Builtin.lenOf,Builtin.firstCells,hnc,storeCells]
theorem Ze(base:Nat)(t ty e:TypeId)(i:TypeInfo)(z:Value)(size bytes:Nat)(ht:P.underlying t=some (.slice e))(hi:P.info? e=some i)(hz:i.zero=some z)
 (hsize:i.size=size) (hby:i.bytes=bytes) (hzs:z.cells.size=size) (hsz:0<size)
 (v:Value) (n:Nat) (xs:List Value) (hown:w.ownsRow base e size v n xs)
 (B:Nat) (A:Option Addr) (m c:Nat) (news:List Value) (hr:Oe w B size A m news) (h1:∀u∈news,u.oneCell'=true)
 (h63:n+m≤maxLen) (hbytes:(n+m)*bytes≤140737488355328) (hbase:base≤w.heap.size):
 ∃v' w',(Builtin.append_ #[t,t] ty #[v,.slice A m c]).run P w= .ok v' w'∧w'.ownsRow base e size v' (n+m) (xs++news)∧w.grownBy w' v.ownBlock∧
  (v'.ownBlock=v.ownBlock∨v'.ownBlock=some w.heap.size):=by
 rcases A with _|ad
 ·have hm:m=0:=by
   rcases Nat.eq_zero_or_pos m with h0|h0
   ·exact h0
   ·obtain⟨ad,h,_⟩:=hr.2 h0
    cases h
  subst hm
  have hn:news=[]:=List.eq_nil_of_length_eq_zero (by simpa using hr.1)
  subst hn
  exact⟨v,w,run_append_of_nil w base t ty e i size ht hi v n xs hown c,by simpa using hown,World.grownBy.refl w _,.inl rfl⟩
 ·have hcells:∀j u,news[j]? =some u→w.cell? (ad.add j)=some u:=by
   intro j u hu
   rcases Nat.eq_zero_or_pos m with h0|h0
   ·subst h0
    have hn:news=[]:=List.eq_nil_of_length_eq_zero (by simpa using hr.1)
    subst hn
    simp at hu
   ·obtain⟨ad',h,_,hc⟩:=hr.2 h0
    injection h with h
    subst h
    exact hc j u hu
  obtain⟨v',w',hrun,h2,h3,_,h5⟩:=run_append_own_at (P:=P) w base t ty e i z size bytes ht hi hz hsize hby hzs hsz v n xs hown ad m c news hr.1 hcells h1 h63 hbytes hbase
  exact⟨v',w',hrun,h2,h3,h5⟩
theorem wp_append_any{o:Oper}{a:Act}{K:Act→World→Prop}{Q:Exit→Act→World→Prop}(s x:Operand)(t:TypeId)
 (ho:o.op= .call {callee:= .builtin .append,args:= #[s,x],argTypes:= #[t,t]})
 (base:Nat) (e:TypeId) (i:TypeInfo) (z:Value) (size bytes:Nat) (ht:P.underlying t=some (.slice e)) (hi:P.info? e=some i) (hz:i.zero=some z)
 (hsize:i.size=size) (hby:i.bytes=bytes) (hzs:z.cells.size=size) (hsz:0<size)
 (v:Value) (n:Nat) (xs:List Value) (hs:a.eval s=v) (hown:w.ownsRow base e size v n xs)
 (B:Nat) (A:Option Addr) (m c:Nat) (news:List Value) (hx:a.eval x= .slice A m c) (hr:Oe w B size A m news) (h1:∀u∈news,u.oneCell'=true)
 (h63:n+m≤maxLen) (hbytes:(n+m)*bytes≤140737488355328) (hbase:base≤w.heap.size)
 (h:∀v' w',w'.ownsRow base e size v' (n+m) (xs++news)→w.grownBy w' v.ownBlock→(v'.ownBlock=v.ownBlock∨v'.ownBlock=some w.heap.size)→K (a.put o.dst v') w'):o.wp P a w K Q:=by
 obtain⟨v',w',hrun,h2,h3,h4⟩:=Ze (P:=P) w base t o.type e i z size bytes ht hi hz hsize hby hzs hsz v n xs hown B A m c news hr h1 h63 hbytes hbase
 unfold Oper.wp execOp
 simp only[ho,resolve,invoke,builtin,Sem.run_bind,Sem.run_pure,Result.andThen_ok,List.map_toArray,List.map_cons,List.map_nil,hs,hx,hrun]
 exact h v' w' h2 h3 h4
theorem wpList_append_any{ops:Array Oper}{rest:List Oper}{o:Oper}{a:Act}{Q:Exit→Act→World→Prop}(hgd:o.guard=none)(s x:Operand)(t:TypeId)
 (ho:o.op= .call {callee:= .builtin .append,args:= #[s,x],argTypes:= #[t,t]})
 (base:Nat) (e:TypeId) (i:TypeInfo) (z:Value) (size bytes:Nat) (ht:P.underlying t=some (.slice e)) (hi:P.info? e=some i) (hz:i.zero=some z)
 (hsize:i.size=size) (hby:i.bytes=bytes) (hzs:z.cells.size=size) (hsz:0<size)
 (v:Value) (n:Nat) (xs:List Value) (hs:a.eval s=v) (hown:w.ownsRow base e size v n xs)
 (B:Nat) (A:Option Addr) (m c:Nat) (news:List Value) (hx:a.eval x= .slice A m c) (hr:Oe w B size A m news) (h1:∀u∈news,u.oneCell'=true)
 (h63:n+m≤maxLen) (hbytes:(n+m)*bytes≤140737488355328) (hbase:base≤w.heap.size)
 (h:∀v' w',w'.ownsRow base e size v' (n+m) (xs++news)→w.grownBy w' v.ownBlock→(v'.ownBlock=v.ownBlock∨v'.ownBlock=some w.heap.size)→wpList P ops Q rest (a.put o.dst v') w'):wpList P ops Q (o::rest) a w:=
 wpList_plain hgd fun _ hK=>wp_append_any w s x t ho base e i z size bytes ht hi hz hsize hby hzs hsz v n xs hs hown B A m c news hx hr h1 h63 hbytes hbase fun v' w' h2 h3 h4=>hK _ _ (h v' w' h2 h3 h4)
end
theorem Kr{p:Prop}(h:p):Hid p:=h
theorem K3{p:Prop}(h:Hid p):p:=h
def O9(l:List Nat):List Value:=l.map fun(d:Nat)=>Value.int .u32 (d:Int)
theorem Pc(l:List Nat):(O9 l).length=l.length:=by simp[O9]
theorem Vu{l:List Nat}{i:Nat}(h:i<l.length):(O9 l)[i]? =some (.int .u32 (dg l i:Int)):=by
 simp[O9,dg,h]
theorem u32s_one{l:List Nat}:∀u∈O9 l,u.oneCell'=true:=by
 intro u hu
 simp only[O9,List.mem_map]at hu
 obtain⟨d,_,rfl⟩:=hu
 rfl
theorem u32s_set(l:List Nat)(i d:Nat):(O9 l).set i (.int .u32 (d:Int))=O9 (l.set i d):=by
 simp[O9,List.map_set]
theorem u32s_append(a b:List Nat):O9 (a++b)=O9 a++O9 b:=by simp[O9]
structure In(w:World)(A:Option Addr)(n c:Nat)(l:List Nat):Prop where
 dig:N5 l
 len:l.length=n
 le:n≤c
 cap:c≤maxLen
 rd:Oe w w.heap.size 1 A n (O9 l)
structure Pm(w:World)(B:Nat)(A:Option Addr)(n c:Nat)(l:List Nat):Prop extends In w A n c l where
 own:0<c→∃g cur t,A=some ⟨g,0,none⟩∧B≤g∧w.heap[g]? =some (.cells cur t (0,0))∧c≤cur.size
section
variable{w w':World}{A:Option Addr}{n c:Nat}{l:List Nat}
theorem In.keep(h:In w A n c l)(hs:w.heap.size≤w'.heap.size)(hk:∀p:Addr,p.block<w.heap.size→w'.cell? p=w.cell? p):In w' A n c l:=
 ⟨h.dig,h.len,h.le,h.cap,(h.rd.keep hk).more hs⟩
theorem In.below(h:In w A n c l)(hb:Below w.heap.size w w'):In w' A n c l:=h.keep hb.size fun _ hp=>hb.cell hp
theorem In.at_(h:In w A n c l){k:Nat}(hk:k<n):∃ad,A=some ad∧w.cell? (ad.add k)=some (.int .u32 (dg l k:Int)):=by
 obtain⟨ad,u,hA,_,hu,hc⟩:=h.rd.at_ hk
 rw[Vu (by rw[h.len];exact hk)]at hu
 injection hu with hu
 subst hu
 exact⟨ad,hA,hc⟩
theorem In.nil_:In w none 0 0 []:=⟨N5.nil,rfl,Nat.le_refl _,by unfold maxLen;omega,Oe.none_⟩
theorem In.take(h:In w A n c l){k c':Nat}(hk:k≤n)(hc:k≤c')(hcap:c'≤maxLen):In w A k c' (l.take k):=by
 refine⟨h.dig.take k,by rw[List.length_take,h.len];omega,hc,hcap,?_⟩
 refine⟨by rw[Pc,List.length_take,h.len];omega,fun h0=> ?_⟩
 obtain⟨ad,hA,hb,hcell⟩:=h.rd.2 Zo
 refine⟨ad,hA,hb,fun j u hu=>hcell j u ?_⟩
 have e:O9 (l.take k)=(O9 l).take k:=by simp[O9,List.map_take]
 rw[e,List.getElem?_take]at hu
 split at hu
 ·exact hu
 ·cases hu
theorem In.trim(h:In w A n c l):In w A (tlen l n) (tlen l n) (Go.Proofs.YtoeiphicmcndlaaGreatDoor.trim l):=by
 have e:Go.Proofs.YtoeiphicmcndlaaGreatDoor.trim l=l.take (tlen l n):=by rw[Go.Proofs.YtoeiphicmcndlaaGreatDoor.trim,h.len]
 rw[e]
 exact h.take (Nm _ _) (Nat.le_refl _) (Nat.le_trans (Nat.le_trans (Nm _ _) h.le) h.cap)
theorem Pm.below{B:Nat}(h:Pm w B A n c l)(hb:Below w.heap.size w w'):Pm w' B A n c l:=
 ⟨h.toIn.below hb,fun h0=>by
  obtain⟨g,cur,t,hA,hg,hh,hcs⟩:=h.own h0
  exact⟨g,cur,t,hA,hg,(hb.block g (Array.getElem?_eq_some_iff.1 hh).1).trans hh,hcs⟩⟩
theorem Pm.base{B B':Nat}(h:Pm w B A n c l)(hB:B'≤B):Pm w B' A n c l:=
 ⟨h.toIn,fun h0=>by
  obtain⟨g,cur,t,hA,hg,hh,hcs⟩:=h.own h0
  exact⟨g,cur,t,hA,by omega,hh,hcs⟩⟩
theorem Pm.nil_{B:Nat}:Pm w B none 0 0 []:=⟨In.nil_,fun h=>absurd h Zo⟩
theorem Pm.take{B:Nat}(h:Pm w B A n c l){k c':Nat}(hk:k≤n)(hc:k≤c')(hcap:c'≤c):Pm w B A k c' (l.take k):=
 ⟨h.toIn.take hk hc (Nat.le_trans hcap h.cap),fun h0=>by
  obtain⟨g,cur,t,hA,hg,hh,hcs⟩:=h.own Zo
  exact⟨g,cur,t,hA,hg,hh,by omega⟩⟩
theorem Pm.trim{B:Nat}(h:Pm w B A n c l):Pm w B A (tlen l n) (tlen l n) (Go.Proofs.YtoeiphicmcndlaaGreatDoor.trim l):=by
 have e:Go.Proofs.YtoeiphicmcndlaaGreatDoor.trim l=l.take (tlen l n):=by rw[Go.Proofs.YtoeiphicmcndlaaGreatDoor.trim,h.len]
 rw[e]
 exact h.take (Nm _ _) (Nat.le_refl _) (Nat.le_trans (Nm _ _) h.le)
def Mk(w:World)(g t:Nat)(l:List Nat):Prop:=Yq w g t (O9 l).toArray
theorem Mk.cell{g t:Nat}(h:Mk w g t l){i:Nat}(hi:i<l.length):w.cell? ⟨g,i,none⟩=some (.int .u32 (dg l i:Int)):=by
 rw[Yq.cell h,List.getElem?_toArray,Vu hi]
theorem Mk.frozen{g t:Nat}(h:Mk w g t l)(i:Nat):w.frozen? ⟨g,i,none⟩=false:=Yq.frozen h i
theorem Mk.lt{g t:Nat}(h:Mk w g t l):g<w.heap.size:=Yq.lt h
theorem Mk.set_{g t:Nat}(h:Mk w g t l)(i d:Nat):Mk (w.setCell ⟨g,i,none⟩ (.int .u32 (d:Int))) g t (l.set i d):=by
 have:=Yq.set_ h i (.int .u32 (d:Int))
 unfold Mk
 rw[←u32s_set]
 simpa using this
theorem Mk.below{g t B:Nat}(h:Mk w g t l)(hb:Below B w w')(hg:g<B):Mk w' g t l:=Yq.below h hb hg
theorem Mk.alloc{g t:Nat}(h:Mk w g t l)(o:Obj):Mk (w.alloc o) g t l:=Yq.alloc h o
theorem Mk.far{g t:Nat}(h:Mk w g t l){p:Addr}(hp:g≠p.block)(u:Value):Mk (w.setCell p u) g t l:=Yq.far h hp u
theorem Mk.own{g t B:Nat}(h:Mk w g t l)(hd:N5 l)(hB:B≤g)(hm:l.length≤maxLen):Pm w B (some ⟨g,0,none⟩) l.length l.length l:=by
 refine⟨⟨hd,rfl,Nat.le_refl _,hm,⟨by rw[Pc];omega,fun _=>⟨_,rfl,h.lt,fun j u hu=> ?_⟩⟩⟩,fun _=>⟨g,_,t,rfl,hB,h,by simp[Pc]⟩⟩
 have e:(⟨g,0,none⟩:Addr).add j=⟨g,j,none⟩:=by unfold Addr.add;split<;>simp_all
 rw[e,Yq.cell h,List.getElem?_toArray];exact hu
theorem Pm.of_row{B t:Nat}{v:Value}(h:w.ownsRow B t 1 v n (O9 l))(hd:N5 l)(hl:l.length=n):∃A c,v= .slice A n c∧Pm w B A n c l:=by
 rcases h.2 with ⟨rfl,rfl⟩|⟨g,cap,cur,rfl,hg,hh,hn,hc,hs,ht⟩
 ·have:l=[]:=List.length_eq_zero_iff.1 hl
  subst this
  exact⟨none,0,rfl,Pm.nil_⟩
 ·exact⟨some ⟨g,0,none⟩,cap,rfl,⟨hd,hl,hn,hc,Oe.of_own h⟩,fun _=>⟨g,cur,t,rfl,hg,hh,by omega⟩⟩
def Sw(w:World)(k:Nat)(e:Ending)(w':World):Prop:=
 ∃A n c l,e= .returned (.slice A n c)∧Mx l∧val l=k∧Pm w' w.heap.size A n c l∧Below w.heap.size w w'
end
def Tf(a b:Nat):Int:=if a<b then -1 else if a=b then 0 else 1
theorem cmpN_lt{a b:Nat}(h:a<b):Tf a b= -1:=by simp[Tf,h]
theorem cmpN_gt{a b:Nat}(h:b<a):Tf a b=1:=by
 unfold Tf;rw[if_neg Zo,if_neg Zo]
theorem cmpN_eq{a b:Nat}(h:a=b):Tf a b=0:=by
 unfold Tf;rw[if_neg Zo,if_pos h]
end Go.Proofs.YtoeiphicmcndlaaGreatDoor
