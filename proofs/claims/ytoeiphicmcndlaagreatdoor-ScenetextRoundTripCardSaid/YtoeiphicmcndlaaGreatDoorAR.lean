/-
 Rows that grow; arguments by their shape.
-/
import Derived.Test.YtoeiphicmcndlaaGreatDoorAO
import Derived.Test.YtoeiphicmcndlaaGreatDoorARd
import Derived.OpenShut
import Derived.Lib.SmallJoins
import Derived.ChangeSlices
import Derived.Test.YtoeiphicmcndlaaGreatDoorAQP
import Derived.Deep.Slices
namespace Go.Proofs.YtoeiphicmcndlaaGreatDoor
set_option linter.unusedVariables false
set_option linter.unusedSimpArgs false
open Go.RowKit
def M9(t ty:TypeId)(x y:Value):Sem Next:=Builtin.append_ #[t,t] ty #[x,y] >>= fun v=>pure (.value v)
def bl(A:Option Addr):List Nat:=match A with|some p=>[p.block]|none=>[]
def H8(P:Program)(e:TypeId):Option (Value×Nat×Nat):=(P.info? e).bind fun i=>i.zero.map fun z=>(z,i.size,i.bytes)
def K6(u:World)(B:Nat)(elem:TypeId)(s:Nat)(A:Option Addr)(n c:Nat)(xs:List Value):Prop:=u.ownsRow B elem s (.slice A n c) n xs
section
variable{P:Program}{w w' u:World}{B s n c m cc:Nat}{A A2:Option Addr}{xs ys:List Value}{t elem:TypeId}{bytes:Nat}{z:Value}
theorem K6.nil_:K6 u B elem s none 0 0 []:=⟨by simp,.inl ⟨rfl,rfl⟩⟩
theorem K6.len(h:K6 u B elem s A n c xs):xs.length=n*s:=h.1
theorem K6.blk(h:K6 u B elem s A n c xs):∀b∈bl A,B≤b∧∃cs ty own,u.heap[b]? =some (.cells cs ty own):=by
 intro b hb
 rcases h.2 with ⟨h1,_⟩|⟨g,cap,cur,h1,hB,hh,_⟩
 ·injection h1 with h1 _ _
  subst h1;cases hb
 ·injection h1 with h1 _ _
  subst h1
  simp only[bl,List.mem_singleton]at hb
  subst hb
  exact⟨hB,_,_,_,hh⟩
theorem K6.lt(h:K6 u B elem s A n c xs):∀b∈bl A,B≤b∧b<u.heap.size:=fun b hb=>by
 obtain⟨h1,_,_,_,h2⟩:=h.blk b hb
 exact⟨h1,(Array.getElem?_eq_some_iff.1 h2).1⟩
theorem K6.same(h:K6 u B elem s A n c xs)(e:∀b∈bl A,w.heap[b]? =u.heap[b]?):K6 w B elem s A n c xs:=by
 refine⟨h.1,?_⟩
 rcases h.2 with h1|⟨g,cap,cur,h1,hB,hh,rest⟩
 ·exact .inl h1
 ·refine .inr ⟨g,cap,cur,h1,hB,?_,rest⟩
  injection h1 with h1 _ _
  subst h1
  exact(e g (by simp[bl])).trans hh
theorem K6.left{L:List Nat}(h:K6 u B elem s A n c xs)(e2:∀b,b∉L→u.heap[b]? =w.heap[b]?)(hd:∀b∈bl A,b∉L):K6 w B elem s A n c xs:=h.same fun b hb=>(e2 b (hd b hb)).symm
theorem K6.rebase{B':Nat}(h:K6 u B elem s A n c xs)(hB:∀b∈bl A,B'≤b):K6 u B' elem s A n c xs:=by
 refine⟨h.1,?_⟩
 rcases h.2 with h1|⟨g,cap,cur,h1,_,rest⟩
 ·exact .inl h1
 ·refine .inr ⟨g,cap,cur,h1,?_,rest⟩
  injection h1 with h1 _ _
  subst h1
  exact hB g (by simp[bl])
theorem K6.cells(h:K6 u B elem s A n c xs)(h0:0<n):∃g,A=some ⟨g,0,none⟩∧∀(j:Nat) (v:Value),xs[j]? =some v→u.cell? ⟨g,j,none⟩=some v:=by
 rcases h.2 with ⟨_,h1⟩|⟨g,cap,cur,h1,hB,hh,hn,hc,hs,ht⟩
 ·omega
 ·injection h1 with h1 _ _
  refine⟨g,h1,fun j v hv=> ?_⟩
  rw[←ht,List.getElem?_take]at hv
  simp only[World.cell?,hh,Option.isSome_none,Bool.false_eq_true,if_false]
  split at hv
  ·simpa using hv
  ·cases hv
theorem N5{g:Nat}{cells:Array Value}(h:L4 elem cells g w)(hn:cells.size=n*s):Oj w w.heap.size s (some ⟨g,0,none⟩) n cells.toList:=by
 refine⟨by simpa using hn,fun _=>⟨_,rfl,(Array.getElem?_eq_some_iff.1 h).1,fun j u hu=> ?_⟩⟩
 rw[Addr.add_mid,Nat.zero_add]
 unfold L4 at h
 simp only[World.cell?,h,Option.isSome_none,Bool.false_eq_true,if_false]
 simpa using hu
theorem K6.lit{g:Nat}{cells:Array Value}(h:L4 elem cells g w)(hn:cells.size=n*s)(hB:B≤g)(hm:n≤maxLen):K6 w B elem s (some ⟨g,0,none⟩) n n cells.toList:=by
 refine⟨by simpa using hn,.inr ⟨g,n,cells,rfl,hB,h,Nat.le_refl _,hm,hn,?_⟩⟩
 rw[List.take_of_length_le Zp]
theorem O3(hu:P.underlying t=some (.slice elem))(hi:H8 P elem=some (z,s,bytes))(hzs:z.cells.size=s)(hs:0<s)(h:K6 w B elem s A n c xs)(hB:B≤w.heap.size)(hr:Oj w w.heap.size s A2 m ys)(h1:∀v∈ys,v.oneCell'=true)
 (hn:n+m≤100000000) (hb:bytes≤10000):
 Ot P w (bl A) (fun y:Option Addr×Nat=> .slice y.1 (n+m) y.2) (fun y v=>K6 v B elem s y.1 (n+m) y.2 (xs++ys)) (M9 t t (.slice A n c) (.slice A2 m cc)):=by
 unfold H8 at hi
 obtain⟨i,hi0,hi1⟩:=Option.bind_eq_some_iff.1 hi
 obtain⟨z',hz,hi2⟩:=Option.map_eq_some_iff.1 hi1
 simp only[Prod.mk.injEq]at hi2
 obtain⟨rfl,hsz,hby⟩:=hi2
 have hbytes:(n+m)*bytes≤140737488355328:=Nat.le_trans (Nat.mul_le_mul hn hb) Zd
 obtain⟨v',w',hrun,h2,h3,h4⟩:=B8 (P:=P) w B t t elem i z' s bytes hu hi0 hz hsz hby hzs hs _ n _ h w.heap.size A2 m cc ys hr h1 (by simp only[maxLen];omega) hbytes hB
 obtain⟨A',c',rfl⟩:∃A' c',v'= .slice A' (n+m) c':=by
  rcases h2.2 with ⟨h5,h0⟩|⟨g,cap,cur,h5,_⟩
  ·exact⟨none,0,by rw[h5,h0]⟩
  ·exact⟨_,_,h5⟩
 have hown:K6 w' B elem s A' (n+m) c' (xs++ys):=h2
 refine⟨(A',c'),w',by simp only[M9,Sem.run_bind,hrun,Result.andThen_ok,Sem.run_pure],⟨h3.os,h3.tape,h3.output,h3.size,fun k hk hL=>h3.block k hk (fun e=>hL ?_)⟩,fun w'' k1 k2=>hown.same fun b hb=>k2 b ?_⟩
 ·cases A with
  |none=>simp[Value.ownBlock]at e
  |some p=>simp[Value.ownBlock]at e;simp[bl,e]
 ·have hlt:=(hown.lt b hb).2
  cases A' with
  |none=>cases hb
  | some p'=>
   simp only[bl,List.mem_singleton]at hb
   subst hb
   rcases h4 with e|e
   ·left
    cases A with
    |none=>simp[Value.ownBlock]at e
    |some p=>simp[Value.ownBlock]at e;simp[bl,e]
   ·right
    simp[Value.ownBlock]at e
    exact⟨by omega,hlt⟩
theorem K6.ty(h:K6 u B elem s A n c xs):∀b∈bl A,∃cur own,u.heap[b]? =some (.cells cur elem own):=by
 intro b hb
 rcases h.2 with ⟨h1,_⟩|⟨g,cap,cur,h1,hB,hh,_⟩
 ·injection h1 with h1 _ _
  subst h1;cases hb
 ·injection h1 with h1 _ _
  subst h1
  simp only[bl,List.mem_singleton]at hb
  subst hb
  exact⟨_,_,hh⟩
theorem appendG_m{b a:Addr}(hu:P.underlying t=some (.slice elem))(hi:H8 P elem=some (z,s,bytes))(hzs:z.cells.size=s)(hs:0<s)(hx:Oj w w.heap.size s (some b) n xs)(hr:Oj w w.heap.size s (some a) m ys)
 (hc:c<n+m) (hn:n+m≤100000000) (hb:bytes≤10000) (hB:B≤w.heap.size) (h0:0<n∨xs=[]) (h1:0<m∨ys=[]):
 Lh P w (fun y:Option Addr×Nat=> .slice y.1 (n+m) y.2) (fun y v=>K6 v B elem s y.1 (n+m) y.2 (xs++ys)) (M9 t t (.slice (some b) n c) (.slice (some a) m cc)):=by
 unfold H8 at hi
 obtain⟨i,hi0,hi1⟩:=Option.bind_eq_some_iff.1 hi
 obtain⟨z',hz,hi2⟩:=Option.map_eq_some_iff.1 hi1
 simp only[Prod.mk.injEq]at hi2
 obtain⟨rfl,hsz,hby⟩:=hi2
 have hbytes:(n+m)*bytes≤140737488355328:=Nat.le_trans (Nat.mul_le_mul hn hb) Zd
 have rd:∀{b:Addr} {n:Nat} {xs:List Value},Oj w w.heap.size s (some b) n xs→(0<n∨xs=[])→∀j u,xs[j]? =some u→w.cell? (b.add j)=some u:=fun hx h0 j u hj=>by
  rcases h0 with h0|h0
  ·obtain⟨ad,hA,_,hc⟩:=hx.2 h0
   injection hA with hA
   subst hA
   exact hc j u hj
  ·subst h0;cases hj
 obtain⟨v',w',hrun,h2,h3⟩:=run_append_arg_grows (P:=P) w t t elem i z' s bytes hu hi0 hz hsz hby hzs hs b n c xs hx.1 (rd hx h0) a m cc ys hr.1 (rd hr h1) hc (by simp only[maxLen];omega) hbytes
 obtain⟨A',c',rfl⟩:∃A' c',v'= .slice A' (n+m) c':=by
  rcases h2.2 with ⟨h5,h0⟩|⟨g,cap,cur,h5,_⟩
  ·exact⟨none,0,by rw[h5,h0]⟩
  ·exact⟨_,_,h5⟩
 have hown:K6 w' w.heap.size elem s A' (n+m) c' (xs++ys):=h2
 exact⟨(A',c'),w',by simp only[M9,Sem.run_bind,hrun,Result.andThen_ok,Sem.run_pure],⟨h3.os,h3.tape,h3.output,h3.size,fun k hk=>h3.block k hk Zs⟩,fun w'' k1 k2=>(hown.same fun b hb=>k2 b (hown.lt b hb).1 (hown.lt b hb).2).rebase fun b hb=>Nat.le_trans hB (hown.lt b hb).1⟩
end
theorem in_of_row{w:World}{a:Option Addr}{len cap:Nat}{zs:List Int}
 (h:(a=none∧len=0∧cap=0∧zs=[])∨∃x,a=some x∧len≤cap∧cap≤maxLen∧zs.length=cap∧(∀i,i<zs.length→w.cell? (x.add i)=some (.int .u32 (zs.getD i 0)))∧∀n∈zs,(Lit.int .u32 n).wf=true):
 ∃l,In w a len cap l:=by
 rcases h with ⟨rfl,rfl,rfl,rfl⟩|⟨x,rfl,hl,hm,hz,hc,hwf⟩
 ·exact⟨[],In.nil_⟩
 ·have hb:∀i,i<zs.length→0≤zs.getD i 0∧zs.getD i 0≤4294967295:=by
   intro i hi
   have hmem:zs.getD i 0∈zs:=by
    rw[List.getD_eq_getElem?_getD,List.getElem?_eq_getElem hi]
    exact List.getElem_mem hi
   exact bounds_u32 (hwf _ hmem)
  have hlen:((zs.take len).map Int.toNat).length=len:=by rw[List.length_map,List.length_take];omega
  have hget:∀i,i<len→(dg ((zs.take len).map Int.toNat) i:Int)=zs.getD i 0:=by
   intro i hi
   have h1:=hb i Zo
   have h2:dg ((zs.take len).map Int.toNat) i=(zs.getD i 0).toNat:=by
    simp[dg,List.getElem?_take,hi,List.getElem?_eq_getElem (show i<zs.length by omega)]
   rw[h2];omega
  refine⟨(zs.take len).map Int.toNat,?_,hlen,hl,hm,⟨by rw[Pj,hlen];omega,fun h0=> ?_⟩⟩
  ·intro i
   by_cases hi:i<len
   ·have h1:=hb i Zo
    have h2:=hget i hi
    omega
   ·rw[Ub Zo];omega
  ·have hlt:x.block<w.heap.size:=by
    have h1:=World.block_lt_of_cell? w (x.add 0) (hc 0 Zo)
    rwa [G3]at h1
   refine⟨x,rfl,hlt,fun j u hu=> ?_⟩
   have hj:j<len:=by
    have:=(List.getElem?_eq_some_iff.1 hu).1
    rw[Pj,hlen]at this;exact this
   rw[Y5 (by rw[hlen];exact hj),hget j hj]at hu
   rw[hc j Zo];exact hu
section
open Go.ChangeShapes Go.WideShapes Go.ChangeAt Go.RowKit Go.Deep Go.WideElems Go.Maps Go.Joins
variable{H:Type}{enc:TypeId×Value→H}{P:Program}{w:World}{base:Nat}{held:Bool}
theorem slice_of_read{t e:TypeId}{fuel:Nat}{v:Value}{x:DataW H×List MemPlace}(ht:P.underlying t=some (.slice e))(he:P.underlying e=some (.int .u32))(hc:P.cellsOf e=1)
 (h:DataW.trod enc P w base (fun _=>true) held fuel t [v]=some x):∃A n c l,v= .slice A n c∧In w A n c l:=by
 rcases open_ints ht he hc h with ⟨hcs,_⟩|⟨a,l,c,zs,hcs,_,hl,hm,hz,_,hcell,hwz⟩
 ·simp at hcs
  subst hcs
  exact⟨none,0,0,[],rfl,In.nil_⟩
 ·simp at hcs
  subst hcs
  obtain⟨l',hin⟩:=in_of_row (w:=w) (a:=some a) (len:=l) (cap:=c) (zs:=zs) (.inr ⟨_,rfl,hl,hm,by simpa using hz,hcell,hwz⟩)
  exact⟨_,_,_,l',rfl,hin⟩
open Go.ChangeShapes Go.WideShapes Go.ChangeAt Go.RowKit Go.Deep Go.WideElems Go.Maps Go.Joins
theorem of_in{v:SV}{K:Nat}{w:World}(i:In w v.A v.n v.c v.l)(hK:v.n≤K):Pg v (zi v.s (val v.l)) K w:=⟨i,rfl,hK⟩
end
section
open Go.ChangeShapes Go.WideShapes Go.ChangeAt Go.RowKit Go.Deep Go.WideElems Go.Maps Go.Joins
inductive Sh where
 |int (k:IntKind)
 |bool
 |str
 |dig
 |sl (n:Nat) (e:Sh)
 |nil
 |cons (n:Nat) (s r:Sh)
def Rd(w:World):Sh→List Value→Prop
 | .int k,cs=>∃z,cs=[.int k z]∧(Lit.int k z).wf=true
 | .bool,cs=>∃b,cs=[.bool b]
 | .str,cs=>∃s:ByteArray,cs=[.string s]∧s.size≤maxLen
 | .dig,cs=>∃A n c l,cs=[.slice A n c]∧In w A n c l
 | .sl n e,cs=>∃A len cap,cs=[.slice A len cap]∧len≤cap∧cap≤maxLen∧∀i,i<len→∃(ad:Addr) (xs:List Value),A=some ad∧xs.length=n∧
  (∀(j:Nat) (v:Value),xs[j]? =some v→w.cell? ((ad.add (i*n)).add j)=some v)∧Rd w e xs
 | .nil,cs=>cs=[]
 | .cons n s r,cs=>∃a b,cs=a++b∧a.length=n∧Rd w s a∧Rd w r b
def shRow(P:Program)(g:TypeId→Option Sh):List Field→Nat→Option Sh
 | [],_=>some .nil
 |f::r,off=>if f.offset=off then(match g f.type,shRow P g r (off+P.cellsOf f.type)with
  |some a,some b=>some (.cons (P.cellsOf f.type) a b)
  |_,_=>none)else none
def shRep(m:Nat)(s:Sh):Nat→Sh
 |0=> .nil
 |n+1=> .cons m s (shRep m s n)
def sumF(P:Program):List Field→Nat
 | []=>0
 |f::r=>P.cellsOf f.type+sumF P r
def shOf(P:Program):Nat→TypeId→Option Sh
 |0,_=>none
 | n+1,t=>match P.underlying t with
  |some (.int k)=>some (.int k)
  |some .bool=>some .bool
  |some .string=>some .str
  | some (.slice e)=>match P.underlying e with
   |some (.int .u32)=>if P.cellsOf e=1 then some .dig else none
   |_=>match shOf P n e with
    |some s=>some (.sl (P.cellsOf e) s)
    |none=>none
  |some (.struct fs)=>if P.cellsOf t=sumF P fs.toList then shRow P (shOf P n) fs.toList 0 else none
  |some (.array m e)=>if P.cellsOf t=m*P.cellsOf e then(match shOf P n e with
   |some s=>some (shRep (P.cellsOf e) s m)
   |none=>none)else none
  |_=>none
section
variable{H:Type}{enc:TypeId×Value→H}{P:Program}{w:World}{base:Nat}{held:Bool}
theorem rd_row{g:TypeId→Option Sh}{m:Nat}{cs:List Value}(hg:∀t sh cs x,g t=some sh→DataW.trod enc P w base (fun _=>true) held m t cs=some x→Rd w sh cs):∀(l:List Field) (off:Nat) (sh:Sh),shRow P g l off=some sh→
 cs.length=off+sumF P l→(∀f∈l,∃x,DataW.trod enc P w base (fun _=>true) held m f.type ((cs.drop f.offset).take (P.cellsOf f.type))=some x)→Rd w sh (cs.drop off)
 | [],off,sh,h,hl,_=>by
  simp only[shRow,Option.some.injEq]at h
  subst h
  simp only[Rd,List.drop_eq_nil_iff]
  simp only[sumF]at hl
  omega
 | f ::r,off,sh,h,hl,hx=>by
  simp only[shRow]at h
  split at h
  ·rename_i hoff
   split at h
   ·rename_i a b ha hb
    injection h with h
    subst h
    simp only[sumF]at hl
    obtain⟨x,hx0⟩:=hx f (List.mem_cons_self ..)
    rw[hoff]at hx0
    refine⟨(cs.drop off).take (P.cellsOf f.type),(cs.drop off).drop (P.cellsOf f.type),(List.take_append_drop _ _).symm,?_,hg _ _ _ _ ha hx0,?_⟩
    ·rw[List.length_take,List.length_drop];omega
    ·rw[List.drop_drop]
     exact rd_row hg r _ b hb Zo fun f' hf'=>hx f' (List.mem_cons_of_mem _ hf')
   ·cases h
  ·cases h
theorem rd_rep{n:Nat}{s:Sh}:∀(k:Nat) (cs:List Value),cs.length=k*n→(∀i,i<k→Rd w s ((cs.drop (i*n)).take n))→Rd w (shRep n s k) cs
 |0,cs,hl,_=>by
  show cs=[]
  exact List.length_eq_zero_iff.1 Zo
 |k+1,cs,hl,h=>by
  have e:(k+1)*n=k*n+n:=Nat.succ_mul k n
  have h0:=h 0 Zo
  rw[Nat.zero_mul,List.drop_zero]at h0
  refine⟨cs.take n,cs.drop n,(List.take_append_drop _ _).symm,by rw[List.length_take];omega,h0,rd_rep k _ (by rw[List.length_drop];omega) fun i hi=> ?_⟩
  have:=h (i+1) Zo
  rwa [Nat.succ_mul,Nat.add_comm (i*n) n,←List.drop_drop]at this
theorem rd_of_trod:∀(n:Nat) (m:Nat) (t:TypeId) (cs:List Value) (x:DataW H×List MemPlace) (sh:Sh),shOf P n t=some sh→DataW.trod enc P w base (fun _=>true) held m t cs=some x→Rd w sh cs
 |0,_,_,_,_,_,h,_=>by cases h
 | n +1,m,t,cs,x,sh,h,hx=>by
  simp only[shOf]at h
  split at h
  ·rename_i k hu
   injection h with h;subst h
   obtain⟨z,h1,h2⟩:=DataW.trod_int hu hx
   exact⟨z,h1,h2.2⟩
  ·rename_i hu
   injection h with h;subst h
   obtain⟨b,h1,_⟩:=DataW.trod_bool hu hx
   exact⟨b,h1⟩
  ·rename_i hu
   injection h with h;subst h
   obtain⟨s,h1,h2⟩:=DataW.trod_string hu hx
   exact⟨s,h1,h2.2⟩
  ·rename_i e hu
   split at h
   ·rename_i he
    split at h
    ·rename_i hc
     injection h with h;subst h
     have hone:∃v,cs=[v]:=by
      rcases open_slice hu hx with ⟨hcs,_⟩|⟨a,len,cap,m,k,D,Pl,hcs,_⟩
      ·exact⟨_,hcs⟩
      ·exact⟨_,hcs⟩
     obtain⟨v,rfl⟩:=hone
     obtain⟨A,n',c,l,rfl,hin⟩:=slice_of_read hu he hc hx
     exact⟨A,n',c,l,rfl,hin⟩
    ·cases h
   ·split at h
    ·rename_i s hs
     injection h with h;subst h
     rcases open_slice hu hx with ⟨hcs,_⟩|⟨a,len,cap,m',k,D,Pl,hcs,hb,hl,hm,hmm,_,hel⟩
     ·exact⟨none,0,0,hcs,Nat.le_refl _,Nat.zero_le _,fun i hi=>absurd hi (Nat.not_lt_zero _)⟩
     ·refine⟨some a,len,cap,hcs,hl,hm,fun i hi=> ?_⟩
      obtain⟨cs',k1,k2⟩:=hel i (by rw[hmm];simp;omega)
      obtain⟨_,k5,k3⟩:=World.cells?_some k1
      exact⟨a,cs',rfl,k5,fun j v hv=>(k3 j (by rw[←k5];exact(List.getElem?_eq_some_iff.1 hv).1)).trans hv,rd_of_trod n k e cs' _ s hs k2⟩
    ·cases h
  ·rename_i fs hu
   split at h
   ·rename_i hc
    obtain⟨xs,n',_,rfl,hl,hlen,hf⟩:=DataW.trod_struct hu hx
    have:=rd_row (w:=w) (base:=base) (held:=held) (enc:=enc) (cs:=cs) (fun t' sh' cs' x' h1 h2=>rd_of_trod n n' t' cs' x' sh' h1 h2) fs.toList 0 sh h Zo (fun f hf'=>by
     obtain⟨i,hi⟩:=List.mem_iff_getElem?.1 hf'
     have h3:=hf i f (by simpa using hi)
     have h4:i<xs.length:=by rw[hlen];exact(Array.getElem?_eq_some_iff.1 (show fs[i]? =some f by simpa using hi)).1
     rw[List.getElem?_eq_getElem h4]at h3
     exact⟨_,h3⟩)
    exact this
   ·cases h
  ·rename_i m' e hu
   split at h
   ·rename_i hc
    split at h
    ·rename_i s hs
     injection h with h;subst h
     obtain⟨xs,k,_,_,hl,hlen,hf⟩:=DataW.trod_array hu hx
     refine rd_rep m' cs (by rw[hl,hc]) fun i hi=> ?_
     have h3:=hf i hi
     obtain⟨y,hy⟩:∃y,xs[i]? =some y:=⟨_,List.getElem?_eq_getElem Zo⟩
     rw[hy]at h3
     exact rd_of_trod n k e _ y s hs h3
    ·cases h
   ·cases h
  ·cases h
theorem rd_of_read{r:Reach}{b0 n:Nat}{t:TypeId}{sh:Sh}{v:Value}{d:DataW H}{p:List MemPlace}(hs:shOf P n t=some sh)(hr:(match P.underlying t with|some (.struct _)|some (.array _ _)=>true|_=>false)=true)
 (hv:Value.okWide P w r b0 t v) (h:DataW.Trod enc P w base (fun _=>true) held t v d p):∃cs:List Value,v= .agg cs.toArray∧Rd w sh cs:=by
 obtain⟨fuel,hf⟩:=h
 have h1:=rd_of_trod n fuel t _ _ sh hs hf
 unfold Value.okWide at hv
 split at hv
 ·obtain⟨cs,rfl,_⟩:=hv
  exact⟨cs.toList,by simp,h1⟩
 ·obtain⟨cs,rfl,_⟩:=hv
  exact⟨cs.toList,by simp,h1⟩
 ·rename_i hn1 hn2
  split at hr
  ·rename_i hu;exact absurd hu (hn1 _)
  ·rename_i hu;exact absurd hu (hn2 _ _)
  ·cases hr
end
def I7:Sh:= .cons 2 (.cons 1 .bool (.cons 1 .dig .nil)) (.cons 2 (.cons 1 .bool (.cons 1 .dig .nil)) .nil)
section
variable{w:World}{cs:List Value}{n:Nat}{s r:Sh}{k:IntKind}
theorem rd_rat(h:Rd w I7 cs):∃r:RV,cs=r.cl∧In w r.a.A r.a.n r.a.c r.a.l∧In w r.b.A r.b.n r.b.c r.b.l:=by
 obtain⟨a,b,rfl,_,h1,c,d,rfl,_,h2,rfl⟩:=h
 obtain⟨a1,b1,rfl,_,⟨s1,rfl⟩,a2,b2,rfl,_,⟨A1,n1,c1,l1,rfl,i1⟩,rfl⟩:=h1
 obtain⟨a3,b3,rfl,_,⟨s2,rfl⟩,a4,b4,rfl,_,⟨A2,n2,c2,l2,rfl,i2⟩,rfl⟩:=h2
 exact⟨⟨⟨s1,A1,n1,c1,l1⟩,⟨s2,A2,n2,c2,l2⟩⟩,rfl,i1,i2⟩
end
def shAff:Sh:= .cons 4 I7 (.cons 4 I7 (.cons 4 I7 (.cons 4 I7 (.cons 4 I7 (.cons 4 I7 .nil)))))
def InR(r:RV)(w:World):Prop:=In w r.a.A r.a.n r.a.c r.a.l∧In w r.b.A r.b.n r.b.c r.b.l
theorem Kk{w:World}{n:Nat}{s r:Sh}{cs:List Value}(h:Rd w (.cons n s r) cs):∃a b,cs=a++b∧a.length=n∧Rd w s a∧Rd w r b:=h
theorem Ci{w:World}{cs:List Value}(h:Rd w I7 cs):∃r:RV,cs=r.cl∧InR r w:=by
 obtain⟨r,h1,h2⟩:=rd_rat h
 exact⟨r,h1,h2⟩
end
end Go.Proofs.YtoeiphicmcndlaaGreatDoor
