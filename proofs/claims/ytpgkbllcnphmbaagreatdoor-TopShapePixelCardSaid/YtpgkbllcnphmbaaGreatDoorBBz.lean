/-
 A part of the proof.
-/
import Derived.Test.YtpgkbllcnphmbaaGreatDoorBBy
namespace Go.Proofs.YtpgkbllcnphmbaaGreatDoor
set_option maxRecDepth 100000
set_option maxHeartbeats 8000000
set_option linter.unusedVariables false
set_option linter.unusedSimpArgs false
open Go.RowKit
def spC(z:RV×RV):List Value:=z.1.cl++z.2.cl
abbrev spV(z:RV×RV):Value:= .agg (spC z).toArray
def mkC(z:RV×Int):List Value:=z.1.cl++ [.int .i64 z.2]
abbrev mkV(z:RV×Int):Value:= .agg (mkC z).toArray
section
variable{w:World}{x y:RV×RV}{p q:Rat}{K:Nat}{a b:RV}{i j k:Int}
theorem mergeCmp_m(hx:Ox x.1 p K w)(hy:Ox y.1 q K w)(hK:2≤K∧K+K≤68719476736):Calls Tryz.prog 227 #[spV x,spV y] w (K3 w (fun _:Unit=> .int .i64 (Kk p q)) fun _ _=>True):=by
 refine K0.enter Tryz.func227 rfl ?_
 refine ZR ?_
 refine ZC (fun w1 hw h=>Lq (hx.below hw) (hy.below hw) ⟨hK.1,hK.1,hK.2⟩) fun u=> ?_
 exact ZW (.int .i64 (Kk p q))
theorem inner_m(ha:Ox a p K w)(hb:Ox b q K w)(hK:2≤K∧K+K≤68719476736)(hk: -9223372036854775808≤k∧k≤9223372036854775807):Calls Tryz.prog 156 #[a.val,b.val,.int .i64 k] w (K3 w (fun r:{r:RV // r=if Kk p q=k then a else b}=>r.1.val) fun _ _=>True):=by
 by_cases hc2:Kk p q=k
 ·
  refine K0.enter Tryz.func156 rfl ?_
  refine ZR ?_
  refine ZC (fun w1 hw h=>Lq (ha.below hw) (hb.below hw) ⟨hK.1,hK.1,hK.2⟩) fun u=> ?_
  refine ZJ (Kk p q==k) true (by simpa using hc2) ?_
  refine ZV (a.val) (fun w1 hw h=>⟨⟨a,(if_pos hc2).symm⟩,rfl,hw,fun _ _ _=>trivial⟩)
 ·
  refine K0.enter Tryz.func156 rfl ?_
  refine ZR ?_
  refine ZC (fun w1 hw h=>Lq (ha.below hw) (hb.below hw) ⟨hK.1,hK.1,hK.2⟩) fun u=> ?_
  refine ZJ (Kk p q==k) false (by simpa using hc2) ?_
  refine ZV (b.val) (fun w1 hw h=>⟨⟨b,(if_neg hc2).symm⟩,rfl,hw,fun _ _ _=>trivial⟩)
theorem compare_m:Calls Tryz.prog 232 #[.int .i64 i,.int .i64 j] w (K3 w (fun _:Unit=> .int .i64 (Lib.compareInt i j)) fun _ _=>True):=
 (Tryz.cmp_Compare_int i j w).mono fun _ _ ⟨h1,h2⟩=>⟨(),h1,by subst h2;exact Below.refl _ _,fun _ _ _=>trivial⟩
theorem or_m{g:Nat}(hl:Kv 3 #[.int .i64 i,.int .i64 j] g w):Calls Tryz.prog 231 #[Km 2 g] w (K3 w (fun _:Unit=> .int .i64 (if i≠0 then i else j)) fun _ _=>True):=by
 refine K0.enter Tryz.func231 rfl ?_
 refine ZR ?_
 refine K0.loop (ι:={q:Nat // q≤2∧(1≤q→i=0)∧(q=2→j=0)}) 18 (fun q=>⟨[(3,.v (.int .i64 0)),(6,.v (Km 2 g)),(7,.v (.int .i64 2)),(8,.v (.int .i64 q.1))],[]⟩) (fun _ _=>True) (fun q=>2-q.1) (⟨0,Nat.zero_le _,by omega,by omega⟩) Zk (fun _=>by kernel_rfl) ⟨Zk,Zk,Zk⟩ (fun _ _=>trivial) ?_
 rintro⟨q,hq,h1,h2⟩ gg
 by_cases hlt:q<2
 case neg=>
  have hj:j=0:=h2 Zo
  have hi:i=0:=h1 Zo
  subst hj;subst hi
  refine ZR ?_
  refine ZJ (decide ((q:Int)<2)) false (decide_eq_false Zo) ?_
  refine K0.leave Zk ?_
  refine ZR ?_
  exact ZW (.int .i64 0)
 obtain⟨v,hv⟩:∃v,v=(if q=0 then i else j):=⟨_,rfl⟩
 refine ZR ?_
 refine ZJ (decide ((q:Int)<2)) true (decide_eq_true Zo) ?_
 refine ZA (Kc 43 (Km 2 g) q) (.pointer (some ⟨g,q*1,none⟩)) (fun w1 hw h=>K9 (elem:=3) Zk Zk hlt) ?_
 refine ZA (Kd 3 ⟨g,q*1,none⟩) (.int .i64 v) (fun w1 hw h=>Kg Zk (by have h2:=hl;unfold Kv at h2;have h3:=(hw.block g (Array.getElem?_eq_some_iff.1 h2).1).trans h2;simp only[World.cell?,h3,Option.isSome_none,Bool.false_eq_true,if_false,Nat.mul_one];rcases(by omega:q=0∨q=1)with rfl|rfl<;>simp[hv])) ?_
 cases hv0:v !=0
 ·have hvz:v=0:=by simpa using hv0
  have n1:i=0:=by
   by_cases hq0:q=0
   ·rw[hvz,if_pos hq0]at hv;exact hv.symm
   ·exact h1 Zo
  have n2:q+1=2→j=0:=fun hq2=>by
   rw[hvz,if_neg Zo]at hv;exact hv.symm
  refine ZJ (v !=0) false (hv0) ?_
  refine K0.slot 8 (.int .i64 (IntKind.i64.wrap ((q:Int)+1))) (.int .i64 ((q+1:Nat):Int)) Zk (by rw[K7 hlt Zd]) ?_
  refine K0.next (⟨q+1,hlt,fun _=>n1,n2⟩) Zk (by show 2- (q+1)<2-q;omega) ⟨Zk,Zk,Zk⟩ (fun _ _=>trivial)
 have hvn:v≠0:=by simpa using hv0
 have hr:v=if i≠0 then i else j:=by
  rcases(by omega:q=0∨q=1)with rfl|rfl
  ·have:v=i:=by rw[hv];rfl
   rw[←this,if_pos hvn]
  ·have h0:=h1 Zo
   rw[hv,h0];rfl
 refine ZJ (v !=0) true (hv0) ?_
 refine K0.leave Zk ?_
 refine ZR ?_
 exact ZX (.int .i64 v) (by rw[hr])
def cmpM(a b:W8):Int:=if Kk a.1 b.1≠0 then Kk a.1 b.1 else Lib.compareInt b.2 a.2
theorem cmpM_lt{a b:W8}:decide (cmpM a b<0)=Us a b:=by
 unfold cmpM Us Kk Lib.compareInt
 by_cases h1:a.1<b.1
 ·simp[h1]
 ·by_cases h2:a.1=b.1
  ·simp only[h1,h2,if_false,if_true,decide_true,Bool.true_and,decide_false,Bool.false_or,ne_eq,not_true_eq_false,Rat.lt_irrefl]
   by_cases h3:b.2<a.2
   ·simp[h3]
   ·rw[if_neg h3,decide_eq_false h3]
    split<;>rfl
  ·simp[h1,h2]
theorem marksCmp_m{x y:RV×Int}(hx:Ox x.1 p K w)(hy:Ox y.1 q K w)(hK:2≤K∧K+K≤68719476736):Calls Tryz.prog 230 #[mkV x,mkV y] w (K3 w (fun _:Unit=> .int .i64 (cmpM (p,x.2) (q,y.2))) fun _ _=>True):=by
 refine K0.enter Tryz.func230 rfl ?_
 refine ZR ?_
 refine ZC (fun w1 hw h=>Lq (hx.below hw) (hy.below hw) ⟨hK.1,hK.1,hK.2⟩) fun u=> ?_
 refine ZC (fun w1 hw h=>compare_m (i:=y.2) (j:=x.2)) fun v=> ?_
 refine K0.make (M5 (43) 2 #[(0,.int .i64 (Kk p q)),(1,.int .i64 (Lib.compareInt y.2 x.2))]) (Km 2) (Kv 3 #[.int .i64 (Kk p q),.int .i64 (Lib.compareInt y.2 x.2)]) Zk (fun w1 hw h=>Ke Zk) (fun g=> ?_)
 refine ZR ?_
 refine ZC (fun w1 hw h=>or_m h.2) fun o=> ?_
 exact ZW (.int .i64 (if Kk p q≠0 then Kk p q else Lib.compareInt y.2 x.2))
end
section
open Go.Shelf
def insSp_ren:Go.Shelf.Ren:=⟨fun|20=>329|n=>n,fun|24=>254|22=>171|3=>3|25=>328|4=>4|0=>0|n=>n,fun|n=>n⟩
theorem insSp:SlLaysF0.n20 Tryz.prog insSp_ren:={
 mixed:=by kernel_rfl
 f20:=⟨ "slices.insertionSortCmpFunc[grisaille/api.Span]",by decide,Tryz.func329.trans (congrArg some Zk)⟩
 t0:=Tryz.underlying0
 a0:=Tryz.isAgg0
 z0:=Tryz.sizeOf0
 v0:=Tryz.zeroValue0
 t3:=Tryz.underlying3
 a3:=Tryz.isAgg3
 z3:=Tryz.sizeOf3
 v3:=Tryz.zeroValue3
 t4:=Tryz.underlying4
 a4:=Tryz.isAgg4
 z4:=Tryz.sizeOf4
 v4:=Tryz.zeroValue4
 t22:=Tryz.underlying171
 a22:=Tryz.isAgg171
 z22:=Tryz.sizeOf171
 v22:=Tryz.zeroValue171
 t25:=Tryz.underlying328
 a25:=Tryz.isAgg328
 z25:=Tryz.sizeOf328
 v25:=Tryz.zeroValue328}
def insMk_ren:Go.Shelf.Ren:=⟨fun|20=>331|n=>n,fun|24=>258|22=>255|3=>3|25=>332|4=>4|0=>0|n=>n,fun|n=>n⟩
theorem insMk:SlLaysF0.n20 Tryz.prog insMk_ren:={
 mixed:=by kernel_rfl
 f20:=⟨ "slices.insertionSortCmpFunc[grisaille/scanline.mark]",by decide,Tryz.func331.trans (congrArg some Zk)⟩
 t0:=Tryz.underlying0
 a0:=Tryz.isAgg0
 z0:=Tryz.sizeOf0
 v0:=Tryz.zeroValue0
 t3:=Tryz.underlying3
 a3:=Tryz.isAgg3
 z3:=Tryz.sizeOf3
 v3:=Tryz.zeroValue3
 t4:=Tryz.underlying4
 a4:=Tryz.isAgg4
 z4:=Tryz.sizeOf4
 v4:=Tryz.zeroValue4
 t22:=Tryz.underlying255
 a22:=Tryz.isAgg255
 z22:=Tryz.sizeOf255
 v22:=Tryz.zeroValue255
 t25:=Tryz.underlying332
 a25:=Tryz.isAgg332
 z25:=Tryz.sizeOf332
 v25:=Tryz.zeroValue332}
section
variable{w:World}{g n c B k:Nat}
theorem Hn{α:Type} [Inhabited α]{enc:α→List Value}(h0:0<k)(hk:∀x,(enc x).length=k){d:Array α}{t:Nat}(ht:t<d.size*k):(d.toList.flatMap enc)[t]? =some (Sort.flatK enc k d)[t]! :=by
 rw[Sort.get_flatK enc k d t ht]
 have h1:t/k<d.size:=(Nat.div_lt_iff_lt_mul h0).2 ht
 have h2:t%k<(enc d[t/k]!).length:=by rw[hk];exact Nat.mod_lt _ h0
 have hx:d.toList[t/k]? =some d[t/k]! :=by simp[h1]
 have hv:(enc d[t/k]!)[t%k]? =some (enc d[t/k]!)[t%k]! :=by rw[getElem!_pos (enc d[t/k]!) (t%k) h2,List.getElem?_eq_getElem h2]
 have:=Pm (cl:=enc) hk d.toList (t/k) _ (t%k) _ hx hv
 rw[show t/k*k+t%k=t from by rw[Nat.mul_comm];exact Nat.div_add_mod t k]at this
 exact this
theorem holdsK{α:Type} [Inhabited α]{enc:α→List Value}(h0:0<k)(hk:∀x,(enc x).length=k){d:Array α}{e:TypeId}(hd:d.size=n)(ho:K6 w B e k (some ⟨g,0,none⟩) n c (d.toList.flatMap enc)):Sort.HoldsK enc k w g 0 d:=by
 intro t ht
 rw[Sort.size_flatK]at ht
 rcases ho.2 with ⟨h1,_⟩|⟨g2,cap,cur,h1,hB,hh,hn,hc,hs,hx⟩
 ·cases h1
 injection h1 with h1 _ h2
 injection h1 with h1
 injection h1 with h1
 subst h1;subst h2
 refine⟨?_,frozen00 (a:=⟨g,0+t,none⟩) hh⟩
 have h3:=Hn h0 hk ht
 rw[←hx,List.getElem?_take]at h3
 split at h3
 ·simp only[World.cell?,hh,Option.isSome_none,Bool.false_eq_true,if_false,Nat.zero_add]
  simpa using h3
 ·cases h3
theorem ownK{α:Type} [Inhabited α]{enc:α→List Value}(h0:0<k)(hk:∀x,(enc x).length=k){d d':Array α}{m:Nat}{os:Array Obj}{e:TypeId}{u:World}(ho:K6 w B e k (some ⟨g,0,none⟩) n c (d.toList.flatMap enc))(hd:d'.size=n)
 (hu:u.heap[g]? =(sortWorldK enc k w g 0 m d' os).heap[g]?):K6 u B e k (some ⟨g,0,none⟩) n c (d'.toList.flatMap enc):=by
 have hl:∀l:List α,(l.flatMap enc).length=l.length*k:=fun l=>by
  induction l with
  |nil=>simp
  |cons x l ih=>rw[List.flatMap_cons,List.length_append,ih,hk,List.length_cons,Nat.add_mul,Nat.one_mul,Nat.add_comm]
 rcases ho.2 with ⟨h1,_⟩|⟨g2,cap,cur,h1,hB,hh,hn2,hc,hs,hx⟩
 ·cases h1
 injection h1 with h1 _ h2
 injection h1 with h1
 injection h1 with h1
 subst h1;subst h2
 have hlt:=(Array.getElem?_eq_some_iff.1 hh).1
 have hW:u.heap[g]? =some (.cells (Sort.putCells id 0 (Sort.flatK enc k d') cur) e (0,0)):=by
  rw[hu]
  show((Sort.putRow id (Sort.ahead w m) g 0 _).heap++os)[g]? =_
  rw[Array.getElem?_append_left (by rw[Sort.size_putRow];exact hlt)]
  unfold Sort.putRow Sort.mapBlock
  simp only[Array.getElem?_modify,if_true,Sort.heap_ahead,hh,Option.map_some,Sort.onCells]
 have hsz:(Sort.putCells id 0 (Sort.flatK enc k d') cur).size=cur.size:=by simp[Sort.putCells]
 refine⟨by rw[hl,Array.length_toList,hd],.inr ⟨g,c,_,rfl,hB,hW,hn2,hc,by rw[hsz];exact hs,?_⟩⟩
 refine List.ext_getElem? fun t=> ?_
 rw[List.getElem?_take]
 by_cases ht:t<n*k
 ·rw[if_pos ht,Hn h0 hk (by rw[hd];exact ht)]
  have htc:t<cur.size:=by rw[hs];exact Nat.lt_of_lt_of_le ht (Nat.mul_le_mul_right k hn2)
  unfold Sort.putCells
  rw[Array.getElem?_toList,Array.getElem?_mapIdx,Array.getElem?_eq_getElem htc,Option.map_some,if_pos (by rw[Sort.size_flatK,hd];omega)]
  simp
 ·rw[if_neg ht,List.getElem?_eq_none (by rw[hl,Array.length_toList,hd];omega)]
theorem Z8{α:Type} [Inhabited α]{m:Nat}{dk:Array α}{os:Array Obj}{enc:α→List Value}{b:Nat}(h:b<w.heap.size)(hb:b≠g):(sortWorldK enc k w g 0 m dk os).heap[b]? =w.heap[b]? :=by
 unfold sortWorldK Sort.putRowK
 show((Sort.putRow id (Sort.ahead w m) g 0 _).heap++os)[b]? =_
 rw[Array.getElem?_append_left (by rw[Sort.size_putRow];exact h),Gw hb];rfl
structure An{β:Type}(lt:β→β→Bool)(a b:Nat)(l m:List β):Prop where
 len:m.length=l.length
 out:∀i,i<a∨b≤i→m[i]? =l[i]?
 perm:((m.drop a).take (b-a)).Perm ((l.drop a).take (b-a))
 srt:NL lt ((m.drop a).take (b-a))
theorem ins_m{β:Type}{cl:β→List Value}(h0:0<k)(hk:∀x,(cl x).length=k)(h1:∀x,∀v∈cl x,v.oneCell'=true){ρ:Ren}(Ly:SlLaysF0.n20 Tryz.prog ρ)(aE:∀w,(isAgg (ρ.t 24)).run Tryz.prog w= .ok true w)(zE:∀w,(Go.sizeOf (ρ.t 24)).run Tryz.prog w= .ok k w)(cf:β→β→Int)(hO:Sort.SWO (ltOf cf)){f:FuncId}
 (eg:∀args w,(callFunc f args).run Tryz.prog w= .ok (.enter f args) w) {l:List β} {e:TypeId} {a b:Nat} (ho:K6 w B e k (some ⟨g,0,none⟩) n c (l.flatMap cl)) (hln:l.length=n) (hn0:0<n) (hn:n≤1000000000) (hab:a≤b) (hb:b≤n)
 (hcmp:∀W:World,w.heap.size≤W.heap.size→(∀b,b<w.heap.size→b≠g→W.heap[b]? =w.heap[b]?)→∀x∈l,∀y∈l,Calls Tryz.prog f #[.agg (cl x).toArray,.agg (cl y).toArray] W (K3 W (fun _:Unit=> .int .i64 (cf x y)) fun _ _=>True)):
 Calls Tryz.prog (ρ.f 20) #[.slice (some ⟨g,0,none⟩) n c,.int .i64 a,.int .i64 b,.func (.func f) #[] #[]] w (Ky w [g] (fun _:{m:List β // An (ltOf cf) a b l m}=> .tuple #[]) fun m u=>K6 u B e k (some ⟨g,0,none⟩) n c (m.1.flatMap cl)):=by
 have hlt:g<w.heap.size:=(ho.lt g (by simp[bl])).2
 obtain⟨D,hD⟩:∃D:List {x:β // x∈l},D.map (·.1)=l:=⟨l.attach,l.attach_map_subtype_val⟩
 have hDl:D.length=n:=by rw[←hln];conv=>rhs;rw[←hD,List.length_map]
 haveI:Inhabited {x:β // x∈l}:=⟨D[0]'Zo⟩
 have hfm:∀E:List {x:β // x∈l},E.flatMap (fun z=>cl z.1)=(E.map (·.1)).flatMap cl:=fun E=>by rw[List.flatMap_map]
 have ho2:K6 w B e k (some ⟨g,0,none⟩) n c (D.toArray.toList.flatMap fun z=>cl z.1):=by rw[List.toList_toArray,hfm,hD];exact ho
 have hsz:D.toArray.size=n:=by rw[List.size_toArray,hDl]
 have hC:CmpLays Tryz.prog f #[] (fun z:{x:β // x∈l}=>cl z.1) k (fun x y=>cf x.1 y.1) g 0 D.toArray.size w:=fun m os dk hdk x y=>by
  obtain⟨W,hW⟩:∃W,W=sortWorldK (fun z:{x:β // x∈l}=>cl z.1) k w g 0 m dk os:=⟨_,rfl⟩
  rw[←hW]
  have hs:w.heap.size≤W.heap.size:=by rw[hW];exact size_sortWorldK_c _ _ _ _ _ _ _ _
  refine(calls_up (hcmp W hs (fun b h1 h2=>by rw[hW];exact Z8 h1 h2) x.1 x.2 y.1 y.2)).mono ?_
  rintro e w' ⟨⟨_,rfl,hb,_⟩,hup⟩
  exact⟨rfl,Fk hb (hup Zs)⟩
 have hO2:Sort.SWO (ltOf fun x y:{x:β // x∈l}=>cf x.1 y.1):=⟨fun x=>hO.irrefl x.1,fun x y z=>hO.trans x.1 y.1 z.1,fun x y z=>hO.ntrans x.1 y.1 z.1⟩
 have hcon:=AnyQ.insertionSortCmpFunc Ly k aE zE (fun z:{x:β // x∈l}=>cl z.1) (fun z=>hk z.1) (fun z=>h1 z.1) (fun x y=>cf x.1 y.1) f #[] g 0 c a b D.toArray w eg hC (holdsK h0 (fun z=>hk z.1) hsz ho2) hlt hab (by rw[hsz];exact hb) (by rw[hsz];omega)
 rw[hsz]at hcon
 obtain⟨⟨hs1,hs2,hs3⟩,hs4⟩:=Sort.insertionSort_holds hO2 D.toArray a b hab (by rw[hsz];exact hb)
 generalize Sort.insertionSort (ltOf fun x y:{x:β // x∈l}=>cf x.1 y.1) D.toArray a b=d' at hcon hs1 hs2 hs3 hs4
 have hd':d'.size=n:=by have h:d'.size=D.toArray.size:=hs1;rw[h,hsz]
 refine hcon.mono ?_
 rintro e' w' ⟨rfl,m,os,rfl⟩
 have hel:∀i,i<n→(d'.toList.map (·.1))[i]? =some d'[i]!.1∧l[i]? =some D.toArray[i]!.1:=fun i hi=>by
  constructor
  ·rw[List.getElem?_map,getElem!_pos d' i Zo];simp[hd',hi]
  ·conv=>lhs;rw[←hD,List.getElem?_map]
   rw[getElem!_pos D.toArray i Zo];simp[hDl,hi]
 have hml:(d'.toList.map (·.1)).length=l.length:=by rw[List.length_map,Array.length_toList,hd',hln]
 have hI:An (ltOf cf) a b l (d'.toList.map (·.1)):=by
  refine⟨hml,fun i hi=> ?_,?_,?_⟩
  ·by_cases h2:i<n
   ·rw[(hel i h2).1,(hel i h2).2,hs2 i hi]
   ·rw[List.getElem?_eq_none (by rw[List.length_map,Array.length_toList];omega),List.getElem?_eq_none Zo]
  ·rw[Array.toList_extract,Array.toList_extract]at hs3
   have:=hs3.map (·.1)
   rw[List.extract_eq_take_drop,List.extract_eq_take_drop,List.map_take,List.map_take,List.map_drop,List.map_drop,List.toList_toArray,hD]at this
   exact this
  ·unfold NL
   rw[List.pairwise_iff_getElem]
   intro i j hi hj hij
   rw[List.length_take,List.length_drop,List.length_map,Array.length_toList]at hi hj
   have:=hs4 (a+i) (a+j) Zo Zo Zo
   rw[getElem!_pos d' (a+j) Zo,getElem!_pos d' (a+i) Zo]at this
   simp only[List.getElem_take,List.getElem_drop,List.getElem_map,Array.getElem_toList]
   exact this
 have hch:Ga [g] w (sortWorldK (fun z:{x:β // x∈l}=>cl z.1) k w g 0 m d' os):=⟨rfl,rfl,rfl,size_sortWorldK_c _ _ _ _ _ _ _ _,fun b hb hne=>Z8 hb (by simpa using hne)⟩
 have hfin:∀u:World,u.heap[g]? =(sortWorldK (fun z:{x:β // x∈l}=>cl z.1) k w g 0 m d' os).heap[g]? →K6 u B e k (some ⟨g,0,none⟩) n c ((d'.toList.map (·.1)).flatMap cl):=fun u hu=>by
  rw[←hfm]
  exact ownK (d:=D.toArray) (d':=d') (m:=m) (os:=os) (enc:=fun z:{x:β // x∈l}=>cl z.1) (u:=u) (w:=w) (e:=e) (B:=B) (c:=c) (n:=n) (g:=g) (k:=k) h0 (fun z=>hk z.1) ho2 hd' hu
 have hkg:∀u:World,(∀b',b'∈[g]∨(w.heap.size≤b'∧b'<(sortWorldK (fun z:{x:β // x∈l}=>cl z.1) k w g 0 m d' os).heap.size)→u.heap[b']? =(sortWorldK (fun z:{x:β // x∈l}=>cl z.1) k w g 0 m d' os).heap[b']?)→u.heap[g]? =(sortWorldK (fun z:{x:β // x∈l}=>cl z.1) k w g 0 m d' os).heap[g]? :=fun u k2=>k2 g (.inl Zs)
 clear hcon hC hO2 hs4 hs3 hs2 hel hcmp
 generalize sortWorldK (fun z:{x:β // x∈l}=>cl z.1) k w g 0 m d' os=W' at hch hfin hkg ⊢
 exact⟨⟨d'.toList.map (·.1),hI⟩,rfl,hch,fun u k1 k2=>hfin u (hkg u k2)⟩
end
end
section
variable{P:Program}{w:World}{g n c B k i:Nat}{e t:TypeId}{β:Type}{cl:β→List Value}{L:List β}{x:β}{v:Value}
theorem Pk(hk:∀x,(cl x).length=k):∀l:List β,(l.flatMap cl).length=l.length*k
 | []=>by simp
 |x::l=>by rw[List.flatMap_cons,List.length_append,Pk hk l,hk,List.length_cons,Nat.add_mul,Nat.one_mul,Nat.add_comm]
theorem flat_setE(hk:∀x,(cl x).length=k)(hi:i<L.length):(L.flatMap cl).take (i*k)++cl x++(L.flatMap cl).drop (i*k+(cl x).length)=(L.set i x).flatMap cl:=by
 obtain⟨y,hy⟩:∃y,L[i]? =some y:=⟨_,List.getElem?_eq_getElem hi⟩
 have e:L=L.take i++y::L.drop (i+1):=by conv=>lhs;rw[←List.take_append_drop i L,Nn hy]
 have e2:L.set i x=L.take i++x::L.drop (i+1):=List.set_eq_take_append_cons_drop.trans (if_pos hi)
 have hl:((L.take i).flatMap cl).length=i*k:=by rw[Pk hk,List.length_take,Nat.min_eq_left (Nat.le_of_lt hi)]
 rw[e2,List.flatMap_append,List.flatMap_cons]
 conv=>lhs;rw[e]
 rw[List.flatMap_append,List.flatMap_cons,←hl,List.take_left,List.drop_append,List.drop_of_length_le Zo,Nat.add_sub_cancel_left,List.nil_append,hk,←hk y,List.drop_left,List.append_assoc]
theorem K6.setE(hk:∀x,(cl x).length=k)(h:K6 w B e k (some ⟨g,0,none⟩) n c (L.flatMap cl))(hi:i<L.length)(hv:v.cells.toList=cl x)(hn:N8 P t=some k)(h1:∀u∈cl x,u.oneCell'=true):
 ∃w',(Rm t ⟨g,i*k,none⟩ v).run P w= .ok .skip w'∧Ga [g] w w'∧∀w'',w'.heap.size≤w''.heap.size→(∀b∈[g],w''.heap[b]? =w'.heap[b]?)→K6 w'' B e k (some ⟨g,0,none⟩) n c ((L.set i x).flatMap cl):=by
 have h2:=h.storeN (P:=P) (t:=t) (v:=v) (j:=i*k) (by rw[hv,hk];exact hn) (by rw[hv,hk,Pk hk];have:=Nat.mul_le_mul_right k (show i+1≤L.length from hi);rw[Nat.add_mul,Nat.one_mul]at this;exact this) (by rw[hv];exact h1)
 rw[hv,flat_setE hk hi]at h2
 exact h2
def Az(L:List β)(i j:Nat):List β:=match L[i]?,L[j]? with
 |some x,some y=>(L.set i y).set j x
 |_,_=>L
def Y9(a b:Nat):Nat→List β→List β
 |0,L=>L
 |m+1,L=>Az (Y9 a b m L) (a+m) (b+m)
theorem Ig(L:List β)(i j:Nat):(Az L i j).length=L.length:=by unfold Az;split<;>simp
theorem D3(a b:Nat):∀(m:Nat) (L:List β),(Y9 a b m L).length=L.length
 |0,_=>rfl
 |m+1,L=>by rw[Y9,Ig,D3]
end
section
variable{β:Type}{lt:β→β→Bool}{L M N:List β}{a b c m i j k s e t n:Nat}
theorem Ih(hi:i<L.length)(hj:j<L.length)(t:Nat):(Az L i j)[t]? =if t=j then L[i]? else if t=i then L[j]? else L[t]? :=by
 unfold Az
 rw[List.getElem?_eq_getElem hi,List.getElem?_eq_getElem hj]
 dsimp only
 rw[List.getElem?_set,List.getElem?_set]
 by_cases h1:j=t
 ·subst h1;simp[hj]
 ·by_cases h2:i=t
  ·subst h2;simp only[if_neg h1,if_neg (fun e:i=j=>h1 e.symm),if_true,hi]
  ·rw[if_neg h1,if_neg h2,if_neg (fun e=>h1 e.symm),if_neg (fun e=>h2 e.symm)]
theorem swE_perm(hi:i<L.length)(hj:j<L.length):(Az L i j).Perm L:=by
 have h:=Array.swap_perm (xs:=L.toArray) (i:=i) (j:=j) (by simpa using hi) (by simpa using hj)
 have e:(L.toArray.swap i j (by simpa using hi) (by simpa using hj)).toList=Az L i j:=by
  unfold Az
  rw[List.getElem?_eq_getElem hi,List.getElem?_eq_getElem hj]
  simp[Array.swap]
 have h2:=Array.perm_iff_toList_perm.1 h
 rw[e]at h2
 exact h2
theorem swN_get(hb:a+m≤b):b+m≤L.length→∀t,(Y9 a b m L)[t]? =if a≤t∧t<a+m then L[b+(t-a)]? else if b≤t∧t<b+m then L[a+(t-b)]? else L[t]? :=by
 induction m with
 |zero=>intro _ t;simp only[Y9];rw[if_neg Zo,if_neg Zo]
 | succ m ih=>
  intro hl t
  have ih:=ih Zo Zo
  have hlen:=D3 (L:=L) a b m
  show(Az (Y9 a b m L) (a+m) (b+m))[t]? =_
  rw[Ih Zo Zo,ih,ih,ih]
  by_cases h1:t=b+m
  ·subst h1
   rw[if_pos rfl,if_neg Zo,if_neg Zo,if_neg Zo,if_pos Zo]
   congr 1;omega
  ·rw[if_neg h1]
   by_cases h2:t=a+m
   ·subst h2
    rw[if_pos rfl,if_neg Zo,if_neg Zo,if_pos Zo]
    congr 1;omega
   ·rw[if_neg h2]
    by_cases h3:a≤t∧t<a+m
    ·rw[if_pos h3,if_pos Zo]
    ·rw[if_neg h3,if_neg (show¬(a≤t∧t<a+(m+1)) by omega)]
     by_cases h4:b≤t∧t<b+m
     ·rw[if_pos h4,if_pos Zo]
     ·rw[if_neg h4,if_neg Zo]
theorem swN_cut{P X Y Z S:List β}(hX:X.length=m)(hY:Y.length=m)(ha:P.length=a)(hb:a+m+Z.length=b):Y9 a b m (P++(X++(Z++(Y++S))))=P++(Y++(Z++(X++S))):=by
 refine List.ext_getElem? fun t=> ?_
 rw[swN_get Zo (by simp only[List.length_append];omega)]
 simp only[List.getElem?_append,List.length_append,hX,hY,ha]
 repeat' split
 all_goals first
  |omega
  |rfl
  |(congr 1;omega)
structure PR(a b:Nat)(L M:List β):Prop where
 len:M.length=L.length
 out:∀i,i<a∨b≤i→M[i]? =L[i]?
 perm:M.Perm L
theorem PR.rfl':PR a b L L:=⟨rfl,fun _ _=>rfl,.refl _⟩
theorem PR.trans(h:PR a b L M)(k:PR a b M N):PR a b L N:=⟨k.len.trans h.len,fun i hi=>(k.out i hi).trans (h.out i hi),k.perm.trans h.perm⟩
theorem PR.mono(h:PR a b L M)(h1:c≤a)(h2:b≤e):PR c e L M:=⟨h.len,fun i hi=>h.out i Zo,h.perm⟩
theorem PR.mem(h:PR a b L M)(hab:a≤b){x:β}(h1:a≤i)(h2:i<b)(hx:M[i]? =some x):∃j,a≤j∧j<b∧L[j]? =some x:=by
 have cut:∀l:List β,l=l.take a++((l.drop a).take (b-a)++l.drop b):=fun l=>by
  conv=>lhs;rw[←List.take_append_drop a l,←List.take_append_drop (b-a) (l.drop a),List.drop_drop,show a+(b-a)=b by omega]
 have e1:M.take a=L.take a:=List.ext_getElem? fun t=>by
  rw[List.getElem?_take,List.getElem?_take]
  split
  ·exact h.out t (.inl (by assumption))
  ·rfl
 have e2:M.drop b=L.drop b:=List.ext_getElem? fun t=>by
  rw[List.getElem?_drop,List.getElem?_drop]
  exact h.out _ (.inr Zo)
 have hp:=h.perm
 rw[cut L,cut M,e1,e2,List.perm_append_left_iff,List.perm_append_right_iff]at hp
 have hm:x∈(M.drop a).take (b-a):=by
  refine List.mem_of_getElem? (i:=i-a) ?_
  rw[List.getElem?_take,if_pos Zo,List.getElem?_drop,show a+(i-a)=i by omega]
  exact hx
 obtain⟨j,hj⟩:=List.getElem?_of_mem (hp.mem_iff.1 hm)
 rw[List.getElem?_take]at hj
 split at hj
 ·rw[List.getElem?_drop]at hj
  exact⟨a+j,by omega,by omega,hj⟩
 ·cases hj
def Oj(lt:β→β→Bool)(a b:Nat)(L:List β):Prop:=∀i j x y,a≤i→i<j→j<b→L[i]? =some x→L[j]? =some y→lt y x=false
theorem Oj.mono(h:Oj lt a b L)(h1:a≤c)(h2:e≤b):Oj lt c e L:=fun i j x y k1 k2 k3=>h i j x y Zo k2 Zo
theorem Oj.one(h:b≤a+1):Oj lt a b L:=fun i j x y k1 k2 k3=>by omega
theorem Oj.same(h:Oj lt a b L)(ho:∀i,a≤i→i<b→M[i]? =L[i]?):Oj lt a b M:=fun i j x y k1 k2 k3 hx hy=>h i j x y k1 k2 k3 ((ho i k1 Zo).symm.trans hx) ((ho j Zo k3).symm.trans hy)
theorem Oj.shift{d f:Nat}(h:Oj lt a b L)(ho:∀i,c≤i→i<e→M[i]? =L[a+(i-c)]?)(hd:a+(e-c)≤b):Oj lt c e M:=fun i j x y k1 k2 k3 hx hy=>h (a+(i-c)) (a+(j-c)) x y Zo Zo Zo ((ho i k1 Zo).symm.trans hx) ((ho j Zo k3).symm.trans hy)
theorem An.pr(h:An lt a b L M)(hab:a≤b):PR a b L M:=by
 refine⟨h.len,h.out,?_⟩
 have cut:∀l:List β,l=l.take a++((l.drop a).take (b-a)++l.drop b):=fun l=>by
  conv=>lhs;rw[←List.take_append_drop a l,←List.take_append_drop (b-a) (l.drop a),List.drop_drop,show a+(b-a)=b by omega]
 have e1:M.take a=L.take a:=List.ext_getElem? fun t=>by
  rw[List.getElem?_take,List.getElem?_take]
  split
  ·exact h.out t (.inl (by assumption))
  ·rfl
 have e2:M.drop b=L.drop b:=List.ext_getElem? fun t=>by
  rw[List.getElem?_drop,List.getElem?_drop]
  exact h.out _ (.inr Zo)
 rw[cut L,cut M,e1,e2]
 exact(h.perm.append_right _).append_left _
theorem An.sr(h:An lt a b L M):Oj lt a b M:=fun i j x y k1 k2 k3 hx hy=>by
 have hs:=h.srt
 unfold NL at hs
 rw[List.pairwise_iff_getElem]at hs
 have hg:∀t z,a≤t→t<b→M[t]? =some z→((M.drop a).take (b-a))[t-a]? =some z:=fun t z t1 t2 tz=>by
  rw[List.getElem?_take,if_pos Zo,List.getElem?_drop,show a+(t-a)=t by omega];exact tz
 obtain⟨u1,v1⟩:=List.getElem?_eq_some_iff.1 (hg i x k1 Zo hx)
 obtain⟨u2,v2⟩:=List.getElem?_eq_some_iff.1 (hg j y Zo k3 hy)
 have:=hs (i-a) (j-a) u1 u2 Zo
 rw[v1,v2]at this
 exact this
theorem Oj.nl(h:Oj lt 0 n L)(hn:L.length=n):NL lt L:=by
 unfold NL
 rw[List.pairwise_iff_getElem]
 intro i j hi hj hij
 exact h i j _ _ (Nat.zero_le _) hij Zo (List.getElem?_eq_getElem hi) (List.getElem?_eq_getElem hj)
structure W4(s m e:Nat)(L M:List β):Prop where
 pr:PR s e L M
 lo:∀i,s≤i→i<s+(e-m)→M[i]? =L[m+(i-s)]?
 hi:∀i,s+(e-m)≤i→i<e→M[i]? =L[s+(i- (s+(e-m)))]?
theorem rot_cut{P X Y S:List β}(hs:P.length=s)(hm:s+X.length=m)(he:m+Y.length=e):W4 s m e (P++(X++(Y++S))) (P++(Y++(X++S))):=by
 refine⟨⟨by simp only[List.length_append];omega,fun i hi=> ?_,?_⟩,fun i h1 h2=> ?_,fun i h1 h2=> ?_⟩
 ·simp only[List.getElem?_append,List.length_append,hs]
  repeat' split
  all_goals first
   |omega
   |rfl
   |(congr 1;omega)
 ·refine List.Perm.append_left P ?_
  rw[←List.append_assoc,←List.append_assoc]
  exact List.Perm.append_right S List.perm_append_comm
 ·simp only[List.getElem?_append,List.length_append,hs]
  repeat' split
  all_goals first
   |omega
   |rfl
   |(congr 1;omega)
 ·simp only[List.getElem?_append,List.length_append,hs]
  repeat' split
  all_goals first
   |omega
   |rfl
   |(congr 1;omega)
theorem Zh(h:s=m∨m=e)(h1:s≤m)(h2:m≤e):W4 s m e L L:=by
 refine⟨.rfl',fun i k1 k2=> ?_,fun i k1 k2=> ?_⟩
 ·congr 1;omega
 ·congr 1;omega
theorem Dc(hO:Sort.SWO lt){x y:β}(h:lt x y=true):lt y x=false:=by
 cases hc:lt y x
 ·rfl
 ·have:=hO.trans _ _ _ h hc;rw[hO.irrefl]at this;cases this
theorem Hd(hO:Sort.SWO lt){x y z:β}(h:lt y x=false)(k:lt z y=false):lt z x=false:=hO.ntrans _ _ _ k h
theorem Oj.le(hO:Sort.SWO lt)(h:Oj lt a b L){x y:β}(h1:a≤i)(h2:i≤j)(h3:j<b)(hx:L[i]? =some x)(hy:L[j]? =some y):lt y x=false:=by
 by_cases e:i=j
 ·subst e;rw[hx]at hy;injection hy with hy;subst hy;exact hO.irrefl _
 ·exact h i j x y h1 Zo h3 hx hy
theorem sym_ok(hO:Sort.SWO lt){L0 L1 L2 L3:List β}{mid:Nat}(hl:b≤L0.length)(h0:a≤s)(h1:s≤m)(h2:m≤e)(h3:e≤b)(hmid:s+e=mid+m)
 (k1:Oj lt a m L0) (k2:Oj lt m b L0) (hr:W4 s m e L0 L1) (hp:PR a mid L1 L2) (kp:Oj lt a mid L2) (hq:PR mid b L2 L3) (kq:Oj lt mid b L3)
 (hx:∀x y,a<s→e<b→L0[s-1]? =some x→L0[e]? =some y→lt y x=false) (hy:∀x y,s<m→m<e→L0[e-1]? =some x→L0[s]? =some y→lt y x=false):PR a b L0 L3∧Oj lt a b L3:=by
 have em:s+(e-m)=mid:=by omega
 refine⟨((hr.pr.mono h0 h3).trans (hp.mono (Nat.le_refl _) Zo)).trans (hq.mono Zo (Nat.le_refl _)),fun i j x y c1 c2 c3 gx gy=> ?_⟩
 by_cases j1:j<mid
 ·exact kp i j x y c1 c2 j1 ((hq.out i (.inl Zo)).symm.trans gx) ((hq.out j (.inl j1)).symm.trans gy)
 by_cases i1:mid≤i
 ·exact kq i j x y i1 c2 c3 gx gy
 obtain⟨i',d1,d2,d3⟩:=hp.mem Zo c1 Zo ((hq.out i (.inl Zo)).symm.trans gx)
 obtain⟨j',d4,d5,d6⟩:=hq.mem Zo Zo c3 gy
 replace d6:=(hp.out j' (.inr d4)).symm.trans d6
 clear gx gy
 have g0:∀t,t<b→∃z,L0[t]? =some z:=fun t ht=>⟨_,List.getElem?_eq_getElem Zo⟩
 by_cases u1:i'<s<;>by_cases u2:j'<e
 ·rw[hr.pr.out i' (.inl u1)]at d3
  rw[hr.hi j' Zo u2,em]at d6
  exact k1 _ _ x y d1 Zo Zo d3 d6
 ·rw[hr.pr.out i' (.inl u1)]at d3
  rw[hr.pr.out j' (.inr Zo)]at d6
  obtain⟨p,hp1⟩:=g0 (s-1) Zo
  obtain⟨q,hq1⟩:=g0 e Zo
  have r1:=k1.le hO d1 (show i'≤s-1 by omega) Zo d3 hp1
  have r2:=hx p q Zo Zo hp1 hq1
  have r3:=k2.le hO h2 (show e≤j' by omega) d5 hq1 d6
  exact Hd hO (Hd hO r1 r2) r3
 ·rw[hr.lo i' Zo Zo]at d3
  rw[hr.hi j' Zo u2,em]at d6
  obtain⟨p,hp1⟩:=g0 (e-1) Zo
  obtain⟨q,hq1⟩:=g0 s Zo
  have r1:=k2.le hO (Nat.le_add_right m _) (show m+(i'- s)≤e-1 by omega) Zo d3 hp1
  have r2:=hy p q Zo Zo hp1 hq1
  have r3:=k1.le hO h0 (show s≤s+(j'- mid) by omega) Zo hq1 d6
  exact Hd hO (Hd hO r1 r2) r3
 ·rw[hr.lo i' Zo Zo]at d3
  rw[hr.pr.out j' (.inr Zo)]at d6
  exact k2.le hO (Nat.le_add_right m _) Zo d5 d3 d6
theorem Iu{mid:Nat}(h0:a≤s)(h1:s≤m)(k1:Oj lt a m L)(hr:W4 s m e L M):Oj lt a s M:=(k1.mono (Nat.le_refl _) h1).same fun i _ h=>hr.pr.out i (.inl h)
theorem It(h2:m≤e)(h3:e≤b)(k2:Oj lt m b L)(hr:W4 s m e L M):Oj lt s (s+(e-m)) M:=k2.shift (d:=0) (f:=0) (fun i u v=>hr.lo i u v) Zo
theorem rot_s3(h0:a≤s)(h1:s≤m)(h2:m≤e)(k1:Oj lt a m L)(hr:W4 s m e L M):Oj lt (s+(e-m)) e M:=(k1.mono h0 (Nat.le_refl _)).shift (d:=0) (f:=0) (fun i u v=>hr.hi i u v) Zo
theorem rot_s4(h2:m≤e)(k2:Oj lt m b L)(hr:W4 s m e L M):Oj lt e b M:=(k2.mono h2 (Nat.le_refl _)).same fun i h _=>hr.pr.out i (.inr h)
def Xz(a:Nat):Nat→List β→List β
 |0,L=>L
 |d+1,L=>Az (Xz a d L) (a+d) (a+d+1)
def Y4(m:Nat):Nat→List β→List β
 |0,L=>L
 |d+1,L=>Az (Y4 m d L) (m-d) (m-d-1)
theorem Jb:∀{d:Nat},a+d<L.length→PR a (a+d+1) L (Xz a d L)∧∀t,(Xz a d L)[t]? =if a≤t∧t<a+d then L[t+1]? else if t=a+d then L[a]? else L[t]?
 |0,_=>⟨.rfl',fun t=>by
  show L[t]? =_
  rw[if_neg Zo];split
  ·congr 1
  ·rfl⟩
 | d +1,h=>by
  obtain⟨h1,h2⟩:=Jb (d:=d) Zo
  have hl:=h1.len
  have h3:=Ih (L:=Xz a d L) (i:=a+d) (j:=a+d+1) Zo Zo
  refine⟨⟨by rw[←hl];exact Ig _ _ _,fun t ht=> ?_,(swE_perm Zo Zo).trans h1.perm⟩,fun t=> ?_⟩
  ·show(Az (Xz a d L) (a+d) (a+d+1))[t]? =_
   rw[h3,if_neg Zo,if_neg Zo];exact h1.out t Zo
  ·show(Az (Xz a d L) (a+d) (a+d+1))[t]? =_
   rw[h3,h2,h2,h2]
   by_cases c1:t=a+d+1
   ·subst c1
    rw[if_pos rfl,if_neg Zo,if_pos rfl,if_neg Zo,if_pos Zo]
   ·rw[if_neg c1]
    by_cases c2:t=a+d
    ·subst c2
     rw[if_pos rfl,if_neg Zo,if_neg Zo,if_pos Zo]
    ·rw[if_neg c2]
     by_cases c3:a≤t∧t<a+d
     ·rw[if_pos c3,if_pos Zo]
     ·rw[if_neg c3,if_neg Zo,if_neg Zo,if_neg Zo]
theorem Jc:∀{d:Nat},d≤m→m<L.length→PR (m-d) (m+1) L (Y4 m d L)∧∀t,(Y4 m d L)[t]? =if m-d<t∧t≤m then L[t-1]? else if t=m-d then L[m]? else L[t]?
 |0,_,_=>⟨.rfl',fun t=>by
  show L[t]? =_
  rw[if_neg Zo];split
  ·congr 1
  ·rfl⟩
 | d +1,h,hm=>by
  obtain⟨h1,h2⟩:=Jc (d:=d) Zo hm
  have hl:=h1.len
  have h3:=Ih (L:=Y4 m d L) (i:=m-d) (j:=m-d-1) Zo Zo
  refine⟨⟨by rw[←hl];exact Ig _ _ _,fun t ht=> ?_,(swE_perm Zo Zo).trans h1.perm⟩,fun t=> ?_⟩
  ·show(Az (Y4 m d L) (m-d) (m-d-1))[t]? =_
   rw[h3,if_neg Zo,if_neg Zo];exact h1.out t Zo
  ·show(Az (Y4 m d L) (m-d) (m-d-1))[t]? =_
   rw[h3,h2,h2,h2]
   by_cases c1:t=m-d-1
   ·subst c1
    rw[if_pos rfl,if_neg Zo,if_pos rfl,if_neg Zo,if_pos Zo]
   ·rw[if_neg c1]
    by_cases c2:t=m-d
    ·subst c2
     rw[if_pos rfl,if_neg Zo,if_neg Zo,if_pos Zo]
    ·rw[if_neg c2]
     by_cases c3:m-d<t∧t≤m
     ·rw[if_pos c3,if_pos Zo]
     ·rw[if_neg c3,if_neg Zo,if_neg Zo,if_neg Zo]
theorem up_ok(hO:Sort.SWO lt){x:β}(hx:L[a]? =some x)(hl:b≤L.length)(h1:a<i)(h2:i≤b)(k:Oj lt (a+1) b L)(hi:∀y,a+1<i→L[i-1]? =some y→lt y x=true)(hj:∀y,i<b→L[i]? =some y→lt y x=false):PR a b L (Xz a (i-1-a) L)∧Oj lt a b (Xz a (i-1-a) L):=by
 obtain⟨p1,p2⟩:=Jb (L:=L) (a:=a) (d:=i-1-a) Zo
 refine⟨p1.mono (Nat.le_refl _) Zo,fun t u y z c1 c2 c3 gy gz=> ?_⟩
 rw[p2]at gy gz
 have g0:∀t,t<b→∃z,L[t]? =some z:=fun t ht=>⟨_,List.getElem?_eq_getElem Zo⟩
 have hlo:∀t y,a+1≤t→t<i→L[t]? =some y→lt y x=true:=fun t y t1 t2 ty=>by
  obtain⟨q,hq⟩:=g0 (i-1) Zo
  have r1:=hi q Zo hq
  have r2:=k.le hO t1 (show t≤i-1 by omega) Zo ty hq
  cases hc:lt y x
  ·rw[hO.ntrans _ _ _ r2 hc]at r1;cases r1
  ·rfl
 have hhi:∀t y,i≤t→t<b→L[t]? =some y→lt y x=false:=fun t y t1 t2 ty=>by
  obtain⟨q,hq⟩:=g0 i Zo
  exact Hd hO (hj q Zo hq) (k.le hO Zo t1 t2 hq ty)
 by_cases e1:t<i-1
 ·rw[if_pos Zo]at gy
  by_cases e2:u<i-1
  ·rw[if_pos Zo]at gz
   exact k _ _ _ _ Zo Zo Zo gy gz
  ·rw[if_neg Zo]at gz
   by_cases e3:u=i-1
   ·rw[if_pos Zo,hx]at gz
    injection gz with gz
    subst gz
    exact Dc hO (hlo _ _ Zo Zo gy)
   ·rw[if_neg Zo]at gz
    exact k _ _ _ _ Zo Zo Zo gy gz
 ·rw[if_neg Zo]at gy
  rw[if_neg Zo,if_neg Zo]at gz
  by_cases e3:t=i-1
  ·rw[if_pos Zo,hx]at gy
   injection gy with gy
   subst gy
   exact hhi _ _ Zo c3 gz
  ·rw[if_neg Zo]at gy
   exact k _ _ _ _ Zo c2 c3 gy gz
theorem down_ok(hO:Sort.SWO lt){x:β}(hx:L[m]? =some x)(hl:m<L.length)(h1:a≤i)(h2:i≤m)(k:Oj lt a m L)(hi:∀y,a<i→L[i-1]? =some y→lt x y=false)(hj:∀y,i<m→L[i]? =some y→lt x y=true):PR a (m+1) L (Y4 m (m-i) L)∧Oj lt a (m+1) (Y4 m (m-i) L):=by
 obtain⟨p1,p2⟩:=Jc (L:=L) (m:=m) (d:=m-i) Zo hl
 have em:m- (m-i)=i:=by omega
 rw[em]at p1 p2
 refine⟨p1.mono h1 (Nat.le_refl _),fun t u y z c1 c2 c3 gy gz=> ?_⟩
 rw[p2]at gy gz
 have g0:∀t,t≤m→∃z,L[t]? =some z:=fun t ht=>⟨_,List.getElem?_eq_getElem Zo⟩
 have hlo:∀t y,a≤t→t<i→L[t]? =some y→lt x y=false:=fun t y t1 t2 ty=>by
  obtain⟨q,hq⟩:=g0 (i-1) Zo
  exact Hd hO (k.le hO t1 (show t≤i-1 by omega) Zo ty hq) (hi q Zo hq)
 have hhi:∀t y,i≤t→t<m→L[t]? =some y→lt x y=true:=fun t y t1 t2 ty=>by
  obtain⟨q,hq⟩:=g0 i Zo
  have r1:=hj q Zo hq
  have r2:=k.le hO h1 t1 t2 hq ty
  cases hc:lt x y
  ·rw[hO.ntrans _ _ _ hc r2]at r1;cases r1
  ·rfl
 by_cases e1:u≤i
 ·rw[if_neg Zo,if_neg Zo]at gy
  rw[if_neg Zo]at gz
  by_cases e2:u=i
  ·rw[if_pos e2,hx]at gz
   injection gz with gz
   subst gz
   exact hlo _ _ c1 Zo gy
  ·rw[if_neg e2]at gz
   exact k _ _ _ _ c1 c2 Zo gy gz
 ·rw[if_pos Zo]at gz
  by_cases e2:t<i
  ·rw[if_neg Zo,if_neg Zo]at gy
   exact k _ _ _ _ c1 Zo Zo gy gz
  ·by_cases e3:t=i
   ·rw[if_neg Zo,if_pos e3,hx]at gy
    injection gy with gy
    subst gy
    exact Dc hO (hhi _ _ Zo Zo gz)
   ·rw[if_pos Zo]at gy
    exact k _ _ _ _ Zo Zo Zo gy gz
def Fu(lt:β→β→Bool)(s n:Nat)(L:List β):Prop:=∀t,Oj lt (t*s) (min (t*s+s) n) L
structure S1(lt:β→β→Bool)(n q a:Nat)(L0 L:List β):Prop where
 pr:PR 0 n L0 L
 ok:∀t,t<q→Oj lt (t*20) (t*20+20) L
 ha:a=q*20
theorem S1.ins{q:Nat}(h:S1 lt n q a L M)(hb:a+20≤n)(hi:An lt a (a+20) M N):S1 lt n (q+1) (a+20) L N:=by
 have ha:=h.ha
 refine⟨h.pr.trans ((hi.pr Zo).mono (Nat.zero_le _) hb),fun t ht=> ?_,by omega⟩
 by_cases e:t=q
 ·subst e;rw[←ha];exact hi.sr
 ·exact(h.ok t Zo).same fun i _ h2=>hi.out i (.inl Zo)
theorem S1.fin{q:Nat}(h:S1 lt n q a L M)(hn:a≤n)(hb:n<a+20)(hi:An lt a n M N):PR 0 n L N∧Fu lt 20 n N:=by
 have ha:=h.ha
 refine⟨h.pr.trans ((hi.pr hn).mono (Nat.zero_le _) (Nat.le_refl _)),fun t=> ?_⟩
 by_cases e:t<q
 ·exact((h.ok t e).same fun i _ h2=>hi.out i (.inl Zo)).mono (Nat.le_refl _) (Nat.min_le_left _ _)
 ·by_cases e2:t=q
  ·subst e2;rw[←ha];exact hi.sr.mono (Nat.le_refl _) (Nat.min_le_right _ _)
  ·exact Oj.one Zo
structure S2(lt:β→β→Bool)(s n q a:Nat)(L0 L:List β):Prop where
 pr:PR 0 n L0 L
 lo:∀t,t<q→Oj lt (t*(2*s)) (t*(2*s)+2*s) L
 hi:∀t,2*q≤t→Oj lt (t*s) (min (t*s+s) n) L
 ha:a=q*(2*s)
theorem S2.start(h:PR 0 n L M)(k:Fu lt s n M):S2 lt s n 0 0 L M:=⟨h,fun t ht=>by omega,fun t _=>k t,by omega⟩
theorem S2.two{q:Nat}(h:S2 lt s n q a L M):(2*q)*s=a∧(2*q+1)*s=a+s:=by
 have e:(2*q)*s=a:=by rw[h.ha,Nat.mul_comm 2 q,Nat.mul_assoc]
 exact⟨e,by rw[Nat.add_mul,e,Nat.one_mul]⟩
theorem S2.r1{q:Nat}(h:S2 lt s n q a L M):Oj lt a (min (a+s) n) M:=by
 have:=h.hi (2*q) (Nat.le_refl _);rw[h.two.1]at this;exact this
theorem S2.r2{q:Nat}(h:S2 lt s n q a L M):Oj lt (a+s) (min (a+s+s) n) M:=by
 have:=h.hi (2*q+1) Zo;rw[h.two.2]at this;exact this
theorem S2.below{q t:Nat}(h:S2 lt s n q a L M)(ht:t<q):t*(2*s)+2*s≤a:=by
 have:=Nat.mul_le_mul_right (2*s) (show t+1≤q from ht)
 rw[Nat.add_mul,Nat.one_mul,←h.ha]at this;exact this
theorem S2.step{q:Nat}(h:S2 lt s n q a L M)(hb:a+2*s≤n)(k:PR a (a+2*s) M N∧Oj lt a (a+2*s) N):S2 lt s n (q+1) (a+2*s) L N:=by
 refine⟨h.pr.trans (k.1.mono (Nat.zero_le _) hb),fun t ht=> ?_,fun t ht=> ?_,by rw[Nat.add_mul,←h.ha,Nat.one_mul]⟩
 ·by_cases e:t=q
  ·subst e;rw[←h.ha];exact k.2
  ·have:=h.below (show t<q by omega)
   exact(h.lo t Zo).same fun i _ h2=>k.1.out i (.inl Zo)
 ·have h3:=Nat.mul_le_mul_right s ht
  have h4:(2*(q+1))*s=a+2*s:=by rw[Nat.mul_add,Nat.add_mul,h.two.1]
  exact(h.hi t Zo).same fun i h2 _=>k.1.out i (.inr Zo)
theorem S2.fin{q:Nat}(h:S2 lt s n q a L M)(hn:a≤n)(hb:n<a+2*s)(k:PR a n M N∧Oj lt a n N):PR 0 n L N∧Fu lt (2*s) n N:=by
 refine⟨h.pr.trans (k.1.mono (Nat.zero_le _) (Nat.le_refl _)),fun t=> ?_⟩
 by_cases e:t<q
 ·have:=h.below e
  exact((h.lo t e).same fun i _ h2=>k.1.out i (.inl Zo)).mono (Nat.le_refl _) (Nat.min_le_left _ _)
 ·by_cases e2:t=q
  ·subst e2;rw[←h.ha];exact k.2.mono (Nat.le_refl _) (Nat.min_le_right _ _)
  ·have h3:=Nat.mul_le_mul_right (2*s) (show q+1≤t by omega)
   rw[Nat.add_mul,←h.ha,Nat.one_mul]at h3
   exact Oj.one Zo
theorem S2.skip{q:Nat}(h:S2 lt s n q a L M)(hm:n≤a+s):PR a n M M∧Oj lt a n M:=⟨.rfl',by have:=h.r1;rw[Nat.min_eq_right hm]at this;exact this⟩
theorem Fu.all(h:Fu lt s n L)(hs:n≤s):Oj lt 0 n L:=by
 have:=h 0;rw[Nat.zero_mul,Nat.zero_add,Nat.min_eq_right hs]at this;exact this
end
end Go.Proofs.YtpgkbllcnphmbaaGreatDoor
