/-
 The machine: ways that meet, maps; errors.As.
-/
import Derived.Test.YtoeiphicmcndlaaGreatDoorAO
import Derived.MapKept
import Derived.WalkKit
import Derived.LaidEql
import Derived.Stop.Asserts
import Derived.RowKitTokens
namespace Go.Proofs.YtoeiphicmcndlaaGreatDoor
set_option maxRecDepth 100000
set_option maxHeartbeats 8000000
set_option linter.unusedVariables false
set_option linter.unusedSimpArgs false
open Go.RowKit
section
section
variable{P:Program}{Δ:List Deferred}{W:World}{Q:Exit→Act→World→Prop}{Φ:World→Prop}{c:Nn}
def amSlotA(t:Nat)(v:AV)(c:Nn):Nn:=⟨c.foc,c.k,⟨c.st.tmps.set t v,c.st.box⟩⟩
def Q9:List Nat→(Nat→AV)→Nn→Nn
 | [],_,c=>c
 |t::L,x,c=>amSlotA t (x t) (Q9 L x c)
theorem amSlotA_self{t:Nat}:amSlotA t (c.st.tmps.getD t (.v undef)) c=c:=by
 obtain⟨foc,k,⟨tm,bx⟩⟩:=c
 simp only[amSlotA]
 congr 2
 refine List.ext_getElem? fun j=> ?_
 rw[List.getElem?_set]
 split
 ·rename_i h
  subst h
  split
  ·rename_i h
   rw[List.getD_eq_getElem?_getD,List.getElem?_eq_getElem h];rfl
  ·rename_i h
   rw[List.getElem?_eq_none Zo]
 ·rfl
theorem Is:∀L:List Nat,Q9 L (fun t=>c.st.tmps.getD t (.v undef)) c=c
 | []=>rfl
 |t::L=>by rw[Q9,Is L];exact amSlotA_self
theorem K0.blur(L:List Nat)(h:∀x,K0 P Δ W Q Φ (Q9 L x c)):K0 P Δ W Q Φ c:=by
 have:=h fun t=>c.st.tmps.getD t (.v undef)
 rwa [Is]at this
theorem K0.joinB(hm:P.follows .mixedOrders=true)(stop n t:Nat)(L:List Nat)(res:Nat){b:Bool}(v1 v2 B:Bool)(hv:c.st.tmps[t]? =some (.v (.bool b)))
 (h1:(Lw P stop n (M7 t Zt c)).st.tmps[res]? =some (.v (.bool v1))) (h2:(Lw P stop n (M7 t Zf c)).st.tmps[res]? =some (.v (.bool v2)))
 (he:∀x,Q9 (t::L) x (M7 res (.bool B) (Lw P stop n (M7 t Zf c)))=Q9 (t::L) x (M7 res (.bool B) (Lw P stop n (M7 t Zt c))))
 (e:(if b then v1 else v2)=B) (k:∀x,K0 P Δ W Q Φ (Q9 (t::L) x (M7 res (.bool B) (Lw P stop n (M7 t Zt c))))):K0 P Δ W Q Φ c:=by
 refine K0.fork t b hv (fun hb=> ?_) (fun hb=> ?_)
 ·subst hb
  exact K0.run hm (stop:=stop) n _ <| K0.slot res (.bool v1) (.bool B) h1 (by rw[←e];rfl) (K0.blur (t::L) k)
 ·subst hb
  exact K0.run hm (stop:=stop) n _ <| K0.slot res (.bool v2) (.bool B) h2 (by rw[←e];rfl) (K0.blur (t::L) fun x=>by rw[he x];exact k x)
theorem K0.joinC(hm:P.follows .mixedOrders=true)(way:Bool)(stop n n2 t:Nat)(L:List Nat)(res:Nat){b:Bool}(vs v v2 B:Bool){g:FuncId}{args:Array Value}(hv:c.st.tmps[t]? =some (.v (.bool b)))
 (hs:∀w,Below W.heap.size W w→Φ w→Calls P g args w (K7 w (fun _:Unit=> .bool v) fun _ _=>True))
 (hc:Lk P (Lw P stop n (M7 t (.bool way) c))=some (g,args))
 (h1:(Lw P stop n (M7 t (.bool (!way)) c)).st.tmps[res]? =some (.v (.bool vs)))
 (h2:(Lw P stop n2 (Le (.v (.bool v)) (Lw P stop n (M7 t (.bool way) c)))).st.tmps[res]? =some (.v (.bool v2)))
 (he:∀x,Q9 (t::L) x (M7 res (.bool B) (Lw P stop n2 (Le (.v (.bool v)) (Lw P stop n (M7 t (.bool way) c)))))=Q9 (t::L) x (M7 res (.bool B) (Lw P stop n (M7 t (.bool (!way)) c))))
 (e:(if b=way then v2 else vs)=B) (k:∀(x:Nat→AV) (Φ':World→Prop),(∀w,Φ' w→Φ w)→K0 P Δ W Q Φ' (Q9 (t::L) x (M7 res (.bool B) (Lw P stop n (M7 t (.bool (!way)) c))))):K0 P Δ W Q Φ c:=by
 have yes:b=way→K0 P Δ W Q Φ (M7 t (.bool way) c):=fun hb=>by
  refine K0.run hm (stop:=stop) n _ <| K0.callv hs hc fun u=>K0.run hm (stop:=stop) n2 _ <| K0.slot res (.bool v2) (.bool B) h2 (by rw[←e,if_pos hb]) (K0.blur (t::L) fun x=> ?_)
  rw[he x]
  exact k x _ fun w h=>h.1
 have no:b=(!way)→K0 P Δ W Q Φ (M7 t (.bool (!way)) c):=fun hb=>by
  exact K0.run hm (stop:=stop) n _ <| K0.slot res (.bool vs) (.bool B) h1 (by rw[←e,if_neg (by rw[hb];cases way<;>decide)]) (K0.blur (t::L) fun x=>k x _ fun w h=>h)
 cases way
 ·exact K0.fork t b hv no yes
 ·exact K0.fork t b hv yes no
theorem Li{a b:Bool}:(if a then b else false)=(a&&b):=by cases a<;>rfl
theorem On{a b:Bool}:(if a then true else b)=(a||b):=by cases a<;>rfl
theorem P5{a b:Bool}:(if a=true then b else false)=(a&&b):=by cases a<;>rfl
theorem or_ift{a b:Bool}:(if a=false then b else true)=(a||b):=by cases a<;>rfl
theorem K0.meet{ι:Type}(f:ι→Nn→Nn)(h:(∀i,K0 P Δ W Q Φ (f i c))→K0 P Δ W Q Φ c)(k:∀i,K0 P Δ W Q Φ (f i c)):K0 P Δ W Q Φ c:=h k
theorem K0.meet2{ι:Type}(f:ι→Nn→Nn)(h:(∀i Φ',(∀w,Φ' w→Φ w)→K0 P Δ W Q Φ' (f i c))→K0 P Δ W Q Φ c)(k:∀i Φ',(∀w,Φ' w→Φ w)→K0 P Δ W Q Φ' (f i c)):K0 P Δ W Q Φ c:=h k
theorem K0.meet3{ι:Type}(f:ι→Nn→Nn)(Ψ:ι→World→Prop)(h:(∀i,K0 P Δ W Q (Ψ i) (f i c))→K0 P Δ W Q Φ c)(k:∀i,K0 P Δ W Q (Ψ i) (f i c)):K0 P Δ W Q Φ c:=h k
theorem Q4.imp2{β:Nat→Nat}{σ:AS}{a:Act}{w:World}{Φ':World→Prop}(hr:Q4 Δ W β σ Φ a w)(h:∀w,Φ w→Φ' w):Q4 Δ W β σ Φ' a w:=⟨hr.tmps,hr.defers,hr.bel,hr.box,hr.inj,fun w' hw=>h w' (hr.keep w' hw)⟩
theorem K0.weak{Φ':World→Prop}(hf:notAny c=true)(k:∀w,Φ w→Φ' w)(h:K0 P Δ W Q Φ' c):K0 P Δ W Q Φ c:=by
 obtain⟨foc,fk,σ⟩:=c
 replace h:=h.get
 refine⟨?_⟩
 cases foc with
 |code x=>exact fun hwf β a w hr=>h hwf β a w (hr.imp2 k)
 |ops o l=>exact fun hwf β a w hr=>h hwf β a w (hr.imp2 k)
 |any o f l=>cases hf
 |out e=>exact fun hwf β a w hr=>h hwf β a w (hr.imp2 k)
theorem K0.eq{c':Nn}(h:K0 P Δ W Q Φ c')(e:c=c'):K0 P Δ W Q Φ c:=e▸h
end
open Go.MapKept in
def Iv(w:World)(g:Nat)(l:List Int):Prop:=∃es clock,w.heap[g]? =some (.map es clock)∧es.toList.map (fun e=>(e.key,e.val))=l.map (fun i=>(Value.int .i64 i,Value.bool true))
def muS(t:TypeId)(m k v:Value):Sem Next:=Instr.mapUpdate t m k v >>= fun _=>(pure .skip:Sem Next)
section
variable{P:Program}{w:World}{t kt et:TypeId}{g:Nat}{l:List Int}{x:Int}
theorem Bu{x:Int}:∀{es:List MapEntry} {l:List Int} {i:Nat},es.map (fun e=>(e.key,e.val))=l.map (fun i=>(Value.int .i64 i,Value.bool true))→
 ∃a,Instr.findNow (.int .i64) (Zi x) es i=some a∧((a=none∧x∉l)∨(∃j,a=some (j,.bool true))∧x∈l)
 | [],[],i,h=>⟨none,rfl,.inl ⟨rfl,by simp⟩⟩
 | [],_::_,i,h=>by simp at h
 |_::_,[],i,h=>by simp at h
 | e::es,y::l,i,h=>by
  simp only[List.map_cons,List.cons.injEq,Prod.mk.injEq]at h
  obtain⟨⟨hk,hv⟩,h⟩:=h
  by_cases hxy:x=y
  ·subst hxy
   exact⟨some (i,.bool true),by simp[Instr.findNow,Instr.sameNow,hk,hv],.inr ⟨⟨i,rfl⟩,by simp⟩⟩
  ·obtain⟨a,ha,hc⟩:=Bu (x:=x) (i:=i+1) h
   refine⟨a,by simp only[Instr.findNow,Instr.sameNow,hk,if_true,beq_eq_false_iff_ne.2 hxy,ha],?_⟩
   rcases hc with ⟨h1,h2⟩|⟨h1,h2⟩
   ·exact .inl ⟨h1,by simp[hxy,h2]⟩
   ·exact .inr ⟨h1,by simp[h2]⟩
open Go.MapKept in
theorem lookup_ids(ht:P.underlying t=some (.map kt et))(hk:P.underlying kt=some (.int .i64))(hz:(zeroValue et).run P w= .ok Zf w)(h:Iv w g l):
 (Instr.lookup t (.map (some g)) (Zi x) false).run P w= .ok (.bool (decide (x∈l))) w:=by
 obtain⟨es,clock,hb,he⟩:=h
 obtain⟨a,ha,hc⟩:=Bu (x:=x) (i:=0) he
 have hck:(Instr.checkKey es.isEmpty 10000 kt (Zi x)).run P w= .ok () w:=by
  exact MapKept.run_checkKey hk (by simp[MapKept.IsKey]) _ _
 rcases hc with ⟨rfl,hx⟩|⟨⟨j,rfl⟩,hx⟩
 ·simp[Instr.lookup,run_underlying ht,MapKept.run_getObj_map hb,hck,run_findKey hk ha,hz,Result.andThen,hx]
 ·simp[Instr.lookup,run_underlying ht,MapKept.run_getObj_map hb,hck,run_findKey hk ha,Result.andThen,hx]
open Go.MapKept in
theorem update_ids(ht:P.underlying t=some (.map kt et))(hk:P.underlying kt=some (.int .i64))(h:Iv w g l)(hx:x∉l):
 ∃w',(muS t (.map (some g)) (Zi x) Zt).run P w= .ok .skip w'∧Chg [g] w w'∧∀w'',w'.heap.size≤w''.heap.size→(∀b∈[g],w''.heap[b]? =w'.heap[b]?)→Iv w'' g (l++ [x]):=by
 obtain⟨es,clock,hb,he⟩:=h
 obtain⟨a,ha,hc⟩:=Bu (x:=x) (i:=0) he
 rcases hc with ⟨rfl,_⟩|⟨_,h⟩
 case inr=>exact absurd h hx
 have hck:(Instr.checkKey false 10000 kt (Zi x)).run P w= .ok () w:=by
  exact MapKept.run_checkKey hk (by simp[MapKept.IsKey]) _ _
 refine⟨{w with heap:=w.heap.setIfInBounds g (.map (es.push ⟨Zi x,.bool true,clock⟩) (clock+1))},by simp only[muS,Instr.mapUpdate,Sem.run_bind,run_underlying ht,MapKept.run_getObj_map hb,hck,run_findKey hk ha,run_setObj_map _ hb,Result.andThen_ok,Sem.run_pure],⟨rfl,rfl,rfl,Nat.le_of_eq Zs,fun k _ h2=>(heap_set hb).2 k (by simpa using h2)⟩,fun w'' _ k2=>⟨es.push ⟨Zi x,.bool true,clock⟩,clock+1,?_,by simp[he]⟩⟩
 rw[k2 g Zs]
 exact(heap_set hb).1
end
section
variable{Δ:List Deferred}{W:World}{Φ Φ':World→Prop}
def OwnM(W:World)(g:Nat)(Φ:World→Prop):Prop:=∀w,Φ w→W.heap.size≤g∧∃es clock,w.heap[g]? =some (.map es clock)
theorem Q4.mutM{β:Nat→Nat}{σ:AS}{a:Act}{w w':World}{g:Nat}{G:World→Prop}(hr:Q4 Δ W β σ Φ a w)(hL:OwnM W g Φ)(hc:Chg [g] w w')
 (hG:∀w'',w'.heap.size≤w''.heap.size→(∀b∈[g],w''.heap[b]? =w'.heap[b]?)→G w'') (hΦ:Ej [g] Φ G Φ'):Q4 Δ W β σ Φ' a w':=by
 obtain⟨hg,es,clock,hgm⟩:=hL w hr.phi
 have hlt:g<w.heap.size:=(Array.getElem?_eq_some_iff.1 hgm).1
 have nb:∀k,(σ.box k).isSome=true→β k≠g:=fun k hk e=>by
  obtain⟨cs,hcs⟩:=Option.isSome_iff_exists.1 hk
  obtain⟨_,ty,hh⟩:=hr.box k cs hcs
  rw[e,hgm]at hh
  cases hh
 refine⟨hr.tmps,hr.defers,⟨hc.os.trans hr.bel.os,hc.tape.trans hr.bel.tape,hc.output.trans hr.bel.output,Nat.le_trans hr.bel.size hc.size,fun k hk=> ?_⟩,fun k cs hk=> ?_,hr.inj,fun w'' hw=> ?_⟩
 ·rw[hc.block k (Nat.lt_of_lt_of_le hk hr.bel.size) Zp]
  exact hr.bel.block k hk
 ·have hs:(σ.box k).isSome=true:=by rw[hk];rfl
  obtain⟨h1,ty,h2⟩:=hr.box k cs hk
  exact⟨h1,ty,by rw[hc.block _ (Array.getElem?_eq_some_iff.1 h2).1 (by simpa using nb k hs)];exact h2⟩
 ·refine hΦ {w'' with heap:=w''.heap.setIfInBounds g (.map es clock)} w'' Zs (fun b hb=> ?_) (hr.keep _ ⟨?_,fun b h1 h2 h3=> ?_⟩) (hG w'' hw.size fun b hb=> ?_)
  ·exact Array.getElem?_setIfInBounds_ne (by simpa[eq_comm]using hb)
  ·simp only[Array.size_setIfInBounds];exact Nat.le_trans hc.size hw.size
  ·by_cases hb:g=b
   ·subst hb
    simp only[]
    rw[Array.getElem?_setIfInBounds_self_of_lt (Nat.lt_of_lt_of_le hlt (Nat.le_trans hc.size hw.size))]
    exact hgm.symm
   ·simp only[]
    rw[Array.getElem?_setIfInBounds_ne hb,hw.heap b h1 (Nat.lt_of_lt_of_le h2 hc.size) h3,hc.block b h2 (by simpa[eq_comm]using hb)]
  ·obtain rfl:b=g:=by simpa using hb
   exact hw.heap b hg (Nat.lt_of_lt_of_le hlt hc.size) fun k hk=>nb k hk
end
section
variable{P:Program}{Δ:List Deferred}{W:World}{Q:Exit→Act→World→Prop}{Φ Φ':World→Prop}{c:Nn}
theorem K0.mutM{g:Nat}{G:World→Prop}(s:Sem Next)
 (hs:∀w,Below W.heap.size W w→Φ w→∃w',s.run P w= .ok .skip w'∧Chg [g] w w'∧∀w'',w'.heap.size≤w''.heap.size→(∀b∈[g],w''.heap[b]? =w'.heap[b]?)→G w'') (hL:OwnM W g Φ) (hΦ:Ej [g] Φ G Φ')
 (hf:Qj c=true) (hc:Uc c=some s) (h:K0 P Δ W Q Φ' (Le (.v undef) c)):K0 P Δ W Q Φ c:=by
 obtain⟨foc,k,σ⟩:=c
 replace h:=h.get
 refine⟨?_⟩
 replace hc:=(Q3 hc).1
 unfold Sz at hc
 split at hc
 ·rename_i ops o ho
  split at hc
  ·cases hc
  ·cases hc
  ·rename_i hns hnm
   split at hc
   ·rename_i hw
    simp only[Bool.and_eq_true]at hw
    injection hc with hc
    subst hc
    unfold O7 at ho
    simp only at ho
    split at ho
    ·rename_i ops' i l
     cases hoi:ops'[i]? with
     |none=>rw[hoi]at ho;cases ho
     | some o'=>
      rw[hoi]at ho
      simp only[Option.map_some,Option.some.injEq,Prod.mk.injEq]at ho
      obtain⟨rfl,rfl⟩:=ho
      intro hwf β a w hr
      show wpOps P ops' (post P Q k) (i::l) a w
      rw[wpOps_cons]
      unfold wpOp
      simp only[hoi,M4 hr,hw.1,if_true]
      refine .inl ?_
      have hrho:∀x∈o'.op.operands,a.eval x=σ.rho x:=fun x hx=>by
       rw[hr.eval,AV.conc_isV];· rfl
       exact List.all_eq_true.1 hw.2 x (by simpa using hx)
      obtain⟨w',hrun,hch,hG⟩:=hs w hr.bel hr.phi
      unfold Oper.wp
      rw[execOp_congr o' (fun cs b e=>hns cs b e) hrho,hrun]
      simp only[U6,Le,hoi,Option.bind_some]at h
      exact h (hwf.put _ (by intro k hk;simp[AV.ids]at hk)) β _ w' ((hr.mutM hL hch hG hΦ).put o'.dst (.v undef))
    ·cases hf
    ·cases ho
   ·cases hc
 ·cases hc
end
end
section
open Go.Extern.Stop Go.Stop Go.Extern
section
variable{w:World}
theorem as_nil{t:Value}:Zv 105 #[.nilIface,t] w Zf:=by
 exact K0.enter Tryz.func105 rfl <| ZR <| ZI true <| ZW Zf
@[reducible] def Ih(t:Nat):Value:=Zq 4 t
@[reducible] def rtV(t:Nat):Value:= .agg #[Ih t]
theorem as_vT(t:Addr):(ReflectliteValue.unpack (.iface 171 (.pointer (some t)))).run Tryz.prog w= .ok (.agg #[Ih 171,Zq w.heap.size 0,.int .u64 150]) (w.alloc (.cells #[.pointer (some t)] 171)):=by kernel_rfl
theorem as_tT(a:Addr):(ReflectliteValue.methodAny (ReflectliteValue.valueError "reflectlite.Value.Type" 0) (fun t _ _ _=>ReflectliteType.toType t) #[.agg #[Ih 171,.pointer (some a),.int .u64 150]]).run Tryz.prog w= .ok (.iface 262 (rtV 171)) w:=by kernel_rfl
theorem as_kT:((ReflectliteType.abiMethod fun t=>Functor.map (fun a:Nat=>Value.int IntKind.u8 (a:Int)) (Rtype.kind t)) #[Ih 171]).run Tryz.prog w= .ok (.int .u8 22) w:=by kernel_rfl
theorem as_kE:((ReflectliteType.abiMethod fun t=>Functor.map (fun a:Nat=>Value.int IntKind.u8 (a:Int)) (Rtype.kind t)) #[Ih 169]).run Tryz.prog w= .ok (.int .u8 25) w:=by kernel_rfl
theorem as_eT:(ReflectliteType.method ReflectliteType.elem #[rtV 171]).run Tryz.prog w= .ok (.iface 262 (rtV 169)) w:=by kernel_rfl
theorem as_iE:(ReflectliteType.relation "Implements" ReflectliteType.implements_ #[rtV 169,.iface 262 (rtV 97)]).run Tryz.prog w= .ok Zt w:=by kernel_rfl
theorem as_oE(v:Value):(ReflectliteType.typeOf #[.iface 169 v]).run Tryz.prog w= .ok (.iface 262 (rtV 169)) w:=by kernel_rfl
theorem as_aE:(ReflectliteType.relation "AssignableTo" ReflectliteType.assignableTo #[rtV 169,.iface 262 (rtV 169)]).run Tryz.prog w= .ok Zt w:=by kernel_rfl
theorem rlm(z:Sem Value)(f:TypeId→Addr→Nat→Nat→Sem Value)(v:Value):
 ReflectliteValue.method z f #[v]=(do match←ReflectliteValue.parts v with|none=>z|some (t,a,fl)=>f t a fl (fl%32)):=rfl
theorem as_pT(a:Addr):(ReflectliteValue.parts (.agg #[Ih 171,.pointer (some a),.int .u64 150])).run Tryz.prog w= .ok (some (171,a,150)) w:=by kernel_rfl
theorem as_nT(a p:Addr)(ha:w.cell? a=some (.pointer (some p))):
 (ReflectliteValue.method (ReflectliteValue.valueError "reflectlite.Value.IsNil" 0) ReflectliteValue.isNil #[.agg #[Ih 171,.pointer (some a),.int .u64 150]]).run Tryz.prog w= .ok Zf w:=by
 have hu:Tryz.prog.underlying 171=some (.pointer 169):=by kernel_rfl
 rw[rlm]
 simp only[Sem.run_bind,as_pT,Result.andThen]
 simp[ReflectliteValue.isNil,loadVar,isAgg,underlying,hu,ha,Result.andThen]
theorem as_elT:(Rtype.elem? 171).run Tryz.prog w= .ok (some 169) w:=by kernel_rfl
theorem as_mkE(p:Addr):(ReflectliteValue.mk 169 p ReflectliteValue.flagAddr).run Tryz.prog w= .ok (.agg #[Ih 169,.pointer (some p),.int .u64 409]) w:=by kernel_rfl
theorem as_lT(a p:Addr)(ha:w.cell? a=some (.pointer (some p))):
 (ReflectliteValue.method (ReflectliteValue.valueError "reflectlite.Value.Elem" 0) ReflectliteValue.elem #[.agg #[Ih 171,.pointer (some a),.int .u64 150]]).run Tryz.prog w= .ok (.agg #[Ih 169,.pointer (some p),.int .u64 409]) w:=by
 have hu:Tryz.prog.underlying 171=some (.pointer 169):=by kernel_rfl
 rw[rlm]
 simp only[Sem.run_bind,as_pT,Result.andThen]
 simp[ReflectliteValue.elem,loadVar,isAgg,underlying,hu,ha,Result.andThen,as_elT,as_mkE]
theorem as_vE(cs:Array Value):(ReflectliteValue.unpack (.iface 169 (.agg cs))).run Tryz.prog w= .ok (.agg #[Ih 169,Zq w.heap.size 0,.int .u64 153]) (w.alloc (.cells cs 169)):=by kernel_rfl
theorem rls(v x:Value):ReflectliteValue.set #[v,x]=(do
 let(some (dst,a,fl),some (src,b,_)):=(←ReflectliteValue.parts v,←ReflectliteValue.parts x)
  |unsupported (.noEntry "extern/(internal/reflectlite.Value).Set.zeroValue")
 if fl/ReflectliteValue.flagAddr%2==0 then unsupported (.noEntry "extern/(internal/reflectlite.Value).Set.unaddressable")
 let val←loadVar src b
 if←Rtype.directlyAssignable dst src then storeVar dst a val
 else if←Rtype.implements dst src then
  if (←Rtype.kind src)==20 then
   match val with
   | .nilIface=>unsupported (.noEntry "extern/reflectlite: a nil value of one interface type handed on as a value of another")
   |_=>storeVar dst a val
  else storeVar dst a (.iface src val)
 else panicString ("reflectlite.Set: value of type " ++(←Rtype.spelt src)++ " is not assignable to type " ++(←Rtype.spelt dst))
 pure (.tuple #[])):=rfl
theorem as_pEa(a:Addr):(ReflectliteValue.parts (.agg #[Ih 169,.pointer (some a),.int .u64 409])).run Tryz.prog w= .ok (some (169,a,409)) w:=by kernel_rfl
theorem as_pE(a:Addr):(ReflectliteValue.parts (.agg #[Ih 169,.pointer (some a),.int .u64 153])).run Tryz.prog w= .ok (some (169,a,153)) w:=by kernel_rfl
theorem as_dE:(Rtype.directlyAssignable 169 169).run Tryz.prog w= .ok true w:=by kernel_rfl
theorem as_sE{ta b:Nat}{cs:List Value}{c u:Value}(hb:w.rangeAt b 0 [c,u])(ht:K5 w ta cs)(hl:cs.length=2)(h1:c.oneCell'=true∧u.oneCell'=true):
 (ReflectliteValue.set #[.agg #[Ih 169,Zq ta 0,.int .u64 409],.agg #[Ih 169,Zq b 0,.int .u64 153]]).run Tryz.prog w= .ok (.tuple #[]) (w.setRow ta #[c,u]):=by
 have hr:Rm Tryz.prog 169=some true:=by kernel_rfl
 have hn:Nz Tryz.prog 169=some 2:=by kernel_rfl
 have hld:(loadVar 169 ⟨b,0,none⟩).run Tryz.prog w= .ok (.agg #[c,u]) w:=by
  unfold Rm at hr
  split at hr
  ·rename_i hd;exact run_loadVar_mid w b 0 _ [c,u] _ hb hd rfl hn
  ·rename_i hd;exact run_loadVar_mid w b 0 _ [c,u] _ hb hd rfl hn
  ·cases hr
  ·cases hr
 obtain⟨ty,h⟩:=ht
 have hst:=run_storeCells_at Tryz.prog ta 0 ty [c,u] 0 cs.toArray w h Zp (by simp;exact h1)
 have hnew:((cs.toArray.toList.take (0+0)++ [c,u]++cs.toArray.toList.drop (0+0+ [c,u].length)).toArray)= #[c,u]:=by
  simp[hl]
 rw[hnew]at hst
 rw[rls]
 simp only[Sem.run_bind,as_pEa,as_pE,Result.andThen_ok]
 simp[ReflectliteValue.flagAddr,hld,Result.andThen,as_dE,storeVar,Lf hn,Value.cells,hst]
theorem box_lt{g:Nat}{cs:List Value}(h:K5 w g cs):g<w.heap.size:=by obtain⟨t,h⟩:=h;exact(Array.getElem?_eq_some_iff.1 h).1
theorem alloc_new(w:World)(o:Obj):(w.alloc o).heap[w.heap.size]? =some o:=by show(w.heap.push _)[w.heap.size]? =_;simp
theorem Ou(w:World)(o:Obj)(b:Nat)(h:b<w.heap.size):(w.alloc o).heap[b]? =w.heap[b]? :=by show(w.heap.push _)[b]? =_;rw[Array.getElem?_push,if_neg Zo]
def ET(w:World):Prop:=w.cell? ⟨0,0,none⟩=some (.iface 262 (rtV 97))
theorem as_run{ta:Nat}{cs:List Value}{c u:Value}(hg:ET w)(ht:K5 w ta cs)(hl:cs.length=2)(h1:c.oneCell'=true∧u.oneCell'=true):
 Calls Tryz.prog 105 #[.iface 169 (.agg #[c,u]),.iface 171 (Zq ta 0)] w fun ev w'=>ev= .returned Zt∧w'=((((w.alloc (.cells #[Zq ta 0] 171)).alloc (.cells #[Ih 171,Zq w.heap.size 0,.int .u64 150] 223)).alloc (.cells #[Ih 171,Zq w.heap.size 0,.int .u64 150] 223)).alloc (.cells #[c,u] 169)).setRow ta #[c,u]:=by
 have e0:= @run_callFunc_extern Tryz.prog 166 _ (fun args=>ReflectliteValue.unpack (args.getD 0 (.tuple #[]))) Tryz.func166 Zk Zk Zk Zk
 have e1:= @run_callFunc_extern Tryz.prog 167 _ (ReflectliteValue.methodAny (ReflectliteValue.valueError "reflectlite.Value.Type" 0) (fun t _ _ _=>ReflectliteType.toType t)) Tryz.func167 Zk Zk Zk Zk
 have e2:= @run_callFunc_extern Tryz.prog 168 _ (ReflectliteValue.method (ReflectliteValue.valueError "reflectlite.Value.IsNil" 0) ReflectliteValue.isNil) Tryz.func168 Zk Zk Zk Zk
 have e3:= @run_callFunc_extern Tryz.prog 310 _ (ReflectliteType.abiMethod fun t=>do pure (.int .u8 (←Rtype.kind t))) Tryz.func310 Zk Zk Zk Zk
 have e4:= @run_callFunc_extern Tryz.prog 322 _ (ReflectliteType.method ReflectliteType.elem) Tryz.func322 Zk Zk Zk Zk
 have e5:= @run_callFunc_extern Tryz.prog 323 _ (ReflectliteType.relation "Implements" ReflectliteType.implements_) Tryz.func323 Zk Zk Zk Zk
 have e6:= @run_callFunc_extern Tryz.prog 217 _ ReflectliteType.typeOf Tryz.func217 Zk Zk Zk Zk
 have e7:= @run_callFunc_extern Tryz.prog 320 _ (ReflectliteType.relation "AssignableTo" ReflectliteType.assignableTo) Tryz.func320 Zk Zk Zk Zk
 have e8:= @run_callFunc_extern Tryz.prog 218 _ (ReflectliteValue.method (ReflectliteValue.valueError "reflectlite.Value.Elem" 0) ReflectliteValue.elem) Tryz.func218 Zk Zk Zk Zk
 have e9:= @run_callFunc_extern Tryz.prog 219 _ ReflectliteValue.set Tryz.func219 Zk Zk Zk Zk
 have t0:= @as_vT
 have t1:= @as_tT
 have t3:= @as_kT
 have t3':= @as_kE
 have t4:= @as_eT
 have t5:= @as_iE
 have t6:= @as_oE
 have t7:= @as_aE
 have t8:= @as_vE
 have mK:∀(h:Value) (w:World),(Go.method 444 262 (.agg #[h]) "Kind").run Tryz.prog w= .ok (310,h) w:=fun h w=>by kernel_rfl
 have mE:∀(h:Value) (w:World),(Go.method 444 262 (.agg #[h]) "Elem").run Tryz.prog w= .ok (322,.agg #[h]) w:=fun h w=>by kernel_rfl
 have mI:∀(h:Value) (w:World),(Go.method 444 262 (.agg #[h]) "Implements").run Tryz.prog w= .ok (323,.agg #[h]) w:=fun h w=>by kernel_rfl
 have mA:∀(h:Value) (w:World),(Go.method 444 262 (.agg #[h]) "AssignableTo").run Tryz.prog w= .ok (320,.agg #[h]) w:=fun h w=>by kernel_rfl
 have htl:ta<w.heap.size:=box_lt ht
 have hz:0<w.heap.size:=by
  rcases Nat.eq_zero_or_pos w.heap.size with h0|h
  ·simp[ET,World.cell?,h0]at hg
  ·exact h
 have n8:=as_nT (w:=(w.alloc (.cells #[Zq ta 0] 171)).alloc (.cells #[Ih 171,Zq w.heap.size 0,.int .u64 150] 223)) ⟨w.heap.size,0,none⟩ ⟨ta,0,none⟩ Zs
 have hg2:((w.alloc (.cells #[Zq ta 0] 171)).alloc (.cells #[Ih 171,Zq w.heap.size 0,.int .u64 150] 223)).cell? ⟨0,0,none⟩=some (.iface 262 (rtV 97)):=by
  rw[World.cell?_alloc_lt _ _ ⟨0,0,none⟩ Zs,World.cell?_alloc_lt _ _ ⟨0,0,none⟩ hz];exact hg
 have el:=as_lT (w:=((w.alloc (.cells #[Zq ta 0] 171)).alloc (.cells #[Ih 171,Zq w.heap.size 0,.int .u64 150] 223)).alloc (.cells #[Ih 171,Zq w.heap.size 0,.int .u64 150] 223)) ⟨w.heap.size,0,none⟩ ⟨ta,0,none⟩ (by rw[World.cell?_alloc_lt _ _ ⟨w.heap.size,0,none⟩ Zp];simp)
 have st:=as_sE (w:=(((w.alloc (.cells #[Zq ta 0] 171)).alloc (.cells #[Ih 171,Zq w.heap.size 0,.int .u64 150] 223)).alloc (.cells #[Ih 171,Zq w.heap.size 0,.int .u64 150] 223)).alloc (.cells #[c,u] 169)) (ta:=ta) (b:=w.heap.size+1+1+1) (cs:=cs) (c:=c) (u:=u)
  (K5.range ⟨169,by rw[show w.heap.size+1+1+1=(((w.alloc (.cells #[Zq ta 0] 171)).alloc (.cells #[Ih 171,Zq w.heap.size 0,.int .u64 150] 223)).alloc (.cells #[Ih 171,Zq w.heap.size 0,.int .u64 150] 223)).heap.size by simp];exact alloc_new _ _⟩)
  (by obtain⟨ty,h⟩:=ht;exact⟨ty,by rw[Ou _ _ _ Zp,Ou _ _ _ Zp,Ou _ _ _ Zp,Ou _ _ _ htl];exact h⟩) hl h1
 go_enter Tryz.func105,Tryz.ntmps105
 go_wp2
 refine wp_loop_rounds 1 ?_
 rw[rounds_succ]
 go_wp2
 go_ret
 exact⟨rfl,rfl⟩
theorem as_hit{ta:Nat}{cs:List Value}{c u:Value}(hg:ET w)(ht:K5 w ta cs)(hl:cs.length=2)(h1:c.oneCell'=true∧u.oneCell'=true):
 Calls Tryz.prog 105 #[.iface 169 (.agg #[c,u]),.iface 171 (Zq ta 0)] w (Nm w [ta] (fun _:Unit=> .bool true) fun _ v=>K5 v ta [c,u]):=
 (as_run hg ht hl h1).mono fun e w' ⟨e1,e2⟩=>by
  subst e2
  have htl:=box_lt ht
  refine⟨(),e1,⟨rfl,rfl,rfl,by rw[Pk];simp;omega,fun k hk hn=> ?_⟩,fun w'' k1 k2=> ?_⟩
  ·rw[Ox _ _ _ _ (by simpa using hn),Ou _ _ _ Zp,Ou _ _ _ Zp,Ou _ _ _ Zp,Ou _ _ _ hk]
  ·obtain⟨ty,h⟩:=ht
   refine⟨ty,?_⟩
   rw[k2 ta (.inl Zs)]
   simp only[World.setRow,Array.getElem?_modify,if_true]
   rw[Ou _ _ _ Zp,Ou _ _ _ Zp,Ou _ _ _ Zp,Ou _ _ _ htl,h]
   rfl
end
end
end Go.Proofs.YtoeiphicmcndlaaGreatDoor
