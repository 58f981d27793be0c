/-
 The machine: boxes, deferred calls.
-/
import Derived.Test.YtoeiphicmcndlaaGreatDoorAQP
import Derived.Defers
namespace Go.Proofs.YtoeiphicmcndlaaGreatDoor
set_option linter.unusedVariables false
set_option linter.unusedSimpArgs false
open Go.RowKit
theorem K0.enterW{P:Program}{f:FuncId}{fn:Func}{args:Array Value}{W w:World}{R:Ending→World→Prop}
 (hf:P.funcs[f]? =some fn) (hb:fn.body.isSome=true) (hW:Below W.heap.size W w)
 (h:K0 P [] W (bodyPost P fn R) (fun u=>w.heap.size≤u.heap.size∧∀b,W.heap.size≤b→b<w.heap.size→u.heap[b]? =w.heap[b]?) (Tw fn args)):Calls P f args w R:=by
 obtain⟨c,hc⟩:=Option.isSome_iff_exists.1 hb
 replace h:=h.get
 simp only[U6,Tw,hc,Option.getD_some]at h
 refine calls_of_wp hf hc (h ?_ (fun _=>0) _ w ?_)
 ·refine⟨fun x hx k hk=> ?_,fun j cs hj=>by cases hj⟩
  simp only[List.mem_append,List.mem_map,List.mem_replicate]at hx
  rcases hx with ⟨q,_,rfl⟩|⟨_,rfl⟩<;>simp[AV.ids]at hk
 ·refine⟨?_,rfl,hW,fun k cs hk=>(by cases hk),fun k k' hk=>(by cases hk),fun w' hw=>⟨hw.size,fun b h1 h2=>hw.heap b h1 h2 (fun k hk=>by cases hk)⟩⟩
  simp[Function.comp_def,AV.conc]
section
variable{P:Program}{Δ:List Deferred}{W:World}{Q:Exit→Act→World→Prop}{Φ Φ':World→Prop}{c:Nn}
theorem K0.mutSt{L:List Nat}{G:World→Prop}(s:Sem Next)
 (hs:∀w,Below W.heap.size W w→Φ w→∃w',s.run P w= .ok .skip w'∧Chg L w w'∧∀w'',w'.heap.size≤w''.heap.size→(∀b∈L,w''.heap[b]? =w'.heap[b]?)→G w'') (hL:Yx W L Φ) (hΦ:Ej L Φ G Φ')
 (hf:Qj c=true) (hc:Uc c=some s) (h:K0 P Δ W Q Φ' (Le (.v undef) c)):K0 P Δ W Q Φ c:=by
 obtain⟨foc,k,σ⟩:=c
 replace h:=h.get
 refine⟨?_⟩
 replace hc:=(Q3 hc).1
 unfold Sz at hc
 split at hc
 ·rename_i ops o ho
  split at hc
  ·cases hc
  ·cases hc
  ·rename_i hns hnm
   split at hc
   ·rename_i hw
    simp only[Bool.and_eq_true]at hw
    injection hc with hc
    subst hc
    unfold O7 at ho
    simp only at ho
    split at ho
    ·rename_i ops' i l
     cases hoi:ops'[i]? with
     |none=>rw[hoi]at ho;cases ho
     | some o'=>
      rw[hoi]at ho
      simp only[Option.map_some,Option.some.injEq,Prod.mk.injEq]at ho
      obtain⟨rfl,rfl⟩:=ho
      intro hwf β a w hr
      show wpOps P ops' (post P Q k) (i::l) a w
      rw[wpOps_cons]
      unfold wpOp
      simp only[hoi,M4 hr,hw.1,if_true]
      refine .inl ?_
      have hrho:∀x∈o'.op.operands,a.eval x=σ.rho x:=fun x hx=>by
       rw[hr.eval,AV.conc_isV];· rfl
       exact List.all_eq_true.1 hw.2 x (by simpa using hx)
      obtain⟨w',hrun,hch,hG⟩:=hs w hr.bel hr.phi
      unfold Oper.wp
      rw[execOp_congr o' (fun cs b e=>hns cs b e) hrho,hrun]
      simp only[U6,Le,hoi,Option.bind_some]at h
      exact h (hwf.put _ (by intro k hk;simp[AV.ids]at hk)) β _ w' ((hr.mut hL hch (fun w'' k1 k2=>hG w'' k1 fun b hb=>k2 b (.inl hb)) hΦ).put o'.dst (.v undef))
    ·cases hf
    ·cases ho
   ·cases hc
 ·cases hc
end
def Tc(t:TypeId)(p:Addr)(v:Value):Sem Next:=Instr.storeAt t (.pointer (some p)) v >>= fun _=>(pure .skip:Sem Next)
def K5(w:World)(g:Nat)(cs:List Value):Prop:=∃t,w.heap[g]? =some (.cells cs.toArray t (0,0))
theorem K5.range{w:World}{g:Nat}{cs:List Value}(h:K5 w g cs):w.rangeAt g 0 cs:=by
 obtain⟨t,h⟩:=h
 intro j v hv
 simp only[World.cell?,h,Option.isSome_none,Bool.false_eq_true,if_false,Nat.zero_add]
 simpa using hv
theorem K5.store{P:Program}{t:TypeId}{w:World}{g:Nat}{cs:List Value}{v:Value}(h:K5 w g cs)(hn:Nz P t=some cs.length)(hl:v.cells.size=cs.length)(h1:∀u∈v.cells.toList,u.oneCell'=true):
 ∃w',(Tc t ⟨g,0,none⟩ v).run P w= .ok .skip w'∧Chg [g] w w'∧∀w'',w'.heap.size≤w''.heap.size→(∀b∈[g],w''.heap[b]? =w'.heap[b]?)→K5 w'' g v.cells.toList:=by
 obtain⟨ty,h⟩:=h
 have hst:=run_storeCells_at P g 0 ty v.cells.toList 0 cs.toArray w h Zp h1
 have hnew:((cs.toArray.toList.take (0+0)++v.cells.toList++cs.toArray.toList.drop (0+0+v.cells.toList.length)).toArray)=v.cells:=by
  simp[hl]
 rw[hnew]at hst
 refine⟨w.setRow g v.cells,?_,⟨rfl,rfl,rfl,by rw[Pk];exact Nat.le_refl _,fun k _ hk=>Ox _ _ _ _ (by simpa using hk)⟩,fun w'' k1 k2=>⟨ty,?_⟩⟩
 ·simp only[Tc,Instr.storeAt,Instr.sureAddr,storeVar,Sem.run_bind,Sem.run_pure,Result.andThen_ok,Lf hn]
  rw[if_neg (by simpa using hl)]
  simp only[hst,Sem.run_pure,Sem.run_bind,Result.andThen_ok]
 ·rw[k2 g Zs]
  simp only[World.setRow,Array.getElem?_modify,if_true,h,Option.map_some,Array.toArray_toList]
theorem K5.left{w wa:World}{g:Nat}{cs:List Value}{L:List Nat}(h:K5 wa g cs)(e2:∀b,b∉L→wa.heap[b]? =w.heap[b]?)(hg:g∉L):K5 w g cs:=by
 obtain⟨t,h⟩:=h
 exact⟨t,(e2 g hg).symm.trans h⟩
section
variable{w:World}
def boxS(t:TypeId)(v:Value):Sem Next:=Instr.box t v >>= fun v=>pure (.value v)
def Aq(t:TypeId):Sem Next:=Instr.alloc t true (.tuple #[]) >>= fun v=>pure (.value v)
def Ud(g:Nat):Value:=Zq g 0
theorem Vk(w:World)(o:Obj){w'':World}(h1:(w.alloc o).heap.size≤w''.heap.size)(h2:∀b,w.heap.size≤b→b<(w.alloc o).heap.size→w''.heap[b]? =(w.alloc o).heap[b]?):w''.heap[w.heap.size]? =some o∧w.heap.size<w''.heap.size:=by
 have hs:(w.alloc o).heap.size=w.heap.size+1:=by simp
 refine⟨?_,by omega⟩
 rw[h2 w.heap.size (Nat.le_refl _) Zo]
 show(w.heap.push _)[w.heap.size]? =_
 simp
theorem Fi{P:Program}{t:TypeId}{v:Value}{N:Nat}(hN:N≤w.heap.size):Lh P w Ud (fun g u=>K5 u g v.cells.toList∧N≤g∧g<u.heap.size) (boxS t v):=
 ⟨w.heap.size,w.alloc (.cells v.cells t),by simp only[boxS,Instr.box,Sem.run_bind,V9,Result.andThen_ok,Sem.run_pure,Ud],Uz _ _,fun w'' h1 h2=>⟨⟨t,by rw[(Vk w _ h1 h2).1,Array.toArray_toList]⟩,hN,(Vk w _ h1 h2).2⟩⟩
theorem Bn{P:Program}{t:TypeId}{z:Value}{N:Nat}(hz:Yz P t=some z)(hN:N≤w.heap.size):Lh P w Ud (fun g u=>K5 u g z.cells.toList∧N≤g∧g<u.heap.size) (Aq t):=
 ⟨w.heap.size,w.alloc (.cells z.cells t),by simp only[Aq,Instr.alloc,Sem.run_bind,V8 hz,V9,Result.andThen_ok,Sem.run_pure,Ud],Uz _ _,fun w'' h1 h2=>⟨⟨t,by rw[(Vk w _ h1 h2).1,Array.toArray_toList]⟩,hN,(Vk w _ h1 h2).2⟩⟩
end
section
variable{P:Program}{Δ:List Deferred}{W:World}{Q:Exit→Act→World→Prop}{Φ Φ':World→Prop}{c:Nn}
theorem K0.both(b:Bool)(hb:Hq c=some b)(ht:b=true→K0 P Δ W Q Φ (J2 true c))(hf:b=false→K0 P Δ W Q Φ (J2 false c)):K0 P Δ W Q Φ c:=by
 cases b
 ·exact K0.cond false hb (hf rfl)
 ·exact K0.cond true hb (ht rfl)
theorem K0.fork(t:Nat)(b:Bool)(hv:c.st.tmps[t]? =some (.v (.bool b)))(ht:b=true→K0 P Δ W Q Φ (M7 t Zt c))(hf:b=false→K0 P Δ W Q Φ (M7 t Zf c)):K0 P Δ W Q Φ c:=by
 cases b
 ·exact K0.slot t _ _ hv rfl (hf rfl)
 ·exact K0.slot t _ _ hv rfl (ht rfl)
def amUn(c:Nn):Nn:=(Yt c).getD c
theorem K0.un(hc:(Yt c).isSome=true)(h:K0 P Δ W Q Φ (amUn c)):K0 P Δ W Q Φ c:=by
 unfold amUn at h
 cases e:Yt c with
 |none=>rw[e]at hc;cases hc
 |some c'=>rw[e]at h;exact K0.unroll e h
def Jp(k:Nat)(b:Nat→Option (List AV)):Nat→Option (List AV):=fun j=>
 if Nat.beq j k then none else match b j with
  |some cs=>if cs.all AV.isV then some cs else none
  |none=>none
def dropT(b:Nat→Option (List AV))(g:Nat→Value):List AV→Nat→List AV
 | [],_=>[]
 |x::l,t=>(if x.ids.all (fun i=>(b i).isSome)then x else .v (g t))::dropT b g l (t+1)
def amDrop(k:Nat)(g:Nat→Value)(c:Nn):Nn:=⟨c.foc,c.k,⟨dropT (Jp k c.st.box) g c.st.tmps 0,Jp k c.st.box⟩⟩
theorem Hk(b:Nat→Option (List AV))(g:Nat→Value):∀(l:List AV) (t j:Nat),(dropT b g l t)[j]? =(l[j]?).map fun x=>if x.ids.all (fun i=>(b i).isSome)then x else .v (g (t+j))
 | [],t,j=>by simp[dropT]
 |x::l,t,0=>by simp[dropT]
 |x::l,t,j+1=>by
  simp only[dropT,List.getElem?_cons_succ]
  rw[Hk b g l (t+1) j,show t+1+j=t+(j+1) by omega]
theorem Su{k j:Nat}{b:Nat→Option (List AV)}{cs:List AV}(h:Jp k b j=some cs):b j=some cs∧cs.all AV.isV=true:=by
 unfold Jp at h
 split at h
 ·cases h
 ·split at h
  ·rename_i cs' hb
   split at h
   ·rename_i ha
    injection h with h
    subst h
    exact⟨hb,ha⟩
   ·cases h
  ·cases h
def codeFoc(c:Nn):Bool:=match c.foc with| .code _=>true|_=>false
theorem K0.drop(k:Nat)(hf:codeFoc c=true)(h:∀g,K0 P Δ W Q Φ (amDrop k g c)):K0 P Δ W Q Φ c:=by
 obtain⟨foc,kk,σ⟩:=c
 refine⟨?_⟩
 unfold codeFoc at hf
 simp only at hf
 split at hf
 ·rename_i x
  intro hwf β a w hr
  have h0:=(h fun t=>a.tmps.getD t undef).get
  simp only[U6,amDrop]at h0
  refine h0 ?_ β a w ?_
  ·refine⟨fun x hx i hi=> ?_,fun j cs hj x hx i hi=> ?_⟩
   ·obtain⟨t,ht⟩:=List.mem_iff_getElem?.1 hx
    rw[Hk]at ht
    obtain⟨y,hy,e⟩:=Option.map_eq_some_iff.1 ht
    split at e
    ·rename_i hall
     subst e
     exact List.all_eq_true.1 hall i hi
    ·subst e;simp[AV.ids]at hi
   ·have:=List.all_eq_true.1 (Su hj).2 x hx
    cases x<;>first|(simp[AV.ids]at hi;done)|cases this
  ·have hlen:a.tmps.toList.length=σ.tmps.length:=by rw[hr.tmps,List.length_map]
   refine⟨List.ext_getElem? fun j=> ?_,hr.defers,hr.bel,fun k cs hk=>hr.box k cs (Su hk).1,fun i j hi hj e=> ?_,fun w' hw=>hr.keep w' ⟨hw.size,fun b h1 h2 h3=>hw.heap b h1 h2 fun i hi=> ?_⟩⟩
   ·rw[List.getElem?_map,Hk,hr.tmps,List.getElem?_map]
    cases hj:σ.tmps[j]? with
    |none=>rfl
    | some x=>
     simp only[Option.map_some,Nat.zero_add]
     split
     ·rfl
     ·congr 1
      have:=hr.eval (.tmp j)
      simp only[Act.eval,AS.eval,List.getD_eq_getElem?_getD,hj,Option.getD_some]at this
      exact this.symm
   ·obtain⟨c1,e1⟩:=Option.isSome_iff_exists.1 hi
    obtain⟨c2,e2⟩:=Option.isSome_iff_exists.1 hj
    exact hr.inj i j (by rw[(Su e1).1];rfl) (by rw[(Su e2).1];rfl) e
   ·obtain⟨c1,e1⟩:=Option.isSome_iff_exists.1 hi
    exact h3 i (by rw[(Su e1).1];rfl)
 ·cases hf
def deferOf(P:Program)(c:Nn):Option Deferred:=
 match O7 c with
 |some (ops,o)=>match o.op with
  | .defer k=>if Kx ops o c.st&&c.st.plain o.op then pev P (resolve c.st.rho k o.type)else none
  |_=>none
 |none=>none
theorem K0.defer_(d:Deferred)(hf:Qj c=true)(hc:deferOf P c=some d)(h:K0 P (d::Δ) W Q Φ (Le (.v undef) c)):K0 P Δ W Q Φ c:=by
 obtain⟨foc,k,σ⟩:=c
 replace h:=h.get
 refine⟨?_⟩
 unfold deferOf at hc
 split at hc
 ·rename_i ops o ho
  split at hc
  ·rename_i kc hop
   split at hc
   ·rename_i hw
    simp only[Bool.and_eq_true]at hw
    unfold O7 at ho
    simp only at ho
    split at ho
    ·rename_i ops' i l
     cases hoi:ops'[i]? with
     |none=>rw[hoi]at ho;cases ho
     | some o'=>
      rw[hoi]at ho
      simp only[Option.map_some,Option.some.injEq,Prod.mk.injEq]at ho
      obtain⟨rfl,rfl⟩:=ho
      intro hwf β a w hr
      show wpOps P ops' (post P Q k) (i::l) a w
      rw[wpOps_cons]
      unfold wpOp
      simp only[hoi,M4 hr,hw.1,if_true]
      refine .inl ?_
      have hrho:∀x∈o'.op.operands,a.eval x=σ.rho x:=fun x hx=>by
       rw[hr.eval,AV.conc_isV];· rfl
       exact List.all_eq_true.1 hw.2 x (by simpa using hx)
      have hrun:(execOp σ.rho o').run P w= .ok (.defer d) w:=by
       unfold execOp
       simp only[hop,Sem.run_bind,pev_run hc w,Result.andThen_ok,Sem.run_pure]
      unfold Oper.wp
      rw[execOp_congr o' (fun cs b e=>by rw[hop]at e;cases e) hrho,hrun]
      simp only[U6,Le,hoi,Option.bind_some]at h
      have hr':Q4 (d::Δ) W β σ Φ {a with defers:=d::a.defers} w:=⟨hr.tmps,congrArg (d::·) hr.defers,hr.bel,hr.box,hr.inj,hr.keep⟩
      exact h (hwf.put _ (by intro k hk;simp[AV.ids]at hk)) β _ w (hr'.put o'.dst (.v undef))
    ·cases hf
    ·cases ho
   ·cases hc
  ·cases hc
 ·cases hc
end
theorem Kq{P:Program}{t elem:TypeId}{g n c k s:Nat}{w:World}(hu:P.underlying t=some (.slice elem))(hs:Nz P elem=some s)(hk:k<n):
 (Kj t (.slice (some ⟨g,0,none⟩) n c) k).run P w= .ok (.value (Zq g (k*s))) w:=by
 have hb:0≤(k:Int)∧(k:Int)<(n:Int):=by omega
 simp only[Kj,Instr.indexAt,asIntOf,Sem.run_bind,Sem.run_pure,Result.andThen_ok,run_underlying hu,Lf hs,if_pos hb,Int.toNat_natCast,Addr.add_mid,Nat.zero_add]
theorem Mj{P:Program}{t:TypeId}{g off:Nat}{vs:List Value}{w:World}(ht:Rm P t=some true)(hn:Nz P t=some vs.length)(h:w.rangeAt g off vs):
 (L5 t ⟨g,off,none⟩).run P w= .ok (.value (.agg vs.toArray)) w:=by
 have hrun:∀d:TypeDesc,P.underlying t=some d→d.isRow=true→(loadVar t ⟨g,off,none⟩).run P w= .ok (.agg vs.toArray) w:=fun d hd hdr=>
  run_loadVar_mid w g off t vs d h hd hdr hn
 have hl:(loadVar t ⟨g,off,none⟩).run P w= .ok (.agg vs.toArray) w:=by
  unfold Rm at ht
  split at ht
  ·rename_i hd;exact hrun _ hd rfl
  ·rename_i hd;exact hrun _ hd rfl
  ·cases ht
  ·cases ht
 simp only[L5,Sem.run_bind,Instr.loadAt,Instr.sureAddr,Sem.run_pure,Result.andThen_ok,hl]
def RV.cl(r:RV):List Value:=[.bool r.a.s,.slice r.a.A r.a.n r.a.c,.bool r.b.s,.slice r.b.A r.b.n r.b.c]
theorem T7.below{v:SV}{x:Int}{K:Nat}{w w':World}(h:T7 v x K w)(hb:Below w.heap.size w w'):T7 v x K w':=⟨h.1.below hb,h.2.1,h.2.2.1,h.2.2.2.below hb⟩
theorem Nr.below{r:RV}{q:Rat}{K:Nat}{w w':World}(h:Nr r q K w)(hb:Below w.heap.size w w'):Nr r q K w':=⟨h.1.below hb,h.2.below hb⟩
theorem Yc{P:Program}{t elem:TypeId}{ad:Addr}{n c k s:Nat}{w:World}(hu:P.underlying t=some (.slice elem))(hs:Nz P elem=some s)(hk:k<n):
 (Kj t (.slice (some ad) n c) k).run P w= .ok (.value (.pointer (some (ad.add (k*s))))) w:=by
 have hb:0≤(k:Int)∧(k:Int)<(n:Int):=by omega
 simp only[Kj,Instr.indexAt,asIntOf,Sem.run_bind,Sem.run_pure,Result.andThen_ok,run_underlying hu,Lf hs,if_pos hb,Int.toNat_natCast]
theorem F7{P:Program}{t:TypeId}{ad:Addr}{vs:List Value}{w:World}(ht:Rm P t=some true)(hn:Nz P t=some vs.length)(h:∀j v,vs[j]? =some v→w.cell? (ad.add j)=some v):
 (L5 t ad).run P w= .ok (.value (.agg vs.toArray)) w:=by
 have hl:(loadCells ad vs.length).run P w= .ok vs.toArray w:=run_loadCells_list (P:=P) w ad vs h
 have hag:(isAgg t).run P w= .ok true w:=by
  unfold Rm at ht
  split at ht
  ·rename_i hd;unfold isAgg;rw[Sem.run_bind,run_underlying hd w];rfl
  ·rename_i hd;unfold isAgg;rw[Sem.run_bind,run_underlying hd w];rfl
  ·cases ht
  ·cases ht
 simp only[L5,Instr.loadAt,Instr.sureAddr,loadVar,Sem.run_bind,Sem.run_pure,Result.andThen_ok,hag,if_true,Lf hn,hl]
theorem K5.mid{w:World}{g:Nat}{a b:List Value}(h:K5 w g (a++b)):w.rangeAt g a.length b:=by
 obtain⟨t,h⟩:=h
 intro j v hv
 simp only[World.cell?,h,Option.isSome_none,Bool.false_eq_true,if_false]
 rw[List.getElem?_toArray,List.getElem?_append_right Zo,Nat.add_sub_cancel_left]
 exact hv
theorem K5.fst{w:World}{g:Nat}{a b:List Value}(h:K5 w g (a++b)):w.rangeAt g 0 a:=by
 obtain⟨t,h⟩:=h
 intro j v hv
 simp only[World.cell?,h,Option.isSome_none,Bool.false_eq_true,if_false,Nat.zero_add]
 rw[List.getElem?_toArray,List.getElem?_append_left (List.getElem?_eq_some_iff.1 hv).1]
 exact hv
theorem amStart_rep{P:Program}{f:FuncId}{fn:Func}{args:Array Value}{W w:World}{c:Code}{Q:Exit→Act→World→Prop}(hc:fn.body=some c)(hW:Below W.heap.size W w)
 (h:K0 P [] W Q (fun u=>w.heap.size≤u.heap.size∧∀b,W.heap.size≤b→b<w.heap.size→u.heap[b]? =w.heap[b]?) (Tw fn args)):
 c.wp P Q {tmps:=args++Array.replicate (fn.ntmps-args.size) undef,defers:=[]} w:=by
 replace h:=h.get
 simp only[U6,Tw,hc,Option.getD_some]at h
 refine h ?_ (fun _=>0) _ w ?_
 ·refine⟨fun x hx k hk=> ?_,fun j cs hj=>by cases hj⟩
  simp only[List.mem_append,List.mem_map,List.mem_replicate]at hx
  rcases hx with ⟨q,_,rfl⟩|⟨_,rfl⟩<;>simp[AV.ids]at hk
 ·refine⟨?_,rfl,hW,fun k cs hk=>(by cases hk),fun k k' hk=>(by cases hk),fun w' hw=>⟨hw.size,fun b h1 h2=>hw.heap b h1 h2 (fun k hk=>by cases hk)⟩⟩
  simp[Function.comp_def,AV.conc]
theorem K0.enterD{P:Program}{f:FuncId}{fn:Func}{args:Array Value}{W w:World}{R:Ending→World→Prop}
 (hf:P.funcs[f]? =some fn) (hb:fn.body.isSome=true) (hW:Below W.heap.size W w)
 (h:K0 P [] W (bodyPostD P fn R) (fun u=>w.heap.size≤u.heap.size∧∀b,W.heap.size≤b→b<w.heap.size→u.heap[b]? =w.heap[b]?) (Tw fn args)):Calls P f args w R:=by
 obtain⟨c,hc⟩:=Option.isSome_iff_exists.1 hb
 exact calls_of_wp_defers hf hc (amStart_rep (f:=f) hc hW h)
def cellOf(fn:Func)(c:Nn):Option (Nat×TypeId):=
 match c.foc,c.k,fn.results.toList with
 | .out .ret,[],[.cell t ty]=>match c.st.tmps.getD t (.v undef)with
  | .v (.pointer (some ⟨g,0,none⟩))=>some (g,ty)
  |_=>none
 |_,_,_=>none
theorem K0.retD1{P:Program}{W:World}{Φ:World→Prop}{c:Nn}{fn:Func}{R:Ending→World→Prop}{fv:Fn}{cap dargs:Array Value}{f:FuncId}{args:Array Value}(g:Nat)(ty:TypeId)
 (hc:cellOf fn c=some (g,ty)) (hi:∀w,(invoke (.fn fv cap) dargs).run P w= .ok (.enter f args) w)
 (h:∀w,Below W.heap.size W w→Φ w→CallsD P f args .returning w fun e u w'=>u= .returning∧∃x v,e= .returned x∧(loadVar ty ⟨g,0,none⟩).run P w'= .ok v w'∧R (.returned v) w'):
 K0 P [⟨.fn fv cap,dargs⟩] W (bodyPostD P fn R) Φ c:=by
 obtain⟨foc,k,σ⟩:=c
 refine⟨?_⟩
 unfold cellOf at hc
 split at hc
 ·rename_i h1 h2 h3
  split at hc
  ·rename_i hp
   injection hc with hc
   injection hc with e1 e2
   subst e1;subst e2
   simp only at h1 h2 h3 hp
   subst h1;subst h2
   intro hwf β a w hr
   show Leaves P fn a.tmps R a.defers .returning w
   rw[hr.defers]
   refine leaves_cons Zs (hi w) ((h w hr.bel hr.phi).mono fun e u' w' he=> ?_)
   obtain⟨rfl,x,v,rfl,hv,hR⟩:=he
   refine⟨v,?_,hR⟩
   rename_i _ t ty _ g
   have hget:a.tmps.getD t undef=Zq g 0:=by
    have:=hr.eval (.tmp t)
    simp only[Act.eval,AS.eval,hp,AV.conc]at this
    exact this
   rw[Vz,Sem.run_bind,Array.mapM_eq_mapM_toList,Sem.run_map,h3,List.mapM_cons,Sem.run_bind]
   simp only[Bh,hget,asAddr,Sem.run_bind,Sem.run_pure,Result.andThen_ok,hv,List.mapM_nil]
   rfl
  ·cases hc
 ·cases hc
theorem sameB_nn{v z:SV}{x y:Int}{K K':Nat}{w w':World}(hv:T7 v x K w)(hz:T7 z y K' w'):R3 v z=decide (x=y):=by
 rw[E0 hv.i hz,isn_n2 hv,Bool.true_and]
theorem sameQB_nn{a b:RV}{p q:Rat}{K K':Nat}{w w':World}(ha:Nr a p K w)(hb:Nr b q K' w'):Gk a b=decide (p=q):=by
 unfold Gk
 rw[sameB_nn ha.1 hb.1,sameB_nn ha.2 hb.2]
 by_cases e:p=q
 ·subst e;simp
 ·rw[decide_eq_false e]
  by_cases h:p.num=q.num
  ·rw[decide_eq_false (fun(k:(p.den:Int)=q.den)=>e (Rat.ext h Zo))];simp
  ·rw[decide_eq_false h];rfl
section
variable{a b:RV}{p q:Rat}{K K1 K2:Nat}{w:World}
theorem rsame_nn{B:Bool}(ha:Nr a p K w)(hb:Nr b q K1 w)(h:decide (p=q)=B):Zv 201 #[a.val,b.val] w (.bool B):=
 rsame_v (by rw[sameQB_nn ha hb];exact h) ha.1.i ha.2.i hb.1.i hb.2.i
theorem qisn_v{x y:Int}{B:Bool}(hB:isnQ a x y=B)(hx:Pg a.a x K w)(hy:Pg a.b y K w)(hK:2≤K∧K≤68719476736):
 Zv 205 #[a.val] w (.bool B):=by subst hB;exact qisn_m hx hy hK
end
end Go.Proofs.YtoeiphicmcndlaaGreatDoor
