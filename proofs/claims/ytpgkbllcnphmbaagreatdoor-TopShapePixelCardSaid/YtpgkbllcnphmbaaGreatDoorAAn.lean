/-
 A part of the proof.
-/
import Derived.Test.YtpgkbllcnphmbaaGreatDoorProg
import Derived.Test.YtpgkbllcnphmbaaGreatDoorAAm
namespace Go.Proofs.YtpgkbllcnphmbaaGreatDoor
set_option linter.unusedVariables false
set_option linter.unusedSimpArgs false
open Go.RowKit
section
variable{P:Program}{Δ:List Deferred}{W:World}{Q:Exit→Act→World→Prop}{Φ Φ':World→Prop}{c:Md}
def Yd(c:Md):Bool:=match c.foc with| .ops _ _=>true|_=>false
theorem K0.mut [Rnd]{X:Type}{L:List Nat}{val:X→Value}{g:FuncId}{args:Array Value}{G Φ':X→World→Prop}
 (hs:∀w,Below W.heap.size W w→Φ w→Calls P g args w (Ky w L val G)) (hL:Uv W L Φ) (hΦ:∀x,Tt L Φ (G x) (Φ' x))
 (hf:Yd c=true) (hc:P7 P c=some (g,args)) (h:∀x,K0 P Δ W Q (Φ' x) (Lh (.v (val x)) c)):K0 P Δ W Q Φ c:=by
 obtain⟨foc,k,σ⟩:=c
 replace h:=fun x=>(h x).get
 refine⟨?_⟩
 unfold P7 at hc
 split at hc
 ·rename_i g' xs hn
  split at hc
  ·rename_i vs hv
   injection hc with hc
   injection hc with h1 h2
   subst h1;subst h2
   unfold V8 at hn
   split at hn
   ·rename_i ops o ho
    split at hn
    ·rename_i hw
     unfold Na at ho
     simp only at ho
     split at ho
     ·rename_i ops' i l
      cases hoi:ops'[i]? with
      |none=>rw[hoi]at ho;cases ho
      |some o'=>
       rw[hoi]at ho
       simp only[Option.map_some,Option.some.injEq,Prod.mk.injEq]at ho
       obtain⟨rfl,rfl⟩:=ho
       intro hwf β a w hr
       show wpOpsIn Fe 0 P ops' (post P Q k) (i::l) a w
       rw[wpOpsIn_cons]
       unfold wpOpIn
       simp only[hoi,Lv hr,hw,if_true]
       refine Ds (Ak hn hr) ?_
       rw[Q5 hv]
       refine Calls.mono (hs w hr.bel hr.phi) fun e w' he=> ?_
       obtain⟨x,rfl,hch,hG⟩:=he
       simp only[Qp,Lh,hoi,Option.bind_some]at h
       exact h x (hwf.put _ (by intro k hk;simp[AV.ids]at hk)) β _ w' ((hr.mut hL hch hG (hΦ x)).put o'.dst (.v (val x)))
     ·cases hf
     ·cases ho
    ·cases hn
   ·cases hn
  ·cases hc
 ·cases hc
theorem K0.mutOp [Rnd]{X:Type}{L:List Nat}{val:X→Value}{G Φ':X→World→Prop}(s:Sem Next)
 (hs:∀w,Below W.heap.size W w→Φ w→Nf P w L val G s) (hL:Uv W L Φ) (hΦ:∀x,Tt L Φ (G x) (Φ' x))
 (hf:Yd c=true) (hc:Q1 c=some s) (h:∀x,K0 P Δ W Q (Φ' x) (Lh (.v (val x)) c)):K0 P Δ W Q Φ c:=by
 obtain⟨foc,k,σ⟩:=c
 replace h:=fun x=>(h x).get
 refine⟨?_⟩
 replace hc:=(O1 hc).1
 unfold Pu at hc
 split at hc
 ·rename_i ops o ho
  split at hc
  ·cases hc
  ·cases hc
  ·rename_i hns hnm
   split at hc
   ·rename_i hw
    simp only[Bool.and_eq_true]at hw
    injection hc with hc
    subst hc
    unfold Na at ho
    simp only at ho
    split at ho
    ·rename_i ops' i l
     cases hoi:ops'[i]? with
     |none=>rw[hoi]at ho;cases ho
     | some o'=>
      rw[hoi]at ho
      simp only[Option.map_some,Option.some.injEq,Prod.mk.injEq]at ho
      obtain⟨rfl,rfl⟩:=ho
      intro hwf β a w hr
      show wpOpsIn Fe 0 P ops' (post P Q k) (i::l) a w
      rw[wpOpsIn_cons]
      unfold wpOpIn
      simp only[hoi,Lv hr,hw.1,if_true]
      have hrho:∀x∈o'.op.operands,a.eval x=σ.rho x:=fun x hx=>by
       rw[hr.eval,AV.conc_isV];· rfl
       exact List.all_eq_true.1 hw.2 x (by simpa using hx)
      obtain⟨x,w',hrun,hch,hG⟩:=hs w hr.bel hr.phi
      refine Y8 ((congrArg (fun s=>s.run P w) (execOp_congr o' (fun cs b e=>hns cs b e) hrho)).trans hrun) Zs ?_
      simp only[Qp,Lh,hoi,Option.bind_some]at h
      exact h x (hwf.put _ (by intro k hk;simp[AV.ids]at hk)) β _ w' ((hr.mut hL hch hG (hΦ x)).put o'.dst (.v (val x)))
    ·cases hf
    ·cases ho
   ·cases hc
 ·cases hc
def loneFoc(c:Md):Bool:=match c.foc with
 | .any ops (_+1) listed=>match Region.ready .any ops listed with
  | [i]=>match ops[i]? with
   |some o=>(List.range ops.size).all (fun i=>match ops[i]? with
    |some o'=>(o'.dst !=o.dst)||(List.range ops.size).all (fun k=>Nat.beq k i||(Ou ops i ops.size).getD k false||(Ou ops k ops.size).getD i false)
    |none=>true)
   |none=>false
  |_=>false
 |_=>false
theorem K3.fresh{X:Type}{w:World}{val:X→Value}{G:X→World→Prop}{e:Ending}{w':World}(h:K3 w val G e w')(L:X→List Nat)
 (hL:∀x w,G x w→∀b∈L x,∃cs ty own,w.heap[b]? =some (.cells cs ty own)):
 K3 w (fun q:X×Nat=>val q.1) (fun q u=>G q.1 u∧(∀b∈L q.1,w.heap.size≤b∧b<q.2)∧q.2≤u.heap.size) e w':=by
 obtain⟨x,rfl,hb,hG⟩:=h
 refine⟨(x,w'.heap.size),rfl,hb,fun w'' h1 h2=>⟨hG w'' h1 h2,fun b hbL=> ?_,h1⟩⟩
 have hlt:b<w'.heap.size:=by
  obtain⟨cs,ty,own,h3⟩:=hL x w' (hG w' (Nat.le_refl _) fun _ _ _=>rfl) b hbL
  exact(Array.getElem?_eq_some_iff.1 h3).1
 refine⟨Nat.le_of_not_lt fun hn=> ?_,hlt⟩
 have h3:=hG {w' with heap:=w'.heap.setIfInBounds b (.pending #[] 0)} Zs fun k k1 k2=>by
  rw[Array.getElem?_setIfInBounds_ne Zo]
 obtain⟨cs,ty,own,h4⟩:=hL x _ h3 b hbL
 rw[Array.getElem?_setIfInBounds_self_of_lt hlt]at h4
 cases h4
theorem Lp.fresh{X:Type}{w:World}{val:X→Value}{G:X→World→Prop}{s:Sem Next}(h:Lp P w val G s)(L:X→List Nat)
 (hL:∀x w,G x w→∀b∈L x,∃cs ty own,w.heap[b]? =some (.cells cs ty own)):
 Lp P w val (fun x u=>G x u∧∀b∈L x,w.heap.size≤b) s:=by
 obtain⟨x,w',hrun,hb,hG⟩:=h
 refine⟨x,w',hrun,hb,fun w'' h1 h2=>⟨hG w'' h1 h2,fun b hbL=> ?_⟩⟩
 have hlt:b<w'.heap.size:=by
  obtain⟨cs,ty,own,h3⟩:=hL x w' (hG w' (Nat.le_refl _) fun _ _ _=>rfl) b hbL
  exact(Array.getElem?_eq_some_iff.1 h3).1
 refine Nat.le_of_not_lt fun hn=> ?_
 have h3:=hG {w' with heap:=w'.heap.setIfInBounds b (.pending #[] 0)} Zs fun k k1 k2=>by
  rw[Array.getElem?_setIfInBounds_ne Zo]
 obtain⟨cs,ty,own,h4⟩:=hL x _ h3 b hbL
 rw[Array.getElem?_setIfInBounds_self_of_lt hlt]at h4
 cases h4
theorem K3.cast{X:Type}{w:World}{val:X→Value}{G G':X→World→Prop}{e:Ending}{w':World}(h:K3 w val G e w')(hG:∀x u,G x u→G' x u):K3 w val G' e w':=by
 obtain⟨x,he,hb,hg⟩:=h
 exact⟨x,he,hb,fun w'' h1 h2=>hG _ _ (hg w'' h1 h2)⟩
end
section
variable{P:Program}{Δ:List Deferred}{W:World}{Q:Exit→Act→World→Prop}{Φ:World→Prop}{c:Md}
def J7(c:Md):Bool:=match c.foc with| .any _ _ _=>false|_=>true
theorem K0.pure_ [Rnd]{p:Prop}(hp:∀w,Below W.heap.size W w→Φ w→p)(hf:J7 c=true)(h:p→K0 P Δ W Q Φ c):K0 P Δ W Q Φ c:=by
 by_cases h0:p
 ·exact h h0
 ·obtain⟨foc,k,σ⟩:=c
  refine⟨?_⟩
  unfold Qp
  cases foc with
  |code x=>exact fun _ β a w hr=>absurd (hp w hr.bel hr.phi) h0
  |ops o l=>exact fun _ β a w hr=>absurd (hp w hr.bel hr.phi) h0
  |any o f l=>cases hf
  |out e=>exact fun _ β a w hr=>absurd (hp w hr.bel hr.phi) h0
end
theorem Om(w:World)(o:Obj):Below w.heap.size w (w.alloc o):=(Below.refl _ _).alloc (Nat.le_refl _) _
def Rm(t:TypeId)(p:Addr)(v:Value):Sem Next:=Instr.storeAt t (.pointer (some p)) v >>= fun _=>(pure .skip:Sem Next)
def K8(w:World)(g:Nat)(cs:List Value):Prop:=∃t,w.heap[g]? =some (.cells cs.toArray t (0,0))
theorem K8.range{w:World}{g:Nat}{cs:List Value}(h:K8 w g cs):w.rangeAt g 0 cs:=by
 obtain⟨t,h⟩:=h
 intro j v hv
 simp only[World.cell?,h,Option.isSome_none,Bool.false_eq_true,if_false,Nat.zero_add]
 simpa using hv
theorem K8.left{w wa:World}{g:Nat}{cs:List Value}{L:List Nat}(h:K8 wa g cs)(e2:∀b,b∉L→wa.heap[b]? =w.heap[b]?)(hg:g∉L):K8 w g cs:=by
 obtain⟨t,h⟩:=h
 exact⟨t,(e2 g hg).symm.trans h⟩
section
variable{w:World}
def Ad(t:TypeId)(v:Value):Sem Next:=Instr.box t v >>= fun v=>pure (.value v)
def C1(t:TypeId):Sem Next:=Instr.alloc t true (.tuple #[]) >>= fun v=>pure (.value v)
def Ku(g:Nat):Value:= .pointer (some ⟨g,0,none⟩)
theorem P6(w:World)(o:Obj){w'':World}(h1:(w.alloc o).heap.size≤w''.heap.size)(h2:∀b,w.heap.size≤b→b<(w.alloc o).heap.size→w''.heap[b]? =(w.alloc o).heap[b]?):w''.heap[w.heap.size]? =some o∧w.heap.size<w''.heap.size:=by
 have hs:(w.alloc o).heap.size=w.heap.size+1:=by simp
 refine⟨?_,by omega⟩
 rw[h2 w.heap.size (Nat.le_refl _) Zo]
 show(w.heap.push _)[w.heap.size]? =_
 simp
theorem make_box{P:Program}{t:TypeId}{v:Value}{N:Nat}(hN:N≤w.heap.size):Lp P w Ku (fun g u=>K8 u g v.cells.toList∧N≤g∧g<u.heap.size) (Ad t v):=
 ⟨w.heap.size,w.alloc (.cells v.cells t),by simp only[Ad,Instr.box,Sem.run_bind,Qs,Result.andThen_ok,Sem.run_pure,Ku],Om _ _,fun w'' h1 h2=>⟨⟨t,by rw[(P6 w _ h1 h2).1,Array.toArray_toList]⟩,hN,(P6 w _ h1 h2).2⟩⟩
theorem make_all{P:Program}{t:TypeId}{z:Value}{N:Nat}(hz:Tv P t=some z)(hN:N≤w.heap.size):Lp P w Ku (fun g u=>K8 u g z.cells.toList∧N≤g∧g<u.heap.size) (C1 t):=
 ⟨w.heap.size,w.alloc (.cells z.cells t),by simp only[C1,Instr.alloc,Sem.run_bind,Qr hz,Qs,Result.andThen_ok,Sem.run_pure,Ku],Om _ _,fun w'' h1 h2=>⟨⟨t,by rw[(P6 w _ h1 h2).1,Array.toArray_toList]⟩,hN,(P6 w _ h1 h2).2⟩⟩
end
section
variable{Δ:List Deferred}{W:World}{Q:Exit→Act→World→Prop}{Φ:World→Prop}{c:Md}
theorem ZR [Rnd](h:K0 Tryz.prog Δ W Q Φ (Lx Tryz.prog 1000 1000 c)):K0 Tryz.prog Δ W Q Φ c:=K0.run Zk 1000 _ h
theorem ZS [Rnd](n:Nat)(h:K0 Tryz.prog Δ W Q Φ (Lx Tryz.prog n 1000 c)):K0 Tryz.prog Δ W Q Φ c:=K0.run Zk 1000 _ h
theorem ZC [Rnd]{X:Type}{g:FuncId}{args:Array Value}{val:X→Value}{G:X→World→Prop}(hs:∀w,Below W.heap.size W w→Φ w→Calls Tryz.prog g args w (K3 w val G))(h:∀x:X,K0 Tryz.prog Δ W Q (fun w=>Φ w∧G x w) (Lx Tryz.prog 1000 1000 (Lh (.v (val x)) c)))(hc:P7 Tryz.prog c=some (g,args):=by kernel_rfl):K0 Tryz.prog Δ W Q Φ c:=K0.callv hs hc fun x=>ZR (h x)
theorem ZD [Rnd]{X:Type}{g:FuncId}{args:Array Value}{val:X→Value}{G:X→World→Prop}(n:Nat)(hs:∀w,Below W.heap.size W w→Φ w→Calls Tryz.prog g args w (K3 w val G))(h:∀x:X,K0 Tryz.prog Δ W Q (fun w=>Φ w∧G x w) (Lx Tryz.prog n 1000 (Lh (.v (val x)) c)))(hc:P7 Tryz.prog c=some (g,args):=by kernel_rfl):K0 Tryz.prog Δ W Q Φ c:=K0.callv hs hc fun x=>ZS n (h x)
theorem ZI [Rnd](b:Bool)(h:K0 Tryz.prog Δ W Q Φ (Lx Tryz.prog 1000 1000 (Ag b c)))(hb:Bv c=some b:=by kernel_rfl):K0 Tryz.prog Δ W Q Φ c:=K0.cond b hb (ZR h)
theorem ZJ [Rnd](b lit:Bool)(e:b=lit)(h:K0 Tryz.prog Δ W Q Φ (Lx Tryz.prog 1000 1000 (Ag lit c)))(hb:Bv c=some b:=by kernel_rfl):K0 Tryz.prog Δ W Q Φ c:=K0.condr b lit hb e (ZR h)
theorem ZT [Rnd](t:Nat)(v v':Value)(e:v=v')(h:K0 Tryz.prog Δ W Q Φ (Lx Tryz.prog 1000 1000 (Kw t v' c)))(hv:c.st.tmps[t]? =some (.v v):=by kernel_rfl):K0 Tryz.prog Δ W Q Φ c:=K0.slot t v v' hv e (ZR h)
theorem ZA [Rnd](s:Sem Next)(v:Value)(hs:∀w,Below W.heap.size W w→Φ w→s.run Tryz.prog w= .ok (.value v) w)(h:K0 Tryz.prog Δ W Q Φ (Lx Tryz.prog 1000 1000 (Lh (.v v) c)))(hc:Q1 c=some s:=by kernel_rfl):K0 Tryz.prog Δ W Q Φ c:=K0.ask s v hc hs (ZR h)
theorem ZB [Rnd](i:Nat)(s:Sem Next)(v:Value)(hs:∀w,Below W.heap.size W w→Φ w→s.run Tryz.prog w= .ok (.value v) w)(h:K0 Tryz.prog Δ W Q Φ (Lx Tryz.prog 1000 1000 (Y6 i v c)))(hc:Go.Proofs.YtpgkbllcnphmbaaGreatDoor.askAt i c=some s:=by kernel_rfl):K0 Tryz.prog Δ W Q Φ c:=K0.askAt i s v hc hs (ZR h)
theorem ZV [Rnd]{fn:Func}{R:Ending→World→Prop}(v:Value)(hR:∀w,Below W.heap.size W w→(∀w',w.heap.size≤w'.heap.size→(∀b,W.heap.size≤b→b<w.heap.size→w'.heap[b]? =w.heap[b]?)→Φ w')→R (.returned v) w)(h:E9 Tryz.prog fn c=some v:=by kernel_rfl):K0 Tryz.prog [] W (bodyPost Tryz.prog fn R) Φ c:=K0.ret h hR
theorem ZW [Rnd]{fn:Func}(v:Value)(h:E9 Tryz.prog fn c=some v:=by kernel_rfl):K0 Tryz.prog [] W (bodyPost Tryz.prog fn (K3 W (fun _:Unit=>v) fun _ _=>True)) Φ c:=K0.ret h fun w1 hw _=>⟨(),rfl,hw,fun _ _ _=>trivial⟩
theorem ZX [Rnd]{fn:Func}{v':Value}(v:Value)(e:Ending.returned v= .returned v')(h:E9 Tryz.prog fn c=some v:=by kernel_rfl):K0 Tryz.prog [] W (bodyPost Tryz.prog fn (K3 W (fun _:Unit=>v') fun _ _=>True)) Φ c:=K0.ret h fun w1 hw _=>⟨(),e,hw,fun _ _ _=>trivial⟩
end
end Go.Proofs.YtpgkbllcnphmbaaGreatDoor
