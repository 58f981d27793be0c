/-
 The machine: writes.
-/
import Derived.Test.YtoeiphicmcndlaaGreatDoorProg
import Derived.Test.YtoeiphicmcndlaaGreatDoorAAm
namespace Go.Proofs.YtoeiphicmcndlaaGreatDoor
set_option linter.unusedVariables false
set_option linter.unusedSimpArgs false
open Go.RowKit
section
variable{P:Program}{Δ:List Deferred}{W:World}{Q:Exit→Act→World→Prop}{Φ Φ':World→Prop}{c:Nn}
def Qj(c:Nn):Bool:=match c.foc with| .ops _ _=>true|_=>false
theorem K0.mut{X:Type}{L:List Nat}{val:X→Value}{g:FuncId}{args:Array Value}{G Φ':X→World→Prop}
 (hs:∀w,Below W.heap.size W w→Φ w→Calls P g args w (Nm w L val G)) (hL:Yx W L Φ) (hΦ:∀x,Ej L Φ (G x) (Φ' x))
 (hf:Qj c=true) (hc:Lk P c=some (g,args)) (h:∀x,K0 P Δ W Q (Φ' x) (Le (.v (val x)) c)):K0 P Δ W Q Φ c:=by
 obtain⟨foc,k,σ⟩:=c
 replace h:=fun x=>(h x).get
 refine⟨?_⟩
 unfold Lk at hc
 split at hc
 ·rename_i g' xs hn
  split at hc
  ·rename_i vs hv
   injection hc with hc
   injection hc with h1 h2
   subst h1;subst h2
   unfold Sn at hn
   split at hn
   ·rename_i ops o ho
    split at hn
    ·rename_i hw
     unfold O7 at ho
     simp only at ho
     split at ho
     ·rename_i ops' i l
      cases hoi:ops'[i]? with
      |none=>rw[hoi]at ho;cases ho
      |some o'=>
       rw[hoi]at ho
       simp only[Option.map_some,Option.some.injEq,Prod.mk.injEq]at ho
       obtain⟨rfl,rfl⟩:=ho
       intro hwf β a w hr
       show wpOps P ops' (post P Q k) (i::l) a w
       rw[wpOps_cons]
       unfold wpOp
       simp only[hoi,M4 hr,hw,if_true]
       refine .inl ?_
       unfold Oper.wp
       rw[Vn hn hr,Pf hv]
       refine Calls.mono (hs w hr.bel hr.phi) fun e w' he=> ?_
       obtain⟨x,rfl,hch,hG⟩:=he
       simp only[U6,Le,hoi,Option.bind_some]at h
       exact h x (hwf.put _ (by intro k hk;simp[AV.ids]at hk)) β _ w' ((hr.mut hL hch hG (hΦ x)).put o'.dst (.v (val x)))
     ·cases hf
     ·cases ho
    ·cases hn
   ·cases hn
  ·cases hc
 ·cases hc
theorem K0.mutOp{X:Type}{L:List Nat}{val:X→Value}{G Φ':X→World→Prop}(s:Sem Next)
 (hs:∀w,Below W.heap.size W w→Φ w→Ot P w L val G s) (hL:Yx W L Φ) (hΦ:∀x,Ej L Φ (G x) (Φ' x))
 (hf:Qj c=true) (hc:Uc c=some s) (h:∀x,K0 P Δ W Q (Φ' x) (Le (.v (val x)) c)):K0 P Δ W Q Φ c:=by
 obtain⟨foc,k,σ⟩:=c
 replace h:=fun x=>(h x).get
 refine⟨?_⟩
 replace hc:=(Q3 hc).1
 unfold Sz at hc
 split at hc
 ·rename_i ops o ho
  split at hc
  ·cases hc
  ·cases hc
  ·rename_i hns hnm
   split at hc
   ·rename_i hw
    simp only[Bool.and_eq_true]at hw
    injection hc with hc
    subst hc
    unfold O7 at ho
    simp only at ho
    split at ho
    ·rename_i ops' i l
     cases hoi:ops'[i]? with
     |none=>rw[hoi]at ho;cases ho
     | some o'=>
      rw[hoi]at ho
      simp only[Option.map_some,Option.some.injEq,Prod.mk.injEq]at ho
      obtain⟨rfl,rfl⟩:=ho
      intro hwf β a w hr
      show wpOps P ops' (post P Q k) (i::l) a w
      rw[wpOps_cons]
      unfold wpOp
      simp only[hoi,M4 hr,hw.1,if_true]
      refine .inl ?_
      have hrho:∀x∈o'.op.operands,a.eval x=σ.rho x:=fun x hx=>by
       rw[hr.eval,AV.conc_isV];· rfl
       exact List.all_eq_true.1 hw.2 x (by simpa using hx)
      obtain⟨x,w',hrun,hch,hG⟩:=hs w hr.bel hr.phi
      unfold Oper.wp
      rw[execOp_congr o' (fun cs b e=>hns cs b e) hrho,hrun]
      simp only[U6,Le,hoi,Option.bind_some]at h
      exact h x (hwf.put _ (by intro k hk;simp[AV.ids]at hk)) β _ w' ((hr.mut hL hch hG (hΦ x)).put o'.dst (.v (val x)))
    ·cases hf
    ·cases ho
   ·cases hc
 ·cases hc
theorem lone_of{ops:Array Oper}{o:Oper}(h:(List.range ops.size).all (fun i=>match ops[i]? with
 |some o'=>(o'.dst !=o.dst)||(List.range ops.size).all (fun k=>Nat.beq k i||(Pc ops i ops.size).getD k false||(Pc ops k ops.size).getD i false)
 |none=>true)=true):LoneOp ops o:=by
 intro i hi listed j hcl hri hrj
 have hlt:i<ops.size:=(Array.getElem?_eq_some_iff.1 hi).1
 have h1:=List.all_eq_true.1 h i (List.mem_range.2 hlt)
 simp only[hi,bne_self_eq_false,Bool.false_or]at h1
 obtain⟨hiu,oi,hoi,halli⟩:=mem_ready.1 hri
 obtain⟨hju,oj,hoj,hallj⟩:=mem_ready.1 hrj
 have hltj:j<ops.size:=(Array.getElem?_eq_some_iff.1 hoj).1
 have h2:=List.all_eq_true.1 h1 j (List.mem_range.2 hltj)
 simp only[Bool.or_eq_true,Nat.beq_eq]at h2
 rcases h2 with (h2|h2)|h2
 ·exact h2
 ·obtain⟨om,hom,hn⟩:=Qm hcl hiu _ _ h2
  rw[hoj]at hom;injection hom with hom;subst hom
  exact absurd hallj hn
 ·obtain⟨om,hom,hn⟩:=Qm hcl hju _ _ h2
  rw[hoi]at hom;injection hom with hom;subst hom
  exact absurd halli hn
def loneFoc(c:Nn):Bool:=match c.foc with
 | .any ops (_+1) listed=>match Region.ready .any ops listed with
  | [i]=>match ops[i]? with
   |some o=>(List.range ops.size).all (fun i=>match ops[i]? with
    |some o'=>(o'.dst !=o.dst)||(List.range ops.size).all (fun k=>Nat.beq k i||(Pc ops i ops.size).getD k false||(Pc ops k ops.size).getD i false)
    |none=>true)
   |none=>false
  |_=>false
 |_=>false
theorem K0.mutAny{X:Type}{L:List Nat}{val:X→Value}{G Φ':X→World→Prop}(s:Sem Next)
 (hs:∀w,Below W.heap.size W w→Φ w→Ot P w L val G s) (hL:Yx W L Φ) (hΦ:∀x,Ej L Φ (G x) (Φ' x))
 (hf:loneFoc c=true) (hc:Uc c=some s) (h:∀x,K0 P Δ W Q (Φ' x) (Le (.v (val x)) c)):K0 P Δ W Q Φ c:=by
 obtain⟨foc,k,σ⟩:=c
 replace h:=fun x=>(h x).get
 refine⟨?_⟩
 replace hc:=(Q3 hc).1
 unfold Sz at hc
 split at hc
 ·rename_i ops o ho
  split at hc
  ·cases hc
  ·cases hc
  ·rename_i hns hnm
   split at hc
   ·rename_i hw
    simp only[Bool.and_eq_true]at hw
    injection hc with hc
    subst hc
    unfold O7 at ho
    simp only at ho
    split at ho
    ·cases hf
    ·rename_i ops' fuel listed
     split at ho
     ·rename_i i hrd
      cases hoi:ops'[i]? with
      |none=>rw[hoi]at ho;cases ho
      | some o'=>
       rw[hoi]at ho
       simp only[Option.map_some,Option.some.injEq,Prod.mk.injEq]at ho
       obtain⟨rfl,rfl⟩:=ho
       intro hssa hcl hwf
       refine⟨fun h0=>(by rw[h0]at hrd;cases hrd),fun j hj=> ?_⟩
       rw[hrd]at hj
       obtain rfl:j=i:=by simpa using hj
       obtain⟨_,o2,ho2,hall⟩:=mem_ready.1 (show j∈Region.ready .any ops' listed by rw[hrd];simp)
       obtain rfl:o'=o2:=by rw[hoi]at ho2;injection ho2
       have hlone:LoneOp ops' o':=by
        refine lone_of ?_
        unfold loneFoc at hf
        simp only[hrd,hoi]at hf
        exact hf
       refine⟨o',hoi,.lone hlone fun Δ' β a w Q' i' K' hi' hr hwf' hK=> ?_⟩
       unfold wpOp
       simp only[hi',M4 hr,hw.1,if_true]
       refine .inl ?_
       have hrho:∀x∈o'.op.operands,a.eval x=σ.rho x:=fun x hx=>by
        rw[hr.eval,AV.conc_isV];· rfl
        exact List.all_eq_true.1 hw.2 x (by simpa using hx)
       obtain⟨x,w',hrun,hch,hG⟩:=hs w hr.bel hr.phi
       unfold Oper.wp
       rw[execOp_congr o' (fun cs b e=>hns cs b e) hrho,hrun]
       have hx:=h x
       simp only[U6,Le,hrd,hoi,Option.bind_some,Nat.add_one_sub_one]at hx
       have hwf2:(σ.put o'.dst (.v (val x))).wf:=hwf.put _ (by intro k hk;simp[AV.ids]at hk)
       exact hK _ _ _ _ _ (hx hssa (hcl.set_ hoi hall) hwf2) ((hr.mut hL hch hG (hΦ x)).put o'.dst (.v (val x))) hwf2
     ·cases ho
    ·cases ho
   ·cases hc
 ·cases hc
theorem K7.fresh{X:Type}{w:World}{val:X→Value}{G:X→World→Prop}{e:Ending}{w':World}(h:K7 w val G e w')(L:X→List Nat)
 (hL:∀x w,G x w→∀b∈L x,∃cs ty own,w.heap[b]? =some (.cells cs ty own)):
 K7 w (fun q:X×Nat=>val q.1) (fun q u=>G q.1 u∧(∀b∈L q.1,w.heap.size≤b∧b<q.2)∧q.2≤u.heap.size) e w':=by
 obtain⟨x,rfl,hb,hG⟩:=h
 refine⟨(x,w'.heap.size),rfl,hb,fun w'' h1 h2=>⟨hG w'' h1 h2,fun b hbL=> ?_,h1⟩⟩
 have hlt:b<w'.heap.size:=by
  obtain⟨cs,ty,own,h3⟩:=hL x w' (hG w' (Nat.le_refl _) fun _ _ _=>rfl) b hbL
  exact(Array.getElem?_eq_some_iff.1 h3).1
 refine⟨Nat.le_of_not_lt fun hn=> ?_,hlt⟩
 have h3:=hG {w' with heap:=w'.heap.setIfInBounds b (.pending #[] 0)} Zs fun k k1 k2=>by
  rw[Array.getElem?_setIfInBounds_ne Zo]
 obtain⟨cs,ty,own,h4⟩:=hL x _ h3 b hbL
 rw[Array.getElem?_setIfInBounds_self_of_lt hlt]at h4
 cases h4
theorem Lh.fresh{X:Type}{w:World}{val:X→Value}{G:X→World→Prop}{s:Sem Next}(h:Lh P w val G s)(L:X→List Nat)
 (hL:∀x w,G x w→∀b∈L x,∃cs ty own,w.heap[b]? =some (.cells cs ty own)):
 Lh P w val (fun x u=>G x u∧∀b∈L x,w.heap.size≤b) s:=by
 obtain⟨x,w',hrun,hb,hG⟩:=h
 refine⟨x,w',hrun,hb,fun w'' h1 h2=>⟨hG w'' h1 h2,fun b hbL=> ?_⟩⟩
 have hlt:b<w'.heap.size:=by
  obtain⟨cs,ty,own,h3⟩:=hL x w' (hG w' (Nat.le_refl _) fun _ _ _=>rfl) b hbL
  exact(Array.getElem?_eq_some_iff.1 h3).1
 refine Nat.le_of_not_lt fun hn=> ?_
 have h3:=hG {w' with heap:=w'.heap.setIfInBounds b (.pending #[] 0)} Zs fun k k1 k2=>by
  rw[Array.getElem?_setIfInBounds_ne Zo]
 obtain⟨cs,ty,own,h4⟩:=hL x _ h3 b hbL
 rw[Array.getElem?_setIfInBounds_self_of_lt hlt]at h4
 cases h4
theorem K7.cast{X:Type}{w:World}{val:X→Value}{G G':X→World→Prop}{e:Ending}{w':World}(h:K7 w val G e w')(hG:∀x u,G x u→G' x u):K7 w val G' e w':=by
 obtain⟨x,he,hb,hg⟩:=h
 exact⟨x,he,hb,fun w'' h1 h2=>hG _ _ (hg w'' h1 h2)⟩
end
section
variable{P:Program}{Δ:List Deferred}{W:World}{Q:Exit→Act→World→Prop}{Φ:World→Prop}{c:Nn}
def notAny(c:Nn):Bool:=match c.foc with| .any _ _ _=>false|_=>true
theorem K0.pure_{p:Prop}(hp:∀w,Below W.heap.size W w→Φ w→p)(hf:notAny c=true)(h:p→K0 P Δ W Q Φ c):K0 P Δ W Q Φ c:=by
 by_cases h0:p
 ·exact h h0
 ·obtain⟨foc,k,σ⟩:=c
  refine⟨?_⟩
  unfold U6
  cases foc with
  |code x=>exact fun _ β a w hr=>absurd (hp w hr.bel hr.phi) h0
  |ops o l=>exact fun _ β a w hr=>absurd (hp w hr.bel hr.phi) h0
  |any o f l=>cases hf
  |out e=>exact fun _ β a w hr=>absurd (hp w hr.bel hr.phi) h0
end
section
variable{Δ:List Deferred}{W:World}{Q:Exit→Act→World→Prop}{Φ:World→Prop}{c:Nn}
theorem ZR(h:K0 Tryz.prog Δ W Q Φ (Lw Tryz.prog 1000 1000 c)):K0 Tryz.prog Δ W Q Φ c:=K0.run Zk 1000 _ h
theorem ZS(n:Nat)(h:K0 Tryz.prog Δ W Q Φ (Lw Tryz.prog n 1000 c)):K0 Tryz.prog Δ W Q Φ c:=K0.run Zk 1000 _ h
theorem ZC{X:Type}{g:FuncId}{args:Array Value}{val:X→Value}{G:X→World→Prop}(hs:∀w,Below W.heap.size W w→Φ w→Calls Tryz.prog g args w (K7 w val G))(h:∀x:X,K0 Tryz.prog Δ W Q (fun w=>Φ w∧G x w) (Lw Tryz.prog 1000 1000 (Le (.v (val x)) c)))(hc:Lk Tryz.prog c=some (g,args):=by kernel_rfl):K0 Tryz.prog Δ W Q Φ c:=K0.callv hs hc fun x=>ZR (h x)
theorem ZD{X:Type}{g:FuncId}{args:Array Value}{val:X→Value}{G:X→World→Prop}(n:Nat)(hs:∀w,Below W.heap.size W w→Φ w→Calls Tryz.prog g args w (K7 w val G))(h:∀x:X,K0 Tryz.prog Δ W Q (fun w=>Φ w∧G x w) (Lw Tryz.prog n 1000 (Le (.v (val x)) c)))(hc:Lk Tryz.prog c=some (g,args):=by kernel_rfl):K0 Tryz.prog Δ W Q Φ c:=K0.callv hs hc fun x=>ZS n (h x)
theorem ZI(b:Bool)(h:K0 Tryz.prog Δ W Q Φ (Lw Tryz.prog 1000 1000 (J2 b c)))(hb:Hq c=some b:=by kernel_rfl):K0 Tryz.prog Δ W Q Φ c:=K0.cond b hb (ZR h)
theorem ZJ(b lit:Bool)(e:b=lit)(h:K0 Tryz.prog Δ W Q Φ (Lw Tryz.prog 1000 1000 (J2 lit c)))(hb:Hq c=some b:=by kernel_rfl):K0 Tryz.prog Δ W Q Φ c:=K0.condr b lit hb e (ZR h)
theorem ZT(t:Nat)(v v':Value)(e:v=v')(h:K0 Tryz.prog Δ W Q Φ (Lw Tryz.prog 1000 1000 (M7 t v' c)))(hv:c.st.tmps[t]? =some (.v v):=by kernel_rfl):K0 Tryz.prog Δ W Q Φ c:=K0.slot t v v' hv e (ZR h)
theorem ZA(s:Sem Next)(v:Value)(hs:∀w,Below W.heap.size W w→Φ w→s.run Tryz.prog w= .ok (.value v) w)(h:K0 Tryz.prog Δ W Q Φ (Lw Tryz.prog 1000 1000 (Le (.v v) c)))(hc:Uc c=some s:=by kernel_rfl):K0 Tryz.prog Δ W Q Φ c:=K0.ask s v hc hs (ZR h)
theorem ZB(i:Nat)(s:Sem Next)(v:Value)(hs:∀w,Below W.heap.size W w→Φ w→s.run Tryz.prog w= .ok (.value v) w)(h:K0 Tryz.prog Δ W Q Φ (Lw Tryz.prog 1000 1000 (Ae i v c)))(hc:Go.Proofs.YtoeiphicmcndlaaGreatDoor.askAt i c=some s:=by kernel_rfl):K0 Tryz.prog Δ W Q Φ c:=K0.askAt i s v hc hs (ZR h)
theorem ZV{fn:Func}{R:Ending→World→Prop}(v:Value)(hR:∀w,Below W.heap.size W w→(∀w',w.heap.size≤w'.heap.size→(∀b,W.heap.size≤b→b<w.heap.size→w'.heap[b]? =w.heap[b]?)→Φ w')→R (.returned v) w)(h:resOf Tryz.prog fn c=some v:=by kernel_rfl):K0 Tryz.prog [] W (bodyPost Tryz.prog fn R) Φ c:=K0.ret h hR
theorem ZW{fn:Func}(v:Value)(h:resOf Tryz.prog fn c=some v:=by kernel_rfl):K0 Tryz.prog [] W (bodyPost Tryz.prog fn (K7 W (fun _:Unit=>v) fun _ _=>True)) Φ c:=K0.ret h fun w1 hw _=>⟨(),rfl,hw,fun _ _ _=>trivial⟩
theorem ZX{fn:Func}{v':Value}(v:Value)(e:Ending.returned v= .returned v')(h:resOf Tryz.prog fn c=some v:=by kernel_rfl):K0 Tryz.prog [] W (bodyPost Tryz.prog fn (K7 W (fun _:Unit=>v') fun _ _=>True)) Φ c:=K0.ret h fun w1 hw _=>⟨(),e,hw,fun _ _ _=>trivial⟩
end
abbrev Zv(f:FuncId)(a:Array Value)(w:World)(v:Value):Prop:=Calls Tryz.prog f a w (K7 w (fun _:Unit=>v) fun _ _=>True)
end Go.Proofs.YtoeiphicmcndlaaGreatDoor
