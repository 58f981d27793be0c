/-
 A part of the proof.
-/
import Derived.Test.YtpgkbllcnphmbaaGreatDoorBBu
import Derived.Test.YtpgkbllcnphmbaaGreatDoorBOh
import Derived.Test.YtpgkbllcnphmbaaGreatDoorBSf
import Derived.Test.YtpgkbllcnphmbaaGreatDoorBSn
namespace Go.Proofs.YtpgkbllcnphmbaaGreatDoor
set_option maxRecDepth 100000
set_option maxHeartbeats 8000000
set_option linter.unusedVariables false
set_option linter.unusedSimpArgs false
open Go.RowKit
section
variable{P:Program}{Δ:List Deferred}{W:World}{Q:Exit→Act→World→Prop}{Φ:World→Prop}{c:Md}
structure Rf [Rnd](P:Program)(Δ:List Deferred)(W:World)(Q:Exit→Act→World→Prop)(Φ:World→Prop)(c:Md):Prop where
 get:match c.foc with
  | .any ops fuel listed=>c.st.wf→∀β a w,O7 Δ W β c.st Φ a w→wpAnyIn Fe 0 P .any ops (post P Q c.k) fuel listed a w
  |_=>False
structure Um [Rnd](P:Program)(Δ:List Deferred)(W:World)(Q:Exit→Act→World→Prop)(i:Nat)(Φ:World→Prop)(c:Md):Prop where
 get:match c.foc with
  | .any ops (fuel+1) listed=>c.st.wf→∀β a w,O7 Δ W β c.st Φ a w→wpOpIn Fe 0 P ops (post P Q c.k) i (wpAnyIn Fe 0 P .any ops (post P Q c.k) fuel (listed.setIfInBounds i true)) a w
  |_=>False
def inAny(c:Md):Bool:=match c.foc with
 | .code (.region _ _ true)=>true
 |_=>false
def amAny(c:Md):Md:=match c.foc with
 | .code (.region _ ops true)=>⟨.any ops ops.size (Array.replicate ops.size false),c.k,c.st⟩
 |_=>c
theorem K0.orders [Rnd](hm:P.follows .mixedOrders=true)(hc:inAny c=true)(h:Rf P Δ W Q Φ (amAny c)):K0 P Δ W Q Φ c:=by
 obtain⟨foc,k,σ⟩:=c
 replace h:=h.get
 refine⟨?_⟩
 unfold inAny at hc
 unfold amAny at h
 simp only at hc h
 split at hc
 ·rename_i n ops
  intro hwf β a w hr
  exact wpIn_region_any hm (h hwf β a _ hr.drew)
 ·cases hc
def Ix(c:Md):Option (List Nat):=match c.foc with
 | .any ops (_+1) listed=>some (Region.ready .any ops listed)
 |_=>none
theorem Rf.each [Rnd](l:List Nat)(hl:Ix c=some l)(hne:l≠[])(h:∀i∈l,Um P Δ W Q i Φ c):Rf P Δ W Q Φ c:=by
 obtain⟨foc,k,σ⟩:=c
 refine⟨?_⟩
 unfold Ix at hl
 simp only at hl
 split at hl
 ·rename_i ops fuel listed
  injection hl with hl
  intro hwf β a w hr
  refine⟨fun h0=>absurd (hl.symm.trans h0) hne,fun i hi=>(h i (by rw[←hl];exact hi)).get hwf β a w hr⟩
 ·cases hl
theorem Rf.one [Rnd](i:Nat)(hl:Ix c=some [i])(h:Um P Δ W Q i Φ c):Rf P Δ W Q Φ c:=
 .each [i] hl Zs fun j hj=>by obtain rfl:=List.mem_singleton.1 hj;exact h
theorem Rf.two [Rnd](i j:Nat)(hl:Ix c=some [i,j])(h:Um P Δ W Q i Φ c)(h2:Um P Δ W Q j Φ c):Rf P Δ W Q Φ c:=
 .each [i,j] hl Zs fun x hx=>by
  rcases List.mem_cons.1 hx with rfl|hx
  ·exact h
  ·obtain rfl:=List.mem_singleton.1 hx;exact h2
def doneO(c:Md):Bool:=match c.foc with
 | .any ops _ listed=>match Region.ready .any ops listed with
  | []=>true
  |_=>false
 |_=>false
theorem Rf.done [Rnd](hl:doneO c=true)(h:K0 P Δ W Q Φ ⟨.out .normal,c.k,c.st⟩):Rf P Δ W Q Φ c:=by
 obtain⟨foc,k,σ⟩:=c
 replace h:=h.get
 refine⟨?_⟩
 unfold doneO at hl
 simp only at hl
 split at hl
 ·rename_i ops fuel listed
  split at hl
  ·rename_i h0
   intro hwf β a w hr
   cases fuel with
   |zero=>exact⟨h0,h hwf β a w hr⟩
   |succ n=>exact⟨fun _=>h hwf β a w hr,fun i hi=>by rw[h0]at hi;cases hi⟩
  ·cases hl
 ·cases hl
def detO(P:Program)(i:Nat)(c:Md):Option Md:=match c.foc with
 | .any ops (fuel+1) listed=>match ops[i]? with
  |some o=>match T5 P ops o c.st with
   |some e=>some ⟨.any ops fuel (listed.setIfInBounds i true),c.k,c.st.app o.dst e⟩
   |none=>none
  |none=>none
 |_=>none
def amDet(P:Program)(i:Nat)(c:Md):Md:=(detO P i c).getD c
theorem Um.det [Rnd]{i:Nat}(hc:(detO P i c).isSome=true)(h:Rf P Δ W Q Φ (amDet P i c)):Um P Δ W Q i Φ c:=by
 obtain⟨foc,k,σ⟩:=c
 replace h:=h.get
 refine⟨?_⟩
 unfold amDet at h
 unfold detO at hc h
 simp only at hc h
 split at hc
 ·rename_i ops fuel listed
  split at hc
  ·rename_i o ho
   split at hc
   ·rename_i e he
    simp only[ho,he,Option.getD_some]at h
    intro hwf β a w hr
    exact Yq (Z:=fun _ _=>False) (KA:=fun σ' Φ'=>σ'=σ.app o.dst e∧Φ'=Φ) (.det e he ⟨rfl,rfl⟩) ho hr hwf (fun _ _ _ _ _ _ hz=>hz.elim) fun β' σ' Φ' a' w' hk hr' hwf'=>by
     obtain⟨rfl,rfl⟩:=hk
     exact h hwf' β' a' w' hr'
   ·cases hc
  ·cases hc
 ·cases hc
def callO(P:Program)(i:Nat)(c:Md):Option (FuncId×Array Value):=match c.foc with
 | .any ops (_+1) _=>match ops[i]? with
  | some o=>if Kp ops o c.st then(match S6 P o c.st with
   |some (g,xs)=>match Ah xs with
    |some vs=>some (g,vs.toArray)
    |none=>none
   |none=>none)else none
  |none=>none
 |_=>none
theorem Um.call [Rnd]{X:Type}{i:Nat}{g:FuncId}{args:Array Value}{val:X→Value}{G:X→World→Prop}
 (hs:∀w,Below W.heap.size W w→Φ w→Calls P g args w (K3 w val G)) (hc:callO P i c=some (g,args))
 (h:∀x:X,Rf P Δ W Q (fun w=>Φ w∧G x w) (Y6 i (val x) c)):Um P Δ W Q i Φ c:=by
 obtain⟨foc,k,σ⟩:=c
 replace h:=fun x=>(h x).get
 refine⟨?_⟩
 unfold callO at hc
 simp only at hc
 split at hc
 ·rename_i ops fuel listed
  split at hc
  ·rename_i o ho
   split at hc
   ·rename_i hw
    split at hc
    ·rename_i g' xs hn
     split at hc
     ·rename_i vs hv
      injection hc with hc
      injection hc with h1 h2
      subst h1;subst h2
      intro hwf β a w hr
      refine Yq (Z:=fun _ _=>False) (KA:=fun σ' Φ'=>∃x,σ'=σ.put o.dst (.v (val x))∧Φ'=fun w=>Φ w∧G x w) (.call g' xs val G hw hn (fun β w hb hΦ _=>by rw[Q5 hv];exact hs w hb hΦ) fun x=>⟨x,rfl,rfl⟩) ho hr hwf (fun _ _ _ _ _ _ hz=>hz.elim) fun β' σ' Φ' a' w' hk hr' hwf'=> ?_
      obtain⟨x,rfl,rfl⟩:=hk
      have:=h x
      simp only[Y6,ho,Option.bind_some,Nat.add_one_sub_one]at this
      exact this hwf' β' a' w' hr'
     ·cases hc
    ·cases hc
   ·cases hc
  ·cases hc
 ·cases hc
def semO(i:Nat)(c:Md):Option (Sem Next):=match c.foc with
 | .any ops (_+1) _=>match ops[i]? with
  |some o=>match o.op with
   | .select _ _=>none
   |_=>if Kp ops o c.st&&c.st.plain o.op then some (execOp c.st.rho o)else none
  |none=>none
 |_=>none
theorem Um.ask [Rnd]{i:Nat}(s:Sem Next)(v:Value)(hc:semO i c=some s)(hs:∀w,Below W.heap.size W w→Φ w→s.run P w= .ok (.value v) w)(h:Rf P Δ W Q Φ (Y6 i v c)):Um P Δ W Q i Φ c:=by
 obtain⟨foc,k,σ⟩:=c
 replace h:=h.get
 refine⟨?_⟩
 unfold semO at hc
 simp only at hc
 split at hc
 ·rename_i ops fuel listed
  split at hc
  ·rename_i o ho
   split at hc
   ·cases hc
   ·rename_i hns
    split at hc
    ·rename_i hw
     simp only[Bool.and_eq_true]at hw
     injection hc with hc
     subst hc
     intro hwf β a w hr
     have hrho:∀x∈o.op.operands,a.eval x=σ.rho x:=fun x hx=>by
      rw[hr.eval,AV.conc_isV];· rfl
      exact List.all_eq_true.1 hw.2 x (by simpa using hx)
     unfold wpOpIn
     simp only[ho,Lv hr,hw.1,if_true]
     refine Y8 ((congrArg (fun s=>s.run P w) (execOp_congr o (fun cs b e=>hns cs b e) hrho)).trans (hs w hr.bel hr.phi)) Zs ?_
     simp only[Y6,ho,Option.bind_some,Nat.add_one_sub_one]at h
     exact h (hwf.put _ (by intro k hk;simp[AV.ids]at hk)) β _ _ (hr.put o.dst (.v v))
    ·cases hc
  ·cases hc
 ·cases hc
theorem Um.store [Rnd]{i:Nat}{L:List Nat}{G Φ':World→Prop}(s:Sem Next)(hc:semO i c=some s)
 (hs:∀w,Below W.heap.size W w→Φ w→∃w',s.run P w= .ok .skip w'∧Ga L w w'∧∀w'',w'.heap.size≤w''.heap.size→(∀b∈L,w''.heap[b]? =w'.heap[b]?)→G w'') (hL:Uv W L Φ) (hΦ:Tt L Φ G Φ')
 (h:Rf P Δ W Q Φ' (Y6 i undef c)):Um P Δ W Q i Φ c:=by
 obtain⟨foc,k,σ⟩:=c
 replace h:=h.get
 refine⟨?_⟩
 unfold semO at hc
 simp only at hc
 split at hc
 ·rename_i ops fuel listed
  split at hc
  ·rename_i o ho
   split at hc
   ·cases hc
   ·rename_i hns
    split at hc
    ·rename_i hw
     simp only[Bool.and_eq_true]at hw
     injection hc with hc
     subst hc
     intro hwf β a w hr
     have hrho:∀x∈o.op.operands,a.eval x=σ.rho x:=fun x hx=>by
      rw[hr.eval,AV.conc_isV];· rfl
      exact List.all_eq_true.1 hw.2 x (by simpa using hx)
     unfold wpOpIn
     simp only[ho,Lv hr,hw.1,if_true]
     obtain⟨w',hrun,hch,hG⟩:=hs w hr.bel hr.phi
     refine Y8 ((congrArg (fun s=>s.run P w) (execOp_congr o (fun cs b e=>hns cs b e) hrho)).trans hrun) Zs ?_
     simp only[Y6,ho,Option.bind_some,Nat.add_one_sub_one]at h
     exact h (hwf.put _ (by intro k hk;simp[AV.ids]at hk)) β _ _ ((hr.mut hL hch (fun w'' a1 a2=>hG w'' a1 fun b hb=>a2 b (.inl hb)) hΦ).put o.dst (.v undef))
    ·cases hc
  ·cases hc
 ·cases hc
theorem Rf.meet3 [Rnd]{ι:Type}(f:ι→Md→Md)(Ψ:ι→World→Prop)(h:(∀i,K0 P Δ W Q (Ψ i) (f i c))→Rf P Δ W Q Φ c)(k:∀i,K0 P Δ W Q (Ψ i) (f i c)):Rf P Δ W Q Φ c:=h k
end
def cells2(fn:Func)(σ:AS):Option ((Nat×TypeId)×(Nat×TypeId)):=
 match fn.results.toList with
 | [.cell t ty,.cell t2 ty2]=>match σ.tmps.getD t (.v undef),σ.tmps.getD t2 (.v undef)with
  | .v (.pointer (some ⟨g,0,none⟩)),.v (.pointer (some ⟨g2,0,none⟩))=>some ((g,ty),(g2,ty2))
  |_,_=>none
 |_=>none
theorem cells2_ok{P:Program}{Δ:List Deferred}{W:World}{Φ:World→Prop}{fn:Func}{σ:AS}{β:Nat→Nat}{a:Act}{w w':World}{g g2:Nat}{ty ty2:TypeId}{v v2:Value}(hc:cells2 fn σ=some ((g,ty),(g2,ty2)))(hr:O7 Δ W β σ Φ a w)
 (h1:(loadVar ty ⟨g,0,none⟩).run P w'= .ok v w') (h2:(loadVar ty2 ⟨g2,0,none⟩).run P w'= .ok v2 w'):(results fn a.tmps).run P w'= .ok (.tuple #[v,v2]) w':=by
 unfold cells2 at hc
 split at hc
 ·rename_i t ty' t2 ty2' hres
  split at hc
  ·rename_i gg gg2 e1 e2
   simp only[Option.some.injEq,Prod.mk.injEq]at hc
   obtain⟨⟨rfl,rfl⟩,rfl,rfl⟩:=hc
   have hg1:a.tmps.getD t undef= .pointer (some ⟨gg,0,none⟩):=by
    have:=hr.eval (.tmp t)
    simp only[Act.eval,AS.eval,e1,AV.conc]at this
    exact this
   have hg2:a.tmps.getD t2 undef= .pointer (some ⟨gg2,0,none⟩):=by
    have:=hr.eval (.tmp t2)
    simp only[Act.eval,AS.eval,e2,AV.conc]at this
    exact this
   rw[C8,Sem.run_bind,Array.mapM_eq_mapM_toList,Sem.run_map,hres,List.mapM_cons,Sem.run_bind]
   simp only[B5,hg1,hg2,asAddr,Sem.run_bind,Sem.run_pure,Result.andThen_ok,h1,h2,List.mapM_nil,List.mapM_cons]
   rfl
  ·cases hc
 ·cases hc
section
variable{P:Program}{W:World}{Φ:World→Prop}{c:Md}{fn:Func}{R:Ending→World→Prop}{fv:Fn}{cap dargs:Array Value}{f:FuncId}{args:Array Value}
def retFoc(c:Md):Bool:=match c.foc,c.k with| .out .ret,[]=>true|_,_=>false
theorem K0.retD2(g g2:Nat)(ty ty2:TypeId)(hf:retFoc c=true)(hc:cells2 fn c.st=some ((g,ty),(g2,ty2)))(hi:∀w,(invoke (.fn fv cap) dargs).run P w= .ok (.enter f args) w)
 (h:∀w,Below W.heap.size W w→Φ w→CallsD P f args .returning w fun e u w'=>u= .returning∧∃x v v2,e= .returned x∧(loadVar ty ⟨g,0,none⟩).run P w'= .ok v w'∧(loadVar ty2 ⟨g2,0,none⟩).run P w'= .ok v2 w'∧R (.returned (.tuple #[v,v2])) w'):
 K0 P [⟨.fn fv cap,dargs⟩] W (bodyPostD P fn R) Φ c:=by
 obtain⟨foc,k,σ⟩:=c
 refine⟨?_⟩
 unfold retFoc at hf
 split at hf
 ·rename_i h1 h2
  simp only at h1 h2
  subst h1;subst h2
  intro hwf β a w hr
  show Leaves P fn a.tmps R a.defers .returning w
  rw[hr.defers]
  refine leaves_cons Zs (hi w) ((h w hr.bel hr.phi).mono fun e u' w' he=> ?_)
  obtain⟨rfl,x,v,v2,rfl,k1,k2,hR⟩:=he
  exact⟨_,cells2_ok hc hr k1 k2,hR⟩
 ·cases hf
end
section
variable{w W:World}{ge go:Nat}{v:Value}{z:Int}
theorem S3{P:Program}{t:TypeId}{g:Nat}{v:Value}{w:World}(ht:Ob P t=some false)(h:K8 w g [v]):(loadVar t ⟨g,0,none⟩).run P w= .ok v w:=by
 have h1:=h.load1 ht
 simp only[Kd,Sem.run_bind,Instr.loadAt,Instr.sureAddr,Sem.run_pure,Result.andThen_ok]at h1
 generalize (loadVar t ⟨g,0,none⟩).run P w=r at h1 ⊢
 cases r with
 |ok x w'=>simp only[Result.andThen_ok,Result.ok.injEq,Next.value.injEq]at h1;rw[h1.1,h1.2]
 |_=>cases h1
theorem fill1_t(hW:Below W.heap.size W w)(he:K8 w ge [.int .i64 0]):CallsD Tryz.prog 23 #[Ku ge,Ku go] .returning w (fun e u' w'=>u'= .returning∧(e= .returned (.tuple #[])∧Below W.heap.size W w'∧Lat W w w')):=by
 refine K0.enterT Tryz.func23 rfl hW ?_
 refine ZR ?_
 refine ZA (Kd 54 ⟨ge,0,none⟩) (.int .i64 0) (fun w1 hw h=>(he.bel (bel_of hW hw h)).load1 Zk) ?_
 refine ZI false ?_
 refine ZV (.tuple #[]) (fun w1 hw h=>⟨rfl,hw,h w1 (Nat.le_refl _) fun _ _ _=>rfl⟩)
theorem fill1_e(hW:Below W.heap.size W w)(he:K8 w ge [.int .i64 z])(hz:z≠0)(ho:Kb w go 57 [v])(lo:W.heap.size≤go)(le:W.heap.size≤ge)(hne:ge≠go):CallsD Tryz.prog 23 #[Ku ge,Ku go] .returning w (fun e u' w'=>u'= .returning∧(e= .returned (.tuple #[])∧Below W.heap.size W w'∧Kb w' go 57 [.slice none 0 0]∧K8 w' ge [.int .i64 z])):=by
 refine K0.enterT Tryz.func23 rfl hW ?_
 refine ZR ?_
 refine ZA (Kd 54 ⟨ge,0,none⟩) (.int .i64 z) (fun w1 hw h=>(he.bel (bel_of hW hw h)).load1 Zk) ?_
 refine ZJ (z !=0) true (bne_iff_ne.2 hz) ?_
 refine K0.mutSt (L:=[go]) (G:=fun u=>Kb u go 57 [.slice none 0 0]) (Φ':=fun u=>Kb u go 57 [.slice none 0 0]∧K8 u ge [.int .i64 z]) (Rm 57 ⟨go,0,none⟩ (.slice none 0 0)) (fun w1 hw h=>(ho.to (h.2 go lo ho.lt)).store Zk rfl (fun v hv=>by have hv:v∈[Value.slice none 0 0]:=hv;have hv:=List.mem_singleton.1 hv;subst hv;rfl)) (fun u h b hb=>by have hb:=List.mem_singleton.1 hb;subst hb;exact⟨lo,(ho.to (h.2 _ lo ho.lt)).own⟩) (fun wa u e1 e2 h hG=>⟨hG,(he.toW (h.2 ge le he.ltW)).toW (e2 ge (by simpa using hne)).symm⟩) Zk Zk ?_
 refine ZR ?_
 refine ZV (.tuple #[]) (fun w1 hw h=>⟨rfl,hw,h w1 (Nat.le_refl _) fun _ _ _=>rfl⟩)
end
section
variable{w u:World}{A:Option Addr}{n c N K:Nat}{ls:List Sg}{t:TV}{T:Mi}
theorem Xd:∀(ls:List Sg) (L:List (List Pt×Bool)),(Ov L ls).1.length≤L.length+ls.length
 | [],L=>Nat.le_refl _
 | s ::t,L=>by
  rw[Ov]
  split
  ·have:=Xd t (L++ [([(s.ax,s.ay)],false)]);simp at this ⊢;omega
  ·split
   ·simp
   ·split
    ·rename_i x hx h5
     have:=Xd t (L.dropLast++ [(clP x.1,true)]);simp at this ⊢;omega
    ·split
     ·rename_i x hx h5 h6
      have:=Xd t (L.dropLast++ [(putL x.1 (O9 (x.1.getLast?.getD (0,0)) s).1,x.2)]);simp at this ⊢;omega
     ·simp
theorem Ii:∀{l:List Nat} {x:Nat},x∈l→x≤l.sum
 | [],_,h=>by cases h
 |y::l,x,h=>by
  rw[List.sum_cons]
  rcases List.mem_cons.1 h with rfl|h2
  ·omega
  ·have:=Ii h2;omega
theorem pathR_len(ls:List Sg):(Pi ls).1.length≤ls.length∧∀x∈(Pi ls).1,x.1.length≤4096:=by
 unfold Pi
 split
 ·split
  ·exact⟨Nat.zero_le _,by intro x hx;cases hx⟩
  ·rename_i h
   exact⟨by have:=Xd ls [];simpa using this,fun x hx=>by have h2:x.1.length≤Mr (Ov [] ls).1:=Ii (List.mem_map.2 ⟨x,hx,rfl⟩);omega⟩
 ·exact⟨Nat.zero_le _,by intro x hx;cases hx⟩
theorem O2.out{wa:World}{B m ge:Nat}{y:Option Addr×Nat}{H:List LQ}{cs:List Value}(h:O2 B y m H wa)(hb:Kb wa ge 54 cs)(e2:∀b,b∉[ge]→wa.heap[b]? =u.heap[b]?):O2 B y m H u:=
 ⟨h.own.left e2 fun b hx hc=>hb.ne h.own Zd b hx (by simpa using hc),fun x hx=>(h.ring x hx).left e2 fun b hy hc=>hb.ne (h.ring x hx) Zd b hy (by simpa using hc),h.apt⟩
theorem fillV{L:List LP}{e:Int}{r:List (List Pt)}(h:Kz T ls=(r,e)){y:Option Addr×Nat}:Ending.returned (Value.tuple #[.slice y.1 L.length y.2,.int .i64 e])= .returned (.tuple #[.slice y.1 L.length y.2,.int .i64 (Kz T ls).2]):=by rw[h]
theorem Ey(ht:S4 t T K w)(hK:8≤K∧K≤10000)(hs:Sa w A n ls)(hv:(Ff ls).1=0)(hN:N≤w.heap.size):
 Calls Tryz.prog 8 #[.slice A n c,t.val,.int .i64 32] w (K3 w (fun q:(Option Addr×Nat)×{L:List LP // K4 L=(Kz T ls).1}=> .tuple #[.slice q.1.1 q.2.1.length q.1.2,.int .i64 (Kz T ls).2]) fun q u=>L4 N q.1 q.2.1.length q.2.1 u):=by
 refine K0.enterD Tryz.func8 rfl (Below.refl _ _) ?_
 refine ZS 1 ?_
 refine K0.make (C1 57) (Ku) (fun g u=>Kb u g 57 [.slice none 0 0]∧w.heap.size≤g∧g∉[]) Zk (fun w1 hw h=>Q4 (z:= .slice none 0 0) Zk hw.size Zs) (fun go=> ?_)
 refine ZS 2 ?_
 refine K0.make (C1 54) (Ku) (fun g u=>Kb u g 54 [.int .i64 0]∧w.heap.size≤g∧g∉[]) Zk (fun w1 hw h=>Q4 (z:= .int .i64 0) Zk hw.size Zs) (fun ge=> ?_)
 refine ZR ?_
 refine K0.defer_ ⟨.fn (.func 23) #[Ku ge,Ku go],#[]⟩ Zk Zk ?_
 refine ZR ?_
 by_cases hp:Mx T ls=0
 case neg=>
  have hF:Kz T ls=([],Mx T ls):=by unfold Kz;rw[if_neg hp]
  have htr:∀w1,S4 t T K w1→Sa w1 A n ls→Calls Tryz.prog 24 #[.slice A n c,t.val] w1 (K3 w1 (fun _:Unit=> .tuple #[.slice none 0 0,.int .i64 (Mx T ls)]) fun _ _=>True):=fun w1 h1 h2=>by
   refine(trans_m h1 hK h2 hv (Nat.le_refl _)).mono fun e w' k=> ?_
   obtain⟨y,k1,k2,_⟩:=k
   exact⟨(),k1.trans (congrArg Ending.returned (trv_no (y:=y) rfl hp).symm),k2,fun _ _ _=>trivial⟩
  refine ZC (fun w1 hw h=>htr w1 (ht.below hw) (hs.below hw)) fun tr=> ?_
  refine K0.mutSt (L:=[ge]) (G:=fun u=>Kb u ge 54 [.int .i64 (Mx T ls)]) (Φ':=fun u=>(Kb u go 57 [.slice none 0 0]∧w.heap.size≤go)∧Kb u ge 54 [.int .i64 (Mx T ls)]∧w.heap.size≤ge) (Rm 54 ⟨ge,0,none⟩ (.int .i64 (Mx T ls))) (fun w1 hw h=>h.1.2.1.store Zk rfl (fun v hv=>by have hv:v∈[Value.int .i64 (Mx T ls)]:=hv;have hv:=List.mem_singleton.1 hv;subst hv;rfl)) (fun u h b hb=>by have hb:=List.mem_singleton.1 hb;subst hb;exact⟨h.1.2.2.1,h.1.2.1.own⟩) (fun wa u e1 e2 h hG=>⟨⟨h.1.1.2.1.left e2 (fun hc=>h.1.1.2.1.ne2 h.1.2.1 Zd (by simpa using hc)),h.1.1.2.2.1⟩,hG,h.1.2.2.1⟩) Zk Zk ?_
  refine ZR ?_
  refine ZA (Kd 54 ⟨ge,0,none⟩) (.int .i64 (Mx T ls)) (fun w1 hw h=>h.2.1.load1 Zk) ?_
  refine ZJ (Mx T ls !=0) true (bne_iff_ne.2 hp) ?_
  refine K0.retD2 (f:=23) (args:= #[Ku ge,Ku go]) go ge 57 54 Zk Zk (fun w1=>rfl) (fun w1 hw h=> ?_)
  refine(fill1_e hw ⟨_,h.2.1⟩ hp h.1.1 h.1.2 h.2.2 (fun hc=>h.1.1.ne2 h.2.1 Zd hc.symm)).mono fun e u' w' hh=> ?_
  obtain⟨rfl,rfl,hb,ho2,he2⟩:=hh
  exact⟨rfl,_,_,_,rfl,S3 Zk ⟨_,ho2⟩,S3 Zk he2,((none,0),⟨[],by rw[hF];rfl⟩),fillV (L:=[]) (y:=(none,0)) hF,hb,fun u k1 k2=>L4.nil_⟩
 have htr:∀w1,Below w.heap.size w w1→Calls Tryz.prog 24 #[.slice A n c,t.val] w1 (K3 w1 (fun y:Option Addr×Nat=> .tuple #[.slice y.1 n y.2,.int .i64 0]) fun y u=>K6 u w.heap.size 96 7 y.1 n y.2 ((ls.map (Pd T)).flatMap Sg.cl)):=fun w1 hw=>by
  refine(trans_m (ht.below hw) hK (hs.below hw) hv hw.size).mono fun e w' k=> ?_
  obtain⟨y,k1,k2,k3⟩:=k
  exact⟨y,k1.trans (congrArg Ending.returned (trv_ok (y:=y) hp).symm),k2,fun u j1 j2=>k3 u j1 j2 hp⟩
 refine ZC (fun w1 hw h=>htr w1 hw) fun tr=> ?_
 refine K0.mutSt (L:=[ge]) (G:=fun u=>Kb u ge 54 [.int .i64 0]) (Φ':=fun u=>((Kb u go 57 [.slice none 0 0]∧w.heap.size≤go)∧Kb u ge 54 [.int .i64 0]∧w.heap.size≤ge)∧K6 u w.heap.size 96 7 tr.1 n tr.2 ((ls.map (Pd T)).flatMap Sg.cl)) (Rm 54 ⟨ge,0,none⟩ (.int .i64 0)) (fun w1 hw h=>h.1.2.1.store Zk rfl (fun v hv=>by have hv:v∈[Value.int .i64 0]:=hv;have hv:=List.mem_singleton.1 hv;subst hv;rfl)) (fun u h b hb=>by have hb:=List.mem_singleton.1 hb;subst hb;exact⟨h.1.2.2.1,h.1.2.1.own⟩) (fun wa u e1 e2 h hG=>⟨⟨⟨h.1.1.2.1.left e2 (fun hc=>h.1.1.2.1.ne2 h.1.2.1 Zd (by simpa using hc)),h.1.1.2.2.1⟩,hG,h.1.2.2.1⟩,h.2.left e2 (fun b hb hc=>h.1.2.1.ne h.2 Zd b hb (by simpa using hc))⟩) Zk Zk ?_
 refine ZR ?_
 refine ZA (Kd 54 ⟨ge,0,none⟩) (.int .i64 0) (fun w1 hw h=>h.1.2.1.load1 Zk) ?_
 refine ZI false ?_
 refine ZC (fun w1 hw h=>path_m (c:=tr.2) (N:=w.heap.size) (ls:=ls.map (Pd T)) (h.2.reads.rows (cl:=Sg.cl) (fun _=>rfl) (by rw[List.length_map];exact hs.1)) (chk_tr hv hp) hw.size) fun pl=> ?_
 obtain⟨yl,H,hH⟩:=pl
 obtain⟨E,hE⟩:∃E,E=(Pi (ls.map (Pd T))).2:=⟨_,rfl⟩
 have hpl:=pathR_len (ls.map (Pd T))
 have hHl:H.length≤256:=by have h1:=congrArg List.length hH;unfold S9 at h1;rw[List.length_map]at h1;have h2:=hpl.1;rw[List.length_map]at h2;have:=Xp hv;omega
 have hHm:∀x∈H,x.1.1.length≤1000000:=fun x hx=>by
  have:=hpl.2 (x.1.1,x.2) (by rw[←hH];exact List.mem_map.2 ⟨x,hx,rfl⟩)
  have h2:x.1.1.length≤4096:=this
  omega
 refine K0.mutSt (L:=[ge]) (G:=fun u=>Kb u ge 54 [.int .i64 (Pi (ls.map (Pd T))).2]) (Φ':=fun u=>((Kb u go 57 [.slice none 0 0]∧w.heap.size≤go)∧Kb u ge 54 [.int .i64 (Pi (ls.map (Pd T))).2]∧w.heap.size≤ge)∧O2 w.heap.size yl H.length H u) (Rm 54 ⟨ge,0,none⟩ (.int .i64 (Pi (ls.map (Pd T))).2)) (fun w1 hw h=>h.1.1.2.1.store Zk rfl (fun v hv=>by have hv:v∈[Value.int .i64 (Pi (ls.map (Pd T))).2]:=hv;have hv:=List.mem_singleton.1 hv;subst hv;rfl)) (fun u h b hb=>by have hb:=List.mem_singleton.1 hb;subst hb;exact⟨h.1.1.2.2,h.1.1.2.1.own⟩) (fun wa u e1 e2 h hG=>⟨⟨⟨h.1.1.1.1.left e2 (fun hc=>h.1.1.1.1.ne2 h.1.1.2.1 Zd (by simpa using hc)),h.1.1.1.2⟩,hG,h.1.1.2.2⟩,h.2.out h.1.1.2.1 e2⟩) Zk Zk ?_
 rw[←hE]
 refine K0.run Zk (stop:=1000) 3 _ ?_
 have hpt:Rn H=(Pi (ls.map (Pd T))).1.map (·.1):=by rw[←hH];unfold Rn S9;rw[List.map_map];rfl
 refine K0.orders Zk Zk ?_
 refine Rf.meet3 (ι:=(Option Addr×Nat)×{L:List LP // K4 L=P0 (Rn H)}) (fun i c=>⟨.out .normal,c.k,⟨((c.st.tmps.set 24 (.v (.slice yl.1 H.length yl.2))).set 25 (.v (.slice i.1.1 i.2.1.length i.1.2))).set 26 (.v (.int .i64 E)),c.st.box⟩⟩) (fun i u=>((Kb u go 57 [.slice i.1.1 i.2.1.length i.1.2]∧w.heap.size≤go)∧Kb u ge 54 [.int .i64 E]∧w.heap.size≤ge)∧L4 w.heap.size i.1 i.2.1.length i.2.1 u) (fun meet=> ?_) (fun i=> ?_)
 ·refine .two 0 2 Zk ?_ ?_
  ·refine .det Zk ?_
   refine .two 1 2 Zk ?_ ?_
   ·refine .call (val:=fun q:(Option Addr×Nat)×{L:List LP // K4 L=P0 (Rn H)}=> .slice q.1.1 q.2.1.length q.1.2) (G:=fun q u=>L4 w.heap.size q.1 q.2.1.length q.2.1 u) (fun w1 hw h=>Jh (c:=yl.2) (N:=w.heap.size) (h.2.lin rfl) Zo hHm hw.size) Zk (fun i=> ?_)
    refine .two 2 3 Zk ?_ ?_
    ·refine .ask (Kd 54 ⟨ge,0,none⟩) (.int .i64 E) Zk (fun w1 hw h=>h.1.1.2.1.load1 Zk) ?_
     refine .one 3 Zk ?_
     refine .store (L:=[go]) (G:=fun u=>Kb u go 57 [.slice i.1.1 i.2.1.length i.1.2]) (Φ':=(fun u=>((Kb u go 57 [.slice i.1.1 i.2.1.length i.1.2]∧w.heap.size≤go)∧Kb u ge 54 [.int .i64 E]∧w.heap.size≤ge)∧L4 w.heap.size i.1 i.2.1.length i.2.1 u)) (Rm 57 ⟨go,0,none⟩ (.slice i.1.1 i.2.1.length i.1.2)) Zk (fun w1 hw h=>h.1.1.1.1.store Zk rfl (fun v hv=>by have hv:v∈[Value.slice i.1.1 i.2.1.length i.1.2]:=hv;have hv:=List.mem_singleton.1 hv;subst hv;rfl)) (fun u h b hb=>by have hb:=List.mem_singleton.1 hb;subst hb;exact⟨h.1.1.1.2,h.1.1.1.1.own⟩) (fun wa u e1 e2 h hG=>⟨⟨⟨hG,h.1.1.1.2⟩,h.1.1.2.1.left e2 (fun hc=>h.1.1.1.1.ne2 h.1.1.2.1 Zd (List.mem_singleton.1 hc).symm),h.1.1.2.2⟩,h.2.own.left e2 (fun b hb hc=>h.1.1.1.1.ne h.2.own Zd b hb (by simpa using hc)),fun x hx=>(h.2.ring x hx).left e2 (fun b hb hc=>h.1.1.1.1.ne (h.2.ring x hx) Zd b hb (by simpa using hc))⟩) ?_
     refine .one 4 Zk ?_
     refine .store (L:=[ge]) (G:=fun u=>Kb u ge 54 [.int .i64 E]) (Φ':=(fun u=>((Kb u go 57 [.slice i.1.1 i.2.1.length i.1.2]∧w.heap.size≤go)∧Kb u ge 54 [.int .i64 E]∧w.heap.size≤ge)∧L4 w.heap.size i.1 i.2.1.length i.2.1 u)) (Rm 54 ⟨ge,0,none⟩ (.int .i64 E)) Zk (fun w1 hw h=>h.1.2.1.store Zk rfl (fun v hv=>by have hv:v∈[Value.int .i64 E]:=hv;have hv:=List.mem_singleton.1 hv;subst hv;rfl)) (fun u h b hb=>by have hb:=List.mem_singleton.1 hb;subst hb;exact⟨h.1.2.2,h.1.2.1.own⟩) (fun wa u e1 e2 h hG=>⟨⟨⟨h.1.1.1.left e2 (fun hc=>h.1.1.1.ne2 h.1.2.1 Zd (by simpa using hc)),h.1.1.2⟩,hG,h.1.2.2⟩,h.2.own.left e2 (fun b hb hc=>h.1.2.1.ne h.2.own Zd b hb (by simpa using hc)),fun x hx=>(h.2.ring x hx).left e2 (fun b hb hc=>h.1.2.1.ne (h.2.ring x hx) Zd b hb (by simpa using hc))⟩) ?_
     exact .done Zk ((meet i).eq Zk)
    ·refine .store (L:=[go]) (G:=fun u=>Kb u go 57 [.slice i.1.1 i.2.1.length i.1.2]) (Φ':=(fun u=>((Kb u go 57 [.slice i.1.1 i.2.1.length i.1.2]∧w.heap.size≤go)∧Kb u ge 54 [.int .i64 E]∧w.heap.size≤ge)∧L4 w.heap.size i.1 i.2.1.length i.2.1 u)) (Rm 57 ⟨go,0,none⟩ (.slice i.1.1 i.2.1.length i.1.2)) Zk (fun w1 hw h=>h.1.1.1.1.store Zk rfl (fun v hv=>by have hv:v∈[Value.slice i.1.1 i.2.1.length i.1.2]:=hv;have hv:=List.mem_singleton.1 hv;subst hv;rfl)) (fun u h b hb=>by have hb:=List.mem_singleton.1 hb;subst hb;exact⟨h.1.1.1.2,h.1.1.1.1.own⟩) (fun wa u e1 e2 h hG=>⟨⟨⟨hG,h.1.1.1.2⟩,h.1.1.2.1.left e2 (fun hc=>h.1.1.1.1.ne2 h.1.1.2.1 Zd (List.mem_singleton.1 hc).symm),h.1.1.2.2⟩,h.2.own.left e2 (fun b hb hc=>h.1.1.1.1.ne h.2.own Zd b hb (by simpa using hc)),fun x hx=>(h.2.ring x hx).left e2 (fun b hb hc=>h.1.1.1.1.ne (h.2.ring x hx) Zd b hb (by simpa using hc))⟩) ?_
     refine .one 2 Zk ?_
     refine .ask (Kd 54 ⟨ge,0,none⟩) (.int .i64 E) Zk (fun w1 hw h=>h.1.2.1.load1 Zk) ?_
     refine .one 4 Zk ?_
     refine .store (L:=[ge]) (G:=fun u=>Kb u ge 54 [.int .i64 E]) (Φ':=(fun u=>((Kb u go 57 [.slice i.1.1 i.2.1.length i.1.2]∧w.heap.size≤go)∧Kb u ge 54 [.int .i64 E]∧w.heap.size≤ge)∧L4 w.heap.size i.1 i.2.1.length i.2.1 u)) (Rm 54 ⟨ge,0,none⟩ (.int .i64 E)) Zk (fun w1 hw h=>h.1.2.1.store Zk rfl (fun v hv=>by have hv:v∈[Value.int .i64 E]:=hv;have hv:=List.mem_singleton.1 hv;subst hv;rfl)) (fun u h b hb=>by have hb:=List.mem_singleton.1 hb;subst hb;exact⟨h.1.2.2,h.1.2.1.own⟩) (fun wa u e1 e2 h hG=>⟨⟨⟨h.1.1.1.left e2 (fun hc=>h.1.1.1.ne2 h.1.2.1 Zd (by simpa using hc)),h.1.1.2⟩,hG,h.1.2.2⟩,h.2.own.left e2 (fun b hb hc=>h.1.2.1.ne h.2.own Zd b hb (by simpa using hc)),fun x hx=>(h.2.ring x hx).left e2 (fun b hb hc=>h.1.2.1.ne (h.2.ring x hx) Zd b hb (by simpa using hc))⟩) ?_
     exact .done Zk ((meet i).eq Zk)
   ·refine .ask (Kd 54 ⟨ge,0,none⟩) (.int .i64 E) Zk (fun w1 hw h=>h.1.2.1.load1 Zk) ?_
    refine .one 1 Zk ?_
    refine .call (val:=fun q:(Option Addr×Nat)×{L:List LP // K4 L=P0 (Rn H)}=> .slice q.1.1 q.2.1.length q.1.2) (G:=fun q u=>L4 w.heap.size q.1 q.2.1.length q.2.1 u) (fun w1 hw h=>Jh (c:=yl.2) (N:=w.heap.size) (h.2.lin rfl) Zo hHm hw.size) Zk (fun i=> ?_)
    refine .one 3 Zk ?_
    refine .store (L:=[go]) (G:=fun u=>Kb u go 57 [.slice i.1.1 i.2.1.length i.1.2]) (Φ':=(fun u=>((Kb u go 57 [.slice i.1.1 i.2.1.length i.1.2]∧w.heap.size≤go)∧Kb u ge 54 [.int .i64 E]∧w.heap.size≤ge)∧L4 w.heap.size i.1 i.2.1.length i.2.1 u)) (Rm 57 ⟨go,0,none⟩ (.slice i.1.1 i.2.1.length i.1.2)) Zk (fun w1 hw h=>h.1.1.1.1.store Zk rfl (fun v hv=>by have hv:v∈[Value.slice i.1.1 i.2.1.length i.1.2]:=hv;have hv:=List.mem_singleton.1 hv;subst hv;rfl)) (fun u h b hb=>by have hb:=List.mem_singleton.1 hb;subst hb;exact⟨h.1.1.1.2,h.1.1.1.1.own⟩) (fun wa u e1 e2 h hG=>⟨⟨⟨hG,h.1.1.1.2⟩,h.1.1.2.1.left e2 (fun hc=>h.1.1.1.1.ne2 h.1.1.2.1 Zd (List.mem_singleton.1 hc).symm),h.1.1.2.2⟩,h.2.own.left e2 (fun b hb hc=>h.1.1.1.1.ne h.2.own Zd b hb (by simpa using hc)),fun x hx=>(h.2.ring x hx).left e2 (fun b hb hc=>h.1.1.1.1.ne (h.2.ring x hx) Zd b hb (by simpa using hc))⟩) ?_
    refine .one 4 Zk ?_
    refine .store (L:=[ge]) (G:=fun u=>Kb u ge 54 [.int .i64 E]) (Φ':=(fun u=>((Kb u go 57 [.slice i.1.1 i.2.1.length i.1.2]∧w.heap.size≤go)∧Kb u ge 54 [.int .i64 E]∧w.heap.size≤ge)∧L4 w.heap.size i.1 i.2.1.length i.2.1 u)) (Rm 54 ⟨ge,0,none⟩ (.int .i64 E)) Zk (fun w1 hw h=>h.1.2.1.store Zk rfl (fun v hv=>by have hv:v∈[Value.int .i64 E]:=hv;have hv:=List.mem_singleton.1 hv;subst hv;rfl)) (fun u h b hb=>by have hb:=List.mem_singleton.1 hb;subst hb;exact⟨h.1.2.2,h.1.2.1.own⟩) (fun wa u e1 e2 h hG=>⟨⟨⟨h.1.1.1.left e2 (fun hc=>h.1.1.1.ne2 h.1.2.1 Zd (by simpa using hc)),h.1.1.2⟩,hG,h.1.2.2⟩,h.2.own.left e2 (fun b hb hc=>h.1.2.1.ne h.2.own Zd b hb (by simpa using hc)),fun x hx=>(h.2.ring x hx).left e2 (fun b hb hc=>h.1.2.1.ne (h.2.ring x hx) Zd b hb (by simpa using hc))⟩) ?_
    exact .done Zk ((meet i).eq Zk)
  ·refine .ask (Kd 54 ⟨ge,0,none⟩) (.int .i64 E) Zk (fun w1 hw h=>h.1.2.1.load1 Zk) ?_
   refine .one 0 Zk ?_
   refine .det Zk ?_
   refine .one 1 Zk ?_
   refine .call (val:=fun q:(Option Addr×Nat)×{L:List LP // K4 L=P0 (Rn H)}=> .slice q.1.1 q.2.1.length q.1.2) (G:=fun q u=>L4 w.heap.size q.1 q.2.1.length q.2.1 u) (fun w1 hw h=>Jh (c:=yl.2) (N:=w.heap.size) (h.2.lin rfl) Zo hHm hw.size) Zk (fun i=> ?_)
   refine .one 3 Zk ?_
   refine .store (L:=[go]) (G:=fun u=>Kb u go 57 [.slice i.1.1 i.2.1.length i.1.2]) (Φ':=(fun u=>((Kb u go 57 [.slice i.1.1 i.2.1.length i.1.2]∧w.heap.size≤go)∧Kb u ge 54 [.int .i64 E]∧w.heap.size≤ge)∧L4 w.heap.size i.1 i.2.1.length i.2.1 u)) (Rm 57 ⟨go,0,none⟩ (.slice i.1.1 i.2.1.length i.1.2)) Zk (fun w1 hw h=>h.1.1.1.1.store Zk rfl (fun v hv=>by have hv:v∈[Value.slice i.1.1 i.2.1.length i.1.2]:=hv;have hv:=List.mem_singleton.1 hv;subst hv;rfl)) (fun u h b hb=>by have hb:=List.mem_singleton.1 hb;subst hb;exact⟨h.1.1.1.2,h.1.1.1.1.own⟩) (fun wa u e1 e2 h hG=>⟨⟨⟨hG,h.1.1.1.2⟩,h.1.1.2.1.left e2 (fun hc=>h.1.1.1.1.ne2 h.1.1.2.1 Zd (List.mem_singleton.1 hc).symm),h.1.1.2.2⟩,h.2.own.left e2 (fun b hb hc=>h.1.1.1.1.ne h.2.own Zd b hb (by simpa using hc)),fun x hx=>(h.2.ring x hx).left e2 (fun b hb hc=>h.1.1.1.1.ne (h.2.ring x hx) Zd b hb (by simpa using hc))⟩) ?_
   refine .one 4 Zk ?_
   refine .store (L:=[ge]) (G:=fun u=>Kb u ge 54 [.int .i64 E]) (Φ':=(fun u=>((Kb u go 57 [.slice i.1.1 i.2.1.length i.1.2]∧w.heap.size≤go)∧Kb u ge 54 [.int .i64 E]∧w.heap.size≤ge)∧L4 w.heap.size i.1 i.2.1.length i.2.1 u)) (Rm 54 ⟨ge,0,none⟩ (.int .i64 E)) Zk (fun w1 hw h=>h.1.2.1.store Zk rfl (fun v hv=>by have hv:v∈[Value.int .i64 E]:=hv;have hv:=List.mem_singleton.1 hv;subst hv;rfl)) (fun u h b hb=>by have hb:=List.mem_singleton.1 hb;subst hb;exact⟨h.1.2.2,h.1.2.1.own⟩) (fun wa u e1 e2 h hG=>⟨⟨⟨h.1.1.1.left e2 (fun hc=>h.1.1.1.ne2 h.1.2.1 Zd (by simpa using hc)),h.1.1.2⟩,hG,h.1.2.2⟩,h.2.own.left e2 (fun b hb hc=>h.1.2.1.ne h.2.own Zd b hb (by simpa using hc)),fun x hx=>(h.2.ring x hx).left e2 (fun b hb hc=>h.1.2.1.ne (h.2.ring x hx) Zd b hb (by simpa using hc))⟩) ?_
   exact .done Zk ((meet i).eq Zk)
 obtain⟨yp,L,hL⟩:=i
 refine ZR ?_
 refine K0.retD2 (f:=23) (args:= #[Ku ge,Ku go]) go ge 57 54 Zk Zk (fun w1=>rfl) (fun w1 hw h=> ?_)
 by_cases h0:E=0
 ·subst h0
  have hF:Kz T ls=(P0 (Rn H),0):=by unfold Kz;rw[if_pos hp,←hE,if_pos rfl,hpt]
  refine(fill1_t hw ⟨_,h.1.2.1⟩).mono fun e u' w' hh=> ?_
  obtain⟨rfl,rfl,hb,hst⟩:=hh
  have hgo:=h.1.1.1.to (hst.2 go h.1.1.2 h.1.1.1.lt)
  have hge:=h.1.2.1.to (hst.2 ge h.1.2.2 h.1.2.1.lt)
  exact⟨rfl,_,_,_,rfl,S3 Zk ⟨_,hgo⟩,S3 Zk ⟨_,hge⟩,(yp,⟨L,by rw[hF,hL]⟩),fillV (L:=L) (y:=yp) hF,hb,fun u k1 k2=>(L4.same (L4.same h.2 hst.2) fun b b1 b2=>k2 b b1 (Nat.lt_of_lt_of_le b2 (Nat.le_refl _))).mono hN⟩
 ·have hF:Kz T ls=([],E):=by unfold Kz;rw[if_pos hp,←hE,if_neg h0]
  refine(fill1_e hw ⟨_,h.1.2.1⟩ h0 h.1.1.1 h.1.1.2 h.1.2.2 (fun hc=>h.1.1.1.ne2 h.1.2.1 Zd hc.symm)).mono fun e u' w' hh=> ?_
  obtain⟨rfl,rfl,hb,ho2,he2⟩:=hh
  exact⟨rfl,_,_,_,rfl,S3 Zk ⟨_,ho2⟩,S3 Zk he2,((none,0),⟨[],by rw[hF];rfl⟩),fillV (L:=[]) (y:=(none,0)) hF,hb,fun u k1 k2=>L4.nil_⟩
end
def G5(s:Sg):Nat:=if s.v=3∨s.v=4 then 8 else 1
def Mj(ls:List Sg):Nat:=(ls.map G5).sum
theorem segL_pc(p:Pt)(s:Sg):(O9 p s).1.length≤8*G5 s:=by
 by_cases h:s.v=3∨s.v=4
 ·have:=segL_len p s;unfold G5;rw[if_pos h];omega
 ·have h3:s.v≠3:=fun e=>h (.inl e)
  have h4:s.v≠4:=fun e=>h (.inr e)
  unfold O9 G5;rw[if_neg h3,if_neg h4,if_neg h];show 1≤8*1;decide
theorem Z4(L M:List (List Pt×Bool)):Mr (L++M)=Mr L+Mr M:=by unfold Mr;rw[List.map_append,List.sum_append]
theorem sumL_last{L:List (List Pt×Bool)}{x:List Pt×Bool}(h:L.getLast? =some x):Mr L=Mr L.dropLast+x.1.length:=by
 obtain⟨h1,h2⟩:=List.getLast?_eq_some_iff.1 h
 subst h2
 rw[Z4,List.dropLast_concat]
 simp[Mr]
theorem clP_len(P:List Pt):(clP P).length≤P.length:=by
 unfold clP
 split
 ·rw[List.length_dropLast];omega
 ·exact Nat.le_refl _
theorem Xc:∀(ls:List Sg) (L:List (List Pt×Bool)),Mr (Ov L ls).1≤Mr L+8*Mj ls
 | [],L=>by unfold Ov Mj;simp
 | s ::t,L=>by
  have hs:Mj (s::t)=G5 s+Mj t:=by unfold Mj;rw[List.map_cons,List.sum_cons]
  have h1:1≤G5 s:=by unfold G5;split<;>decide
  have one:∀(P:List Pt) (b:Bool),Mr [(P,b)]=P.length:=fun P b=>by simp[Mr]
  rw[Ov,hs]
  split
  ·have:=Xc t (L++ [([(s.ax,s.ay)],false)])
   rw[Z4,one,List.length_singleton]at this
   omega
  ·split
   ·show Mr []≤_;exact Nat.zero_le _
   ·rename_i x hx
    have hl:=sumL_last hx
    split
    ·have:=Xc t (L.dropLast++ [(clP x.1,true)])
     rw[Z4,one]at this
     have:=clP_len x.1
     omega
    ·split
     ·have:=Xc t (L.dropLast++ [(putL x.1 (O9 (x.1.getLast?.getD (0,0)) s).1,x.2)])
      rw[Z4,one]at this
      have:=V7 (O9 (x.1.getLast?.getD (0,0)) s).1 x.1
      have:=segL_pc (x.1.getLast?.getD (0,0)) s
      omega
     ·show Mr []≤_;exact Nat.zero_le _
theorem pcsN_tr(T:Mi)(ls:List Sg):Mj (ls.map (Pd T))=Mj ls:=by
 unfold Mj;rw[List.map_map]
 congr 1
 refine List.map_congr_left fun s _=> ?_
 show G5 (Pd T s)=G5 s
 unfold G5;rw[Ib]
theorem Hj:∀(L:List (List Pt)),(P0 L).flatten.length≤L.flatten.length
 | []=>Nat.le_refl _
 |r::t=>by
  have:=Hj t
  unfold P0 at this ⊢
  rw[List.filter_cons]
  split
  ·rw[List.flatten_cons,List.flatten_cons,List.length_append,List.length_append];omega
  ·rw[List.flatten_cons,List.length_append];omega
theorem Gh:∀(L:List (List Pt×Bool)),(L.map (·.1)).flatten.length=Mr L
 | []=>rfl
 |x::t=>by
  rw[List.map_cons,List.flatten_cons,List.length_append,Gh t]
  unfold Mr;rw[List.map_cons,List.sum_cons]
theorem fillF_len(T:Mi)(ls:List Sg):(Kz T ls).1.flatten.length≤8*Mj ls:=by
 unfold Kz
 split
 ·split
  ·refine Nat.le_trans (Hj _) ?_
   rw[Gh]
   unfold Pi
   split
   ·split
    ·show Mr []≤_;exact Nat.zero_le _
    ·have:=Xc (ls.map (Pd T)) []
     rw[pcsN_tr]at this
     show Mr (Ov [] (ls.map (Pd T))).1≤_
     have h0:Mr []=0:=rfl
     omega
   ·show Mr []≤_;exact Nat.zero_le _
  ·exact Nat.zero_le _
 ·exact Nat.zero_le _
theorem Br{T:Mi}{ls:List Sg}(h:Mj ls≤24):(Kz T ls).1.flatten.length≤192:=by
 have:=fillF_len T ls;omega
structure Uu(w:World)(S:Sc)(gn c:Nat)(nl:List (Nd×ND)):Prop where
 et:ET w
 row:Cy w (some ⟨gn,0,none⟩) nl 8 S.nds
 few:NFs S.nds
 ok:G2 S=true
abbrev S8(S:Sc)(gn c:Nat):Value:=soV S (some ⟨gn,0,none⟩,c)
section
variable{w u:World}{S:Sc}{gn c i N0:Nat}{nl:List (Nd×ND)}{N:Nd}{q:ND}{T:Mi}
theorem Uu.below{w1:World}(hS:Uu w S gn c nl)(hw:Below w.heap.size w w1):Uu w1 S gn c nl:=⟨hS.et.below hw,hS.row.below hw,hS.few,hS.ok⟩
theorem Uu.len(hS:Uu w S gn c nl):nl.length=S.nds.length:=by rw[←hS.row.eq,List.length_map]
theorem Uu.at_(hS:Uu w S gn c nl)(hx:nl[i]? =some (N,q)):S.nds[i]? =some N∧i<S.nds.length∧NRd N q 8 w:=by
 have hi:=(List.getElem?_eq_some_iff.1 hx).1
 exact⟨by rw[←hS.row.eq,List.getElem?_map,hx];rfl,by rw[←hS.len];exact hi,hS.row.rd _ (List.mem_of_getElem? hx)⟩
theorem Uu.cell{j:Nat}{v:Value}(hS:Uu w S gn c nl)(hx:nl[i]? =some (N,q))(hv:(noC N q)[j]? =some v):w.cell? ⟨gn,i*47+j,none⟩=some v:=by
 obtain⟨ad,e,hc⟩:=hS.row.row.2 i _ hx
 injection e with e;subst e
 have:=hc j v hv
 rwa [Addr.add_mid,Addr.add_mid,Nat.zero_add]at this
theorem Uu.ld(hS:Uu w S gn c nl)(hx:nl[i]? =some (N,q)):(Kd 47 ⟨gn,i*47,none⟩).run Tryz.prog w= .ok (.value (noV N q)) w:=
 Ka (vs:=noC N q) Zk Zk fun j v hj=>hS.cell hx hj
theorem La(hi:i<S.nds.length):(Kc 48 (.slice (some ⟨gn,0,none⟩) S.nds.length c) i).run Tryz.prog w= .ok (.value (.pointer (some ⟨gn,i*47,none⟩))) w:=
 K9 (elem:=47) Zk Zk hi
theorem Dv(hS:Uu w S gn c nl):Calls Tryz.prog 5 #[S8 S gn c] w (K3 w (fun _:Unit=> .bool true) fun _ _=>True):=
 V2 (y:=(some ⟨gn,0,none⟩,c)) hS.et hS.row hS.few Zd hS.ok
theorem has_m(hS:Uu w S gn c nl)(hi:i<S.nds.length):Calls Tryz.prog 199 #[S8 S gn c,.int .i64 i] w (K3 w (fun _:Unit=> .bool true) fun _ _=>True):=by
 refine K0.enter Tryz.func199 rfl ?_
 refine ZS 2 ?_
 refine K0.slot 6 (.bool (decide ((i:Int)≥0))) (.bool true) Zk (by rw[decide_eq_true Zo]) ?_
 refine ZS 8 ?_
 refine ZT 12 (.bool (decide ((i:Int)<(S.nds.length:Int)))) (.bool true) (by rw[decide_eq_true Zo]) ?_
 refine ZC (fun w1 hw h=>Dv (hS.below hw)) fun v=> ?_
 exact ZW (.bool true)
theorem H2(hS:Uu w S gn c nl)(hi:0<S.nds.length):Calls Tryz.prog 307 #[S8 S gn c,.int .i64 0] w (K3 w (fun _:Unit=> .int .i64 (-1)) fun _ _=>True):=by
 have h0:∀w1,Calls Tryz.prog 343 #[.slice (some ⟨gn,0,none⟩) S.nds.length c,.int .i64 0] w1 (K3 w1 (fun _:Unit=> .int .i64 (-1)) fun _ _=>True):=fun w=>by
  refine K0.enter Tryz.func343 rfl ?_
  refine ZR ?_
  refine K0.un Zk ?_
  refine ZR ?_
  refine ZI false ?_
  exact ZW (.int .i64 (-1))
 refine K0.enter Tryz.func307 rfl ?_
 refine ZR ?_
 refine ZC (fun w1 hw h=>has_m (i:=0) (hS.below hw) hi) fun v=> ?_
 refine ZI false ?_
 refine ZC (fun w1 hw h=>h0 w1) fun p=> ?_
 exact ZW (.int .i64 (-1))
theorem parent1_m{N1:Nd}{q1:ND}(hS:Uu w S gn c nl)(hx:nl[0]? =some (N,q))(hx1:nl[1]? =some (N1,q1))(hd:N.dep=0)(hd1:N1.dep=1):Calls Tryz.prog 307 #[S8 S gn c,.int .i64 1] w (K3 w (fun _:Unit=> .int .i64 0) fun _ _=>True):=by
 have hi:1<S.nds.length:=(hS.at_ hx1).2.1
 have h0:∀w1,Below w.heap.size w w1→Calls Tryz.prog 343 #[.slice (some ⟨gn,0,none⟩) S.nds.length c,.int .i64 1] w1 (K3 w1 (fun _:Unit=> .int .i64 0) fun _ _=>True):=fun w2 hw2=>by
  refine K0.enter Tryz.func343 rfl ?_
  refine ZR ?_
  refine K0.un Zk ?_
  refine ZR ?_
  refine ZI true ?_
  refine ZB 2 (Kc 48 (.slice (some ⟨gn,0,none⟩) S.nds.length c) (0:Nat)) (.pointer (some ⟨gn,0*47,none⟩)) (fun w1 hw h=>La Zo) ?_
  refine ZB 4 (Kd 3 ⟨gn,0*47+2,none⟩) (.int .i64 0) (fun w1 hw h=>Kg Zk (Kt hw (Kt hw2 (by have:=hS.cell (j:=2) hx rfl;rw[hd]at this;exact this)))) ?_
  refine ZB 7 (Kc 48 (.slice (some ⟨gn,0,none⟩) S.nds.length c) (1:Nat)) (.pointer (some ⟨gn,1*47,none⟩)) (fun w1 hw h=>La hi) ?_
  refine ZB 9 (Kd 3 ⟨gn,1*47+2,none⟩) (.int .i64 1) (fun w1 hw h=>Kg Zk (Kt hw (Kt hw2 (by have:=hS.cell (j:=2) hx1 rfl;rw[hd1]at this;exact this)))) ?_
  refine ZI true ?_
  exact ZW (.int .i64 0)
 refine K0.enter Tryz.func307 rfl ?_
 refine ZR ?_
 refine ZC (fun w1 hw h=>has_m (i:=1) (hS.below hw) hi) fun v=> ?_
 refine ZI false ?_
 refine ZC (fun w1 hw h=>h0 w1 hw) fun p=> ?_
 exact ZW (.int .i64 0)
theorem ch1_m(hS:Uu w S gn c nl)(hx:nl[0]? =some (N,q))(hd:N.dep=0)(hl:S.nds.length=1)(hN:N0≤w.heap.size):Calls Tryz.prog 137 #[S8 S gn c,.int .i64 (-1)] w (K3 w (fun z:Option Addr×Nat=> .slice z.1 1 z.2) fun z u=>K6 u N0 3 1 z.1 1 z.2 [.int .i64 0]):=by
 refine K0.enter Tryz.func137 rfl ?_
 refine ZR ?_
 refine ZC (fun w1 hw h=>Dv (hS.below hw)) fun v=> ?_
 refine ZI false ?_
 refine ZI false ?_
 refine K0.un Zk ?_
 refine ZR ?_
 refine K0.slot 7 (.int .i64 (S.nds.length:Int)) (.int .i64 1) Zk (by rw[hl];rfl) ?_
 refine ZJ (decide ((0:Int)<(S.nds.length:Int))) true (by rw[hl];rfl) ?_
 refine ZA (Kc 48 (.slice (some ⟨gn,0,none⟩) S.nds.length c) (0:Nat)) (.pointer (some ⟨gn,0*47,none⟩)) (fun w1 hw h=>La Zo) ?_
 refine ZA (Kd 3 ⟨gn,0*47+2,none⟩) (.int .i64 0) (fun w1 hw h=>Kg Zk (Kt hw (by have:=hS.cell (j:=2) hx rfl;rw[hd]at this;exact this))) ?_
 refine K0.cond true Zk ?_
 refine ZS 2 ?_
 refine K0.make (M5 (43) 1 #[(0,.int .i64 0)]) (Km 1) (Kv 3 #[.int .i64 0]) Zk (fun w1 hw h=>Ke Zk) (fun gb=> ?_)
 refine ZS 3 ?_
 refine K0.make (Nc 43 43 (.slice none 0 0) (Km 1 gb)) (fun z:Option Addr×Nat=> .slice z.1 1 z.2) (fun z u=>K6 u w.heap.size 3 1 z.1 1 z.2 [.int .i64 0]) Zk (fun w1 hw h=>Ue (z0:= .int .i64 0) (bytes:=8) Zk Zk rfl Zd rfl (by intro v hv;obtain rfl:=List.mem_singleton.1 hv;rfl) Zd h.2 hw.size) (fun z=> ?_)
 refine ZR ?_
 refine ZI false ?_
 refine ZV (.slice z.1 1 z.2) (fun w1 hw h=>⟨z,rfl,hw,fun u k1 k2=>(h u k1 k2).2.rebase fun b hb=>Nat.le_trans hN ((h u k1 k2).2.lt b hb).1⟩)
theorem ch2_m{N1:Nd}{q1:ND}(hS:Uu w S gn c nl)(hx:nl[0]? =some (N,q))(hx1:nl[1]? =some (N1,q1))(hd:N.dep=0)(hd1:N1.dep=1)(hl:S.nds.length=2)(hN:N0≤w.heap.size):Calls Tryz.prog 137 #[S8 S gn c,.int .i64 (-1)] w (K3 w (fun z:Option Addr×Nat=> .slice z.1 1 z.2) fun z u=>K6 u N0 3 1 z.1 1 z.2 [.int .i64 0]):=by
 refine K0.enter Tryz.func137 rfl ?_
 refine ZR ?_
 refine ZC (fun w1 hw h=>Dv (hS.below hw)) fun v=> ?_
 refine ZI false ?_
 refine ZI false ?_
 refine K0.un Zk ?_
 refine ZR ?_
 refine K0.slot 7 (.int .i64 (S.nds.length:Int)) (.int .i64 2) Zk (by rw[hl];rfl) ?_
 refine ZJ (decide ((0:Int)<(S.nds.length:Int))) true (by rw[hl];rfl) ?_
 refine ZA (Kc 48 (.slice (some ⟨gn,0,none⟩) S.nds.length c) (0:Nat)) (.pointer (some ⟨gn,0*47,none⟩)) (fun w1 hw h=>La Zo) ?_
 refine ZA (Kd 3 ⟨gn,0*47+2,none⟩) (.int .i64 0) (fun w1 hw h=>Kg Zk (Kt hw (by have:=hS.cell (j:=2) hx rfl;rw[hd]at this;exact this))) ?_
 refine K0.cond true Zk ?_
 refine ZS 2 ?_
 refine K0.make (M5 (43) 1 #[(0,.int .i64 0)]) (Km 1) (Kv 3 #[.int .i64 0]) Zk (fun w1 hw h=>Ke Zk) (fun gb=> ?_)
 refine ZS 3 ?_
 refine K0.make (Nc 43 43 (.slice none 0 0) (Km 1 gb)) (fun z:Option Addr×Nat=> .slice z.1 1 z.2) (fun z u=>K6 u w.heap.size 3 1 z.1 1 z.2 [.int .i64 0]) Zk (fun w1 hw h=>Ue (z0:= .int .i64 0) (bytes:=8) Zk Zk rfl Zd rfl (by intro v hv;obtain rfl:=List.mem_singleton.1 hv;rfl) Zd h.2 hw.size) (fun z=> ?_)
 refine ZR ?_
 refine ZI true ?_
 refine ZA (Kc 48 (.slice (some ⟨gn,0,none⟩) S.nds.length c) (1:Nat)) (.pointer (some ⟨gn,1*47,none⟩)) (fun w1 hw h=>La Zo) ?_
 refine ZA (Kd 3 ⟨gn,1*47+2,none⟩) (.int .i64 1) (fun w1 hw h=>Kg Zk (Kt hw (by have:=hS.cell (j:=2) hx1 rfl;rw[hd1]at this;exact this))) ?_
 refine ZI false ?_
 refine ZI false ?_
 refine ZV (.slice z.1 1 z.2) (fun w1 hw h=>⟨z,rfl,hw,fun u k1 k2=>(h u k1 k2).2.rebase fun b hb=>Nat.le_trans hN ((h u k1 k2).2.lt b hb).1⟩)
theorem ch2b_m{N1:Nd}{q1:ND}(hS:Uu w S gn c nl)(hx:nl[0]? =some (N,q))(hx1:nl[1]? =some (N1,q1))(hd:N.dep=0)(hd1:N1.dep=1)(hl:S.nds.length=2)(hN:N0≤w.heap.size):Calls Tryz.prog 137 #[S8 S gn c,.int .i64 0] w (K3 w (fun z:Option Addr×Nat=> .slice z.1 1 z.2) fun z u=>K6 u N0 3 1 z.1 1 z.2 [.int .i64 1]):=by
 have he:∀w1,Below w.heap.size w w1→Calls Tryz.prog 200 #[.slice (some ⟨gn,0,none⟩) S.nds.length c,.int .i64 0] w1 (K3 w1 (fun _:Unit=> .int .i64 2) fun _ _=>True):=fun w2 hw2=>by
  rw[hl]
  refine K0.enter Tryz.func200 rfl ?_
  refine ZR ?_
  refine K0.un Zk ?_
  refine ZR ?_
  refine ZB 7 (Kc 48 (.slice (some ⟨gn,0,none⟩) 2 c) (1:Nat)) (.pointer (some ⟨gn,1*47,none⟩)) (fun w1 hw h=>K9 (elem:=47) Zk Zk Zd) ?_
  refine ZB 9 (Kd 3 ⟨gn,1*47+2,none⟩) (.int .i64 1) (fun w1 hw h=>Kg Zk (Kt hw (Kt hw2 (by have:=hS.cell (j:=2) hx1 rfl;rw[hd1]at this;exact this)))) ?_
  refine ZB 12 (Kc 48 (.slice (some ⟨gn,0,none⟩) 2 c) (0:Nat)) (.pointer (some ⟨gn,0*47,none⟩)) (fun w1 hw h=>K9 (elem:=47) Zk Zk Zd) ?_
  refine ZB 14 (Kd 3 ⟨gn,0*47+2,none⟩) (.int .i64 0) (fun w1 hw h=>Kg Zk (Kt hw (Kt hw2 (by have:=hS.cell (j:=2) hx rfl;rw[hd]at this;exact this)))) ?_
  refine ZI true ?_
  refine ZI false ?_
  exact ZW (.int .i64 2)
 refine K0.enter Tryz.func137 rfl ?_
 refine ZR ?_
 refine ZC (fun w1 hw h=>has_m (i:=0) (hS.below hw) Zo) fun hh=> ?_
 refine ZC (fun w1 hw h=>Dv (hS.below hw)) fun v=> ?_
 refine ZI false ?_
 refine ZI true ?_
 refine ZB 3 (Kc 48 (.slice (some ⟨gn,0,none⟩) S.nds.length c) (0:Nat)) (.pointer (some ⟨gn,0*47,none⟩)) (fun w1 hw h=>La Zo) ?_
 refine ZB 5 (Kd 3 ⟨gn,0*47+2,none⟩) (.int .i64 0) (fun w1 hw h=>Kg Zk (Kt hw (by have:=hS.cell (j:=2) hx rfl;rw[hd]at this;exact this))) ?_
 refine ZC (fun w1 hw h=>he w1 hw) fun e=> ?_
 refine K0.un Zk ?_
 refine ZR ?_
 refine ZI true ?_
 refine ZA (Kc 48 (.slice (some ⟨gn,0,none⟩) S.nds.length c) (1:Nat)) (.pointer (some ⟨gn,1*47,none⟩)) (fun w1 hw h=>La Zo) ?_
 refine ZA (Kd 3 ⟨gn,1*47+2,none⟩) (.int .i64 1) (fun w1 hw h=>Kg Zk (Kt hw (by have:=hS.cell (j:=2) hx1 rfl;rw[hd1]at this;exact this))) ?_
 refine K0.cond true Zk ?_
 refine ZS 2 ?_
 refine K0.make (M5 (43) 1 #[(0,.int .i64 1)]) (Km 1) (Kv 3 #[.int .i64 1]) Zk (fun w1 hw h=>Ke Zk) (fun gb=> ?_)
 refine ZS 3 ?_
 refine K0.make (Nc 43 43 (.slice none 0 0) (Km 1 gb)) (fun z:Option Addr×Nat=> .slice z.1 1 z.2) (fun z u=>K6 u w.heap.size 3 1 z.1 1 z.2 [.int .i64 1]) Zk (fun w1 hw h=>Ue (z0:= .int .i64 0) (bytes:=8) Zk Zk rfl Zd rfl (by intro v hv;obtain rfl:=List.mem_singleton.1 hv;rfl) Zd h.2 hw.size) (fun z=> ?_)
 refine ZR ?_
 refine ZI false ?_
 refine ZV (.slice z.1 1 z.2) (fun w1 hw h=>⟨z,rfl,hw,fun u k1 k2=>(h u k1 k2).2.rebase fun b hb=>Nat.le_trans hN ((h u k1 k2).2.lt b hb).1⟩)
end
end Go.Proofs.YtpgkbllcnphmbaaGreatDoor
