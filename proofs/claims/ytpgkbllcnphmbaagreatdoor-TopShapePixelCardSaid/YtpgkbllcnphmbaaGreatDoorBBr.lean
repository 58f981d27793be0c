/-
 A part of the proof.
-/
import Derived.Test.YtpgkbllcnphmbaaGreatDoorBQP
import Derived.RangeFuncLeaves
import Derived.RangeFuncSeq
import Derived.Test.YtpgkbllcnphmbaaGreatDoorBAr
import Derived.Test.YtpgkbllcnphmbaaGreatDoorBWk
namespace Go.Proofs.YtpgkbllcnphmbaaGreatDoor
set_option maxRecDepth 100000
set_option maxHeartbeats 8000000
set_option linter.unusedVariables false
set_option linter.unusedSimpArgs false
open Go.RowKit
def Lat(W w u:World):Prop:=w.heap.size≤u.heap.size∧∀b,W.heap.size≤b→b<w.heap.size→u.heap[b]? =w.heap[b]?
section
variable{P:Program}{Δ:List Deferred}{W:World}{Q:Exit→Act→World→Prop}{Φ:World→Prop}{c:Md}
theorem K0.yield [Rnd]{X:Type}{L:List Nat}{val:X→Value}{G Φ':X→World→Prop}{l:Nat}{args:Array Value}
 (hs:∀w,Below W.heap.size W w→(∀u,Lat W w u→Φ u)→YieldAt Fe 0 P l args w (Ky w L val G)) (hL:Uv W L Φ) (hΦ:∀x,Tt L Φ (G x) (Φ' x))
 (hf:Yd c=true) (hc:Q1 c=some (Instr.yield l args)) (h:∀x,K0 P Δ W Q (Φ' x) (Lh (.v (val x)) c)):K0 P Δ W Q Φ c:=by
 obtain⟨foc,k,σ⟩:=c
 replace h:=fun x=>(h x).get
 refine⟨?_⟩
 replace hc:=(O1 hc).1
 unfold Pu at hc
 split at hc
 ·rename_i ops o ho
  split at hc
  ·cases hc
  ·cases hc
  ·rename_i hns hnm
   split at hc
   ·rename_i hw
    simp only[Bool.and_eq_true]at hw
    injection hc with hc
    unfold Na at ho
    simp only at ho
    split at ho
    ·rename_i ops' i l'
     cases hoi:ops'[i]? with
     |none=>rw[hoi]at ho;cases ho
     | some o'=>
      rw[hoi]at ho
      simp only[Option.map_some,Option.some.injEq,Prod.mk.injEq]at ho
      obtain⟨rfl,rfl⟩:=ho
      intro hwf β a w hr
      show wpOpsIn Fe 0 P ops' (post P Q k) (i::l') a w
      rw[wpOpsIn_cons]
      unfold wpOpIn
      simp only[hoi,Lv hr,hw.1,if_true]
      have hrho:∀x∈o'.op.operands,a.eval x=σ.rho x:=fun x hx=>by
       rw[hr.eval,AV.conc_isV];· rfl
       exact List.all_eq_true.1 hw.2 x (by simpa using hx)
      obtain⟨fn,tmps,asg,bd,hrun,hR⟩:=hs w hr.bel fun u hu=>hr.keep u ⟨hu.1,fun b h1 h2 _=>hu.2 b h1 h2⟩
      refine Y8 (nx:= .round l fn tmps asg bd) ((congrArg (fun s=>s.run P w) ((execOp_congr o' (fun cs b e=>hns cs b e) hrho).trans hc)).trans hrun) Zs ?_
      refine⟨fun h=>(by cases h),hR.mono fun e w' he=> ?_⟩
      obtain⟨x,rfl,hch,hG⟩:=he
      simp only[Qp,Lh,hoi,Option.bind_some]at h
      exact h x (hwf.put _ (by intro k hk;simp[AV.ids]at hk)) β _ w' ((hr.mut hL hch hG (hΦ x)).put o'.dst (.v (val x)))
    ·cases hf
    ·cases ho
   ·cases hc
 ·cases hc
end
def C4(Φ:World→Prop):Prop:=∀wa w:World,wa.heap.size≤w.heap.size→(∀(b:Nat) cs ty own,wa.heap[b]? =some (.cells cs ty own)→w.heap[b]? =wa.heap[b]?)→Φ wa→Φ w
def I3(P:Program)(W:World)(gf:FuncId)(lb:Array Value){α:Type}(encs:α→Array Value)(xs:List α)(Pre:World→Prop):Prop:=
 ∀(l:Nat) (ι:Type) (J:ι→Nat→World→Prop) (L:ι→List Nat) (G:ι→ι→World→Prop) (s0:ι) (w:World),
  Below W.heap.size W w→(∀s k u,J s k u→Pre u)→(∀s k,Uv W (L s) (J s k))→(∀s k s',Tt (L s) (J s k) (G s s') (J s' (k+1)))→
  (∀s k x u,Below W.heap.size W u→(∀u',Lat W u u'→J s k u')→xs[k]? =some x→YieldAt Fe 0 P l (encs x) u (Ky u (L s) (fun _:ι=> .bool true) (G s)))→
  (∀u,Lat W w u→J s0 0 u)→
  Calls P gf (#[.func (.yield l) #[] #[]]++lb) w fun e w'=>(∃v,e= .returned v)∧Below W.heap.size W w'∧w.heap.size≤w'.heap.size∧∃s,∀u,Lat W w' u→J s xs.length u
def Yb(fn:FuncId)(tmps:Array Value)(ps:Array Tmp)(assign body:Code)(D:Nat)(st:LoopState):Loop:={state:=st,pending:=none,fn,tmps,params:=ps,assign,body,defers:=D}
def RF(W w0:World)(l:Nat)(r:Loop)(u:World):Prop:=w0.heap.size≤u.heap.size∧(∀b,W.heap.size≤b→b<w0.heap.size→b≠l→u.heap[b]? =w0.heap[b]?)∧u.heap[l]? =some (.loop r)
def rndA [Rnd](P:Program)(body:Code)(l:Nat)(R:Ending→World→Prop):Exit→Act→World→Prop:=
 Exit.then (fun a₁ w₁=>∃w₂,(Instr.beginRound l).run P w₁= .ok () w₂∧body.wpIn Fe 0 P (roundPost P l R) a₁ w₂) (fun _ _ _=>False)
section
variable{P:Program}{W w0:World}{Φ:World→Prop}{c:Md}{R:Ending→World→Prop}{l D:Nat}{fn:FuncId}{tmps:Array Value}{ps:Array Tmp}{assign body:Code}
theorem O7.putL{Δ:List Deferred}{β:Nat→Nat}{σ:AS}{a:Act}{w:World}{r r':Loop}(hr:O7 Δ W β σ (RF W w0 l r) a w)(hl:W.heap.size≤l):O7 Δ W β σ (RF W w0 l r') a (w.putObj l (.loop r')):=by
 have h0:=hr.phi.2.2
 have hlt:l<w.heap.size:=(Array.getElem?_eq_some_iff.1 h0).1
 have hb:∀k,(σ.box k).isSome=true→β k≠l:=fun k hk e=>by
  obtain⟨cs,hcs⟩:=Option.isSome_iff_exists.1 hk
  obtain⟨_,ty,hh⟩:=hr.box k cs hcs
  rw[e,h0]at hh;cases hh
 refine⟨hr.tmps,hr.defers,⟨hr.bel.os,hr.bel.tape,hr.bel.output,by rw[World.putObj_size];exact hr.bel.size,fun k hk=>by rw[World.putObj_heap_other Zo];exact hr.bel.block k hk⟩,fun k cs hk=> ?_,hr.inj,fun w' hw=> ?_⟩
 ·obtain⟨h1,ty,h2⟩:=hr.box k cs hk
  exact⟨h1,ty,by rw[World.putObj_heap_other (hb k (by rw[hk];rfl))];exact h2⟩
 ·have hs:=hw.size
  rw[World.putObj_size]at hs
  have hk:=hr.keep (w'.putObj l (.loop r)) ⟨by rw[World.putObj_size];exact hs,fun b h1 h2 h3=>by
   by_cases e:b=l
   ·subst e;rw[World.putObj_heap_same Zo,h0]
   ·rw[World.putObj_heap_other e,hw.heap b h1 (by rw[World.putObj_size];exact h2) h3,World.putObj_heap_other e]⟩
  refine⟨by have:=hk.1;rw[World.putObj_size]at this;exact this,fun b h1 h2 h3=> ?_,?_⟩
  ·have:=hk.2.1 b h1 h2 h3;rw[World.putObj_heap_other h3]at this;exact this
  ·rw[hw.heap l hl (by rw[World.putObj_size];exact hlt) hb,World.putObj_heap_same hlt]
theorem K0.begin [Rnd](he:Hf c=true)(hl:W.heap.size≤l)(h:K0 P [] W (roundPost P l R) (RF W w0 l (Yb fn tmps ps assign body D .busy)) ⟨.code body,[],c.st⟩):
 K0 P [] W (rndA P body l R) (RF W w0 l (Yb fn tmps ps assign body D .ready)) c:=by
 obtain⟨foc,kk,σ⟩:=c
 replace h:=h.get
 refine⟨?_⟩
 unfold Hf at he
 split at he
 ·rename_i h1 h2
  simp only at h1 h2
  subst h1;subst h2
  intro hwf β a w hr
  exact⟨_,run_beginRound hr.phi.2.2 rfl,h hwf β a _ (hr.putL hl)⟩
 ·cases he
theorem K0.rend [Rnd]{ι:Type}{G:ι→World→Prop}{L:List Nat}(s:ι)(he:Hf c=true)(hl:W.heap.size≤l)(hlt:l<w0.heap.size)(hlL:l∉L)(h0:w0.heap[l]? =some (.loop (Yb fn tmps ps assign body D .ready)))(hW:Below W.heap.size W w0)
 (hE:∀w,Below W.heap.size W w→(∀u,Lat W w u→Φ u)→w.heap[l]? =some (.loop (Yb fn tmps ps assign body D .busy))∧w0.heap.size≤w.heap.size∧(∀b,W.heap.size≤b→b<w0.heap.size→b≠l→b∉L→w.heap[b]? =w0.heap[b]?)∧∀u,w.heap.size≤u.heap.size→(∀b,b∈L∨(w0.heap.size≤b∧b<w.heap.size)→u.heap[b]? =w.heap[b]?)→G s u):
 K0 P [] W (roundPost P l (Ky w0 L (fun _:ι=> .bool true) G)) Φ c:=by
 obtain⟨foc,kk,σ⟩:=c
 refine⟨?_⟩
 unfold Hf at he
 split at he
 ·rename_i h1 h2
  simp only at h1 h2
  subst h1;subst h2
  intro hwf β a w hr
  obtain⟨e1,e2,e3,e4⟩:=hE w hr.bel fun u hu=>hr.keep u ⟨hu.1,fun b h1 h2 _=>hu.2 b h1 h2⟩
  refine⟨_,_,run_endRound none e1,s,rfl,⟨hr.bel.os.trans hW.os.symm,hr.bel.tape.trans hW.tape.symm,hr.bel.output.trans hW.output.symm,by rw[World.putObj_size];exact e2,fun k hk hkL=> ?_⟩,fun u k1 k2=>e4 u (by rw[World.putObj_size]at k1;exact k1) fun b hb=> ?_⟩
  ·by_cases e:k=l
   ·subst e;rw[World.putObj_heap_same Zo,h0];rfl
   ·rw[World.putObj_heap_other e]
    rcases Nat.lt_or_ge k W.heap.size with h1|h1
    ·rw[hr.bel.block k h1,hW.block k h1]
    ·exact e3 k h1 hk e hkL
  ·rw[k2 b (by rw[World.putObj_size];exact hb),World.putObj_heap_other]
   rintro rfl
   rcases hb with h1|h1
   ·exact hlL h1
   ·omega
 ·cases he
def Zj(c:Md):Option (FuncId×Array Value×Array Tmp×Code×Code):=
 match c.foc with
 | .code (.rangeFunc g ps assign body)=>match c.st.eval g with
  | .v (.func (.func gf) first lb)=>if first.isEmpty&&c.st.tmps.all AV.isV then some (gf,lb,ps,assign,body)else none
  |_=>none
 |_=>none
def rTmps(ps:Array Tmp)(vs:Array Value)(l:List AV):List AV:=(ps.toList.zip vs.toList).foldl (fun t q=>t.set q.1 (.v q.2)) l
def amDone(c:Md):Md:=⟨.out .normal,c.k,⟨c.st.tmps,fun _=>none⟩⟩
theorem rTmps_ok{β:Nat→Nat}:∀(q:List (Tmp×Value)) (l:List AV) (t:Array Value),t.toList=l.map (AV.conc β)→(q.foldl (fun t (p,v)=>t.setIfInBounds p v) t).toList=(q.foldl (fun t q=>t.set q.1 (.v q.2)) l).map (AV.conc β)
 | [],_,_,h=>h
 |x::q,l,t,h=>rTmps_ok q _ _ (by rw[Array.toList_setIfInBounds,h,List.map_set];rfl)
theorem rTmps_v:∀(q:List (Tmp×Value)) (l:List AV),l.all AV.isV=true→(q.foldl (fun t q=>t.set q.1 (.v q.2)) l).all AV.isV=true
 | [],_,h=>h
 |x::q,l,h=>rTmps_v q _ (List.all_eq_true.2 fun y hy=>by
  rcases List.mem_or_eq_of_mem_set hy with hy|rfl
  ·exact List.all_eq_true.1 h y hy
  ·rfl)
theorem wf_plain{l:List AV}(h:l.all AV.isV=true):(AS.mk l fun _=>none).wf:=by
 refine⟨fun x hx k hk=> ?_,fun j cs hj=>by cases hj⟩
 have:=List.all_eq_true.1 h x hx
 cases x<;>first|(simp[AV.ids]at hk;done)|cases this
theorem conc_plain{β β':Nat→Nat}{l:List AV}(h:l.all AV.isV=true):l.map (AV.conc β)=l.map (AV.conc β'):=
 List.map_congr_left fun x hx=>by
  have:=List.all_eq_true.1 h x hx
  cases x<;>first|rfl|cases this
end
theorem K0.range{P:Program}{Δ:List Deferred}{W:World}{Q:Exit→Act→World→Prop}{Φ:World→Prop}{c:Md}{gf:FuncId}{lb:Array Value}{ps:Array Tmp}{assign body:Code}{α:Type}{encs:α→Array Value}{xs:List α}{Pre:World→Prop}
 (ι:Type) (J:ι→Nat→World→Prop) (L:ι→List Nat) (G:ι→ι→World→Prop) (s0:ι)
 (hc:Zj c=some (gf,lb,ps,assign,body)) (hit:∀w,Below W.heap.size W w→Φ w→I3 P W gf lb encs xs Pre) (he:∀args w,(callFunc gf args).run P w= .ok (.enter gf args) w) (hps:∀x,(encs x).size=ps.size)
 (hPre:∀s k u,J s k u→Pre u) (hL:∀s k,Uv W (L s) (J s k)) (hJ:∀s k s',Tt (L s) (J s k) (G s s') (J s' (k+1))) (hcel:∀s k,C4 (J s k)) (h0:∀w,Φ w→J s0 0 w)
 (hb:∀(l:Nat) (s:ι) (k:Nat) (x:α) (w0:World) (fn:FuncId) (tmps:Array Value) (D:Nat),Below W.heap.size W w0→W.heap.size≤l→l<w0.heap.size→l∉L s→w0.heap[l]? =some (.loop (Yb fn tmps ps assign body D .ready))→xs[k]? =some x→
  (∀r u,RF W w0 l r u→J s k u)→∀[R:Rnd],R.r=some l→
  K0 P [] W (rndA P body l (Ky w0 (L s) (fun _:ι=> .bool true) (G s))) (RF W w0 l (Yb fn tmps ps assign body D .ready)) ⟨.code assign,[],⟨rTmps ps (encs x) c.st.tmps,fun _=>none⟩⟩)
 (hd:∀s D,W.heap.size≤D→K0 P (⟨.collected D,#[]⟩::Δ) W Q (fun u=>J s xs.length u∧u.heap[D]? =some (.deferred (some []))) (amDone c)):K0 P Δ W Q Φ c:=by
 obtain⟨foc,k,σ⟩:=c
 replace hd:=fun s D hD=>(hd s D hD).get
 refine⟨?_⟩
 unfold Zj at hc
 simp only at hc hb
 split at hc
 ·rename_i g ps' asg' bd'
  split at hc
  ·rename_i gf' first lb' hg
   split at hc
   ·rename_i hpl
    simp only[Bool.and_eq_true]at hpl
    simp only[Option.some.injEq,Prod.mk.injEq]at hc
    obtain⟨rfl,rfl,rfl,rfl,rfl⟩:=hc
    intro hwf β a w hr
    show(Code.rangeFunc g ps' asg' bd').wpIn Fe 0 P (post P Q k) a w
    refine wpIn_rangeFunc ?_
    intro fn _
    obtain⟨rec,hrec⟩:∃rec:LoopState→Loop,rec=Yb fn a.tmps ps' asg' bd' w.heap.size:=⟨_,rfl⟩
    obtain⟨w1,hw1⟩:∃w1,(w.alloc (.deferred (some []))).alloc (.loop (rec .ready))=w1:=⟨_,rfl⟩
    have hsz:w1.heap.size=w.heap.size+2:=by rw[←hw1];simp
    have hwl:W.heap.size≤w.heap.size:=hr.bel.size
    have hl1:w1.heap[w.heap.size+1]? =some (.loop (rec .ready)):=by
     rw[←hw1];have:=World.alloc_heap_new (w.alloc (.deferred (some []))) (.loop (rec .ready));rwa [World.size_alloc]at this
    have hk1:w1.heap[w.heap.size]? =some (.deferred (some [])):=by
     rw[←hw1];exact(Below.heap_alloc _ _ _ Zs).trans (World.alloc_heap_new w _)
    have hbel:Below W.heap.size W w1:=by
     rw[←hw1];exact hr.bel.trans (((Below.refl _ w).alloc hwl _).alloc Zp _)
    have hold:∀b,b<w.heap.size→w1.heap[b]? =w.heap[b]? :=fun b hb=>by
     rw[←hw1,Below.heap_alloc _ _ _ Zp,Below.heap_alloc _ _ _ hb]
    have hag:∀u,Lat W w1 u→J s0 0 u:=fun u hu=>h0 u (hr.keep u ⟨by have:=hu.1;omega,fun b h1 h2 _=>by rw[hu.2 b h1 Zo];exact hold b h2⟩)
    have hfirst:first= #[]:=Array.isEmpty_iff.1 hpl.1
    subst hfirst
    have hge:a.eval g= .func (.func gf') #[] lb':=by rw[hr.eval,hg];rfl
    obtain⟨JJ,hJJ⟩:∃JJ:ι→Nat→World→Prop,JJ=fun s k u=>J s k u∧u.heap[w.heap.size+1]? =some (.loop (rec .ready))∧u.heap[w.heap.size]? =some (.deferred (some [])):=⟨_,rfl⟩
    have hnl:∀s k u,JJ s k u→w.heap.size+1∉L s∧w.heap.size∉L s:=fun s k u h=>by
     rw[hJJ]at h
     refine⟨fun hm=> ?_,fun hm=> ?_⟩
     ·obtain⟨_,cs,ty,own,hh⟩:=hL s k u h.1 _ hm
      rw[h.2.1]at hh;cases hh
     ·obtain⟨_,cs,ty,own,hh⟩:=hL s k u h.1 _ hm
      rw[h.2.2]at hh;cases hh
    refine⟨w.heap.size+1,[{target:= .collected w.heap.size,args:= #[]}],w1,{target:= .fn (.func gf') lb',args:= #[.func (.yield (w.heap.size+1)) #[] #[]]},w1,gf',
     #[.func (.yield (w.heap.size+1)) #[] #[]]++lb',w1,?_,?_,fun _ _=>trivial,?_,fun h=>(by cases h),?_⟩
    ·rw[←hw1,hrec];exact run_enterLoop_outer _ _ _ _ _
    ·simp only[resolve,hge]
     simp[go_sem]
    ·simp[invoke,go_sem,he]
    ·refine callsFe.2 (Calls.mono (hit w hr.bel hr.phi (w.heap.size+1) ι JJ L G s0 w1 hbel (fun s k u h=>hPre s k u (by rw[hJJ]at h;exact h.1)) (fun s k u h=>hL s k u (by rw[hJJ]at h;exact h.1)) ?_ ?_ ?_) ?_)
     ·intro s j s' wa u e1 e2 hja hG
      have hn:=hnl s j wa hja
      rw[hJJ]at hja ⊢
      exact⟨hJ s j s' wa u e1 e2 hja.1 hG,by rw[←e2 _ hn.1];exact hja.2.1,by rw[←e2 _ hn.2];exact hja.2.2⟩
     ·intro s j x u hu hju hx
      have hj0:=hju u ⟨Nat.le_refl _,fun _ _ _=>rfl⟩
      have hn:=hnl s j u hj0
      have hj0':=hj0
      rw[hJJ]at hj0'
      obtain⟨hj1,hj2,hj3⟩:=hj0'
      have hlt:w.heap.size+1<u.heap.size:=(Array.getElem?_eq_some_iff.1 hj2).1
      have hy:=run_yield (P:=P) (args:=encs x) hj2 (by rw[hrec];exact hps x)
      rw[hrec]at hy hj2
      refine⟨fn,_,asg',bd',hy,roundIn_of_wpIn trivial ?_⟩
      letI R:Rnd:=⟨some (w.heap.size+1)⟩
      have hRF:∀r v,RF W u (w.heap.size+1) r v→J s j v:=fun r v hv=>by
       have h1:=hju (v.putObj (w.heap.size+1) (.loop (rec .ready))) ⟨by rw[World.putObj_size];exact hv.1,fun b q1 q2=>by
        by_cases e:b=w.heap.size+1
        ·subst e;rw[World.putObj_heap_same (by have:=hv.1;omega),hrec];exact hj2.symm
        ·rw[World.putObj_heap_other e];exact hv.2.1 b q1 q2 e⟩
       rw[hJJ]at h1
       refine hcel s j _ _ (by rw[World.putObj_size];exact Nat.le_refl _) (fun b cs ty own hcs=> ?_) h1.1
       by_cases e:b=w.heap.size+1
       ·subst e;rw[World.putObj_heap_same (by have:=hv.1;omega)]at hcs;cases hcs
       ·rw[World.putObj_heap_other e]
      have hgood:=(hb (w.heap.size+1) s j x u fn a.tmps w.heap.size hu Zo hlt hn.1 hj2 hx hRF (R:=R) rfl).get
      refine hgood (wf_plain (rTmps_v _ _ hpl.2)) (fun _=>0) _ u ⟨?_,rfl,hu,fun k cs hk=>(by cases hk),fun k k' hk=>(by cases hk),fun v hv=>⟨hv.size,fun b q1 q2 _=>hv.heap b q1 q2 (fun k hk=>by cases hk),?_⟩⟩
      ·have key:=rTmps_ok (β:=fun _=>0) (ps'.toList.zip (encs x).toList) σ.tmps a.tmps (by rw[hr.tmps];exact conc_plain hpl.2)
       refine Eq.trans (congrArg Array.toList ?_) key
       rw[←Array.toList_zip,Array.foldl_toList];rfl
      ·rw[hv.heap _ Zo hlt (fun k hk=>by cases hk)];exact hj2
     ·intro u hu
      rw[hJJ]
      exact⟨hag u hu,by rw[hu.2 _ Zo Zo];exact hl1,by rw[hu.2 _ hwl Zo];exact hk1⟩
     ·rintro e w' ⟨⟨v,rfl⟩,hbw,hsw,s,hjs⟩
      have hj0:=hjs w' ⟨Nat.le_refl _,fun _ _ _=>rfl⟩
      rw[hJJ]at hj0
      have hlt:w.heap.size+1<w'.heap.size:=by omega
      refine⟨none,_,by have:=run_endLoop (P:=P) hj0.2.1 (by rw[hrec];simp[Yb]);rw[hrec]at this;exact this,?_⟩
      refine hd s w.heap.size hwl (wf_plain hpl.2) β _ _ ⟨hr.tmps,by show _::a.defers=_;rw[hr.defers],⟨hbw.os,hbw.tape,hbw.output,by rw[World.putObj_size];exact hbw.size,fun k hk=>by rw[World.putObj_heap_other Zo];exact hbw.block k hk⟩,fun k cs hk=>(by cases hk),fun k k' hk=>(by cases hk),fun u hu=> ?_⟩
      have hsu:=hu.size
      rw[World.putObj_size]at hsu
      have h1:=hjs (u.putObj (w.heap.size+1) (.loop (rec .ready))) ⟨by rw[World.putObj_size];exact hsu,fun b q1 q2=>by
       by_cases e:b=w.heap.size+1
       ·subst e;rw[World.putObj_heap_same Zo];exact hj0.2.1.symm
       ·rw[World.putObj_heap_other e,hu.heap b q1 (by rw[World.putObj_size];exact q2) (fun k hk=>by cases hk),World.putObj_heap_other e]⟩
      rw[hJJ]at h1
      refine⟨hcel s _ _ _ (by rw[World.putObj_size];exact Nat.le_refl _) (fun b cs ty own hcs=> ?_) h1.1,?_⟩
      ·by_cases e:b=w.heap.size+1
       ·subst e;rw[World.putObj_heap_same Zo]at hcs;cases hcs
       ·rw[World.putObj_heap_other e]
      ·have:=h1.2.2
       rw[World.putObj_heap_other Zo]at this
       exact this
   ·cases hc
  ·cases hc
 ·cases hc
theorem K0.enterM{P:Program}{f:FuncId}{fn:Func}{args:Array Value}{W w:World}{R:Ending→World→Prop}(hf:P.funcs[f]? =some fn)(hb:fn.body.isSome=true)(hW:Below W.heap.size W w)
 (h:K0 P [] W (bodyPostM Fence.wide 0 P fn R) (Lat W w) (R3 fn args)):Calls P f args w R:=by
 obtain⟨c,hc⟩:=Option.isSome_iff_exists.1 hb
 replace h:=h.get
 simp only[Qp,R3,hc,Option.getD_some]at h
 refine callsIn_wide.1 (callsIn_of_wp_marks (n:=0) hf hc trivial (h ?_ (fun _=>0) _ w ?_))
 ·refine⟨fun x hx k hk=> ?_,fun j cs hj=>by cases hj⟩
  simp only[List.mem_append,List.mem_map,List.mem_replicate]at hx
  rcases hx with ⟨q,_,rfl⟩|⟨_,rfl⟩<;>simp[AV.ids]at hk
 ·refine⟨?_,rfl,hW,fun k cs hk=>(by cases hk),fun k k' hk=>(by cases hk),fun w' hw=>⟨hw.size,fun b h1 h2=>hw.heap b h1 h2 (fun k hk=>by cases hk)⟩⟩
  simp[Function.comp_def,AV.conc]
theorem K0.retM{P:Program}{W:World}{c:Md}{fn:Func}{R:Ending→World→Prop}{v:Value}{J:World→Prop}{D:Nat}(hcel:C4 J)(hD:W.heap.size≤D)(h:E9 P fn c=some v)
 (hR:∀w,Below W.heap.size W w→(∀u,Lat W w u→J u)→R (.returned v) w):K0 P [⟨.collected D,#[]⟩] W (bodyPostM Fence.wide 0 P fn R) (fun u=>J u∧u.heap[D]? =some (.deferred (some []))) c:=by
 have key:∀{σ:AS} {β:Nat→Nat} {a:Act} {w:World} {xs:List Value},σ.wf→O7 [⟨.collected D,#[]⟩] W β σ (fun u=>J u∧u.heap[D]? =some (.deferred (some []))) a w→Sw P σ fn.results.toList=some xs→Iv xs=v→LeavesInM Fence.wide 0 P fn a.tmps R a.defers .returning w:=by
  intro σ β a w xs hwf hr hx hv
  rw[hr.defers]
  have h0:=hr.phi.2
  have hlt:D<w.heap.size:=(Array.getElem?_eq_some_iff.1 h0).1
  have hb:∀k,(σ.box k).isSome=true→β k≠D:=fun k hk e=>by
   obtain⟨cs,hcs⟩:=Option.isSome_iff_exists.1 hk
   obtain⟨_,ty,hh⟩:=hr.box k cs hcs
   rw[e,h0]at hh;cases hh
  refine⟨by simp,.inl ⟨D,_,rfl,run_takeDeferred h0,?_⟩⟩
  have hr2:O7 [⟨.collected D,#[]⟩] W β σ (fun _=>True) a (w.putObj D (.deferred none)):=⟨hr.tmps,hr.defers,⟨hr.bel.os,hr.bel.tape,hr.bel.output,by rw[World.putObj_size];exact hr.bel.size,fun k hk=>by rw[World.putObj_heap_other Zo];exact hr.bel.block k hk⟩,fun k cs hk=>by
   obtain⟨h1,ty,h2⟩:=hr.box k cs hk
   exact⟨h1,ty,by rw[World.putObj_heap_other (hb k (by rw[hk];rfl))];exact h2⟩,hr.inj,fun _ _=>trivial⟩
  have hres:=Ya hx hr2 hwf
  rw[hv]at hres
  refine⟨v,hres,hR _ hr2.bel fun u hu=> ?_⟩
  have hsu:=hu.1
  rw[World.putObj_size]at hsu
  have h1:=hr.keep (u.putObj D (.deferred (some []))) ⟨by rw[World.putObj_size];exact hsu,fun b q1 q2 _=>by
   by_cases e:b=D
   ·subst e;rw[World.putObj_heap_same Zo,h0]
   ·rw[World.putObj_heap_other e,hu.2 b q1 (by rw[World.putObj_size];exact q2),World.putObj_heap_other e]⟩
  refine hcel _ _ (by rw[World.putObj_size];exact Nat.le_refl _) (fun b cs ty own hcs=> ?_) h1.1
  by_cases e:b=D
  ·subst e;rw[World.putObj_heap_same Zo]at hcs;cases hcs
  ·rw[World.putObj_heap_other e]
 obtain⟨foc,k,σ⟩:=c
 refine⟨?_⟩
 unfold E9 at h
 split at h
 ·rename_i hf hk
  simp only at hf hk
  subst hf;subst hk
  obtain⟨xs,hx,hv⟩:=Option.map_eq_some_iff.1 h
  exact fun hwf β a w hr=>key hwf hr hx hv
 ·rename_i hf hk
  simp only at hf hk
  subst hf;subst hk
  obtain⟨xs,hx,hv⟩:=Option.map_eq_some_iff.1 h
  exact fun hwf β a w hr=>key hwf hr hx hv
 ·cases h
theorem T4{w:World}{a:Addr}{v:Value}(h:w.cell? a=some v):∃cs ty own,w.heap[a.block]? =some (.cells cs ty own):=by
 cases ho:w.heap[a.block]? with
 |none=>simp[World.cell?,ho]at h
 |some o=>
  cases o with
  |cells cs ty own=>exact⟨_,_,_,rfl⟩
  |_=>simp[World.cell?,ho]at h
def Kq{α:Type}(w:World)(A:Option Addr)(n s:Nat)(cl:α→List Value)(l:List α):Prop:=l.length=n∧∀(k:Nat) (x:α),l[k]? =some x→∃ad,A=some ad∧∀(j:Nat) (v:Value),(cl x)[j]? =some v→w.cell? ((ad.add (k*s)).add j)=some v
theorem Kq.below{α:Type}{w w1:World}{A:Option Addr}{n s:Nat}{cl:α→List Value}{l:List α}(h:Kq w A n s cl l)(hw:Below w.heap.size w w1):Kq w1 A n s cl l:=
 ⟨h.1,fun k x hk=>by obtain⟨ad,h1,h2⟩:=h.2 k x hk;exact⟨ad,h1,fun j v hj=>Kt hw (h2 j v hj)⟩⟩
theorem T6(a:Addr)(m n:Nat):(a.add m).add n=a.add (m+n):=by
 cases a;by_cases h1:m=0<;>by_cases h2:n=0<;>simp[Addr.add,h1,h2,Nat.add_assoc]
theorem Pm{α:Type}{s:Nat}{cl:α→List Value}(hs:∀x,(cl x).length=s):∀(l:List α) (k:Nat) (x:α) (j:Nat) (v:Value),l[k]? =some x→(cl x)[j]? =some v→(l.flatMap cl)[k*s+j]? =some v
 | [],k,x,j,v,h,_=>by simp at h
 |y::l,0,x,j,v,h,hj=>by
  simp only[List.getElem?_cons_zero,Option.some.injEq]at h
  subst h
  have hl:=(List.getElem?_eq_some_iff.1 hj).1
  rw[List.flatMap_cons,Nat.zero_mul,Nat.zero_add,List.getElem?_append_left hl];exact hj
 |y::l,k+1,x,j,v,h,hj=>by
  rw[List.getElem?_cons_succ]at h
  have ih:=Pm hs l k x j v h hj
  rw[List.flatMap_cons,List.getElem?_append_right (by rw[hs];rw[Nat.succ_mul];omega),hs]
  rw[show(k+1)*s+j-s=k*s+j by rw[Nat.succ_mul];omega];exact ih
theorem Mu.rows{α:Type}{w:World}{B n s:Nat}{A:Option Addr}{cl:α→List Value}{l:List α}(hs:∀x,(cl x).length=s)(hl:l.length=n)(h:Mu w B s A n (l.flatMap cl)):Kq w A n s cl l:=by
 refine⟨hl,fun k x hk=> ?_⟩
 have hk2:=(List.getElem?_eq_some_iff.1 hk).1
 obtain⟨ad,hA,_,hc⟩:=h.2 Zo
 refine⟨ad,hA,fun j v hj=> ?_⟩
 rw[show(ad.add (k*s)).add j=ad.add (k*s+j)from T6 ad _ _]
 exact hc _ _ (Pm hs l k x j v hk hj)
theorem Kq.lit{α:Type}{w:World}{g s:Nat}{cl:α→List Value}{l:List α}{t:TypeId}(hs:∀x,(cl x).length=s)(h:Kv t (l.flatMap cl).toArray g w):Kq w (some ⟨g,0,none⟩) l.length s cl l:=by
 refine⟨rfl,fun k x hk=>⟨_,rfl,fun j v hj=> ?_⟩⟩
 unfold Kv at h
 rw[Addr.add_mid,Addr.add_mid]
 simp only[World.cell?,h,Option.isSome_none,Bool.false_eq_true,if_false]
 rw[List.getElem?_toArray,Nat.zero_add]
 exact Pm hs l k x j v hk hj
theorem Nn{α:Type}{l:List α}{k:Nat}{x:α}(hx:l[k]? =some x):l.drop k=x::l.drop (k+1):=by
 obtain⟨h,e⟩:=List.getElem?_eq_some_iff.1 hx
 rw[←e];exact List.drop_eq_getElem_cons h
def Kf(p:Pt):List Value:=[.int .i64 p.1,.int .i64 p.2]
def vP(p:Pt):Bool:=Lt p.1 p.2
abbrev Ls(p:Pt):Value:=pt p.1 p.2
section
variable{w:World}{X Y:Int}{A:Option Addr}{n c k:Nat}{l:List Pt}{B:Bool}
theorem Pe{ad:Addr}(hA:A=some ad)(hk:k<n):(Kc 108 (.slice A n c) k).run Tryz.prog w= .ok (.value (.pointer (some (ad.add (k*2))))) w:=by
 rw[hA];exact Lg (elem:=35) Zk Zk hk
theorem R1{ad:Addr}{p:Pt}(h:∀(j:Nat) (v:Value),(Kf p)[j]? =some v→w.cell? (ad.add j)=some v):(Kd 35 ad).run Tryz.prog w= .ok (.value (Ls p)) w:=
 N7 (vs:=Kf p) Zk Zk h
theorem bad_pv(hB:Lt X Y=B):Calls Tryz.prog 225 #[pt X Y] w (K3 w (fun _:Unit=> .bool (!B)) fun _ _=>True):=by
 refine K0.enter Tryz.func225 rfl ?_
 refine ZR ?_
 refine ZC (fun w1 hw h=>Nh hB) fun u=> ?_
 exact ZW (.bool (!B))
theorem index_pv(hr:Kq w A n 2 Kf l)(hn:n≤1000000)(hB:l.all vP=B):Calls Tryz.prog 290 #[.slice A n c,.func (.func 225) #[] #[]] w (K3 w (fun z:{z:Int // decide (z≥0)= !B}=> .int .i64 z.1) fun _ _=>True):=by
 refine K0.enter Tryz.func290 rfl ?_
 refine ZR ?_
 refine K0.loop (ι:={k:Nat // k≤n∧(l.drop k).all vP=B}) 19 (fun k=>⟨[(0,.v (.slice A n c)),(1,.v (.func (.func 225) #[] #[])),(7,.v (.int .i64 n)),(8,.v (.int .i64 k.1))],[]⟩) (fun _ _=>True) (fun k=>n-k.1) (⟨0,Nat.zero_le _,hB⟩) Zk (fun _=>by kernel_rfl) ⟨Zk,Zk,Zk⟩ (fun _ _=>trivial) ?_
 rintro⟨k,hk,hall⟩ gg
 by_cases hlt:k<n
 case neg=>
  have:B=true:=by rw[←hall,List.drop_of_length_le (by rw[hr.1];omega)];rfl
  refine ZR ?_
  refine ZJ (decide ((k:Int)<(n:Int))) false (decide_eq_false Zo) ?_
  refine K0.leave Zk ?_
  refine ZR ?_
  refine ZV (.int .i64 (-1)) (fun w1 hw h=>⟨⟨-1,by rw[this];rfl⟩,rfl,hw,fun _ _ _=>trivial⟩)
 obtain⟨p,hp⟩:∃v,l[k]? =some v:=⟨_,List.getElem?_eq_getElem (by rw[hr.1];exact hlt)⟩
 obtain⟨ad,hA,hc⟩:=hr.2 k p hp
 rw[Nn hp,List.all_cons]at hall
 refine ZR ?_
 refine ZJ (decide ((k:Int)<(n:Int))) true (decide_eq_true Zo) ?_
 refine ZA (Kc 108 (.slice A n c) k) (.pointer (some (ad.add (k*2)))) (fun w1 hw h=>Pe hA hlt) ?_
 refine ZA (Kd 35 (ad.add (k*2))) (Ls p) (fun w1 hw h=>R1 fun j v hj=>Kt hw (hc j v hj)) ?_
 cases hv:vP p
 ·rw[hv,Bool.false_and]at hall
  refine ZC (fun w1 hw h=>bad_pv hv) fun u=> ?_
  refine ZI true ?_
  refine K0.leave Zk ?_
  refine ZR ?_
  refine ZV (.int .i64 k) (fun w1 hw h=>⟨⟨k,by rw[←hall];exact decide_eq_true Zo⟩,rfl,hw,fun _ _ _=>trivial⟩)
 rw[hv,Bool.true_and]at hall
 refine ZC (fun w1 hw h=>bad_pv hv) fun u=> ?_
 refine ZI false ?_
 refine K0.slot 8 (.int .i64 (IntKind.i64.wrap ((k:Int)+1))) (.int .i64 ((k+1:Nat):Int)) Zk (by rw[K7 hlt Zo]) ?_
 refine K0.next (⟨k+1,hlt,hall⟩) Zk (by show n- (k+1)<n-k;omega) ⟨Zk,Zk,Zk⟩ (fun _ _=>trivial)
theorem cont_pv(hr:Kq w A n 2 Kf l)(hn:n≤1000000)(hB:l.all vP=B):Calls Tryz.prog 224 #[.slice A n c,.func (.func 225) #[] #[]] w (K3 w (fun _:Unit=> .bool (!B)) fun _ _=>True):=by
 refine K0.enter Tryz.func224 rfl ?_
 refine ZR ?_
 refine ZC (fun w1 hw h=>index_pv (c:=c) (hr.below hw) hn hB) fun z=> ?_
 exact ZX (.bool (decide (z.1≥0))) (by rw[z.2])
theorem bad_iv(hB:Lt X Y=B):Calls Tryz.prog 234 #[pt X Y] w (K3 w (fun _:Unit=> .bool (!B)) fun _ _=>True):=by
 refine K0.enter Tryz.func234 rfl ?_
 refine ZR ?_
 refine ZC (fun w1 hw h=>Nh hB) fun u=> ?_
 exact ZW (.bool (!B))
theorem index_iv(hr:Kq w A n 2 Kf l)(hn:n≤1000000)(hB:l.all vP=B):Calls Tryz.prog 290 #[.slice A n c,.func (.func 234) #[] #[]] w (K3 w (fun z:{z:Int // decide (z≥0)= !B}=> .int .i64 z.1) fun _ _=>True):=by
 refine K0.enter Tryz.func290 rfl ?_
 refine ZR ?_
 refine K0.loop (ι:={k:Nat // k≤n∧(l.drop k).all vP=B}) 19 (fun k=>⟨[(0,.v (.slice A n c)),(1,.v (.func (.func 234) #[] #[])),(7,.v (.int .i64 n)),(8,.v (.int .i64 k.1))],[]⟩) (fun _ _=>True) (fun k=>n-k.1) (⟨0,Nat.zero_le _,hB⟩) Zk (fun _=>by kernel_rfl) ⟨Zk,Zk,Zk⟩ (fun _ _=>trivial) ?_
 rintro⟨k,hk,hall⟩ gg
 by_cases hlt:k<n
 case neg=>
  have:B=true:=by rw[←hall,List.drop_of_length_le (by rw[hr.1];omega)];rfl
  refine ZR ?_
  refine ZJ (decide ((k:Int)<(n:Int))) false (decide_eq_false Zo) ?_
  refine K0.leave Zk ?_
  refine ZR ?_
  refine ZV (.int .i64 (-1)) (fun w1 hw h=>⟨⟨-1,by rw[this];rfl⟩,rfl,hw,fun _ _ _=>trivial⟩)
 obtain⟨p,hp⟩:∃v,l[k]? =some v:=⟨_,List.getElem?_eq_getElem (by rw[hr.1];exact hlt)⟩
 obtain⟨ad,hA,hc⟩:=hr.2 k p hp
 rw[Nn hp,List.all_cons]at hall
 refine ZR ?_
 refine ZJ (decide ((k:Int)<(n:Int))) true (decide_eq_true Zo) ?_
 refine ZA (Kc 108 (.slice A n c) k) (.pointer (some (ad.add (k*2)))) (fun w1 hw h=>Pe hA hlt) ?_
 refine ZA (Kd 35 (ad.add (k*2))) (Ls p) (fun w1 hw h=>R1 fun j v hj=>Kt hw (hc j v hj)) ?_
 cases hv:vP p
 ·rw[hv,Bool.false_and]at hall
  refine ZC (fun w1 hw h=>bad_iv hv) fun u=> ?_
  refine ZI true ?_
  refine K0.leave Zk ?_
  refine ZR ?_
  refine ZV (.int .i64 k) (fun w1 hw h=>⟨⟨k,by rw[←hall];exact decide_eq_true Zo⟩,rfl,hw,fun _ _ _=>trivial⟩)
 rw[hv,Bool.true_and]at hall
 refine ZC (fun w1 hw h=>bad_iv hv) fun u=> ?_
 refine ZI false ?_
 refine K0.slot 8 (.int .i64 (IntKind.i64.wrap ((k:Int)+1))) (.int .i64 ((k+1:Nat):Int)) Zk (by rw[K7 hlt Zo]) ?_
 refine K0.next (⟨k+1,hlt,hall⟩) Zk (by show n- (k+1)<n-k;omega) ⟨Zk,Zk,Zk⟩ (fun _ _=>trivial)
theorem cont_iv(hr:Kq w A n 2 Kf l)(hn:n≤1000000)(hB:l.all vP=B):Calls Tryz.prog 224 #[.slice A n c,.func (.func 234) #[] #[]] w (K3 w (fun _:Unit=> .bool (!B)) fun _ _=>True):=by
 refine K0.enter Tryz.func224 rfl ?_
 refine ZR ?_
 refine ZC (fun w1 hw h=>index_iv (c:=c) (hr.below hw) hn hB) fun z=> ?_
 exact ZX (.bool (decide (z.1≥0))) (by rw[z.2])
theorem may_m(hr:Kq w A n 2 Kf l)(hn:n≤1000000)(hB:l.all vP=B):Calls Tryz.prog 161 #[.slice A n c] w (K3 w (fun _:Unit=> .bool B) fun _ _=>True):=by
 refine K0.enter Tryz.func161 rfl ?_
 refine ZR ?_
 refine ZC (fun w1 hw h=>cont_iv (c:=c) (hr.below hw) hn hB) fun u=> ?_
 exact ZX (.bool (!(!B))) (by rw[Bool.not_not])
end
structure TV where
 a:RV
 b:RV
 c:RV
 d:RV
 e:RV
 f:RV
def TV.cl(t:TV):List Value:=t.a.cl++(t.b.cl++(t.c.cl++(t.d.cl++(t.e.cl++t.f.cl))))
@[reducible] def TV.val(t:TV):Value:= .agg t.cl.toArray
structure Mi where
 a:Rat
 b:Rat
 c:Rat
 d:Rat
 e:Rat
 f:Rat
structure S4(t:TV)(T:Mi)(K:Nat)(w:World):Prop where
 a:Ox t.a T.a K w
 b:Ox t.b T.b K w
 c:Ox t.c T.c K w
 d:Ox t.d T.d K w
 e:Ox t.e T.e K w
 f:Ox t.f T.f K w
structure Sb(t:TV)(T:Mi)(K:Nat)(w:World):Prop where
 a:Kh t.a T.a K w
 b:Kh t.b T.b K w
 c:Kh t.c T.c K w
 d:Kh t.d T.d K w
 e:Kh t.e T.e K w
 f:Kh t.f T.f K w
def TV0:TV:=⟨Oc,Oc,Oc,Oc,Oc,Oc⟩
def affI(a b c d:Int):Mi:=⟨(a:Rat),(b:Rat),(c:Rat),(d:Rat),((0:Int):Rat),((0:Int):Rat)⟩
def Oi:Mi:=affI 1 0 0 1
def Y5(T:Mi):List Nat:=[bitsQ T.a,bitsQ T.b,bitsQ T.c,bitsQ T.d,bitsQ T.e,bitsQ T.f]
def Mi.ok(T:Mi):Bool:=(Y5 T).all fun n=>decide (n≤256)
def Mi.det(T:Mi):Rat:=T.a*T.d-T.b*T.c
def Mi.app(T:Mi)(x y:Rat):Rat×Rat:=(T.a*x+T.c*y+T.e,T.b*x+T.d*y+T.f)
def Mi.comp(T U:Mi):Mi:=⟨U.a*T.a+U.c*T.b,U.b*T.a+U.d*T.b,U.a*T.c+U.c*T.d,U.b*T.c+U.d*T.d,(U.app T.e T.f).1,(U.app T.e T.f).2⟩
section
variable{t u:TV}{T U:Mi}{K K':Nat}{w w':World}
theorem Sb.q(h:Sb t T K w):S4 t T K w:=⟨h.a.q,h.b.q,h.c.q,h.d.q,h.e.q,h.f.q⟩
theorem S4.below(h:S4 t T K w)(hb:Below w.heap.size w w'):S4 t T K w':=⟨h.a.below hb,h.b.below hb,h.c.below hb,h.d.below hb,h.e.below hb,h.f.below hb⟩
theorem S4.mono(h:S4 t T K w)(hK:K≤K'):S4 t T K' w:=⟨h.a.mono hK,h.b.mono hK,h.c.mono hK,h.d.mono hK,h.e.mono hK,h.f.mono hK⟩
theorem Sb.mono(h:Sb t T K w)(hK:K≤K'):Sb t T K' w:=⟨h.a.mono hK,h.b.mono hK,h.c.mono hK,h.d.mono hK,h.e.mono hK,h.f.mono hK⟩
theorem Sb.cast(h:Sb t T K w)(e:T=U):Sb t U K w:=by rw[←e];exact h
end
theorem isqn_of{r:RV}{q:Rat}{K K':Nat}{w:World}(h:Kh r q K w)(h1:q.num.natAbs<pw K')(h2:q.den<pw K'):Kh r q K' w:=⟨T0 h.1 h1,T0 h.2 h2⟩
theorem bits_8{n:Nat}(h:bitsN n≤256):n<pw 8:=by
 rw[V6]
 unfold bitsN at h
 split at h
 ·rename_i h0;rw[h0];exact Nat.two_pow_pos _
 ·exact Nat.lt_of_lt_of_le Nat.lt_log2_self (Nat.pow_le_pow_right Zd Zo)
theorem Bh{r:RV}{q:Rat}{K:Nat}{w:World}(h:Kh r q K w)(hb:bitsQ q≤256):Kh r q 8 w:=by
 unfold bitsQ at hb
 exact isqn_of h (bits_8 Zo) (bits_8 Zo)
theorem Mi.ok_bits{T:Mi}(h:T.ok=true):bitsQ T.a≤256∧bitsQ T.b≤256∧bitsQ T.c≤256∧bitsQ T.d≤256∧bitsQ T.e≤256∧bitsQ T.f≤256:=by
 unfold Mi.ok Y5 at h
 simpa using h
theorem Sb.of_ok{t:TV}{T:Mi}{K:Nat}{w:World}(h:Sb t T K w)(hk:T.ok=true):Sb t T 8 w:=by
 obtain⟨h1,h2,h3,h4,h5,h6⟩:=Mi.ok_bits hk
 exact⟨Bh h.a h1,Bh h.b h2,Bh h.c h3,Bh h.d h4,Bh h.e h5,Bh h.f h6⟩
theorem isq0{K:Nat}{w:World}:Ox Oc ((0:Int):Rat) K w:=⟨0,0,⟨In.nil_,rfl,Nat.zero_le _⟩,⟨In.nil_,rfl,Nat.zero_le _⟩,by rw[A0];rfl⟩
section
variable{t u:TV}{T U:Mi}{K:Nat}{w:World}{r s r2 s2:RV}{p q p2 q2:Rat}
theorem made_m:Calls Tryz.prog 315 #[t.val] w (K3 w (fun _:Unit=>t.val) fun _ _=>True):=by
 refine K0.enter Tryz.func315 rfl ?_
 refine ZR ?_
 exact ZW (t.val)
theorem Ax(h1:Ox r p K w)(h2:Ox s q K w)(h3:Ox r2 p2 K w)(h4:Ox s2 q2 K w)(hK:2≤K∧K≤10000000):
 Calls Tryz.prog 145 #[r.val,s.val,r2.val,s2.val] w (K3 w RV.val fun v u=>Kh v (p*q+p2*q2) (4*K+1) u):=by
 refine K0.enter Tryz.func145 rfl ?_
 refine ZR ?_
 refine ZC (fun w1 hw h=>V5 (h1.below hw) (h2.below hw) Zo) fun m=> ?_
 refine ZC (fun w1 hw h=>V5 (h3.below hw) (h4.below hw) Zo) fun n=> ?_
 refine ZC (fun w1 hw h=>Sx h.1.2.q h.2.q Zo) fun v=> ?_
 refine ZV (RV.val v) (fun w1 hw h=>⟨v,rfl,hw,fun w'' k1 k2=>(h w'' k1 k2).2.mono Zo⟩)
theorem applyE_m(ht:S4 t T K w)(h1:Ox r p K w)(h2:Ox s q K w)(hK:2≤K∧K≤10000000):
 Calls Tryz.prog 89 #[t.val,r.val,s.val] w (K3 w (fun v:RV×RV=> .tuple #[v.1.val,v.2.val]) fun v u=>Kh v.1 (T.app p q).1 (5*K+2) u∧Kh v.2 (T.app p q).2 (5*K+2) u):=by
 refine K0.enter Tryz.func89 rfl ?_
 refine ZR ?_
 refine ZC (fun w1 hw h=>Ax (ht.a.below hw) (h1.below hw) (ht.c.below hw) (h2.below hw) hK) fun m=> ?_
 refine ZC (fun w1 hw h=>Sx h.2.q (ht.e.below hw) Zo) fun n=> ?_
 refine ZC (fun w1 hw h=>Ax (ht.b.below hw) (h1.below hw) (ht.d.below hw) (h2.below hw) hK) fun k=> ?_
 refine ZC (fun w1 hw h=>Sx h.2.q (ht.f.below hw) Zo) fun l=> ?_
 refine ZV (.tuple #[n.val,l.val]) (fun w1 hw h=>⟨(n,l),rfl,hw,fun w'' k1 k2=>⟨(h w'' k1 k2).1.1.2.mono Zo,(h w'' k1 k2).2.mono Zo⟩⟩)
theorem behind_m(ht:S4 t T K w)(hu:S4 u U K w)(hK:2≤K∧K≤10000000):
 Calls Tryz.prog 344 #[t.val,u.val] w (K3 w TV.val fun v w=>Sb v (T.comp U) (5*K+2) w):=by
 refine K0.enter Tryz.func344 rfl ?_
 refine ZR ?_
 refine ZC (fun w1 hw h=>applyE_m (hu.below hw) (ht.e.below hw) (ht.f.below hw) hK) fun x=> ?_
 refine ZC (fun w1 hw h=>Ax (hu.a.below hw) (ht.a.below hw) (hu.c.below hw) (ht.b.below hw) hK) fun a=> ?_
 refine ZC (fun w1 hw h=>Ax (hu.b.below hw) (ht.a.below hw) (hu.d.below hw) (ht.b.below hw) hK) fun b=> ?_
 refine ZC (fun w1 hw h=>Ax (hu.a.below hw) (ht.c.below hw) (hu.c.below hw) (ht.d.below hw) hK) fun c=> ?_
 refine ZC (fun w1 hw h=>Ax (hu.b.below hw) (ht.c.below hw) (hu.d.below hw) (ht.d.below hw) hK) fun d=> ?_
 refine ZC (fun w1 hw h=>made_m (t:=⟨a,b,c,d,x.1,x.2⟩)) fun v=> ?_
 refine ZV (TV.val ⟨a,b,c,d,x.1,x.2⟩) (fun w1 hw h=>⟨⟨a,b,c,d,x.1,x.2⟩,rfl,hw,fun w'' k1 k2=>⟨(h w'' k1 k2).1.1.1.1.2.mono Zo,(h w'' k1 k2).1.1.1.2.mono Zo,(h w'' k1 k2).1.1.2.mono Zo,(h w'' k1 k2).1.2.mono Zo,(h w'' k1 k2).1.1.1.1.1.2.1,(h w'' k1 k2).1.1.1.1.1.2.2⟩⟩)
theorem Xe(ht:S4 t T K w)(hK:2≤K∧K≤10000000):
 Calls Tryz.prog 143 #[t.val] w (K3 w TV.val fun v w=>Sb v T K w):=by
 refine K0.enter Tryz.func143 rfl ?_
 refine ZR ?_
 refine K0.un Zk ?_
 refine ZR ?_
 refine K0.drop 5 Zk (fun _=> ?_)
 refine ZI true ?_
 refine ZC (fun w1 hw h=>L8 (ht.a.below hw) Zo) fun a=> ?_
 refine K0.drop 5 Zk (fun _=> ?_)
 refine ZI true ?_
 refine ZC (fun w1 hw h=>L8 (ht.b.below hw) Zo) fun b=> ?_
 refine K0.drop 5 Zk (fun _=> ?_)
 refine ZI true ?_
 refine ZC (fun w1 hw h=>L8 (ht.c.below hw) Zo) fun c=> ?_
 refine K0.drop 5 Zk (fun _=> ?_)
 refine ZI true ?_
 refine ZC (fun w1 hw h=>L8 (ht.d.below hw) Zo) fun d=> ?_
 refine K0.drop 5 Zk (fun _=> ?_)
 refine ZI true ?_
 refine ZC (fun w1 hw h=>L8 (ht.e.below hw) Zo) fun e=> ?_
 refine K0.drop 5 Zk (fun _=> ?_)
 refine ZI true ?_
 refine ZC (fun w1 hw h=>L8 (ht.f.below hw) Zo) fun f=> ?_
 refine ZI false ?_
 refine ZV (TV.val ⟨a,b,c,d,e,f⟩) (fun w1 hw h=>⟨⟨a,b,c,d,e,f⟩,rfl,hw,fun w'' k1 k2=>⟨(h w'' k1 k2).1.1.1.1.1.2,(h w'' k1 k2).1.1.1.1.2,(h w'' k1 k2).1.1.1.2,(h w'' k1 k2).1.1.2,(h w'' k1 k2).1.2,(h w'' k1 k2).2⟩⟩)
theorem normA_m(ht:S4 t T K w)(hK:2≤K∧K≤10000000):
 Calls Tryz.prog 345 #[t.val] w (K3 w TV.val fun v w=>Sb v T K w):=by
 refine K0.enter Tryz.func345 rfl ?_
 refine ZR ?_
 refine ZC (fun w1 hw h=>Xe (ht.below hw) hK) fun n=> ?_
 refine ZC (fun w1 hw h=>made_m (t:=n)) fun v=> ?_
 refine ZV (TV.val n) (fun w1 hw h=>⟨n,rfl,hw,fun w'' k1 k2=>(h w'' k1 k2).1.2⟩)
theorem Yn(ht:S4 t T K w)(hK:2≤K∧K≤10000000):
 Calls Tryz.prog 184 #[t.val] w (K3 w RV.val fun v w=>Kh v T.det (4*K+1) w):=by
 refine K0.enter Tryz.func184 rfl ?_
 refine ZR ?_
 refine ZC (fun w1 hw h=>V5 (ht.a.below hw) (ht.d.below hw) Zo) fun m=> ?_
 refine ZC (fun w1 hw h=>V5 (ht.b.below hw) (ht.c.below hw) Zo) fun n=> ?_
 refine ZC (fun w1 hw h=>J0 h.1.2.q h.2.q Zo) fun v=> ?_
 refine ZV (RV.val v) (fun w1 hw h=>⟨v,rfl,hw,fun w'' k1 k2=>(h w'' k1 k2).2.mono Zo⟩)
theorem validA_m(ht:S4 t T K w)(hK:2≤K∧K≤10000000):
 Calls Tryz.prog 88 #[t.val] w (K3 w (fun _:Unit=> .bool T.ok) fun _ _=>True):=by
 have bad:∀n∈Y5 T,((n:Int)>256)→T.ok=false:=fun n hn h=>by
  unfold Mi.ok
  rw[List.all_eq_false]
  exact⟨n,hn,by simp;omega⟩
 refine K0.enter Tryz.func88 rfl ?_
 refine ZR ?_
 refine ZC (fun w1 hw h=>Xe (ht.below hw) hK) fun n=> ?_
 refine K0.un Zk ?_
 refine ZR ?_
 refine K0.drop 4 Zk (fun _=> ?_)
 refine ZI true ?_
 refine ZC (fun w1 hw h=>S0 h.2.a.q Zo) fun u=> ?_
 refine K0.both (decide (((bitsQ T.a:Nat):Int)>256)) Zk (fun hc=> ?_) (fun hc=> ?_)
 ·
  refine K0.runC Zk (stop:=1000) 6000 _ ?_
  exact ZX (.bool false) (by rw[bad (bitsQ T.a) (by simp[Y5]) (of_decide_eq_true hc)])
 have hba:=of_decide_eq_false hc
 clear hc
 refine ZR ?_
 refine K0.drop 4 Zk (fun _=> ?_)
 refine ZI true ?_
 refine ZC (fun w1 hw h=>S0 h.1.2.b.q Zo) fun u=> ?_
 refine K0.both (decide (((bitsQ T.b:Nat):Int)>256)) Zk (fun hc=> ?_) (fun hc=> ?_)
 ·
  refine K0.runC Zk (stop:=1000) 6000 _ ?_
  exact ZX (.bool false) (by rw[bad (bitsQ T.b) (by simp[Y5]) (of_decide_eq_true hc)])
 have hbb:=of_decide_eq_false hc
 clear hc
 refine ZR ?_
 refine K0.drop 4 Zk (fun _=> ?_)
 refine ZI true ?_
 refine ZC (fun w1 hw h=>S0 h.1.1.2.c.q Zo) fun u=> ?_
 refine K0.both (decide (((bitsQ T.c:Nat):Int)>256)) Zk (fun hc=> ?_) (fun hc=> ?_)
 ·
  refine K0.runC Zk (stop:=1000) 6000 _ ?_
  exact ZX (.bool false) (by rw[bad (bitsQ T.c) (by simp[Y5]) (of_decide_eq_true hc)])
 have hbc:=of_decide_eq_false hc
 clear hc
 refine ZR ?_
 refine K0.drop 4 Zk (fun _=> ?_)
 refine ZI true ?_
 refine ZC (fun w1 hw h=>S0 h.1.1.1.2.d.q Zo) fun u=> ?_
 refine K0.both (decide (((bitsQ T.d:Nat):Int)>256)) Zk (fun hc=> ?_) (fun hc=> ?_)
 ·
  refine K0.runC Zk (stop:=1000) 6000 _ ?_
  exact ZX (.bool false) (by rw[bad (bitsQ T.d) (by simp[Y5]) (of_decide_eq_true hc)])
 have hbd:=of_decide_eq_false hc
 clear hc
 refine ZR ?_
 refine K0.drop 4 Zk (fun _=> ?_)
 refine ZI true ?_
 refine ZC (fun w1 hw h=>S0 h.1.1.1.1.2.e.q Zo) fun u=> ?_
 refine K0.both (decide (((bitsQ T.e:Nat):Int)>256)) Zk (fun hc=> ?_) (fun hc=> ?_)
 ·
  refine K0.runC Zk (stop:=1000) 6000 _ ?_
  exact ZX (.bool false) (by rw[bad (bitsQ T.e) (by simp[Y5]) (of_decide_eq_true hc)])
 have hbe:=of_decide_eq_false hc
 clear hc
 refine ZR ?_
 refine K0.drop 4 Zk (fun _=> ?_)
 refine ZI true ?_
 refine ZC (fun w1 hw h=>S0 h.1.1.1.1.1.2.f.q Zo) fun u=> ?_
 refine K0.both (decide (((bitsQ T.f:Nat):Int)>256)) Zk (fun hc=> ?_) (fun hc=> ?_)
 ·
  refine K0.runC Zk (stop:=1000) 6000 _ ?_
  exact ZX (.bool false) (by rw[bad (bitsQ T.f) (by simp[Y5]) (of_decide_eq_true hc)])
 have hbf:=of_decide_eq_false hc
 clear hc
 refine ZR ?_
 refine ZI false ?_
 have hall:T.ok=true:=by unfold Mi.ok Y5;simp only[List.all_cons,List.all_nil,Bool.and_true,Bool.and_eq_true,decide_eq_true_eq];exact⟨by omega,by omega,by omega,by omega,by omega,by omega⟩
 exact ZX (.bool true) (by rw[hall])
theorem Q9{B:Bool}(hB:T.ok=B)(ht:S4 t T K w)(hK:2≤K∧K≤10000000):Calls Tryz.prog 88 #[t.val] w (K3 w (fun _:Unit=> .bool B) fun _ _=>True):=by subst hB;exact validA_m ht hK
theorem ints_m{a b c d:Int}(ha: -9223372036854775808≤a∧a≤9223372036854775807)(hb: -9223372036854775808≤b∧b≤9223372036854775807)(hc: -9223372036854775808≤c∧c≤9223372036854775807)(hd: -9223372036854775808≤d∧d≤9223372036854775807):
 Calls Tryz.prog 269 #[.int .i64 a,.int .i64 b,.int .i64 c,.int .i64 d] w (K3 w TV.val fun v w=>Sb v (affI a b c d) 2 w):=by
 refine K0.enter Tryz.func269 rfl ?_
 refine ZR ?_
 refine ZC (fun w1 hw h=>Ki a w1 ha.1 ha.2) fun x=> ?_
 refine ZC (fun w1 hw h=>Ki b w1 hb.1 hb.2) fun y=> ?_
 refine ZC (fun w1 hw h=>Ki c w1 hc.1 hc.2) fun z=> ?_
 refine ZC (fun w1 hw h=>Ki d w1 hd.1 hd.2) fun i=> ?_
 refine ZC (fun w1 hw h=>Ki 0 w1 Zd Zd) fun j=> ?_
 refine ZC (fun w1 hw h=>Ki 0 w1 Zd Zd) fun k=> ?_
 refine ZC (fun w1 hw h=>made_m (t:=⟨x,y,z,i,j,k⟩)) fun v=> ?_
 refine ZV (TV.val ⟨x,y,z,i,j,k⟩) (fun w1 hw h=>⟨⟨x,y,z,i,j,k⟩,rfl,hw,fun w'' k1 k2=>⟨(h w'' k1 k2).1.1.1.1.1.1.2,(h w'' k1 k2).1.1.1.1.1.2,(h w'' k1 k2).1.1.1.1.2,(h w'' k1 k2).1.1.1.2,(h w'' k1 k2).1.1.2,(h w'' k1 k2).1.2⟩⟩)
theorem identity_m:Calls Tryz.prog 197 #[] w (K3 w TV.val fun v w=>Sb v Oi 2 w):=by
 refine K0.enter Tryz.func197 rfl ?_
 refine ZR ?_
 refine ZC (fun w1 hw h=>ints_m (a:=1) (b:=0) (c:=0) (d:=1) Zd Zd Zd Zd) fun x=> ?_
 refine ZV (TV.val x) (fun w1 hw h=>⟨x,rfl,hw,fun w'' k1 k2=>(h w'' k1 k2).2⟩)
end
end Go.Proofs.YtpgkbllcnphmbaaGreatDoor
