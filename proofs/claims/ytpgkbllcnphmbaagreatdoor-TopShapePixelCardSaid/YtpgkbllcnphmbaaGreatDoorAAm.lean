/-
 A part of the proof.
-/
import Derived.Test.YtpgkbllcnphmbaaGreatDoorZZ
import Derived.Below
import Derived.OrdersIn
import Derived.RangeFuncRecord
import Derived.KernelRfl
import Derived.Laws.CopyRow
import Derived.Deep.MidRow
namespace Go.Proofs.YtpgkbllcnphmbaaGreatDoor
set_option linter.unusedVariables false
set_option linter.unusedSimpArgs false
open Go.RowKit
class Rnd where
 r:Option Nat
instance (priority:=low) rnd0:Rnd:=⟨none⟩
abbrev Fe [R:Rnd]:Fence:={Fence.wide with round:=R.r}
theorem semFe [Rnd]{P:Program}{o:Oper}{ρ:Operand→Value}{w w':World}{nx:Next}(h:(execOp ρ o).run P w= .ok nx w')(hd:∀d,nx≠ .defer d):(o.semAt Fe.round ρ).run P w= .ok nx w':=by
 by_cases hc:∃c,o.op= .defer c
 ·obtain⟨c,hc⟩:=hc
  unfold execOp at h
  simp only[hc,Sem.run_bind]at h
  cases hr:(resolve ρ c o.type).run P w with
  |ok d w2=>
   rw[hr]at h
   simp only[Result.andThen_ok,Sem.run_pure,Result.ok.injEq]at h
   exact absurd h.1.symm (hd _)
  |halt x w2=>rw[hr]at h;cases h
 ·rw[Oper.semAt_eq _ _ _ fun c e=>hc ⟨c,e⟩];exact h
theorem Y8 [Rnd]{P:Program}{o:Oper}{a:Act}{w w':World}{next:Act→World→Prop}{Q:Exit→Act→World→Prop}{nx:Next}(h:(execOp a.eval o).run P w= .ok nx w')(hd:∀d,nx≠ .defer d)(H:o.uponIn Fe 0 P a next Q (.ok nx w')):o.wpIn Fe 0 P a w next Q:=
 ⟨fun _ _=>trivial,by rw[semFe h hd];exact H⟩
theorem callsFe [Rnd]{P:Program}{n:Nat}{f:FuncId}{args:Array Value}{w:World}{R:Ending→World→Prop}:CallsIn Fe n P f args w R↔Calls P f args w R:=callsIn_wide
theorem Ds [Rnd]{P:Program}{o:Oper}{a:Act}{w w':World}{next:Act→World→Prop}{Q:Exit→Act→World→Prop}{f:FuncId}{args:Array Value}(h:(execOp a.eval o).run P w= .ok (.enter f args) w')
 (H:Calls P f args w' fun
  | .returned v,w''=>next (a.put o.dst v) w''
  | .panicked chain,w''=>Q (.panic chain) a w''
  | .outgrown,_=>LetsOut Q):o.wpIn Fe 0 P a w next Q:=
 Y8 h Zs ⟨fun h=>(by cases h),callsFe.2 H⟩
inductive AV where
 |v (x:Value)
 |p (k off:Nat)
 |s (k n:Nat)
 |f (g:FuncId) (caps:List (Nat×Nat))
def AV.conc(β:Nat→Nat):AV→Value
 | .v x=>x
 | .p k o=> .pointer (some ⟨β k,o,none⟩)
 | .s k n=> .slice (some ⟨β k,0,none⟩) n n
 | .f g caps=> .func (.func g) #[] (caps.map fun c=>Value.pointer (some ⟨β c.1,c.2,none⟩)).toArray
def AV.ids:AV→List Nat
 | .v _=>[]
 | .p k _=>[k]
 | .s k _=>[k]
 | .f _ caps=>caps.map (·.1)
theorem AV.conc_congr{β β':Nat→Nat}{x:AV}(h:∀k∈x.ids,β' k=β k):x.conc β'=x.conc β:=by
 cases x with
 |v x=>rfl
 |p k o=>simp only[AV.conc];rw[h k (by simp[AV.ids])]
 |s k n=>simp only[AV.conc];rw[h k (by simp[AV.ids])]
 |f g caps=>
  simp only[AV.conc]
  rw[List.map_congr_left (f:=fun c:Nat×Nat=>Value.pointer (some ⟨β' c.1,c.2,none⟩)) (g:=fun c=>Value.pointer (some ⟨β c.1,c.2,none⟩)) (fun c hc=>by rw[h c.1 (by simp only[AV.ids];exact List.mem_map.2 ⟨c,hc,rfl⟩)])]
structure AS where
 tmps:List AV
 box:Nat→Option (List AV)
def AS.eval(σ:AS):Operand→AV
 | .tmp t=>σ.tmps.getD t (.v undef)
 | .const x=> .v x
 | .global g=> .v (.pointer (some ⟨g,0,none⟩))
 | .func f=> .v (.func (.func f) #[] #[])
def AS.put(σ:AS)(d:Option Tmp)(x:AV):AS:=
 match d with
 |some t=>⟨σ.tmps.set t x,σ.box⟩
 |none=>σ
def upd(b:Nat→Option (List AV))(k:Nat)(cs:List AV):Nat→Option (List AV):=fun j=>if Nat.beq j k then some cs else b j
theorem Qa(b:Nat→Option (List AV))(k:Nat)(cs:List AV):upd b k cs k=some cs:=by simp[upd]
theorem Rg(b:Nat→Option (List AV)){k j:Nat}(cs:List AV)(h:j≠k):upd b k cs j=b j:=by
 unfold upd
 rw[if_neg (by simpa using h)]
structure Yt where
 val:AV
 wr:Option (Nat×List AV)
def Ux(b:Nat→Option (List AV)):Option (Nat×List AV)→Nat→Option (List AV)
 |some (k,cs)=>upd b k cs
 |none=>b
def AS.app(σ:AS)(d:Option Tmp)(e:Yt):AS:=⟨(σ.put d e.val).tmps,Ux σ.box e.wr⟩
def Ah:List AV→Option (List Value)
 | []=>some []
 | .v x::l=>match Ah l with
  |some r=>some (x::r)
  |none=>none
 |_::_=>none
theorem Q5{β:Nat→Nat}:∀{l:List AV} {r:List Value},Ah l=some r→l.map (AV.conc β)=r
 | [],r,h=>by simp[Ah]at h;simp[h]
 | .v x::l,r,h=>by
  simp only[Ah]at h
  split at h
  ·rename_i r' hr
   injection h with h
   subst h
   simp[AV.conc,Q5 hr]
  ·cases h
 | .p _ _::_,r,h=>by simp[Ah]at h
 | .s _ _::_,r,h=>by simp[Ah]at h
 | .f _ _::_,r,h=>by simp[Ah]at h
def AV.isV:AV→Bool
 | .v _=>true
 |_=>false
def AV.get:AV→Value
 | .v x=>x
 |_=>undef
theorem AV.conc_isV{β:Nat→Nat}{x:AV}(h:x.isV=true):x.conc β=x.get:=by
 cases x<;>first|rfl|(simp[AV.isV]at h)
def cellsOf:AV→List AV
 | .v x=>x.cells.toList.map .v
 |a=>[a]
theorem Ac(β:Nat→Nat)(x:AV):(cellsOf x).map (AV.conc β)=(x.conc β).cells.toList:=by
 cases x with
 |v x=>simp[cellsOf,AV.conc,Function.comp_def]
 |_=>simp[cellsOf,AV.conc,Value.cells]
def AV.one:AV→Bool
 | .v x=>x.oneCell'
 |_=>true
theorem AV.one_conc{β:Nat→Nat}{x:AV}(h:x.one=true):(x.conc β).oneCell'=true:=by
 cases x<;>first|exact h|rfl
def pev{α:Type}(P:Program):Sem α→Option α
 | .pure a=>some a
 | .program k=>pev P (k P)
 | .mark _ k=>pev P k
 |_=>none
theorem pev_run{α:Type}{P:Program}{s:Sem α}{a:α}(h:pev P s=some a)(w:World):s.run P w= .ok a w:=by
 induction s generalizing w with
 |pure b=>simp only[pev]at h;injection h with h;subst h;rfl
 |program k ih=>simp only[pev]at h;simp only[Sem.run];exact ih P h w
 |mark m k ih=>simp only[pev]at h;simp only[Sem.run];exact ih h w
 |_=>simp[pev]at h
def Tv(P:Program)(t:TypeId):Option Value:=(P.info? t).bind (·.zero)
def N8(P:Program)(t:TypeId):Option Nat:=(P.info? t).map (·.size)
def Ob(P:Program)(t:TypeId):Option Bool:=
 match P.underlying t with
 |some (.struct _)|some (.array _ _)=>some true
 |some _=>some false
 |none=>none
def AS.plain(σ:AS)(o:Op):Bool:=o.operands.toList.all fun x=>(σ.eval x).isV
def U9(P:Program)(t:TypeId)(off:Nat)(cs:List AV):Option Yt:=
 match Ob P t with
 | some true=>match N8 P t with
  |some n=>if Nat.ble (off+n) cs.length then(match Ah ((cs.drop off).take n)with
   |some vs=>some ⟨.v (.agg vs.toArray),none⟩
   |none=>none)else none
  |none=>none
 |some false=>match cs[off]? with
  |some c=>some ⟨c,none⟩
  |none=>none
 |none=>none
def Vi(P:Program)(t:TypeId)(k off:Nat)(cs vs:List AV):Option Yt:=
 match N8 P t with
 |some n=>if Nat.beq vs.length n&&Nat.ble (off+n) cs.length&&vs.all AV.one then some ⟨.v undef,some (k,cs.take off++vs++cs.drop (off+n))⟩else none
 |none=>none
def Ra(P:Program)(t:TypeId)(f k off:Nat):Option Yt:=
 match P.underlying t with
 | some (.struct fs)=>match fs[f]? with
  |some fd=>match N8 P fd.type with
   |some (_+1)=>some ⟨.p k (off+fd.offset),none⟩
   |_=>none
  |none=>none
 |_=>none
def Tj(P:Program)(t:TypeId)(f g off:Nat):Option Yt:=
 match P.underlying t with
 | some (.struct fs)=>match fs[f]? with
  |some fd=>match N8 P fd.type with
   |some (_+1)=>some ⟨.v (.pointer (some ⟨g,off+fd.offset,none⟩)),none⟩
   |_=>none
  |none=>none
 |_=>none
def Vk(P:Program)(t:TypeId)(x ix:AV):Option Yt:=
 match x,ix with
 | .p k off,.v (.int _ i)=>match P.underlying t with
  |some (.array len elem)=>match N8 P elem with
   |some n=>if Nat.ble (i.toNat+1) len&&(0≤i:Bool)then some ⟨.p k (off+i.toNat*n),none⟩else none
   |none=>none
  |_=>none
 | .s k len,.v (.int _ i)=>match P.underlying t with
  |some (.slice elem)=>match N8 P elem with
   |some n=>if Nat.ble (i.toNat+1) len&&(0≤i:Bool)then some ⟨.p k (i.toNat*n),none⟩else none
   |none=>none
  |_=>none
 | .v (.pointer (some ⟨g,off,none⟩)),.v (.int _ i)=>match P.underlying t with
  |some (.array len elem)=>match N8 P elem with
   |some n=>if Nat.ble (i.toNat+1) len&&(0≤i:Bool)then some ⟨.v (.pointer (some ⟨g,off+i.toNat*n,none⟩)),none⟩else none
   |none=>none
  |_=>none
 |_,_=>none
def Vu:List AV→Option (List (Nat×Nat))
 | []=>some []
 | .p k o::l=>match Vu l with
  |some r=>some ((k,o)::r)
  |none=>none
 |_::_=>none
def Pz(σ:AS)(d:Option Tmp)(cs:List AV)(x:Nat→AV):Option Yt:=
 match d with
 |some d=>match σ.box d with
  |some _=>none
  |none=>some ⟨x d,some (d,cs)⟩
 |none=>none
def AS.rho(σ:AS)(x:Operand):Value:=(σ.eval x).get
def Og(P:Program)(o:Oper)(σ:AS):Option Yt:=
 if σ.plain o.op then(match o.op with
  | .select _ _=>none
  |_=>match pev P (execOp σ.rho o)with
   |some (.value v)=>some ⟨.v v,none⟩
   |_=>none)else none
def eff(P:Program)(o:Oper)(σ:AS):Option Yt:=
 match o.op with
 | .move x=>some ⟨σ.eval x,none⟩
 | .assign x=>some ⟨σ.eval x,none⟩
 | .alloc t=>match Tv P t with
  |some z=>Pz σ o.dst (z.cells.toList.map .v) (fun d=> .p d 0)
  |none=>none
 | .box _ x=>Pz σ o.dst (cellsOf (σ.eval x)) (fun d=> .p d 0)
 | .load t x=>match σ.eval x with
  | .p k off=>match σ.box k with
   |some cs=>U9 P t off cs
   |none=>none
  |_=>none
 | .store t x y=>match σ.eval x with
  | .p k off=>match σ.box k with
   |some cs=>Vi P t k off cs (cellsOf (σ.eval y))
   |none=>none
  |_=>none
 | .fieldAddr t x f=>match σ.eval x with
  | .p k off=>Ra P t f k off
  | .v (.pointer (some ⟨g,off,none⟩))=>Tj P t f g off
  |_=>none
 | .indexAddr t x ix=>Vk P t (σ.eval x) (σ.eval ix)
 | .nilCheck x=>match σ.eval x with
  | .p k off=>some ⟨.p k off,none⟩
  |_=>Og P o σ
 | .makeFunc (.func g) first caps=>match first.toList,Vu (caps.toList.map σ.eval)with
  | [],some (c::r)=>some ⟨.f g (c::r),none⟩
  |_,_=>Og P o σ
 | .buildSlice t len parts=>match P.underlying t with
  | some (.slice elem)=>match N8 P elem,Tv P elem with
   | some n,some z=>match Ah ((parts.toList.map fun p=>σ.eval p.2))with
    |some vs=>if Nat.ble (len*n) 16777216&&Nat.ble 1 (len*n)then(match Instr.fill (fun i=>some (i*n,n)) ((Array.range (len*n)).map (z.cells[· %z.cells.size]!)) ((parts.toList.map (·.1)).zip vs)with
     |some cells=>Pz σ o.dst (cells.toList.map .v) (fun d=> .s d len)
     |none=>none)else none
    |none=>none
   |_,_=>none
  |_=>none
 |_=>Og P o σ
structure Agree(W:World)(β:Nat→Nat)(σ:AS)(w w':World):Prop where
 size:w.heap.size≤w'.heap.size
 heap:∀b,W.heap.size≤b→b<w.heap.size→(∀k,(σ.box k).isSome=true→β k≠b)→w'.heap[b]? =w.heap[b]?
theorem Agree.refl(W:World)(β:Nat→Nat)(σ:AS)(w:World):Agree W β σ w w:=⟨Nat.le_refl _,fun _ _ _ _=>rfl⟩
structure AS.wf(σ:AS):Prop where
 tmps:∀x∈σ.tmps,∀k∈x.ids,(σ.box k).isSome=true
 cells:∀j cs,σ.box j=some cs→∀x∈cs,∀k∈x.ids,(σ.box k).isSome=true
theorem AS.wf.eval{σ:AS}(h:σ.wf)(x:Operand):∀k∈(σ.eval x).ids,(σ.box k).isSome=true:=by
 cases x with
 |tmp t=>
  simp only[AS.eval,List.getD_eq_getElem?_getD]
  cases hx:σ.tmps[t]? with
  |none=>intro k hk;simp[AV.ids]at hk
  |some y=>intro k hk;exact h.tmps y (List.mem_of_getElem? hx) k (by simpa using hk)
 |_=>intro k hk;simp[AS.eval,AV.ids]at hk
theorem AS.put_box(σ:AS)(d:Option Tmp)(x:AV):(σ.put d x).box=σ.box:=by cases d<;>rfl
theorem AS.wf.put{σ:AS}(h:σ.wf)(d:Option Tmp){x:AV}(hx:∀k∈x.ids,(σ.box k).isSome=true):(σ.put d x).wf:=by
 cases d with
 |none=>exact h
 |some t=>
  refine⟨fun y hy=> ?_,h.cells⟩
  rcases List.mem_or_eq_of_mem_set hy with hy|rfl
  ·exact h.tmps y hy
  ·exact hx
theorem Z0{b:Nat→Option (List AV)}{k:Nat}{cs:List AV}{j:Nat}(h:(b j).isSome=true):(upd b k cs j).isSome=true:=by
 unfold upd
 split
 ·rfl
 ·exact h
theorem AS.wf.wr{σ:AS}(h:σ.wf){k:Nat}{cs:List AV}(hcs:∀x∈cs,∀j∈x.ids,(σ.box j).isSome=true):(AS.mk σ.tmps (upd σ.box k cs)).wf:=by
 refine⟨fun x hx j hj=>Z0 (h.tmps x hx j hj),fun j cs' hj x hx i hi=> ?_⟩
 by_cases e:j=k
 ·subst e
  simp only[Qa]at hj
  injection hj with hj
  subst hj
  exact Z0 (hcs x hx i hi)
 ·simp only[Rg _ _ e]at hj
  exact Z0 (h.cells j cs' hj x hx i hi)
structure O7(Δ:List Deferred)(W:World)(β:Nat→Nat)(σ:AS)(Φ:World→Prop)(a:Act)(w:World):Prop where
 tmps:a.tmps.toList=σ.tmps.map (AV.conc β)
 defers:a.defers=Δ
 bel:Below W.heap.size W w
 box:∀k cs,σ.box k=some cs→W.heap.size≤β k∧∃ty,w.heap[β k]? =some (.cells (cs.map (AV.conc β)).toArray ty (0,0))
 inj:∀k k',(σ.box k).isSome=true→(σ.box k').isSome=true→β k=β k'→k=k'
 keep:∀w',Agree W β σ w w'→Φ w'
section
variable{Δ:List Deferred}{W:World}{β:Nat→Nat}{σ:AS}{Φ:World→Prop}{a:Act}{w:World}
theorem O7.eval(h:O7 Δ W β σ Φ a w)(x:Operand):a.eval x=(σ.eval x).conc β:=by
 cases x with
 |tmp t=>
  simp only[Act.eval,AS.eval]
  have e:a.tmps[t]? =(σ.tmps.map (AV.conc β))[t]? :=by rw[←h.tmps];simp
  rw[Array.getD_eq_getD_getElem?,e,List.getD_eq_getElem?_getD,List.getElem?_map]
  cases σ.tmps[t]? <;>rfl
 |const x=>rfl
 |global g=>rfl
 |func f=>rfl
theorem O7.phi(h:O7 Δ W β σ Φ a w):Φ w:=h.keep w (Agree.refl _ _ _ _)
theorem O7.put(h:O7 Δ W β σ Φ a w)(d:Option Tmp)(x:AV):O7 Δ W β (σ.put d x) Φ (a.put d (x.conc β)) w:=by
 cases d with
 |none=>exact h
 |some t=>exact⟨by simp[Act.put,AS.put,h.tmps,List.map_set],h.defers,h.bel,h.box,h.inj,fun w' hw=>h.keep w' ⟨hw.size,hw.heap⟩⟩
theorem O7.drew(h:O7 Δ W β σ Φ a w):O7 Δ W β σ Φ a w.drew:=
 ⟨h.tmps,h.defers,h.bel.drew,h.box,h.inj,fun w' hw=>h.keep w' ⟨hw.size,hw.heap⟩⟩
theorem O7.new(h:O7 Δ W β σ Φ a w)(hwf:σ.wf){d:Nat}(hd:σ.box d=none){cs:List AV}(hcs:∀x∈cs,∀j∈x.ids,(σ.box j).isSome=true)(ty:TypeId):
 ∃β',β' d=w.heap.size∧(∀k,k≠d→β' k=β k)∧O7 Δ W β' ⟨σ.tmps,upd σ.box d cs⟩ Φ a (w.alloc (.cells (cs.map (AV.conc β)).toArray ty)):=by
 have hne:∀{x:AV},(∀j∈x.ids,(σ.box j).isSome=true)→∀j∈x.ids,j≠d:=fun hx j hj e=>by
  have:=hx j hj;rw[e,hd]at this;cases this
 have hb':∀k,k≠d→(if k=d then w.heap.size else β k)=β k:=fun k hk=>by rw[if_neg hk]
 refine⟨fun k=>if k=d then w.heap.size else β k,by simp,hb',?_⟩
 have hconc:∀{x:AV},(∀j∈x.ids,(σ.box j).isSome=true)→x.conc (fun k=>if k=d then w.heap.size else β k)=x.conc β:=fun hx=>
  AV.conc_congr fun j hj=>hb' j (hne hx j hj)
 have hmap:∀{l:List AV},(∀x∈l,∀j∈x.ids,(σ.box j).isSome=true)→l.map (AV.conc fun k=>if k=d then w.heap.size else β k)=l.map (AV.conc β):=fun hl=>
  List.map_congr_left fun x hx=>hconc (hl x hx)
 have hlt:∀k,(σ.box k).isSome=true→β k<w.heap.size:=fun k hk=>by
  obtain⟨cs',hcs'⟩:=Option.isSome_iff_exists.1 hk
  obtain⟨_,ty',hh⟩:=h.box k cs' hcs'
  exact(Array.getElem?_eq_some_iff.1 hh).1
 have hsome:∀k,k≠d→(upd σ.box d cs k).isSome=true→(σ.box k).isSome=true:=fun k hk hs=>by rw[Rg _ _ hk]at hs;exact hs
 refine⟨?_,h.defers,h.bel.alloc h.bel.size _,?_,?_,?_⟩
 ·rw[h.tmps];exact(hmap hwf.tmps).symm
 ·intro k cs' hk
  by_cases e:k=d
  ·subst e
   simp only[Qa]at hk
   injection hk with hk
   subst hk
   refine⟨by simpa using h.bel.size,ty,?_⟩
   rw[hmap hcs]
   simp only[if_pos]
   show(w.heap.push _)[w.heap.size]? =_
   simp
  ·simp only[Rg _ _ e]at hk
   obtain⟨h1,ty',h2⟩:=h.box k cs' hk
   simp only[if_neg e]
   refine⟨h1,ty',?_⟩
   rw[hmap (hwf.cells k cs' hk),Below.heap_alloc _ _ _ (hlt k (by rw[hk];rfl))]
   exact h2
 ·intro k k' hk hk' e
  by_cases e1:k=d<;>by_cases e2:k'=d
  ·rw[e1,e2]
  ·have h2:=hlt k' (hsome k' e2 hk')
   simp[e1,e2]at e
   omega
  ·have h2:=hlt k (hsome k e1 hk)
   simp[e1,e2]at e
   omega
  ·simp only[if_neg e1,if_neg e2]at e
   exact h.inj k k' (hsome k e1 hk) (hsome k' e2 hk') e
 ·intro w' hw
  refine h.keep w' ⟨Nat.le_trans Zs hw.size,fun b hW hb hk=> ?_⟩
  rw[hw.heap b hW Zp (fun k hks=> ?_),Below.heap_alloc _ _ _ hb]
  by_cases e:k=d
  ·simp[e];omega
  ·simp only[if_neg e];exact hk k (hsome k e hks)
theorem O5(w:World)(g:Nat)(cs:Array Value):(w.setRow g cs).heap.size=w.heap.size:=by simp[World.setRow]
theorem Nj(w:World)(g:Nat)(cs:Array Value)(b:Nat)(h:b≠g):(w.setRow g cs).heap[b]? =w.heap[b]? :=by
 simp only[World.setRow,Array.getElem?_modify]
 rw[if_neg Zo]
theorem O7.store(h:O7 Δ W β σ Φ a w){k:Nat}{cs cs':List AV}(hk:σ.box k=some cs):
 O7 Δ W β ⟨σ.tmps,upd σ.box k cs'⟩ Φ a (w.setRow (β k) (cs'.map (AV.conc β)).toArray):=by
 obtain⟨hB,ty,hh⟩:=h.box k cs hk
 have hks:(σ.box k).isSome=true:=by rw[hk];rfl
 have hsome:∀j,(upd σ.box k cs' j).isSome=true→(σ.box j).isSome=true:=fun j hj=>by
  by_cases e:j=k
  ·rw[e];exact hks
  ·rw[Rg _ _ e]at hj;exact hj
 refine⟨h.tmps,h.defers,?_,?_,?_,?_⟩
 ·exact h.bel.trans ⟨rfl,rfl,rfl,by rw[O5];exact Nat.le_refl _,fun b hb=>Nj _ _ _ _ Zo⟩
 ·intro j cs2 hj
  by_cases e:j=k
  ·subst e
   simp only[Qa]at hj
   injection hj with hj
   subst hj
   exact⟨hB,ty,setRow_heap w _ _ _ _ _ hh⟩
  ·simp only[Rg _ _ e]at hj
   obtain⟨h1,ty',h2⟩:=h.box j cs2 hj
   refine⟨h1,ty',?_⟩
   rw[Nj _ _ _ _ (fun e2=>e (h.inj j k (by rw[hj];rfl) hks e2))]
   exact h2
 ·intro j j' hj hj' e
  exact h.inj j j' (hsome j hj) (hsome j' hj') e
 ·intro w' hw
  refine h.keep w' ⟨by have:=hw.size;rw[O5]at this;exact this,fun b hW hb hkb=> ?_⟩
  rw[hw.heap b hW (by rw[O5];exact hb) (fun j hj=>hkb j (hsome j hj)),Nj _ _ _ _ (fun e=>hkb k hks e.symm)]
end
theorem AS.app_eq(σ:AS)(d:Option Tmp)(e:Yt):σ.app d e=(AS.mk σ.tmps (Ux σ.box e.wr)).put d e.val:=by
 cases d<;>rfl
def O8(P:Program)(Δ:List Deferred)(W:World)(σ:AS)(Φ:World→Prop)(β:Nat→Nat)(a:Act)(w:World)(o:Oper)(e:Yt):Prop:=
 (σ.app o.dst e).wf∧∃β' nx w',(execOp a.eval o).run P w= .ok nx w'∧(nx= .value (e.val.conc β')∨(nx= .skip∧e.val.conc β'=undef))∧
  O7 Δ W β' (σ.app o.dst e) Φ (a.put o.dst (e.val.conc β')) w'
section
variable{P:Program}{Δ:List Deferred}{W:World}{β:Nat→Nat}{σ:AS}{Φ:World→Prop}{a:Act}{w:World}{o:Oper}{e:Yt}
theorem O8.pure{v:AV}(hr:O7 Δ W β σ Φ a w)(hwf:σ.wf)(hv:∀k∈v.ids,(σ.box k).isSome=true)(hrun:(execOp a.eval o).run P w= .ok (.value (v.conc β)) w):
 O8 P Δ W σ Φ β a w o ⟨v,none⟩:=by
 refine⟨?_,β,_,w,hrun,.inl rfl,?_⟩
 ·rw[AS.app_eq];exact AS.wf.put (σ:=⟨σ.tmps,σ.box⟩) hwf o.dst hv
 ·rw[AS.app_eq];exact O7.put (σ:=⟨σ.tmps,σ.box⟩) hr o.dst v
theorem O8.new{cs:List AV}{v:Nat→AV}(hr:O7 Δ W β σ Φ a w)(hwf:σ.wf)(h:Pz σ o.dst cs v=some e)(hcs:∀x∈cs,∀j∈x.ids,(σ.box j).isSome=true)
 (hid:∀d k,k∈(v d).ids→k=d) (ty:TypeId)
 (hrun:∀β':Nat→Nat,∀d,β' d=w.heap.size→(execOp a.eval o).run P w= .ok (.value ((v d).conc β')) (w.alloc (.cells (cs.map (AV.conc β)).toArray ty))):
 O8 P Δ W σ Φ β a w o e:=by
 unfold Pz at h
 split at h
 ·rename_i d hd
  split at h
  ·cases h
  ·rename_i hb
   injection h with h
   subst h
   obtain⟨β',h1,h2,h3⟩:=hr.new hwf hb hcs ty
   refine⟨?_,β',_,_,hrun β' d h1,.inl rfl,?_⟩
   ·rw[AS.app_eq]
    refine AS.wf.put (hwf.wr hcs) _ fun k hk=> ?_
    rw[hid d k hk]
    simp[Ux,Qa]
   ·rw[AS.app_eq];exact h3.put _ _
 ·cases h
theorem Qr{t:TypeId}{z:Value}(h:Tv P t=some z)(w:World):(zeroValue t).run P w= .ok z w:=by
 unfold Tv at h
 cases hi:P.info? t with
 |none=>rw[hi]at h;cases h
 |some i=>
  rw[hi]at h
  simp only[Option.bind_some]at h
  simp[zeroValue,typeInfo,hi,h]
theorem Qs(t:TypeId)(v:Value)(w:World):(newVar t v).run P w= .ok ⟨w.heap.size,0,none⟩ (w.alloc (.cells v.cells t)):=by
 rfl
theorem Lf{t:TypeId}{n:Nat}(h:N8 P t=some n)(w:World):(sizeOf t).run P w= .ok n w:=by
 unfold N8 at h
 cases hi:P.info? t with
 |none=>rw[hi]at h;cases h
 |some i=>
  rw[hi]at h
  simp only[Option.map_some]at h
  injection h with h
  simp[sizeOf,typeInfo,hi,h]
theorem Vj(h:Og P o σ=some e)(hr:O7 Δ W β σ Φ a w)(hwf:σ.wf):O8 P Δ W σ Φ β a w o e:=by
 unfold Og at h
 split at h
 ·rename_i hp
  have hrho:∀x∈o.op.operands,a.eval x=σ.rho x:=fun x hx=>by
   rw[hr.eval,AV.conc_isV];· rfl
   exact List.all_eq_true.1 hp x (by simpa using hx)
  split at h
  ·cases h
  ·rename_i hns
   split at h
   ·rename_i v hv
    injection h with h
    subst h
    refine O8.pure hr hwf (by intro k hk;simp[AV.ids]at hk) ?_
    rw[execOp_congr o (fun cs b e=>hns cs b e) hrho]
    exact pev_run hv w
   ·cases h
 ·cases h
theorem G6{l:List AV}{off n j:Nat}{x:AV}(h:((l.drop off).take n)[j]? =some x):l[off+j]? =some x:=by
 rw[List.getElem?_take]at h
 split at h
 ·rw[List.getElem?_drop]at h;exact h
 ·cases h
theorem Ci{t:TypeId}{k off:Nat}{cs:List AV}{ty:TypeId}(hh:w.heap[β k]? =some (.cells (cs.map (AV.conc β)).toArray ty (0,0)))(h:U9 P t off cs=some e):
 (loadVar t ⟨β k,off,none⟩).run P w= .ok (e.val.conc β) w∧e.wr=none∧∀j∈e.val.ids,∃x∈cs,j∈x.ids:=by
 have hcell:∀j,w.cell? ⟨β k,j,none⟩=(cs.map (AV.conc β))[j]? :=fun j=>by simp[World.cell?,hh]
 unfold U9 at h
 split at h
 ·rename_i hrow
  split at h
  ·rename_i n hn
   split at h
   ·rename_i hle
    split at h
    ·rename_i vs hvs
     injection h with h
     subst h
     have hvl:=Q5 (β:=β) hvs
     have hle:=Nat.le_of_ble_eq_true hle
     have hlen:vs.length=n:=by
      rw[←hvl];simp;omega
     have hrange:w.rangeAt (β k) off vs:=fun j v hv=>by
      rw[hcell,List.getElem?_map]
      rw[←hvl,List.getElem?_map]at hv
      cases hq:((cs.drop off).take n)[j]? with
      |none=>rw[hq]at hv;cases hv
      |some y=>rw[hq]at hv;rw[G6 hq];exact hv
     unfold Ob at hrow
     have hrun:∀d:TypeDesc,P.underlying t=some d→d.isRow=true→(loadVar t ⟨β k,off,none⟩).run P w= .ok (.agg vs.toArray) w:=fun d hd hdr=>
      run_loadVar_mid w (β k) off t vs d hrange hd hdr (by unfold N8 at hn;rw[hn,hlen])
     refine⟨?_,rfl,by intro j hj;simp[AV.ids]at hj⟩
     split at hrow
     ·rename_i hd;exact hrun _ hd rfl
     ·rename_i hd;exact hrun _ hd rfl
     ·cases hrow
     ·cases hrow
    ·cases h
   ·cases h
  ·cases h
 ·rename_i hrow
  split at h
  ·rename_i c hc
   injection h with h
   subst h
   have hagg:(isAgg t).run P w= .ok false w:=by
    unfold Ob at hrow
    split at hrow
    ·cases hrow
    ·cases hrow
    ·rename_i d hn1 hn2 hd
     unfold isAgg
     rw[Sem.run_bind,run_underlying hd w]
     cases d<;>first|rfl|(exfalso;first|exact hn1 _ rfl|exact hn2 _ _ rfl)|(exfalso;first|exact hn1 _ hd|exact hn2 _ _ hd)
    ·cases hrow
   have hl:(load ⟨β k,off,none⟩).run P w= .ok (c.conc β) w:=by
    simp[run_load,hcell,hc]
   refine⟨?_,rfl,fun j hj=>⟨c,List.mem_of_getElem? hc,hj⟩⟩
   simp only[loadVar,Sem.run_bind,Result.andThen_ok,hagg,hl,Bool.false_eq_true,if_false]
  ·cases h
 ·cases h
theorem effLoad_ok{t:TypeId}{x:Operand}{k off:Nat}{cs:List AV}(hop:o.op= .load t x)(hx:σ.eval x= .p k off)(hb:σ.box k=some cs)(h:U9 P t off cs=some e)(hr:O7 Δ W β σ Φ a w)(hwf:σ.wf):
 O8 P Δ W σ Φ β a w o e:=by
 obtain⟨_,ty,hh⟩:=hr.box k cs hb
 have hev:=hr.eval x
 rw[hx]at hev
 obtain⟨h1,h2,h3⟩:=Ci hh h
 obtain⟨v,wr⟩:=e
 obtain rfl:wr=none:=h2
 refine O8.pure hr hwf (fun j hj=> ?_) ?_
 ·obtain⟨x,hx,hi⟩:=h3 j hj
  exact hwf.cells k cs hb x hx j hi
 ·unfold execOp
  rw[hop]
  simp only[hev,AV.conc,Instr.loadAt,Instr.sureAddr,Sem.run_bind,Sem.run_pure,Result.andThen_ok,h1]
theorem effStore_ok{t:TypeId}{x y:Operand}{k off:Nat}{cs:List AV}(hop:o.op= .store t x y)(hx:σ.eval x= .p k off)(hb:σ.box k=some cs)(h:Vi P t k off cs (cellsOf (σ.eval y))=some e)(hr:O7 Δ W β σ Φ a w)(hwf:σ.wf):
 O8 P Δ W σ Φ β a w o e:=by
 obtain⟨_,ty,hh⟩:=hr.box k cs hb
 have hev:=hr.eval x
 rw[hx]at hev
 have hey:=hr.eval y
 have hcy:=Ac β (σ.eval y)
 have hidy:∀z∈cellsOf (σ.eval y),∀j∈z.ids,(σ.box j).isSome=true:=by
  have:=hwf.eval y
  cases hq:σ.eval y with
  |v q=>intro z hz j hj;simp[cellsOf,hq]at hz;obtain⟨q',_,rfl⟩:=hz;simp[AV.ids]at hj
  |_=>intro z hz j hj;rw[hq]at this;simp[cellsOf,hq]at hz;subst hz;exact this j hj
 unfold Vi at h
 split at h
 ·rename_i n hn
  split at h
  ·rename_i hc
   simp only[Bool.and_eq_true,Nat.beq_eq]at hc
   obtain⟨⟨hl,hle⟩,hone⟩:=hc
   have hle:=Nat.le_of_ble_eq_true hle
   injection h with h
   subst h
   have hnew:(cs.take off++cellsOf (σ.eval y)++cs.drop (off+n)).map (AV.conc β)=((cs.map (AV.conc β)).toArray.toList.take off++(a.eval y).cells.toList++(cs.map (AV.conc β)).toArray.toList.drop (off+(a.eval y).cells.toList.length)):=by
    rw[hey,←hcy];simp[hl,List.map_take,List.map_drop]
   have hst:=run_storeCells_at P (β k) off ty (a.eval y).cells.toList 0 (cs.map (AV.conc β)).toArray w hh (by rw[hey,←hcy];simp;omega) (by
    rw[hey,←hcy]
    intro v hv
    obtain⟨z,hz,rfl⟩:=List.mem_map.1 hv
    exact AV.one_conc (List.all_eq_true.1 hone z hz))
   simp only[Nat.add_zero]at hst
   rw[←hnew]at hst
   have hsz:(a.eval y).cells.size=n:=by
    rw[←Array.length_toList,hey,←hcy];simpa using hl
   have hrun:(Instr.storeAt t (.pointer (some ⟨β k,off,none⟩)) (a.eval y)).run P w= .ok () (w.setRow (β k) ((cs.take off++cellsOf (σ.eval y)++cs.drop (off+n)).map (AV.conc β)).toArray):=by
    simp only[Instr.storeAt,Instr.sureAddr,storeVar,Sem.run_bind,Sem.run_pure,Result.andThen_ok,Lf hn]
    rw[if_neg (by simpa using hsz)]
    simp only[hst,Sem.run_pure,Sem.run_bind,Result.andThen_ok]
   refine⟨?_,β,.skip,w.setRow (β k) ((cs.take off++cellsOf (σ.eval y)++cs.drop (off+n)).map (AV.conc β)).toArray,?_,.inr ⟨rfl,rfl⟩,?_⟩
   ·rw[AS.app_eq]
    refine AS.wf.put (hwf.wr (k:=k) ?_) _ (by intro j hj;simp[AV.ids]at hj)
    intro z hz
    simp only[List.mem_append]at hz
    rcases hz with (hz|hz)|hz
    ·exact hwf.cells k cs hb z (List.mem_of_mem_take hz)
    ·exact hidy z hz
    ·exact hwf.cells k cs hb z (List.mem_of_mem_drop hz)
   ·unfold execOp
    rw[hop]
    simp only[hev,AV.conc,Sem.run_bind,hrun,Result.andThen_ok,Sem.run_pure]
   ·rw[AS.app_eq];exact(hr.store hb).put _ _
  ·cases h
 ·cases h
end
section
variable{P:Program}{Δ:List Deferred}{W:World}{β:Nat→Nat}{σ:AS}{Φ:World→Prop}{a:Act}{w:World}{o:Oper}{e:Yt}
theorem effField_ok{t:TypeId}{x:Operand}{f k off:Nat}(hop:o.op= .fieldAddr t x f)(hx:σ.eval x= .p k off)(h:Ra P t f k off=some e)(hr:O7 Δ W β σ Φ a w)(hwf:σ.wf):
 O8 P Δ W σ Φ β a w o e:=by
 have hev:=hr.eval x
 have hid:=hwf.eval x
 rw[hx]at hev hid
 unfold Ra at h
 split at h
 ·rename_i fs hu
  split at h
  ·rename_i fd hf
   split at h
   ·rename_i n hn
    injection h with h
    subst h
    refine O8.pure hr hwf hid ?_
    have hrun:(Instr.fieldAt t (.pointer (some ⟨β k,off,none⟩)) f).run P w= .ok (.pointer (some ⟨β k,off+fd.offset,none⟩)) w:=by
     simp only[Instr.fieldAt,Sem.run_bind,run_underlying hu,Result.andThen_ok,hf,Instr.sureAddr,Sem.run_pure,fieldPlace,Lf hn,Nat.add_one_ne_zero,if_false,Addr.add_mid]
    unfold execOp
    rw[hop]
    simp only[hev,AV.conc,Sem.run_bind,hrun,Result.andThen_ok,Sem.run_pure]
   ·cases h
  ·cases h
 ·cases h
theorem Jm{t:TypeId}{x:Operand}{f g off:Nat}(hop:o.op= .fieldAddr t x f)(hx:σ.eval x= .v (.pointer (some ⟨g,off,none⟩)))(h:Tj P t f g off=some e)(hr:O7 Δ W β σ Φ a w)(hwf:σ.wf):
 O8 P Δ W σ Φ β a w o e:=by
 have hev:=hr.eval x
 rw[hx]at hev
 unfold Tj at h
 split at h
 ·rename_i fs hu
  split at h
  ·rename_i fd hf
   split at h
   ·rename_i n hn
    injection h with h
    subst h
    refine O8.pure hr hwf (by intro k hk;simp[AV.ids]at hk) ?_
    have hrun:(Instr.fieldAt t (.pointer (some ⟨g,off,none⟩)) f).run P w= .ok (.pointer (some ⟨g,off+fd.offset,none⟩)) w:=by
     simp only[Instr.fieldAt,Sem.run_bind,run_underlying hu,Result.andThen_ok,hf,Instr.sureAddr,Sem.run_pure,fieldPlace,Lf hn,Nat.add_one_ne_zero,if_false,Addr.add_mid]
    unfold execOp
    rw[hop]
    simp only[hev,AV.conc,Sem.run_bind,hrun,Result.andThen_ok,Sem.run_pure]
   ·cases h
  ·cases h
 ·cases h
theorem effIndex_ok{t:TypeId}{x ix:Operand}(hop:o.op= .indexAddr t x ix)(h:Vk P t (σ.eval x) (σ.eval ix)=some e)(hr:O7 Δ W β σ Φ a w)(hwf:σ.wf):
 O8 P Δ W σ Φ β a w o e:=by
 have hev:=hr.eval x
 have hid:=hwf.eval x
 have hei:=hr.eval ix
 unfold Vk at h
 split at h
 ·rename_i k off kd i hx hi
  rw[hx]at hev hid
  rw[hi]at hei
  split at h
  ·rename_i len elem hu
   split at h
   ·rename_i n hn
    split at h
    ·rename_i hc
     simp only[Bool.and_eq_true,decide_eq_true_eq]at hc
     obtain⟨h1,h2⟩:=hc
     have h1:=Nat.le_of_ble_eq_true h1
     injection h with h
     subst h
     refine O8.pure hr hwf hid ?_
     have hb:0≤i∧i<(len:Int):=by omega
     have hrun:(Instr.indexAt t (.pointer (some ⟨β k,off,none⟩)) (.int kd i)).run P w= .ok (.pointer (some ⟨β k,off+i.toNat*n,none⟩)) w:=by
      simp only[Instr.indexAt,asIntOf,Sem.run_bind,Sem.run_pure,Result.andThen_ok,run_underlying hu,Instr.sureAddr,Lf hn,if_pos hb,Addr.add_mid]
     unfold execOp
     rw[hop]
     simp only[hev,hei,AV.conc,Sem.run_bind,hrun,Result.andThen_ok,Sem.run_pure]
    ·cases h
   ·cases h
  ·cases h
 ·rename_i k len kd i hx hi
  rw[hx]at hev hid
  rw[hi]at hei
  split at h
  ·rename_i elem hu
   split at h
   ·rename_i n hn
    split at h
    ·rename_i hc
     simp only[Bool.and_eq_true,decide_eq_true_eq]at hc
     obtain⟨h1,h2⟩:=hc
     have h1:=Nat.le_of_ble_eq_true h1
     injection h with h
     subst h
     refine O8.pure hr hwf hid ?_
     have hb:0≤i∧i<(len:Int):=by omega
     have hrun:(Instr.indexAt t (.slice (some ⟨β k,0,none⟩) len len) (.int kd i)).run P w= .ok (.pointer (some ⟨β k,i.toNat*n,none⟩)) w:=by
      simp only[Instr.indexAt,asIntOf,Sem.run_bind,Sem.run_pure,Result.andThen_ok,run_underlying hu,Instr.sureAddr,Lf hn,if_pos hb,Addr.add_mid,Nat.zero_add]
     unfold execOp
     rw[hop]
     simp only[hev,hei,AV.conc,Sem.run_bind,hrun,Result.andThen_ok,Sem.run_pure]
    ·cases h
   ·cases h
  ·cases h
 ·rename_i g off kd i hx hi
  rw[hx]at hev hid
  rw[hi]at hei
  split at h
  ·rename_i len elem hu
   split at h
   ·rename_i n hn
    split at h
    ·rename_i hc
     simp only[Bool.and_eq_true,decide_eq_true_eq]at hc
     obtain⟨h1,h2⟩:=hc
     have h1:=Nat.le_of_ble_eq_true h1
     injection h with h
     subst h
     refine O8.pure hr hwf (by intro k hk;simp[AV.ids]at hk) ?_
     have hb:0≤i∧i<(len:Int):=by omega
     have hrun:(Instr.indexAt t (.pointer (some ⟨g,off,none⟩)) (.int kd i)).run P w= .ok (.pointer (some ⟨g,off+i.toNat*n,none⟩)) w:=by
      simp only[Instr.indexAt,asIntOf,Sem.run_bind,Sem.run_pure,Result.andThen_ok,run_underlying hu,Instr.sureAddr,Lf hn,if_pos hb,Addr.add_mid]
     unfold execOp
     rw[hop]
     simp only[hev,hei,AV.conc,Sem.run_bind,hrun,Result.andThen_ok,Sem.run_pure]
    ·cases h
   ·cases h
  ·cases h
 ·cases h
theorem Vt{β:Nat→Nat}:∀{l:List AV} {r:List (Nat×Nat)},Vu l=some r→l.map (AV.conc β)=r.map (fun c=>Value.pointer (some ⟨β c.1,c.2,none⟩))∧∀c∈r,∃x∈l,c.1∈x.ids
 | [],r,h=>by simp[Vu]at h;subst h;exact⟨rfl,fun c hc=>by cases hc⟩
 | .p k o::l,r,h=>by
  simp only[Vu]at h
  split at h
  ·rename_i r' hr
   injection h with h
   subst h
   obtain⟨h1,h2⟩:=Vt (β:=β) hr
   refine⟨by simp[AV.conc,h1],fun c hc=> ?_⟩
   rcases List.mem_cons.1 hc with rfl|hc
   ·exact⟨_,List.mem_cons_self ..,by simp[AV.ids]⟩
   ·obtain⟨x,hx,hi⟩:=h2 c hc
    exact⟨x,List.mem_cons_of_mem _ hx,hi⟩
  ·cases h
 | .v _::_,r,h=>by simp[Vu]at h
 | .s _ _::_,r,h=>by simp[Vu]at h
 | .f _ _::_,r,h=>by simp[Vu]at h
theorem effBuild_ok{t:TypeId}{len:Nat}{parts:Array (Nat×Operand)}{elem n:Nat}{z:Value}{vs:List Value}{cells:Array Value}(hop:o.op= .buildSlice t len parts)
 (hu:P.underlying t=some (.slice elem)) (hn:N8 P elem=some n) (hz:Tv P elem=some z) (hvs:Ah ((parts.toList.map fun p=>σ.eval p.2))=some vs)
 (hle:len*n≤16777216) (h0:1≤len*n)
 (hf:Instr.fill (fun i=>some (i*n,n)) ((Array.range (len*n)).map (z.cells[· %z.cells.size]!)) ((parts.toList.map (·.1)).zip vs)=some cells)
 (h:Pz σ o.dst (cells.toList.map .v) (fun d=> .s d len)=some e) (hr:O7 Δ W β σ Φ a w) (hwf:σ.wf):O8 P Δ W σ Φ β a w o e:=by
 refine O8.new hr hwf h (by intro x hx j hj;simp at hx;obtain⟨q,_,rfl⟩:=hx;simp[AV.ids]at hj) (by intro d k hk;simpa[AV.ids]using hk) elem fun β' d hd=> ?_
 have hvl:=Q5 (β:=β) hvs
 have hparts:(parts.map fun(i,x)=>(i,a.eval x)).toList=(parts.toList.map (·.1)).zip vs:=by
  rw[←hvl,Array.toList_map,List.map_map,List.zip_map']
  exact List.map_congr_left fun p hp=>by
   obtain⟨i,x⟩:=p
   simp only[Function.comp,hr.eval x]
 have hmap:(cells.toList.map AV.v).map (AV.conc β)=cells.toList:=by simp[Function.comp_def,AV.conc]
 have hrun:(Instr.buildSlice t len (parts.map fun(i,x)=>(i,a.eval x))).run P w= .ok (.slice (some ⟨w.heap.size,0,none⟩) len len) (w.alloc (.cells cells elem)):=by
  have e1:¬len*n>2 ^ 24:=by omega
  have e2:¬len*n=0:=by omega
  simp only[Instr.buildSlice,Sem.run_bind,run_underlying hu,Result.andThen_ok,Lf hn,if_neg e1,if_neg e2,Qr hz,Sem.run_pure,hparts,hf]
  rfl
 unfold execOp
 rw[hop]
 simp only[Sem.run_bind,hrun,Result.andThen_ok,Sem.run_pure,hmap,AV.conc,hd]
theorem eff_ok(h:eff P o σ=some e)(hr:O7 Δ W β σ Φ a w)(hwf:σ.wf):O8 P Δ W σ Φ β a w o e:=by
 unfold eff at h
 split at h
 ·rename_i x hop
  injection h with h
  subst h
  refine O8.pure hr hwf (hwf.eval x) ?_
  unfold execOp;rw[hop];rw[←hr.eval];rfl
 ·rename_i x hop
  injection h with h
  subst h
  refine O8.pure hr hwf (hwf.eval x) ?_
  unfold execOp;rw[hop];rw[←hr.eval];rfl
 ·rename_i t hop
  split at h
  ·rename_i z hz
   refine O8.new hr hwf h (by intro x hx j hj;simp at hx;obtain⟨q,_,rfl⟩:=hx;simp[AV.ids]at hj) (by intro d k hk;simpa[AV.ids]using hk) t fun β' d hd=> ?_
   have hmap:(z.cells.toList.map AV.v).map (AV.conc β)=z.cells.toList:=by simp[Function.comp_def,AV.conc]
   unfold execOp
   rw[hop]
   simp only[Instr.alloc,Sem.run_bind,Qr hz,Result.andThen_ok,Qs,Sem.run_pure,hmap,AV.conc,hd]
  ·cases h
 ·rename_i t x hop
  have hidx:∀z∈cellsOf (σ.eval x),∀j∈z.ids,(σ.box j).isSome=true:=by
   have:=hwf.eval x
   cases hq:σ.eval x with
   |v q=>intro z hz j hj;simp[cellsOf,hq]at hz;obtain⟨q',_,rfl⟩:=hz;simp[AV.ids]at hj
   |_=>intro z hz j hj;rw[hq]at this;simp[cellsOf,hq]at hz;subst hz;exact this j hj
  refine O8.new hr hwf h hidx (by intro d k hk;simpa[AV.ids]using hk) t fun β' d hd=> ?_
  unfold execOp
  rw[hop]
  have hcc:(cellsOf (σ.eval x)).map (AV.conc β)=(a.eval x).cells.toList:=by rw[Ac,hr.eval]
  simp only[Instr.box,Sem.run_bind,Qs,Result.andThen_ok,Sem.run_pure,hcc,Array.toArray_toList]
  simp only[AV.conc,hd]
 ·rename_i t x hop
  split at h
  ·rename_i k off hx
   split at h
   ·rename_i cs hb;exact effLoad_ok hop hx hb h hr hwf
   ·cases h
  ·cases h
 ·rename_i t x y hop
  split at h
  ·rename_i k off hx
   split at h
   ·rename_i cs hb;exact effStore_ok hop hx hb h hr hwf
   ·cases h
  ·cases h
 ·rename_i t x f hop
  split at h
  ·rename_i k off hx;exact effField_ok hop hx h hr hwf
  ·rename_i g off hx;exact Jm hop hx h hr hwf
  ·cases h
 ·rename_i t x ix hop;exact effIndex_ok hop h hr hwf
 ·rename_i x hop
  split at h
  ·rename_i k off hx
   injection h with h
   subst h
   have hid:=hwf.eval x
   have hev:=hr.eval x
   rw[hx]at hid hev
   refine O8.pure hr hwf hid ?_
   unfold execOp;rw[hop];simp only[hev,AV.conc];rfl
  ·exact Vj h hr hwf
 ·rename_i g first caps hop
  split at h
  ·rename_i c r hf hc
   injection h with h
   subst h
   obtain⟨h1,h2⟩:=Vt (β:=β) hc
   refine O8.pure hr hwf ?_ ?_
   ·intro k hk
    simp only[AV.ids]at hk
    obtain⟨q,hq,rfl⟩:=List.mem_map.1 hk
    obtain⟨x,hx,hi⟩:=h2 q hq
    obtain⟨y,_,rfl⟩:=List.mem_map.1 hx
    exact hwf.eval y _ hi
   ·have e1:first.map a.eval= #[]:=by
     have:first= #[]:=by simpa using hf
     rw[this];simp
    have e2:caps.map a.eval=((c::r).map fun c=>Value.pointer (some ⟨β c.1,c.2,none⟩)).toArray:=by
     rw[←h1,List.map_map]
     apply Array.toList_inj.1
     simp only[Array.toList_map,List.toList_toArray]
     exact List.map_congr_left fun x _=>hr.eval x
    unfold execOp;rw[hop]
    simp only[e1,e2,AV.conc]
    rfl
  ·exact Vj h hr hwf
 ·rename_i t len parts hop
  split at h
  ·rename_i elem hu
   split at h
   ·rename_i n z hn hz
    split at h
    ·rename_i vs hvs
     split at h
     ·rename_i hc
      simp only[Bool.and_eq_true]at hc
      split at h
      ·rename_i cells hf
       exact effBuild_ok hop hu hn hz hvs (Nat.le_of_ble_eq_true hc.1) (Nat.le_of_ble_eq_true hc.2) hf h hr hwf
      ·cases h
     ·cases h
    ·cases h
   ·cases h
  ·cases h
 ·exact Vj h hr hwf
end
def Tq(σ:AS)(c:Call):Option (FuncId×List AV):=
 match c.callee with
 | .value f=>match σ.eval f with
  | .v (.func (.func g) first caps)=>some (g,first.toList.map .v++c.args.toList.map σ.eval++caps.toList.map .v)
  | .f g caps=>some (g,c.args.toList.map σ.eval++caps.map fun q=> .p q.1 q.2)
  |_=>none
 |_=>none
def Fh(P:Program)(g:FuncId):Bool:=
 match P.funcs[g]? with
 |some fn=> !(fn.name== "runtime.NumGoroutine")&&fn.body.isSome
 |none=>false
def S6(P:Program)(o:Oper)(σ:AS):Option (FuncId×List AV):=
 match o.op with
 | .call c=>match Tq σ c with
  |some (g,xs)=>if Fh P g then some (g,xs)else none
  |none=>none
 |_=>none
def Uw(ops:Array Oper)(σ:AS)(j:Nat):Option Bool:=
 match (ops[j]?).bind (·.dst)with
 |some t=>match σ.tmps[t]? with
  |some (.v (.bool b))=>some b
  |_=>none
 |none=>none
def Kp(ops:Array Oper)(o:Oper)(σ:AS):Bool:=
 match o.guard with
 |none=>true
 |some (j,want)=>match Uw ops σ j with
  |some b=>b==want
  |none=>false
def T5(P:Program)(ops:Array Oper)(o:Oper)(σ:AS):Option Yt:=
 if Kp ops o σ then eff P o σ else some ⟨.v undef,none⟩
def K3{X:Type}(w:World)(val:X→Value)(G:X→World→Prop)(e:Ending)(w':World):Prop:=
 ∃x,e= .returned (val x)∧Below w.heap.size w w'∧∀w'',w'.heap.size≤w''.heap.size→(∀b,w.heap.size≤b→b<w'.heap.size→w''.heap[b]? =w'.heap[b]?)→G x w''
def Wb(β:Nat→Nat)(σ:AS)(xs:List AV)(w:World):Prop:=
 ∀x∈xs,∀k∈x.ids,∀cs,σ.box k=some cs→∃ty,w.heap[β k]? =some (.cells (cs.map (AV.conc β)).toArray ty (0,0))
def Lp{X:Type}(P:Program)(w:World)(val:X→Value)(G:X→World→Prop)(s:Sem Next):Prop:=
 ∃x w',s.run P w= .ok (.value (val x)) w'∧Below w.heap.size w w'∧∀w'',w'.heap.size≤w''.heap.size→(∀b,w.heap.size≤b→b<w'.heap.size→w''.heap[b]? =w'.heap[b]?)→G x w''
structure Ga(L:List Nat)(w w':World):Prop where
 os:w'.os=w.os
 tape:w'.tape=w.tape
 output:w'.output=w.output
 size:w.heap.size≤w'.heap.size
 block:∀k,k<w.heap.size→k∉L→w'.heap[k]? =w.heap[k]?
def Ky{X:Type}(w:World)(L:List Nat)(val:X→Value)(G:X→World→Prop)(e:Ending)(w':World):Prop:=
 ∃x,e= .returned (val x)∧Ga L w w'∧∀w'',w'.heap.size≤w''.heap.size→(∀b,b∈L∨(w.heap.size≤b∧b<w'.heap.size)→w''.heap[b]? =w'.heap[b]?)→G x w''
def Nf{X:Type}(P:Program)(w:World)(L:List Nat)(val:X→Value)(G:X→World→Prop)(s:Sem Next):Prop:=
 ∃x w',s.run P w= .ok (.value (val x)) w'∧Ga L w w'∧∀w'',w'.heap.size≤w''.heap.size→(∀b,b∈L∨(w.heap.size≤b∧b<w'.heap.size)→w''.heap[b]? =w'.heap[b]?)→G x w''
def MutSk{X:Type}(P:Program)(w:World)(L:List Nat)(val:X→Value)(G:X→World→Prop)(s:Sem Next):Prop:=
 ∃x w',val x=undef∧s.run P w= .ok .skip w'∧Ga L w w'∧∀w'',w'.heap.size≤w''.heap.size→(∀b,b∈L∨(w.heap.size≤b∧b<w'.heap.size)→w''.heap[b]? =w'.heap[b]?)→G x w''
def Uv(W:World)(L:List Nat)(Φ:World→Prop):Prop:=∀w,Φ w→∀b∈L,W.heap.size≤b∧∃cs ty own,w.heap[b]? =some (.cells cs ty own)
def Tt(L:List Nat)(Φ G Φ':World→Prop):Prop:=∀wa w,wa.heap.size=w.heap.size→(∀b,b∉L→wa.heap[b]? =w.heap[b]?)→Φ wa→G w→Φ' w
section
variable{Δ:List Deferred}{W:World}{Φ Φ':World→Prop}
theorem O7.mut{β:Nat→Nat}{σ:AS}{a:Act}{w w':World}{L:List Nat}{G:World→Prop}(hr:O7 Δ W β σ Φ a w)
 (hL:Uv W L Φ)
 (hc:Ga L w w') (hG:∀w'',w'.heap.size≤w''.heap.size→(∀b,b∈L∨(w.heap.size≤b∧b<w'.heap.size)→w''.heap[b]? =w'.heap[b]?)→G w'')
 (hΦ:Tt L Φ G Φ'):O7 Δ W β σ Φ' a w':=by
 have hin:∀k,(σ.box k).isSome=true→β k<w.heap.size:=fun k hk=>by
  obtain⟨cs,hcs⟩:=Option.isSome_iff_exists.1 hk
  obtain⟨_,ty,hh⟩:=hr.box k cs hcs
  exact(Array.getElem?_eq_some_iff.1 hh).1
 have hLlt:∀b∈L,W.heap.size≤b∧b<w.heap.size:=fun b hb=>by
  obtain⟨h1,cs,ty,own,h2⟩:=hL w hr.phi b hb
  exact⟨h1,(Array.getElem?_eq_some_iff.1 h2).1⟩
 have nb:∀k,(σ.box k).isSome=true→β k∉L:=fun k hk hb=>by
  have h1:=hr.keep {w with heap:=w.heap.setIfInBounds (β k) (.pending #[] 0)} ⟨by simp,fun b _ h2 h3=>by
   rw[Array.getElem?_setIfInBounds_ne (h3 k hk)]⟩
  obtain⟨_,cs,ty,own,h2⟩:=hL _ h1 _ hb
  rw[Array.getElem?_setIfInBounds_self_of_lt (hin k hk)]at h2
  cases h2
 refine⟨hr.tmps,hr.defers,⟨hc.os.trans hr.bel.os,hc.tape.trans hr.bel.tape,hc.output.trans hr.bel.output,Nat.le_trans hr.bel.size hc.size,fun k hk=> ?_⟩,fun k cs hk=> ?_,hr.inj,fun w'' hw=> ?_⟩
 ·rw[hc.block k (Nat.lt_of_lt_of_le hk hr.bel.size) fun hb=>by have:=(hLlt k hb).1;omega]
  exact hr.bel.block k hk
 ·have hs:(σ.box k).isSome=true:=by rw[hk];rfl
  obtain⟨h1,ty,h2⟩:=hr.box k cs hk
  exact⟨h1,ty,by rw[hc.block _ (hin k hs) (nb k hs)];exact h2⟩
 ·refine hΦ {w'' with heap:=w''.heap.mapIdx fun i o=>if i∈L then(w.heap[i]?).getD o else o} w'' Zs (fun b hb=> ?_) (hr.keep _ ⟨?_,fun b h1 h2 h3=> ?_⟩) (hG w'' hw.size fun b hb=> ?_)
  ·simp only[Array.getElem?_mapIdx,if_neg hb]
   cases w''.heap[b]? <;>rfl
  ·simp only[Array.size_mapIdx];exact Nat.le_trans hc.size hw.size
  ·simp only[Array.getElem?_mapIdx]
   by_cases hb:b∈L
   ·simp only[if_pos hb]
    have hlt:b<w''.heap.size:=Nat.lt_of_lt_of_le h2 (Nat.le_trans hc.size hw.size)
    rw[Array.getElem?_eq_getElem hlt,Array.getElem?_eq_getElem h2]
    rfl
   ·simp only[if_neg hb]
    rw[hw.heap b h1 (Nat.lt_of_lt_of_le h2 hc.size) h3,hc.block b h2 hb]
    cases w.heap[b]? <;>rfl
  ·rcases hb with hb|⟨h1,h2⟩
   ·exact hw.heap b (hLlt b hb).1 (Nat.lt_of_lt_of_le (hLlt b hb).2 hc.size) fun k hk e=>nb k hk (e▸hb)
   ·exact hw.heap b (Nat.le_trans hr.bel.size h1) h2 fun k hk e=>by have:=hin k hk;omega
end
def Nq(ops:Array Oper)(listed:Array Bool):Prop:=
 ∀k o,ops[k]? =some o→listed.getD k false=true→∀e∈o.after,Region.binds .any e=true→listed.getD e.on false=true
def LoneOp(ops:Array Oper)(o:Oper):Prop:=∀(i:Nat),ops[i]? =some o→∀(listed:Array Bool) (j:Nat),Nq ops listed→i∈Region.ready .any ops listed→j∈Region.ready .any ops listed→j=i
def AskOk(P:Program)(s:Sem Next)(v:Value)(w:World):Prop:=s.run P w= .ok (.value v) w∨(v=undef∧s.run P w= .ok .skip w)
def U8(ops:Array Oper)(o:Oper):Bool:=o.op.operands.toList.all fun x=>match x with
 | .tmp t=>ops.toList.all fun q=>q.dst !=some t
 |_=>true
def Dj(ops:Array Oper)(σ:AS)(t:Nat)(ok:Oper):Bool:=(ok.dst==some t)&&(U8 ops ok&& !(σ.plain ok.op))
def Q0(ops:Array Oper)(σ:AS)(o:Oper):Bool:=match o.op with
 | .load _ (.tmp t)=>ops.toList.any (Dj ops σ t)
 | .binOp .add t _ _ _=>Nat.beq t 3
 | .binOp .sub t _ _ _=>Nat.beq t 3
 |_=>false
def isMv:Op→Bool
 | .move _=>true
 |_=>false
theorem Jg{op:Op}(h:∀x,op= .move x→False):isMv op=false:=by
 cases op<;>first|rfl|exact(h _ rfl).elim
def Xq(ops:Array Oper)(o:Oper)(σ:AS):Prop:=∀(i:Nat),ops[i]? =some o→∀(listed:Array Bool) (j:Nat),Nq ops listed→i∈Region.ready .any ops listed→j∈Region.ready .any ops listed→j=i∨∃oj,ops[j]? =some oj∧((U8 ops oj=true∧σ.plain oj.op=false)∨isMv oj.op=true∨Q0 ops σ oj=true)
inductive AOp [Rnd](P:Program)(W:World)(ops:Array Oper)(o:Oper)(Z:List PanicEntry→(World→Prop)→Prop)(K:AS→(World→Prop)→Prop)(σ:AS)(Φ:World→Prop):Prop
 |det (e:Yt) (h:T5 P ops o σ=some e) (hK:K (σ.app o.dst e) Φ):AOp P W ops o Z K σ Φ
 |call {X:Type} (g:FuncId) (xs:List AV) (val:X→Value) (G:X→World→Prop) (hw:Kp ops o σ=true) (hc:S6 P o σ=some (g,xs))
  (hs:∀β w,Below W.heap.size W w→Φ w→Wb β σ xs w→Calls P g (xs.map (AV.conc β)).toArray w (K3 w val G)) (hK:∀x:X,K (σ.put o.dst (.v (val x))) (fun w=>Φ w∧G x w)):AOp P W ops o Z K σ Φ
 |ask (v:Value) (hw:Kp ops o σ=true) (hp:σ.plain o.op=true) (hns:∀cs b,o.op≠ .select cs b) (hmv:isMv o.op=false) (hcb:Q0 ops σ o=false) (hs:∀w,Below W.heap.size W w→Φ w→AskOk P (execOp σ.rho o) v w) (hK:K (σ.put o.dst (.v v)) Φ):AOp P W ops o Z K σ Φ
 |make {X:Type} (val:X→Value) (G:X→World→Prop) (hw:Kp ops o σ=true) (hp:σ.plain o.op=true) (hns:∀cs b,o.op≠ .select cs b)
  (hs:∀w,Below W.heap.size W w→Φ w→Lp P w val G (execOp σ.rho o)) (hK:∀x:X,K (σ.put o.dst (.v (val x))) (fun w=>Φ w∧G x w)):AOp P W ops o Z K σ Φ
 |mutm {X:Type} {L:List Nat} (val:X→Value) (G Φ':X→World→Prop) (hl:Xq ops o σ) (hw:Kp ops o σ=true) (hp:σ.plain o.op=true) (hns:∀cs b,o.op≠ .select cs b)
  (hs:(∀w,Below W.heap.size W w→Φ w→Nf P w L val G (execOp σ.rho o)∨MutSk P w L val G (execOp σ.rho o))∨(∃g xs vs,S6 P o σ=some (g,xs)∧Ah xs=some vs∧∀w,Below W.heap.size W w→Φ w→Calls P g vs.toArray w (Ky w L val G))) (hL:Uv W L Φ) (hΦ:∀x,Tt L Φ (G x) (Φ' x)) (hK:∀x:X,K (σ.put o.dst (.v (val x))) (Φ' x)):AOp P W ops o Z K σ Φ
 |pan {L:List Nat} (ch:List PanicEntry) (Φ':World→Prop) (g:FuncId) (xs:List AV) (vs:List Value) (hl:Xq ops o σ) (hw:Kp ops o σ=true) (hp:σ.plain o.op=true) (hc:S6 P o σ=some (g,xs)) (hv:Ah xs=some vs)
  (hs:∀w,Below W.heap.size W w→Φ w→Calls P g vs.toArray w (fun e w'=>e= .panicked ch∧Ga L w w')) (hL:Uv W L Φ) (hΦ:Tt L Φ (fun _=>True) Φ') (hZ:Z ch Φ'):AOp P W ops o Z K σ Φ
 |lone (hl:LoneOp ops o) (hs:∀(Δ:List Deferred) (β:Nat→Nat) (a:Act) (w:World) (Q:Exit→Act→World→Prop) (i:Nat) (K':Act→World→Prop),ops[i]? =some o→O7 Δ W β σ Φ a w→σ.wf→
  (∀β' σ' Φ' a' w',K σ' Φ'→O7 Δ W β' σ' Φ' a' w'→σ'.wf→K' a' w')→wpOpIn Fe 0 P ops Q i K' a w):AOp P W ops o Z K σ Φ
section
variable{P:Program}{Δ:List Deferred}{W:World}{β:Nat→Nat}{σ:AS}{Φ:World→Prop}{a:Act}{w:World}{o:Oper}{e:Yt}{ops:Array Oper}{Q:Exit→Act→World→Prop}
theorem Lv(hr:O7 Δ W β σ Φ a w):Region.wanted o (yielded ops a.tmps)=Kp ops o σ:=by
 unfold Region.wanted Kp
 cases hg:o.guard with
 |none=>rfl
 | some q=>
  obtain⟨j,want⟩:=q
  simp only
  unfold yielded Uw
  cases hd:(ops[j]?).bind (·.dst)with
  |none=>simp
  | some t=>
   have e:a.tmps[t]? =(σ.tmps.map (AV.conc β))[t]? :=by rw[←hr.tmps];simp
   simp only[Option.bind_some,e,List.getElem?_map]
   cases σ.tmps[t]? with
   |none=>simp
   |some y=>
    cases y with
    |v x=>cases x<;>simp[AV.conc]
    |_=>simp[AV.conc]
theorem Ze(g:FuncId)(args:Array Value)(h:Fh P g=true)(w:World):(callFunc g args).run P w= .ok (.enter g args) w:=by
 unfold Fh at h
 cases hf:P.funcs[g]? with
 |none=>rw[hf]at h;cases h
 | some fn=>
  rw[hf]at h
  simp only[Bool.and_eq_true,Bool.not_eq_true']at h
  have hn:fn.body.isNone=false:=by
   cases hb:fn.body with
   |none=>rw[hb]at h;cases h.2
   |some c=>rfl
  simp only[callFunc,Sem.run_bind,run_program,Result.andThen_ok,hf,h.1,hn,Bool.false_eq_true,if_false,Sem.run_pure]
theorem Ak{g:FuncId}{xs:List AV}(h:S6 P o σ=some (g,xs))(hr:O7 Δ W β σ Φ a w):(execOp a.eval o).run P w= .ok (.enter g (xs.map (AV.conc β)).toArray) w:=by
 unfold S6 at h
 split at h
 ·rename_i c hop
  split at h
  ·rename_i g' xs' hc
   split at h
   ·rename_i hcall
    injection h with h
    injection h with h1 h2
    subst h1;subst h2
    have hargs:c.args.map a.eval=((c.args.toList.map σ.eval).map (AV.conc β)).toArray:=by
     apply Array.toList_inj.1
     simp only[Array.toList_map,List.map_map]
     exact List.map_congr_left fun x _=>hr.eval x
    unfold Tq at hc
    split at hc
    ·rename_i f hf
     have hef:=hr.eval f
     split at hc
     ·rename_i g2 first caps hv
      injection hc with hc
      injection hc with h1 h2
      subst h1;subst h2
      rw[hv]at hef
      have hres:resolve a.eval c o.type=pure {target:= .fn (.func g2) caps,args:=first++c.args.map a.eval}:=by
       unfold resolve
       rw[hf]
       simp only[hef,AV.conc,Deferred.ofValue]
      unfold execOp
      rw[hop]
      simp only[hres,Sem.run_bind,Sem.run_pure,Result.andThen_ok,invoke,Ze _ _ hcall]
      congr 2
      rw[hargs]
      apply Array.toList_inj.1
      simp[AV.conc,Function.comp_def]
     ·rename_i g2 caps hv
      injection hc with hc
      injection hc with h1 h2
      subst h1;subst h2
      rw[hv]at hef
      have hres:resolve a.eval c o.type=pure {target:= .fn (.func g2) (caps.map fun c=>Value.pointer (some ⟨β c.1,c.2,none⟩)).toArray,args:= #[]++c.args.map a.eval}:=by
       unfold resolve
       rw[hf]
       simp only[hef,AV.conc,Deferred.ofValue]
      unfold execOp
      rw[hop]
      simp only[hres,Sem.run_bind,Sem.run_pure,Result.andThen_ok,invoke,Ze _ _ hcall]
      congr 2
      rw[hargs]
      apply Array.toList_inj.1
      simp[AV.conc,Function.comp_def]
     ·cases hc
    ·cases hc
   ·cases h
  ·cases h
 ·cases h
theorem O7.call(hr:O7 Δ W β σ Φ a w){w':World}{G:World→Prop}(hb:Below w.heap.size w w')
 (hG:∀w'',w'.heap.size≤w''.heap.size→(∀b,w.heap.size≤b→b<w'.heap.size→w''.heap[b]? =w'.heap[b]?)→G w''):O7 Δ W β σ (fun w=>Φ w∧G w) a w':=by
 have hlt:∀k,(σ.box k).isSome=true→β k<w.heap.size:=fun k hk=>by
  obtain⟨cs',hcs'⟩:=Option.isSome_iff_exists.1 hk
  obtain⟨_,ty',hh⟩:=hr.box k cs' hcs'
  exact(Array.getElem?_eq_some_iff.1 hh).1
 refine⟨hr.tmps,hr.defers,hr.bel.trans (hb.mono hr.bel.size),fun k cs hk=> ?_,hr.inj,fun w'' hw=>⟨hr.keep w'' ⟨Nat.le_trans hb.size hw.size,fun b hW hb' hk=> ?_⟩,hG w'' hw.size fun b h1 h2=>hw.heap b (Nat.le_trans hr.bel.size h1) h2 fun k hk e=> ?_⟩⟩
 ·obtain⟨h1,ty,h2⟩:=hr.box k cs hk
  exact⟨h1,ty,by rw[hb.block _ (hlt k (by rw[hk];rfl))];exact h2⟩
 ·rw[hw.heap b hW (Nat.lt_of_lt_of_le hb' hb.size) hk,hb.block b hb']
 ·have:=hlt k hk
  omega
theorem Yq [Rnd]{i:Nat}{Z:List PanicEntry→(World→Prop)→Prop}{KA:AS→(World→Prop)→Prop}{K:Act→World→Prop}(h:AOp P W ops o Z KA σ Φ)(ho:ops[i]? =some o)(hr:O7 Δ W β σ Φ a w)(hwf:σ.wf)(hZ:∀ch β' σ' Φ' a' w',Z ch Φ'→O7 Δ W β' σ' Φ' a' w'→σ'.wf→Q (.panic ch) a' w')
 (hK:∀β' σ' Φ' a' w',KA σ' Φ'→O7 Δ W β' σ' Φ' a' w'→σ'.wf→K a' w'):wpOpIn Fe 0 P ops Q i K a w:=by
 cases h with
 |lone hl hs=>exact hs Δ β a w Q i K ho hr hwf hK
 | det e h hk=>
  unfold wpOpIn
  simp only[ho,Lv hr]
  unfold T5 at h
  split at h
  ·rename_i hw
   simp only[hw,if_true]
   obtain⟨hwf',β',nx,w',hrun,hnx,hr'⟩:=eff_ok h hr hwf
   rcases hnx with rfl|⟨rfl,hu⟩
   ·refine Y8 hrun Zs ?_
    exact hK _ _ _ _ _ hk hr' hwf'
   ·rw[hu]at hr'
    refine Y8 hrun Zs ?_
    exact hK _ _ _ _ _ hk hr' hwf'
  ·rename_i hw
   simp only[hw,if_false]
   injection h with h
   subst h
   refine⟨fun _ _=>trivial,hK β _ _ _ _ hk ?_ ?_⟩
   ·rw[AS.app_eq];exact O7.put (σ:=⟨σ.tmps,σ.box⟩) hr o.dst (.v undef)
   ·rw[AS.app_eq];exact AS.wf.put (σ:=⟨σ.tmps,σ.box⟩) hwf o.dst (by intro k hk;simp[AV.ids]at hk)
 |call g xs val G hw hc hs hk=>
  unfold wpOpIn
  simp only[ho,Lv hr]
  simp only[hw,if_true]
  refine Ds (Ak hc hr) ?_
  refine Calls.mono (hs β w hr.bel hr.phi fun x _ k _ cs hcs=>(hr.box k cs hcs).2) fun e w' he=> ?_
  obtain⟨x,rfl,hb,hG⟩:=he
  exact hK β _ _ _ _ (hk x) ((hr.call hb hG).put o.dst (.v (val x))) (hwf.put _ (by intro k hk;simp[AV.ids]at hk))
 | ask v hw hp hns hmv hcb hs hk=>
  unfold wpOpIn
  simp only[ho,Lv hr]
  simp only[hw,if_true]
  have hrho:∀x∈o.op.operands,a.eval x=σ.rho x:=fun x hx=>by
   rw[hr.eval,AV.conc_isV];· rfl
   exact List.all_eq_true.1 hp x (by simpa using hx)
  rcases hs w hr.bel hr.phi with hrun|⟨rfl,hrun⟩
  ·refine Y8 ((congrArg (fun s=>s.run P w) (execOp_congr o hns hrho)).trans hrun) Zs ?_
   exact hK β _ _ _ _ hk (hr.put o.dst (.v v)) (hwf.put _ (by intro k hk;simp[AV.ids]at hk))
  ·refine Y8 ((congrArg (fun s=>s.run P w) (execOp_congr o hns hrho)).trans hrun) Zs ?_
   exact hK β _ _ _ _ hk (hr.put o.dst (.v undef)) (hwf.put _ (by intro k hk;simp[AV.ids]at hk))
 |pan ch Φ2 g xs vs hl hw hp hc hv hs hL hΦ hz=>
  unfold wpOpIn
  simp only[ho,Lv hr]
  simp only[hw,if_true]
  refine Ds (Ak hc hr) ?_
  rw[Q5 hv]
  refine Calls.mono (hs w hr.bel hr.phi) fun e w' he=> ?_
  obtain⟨rfl,hch⟩:=he
  exact hZ ch β σ Φ2 a w' hz (hr.mut hL hch (fun _ _ _=>trivial) hΦ) hwf
 | mutm val G Φ2 hl hw hp hns hs hL hΦ hk=>
  unfold wpOpIn
  simp only[ho,Lv hr]
  simp only[hw,if_true]
  have hrho:∀x∈o.op.operands,a.eval x=σ.rho x:=fun x hx=>by
   rw[hr.eval,AV.conc_isV];· rfl
   exact List.all_eq_true.1 hp x (by simpa using hx)
  rcases hs with hs|⟨g,xs,vs,hc,hv,hs⟩
  ·rcases hs w hr.bel hr.phi with ⟨x,w',hrun,hch,hG⟩|⟨x,w',hv,hrun,hch,hG⟩
   ·refine Y8 ((congrArg (fun s=>s.run P w) (execOp_congr o hns hrho)).trans hrun) Zs ?_
    exact hK β _ _ _ _ (hk x) ((hr.mut hL hch hG (hΦ x)).put o.dst (.v (val x))) (hwf.put _ (by intro k hk;simp[AV.ids]at hk))
   ·refine Y8 ((congrArg (fun s=>s.run P w) (execOp_congr o hns hrho)).trans hrun) Zs ?_
    have h2:=hK β _ _ _ _ (hk x) ((hr.mut hL hch hG (hΦ x)).put o.dst (.v (val x))) (hwf.put _ (by intro k hk;simp[AV.ids]at hk))
    rw[hv]at h2
    exact h2
  ·refine Ds (Ak hc hr) ?_
   rw[Q5 hv]
   refine Calls.mono (hs w hr.bel hr.phi) fun e w' he=> ?_
   obtain⟨x,rfl,hch,hG⟩:=he
   exact hK β _ _ _ _ (hk x) ((hr.mut hL hch hG (hΦ x)).put o.dst (.v (val x))) (hwf.put _ (by intro k hk;simp[AV.ids]at hk))
 | make val G hw hp hns hs hk=>
  unfold wpOpIn
  simp only[ho,Lv hr]
  simp only[hw,if_true]
  have hrho:∀x∈o.op.operands,a.eval x=σ.rho x:=fun x hx=>by
   rw[hr.eval,AV.conc_isV];· rfl
   exact List.all_eq_true.1 hp x (by simpa using hx)
  obtain⟨x,w',hrun,hb,hG⟩:=hs w hr.bel hr.phi
  refine Y8 ((congrArg (fun s=>s.run P w) (execOp_congr o hns hrho)).trans hrun) Zs ?_
  exact hK β _ _ _ _ (hk x) ((hr.call hb hG).put o.dst (.v (val x))) (hwf.put _ (by intro k hk;simp[AV.ids]at hk))
end
def Fr [Rnd](P:Program)(W:World)(ops:Array Oper)(Z:List PanicEntry→(World→Prop)→Prop)(K:AS→(World→Prop)→Prop):Nat→Array Bool→AS→(World→Prop)→Prop
 |0,listed,σ,Φ=>Region.ready .any ops listed=[]∧K σ Φ
 |fuel+1,listed,σ,Φ=>(Region.ready .any ops listed=[]→K σ Φ)∧
  ∀i∈Region.ready .any ops listed,∃o,ops[i]? =some o∧AOp P W ops o Z (Fr P W ops Z K fuel (listed.setIfInBounds i true)) σ Φ
theorem aAny_ok [Rnd]{P:Program}{ops:Array Oper}{Δ:List Deferred}{W:World}{Q:Exit→Act→World→Prop}{Z:List PanicEntry→(World→Prop)→Prop}{K:AS→(World→Prop)→Prop}
 (hZ:∀ch β σ Φ a w,Z ch Φ→O7 Δ W β σ Φ a w→σ.wf→Q (.panic ch) a w) (hK:∀β σ Φ a w,K σ Φ→O7 Δ W β σ Φ a w→σ.wf→Q .normal a w):∀(fuel:Nat) (listed:Array Bool) (σ:AS) (Φ:World→Prop) (β:Nat→Nat) (a:Act) (w:World),
 Fr P W ops Z K fuel listed σ Φ→O7 Δ W β σ Φ a w→σ.wf→wpAnyIn Fe 0 P .any ops Q fuel listed a w
 |0,listed,σ,Φ,β,a,w,h,hr,hwf=>⟨h.1,hK β σ Φ a w h.2 hr hwf⟩
 |fuel+1,listed,σ,Φ,β,a,w,h,hr,hwf=>by
  refine⟨fun h0=>hK β σ Φ a w (h.1 h0) hr hwf,fun i hi=> ?_⟩
  obtain⟨o,ho,hop⟩:=h.2 i hi
  exact Yq hop ho hr hwf hZ fun β' σ' Φ' a' w' hk hr' hwf'=>aAny_ok hZ hK fuel _ σ' Φ' β' a' w' hk hr' hwf'
theorem Nq.set_{ops:Array Oper}{listed:Array Bool}{j:Nat}{oj:Oper}(h:Nq ops listed)(hj:ops[j]? =some oj)(hall:∀e∈oj.after,Region.binds .any e=true→listed.getD e.on false=true):
 Nq ops (listed.setIfInBounds j true):=by
 intro k o hk hl e he hb
 by_cases hkj:j=k
 ·subst hkj
  rw[hj]at hk
  injection hk with hk
  subst hk
  exact getD_set_true (hall e he hb)
 ·rw[getD_set_ne false hkj]at hl
  exact getD_set_true (h k o hk hl e he hb)
theorem Nq.start(ops:Array Oper)(n:Nat):Nq ops (Array.replicate n false):=by
 intro k o hk hl
 rw[Array.getD_eq_getD_getElem?,Array.getElem?_replicate]at hl
 split at hl<;>simp at hl
def Ssa(ops:Array Oper):Prop:=
 ∀i j oi oj,ops[i]? =some oi→ops[j]? =some oj→i≠j→∀d,oi.dst=some d→oj.dst≠some d∧(d∈oj.looksAt ops→(∃e∈oj.after,Region.binds .any e=true∧e.on=i)∨∃e∈oi.after,Region.binds .any e=true∧e.on=j)
def ssaB(ops:Array Oper):Bool:=
 ops.toList.zipIdx.all fun q=>ops.toList.zipIdx.all fun r=>Nat.beq r.2 q.2||(match r.1.dst with
  |some d=>(match q.1.dst with|some d'=> !Nat.beq d d'|none=>true)&&(!(q.1.looksAt ops).contains d||(q.1.after.toList.any fun e=>Nat.beq e.on r.2&&Region.binds .any e)||r.1.after.toList.any fun e=>Nat.beq e.on q.2&&Region.binds .any e)
  |none=>true)
theorem ssa_spec{ops:Array Oper}(h:ssaB ops=true):Ssa ops:=by
 intro i j oi oj hi hj hne d hd
 have mi:(oi,i)∈ops.toList.zipIdx:=by
  rw[List.mem_zipIdx_iff_getElem?];simpa using hi
 have mj:(oj,j)∈ops.toList.zipIdx:=by
  rw[List.mem_zipIdx_iff_getElem?];simpa using hj
 have h1:=List.all_eq_true.1 (List.all_eq_true.1 h _ mj) _ mi
 simp only[hd,Bool.or_eq_true,Nat.beq_eq,Bool.and_eq_true]at h1
 rcases h1 with h1|⟨h1,h2⟩
 ·exact absurd h1 hne
 ·refine⟨fun e=> ?_,fun hm=> ?_⟩
  ·rw[e]at h1
   simp at h1
  ·rcases h2 with (h2|h2)|h2
   ·simp only[Bool.not_eq_true',List.contains_eq_mem,decide_eq_false_iff_not]at h2
    exact absurd hm h2
   ·obtain⟨e,he,hb⟩:=List.any_eq_true.1 h2
    simp only[Bool.and_eq_true,Nat.beq_eq]at hb
    exact .inl ⟨e,by simpa using he,hb.2,hb.1⟩
   ·obtain⟨e,he,hb⟩:=List.any_eq_true.1 h2
    simp only[Bool.and_eq_true,Nat.beq_eq]at hb
    exact .inr ⟨e,by simpa using he,hb.2,hb.1⟩
def rdK:AV→Option Nat
 | .p k _=>some k
 |_=>none
def Uh(o:Oper)(σ:AS):Option Nat:=
 match o.op with
 | .load _ x=>rdK (σ.eval x)
 | .store _ x _=>rdK (σ.eval x)
 | .alloc _=>o.dst
 | .box _ _=>o.dst
 | .buildSlice _ _ _=>o.dst
 |_=>none
theorem AS.eval_put{σ:AS}{d:Option Tmp}{v:AV}{x:Operand}(h:∀t,d=some t→x≠ .tmp t):(σ.put d v).eval x=σ.eval x:=by
 cases d with
 |none=>rfl
 | some t=>
  cases x with
  |tmp u=>
   have hne:t≠u:=fun e=>h t rfl (e▸rfl)
   simp[AS.eval,AS.put,List.getElem?_set_ne hne]
  |_=>rfl
theorem AS.eval_app{σ:AS}{d:Option Tmp}{e:Yt}{x:Operand}(h:∀t,d=some t→x≠ .tmp t):(σ.app d e).eval x=σ.eval x:=by
 rw[AS.app_eq];rw[AS.eval_put h];cases x<;>rfl
theorem Ny{ops:Array Oper}{o:Oper}{d:Option Tmp}(h:∀t,d=some t→t∉o.looksAt ops){x:Operand}(hx:x∈o.op.operands):∀t,d=some t→x≠ .tmp t:=by
 intro t ht e
 subst e
 exact h t ht (List.mem_append_left _ (List.mem_filterMap.2 ⟨.tmp t,by simpa using hx,rfl⟩))
theorem Mp{ops:Array Oper}{oi ok:Oper}{i:Nat}(hi:ops[i]? =some oi)(h:U8 ops ok=true)(y:Operand)(hy:y∈ok.op.operands):∀t,oi.dst=some t→y≠ .tmp t:=by
 intro t ht e
 subst e
 have h1:=List.all_eq_true.1 h (.tmp t) (by simpa using hy)
 have h2:=List.all_eq_true.1 h1 oi (List.mem_of_getElem? (by rw[Array.getElem?_toList];exact hi))
 rw[ht]at h2
 simp at h2
theorem M4{o:Op}{σ σ':AS}(h:∀x∈o.operands,σ'.eval x=σ.eval x):σ'.plain o=σ.plain o:=by
 unfold AS.plain
 rw[Bool.eq_iff_iff,List.all_eq_true,List.all_eq_true]
 constructor
 ·intro H x hx;rw[←h x (by simpa using hx)];exact H x hx
 ·intro H x hx;rw[h x (by simpa using hx)];exact H x hx
section
variable{P:Program}{o:Oper}{σ σ':AS}
theorem Mt{ops:Array Oper}{σ σ':AS}(h:∀ok,U8 ops ok=true→∀x∈ok.op.operands,σ'.eval x=σ.eval x)(o:Oper):Q0 ops σ' o=Q0 ops σ o:=by
 have e:∀t,Dj ops σ' t=Dj ops σ t:=fun t=>funext fun ok=>by
  unfold Dj
  cases hf:U8 ops ok with
  |false=>rfl
  |true=>rw[M4 (h ok hf)]
 unfold Q0
 split
 ·rw[e]
 ·rfl
 ·rfl
 ·rfl
theorem F0(h:∀x∈o.op.operands,σ'.eval x=σ.eval x):Og P o σ'=Og P o σ:=by
 unfold Og
 rw[M4 h]
 split
 ·split
  ·rfl
  ·rename_i hns
   have hrho:∀x∈o.op.operands,σ'.rho x=σ.rho x:=fun x hx=>by unfold AS.rho;rw[h x hx]
   rw[execOp_congr o (fun cs b e=>hns cs b e) hrho]
 ·rfl
theorem Qu(h:∀x∈o.op.operands,σ'.eval x=σ.eval x)(hb:∀k,Uh o σ=some k→σ'.box k=σ.box k):eff P o σ'=eff P o σ:=by
 unfold eff
 have hp:=F0 (P:=P) h
 cases hop:o.op with
 |move x=>simp only;rw[h x (by simp[hop,Op.operands])]
 |assign x=>simp only;rw[h x (by simp[hop,Op.operands])]
 | alloc t=>
  simp only
  split
  ·unfold Pz
   split
   ·rename_i d hd;rw[hb d (by unfold Uh;rw[hop];exact hd)]
   ·rfl
  ·rfl
 |box t x=>
  simp only
  rw[h x (by simp[hop,Op.operands])]
  unfold Pz
  split
  ·rename_i d hd;rw[hb d (by unfold Uh;rw[hop];exact hd)]
  ·rfl
 |load t x=>
  simp only
  rw[h x (by simp[hop,Op.operands])]
  split
  ·rename_i k off hx;rw[hb k (by unfold Uh;rw[hop];simp only[hx,rdK])]
  ·rfl
 |store t x y=>
  simp only
  rw[h x (by simp[hop,Op.operands]),h y (by simp[hop,Op.operands])]
  split
  ·rename_i k off hx;rw[hb k (by unfold Uh;rw[hop];simp only[hx,rdK])]
  ·rfl
 |fieldAddr t x f=>simp only;rw[h x (by simp[hop,Op.operands])]
 |indexAddr t x ix=>simp only;rw[h x (by simp[hop,Op.operands]),h ix (by simp[hop,Op.operands])]
 |nilCheck x=>simp only;rw[h x (by simp[hop,Op.operands]),hp]
 |makeFunc fn first caps=>
  have e:caps.toList.map σ'.eval=caps.toList.map σ.eval:=List.map_congr_left fun x hx=>h x (by simp[hop,Op.operands];exact .inr (by simpa using hx))
  cases fn<;>simp only[e,hp]
 | buildSlice t len parts=>
  have e:(parts.toList.map fun p=>σ'.eval p.2)=parts.toList.map fun p=>σ.eval p.2:=List.map_congr_left fun p hp=>h p.2 (by
   rw[hop];simp only[Op.operands]
   exact List.mem_toArray.2 (List.mem_map.2 ⟨p,hp,rfl⟩))
  simp only[e]
  (repeat' split)<;>first|rfl|(unfold Pz;split<;>first|rfl|(rename_i d hd;rw[hb d (by unfold Uh;rw[hop];exact hd)]))
 |_=>simp only;exact hp
theorem Fi{c:Call}(h:∀x∈c.operands,σ'.eval x=σ.eval x):Tq σ' c=Tq σ c:=by
 unfold Tq
 split
 ·rename_i f hf
  rw[h f (by simp[Call.operands,hf])]
  have e:c.args.toList.map σ'.eval=c.args.toList.map σ.eval:=List.map_congr_left fun x hx=>h x (by simp[Call.operands,hf];exact .inr (by simpa using hx))
  rw[e]
 ·rfl
theorem Sq(h:∀x∈o.op.operands,σ'.eval x=σ.eval x):S6 P o σ'=S6 P o σ:=by
 unfold S6
 split
 ·rename_i c hop
  rw[Fi fun x hx=>h x (by rw[hop];exact hx)]
 ·rfl
theorem Mf{ops:Array Oper}{d:Option Tmp}{v:AV}(h:∀t,d=some t→t∉o.looksAt ops):Kp ops o (σ.put d v)=Kp ops o σ:=by
 cases d with
 |none=>rfl
 | some t=>
  unfold Kp
  cases hg:o.guard with
  |none=>rfl
  | some q=>
   obtain⟨j,want⟩:=q
   have hy:Uw ops (σ.put (some t) v) j=Uw ops σ j:=by
    unfold Uw
    cases ht:(ops[j]?).bind (·.dst)with
    |none=>rfl
    |some u=>
     have hne:t≠u:=fun e=>h t rfl (by subst e;simp[Oper.looksAt,hg,ht])
     simp[AS.put,List.getElem?_set_ne hne]
   simp only[hy]
theorem Uy{ops:Array Oper}{d:Option Tmp}{e:Yt}(h:∀t,d=some t→t∉o.looksAt ops):Kp ops o (σ.app d e)=Kp ops o σ:=by
 rw[AS.app_eq,Mf h];rfl
theorem eff_wr{e:Yt}{k:Nat}{cs:List AV}(h:eff P o σ=some e)(hw:e.wr=some (k,cs)):
 (∃t x y off,o.op= .store t x y∧σ.eval x= .p k off)∨(o.dst=some k∧σ.box k=none∧((∃t,o.op= .alloc t)∨(∃t x,o.op= .box t x)∨(∃t n ps,o.op= .buildSlice t n ps))):=by
 have hpl:∀{e:Yt},Og P o σ=some e→e.wr=none:=fun{e} h=>by
  unfold Og at h
  split at h
  ·split at h
   ·cases h
   ·split at h
    ·injection h with h;subst h;rfl
    ·cases h
  ·cases h
 have hnew:∀{e:Yt} {cs':List AV} {x:Nat→AV},Pz σ o.dst cs' x=some e→e.wr=some (k,cs)→o.dst=some k∧σ.box k=none:=fun{e cs' x} h hw=>by
  unfold Pz at h
  split at h
  ·rename_i d hd
   split at h
   ·cases h
   ·rename_i hb
    injection h with h;subst h
    simp only[Option.some.injEq,Prod.mk.injEq]at hw
    rw[←hw.1]
    exact⟨hd,hb⟩
  ·cases h
 unfold eff at h
 cases hop:o.op<;>simp only[hop]at h
 case move x=>injection h with h;subst h;cases hw
 case assign x=>injection h with h;subst h;cases hw
 case alloc t=>
  split at h
  ·obtain⟨h1,h2⟩:=hnew h hw;exact .inr ⟨h1,h2,.inl ⟨_,rfl⟩⟩
  ·cases h
 case box t x=>obtain⟨h1,h2⟩:=hnew h hw;exact .inr ⟨h1,h2,.inr (.inl ⟨_,_,rfl⟩)⟩
 case load t x=>
  split at h
  ·split at h
   ·unfold U9 at h
    exfalso
    (repeat' split at h)<;>first|(cases h;done)|(injection h with h;subst h;cases hw)
   ·cases h
  ·cases h
 case store t x y=>
  split at h
  ·rename_i k' off hx
   split at h
   ·unfold Vi at h
    (repeat' split at h)<;>first|(cases h;done)|skip
    injection h with h
    subst h
    simp only[Option.some.injEq,Prod.mk.injEq]at hw
    rw[←hw.1]
    exact .inl ⟨t,x,y,off,rfl,hx⟩
   ·cases h
  ·cases h
 case fieldAddr t x f=>
  split at h
  ·unfold Ra at h
   exfalso
   (repeat' split at h)<;>first|(cases h;done)|(injection h with h;subst h;cases hw)
  ·unfold Tj at h
   exfalso
   (repeat' split at h)<;>first|(cases h;done)|(injection h with h;subst h;cases hw)
  ·cases h
 case indexAddr t x ix=>
  unfold Vk at h
  exfalso
  (repeat' split at h)<;>first|(cases h;done)|(injection h with h;subst h;cases hw)
 case nilCheck x=>
  split at h
  ·injection h with h;subst h;cases hw
  ·rw[hpl h]at hw;cases hw
 case makeFunc fn first caps=>
  cases fn<;>simp only at h
  case func g=>
   split at h
   ·injection h with h;subst h;cases hw
   ·rw[hpl h]at hw;cases hw
  all_goals (rw[hpl h]at hw;cases hw)
 case buildSlice t n ps=>
  (repeat' split at h)<;>first|(cases h;done)|skip
  obtain⟨h1,h2⟩:=hnew h hw
  exact .inr ⟨h1,h2,.inr (.inr ⟨_,_,_,rfl⟩)⟩
 all_goals (rw[hpl h]at hw;cases hw)
end
def StableO(ops:Array Oper)(listed:Array Bool)(y:Operand):Prop:=
 ∀(m:Nat) (om:Oper),ops[m]? =some om→listed.getD m true=false→∀d,om.dst=some d→y≠ .tmp d
def Aq(ops:Array Oper)(listed:Array Bool)(σ:AS)(k:Nat)(y:Operand):Prop:=
 StableO ops listed y∧∀k' off,σ.eval y= .p k' off→k'≠k
def MemOk(ops:Array Oper)(D:Nat→Bool)(listed:Array Bool)(σ:AS)(i:Nat)(oi:Oper):Prop:=
 ∀(j:Nat) (oj:Oper),ops[j]? =some oj→j≠i→listed.getD j true=false→D j=false→
  (∀t x k off,oi.op= .load t x→σ.eval x= .p k off→∀t' y z,oj.op= .store t' y z→Aq ops listed σ k y)∧
  (∀t x z k off,oi.op= .store t x z→σ.eval x= .p k off→(∀t' y z',oj.op= .store t' y z'→Aq ops listed σ k y)∧(∀t' y,oj.op= .load t' y→Aq ops listed σ k y)∧∀c,oj.op≠ .call c)
theorem Sn{listed:Array Bool}{j m:Nat}(h:(listed.setIfInBounds j true).getD m true=false):listed.getD m true=false∧m≠j:=by
 by_cases e:j=m
 ·subst e
  rw[Array.getD_eq_getD_getElem?,Array.getElem?_setIfInBounds]at h
  rcases Nat.lt_or_ge j listed.size with h'|h'
  ·simp[h']at h
  ·simp[Nat.not_lt.2 h']at h
 ·rw[getD_set_ne true e]at h
  exact⟨h,fun e'=>e e'.symm⟩
theorem Aq.next{ops:Array Oper}{listed:Array Bool}{σ σ':AS}{k:Nat}{y:Operand}{j:Nat}(h:Aq ops listed σ k y)(he:(∀m om,ops[m]? =some om→listed.getD m true=false→∀d,om.dst=some d→y≠ .tmp d)→σ'.eval y=σ.eval y):
 Aq ops (listed.setIfInBounds j true) σ' k y:=
 ⟨fun m om hm hl d hd=>h.1 m om hm (Sn hl).1 d hd,fun k' off hx=>h.2 k' off (by rw[←he h.1];exact hx)⟩
theorem MemOk.next{ops:Array Oper}{D:Nat→Bool}{listed:Array Bool}{σ σ':AS}{i:Nat}{oi:Oper}(h:MemOk ops D listed σ i oi){j:Nat}{oj:Oper}(hj:ops[j]? =some oj)(hl:listed.getD j true=false)
 (he:∀x,(∀d,oj.dst=some d→x≠ .tmp d)→σ'.eval x=σ.eval x) (hi:∀x∈oi.op.operands,σ'.eval x=σ.eval x):MemOk ops D (listed.setIfInBounds j true) σ' i oi:=by
 have step:∀{k:Nat} {y:Operand},Aq ops listed σ k y→Aq ops (listed.setIfInBounds j true) σ' k y:=fun ha=>ha.next fun hs=>he _ fun d hd=>hs j oj hj hl d hd
 intro m om hm hmi hlm hD
 obtain⟨h1,h2⟩:=h m om hm hmi (Sn hlm).1 hD
 refine⟨fun t x k off ho hx t' y z hy=>step (h1 t x k off ho (by rw[←hi x (by simp[ho,Op.operands])];exact hx) t' y z hy),fun t x z k off ho hx=> ?_⟩
 obtain⟨h3,h4,h5⟩:=h2 t x z k off ho (by rw[←hi x (by simp[ho,Op.operands])];exact hx)
 exact⟨fun t' y z' hy=>step (h3 t' y z' hy),fun t' y hy=>step (h4 t' y hy),h5⟩
theorem upd_comm(b:Nat→Option (List AV)){k j:Nat}(cs ds:List AV)(h:k≠j):upd (upd b k cs) j ds=upd (upd b j ds) k cs:=by
 funext x
 by_cases e1:x=k
 ·subst e1
  rw[Rg _ _ h,Qa,Qa]
 ·by_cases e2:x=j
  ·subst e2
   rw[Qa,Rg _ _ e1,Qa]
  ·rw[Rg _ _ e2,Rg _ _ e1,Rg _ _ e1,Rg _ _ e2]
theorem AS.put_comm(σ:AS){d d':Option Tmp}(x y:AV)(h:∀t,d=some t→d'≠some t):(σ.put d x).put d' y=(σ.put d' y).put d x:=by
 cases d with
 |none=>rfl
 | some t=>
  cases d' with
  |none=>rfl
  |some u=>
   have hne:t≠u:=fun e=>h t rfl (e▸rfl)
   simp[AS.put,List.set_comm _ _ hne]
theorem wrBox_comm(b:Nat→Option (List AV)){x y:Option (Nat×List AV)}(h:∀k cs ds,x=some (k,cs)→y≠some (k,ds)):Ux (Ux b x) y=Ux (Ux b y) x:=by
 cases x with
 |none=>rfl
 | some p=>
  cases y with
  |none=>rfl
  |some q=>
   obtain⟨k,cs⟩:=p
   obtain⟨j,ds⟩:=q
   exact upd_comm b cs ds fun e=>h k cs ds rfl (by rw[e])
theorem AS.app_comm(σ:AS){d d':Option Tmp}{x y:Yt}(h:∀t,d=some t→d'≠some t)(hw:∀k cs ds,x.wr=some (k,cs)→y.wr≠some (k,ds)):(σ.app d x).app d' y=(σ.app d' y).app d x:=by
 have e:((σ.put d x.val).put d' y.val).tmps=((σ.put d' y.val).put d x.val).tmps:=by rw[AS.put_comm σ _ _ h]
 simp only[AS.app]
 congr 1
 ·cases d<;>cases d'<;>first|rfl|exact e
 ·exact wrBox_comm _ hw
theorem AS.app_put(σ:AS){d d':Option Tmp}{x:Yt}{v:AV}(h:∀t,d=some t→d'≠some t):(σ.app d x).put d' v=(σ.put d' v).app d x:=by
 have e:=AS.app_comm σ (d:=d) (d':=d') (x:=x) (y:=⟨v,none⟩) h (by intro k cs ds _ h;cases h)
 cases d' with
 |none=>rfl
 |some t=>exact e
theorem Dn{b:Nat→Option (List AV)}{k:Nat}{x:Option (Nat×List AV)}(h:∀cs,x≠some (k,cs)):Ux b x k=b k:=by
 cases x with
 |none=>rfl
 |some p=>
  obtain⟨j,cs⟩:=p
  exact Rg _ _ fun e=>h cs (by rw[e])
theorem wrBox_some{b:Nat→Option (List AV)}{k:Nat}{x:Option (Nat×List AV)}(h:(b k).isSome=true):(Ux b x k).isSome=true:=by
 cases x with
 |none=>exact h
 |some p=>exact Z0 h
theorem Ch{P:Program}{o:Oper}{σ:AS}{e:Yt}{k:Nat}(h:eff P o σ=some e)(hd:o.dst=some k)(ho:(∃t,o.op= .alloc t)∨(∃t x,o.op= .box t x)∨(∃t n ps,o.op= .buildSlice t n ps)):σ.box k=none:=by
 have hn:∀{cs:List AV} {v:Nat→AV} {e:Yt},Pz σ o.dst cs v=some e→σ.box k=none:=fun{cs v e} h=>by
  unfold Pz at h
  rw[hd]at h
  simp only at h
  split at h
  ·cases h
  ·assumption
 unfold eff at h
 rcases ho with ⟨t,ho⟩|⟨t,x,ho⟩|⟨t,n,ps,ho⟩<;>simp only[ho]at h
 ·split at h
  ·exact hn h
  ·cases h
 ·exact hn h
 ·(repeat' split at h)<;>first|(cases h;done)|exact hn h
theorem touch_cases{o:Oper}{σ:AS}{k:Nat}(h:Uh o σ=some k):
 (∃t x off,o.op= .load t x∧σ.eval x= .p k off)∨(∃t x y off,o.op= .store t x y∧σ.eval x= .p k off)∨
 (o.dst=some k∧((∃t,o.op= .alloc t)∨(∃t x,o.op= .box t x)∨(∃t n ps,o.op= .buildSlice t n ps))):=by
 have hk:∀{x:AV},rdK x=some k→∃off,x= .p k off:=fun{x} h=>by
  cases x<;>simp[rdK]at h
  subst h;exact⟨_,rfl⟩
 unfold Uh at h
 split at h
 ·rename_i t x ho
  obtain⟨off,hx⟩:=hk h
  exact .inl ⟨t,x,off,ho,hx⟩
 ·rename_i t x y ho
  obtain⟨off,hx⟩:=hk h
  exact .inr (.inl ⟨t,x,y,off,ho,hx⟩)
 ·rename_i t ho;exact .inr (.inr ⟨h,.inl ⟨t,ho⟩⟩)
 ·rename_i t x ho;exact .inr (.inr ⟨h,.inr (.inl ⟨t,x,ho⟩)⟩)
 ·rename_i t n ps ho;exact .inr (.inr ⟨h,.inr (.inr ⟨t,n,ps,ho⟩)⟩)
 ·cases h
theorem Ok{σ:AS}(hwf:σ.wf){x:Operand}{k off:Nat}(h:σ.eval x= .p k off):(σ.box k).isSome=true:=hwf.eval x k (by rw[h];simp[AV.ids])
theorem wf_app{σ:AS}{d:Option Tmp}{e:Yt}(hwf:σ.wf)(hv:∀k∈e.val.ids,(Ux σ.box e.wr k).isSome=true)
 (hc:∀k cs,e.wr=some (k,cs)→∀x∈cs,∀j∈x.ids,(σ.box j).isSome=true):(σ.app d e).wf:=by
 rw[AS.app_eq]
 refine AS.wf.put ?_ d hv
 cases hw:e.wr with
 |none=>exact hwf
 |some p=>exact hwf.wr (hc p.1 p.2 hw)
theorem eff_wf{P:Program}{o:Oper}{σ:AS}{e:Yt}(h:eff P o σ=some e)(hwf:σ.wf):(σ.app o.dst e).wf:=by
 have pure:∀{v:AV},(∀k∈v.ids,(σ.box k).isSome=true)→(σ.app o.dst ⟨v,none⟩).wf:=fun hv=>wf_app hwf hv (by intro k cs h;cases h)
 have plainv:∀{v:Value},(σ.app o.dst ⟨.v v,none⟩).wf:=pure (by intro k hk;simp[AV.ids]at hk)
 have hpl:∀{e:Yt},Og P o σ=some e→(σ.app o.dst e).wf:=fun{e} h=>by
  unfold Og at h
  split at h
  ·split at h
   ·cases h
   ·split at h
    ·injection h with h;subst h;exact plainv
    ·cases h
  ·cases h
 have hnew:∀{e:Yt} {cs:List AV} {x:Nat→AV},Pz σ o.dst cs x=some e→(∀d k,k∈(x d).ids→k=d)→(∀x∈cs,∀j∈x.ids,(σ.box j).isSome=true)→(σ.app o.dst e).wf:=fun{e cs x} h hx hcs=>by
  unfold Pz at h
  split at h
  ·rename_i d hd
   split at h
   ·cases h
   ·injection h with h;subst h
    refine wf_app hwf ?_ ?_
    ·intro k hk;rw[hx d k hk];simp[Ux,Qa]
    ·intro k cs' h;injection h with h;injection h with _ h;subst h;exact hcs
  ·cases h
 have hcells:∀x:Operand,∀z∈cellsOf (σ.eval x),∀j∈z.ids,(σ.box j).isSome=true:=fun x=>by
  have:=hwf.eval x
  cases hq:σ.eval x with
  |v q=>intro z hz j hj;simp[cellsOf]at hz;obtain⟨q',_,rfl⟩:=hz;simp[AV.ids]at hj
  |_=>intro z hz j hj;rw[hq]at this;simp[cellsOf]at hz;subst hz;exact this j hj
 have hvs:∀l:List Value,∀x∈l.map AV.v,∀j∈x.ids,(σ.box j).isSome=true:=fun l x hx j hj=>by
  obtain⟨q,_,rfl⟩:=List.mem_map.1 hx;simp[AV.ids]at hj
 unfold eff at h
 cases hop:o.op<;>simp only[hop]at h
 case move x=>injection h with h;subst h;exact pure (hwf.eval x)
 case assign x=>injection h with h;subst h;exact pure (hwf.eval x)
 case alloc t=>
  split at h
  ·exact hnew h (by intro d k hk;simpa[AV.ids]using hk) (hvs _)
  ·cases h
 case box t x=>exact hnew h (by intro d k hk;simpa[AV.ids]using hk) (hcells x)
 case load t x=>
  split at h
  ·rename_i k off hx
   split at h
   ·rename_i cs hb
    unfold U9 at h
    (repeat' split at h)<;>first|(cases h;done)|skip
    ·injection h with h;subst h;exact plainv
    ·rename_i c hc
     injection h with h;subst h
     exact pure (hwf.cells k cs hb c (List.mem_of_getElem? hc))
   ·cases h
  ·cases h
 case store t x y=>
  split at h
  ·rename_i k' off hx
   split at h
   ·rename_i cs hb
    unfold Vi at h
    (repeat' split at h)<;>first|(cases h;done)|skip
    injection h with h
    subst h
    refine wf_app hwf (by intro k hk;simp[AV.ids]at hk) ?_
    intro k cs' h
    injection h with h
    injection h with _ h
    subst h
    intro z hz
    simp only[List.mem_append]at hz
    rcases hz with (hz|hz)|hz
    ·exact hwf.cells k' cs hb z (List.mem_of_mem_take hz)
    ·exact hcells y z hz
    ·exact hwf.cells k' cs hb z (List.mem_of_mem_drop hz)
   ·cases h
  ·cases h
 case fieldAddr t x f=>
  have hid:=hwf.eval x
  split at h
  ·rename_i k off hx
   rw[hx]at hid
   unfold Ra at h
   (repeat' split at h)<;>first|(cases h;done)|(injection h with h;subst h;exact pure hid)
  ·unfold Tj at h
   (repeat' split at h)<;>first|(cases h;done)|(injection h with h;subst h;exact pure (by intro k hk;simp[AV.ids]at hk))
  ·cases h
 case indexAddr t x ix=>
  have hid:=hwf.eval x
  unfold Vk at h
  split at h
  ·rename_i k off kd i hx hi
   rw[hx]at hid
   (repeat' split at h)<;>first|(cases h;done)|(injection h with h;subst h;exact pure hid)
  ·rename_i k len kd i hx hi
   rw[hx]at hid
   (repeat' split at h)<;>first|(cases h;done)|(injection h with h;subst h;exact pure hid)
  ·(repeat' split at h)<;>first|(cases h;done)|(injection h with h;subst h;exact pure (by intro k hk;simp[AV.ids]at hk))
  ·cases h
 case nilCheck x=>
  have hid:=hwf.eval x
  split at h
  ·rename_i k off hx
   rw[hx]at hid
   injection h with h;subst h;exact pure hid
  ·exact hpl h
 case makeFunc fn first caps=>
  cases fn<;>simp only at h
  case func g=>
   split at h
   ·rename_i c r hf hc
    injection h with h;subst h
    obtain⟨_,h2⟩:=Vt (β:=fun _=>0) hc
    refine pure fun k hk=> ?_
    simp only[AV.ids]at hk
    obtain⟨q,hq,rfl⟩:=List.mem_map.1 hk
    obtain⟨x,hx,hi⟩:=h2 q hq
    obtain⟨y,_,rfl⟩:=List.mem_map.1 hx
    exact hwf.eval y _ hi
   ·exact hpl h
  all_goals exact hpl h
 case buildSlice t n ps=>
  (repeat' split at h)<;>first|(cases h;done)|exact hnew h (by intro d k hk;simpa[AV.ids]using hk) (hvs _)
 all_goals exact hpl h
theorem W3{P:Program}{ops:Array Oper}{o:Oper}{σ:AS}{e:Yt}(h:T5 P ops o σ=some e)(hwf:σ.wf):(σ.app o.dst e).wf:=by
 unfold T5 at h
 split at h
 ·exact eff_wf h hwf
 ·injection h with h
  subst h
  rw[AS.app_eq]
  exact AS.wf.put (σ:=⟨σ.tmps,σ.box⟩) hwf o.dst (by intro k hk;simp[AV.ids]at hk)
theorem aAny_first [Rnd]{P:Program}{W:World}{ops:Array Oper}{Z:List PanicEntry→(World→Prop)→Prop}{K:AS→(World→Prop)→Prop}{i:Nat}{oi:Oper}{ei:Yt}(hi:ops[i]? =some oi)(hssa:Ssa ops){D:Nat→Bool}
 (hD:∀(listed:Array Bool),Nq ops listed→listed.getD i true=false→∀(j:Nat) (oj:Oper),ops[j]? =some oj→D j=true→¬∀e∈oj.after,Region.binds .any e=true→listed.getD e.on false=true):
 ∀(fuel:Nat) (listed:Array Bool) (σ:AS) (Φ:World→Prop),Nq ops listed→σ.wf→i∈Region.ready .any ops listed→MemOk ops D listed σ i oi→T5 P ops oi σ=some ei→
  Fr P W ops Z K fuel (listed.setIfInBounds i true) (σ.app oi.dst ei) Φ→Fr P W ops Z K (fuel+1) listed σ Φ:=by
 intro fuel
 induction fuel with
 | zero=>
  intro listed σ Φ hcl hwf hr hm he H
  refine⟨fun h=>(by rw[h]at hr;cases hr),fun j hj=> ?_⟩
  by_cases hji:j=i
  ·subst hji;exact⟨oi,hi,.det ei he H⟩
  ·have:=ready_mono hj hji
   rw[H.1]at this
   cases this
 | succ fuel ih=>
  intro listed σ Φ hcl hwf hr hm he H
  refine⟨fun h=>(by rw[h]at hr;cases hr),fun j hj=> ?_⟩
  by_cases hji:j=i
  ·subst hji;exact⟨oi,hi,.det ei he H⟩
  ·obtain⟨oj,hoj,h1⟩:=H.2 j (ready_mono hj hji)
   refine⟨oj,hoj,?_⟩
   obtain⟨hjun,oj',hoj',hall⟩:=mem_ready.1 hj
   obtain rfl:oj=oj':=by rw[hoj]at hoj';injection hoj'
   obtain⟨hiun,oi',hoi',halli⟩:=mem_ready.1 hr
   obtain rfl:oi=oi':=by rw[hi]at hoi';injection hoi'
   have hDj:D j=false:=by
    cases hb:D j with
    |false=>rfl
    |true=>exact absurd hall (hD listed hcl hiun j oj hoj hb)
   have unl:∀{m:Nat},listed.getD m true=false→listed.getD m false=true→False:=fun{m} h1 h2=>by
    rcases Nat.lt_or_ge m listed.size with h'|h'
    ·simp[h']at h1 h2;rw[h1]at h2;cases h2
    ·simp[Array.getElem?_eq_none h']at h2
   have apj:∀d,oi.dst=some d→d∉oj.looksAt ops:=fun d hd hmem=>by
    rcases(hssa i j oi oj hi hoj (Ne.symm hji) d hd).2 hmem with ⟨e,he,hb,hon⟩|⟨e,he,hb,hon⟩
    ·have:=hall e he hb
     rw[hon]at this
     exact unl hiun this
    ·have:=halli e he hb
     rw[hon]at this
     exact unl hjun this
   have api:∀d,oj.dst=some d→d∉oi.looksAt ops:=fun d hd hmem=>by
    rcases(hssa j i oj oi hoj hi hji d hd).2 hmem with ⟨e,he,hb,hon⟩|⟨e,he,hb,hon⟩
    ·have:=halli e he hb
     rw[hon]at this
     exact unl hjun this
    ·have:=hall e he hb
     rw[hon]at this
     exact unl hiun this
   have apd:∀t,oi.dst=some t→oj.dst≠some t:=fun t ht=>(hssa i j oi oj hi hoj (Ne.symm hji) t ht).1
   have evj:∀x∈oj.op.operands,(σ.app oi.dst ei).eval x=σ.eval x:=fun x hx=>AS.eval_app (Ny apj hx)
   have wj:Kp ops oj (σ.app oi.dst ei)=Kp ops oj σ:=Uy apj
   obtain⟨hm1,hm2⟩:=hm j oj hoj hji hjun hDj
   have eff_i:Kp ops oi σ=true→eff P oi σ=some ei:=fun hw=>by unfold T5 at he;rw[if_pos hw]at he;exact he
   have wr_i:∀k cs,ei.wr=some (k,cs)→eff P oi σ=some ei:=fun k cs hw=>by
    cases hb:Kp ops oi σ with
    |true=>exact eff_i hb
    |false=>
     unfold T5 at he
     rw[hb]at he
     simp only[Bool.false_eq_true,if_false]at he
     injection he with he
     subst he
     cases hw
   cases h1 with
   | det ej hej hK=>
    have hej':T5 P ops oj σ=some ej∧(∀k cs ds,ei.wr=some (k,cs)→ej.wr≠some (k,ds))∧(∀k,Uh oi σ=some k→Kp ops oi σ=true→∀cs,ej.wr≠some (k,cs)):=by
     cases hw:Kp ops oj σ with
     |false=>
      unfold T5 at hej ⊢
      rw[wj,hw]at hej
      rw[hw]
      simp only[Bool.false_eq_true,if_false]at hej ⊢
      injection hej with hej
      subst hej
      exact⟨rfl,(fun _ _ _ _ h=>by cases h),(fun _ _ _ _ h=>by cases h)⟩
     | true=>
      unfold T5 at hej
      rw[wj,hw]at hej
      simp only[if_true]at hej
      have c1:∀k,Uh oj σ=some k→∀cs,ei.wr≠some (k,cs):=by
       intro k ht cs hwr
       have hei:=wr_i k cs hwr
       rcases eff_wr hei hwr with ⟨t,x,y,off,ho,hx⟩|⟨hd,hb,ho⟩
       ·obtain⟨h3,h4,h5⟩:=hm2 t x y k off ho hx
        rcases touch_cases ht with ⟨t',x',off',ho',hx'⟩|⟨t',x',y',off',ho',hx'⟩|⟨hd',ho'⟩
        ·exact(h4 t' x' ho').2 k off' hx' rfl
        ·exact(h3 t' x' y' ho').2 k off' hx' rfl
        ·have hn:=Ch hej hd' ho'
         have hs:=wrBox_some (x:=ei.wr) (Ok hwf hx)
         simp only[AS.app]at hn
         rw[hn]at hs
         cases hs
       ·rcases touch_cases ht with ⟨t',x',off',ho',hx'⟩|⟨t',x',y',off',ho',hx'⟩|⟨hd',ho'⟩
        ·have hs:=Ok hwf hx'
         rw[hb]at hs;cases hs
        ·have hs:=Ok hwf hx'
         rw[hb]at hs;cases hs
        ·exact apd k hd hd'
      have hejs:eff P oj σ=some ej:=by
       rw[←hej]
       exact(Qu evj fun k hk=>Dn (c1 k hk)).symm
      refine⟨by unfold T5;rw[hw];exact hejs,?_,?_⟩
      ·intro k cs ds hwi hwj
       rcases eff_wr hejs hwj with ⟨t,x,y,off,ho,hx⟩|⟨hd,hb,ho⟩
       ·exact c1 k (by unfold Uh;rw[ho];simp only[hx,rdK]) cs hwi
       ·exact c1 k (by unfold Uh;rcases ho with ⟨t,ho⟩|⟨t,x,ho⟩|⟨t,n,ps,ho⟩<;>rw[ho]<;>exact hd) cs hwi
      ·intro k ht hwi cs hwj
       have hei:=eff_i hwi
       rcases eff_wr hejs hwj with ⟨t,x,y,off,ho,hx⟩|⟨hd,hb,ho⟩
       ·rcases touch_cases ht with ⟨t',x',off',ho',hx'⟩|⟨t',x',y',off',ho',hx'⟩|⟨hd',ho'⟩
        ·exact(hm1 t' x' k off' ho' hx' t x y ho).2 k off hx rfl
        ·exact((hm2 t' x' y' k off' ho' hx').1 t x y ho).2 k off hx rfl
        ·have hn:=Ch hei hd' ho'
         have hs:=Ok hwf hx
         rw[hn]at hs;cases hs
       ·rcases touch_cases ht with ⟨t',x',off',ho',hx'⟩|⟨t',x',y',off',ho',hx'⟩|⟨hd',ho'⟩
        ·have hs:=Ok hwf hx'
         rw[hb]at hs;cases hs
        ·have hs:=Ok hwf hx'
         rw[hb]at hs;cases hs
        ·exact apd k hd' hd
    obtain⟨hej1,hww,hti⟩:=hej'
    refine .det ej hej1 (ih (listed.setIfInBounds j true) _ Φ (hcl.set_ hoj hall) (W3 hej1 hwf) (ready_mono hr (Ne.symm hji)) (hm.next hoj hjun (fun x hx=>AS.eval_app hx) (fun x hx=>AS.eval_app (Ny api hx))) ?_ ?_)
    ·have wi:Kp ops oi (σ.app oj.dst ej)=Kp ops oi σ:=Uy api
     unfold T5 at he ⊢
     rw[wi]
     cases hb:Kp ops oi σ with
     |false=>rw[hb]at he;exact he
     |true=>
      rw[hb]at he
      simp only[if_true]at he ⊢
      rw[←he]
      exact Qu (fun x hx=>AS.eval_app (Ny api hx)) fun k hk=>Dn (hti k hk hb)
    ·rw[Array.setIfInBounds_comm _ _ hji,←AS.app_comm σ apd hww]
     exact hK
   | @call X g xs val G hw hc hs hK=>
    have hc':S6 P oj σ=some (g,xs):=by rw[←Sq evj];exact hc
    obtain⟨c,hoc⟩:∃c,oj.op= .call c:=by
     unfold S6 at hc
     split at hc
     ·exact⟨_,by assumption⟩
     ·cases hc
    have hbox:∀x∈xs,∀k∈x.ids,(σ.app oi.dst ei).box k=σ.box k:=by
     intro x hx k hk
     have hids:(σ.box k).isSome=true:=by
      unfold S6 at hc'
      rw[hoc]at hc'
      simp only at hc'
      split at hc'
      ·rename_i g' xs' hca
       split at hc'
       ·injection hc' with hc'
        injection hc' with _ h2
        subst h2
        unfold Tq at hca
        split at hca
        ·rename_i f hf
         have hfe:=hwf.eval f
         split at hca
         ·injection hca with hca
          injection hca with _ h2
          subst h2
          simp only[List.mem_append,List.mem_map]at hx
          rcases hx with (⟨q,_,rfl⟩|⟨q,_,rfl⟩)|⟨q,_,rfl⟩
          ·simp[AV.ids]at hk
          ·exact hwf.eval q k hk
          ·simp[AV.ids]at hk
         ·rename_i g2 caps hv
          injection hca with hca
          injection hca with _ h2
          subst h2
          simp only[List.mem_append,List.mem_map]at hx
          rcases hx with ⟨q,_,rfl⟩|⟨q,hq,rfl⟩
          ·exact hwf.eval q k hk
          ·rw[hv]at hfe
           refine hfe k ?_
           simp only[AV.ids,List.mem_singleton]at hk ⊢
           subst hk
           exact List.mem_map.2 ⟨q,hq,rfl⟩
         ·cases hca
        ·cases hca
       ·cases hc'
      ·cases hc'
     refine Dn fun cs hwr=> ?_
     rcases eff_wr (wr_i k cs hwr) hwr with ⟨t,x',y,off,ho,hx'⟩|⟨hd,hb,ho⟩
     ·exact(hm2 t x' y k off ho hx').2.2 c hoc
     ·rw[hb]at hids;cases hids
    refine .call g xs val G (by rw[←wj];exact hw) hc' (fun β w hbl hΦ hB=>hs β w hbl hΦ fun x hx k hk cs hcs=>hB x hx k hk cs (by rw[←hbox x hx k hk];exact hcs)) (fun x=> ?_)
    refine ih (listed.setIfInBounds j true) _ _ (hcl.set_ hoj hall) (hwf.put _ (by intro k hk;simp[AV.ids]at hk)) (ready_mono hr (Ne.symm hji)) (hm.next hoj hjun (fun x hx=>AS.eval_put hx) (fun x hx=>AS.eval_put (Ny api hx))) ?_ ?_
    ·have wi:Kp ops oi (σ.put oj.dst (.v (val x)))=Kp ops oi σ:=Mf api
     unfold T5 at he ⊢
     rw[wi]
     cases hb:Kp ops oi σ with
     |false=>rw[hb]at he;exact he
     |true=>
      rw[hb]at he
      simp only[if_true]at he ⊢
      rw[←he]
      exact Qu (fun x hx=>AS.eval_put (Ny api hx)) fun k _=>by rw[AS.put_box]
    ·rw[Array.setIfInBounds_comm _ _ hji,←AS.app_put σ apd]
     exact hK x
   | ask v hw hp hns hmv hcb hs hK=>
    have hrho:∀x∈oj.op.operands,(σ.app oi.dst ei).rho x=σ.rho x:=fun x hx=>by unfold AS.rho;rw[evj x hx]
    refine .ask v (by rw[←wj];exact hw) (by rw[←M4 evj];exact hp) hns hmv (by rw[←Mt (σ:=σ) (σ':=σ.app oi.dst ei) fun q hq y hy=>AS.eval_app (Mp hi hq y hy)];exact hcb) (fun w hb hΦ=>by rw[←execOp_congr oj hns hrho];exact hs w hb hΦ) ?_
    refine ih (listed.setIfInBounds j true) _ _ (hcl.set_ hoj hall) (hwf.put _ (by intro k hk;simp[AV.ids]at hk)) (ready_mono hr (Ne.symm hji)) (hm.next hoj hjun (fun x hx=>AS.eval_put hx) (fun x hx=>AS.eval_put (Ny api hx))) ?_ ?_
    ·have wi:Kp ops oi (σ.put oj.dst (.v v))=Kp ops oi σ:=Mf api
     unfold T5 at he ⊢
     rw[wi]
     cases hb:Kp ops oi σ with
     |false=>rw[hb]at he;exact he
     |true=>
      rw[hb]at he
      simp only[if_true]at he ⊢
      rw[←he]
      exact Qu (fun x hx=>AS.eval_put (Ny api hx)) fun k _=>by rw[AS.put_box]
    ·rw[Array.setIfInBounds_comm _ _ hji,←AS.app_put σ apd]
     exact hK
   |lone hl _=>exact absurd (hl j hoj listed i hcl hj hr).symm hji
   | @pan L ch Φ2 g xs vs hl hw hp hc hv hs hL hΦ hz=>
    refine .pan ch Φ2 g xs vs (fun q hq li jj h1 h2 h3=> ?_) (by rw[←wj];exact hw) (by rw[←M4 evj];exact hp) (by rw[←Sq evj];exact hc) hv hs hL hΦ hz
    rcases hl q hq li jj h1 h2 h3 with h4|⟨ok,h4,⟨h5,h6⟩|h5⟩
    ·exact .inl h4
    ·refine .inr ⟨ok,h4,.inl ⟨h5,?_⟩⟩
     rw[←M4 (σ:=σ) (σ':=σ.app oi.dst ei) fun y hy=>AS.eval_app (Mp hi h5 y hy)]
     exact h6
    ·exact .inr ⟨ok,h4,.inr (h5.imp id fun h5=>by rw[←Mt (σ:=σ) (σ':=σ.app oi.dst ei) fun q hq y hy=>AS.eval_app (Mp hi hq y hy)];exact h5)⟩
   | @mutm X L val G Φ2 hl hw hp hns hs hL hΦ hK=>
    have hrho:∀x∈oj.op.operands,(σ.app oi.dst ei).rho x=σ.rho x:=fun x hx=>by unfold AS.rho;rw[evj x hx]
    refine .mutm val G Φ2 (fun q hq li jj h1 h2 h3=> ?_) (by rw[←wj];exact hw) (by rw[←M4 evj];exact hp) hns (hs.elim (fun hs=> .inl fun w hb hΦ=>by rw[←execOp_congr oj hns hrho];exact hs w hb hΦ) fun⟨g,xs,vs,hc,hv,hs⟩=> .inr ⟨g,xs,vs,by rw[←Sq evj];exact hc,hv,hs⟩) hL hΦ fun x=> ?_
    ·rcases hl q hq li jj h1 h2 h3 with h4|⟨ok,h4,⟨h5,h6⟩|h5⟩
     ·exact .inl h4
     ·refine .inr ⟨ok,h4,.inl ⟨h5,?_⟩⟩
      rw[←M4 (σ:=σ) (σ':=σ.app oi.dst ei) fun y hy=>AS.eval_app (Mp hi h5 y hy)]
      exact h6
     ·exact .inr ⟨ok,h4,.inr (h5.imp id fun h5=>by rw[←Mt (σ:=σ) (σ':=σ.app oi.dst ei) fun q hq y hy=>AS.eval_app (Mp hi hq y hy)];exact h5)⟩
    refine ih (listed.setIfInBounds j true) _ _ (hcl.set_ hoj hall) (hwf.put _ (by intro k hk;simp[AV.ids]at hk)) (ready_mono hr (Ne.symm hji)) (hm.next hoj hjun (fun x hx=>AS.eval_put hx) (fun x hx=>AS.eval_put (Ny api hx))) ?_ ?_
    ·have wi:Kp ops oi (σ.put oj.dst (.v (val x)))=Kp ops oi σ:=Mf api
     unfold T5 at he ⊢
     rw[wi]
     cases hb:Kp ops oi σ with
     |false=>rw[hb]at he;exact he
     |true=>
      rw[hb]at he
      simp only[if_true]at he ⊢
      rw[←he]
      exact Qu (fun x hx=>AS.eval_put (Ny api hx)) fun k _=>by rw[AS.put_box]
    ·rw[Array.setIfInBounds_comm _ _ hji,←AS.app_put σ apd]
     exact hK x
   | @make X val G hw hp hns hs hK=>
    have hrho:∀x∈oj.op.operands,(σ.app oi.dst ei).rho x=σ.rho x:=fun x hx=>by unfold AS.rho;rw[evj x hx]
    refine .make val G (by rw[←wj];exact hw) (by rw[←M4 evj];exact hp) hns (fun w hb hΦ=>by rw[←execOp_congr oj hns hrho];exact hs w hb hΦ) fun x=> ?_
    refine ih (listed.setIfInBounds j true) _ _ (hcl.set_ hoj hall) (hwf.put _ (by intro k hk;simp[AV.ids]at hk)) (ready_mono hr (Ne.symm hji)) (hm.next hoj hjun (fun x hx=>AS.eval_put hx) (fun x hx=>AS.eval_put (Ny api hx))) ?_ ?_
    ·have wi:Kp ops oi (σ.put oj.dst (.v (val x)))=Kp ops oi σ:=Mf api
     unfold T5 at he ⊢
     rw[wi]
     cases hb:Kp ops oi σ with
     |false=>rw[hb]at he;exact he
     |true=>
      rw[hb]at he
      simp only[if_true]at he ⊢
      rw[←he]
      exact Qu (fun x hx=>AS.eval_put (Ny api hx)) fun k _=>by rw[AS.put_box]
    ·rw[Array.setIfInBounds_comm _ _ hji,←AS.app_put σ apd]
     exact hK x
def Ou(ops:Array Oper)(i:Nat):Nat→List Bool
 |0=>[]
 | n+1=>
  let l:=Ou ops i n
  l++ [match ops[n]? with
   |some o=>o.after.toList.any fun e=>Region.binds .any e&&(Nat.beq e.on i||l.getD e.on false)
   |none=>false]
theorem R2(ops:Array Oper)(i:Nat):∀n,(Ou ops i n).length=n
 |0=>rfl
 |n+1=>by simp[Ou,R2 ops i n]
theorem Rb{ops:Array Oper}{i:Nat}{listed:Array Bool}(hcl:Nq ops listed)(hi:listed.getD i true=false):
 ∀(n m:Nat),(Ou ops i n).getD m false=true→∃om,ops[m]? =some om∧¬∀e∈om.after,Region.binds .any e=true→listed.getD e.on false=true:=by
 intro n
 induction n with
 |zero=>intro m h;simp[Ou]at h
 | succ n ih=>
  intro m h
  simp only[Ou,List.getD_eq_getElem?_getD]at h
  rcases Nat.lt_or_ge m n with hm|hm
  ·rw[List.getElem?_append_left (by rw[R2];exact hm)]at h
   exact ih m (by rw[List.getD_eq_getElem?_getD];exact h)
  ·rw [List.getElem?_append_right (by rw[R2];exact hm),R2]at h
   cases hmn:m-n with
   |succ q=>rw[hmn]at h;simp at h
   | zero=>
    obtain rfl:m=n:=by omega
    rw[hmn]at h
    simp only[List.getElem?_cons_zero,Option.getD_some]at h
    split at h
    ·rename_i o ho
     refine⟨o,ho,fun hall=> ?_⟩
     obtain⟨e,he,hb⟩:=List.any_eq_true.1 h
     simp only[Bool.and_eq_true,Bool.or_eq_true,Nat.beq_eq]at hb
     have hl:=hall e (by simpa using he) hb.1
     rcases hb.2 with hb2|hb2
     ·rw[hb2]at hl
      rcases Nat.lt_or_ge i listed.size with h'|h'
      ·simp[h']at hi hl;rw[hi]at hl;cases hl
      ·simp[Array.getElem?_eq_none h']at hl
     ·obtain⟨om,hom,hn⟩:=ih e.on (by rw[List.getD_eq_getElem?_getD];exact hb2)
      exact hn fun e' he' hb'=>hcl e.on om hom hl e' he' hb'
    ·cases h
def stableB(ops:Array Oper)(listed:Array Bool)(y:Operand):Bool:=
 match y with
 | .tmp t=>ops.toList.zipIdx.all fun q=>listed.getD q.2 true||(match q.1.dst with|some d=> !Nat.beq d t|none=>true)
 |_=>true
def awayB(ops:Array Oper)(listed:Array Bool)(σ:AS)(k:Nat)(y:Operand):Bool:=
 (match σ.eval y with| .p k' _=> !Nat.beq k' k|_=>true)&&stableB ops listed y
def Bc(ops:Array Oper)(D:List Bool)(listed:Array Bool)(σ:AS)(i:Nat)(oi:Oper):Bool:=
 match oi.op with
 | .load _ x=>match σ.eval x with
  | .p k _=>ops.toList.zipIdx.all fun q=>match q.1.op with
   | .store _ y _=>listed.getD q.2 true||(awayB ops listed σ k y||D.getD q.2 false)
   |_=>true
  |_=>true
 | .store _ x _=>match σ.eval x with
  | .p k _=>ops.toList.zipIdx.all fun q=>Nat.beq q.2 i||(match q.1.op with
   | .store _ y _=>listed.getD q.2 true||(awayB ops listed σ k y||D.getD q.2 false)
   | .load _ y=>listed.getD q.2 true||(awayB ops listed σ k y||D.getD q.2 false)
   | .call _=>listed.getD q.2 true||D.getD q.2 false
   |_=>true)
  |_=>true
 |_=>true
theorem Bz{ops:Array Oper}{listed:Array Bool}{σ:AS}{k:Nat}{y:Operand}(h:awayB ops listed σ k y=true):Aq ops listed σ k y:=by
 simp only[awayB,Bool.and_eq_true]at h
 obtain⟨h1,h2⟩:=h
 refine⟨fun m om hm hl d hd e=> ?_,fun k' off hx e=> ?_⟩
 ·subst e
  simp only[stableB]at h2
  have hmem:(om,m)∈ops.toList.zipIdx:=by rw[List.mem_zipIdx_iff_getElem?];simpa using hm
  have:=List.all_eq_true.1 h2 _ hmem
  simp only[hl,hd]at this
  simp at this
 ·rw[hx]at h1
  simp[e]at h1
theorem memOk_spec{ops:Array Oper}{D:List Bool}{listed:Array Bool}{σ:AS}{i:Nat}{oi:Oper}(h:Bc ops D listed σ i oi=true):MemOk ops (fun j=>D.getD j false) listed σ i oi:=by
 intro j oj hj hji hl hD
 have hmem:(oj,j)∈ops.toList.zipIdx:=by rw[List.mem_zipIdx_iff_getElem?];simpa using hj
 have hne:Nat.beq j i=false:=by
  cases hb:Nat.beq j i with
  |false=>rfl
  |true=>exact absurd (Nat.eq_of_beq_eq_true hb) hji
 have hD':D.getD j false=false:=hD
 refine⟨fun t x k off ho hx t' y z hy=> ?_,fun t x z k off ho hx=>⟨fun t' y z' hy=> ?_,fun t' y hy=> ?_,fun c hc=> ?_⟩⟩
 ·simp only[Bc,ho,hx]at h
  have:=List.all_eq_true.1 h _ hmem
  simp only[hy,hl,Bool.false_or,hD',Bool.or_false]at this
  exact Bz this
 ·simp only[Bc,ho,hx]at h
  have:=List.all_eq_true.1 h _ hmem
  simp only[hne,hy,hl,Bool.false_or,hD',Bool.or_false]at this
  exact Bz this
 ·simp only[Bc,ho,hx]at h
  have:=List.all_eq_true.1 h _ hmem
  simp only[hne,hy,hl,Bool.false_or,hD',Bool.or_false]at this
  exact Bz this
 ·simp only[Bc,ho,hx]at h
  have:=List.all_eq_true.1 h _ hmem
  simp only[hne,hc,hl,Bool.false_or,hD']at this
  cases this
def Ea(ops:Array Oper)(listed:Array Bool)(i:Nat)(oi:Oper):Bool:=
 !listed.getD i true&&oi.after.toList.all fun e=> !Region.binds .any e||listed.getD e.on false
theorem C9{ops:Array Oper}{listed:Array Bool}{i:Nat}{oi:Oper}(hi:ops[i]? =some oi)(h:Ea ops listed i oi=true):i∈Region.ready .any ops listed:=by
 simp only[Ea,Bool.and_eq_true,Bool.not_eq_true']at h
 refine mem_ready.2 ⟨h.1,oi,hi,fun e he hb=> ?_⟩
 have:=List.all_eq_true.1 h.2 e (by simpa using he)
 simpa[hb]using this
def Z2(P:Program)(ops:Array Oper)(i:Nat)(listed:Array Bool)(σ:AS):Option AS:=
 match ops[i]? with
 |some oi=>if Ea ops listed i oi&&Bc ops (Ou ops i ops.size) listed σ i oi then(match T5 P ops oi σ with
  |some e=>some (σ.app oi.dst e)
  |none=>none)else none
 |none=>none
theorem takeOne_ok [Rnd]{P:Program}{W:World}{ops:Array Oper}{Z:List PanicEntry→(World→Prop)→Prop}{K:AS→(World→Prop)→Prop}{i:Nat}{listed:Array Bool}{σ σ':AS}{Φ:World→Prop}{fuel:Nat}(hssa:Ssa ops)(hcl:Nq ops listed)(hwf:σ.wf)
 (h:Z2 P ops i listed σ=some σ') (H:Nq ops (listed.setIfInBounds i true)→σ'.wf→Fr P W ops Z K fuel (listed.setIfInBounds i true) σ' Φ):Fr P W ops Z K (fuel+1) listed σ Φ:=by
 unfold Z2 at h
 split at h
 ·rename_i oi hoi
  split at h
  ·rename_i hc
   simp only[Bool.and_eq_true]at hc
   split at h
   ·rename_i e he
    injection h with h
    subst h
    have hr:=C9 hoi hc.1
    obtain⟨_,oi',hoi',hall⟩:=mem_ready.1 hr
    obtain rfl:oi=oi':=by rw[hoi]at hoi';injection hoi'
    refine aAny_first hoi hssa (D:=fun j=>(Ou ops i ops.size).getD j false) ?_ fuel listed σ Φ hcl hwf hr (memOk_spec hc.2) he (H (hcl.set_ hoi hall) (W3 he hwf))
    intro listed' hcl' hi' j oj hj hD hall'
    obtain⟨om,hom,hn⟩:=Rb hcl' hi' ops.size j hD
    rw[hj]at hom
    injection hom with hom
    subst hom
    exact hn hall'
   ·cases h
  ·cases h
 ·cases h
def takes(P:Program)(ops:Array Oper):List Nat→Array Bool→AS→Option (Array Bool×AS)
 | [],listed,σ=>some (listed,σ)
 |i::l,listed,σ=>match Z2 P ops i listed σ with
  |some σ'=>takes P ops l (listed.setIfInBounds i true) σ'
  |none=>none
def isGoCall(o:Oper):Bool:=
 match o.op with
 | .buildSlice _ _ _=>true
 | .call c=>match c.callee with
  | .builtin _=>false
  |_=>true
 |_=>false
def takeNC(P:Program)(ops:Array Oper)(i:Nat)(listed:Array Bool)(σ:AS):Option AS:=
 match ops[i]? with
 |some oi=>if Ea ops listed i oi&& !(isGoCall oi&&Kp ops oi σ)then Z2 P ops i listed σ else none
 |none=>none
theorem takeNC_one{P:Program}{ops:Array Oper}{i:Nat}{listed:Array Bool}{σ σ':AS}(h:takeNC P ops i listed σ=some σ'):Z2 P ops i listed σ=some σ':=by
 unfold takeNC at h
 split at h
 ·split at h
  ·exact h
  ·cases h
 ·cases h
def Z3(P:Program)(ops:Array Oper):Nat→Nat→Nat→Array Bool→AS→Nat×Array Bool×AS
 |0,_,fuel,listed,σ=>(fuel,listed,σ)
 | r+1,i,fuel,listed,σ=>match fuel with
  |0=>(0,listed,σ)
  |f+1=>match takeNC P ops i listed σ with
   |some σ'=>Z3 P ops r (i+1) f (listed.setIfInBounds i true) σ'
   |none=>Z3 P ops r (i+1) (f+1) listed σ
theorem Du [Rnd]{P:Program}{W:World}{ops:Array Oper}{Z:List PanicEntry→(World→Prop)→Prop}{K:AS→(World→Prop)→Prop}{Φ:World→Prop}(hssa:Ssa ops):∀(r i fuel:Nat) (listed:Array Bool) (σ:AS),Nq ops listed→σ.wf→
 (Nq ops (Z3 P ops r i fuel listed σ).2.1→(Z3 P ops r i fuel listed σ).2.2.wf→Fr P W ops Z K (Z3 P ops r i fuel listed σ).1 (Z3 P ops r i fuel listed σ).2.1 (Z3 P ops r i fuel listed σ).2.2 Φ)→Fr P W ops Z K fuel listed σ Φ
 |0,i,fuel,listed,σ,hcl,hwf,h=>h hcl hwf
 |r+1,i,0,listed,σ,hcl,hwf,h=>h hcl hwf
 | r+1,i,f+1,listed,σ,hcl,hwf,h=>by
  unfold Z3 at h
  simp only at h
  split at h
  ·rename_i σ' h1
   exact takeOne_ok hssa hcl hwf (takeNC_one h1) fun hcl' hwf'=>Du hssa r (i+1) f _ σ' hcl' hwf' h
  ·exact Du hssa r (i+1) (f+1) listed σ hcl hwf h
inductive Foc where
 |code (c:Code)
 |ops (ops:Array Oper) (l:List Nat)
 |any (ops:Array Oper) (fuel:Nat) (listed:Array Bool)
 |out (e:Exit)
inductive FrK where
 |seq (c:Code)
 |blk (id:Nat)
 |lp (body:Code)
structure Md where
 foc:Foc
 k:List FrK
 st:AS
def wpLoop [Rnd](P:Program)(bd:Code)(Q:Exit→Act→World→Prop)(a:Act)(w:World):Prop:=
 ∀(b:Frame) (ks:List Item) (cs:List Frame),b.roundOf=Fe.round→∃e a' w',Q e a' w'∧ArrivesIn (Machine.fenced P Fe) P (lone (b.atR a (.code bd:: .inLoop bd::ks)) cs w) b ks cs e a' w'
def loopPost [Rnd](P:Program)(bd:Code)(Q:Exit→Act→World→Prop):Exit→Act→World→Prop
 | .normal,a,w=>wpLoop P bd Q a w
 |e,a,w=>Q e a w
theorem Gb [Rnd]{P:Program}{bd:Code}{Q:Exit→Act→World→Prop}{a:Act}{w:World}(h:bd.wpIn Fe 0 P (loopPost P bd Q) a w):wpLoop P bd Q a w:=by
 intro b ks cs hro
 have hro':∀n,(Fe.room n):=fun n d hd=>by cases hd
 obtain⟨e,a₁,w₁,hq,harr⟩:=h b (.inLoop bd::ks) cs hro trivial (hro' _)
 cases e with
 |normal=>
  obtain⟨e₂,a₂,w₂,hq₂,harr₂⟩:=hq b ks cs hro
  exact⟨e₂,a₂,w₂,hq₂,.of_steps (StepsIn.trans harr (.one (fenced_calm (n:=0) trivial (hro' _) rfl) stepR_inLoop)) harr₂⟩
 |exit id=>exact⟨_,a₁,w₁,hq,.pass (x:= .inLoop bd) rfl (fun _ _=> .inl Zs) harr⟩
 |goto l=>exact⟨_,a₁,w₁,hq,.pass (x:= .inLoop bd) rfl (fun _ _=> .inl Zs) harr⟩
 |ret=>exact⟨_,a₁,w₁,hq,.pass (x:= .inLoop bd) rfl (fun _ _=> .inl Zs) harr⟩
 |panic ch=>exact⟨_,a₁,w₁,hq,.pass (x:= .inLoop bd) rfl (fun _ _=> .inl Zs) harr⟩
 |outgrown=>exact⟨_,a₁,w₁,hq,.pass (x:= .inLoop bd) rfl (fun _ _=> .inl Zs) harr⟩
theorem loop_of [Rnd]{P:Program}{bd:Code}{Q:Exit→Act→World→Prop}{a:Act}{w:World}(h:wpLoop P bd Q a w):(Code.loop bd).wpIn Fe 0 P Q a w:=by
 intro b ks cs hro _ _
 obtain⟨e,a',w',hq,harr⟩:=h b ks cs hro
 exact⟨e,a',w',hq,.of_steps (.one (fenced_calm (n:=0) trivial (fun d hd=>by cases hd) rfl) stepR_loop) harr⟩
def post [Rnd](P:Program)(Q:Exit→Act→World→Prop):List FrK→Exit→Act→World→Prop
 | []=>Q
 | .seq c::k=>Exit.then (c.wpIn Fe 0 P (post P Q k)) (post P Q k)
 | .blk id::k=>Exit.inBlock id (post P Q k)
 | .lp bd::k=>loopPost P bd (post P Q k)
def Qp [Rnd](P:Program)(Δ:List Deferred)(W:World)(Q:Exit→Act→World→Prop)(Φ:World→Prop)(c:Md):Prop:=
 match c.foc with
 | .code x=>c.st.wf→∀β a w,O7 Δ W β c.st Φ a w→x.wpIn Fe 0 P (post P Q c.k) a w
 | .ops ops l=>c.st.wf→∀β a w,O7 Δ W β c.st Φ a w→wpOpsIn Fe 0 P ops (post P Q c.k) l a w
 | .any ops fuel listed=>Ssa ops→Nq ops listed→c.st.wf→Fr P W ops (fun ch Φ=>∀(σ:AS),σ.wf→∀β a w,O7 Δ W β σ Φ a w→post P Q c.k (.panic ch) a w) (fun σ Φ=>σ.wf→∀β a w,O7 Δ W β σ Φ a w→post P Q c.k .normal a w) fuel listed c.st Φ
 | .out e=>c.st.wf→∀β a w,O7 Δ W β c.st Φ a w→post P Q c.k e a w
structure K0 [Rnd](P:Program)(Δ:List Deferred)(W:World)(Q:Exit→Act→World→Prop)(Φ:World→Prop)(c:Md):Prop where
 get:Qp P Δ W Q Φ c
def W0(P:Program)(stop:Nat)(c:Md):Option Md:=
 match c.foc with
 | .code x=>match x with
  | .seq x y=>some ⟨.code x,.seq y::c.k,c.st⟩
  | .block id x=>some ⟨.code x,.blk id::c.k,c.st⟩
  | .skip=>some ⟨.out .normal,c.k,c.st⟩
  | .label _=>some ⟨.out .normal,c.k,c.st⟩
  | .exit id=>some ⟨.out (.exit id),c.k,c.st⟩
  | .ret=>some ⟨.out .ret,c.k,c.st⟩
  | .region _ ops false=>some ⟨.ops ops (List.range ops.size),c.k,c.st⟩
  | .region _ ops true=>if ssaB ops then some ⟨.any ops ops.size (Array.replicate ops.size false),c.k,c.st⟩else none
  |_=>none
 | .ops _ []=>some ⟨.out .normal,c.k,c.st⟩
 | .ops ops (i::l)=>if Nat.beq i stop then none else match ops[i]? with
  |some o=>if Kp ops o c.st&&isGoCall o then none else match T5 P ops o c.st with
   |some e=>some ⟨.ops ops l,c.k,c.st.app o.dst e⟩
   |none=>none
  |none=>none
 | .any ops 0 listed=>match Region.ready .any ops listed with
  | []=>some ⟨.out .normal,c.k,c.st⟩
  |_=>none
 | .any ops (f+1) listed=>
  let r:=Z3 P ops (if Nat.ble ops.size stop then ops.size else stop) 0 (f+1) listed c.st
  if Nat.blt r.1 (f+1)then some ⟨.any ops r.1 r.2.1,c.k,r.2.2⟩else none
 | .out e=>match c.k with
  | []=>none
  | .seq y::k=>match e with
   | .normal=>some ⟨.code y,k,c.st⟩
   |e=>some ⟨.out e,k,c.st⟩
  | .blk id::k=>match e with
   | .exit id'=>if Nat.beq id' id then some ⟨.out .normal,k,c.st⟩else some ⟨.out (.exit id'),k,c.st⟩
   |e=>some ⟨.out e,k,c.st⟩
  | .lp bd::k=>match e with
   | .normal=>some ⟨.code bd,.lp bd::k,c.st⟩
   |e=>some ⟨.out e,k,c.st⟩
section
variable{P:Program}{Δ:List Deferred}{W:World}{Q:Exit→Act→World→Prop}{Φ:World→Prop}{c c':Md}
theorem I2 [Rnd](hm:P.follows .mixedOrders=true){stop:Nat}(h:W0 P stop c=some c')(H:K0 P Δ W Q Φ c'):K0 P Δ W Q Φ c:=by
 obtain⟨foc,k,σ⟩:=c
 replace H:=H.get
 refine⟨?_⟩
 unfold W0 at h
 simp only at h
 split at h
 ·rename_i x
  split at h
  ·injection h with h;subst h;exact fun hwf β a w hr=>wpIn_seq (H hwf β a w hr)
  ·injection h with h;subst h;exact fun hwf β a w hr=>wpIn_block (H hwf β a w hr)
  ·injection h with h;subst h;exact fun hwf β a w hr=>wpIn_skip (H hwf β a w hr)
  ·injection h with h;subst h;exact fun hwf β a w hr=>wpIn_label (H hwf β a w hr)
  ·injection h with h;subst h;exact fun hwf β a w hr=>wpIn_exit (H hwf β a w hr)
  ·injection h with h;subst h;exact fun hwf β a w hr=>wpIn_ret (H hwf β a w hr)
  ·injection h with h;subst h;exact fun hwf β a w hr=>wpIn_region (H hwf β a w hr)
  ·rename_i id ops
   split at h
   ·rename_i hs
    injection h with h;subst h
    intro hwf β a w hr
    refine wpIn_region_any hm (aAny_ok (W:=W) (fun ch β σ Φ a w hz hr hwf=>hz σ hwf β a w hr) (fun β σ Φ a w hk hr hwf=>hk hwf β a w hr) _ _ σ Φ β a _ (H (ssa_spec hs) (Nq.start _ _) hwf) hr.drew hwf)
   ·cases h
  ·cases h
 ·injection h with h;subst h
  intro hwf β a w hr
  exact H hwf β a w hr
 ·rename_i ops i l
  split at h
  ·cases h
  ·split at h
   ·rename_i o ho
    split at h
    ·cases h
    ·split at h
     ·rename_i e he
      injection h with h;subst h
      intro hwf β a w hr
      show wpOpsIn Fe 0 P ops (post P Q k) (i::l) a w
      rw[wpOpsIn_cons]
      refine Yq (Z:=fun _ _=>False) (KA:=fun σ' Φ'=>σ'=σ.app o.dst e∧Φ'=Φ) (.det e he ⟨rfl,rfl⟩) ho hr hwf (fun _ _ _ _ _ _ hz=>hz.elim) ?_
      rintro β' σ' Φ' a' w' ⟨rfl,rfl⟩ hr' hwf'
      exact H hwf' β' a' w' hr'
     ·cases h
   ·cases h
 ·rename_i ops listed
  split at h
  ·rename_i hr
   injection h with h;subst h
   exact fun _ _ hwf=>⟨hr,fun hwf'=>H hwf'⟩
  ·cases h
 ·rename_i ops f listed
  generalize (if Nat.ble ops.size stop then ops.size else stop)=m at h
  split at h
  ·injection h with h;subst h
   exact fun hssa hcl hwf=>Du hssa m 0 (f+1) listed σ hcl hwf fun hcl' hwf'=>H hssa hcl' hwf'
  ·cases h
 ·rename_i e
  split at h
  ·cases h
  ·rename_i y k'
   split at h
   ·injection h with h;subst h
    intro hwf β a w hr
    exact H hwf β a w hr
   ·rename_i hne
    injection h with h;subst h
    intro hwf β a w hr
    have:=H hwf β a w hr
    cases e<;>first|exact absurd rfl hne|exact this
  ·rename_i id k'
   split at h
   ·rename_i id'
    split at h
    ·rename_i he
     injection h with h;subst h
     intro hwf β a w hr
     have:=H hwf β a w hr
     show Exit.inBlock id (post P Q k') (.exit id') a w
     simp only[Exit.inBlock]
     rw[if_pos (Nat.eq_of_beq_eq_true he)]
     exact this
    ·rename_i he
     injection h with h;subst h
     intro hwf β a w hr
     have:=H hwf β a w hr
     show Exit.inBlock id (post P Q k') (.exit id') a w
     simp only[Exit.inBlock]
     rw[if_neg (fun e=>he (by rw[e];exact Nat.beq_refl _))]
     exact this
   ·rename_i hne
    injection h with h;subst h
    intro hwf β a w hr
    have:=H hwf β a w hr
    cases e<;>first|exact absurd rfl (hne _)|exact this
  ·rename_i bd k'
   split at h
   ·injection h with h;subst h
    intro hwf β a w hr
    exact Gb (H hwf β a w hr)
   ·rename_i hne
    injection h with h;subst h
    intro hwf β a w hr
    have:=H hwf β a w hr
    cases e<;>first|exact absurd rfl hne|exact this
def Tr(c:Md):Option Md:=
 match c.foc with
 | .code (.loop bd)=>some ⟨.code bd,.lp bd::c.k,c.st⟩
 |_=>none
theorem K0.unroll [Rnd](h:Tr c=some c')(H:K0 P Δ W Q Φ c'):K0 P Δ W Q Φ c:=by
 obtain⟨foc,k,σ⟩:=c
 replace H:=H.get
 refine⟨?_⟩
 unfold Tr at h
 simp only at h
 split at h
 ·injection h with h;subst h
  intro hwf β a w hr
  exact loop_of (Gb (H hwf β a w hr))
 ·cases h
def Jz(P:Program)(stop:Nat)(c:Md):Option Md:=
 match c.foc with
 | .code (.cond x t e)=>match c.st.eval x with
  | .v (.bool b)=>some ⟨.code (if b then t else e),c.k,c.st⟩
  |_=>none
 | .code (.loop bd)=>some ⟨.code bd,.lp bd::c.k,c.st⟩
 |_=>W0 P stop c
theorem amStepC_ok [Rnd](hm:P.follows .mixedOrders=true){stop:Nat}(h:Jz P stop c=some c')(H:K0 P Δ W Q Φ c'):K0 P Δ W Q Φ c:=by
 unfold Jz at h
 split at h
 ·rename_i x t e hf
  split at h
  ·rename_i b hx
   injection h with h;subst h
   obtain⟨foc,k,σ⟩:=c
   simp only at hf hx H
   subst hf
   replace H:=H.get
   refine⟨?_⟩
   intro hwf β a w hr
   have hev:=hr.eval x
   rw[hx]at hev
   exact wpIn_cond hev (H hwf β a w hr)
  ·cases h
 ·rename_i bd hf
  refine K0.unroll (c':=c') ?_ H
  unfold Tr
  rw[hf]
  exact h
 ·exact I2 hm h H
def amRunC(P:Program)(stop:Nat):Nat→Md→Md
 |0,c=>c
 |n+1,c=>match Jz P stop c with
  |some c'=>amRunC P stop n c'
  |none=>c
theorem K0.runC [Rnd](hm:P.follows .mixedOrders=true){stop:Nat}:∀(n:Nat) (c:Md),K0 P Δ W Q Φ (amRunC P stop n c)→K0 P Δ W Q Φ c
 |0,c,h=>h
 |n+1,c,h=>by
  unfold amRunC at h
  split at h
  ·rename_i c' hc;exact amStepC_ok hm hc (K0.runC hm n c' h)
  ·exact h
def Lx(P:Program)(stop:Nat):Nat→Md→Md
 |0,c=>c
 |n+1,c=>match W0 P stop c with
  |some c'=>Lx P stop n c'
  |none=>c
theorem K0.run [Rnd](hm:P.follows .mixedOrders=true){stop:Nat}:∀(n:Nat) (c:Md),K0 P Δ W Q Φ (Lx P stop n c)→K0 P Δ W Q Φ c
 |0,c,h=>h
 |n+1,c,h=>by
  unfold Lx at h
  split at h
  ·rename_i c' hc;exact I2 hm hc (K0.run hm n c' h)
  ·exact h
def amTake(P:Program)(l:List Nat)(c:Md):Md:=
 match c.foc with
 | .any ops fuel listed=>if Nat.ble l.length fuel then(match takes P ops l listed c.st with
  |some (listed',σ')=>⟨.any ops (fuel-l.length) listed',c.k,σ'⟩
  |none=>c)else c
 |_=>c
def Na(c:Md):Option (Array Oper×Oper):=
 match c.foc with
 | .ops ops (i::_)=>(ops[i]?).map fun o=>(ops,o)
 | .any ops (_+1) listed=>match Region.ready .any ops listed with
  | [i]=>(ops[i]?).map fun o=>(ops,o)
  |_=>none
 |_=>none
def V8(P:Program)(c:Md):Option (FuncId×List AV):=
 match Na c with
 |some (ops,o)=>if Kp ops o c.st then S6 P o c.st else none
 |none=>none
def Lh(v:AV)(c:Md):Md:=
 match c.foc with
 | .ops ops (i::l)=>⟨.ops ops l,c.k,c.st.put ((ops[i]?).bind (·.dst)) v⟩
 | .any ops fuel listed=>match Region.ready .any ops listed with
  |i::_=>⟨.any ops (fuel-1) (listed.setIfInBounds i true),c.k,c.st.put ((ops[i]?).bind (·.dst)) v⟩
  |_=>c
 |_=>c
theorem K0.call [Rnd]{X:Type}{g:FuncId}{xs:List AV}{val:X→Value}{G:X→World→Prop}(hc:V8 P c=some (g,xs))
 (hs:∀β w,Below W.heap.size W w→Φ w→Wb β c.st xs w→Calls P g (xs.map (AV.conc β)).toArray w (K3 w val G))
 (h:∀x:X,K0 P Δ W Q (fun w=>Φ w∧G x w) (Lh (.v (val x)) c)):K0 P Δ W Q Φ c:=by
 obtain⟨foc,k,σ⟩:=c
 replace h:=fun x=>(h x).get
 refine⟨?_⟩
 unfold V8 at hc
 split at hc
 ·rename_i ops o ho
  split at hc
  ·rename_i hw
   unfold Na at ho
   simp only at ho
   split at ho
   ·rename_i ops' i l
    cases hoi:ops'[i]? with
    |none=>rw[hoi]at ho;cases ho
    |some o'=>
     rw[hoi]at ho
     simp only[Option.map_some,Option.some.injEq,Prod.mk.injEq]at ho
     obtain⟨rfl,rfl⟩:=ho
     intro hwf β a w hr
     show wpOpsIn Fe 0 P ops' (post P Q k) (i::l) a w
     rw[wpOpsIn_cons]
     refine Yq (Z:=fun _ _=>False) (KA:=fun σ' Φ'=>∃x,σ'=σ.put o'.dst (.v (val x))∧Φ'=fun w=>Φ w∧G x w) (.call g xs val G hw hc hs fun x=>⟨x,rfl,rfl⟩) hoi hr hwf (fun _ _ _ _ _ _ hz=>hz.elim) ?_
     rintro β' σ' Φ' a' w' ⟨x,rfl,rfl⟩ hr' hwf'
     have:=h x
     simp only[Lh,hoi,Option.bind_some]at this
     exact this hwf' β' a' w' hr'
   ·rename_i ops' fuel listed
    split at ho
    ·rename_i i hrd
     cases hoi:ops'[i]? with
     |none=>rw[hoi]at ho;cases ho
     |some o'=>
      rw[hoi]at ho
      simp only[Option.map_some,Option.some.injEq,Prod.mk.injEq]at ho
      obtain⟨rfl,rfl⟩:=ho
      intro hssa hcl hwf
      refine⟨fun h0=>(by rw[h0]at hrd;cases hrd),fun j hj=> ?_⟩
      rw[hrd]at hj
      obtain rfl:j=i:=by simpa using hj
      obtain⟨_,o2,ho2,hall⟩:=mem_ready.1 (show j∈Region.ready .any ops' listed by rw[hrd];simp)
      obtain rfl:o'=o2:=by rw[hoi]at ho2;injection ho2
      refine⟨o',hoi,.call g xs val G hw hc hs fun x=> ?_⟩
      have:=h x
      simp only[Lh,hrd,hoi,Option.bind_some,Nat.add_one_sub_one]at this
      exact this hssa (hcl.set_ hoi hall) (hwf.put _ (by intro k hk;simp[AV.ids]at hk))
    ·cases ho
   ·cases ho
  ·cases hc
 ·cases hc
def P7(P:Program)(c:Md):Option (FuncId×Array Value):=
 match V8 P c with
 |some (g,xs)=>match Ah xs with
  |some vs=>some (g,vs.toArray)
  |none=>none
 |none=>none
theorem K0.callv [Rnd]{X:Type}{g:FuncId}{args:Array Value}{val:X→Value}{G:X→World→Prop}
 (hs:∀w,Below W.heap.size W w→Φ w→Calls P g args w (K3 w val G)) (hc:P7 P c=some (g,args))
 (h:∀x:X,K0 P Δ W Q (fun w=>Φ w∧G x w) (Lh (.v (val x)) c)):K0 P Δ W Q Φ c:=by
 unfold P7 at hc
 split at hc
 ·rename_i g' xs hn
  split at hc
  ·rename_i vs hv
   injection hc with hc
   injection hc with h1 h2
   subst h1;subst h2
   exact K0.call hn (fun β w hb hΦ _=>by rw[Q5 hv];exact hs w hb hΦ) h
  ·cases hc
 ·cases hc
def Pu(c:Md):Option (Sem Next):=
 match Na c with
 |some (ops,o)=>match o.op with
  | .select _ _=>none
  | .move _=>none
  |_=>if Kp ops o c.st&&c.st.plain o.op then some (execOp c.st.rho o)else none
 |none=>none
def Q1(c:Md):Option (Sem Next):=
 if (match Na c with|some (ops,o)=>Q0 ops c.st o|none=>false)then none else Pu c
theorem O1{c:Md}{s:Sem Next}(h:Q1 c=some s):Pu c=some s∧∀ops o,Na c=some (ops,o)→Q0 ops c.st o=false:=by
 unfold Q1 at h
 cases hb:(match Na c with|some (ops,o)=>Q0 ops c.st o|none=>false)with
 |true=>rw[hb]at h;cases h
 |false=>
  rw[hb]at h
  exact⟨h,fun ops o e=>by rw[e]at hb;exact hb⟩
theorem K0.ask [Rnd](s:Sem Next)(v:Value)(hc:Q1 c=some s)(hs:∀w,Below W.heap.size W w→Φ w→s.run P w= .ok (.value v) w)(h:K0 P Δ W Q Φ (Lh (.v v) c)):K0 P Δ W Q Φ c:=by
 obtain⟨foc,k,σ⟩:=c
 replace h:=h.get
 refine⟨?_⟩
 have hq:=(O1 hc).2
 replace hc:=(O1 hc).1
 unfold Pu at hc
 split at hc
 ·rename_i ops o ho
  have hcb:=hq _ _ ho
  split at hc
  ·cases hc
  ·cases hc
  ·rename_i hns hnm
   split at hc
   ·rename_i hw
    simp only[Bool.and_eq_true]at hw
    injection hc with hc
    subst hc
    unfold Na at ho
    simp only at ho
    split at ho
    ·rename_i ops' i l
     cases hoi:ops'[i]? with
     |none=>rw[hoi]at ho;cases ho
     |some o'=>
      rw[hoi]at ho
      simp only[Option.map_some,Option.some.injEq,Prod.mk.injEq]at ho
      obtain⟨rfl,rfl⟩:=ho
      intro hwf β a w hr
      show wpOpsIn Fe 0 P ops' (post P Q k) (i::l) a w
      rw[wpOpsIn_cons]
      refine Yq (Z:=fun _ _=>False) (KA:=fun σ' Φ'=>σ'=σ.put o'.dst (.v v)∧Φ'=Φ) (.ask v hw.1 hw.2 (fun cs b e=>hns cs b e) (Jg fun x e=>hnm x e) hcb (fun w a b=> .inl (hs w a b)) ⟨rfl,rfl⟩) hoi hr hwf (fun _ _ _ _ _ _ hz=>hz.elim) ?_
      rintro β' σ' Φ' a' w' ⟨rfl,rfl⟩ hr' hwf'
      simp only[Lh,hoi,Option.bind_some]at h
      exact h hwf' β' a' w' hr'
    ·rename_i ops' fuel listed
     split at ho
     ·rename_i i hrd
      cases hoi:ops'[i]? with
      |none=>rw[hoi]at ho;cases ho
      |some o'=>
       rw[hoi]at ho
       simp only[Option.map_some,Option.some.injEq,Prod.mk.injEq]at ho
       obtain⟨rfl,rfl⟩:=ho
       intro hssa hcl hwf
       refine⟨fun h0=>(by rw[h0]at hrd;cases hrd),fun j hj=> ?_⟩
       rw[hrd]at hj
       obtain rfl:j=i:=by simpa using hj
       obtain⟨_,o2,ho2,hall⟩:=mem_ready.1 (show j∈Region.ready .any ops' listed by rw[hrd];simp)
       obtain rfl:o'=o2:=by rw[hoi]at ho2;injection ho2
       refine⟨o',hoi,.ask v hw.1 hw.2 (fun cs b e=>hns cs b e) (Jg fun x e=>hnm x e) hcb (fun w a b=> .inl (hs w a b)) ?_⟩
       simp only[Lh,hrd,hoi,Option.bind_some,Nat.add_one_sub_one]at h
       exact h hssa (hcl.set_ hoi hall) (hwf.put _ (by intro k hk;simp[AV.ids]at hk))
     ·cases ho
    ·cases ho
   ·cases hc
 ·cases hc
theorem K0.make [Rnd]{X:Type}(s:Sem Next)(val:X→Value)(G:X→World→Prop)(hc:Q1 c=some s)(hs:∀w,Below W.heap.size W w→Φ w→Lp P w val G s)(h:∀x,K0 P Δ W Q (fun w=>Φ w∧G x w) (Lh (.v (val x)) c)):K0 P Δ W Q Φ c:=by
 obtain⟨foc,k,σ⟩:=c
 replace h:=fun x=>(h x).get
 refine⟨?_⟩
 replace hc:=(O1 hc).1
 unfold Pu at hc
 split at hc
 ·rename_i ops o ho
  split at hc
  ·cases hc
  ·cases hc
  ·rename_i hns hnm
   split at hc
   ·rename_i hw
    simp only[Bool.and_eq_true]at hw
    injection hc with hc
    subst hc
    unfold Na at ho
    simp only at ho
    split at ho
    ·rename_i ops' i l
     cases hoi:ops'[i]? with
     |none=>rw[hoi]at ho;cases ho
     |some o'=>
      rw[hoi]at ho
      simp only[Option.map_some,Option.some.injEq,Prod.mk.injEq]at ho
      obtain⟨rfl,rfl⟩:=ho
      intro hwf β a w hr
      show wpOpsIn Fe 0 P ops' (post P Q k) (i::l) a w
      rw[wpOpsIn_cons]
      refine Yq (Z:=fun _ _=>False) (KA:=fun σ' Φ'=>∃x,σ'=σ.put o'.dst (.v (val x))∧Φ'=fun w=>Φ w∧G x w) (.make val G hw.1 hw.2 (fun cs b e=>hns cs b e) hs fun x=>⟨x,rfl,rfl⟩) hoi hr hwf (fun _ _ _ _ _ _ hz=>hz.elim) ?_
      rintro β' σ' Φ' a' w' ⟨x,rfl,rfl⟩ hr' hwf'
      have:=h x
      simp only[Lh,hoi,Option.bind_some]at this
      exact this hwf' β' a' w' hr'
    ·rename_i ops' fuel listed
     split at ho
     ·rename_i i hrd
      cases hoi:ops'[i]? with
      |none=>rw[hoi]at ho;cases ho
      |some o'=>
       rw[hoi]at ho
       simp only[Option.map_some,Option.some.injEq,Prod.mk.injEq]at ho
       obtain⟨rfl,rfl⟩:=ho
       intro hssa hcl hwf
       refine⟨fun h0=>(by rw[h0]at hrd;cases hrd),fun j hj=> ?_⟩
       rw[hrd]at hj
       obtain rfl:j=i:=by simpa using hj
       obtain⟨_,o2,ho2,hall⟩:=mem_ready.1 (show j∈Region.ready .any ops' listed by rw[hrd];simp)
       obtain rfl:o'=o2:=by rw[hoi]at ho2;injection ho2
       refine⟨o',hoi,.make val G hw.1 hw.2 (fun cs b e=>hns cs b e) hs fun x=> ?_⟩
       have:=h x
       simp only[Lh,hrd,hoi,Option.bind_some,Nat.add_one_sub_one]at this
       exact this hssa (hcl.set_ hoi hall) (hwf.put _ (by intro k hk;simp[AV.ids]at hk))
     ·cases ho
    ·cases ho
   ·cases hc
 ·cases hc
def Bv(c:Md):Option Bool:=
 match c.foc with
 | .code (.cond x _ _)=>match c.st.eval x with
  | .v (.bool b)=>some b
  |_=>none
 |_=>none
def Ag(b:Bool)(c:Md):Md:=
 match c.foc with
 | .code (.cond _ x y)=>⟨.code (if b then x else y),c.k,c.st⟩
 |_=>c
theorem K0.cond [Rnd](b:Bool)(hb:Bv c=some b)(h:K0 P Δ W Q Φ (Ag b c)):K0 P Δ W Q Φ c:=by
 obtain⟨foc,k,σ⟩:=c
 replace h:=h.get
 refine⟨?_⟩
 unfold Bv at hb
 simp only at hb
 split at hb
 ·rename_i x t e
  split at hb
  ·rename_i b' hx
   injection hb with hb
   subst hb
   intro hwf β a w hr
   have hev:=hr.eval x
   rw[hx]at hev
   exact wpIn_cond hev (h hwf β a w hr)
  ·cases hb
 ·cases hb
theorem K0.condr [Rnd](b lit:Bool)(hb:Bv c=some b)(e:b=lit)(h:K0 P Δ W Q Φ (Ag lit c)):K0 P Δ W Q Φ c:=by
 subst e;exact K0.cond b hb h
theorem Pc{β:Nat→Nat}{σ:AS}{xs:List AV}{w:World}(h:Wb β σ xs w){k:Nat}(hk:∃x∈xs,k∈x.ids){cs:List AV}(hb:σ.box k=some cs):
 ∃ty,w.heap[β k]? =some (.cells (cs.map (AV.conc β)).toArray ty (0,0)):=by
 obtain⟨x,hx,hk⟩:=hk
 exact h x hx k hk cs hb
def Kw(t:Nat)(v:Value)(c:Md):Md:=⟨c.foc,c.k,⟨c.st.tmps.set t (.v v),c.st.box⟩⟩
theorem K0.slot [Rnd](t:Nat)(v v':Value)(hv:c.st.tmps[t]? =some (.v v))(e:v=v')(h:K0 P Δ W Q Φ (Kw t v' c)):K0 P Δ W Q Φ c:=by
 subst e
 have:Kw t v c=c:=by
  obtain⟨foc,k,σ⟩:=c
  obtain⟨tm,bx⟩:=σ
  simp only[Kw]
  congr 2
  refine List.ext_getElem? fun j=> ?_
  by_cases e:t=j
  ·subst e
   simp only at hv
   rw[List.getElem?_set]
   obtain⟨hlt,he⟩:=List.getElem?_eq_some_iff.1 hv
   simp[hlt,he]
  ·rw[List.getElem?_set_ne e]
 rw[this]at h
 exact h
def Iw(P:Program)(σ:AS):ResultVar→Option Value
 | .tmp t=>match σ.tmps.getD t (.v undef)with
  | .v x=>some x
  |_=>none
 | .cell t ty=>match σ.tmps.getD t (.v undef)with
  | .p k off=>match σ.box k with
   |some cs=>match U9 P ty off cs with
    |some ⟨.v x,none⟩=>some x
    |_=>none
   |none=>none
  |_=>none
def Sw(P:Program)(σ:AS):List ResultVar→Option (List Value)
 | []=>some []
 |r::l=>match Iw P σ r,Sw P σ l with
  |some x,some xs=>some (x::xs)
  |_,_=>none
def Iv:List Value→Value
 | [x]=>x
 |xs=> .tuple xs.toArray
def E9(P:Program)(fn:Func)(c:Md):Option Value:=
 match c.foc,c.k with
 | .out .ret,[]=>(Sw P c.st fn.results.toList).map Iv
 | .out .normal,[]=>(Sw P c.st fn.results.toList).map Iv
 |_,_=>none
def B5(tmps:Array Value):ResultVar→Sem Value
 | .tmp t=>pure (tmps.getD t undef)
 | .cell a t=>do loadVar t (←asAddr (tmps.getD a undef))
theorem C8(fn:Func)(tmps:Array Value):results fn tmps=(fn.results.mapM (B5 tmps) >>= fun vs=>pure (if h:vs.size=1 then vs[0]else .tuple vs)):=by
 unfold results
 congr 1
theorem resOne_ok{β:Nat→Nat}{σ:AS}{a:Act}{w:World}{r:ResultVar}{x:Value}(h:Iw P σ r=some x)(hr:O7 Δ W β σ Φ a w)(hwf:σ.wf):
 (B5 a.tmps r).run P w= .ok x w:=by
 have hget:∀t,a.tmps.getD t undef=(σ.tmps.getD t (.v undef)).conc β:=fun t=>hr.eval (.tmp t)
 cases r with
 | tmp t=>
  simp only[Iw]at h
  split at h
  ·rename_i y hy
   injection h with h;subst h
   simp only[B5,hget,hy,AV.conc,Sem.run_pure]
  ·cases h
 | cell p t=>
  simp only[Iw]at h
  split at h
  ·rename_i k off hp
   split at h
   ·rename_i cs hb
    split at h
    ·rename_i y hy
     injection h with h;subst h
     obtain⟨_,ty',hh⟩:=hr.box k cs hb
     have hl:=(Ci hh hy).1
     have hp':=hget p
     rw[hp]at hp'
     simp only[B5,hp',AV.conc,asAddr,Sem.run_bind,Sem.run_pure,Result.andThen_ok]
     exact hl
    ·cases h
   ·cases h
  ·cases h
theorem Gu{β:Nat→Nat}{σ:AS}{a:Act}{w:World}(hr:O7 Δ W β σ Φ a w)(hwf:σ.wf):∀(l:List ResultVar) (xs:List Value),Sw P σ l=some xs→
 (l.mapM (B5 a.tmps)).run P w= .ok xs w
 | [],xs,h=>by simp[Sw]at h;subst h;simp
 | r::l,xs,h=>by
  simp only[Sw]at h
  split at h
  ·rename_i x xs' h1 h2
   injection h with h;subst h
   have e1:=resOne_ok h1 hr hwf
   have e2:=Gu hr hwf l xs' h2
   rw[List.mapM_cons,Sem.run_bind,e1,Result.andThen_ok,Sem.run_bind,e2]
   rfl
  ·cases h
theorem Ya{β:Nat→Nat}{σ:AS}{a:Act}{w:World}{fn:Func}{xs:List Value}(h:Sw P σ fn.results.toList=some xs)(hr:O7 Δ W β σ Φ a w)(hwf:σ.wf):
 (results fn a.tmps).run P w= .ok (Iv xs) w:=by
 have:=Gu hr hwf _ _ h
 rw[C8,Sem.run_bind,Array.mapM_eq_mapM_toList,Sem.run_map]
 simp only[this,Result.andThen_ok,Sem.run_pure]
 congr 1
 match xs with
 | []=>rfl
 | [x]=>rfl
 |x::y::l=>
  rw[dif_neg Zs]
  rfl
theorem K0.ret [Rnd]{fn:Func}{R:Ending→World→Prop}{v:Value}(h:E9 P fn c=some v)(hR:∀w,Below W.heap.size W w→(∀w',w.heap.size≤w'.heap.size→(∀b,W.heap.size≤b→b<w.heap.size→w'.heap[b]? =w.heap[b]?)→Φ w')→R (.returned v) w):K0 P [] W (bodyPost P fn R) Φ c:=by
 obtain⟨foc,k,σ⟩:=c
 refine⟨?_⟩
 unfold E9 at h
 split at h
 ·rename_i hf hk
  simp only at hf hk
  subst hf;subst hk
  cases hx:Sw P σ fn.results.toList with
  |none=>rw[hx]at h;cases h
  |some xs=>
   simp only[hx,Option.map_some,Option.some.injEq]at h
   subst h
   intro hwf β a w hr
   exact⟨hr.defers,_,Ya hx hr hwf,hR w hr.bel fun w' h1 h2=>hr.keep w' ⟨h1,fun b hW hb _=>h2 b hW hb⟩⟩
 ·rename_i hf hk
  simp only at hf hk
  subst hf;subst hk
  cases hx:Sw P σ fn.results.toList with
  |none=>rw[hx]at h;cases h
  |some xs=>
   simp only[hx,Option.map_some,Option.some.injEq]at h
   subst h
   intro hwf β a w hr
   exact⟨hr.defers,_,Ya hx hr hwf,hR w hr.bel fun w' h1 h2=>hr.keep w' ⟨h1,fun b hW hb _=>h2 b hW hb⟩⟩
 ·cases h
end
def R3(fn:Func)(args:Array Value):Md:=⟨.code (fn.body.getD .skip),[],⟨args.toList.map .v++List.replicate (fn.ntmps-args.size) (.v undef),fun _=>none⟩⟩
theorem K0.enter{P:Program}{f:FuncId}{fn:Func}{args:Array Value}{w:World}{R:Ending→World→Prop}
 (hf:P.funcs[f]? =some fn) (hb:fn.body.isSome=true)
 (h:K0 P [] w (bodyPost P fn R) (fun _=>True) (R3 fn args)):Calls P f args w R:=by
 obtain⟨c,hc⟩:=Option.isSome_iff_exists.1 hb
 replace h:=h.get
 simp only[Qp,R3,hc,Option.getD_some]at h
 refine calls_of_wp hf hc (wpIn_wide.1 (h ?_ (fun _=>0) _ w ?_))
 ·refine⟨fun x hx k hk=> ?_,fun j cs hj=>by cases hj⟩
  simp only[List.mem_append,List.mem_map,List.mem_replicate]at hx
  rcases hx with ⟨q,_,rfl⟩|⟨_,rfl⟩<;>simp[AV.ids]at hk
 ·refine⟨?_,rfl,Below.refl _ _,fun k cs hk=>(by cases hk),fun k k' hk=>(by cases hk),fun w' hw=>trivial⟩
  simp[Function.comp_def,AV.conc]
theorem G8 [Rnd]{P:Program}{W:World}{ops:Array Oper}{Z:List PanicEntry→(World→Prop)→Prop}{K:AS→(World→Prop)→Prop}{i:Nat}{oi:Oper}{v:Value}(hi:ops[i]? =some oi)(hssa:Ssa ops)(hns:∀cs b,oi.op≠ .select cs b)(hmv:isMv oi.op=false):
 ∀(fuel:Nat) (listed:Array Bool) (σ:AS) (Φ:World→Prop),Nq ops listed→σ.wf→i∈Region.ready .any ops listed→Kp ops oi σ=true→σ.plain oi.op=true→Q0 ops σ oi=false→
  (∀w,Below W.heap.size W w→Φ w→AskOk P (execOp σ.rho oi) v w)→
  Fr P W ops Z K fuel (listed.setIfInBounds i true) (σ.put oi.dst (.v v)) Φ→Fr P W ops Z K (fuel+1) listed σ Φ:=by
 intro fuel
 induction fuel with
 | zero=>
  intro listed σ Φ hcl hwf hr hw hp hcb hs H
  refine⟨fun h=>(by rw[h]at hr;cases hr),fun j hj=> ?_⟩
  by_cases hji:j=i
  ·subst hji;exact⟨oi,hi,.ask v hw hp hns hmv hcb hs H⟩
  ·have:=ready_mono hj hji
   rw[H.1]at this
   cases this
 | succ fuel ih=>
  intro listed σ Φ hcl hwf hr hw hp hcb hs H
  refine⟨fun h=>(by rw[h]at hr;cases hr),fun j hj=> ?_⟩
  by_cases hji:j=i
  ·subst hji;exact⟨oi,hi,.ask v hw hp hns hmv hcb hs H⟩
  ·obtain⟨oj,hoj,h1⟩:=H.2 j (ready_mono hj hji)
   refine⟨oj,hoj,?_⟩
   obtain⟨hjun,oj',hoj',hall⟩:=mem_ready.1 hj
   obtain rfl:oj=oj':=by rw[hoj]at hoj';injection hoj'
   obtain⟨hiun,oi',hoi',halli⟩:=mem_ready.1 hr
   obtain rfl:oi=oi':=by rw[hi]at hoi';injection hoi'
   have unl:∀{m:Nat},listed.getD m true=false→listed.getD m false=true→False:=fun{m} h1 h2=>by
    rcases Nat.lt_or_ge m listed.size with h'|h'
    ·simp[h']at h1 h2;rw[h1]at h2;cases h2
    ·simp[Array.getElem?_eq_none h']at h2
   have apj:∀d,oi.dst=some d→d∉oj.looksAt ops:=fun d hd hmem=>by
    rcases(hssa i j oi oj hi hoj (Ne.symm hji) d hd).2 hmem with ⟨e,he,hb,hon⟩|⟨e,he,hb,hon⟩
    ·have:=hall e he hb
     rw[hon]at this
     exact unl hiun this
    ·have:=halli e he hb
     rw[hon]at this
     exact unl hjun this
   have api:∀d,oj.dst=some d→d∉oi.looksAt ops:=fun d hd hmem=>by
    rcases(hssa j i oj oi hoj hi hji d hd).2 hmem with ⟨e,he,hb,hon⟩|⟨e,he,hb,hon⟩
    ·have:=halli e he hb
     rw[hon]at this
     exact unl hjun this
    ·have:=hall e he hb
     rw[hon]at this
     exact unl hiun this
   have apd:∀t,oi.dst=some t→oj.dst≠some t:=fun t ht=>(hssa i j oi oj hi hoj (Ne.symm hji) t ht).1
   have evj:∀x∈oj.op.operands,(σ.put oi.dst (.v v)).eval x=σ.eval x:=fun x hx=>AS.eval_put (Ny apj hx)
   have wj:Kp ops oj (σ.put oi.dst (.v v))=Kp ops oj σ:=Mf apj
   -- what i yields behind j
   have stay:∀{σ2:AS} {Φ2:World→Prop},Q0 ops σ2 oi=Q0 ops σ oi→(∀x∈oi.op.operands,σ2.eval x=σ.eval x)→Kp ops oi σ2=Kp ops oi σ→(∀w,Φ2 w→Φ w)→
    Kp ops oi σ2=true∧σ2.plain oi.op=true∧Q0 ops σ2 oi=false∧∀w,Below W.heap.size W w→Φ2 w→AskOk P (execOp σ2.rho oi) v w:=fun{σ2 Φ2} hch he hw2 hΦ=>by
    refine⟨hw2.trans hw,by rw[M4 he];exact hp,hch.trans hcb,fun w hb h2=> ?_⟩
    have hrho:∀x∈oi.op.operands,σ2.rho x=σ.rho x:=fun x hx=>by unfold AS.rho;rw[he x hx]
    rw[execOp_congr oi hns hrho]
    exact hs w hb (hΦ w h2)
   cases h1 with
   | det ej hej hK=>
    have hej1:T5 P ops oj σ=some ej:=by
     unfold T5 at hej ⊢
     rw[wj]at hej
     cases hb:Kp ops oj σ with
     |false=>rw[hb]at hej;exact hej
     |true=>
      rw[hb]at hej
      simp only[if_true]at hej ⊢
      rw[←hej]
      exact(Qu evj fun k _=>by rw[AS.put_box]).symm
    obtain⟨s1,s2,s4,s3⟩:=stay (σ2:=σ.app oj.dst ej) (Φ2:=Φ) (Mt (fun q hq y hy=>AS.eval_app (Mp hoj hq y hy)) _) (fun x hx=>AS.eval_app (Ny api hx)) (Uy api) (fun _ h=>h)
    refine .det ej hej1 (ih (listed.setIfInBounds j true) _ Φ (hcl.set_ hoj hall) (W3 hej1 hwf) (ready_mono hr (Ne.symm hji)) s1 s2 s4 s3 ?_)
    rw[Array.setIfInBounds_comm _ _ hji]
    have e:=AS.app_put σ (d:=oj.dst) (d':=oi.dst) (x:=ej) (v:= .v v) (fun t ht e=>apd t e ht)
    rw[e]
    exact hK
   | @call X g xs val G hwc hc hsc hK=>
    have hc':S6 P oj σ=some (g,xs):=by rw[←Sq evj];exact hc
    refine .call g xs val G (by rw[←wj];exact hwc) hc' (fun β w hbl hΦ hB=>hsc β w hbl hΦ fun x hx k hk cs hcs=>hB x hx k hk cs (by rw[AS.put_box]at hcs;exact hcs)) (fun x=> ?_)
    obtain⟨s1,s2,s4,s3⟩:=stay (σ2:=σ.put oj.dst (.v (val x))) (Φ2:=fun w=>Φ w∧G x w) (Mt (fun q hq y hy=>AS.eval_put (Mp hoj hq y hy)) _) (fun x hx=>AS.eval_put (Ny api hx)) (Mf api) (fun _ h=>h.1)
    refine ih (listed.setIfInBounds j true) _ _ (hcl.set_ hoj hall) (hwf.put _ (by intro k hk;simp[AV.ids]at hk)) (ready_mono hr (Ne.symm hji)) s1 s2 s4 s3 ?_
    rw[Array.setIfInBounds_comm _ _ hji,←AS.put_comm σ _ _ apd]
    exact hK x
   |ask u hwa hpa hna hmva hcba hsa hK=>
    have hrho:∀x∈oj.op.operands,(σ.put oi.dst (.v v)).rho x=σ.rho x:=fun x hx=>by unfold AS.rho;rw[evj x hx]
    refine .ask u (by rw[←wj];exact hwa) (by rw[←M4 evj];exact hpa) hna hmva (by rw[←Mt (σ:=σ) (σ':=σ.put oi.dst (.v v)) fun q hq y hy=>AS.eval_put (Mp hi hq y hy)];exact hcba) (fun w hb hΦ=>by rw[←execOp_congr oj hna hrho];exact hsa w hb hΦ) ?_
    obtain⟨s1,s2,s4,s3⟩:=stay (σ2:=σ.put oj.dst (.v u)) (Φ2:=Φ) (Mt (fun q hq y hy=>AS.eval_put (Mp hoj hq y hy)) _) (fun x hx=>AS.eval_put (Ny api hx)) (Mf api) (fun _ h=>h)
    refine ih (listed.setIfInBounds j true) _ _ (hcl.set_ hoj hall) (hwf.put _ (by intro k hk;simp[AV.ids]at hk)) (ready_mono hr (Ne.symm hji)) s1 s2 s4 s3 ?_
    rw[Array.setIfInBounds_comm _ _ hji,←AS.put_comm σ _ _ apd]
    exact hK
   | pan ch Φ2 g xs vs hl _ _ _ _ _ _ _ _=>
    rcases hl j hoj listed i hcl hj hr with h4|⟨ok,h4,⟨h5,h6⟩|h5|h5⟩
    ·exact absurd h4.symm hji
    rotate_left
    ·rw[hi]at h4;injection h4 with h4;subst h4
     rw[hmv]at h5;cases h5
    ·rw[hi]at h4;injection h4 with h4;subst h4
     rw[Mt (σ:=σ) (σ':=σ.put oi.dst (.v v)) fun q hq y hy=>AS.eval_put (Mp hi hq y hy),hcb]at h5;cases h5
    ·rw[hi]at h4;injection h4 with h4;subst h4
     rw[←M4 (σ:=σ) (σ':=σ.put oi.dst (.v v)) fun y hy=>AS.eval_put (Mp hi h5 y hy)]at hp
     rw[hp]at h6;cases h6
   | mutm val G Φ2 hl _ _ _ _ _ _ _=>
    rcases hl j hoj listed i hcl hj hr with h4|⟨ok,h4,⟨h5,h6⟩|h5|h5⟩
    ·exact absurd h4.symm hji
    rotate_left
    ·rw[hi]at h4;injection h4 with h4;subst h4
     rw[hmv]at h5;cases h5
    ·rw[hi]at h4;injection h4 with h4;subst h4
     rw[Mt (σ:=σ) (σ':=σ.put oi.dst (.v v)) fun q hq y hy=>AS.eval_put (Mp hi hq y hy),hcb]at h5;cases h5
    ·rw[hi]at h4;injection h4 with h4;subst h4
     rw[←M4 (σ:=σ) (σ':=σ.put oi.dst (.v v)) fun y hy=>AS.eval_put (Mp hi h5 y hy)]at hp
     rw[hp]at h6;cases h6
   |lone hl _=>exact absurd (hl j hoj listed i hcl hj hr).symm hji
   | @make X val G hwa hpa hna hsa hK=>
    have hrho:∀x∈oj.op.operands,(σ.put oi.dst (.v v)).rho x=σ.rho x:=fun x hx=>by unfold AS.rho;rw[evj x hx]
    refine .make val G (by rw[←wj];exact hwa) (by rw[←M4 evj];exact hpa) hna (fun w hb hΦ=>by rw[←execOp_congr oj hna hrho];exact hsa w hb hΦ) fun x=> ?_
    obtain⟨s1,s2,s4,s3⟩:=stay (σ2:=σ.put oj.dst (.v (val x))) (Φ2:=fun w=>Φ w∧G x w) (Mt (fun q hq y hy=>AS.eval_put (Mp hoj hq y hy)) _) (fun x hx=>AS.eval_put (Ny api hx)) (Mf api) (fun _ h=>h.1)
    refine ih (listed.setIfInBounds j true) _ _ (hcl.set_ hoj hall) (hwf.put _ (by intro k hk;simp[AV.ids]at hk)) (ready_mono hr (Ne.symm hji)) s1 s2 s4 s3 ?_
    rw[Array.setIfInBounds_comm _ _ hji,←AS.put_comm σ _ _ apd]
    exact hK x
section
variable{P:Program}{Δ:List Deferred}{W:World}{Q:Exit→Act→World→Prop}{Φ:World→Prop}{c:Md}
def askAt(i:Nat)(c:Md):Option (Sem Next):=
 match c.foc with
 | .any ops (_+1) listed=>match ops[i]? with
  |some o=>match o.op with
   | .select _ _=>none
   | .move _=>none
   |_=>if (Ea ops listed i o&& !Q0 ops c.st o)&&(Kp ops o c.st&&c.st.plain o.op)then some (execOp c.st.rho o)else none
  |none=>none
 |_=>none
def Y6(i:Nat)(v:Value)(c:Md):Md:=
 match c.foc with
 | .any ops fuel listed=>⟨.any ops (fuel-1) (listed.setIfInBounds i true),c.k,c.st.put ((ops[i]?).bind (·.dst)) (.v v)⟩
 |_=>c
theorem K0.askAt [Rnd](i:Nat)(s:Sem Next)(v:Value)(hc:askAt i c=some s)(hs:∀w,Below W.heap.size W w→Φ w→s.run P w= .ok (.value v) w)(h:K0 P Δ W Q Φ (Y6 i v c)):K0 P Δ W Q Φ c:=by
 obtain⟨foc,k,σ⟩:=c
 replace h:=h.get
 refine⟨?_⟩
 unfold Go.Proofs.YtpgkbllcnphmbaaGreatDoor.askAt at hc
 simp only at hc
 split at hc
 ·rename_i ops fuel listed
  split at hc
  ·rename_i o ho
   split at hc
   ·cases hc
   ·cases hc
   ·rename_i hns hnm
    split at hc
    ·rename_i hw
     simp only[Bool.and_eq_true]at hw
     injection hc with hc
     subst hc
     intro hssa hcl hwf
     have hr:=C9 ho hw.1.1
     obtain⟨_,o',ho',hall⟩:=mem_ready.1 hr
     obtain rfl:o=o':=by rw[ho]at ho';injection ho'
     refine G8 (v:=v) ho hssa (fun cs b e=>hns cs b e) (Jg fun x e=>hnm x e) fuel listed σ Φ hcl hwf hr hw.2.1 hw.2.2 (by simpa using hw.1.2) (fun w a b=> .inl (hs w a b)) ?_
     have:=h hssa (hcl.set_ ho hall) (by simp only[Y6,ho,Option.bind_some];exact hwf.put _ (by intro k hk;simp[AV.ids]at hk))
     simp only[Y6,ho,Option.bind_some,Nat.add_one_sub_one]at this
     exact this
    ·cases hc
  ·cases hc
 ·cases hc
end
structure LS where
 slots:List (Nat×AV)
 boxes:List (Nat×List AV)
def Ve{α:Type}:List (Nat×α)→Nat→Option α
 | [],_=>none
 |(k,x)::l,j=>if Nat.beq k j then some x else Ve l j
def Be(l:List (Nat×AV))(g:Nat→Value):Nat→Nat→List AV
 |0,_=>[]
 |n+1,t=>(match Ve l t with|some x=>x|none=> .v (g t))::Be l g n (t+1)
def LS.st(l:LS)(n:Nat)(g:Nat→Value):AS:=⟨Be l.slots g n 0,Ve l.boxes⟩
def LS.ok(l:LS):Bool:=(l.slots.all fun p=>p.2.ids.all fun k=>(Ve l.boxes k).isSome)&&(l.boxes.all fun p=>p.2.all fun x=>x.ids.all fun k=>(Ve l.boxes k).isSome)
def LS.fits(l:LS)(n:Nat)(σ:AS):Prop:=(l.slots.map fun p=>σ.tmps[p.1]?)=(l.slots.map fun p=>some p.2)∧(l.boxes.map fun p=>σ.box p.1)=(l.boxes.map fun p=>some p.2)∧σ.tmps.length=n
theorem U6{α:Type}{l:List (Nat×α)}{k:Nat}{x:α}(h:Ve l k=some x):(k,x)∈l:=by
 induction l with
 |nil=>cases h
 | cons p l ih=>
  obtain⟨j,y⟩:=p
  simp only[Ve]at h
  split at h
  ·rename_i hb
   injection h with h
   have:=Nat.eq_of_beq_eq_true hb
   subst h;subst this
   exact List.mem_cons_self ..
  ·exact List.mem_cons_of_mem _ (ih h)
theorem Yg(l:List (Nat×AV))(g:Nat→Value):∀(n t j:Nat),(Be l g n t)[j]? =if j<n then some (match Ve l (t+j)with|some x=>x|none=> .v (g (t+j)))else none
 |0,t,j=>by simp[Be]
 |n+1,t,0=>by simp[Be]
 |n+1,t,j+1=>by
  simp only[Be,List.getElem?_cons_succ]
  rw[Yg l g n (t+1) j,show t+1+j=t+(j+1) by omega]
  simp
theorem Sz{α β:Type}{f g:α→β}:∀{l:List α},l.map f=l.map g→∀x∈l,f x=g x
 | [],_,x,hx=>by cases hx
 |y::l,h,x,hx=>by
  simp only[List.map_cons]at h
  injection h with h1 h2
  rcases List.mem_cons.1 hx with rfl|hx
  ·exact h1
  ·exact Sz h2 x hx
theorem LS.wf{l:LS}(h:l.ok=true)(n:Nat)(g:Nat→Value):(l.st n g).wf:=by
 simp only[LS.ok,Bool.and_eq_true,List.all_eq_true]at h
 refine⟨fun x hx k hk=> ?_,fun j cs hj x hx k hk=> ?_⟩
 ·obtain⟨t,ht⟩:=List.mem_iff_getElem?.1 hx
  simp only[LS.st,Yg]at ht
  split at ht
  ·injection ht with ht
   split at ht
   ·rename_i y hy
    subst ht
    exact h.1 _ (U6 hy) k hk
   ·subst ht;simp[AV.ids]at hk
  ·cases ht
 ·exact h.2 _ (U6 hj) x hx k hk
theorem LS.rep{l:LS}{n:Nat}{Δ:List Deferred}{W:World}{β:Nat→Nat}{σ:AS}{Φ:World→Prop}{a:Act}{w:World}(h:l.fits n σ)(hr:O7 Δ W β σ Φ a w):∃g,O7 Δ W β (l.st n g) Φ a w:=by
 obtain⟨h1,h2,h3⟩:=h
 have hbox:∀k cs,(l.st n (fun t=>a.tmps.getD t undef)).box k=some cs→σ.box k=some cs:=fun k cs hk=>Sz h2 _ (U6 hk)
 refine⟨fun t=>a.tmps.getD t undef,⟨?_,hr.defers,hr.bel,fun k cs hk=>hr.box k cs (hbox k cs hk),fun k k' hk hk' e=> ?_,fun w' hw=>hr.keep w' ⟨hw.size,fun b hW hb hk=>hw.heap b hW hb fun k hks=> ?_⟩⟩⟩
 ·refine List.ext_getElem? fun j=> ?_
  rw[List.getElem?_map]
  simp only[LS.st,Yg,Nat.zero_add]
  have hlen:a.tmps.toList.length=n:=by rw[hr.tmps,List.length_map,h3]
  by_cases hj:j<n
  ·rw[if_pos hj]
   have hj':j<a.tmps.size:=by simpa using(by omega:j<a.tmps.toList.length)
   simp only[Option.map_some]
   split
   ·rename_i x hx
    have:=Sz h1 _ (U6 hx)
    simp only at this
    rw[hr.tmps,List.getElem?_map,this];rfl
   ·simp[AV.conc,hj']
  ·rw[if_neg hj,List.getElem?_eq_none Zo];rfl
 ·obtain⟨cs,hcs⟩:=Option.isSome_iff_exists.1 hk
  obtain⟨cs',hcs'⟩:=Option.isSome_iff_exists.1 hk'
  exact hr.inj k k' (by rw[hbox k cs hcs];rfl) (by rw[hbox k' cs' hcs'];rfl) e
 ·obtain⟨cs,hcs⟩:=Option.isSome_iff_exists.1 hks
  exact hk k (by rw[hbox k cs hcs];rfl)
section
variable{P:Program}{Δ:List Deferred}{W:World}{Q:Exit→Act→World→Prop}{Φ:World→Prop}{c:Md}
def loopQ [Rnd](P:Program)(Δ:List Deferred)(W:World)(Q:Exit→Act→World→Prop)(k:List FrK){ι:Type}(f:ι→LS)(n:Nat)(Ψ:ι→World→Prop)(μ:ι→Nat)(i:ι):Exit→Act→World→Prop
 | .normal,a,w=>∃j β g,μ j<μ i∧O7 Δ W β ((f j).st n g) (Ψ j) a w
 |e,a,w=>post P Q k e a w
def loopOf(c:Md):Option Code:=
 match c.foc with
 | .code (.loop body)=>some body
 |_=>none
theorem K0.loop [Rnd]{ι:Type}(n:Nat)(f:ι→LS)(Ψ:ι→World→Prop)(μ:ι→Nat)(i0:ι)(hl:(loopOf c).isSome=true)(hok:∀i,(f i).ok=true)(h0:(f i0).fits n c.st)(hΨ:∀w,Φ w→Ψ i0 w)
 (round:∀i g,K0 P Δ W (loopQ P Δ W Q c.k f n Ψ μ i) (Ψ i) ⟨.code ((loopOf c).getD .skip),[],(f i).st n g⟩):K0 P Δ W Q Φ c:=by
 obtain⟨foc,k,σ⟩:=c
 refine⟨?_⟩
 unfold loopOf at hl round
 simp only at hl round
 split at hl
 ·rename_i bd
  simp only[Option.getD_some]at round
  intro hwf β a w hr
  obtain⟨g,hr'⟩:=LS.rep h0 ({hr with keep:=fun w' hw=>hΨ w' (hr.keep w' hw)}:O7 Δ W β σ (Ψ i0) a w)
  have key:∀m (i:ι),μ i=m→∀β g a w,O7 Δ W β ((f i).st n g) (Ψ i) a w→∀(b:Frame) (ks:List Item) (cs:List Frame),b.roundOf=Fe.round→
   ∃e a' w',post P Q k e a' w'∧ArrivesIn (Machine.fenced P Fe) P (lone (b.atR a (.code bd:: .inLoop bd::ks)) cs w) b ks cs e a' w':=by
   intro m
   induction m using Nat.strongRecOn with
   | _ m ih=>
    intro i hm β g a w hr b ks cs hro
    have hro':∀n,(Fe.room n):=fun n d hd=>by cases hd
    obtain⟨e,a₁,w₁,hq,harr⟩:=(round i g).get (LS.wf (hok i) n g) β a w hr b (.inLoop bd::ks) cs hro trivial (hro' _)
    cases e with
    |normal=>
     obtain⟨j,β',g',hlt,hr'⟩:=hq
     obtain⟨e₂,a₂,w₂,hq₂,harr₂⟩:=ih (μ j) (hm▸hlt) j rfl β' g' a₁ w₁ hr' b ks cs hro
     exact⟨e₂,a₂,w₂,hq₂,.of_steps (StepsIn.trans harr (.one (fenced_calm (n:=0) trivial (hro' _) rfl) stepR_inLoop)) harr₂⟩
    |exit id=>exact⟨_,a₁,w₁,hq,.pass (x:= .inLoop bd) rfl (fun _ _=> .inl Zs) harr⟩
    |goto l=>exact⟨_,a₁,w₁,hq,.pass (x:= .inLoop bd) rfl (fun _ _=> .inl Zs) harr⟩
    |ret=>exact⟨_,a₁,w₁,hq,.pass (x:= .inLoop bd) rfl (fun _ _=> .inl Zs) harr⟩
    |panic ch=>exact⟨_,a₁,w₁,hq,.pass (x:= .inLoop bd) rfl (fun _ _=> .inl Zs) harr⟩
    |outgrown=>exact⟨_,a₁,w₁,hq,.pass (x:= .inLoop bd) rfl (fun _ _=> .inl Zs) harr⟩
  intro b ks cs hro _ _
  obtain⟨e,a',w',hq,harr⟩:=key _ i0 rfl β g a w hr' b ks cs hro
  exact⟨e,a',w',hq,.of_steps (.one (fenced_calm (n:=0) trivial (fun d hd=>by cases hd) rfl) stepR_loop) harr⟩
 ·cases hl
def Hf(c:Md):Bool:=
 match c.foc,c.k with
 | .out .normal,[]=>true
 |_,_=>false
theorem K0.next [Rnd]{ι:Type}{n:Nat}{f:ι→LS}{Ψ:ι→World→Prop}{μ:ι→Nat}{i:ι}{k:List FrK}(j:ι)(he:Hf c=true)(hμ:μ j<μ i)(hf:(f j).fits n c.st)(hΨ:∀w,Φ w→Ψ j w):
 K0 P Δ W (loopQ P Δ W Q k f n Ψ μ i) Φ c:=by
 obtain⟨foc,kk,σ⟩:=c
 refine⟨?_⟩
 unfold Hf at he
 split at he
 ·rename_i h1 h2
  simp only at h1 h2
  subst h1;subst h2
  intro hwf β a w hr
  have hr2:∃g,O7 Δ W β ((f j).st n g) (fun w'=>Φ w') a w:=LS.rep hf hr
  obtain⟨g,hr3⟩:=hr2
  exact⟨j,β,g,hμ,{hr3 with keep:=fun w' hw=>hΨ w' (hr3.keep w' hw)}⟩
 ·cases he
def outOf(c:Md):Bool:=
 match c.foc with
 | .out .normal=>false
 | .out _=>c.k.isEmpty
 |_=>false
def amOut(k:List FrK)(c:Md):Md:=⟨c.foc,k,c.st⟩
theorem K0.leave [Rnd]{ι:Type}{n:Nat}{f:ι→LS}{Ψ:ι→World→Prop}{μ:ι→Nat}{i:ι}{k:List FrK}(he:outOf c=true)(h:K0 P Δ W Q Φ (amOut k c)):K0 P Δ W (loopQ P Δ W Q k f n Ψ μ i) Φ c:=by
 obtain⟨foc,kk,σ⟩:=c
 replace h:=h.get
 refine⟨?_⟩
 cases foc with
 | out e=>
  cases e with
  |normal=>cases he
  |_=>
   obtain rfl:kk=[]:=by simpa[outOf]using he
   intro hwf β a w hr
   exact h hwf β a w hr
 |_=>cases he
end
end Go.Proofs.YtpgkbllcnphmbaaGreatDoor
