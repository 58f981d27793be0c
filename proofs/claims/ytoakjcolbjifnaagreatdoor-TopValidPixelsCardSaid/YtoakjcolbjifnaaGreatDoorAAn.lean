/-
 A part of the proof.
-/
import Derived.Test.YtoakjcolbjifnaaGreatDoorZZ
import Derived.Below
import Derived.OrdersIn
import Derived.RangeFuncRecord
import Derived.KernelRfl
import Derived.Laws.CopyRow
import Derived.Deep.MidRow
import Derived.Test.YtoakjcolbjifnaaGreatDoorProg
open Array renaming setIfInBounds_comm->AH,getElem?_eq_some_iff->AN,getElem?_setIfInBounds_self_of_lt->AW,getElem?_setIfInBounds_ne->BA,getD_eq_getD_getElem?->BF,toArray_toList->BH,getElem?_eq_none->BL,getElem?_modify->BT,replicate->CB
open Bool renaming and_eq_true->AE,false_eq_true->BB,false_or->BO,not_eq_true'->BP,or_eq_true->CC
open Function renaming comp_def->AY
open Go.IntWalk renaming i64_in->CE
open Go.Result renaming andThen_ok->AA
open Go.Sem renaming run_bind->AB,run_pure->AC
open Go.Value renaming pointer->BI
open Go.World renaming setRow->BW,cell?->CG
open List renaming all_eq_true->AD,map_congr_left->AO,mem_map->AP,getD_eq_getElem?_getD->AR,mem_zipIdx_iff_getElem?->AX,getElem?_map->AZ,mem_of_getElem?->BG,mem_append->BK,any_eq_true->BR,mem_of_mem_take->BU,mem_cons_of_mem->BV,mem_cons_self->BY,map_map->BZ,ext_getElem?->CA,range->CD,mem_cons->CF
open Nat renaming le_of_ble_eq_true->AM,beq->AU,lt_of_lt_of_le->BC,le_refl->BD,le_trans->BE,add_one_sub_one->BJ,eq_of_beq_eq_true->BM,lt_or_ge->BN,beq_eq->BQ,zero_add->BX
open Option renaming map_some->AI,bind_some->AK,isSome_iff_exists->AL,getD_some->BS
open Option.some renaming injEq->AF
open Prod.mk renaming injEq->AQ
open Go renaming World->YM,Value->YI,Program->YH,Operand->XZ,Deferred->XY,TypeId->XX,Calls->XW,PanicEntry->XV,FuncId->XU,Oper->XT,Ending->XS,Addr->XR
open Go.IntKind renaming i64->XQ,u64->XP,u32->XO,u8->XN
namespace Go.Proofs.YtoakjcolbjifnaaGreatDoor
set_option maxRecDepth 100000
set_option maxHeartbeats 8000000
set_option linter.unusedVariables false
set_option linter.unusedSimpArgs false
open Go.RowKit Go.Proofs.Tryz
open Go.Proofs.Tryz renaming prog->XM
class Rnd where
 r:Option Nat
instance (priority:=low) rnd0:Rnd:=⟨none⟩
abbrev Fe [R:Rnd]:Fence:={Fence.wide with round:=R.r}
theorem rH [Rnd]{P:YH}{o:XT}{ρ:XZ->YI}{w f:YM}{nx:Next}(h:(execOp ρ o).run P w= .ok nx f)(k:∀d,nx≠ .defer d):(o.semAt Fe.round ρ).run P w= .ok nx f:=by
 by_cases b:∃c,o.op= .defer c
 .obtain⟨c,b⟩:=b;unfold execOp at h;simp only[b,AB]at h;cases g:(resolve ρ c o.type).run P w with
  |ok d j=>
   rw[g]at h;simp only[AA,AC,Result.ok.injEq]at h;exact absurd h.1.symm (k _)
  |halt x j=>rw[g]at h;cases h
 .rw[Oper.semAt_eq _ _ _ λc e=>b ⟨c,e⟩];exact h
theorem Zy [Rnd]{P:YH}{o:XT}{a:Act}{w b:YM}{next:Act->YM->Prop}{Q:Exit->Act->YM->Prop}{nx:Next}(h:(execOp a.eval o).run P w= .ok nx b)(c:∀d,nx≠ .defer d)(H:o.uponIn Fe 0 P a next Q (.ok nx b)):o.wpIn Fe 0 P a w next Q:=
 ⟨λ_ _=>trivial,by rw[rH h c];exact H⟩
theorem TK [Rnd]{P:YH}{n:Nat}{f:XU}{args:Array YI}{w:YM}{R:XS->YM->Prop}:CallsIn Fe n P f args w R↔XW P f args w R:=callsIn_wide
theorem Da [Rnd]{P:YH}{o:XT}{a:Act}{w e:YM}{next:Act->YM->Prop}{Q:Exit->Act->YM->Prop}{f:XU}{args:Array YI}(h:(execOp a.eval o).run P w= .ok (.enter f args) e)
 (H:XW P f args e λ
  | .returned v,c=>next (a.put o.dst v) c
  | .panicked b,c=>Q (.panic b) a c
  | .outgrown,_=>LetsOut Q):o.wpIn Fe 0 P a w next Q:=
 Zy h Zs ⟨λh=>(by cases h),TK.2 H⟩
inductive AV where
 |v (x:YI)
 |p (k off:Nat)
 |s (k n:Nat)
 |f (g:XU) (caps:List (Nat×Nat))
def AV.conc(β:Nat->Nat):AV->YI
 | .v x=>x
 | .p k o=> .pointer (some ⟨β k,o,none⟩)
 | .s k n=> .slice (some ⟨β k,0,none⟩) n n
 | .f g caps=> .func (.func g) #[] (caps.map λc=>BI (some ⟨β c.1,c.2,none⟩)).toArray
def AV.ids:AV->List Nat
 | .v _=>[]
 | .p k _=>[k]
 | .s k _=>[k]
 | .f _ caps=>caps.map (·.1)
theorem vE{β b:Nat->Nat}{x:AV}(h:∀k∈x.ids,b k=β k):x.conc b=x.conc β:=by
 cases x with
 |v x=>rfl
 |p k o=>simp only[AV.conc];rw[h k (by simp[AV.ids])]
 |s k n=>simp only[AV.conc];rw[h k (by simp[AV.ids])]
 |f g caps=>
  simp only[AV.conc];rw[AO (f:=λc:Nat×Nat=>BI (some ⟨b c.1,c.2,none⟩)) (g:=λc=>BI (some ⟨β c.1,c.2,none⟩)) (λc e=>by rw[h c.1 (by simp only[AV.ids];exact AP.2 ⟨c,e,rfl⟩)])]
structure AS where
 tmps:List AV
 box:Nat->Option (List AV)
def AS.eval(σ:AS):XZ->AV
 | .tmp t=>σ.tmps.getD t (.v undef)
 | .const x=> .v x
 | .global g=> .v (.pointer (some ⟨g,0,none⟩))
 | .func f=> .v (.func (.func f) #[] #[])
def AS.put(σ:AS)(d:Option Tmp)(x:AV):AS:=
 match d with
 |some t=>⟨σ.tmps.set t x,σ.box⟩
 |none=>σ
def OG(b:Nat->Option (List AV))(k:Nat)(cs:List AV):Nat->Option (List AV):=λj=>if AU j k then some cs else b j
theorem Qw(b:Nat->Option (List AV))(k:Nat)(cs:List AV):OG b k cs k=some cs:=by simp[OG]
theorem S4(b:Nat->Option (List AV)){k j:Nat}(cs:List AV)(h:j≠k):OG b k cs j=b j:=by
 unfold OG;rw[YT (by simpa using h)]
structure B8 where
 val:AV
 wr:Option (Nat×List AV)
def Xp(b:Nat->Option (List AV)):Option (Nat×List AV)->Nat->Option (List AV)
 |some (k,cs)=>OG b k cs
 |none=>b
def AS.app(σ:AS)(d:Option Tmp)(e:B8):AS:=⟨(σ.put d e.val).tmps,Xp σ.box e.wr⟩
def Cv:List AV->Option (List YI)
 | []=>some []
 | .v x::l=>match Cv l with
  |some r=>some (x::r)
  |none=>none
 |_::_=>none
theorem Qp{β:Nat->Nat}:∀{l:List AV} {r:List YI},Cv l=some r->l.map (AV.conc β)=r
 | [],r,h=>by simp[Cv]at h;simp[h]
 | .v x::l,r,h=>by
  simp only[Cv]at h;split at h
  .rename_i c b;injection h with h;subst h;simp[AV.conc,Qp b]
  .cases h
 | .p _ _::_,r,h=>by simp[Cv]at h
 | .s _ _::_,r,h=>by simp[Cv]at h
 | .f _ _::_,r,h=>by simp[Cv]at h
def AV.isV:AV->Bool
 | .v _=>true
 |_=>false
def AV.get:AV->YI
 | .v x=>x
 |_=>undef
theorem uF{β:Nat->Nat}{x:AV}(h:x.isV=true):x.conc β=x.get:=by
 cases x<;>first|rfl|(simp[AV.isV]at h)
def cellsOf:AV->List AV
 | .v x=>x.cells.toList.map .v
 |a=>[a]
theorem Cq(β:Nat->Nat)(x:AV):(cellsOf x).map (AV.conc β)=(x.conc β).cells.toList:=by
 cases x with
 |v x=>simp[cellsOf,AV.conc,AY]
 |_=>simp[cellsOf,AV.conc,Value.cells]
def AV.one:AV->Bool
 | .v x=>x.oneCell'
 |_=>true
theorem vR{β:Nat->Nat}{x:AV}(h:x.one=true):(x.conc β).oneCell'=true:=by
 cases x<;>first|exact h|rfl
def jE{α:Type}(P:YH):Sem α->Option α
 | .pure a=>some a
 | .program k=>jE P (k P)
 | .mark _ k=>jE P k
 |_=>none
theorem TN{α:Type}{P:YH}{s:Sem α}{a:α}(h:jE P s=some a)(w:YM):s.run P w= .ok a w:=by
 induction s generalizing w with
 |pure b=>simp only[jE]at h;injection h with h;subst h;rfl
 |program k c=>simp only[jE]at h;simp only[Sem.run];exact c P h w
 |mark m k c=>simp only[jE]at h;simp only[Sem.run];exact c h w
 |_=>simp[jE]at h
def Tz(P:YH)(t:XX):Option YI:=(P.info? t).bind (·.zero)
def Mq(P:YH)(t:XX):Option Nat:=(P.info? t).map (·.size)
def Nx(P:YH)(t:XX):Option Bool:=
 match P.underlying t with
 |some (.struct _)|some (.array _ _)=>some true
 |some _=>some false
 |none=>none
def AS.plain(σ:AS)(o:Op):Bool:=o.operands.toList.all λx=>(σ.eval x).isV
def Vr(P:YH)(t:XX)(off:Nat)(cs:List AV):Option B8:=
 match Nx P t with
 | some true=>match Mq P t with
  |some n=>if Nat.ble (off+n) cs.length then(match Cv ((cs.drop off).take n)with
   |some vs=>some ⟨.v (.agg vs.toArray),none⟩
   |none=>none)else none
  |none=>none
 |some false=>match cs[off]? with
  |some c=>some ⟨c,none⟩
  |none=>none
 |none=>none
def Yd(P:YH)(t:XX)(k off:Nat)(cs vs:List AV):Option B8:=
 match Mq P t with
 |some n=>if AU vs.length n&&Nat.ble (off+n) cs.length&&vs.all AV.one then some ⟨.v undef,some (k,cs.take off++vs++cs.drop (off+n))⟩else none
 |none=>none
def Rw(P:YH)(t:XX)(f k off:Nat):Option B8:=
 match P.underlying t with
 | some (.struct c)=>match c[f]? with
  |some b=>match Mq P b.type with
   |some (_+1)=>some ⟨.p k (off+b.offset),none⟩
   |_=>none
  |none=>none
 |_=>none
def Uw(P:YH)(t:XX)(f g off:Nat):Option B8:=
 match P.underlying t with
 | some (.struct c)=>match c[f]? with
  |some b=>match Mq P b.type with
   |some (_+1)=>some ⟨.v (.pointer (some ⟨g,off+b.offset,none⟩)),none⟩
   |_=>none
  |none=>none
 |_=>none
def Yf(P:YH)(t:XX)(x b:AV):Option B8:=
 match x,b with
 | .p k off,.v (.int _ i)=>match P.underlying t with
  |some (.array len elem)=>match Mq P elem with
   |some n=>if Nat.ble (i.toNat+1) len&&(0<=i:Bool)then some ⟨.p k (off+i.toNat*n),none⟩else none
   |none=>none
  |_=>none
 | .s k len,.v (.int _ i)=>match P.underlying t with
  |some (.slice elem)=>match Mq P elem with
   |some n=>if Nat.ble (i.toNat+1) len&&(0<=i:Bool)then some ⟨.p k (i.toNat*n),none⟩else none
   |none=>none
  |_=>none
 | .v (.pointer (some ⟨g,off,none⟩)),.v (.int _ i)=>match P.underlying t with
  |some (.array len elem)=>match Mq P elem with
   |some n=>if Nat.ble (i.toNat+1) len&&(0<=i:Bool)then some ⟨.v (.pointer (some ⟨g,off+i.toNat*n,none⟩)),none⟩else none
   |none=>none
  |_=>none
 |_,_=>none
def Yt:List AV->Option (List (Nat×Nat))
 | []=>some []
 | .p k o::l=>match Yt l with
  |some r=>some ((k,o)::r)
  |none=>none
 |_::_=>none
def Qk(σ:AS)(d:Option Tmp)(cs:List AV)(x:Nat->AV):Option B8:=
 match d with
 |some d=>match σ.box d with
  |some _=>none
  |none=>some ⟨x d,some (d,cs)⟩
 |none=>none
def AS.rho(σ:AS)(x:XZ):YI:=(σ.eval x).get
def P5(P:YH)(o:XT)(σ:AS):Option B8:=
 if σ.plain o.op then(match o.op with
  | .select _ _=>none
  |_=>match jE P (execOp σ.rho o)with
   |some (.value v)=>some ⟨.v v,none⟩
   |_=>none)else none
def OZ(P:YH)(o:XT)(σ:AS):Option B8:=
 match o.op with
 | .move x=>some ⟨σ.eval x,none⟩
 | .assign x=>some ⟨σ.eval x,none⟩
 | .alloc t=>match Tz P t with
  |some z=>Qk σ o.dst (z.cells.toList.map .v) (λd=> .p d 0)
  |none=>none
 | .box _ x=>Qk σ o.dst (cellsOf (σ.eval x)) (λd=> .p d 0)
 | .load t x=>match σ.eval x with
  | .p k off=>match σ.box k with
   |some cs=>Vr P t off cs
   |none=>none
  |_=>none
 | .store t x y=>match σ.eval x with
  | .p k off=>match σ.box k with
   |some cs=>Yd P t k off cs (cellsOf (σ.eval y))
   |none=>none
  |_=>none
 | .fieldAddr t x f=>match σ.eval x with
  | .p k off=>Rw P t f k off
  | .v (.pointer (some ⟨g,off,none⟩))=>Uw P t f g off
  |_=>none
 | .indexAddr t x e=>Yf P t (σ.eval x) (σ.eval e)
 | .nilCheck x=>match σ.eval x with
  | .p k off=>some ⟨.p k off,none⟩
  |_=>P5 P o σ
 | .makeFunc (.func g) first caps=>match first.toList,Yt (caps.toList.map σ.eval)with
  | [],some (c::r)=>some ⟨.f g (c::r),none⟩
  |_,_=>P5 P o σ
 | .buildSlice t len b=>match P.underlying t with
  | some (.slice elem)=>match Mq P elem,Tz P elem with
   | some n,some z=>match Cv (b.toList.map λp=>σ.eval p.2)with
    |some vs=>if Nat.ble (len*n) 16777216&&Nat.ble 1 (len*n)then(match Instr.fill (λi=>some (i*n,n)) ((Array.range (len*n)).map (z.cells[· %z.cells.size]!)) ((b.toList.map (·.1)).zip vs)with
     |some cells=>Qk σ o.dst (cells.toList.map .v) (λd=> .s d len)
     |none=>none)else none
    |none=>none
   |_,_=>none
  |_=>none
 |_=>P5 P o σ
structure SY(W:YM)(β:Nat->Nat)(σ:AS)(w w':YM):Prop where
 size:w.heap.size<=w'.heap.size
 heap:∀b,W.heap.size<=b->b<w.heap.size->(∀k,(σ.box k).isSome=true->β k≠b)->w'.heap[b]? =w.heap[b]?
theorem SY.refl(W:YM)(β:Nat->Nat)(σ:AS)(w:YM):SY W β σ w w:=⟨BD _,λ_ _ _ _=>rfl⟩
structure AS.wf(σ:AS):Prop where
 tmps:∀x∈σ.tmps,∀k∈x.ids,(σ.box k).isSome=true
 cells:∀j cs,σ.box j=some cs->∀x∈cs,∀k∈x.ids,(σ.box k).isSome=true
theorem AS.wf.eval{σ:AS}(h:σ.wf)(x:XZ):∀k∈(σ.eval x).ids,(σ.box k).isSome=true:=by
 cases x with
 |tmp t=>
  simp only[AS.eval,AR];cases c:σ.tmps[t]? with
  |none=>intro k b;simp[AV.ids]at b
  |some y=>intro k b;exact h.tmps y (BG c) k (by simpa using b)
 |_=>intro k b;simp[AS.eval,AV.ids]at b
theorem uS(σ:AS)(d:Option Tmp)(x:AV):(σ.put d x).box=σ.box:=by cases d<;>rfl
theorem AS.wf.put{σ:AS}(h:σ.wf)(d:Option Tmp){x:AV}(c:∀k∈x.ids,(σ.box k).isSome=true):(σ.put d x).wf:=by
 cases d with
 |none=>exact h
 |some t=>
  refine⟨λy b=> ?_,h.cells⟩;rcases List.mem_or_eq_of_mem_set b with b|rfl
  .exact h.tmps y b
  .exact c
theorem Be{b:Nat->Option (List AV)}{k:Nat}{cs:List AV}{j:Nat}(h:(b j).isSome=true):(OG b k cs j).isSome=true:=by
 unfold OG;split
 .rfl
 .exact h
theorem AS.wf.wr{σ:AS}(h:σ.wf){k:Nat}{cs:List AV}(g:∀x∈cs,∀j∈x.ids,(σ.box j).isSome=true):(AS.mk σ.tmps (OG σ.box k cs)).wf:=by
 refine⟨λx c j b=>Be (h.tmps x c j b),λj f b x c i hi=> ?_⟩
 by_cases e:j=k
 .subst e;simp only[Qw]at b;injection b with b;subst b;exact Be (g x c i hi)
 .simp only[S4 _ _ e]at b;exact Be (h.cells j f b x c i hi)
structure Ok(Δ:List XY)(W:YM)(β:Nat->Nat)(σ:AS)(Φ:YM->Prop)(a:Act)(w:YM):Prop where
 tmps:a.tmps.toList=σ.tmps.map (AV.conc β)
 defers:a.defers=Δ
 bel:Below W.heap.size W w
 box:∀k cs,σ.box k=some cs->W.heap.size<=β k/\∃ty,w.heap[β k]? =some (.cells (cs.map (AV.conc β)).toArray ty (0,0))
 inj:∀k k',(σ.box k).isSome=true->(σ.box k').isSome=true->β k=β k'->k=k'
 keep:∀w',SY W β σ w w'->Φ w'
section
variable{Δ:List XY}{W:YM}{β:Nat->Nat}{σ:AS}{Φ:YM->Prop}{a:Act}{w:YM}
theorem Ok.eval(h:Ok Δ W β σ Φ a w)(x:XZ):a.eval x=(σ.eval x).conc β:=by
 cases x with
 |tmp t=>
  simp only[Act.eval,AS.eval];have e:a.tmps[t]? =(σ.tmps.map (AV.conc β))[t]? :=by rw[<-h.tmps];simp
  rw[BF,e,AR,AZ];cases σ.tmps[t]? <;>rfl
 |const x=>rfl
 |global g=>rfl
 |func f=>rfl
theorem Ok.phi(h:Ok Δ W β σ Φ a w):Φ w:=h.keep w (SY.refl _ _ _ _)
theorem Ok.put(h:Ok Δ W β σ Φ a w)(d:Option Tmp)(x:AV):Ok Δ W β (σ.put d x) Φ (a.put d (x.conc β)) w:=by
 cases d with
 |none=>exact h
 |some t=>exact⟨by simp[Act.put,AS.put,h.tmps,List.map_set],h.defers,h.bel,h.box,h.inj,λc b=>h.keep c ⟨b.size,b.heap⟩⟩
theorem Ok.drew(h:Ok Δ W β σ Φ a w):Ok Δ W β σ Φ a w.drew:=
 ⟨h.tmps,h.defers,h.bel.drew,h.box,h.inj,λc b=>h.keep c ⟨b.size,b.heap⟩⟩
theorem Ok.new(h:Ok Δ W β σ Φ a w)(D:σ.wf){d:Nat}(R:σ.box d=none){cs:List AV}(G:∀x∈cs,∀j∈x.ids,(σ.box j).isSome=true)(ty:XX):
 ∃β',β' d=w.heap.size/\(∀k,k≠d->β' k=β k)/\Ok Δ W β' ⟨σ.tmps,OG σ.box d cs⟩ Φ a (w.alloc (.cells (cs.map (AV.conc β)).toArray ty)):=by
 have E:∀{x:AV},(∀j∈x.ids,(σ.box j).isSome=true)->∀j∈x.ids,j≠d:=λz j F e=>by
  have:=z j F;rw[e,R]at this;cases this
 have v:∀k,k≠d->(if k=d then w.heap.size else β k)=β k:=λk f=>by rw[YT f]
 refine⟨λk=>if k=d then w.heap.size else β k,by simp,v,?_⟩;have p:∀{x:AV},(∀j∈x.ids,(σ.box j).isSome=true)->x.conc (λk=>if k=d then w.heap.size else β k)=x.conc β:=λz=>
  vE λj F=>v j (E z j F)
 have g:∀{l:List AV},(∀x∈l,∀j∈x.ids,(σ.box j).isSome=true)->l.map (AV.conc λk=>if k=d then w.heap.size else β k)=l.map (AV.conc β):=λN=>
  AO λx z=>p (N x z)
 have o:∀k,(σ.box k).isSome=true->β k<w.heap.size:=λk f=>by
  obtain⟨m,u⟩:=AL.1 f;obtain⟨_,B,P⟩:=h.box k m u;exact(AN.1 P).1
 have c:∀k,k≠d->(OG σ.box d cs k).isSome=true->(σ.box k).isSome=true:=λk f K=>by rw[S4 _ _ f]at K;exact K
 refine⟨?_,h.defers,h.bel.alloc h.bel.size _,?_,?_,?_⟩
 .rw[h.tmps];exact(g D.tmps).symm
 .intro k m f
  by_cases e:k=d
  .subst e;simp only[Qw]at f;injection f with f;subst f;refine⟨by simpa using h.bel.size,ty,?_⟩;rw[g G];simp only[YS];show(w.heap.push _)[w.heap.size]? =_;simp
  .simp only[S4 _ _ e]at f;obtain⟨M,B,wI⟩:=h.box k m f;simp only[YT e];refine⟨M,B,?_⟩;rw[g (D.cells k m f),Below.heap_alloc _ _ _ (o k (by rw[f];rfl))];exact wI
 .intro k y f A e
  by_cases t:k=d<;>by_cases s:y=d
  .rw[t,s]
  .have wI:=o y (c y s A);simp[t,s]at e;omega
  .have wI:=o k (c k t f);simp[t,s]at e;omega
  .simp only[YT t,YT s]at e;exact h.inj k y (c k t f) (c y s A) e
 .intro Q J;refine h.keep Q ⟨BE Zs J.size,λb L Z f=> ?_⟩;rw[J.heap b L Zp (λk H=> ?_),Below.heap_alloc _ _ _ Z]
  by_cases e:k=d
  .simp[e];omega
  .simp only[YT e];exact f k (c k e H)
theorem O1(w:YM)(g:Nat)(cs:Array YI):(w.setRow g cs).heap.size=w.heap.size:=by simp[BW]
theorem Na(w:YM)(g:Nat)(cs:Array YI)(b:Nat)(h:b≠g):(w.setRow g cs).heap[b]? =w.heap[b]? :=by
 simp only[BW,BT];rw[YT I]
theorem Ok.store(h:Ok Δ W β σ Φ a w){k:Nat}{cs l:List AV}(t:σ.box k=some cs):
 Ok Δ W β ⟨σ.tmps,OG σ.box k l⟩ Φ a (w.setRow (β k) (l.map (AV.conc β)).toArray):=by
 obtain⟨E,ty,A⟩:=h.box k cs t;have g:(σ.box k).isSome=true:=by rw[t];rfl
 have c:∀j,(OG σ.box k l j).isSome=true->(σ.box j).isSome=true:=λj f=>by
  by_cases e:j=k
  .rw[e];exact g
  .rw[S4 _ _ e]at f;exact f
 refine⟨h.tmps,h.defers,?_,?_,?_,?_⟩
 .exact h.bel.trans ⟨rfl,rfl,rfl,by rw[O1];exact BD _,λb v=>Na _ _ _ _ I⟩
 .intro j p f
  by_cases e:j=k
  .subst e;simp only[Qw]at f;injection f with f;subst f;exact⟨E,ty,setRow_heap w _ _ _ _ _ A⟩
  .simp only[S4 _ _ e]at f;obtain⟨z,o,F⟩:=h.box j p f;refine⟨z,o,?_⟩;rw[Na _ _ _ _ (λB=>e (h.inj j k (by rw[f];rfl) g B))];exact F
 .intro j x f s e;exact h.inj j x (c j f) (c x s) e
 .intro D u;refine h.keep D ⟨by have:=u.size;rw[O1]at this;exact this,λb y v m=> ?_⟩;rw[u.heap b y (by rw[O1];exact v) (λj f=>m j (c j f)),Na _ _ _ _ (λe=>m k g e.symm)]
end
theorem uL(σ:AS)(d:Option Tmp)(e:B8):σ.app d e=(AS.mk σ.tmps (Xp σ.box e.wr)).put d e.val:=by
 cases d<;>rfl
def Ov(P:YH)(Δ:List XY)(W:YM)(σ:AS)(Φ:YM->Prop)(β:Nat->Nat)(a:Act)(w:YM)(o:XT)(e:B8):Prop:=
 (σ.app o.dst e).wf/\∃β' nx w',(execOp a.eval o).run P w= .ok nx w'/\(nx= .value (e.val.conc β')\/(nx= .skip/\e.val.conc β'=undef))/\
  Ok Δ W β' (σ.app o.dst e) Φ (a.put o.dst (e.val.conc β')) w'
section
variable{P:YH}{Δ:List XY}{W:YM}{β:Nat->Nat}{σ:AS}{Φ:YM->Prop}{a:Act}{w:YM}{o:XT}{e:B8}
theorem Ov.pure{v:AV}(g:Ok Δ W β σ Φ a w)(c:σ.wf)(f:∀k∈v.ids,(σ.box k).isSome=true)(b:(execOp a.eval o).run P w= .ok (.value (v.conc β)) w):
 Ov P Δ W σ Φ β a w o ⟨v,none⟩:=by
 refine⟨?_,β,_,w,b,.inl rfl,?_⟩
 .rw[uL];exact AS.wf.put (σ:=⟨σ.tmps,σ.box⟩) c o.dst f
 .rw[uL];exact Ok.put (σ:=⟨σ.tmps,σ.box⟩) g o.dst v
theorem Ov.new{cs:List AV}{v:Nat->AV}(s:Ok Δ W β σ Φ a w)(g:σ.wf)(h:Qk σ o.dst cs v=some e)(f:∀x∈cs,∀j∈x.ids,(σ.box j).isSome=true)
 (l:∀d k,k∈(v d).ids->k=d) (ty:XX)
 (c:∀b:Nat->Nat,∀d,b d=w.heap.size->(execOp a.eval o).run P w= .ok (.value ((v d).conc b)) (w.alloc (.cells (cs.map (AV.conc β)).toArray ty))):
 Ov P Δ W σ Φ β a w o e:=by
 unfold Qk at h;split at h
 .rename_i d z;split at h
  .cases h
  .rename_i p;injection h with h;subst h;obtain⟨b,t,y,m⟩:=s.new g p f ty;refine⟨?_,b,_,_,c b d t,.inl rfl,?_⟩
   .rw[uL];refine AS.wf.put (g.wr f) _ λk u=> ?_
    rw[l d k u];simp[Xp,Qw]
   .rw[uL];exact m.put _ _
 .cases h
theorem Qj{t:XX}{z:YI}(h:Tz P t=some z)(w:YM):(zeroValue t).run P w= .ok z w:=by
 unfold Tz at h;cases hi:P.info? t with
 |none=>rw[hi]at h;cases h
 |some i=>
  rw[hi]at h;simp only[AK]at h;simp[zeroValue,typeInfo,hi,h]
theorem Rf(t:XX)(v:YI)(w:YM):(newVar t v).run P w= .ok ⟨w.heap.size,0,none⟩ (w.alloc (.cells v.cells t)):=by
 rfl
theorem Lb{t:XX}{n:Nat}(h:Mq P t=some n)(w:YM):(sizeOf t).run P w= .ok n w:=by
 unfold Mq at h;cases hi:P.info? t with
 |none=>rw[hi]at h;cases h
 |some i=>
  rw[hi]at h;simp only[AI]at h;injection h with h;simp[sizeOf,typeInfo,hi,h]
theorem Ye(h:P5 P o σ=some e)(j:Ok Δ W β σ Φ a w)(g:σ.wf):Ov P Δ W σ Φ β a w o e:=by
 unfold P5 at h;split at h
 .rename_i s;have c:∀x∈o.op.operands,a.eval x=σ.rho x:=λx l=>by
   rw[j.eval,uF];· rfl
   exact AD.1 s x (by simpa using l)
  split at h
  .cases h
  .rename_i f;split at h
   .rename_i v p;injection h with h;subst h;refine Ov.pure j g (by intro k m;simp[AV.ids]at m) ?_;rw[execOp_congr o (λcs b e=>f cs b e) c];exact TN p w
   .cases h
 .cases h
theorem W9{l:List AV}{off n j:Nat}{x:AV}(h:((l.drop off).take n)[j]? =some x):l[off+j]? =some x:=by
 rw[List.getElem?_take]at h;split at h
 .rw[List.getElem?_drop]at h;exact h
 .cases h
theorem F1{t:XX}{k off:Nat}{cs:List AV}{ty:XX}(L:w.heap[β k]? =some (.cells (cs.map (AV.conc β)).toArray ty (0,0)))(h:Vr P t off cs=some e):
 (loadVar t ⟨β k,off,none⟩).run P w= .ok (e.val.conc β) w/\e.wr=none/\∀j∈e.val.ids,∃x∈cs,j∈x.ids:=by
 have f:∀j,w.cell? ⟨β k,j,none⟩=(cs.map (AV.conc β))[j]? :=λj=>by simp[CG,L]
 unfold Vr at h;split at h
 .rename_i b;split at h
  .rename_i n J;split at h
   .rename_i s;split at h
    .rename_i vs H;injection h with h;subst h;have A:=Qp (β:=β) H;have s:=AM s;have u:vs.length=n:=by
      rw[<-A];simp;omega
     have g:w.rangeAt (β k) off vs:=λj v z=>by
      rw[f,AZ];rw[<-A,AZ]at z;cases G:((cs.drop off).take n)[j]? with
      |none=>rw[G]at z;cases z
      |some y=>rw[G]at z;rw[W9 G];exact z
     unfold Nx at b;have m:∀d:TypeDesc,P.underlying t=some d->d.isRow=true->(loadVar t ⟨β k,off,none⟩).run P w= .ok (.agg vs.toArray) w:=λd l F=>
      run_loadVar_mid w (β k) off t vs d g l F (by unfold Mq at J;rw[J,u])
     refine⟨?_,rfl,by intro j E;simp[AV.ids]at E⟩;split at b
     .rename_i l;exact m _ l rfl
     .rename_i l;exact m _ l rfl
     .cases b
     .cases b
    .cases h
   .cases h
  .cases h
 .rename_i b;split at h
  .rename_i c Z;injection h with h;subst h;have p:(isAgg t).run P w= .ok false w:=by
    unfold Nx at b;split at b
    .cases b
    .cases b
    .rename_i d D B l;unfold isAgg;rw[AB,run_underlying l w];cases d<;>first|rfl|(exfalso;first|exact D _ rfl|exact B _ _ rfl)|(exfalso;first|exact D _ l|exact B _ _ l)
    .cases b
   have K:(load ⟨β k,off,none⟩).run P w= .ok (c.conc β) w:=by
    simp[run_load,f,Z]
   refine⟨?_,rfl,λj E=>⟨c,BG Z,E⟩⟩;simp only[loadVar,AB,AA,p,K,BB,if_false]
  .cases h
 .cases h
theorem QY{t:XX}{x:XZ}{k off:Nat}{cs:List AV}(g:o.op= .load t x)(f:σ.eval x= .p k off)(m:σ.box k=some cs)(h:Vr P t off cs=some e)(l:Ok Δ W β σ Φ a w)(c:σ.wf):
 Ov P Δ W σ Φ β a w o e:=by
 obtain⟨_,ty,y⟩:=l.box k cs m;have b:=l.eval x;rw[f]at b;obtain⟨s,A,z⟩:=F1 y h;obtain⟨v,wr⟩:=e;obtain rfl:wr=none:=A;refine Ov.pure l c (λj u=> ?_) ?_
 .obtain⟨x,f,hi⟩:=z j u;exact c.cells k cs m x f j hi
 .unfold execOp;rw[g];simp only[b,AV.conc,Instr.loadAt,Instr.sureAddr,AB,AC,AA,s]
theorem NN{t:XX}{x y:XZ}{k off:Nat}{cs:List AV}(H:o.op= .store t x y)(N:σ.eval x= .p k off)(F:σ.box k=some cs)(h:Yd P t k off cs (cellsOf (σ.eval y))=some e)(G:Ok Δ W β σ Φ a w)(f:σ.wf):
 Ov P Δ W σ Φ β a w o e:=by
 obtain⟨_,ty,Z⟩:=G.box k cs F;have u:=G.eval x;rw[N]at u;have g:=G.eval y;have c:=Cq β (σ.eval y);have D:∀z∈cellsOf (σ.eval y),∀j∈z.ids,(σ.box j).isSome=true:=by
  have:=f.eval y;cases J:σ.eval y with
  |v q=>intro z b j B;simp[cellsOf,J]at b;obtain⟨R,_,rfl⟩:=b;simp[AV.ids]at B
  |_=>intro z b j B;rw[J]at this;simp[cellsOf,J]at b;subst b;exact this j B
 unfold Yd at h;split at h
 .rename_i n M;split at h
  .rename_i K;simp only[AE,BQ]at K;obtain⟨⟨L,E⟩,m⟩:=K;have E:=AM E;injection h with h;subst h;have s:(cs.take off++cellsOf (σ.eval y)++cs.drop (off+n)).map (AV.conc β)=((cs.map (AV.conc β)).toArray.toList.take off++(a.eval y).cells.toList++(cs.map (AV.conc β)).toArray.toList.drop (off+(a.eval y).cells.toList.length)):=by
    rw[g,<-c];simp[L,List.map_take,List.map_drop]
   have l:=run_storeCells_at P (β k) off ty (a.eval y).cells.toList 0 (cs.map (AV.conc β)).toArray w Z (by rw[g,<-c];simp;omega) (by
    rw[g,<-c];intro v Q;obtain⟨z,b,rfl⟩:=AP.1 Q;exact vR (AD.1 m z b))
   simp only[Nat.add_zero]at l;rw[<-s]at l;have wI:(a.eval y).cells.size=n:=by
    rw[<-Array.length_toList,g,<-c];simpa using L
   have A:(Instr.storeAt t (.pointer (some ⟨β k,off,none⟩)) (a.eval y)).run P w= .ok () (w.setRow (β k) ((cs.take off++cellsOf (σ.eval y)++cs.drop (off+n)).map (AV.conc β)).toArray):=by
    simp only[Instr.storeAt,Instr.sureAddr,storeVar,AB,AC,AA,Lb M];rw[YT (by simpa using wI)];simp only[l,AC,AB,AA]
   refine⟨?_,β,.skip,w.setRow (β k) ((cs.take off++cellsOf (σ.eval y)++cs.drop (off+n)).map (AV.conc β)).toArray,?_,.inr ⟨rfl,rfl⟩,?_⟩
   .rw[uL];refine AS.wf.put (f.wr (k:=k) ?_) _ (by intro j B;simp[AV.ids]at B);intro z b;simp only[BK]at b;rcases b with (b|b)|b
    .exact f.cells k cs F z (BU b)
    .exact D z b
    .exact f.cells k cs F z (List.mem_of_mem_drop b)
   .unfold execOp;rw[H];simp only[u,AV.conc,AB,A,AA,AC]
   .rw[uL];exact(G.store F).put _ _
  .cases h
 .cases h
end
section
variable{P:YH}{Δ:List XY}{W:YM}{β:Nat->Nat}{σ:AS}{Φ:YM->Prop}{a:Act}{w:YM}{o:XT}{e:B8}
theorem NS{t:XX}{x:XZ}{f k off:Nat}(l:o.op= .fieldAddr t x f)(z:σ.eval x= .p k off)(h:Rw P t f k off=some e)(m:Ok Δ W β σ Φ a w)(j:σ.wf):
 Ov P Δ W σ Φ β a w o e:=by
 have b:=m.eval x;have g:=j.eval x;rw[z]at b g;unfold Rw at h;split at h
 .rename_i A y;split at h
  .rename_i u s;split at h
   .rename_i n v;injection h with h;subst h;refine Ov.pure m j g ?_;have c:(Instr.fieldAt t (.pointer (some ⟨β k,off,none⟩)) f).run P w= .ok (.pointer (some ⟨β k,off+u.offset,none⟩)) w:=by
     simp only[Instr.fieldAt,AB,run_underlying y,AA,s,Instr.sureAddr,AC,fieldPlace,Lb v,Nat.add_one_ne_zero,if_false,Addr.add_mid]
    unfold execOp;rw[l];simp only[b,AV.conc,AB,c,AA,AC]
   .cases h
  .cases h
 .cases h
theorem GK{t:XX}{x:XZ}{f g off:Nat}(j:o.op= .fieldAddr t x f)(A:σ.eval x= .v (.pointer (some ⟨g,off,none⟩)))(h:Uw P t f g off=some e)(m:Ok Δ W β σ Φ a w)(l:σ.wf):
 Ov P Δ W σ Φ β a w o e:=by
 have b:=m.eval x;rw[A]at b;unfold Uw at h;split at h
 .rename_i B z;split at h
  .rename_i u p;split at h
   .rename_i n y;injection h with h;subst h;refine Ov.pure m l (by intro k s;simp[AV.ids]at s) ?_;have c:(Instr.fieldAt t (.pointer (some ⟨g,off,none⟩)) f).run P w= .ok (.pointer (some ⟨g,off+u.offset,none⟩)) w:=by
     simp only[Instr.fieldAt,AB,run_underlying z,AA,p,Instr.sureAddr,AC,fieldPlace,Lb y,Nat.add_one_ne_zero,if_false,Addr.add_mid]
    unfold execOp;rw[j];simp only[b,AV.conc,AB,c,AA,AC]
   .cases h
  .cases h
 .cases h
theorem MP{t:XX}{x D:XZ}(s:o.op= .indexAddr t x D)(h:Yf P t (σ.eval x) (σ.eval D)=some e)(B:Ok Δ W β σ Φ a w)(l:σ.wf):
 Ov P Δ W σ Φ β a w o e:=by
 have f:=B.eval x;have j:=l.eval x;have c:=B.eval D;unfold Yf at h;split at h
 .rename_i k off u i A hi;rw[A]at f j;rw[hi]at c;split at h
  .rename_i len elem z;split at h
   .rename_i n v;split at h
    .rename_i p;simp only[AE,decide_eq_true_eq]at p;obtain⟨m,E⟩:=p;have m:=AM m;injection h with h;subst h;refine Ov.pure B l j ?_;have y:0<=i/\i<(len:Int):=I
     have b:(Instr.indexAt t (.pointer (some ⟨β k,off,none⟩)) (.int u i)).run P w= .ok (.pointer (some ⟨β k,off+i.toNat*n,none⟩)) w:=by
      simp only[Instr.indexAt,asIntOf,AB,AC,AA,run_underlying z,Instr.sureAddr,Lb v,YS y,Addr.add_mid]
     unfold execOp;rw[s];simp only[f,c,AV.conc,AB,b,AA,AC]
    .cases h
   .cases h
  .cases h
 .rename_i k len u i A hi;rw[A]at f j;rw[hi]at c;split at h
  .rename_i elem z;split at h
   .rename_i n v;split at h
    .rename_i p;simp only[AE,decide_eq_true_eq]at p;obtain⟨m,E⟩:=p;have m:=AM m;injection h with h;subst h;refine Ov.pure B l j ?_;have y:0<=i/\i<(len:Int):=I
     have b:(Instr.indexAt t (.slice (some ⟨β k,0,none⟩) len len) (.int u i)).run P w= .ok (.pointer (some ⟨β k,i.toNat*n,none⟩)) w:=by
      simp only[Instr.indexAt,asIntOf,AB,AC,AA,run_underlying z,Instr.sureAddr,Lb v,YS y,Addr.add_mid,BX]
     unfold execOp;rw[s];simp only[f,c,AV.conc,AB,b,AA,AC]
    .cases h
   .cases h
  .cases h
 .rename_i g off u i A hi;rw[A]at f j;rw[hi]at c;split at h
  .rename_i len elem z;split at h
   .rename_i n v;split at h
    .rename_i p;simp only[AE,decide_eq_true_eq]at p;obtain⟨m,E⟩:=p;have m:=AM m;injection h with h;subst h;refine Ov.pure B l (by intro k F;simp[AV.ids]at F) ?_;have y:0<=i/\i<(len:Int):=I
     have b:(Instr.indexAt t (.pointer (some ⟨g,off,none⟩)) (.int u i)).run P w= .ok (.pointer (some ⟨g,off+i.toNat*n,none⟩)) w:=by
      simp only[Instr.indexAt,asIntOf,AB,AC,AA,run_underlying z,Instr.sureAddr,Lb v,YS y,Addr.add_mid]
     unfold execOp;rw[s];simp only[f,c,AV.conc,AB,b,AA,AC]
    .cases h
   .cases h
  .cases h
 .cases h
theorem Ys{β:Nat->Nat}:∀{l:List AV} {r:List (Nat×Nat)},Yt l=some r->l.map (AV.conc β)=r.map (λc=>BI (some ⟨β c.1,c.2,none⟩))/\∀c∈r,∃x∈l,c.1∈x.ids
 | [],r,h=>by simp[Yt]at h;subst h;exact⟨rfl,λc b=>by cases b⟩
 | .p k o::l,r,h=>by
  simp only[Yt]at h;split at h
  .rename_i u m;injection h with h;subst h;obtain⟨t,j⟩:=Ys (β:=β) m;refine⟨by simp[AV.conc,t],λc b=> ?_⟩;rcases CF.1 b with rfl|b
   .exact⟨_,BY ..,by simp[AV.ids]⟩
   .obtain⟨x,g,hi⟩:=j c b;exact⟨x,BV _ g,hi⟩
  .cases h
 | .v _::_,r,h=>by simp[Yt]at h
 | .s _ _::_,r,h=>by simp[Yt]at h
 | .f _ _::_,r,h=>by simp[Yt]at h
theorem KM{t:XX}{len:Nat}{b:Array (Nat×XZ)}{elem n:Nat}{z:YI}{vs:List YI}{cells:Array YI}(l:o.op= .buildSlice t len b)
 (J:P.underlying t=some (.slice elem)) (wI:Mq P elem=some n) (D:Tz P elem=some z) (u:Cv (b.toList.map λp=>σ.eval p.2)=some vs)
 (K:len*n<=16777216) (Z:1<=len*n)
 (E:Instr.fill (λi=>some (i*n,n)) ((Array.range (len*n)).map (z.cells[· %z.cells.size]!)) ((b.toList.map (·.1)).zip vs)=some cells)
 (h:Qk σ o.dst (cells.toList.map .v) (λd=> .s d len)=some e) (B:Ok Δ W β σ Φ a w) (m:σ.wf):Ov P Δ W σ Φ β a w o e:=by
 refine Ov.new B m h (by intro x A j H;simp at A;obtain⟨q,_,rfl⟩:=A;simp[AV.ids]at H) (by intro d k G;simpa[AV.ids]using G) elem λF d N=> ?_
 have y:=Qp (β:=β) u;have c:(b.map λ(i,x)=>(i,a.eval x)).toList=(b.toList.map (·.1)).zip vs:=by
  rw[<-y,Array.toList_map,BZ,List.zip_map'];exact AO λp Q=>by
   obtain⟨i,x⟩:=p;simp only[Function.comp,B.eval x]
 have g:(cells.toList.map AV.v).map (AV.conc β)=cells.toList:=by simp[AY,AV.conc]
 have f:(Instr.buildSlice t len (b.map λ(i,x)=>(i,a.eval x))).run P w= .ok (.slice (some ⟨w.heap.size,0,none⟩) len len) (w.alloc (.cells cells elem)):=by
  have M:¬len*n>2 ^ 24:=I
  have L:¬len*n=0:=I
  simp only[Instr.buildSlice,AB,run_underlying J,AA,Lb wI,YT M,YT L,Qj D,AC,c,E]
  rfl
 unfold execOp;rw[l];simp only[AB,f,AA,AC,g,AV.conc,N]
theorem oo(h:OZ P o σ=some e)(m:Ok Δ W β σ Φ a w)(l:σ.wf):Ov P Δ W σ Φ β a w o e:=by
 unfold OZ at h;split at h
 .rename_i x b;injection h with h;subst h;refine Ov.pure m l (l.eval x) ?_;unfold execOp;rw[b];rw[<-m.eval];rfl
 .rename_i x b;injection h with h;subst h;refine Ov.pure m l (l.eval x) ?_;unfold execOp;rw[b];rw[<-m.eval];rfl
 .rename_i t b;split at h
  .rename_i z s;refine Ov.new m l h (by intro x p j D;simp at p;obtain⟨q,_,rfl⟩:=p;simp[AV.ids]at D) (by intro d k u;simpa[AV.ids]using u) t λJ d wJ=> ?_
   have H:(z.cells.toList.map AV.v).map (AV.conc β)=z.cells.toList:=by simp[AY,AV.conc]
   unfold execOp;rw[b];simp only[Instr.alloc,AB,Qj s,AA,Rf,AC,H,AV.conc,wJ]
  .cases h
 .rename_i t x b;have F:∀z∈cellsOf (σ.eval x),∀j∈z.ids,(σ.box j).isSome=true:=by
   have:=l.eval x;cases G:σ.eval x with
   |v q=>intro z s j D;simp[cellsOf,G]at s;obtain⟨Y,_,rfl⟩:=s;simp[AV.ids]at D
   |_=>intro z s j D;rw[G]at this;simp[cellsOf,G]at s;subst s;exact this j D
  refine Ov.new m l h F (by intro d k u;simpa[AV.ids]using u) t λJ d wJ=> ?_
  unfold execOp;rw[b];have M:(cellsOf (σ.eval x)).map (AV.conc β)=(a.eval x).cells.toList:=by rw[Cq,m.eval]
  simp only[Instr.box,AB,Rf,AA,AC,M,BH];simp only[AV.conc,wJ]
 .rename_i t x b;split at h
  .rename_i k off p;split at h
   .rename_i cs L;exact QY b p L h m l
   .cases h
  .cases h
 .rename_i t x y b;split at h
  .rename_i k off p;split at h
   .rename_i cs L;exact NN b p L h m l
   .cases h
  .cases h
 .rename_i t x f b;split at h
  .rename_i k off p;exact NS b p h m l
  .rename_i g off p;exact GK b p h m l
  .cases h
 .rename_i t x Z b;exact MP b h m l
 .rename_i x b;split at h
  .rename_i k off p;injection h with h;subst h;have E:=l.eval x;have B:=m.eval x;rw[p]at E B;refine Ov.pure m l E ?_;unfold execOp;rw[b];simp only[B,AV.conc];rfl
  .exact Ye h m l
 .rename_i g first caps b;split at h
  .rename_i c r wI A;injection h with h;subst h;obtain⟨Q,X⟩:=Ys (β:=β) A;refine Ov.pure m l ?_ ?_
   .intro k u;simp only[AV.ids]at u;obtain⟨q,G,rfl⟩:=AP.1 u;obtain⟨x,p,hi⟩:=X q G;obtain⟨y,_,rfl⟩:=AP.1 p;exact l.eval y _ hi
   .have T:first.map a.eval= #[]:=by
     have:first= #[]:=by simpa using wI
     rw[this];simp
    have U:caps.map a.eval=((c::r).map λc=>BI (some ⟨β c.1,c.2,none⟩)).toArray:=by
     rw[<-Q,BZ];apply Array.toList_inj.1;simp only[Array.toList_map,List.toList_toArray];exact AO λx _=>m.eval x
    unfold execOp;rw[b];simp only[T,U,AV.conc]
    rfl
  .exact Ye h m l
 .rename_i t len K b;split at h
  .rename_i elem S;split at h
   .rename_i n z R s;split at h
    .rename_i vs N;split at h
     .rename_i A;simp only[AE]at A;split at h
      .rename_i cells wI;exact KM b S R s N (AM A.1) (AM A.2) wI h m l
      .cases h
     .cases h
    .cases h
   .cases h
  .cases h
 .exact Ye h m l
end
def V2(σ:AS)(c:Call):Option (XU×List AV):=
 match c.callee with
 | .value f=>match σ.eval f with
  | .v (.func (.func g) first caps)=>some (g,first.toList.map .v++c.args.toList.map σ.eval++caps.toList.map .v)
  | .f g caps=>some (g,c.args.toList.map σ.eval++caps.map λq=> .p q.1 q.2)
  |_=>none
 |_=>none
def Jd(P:YH)(g:XU):Bool:=
 match P.funcs[g]? with
 |some fn=> !(fn.name== "runtime.NumGoroutine")&&fn.body.isSome
 |none=>false
def T8(P:YH)(o:XT)(σ:AS):Option (XU×List AV):=
 match o.op with
 | .call c=>match V2 σ c with
  |some (g,xs)=>if Jd P g then some (g,xs)else none
  |none=>none
 |_=>none
def Xn(c:Array XT)(σ:AS)(j:Nat):Option Bool:=
 match (c[j]?).bind (·.dst)with
 |some t=>match σ.tmps[t]? with
  |some (.v (.bool b))=>some b
  |_=>none
 |none=>none
def Kx(e:Array XT)(o:XT)(σ:AS):Bool:=
 match o.guard with
 |none=>true
 |some (j,c)=>match Xn e σ j with
  |some b=>b==c
  |none=>false
def Ua(P:YH)(b:Array XT)(o:XT)(σ:AS):Option B8:=
 if Kx b o σ then OZ P o σ else some ⟨.v undef,none⟩
def K4{X:Type}(w:YM)(val:X->YI)(G:X->YM->Prop)(e:XS)(f:YM):Prop:=
 ∃x,e= .returned (val x)/\Below w.heap.size w f/\∀c,f.heap.size<=c.heap.size->(∀b,w.heap.size<=b->b<f.heap.size->c.heap[b]? =f.heap[b]?)->G x c
def JG(β:Nat->Nat)(σ:AS)(xs:List AV)(w:YM):Prop:=
 ∀x∈xs,∀k∈x.ids,∀cs,σ.box k=some cs->∃ty,w.heap[β k]? =some (.cells (cs.map (AV.conc β)).toArray ty (0,0))
def M9{X:Type}(P:YH)(w:YM)(val:X->YI)(G:X->YM->Prop)(s:Sem Next):Prop:=
 ∃x e,s.run P w= .ok (.value (val x)) e/\Below w.heap.size w e/\∀c,e.heap.size<=c.heap.size->(∀b,w.heap.size<=b->b<e.heap.size->c.heap[b]? =e.heap[b]?)->G x c
structure Ei(L:List Nat)(w w':YM):Prop where
 os:w'.os=w.os
 tape:w'.tape=w.tape
 output:w'.output=w.output
 size:w.heap.size<=w'.heap.size
 block:∀k,k<w.heap.size->k∉L->w'.heap[k]? =w.heap[k]?
def L4{X:Type}(w:YM)(L:List Nat)(val:X->YI)(G:X->YM->Prop)(e:XS)(f:YM):Prop:=
 ∃x,e= .returned (val x)/\Ei L w f/\∀c,f.heap.size<=c.heap.size->(∀b,b∈L\/(w.heap.size<=b/\b<f.heap.size)->c.heap[b]? =f.heap[b]?)->G x c
def Mv{X:Type}(P:YH)(w:YM)(L:List Nat)(val:X->YI)(G:X->YM->Prop)(s:Sem Next):Prop:=
 ∃x e,s.run P w= .ok (.value (val x)) e/\Ei L w e/\∀c,e.heap.size<=c.heap.size->(∀b,b∈L\/(w.heap.size<=b/\b<e.heap.size)->c.heap[b]? =e.heap[b]?)->G x c
def ri{X:Type}(P:YH)(w:YM)(L:List Nat)(val:X->YI)(G:X->YM->Prop)(s:Sem Next):Prop:=
 ∃x e,val x=undef/\s.run P w= .ok .skip e/\Ei L w e/\∀c,e.heap.size<=c.heap.size->(∀b,b∈L\/(w.heap.size<=b/\b<e.heap.size)->c.heap[b]? =e.heap[b]?)->G x c
def Ub(W:YM)(L:List Nat)(Φ:YM->Prop):Prop:=∀w,Φ w->∀b∈L,W.heap.size<=b/\∃cs ty own,w.heap[b]? =some (.cells cs ty own)
def Tg(L:List Nat)(Φ G Φ':YM->Prop):Prop:=∀c w,c.heap.size=w.heap.size->(∀b,b∉L->c.heap[b]? =w.heap[b]?)->Φ c->G w->Φ' w
section
variable{Δ:List XY}{W:YM}{Φ Φ':YM->Prop}
theorem Ok.mut{β:Nat->Nat}{σ:AS}{a:Act}{w u:YM}{L:List Nat}{G:YM->Prop}(g:Ok Δ W β σ Φ a w)
 (A:Ub W L Φ)
 (l:Ei L w u) (F:∀c,u.heap.size<=c.heap.size->(∀b,b∈L\/(w.heap.size<=b/\b<u.heap.size)->c.heap[b]? =u.heap[b]?)->G c)
 (v:Tg L Φ G Φ'):Ok Δ W β σ Φ' a u:=by
 have s:∀k,(σ.box k).isSome=true->β k<w.heap.size:=λk h=>by
  obtain⟨cs,y⟩:=AL.1 h;obtain⟨_,ty,E⟩:=g.box k cs y;exact(AN.1 E).1
 have m:∀b∈L,W.heap.size<=b/\b<w.heap.size:=λb f=>by
  obtain⟨p,cs,ty,own,j⟩:=A w g.phi b f;exact⟨p,(AN.1 j).1⟩
 have D:∀k,(σ.box k).isSome=true->β k∉L:=λk h f=>by
  have p:=g.keep {w with heap:=w.heap.setIfInBounds (β k) (.pending #[] 0)} ⟨by simp,λb _ j z=>by
   rw[BA (z k h)]⟩
  obtain⟨_,cs,ty,own,j⟩:=A _ p _ f;rw[AW (s k h)]at j;cases j
 refine⟨g.tmps,g.defers,⟨l.os.trans g.bel.os,l.tape.trans g.bel.tape,l.output.trans g.bel.output,BE g.bel.size l.size,λk h=> ?_⟩,λk cs h=> ?_,g.inj,λc t=> ?_⟩
 .rw[l.block k (BC h g.bel.size) λf=>by have:=(m k f).1;omega];exact g.bel.block k h
 .have B:(σ.box k).isSome=true:=by rw[h];rfl
  obtain⟨p,ty,j⟩:=g.box k cs h;exact⟨p,ty,by rw[l.block _ (s k B) (D k B)];exact j⟩
 .refine v {c with heap:=c.heap.mapIdx λi o=>if i∈L then(w.heap[i]?).getD o else o} c Zs (λb f=> ?_) (g.keep _ ⟨?_,λb p j z=> ?_⟩) (F c t.size λb f=> ?_)
  .simp only[Array.getElem?_mapIdx,YT f];cases c.heap[b]? <;>rfl
  .simp only[Array.size_mapIdx];exact BE l.size t.size
  .simp only[Array.getElem?_mapIdx]
   by_cases f:b∈L
   .simp only[YS f];have x:b<c.heap.size:=BC j (BE l.size t.size);rw[Array.getElem?_eq_getElem x,Array.getElem?_eq_getElem j]
    rfl
   .simp only[YT f];rw[t.heap b p (BC j l.size) z,l.block b j f];cases w.heap[b]? <;>rfl
  .rcases f with f|⟨p,j⟩
   .exact t.heap b (m b f).1 (BC (m b f).2 l.size) λk h e=>D k h (e▸f)
   .exact t.heap b (BE g.bel.size p) j λk h e=>by have:=s k h;omega
end
def Ng(c:Array XT)(b:Array Bool):Prop:=
 ∀k o,c[k]? =some o->b.getD k false=true->∀e∈o.after,Region.binds .any e=true->b.getD e.on false=true
def Js(b:Array XT)(o:XT):Prop:=∀(i:Nat),b[i]? =some o->∀(listed:Array Bool) (j:Nat),Ng b listed->i∈Region.ready .any b listed->j∈Region.ready .any b listed->j=i
def cm(P:YH)(s:Sem Next)(v:YI)(w:YM):Prop:=s.run P w= .ok (.value v) w\/(v=undef/\s.run P w= .ok .skip w)
def Vp(b:Array XT)(o:XT):Bool:=o.op.operands.toList.all λx=>match x with
 | .tmp t=>b.toList.all λq=>q.dst !=some t
 |_=>true
def Gf(b:Array XT)(σ:AS)(t:Nat)(ok:XT):Bool:=(ok.dst==some t)&&(Vp b ok&& !(σ.plain ok.op))
def Qm(b:Array XT)(σ:AS)(o:XT):Bool:=match o.op with
 | .load _ (.tmp t)=>b.toList.any (Gf b σ t)
 | .binOp .add t _ _ _=>AU t 3
 | .binOp .sub t _ _ _=>AU t 3
 |_=>false
def WU:Op->Bool
 | .move _=>true
 |_=>false
theorem GI{b:Op}(h:∀x,b= .move x->False):WU b=false:=by
 cases b<;>first|rfl|exact(h _ rfl).elim
def Zx(b:Array XT)(o:XT)(σ:AS):Prop:=∀(i:Nat),b[i]? =some o->∀(listed:Array Bool) (j:Nat),Ng b listed->i∈Region.ready .any b listed->j∈Region.ready .any b listed->j=i\/∃c,b[j]? =some c/\((Vp b c=true/\σ.plain c.op=false)\/WU c.op=true\/Qm b σ c=true)
inductive kf [Rnd](P:YH)(W:YM)(ops:Array XT)(o:XT)(Z:List XV->(YM->Prop)->Prop)(K:AS->(YM->Prop)->Prop)(σ:AS)(Φ:YM->Prop):Prop
 |det (e:B8) (h:Ua P ops o σ=some e) (hK:K (σ.app o.dst e) Φ):kf P W ops o Z K σ Φ
 |call {X:Type} (g:XU) (xs:List AV) (val:X->YI) (G:X->YM->Prop) (hw:Kx ops o σ=true) (hc:T8 P o σ=some (g,xs))
  (hs:∀β w,Below W.heap.size W w->Φ w->JG β σ xs w->XW P g (xs.map (AV.conc β)).toArray w (K4 w val G)) (hK:∀x:X,K (σ.put o.dst (.v (val x))) (λw=>Φ w/\G x w)):kf P W ops o Z K σ Φ
 |ask (v:YI) (hw:Kx ops o σ=true) (hp:σ.plain o.op=true) (hns:∀cs b,o.op≠ .select cs b) (hmv:WU o.op=false) (hcb:Qm ops σ o=false) (hs:∀w,Below W.heap.size W w->Φ w->cm P (execOp σ.rho o) v w) (hK:K (σ.put o.dst (.v v)) Φ):kf P W ops o Z K σ Φ
 |make {X:Type} (val:X->YI) (G:X->YM->Prop) (hw:Kx ops o σ=true) (hp:σ.plain o.op=true) (hns:∀cs b,o.op≠ .select cs b)
  (hs:∀w,Below W.heap.size W w->Φ w->M9 P w val G (execOp σ.rho o)) (hK:∀x:X,K (σ.put o.dst (.v (val x))) (λw=>Φ w/\G x w)):kf P W ops o Z K σ Φ
 |mutm {X:Type} {L:List Nat} (val:X->YI) (G Φ':X->YM->Prop) (hl:Zx ops o σ) (hw:Kx ops o σ=true) (hp:σ.plain o.op=true) (hns:∀cs b,o.op≠ .select cs b)
  (hs:(∀w,Below W.heap.size W w->Φ w->Mv P w L val G (execOp σ.rho o)\/ri P w L val G (execOp σ.rho o))\/(∃g xs vs,T8 P o σ=some (g,xs)/\Cv xs=some vs/\∀w,Below W.heap.size W w->Φ w->XW P g vs.toArray w (L4 w L val G))) (hL:Ub W L Φ) (hΦ:∀x,Tg L Φ (G x) (Φ' x)) (hK:∀x:X,K (σ.put o.dst (.v (val x))) (Φ' x)):kf P W ops o Z K σ Φ
 |pan {L:List Nat} (ch:List XV) (Φ':YM->Prop) (g:XU) (xs:List AV) (vs:List YI) (hl:Zx ops o σ) (hw:Kx ops o σ=true) (hp:σ.plain o.op=true) (hc:T8 P o σ=some (g,xs)) (hv:Cv xs=some vs)
  (hs:∀w,Below W.heap.size W w->Φ w->XW P g vs.toArray w (λe w'=>e= .panicked ch/\Ei L w w')) (hL:Ub W L Φ) (hΦ:Tg L Φ (λ_=>True) Φ') (hZ:Z ch Φ'):kf P W ops o Z K σ Φ
 |lone (hl:Js ops o) (hs:∀(Δ:List XY) (β:Nat->Nat) (a:Act) (w:YM) (Q:Exit->Act->YM->Prop) (i:Nat) (K':Act->YM->Prop),ops[i]? =some o->Ok Δ W β σ Φ a w->σ.wf->
  (∀β' σ' Φ' a' w',K σ' Φ'->Ok Δ W β' σ' Φ' a' w'->σ'.wf->K' a' w')->wpOpIn Fe 0 P ops Q i K' a w):kf P W ops o Z K σ Φ
section
variable{P:YH}{Δ:List XY}{W:YM}{β:Nat->Nat}{σ:AS}{Φ:YM->Prop}{a:Act}{w:YM}{o:XT}{e:B8}{ops:Array XT}{Q:Exit->Act->YM->Prop}
theorem M3(c:Ok Δ W β σ Φ a w):Region.wanted o (yielded ops a.tmps)=Kx ops o σ:=by
 unfold Region.wanted Kx;cases f:o.guard with
 |none=>rfl
 | some q=>
  obtain⟨j,b⟩:=q;simp only;unfold yielded Xn;cases g:(ops[j]?).bind (·.dst)with
  |none=>simp
  | some t=>
   have e:a.tmps[t]? =(σ.tmps.map (AV.conc β))[t]? :=by rw[<-c.tmps];simp
   simp only[AK,e,AZ];cases σ.tmps[t]? with
   |none=>simp
   |some y=>
    cases y with
    |v x=>cases x<;>simp[AV.conc]
    |_=>simp[AV.conc]
theorem Bu(g:XU)(args:Array YI)(h:Jd P g=true)(w:YM):(callFunc g args).run P w= .ok (.enter g args) w:=by
 unfold Jd at h;cases b:P.funcs[g]? with
 |none=>rw[b]at h;cases h
 | some fn=>
  rw[b]at h;simp only[AE,BP]at h;have f:fn.body.isNone=false:=by
   cases j:fn.body with
   |none=>rw[j]at h;cases h.2
   |some c=>rfl
  simp only[callFunc,AB,run_program,AA,b,h.1,f,BB,if_false,AC]
theorem Cx{g:XU}{xs:List AV}(h:T8 P o σ=some (g,xs))(v:Ok Δ W β σ Φ a w):(execOp a.eval o).run P w= .ok (.enter g (xs.map (AV.conc β)).toArray) w:=by
 unfold T8 at h;split at h
 .rename_i c p;split at h
  .rename_i z y b;split at h
   .rename_i j;injection h with h;injection h with h1 h2;subst h1;subst h2;have k:c.args.map a.eval=((c.args.toList.map σ.eval).map (AV.conc β)).toArray:=by
     apply Array.toList_inj.1;simp only[Array.toList_map,BZ];exact AO λx _=>v.eval x
    unfold V2 at b;split at b
    .rename_i f u;have m:=v.eval f;split at b
     .rename_i s first caps t;injection b with b;injection b with h1 h2;subst h1;subst h2;rw[t]at m;have l:resolve a.eval c o.type=pure {target:= .fn (.func s) caps,args:=first++c.args.map a.eval}:=by
       unfold resolve;rw[u];simp only[m,AV.conc,Deferred.ofValue]
      unfold execOp;rw[p];simp only[l,AB,AC,AA,invoke,Bu _ _ j];congr 2;rw[k];apply Array.toList_inj.1;simp[AV.conc,AY]
     .rename_i s caps t;injection b with b;injection b with h1 h2;subst h1;subst h2;rw[t]at m;have l:resolve a.eval c o.type=pure {target:= .fn (.func s) (caps.map λc=>BI (some ⟨β c.1,c.2,none⟩)).toArray,args:= #[]++c.args.map a.eval}:=by
       unfold resolve;rw[u];simp only[m,AV.conc,Deferred.ofValue]
      unfold execOp;rw[p];simp only[l,AB,AC,AA,invoke,Bu _ _ j];congr 2;rw[k];apply Array.toList_inj.1;simp[AV.conc,AY]
     .cases b
    .cases b
   .cases h
  .cases h
 .cases h
theorem Ok.call(f:Ok Δ W β σ Φ a w){p:YM}{G:YM->Prop}(m:Below w.heap.size w p)
 (z:∀c,p.heap.size<=c.heap.size->(∀b,w.heap.size<=b->b<p.heap.size->c.heap[b]? =p.heap[b]?)->G c):Ok Δ W β σ (λw=>Φ w/\G w) a p:=by
 have l:∀k,(σ.box k).isSome=true->β k<w.heap.size:=λk g=>by
  obtain⟨u,h⟩:=AL.1 g;obtain⟨_,A,y⟩:=f.box k u h;exact(AN.1 y).1
 refine⟨f.tmps,f.defers,f.bel.trans (m.mono f.bel.size),λk cs g=> ?_,f.inj,λc s=>⟨f.keep c ⟨BE m.size s.size,λb x j g=> ?_⟩,z c s.size λb t v=>s.heap b (BE f.bel.size t) v λk g e=> ?_⟩⟩
 .obtain⟨t,ty,v⟩:=f.box k cs g;exact⟨t,ty,by rw[m.block _ (l k (by rw[g];rfl))];exact v⟩
 .rw[s.heap b x (BC j m.size) g,m.block b j]
 .have:=l k g;omega
theorem B5 [Rnd]{i:Nat}{Z:List XV->(YM->Prop)->Prop}{KA:AS->(YM->Prop)->Prop}{K:Act->YM->Prop}(h:kf P W ops o Z KA σ Φ)(H:ops[i]? =some o)(c:Ok Δ W β σ Φ a w)(j:σ.wf)(hZ:∀S B σ' Φ' wJ y,Z S Φ'->Ok Δ W B σ' Φ' wJ y->σ'.wf->Q (.panic S) wJ y)
 (A:∀B σ' Φ' wJ y,KA σ' Φ'->Ok Δ W B σ' Φ' wJ y->σ'.wf->K wJ y):wpOpIn Fe 0 P ops Q i K a w:=by
 cases h with
 |lone Y p=>exact p Δ β a w Q i K H c j A
 | det e h f=>
  unfold wpOpIn;simp only[H,M3 c];unfold Ua at h;split at h
  .rename_i u;simp only[u,if_true];obtain⟨E,B,nx,y,b,X,F⟩:=oo h c j;rcases X with rfl|⟨rfl,hu⟩
   .refine Zy b Zs ?_;exact A _ _ _ _ _ f F E
   .rw[hu]at F;refine Zy b Zs ?_;exact A _ _ _ _ _ f F E
  .rename_i u;simp only[u,if_false];injection h with h;subst h;refine⟨λ_ _=>trivial,A β _ _ _ _ f ?_ ?_⟩
   .rw[uL];exact Ok.put (σ:=⟨σ.tmps,σ.box⟩) c o.dst (.v undef)
   .rw[uL];exact AS.wf.put (σ:=⟨σ.tmps,σ.box⟩) j o.dst (by intro k f;simp[AV.ids]at f)
 |call g xs val G u J p f=>
  unfold wpOpIn;simp only[H,M3 c];simp only[u,if_true];refine Da (Cx J c) ?_;refine Calls.mono (p β w c.bel c.phi λx _ k _ cs T=>(c.box k cs T).2) λe y L=> ?_
  obtain⟨x,rfl,U,D⟩:=L;exact A β _ _ _ _ (f x) ((c.call U D).put o.dst (.v (val x))) (j.put _ (by intro k f;simp[AV.ids]at f))
 | ask v u wI m hmv hcb p f=>
  unfold wpOpIn;simp only[H,M3 c];simp only[u,if_true];have l:∀x∈o.op.operands,a.eval x=σ.rho x:=λx N=>by
   rw[c.eval,uF];· rfl
   exact AD.1 wI x (by simpa using N)
  rcases p w c.bel c.phi with b|⟨rfl,b⟩
  .refine Zy ((congrArg (λs=>s.run P w) (execOp_congr o m l)).trans b) Zs ?_;exact A β _ _ _ _ f (c.put o.dst (.v v)) (j.put _ (by intro k f;simp[AV.ids]at f))
  .refine Zy ((congrArg (λs=>s.run P w) (execOp_congr o m l)).trans b) Zs ?_;exact A β _ _ _ _ f (c.put o.dst (.v undef)) (j.put _ (by intro k f;simp[AV.ids]at f))
 |pan S Φ2 g xs vs Y u wI J R p M z hz=>
  unfold wpOpIn;simp only[H,M3 c];simp only[u,if_true];refine Da (Cx J c) ?_;rw[Qp R];refine Calls.mono (p w c.bel c.phi) λe y L=> ?_
  obtain⟨rfl,t⟩:=L;exact hZ S β σ Φ2 a y hz (c.mut M t (λ_ _ _=>trivial) z) j
 | mutm val G Φ2 Y u wI m p M z f=>
  unfold wpOpIn;simp only[H,M3 c];simp only[u,if_true];have l:∀x∈o.op.operands,a.eval x=σ.rho x:=λx N=>by
   rw[c.eval,uF];· rfl
   exact AD.1 wI x (by simpa using N)
  rcases p with p|⟨g,xs,vs,J,R,p⟩
  .rcases p w c.bel c.phi with ⟨x,y,b,t,D⟩|⟨x,y,R,b,t,D⟩
   .refine Zy ((congrArg (λs=>s.run P w) (execOp_congr o m l)).trans b) Zs ?_;exact A β _ _ _ _ (f x) ((c.mut M t D (z x)).put o.dst (.v (val x))) (j.put _ (by intro k f;simp[AV.ids]at f))
   .refine Zy ((congrArg (λs=>s.run P w) (execOp_congr o m l)).trans b) Zs ?_;have h2:=A β _ _ _ _ (f x) ((c.mut M t D (z x)).put o.dst (.v (val x))) (j.put _ (by intro k f;simp[AV.ids]at f));rw[R]at h2;exact h2
  .refine Da (Cx J c) ?_;rw[Qp R];refine Calls.mono (p w c.bel c.phi) λe y L=> ?_
   obtain⟨x,rfl,t,D⟩:=L;exact A β _ _ _ _ (f x) ((c.mut M t D (z x)).put o.dst (.v (val x))) (j.put _ (by intro k f;simp[AV.ids]at f))
 | make val G u wI m p f=>
  unfold wpOpIn;simp only[H,M3 c];simp only[u,if_true];have l:∀x∈o.op.operands,a.eval x=σ.rho x:=λx N=>by
   rw[c.eval,uF];· rfl
   exact AD.1 wI x (by simpa using N)
  obtain⟨x,y,b,U,D⟩:=p w c.bel c.phi;refine Zy ((congrArg (λs=>s.run P w) (execOp_congr o m l)).trans b) Zs ?_;exact A β _ _ _ _ (f x) ((c.call U D).put o.dst (.v (val x))) (j.put _ (by intro k f;simp[AV.ids]at f))
end
def Ee [Rnd](P:YH)(W:YM)(c:Array XT)(Z:List XV->(YM->Prop)->Prop)(K:AS->(YM->Prop)->Prop):Nat->Array Bool->AS->(YM->Prop)->Prop
 |0,b,σ,Φ=>Region.ready .any c b=[]/\K σ Φ
 |fuel+1,b,σ,Φ=>(Region.ready .any c b=[]->K σ Φ)/\
  ∀i∈Region.ready .any c b,∃o,c[i]? =some o/\kf P W c o Z (Ee P W c Z K fuel (b.setIfInBounds i true)) σ Φ
theorem TR [Rnd]{P:YH}{e:Array XT}{Δ:List XY}{W:YM}{Q:Exit->Act->YM->Prop}{Z:List XV->(YM->Prop)->Prop}{K:AS->(YM->Prop)->Prop}
 (s:∀p β σ Φ a w,Z p Φ->Ok Δ W β σ Φ a w->σ.wf->Q (.panic p) a w) (m:∀β σ Φ a w,K σ Φ->Ok Δ W β σ Φ a w->σ.wf->Q .normal a w):∀(fuel:Nat) (b:Array Bool) (σ:AS) (Φ:YM->Prop) (β:Nat->Nat) (a:Act) (w:YM),
 Ee P W e Z K fuel b σ Φ->Ok Δ W β σ Φ a w->σ.wf->wpAnyIn Fe 0 P .any e Q fuel b a w
 |0,b,σ,Φ,β,a,w,h,g,c=>⟨h.1,m β σ Φ a w h.2 g c⟩
 |fuel+1,b,σ,Φ,β,a,w,h,g,c=>by
  refine⟨λu=>m β σ Φ a w (h.1 u) g c,λi hi=> ?_⟩;obtain⟨o,v,l⟩:=h.2 i hi;exact B5 l v g c s λj σ' Φ' x y t k f=>TR s m fuel _ σ' Φ' j x y t k f
theorem Ng.set_{c:Array XT}{b:Array Bool}{j:Nat}{p:XT}(h:Ng c b)(u:c[j]? =some p)(g:∀e∈p.after,Region.binds .any e=true->b.getD e.on false=true):
 Ng c (b.setIfInBounds j true):=by
 intro k o l s e m t
 by_cases f:j=k
 .subst f;rw[u]at l;injection l with l;subst l;exact getD_set_true (g e m t)
 .rw[getD_set_ne false f]at s;exact getD_set_true (h k o l s e m t)
theorem v_(c:Array XT)(n:Nat):Ng c (CB n false):=by
 intro k o e b;rw[BF,Array.getElem?_replicate]at b;split at b<;>simp at b
def o4(b:Array XT):Prop:=
 ∀i j f c,b[i]? =some f->b[j]? =some c->i≠j->∀d,f.dst=some d->c.dst≠some d/\(d∈c.looksAt b->(∃e∈c.after,Region.binds .any e=true/\e.on=i)\/∃e∈f.after,Region.binds .any e=true/\e.on=j)
def rX(b:Array XT):Bool:=
 b.toList.zipIdx.all λq=>b.toList.zipIdx.all λr=>AU r.2 q.2||(match r.1.dst with
  |some d=>(match q.1.dst with|some d'=> !AU d d'|none=>true)&&(!(q.1.looksAt b).contains d||(q.1.after.toList.any λe=>AU e.on r.2&&Region.binds .any e)||r.1.after.toList.any λe=>AU e.on q.2&&Region.binds .any e)
  |none=>true)
theorem bB{b:Array XT}(h:rX b=true):o4 b:=by
 intro i j m t hi o k d u;have s:(m,i)∈b.toList.zipIdx:=by
  rw[AX];simpa using hi
 have p:(t,j)∈b.toList.zipIdx:=by
  rw[AX];simpa using o
 have f:=AD.1 (AD.1 h _ p) _ s;simp only[u,CC,BQ,AE]at f;rcases f with f|⟨f,c⟩
 .exact absurd f k
 .refine⟨λe=> ?_,λv=> ?_⟩
  .rw[e]at f;simp at f
  .rcases c with (c|c)|c
   .simp only[BP,List.contains_eq_mem,decide_eq_false_iff_not]at c;exact absurd v c
   .obtain⟨e,l,g⟩:=BR.1 c;simp only[AE,BQ]at g;exact .inl ⟨e,by simpa using l,g.2,g.1⟩
   .obtain⟨e,l,g⟩:=BR.1 c;simp only[AE,BQ]at g;exact .inr ⟨e,by simpa using l,g.2,g.1⟩
def pd:AV->Option Nat
 | .p k _=>some k
 |_=>none
def X7(o:XT)(σ:AS):Option Nat:=
 match o.op with
 | .load _ x=>pd (σ.eval x)
 | .store _ x _=>pd (σ.eval x)
 | .alloc _=>o.dst
 | .box _ _=>o.dst
 | .buildSlice _ _ _=>o.dst
 |_=>none
theorem ut{σ:AS}{d:Option Tmp}{v:AV}{x:XZ}(h:∀t,d=some t->x≠ .tmp t):(σ.put d v).eval x=σ.eval x:=by
 cases d with
 |none=>rfl
 | some t=>
  cases x with
  |tmp u=>
   have b:t≠u:=λe=>h t rfl (e▸rfl)
   simp[AS.eval,AS.put,List.getElem?_set_ne b]
  |_=>rfl
theorem uI{σ:AS}{d:Option Tmp}{e:B8}{x:XZ}(h:∀t,d=some t->x≠ .tmp t):(σ.app d e).eval x=σ.eval x:=by
 rw[uL];rw[ut h];cases x<;>rfl
theorem Of{b:Array XT}{o:XT}{d:Option Tmp}(h:∀t,d=some t->t∉o.looksAt b){x:XZ}(c:x∈o.op.operands):∀t,d=some t->x≠ .tmp t:=by
 intro t f e;subst e;exact h t f (List.mem_append_left _ (List.mem_filterMap.2 ⟨.tmp t,by simpa using c,rfl⟩))
theorem N6{b:Array XT}{c ok:XT}{i:Nat}(hi:b[i]? =some c)(h:Vp b ok=true)(y:XZ)(j:y∈ok.op.operands):∀t,c.dst=some t->y≠ .tmp t:=by
 intro t g e;subst e;have k:=AD.1 h (.tmp t) (by simpa using j);have f:=AD.1 k c (BG (by rw[Array.getElem?_toList];exact hi));rw[g]at f;simp at f
theorem Me{o:Op}{σ σ':AS}(h:∀x∈o.operands,σ'.eval x=σ.eval x):σ'.plain o=σ.plain o:=by
 unfold AS.plain;rw[Bool.eq_iff_iff,AD,AD];constructor
 .intro H x b;rw[<-h x (by simpa using b)];exact H x b
 .intro H x b;rw[h x (by simpa using b)];exact H x b
section
variable{P:YH}{o:XT}{σ σ':AS}
theorem Nh{b:Array XT}{σ σ':AS}(h:∀ok,Vp b ok=true->∀x∈ok.op.operands,σ'.eval x=σ.eval x)(o:XT):Qm b σ' o=Qm b σ o:=by
 have e:∀t,Gf b σ' t=Gf b σ t:=λt=>funext λok=>by
  unfold Gf;cases c:Vp b ok with
  |false=>rfl
  |true=>rw[Me (h ok c)]
 unfold Qm;split
 .rw[e]
 .rfl
 .rfl
 .rfl
theorem Iz(h:∀x∈o.op.operands,σ'.eval x=σ.eval x):P5 P o σ'=P5 P o σ:=by
 unfold P5;rw[Me h];split
 .split
  .rfl
  .rename_i f;have c:∀x∈o.op.operands,σ'.rho x=σ.rho x:=λx g=>by unfold AS.rho;rw[h x g]
   rw[execOp_congr o (λcs b e=>f cs b e) c]
 .rfl
theorem Rh(h:∀x∈o.op.operands,σ'.eval x=σ.eval x)(g:∀k,X7 o σ=some k->σ'.box k=σ.box k):OZ P o σ'=OZ P o σ:=by
 unfold OZ;have l:=Iz (P:=P) h;cases b:o.op with
 |move x=>simp only;rw[h x (by simp[b,Op.operands])]
 |assign x=>simp only;rw[h x (by simp[b,Op.operands])]
 | alloc t=>
  simp only;split
  .unfold Qk;split
   .rename_i d m;rw[g d (by unfold X7;rw[b];exact m)]
   .rfl
  .rfl
 |box t x=>
  simp only;rw[h x (by simp[b,Op.operands])];unfold Qk;split
  .rename_i d m;rw[g d (by unfold X7;rw[b];exact m)]
  .rfl
 |load t x=>
  simp only;rw[h x (by simp[b,Op.operands])];split
  .rename_i k off j;rw[g k (by unfold X7;rw[b];simp only[j,pd])]
  .rfl
 |store t x y=>
  simp only;rw[h x (by simp[b,Op.operands]),h y (by simp[b,Op.operands])];split
  .rename_i k off j;rw[g k (by unfold X7;rw[b];simp only[j,pd])]
  .rfl
 |fieldAddr t x f=>simp only;rw[h x (by simp[b,Op.operands])]
 |indexAddr t x s=>simp only;rw[h x (by simp[b,Op.operands]),h s (by simp[b,Op.operands])]
 |nilCheck x=>simp only;rw[h x (by simp[b,Op.operands]),l]
 |makeFunc fn first caps=>
  have e:caps.toList.map σ'.eval=caps.toList.map σ.eval:=AO λx j=>h x (by simp[b,Op.operands];exact .inr (by simpa using j))
  cases fn<;>simp only[e,l]
 | buildSlice t len c=>
  have e:(c.toList.map λp=>σ'.eval p.2)=c.toList.map λp=>σ.eval p.2:=AO λp l=>h p.2 (by
   rw[b];simp only[Op.operands];exact List.mem_toArray.2 (AP.2 ⟨p,l,rfl⟩))
  simp only[e]
  (repeat' split)<;>first|rfl|(unfold Qk;split<;>first|rfl|(rename_i d m;rw[g d (by unfold X7;rw[b];exact m)]))
 |_=>simp only;exact l
theorem Je{c:Call}(h:∀x∈c.operands,σ'.eval x=σ.eval x):V2 σ' c=V2 σ c:=by
 unfold V2;split
 .rename_i f b;rw[h f (by simp[Call.operands,b])];have e:c.args.toList.map σ'.eval=c.args.toList.map σ.eval:=AO λx g=>h x (by simp[Call.operands,b];exact .inr (by simpa using g))
  rw[e]
 .rfl
theorem Tv(h:∀x∈o.op.operands,σ'.eval x=σ.eval x):T8 P o σ'=T8 P o σ:=by
 unfold T8;split
 .rename_i c b;rw[Je λx e=>h x (by rw[b];exact e)]
 .rfl
theorem Mw{b:Array XT}{d:Option Tmp}{v:AV}(h:∀t,d=some t->t∉o.looksAt b):Kx b o (σ.put d v)=Kx b o σ:=by
 cases d with
 |none=>rfl
 | some t=>
  unfold Kx;cases g:o.guard with
  |none=>rfl
  | some q=>
   obtain⟨j,f⟩:=q;have l:Xn b (σ.put (some t) v) j=Xn b σ j:=by
    unfold Xn;cases k:(b[j]?).bind (·.dst)with
    |none=>rfl
    |some u=>
     have c:t≠u:=λe=>h t rfl (by subst e;simp[Oper.looksAt,g,k])
     simp[AS.put,List.getElem?_set_ne c]
   simp only[l]
theorem Xq{b:Array XT}{d:Option Tmp}{e:B8}(h:∀t,d=some t->t∉o.looksAt b):Kx b o (σ.app d e)=Kx b o σ:=by
 rw[uL,Mw h];rfl
theorem JM{e:B8}{k:Nat}{cs:List AV}(h:OZ P o σ=some e)(b:e.wr=some (k,cs)):
 (∃t x y off,o.op= .store t x y/\σ.eval x= .p k off)\/(o.dst=some k/\σ.box k=none/\((∃t,o.op= .alloc t)\/(∃t x,o.op= .box t x)\/(∃t n ps,o.op= .buildSlice t n ps))):=by
 have j:∀{e:B8},P5 P o σ=some e->e.wr=none:=λ{e} h=>by
  unfold P5 at h;split at h
  .split at h
   .cases h
   .split at h
    .injection h with h;subst h;rfl
    .cases h
  .cases h
 have c:∀{e:B8} {m:List AV} {x:Nat->AV},Qk σ o.dst m x=some e->e.wr=some (k,cs)->o.dst=some k/\σ.box k=none:=λ{e m x} h b=>by
  unfold Qk at h;split at h
  .rename_i d z;split at h
   .cases h
   .rename_i v;injection h with h;subst h;simp only[AF,AQ]at b;rw[<-b.1];exact⟨z,v⟩
  .cases h
 unfold OZ at h;cases u:o.op<;>simp only[u]at h
 case move x=>injection h with h;subst h;cases b
 case assign x=>injection h with h;subst h;cases b
 case alloc t=>
  split at h
  .obtain⟨l,s⟩:=c h b;exact .inr ⟨l,s,.inl ⟨_,rfl⟩⟩
  .cases h
 case box t x=>obtain⟨l,s⟩:=c h b;exact .inr ⟨l,s,.inr (.inl ⟨_,_,rfl⟩)⟩
 case load t x=>
  split at h
  .split at h
   .unfold Vr at h;exfalso
    (repeat' split at h)<;>first|(cases h;done)|(injection h with h;subst h;cases b)
   .cases h
  .cases h
 case store t x y=>
  split at h
  .rename_i A off w;split at h
   .unfold Yd at h
    (repeat' split at h)<;>first|(cases h;done)|skip
    injection h with h;subst h;simp only[AF,AQ]at b;rw[<-b.1];exact .inl ⟨t,x,y,off,rfl,w⟩
   .cases h
  .cases h
 case fieldAddr t x f=>
  split at h
  .unfold Rw at h;exfalso
   (repeat' split at h)<;>first|(cases h;done)|(injection h with h;subst h;cases b)
  .unfold Uw at h;exfalso
   (repeat' split at h)<;>first|(cases h;done)|(injection h with h;subst h;cases b)
  .cases h
 case indexAddr t x ix=>
  unfold Yf at h;exfalso
  (repeat' split at h)<;>first|(cases h;done)|(injection h with h;subst h;cases b)
 case nilCheck x=>
  split at h
  .injection h with h;subst h;cases b
  .rw[j h]at b;cases b
 case makeFunc fn first caps=>
  cases fn<;>simp only at h
  case func g=>
   split at h
   .injection h with h;subst h;cases b
   .rw[j h]at b;cases b
  all_goals (rw[j h]at b;cases b)
 case buildSlice t n ps=>
  (repeat' split at h)<;>first|(cases h;done)|skip
  obtain⟨l,s⟩:=c h b;exact .inr ⟨l,s,.inr (.inr ⟨_,_,_,rfl⟩)⟩
 all_goals (rw[j h]at b;cases b)
end
def kY(c:Array XT)(b:Array Bool)(y:XZ):Prop:=
 ∀(m:Nat) (om:XT),c[m]? =some om->b.getD m true=false->∀d,om.dst=some d->y≠ .tmp d
def D5(c:Array XT)(b:Array Bool)(σ:AS)(k:Nat)(y:XZ):Prop:=
 kY c b y/\∀e off,σ.eval y= .p e off->e≠k
def KT(e:Array XT)(D:Nat->Bool)(b:Array Bool)(σ:AS)(i:Nat)(g:XT):Prop:=
 ∀(j:Nat) (oj:XT),e[j]? =some oj->j≠i->b.getD j true=false->D j=false->
  (∀t x k off,g.op= .load t x->σ.eval x= .p k off->∀f y z,oj.op= .store f y z->D5 e b σ k y)/\
  (∀t x z k off,g.op= .store t x z->σ.eval x= .p k off->(∀f y z',oj.op= .store f y z'->D5 e b σ k y)/\(∀f y,oj.op= .load f y->D5 e b σ k y)/\∀c,oj.op≠ .call c)
theorem Tt{b:Array Bool}{j m:Nat}(h:(b.setIfInBounds j true).getD m true=false):b.getD m true=false/\m≠j:=by
 by_cases e:j=m
 .subst e;rw[BF,Array.getElem?_setIfInBounds]at h;rcases BN j b.size with c|c
  .simp[c]at h
  .simp[Nat.not_lt.2 c]at h
 .rw[getD_set_ne true e]at h;exact⟨h,λf=>e f.symm⟩
theorem D5.next{c:Array XT}{b:Array Bool}{σ σ':AS}{k:Nat}{y:XZ}{j:Nat}(h:D5 c b σ k y)(g:(∀m e,c[m]? =some e->b.getD m true=false->∀d,e.dst=some d->y≠ .tmp d)->σ'.eval y=σ.eval y):
 D5 c (b.setIfInBounds j true) σ' k y:=
 ⟨λm e s o d p=>h.1 m e s (Tt o).1 d p,λl off f=>h.2 l off (by rw[<-g h.1];exact f)⟩
theorem KT.next{c:Array XT}{D:Nat->Bool}{b:Array Bool}{σ σ':AS}{i:Nat}{o:XT}(h:KT c D b σ i o){j:Nat}{u:XT}(B:c[j]? =some u)(E:b.getD j true=false)
 (w:∀x,(∀d,u.dst=some d->x≠ .tmp d)->σ'.eval x=σ.eval x) (hi:∀x∈o.op.operands,σ'.eval x=σ.eval x):KT c D (b.setIfInBounds j true) σ' i o:=by
 have step:∀{k:Nat} {y:XZ},D5 c b σ k y->D5 c (b.setIfInBounds j true) σ' k y:=λA=>A.next λF=>w _ λd M=>F j u B E d M
 intro m G N s l H;obtain⟨v,K⟩:=h m G N s (Tt l).1 H;refine⟨λt x k off e p g y z f=>step (v t x k off e (by rw[<-hi x (by simp[e,Op.operands])];exact p) g y z f),λt x z k off e p=> ?_⟩;obtain⟨Z,L,J⟩:=K t x z k off e (by rw[<-hi x (by simp[e,Op.operands])];exact p);exact⟨λg y z' f=>step (Z g y z' f),λg y f=>step (L g y f),J⟩
theorem eH(b:Nat->Option (List AV)){k j:Nat}(cs f:List AV)(h:k≠j):OG (OG b k cs) j f=OG (OG b j f) k cs:=by
 funext x
 by_cases c:x=k
 .subst c;rw[S4 _ _ h,Qw,Qw]
 .by_cases e:x=j
  .subst e;rw[Qw,S4 _ _ c,Qw]
  .rw[S4 _ _ e,S4 _ _ c,S4 _ _ c,S4 _ _ e]
theorem uZ(σ:AS){d d':Option Tmp}(x y:AV)(h:∀t,d=some t->d'≠some t):(σ.put d x).put d' y=(σ.put d' y).put d x:=by
 cases d with
 |none=>rfl
 | some t=>
  cases d' with
  |none=>rfl
  |some u=>
   have b:t≠u:=λe=>h t rfl (e▸rfl)
   simp[AS.put,List.set_comm _ _ b]
theorem QM(b:Nat->Option (List AV)){x y:Option (Nat×List AV)}(h:∀k cs c,x=some (k,cs)->y≠some (k,c)):Xp (Xp b x) y=Xp (Xp b y) x:=by
 cases x with
 |none=>rfl
 | some p=>
  cases y with
  |none=>rfl
  |some q=>
   obtain⟨k,cs⟩:=p;obtain⟨j,c⟩:=q;exact eH b cs c λe=>h k cs c rfl (by rw[e])
theorem vy(σ:AS){d d':Option Tmp}{x y:B8}(h:∀t,d=some t->d'≠some t)(b:∀k cs c,x.wr=some (k,cs)->y.wr≠some (k,c)):(σ.app d x).app d' y=(σ.app d' y).app d x:=by
 have e:((σ.put d x.val).put d' y.val).tmps=((σ.put d' y.val).put d x.val).tmps:=by rw[uZ σ _ _ h]
 simp only[AS.app];congr 1
 .cases d<;>cases d'<;>first|rfl|exact e
 .exact QM _ b
theorem uX(σ:AS){d d':Option Tmp}{x:B8}{v:AV}(h:∀t,d=some t->d'≠some t):(σ.app d x).put d' v=(σ.put d' v).app d x:=by
 have e:=vy σ (d:=d) (d':=d') (x:=x) (y:=⟨v,none⟩) h (by intro k cs b _ h;cases h);cases d' with
 |none=>rfl
 |some t=>exact e
theorem Gm{b:Nat->Option (List AV)}{k:Nat}{x:Option (Nat×List AV)}(h:∀cs,x≠some (k,cs)):Xp b x k=b k:=by
 cases x with
 |none=>rfl
 |some p=>
  obtain⟨j,cs⟩:=p;exact S4 _ _ λe=>h cs (by rw[e])
theorem QD{b:Nat->Option (List AV)}{k:Nat}{x:Option (Nat×List AV)}(h:(b k).isSome=true):(Xp b x k).isSome=true:=by
 cases x with
 |none=>exact h
 |some p=>exact Be h
theorem F0{P:YH}{o:XT}{σ:AS}{e:B8}{k:Nat}(h:OZ P o σ=some e)(f:o.dst=some k)(b:(∃t,o.op= .alloc t)\/(∃t x,o.op= .box t x)\/(∃t n ps,o.op= .buildSlice t n ps)):σ.box k=none:=by
 have c:∀{cs:List AV} {v:Nat->AV} {e:B8},Qk σ o.dst cs v=some e->σ.box k=none:=λ{cs v e} h=>by
  unfold Qk at h;rw[f]at h;simp only at h;split at h
  .cases h
  .assumption
 unfold OZ at h;rcases b with ⟨t,b⟩|⟨t,x,b⟩|⟨t,n,ps,b⟩<;>simp only[b]at h
 .split at h
  .exact c h
  .cases h
 .exact c h
 ·(repeat' split at h)<;>first|(cases h;done)|exact c h
theorem Dl{o:XT}{σ:AS}{k:Nat}(h:X7 o σ=some k):
 (∃t x off,o.op= .load t x/\σ.eval x= .p k off)\/(∃t x y off,o.op= .store t x y/\σ.eval x= .p k off)\/
 (o.dst=some k/\((∃t,o.op= .alloc t)\/(∃t x,o.op= .box t x)\/(∃t n ps,o.op= .buildSlice t n ps))):=by
 have e:∀{x:AV},pd x=some k->∃off,x= .p k off:=λ{x} h=>by
  cases x<;>simp[pd]at h
  subst h;exact⟨_,rfl⟩
 unfold X7 at h;split at h
 .rename_i t x b;obtain⟨off,c⟩:=e h;exact .inl ⟨t,x,off,b,c⟩
 .rename_i t x y b;obtain⟨off,c⟩:=e h;exact .inr (.inl ⟨t,x,y,off,b,c⟩)
 .rename_i t b;exact .inr (.inr ⟨h,.inl ⟨t,b⟩⟩)
 .rename_i t x b;exact .inr (.inr ⟨h,.inr (.inl ⟨t,x,b⟩)⟩)
 .rename_i t n ps b;exact .inr (.inr ⟨h,.inr (.inr ⟨t,n,ps,b⟩)⟩)
 .cases h
theorem P9{σ:AS}(b:σ.wf){x:XZ}{k off:Nat}(h:σ.eval x= .p k off):(σ.box k).isSome=true:=b.eval x k (by rw[h];simp[AV.ids])
theorem QP{σ:AS}{d:Option Tmp}{e:B8}(b:σ.wf)(c:∀k∈e.val.ids,(Xp σ.box e.wr k).isSome=true)
 (g:∀k cs,e.wr=some (k,cs)->∀x∈cs,∀j∈x.ids,(σ.box j).isSome=true):(σ.app d e).wf:=by
 rw[uL];refine AS.wf.put ?_ d c;cases f:e.wr with
 |none=>exact b
 |some p=>exact b.wr (g p.1 p.2 f)
theorem oH{P:YH}{o:XT}{σ:AS}{e:B8}(h:OZ P o σ=some e)(b:σ.wf):(σ.app o.dst e).wf:=by
 have pure:∀{v:AV},(∀k∈v.ids,(σ.box k).isSome=true)->(σ.app o.dst ⟨v,none⟩).wf:=λZ=>QP b Z (by intro k cs h;cases h)
 have w:∀{v:YI},(σ.app o.dst ⟨.v v,none⟩).wf:=pure (by intro k p;simp[AV.ids]at p);have D:∀{e:B8},P5 P o σ=some e->(σ.app o.dst e).wf:=λ{e} h=>by
  unfold P5 at h;split at h
  .split at h
   .cases h
   .split at h
    .injection h with h;subst h;exact w
    .cases h
  .cases h
 have B:∀{e:B8} {cs:List AV} {x:Nat->AV},Qk σ o.dst cs x=some e->(∀d k,k∈(x d).ids->k=d)->(∀x∈cs,∀j∈x.ids,(σ.box j).isSome=true)->(σ.app o.dst e).wf:=λ{e cs x} h s wI=>by
  unfold Qk at h;split at h
  .rename_i d T;split at h
   .cases h
   .injection h with h;subst h;refine QP b ?_ ?_
    .intro k p;rw[s d k p];simp[Xp,Qw]
    .intro k L h;injection h with h;injection h with _ h;subst h;exact wI
  .cases h
 have A:∀x:XZ,∀z∈cellsOf (σ.eval x),∀j∈z.ids,(σ.box j).isSome=true:=λx=>by
  have:=b.eval x;cases K:σ.eval x with
  |v q=>intro z u j E;simp[cellsOf]at u;obtain⟨S,_,rfl⟩:=u;simp[AV.ids]at E
  |_=>intro z u j E;rw[K]at this;simp[cellsOf]at u;subst u;exact this j E
 have F:∀l:List YI,∀x∈l.map AV.v,∀j∈x.ids,(σ.box j).isSome=true:=λl x s j E=>by
  obtain⟨q,_,rfl⟩:=AP.1 s;simp[AV.ids]at E
 unfold OZ at h;cases J:o.op<;>simp only[J]at h
 case move x=>injection h with h;subst h;exact pure (b.eval x)
 case assign x=>injection h with h;subst h;exact pure (b.eval x)
 case alloc t=>
  split at h
  .exact B h (by intro d k p;simpa[AV.ids]using p) (F _)
  .cases h
 case box t x=>exact B h (by intro d k p;simpa[AV.ids]using p) (A x)
 case load t x=>
  split at h
  .rename_i k off s;split at h
   .rename_i cs G;unfold Vr at h
    (repeat' split at h)<;>first|(cases h;done)|skip
    .injection h with h;subst h;exact w
    .rename_i c H;injection h with h;subst h;exact pure (b.cells k cs G c (BG H))
   .cases h
  .cases h
 case store t x y=>
  split at h
  .rename_i M off s;split at h
   .rename_i cs G;unfold Yd at h
    (repeat' split at h)<;>first|(cases h;done)|skip
    injection h with h;subst h;refine QP b (by intro k p;simp[AV.ids]at p) ?_;intro k L h;injection h with h;injection h with _ h;subst h;intro z u;simp only[BK]at u;rcases u with (u|u)|u
    .exact b.cells M cs G z (BU u)
    .exact A y z u
    .exact b.cells M cs G z (List.mem_of_mem_drop u)
   .cases h
  .cases h
 case fieldAddr t x f=>
  have m:=b.eval x;split at h
  .rename_i k off s;rw[s]at m;unfold Rw at h
   (repeat' split at h)<;>first|(cases h;done)|(injection h with h;subst h;exact pure m)
  .unfold Uw at h
   (repeat' split at h)<;>first|(cases h;done)|(injection h with h;subst h;exact pure (by intro k p;simp[AV.ids]at p))
  .cases h
 case indexAddr t x ix=>
  have m:=b.eval x;unfold Yf at h;split at h
  .rename_i k off N i s hi;rw[s]at m
   (repeat' split at h)<;>first|(cases h;done)|(injection h with h;subst h;exact pure m)
  .rename_i k len N i s hi;rw[s]at m
   (repeat' split at h)<;>first|(cases h;done)|(injection h with h;subst h;exact pure m)
  ·(repeat' split at h)<;>first|(cases h;done)|(injection h with h;subst h;exact pure (by intro k p;simp[AV.ids]at p))
  .cases h
 case nilCheck x=>
  have m:=b.eval x;split at h
  .rename_i k off s;rw[s]at m;injection h with h;subst h;exact pure m
  .exact D h
 case makeFunc fn first caps=>
  cases fn<;>simp only at h
  case func g=>
   split at h
   .rename_i c r R H;injection h with h;subst h;obtain⟨_,Q⟩:=Ys (β:=λ_=>0) H;refine pure λk p=> ?_
    simp only[AV.ids]at p;obtain⟨q,K,rfl⟩:=AP.1 p;obtain⟨x,s,hi⟩:=Q q K;obtain⟨y,_,rfl⟩:=AP.1 s;exact b.eval y _ hi
   .exact D h
  all_goals exact D h
 case buildSlice t n ps=>
  (repeat' split at h)<;>first|(cases h;done)|exact B h (by intro d k p;simpa[AV.ids]using p) (F _)
 all_goals exact D h
theorem HA{P:YH}{c:Array XT}{o:XT}{σ:AS}{e:B8}(h:Ua P c o σ=some e)(b:σ.wf):(σ.app o.dst e).wf:=by
 unfold Ua at h;split at h
 .exact oH h b
 .injection h with h;subst h;rw[uL];exact AS.wf.put (σ:=⟨σ.tmps,σ.box⟩) b o.dst (by intro k f;simp[AV.ids]at f)
theorem OY [Rnd]{P:YH}{W:YM}{l:Array XT}{Z:List XV->(YM->Prop)->Prop}{K:AS->(YM->Prop)->Prop}{i:Nat}{s:XT}{ei:B8}(hi:l[i]? =some s)(hssa:o4 l){D:Nat->Bool}
 (hD:∀(b:Array Bool),Ng l b->b.getD i true=false->∀(j:Nat) (wI:XT),l[j]? =some wI->D j=true->¬∀e∈wI.after,Region.binds .any e=true->b.getD e.on false=true):
 ∀(fuel:Nat) (b:Array Bool) (σ:AS) (Φ:YM->Prop),Ng l b->σ.wf->i∈Region.ready .any l b->KT l D b σ i s->Ua P l s σ=some ei->
  Ee P W l Z K fuel (b.setIfInBounds i true) (σ.app s.dst ei) Φ->Ee P W l Z K (fuel+1) b σ Φ:=by
 intro fuel;induction fuel with
 | zero=>
  intro b σ Φ hcl N hr hm p H;refine⟨λh=>(by rw[h]at hr;cases hr),λj hj=> ?_⟩
  by_cases z:j=i
  .subst z;exact⟨s,hi,.det ei p H⟩
  .have:=ready_mono hj z;rw[H.1]at this;cases this
 | succ fuel ih=>
  intro b σ Φ hcl N hr hm p H;refine⟨λh=>(by rw[h]at hr;cases hr),λj hj=> ?_⟩
  by_cases z:j=i
  .subst z;exact⟨s,hi,.det ei p H⟩
  .obtain⟨wI,A,h1⟩:=H.2 j (ready_mono hj z);refine⟨wI,A,?_⟩;obtain⟨wJ,oj',hoj',Q⟩:=mem_ready.1 hj;obtain rfl:wI=oj':=by rw[A]at hoj';injection hoj'
   obtain⟨hiun,oi',hoi',halli⟩:=mem_ready.1 hr;obtain rfl:s=oi':=by rw[hi]at hoi';injection hoi'
   have hDj:D j=false:=by
    cases u:D j with
    |false=>rfl
    |true=>exact absurd Q (hD b hcl hiun j wI A u)
   have unl:∀{m:Nat},b.getD m true=false->b.getD m false=true->False:=λ{m} h1 h2=>by
    rcases BN m b.size with h'|h'
    .simp[h']at h1 h2;rw[h1]at h2;cases h2
    .simp[BL h']at h2
   have apj:∀d,s.dst=some d->d∉wI.looksAt l:=λd hd hmem=>by
    rcases(hssa i j s wI hi A (Ne.symm z) d hd).2 hmem with ⟨e,p,u,hon⟩|⟨e,p,u,hon⟩
    .have:=Q e p u;rw[hon]at this;exact unl hiun this
    .have:=halli e p u;rw[hon]at this;exact unl wJ this
   have J:∀d,wI.dst=some d->d∉s.looksAt l:=λd hd hmem=>by
    rcases(hssa j i wI s A hi z d hd).2 hmem with ⟨e,p,u,hon⟩|⟨e,p,u,hon⟩
    .have:=halli e p u;rw[hon]at this;exact unl wJ this
    .have:=Q e p u;rw[hon]at this;exact unl hiun this
   have apd:∀t,s.dst=some t->wI.dst≠some t:=λt ht=>(hssa i j s wI hi A (Ne.symm z) t ht).1
   have Y:∀x∈wI.op.operands,(σ.app s.dst ei).eval x=σ.eval x:=λx o=>uI (Of apj o)
   have wj:Kx l wI (σ.app s.dst ei)=Kx l wI σ:=Xq apj;obtain⟨hm1,hm2⟩:=hm j wI A z wJ hDj;have eff_i:Kx l s σ=true->OZ P s σ=some ei:=λhw=>by unfold Ua at p;rw[YS hw]at p;exact p
   have wr_i:∀k cs,ei.wr=some (k,cs)->OZ P s σ=some ei:=λk cs hw=>by
    cases u:Kx l s σ with
    |true=>exact eff_i u
    |false=>
     unfold Ua at p;rw[u]at p;simp only[BB,if_false]at p;injection p with p;subst p;cases hw
   cases h1 with
   | det ej R hK=>
    have hej':Ua P l wI σ=some ej/\(∀k cs ds,ei.wr=some (k,cs)->ej.wr≠some (k,ds))/\(∀k,X7 s σ=some k->Kx l s σ=true->∀cs,ej.wr≠some (k,cs)):=by
     cases hw:Kx l wI σ with
     |false=>
      unfold Ua at R ⊢;rw[wj,hw]at R;rw[hw];simp only[BB,if_false]at R ⊢;injection R with R;subst R;exact⟨rfl,(λ_ _ _ _ h=>by cases h),(λ_ _ _ _ h=>by cases h)⟩
     | true=>
      unfold Ua at R;rw[wj,hw]at R;simp only[if_true]at R;have c1:∀k,X7 wI σ=some k->∀cs,ei.wr≠some (k,cs):=by
       intro k ht cs hwr;have hei:=wr_i k cs hwr;rcases JM hei hwr with ⟨t,x,y,off,ho,o⟩|⟨hd,u,ho⟩
       .obtain⟨h3,h4,h5⟩:=hm2 t x y k off ho o;rcases Dl ht with ⟨t',x',E,F,B⟩|⟨t',x',y',E,F,B⟩|⟨hd',F⟩
        .exact(h4 t' x' F).2 k E B rfl
        .exact(h3 t' x' y' F).2 k E B rfl
        .have hn:=F0 R hd' F;have M:=QD (x:=ei.wr) (P9 N o);simp only[AS.app]at hn;rw[hn]at M;cases M
       .rcases Dl ht with ⟨t',x',E,F,B⟩|⟨t',x',y',E,F,B⟩|⟨hd',F⟩
        .have M:=P9 N B;rw[u]at M;cases M
        .have M:=P9 N B;rw[u]at M;cases M
        .exact apd k hd hd'
      have hejs:OZ P wI σ=some ej:=by
       rw[<-R];exact(Rh Y λk hk=>Gm (c1 k hk)).symm
      refine⟨by unfold Ua;rw[hw];exact hejs,?_,?_⟩
      .intro k cs ds hwi hwj;rcases JM hejs hwj with ⟨t,x,y,off,ho,o⟩|⟨hd,u,ho⟩
       .exact c1 k (by unfold X7;rw[ho];simp only[o,pd]) cs hwi
       .exact c1 k (by unfold X7;rcases ho with ⟨t,ho⟩|⟨t,x,ho⟩|⟨t,n,ps,ho⟩<;>rw[ho]<;>exact hd) cs hwi
      .intro k ht hwi cs hwj;have hei:=eff_i hwi;rcases JM hejs hwj with ⟨t,x,y,off,ho,o⟩|⟨hd,u,ho⟩
       .rcases Dl ht with ⟨t',x',E,F,B⟩|⟨t',x',y',E,F,B⟩|⟨hd',F⟩
        .exact(hm1 t' x' k E F B t x y ho).2 k off o rfl
        .exact((hm2 t' x' y' k E F B).1 t x y ho).2 k off o rfl
        .have hn:=F0 hei hd' F;have M:=P9 N o;rw[hn]at M;cases M
       .rcases Dl ht with ⟨t',x',E,F,B⟩|⟨t',x',y',E,F,B⟩|⟨hd',F⟩
        .have M:=P9 N B;rw[u]at M;cases M
        .have M:=P9 N B;rw[u]at M;cases M
        .exact apd k hd' hd
    obtain⟨hej1,hww,hti⟩:=hej';refine .det ej hej1 (ih (b.setIfInBounds j true) _ Φ (hcl.set_ A Q) (HA hej1 N) (ready_mono hr (Ne.symm z)) (hm.next A wJ (λx o=>uI o) (λx o=>uI (Of J o))) ?_ ?_)
    .have wi:Kx l s (σ.app wI.dst ej)=Kx l s σ:=Xq J;unfold Ua at p ⊢;rw[wi];cases u:Kx l s σ with
     |false=>rw[u]at p;exact p
     |true=>
      rw[u]at p;simp only[if_true]at p ⊢;rw[<-p];exact Rh (λx o=>uI (Of J o)) λk hk=>Gm (hti k hk u)
    .rw[AH _ _ z,<-vy σ apd hww];exact hK
   | @call X g xs val G hw hc M hK=>
    have T:T8 P wI σ=some (g,xs):=by rw[<-Tv Y];exact hc
    obtain⟨c,hoc⟩:∃c,wI.op= .call c:=by
     unfold T8 at hc;split at hc
     .exact⟨_,by assumption⟩
     .cases hc
    have hbox:∀x∈xs,∀k∈x.ids,(σ.app s.dst ei).box k=σ.box k:=by
     intro x o k hk;have hids:(σ.box k).isSome=true:=by
      unfold T8 at T;rw[hoc]at T;simp only at T;split at T
      .rename_i g' xs' S;split at T
       .injection T with T;injection T with _ h2;subst h2;unfold V2 at S;split at S
        .rename_i f hf;have hfe:=N.eval f;split at S
         .injection S with S;injection S with _ h2;subst h2;simp only[BK,AP]at o;rcases o with (⟨q,_,rfl⟩|⟨q,_,rfl⟩)|⟨q,_,rfl⟩
          .simp[AV.ids]at hk
          .exact N.eval q k hk
          .simp[AV.ids]at hk
         .rename_i g2 caps hv;injection S with S;injection S with _ h2;subst h2;simp only[BK,AP]at o;rcases o with ⟨q,_,rfl⟩|⟨q,hq,rfl⟩
          .exact N.eval q k hk
          .rw[hv]at hfe;refine hfe k ?_;simp only[AV.ids,List.mem_singleton]at hk ⊢;subst hk;exact AP.2 ⟨q,hq,rfl⟩
         .cases S
        .cases S
       .cases T
      .cases T
     refine Gm λcs hwr=> ?_
     rcases JM (wr_i k cs hwr) hwr with ⟨t,x',y,off,ho,B⟩|⟨hd,u,ho⟩
     .exact(hm2 t x' y k off ho B).2.2 c hoc
     .rw[u]at hids;cases hids
    refine .call g xs val G (by rw[<-wj];exact hw) T (λβ w hbl U hB=>M β w hbl U λx o k hk cs hcs=>hB x o k hk cs (by rw[<-hbox x o k hk];exact hcs)) (λx=> ?_);refine ih (b.setIfInBounds j true) _ _ (hcl.set_ A Q) (N.put _ (by intro k hk;simp[AV.ids]at hk)) (ready_mono hr (Ne.symm z)) (hm.next A wJ (λx o=>ut o) (λx o=>ut (Of J o))) ?_ ?_
    .have wi:Kx l s (σ.put wI.dst (.v (val x)))=Kx l s σ:=Mw J;unfold Ua at p ⊢;rw[wi];cases u:Kx l s σ with
     |false=>rw[u]at p;exact p
     |true=>
      rw[u]at p;simp only[if_true]at p ⊢;rw[<-p];exact Rh (λx o=>ut (Of J o)) λk _=>by rw[uS]
    .rw[AH _ _ z,<-uX σ apd];exact hK x
   | ask v hw hp hns hmv hcb M hK=>
    have hrho:∀x∈wI.op.operands,(σ.app s.dst ei).rho x=σ.rho x:=λx o=>by unfold AS.rho;rw[Y x o]
    refine .ask v (by rw[<-wj];exact hw) (by rw[<-Me Y];exact hp) hns hmv (by rw[<-Nh (σ:=σ) (σ':=σ.app s.dst ei) λq hq y hy=>uI (N6 hi hq y hy)];exact hcb) (λw u U=>by rw[<-execOp_congr wI hns hrho];exact M w u U) ?_;refine ih (b.setIfInBounds j true) _ _ (hcl.set_ A Q) (N.put _ (by intro k hk;simp[AV.ids]at hk)) (ready_mono hr (Ne.symm z)) (hm.next A wJ (λx o=>ut o) (λx o=>ut (Of J o))) ?_ ?_
    .have wi:Kx l s (σ.put wI.dst (.v v))=Kx l s σ:=Mw J;unfold Ua at p ⊢;rw[wi];cases u:Kx l s σ with
     |false=>rw[u]at p;exact p
     |true=>
      rw[u]at p;simp only[if_true]at p ⊢;rw[<-p];exact Rh (λx o=>ut (Of J o)) λk _=>by rw[uS]
    .rw[AH _ _ z,<-uX σ apd];exact hK
   |lone hl _=>exact absurd (hl j A b i hcl hj hr).symm z
   | @pan L ch Φ2 g xs vs hl hw hp hc hv M hL U hz=>
    refine .pan ch Φ2 g xs vs (λq hq li jj h1 h2 h3=> ?_) (by rw[<-wj];exact hw) (by rw[<-Me Y];exact hp) (by rw[<-Tv Y];exact hc) hv M hL U hz;rcases hl q hq li jj h1 h2 h3 with h4|⟨ok,h4,⟨h5,h6⟩|h5⟩
    .exact .inl h4
    .refine .inr ⟨ok,h4,.inl ⟨h5,?_⟩⟩;rw[<-Me (σ:=σ) (σ':=σ.app s.dst ei) λy hy=>uI (N6 hi h5 y hy)];exact h6
    .exact .inr ⟨ok,h4,.inr (h5.imp id λh5=>by rw[<-Nh (σ:=σ) (σ':=σ.app s.dst ei) λq hq y hy=>uI (N6 hi hq y hy)];exact h5)⟩
   | @mutm X L val G Φ2 hl hw hp hns M hL U hK=>
    have hrho:∀x∈wI.op.operands,(σ.app s.dst ei).rho x=σ.rho x:=λx o=>by unfold AS.rho;rw[Y x o]
    refine .mutm val G Φ2 (λq hq li jj h1 h2 h3=> ?_) (by rw[<-wj];exact hw) (by rw[<-Me Y];exact hp) hns (M.elim (λM=> .inl λw u U=>by rw[<-execOp_congr wI hns hrho];exact M w u U) λ⟨g,xs,vs,hc,hv,M⟩=> .inr ⟨g,xs,vs,by rw[<-Tv Y];exact hc,hv,M⟩) hL U λx=> ?_
    .rcases hl q hq li jj h1 h2 h3 with h4|⟨ok,h4,⟨h5,h6⟩|h5⟩
     .exact .inl h4
     .refine .inr ⟨ok,h4,.inl ⟨h5,?_⟩⟩;rw[<-Me (σ:=σ) (σ':=σ.app s.dst ei) λy hy=>uI (N6 hi h5 y hy)];exact h6
     .exact .inr ⟨ok,h4,.inr (h5.imp id λh5=>by rw[<-Nh (σ:=σ) (σ':=σ.app s.dst ei) λq hq y hy=>uI (N6 hi hq y hy)];exact h5)⟩
    refine ih (b.setIfInBounds j true) _ _ (hcl.set_ A Q) (N.put _ (by intro k hk;simp[AV.ids]at hk)) (ready_mono hr (Ne.symm z)) (hm.next A wJ (λx o=>ut o) (λx o=>ut (Of J o))) ?_ ?_
    .have wi:Kx l s (σ.put wI.dst (.v (val x)))=Kx l s σ:=Mw J;unfold Ua at p ⊢;rw[wi];cases u:Kx l s σ with
     |false=>rw[u]at p;exact p
     |true=>
      rw[u]at p;simp only[if_true]at p ⊢;rw[<-p];exact Rh (λx o=>ut (Of J o)) λk _=>by rw[uS]
    .rw[AH _ _ z,<-uX σ apd];exact hK x
   | @make X val G hw hp hns M hK=>
    have hrho:∀x∈wI.op.operands,(σ.app s.dst ei).rho x=σ.rho x:=λx o=>by unfold AS.rho;rw[Y x o]
    refine .make val G (by rw[<-wj];exact hw) (by rw[<-Me Y];exact hp) hns (λw u U=>by rw[<-execOp_congr wI hns hrho];exact M w u U) λx=> ?_
    refine ih (b.setIfInBounds j true) _ _ (hcl.set_ A Q) (N.put _ (by intro k hk;simp[AV.ids]at hk)) (ready_mono hr (Ne.symm z)) (hm.next A wJ (λx o=>ut o) (λx o=>ut (Of J o))) ?_ ?_
    .have wi:Kx l s (σ.put wI.dst (.v (val x)))=Kx l s σ:=Mw J;unfold Ua at p ⊢;rw[wi];cases u:Kx l s σ with
     |false=>rw[u]at p;exact p
     |true=>
      rw[u]at p;simp only[if_true]at p ⊢;rw[<-p];exact Rh (λx o=>ut (Of J o)) λk _=>by rw[uS]
    .rw[AH _ _ z,<-uX σ apd];exact hK x
def Pd(b:Array XT)(i:Nat):Nat->List Bool
 |0=>[]
 | n+1=>
  let l:=Pd b i n
  l++ [match b[n]? with
   |some o=>o.after.toList.any λe=>Region.binds .any e&&(AU e.on i||l.getD e.on false)
   |none=>false]
theorem Rr(b:Array XT)(i:Nat):∀n,(Pd b i n).length=n
 |0=>rfl
 |n+1=>by simp[Pd,Rr b i n]
theorem Rx{c:Array XT}{i:Nat}{b:Array Bool}(s:Ng c b)(hi:b.getD i true=false):
 ∀(n m:Nat),(Pd c i n).getD m false=true->∃l,c[m]? =some l/\¬∀e∈l.after,Region.binds .any e=true->b.getD e.on false=true:=by
 intro n;induction n with
 |zero=>intro m h;simp[Pd]at h
 | succ n y=>
  intro m h;simp only[Pd,AR]at h;rcases BN m n with x|x
  .rw[List.getElem?_append_left (by rw[Rr];exact x)]at h;exact y m (by rw[AR];exact h)
  .rw [List.getElem?_append_right (by rw[Rr];exact x),Rr]at h;cases j:m-n with
   |succ q=>rw[j]at h;simp at h
   | zero=>
    obtain rfl:m=n:=I
    rw[j]at h;simp only[List.getElem?_cons_zero,BS]at h;split at h
    .rename_i o D;refine⟨o,D,λk=> ?_⟩;obtain⟨e,A,u⟩:=BR.1 h;simp only[AE,CC,BQ]at u;have g:=k e (by simpa using A) u.1;rcases u.2 with f|f
     .rw[f]at g;rcases BN i b.size with p|p
      .simp[p]at hi g;rw[hi]at g;cases g
      .simp[BL p]at g
     .obtain⟨l,w,B⟩:=y e.on (by rw[AR];exact f);exact B λz v t=>s e.on l w g z v t
    .cases h
def SX(c:Array XT)(b:Array Bool)(y:XZ):Bool:=
 match y with
 | .tmp t=>c.toList.zipIdx.all λq=>b.getD q.2 true||(match q.1.dst with|some d=> !AU d t|none=>true)
 |_=>true
def KQ(c:Array XT)(b:Array Bool)(σ:AS)(k:Nat)(y:XZ):Bool:=
 (match σ.eval y with| .p k' _=> !AU k' k|_=>true)&&SX c b y
def Du(c:Array XT)(D:List Bool)(b:Array Bool)(σ:AS)(i:Nat)(e:XT):Bool:=
 match e.op with
 | .load _ x=>match σ.eval x with
  | .p k _=>c.toList.zipIdx.all λq=>match q.1.op with
   | .store _ y _=>b.getD q.2 true||(KQ c b σ k y||D.getD q.2 false)
   |_=>true
  |_=>true
 | .store _ x _=>match σ.eval x with
  | .p k _=>c.toList.zipIdx.all λq=>AU q.2 i||(match q.1.op with
   | .store _ y _=>b.getD q.2 true||(KQ c b σ k y||D.getD q.2 false)
   | .load _ y=>b.getD q.2 true||(KQ c b σ k y||D.getD q.2 false)
   | .call _=>b.getD q.2 true||D.getD q.2 false
   |_=>true)
  |_=>true
 |_=>true
theorem Ec{c:Array XT}{b:Array Bool}{σ:AS}{k:Nat}{y:XZ}(h:KQ c b σ k y=true):D5 c b σ k y:=by
 simp only[KQ,AE]at h;obtain⟨g,j⟩:=h;refine⟨λm p t l d s e=> ?_,λu off o e=> ?_⟩
 .subst e;simp only[SX]at j;have f:(p,m)∈c.toList.zipIdx:=by rw[AX];simpa using t
  have:=AD.1 j _ f;simp only[l,s]at this;simp at this
 .rw[o]at g;simp[e]at g
theorem PI{l:Array XT}{D:List Bool}{b:Array Bool}{σ:AS}{i:Nat}{v:XT}(h:Du l D b σ i v=true):KT l (λj=>D.getD j false) b σ i v:=by
 intro j G B u s F;have e:(G,j)∈l.toList.zipIdx:=by rw[AX];simpa using B
 have g:AU j i=false:=by
  cases E:AU j i with
  |false=>rfl
  |true=>exact absurd (BM E) u
 have f:D.getD j false=false:=F;refine⟨λt x k off o m w y z p=> ?_,λt x z k off o m=>⟨λw y z' p=> ?_,λw y p=> ?_,λc A=> ?_⟩⟩
 .simp only[Du,o,m]at h;have:=AD.1 h _ e;simp only[p,s,BO,f,Bool.or_false]at this;exact Ec this
 .simp only[Du,o,m]at h;have:=AD.1 h _ e;simp only[g,p,s,BO,f,Bool.or_false]at this;exact Ec this
 .simp only[Du,o,m]at h;have:=AD.1 h _ e;simp only[g,p,s,BO,f,Bool.or_false]at this;exact Ec this
 .simp only[Du,o,m]at h;have:=AD.1 h _ e;simp only[g,A,s,BO,f]at this;cases this
def Hp(f:Array XT)(b:Array Bool)(i:Nat)(c:XT):Bool:=
 !b.getD i true&&c.after.toList.all λe=> !Region.binds .any e||b.getD e.on false
theorem En{c:Array XT}{b:Array Bool}{i:Nat}{f:XT}(hi:c[i]? =some f)(h:Hp c b i f=true):i∈Region.ready .any c b:=by
 simp only[Hp,AE,BP]at h;refine mem_ready.2 ⟨h.1,f,hi,λe g j=> ?_⟩;have:=AD.1 h.2 e (by simpa using g);simpa[j]using this
def Bg(P:YH)(c:Array XT)(i:Nat)(b:Array Bool)(σ:AS):Option AS:=
 match c[i]? with
 |some f=>if Hp c b i f&&Du c (Pd c i c.size) b σ i f then(match Ua P c f σ with
  |some e=>some (σ.app f.dst e)
  |none=>none)else none
 |none=>none
theorem Gs [Rnd]{P:YH}{W:YM}{c:Array XT}{Z:List XV->(YM->Prop)->Prop}{K:AS->(YM->Prop)->Prop}{i:Nat}{b:Array Bool}{σ σ':AS}{Φ:YM->Prop}{fuel:Nat}(p:o4 c)(o:Ng c b)(t:σ.wf)
 (h:Bg P c i b σ=some σ') (H:Ng c (b.setIfInBounds i true)->σ'.wf->Ee P W c Z K fuel (b.setIfInBounds i true) σ' Φ):Ee P W c Z K (fuel+1) b σ Φ:=by
 unfold Bg at h;split at h
 .rename_i A f;split at h
  .rename_i v;simp only[AE]at v;split at h
   .rename_i e y;injection h with h;subst h;have z:=En f v.1;obtain⟨_,x,k,m⟩:=mem_ready.1 z;obtain rfl:A=x:=by rw[f]at k;injection k
    refine OY f p (D:=λj=>(Pd c i c.size).getD j false) ?_ fuel b σ Φ o t z (PI v.2) y (H (o.set_ f m) (HA y t));intro s u w j J B F l;obtain⟨G,g,E⟩:=Rx u w c.size j F;rw[B]at g;injection g with g;subst g;exact E l
   .cases h
  .cases h
 .cases h
def Os(P:YH)(c:Array XT):List Nat->Array Bool->AS->Option (Array Bool×AS)
 | [],b,σ=>some (b,σ)
 |i::l,b,σ=>match Bg P c i b σ with
  |some σ'=>Os P c l (b.setIfInBounds i true) σ'
  |none=>none
theorem NM [Rnd]{P:YH}{W:YM}{e:Array XT}{Z:List XV->(YM->Prop)->Prop}{K:AS->(YM->Prop)->Prop}{Φ:YM->Prop}{fuel:Nat}(f:o4 e):∀(l:List Nat) (c b:Array Bool) (σ σ':AS),Ng e c->σ.wf->
 Os P e l c σ=some (b,σ')->(Ng e b->σ'.wf->Ee P W e Z K fuel b σ' Φ)->Ee P W e Z K (fuel+l.length) c σ Φ
 | [],c,b,σ,σ',g,j,h,H=>by
  simp only[Os,AF,AQ]at h;obtain⟨rfl,rfl⟩:=h;exact H g j
 | i::l,c,b,σ,σ',g,j,h,H=>by
  simp only[Os]at h;split at h
  .rename_i p o;exact Gs f g j o λm k=>NM f l _ _ _ _ m k h H
  .cases h
def KX(o:XT):Bool:=
 match o.op with
 | .buildSlice _ _ _=>true
 | .call c=>match c.callee with
  | .builtin _=>false
  |_=>true
 |_=>false
def PT(P:YH)(c:Array XT)(i:Nat)(b:Array Bool)(σ:AS):Option AS:=
 match c[i]? with
 |some e=>if Hp c b i e&& !(KX e&&Kx c e σ)then Bg P c i b σ else none
 |none=>none
theorem RD{P:YH}{c:Array XT}{i:Nat}{b:Array Bool}{σ σ':AS}(h:PT P c i b σ=some σ'):Bg P c i b σ=some σ':=by
 unfold PT at h;split at h
 .split at h
  .exact h
  .cases h
 .cases h
def Bh(P:YH)(c:Array XT):Nat->Nat->Nat->Array Bool->AS->Nat×Array Bool×AS
 |0,_,fuel,b,σ=>(fuel,b,σ)
 | r+1,i,fuel,b,σ=>match fuel with
  |0=>(0,b,σ)
  |f+1=>match PT P c i b σ with
   |some σ'=>Bh P c r (i+1) f (b.setIfInBounds i true) σ'
   |none=>Bh P c r (i+1) (f+1) b σ
theorem Gt [Rnd]{P:YH}{W:YM}{c:Array XT}{Z:List XV->(YM->Prop)->Prop}{K:AS->(YM->Prop)->Prop}{Φ:YM->Prop}(j:o4 c):∀(r i fuel:Nat) (b:Array Bool) (σ:AS),Ng c b->σ.wf->
 (Ng c (Bh P c r i fuel b σ).2.1->(Bh P c r i fuel b σ).2.2.wf->Ee P W c Z K (Bh P c r i fuel b σ).1 (Bh P c r i fuel b σ).2.1 (Bh P c r i fuel b σ).2.2 Φ)->Ee P W c Z K fuel b σ Φ
 |0,i,fuel,b,σ,e,g,h=>h e g
 |r+1,i,0,b,σ,e,g,h=>h e g
 | r+1,i,f+1,b,σ,e,g,h=>by
  unfold Bh at h;simp only at h;split at h
  .rename_i σ' m;exact Gs j e g (RD m) λl k=>Gt j r (i+1) f _ σ' l k h
  .exact Gt j r (i+1) (f+1) b σ e g h
inductive ua where
 |code (c:Code)
 |ops (ops:Array XT) (l:List Nat)
 |any (ops:Array XT) (fuel:Nat) (listed:Array Bool)
 |out (e:Exit)
inductive ny where
 |seq (c:Code)
 |blk (id:Nat)
 |lp (body:Code)
structure Mm where
 foc:ua
 k:List ny
 st:AS
def PG [Rnd](P:YH)(bd:Code)(Q:Exit->Act->YM->Prop)(a:Act)(w:YM):Prop:=
 ∀(b:Frame) (ks:List Item) (cs:List Frame),b.roundOf=Fe.round->∃e c f,Q e c f/\ArrivesIn (Machine.fenced P Fe) P (lone (b.atR a (.code bd:: .inLoop bd::ks)) cs w) b ks cs e c f
def NP [Rnd](P:YH)(bd:Code)(Q:Exit->Act->YM->Prop):Exit->Act->YM->Prop
 | .normal,a,w=>PG P bd Q a w
 |e,a,w=>Q e a w
theorem We [Rnd]{P:YH}{bd:Code}{Q:Exit->Act->YM->Prop}{a:Act}{w:YM}(h:bd.wpIn Fe 0 P (NP P bd Q) a w):PG P bd Q a w:=by
 intro b v cs s;have k:∀n,(Fe.room n):=λn d y=>by cases y
 obtain⟨e,g,f,o,c⟩:=h b (.inLoop bd::v) cs s trivial (k _);cases e with
 |normal=>
  obtain⟨p,u,t,m,j⟩:=o b v cs s;exact⟨p,u,t,m,.of_steps (StepsIn.trans c (.one (fenced_calm (n:=0) trivial (k _) rfl) stepR_inLoop)) j⟩
 |exit id=>exact⟨_,g,f,o,.pass (x:= .inLoop bd) rfl (λ_ _=> .inl Zs) c⟩
 |goto l=>exact⟨_,g,f,o,.pass (x:= .inLoop bd) rfl (λ_ _=> .inl Zs) c⟩
 |ret=>exact⟨_,g,f,o,.pass (x:= .inLoop bd) rfl (λ_ _=> .inl Zs) c⟩
 |panic z=>exact⟨_,g,f,o,.pass (x:= .inLoop bd) rfl (λ_ _=> .inl Zs) c⟩
 |outgrown=>exact⟨_,g,f,o,.pass (x:= .inLoop bd) rfl (λ_ _=> .inl Zs) c⟩
theorem lj [Rnd]{P:YH}{bd:Code}{Q:Exit->Act->YM->Prop}{a:Act}{w:YM}(h:PG P bd Q a w):(Code.loop bd).wpIn Fe 0 P Q a w:=by
 intro b l cs f _ _;obtain⟨e,g,j,k,c⟩:=h b l cs f;exact⟨e,g,j,k,.of_steps (.one (fenced_calm (n:=0) trivial (λd m=>by cases m) rfl) stepR_loop) c⟩
def post [Rnd](P:YH)(Q:Exit->Act->YM->Prop):List ny->Exit->Act->YM->Prop
 | []=>Q
 | .seq c::k=>Exit.then (c.wpIn Fe 0 P (post P Q k)) (post P Q k)
 | .blk id::k=>Exit.inBlock id (post P Q k)
 | .lp bd::k=>NP P bd (post P Q k)
def Qq [Rnd](P:YH)(Δ:List XY)(W:YM)(Q:Exit->Act->YM->Prop)(Φ:YM->Prop)(c:Mm):Prop:=
 match c.foc with
 | .code x=>c.st.wf->∀β a w,Ok Δ W β c.st Φ a w->x.wpIn Fe 0 P (post P Q c.k) a w
 | .ops ops l=>c.st.wf->∀β a w,Ok Δ W β c.st Φ a w->wpOpsIn Fe 0 P ops (post P Q c.k) l a w
 | .any ops fuel b=>o4 ops->Ng ops b->c.st.wf->Ee P W ops (λf Φ=>∀(σ:AS),σ.wf->∀β a w,Ok Δ W β σ Φ a w->post P Q c.k (.panic f) a w) (λσ Φ=>σ.wf->∀β a w,Ok Δ W β σ Φ a w->post P Q c.k .normal a w) fuel b c.st Φ
 | .out e=>c.st.wf->∀β a w,Ok Δ W β c.st Φ a w->post P Q c.k e a w
structure K0 [Rnd](P:YH)(Δ:List XY)(W:YM)(Q:Exit->Act->YM->Prop)(Φ:YM->Prop)(c:Mm):Prop where
 get:Qq P Δ W Q Φ c
def GW(P:YH)(stop:Nat)(c:Mm):Option Mm:=
 match c.foc with
 | .code x=>match x with
  | .seq x y=>some ⟨.code x,.seq y::c.k,c.st⟩
  | .block id x=>some ⟨.code x,.blk id::c.k,c.st⟩
  | .skip=>some ⟨.out .normal,c.k,c.st⟩
  | .label _=>some ⟨.out .normal,c.k,c.st⟩
  | .exit id=>some ⟨.out (.exit id),c.k,c.st⟩
  | .ret=>some ⟨.out .ret,c.k,c.st⟩
  | .region _ ops false=>some ⟨.ops ops (CD ops.size),c.k,c.st⟩
  | .region _ ops true=>if rX ops then some ⟨.any ops ops.size (CB ops.size false),c.k,c.st⟩else none
  |_=>none
 | .ops _ []=>some ⟨.out .normal,c.k,c.st⟩
 | .ops ops (i::l)=>if AU i stop then none else match ops[i]? with
  |some o=>if Kx ops o c.st&&KX o then none else match Ua P ops o c.st with
   |some e=>some ⟨.ops ops l,c.k,c.st.app o.dst e⟩
   |none=>none
  |none=>none
 | .any ops 0 b=>match Region.ready .any ops b with
  | []=>some ⟨.out .normal,c.k,c.st⟩
  |_=>none
 | .any ops (f+1) b=>
  let r:=Bh P ops (if Nat.ble ops.size stop then ops.size else stop) 0 (f+1) b c.st
  if Nat.blt r.1 (f+1)then some ⟨.any ops r.1 r.2.1,c.k,r.2.2⟩else none
 | .out e=>match c.k with
  | []=>none
  | .seq y::k=>match e with
   | .normal=>some ⟨.code y,k,c.st⟩
   |e=>some ⟨.out e,k,c.st⟩
  | .blk id::k=>match e with
   | .exit g=>if AU g id then some ⟨.out .normal,k,c.st⟩else some ⟨.out (.exit g),k,c.st⟩
   |e=>some ⟨.out e,k,c.st⟩
  | .lp bd::k=>match e with
   | .normal=>some ⟨.code bd,.lp bd::k,c.st⟩
   |e=>some ⟨.out e,k,c.st⟩
section
variable{P:YH}{Δ:List XY}{W:YM}{Q:Exit->Act->YM->Prop}{Φ:YM->Prop}{c c':Mm}
theorem FK [Rnd](wJ:P.follows .mixedOrders=true){stop:Nat}(h:GW P stop c=some c')(H:K0 P Δ W Q Φ c'):K0 P Δ W Q Φ c:=by
 obtain⟨J,k,σ⟩:=c;replace H:=H.get;refine⟨?_⟩;unfold GW at h;simp only at h;split at h
 .rename_i x;split at h
  .injection h with h;subst h;exact λb β a w g=>wpIn_seq (H b β a w g)
  .injection h with h;subst h;exact λb β a w g=>wpIn_block (H b β a w g)
  .injection h with h;subst h;exact λb β a w g=>wpIn_skip (H b β a w g)
  .injection h with h;subst h;exact λb β a w g=>wpIn_label (H b β a w g)
  .injection h with h;subst h;exact λb β a w g=>wpIn_exit (H b β a w g)
  .injection h with h;subst h;exact λb β a w g=>wpIn_ret (H b β a w g)
  .injection h with h;subst h;exact λb β a w g=>wpIn_region (H b β a w g)
  .rename_i id s;split at h
   .rename_i M;injection h with h;subst h;intro b β a w g;refine wpIn_region_any wJ (TR (W:=W) (λR β σ Φ a w D g b=>D σ b β a w g) (λβ σ Φ a w wI g b=>wI b β a w g) _ _ σ Φ β a _ (H (bB M) (v_ _ _) b) g.drew b)
   .cases h
  .cases h
 .injection h with h;subst h;intro b β a w g;exact H b β a w g
 .rename_i s i l;split at h
  .cases h
  .split at h
   .rename_i o K;split at h
    .cases h
    .split at h
     .rename_i e v;injection h with h;subst h;intro b β a w g;show wpOpsIn Fe 0 P s (post P Q k) (i::l) a w;rw[wpOpsIn_cons];refine B5 (Z:=λ_ _=>False) (KA:=λσ' Φ'=>σ'=σ.app o.dst e/\Φ'=Φ) (.det e v ⟨rfl,rfl⟩) K g b (λ_ _ _ _ _ _ D=>D.elim) ?_;rintro E σ' Φ' L N ⟨rfl,rfl⟩ G j;exact H j E L N G
     .cases h
   .cases h
 .rename_i s p;split at h
  .rename_i g;injection h with h;subst h;exact λ_ _ b=>⟨g,λj=>H j⟩
  .cases h
 .rename_i s f p;generalize (if Nat.ble s.size stop then s.size else stop)=m at h;split at h
  .injection h with h;subst h;exact λu F b=>Gt u m 0 (f+1) p σ F b λA j=>H u A j
  .cases h
 .rename_i e;split at h
  .cases h
  .rename_i y B;split at h
   .injection h with h;subst h;intro b β a w g;exact H b β a w g
   .rename_i t;injection h with h;subst h;intro b β a w g;have:=H b β a w g;cases e<;>first|exact absurd rfl t|exact this
  .rename_i id B;split at h
   .rename_i z;split at h
    .rename_i v;injection h with h;subst h;intro b β a w g;have:=H b β a w g;show Exit.inBlock id (post P Q B) (.exit z) a w;simp only[Exit.inBlock];rw[YS (BM v)];exact this
    .rename_i v;injection h with h;subst h;intro b β a w g;have:=H b β a w g;show Exit.inBlock id (post P Q B) (.exit z) a w;simp only[Exit.inBlock];rw[YT (λe=>v (by rw[e];exact Nat.beq_refl _))];exact this
   .rename_i t;injection h with h;subst h;intro b β a w g;have:=H b β a w g;cases e<;>first|exact absurd rfl (t _)|exact this
  .rename_i bd B;split at h
   .injection h with h;subst h;intro b β a w g;exact We (H b β a w g)
   .rename_i t;injection h with h;subst h;intro b β a w g;have:=H b β a w g;cases e<;>first|exact absurd rfl t|exact this
def V5(c:Mm):Option Mm:=
 match c.foc with
 | .code (.loop bd)=>some ⟨.code bd,.lp bd::c.k,c.st⟩
 |_=>none
theorem vF [Rnd](h:V5 c=some c')(H:K0 P Δ W Q Φ c'):K0 P Δ W Q Φ c:=by
 obtain⟨e,k,σ⟩:=c;replace H:=H.get;refine⟨?_⟩;unfold V5 at h;simp only at h;split at h
 .injection h with h;subst h;intro b β a w f;exact lj (We (H b β a w f))
 .cases h
def Jl(P:YH)(stop:Nat)(c:Mm):Option Mm:=
 match c.foc with
 | .code (.cond x t e)=>match c.st.eval x with
  | .v (.bool b)=>some ⟨.code (if b then t else e),c.k,c.st⟩
  |_=>none
 | .code (.loop bd)=>some ⟨.code bd,.lp bd::c.k,c.st⟩
 |_=>GW P stop c
theorem OM [Rnd](p:P.follows .mixedOrders=true){stop:Nat}(h:Jl P stop c=some c')(H:K0 P Δ W Q Φ c'):K0 P Δ W Q Φ c:=by
 unfold Jl at h;split at h
 .rename_i x t e g;split at h
  .rename_i b l;injection h with h;subst h;obtain⟨o,k,σ⟩:=c;simp only at g l H;subst g;replace H:=H.get;refine⟨?_⟩;intro j β a w m;have f:=m.eval x;rw[l]at f;exact wpIn_cond f (H j β a w m)
  .cases h
 .rename_i bd g;refine vF (c':=c') ?_ H;unfold V5;rw[g];exact h
 .exact FK p h H
def P_(P:YH)(stop:Nat):Nat->Mm->Mm
 |0,c=>c
 |n+1,c=>match Jl P stop c with
  |some c'=>P_ P stop n c'
  |none=>c
theorem uv [Rnd](b:P.follows .mixedOrders=true){stop:Nat}:∀(n:Nat) (c:Mm),K0 P Δ W Q Φ (P_ P stop n c)->K0 P Δ W Q Φ c
 |0,c,h=>h
 |n+1,c,h=>by
  unfold P_ at h;split at h
  .rename_i c' e;exact OM b e (uv b n c' h)
  .exact h
def Lw(P:YH)(stop:Nat):Nat->Mm->Mm
 |0,c=>c
 |n+1,c=>match GW P stop c with
  |some c'=>Lw P stop n c'
  |none=>c
theorem uo [Rnd](b:P.follows .mixedOrders=true){stop:Nat}:∀(n:Nat) (c:Mm),K0 P Δ W Q Φ (Lw P stop n c)->K0 P Δ W Q Φ c
 |0,c,h=>h
 |n+1,c,h=>by
  unfold Lw at h;split at h
  .rename_i c' e;exact FK b e (uo b n c' h)
  .exact h
def fY(P:YH)(l:List Nat)(c:Mm):Mm:=
 match c.foc with
 | .any f fuel e=>if Nat.ble l.length fuel then(match Os P f l e c.st with
  |some (b,σ')=>⟨.any f (fuel-l.length) b,c.k,σ'⟩
  |none=>c)else c
 |_=>c
theorem vj [Rnd](l:List Nat)(h:K0 P Δ W Q Φ (fY P l c)):K0 P Δ W Q Φ c:=by
 obtain⟨s,k,σ⟩:=c;replace h:=h.get;refine⟨?_⟩;unfold fY at h;simp only at h;split at h
 .rename_i u fuel e;split at h
  .rename_i m;split at h
   .rename_i b σ' t;intro f p o;have:=NM (P:=P) (K:=λσ Φ=>σ.wf->∀β a w,Ok Δ W β σ Φ a w->post P Q k .normal a w) (fuel:=fuel-l.length) (Φ:=Φ) f l e b σ σ' p o t (λg j=>h f g j);rw[Nat.sub_add_cancel (AM m)]at this;exact this
   .exact h
  .exact h
 .exact h
def Nc(c:Mm):Option (Array XT×XT):=
 match c.foc with
 | .ops ops (i::_)=>(ops[i]?).map λo=>(ops,o)
 | .any ops (_+1) b=>match Region.ready .any ops b with
  | [i]=>(ops[i]?).map λo=>(ops,o)
  |_=>none
 |_=>none
def Y6(P:YH)(c:Mm):Option (XU×List AV):=
 match Nc c with
 |some (b,o)=>if Kx b o c.st then T8 P o c.st else none
 |none=>none
def Lp(v:AV)(c:Mm):Mm:=
 match c.foc with
 | .ops ops (i::l)=>⟨.ops ops l,c.k,c.st.put ((ops[i]?).bind (·.dst)) v⟩
 | .any ops fuel b=>match Region.ready .any ops b with
  |i::_=>⟨.any ops (fuel-1) (b.setIfInBounds i true),c.k,c.st.put ((ops[i]?).bind (·.dst)) v⟩
  |_=>c
 |_=>c
theorem uy [Rnd]{X:Type}{g:XU}{xs:List AV}{val:X->YI}{G:X->YM->Prop}(s:Y6 P c=some (g,xs))
 (J:∀β w,Below W.heap.size W w->Φ w->JG β c.st xs w->XW P g (xs.map (AV.conc β)).toArray w (K4 w val G))
 (h:∀x:X,K0 P Δ W Q (λw=>Φ w/\G x w) (Lp (.v (val x)) c)):K0 P Δ W Q Φ c:=by
 obtain⟨N,k,σ⟩:=c;replace h:=λx=>(h x).get
 refine⟨?_⟩;unfold Y6 at s;split at s
 .rename_i L o f;split at s
  .rename_i wI;unfold Nc at f;simp only at f;split at f
   .rename_i e i l;cases b:e[i]? with
    |none=>rw[b]at f;cases f
    |some B=>
     rw[b]at f;simp only[AI,AF,AQ]at f;obtain⟨rfl,rfl⟩:=f;intro t β a w S;show wpOpsIn Fe 0 P e (post P Q k) (i::l) a w;rw[wpOpsIn_cons];refine B5 (Z:=λ_ _=>False) (KA:=λσ' Φ'=>∃x,σ'=σ.put B.dst (.v (val x))/\Φ'=λw=>Φ w/\G x w) (.call g xs val G wI s J λx=>⟨x,rfl,rfl⟩) b S t (λ_ _ _ _ _ _ K=>K.elim) ?_;rintro D σ' Φ' R U ⟨x,rfl,rfl⟩ F z;have:=h x;simp only[Lp,b,AK]at this;exact this z D R U F
   .rename_i e fuel p;split at f
    .rename_i i m;cases b:e[i]? with
     |none=>rw[b]at f;cases f
     |some B=>
      rw[b]at f;simp only[AI,AF,AQ]at f;obtain⟨rfl,rfl⟩:=f;intro y E t;refine⟨λwJ=>(by rw[wJ]at m;cases m),λj H=> ?_⟩;rw[m]at H;obtain rfl:j=i:=by simpa using H
      obtain⟨_,T,A,u⟩:=mem_ready.1 (show j∈Region.ready .any e p by rw[m];simp);obtain rfl:B=T:=by rw[b]at A;injection A
      refine⟨B,b,.call g xs val G wI s J λx=> ?_⟩;have:=h x;simp only[Lp,m,b,AK,BJ]at this;exact this y (E.set_ b u) (t.put _ (by intro k M;simp[AV.ids]at M))
    .cases f
   .cases f
  .cases s
 .cases s
def Q1(P:YH)(c:Mm):Option (XU×Array YI):=
 match Y6 P c with
 |some (g,xs)=>match Cv xs with
  |some vs=>some (g,vs.toArray)
  |none=>none
 |none=>none
theorem vr [Rnd]{X:Type}{g:XU}{args:Array YI}{val:X->YI}{G:X->YM->Prop}
 (k:∀w,Below W.heap.size W w->Φ w->XW P g args w (K4 w val G)) (b:Q1 P c=some (g,args))
 (h:∀x:X,K0 P Δ W Q (λw=>Φ w/\G x w) (Lp (.v (val x)) c)):K0 P Δ W Q Φ c:=by
 unfold Q1 at b;split at b
 .rename_i m xs f;split at b
  .rename_i vs l;injection b with b;injection b with h1 h2;subst h1;subst h2;exact uy f (λβ w j e _=>by rw[Qp l];exact k w j e) h
  .cases b
 .cases b
def Pg(c:Mm):Option (Sem Next):=
 match Nc c with
 |some (b,o)=>match o.op with
  | .select _ _=>none
  | .move _=>none
  |_=>if Kx b o c.st&&c.st.plain o.op then some (execOp c.st.rho o)else none
 |none=>none
def Ox(c:Mm):Option (Sem Next):=
 if (match Nc c with|some (ops,o)=>Qm ops c.st o|none=>false)then none else Pg c
theorem Nk{c:Mm}{s:Sem Next}(h:Ox c=some s):Pg c=some s/\∀b o,Nc c=some (b,o)->Qm b c.st o=false:=by
 unfold Ox at h;cases f:(match Nc c with|some (b,o)=>Qm b c.st o|none=>false)with
 |true=>rw[f]at h;cases h
 |false=>
  rw[f]at h;exact⟨h,λb o e=>by rw[e]at f;exact f⟩
theorem uw [Rnd](s:Sem Next)(v:YI)(p:Ox c=some s)(N:∀w,Below W.heap.size W w->Φ w->s.run P w= .ok (.value v) w)(h:K0 P Δ W Q Φ (Lp (.v v) c)):K0 P Δ W Q Φ c:=by
 obtain⟨T,k,σ⟩:=c;replace h:=h.get;refine⟨?_⟩;have Y:=(Nk p).2;replace p:=(Nk p).1;unfold Pg at p;split at p
 .rename_i R o g;have H:=Y _ _ g;split at p
  .cases p
  .cases p
  .rename_i D G;split at p
   .rename_i E;simp only[AE]at E;injection p with p;subst p;unfold Nc at g;simp only at g;split at g
    .rename_i m i l;cases f:m[i]? with
     |none=>rw[f]at g;cases g
     |some wI=>
      rw[f]at g;simp only[AI,AF,AQ]at g;obtain⟨rfl,rfl⟩:=g;intro y β a w hr;show wpOpsIn Fe 0 P m (post P Q k) (i::l) a w;rw[wpOpsIn_cons];refine B5 (Z:=λ_ _=>False) (KA:=λσ' Φ'=>σ'=σ.put wI.dst (.v v)/\Φ'=Φ) (.ask v E.1 E.2 (λcs b e=>D cs b e) (GI λx e=>G x e) H (λw a b=> .inl (N w a b)) ⟨rfl,rfl⟩) f hr y (λ_ _ _ _ _ _ wJ=>wJ.elim) ?_;rintro J σ' Φ' X w' ⟨rfl,rfl⟩ L F;simp only[Lp,f,AK]at h;exact h F J X w' L
    .rename_i m fuel u;split at g
     .rename_i i t;cases f:m[i]? with
      |none=>rw[f]at g;cases g
      |some wI=>
       rw[f]at g;simp only[AI,AF,AQ]at g;obtain⟨rfl,rfl⟩:=g;intro B K y;refine⟨λU=>(by rw[U]at t;cases t),λj M=> ?_⟩;rw[t]at M;obtain rfl:j=i:=by simpa using M
       obtain⟨_,o2,z,A⟩:=mem_ready.1 (show j∈Region.ready .any m u by rw[t];simp);obtain rfl:wI=o2:=by rw[f]at z;injection z
       refine⟨wI,f,.ask v E.1 E.2 (λcs b e=>D cs b e) (GI λx e=>G x e) H (λw a b=> .inl (N w a b)) ?_⟩;simp only[Lp,t,f,AK,BJ]at h;exact h B (K.set_ f A) (y.put _ (by intro k S;simp[AV.ids]at S))
     .cases g
    .cases g
   .cases p
 .cases p
theorem uk [Rnd]{X:Type}(s:Sem Next)(val:X->YI)(G:X->YM->Prop)(p:Ox c=some s)(M:∀w,Below W.heap.size W w->Φ w->M9 P w val G s)(h:∀x,K0 P Δ W Q (λw=>Φ w/\G x w) (Lp (.v (val x)) c)):K0 P Δ W Q Φ c:=by
 obtain⟨S,k,σ⟩:=c;replace h:=λx=>(h x).get
 refine⟨?_⟩;replace p:=(Nk p).1;unfold Pg at p;split at p
 .rename_i wJ o m;split at p
  .cases p
  .cases p
  .rename_i D Y;split at p
   .rename_i E;simp only[AE]at E;injection p with p;subst p;unfold Nc at m;simp only at m;split at m
    .rename_i g i l;cases f:g[i]? with
     |none=>rw[f]at m;cases m
     |some H=>
      rw[f]at m;simp only[AI,AF,AQ]at m;obtain⟨rfl,rfl⟩:=m;intro y β a w hr;show wpOpsIn Fe 0 P g (post P Q k) (i::l) a w;rw[wpOpsIn_cons];refine B5 (Z:=λ_ _=>False) (KA:=λσ' Φ'=>∃x,σ'=σ.put H.dst (.v (val x))/\Φ'=λw=>Φ w/\G x w) (.make val G E.1 E.2 (λcs b e=>D cs b e) M λx=>⟨x,rfl,rfl⟩) f hr y (λ_ _ _ _ _ _ N=>N.elim) ?_;rintro wI σ' Φ' U w' ⟨x,rfl,rfl⟩ K F;have:=h x;simp only[Lp,f,AK]at this;exact this F wI U w' K
    .rename_i g fuel u;split at m
     .rename_i i t;cases f:g[i]? with
      |none=>rw[f]at m;cases m
      |some H=>
       rw[f]at m;simp only[AI,AF,AQ]at m;obtain⟨rfl,rfl⟩:=m;intro B J y;refine⟨λT=>(by rw[T]at t;cases t),λj L=> ?_⟩;rw[t]at L;obtain rfl:j=i:=by simpa using L
       obtain⟨_,o2,z,A⟩:=mem_ready.1 (show j∈Region.ready .any g u by rw[t];simp);obtain rfl:H=o2:=by rw[f]at z;injection z
       refine⟨H,f,.make val G E.1 E.2 (λcs b e=>D cs b e) M λx=> ?_⟩;have:=h x;simp only[Lp,t,f,AK,BJ]at this;exact this B (J.set_ f A) (y.put _ (by intro k R;simp[AV.ids]at R))
     .cases m
    .cases m
   .cases p
 .cases p
def T7(c:Mm):Option Bool:=
 match c.foc with
 | .code (.cond x _ _)=>match c.st.eval x with
  | .v (.bool b)=>some b
  |_=>none
 |_=>none
def V6(b:Bool)(c:Mm):Mm:=
 match c.foc with
 | .code (.cond _ x y)=>⟨.code (if b then x else y),c.k,c.st⟩
 |_=>c
theorem uu [Rnd](b:Bool)(f:T7 c=some b)(h:K0 P Δ W Q Φ (V6 b c)):K0 P Δ W Q Φ c:=by
 obtain⟨o,k,σ⟩:=c;replace h:=h.get;refine⟨?_⟩;unfold T7 at f;simp only at f;split at f
 .rename_i x t e;split at f
  .rename_i p m;injection f with f;subst f;intro j β a w l;have g:=l.eval x;rw[m]at g;exact wpIn_cond g (h j β a w l)
  .cases f
 .cases f
theorem ul [Rnd](b lit:Bool)(f:T7 c=some b)(e:b=lit)(h:K0 P Δ W Q Φ (V6 lit c)):K0 P Δ W Q Φ c:=by
 subst e;exact uu b f h
theorem Kz{β:Nat->Nat}{σ:AS}{xs:List AV}{w:YM}(h:JG β σ xs w){k:Nat}(b:∃x∈xs,k∈x.ids){cs:List AV}(f:σ.box k=some cs):
 ∃ty,w.heap[β k]? =some (.cells (cs.map (AV.conc β)).toArray ty (0,0)):=by
 obtain⟨x,e,b⟩:=b;exact h x e k b cs f
def Ky(t:Nat)(v:YI)(c:Mm):Mm:=⟨c.foc,c.k,⟨c.st.tmps.set t (.v v),c.st.box⟩⟩
theorem uh [Rnd](t:Nat)(v f:YI)(g:c.st.tmps[t]? =some (.v v))(e:v=f)(h:K0 P Δ W Q Φ (Ky t f c)):K0 P Δ W Q Φ c:=by
 subst e;have:Ky t v c=c:=by
  obtain⟨l,k,σ⟩:=c;obtain⟨o,bx⟩:=σ;simp only[Ky];congr 2;refine CA λj=> ?_
  by_cases e:t=j
  .subst e;simp only at g;rw[List.getElem?_set];obtain⟨b,m⟩:=List.getElem?_eq_some_iff.1 g;simp[b,m]
  .rw[List.getElem?_set_ne e]
 rw[this]at h;exact h
def IR(P:YH)(σ:AS):ResultVar->Option YI
 | .tmp t=>match σ.tmps.getD t (.v undef)with
  | .v x=>some x
  |_=>none
 | .cell t ty=>match σ.tmps.getD t (.v undef)with
  | .p k off=>match σ.box k with
   |some cs=>match Vr P ty off cs with
    |some ⟨.v x,none⟩=>some x
    |_=>none
   |none=>none
  |_=>none
def T0(P:YH)(σ:AS):List ResultVar->Option (List YI)
 | []=>some []
 |r::l=>match IR P σ r,T0 P σ l with
  |some x,some xs=>some (x::xs)
  |_,_=>none
def Hm:List YI->YI
 | [x]=>x
 |xs=> .tuple xs.toArray
def A9(P:YH)(fn:Func)(c:Mm):Option YI:=
 match c.foc,c.k with
 | .out .ret,[]=>(T0 P c.st fn.results.toList).map Hm
 | .out .normal,[]=>(T0 P c.st fn.results.toList).map Hm
 |_,_=>none
def Xz(tmps:Array YI):ResultVar->Sem YI
 | .tmp t=>pure (tmps.getD t undef)
 | .cell a t=>do loadVar t (<-asAddr (tmps.getD a undef))
theorem Tk(fn:Func)(tmps:Array YI):results fn tmps=(fn.results.mapM (Xz tmps) >>= λvs=>pure (if h:vs.size=1 then vs[0]else .tuple vs)):=by
 unfold results;congr 1
theorem XB{β:Nat->Nat}{σ:AS}{a:Act}{w:YM}{r:ResultVar}{x:YI}(h:IR P σ r=some x)(g:Ok Δ W β σ Φ a w)(s:σ.wf):
 (Xz a.tmps r).run P w= .ok x w:=by
 have b:∀t,a.tmps.getD t undef=(σ.tmps.getD t (.v undef)).conc β:=λt=>g.eval (.tmp t)
 cases r with
 | tmp t=>
  simp only[IR]at h;split at h
  .rename_i y f;injection h with h;subst h;simp only[Xz,b,f,AV.conc,AC]
  .cases h
 | cell p t=>
  simp only[IR]at h;split at h
  .rename_i k off u;split at h
   .rename_i cs l;split at h
    .rename_i y f;injection h with h;subst h;obtain⟨_,o,m⟩:=g.box k cs l;have j:=(F1 m f).1;have e:=b p;rw[u]at e;simp only[Xz,e,AV.conc,asAddr,AB,AC,AA];exact j
    .cases h
   .cases h
  .cases h
theorem EQ{β:Nat->Nat}{σ:AS}{a:Act}{w:YM}(f:Ok Δ W β σ Φ a w)(b:σ.wf):∀(l:List ResultVar) (xs:List YI),T0 P σ l=some xs->
 (l.mapM (Xz a.tmps)).run P w= .ok xs w
 | [],xs,h=>by simp[T0]at h;subst h;simp
 | r::l,xs,h=>by
  simp only[T0]at h;split at h
  .rename_i x e m k;injection h with h;subst h;have j:=XB m f b;have g:=EQ f b l e k;rw[List.mapM_cons,AB,j,AA,AB,g]
   rfl
  .cases h
theorem Vc{β:Nat->Nat}{σ:AS}{a:Act}{w:YM}{fn:Func}{xs:List YI}(h:T0 P σ fn.results.toList=some xs)(e:Ok Δ W β σ Φ a w)(b:σ.wf):
 (results fn a.tmps).run P w= .ok (Hm xs) w:=by
 have:=EQ e b _ _ h;rw[Tk,AB,Array.mapM_eq_mapM_toList,Sem.run_map];simp only[this,AA,AC];congr 1
 match xs with
 | []=>rfl
 | [x]=>rfl
 |x::y::l=>
  rw[dif_neg Zs]
  rfl
theorem vu [Rnd]{fn:Func}{R:XS->YM->Prop}{v:YI}(h:A9 P fn c=some v)(u:∀w,Below W.heap.size W w->(∀j,w.heap.size<=j.heap.size->(∀b,W.heap.size<=b->b<w.heap.size->j.heap[b]? =w.heap[b]?)->Φ j)->R (.returned v) w):K0 P [] W (bodyPost P fn R) Φ c:=by
 obtain⟨x,k,σ⟩:=c;refine⟨?_⟩;unfold A9 at h;split at h
 .rename_i l m;simp only at l m;subst l;subst m;cases f:T0 P σ fn.results.toList with
  |none=>rw[f]at h;cases h
  |some xs=>
   simp only[f,AI,AF]at h;subst h;intro g β a w e;exact⟨e.defers,_,Vc f e g,u w e.bel λj p t=>e.keep j ⟨p,λb o s _=>t b o s⟩⟩
 .rename_i l m;simp only at l m;subst l;subst m;cases f:T0 P σ fn.results.toList with
  |none=>rw[f]at h;cases h
  |some xs=>
   simp only[f,AI,AF]at h;subst h;intro g β a w e;exact⟨e.defers,_,Vc f e g,u w e.bel λj p t=>e.keep j ⟨p,λb o s _=>t b o s⟩⟩
 .cases h
end
def Rs(fn:Func)(args:Array YI):Mm:=⟨.code (fn.body.getD .skip),[],⟨args.toList.map .v++List.replicate (fn.ntmps-args.size) (.v undef),λ_=>none⟩⟩
theorem uf{P:YH}{f:XU}{fn:Func}{args:Array YI}{w:YM}{R:XS->YM->Prop}
 (l:P.funcs[f]? =some fn) (o:fn.body.isSome=true)
 (h:K0 P [] w (bodyPost P fn R) (λ_=>True) (Rs fn args)):XW P f args w R:=by
 obtain⟨c,e⟩:=AL.1 o;replace h:=h.get;simp only[Qq,Rs,e,BS]at h;refine calls_of_wp l e (wpIn_wide.1 (h ?_ (λ_=>0) _ w ?_))
 .refine⟨λx g k b=> ?_,λj cs m=>by cases m⟩;simp only[BK,AP,List.mem_replicate]at g;rcases g with ⟨q,_,rfl⟩|⟨_,rfl⟩<;>simp[AV.ids]at b
 .refine⟨?_,rfl,Below.refl _ _,λk cs b=>(by cases b),λk p b=>(by cases b),λt s=>trivial⟩;simp[AY,AV.conc]
theorem Wb [Rnd]{P:YH}{W:YM}{f:Array XT}{Z:List XV->(YM->Prop)->Prop}{K:AS->(YM->Prop)->Prop}{i:Nat}{o:XT}{v:YI}(hi:f[i]? =some o)(hssa:o4 f)(hns:∀cs b,o.op≠ .select cs b)(hmv:WU o.op=false):
 ∀(fuel:Nat) (c:Array Bool) (σ:AS) (Φ:YM->Prop),Ng f c->σ.wf->i∈Region.ready .any f c->Kx f o σ=true->σ.plain o.op=true->Qm f σ o=false->
  (∀w,Below W.heap.size W w->Φ w->cm P (execOp σ.rho o) v w)->
  Ee P W f Z K fuel (c.setIfInBounds i true) (σ.put o.dst (.v v)) Φ->Ee P W f Z K (fuel+1) c σ Φ:=by
 intro fuel;induction fuel with
 | zero=>
  intro c σ Φ F hwf S hw hp T hs H;refine⟨λh=>(by rw[h]at S;cases S),λj hj=> ?_⟩
  by_cases l:j=i
  .subst l;exact⟨o,hi,.ask v hw hp hns hmv T hs H⟩
  .have:=ready_mono hj l;rw[H.1]at this;cases this
 | succ fuel ih=>
  intro c σ Φ F hwf S hw hp T hs H;refine⟨λh=>(by rw[h]at S;cases S),λj hj=> ?_⟩
  by_cases l:j=i
  .subst l;exact⟨o,hi,.ask v hw hp hns hmv T hs H⟩
  .obtain⟨z,p,h1⟩:=H.2 j (ready_mono hj l);refine⟨z,p,?_⟩;obtain⟨hjun,oj',hoj',A⟩:=mem_ready.1 hj;obtain rfl:z=oj':=by rw[p]at hoj';injection hoj'
   obtain⟨hiun,oi',hoi',Y⟩:=mem_ready.1 S;obtain rfl:o=oi':=by rw[hi]at hoi';injection hoi'
   have unl:∀{m:Nat},c.getD m true=false->c.getD m false=true->False:=λ{m} h1 h2=>by
    rcases BN m c.size with h'|h'
    .simp[h']at h1 h2;rw[h1]at h2;cases h2
    .simp[BL h']at h2
   have apj:∀d,o.dst=some d->d∉z.looksAt f:=λd hd U=>by
    rcases(hssa i j o z hi p (Ne.symm l) d hd).2 U with ⟨e,he,J,N⟩|⟨e,he,J,N⟩
    .have:=A e he J;rw[N]at this;exact unl hiun this
    .have:=Y e he J;rw[N]at this;exact unl hjun this
   have B:∀d,z.dst=some d->d∉o.looksAt f:=λd hd U=>by
    rcases(hssa j i z o p hi l d hd).2 U with ⟨e,he,J,N⟩|⟨e,he,J,N⟩
    .have:=Y e he J;rw[N]at this;exact unl hjun this
    .have:=A e he J;rw[N]at this;exact unl hiun this
   have apd:∀t,o.dst=some t->z.dst≠some t:=λt ht=>(hssa i j o z hi p (Ne.symm l) t ht).1
   have R:∀x∈z.op.operands,(σ.put o.dst (.v v)).eval x=σ.eval x:=λx wI=>ut (Of apj wI)
   have wj:Kx f z (σ.put o.dst (.v v))=Kx f z σ:=Mw apj;have stay:∀{σ2:AS} {Φ2:YM->Prop},Qm f σ2 o=Qm f σ o->(∀x∈o.op.operands,σ2.eval x=σ.eval x)->Kx f o σ2=Kx f o σ->(∀w,Φ2 w->Φ w)->
    Kx f o σ2=true/\σ2.plain o.op=true/\Qm f σ2 o=false/\∀w,Below W.heap.size W w->Φ2 w->cm P (execOp σ2.rho o) v w:=λ{σ2 Φ2} hch he hw2 wJ=>by
    refine⟨hw2.trans hw,by rw[Me he];exact hp,hch.trans T,λw J h2=> ?_⟩;have E:∀x∈o.op.operands,σ2.rho x=σ.rho x:=λx wI=>by unfold AS.rho;rw[he x wI]
    rw[execOp_congr o hns E];exact hs w J (wJ w h2)
   cases h1 with
   | det ej L hK=>
    have hej1:Ua P f z σ=some ej:=by
     unfold Ua at L ⊢;rw[wj]at L;cases J:Kx f z σ with
     |false=>rw[J]at L;exact L
     |true=>
      rw[J]at L;simp only[if_true]at L ⊢;rw[<-L];exact(Rh R λk _=>by rw[uS]).symm
    obtain⟨s1,s2,s4,s3⟩:=stay (σ2:=σ.app z.dst ej) (Φ2:=Φ) (Nh (λq Q y D=>uI (N6 p Q y D)) _) (λx wI=>uI (Of B wI)) (Xq B) (λ_ h=>h);refine .det ej hej1 (ih (c.setIfInBounds j true) _ Φ (F.set_ p A) (HA hej1 hwf) (ready_mono S (Ne.symm l)) s1 s2 s4 s3 ?_);rw[AH _ _ l];have e:=uX σ (d:=z.dst) (d':=o.dst) (x:=ej) (v:= .v v) (λt ht e=>apd t e ht);rw[e];exact hK
   | @call X g xs val G hwc hc hsc hK=>
    have hc':T8 P z σ=some (g,xs):=by rw[<-Tv R];exact hc
    refine .call g xs val G (by rw[<-wj];exact hwc) hc' (λβ w hbl wJ hB=>hsc β w hbl wJ λx wI k hk cs hcs=>hB x wI k hk cs (by rw[uS]at hcs;exact hcs)) (λx=> ?_);obtain⟨s1,s2,s4,s3⟩:=stay (σ2:=σ.put z.dst (.v (val x))) (Φ2:=λw=>Φ w/\G x w) (Nh (λq Q y D=>ut (N6 p Q y D)) _) (λx wI=>ut (Of B wI)) (Mw B) (λ_ h=>h.1);refine ih (c.setIfInBounds j true) _ _ (F.set_ p A) (hwf.put _ (by intro k hk;simp[AV.ids]at hk)) (ready_mono S (Ne.symm l)) s1 s2 s4 s3 ?_;rw[AH _ _ l,<-uZ σ _ _ apd];exact hK x
   |ask u hwa hpa hna hmva hcba hsa hK=>
    have E:∀x∈z.op.operands,(σ.put o.dst (.v v)).rho x=σ.rho x:=λx wI=>by unfold AS.rho;rw[R x wI]
    refine .ask u (by rw[<-wj];exact hwa) (by rw[<-Me R];exact hpa) hna hmva (by rw[<-Nh (σ:=σ) (σ':=σ.put o.dst (.v v)) λq Q y D=>ut (N6 hi Q y D)];exact hcba) (λw J wJ=>by rw[<-execOp_congr z hna E];exact hsa w J wJ) ?_;obtain⟨s1,s2,s4,s3⟩:=stay (σ2:=σ.put z.dst (.v u)) (Φ2:=Φ) (Nh (λq Q y D=>ut (N6 p Q y D)) _) (λx wI=>ut (Of B wI)) (Mw B) (λ_ h=>h);refine ih (c.setIfInBounds j true) _ _ (F.set_ p A) (hwf.put _ (by intro k hk;simp[AV.ids]at hk)) (ready_mono S (Ne.symm l)) s1 s2 s4 s3 ?_;rw[AH _ _ l,<-uZ σ _ _ apd];exact hK
   | pan ch Φ2 g xs vs hl _ _ _ _ _ _ _ _=>
    rcases hl j p c i F hj S with s|⟨ok,s,⟨M,h6⟩|M|M⟩
    .exact absurd s.symm l
    rotate_left
    .rw[hi]at s;injection s with s;subst s;rw[hmv]at M;cases M
    .rw[hi]at s;injection s with s;subst s;rw[Nh (σ:=σ) (σ':=σ.put o.dst (.v v)) λq Q y D=>ut (N6 hi Q y D),T]at M;cases M
    .rw[hi]at s;injection s with s;subst s;rw[<-Me (σ:=σ) (σ':=σ.put o.dst (.v v)) λy D=>ut (N6 hi M y D)]at hp;rw[hp]at h6;cases h6
   | mutm val G Φ2 hl _ _ _ _ _ _ _=>
    rcases hl j p c i F hj S with s|⟨ok,s,⟨M,h6⟩|M|M⟩
    .exact absurd s.symm l
    rotate_left
    .rw[hi]at s;injection s with s;subst s;rw[hmv]at M;cases M
    .rw[hi]at s;injection s with s;subst s;rw[Nh (σ:=σ) (σ':=σ.put o.dst (.v v)) λq Q y D=>ut (N6 hi Q y D),T]at M;cases M
    .rw[hi]at s;injection s with s;subst s;rw[<-Me (σ:=σ) (σ':=σ.put o.dst (.v v)) λy D=>ut (N6 hi M y D)]at hp;rw[hp]at h6;cases h6
   |lone hl _=>exact absurd (hl j p c i F hj S).symm l
   | @make X val G hwa hpa hna hsa hK=>
    have E:∀x∈z.op.operands,(σ.put o.dst (.v v)).rho x=σ.rho x:=λx wI=>by unfold AS.rho;rw[R x wI]
    refine .make val G (by rw[<-wj];exact hwa) (by rw[<-Me R];exact hpa) hna (λw J wJ=>by rw[<-execOp_congr z hna E];exact hsa w J wJ) λx=> ?_
    obtain⟨s1,s2,s4,s3⟩:=stay (σ2:=σ.put z.dst (.v (val x))) (Φ2:=λw=>Φ w/\G x w) (Nh (λq Q y D=>ut (N6 p Q y D)) _) (λx wI=>ut (Of B wI)) (Mw B) (λ_ h=>h.1);refine ih (c.setIfInBounds j true) _ _ (F.set_ p A) (hwf.put _ (by intro k hk;simp[AV.ids]at hk)) (ready_mono S (Ne.symm l)) s1 s2 s4 s3 ?_;rw[AH _ _ l,<-uZ σ _ _ apd];exact hK x
section
variable{P:YH}{Δ:List XY}{W:YM}{Q:Exit->Act->YM->Prop}{Φ:YM->Prop}{c:Mm}
def askAt(i:Nat)(c:Mm):Option (Sem Next):=
 match c.foc with
 | .any b (_+1) e=>match b[i]? with
  |some o=>match o.op with
   | .select _ _=>none
   | .move _=>none
   |_=>if (Hp b e i o&& !Qm b c.st o)&&(Kx b o c.st&&c.st.plain o.op)then some (execOp c.st.rho o)else none
  |none=>none
 |_=>none
def Ae(i:Nat)(v:YI)(c:Mm):Mm:=
 match c.foc with
 | .any e fuel b=>⟨.any e (fuel-1) (b.setIfInBounds i true),c.k,c.st.put ((e[i]?).bind (·.dst)) (.v v)⟩
 |_=>c
theorem us [Rnd](i:Nat)(s:Sem Next)(v:YI)(f:askAt i c=some s)(H:∀w,Below W.heap.size W w->Φ w->s.run P w= .ok (.value v) w)(h:K0 P Δ W Q Φ (Ae i v c)):K0 P Δ W Q Φ c:=by
 obtain⟨F,k,σ⟩:=c;replace h:=h.get;refine⟨?_⟩;unfold Go.Proofs.YtoakjcolbjifnaaGreatDoor.askAt at f;simp only at f;split at f
 .rename_i D fuel g;split at f
  .rename_i o l;split at f
   .cases f
   .cases f
   .rename_i z A;split at f
    .rename_i u;simp only[AE]at u;injection f with f;subst f;intro j p y;have B:=En l u.1.1;obtain⟨_,G,t,m⟩:=mem_ready.1 B;obtain rfl:o=G:=by rw[l]at t;injection t
     refine Wb (v:=v) l j (λcs b e=>z cs b e) (GI λx e=>A x e) fuel g σ Φ p y B u.2.1 u.2.2 (by simpa using u.1.2) (λw a b=> .inl (H w a b)) ?_;have:=h j (p.set_ l m) (by simp only[Ae,l,AK];exact y.put _ (by intro k E;simp[AV.ids]at E));simp only[Ae,l,AK,BJ]at this;exact this
    .cases f
  .cases f
 .cases f
end
structure LS where
 slots:List (Nat×AV)
 boxes:List (Nat×List AV)
def Y8{α:Type}:List (Nat×α)->Nat->Option α
 | [],_=>none
 |(k,x)::l,j=>if AU k j then some x else Y8 l j
def Dv(l:List (Nat×AV))(g:Nat->YI):Nat->Nat->List AV
 |0,_=>[]
 |n+1,t=>(match Y8 l t with|some x=>x|none=> .v (g t))::Dv l g n (t+1)
def LS.st(l:LS)(n:Nat)(g:Nat->YI):AS:=⟨Dv l.slots g n 0,Y8 l.boxes⟩
def LS.ok(l:LS):Bool:=(l.slots.all λp=>p.2.ids.all λk=>(Y8 l.boxes k).isSome)&&(l.boxes.all λp=>p.2.all λx=>x.ids.all λk=>(Y8 l.boxes k).isSome)
def LS.fits(l:LS)(n:Nat)(σ:AS):Prop:=(l.slots.map λp=>σ.tmps[p.1]?)=(l.slots.map λp=>some p.2)/\(l.boxes.map λp=>σ.box p.1)=(l.boxes.map λp=>some p.2)/\σ.tmps.length=n
theorem Vk{α:Type}{l:List (Nat×α)}{k:Nat}{x:α}(h:Y8 l k=some x):(k,x)∈l:=by
 induction l with
 |nil=>cases h
 | cons p l c=>
  obtain⟨j,y⟩:=p;simp only[Y8]at h;split at h
  .rename_i b;injection h with h;have:=BM b;subst h;subst this;exact BY ..
  .exact BV _ (c h)
theorem Ar(l:List (Nat×AV))(g:Nat->YI):∀(n t j:Nat),(Dv l g n t)[j]? =if j<n then some (match Y8 l (t+j)with|some x=>x|none=> .v (g (t+j)))else none
 |0,t,j=>by simp[Dv]
 |n+1,t,0=>by simp[Dv]
 |n+1,t,j+1=>by
  simp only[Dv,List.getElem?_cons_succ];rw[Ar l g n (t+1) j,show t+1+j=t+(j+1) by omega];simp
theorem U4{α β:Type}{f g:α->β}:∀{l:List α},l.map f=l.map g->∀x∈l,f x=g x
 | [],_,x,b=>by cases b
 |y::l,h,x,b=>by
  simp only[List.map_cons]at h;injection h with h1 h2;rcases CF.1 b with rfl|b
  .exact h1
  .exact U4 h2 x b
theorem LS.wf{l:LS}(h:l.ok=true)(n:Nat)(g:Nat->YI):(l.st n g).wf:=by
 simp only[LS.ok,AE,AD]at h;refine⟨λx e k c=> ?_,λj cs f x e k c=> ?_⟩
 .obtain⟨t,b⟩:=List.mem_iff_getElem?.1 e;simp only[LS.st,Ar]at b;split at b
  .injection b with b;split at b
   .rename_i y m;subst b;exact h.1 _ (Vk m) k c
   .subst b;simp[AV.ids]at c
  .cases b
 .exact h.2 _ (Vk f) x e k c
theorem wk{l:LS}{n:Nat}{Δ:List XY}{W:YM}{β:Nat->Nat}{σ:AS}{Φ:YM->Prop}{a:Act}{w:YM}(h:l.fits n σ)(o:Ok Δ W β σ Φ a w):∃g,Ok Δ W β (l.st n g) Φ a w:=by
 obtain⟨F,K,Z⟩:=h;have c:∀k cs,(l.st n (λt=>a.tmps.getD t undef)).box k=some cs->σ.box k=some cs:=λk cs f=>U4 K _ (Vk f)
 refine⟨λt=>a.tmps.getD t undef,⟨?_,o.defers,o.bel,λk cs f=>o.box k cs (c k cs f),λk z f s e=> ?_,λJ B=>o.keep J ⟨B.size,λb E G f=>B.heap b E G λk u=> ?_⟩⟩⟩
 .refine CA λj=> ?_
  rw[AZ];simp only[LS.st,Ar,BX];have D:a.tmps.toList.length=n:=by rw[o.tmps,List.length_map,Z]
  by_cases A:j<n
  .rw[YS A];have y:j<a.tmps.size:=by simpa using(by omega:j<a.tmps.toList.length)
   simp only[AI];split
   .rename_i x H;have:=U4 F _ (Vk H);simp only at this;rw[o.tmps,AZ,this];rfl
   .simp[AV.conc,y]
  .rw[YT A,List.getElem?_eq_none I];rfl
 .obtain⟨cs,m⟩:=AL.1 f;obtain⟨v,p⟩:=AL.1 s;exact o.inj k z (by rw[c k cs m];rfl) (by rw[c z v p];rfl) e
 .obtain⟨cs,m⟩:=AL.1 u;exact f k (by rw[c k cs m];rfl)
section
variable{P:YH}{Δ:List XY}{W:YM}{Q:Exit->Act->YM->Prop}{Φ:YM->Prop}{c:Mm}
def bD [Rnd](P:YH)(Δ:List XY)(W:YM)(Q:Exit->Act->YM->Prop)(k:List ny){ι:Type}(f:ι->LS)(n:Nat)(Ψ:ι->YM->Prop)(μ:ι->Nat)(i:ι):Exit->Act->YM->Prop
 | .normal,a,w=>∃j β g,μ j<μ i/\Ok Δ W β ((f j).st n g) (Ψ j) a w
 |e,a,w=>post P Q k e a w
def QR(c:Mm):Option Code:=
 match c.foc with
 | .code (.loop body)=>some body
 |_=>none
theorem uj [Rnd]{ι:Type}(n:Nat)(f:ι->LS)(Ψ:ι->YM->Prop)(μ:ι->Nat)(H:ι)(G:(QR c).isSome=true)(wJ:∀i,(f i).ok=true)(X:(f H).fits n c.st)(M:∀w,Φ w->Ψ H w)
 (round:∀i g,K0 P Δ W (bD P Δ W Q c.k f n Ψ μ i) (Ψ i) ⟨.code ((QR c).getD .skip),[],(f i).st n g⟩):K0 P Δ W Q Φ c:=by
 obtain⟨T,k,σ⟩:=c;refine⟨?_⟩;unfold QR at G round;simp only at G round;split at G
 .rename_i bd;simp only[BS]at round;intro Y β a w J;obtain⟨g,z⟩:=wk X ({J with keep:=λB U=>M B (J.keep B U)}:Ok Δ W β σ (Ψ H) a w);have N:∀m (i:ι),μ i=m->∀β g a w,Ok Δ W β ((f i).st n g) (Ψ i) a w->∀(b:Frame) (A:List Item) (cs:List Frame),b.roundOf=Fe.round->
   ∃e wI B,post P Q k e wI B/\ArrivesIn (Machine.fenced P Fe) P (lone (b.atR a (.code bd:: .inLoop bd::A)) cs w) b A cs e wI B:=by
   intro m;induction m using Nat.strongRecOn with
   | _ m Z=>
    intro i hm β g a w J b A cs t;have u:∀n,(Fe.room n):=λn d R=>by cases R
    obtain⟨e,p,o,v,h⟩:=(round i g).get (LS.wf (wJ i) n g) β a w J b (.inLoop bd::A) cs t trivial (u _);cases e with
    |normal=>
     obtain⟨j,K,S,L,z⟩:=v;obtain⟨D,F,E,y,s⟩:=Z (μ j) (hm▸L) j rfl K S p o z b A cs t;exact⟨D,F,E,y,.of_steps (StepsIn.trans h (.one (fenced_calm (n:=0) trivial (u _) rfl) stepR_inLoop)) s⟩
    |exit id=>exact⟨_,p,o,v,.pass (x:= .inLoop bd) rfl (λ_ _=> .inl Zs) h⟩
    |goto l=>exact⟨_,p,o,v,.pass (x:= .inLoop bd) rfl (λ_ _=> .inl Zs) h⟩
    |ret=>exact⟨_,p,o,v,.pass (x:= .inLoop bd) rfl (λ_ _=> .inl Zs) h⟩
    |panic ch=>exact⟨_,p,o,v,.pass (x:= .inLoop bd) rfl (λ_ _=> .inl Zs) h⟩
    |outgrown=>exact⟨_,p,o,v,.pass (x:= .inLoop bd) rfl (λ_ _=> .inl Zs) h⟩
  intro b A cs t _ _;obtain⟨e,wI,B,v,h⟩:=N _ H rfl β g a w z b A cs t;exact⟨e,wI,B,v,.of_steps (.one (fenced_calm (n:=0) trivial (λd R=>by cases R) rfl) stepR_loop) h⟩
 .cases G
def FQ(c:Mm):Bool:=
 match c.foc,c.k with
 | .out .normal,[]=>true
 |_,_=>false
theorem ui [Rnd]{ι:Type}{n:Nat}{f:ι->LS}{Ψ:ι->YM->Prop}{μ:ι->Nat}{i:ι}{k:List ny}(j:ι)(l:FQ c=true)(o:μ j<μ i)(t:(f j).fits n c.st)(m:∀w,Φ w->Ψ j w):
 K0 P Δ W (bD P Δ W Q k f n Ψ μ i) Φ c:=by
 obtain⟨u,z,σ⟩:=c;refine⟨?_⟩;unfold FQ at l;split at l
 .rename_i p s;simp only at p s;subst p;subst s;intro x β a w y;have h:∃g,Ok Δ W β ((f j).st n g) (λe=>Φ e) a w:=wk t y;obtain⟨g,b⟩:=h;exact⟨j,β,g,o,{b with keep:=λe v=>m e (b.keep e v)}⟩
 .cases l
def lX(c:Mm):Bool:=
 match c.foc with
 | .out .normal=>false
 | .out _=>c.k.isEmpty
 |_=>false
def qb(k:List ny)(c:Mm):Mm:=⟨c.foc,k,c.st⟩
theorem ug [Rnd]{ι:Type}{n:Nat}{f:ι->LS}{Ψ:ι->YM->Prop}{μ:ι->Nat}{i:ι}{k:List ny}(b:lX c=true)(h:K0 P Δ W Q Φ (qb k c)):K0 P Δ W (bD P Δ W Q k f n Ψ μ i) Φ c:=by
 obtain⟨g,l,σ⟩:=c;replace h:=h.get;refine⟨?_⟩;cases g with
 | out e=>
  cases e with
  |normal=>cases b
  |_=>
   obtain rfl:l=[]:=by simpa[lX]using b
   intro j β a w m;exact h j β a w m
 |_=>cases b
end
section
variable{P:YH}{Δ:List XY}{W:YM}{Q:Exit->Act->YM->Prop}{Φ Φ':YM->Prop}{c:Mm}
def An(c:Mm):Bool:=match c.foc with| .ops _ _=>true|_=>false
theorem uD [Rnd]{X:Type}{L:List Nat}{val:X->YI}{g:XU}{args:Array YI}{G Φ':X->YM->Prop}
 (wI:∀w,Below W.heap.size W w->Φ w->XW P g args w (L4 w L val G)) (H:Ub W L Φ) (t:∀x,Tg L Φ (G x) (Φ' x))
 (z:An c=true) (j:Q1 P c=some (g,args)) (h:∀x,K0 P Δ W Q (Φ' x) (Lp (.v (val x)) c)):K0 P Δ W Q Φ c:=by
 obtain⟨E,k,σ⟩:=c;replace h:=λx=>(h x).get
 refine⟨?_⟩;unfold Q1 at j;split at j
 .rename_i Z xs p;split at j
  .rename_i vs K;injection j with j;injection j with h1 h2;subst h1;subst h2;unfold Y6 at p;split at p
   .rename_i A o f;split at p
    .rename_i F;unfold Nc at f;simp only at f;split at f
     .rename_i m i l;cases b:m[i]? with
      |none=>rw[b]at f;cases f
      |some N=>
       rw[b]at f;simp only[AI,AF,AQ]at f;obtain⟨rfl,rfl⟩:=f;intro u β a w s;show wpOpsIn Fe 0 P m (post P Q k) (i::l) a w;rw[wpOpsIn_cons];unfold wpOpIn;simp only[b,M3 s,F,if_true];refine Da (Cx p s) ?_;rw[Qp K];refine Calls.mono (wI w s.bel s.phi) λe M D=> ?_
       obtain⟨x,rfl,y,J⟩:=D;simp only[Qq,Lp,b,AK]at h;exact h x (u.put _ (by intro k B;simp[AV.ids]at B)) β _ M ((s.mut H y J (t x)).put N.dst (.v (val x)))
     .cases z
     .cases f
    .cases p
   .cases p
  .cases j
 .cases j
theorem uA [Rnd]{X:Type}{L:List Nat}{val:X->YI}{G Φ':X->YM->Prop}(s:Sem Next)
 (Z:∀w,Below W.heap.size W w->Φ w->Mv P w L val G s) (K:Ub W L Φ) (y:∀x,Tg L Φ (G x) (Φ' x))
 (F:An c=true) (f:Ox c=some s) (h:∀x,K0 P Δ W Q (Φ' x) (Lp (.v (val x)) c)):K0 P Δ W Q Φ c:=by
 obtain⟨J,k,σ⟩:=c;replace h:=λx=>(h x).get
 refine⟨?_⟩;replace f:=(Nk f).1;unfold Pg at f;split at f
 .rename_i H o j;split at f
  .cases f
  .cases f
  .rename_i z N;split at f
   .rename_i A;simp only[AE]at A;injection f with f;subst f;unfold Nc at j;simp only at j;split at j
    .rename_i m i l;cases g:m[i]? with
     |none=>rw[g]at j;cases j
     | some B=>
      rw[g]at j;simp only[AI,AF,AQ]at j;obtain⟨rfl,rfl⟩:=j;intro D β a w t;show wpOpsIn Fe 0 P m (post P Q k) (i::l) a w;rw[wpOpsIn_cons];unfold wpOpIn;simp only[g,M3 t,A.1,if_true];have u:∀x∈B.op.operands,a.eval x=σ.rho x:=λx M=>by
       rw[t.eval,uF];· rfl
       exact AD.1 A.2 x (by simpa using M)
      obtain⟨x,S,p,E,R⟩:=Z w t.bel t.phi;refine Zy ((congrArg (λs=>s.run P w) (execOp_congr B (λcs b e=>z cs b e) u)).trans p) Zs ?_;simp only[Qq,Lp,g,AK]at h;exact h x (D.put _ (by intro k wI;simp[AV.ids]at wI)) β _ S ((t.mut K E R (y x)).put B.dst (.v (val x)))
    .cases F
    .cases j
   .cases f
 .cases f
def sL(c:Mm):Bool:=match c.foc with
 | .any b (_+1) e=>match Region.ready .any b e with
  | [i]=>match b[i]? with
   |some o=>(CD b.size).all (λi=>match b[i]? with
    |some f=>(f.dst !=o.dst)||(CD b.size).all (λk=>AU k i||(Pd b i b.size).getD k false||(Pd b k b.size).getD i false)
    |none=>true)
   |none=>false
  |_=>false
 |_=>false
theorem K4.fresh{X:Type}{w:YM}{val:X->YI}{G:X->YM->Prop}{e:XS}{f:YM}(h:K4 w val G e f)(L:X->List Nat)
 (s:∀x w,G x w->∀b∈L x,∃cs ty own,w.heap[b]? =some (.cells cs ty own)):
 K4 w (λq:X×Nat=>val q.1) (λq u=>G q.1 u/\(∀b∈L q.1,w.heap.size<=b/\b<q.2)/\q.2<=u.heap.size) e f:=by
 obtain⟨x,rfl,v,l⟩:=h;refine⟨(x,f.heap.size),rfl,v,λm p y=>⟨l m p y,λb j=> ?_,p⟩⟩;have g:b<f.heap.size:=by
  obtain⟨cs,ty,own,o⟩:=s x f (l f (BD _) λ_ _ _=>rfl) b j;exact(AN.1 o).1
 refine⟨Nat.le_of_not_lt λz=> ?_,g⟩;have o:=l {f with heap:=f.heap.setIfInBounds b (.pending #[] 0)} Zs λk A k2=>by
  rw[BA I]
 obtain⟨cs,ty,own,t⟩:=s x _ o b j;rw[AW g]at t;cases t
theorem M9.fresh{X:Type}{w:YM}{val:X->YI}{G:X->YM->Prop}{s:Sem Next}(h:M9 P w val G s)(L:X->List Nat)
 (p:∀x w,G x w->∀b∈L x,∃cs ty own,w.heap[b]? =some (.cells cs ty own)):
 M9 P w val (λx u=>G x u/\∀b∈L x,w.heap.size<=b) s:=by
 obtain⟨x,e,f,y,l⟩:=h;refine⟨x,e,f,y,λm v z=>⟨l m v z,λb g=> ?_⟩⟩;have j:b<e.heap.size:=by
  obtain⟨cs,ty,own,o⟩:=p x e (l e (BD _) λ_ _ _=>rfl) b g;exact(AN.1 o).1
 refine Nat.le_of_not_lt λA=> ?_
 have o:=l {e with heap:=e.heap.setIfInBounds b (.pending #[] 0)} Zs λk B k2=>by
  rw[BA I]
 obtain⟨cs,ty,own,t⟩:=p x _ o b g;rw[AW j]at t;cases t
theorem K4.cast{X:Type}{w:YM}{val:X->YI}{G G':X->YM->Prop}{e:XS}{f:YM}(h:K4 w val G e f)(k:∀x u,G x u->G' x u):K4 w val G' e f:=by
 obtain⟨x,g,m,j⟩:=h;exact⟨x,g,m,λb o l=>k _ _ (j b o l)⟩
end
section
variable{P:YH}{Δ:List XY}{W:YM}{Q:Exit->Act->YM->Prop}{Φ:YM->Prop}{c:Mm}
def JH(c:Mm):Bool:=match c.foc with| .any _ _ _=>false|_=>true
theorem um [Rnd]{p:Prop}(m:∀w,Below W.heap.size W w->Φ w->p)(s:JH c=true)(h:p->K0 P Δ W Q Φ c):K0 P Δ W Q Φ c:=by
 by_cases g:p
 .exact h g
 .obtain⟨j,k,σ⟩:=c;refine⟨?_⟩;unfold Qq;cases j with
  |code x=>exact λ_ β a w b=>absurd (m w b.bel b.phi) g
  |ops o l=>exact λ_ β a w b=>absurd (m w b.bel b.phi) g
  |any o f l=>cases s
  |out e=>exact λ_ β a w b=>absurd (m w b.bel b.phi) g
end
theorem Pa(w:YM)(o:Obj):Below w.heap.size w (w.alloc o):=(Below.refl _ _).alloc (BD _) _
def Om(t:XX)(p:XR)(v:YI):Sem Next:=Instr.storeAt t (.pointer (some p)) v >>= λ_=>(pure .skip:Sem Next)
def K8(w:YM)(g:Nat)(cs:List YI):Prop:=∃t,w.heap[g]? =some (.cells cs.toArray t (0,0))
theorem K8.range{w:YM}{g:Nat}{cs:List YI}(h:K8 w g cs):w.rangeAt g 0 cs:=by
 obtain⟨t,h⟩:=h;intro j v b;simp only[CG,h,Option.isSome_none,BB,if_false,BX];simpa using b
theorem K8.store{P:YH}{t:XX}{w:YM}{g:Nat}{cs:List YI}{v:YI}(h:K8 w g cs)(p:Mq P t=some cs.length)(l:v.cells.size=cs.length)(m:∀u∈v.cells.toList,u.oneCell'=true):
 ∃j,(Om t ⟨g,0,none⟩ v).run P w= .ok .skip j/\Ei [g] w j/\∀c,j.heap.size<=c.heap.size->(∀b∈[g],c.heap[b]? =j.heap[b]?)->K8 c g v.cells.toList:=by
 obtain⟨ty,h⟩:=h;have f:=run_storeCells_at P g 0 ty v.cells.toList 0 cs.toArray w h Zp m;have e:((cs.toArray.toList.take (0+0)++v.cells.toList++cs.toArray.toList.drop (0+0+v.cells.toList.length)).toArray)=v.cells:=by
  simp[l]
 rw[e]at f;refine⟨w.setRow g v.cells,?_,⟨rfl,rfl,rfl,by rw[O1];exact BD _,λk _ o=>Na _ _ _ _ (by simpa using o)⟩,λc s k2=>⟨ty,?_⟩⟩
 .simp only[Om,Instr.storeAt,Instr.sureAddr,storeVar,AB,AC,AA,Lb p];rw[YT (by simpa using l)];simp only[f,AC,AB,AA]
 .rw[k2 g Zs];simp only[BW,BT,if_true,h,AI,BH]
theorem K8.left{w c:YM}{g:Nat}{cs:List YI}{L:List Nat}(h:K8 c g cs)(e:∀b,b∉L->c.heap[b]? =w.heap[b]?)(f:g∉L):K8 w g cs:=by
 obtain⟨t,h⟩:=h;exact⟨t,(e g f).symm.trans h⟩
section
variable{w:YM}
def B0(t:XX)(v:YI):Sem Next:=Instr.box t v >>= λv=>pure (.value v)
def Vz(t:XX):Sem Next:=Instr.alloc t true (.tuple #[]) >>= λv=>pure (.value v)
def Kp(g:Nat):YI:= .pointer (some ⟨g,0,none⟩)
theorem Pv(w:YM)(o:Obj){c:YM}(g:(w.alloc o).heap.size<=c.heap.size)(e:∀b,w.heap.size<=b->b<(w.alloc o).heap.size->c.heap[b]? =(w.alloc o).heap[b]?):c.heap[w.heap.size]? =some o/\w.heap.size<c.heap.size:=by
 have f:(w.alloc o).heap.size=w.heap.size+1:=Zs
 refine⟨?_,by omega⟩;rw[e w.heap.size (BD _) I];show(w.heap.push _)[w.heap.size]? =_;simp
theorem I9{P:YH}{t:XX}{v:YI}{N:Nat}(e:N<=w.heap.size):M9 P w Kp (λg u=>K8 u g v.cells.toList/\N<=g/\g<u.heap.size) (B0 t v):=
 ⟨w.heap.size,w.alloc (.cells v.cells t),by simp only[B0,Instr.box,AB,Rf,AA,AC,Kp],Pa _ _,λf c b=>⟨⟨t,by rw[(Pv w _ c b).1,BH]⟩,e,(Pv w _ c b).2⟩⟩
theorem Ia{P:YH}{t:XX}{z:YI}{N:Nat}(e:Tz P t=some z)(f:N<=w.heap.size):M9 P w Kp (λg u=>K8 u g z.cells.toList/\N<=g/\g<u.heap.size) (Vz t):=
 ⟨w.heap.size,w.alloc (.cells z.cells t),by simp only[Vz,Instr.alloc,AB,Qj e,Rf,AA,AC,Kp],Pa _ _,λh c b=>⟨⟨t,by rw[(Pv w _ c b).1,BH]⟩,f,(Pv w _ c b).2⟩⟩
end
section
variable{Δ:List XY}{W:YM}{Q:Exit->Act->YM->Prop}{Φ:YM->Prop}{c:Mm}
theorem ZR [Rnd](h:K0 XM Δ W Q Φ (Lw XM 1000 1000 c)):K0 XM Δ W Q Φ c:=uo O 1000 _ h
theorem ZS [Rnd](n:Nat)(h:K0 XM Δ W Q Φ (Lw XM n 1000 c)):K0 XM Δ W Q Φ c:=uo O 1000 _ h
theorem ZC [Rnd]{X:Type}{g:XU}{args:Array YI}{val:X->YI}{G:X->YM->Prop}(b:∀w,Below W.heap.size W w->Φ w->XW XM g args w (K4 w val G))(h:∀x:X,K0 XM Δ W Q (λw=>Φ w/\G x w) (Lw XM 1000 1000 (Lp (.v (val x)) c)))(e:Q1 XM c=some (g,args):=by kernel_rfl):K0 XM Δ W Q Φ c:=vr b e λx=>ZR (h x)
theorem ZD [Rnd]{X:Type}{g:XU}{args:Array YI}{val:X->YI}{G:X->YM->Prop}(n:Nat)(b:∀w,Below W.heap.size W w->Φ w->XW XM g args w (K4 w val G))(h:∀x:X,K0 XM Δ W Q (λw=>Φ w/\G x w) (Lw XM n 1000 (Lp (.v (val x)) c)))(e:Q1 XM c=some (g,args):=by kernel_rfl):K0 XM Δ W Q Φ c:=vr b e λx=>ZS n (h x)
theorem ZI [Rnd](b:Bool)(h:K0 XM Δ W Q Φ (Lw XM 1000 1000 (V6 b c)))(e:T7 c=some b:=by kernel_rfl):K0 XM Δ W Q Φ c:=uu b e (ZR h)
theorem ZJ [Rnd](b lit:Bool)(e:b=lit)(h:K0 XM Δ W Q Φ (Lw XM 1000 1000 (V6 lit c)))(f:T7 c=some b:=by kernel_rfl):K0 XM Δ W Q Φ c:=ul b lit f e (ZR h)
theorem ZT [Rnd](t:Nat)(v b:YI)(e:v=b)(h:K0 XM Δ W Q Φ (Lw XM 1000 1000 (Ky t b c)))(f:c.st.tmps[t]? =some (.v v):=by kernel_rfl):K0 XM Δ W Q Φ c:=uh t v b f e (ZR h)
theorem ZA [Rnd](s:Sem Next)(v:YI)(b:∀w,Below W.heap.size W w->Φ w->s.run XM w= .ok (.value v) w)(h:K0 XM Δ W Q Φ (Lw XM 1000 1000 (Lp (.v v) c)))(e:Ox c=some s:=by kernel_rfl):K0 XM Δ W Q Φ c:=uw s v e b (ZR h)
theorem ZB [Rnd](i:Nat)(s:Sem Next)(v:YI)(b:∀w,Below W.heap.size W w->Φ w->s.run XM w= .ok (.value v) w)(h:K0 XM Δ W Q Φ (Lw XM 1000 1000 (Ae i v c)))(e:Go.Proofs.YtoakjcolbjifnaaGreatDoor.askAt i c=some s:=by kernel_rfl):K0 XM Δ W Q Φ c:=us i s v e b (ZR h)
theorem ZV [Rnd]{fn:Func}{R:XS->YM->Prop}(v:YI)(f:∀w,Below W.heap.size W w->(∀e,w.heap.size<=e.heap.size->(∀b,W.heap.size<=b->b<w.heap.size->e.heap[b]? =w.heap[b]?)->Φ e)->R (.returned v) w)(h:A9 XM fn c=some v:=by kernel_rfl):K0 XM [] W (bodyPost XM fn R) Φ c:=vu h f
theorem ZW [Rnd]{fn:Func}(v:YI)(h:A9 XM fn c=some v:=by kernel_rfl):K0 XM [] W (bodyPost XM fn (K4 W (λ_:Unit=>v) λ_ _=>True)) Φ c:=vu h λe b _=>⟨(),rfl,b,λ_ _ _=>trivial⟩
theorem ZX [Rnd]{fn:Func}{b:YI}(v:YI)(e:Ending.returned v= .returned b)(h:A9 XM fn c=some v:=by kernel_rfl):K0 XM [] W (bodyPost XM fn (K4 W (λ_:Unit=>b) λ_ _=>True)) Φ c:=vu h λg f _=>⟨(),e,f,λ_ _ _=>trivial⟩
end
section
variable{Δ:List XY}{W:YM}{Q:Exit->Act->YM->Prop}{Φ:YM->Prop}{c:Mm}
theorem YA [Rnd](t k:Nat){n:Nat}(H:k<n)(h:K0 XM Δ W Q Φ (Ky t (.int .i64 ((k+1:Nat):Int)) c))(a:n<=9223372036854775807:=by omega)(b:c.st.tmps[t]? =some (.v (.int .i64 (XQ.wrap ((k:Int)+1)))):=by kernel_rfl):K0 XM Δ W Q Φ c:=uh t _ _ b (by rw[CE _ ⟨by omega,by omega⟩];rfl) h
theorem YB [Rnd](t:Nat)(x y:Int)(h:K0 XM Δ W Q Φ (Ky t (.int .i64 y) c))(a:x=y/\-9223372036854775808<=x/\x<=9223372036854775807:=by omega)(b:c.st.tmps[t]? =some (.v (.int .i64 (XQ.wrap x))):=by kernel_rfl):K0 XM Δ W Q Φ c:=uh t _ _ b (by rw[CE _ ⟨a.2.1,a.2.2⟩,a.1]) h
theorem YC [Rnd](t:Nat)(x y:Int)(h:K0 XM Δ W Q Φ (Lw XM 1000 1000 (Ky t (.int .i64 y) c)))(a:x=y/\-9223372036854775808<=x/\x<=9223372036854775807:=by omega)(b:c.st.tmps[t]? =some (.v (.int .i64 (XQ.wrap x))):=by kernel_rfl):K0 XM Δ W Q Φ c:=YB t x y (ZR h) a b
theorem YD [Rnd](t:Nat)(p:Prop) [Decidable p](e:p)(h:K0 XM Δ W Q Φ (Ky t (.bool true) c))(b:c.st.tmps[t]? =some (.v (.bool (decide p))):=by kernel_rfl):K0 XM Δ W Q Φ c:=uh t _ _ b (by rw[YU e]) h
theorem YE [Rnd](t:Nat)(p:Prop) [Decidable p](e:p)(h:K0 XM Δ W Q Φ (Lw XM 1000 1000 (Ky t (.bool true) c)))(b:c.st.tmps[t]? =some (.v (.bool (decide p))):=by kernel_rfl):K0 XM Δ W Q Φ c:=YD t p e (ZR h) b
theorem YF [Rnd](t:Nat)(p:Prop) [Decidable p](e:¬p)(h:K0 XM Δ W Q Φ (Ky t (.bool false) c))(b:c.st.tmps[t]? =some (.v (.bool (decide p))):=by kernel_rfl):K0 XM Δ W Q Φ c:=uh t _ _ b (by rw[YV e]) h
theorem YG [Rnd](t:Nat)(p:Prop) [Decidable p](e:¬p)(h:K0 XM Δ W Q Φ (Lw XM 1000 1000 (Ky t (.bool false) c)))(b:c.st.tmps[t]? =some (.v (.bool (decide p))):=by kernel_rfl):K0 XM Δ W Q Φ c:=YF t p e (ZR h) b
theorem YJ [Rnd](p:Prop) [Decidable p](e:p)(h:K0 XM Δ W Q Φ (Lw XM 1000 1000 (V6 true c)))(b:T7 c=some (decide p):=by kernel_rfl):K0 XM Δ W Q Φ c:=ul _ true b (YU e) (ZR h)
theorem YK [Rnd](p:Prop) [Decidable p](e:¬p)(h:K0 XM Δ W Q Φ (Lw XM 1000 1000 (V6 false c)))(b:T7 c=some (decide p):=by kernel_rfl):K0 XM Δ W Q Φ c:=ul _ false b (YV e) (ZR h)
theorem YL [Rnd](p:Prop) [Decidable p](h:K0 XM Δ W Q Φ (Lw XM 1000 1000 (V6 true c)))(e:p:=by omega)(b:T7 c=some (decide p):=by kernel_rfl):K0 XM Δ W Q Φ c:=YJ p e h b
theorem YN [Rnd](p:Prop) [Decidable p](h:K0 XM Δ W Q Φ (Lw XM 1000 1000 (V6 false c)))(e:¬p:=by omega)(b:T7 c=some (decide p):=by kernel_rfl):K0 XM Δ W Q Φ c:=YK p e h b
end
theorem Yh{N:Nat}{w:YM}{Φ:YM->Prop}(h:∀c,w.heap.size<=c.heap.size->(∀b,N<=b->b<w.heap.size->c.heap[b]? =w.heap[b]?)->Φ c):Φ w:=h w (BD _) λ_ _ _=>rfl
abbrev Ca:=XW XM
abbrev CU(w:YM)(v:YI):XS->YM->Prop:=K4 w (λ_:Unit=>v) λ_ _=>True
abbrev vI(t:Nat)(x:Int):Nat×AV:=(t,.v (.int .i64 x))
abbrev vS(t:Nat)(a:YY)(n c:Nat):Nat×AV:=(t,.v (.slice a n c))
abbrev vV(t:Nat)(v:YI):Nat×AV:=(t,.v v)
end Go.Proofs.YtoakjcolbjifnaaGreatDoor
