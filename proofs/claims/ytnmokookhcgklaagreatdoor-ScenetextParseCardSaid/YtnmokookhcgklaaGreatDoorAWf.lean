/-
 Functions of the package natural.
-/
import Derived.Test.YtnmokookhcgklaaGreatDoorZZ
import Derived.Below
import Derived.Orders
import Derived.KernelRfl
import Derived.Laws.CopyRow
import Derived.Deep.MidRow
import Derived.Test.YtnmokookhcgklaaGreatDoorProg
import Derived.WalkKit
import Derived.WalkSpells
import Derived.WalkLawsBesides
import Derived.Deep.AppendLies
import Derived.Deep.Draws
import Derived.Maps.AppendAt
import Derived.Deep.QuietTactic
import Derived.BigQuiet
import Derived.Deep.DeepCutAuto
import Derived.Lib.BitFns
open Array renaming getElem?_eq_some_iff->AJ,setIfInBounds_comm->AN,getElem?_setIfInBounds_self_of_lt->BI,getElem?_setIfInBounds_ne->BQ,getElem?_eq_none->BU,getD_eq_getD_getElem?->BY,getElem?_modify->CH,replicate->DR
open Bool renaming and_eq_true->AH,false_eq_true->CC,false_or->CG,not_eq_true'->CN,or_eq_true->CZ
open Function renaming comp_def->BN
open Go.IntWalk renaming i64_in->DU
open Go.Lib renaming bitLen->AD
open Go.Result renaming andThen_ok->AC
open Go.Sem renaming run_bind->AG,run_pure->AI
open Go.Value renaming int->BJ,pointer->CB,cells->EA
open Go.World renaming setRow->DX
open Go.World.grownBy renaming refl->DO
open Int renaming natCast_mul->BS,tdiv_eq_ediv_of_nonneg->CL,tmod_eq_emod_of_nonneg->CM,toNat_natCast->CO,natCast_ediv->CW,eq_ofNat_of_zero_le->CY
open List renaming all_eq_true->AE,length_set->AK,mem_map->AY,map_congr_left->BA,getD_eq_getElem?_getD->BF,length_take->BG,mem_zipIdx_iff_getElem?->BL,replicate->BM,getElem?_map->BO,mem_append->BR,mem_of_getElem?->BZ,length_drop->CA,getElem?_take->CK,range->CP,getElem?_eq_some_iff->CQ,any_eq_true->CR,length_cons->CT,getElem?_eq_getElem->CV,length_eq_zero_iff->CX,drop_eq_nil_of_le->DC,getElem?_eq_none->DE,getElem?_toArray->DG,mem_of_mem_take->DH,mem_cons_of_mem->DI,mem_cons->DJ,length_pos_iff->DK,mem_cons_self->DM,map_map->DN,ext_getElem?->DP,cons_append->DQ,mem_range->DS,drop_zero->DT,map_cons->DW
open Nat renaming le_refl->AA,mul_le_mul_right->AB,add_mul->AQ,le_of_ble_eq_true->AU,lt_of_lt_of_le->AW,pow_le_pow_right->AX,le_trans->BB,lt_or_ge->BC,eq_zero_or_pos->BD,div_add_mod->BE,beq->BH,add_one_sub_one->BK,pow_succ->BP,mod_lt->BT,pow_add->BV,zero_le->BW,div_lt_iff_lt_mul->BX,zero_add->CD,mul_comm->CE,add_comm->CF,eq_of_beq_eq_true->CI,beq_eq->CJ,div_eq_of_lt->CU,min_eq_left->DA,mul_le_mul->DF,mul_le_mul_left->DL,add_zero->DY,le_of_eq->DZ,mul_one->EB
open Option renaming bind_some->AL,map_some->AP,isSome_iff_exists->AR,getD_some->CS
open Option.some renaming injEq->AM
open Prod.mk renaming injEq->AZ
open Go renaming World->YN,Value->YM,Program->YK,Operand->YJ,Deferred->YI,TypeId->YH,Calls->YG,PanicEntry->YF,FuncId->YE,Oper->YD,Ending->YC,Addr->YB
open Go.IntKind renaming i64->YA,u64->XZ,u32->XY,u8->XX
namespace Go.Proofs.YtnmokookhcgklaaGreatDoor
set_option maxRecDepth 100000
set_option maxHeartbeats 8000000
set_option linter.unusedVariables false
set_option linter.unusedSimpArgs false
open Go.RowKit Go.Proofs.Tryz
open Go.Proofs.Tryz renaming prog->XW
inductive AV where
 |v (x:YM)
 |p (k off:Nat)
 |s (k n:Nat)
 |f (g:YE) (caps:List (Nat×Nat))
def AV.conc(β:Nat->Nat):AV->YM
 | .v x=>x
 | .p k o=> .pointer (some ⟨β k,o,none⟩)
 | .s k n=> .slice (some ⟨β k,0,none⟩) n n
 | .f g a=> .func (.func g) #[] (a.map λc=>CB (some ⟨β c.1,c.2,none⟩)).toArray
def AV.ids:AV->List Nat
 | .v _=>[]
 | .p k _=>[k]
 | .s k _=>[k]
 | .f _ a=>a.map (·.1)
theorem uf{β a:Nat->Nat}{x:AV}(h:∀k∈x.ids,a k=β k):x.conc a=x.conc β:=by
 cases x with
 |v x=>rfl
 |p k o=>simp only[AV.conc];rw[h k (by simp[AV.ids])]
 |s k n=>simp only[AV.conc];rw[h k (by simp[AV.ids])]
 |f g b=>
  simp only[AV.conc];rw[BA (f:=λc:Nat×Nat=>CB (some ⟨a c.1,c.2,none⟩)) (g:=λc=>CB (some ⟨β c.1,c.2,none⟩)) (λc e=>by rw[h c.1 (by simp only[AV.ids];exact AY.2 ⟨c,e,rfl⟩)])]
structure AS where
 tmps:List AV
 box:Nat->Option (List AV)
def AS.eval(σ:AS):YJ->AV
 | .tmp t=>σ.tmps.getD t (.v undef)
 | .const x=> .v x
 | .global g=> .v (.pointer (some ⟨g,0,none⟩))
 | .func f=> .v (.func (.func f) #[] #[])
def AS.put(σ:AS)(d:Option Tmp)(x:AV):AS:=
 match d with
 |some t=>⟨σ.tmps.set t x,σ.box⟩
 |none=>σ
def XS(b:Nat->Option (List AV))(k:Nat)(cs:List AV):Nat->Option (List AV):=λj=>if BH j k then some cs else b j
theorem Tw(b:Nat->Option (List AV))(k:Nat)(cs:List AV):XS b k cs k=some cs:=by simp[XS]
theorem Vu(b:Nat->Option (List AV)){k j:Nat}(cs:List AV)(h:j≠k):XS b k cs j=b j:=by
 unfold XS;rw[V (by simpa using h)]
structure Hx where
 val:AV
 wr:Option (Nat×List AV)
def D5(b:Nat->Option (List AV)):Option (Nat×List AV)->Nat->Option (List AV)
 |some (k,cs)=>XS b k cs
 |none=>b
def AS.app(σ:AS)(d:Option Tmp)(e:Hx):AS:=⟨(σ.put d e.val).tmps,D5 σ.box e.wr⟩
def Jn:List AV->Option (List YM)
 | []=>some []
 | .v x::l=>match Jn l with
  |some r=>some (x::r)
  |none=>none
 |_::_=>none
theorem Qi{β:Nat->Nat}:∀{l:List AV} {r:List YM},Jn l=some r->l.map (AV.conc β)=r
 | [],r,h=>by simp[Jn]at h;simp[h]
 | .v x::l,r,h=>by
  simp only[Jn]at h;split at h
  .rename_i b a;injection h with h;subst h;simp[AV.conc,Qi a]
  .cases h
 | .p _ _::_,r,h=>by simp[Jn]at h
 | .s _ _::_,r,h=>by simp[Jn]at h
 | .f _ _::_,r,h=>by simp[Jn]at h
def AV.isV:AV->Bool
 | .v _=>true
 |_=>false
def AV.get:AV->YM
 | .v x=>x
 |_=>undef
theorem tp{β:Nat->Nat}{x:AV}(h:x.isV=true):x.conc β=x.get:=by
 cases x<;>first|rfl|(simp[AV.isV]at h)
def cellsOf:AV->List AV
 | .v x=>x.cells.toList.map .v
 |a=>[a]
theorem Jk(β:Nat->Nat)(x:AV):(cellsOf x).map (AV.conc β)=(x.conc β).cells.toList:=by
 cases x with
 |v x=>simp[cellsOf,AV.conc,BN]
 |_=>simp[cellsOf,AV.conc,EA]
def AV.one:AV->Bool
 | .v x=>x.oneCell'
 |_=>true
theorem ut{β:Nat->Nat}{x:AV}(h:x.one=true):(x.conc β).oneCell'=true:=by
 cases x<;>first|exact h|rfl
def ll{α:Type}(P:YK):Sem α->Option α
 | .pure a=>some a
 | .program k=>ll P (k P)
 | .mark _ k=>ll P k
 |_=>none
theorem dL{α:Type}{P:YK}{s:Sem α}{a:α}(h:ll P s=some a)(w:YN):s.run P w= .ok a w:=by
 induction s generalizing w with
 |pure b=>simp only[ll]at h;injection h with h;subst h;rfl
 |program k c=>simp only[ll]at h;simp only[Sem.run];exact c P h w
 |mark m k c=>simp only[ll]at h;simp only[Sem.run];exact c h w
 |_=>simp[ll]at h
def Bp(P:YK)(t:YH):Option YM:=(P.info? t).bind (·.zero)
def Ot(P:YK)(t:YH):Option Nat:=(P.info? t).map (·.size)
def Tg(P:YK)(t:YH):Option Bool:=
 match P.underlying t with
 |some (.struct _)|some (.array _ _)=>some true
 |some _=>some false
 |none=>none
def AS.plain(σ:AS)(o:Op):Bool:=o.operands.toList.all λx=>(σ.eval x).isV
def C9(P:YK)(t:YH)(a:Nat)(cs:List AV):Option Hx:=
 match Tg P t with
 | some true=>match Ot P t with
  |some n=>if Nat.ble (a+n) cs.length then(match Jn ((cs.drop a).take n)with
   |some vs=>some ⟨.v (.agg vs.toArray),none⟩
   |none=>none)else none
  |none=>none
 |some false=>match cs[a]? with
  |some c=>some ⟨c,none⟩
  |none=>none
 |none=>none
def Eb(P:YK)(t:YH)(k a:Nat)(cs vs:List AV):Option Hx:=
 match Ot P t with
 |some n=>if BH vs.length n&&Nat.ble (a+n) cs.length&&vs.all AV.one then some ⟨.v undef,some (k,cs.take a++vs++cs.drop (a+n))⟩else none
 |none=>none
def U8(P:YK)(t:YH)(f k a:Nat):Option Hx:=
 match P.underlying t with
 | some (.struct c)=>match c[f]? with
  |some b=>match Ot P b.type with
   |some (_+1)=>some ⟨.p k (a+b.offset),none⟩
   |_=>none
  |none=>none
 |_=>none
def B3(P:YK)(t:YH)(f g a:Nat):Option Hx:=
 match P.underlying t with
 | some (.struct c)=>match c[f]? with
  |some b=>match Ot P b.type with
   |some (_+1)=>some ⟨.v (.pointer (some ⟨g,a+b.offset,none⟩)),none⟩
   |_=>none
  |none=>none
 |_=>none
def Ed(P:YK)(t:YH)(x b:AV):Option Hx:=
 match x,b with
 | .p k a,.v (.int _ i)=>match P.underlying t with
  |some (.array len elem)=>match Ot P elem with
   |some n=>if Nat.ble (i.toNat+1) len&&(0<=i:Bool)then some ⟨.p k (a+i.toNat*n),none⟩else none
   |none=>none
  |_=>none
 | .s k len,.v (.int _ i)=>match P.underlying t with
  |some (.slice elem)=>match Ot P elem with
   |some n=>if Nat.ble (i.toNat+1) len&&(0<=i:Bool)then some ⟨.p k (i.toNat*n),none⟩else none
   |none=>none
  |_=>none
 | .v (.pointer (some ⟨g,a,none⟩)),.v (.int _ i)=>match P.underlying t with
  |some (.array len elem)=>match Ot P elem with
   |some n=>if Nat.ble (i.toNat+1) len&&(0<=i:Bool)then some ⟨.v (.pointer (some ⟨g,a+i.toNat*n,none⟩)),none⟩else none
   |none=>none
  |_=>none
 |_,_=>none
def Ei:List AV->Option (List (Nat×Nat))
 | []=>some []
 | .p k o::l=>match Ei l with
  |some r=>some ((k,o)::r)
  |none=>none
 |_::_=>none
def Ti(σ:AS)(d:Option Tmp)(cs:List AV)(x:Nat->AV):Option Hx:=
 match d with
 |some d=>match σ.box d with
  |some _=>none
  |none=>some ⟨x d,some (d,cs)⟩
 |none=>none
def AS.rho(σ:AS)(x:YJ):YM:=(σ.eval x).get
def Ra(P:YK)(o:YD)(σ:AS):Option Hx:=
 if σ.plain o.op then(match o.op with
  | .select _ _=>none
  |_=>match ll P (execOp σ.rho o)with
   |some (.value v)=>some ⟨.v v,none⟩
   |_=>none)else none
def aK(P:YK)(o:YD)(σ:AS):Option Hx:=
 match o.op with
 | .move x=>some ⟨σ.eval x,none⟩
 | .assign x=>some ⟨σ.eval x,none⟩
 | .alloc t=>match Bp P t with
  |some z=>Ti σ o.dst (z.cells.toList.map .v) (λd=> .p d 0)
  |none=>none
 | .box _ x=>Ti σ o.dst (cellsOf (σ.eval x)) (λd=> .p d 0)
 | .load t x=>match σ.eval x with
  | .p k a=>match σ.box k with
   |some cs=>C9 P t a cs
   |none=>none
  |_=>none
 | .store t x y=>match σ.eval x with
  | .p k a=>match σ.box k with
   |some cs=>Eb P t k a cs (cellsOf (σ.eval y))
   |none=>none
  |_=>none
 | .fieldAddr t x f=>match σ.eval x with
  | .p k a=>U8 P t f k a
  | .v (.pointer (some ⟨g,a,none⟩))=>B3 P t f g a
  |_=>none
 | .indexAddr t x h=>Ed P t (σ.eval x) (σ.eval h)
 | .nilCheck x=>match σ.eval x with
  | .p k a=>some ⟨.p k a,none⟩
  |_=>Ra P o σ
 | .makeFunc (.func g) first e=>match first.toList,Ei (e.toList.map σ.eval)with
  | [],some (c::r)=>some ⟨.f g (c::r),none⟩
  |_,_=>Ra P o σ
 | .buildSlice t len b=>match P.underlying t with
  | some (.slice elem)=>match Ot P elem,Bp P elem with
   | some n,some z=>match Jn (b.toList.map λp=>σ.eval p.2)with
    |some vs=>if Nat.ble (len*n) 16777216&&Nat.ble 1 (len*n)then(match Instr.fill (λi=>some (i*n,n)) ((Array.range (len*n)).map (z.cells[· %z.cells.size]!)) ((b.toList.map (·.1)).zip vs)with
     |some cells=>Ti σ o.dst (cells.toList.map .v) (λd=> .s d len)
     |none=>none)else none
    |none=>none
   |_,_=>none
  |_=>none
 |_=>Ra P o σ
structure cU(W:YN)(β:Nat->Nat)(σ:AS)(w w':YN):Prop where
 size:w.heap.size<=w'.heap.size
 heap:∀b,W.heap.size<=b->b<w.heap.size->(∀k,(σ.box k).isSome=true->β k≠b)->w'.heap[b]? =w.heap[b]?
theorem cU.refl(W:YN)(β:Nat->Nat)(σ:AS)(w:YN):cU W β σ w w:=⟨AA _,λ_ _ _ _=>rfl⟩
structure AS.wf(σ:AS):Prop where
 tmps:∀x∈σ.tmps,∀k∈x.ids,(σ.box k).isSome=true
 cells:∀j cs,σ.box j=some cs->∀x∈cs,∀k∈x.ids,(σ.box k).isSome=true
theorem AS.wf.eval{σ:AS}(h:σ.wf)(x:YJ):∀k∈(σ.eval x).ids,(σ.box k).isSome=true:=by
 cases x with
 |tmp t=>
  simp only[AS.eval,BF];cases b:σ.tmps[t]? with
  |none=>intro k a;simp[AV.ids]at a
  |some y=>intro k a;exact h.tmps y (BZ b) k (by simpa using a)
 |_=>intro k a;simp[AS.eval,AV.ids]at a
theorem tC(σ:AS)(d:Option Tmp)(x:AV):(σ.put d x).box=σ.box:=by cases d<;>rfl
theorem AS.wf.put{σ:AS}(h:σ.wf)(d:Option Tmp){x:AV}(b:∀k∈x.ids,(σ.box k).isSome=true):(σ.put d x).wf:=by
 cases d with
 |none=>exact h
 |some t=>
  refine⟨λy a=> ?_,h.cells⟩;rcases List.mem_or_eq_of_mem_set a with a|rfl
  .exact h.tmps y a
  .exact b
theorem I8{b:Nat->Option (List AV)}{k:Nat}{cs:List AV}{j:Nat}(h:(b j).isSome=true):(XS b k cs j).isSome=true:=by
 unfold XS;split
 .rfl
 .exact h
theorem AS.wf.wr{σ:AS}(h:σ.wf){k:Nat}{cs:List AV}(c:∀x∈cs,∀j∈x.ids,(σ.box j).isSome=true):(AS.mk σ.tmps (XS σ.box k cs)).wf:=by
 refine⟨λx b j a=>I8 (h.tmps x b j a),λj cs' a x b i hi=> ?_⟩
 by_cases e:j=k
 .subst e;simp only[Tw]at a;injection a with a;subst a;exact I8 (c x b i hi)
 .simp only[Vu _ _ e]at a;exact I8 (h.cells j cs' a x b i hi)
structure Re(Δ:List YI)(W:YN)(β:Nat->Nat)(σ:AS)(Φ:YW)(a:Act)(w:YN):Prop where
 tmps:a.tmps.toList=σ.tmps.map (AV.conc β)
 defers:a.defers=Δ
 bel:Below W.heap.size W w
 box:∀k cs,σ.box k=some cs->W.heap.size<=β k/\∃ty,w.heap[β k]? =some (.cells (cs.map (AV.conc β)).toArray ty (0,0))
 inj:∀k k',(σ.box k).isSome=true->(σ.box k').isSome=true->β k=β k'->k=k'
 keep:∀w',cU W β σ w w'->Φ w'
section
variable{Δ:List YI}{W:YN}{β:Nat->Nat}{σ:AS}{Φ:YW}{a:Act}{w:YN}
theorem Re.eval(h:Re Δ W β σ Φ a w)(x:YJ):a.eval x=(σ.eval x).conc β:=by
 cases x with
 |tmp t=>
  simp only[Act.eval,AS.eval];have e:a.tmps[t]? =(σ.tmps.map (AV.conc β))[t]? :=by rw[<-h.tmps];simp
  rw[BY,e,BF,BO];cases σ.tmps[t]? <;>rfl
 |const x=>rfl
 |global g=>rfl
 |func f=>rfl
theorem Re.phi(h:Re Δ W β σ Φ a w):Φ w:=h.keep w (cU.refl _ _ _ _)
theorem Re.put(h:Re Δ W β σ Φ a w)(d:Option Tmp)(x:AV):Re Δ W β (σ.put d x) Φ (a.put d (x.conc β)) w:=by
 cases d with
 |none=>exact h
 |some t=>exact⟨by simp[Act.put,AS.put,h.tmps,List.map_set],h.defers,h.bel,h.box,h.inj,λc b=>h.keep c ⟨b.size,b.heap⟩⟩
theorem Re.drew(h:Re Δ W β σ Φ a w):Re Δ W β σ Φ a w.drew:=
 ⟨h.tmps,h.defers,h.bel.drew,h.box,h.inj,λc b=>h.keep c ⟨b.size,b.heap⟩⟩
theorem Re.new(h:Re Δ W β σ Φ a w)(u:σ.wf){d:Nat}(L:σ.box d=none){cs:List AV}(F:∀x∈cs,∀j∈x.ids,(σ.box j).isSome=true)(ty:YH):
 ∃β',β' d=w.heap.size/\(∀k,k≠d->β' k=β k)/\Re Δ W β' ⟨σ.tmps,XS σ.box d cs⟩ Φ a (w.alloc (.cells (cs.map (AV.conc β)).toArray ty)):=by
 have G:∀{x:AV},(∀j∈x.ids,(σ.box j).isSome=true)->∀j∈x.ids,j≠d:=λy j D e=>by
  have:=y j D;rw[e,L]at this;cases this
 have t:∀k,k≠d->(if k=d then w.heap.size else β k)=β k:=λk f=>by rw[V f]
 refine⟨λk=>if k=d then w.heap.size else β k,by simp,t,?_⟩;have m:∀{x:AV},(∀j∈x.ids,(σ.box j).isSome=true)->x.conc (λk=>if k=d then w.heap.size else β k)=x.conc β:=λy=>
  uf λj D=>t j (G y j D)
 have g:∀{l:List AV},(∀x∈l,∀j∈x.ids,(σ.box j).isSome=true)->l.map (AV.conc λk=>if k=d then w.heap.size else β k)=l.map (AV.conc β):=λP=>
  BA λx y=>m (P x y)
 have o:∀k,(σ.box k).isSome=true->β k<w.heap.size:=λk f=>by
  obtain⟨cs',B⟩:=AR.1 f;obtain⟨_,s,ve⟩:=h.box k cs' B;exact(AJ.1 ve).1
 have c:∀k,k≠d->(XS σ.box d cs k).isSome=true->(σ.box k).isSome=true:=λk f vf=>by rw[Vu _ _ f]at vf;exact vf
 refine⟨?_,h.defers,h.bel.alloc h.bel.size _,?_,?_,?_⟩
 .rw[h.tmps];exact(g u.tmps).symm
 .intro k cs' f
  by_cases e:k=d
  .subst e;simp only[Tw]at f;injection f with f;subst f;refine⟨by simpa using h.bel.size,ty,?_⟩;rw[g F];simp only[YS];show(w.heap.push _)[w.heap.size]? =_;simp
  .simp only[Vu _ _ e]at f;obtain⟨N,s,C⟩:=h.box k cs' f;simp only[V e];refine⟨N,s,?_⟩;rw[g (u.cells k cs' f),Below.heap_alloc _ _ _ (o k (by rw[f];rfl))];exact C
 .intro k v f A e
  by_cases p:k=d<;>by_cases r:v=d
  .rw[p,r]
  .have C:=o v (c v r A);simp[p,r]at e;omega
  .have C:=o k (c k p f);simp[p,r]at e;omega
  .simp only[V p,V r]at e;exact h.inj k v (c k p f) (c v r A) e
 .intro uR uS;refine h.keep uR ⟨BB Zs uS.size,λb K uZ f=> ?_⟩;rw[uS.heap b K Zp (λk vg=> ?_),Below.heap_alloc _ _ _ uZ]
  by_cases e:k=d
  .simp[e];omega
  .simp only[V e];exact f k (c k e vg)
theorem Qt(w:YN)(g:Nat)(cs:Array YM):(w.setRow g cs).heap.size=w.heap.size:=by simp[DX]
theorem Q2(w:YN)(g:Nat)(cs:Array YM)(b:Nat)(h:b≠g):(w.setRow g cs).heap[b]? =w.heap[b]? :=by
 simp only[DX,CH];rw[V J]
theorem Re.store(h:Re Δ W β σ Φ a w){k:Nat}{cs cs':List AV}(s:σ.box k=some cs):
 Re Δ W β ⟨σ.tmps,XS σ.box k cs'⟩ Φ a (w.setRow (β k) (cs'.map (AV.conc β)).toArray):=by
 obtain⟨C,ty,x⟩:=h.box k cs s;have g:(σ.box k).isSome=true:=by rw[s];rfl
 have c:∀j,(XS σ.box k cs' j).isSome=true->(σ.box j).isSome=true:=λj f=>by
  by_cases e:j=k
  .rw[e];exact g
  .rw[Vu _ _ e]at f;exact f
 refine⟨h.tmps,h.defers,?_,?_,?_,?_⟩
 .exact h.bel.trans ⟨rfl,rfl,rfl,by rw[Qt];exact AA _,λb u=>Q2 _ _ _ _ J⟩
 .intro j o f
  by_cases e:j=k
  .subst e;simp only[Tw]at f;injection f with f;subst f;exact⟨C,ty,setRow_heap w _ _ _ _ _ x⟩
  .simp only[Vu _ _ e]at f;obtain⟨D,m,y⟩:=h.box j o f;refine⟨D,m,?_⟩;rw[Q2 _ _ _ _ (λv=>e (h.inj j k (by rw[f];rfl) g v))];exact y
 .intro j r f p e;exact h.inj j r (c j f) (c r p) e
 .intro B t;refine h.keep B ⟨by have:=t.size;rw[Qt]at this;exact this,λb A u l=> ?_⟩;rw[t.heap b A (by rw[Qt];exact u) (λj f=>l j (c j f)),Q2 _ _ _ _ (λe=>l k g e.symm)]
end
theorem tt(σ:AS)(d:Option Tmp)(e:Hx):σ.app d e=(AS.mk σ.tmps (D5 σ.box e.wr)).put d e.val:=by
 cases d<;>rfl
def Qx(P:YK)(Δ:List YI)(W:YN)(σ:AS)(Φ:YW)(β:Nat->Nat)(a:Act)(w:YN)(o:YD)(e:Hx):Prop:=
 (σ.app o.dst e).wf/\∃β' nx w',(execOp a.eval o).run P w= .ok nx w'/\(nx= .value (e.val.conc β')\/(nx= .skip/\e.val.conc β'=undef))/\
  Re Δ W β' (σ.app o.dst e) Φ (a.put o.dst (e.val.conc β')) w'
section
variable{P:YK}{Δ:List YI}{W:YN}{β:Nat->Nat}{σ:AS}{Φ:YW}{a:Act}{w:YN}{o:YD}{e:Hx}
theorem Qx.pure{v:AV}(f:Re Δ W β σ Φ a w)(c:σ.wf)(g:∀k∈v.ids,(σ.box k).isSome=true)(b:(execOp a.eval o).run P w= .ok (.value (v.conc β)) w):
 Qx P Δ W σ Φ β a w o ⟨v,none⟩:=by
 refine⟨?_,β,_,w,b,.inl rfl,?_⟩
 .rw[tt];exact AS.wf.put (σ:=⟨σ.tmps,σ.box⟩) c o.dst g
 .rw[tt];exact Re.put (σ:=⟨σ.tmps,σ.box⟩) f o.dst v
theorem Qx.new{cs:List AV}{v:Nat->AV}(p:Re Δ W β σ Φ a w)(g:σ.wf)(h:Ti σ o.dst cs v=some e)(f:∀x∈cs,∀j∈x.ids,(σ.box j).isSome=true)
 (l:∀d k,k∈(v d).ids->k=d) (ty:YH)
 (c:∀b:Nat->Nat,∀d,b d=w.heap.size->(execOp a.eval o).run P w= .ok (.value ((v d).conc b)) (w.alloc (.cells (cs.map (AV.conc β)).toArray ty))):
 Qx P Δ W σ Φ β a w o e:=by
 unfold Ti at h;split at h
 .rename_i d y;split at h
  .cases h
  .rename_i t;injection h with h;subst h;obtain⟨b,s,u,r⟩:=p.new g t f ty;refine⟨?_,b,_,_,c b d s,.inl rfl,?_⟩
   .rw[tt];refine AS.wf.put (g.wr f) _ λk m=> ?_
    rw[l d k m];simp[D5,Tw]
   .rw[tt];exact r.put _ _
 .cases h
theorem Xr{t:YH}{z:YM}(h:Bp P t=some z)(w:YN):(zeroValue t).run P w= .ok z w:=by
 unfold Bp at h;cases hi:P.info? t with
 |none=>rw[hi]at h;cases h
 |some i=>
  rw[hi]at h;simp only[AL]at h;simp[zeroValue,typeInfo,hi,h]
theorem Xs(t:YH)(v:YM)(w:YN):(newVar t v).run P w= .ok ⟨w.heap.size,0,none⟩ (w.alloc (.cells v.cells t)):=by
 rfl
theorem M0{t:YH}{n:Nat}(h:Ot P t=some n)(w:YN):(sizeOf t).run P w= .ok n w:=by
 unfold Ot at h;cases hi:P.info? t with
 |none=>rw[hi]at h;cases h
 |some i=>
  rw[hi]at h;simp only[AP]at h;injection h with h;simp[sizeOf,typeInfo,hi,h]
theorem Ec(h:Ra P o σ=some e)(j:Re Δ W β σ Φ a w)(g:σ.wf):Qx P Δ W σ Φ β a w o e:=by
 unfold Ra at h;split at h
 .rename_i m;have c:∀x∈o.op.operands,a.eval x=σ.rho x:=λx p=>by
   rw[j.eval,tp];· rfl
   exact AE.1 m x (by simpa using p)
  split at h
  .cases h
  .rename_i f;split at h
   .rename_i v r;injection h with h;subst h;refine Qx.pure j g (by intro k l;simp[AV.ids]at l) ?_;rw[execOp_congr o (λcs b e=>f cs b e) c];exact dL r w
   .cases h
 .cases h
theorem MZ{l:List AV}{b n j:Nat}{x:AV}(h:((l.drop b).take n)[j]? =some x):l[b+j]? =some x:=by
 rw[CK]at h;split at h
 .rw[List.getElem?_drop]at h;exact h
 .cases h
theorem FK{t:YH}{k f:Nat}{cs:List AV}{ty:YH}(K:w.heap[β k]? =some (.cells (cs.map (AV.conc β)).toArray ty (0,0)))(h:C9 P t f cs=some e):
 (loadVar t ⟨β k,f,none⟩).run P w= .ok (e.val.conc β) w/\e.wr=none/\∀j∈e.val.ids,∃x∈cs,j∈x.ids:=by
 have g:∀j,w.cell? ⟨β k,j,none⟩=(cs.map (AV.conc β))[j]? :=λj=>by simp[World.cell?,K]
 unfold C9 at h;split at h
 .rename_i b;split at h
  .rename_i n ve;split at h
   .rename_i s;split at h
    .rename_i vs vg;injection h with h;subst h;have B:=Qi (β:=β) vg;have s:=AU s;have r:vs.length=n:=by
      rw[<-B];simp;omega
     have l:w.rangeAt (β k) f vs:=λj v A=>by
      rw[g,BO];rw[<-B,BO]at A;cases uS:((cs.drop f).take n)[j]? with
      |none=>rw[uS]at A;cases A
      |some y=>rw[uS]at A;rw[MZ uS];exact A
     unfold Tg at b;have p:∀d:TypeDesc,P.underlying t=some d->d.isRow=true->(loadVar t ⟨β k,f,none⟩).run P w= .ok (.agg vs.toArray) w:=λd m F=>
      run_loadVar_mid w (β k) f t vs d l m F (by unfold Ot at ve;rw[ve,r])
     refine⟨?_,rfl,by intro j G;simp[AV.ids]at G⟩;split at b
     .rename_i m;exact p _ m rfl
     .rename_i m;exact p _ m rfl
     .cases b
     .cases b
    .cases h
   .cases h
  .cases h
 .rename_i b;split at h
  .rename_i c vf;injection h with h;subst h;have D:(isAgg t).run P w= .ok false w:=by
    unfold Tg at b;split at b
    .cases b
    .cases b
    .rename_i d C u m;unfold isAgg;rw[AG,run_underlying m w];cases d<;>first|rfl|(exfalso;first|exact C _ rfl|exact u _ _ rfl)|(exfalso;first|exact C _ m|exact u _ _ m)
    .cases b
   have L:(load ⟨β k,f,none⟩).run P w= .ok (c.conc β) w:=by
    simp[run_load,g,vf]
   refine⟨?_,rfl,λj G=>⟨c,BZ vf,G⟩⟩;simp only[loadVar,AG,AC,D,L,CC,if_false]
  .cases h
 .cases h
theorem ag{t:YH}{x:YJ}{k f:Nat}{cs:List AV}(l:o.op= .load t x)(m:σ.eval x= .p k f)(r:σ.box k=some cs)(h:C9 P t f cs=some e)(g:Re Δ W β σ Φ a w)(b:σ.wf):
 Qx P Δ W σ Φ β a w o e:=by
 obtain⟨_,ty,s⟩:=g.box k cs r;have c:=g.eval x;rw[m]at c;obtain⟨B,u,A⟩:=FK s h;obtain⟨v,wr⟩:=e;obtain rfl:wr=none:=u;refine Qx.pure g b (λj y=> ?_) ?_
 .obtain⟨x,m,hi⟩:=A j y;exact b.cells k cs r x m j hi
 .unfold execOp;rw[l];simp only[c,AV.conc,Instr.loadAt,Instr.sureAddr,AG,AI,AC,B]
theorem V_{t:YH}{x y:YJ}{k b:Nat}{cs:List AV}(G:o.op= .store t x y)(uZ:σ.eval x= .p k b)(F:σ.box k=some cs)(h:Eb P t k b cs (cellsOf (σ.eval y))=some e)(vg:Re Δ W β σ Φ a w)(f:σ.wf):
 Qx P Δ W σ Φ β a w o e:=by
 obtain⟨_,ty,L⟩:=vg.box k cs F;have D:=vg.eval x;rw[uZ]at D;have g:=vg.eval y;have l:=Jk β (σ.eval y);have B:∀z∈cellsOf (σ.eval y),∀j∈z.ids,(σ.box j).isSome=true:=by
  have:=f.eval y;cases vf:σ.eval y with
  |v q=>intro z c j A;simp[cellsOf,vf]at c;obtain⟨q',_,rfl⟩:=c;simp[AV.ids]at A
  |_=>intro z c j A;rw[vf]at this;simp[cellsOf,vf]at c;subst c;exact this j A
 unfold Eb at h;split at h
 .rename_i n N;split at h
  .rename_i ve;simp only[AH,CJ]at ve;obtain⟨⟨K,s⟩,C⟩:=ve;have s:=AU s;injection h with h;subst h;have u:(cs.take b++cellsOf (σ.eval y)++cs.drop (b+n)).map (AV.conc β)=((cs.map (AV.conc β)).toArray.toList.take b++(a.eval y).cells.toList++(cs.map (AV.conc β)).toArray.toList.drop (b+(a.eval y).cells.toList.length)):=by
    rw[g,<-l];simp[K,List.map_take,List.map_drop]
   have m:=run_storeCells_at P (β k) b ty (a.eval y).cells.toList 0 (cs.map (AV.conc β)).toArray w L (by rw[g,<-l];simp;omega) (by
    rw[g,<-l];intro v uR;obtain⟨z,c,rfl⟩:=AY.1 uR;exact ut (AE.1 C z c))
   simp only[DY]at m;rw[<-u]at m;have uS:(a.eval y).cells.size=n:=by
    rw[<-Array.length_toList,g,<-l];simpa using K
   have r:(Instr.storeAt t (.pointer (some ⟨β k,b,none⟩)) (a.eval y)).run P w= .ok () (w.setRow (β k) ((cs.take b++cellsOf (σ.eval y)++cs.drop (b+n)).map (AV.conc β)).toArray):=by
    simp only[Instr.storeAt,Instr.sureAddr,storeVar,AG,AI,AC,M0 N];rw[V (by simpa using uS)];simp only[m,AI,AG,AC]
   refine⟨?_,β,.skip,w.setRow (β k) ((cs.take b++cellsOf (σ.eval y)++cs.drop (b+n)).map (AV.conc β)).toArray,?_,.inr ⟨rfl,rfl⟩,?_⟩
   .rw[tt];refine AS.wf.put (f.wr (k:=k) ?_) _ (by intro j A;simp[AV.ids]at A);intro z c;simp only[BR]at c;rcases c with (c|c)|c
    .exact f.cells k cs F z (DH c)
    .exact B z c
    .exact f.cells k cs F z (List.mem_of_mem_drop c)
   .unfold execOp;rw[G];simp only[D,AV.conc,AG,r,AC,AI]
   .rw[tt];exact(vg.store F).put _ _
  .cases h
 .cases h
end
section
variable{P:YK}{Δ:List YI}{W:YN}{β:Nat->Nat}{σ:AS}{Φ:YW}{a:Act}{w:YN}{o:YD}{e:Hx}
theorem VB{t:YH}{x:YJ}{f k b:Nat}(m:o.op= .fieldAddr t x f)(A:σ.eval x= .p k b)(h:U8 P t f k b=some e)(r:Re Δ W β σ Φ a w)(g:σ.wf):
 Qx P Δ W σ Φ β a w o e:=by
 have l:=r.eval x;have j:=g.eval x;rw[A]at l j;unfold U8 at h;split at h
 .rename_i B v;split at h
  .rename_i y s;split at h
   .rename_i n u;injection h with h;subst h;refine Qx.pure r g j ?_;have c:(Instr.fieldAt t (.pointer (some ⟨β k,b,none⟩)) f).run P w= .ok (.pointer (some ⟨β k,b+y.offset,none⟩)) w:=by
     simp only[Instr.fieldAt,AG,run_underlying v,AC,s,Instr.sureAddr,AI,fieldPlace,M0 u,Nat.add_one_ne_zero,if_false,Addr.add_mid]
    unfold execOp;rw[m];simp only[l,AV.conc,AG,c,AC,AI]
   .cases h
  .cases h
 .cases h
theorem QP{t:YH}{x:YJ}{f g b:Nat}(m:o.op= .fieldAddr t x f)(B:σ.eval x= .v (.pointer (some ⟨g,b,none⟩)))(h:B3 P t f g b=some e)(p:Re Δ W β σ Φ a w)(l:σ.wf):
 Qx P Δ W σ Φ β a w o e:=by
 have j:=p.eval x;rw[B]at j;unfold B3 at h;split at h
 .rename_i C y;split at h
  .rename_i A r;split at h
   .rename_i n s;injection h with h;subst h;refine Qx.pure p l (by intro k u;simp[AV.ids]at u) ?_;have c:(Instr.fieldAt t (.pointer (some ⟨g,b,none⟩)) f).run P w= .ok (.pointer (some ⟨g,b+A.offset,none⟩)) w:=by
     simp only[Instr.fieldAt,AG,run_underlying y,AC,r,Instr.sureAddr,AI,fieldPlace,M0 s,Nat.add_one_ne_zero,if_false,Addr.add_mid]
    unfold execOp;rw[m];simp only[j,AV.conc,AG,c,AC,AI]
   .cases h
  .cases h
 .cases h
theorem XE{t:YH}{x D:YJ}(s:o.op= .indexAddr t x D)(h:Ed P t (σ.eval x) (σ.eval D)=some e)(u:Re Δ W β σ Φ a w)(m:σ.wf):
 Qx P Δ W σ Φ β a w o e:=by
 have f:=u.eval x;have j:=m.eval x;have c:=u.eval D;unfold Ed at h;split at h
 .rename_i k l C i B hi;rw[B]at f j;rw[hi]at c;split at h
  .rename_i len elem y;split at h
   .rename_i n v;split at h
    .rename_i p;simp only[AH,decide_eq_true_eq]at p;obtain⟨r,vg⟩:=p;have r:=AU r;injection h with h;subst h;refine Qx.pure u m j ?_;have A:0<=i/\i<(len:Int):=J
     have b:(Instr.indexAt t (.pointer (some ⟨β k,l,none⟩)) (.int C i)).run P w= .ok (.pointer (some ⟨β k,l+i.toNat*n,none⟩)) w:=by
      simp only[Instr.indexAt,asIntOf,AG,AI,AC,run_underlying y,Instr.sureAddr,M0 v,YS A,Addr.add_mid]
     unfold execOp;rw[s];simp only[f,c,AV.conc,AG,b,AC,AI]
    .cases h
   .cases h
  .cases h
 .rename_i k len C i B hi;rw[B]at f j;rw[hi]at c;split at h
  .rename_i elem y;split at h
   .rename_i n v;split at h
    .rename_i p;simp only[AH,decide_eq_true_eq]at p;obtain⟨r,vg⟩:=p;have r:=AU r;injection h with h;subst h;refine Qx.pure u m j ?_;have A:0<=i/\i<(len:Int):=J
     have b:(Instr.indexAt t (.slice (some ⟨β k,0,none⟩) len len) (.int C i)).run P w= .ok (.pointer (some ⟨β k,i.toNat*n,none⟩)) w:=by
      simp only[Instr.indexAt,asIntOf,AG,AI,AC,run_underlying y,Instr.sureAddr,M0 v,YS A,Addr.add_mid,CD]
     unfold execOp;rw[s];simp only[f,c,AV.conc,AG,b,AC,AI]
    .cases h
   .cases h
  .cases h
 .rename_i g l C i B hi;rw[B]at f j;rw[hi]at c;split at h
  .rename_i len elem y;split at h
   .rename_i n v;split at h
    .rename_i p;simp only[AH,decide_eq_true_eq]at p;obtain⟨r,vg⟩:=p;have r:=AU r;injection h with h;subst h;refine Qx.pure u m (by intro k F;simp[AV.ids]at F) ?_;have A:0<=i/\i<(len:Int):=J
     have b:(Instr.indexAt t (.pointer (some ⟨g,l,none⟩)) (.int C i)).run P w= .ok (.pointer (some ⟨g,l+i.toNat*n,none⟩)) w:=by
      simp only[Instr.indexAt,asIntOf,AG,AI,AC,run_underlying y,Instr.sureAddr,M0 v,YS A,Addr.add_mid]
     unfold execOp;rw[s];simp only[f,c,AV.conc,AG,b,AC,AI]
    .cases h
   .cases h
  .cases h
 .cases h
theorem Eh{β:Nat->Nat}:∀{l:List AV} {r:List (Nat×Nat)},Ei l=some r->l.map (AV.conc β)=r.map (λc=>CB (some ⟨β c.1,c.2,none⟩))/\∀c∈r,∃x∈l,c.1∈x.ids
 | [],r,h=>by simp[Ei]at h;subst h;exact⟨rfl,λc b=>by cases b⟩
 | .p k o::l,r,h=>by
  simp only[Ei]at h;split at h
  .rename_i u g;injection h with h;subst h;obtain⟨j,t⟩:=Eh (β:=β) g;refine⟨by simp[AV.conc,j],λc b=> ?_⟩;rcases DJ.1 b with rfl|b
   .exact⟨_,DM ..,by simp[AV.ids]⟩
   .obtain⟨x,m,hi⟩:=t c b;exact⟨x,DI _ m,hi⟩
  .cases h
 | .v _::_,r,h=>by simp[Ei]at h
 | .s _ _::_,r,h=>by simp[Ei]at h
 | .f _ _::_,r,h=>by simp[Ei]at h
theorem VS{t:YH}{len:Nat}{b:Array (Nat×YJ)}{elem n:Nat}{z:YM}{vs:List YM}{cells:Array YM}(u:o.op= .buildSlice t len b)
 (K:P.underlying t=some (.slice elem)) (vf:Ot P elem=some n) (vg:Bp P elem=some z) (l:Jn (b.toList.map λp=>σ.eval p.2)=some vs)
 (D:len*n<=16777216) (N:1<=len*n)
 (F:Instr.fill (λi=>some (i*n,n)) ((Array.range (len*n)).map (z.cells[· %z.cells.size]!)) ((b.toList.map (·.1)).zip vs)=some cells)
 (h:Ti σ o.dst (cells.toList.map .v) (λd=> .s d len)=some e) (y:Re Δ W β σ Φ a w) (m:σ.wf):Qx P Δ W σ Φ β a w o e:=by
 refine Qx.new y m h (by intro x A j uS;simp at A;obtain⟨q,_,rfl⟩:=A;simp[AV.ids]at uS) (by intro d k ve;simpa[AV.ids]using ve) elem λG d L=> ?_
 have r:=Qi (β:=β) l;have c:(b.map λ(i,x)=>(i,a.eval x)).toList=(b.toList.map (·.1)).zip vs:=by
  rw[<-r,Array.toList_map,DN,List.zip_map'];exact BA λp uR=>by
   obtain⟨i,x⟩:=p;simp only[Function.comp,y.eval x]
 have f:(cells.toList.map AV.v).map (AV.conc β)=cells.toList:=by simp[BN,AV.conc]
 have g:(Instr.buildSlice t len (b.map λ(i,x)=>(i,a.eval x))).run P w= .ok (.slice (some ⟨w.heap.size,0,none⟩) len len) (w.alloc (.cells cells elem)):=by
  have B:¬len*n>2 ^ 24:=J
  have C:¬len*n=0:=J
  simp only[Instr.buildSlice,AG,run_underlying K,AC,M0 vf,V B,V C,Xr vg,AI,c,F]
  rfl
 unfold execOp;rw[u];simp only[AG,g,AC,AI,f,AV.conc,L]
theorem pb(h:aK P o σ=some e)(m:Re Δ W β σ Φ a w)(l:σ.wf):Qx P Δ W σ Φ β a w o e:=by
 unfold aK at h;split at h
 .rename_i x b;injection h with h;subst h;refine Qx.pure m l (l.eval x) ?_;unfold execOp;rw[b];rw[<-m.eval];rfl
 .rename_i x b;injection h with h;subst h;refine Qx.pure m l (l.eval x) ?_;unfold execOp;rw[b];rw[<-m.eval];rfl
 .rename_i t b;split at h
  .rename_i z s;refine Qx.new m l h (by intro x p j D;simp at p;obtain⟨q,_,rfl⟩:=p;simp[AV.ids]at D) (by intro d k A;simpa[AV.ids]using A) t λuR d uZ=> ?_
   have B:(z.cells.toList.map AV.v).map (AV.conc β)=z.cells.toList:=by simp[BN,AV.conc]
   unfold execOp;rw[b];simp only[Instr.alloc,AG,Xr s,AC,Xs,AI,B,AV.conc,uZ]
  .cases h
 .rename_i t x b;have vf:∀z∈cellsOf (σ.eval x),∀j∈z.ids,(σ.box j).isSome=true:=by
   have:=l.eval x;cases G:σ.eval x with
   |v q=>intro z s j D;simp[cellsOf,G]at s;obtain⟨q',_,rfl⟩:=s;simp[AV.ids]at D
   |_=>intro z s j D;rw[G]at this;simp[cellsOf,G]at s;subst s;exact this j D
  refine Qx.new m l h vf (by intro d k A;simpa[AV.ids]using A) t λuR d uZ=> ?_
  unfold execOp;rw[b];have K:(cellsOf (σ.eval x)).map (AV.conc β)=(a.eval x).cells.toList:=by rw[Jk,m.eval]
  simp only[Instr.box,AG,Xs,AC,AI,K,Array.toArray_toList];simp only[AV.conc,uZ]
 .rename_i t x b;split at h
  .rename_i k u p;split at h
   .rename_i cs Q;exact ag b p Q h m l
   .cases h
  .cases h
 .rename_i t x y b;split at h
  .rename_i k u p;split at h
   .rename_i cs Q;exact V_ b p Q h m l
   .cases h
  .cases h
 .rename_i t x f b;split at h
  .rename_i k u p;exact VB b p h m l
  .rename_i g u p;exact QP b p h m l
  .cases h
 .rename_i t x uV b;exact XE b h m l
 .rename_i x b;split at h
  .rename_i k u p;injection h with h;subst h;have F:=l.eval x;have uS:=m.eval x;rw[p]at F uS;refine Qx.pure m l F ?_;unfold execOp;rw[b];simp only[uS,AV.conc];rfl
  .exact Ec h m l
 .rename_i g first C b;split at h
  .rename_i c r L vg;injection h with h;subst h;obtain⟨uX,T⟩:=Eh (β:=β) vg;refine Qx.pure m l ?_ ?_
   .intro k A;simp only[AV.ids]at A;obtain⟨q,G,rfl⟩:=AY.1 A;obtain⟨x,p,hi⟩:=T q G;obtain⟨y,_,rfl⟩:=AY.1 p;exact l.eval y _ hi
   .have uY:first.map a.eval= #[]:=by
     have:first= #[]:=by simpa using L
     rw[this];simp
    have S:C.map a.eval=((c::r).map λc=>CB (some ⟨β c.1,c.2,none⟩)).toArray:=by
     rw[<-uX,DN];apply Array.toList_inj.1;simp only[Array.toList_map,List.toList_toArray];exact BA λx _=>m.eval x
    unfold execOp;rw[b];simp only[uY,S,AV.conc]
    rfl
  .exact Ec h m l
 .rename_i t len N b;split at h
  .rename_i elem uU;split at h
   .rename_i n z uW s;split at h
    .rename_i vs ve;split at h
     .rename_i vg;simp only[AH]at vg;split at h
      .rename_i cells L;exact VS b uU uW s ve (AU vg.1) (AU vg.2) L h m l
      .cases h
     .cases h
    .cases h
   .cases h
  .cases h
 .exact Ec h m l
end
def B7(σ:AS)(c:Call):Option (YE×List AV):=
 match c.callee with
 | .value f=>match σ.eval f with
  | .v (.func (.func g) first a)=>some (g,first.toList.map .v++c.args.toList.map σ.eval++a.toList.map .v)
  | .f g a=>some (g,c.args.toList.map σ.eval++a.map λq=> .p q.1 q.2)
  |_=>none
 |_=>none
def LE(P:YK)(g:YE):Bool:=
 match P.funcs[g]? with
 |some a=> !(a.name== "runtime.NumGoroutine")&&a.body.isSome
 |none=>false
def Y9(P:YK)(o:YD)(σ:AS):Option (YE×List AV):=
 match o.op with
 | .call c=>match B7 σ c with
  |some (g,xs)=>if LE P g then some (g,xs)else none
  |none=>none
 |_=>none
def D4(a:Array YD)(σ:AS)(j:Nat):Option Bool:=
 match (a[j]?).bind (·.dst)with
 |some t=>match σ.tmps[t]? with
  |some (.v (.bool b))=>some b
  |_=>none
 |none=>none
def Lc(c:Array YD)(o:YD)(σ:AS):Bool:=
 match o.guard with
 |none=>true
 |some (j,a)=>match D4 c σ j with
  |some b=>b==a
  |none=>false
def Bj(P:YK)(a:Array YD)(o:YD)(σ:AS):Option Hx:=
 if Lc a o σ then aK P o σ else some ⟨.v undef,none⟩
def K6{uX:Type}(w:YN)(val:uX->YM)(G:uX->YN->Prop)(e:YC)(c:YN):Prop:=
 ∃x,e= .returned (val x)/\Below w.heap.size w c/\∀a,c.heap.size<=a.heap.size->(∀b,w.heap.size<=b->b<c.heap.size->a.heap[b]? =c.heap[b]?)->G x a
def SD(β:Nat->Nat)(σ:AS)(xs:List AV)(w:YN):Prop:=
 ∀x∈xs,∀k∈x.ids,∀cs,σ.box k=some cs->∃ty,w.heap[β k]? =some (.cells (cs.map (AV.conc β)).toArray ty (0,0))
def Lw{uX:Type}(P:YK)(w:YN)(val:uX->YM)(G:uX->YN->Prop)(s:Sem Next):Prop:=
 ∃x c,s.run P w= .ok (.value (val x)) c/\Below w.heap.size w c/\∀a,c.heap.size<=a.heap.size->(∀b,w.heap.size<=b->b<c.heap.size->a.heap[b]? =c.heap[b]?)->G x a
structure SM(L:List Nat)(w w':YN):Prop where
 os:w'.os=w.os
 tape:w'.tape=w.tape
 output:w'.output=w.output
 size:w.heap.size<=w'.heap.size
 block:∀k,k<w.heap.size->k∉L->w'.heap[k]? =w.heap[k]?
def Ni{uX:Type}(w:YN)(L:List Nat)(val:uX->YM)(G:uX->YN->Prop)(e:YC)(c:YN):Prop:=
 ∃x,e= .returned (val x)/\SM L w c/\∀a,c.heap.size<=a.heap.size->(∀b,b∈L\/(w.heap.size<=b/\b<c.heap.size)->a.heap[b]? =c.heap[b]?)->G x a
def Pp{uX:Type}(P:YK)(w:YN)(L:List Nat)(val:uX->YM)(G:uX->YN->Prop)(s:Sem Next):Prop:=
 ∃x c,s.run P w= .ok (.value (val x)) c/\SM L w c/\∀a,c.heap.size<=a.heap.size->(∀b,b∈L\/(w.heap.size<=b/\b<c.heap.size)->a.heap[b]? =c.heap[b]?)->G x a
def Bk(W:YN)(L:List Nat)(Φ:YW):Prop:=∀w,Φ w->∀b∈L,W.heap.size<=b/\∃cs ty own,w.heap[b]? =some (.cells cs ty own)
def Hw(L:List Nat)(Φ G Φ':YW):Prop:=∀a w,a.heap.size=w.heap.size->(∀b,b∉L->a.heap[b]? =w.heap[b]?)->Φ a->G w->Φ' w
section
variable{Δ:List YI}{W:YN}{Φ Φ':YW}
theorem Re.mut{β:Nat->Nat}{σ:AS}{a:Act}{w t:YN}{L:List Nat}{G:YW}(g:Re Δ W β σ Φ a w)
 (A:Bk W L Φ)
 (l:SM L w t) (vg:∀c,t.heap.size<=c.heap.size->(∀b,b∈L\/(w.heap.size<=b/\b<t.heap.size)->c.heap[b]? =t.heap[b]?)->G c)
 (x:Hw L Φ G Φ'):Re Δ W β σ Φ' a t:=by
 have r:∀k,(σ.box k).isSome=true->β k<w.heap.size:=λk j=>by
  obtain⟨cs,v⟩:=AR.1 j;obtain⟨_,ty,D⟩:=g.box k cs v;exact(AJ.1 D).1
 have m:∀b∈L,W.heap.size<=b/\b<w.heap.size:=λb f=>by
  obtain⟨p,cs,ty,own,h⟩:=A w g.phi b f;exact⟨p,(AJ.1 h).1⟩
 have C:∀k,(σ.box k).isSome=true->β k∉L:=λk j f=>by
  have p:=g.keep {w with heap:=w.heap.setIfInBounds (β k) (.pending #[] 0)} ⟨by simp,λb _ h u=>by
   rw[BQ (u k j)]⟩
  obtain⟨_,cs,ty,own,h⟩:=A _ p _ f;rw[BI (r k j)]at h;cases h
 refine⟨g.tmps,g.defers,⟨l.os.trans g.bel.os,l.tape.trans g.bel.tape,l.output.trans g.bel.output,BB g.bel.size l.size,λk j=> ?_⟩,λk cs j=> ?_,g.inj,λc s=> ?_⟩
 .rw[l.block k (AW j g.bel.size) λf=>by have:=(m k f).1;omega];exact g.bel.block k j
 .have B:(σ.box k).isSome=true:=by rw[j];rfl
  obtain⟨p,ty,h⟩:=g.box k cs j;exact⟨p,ty,by rw[l.block _ (r k B) (C k B)];exact h⟩
 .refine x {c with heap:=c.heap.mapIdx λi o=>if i∈L then(w.heap[i]?).getD o else o} c Zs (λb f=> ?_) (g.keep _ ⟨?_,λb p h u=> ?_⟩) (vg c s.size λb f=> ?_)
  .simp only[Array.getElem?_mapIdx,V f];cases c.heap[b]? <;>rfl
  .simp only[Array.size_mapIdx];exact BB l.size s.size
  .simp only[Array.getElem?_mapIdx]
   by_cases f:b∈L
   .simp only[YS f];have y:b<c.heap.size:=AW h (BB l.size s.size);rw[Array.getElem?_eq_getElem y,Array.getElem?_eq_getElem h]
    rfl
   .simp only[V f];rw[s.heap b p (AW h l.size) u,l.block b h f];cases w.heap[b]? <;>rfl
  .rcases f with f|⟨p,h⟩
   .exact s.heap b (m b f).1 (AW (m b f).2 l.size) λk j e=>C k j (e▸f)
   .exact s.heap b (BB g.bel.size p) h λk j e=>by have:=r k j;omega
end
def Oz(b:Array YD)(a:Array Bool):Prop:=
 ∀k o,b[k]? =some o->a.getD k false=true->∀e∈o.after,Region.binds .any e=true->a.getD e.on false=true
def LJ(a:Array YD)(o:YD):Prop:=∀(i:Nat),a[i]? =some o->∀(listed:Array Bool) (j:Nat),Oz a listed->i∈Region.ready .any a listed->j∈Region.ready .any a listed->j=i
def ib(P:YK)(s:Sem Next)(v:YM)(w:YN):Prop:=s.run P w= .ok (.value v) w\/(v=undef/\s.run P w= .ok .skip w)
def C8(a:Array YD)(o:YD):Bool:=o.op.operands.toList.all λx=>match x with
 | .tmp t=>a.toList.all λq=>q.dst !=some t
 |_=>true
def GS(a:Array YD)(σ:AS)(t:Nat)(ok:YD):Bool:=(ok.dst==some t)&&(C8 a ok&& !(σ.plain ok.op))
def Tn(a:Array YD)(σ:AS)(o:YD):Bool:=match o.op with
 | .load _ (.tmp t)=>a.toList.any (GS a σ t)
 |_=>false
def fX:Op->Bool
 | .move _=>true
 |_=>false
theorem GK{op:Op}(h:∀x,op= .move x->False):fX op=false:=by
 cases op<;>first|rfl|exact(h _ rfl).elim
def Jr(a:Array YD)(o:YD)(σ:AS):Prop:=∀(i:Nat),a[i]? =some o->∀(listed:Array Bool) (j:Nat),Oz a listed->i∈Region.ready .any a listed->j∈Region.ready .any a listed->j=i\/∃b,a[j]? =some b/\((C8 a b=true/\σ.plain b.op=false)\/fX b.op=true\/Tn a σ b=true)
inductive kZ(P:YK)(W:YN)(ops:Array YD)(o:YD)(uT:List YF->(YW)->Prop)(K:AS->(YW)->Prop)(σ:AS)(Φ:YW):Prop
 |det (e:Hx) (h:Bj P ops o σ=some e) (hK:K (σ.app o.dst e) Φ):kZ P W ops o uT K σ Φ
 |call {uX:Type} (g:YE) (xs:List AV) (val:uX->YM) (G:uX->YN->Prop) (hw:Lc ops o σ=true) (hc:Y9 P o σ=some (g,xs))
  (hs:∀β w,Below W.heap.size W w->Φ w->SD β σ xs w->YG P g (xs.map (AV.conc β)).toArray w (K6 w val G)) (hK:∀x:uX,K (σ.put o.dst (.v (val x))) (λw=>Φ w/\G x w)):kZ P W ops o uT K σ Φ
 |ask (v:YM) (hw:Lc ops o σ=true) (hp:σ.plain o.op=true) (hns:∀cs b,o.op≠ .select cs b) (hmv:fX o.op=false) (hcb:Tn ops σ o=false) (hs:∀w,Below W.heap.size W w->Φ w->ib P (execOp σ.rho o) v w) (hK:K (σ.put o.dst (.v v)) Φ):kZ P W ops o uT K σ Φ
 |make {uX:Type} (val:uX->YM) (G:uX->YN->Prop) (hw:Lc ops o σ=true) (hp:σ.plain o.op=true) (hns:∀cs b,o.op≠ .select cs b)
  (hs:∀w,Below W.heap.size W w->Φ w->Lw P w val G (execOp σ.rho o)) (hK:∀x:uX,K (σ.put o.dst (.v (val x))) (λw=>Φ w/\G x w)):kZ P W ops o uT K σ Φ
 |mutm {uX:Type} {L:List Nat} (val:uX->YM) (G Φ':uX->YN->Prop) (hl:Jr ops o σ) (hw:Lc ops o σ=true) (hp:σ.plain o.op=true) (hns:∀cs b,o.op≠ .select cs b)
  (hs:(∀w,Below W.heap.size W w->Φ w->Pp P w L val G (execOp σ.rho o))\/(∃g xs vs,Y9 P o σ=some (g,xs)/\Jn xs=some vs/\∀w,Below W.heap.size W w->Φ w->YG P g vs.toArray w (Ni w L val G))) (hL:Bk W L Φ) (hΦ:∀x,Hw L Φ (G x) (Φ' x)) (hK:∀x:uX,K (σ.put o.dst (.v (val x))) (Φ' x)):kZ P W ops o uT K σ Φ
 |pan {L:List Nat} (ch:List YF) (Φ':YW) (g:YE) (xs:List AV) (vs:List YM) (hl:Jr ops o σ) (hw:Lc ops o σ=true) (hp:σ.plain o.op=true) (hc:Y9 P o σ=some (g,xs)) (hv:Jn xs=some vs)
  (hs:∀w,Below W.heap.size W w->Φ w->YG P g vs.toArray w (λe w'=>e= .panicked ch/\SM L w w')) (hL:Bk W L Φ) (hΦ:Hw L Φ (λ_=>True) Φ') (hZ:uT ch Φ'):kZ P W ops o uT K σ Φ
 |lone (hl:LJ ops o) (hs:∀(Δ:List YI) (β:Nat->Nat) (a:Act) (w:YN) (Q:Exit->Act->YN->Prop) (i:Nat) (K':Act->YN->Prop),ops[i]? =some o->Re Δ W β σ Φ a w->σ.wf->
  (∀β' σ' Φ' a' w',K σ' Φ'->Re Δ W β' σ' Φ' a' w'->σ'.wf->K' a' w')->wpOp P ops Q i K' a w):kZ P W ops o uT K σ Φ
section
variable{P:YK}{Δ:List YI}{W:YN}{β:Nat->Nat}{σ:AS}{Φ:YW}{a:Act}{w:YN}{o:YD}{e:Hx}{ops:Array YD}{Q:Exit->Act->YN->Prop}
theorem Mw(c:Re Δ W β σ Φ a w):Region.wanted o (yielded ops a.tmps)=Lc ops o σ:=by
 unfold Region.wanted Lc;cases f:o.guard with
 |none=>rfl
 | some q=>
  obtain⟨j,b⟩:=q;simp only;unfold yielded D4;cases g:(ops[j]?).bind (·.dst)with
  |none=>simp
  | some t=>
   have e:a.tmps[t]? =(σ.tmps.map (AV.conc β))[t]? :=by rw[<-c.tmps];simp
   simp only[AL,e,BO];cases σ.tmps[t]? with
   |none=>simp
   |some y=>
    cases y with
    |v x=>cases x<;>simp[AV.conc]
    |_=>simp[AV.conc]
theorem Ik(g:YE)(args:Array YM)(h:LE P g=true)(w:YN):(callFunc g args).run P w= .ok (.enter g args) w:=by
 unfold LE at h;cases b:P.funcs[g]? with
 |none=>rw[b]at h;cases h
 | some f=>
  rw[b]at h;simp only[AH,CN]at h;have k:f.body.isNone=false:=by
   cases j:f.body with
   |none=>rw[j]at h;cases h.2
   |some c=>rfl
  simp only[callFunc,AG,run_program,AC,b,h.1,k,CC,if_false,AI]
theorem Y8{g:YE}{xs:List AV}(h:Y9 P o σ=some (g,xs))(v:Re Δ W β σ Φ a w):(execOp a.eval o).run P w= .ok (.enter g (xs.map (AV.conc β)).toArray) w:=by
 unfold Y9 at h;split at h
 .rename_i c r;split at h
  .rename_i A y k;split at h
   .rename_i m;injection h with h;injection h with h1 h2;subst h1;subst h2;have b:c.args.map a.eval=((c.args.toList.map σ.eval).map (AV.conc β)).toArray:=by
     apply Array.toList_inj.1;simp only[Array.toList_map,DN];exact BA λx _=>v.eval x
    unfold B7 at k;split at k
    .rename_i f u;have p:=v.eval f;split at k
     .rename_i t first j s;injection k with k;injection k with h1 h2;subst h1;subst h2;rw[s]at p;have l:resolve a.eval c o.type=pure {target:= .fn (.func t) j,args:=first++c.args.map a.eval}:=by
       unfold resolve;rw[u];simp only[p,AV.conc,Deferred.ofValue]
      unfold execOp;rw[r];simp only[l,AG,AI,AC,invoke,Ik _ _ m];congr 2;rw[b];apply Array.toList_inj.1;simp[AV.conc,BN]
     .rename_i t j s;injection k with k;injection k with h1 h2;subst h1;subst h2;rw[s]at p;have l:resolve a.eval c o.type=pure {target:= .fn (.func t) (j.map λc=>CB (some ⟨β c.1,c.2,none⟩)).toArray,args:= #[]++c.args.map a.eval}:=by
       unfold resolve;rw[u];simp only[p,AV.conc,Deferred.ofValue]
      unfold execOp;rw[r];simp only[l,AG,AI,AC,invoke,Ik _ _ m];congr 2;rw[b];apply Array.toList_inj.1;simp[AV.conc,BN]
     .cases k
    .cases k
   .cases h
  .cases h
 .cases h
theorem Re.call(f:Re Δ W β σ Φ a w){j:YN}{G:YW}(l:Below w.heap.size w j)
 (y:∀c,j.heap.size<=c.heap.size->(∀b,w.heap.size<=b->b<j.heap.size->c.heap[b]? =j.heap[b]?)->G c):Re Δ W β σ (λw=>Φ w/\G w) a j:=by
 have m:∀k,(σ.box k).isSome=true->β k<w.heap.size:=λk g=>by
  obtain⟨cs',p⟩:=AR.1 g;obtain⟨_,u,v⟩:=f.box k cs' p;exact(AJ.1 v).1
 refine⟨f.tmps,f.defers,f.bel.trans (l.mono f.bel.size),λk cs g=> ?_,f.inj,λc r=>⟨f.keep c ⟨BB l.size r.size,λb x h g=> ?_⟩,y c r.size λb t s=>r.heap b (BB f.bel.size t) s λk g e=> ?_⟩⟩
 .obtain⟨t,ty,s⟩:=f.box k cs g;exact⟨t,ty,by rw[l.block _ (m k (by rw[g];rfl))];exact s⟩
 .rw[r.heap b x (AW h l.size) g,l.block b h]
 .have:=m k g;omega
theorem IZ{i:Nat}{uT:List YF->(YW)->Prop}{KA:AS->(YW)->Prop}{K:Act->YN->Prop}(h:kZ P W ops o uT KA σ Φ)(D:ops[i]? =some o)(b:Re Δ W β σ Φ a w)(j:σ.wf)(uV:∀uR y σ' Φ' ve s,uT uR Φ'->Re Δ W y σ' Φ' ve s->σ'.wf->Q (.panic uR) ve s)
 (u:∀y σ' Φ' ve s,KA σ' Φ'->Re Δ W y σ' Φ' ve s->σ'.wf->K ve s):wpOp P ops Q i K a w:=by
 cases h with
 |lone uW m=>exact m Δ β a w Q i K D b j u
 | det e h f=>
  unfold wpOp;simp only[D,Mw b];unfold Bj at h;split at h
  .rename_i r;simp only[r,if_true];obtain⟨B,y,nx,s,c,T,C⟩:=pb h b j;refine .inl ?_;unfold Oper.wp;rw[c];rcases T with rfl|⟨rfl,hu⟩
   .exact u _ _ _ _ _ f C B
   .rw[hu]at C;exact u _ _ _ _ _ f C B
  .rename_i r;simp only[r,if_false];injection h with h;subst h;refine u β _ _ _ _ f ?_ ?_
   .rw[tt];exact Re.put (σ:=⟨σ.tmps,σ.box⟩) b o.dst (.v undef)
   .rw[tt];exact AS.wf.put (σ:=⟨σ.tmps,σ.box⟩) j o.dst (by intro k f;simp[AV.ids]at f)
 |call g xs val G r uS m f=>
  unfold wpOp;simp only[D,Mw b];simp only[r,if_true];refine .inl ?_;unfold Oper.wp;rw[Y8 uS b];refine Calls.mono (m β w b.bel b.phi λx _ k _ cs uY=>(b.box k cs uY).2) λe s vf=> ?_
  obtain⟨x,rfl,S,vg⟩:=vf;exact u β _ _ _ _ (f x) ((b.call S vg).put o.dst (.v (val x))) (j.put _ (by intro k f;simp[AV.ids]at f))
 | ask v r F p uX hcb m f=>
  unfold wpOp;simp only[D,Mw b];simp only[r,if_true];refine .inl ?_;have l:∀x∈o.op.operands,a.eval x=σ.rho x:=λx L=>by
   rw[b.eval,tp];· rfl
   exact AE.1 F x (by simpa using L)
  unfold Oper.wp;rcases m w b.bel b.phi with c|⟨rfl,c⟩
  .rw[execOp_congr o p l,c];exact u β _ _ _ _ f (b.put o.dst (.v v)) (j.put _ (by intro k f;simp[AV.ids]at f))
  .rw[execOp_congr o p l,c];exact u β _ _ _ _ f (b.put o.dst (.v undef)) (j.put _ (by intro k f;simp[AV.ids]at f))
 |pan uR Φ2 g xs vs uW r F uS uZ m N A uU=>
  unfold wpOp;simp only[D,Mw b];simp only[r,if_true];refine .inl ?_;unfold Oper.wp;rw[Y8 uS b,Qi uZ];refine Calls.mono (m w b.bel b.phi) λe s vf=> ?_
  obtain⟨rfl,t⟩:=vf;exact uV uR β σ Φ2 a s uU (b.mut N t (λ_ _ _=>trivial) A) j
 | mutm val G Φ2 uW r F p m N A f=>
  unfold wpOp;simp only[D,Mw b];simp only[r,if_true];refine .inl ?_;have l:∀x∈o.op.operands,a.eval x=σ.rho x:=λx L=>by
   rw[b.eval,tp];· rfl
   exact AE.1 F x (by simpa using L)
  unfold Oper.wp;rcases m with m|⟨g,xs,vs,uS,uZ,m⟩
  .obtain⟨x,s,c,t,vg⟩:=m w b.bel b.phi;rw[execOp_congr o p l,c];exact u β _ _ _ _ (f x) ((b.mut N t vg (A x)).put o.dst (.v (val x))) (j.put _ (by intro k f;simp[AV.ids]at f))
  .rw[Y8 uS b,Qi uZ];refine Calls.mono (m w b.bel b.phi) λe s vf=> ?_
   obtain⟨x,rfl,t,vg⟩:=vf;exact u β _ _ _ _ (f x) ((b.mut N t vg (A x)).put o.dst (.v (val x))) (j.put _ (by intro k f;simp[AV.ids]at f))
 | make val G r F p m f=>
  unfold wpOp;simp only[D,Mw b];simp only[r,if_true];refine .inl ?_;have l:∀x∈o.op.operands,a.eval x=σ.rho x:=λx L=>by
   rw[b.eval,tp];· rfl
   exact AE.1 F x (by simpa using L)
  unfold Oper.wp;obtain⟨x,s,c,S,vg⟩:=m w b.bel b.phi;rw[execOp_congr o p l,c];exact u β _ _ _ _ (f x) ((b.call S vg).put o.dst (.v (val x))) (j.put _ (by intro k f;simp[AV.ids]at f))
end
def Jp(P:YK)(W:YN)(b:Array YD)(uT:List YF->(YW)->Prop)(K:AS->(YW)->Prop):Nat->Array Bool->AS->(YW)->Prop
 |0,a,σ,Φ=>Region.ready .any b a=[]/\K σ Φ
 |fuel+1,a,σ,Φ=>(Region.ready .any b a=[]->K σ Φ)/\
  ∀i∈Region.ready .any b a,∃o,b[i]? =some o/\kZ P W b o uT (Jp P W b uT K fuel (a.setIfInBounds i true)) σ Φ
theorem dN{P:YK}{e:Array YD}{Δ:List YI}{W:YN}{Q:Exit->Act->YN->Prop}{uT:List YF->(YW)->Prop}{K:AS->(YW)->Prop}
 (r:∀p β σ Φ a w,uT p Φ->Re Δ W β σ Φ a w->σ.wf->Q (.panic p) a w) (m:∀β σ Φ a w,K σ Φ->Re Δ W β σ Φ a w->σ.wf->Q .normal a w):∀(fuel:Nat) (b:Array Bool) (σ:AS) (Φ:YW) (β:Nat->Nat) (a:Act) (w:YN),
 Jp P W e uT K fuel b σ Φ->Re Δ W β σ Φ a w->σ.wf->wpAny P .any e Q fuel b a w
 |0,b,σ,Φ,β,a,w,h,g,c=>⟨h.1,m β σ Φ a w h.2 g c⟩
 |fuel+1,b,σ,Φ,β,a,w,h,g,c=>by
  refine⟨λv=>m β σ Φ a w (h.1 v) g c,λi hi=> ?_⟩;obtain⟨o,s,l⟩:=h.2 i hi;exact IZ l s g c r λk σ' Φ' t x u j f=>dN r m fuel _ σ' Φ' k t x u j f
theorem Oz.set_{b:Array YD}{a:Array Bool}{j:Nat}{l:YD}(h:Oz b a)(s:b[j]? =some l)(g:∀e∈l.after,Region.binds .any e=true->a.getD e.on false=true):
 Oz b (a.setIfInBounds j true):=by
 intro k o c p e r m
 by_cases f:j=k
 .subst f;rw[s]at c;injection c with c;subst c;exact getD_set_true (g e r m)
 .rw[getD_set_ne false f]at p;exact getD_set_true (h k o c p e r m)
theorem uI(a:Array YD)(n:Nat):Oz a (DR n false):=by
 intro k o c b;rw[BY,Array.getElem?_replicate]at b;split at b<;>simp at b
def nY(a:Array YD):Prop:=
 ∀i j c b,a[i]? =some c->a[j]? =some b->i≠j->∀d,c.dst=some d->b.dst≠some d/\(d∈b.looksAt a->(∃e∈b.after,Region.binds .any e=true/\e.on=i)\/∃e∈c.after,Region.binds .any e=true/\e.on=j)
def qt(a:Array YD):Bool:=
 a.toList.zipIdx.all λq=>a.toList.zipIdx.all λr=>BH r.2 q.2||(match r.1.dst with
  |some d=>(match q.1.dst with|some d'=> !BH d d'|none=>true)&&(!(q.1.looksAt a).contains d||(q.1.after.toList.any λe=>BH e.on r.2&&Region.binds .any e)||r.1.after.toList.any λe=>BH e.on q.2&&Region.binds .any e)
  |none=>true)
theorem jr{a:Array YD}(h:qt a=true):nY a:=by
 intro i j o p hi m k d s;have l:(o,i)∈a.toList.zipIdx:=by
  rw[BL];simpa using hi
 have t:(p,j)∈a.toList.zipIdx:=by
  rw[BL];simpa using m
 have c:=AE.1 (AE.1 h _ t) _ l;simp only[s,CZ,CJ,AH]at c;rcases c with c|⟨c,b⟩
 .exact absurd c k
 .refine⟨λe=> ?_,λr=> ?_⟩
  .rw[e]at c;simp at c
  .rcases b with (b|b)|b
   .simp only[CN,List.contains_eq_mem,decide_eq_false_iff_not]at b;exact absurd r b
   .obtain⟨e,g,f⟩:=CR.1 b;simp only[AH,CJ]at f;exact .inl ⟨e,by simpa using g,f.2,f.1⟩
   .obtain⟨e,g,f⟩:=CR.1 b;simp only[AH,CJ]at f;exact .inr ⟨e,by simpa using g,f.2,f.1⟩
def pv:AV->Option Nat
 | .p k _=>some k
 |_=>none
def Cn(o:YD)(σ:AS):Option Nat:=
 match o.op with
 | .load _ x=>pv (σ.eval x)
 | .store _ x _=>pv (σ.eval x)
 | .alloc _=>o.dst
 | .box _ _=>o.dst
 | .buildSlice _ _ _=>o.dst
 |_=>none
theorem s9{σ:AS}{d:Option Tmp}{v:AV}{x:YJ}(h:∀t,d=some t->x≠ .tmp t):(σ.put d v).eval x=σ.eval x:=by
 cases d with
 |none=>rfl
 | some t=>
  cases x with
  |tmp u=>
   have a:t≠u:=λe=>h t rfl (e▸rfl)
   simp[AS.eval,AS.put,List.getElem?_set_ne a]
  |_=>rfl
theorem tq{σ:AS}{d:Option Tmp}{e:Hx}{x:YJ}(h:∀t,d=some t->x≠ .tmp t):(σ.app d e).eval x=σ.eval x:=by
 rw[tt];rw[s9 h];cases x<;>rfl
theorem Q9{a:Array YD}{o:YD}{d:Option Tmp}(h:∀t,d=some t->t∉o.looksAt a){x:YJ}(b:x∈o.op.operands):∀t,d=some t->x≠ .tmp t:=by
 intro t c e;subst e;exact h t c (List.mem_append_left _ (List.mem_filterMap.2 ⟨.tmp t,by simpa using b,rfl⟩))
theorem Ow{a:Array YD}{b ok:YD}{i:Nat}(hi:a[i]? =some b)(h:C8 a ok=true)(y:YJ)(f:y∈ok.op.operands):∀t,b.dst=some t->y≠ .tmp t:=by
 intro t j e;subst e;have g:=AE.1 h (.tmp t) (by simpa using f);have c:=AE.1 g b (BZ (by rw[Array.getElem?_toList];exact hi));rw[j]at c;simp at c
theorem Nr{o:Op}{σ σ':AS}(h:∀x∈o.operands,σ'.eval x=σ.eval x):σ'.plain o=σ.plain o:=by
 unfold AS.plain;rw[Bool.eq_iff_iff,AE,AE];constructor
 .intro uS x a;rw[<-h x (by simpa using a)];exact uS x a
 .intro uS x a;rw[h x (by simpa using a)];exact uS x a
section
variable{P:YK}{o:YD}{σ σ':AS}
theorem Pf{a:Array YD}{σ σ':AS}(h:∀ok,C8 a ok=true->∀x∈ok.op.operands,σ'.eval x=σ.eval x)(o:YD):Tn a σ' o=Tn a σ o:=by
 have e:∀t,GS a σ' t=GS a σ t:=λt=>funext λok=>by
  unfold GS;cases b:C8 a ok with
  |false=>rfl
  |true=>rw[Nr (h ok b)]
 unfold Tn;split
 .rw[e]
 .rfl
theorem LI(h:∀x∈o.op.operands,σ'.eval x=σ.eval x):Ra P o σ'=Ra P o σ:=by
 unfold Ra;rw[Nr h];split
 .split
  .rfl
  .rename_i c;have a:∀x∈o.op.operands,σ'.rho x=σ.rho x:=λx f=>by unfold AS.rho;rw[h x f]
   rw[execOp_congr o (λcs b e=>c cs b e) a]
 .rfl
theorem V5(h:∀x∈o.op.operands,σ'.eval x=σ.eval x)(l:∀k,Cn o σ=some k->σ'.box k=σ.box k):aK P o σ'=aK P o σ:=by
 unfold aK;have g:=LI (P:=P) h;cases a:o.op with
 |move x=>simp only;rw[h x (by simp[a,Op.operands])]
 |assign x=>simp only;rw[h x (by simp[a,Op.operands])]
 | alloc t=>
  simp only;split
  .unfold Ti;split
   .rename_i d j;rw[l d (by unfold Cn;rw[a];exact j)]
   .rfl
  .rfl
 |box t x=>
  simp only;rw[h x (by simp[a,Op.operands])];unfold Ti;split
  .rename_i d j;rw[l d (by unfold Cn;rw[a];exact j)]
  .rfl
 |load t x=>
  simp only;rw[h x (by simp[a,Op.operands])];split
  .rename_i k r m;rw[l k (by unfold Cn;rw[a];simp only[m,pv])]
  .rfl
 |store t x y=>
  simp only;rw[h x (by simp[a,Op.operands]),h y (by simp[a,Op.operands])];split
  .rename_i k r m;rw[l k (by unfold Cn;rw[a];simp only[m,pv])]
  .rfl
 |fieldAddr t x f=>simp only;rw[h x (by simp[a,Op.operands])]
 |indexAddr t x u=>simp only;rw[h x (by simp[a,Op.operands]),h u (by simp[a,Op.operands])]
 |nilCheck x=>simp only;rw[h x (by simp[a,Op.operands]),g]
 |makeFunc s first c=>
  have e:c.toList.map σ'.eval=c.toList.map σ.eval:=BA λx m=>h x (by simp[a,Op.operands];exact .inr (by simpa using m))
  cases s<;>simp only[e,g]
 | buildSlice t len b=>
  have e:(b.toList.map λp=>σ'.eval p.2)=b.toList.map λp=>σ.eval p.2:=BA λp g=>h p.2 (by
   rw[a];simp only[Op.operands];exact List.mem_toArray.2 (AY.2 ⟨p,g,rfl⟩))
  simp only[e]
  (repeat' split)<;>first|rfl|(unfold Ti;split<;>first|rfl|(rename_i d j;rw[l d (by unfold Cn;rw[a];exact j)]))
 |_=>simp only;exact g
theorem LW{c:Call}(h:∀x∈c.operands,σ'.eval x=σ.eval x):B7 σ' c=B7 σ c:=by
 unfold B7;split
 .rename_i f a;rw[h f (by simp[Call.operands,a])];have e:c.args.toList.map σ'.eval=c.args.toList.map σ.eval:=BA λx b=>h x (by simp[Call.operands,a];exact .inr (by simpa using b))
  rw[e]
 .rfl
theorem Z5(h:∀x∈o.op.operands,σ'.eval x=σ.eval x):Y9 P o σ'=Y9 P o σ:=by
 unfold Y9;split
 .rename_i c a;rw[LW λx b=>h x (by rw[a];exact b)]
 .rfl
theorem Of{a:Array YD}{d:Option Tmp}{v:AV}(h:∀t,d=some t->t∉o.looksAt a):Lc a o (σ.put d v)=Lc a o σ:=by
 cases d with
 |none=>rfl
 | some t=>
  unfold Lc;cases g:o.guard with
  |none=>rfl
  | some q=>
   obtain⟨j,c⟩:=q;have f:D4 a (σ.put (some t) v) j=D4 a σ j:=by
    unfold D4;cases k:(a[j]?).bind (·.dst)with
    |none=>rfl
    |some u=>
     have b:t≠u:=λe=>h t rfl (by subst e;simp[Oper.looksAt,g,k])
     simp[AS.put,List.getElem?_set_ne b]
   simp only[f]
theorem D6{a:Array YD}{d:Option Tmp}{e:Hx}(h:∀t,d=some t->t∉o.looksAt a):Lc a o (σ.app d e)=Lc a o σ:=by
 rw[tt,Of h];rfl
theorem RC{e:Hx}{k:Nat}{cs:List AV}(h:aK P o σ=some e)(a:e.wr=some (k,cs)):
 (∃t x y j,o.op= .store t x y/\σ.eval x= .p k j)\/(o.dst=some k/\σ.box k=none/\((∃t,o.op= .alloc t)\/(∃t x,o.op= .box t x)\/(∃t n ps,o.op= .buildSlice t n ps))):=by
 have c:∀{e:Hx},Ra P o σ=some e->e.wr=none:=λ{e} h=>by
  unfold Ra at h;split at h
  .split at h
   .cases h
   .split at h
    .injection h with h;subst h;rfl
    .cases h
  .cases h
 have b:∀{e:Hx} {cs':List AV} {x:Nat->AV},Ti σ o.dst cs' x=some e->e.wr=some (k,cs)->o.dst=some k/\σ.box k=none:=λ{e cs' x} h a=>by
  unfold Ti at h;split at h
  .rename_i d s;split at h
   .cases h
   .rename_i u;injection h with h;subst h;simp only[AM,AZ]at a;rw[<-a.1];exact⟨s,u⟩
  .cases h
 unfold aK at h;cases r:o.op<;>simp only[r]at h
 case move x=>injection h with h;subst h;cases a
 case assign x=>injection h with h;subst h;cases a
 case alloc t=>
  split at h
  .obtain⟨m,l⟩:=b h a;exact .inr ⟨m,l,.inl ⟨_,rfl⟩⟩
  .cases h
 case box t x=>obtain⟨m,l⟩:=b h a;exact .inr ⟨m,l,.inr (.inl ⟨_,_,rfl⟩)⟩
 case load t x=>
  split at h
  .split at h
   .unfold C9 at h;exfalso
    (repeat' split at h)<;>first|(cases h;done)|(injection h with h;subst h;cases a)
   .cases h
  .cases h
 case store t x y=>
  split at h
  .rename_i w j v;split at h
   .unfold Eb at h
    (repeat' split at h)<;>first|(cases h;done)|skip
    injection h with h;subst h;simp only[AM,AZ]at a;rw[<-a.1];exact .inl ⟨t,x,y,j,rfl,v⟩
   .cases h
  .cases h
 case fieldAddr t x f=>
  split at h
  .unfold U8 at h;exfalso
   (repeat' split at h)<;>first|(cases h;done)|(injection h with h;subst h;cases a)
  .unfold B3 at h;exfalso
   (repeat' split at h)<;>first|(cases h;done)|(injection h with h;subst h;cases a)
  .cases h
 case indexAddr t x ix=>
  unfold Ed at h;exfalso
  (repeat' split at h)<;>first|(cases h;done)|(injection h with h;subst h;cases a)
 case nilCheck x=>
  split at h
  .injection h with h;subst h;cases a
  .rw[c h]at a;cases a
 case makeFunc fn first caps=>
  cases fn<;>simp only at h
  case func g=>
   split at h
   .injection h with h;subst h;cases a
   .rw[c h]at a;cases a
  all_goals (rw[c h]at a;cases a)
 case buildSlice t n ps=>
  (repeat' split at h)<;>first|(cases h;done)|skip
  obtain⟨m,l⟩:=b h a;exact .inr ⟨m,l,.inr (.inr ⟨_,_,_,rfl⟩)⟩
 all_goals (rw[c h]at a;cases a)
end
def m4(b:Array YD)(a:Array Bool)(y:YJ):Prop:=
 ∀(m:Nat) (om:YD),b[m]? =some om->a.getD m true=false->∀d,om.dst=some d->y≠ .tmp d
def Jt(b:Array YD)(a:Array Bool)(σ:AS)(k:Nat)(y:YJ):Prop:=
 m4 b a y/\∀e c,σ.eval y= .p e c->e≠k
def TA(b:Array YD)(D:Nat->Bool)(a:Array Bool)(σ:AS)(i:Nat)(g:YD):Prop:=
 ∀(j:Nat) (oj:YD),b[j]? =some oj->j≠i->a.getD j true=false->D j=false->
  (∀t x k e,g.op= .load t x->σ.eval x= .p k e->∀f y z,oj.op= .store f y z->Jt b a σ k y)/\
  (∀t x z k e,g.op= .store t x z->σ.eval x= .p k e->(∀f y h,oj.op= .store f y h->Jt b a σ k y)/\(∀f y,oj.op= .load f y->Jt b a σ k y)/\∀c,oj.op≠ .call c)
theorem Yz{a:Array Bool}{j m:Nat}(h:(a.setIfInBounds j true).getD m true=false):a.getD m true=false/\m≠j:=by
 by_cases e:j=m
 .subst e;rw[BY,Array.getElem?_setIfInBounds]at h;rcases BC j a.size with b|b
  .simp[b]at h
  .simp[Nat.not_lt.2 b]at h
 .rw[getD_set_ne true e]at h;exact⟨h,λe'=>e e'.symm⟩
theorem Jt.next{b:Array YD}{a:Array Bool}{σ σ':AS}{k:Nat}{y:YJ}{j:Nat}(h:Jt b a σ k y)(o:(∀m c,b[m]? =some c->a.getD m true=false->∀d,c.dst=some d->y≠ .tmp d)->σ'.eval y=σ.eval y):
 Jt b (a.setIfInBounds j true) σ' k y:=
 ⟨λm c r g d p=>h.1 m c r (Yz g).1 d p,λf e l=>h.2 f e (by rw[<-o h.1];exact l)⟩
theorem TA.next{b:Array YD}{D:Nat->Bool}{a:Array Bool}{σ σ':AS}{i:Nat}{o:YD}(h:TA b D a σ i o){j:Nat}{p:YD}(w:b[j]? =some p)(L:a.getD j true=false)
 (B:∀x,(∀d,p.dst=some d->x≠ .tmp d)->σ'.eval x=σ.eval x) (hi:∀x∈o.op.operands,σ'.eval x=σ.eval x):TA b D (a.setIfInBounds j true) σ' i o:=by
 have step:∀{k:Nat} {y:YJ},Jt b a σ k y->Jt b (a.setIfInBounds j true) σ' k y:=λve=>ve.next λvf=>B _ λd uS=>vf j p w L d uS
 intro m uR vg l r C;obtain⟨K,v⟩:=h m uR vg l (Yz r).1 C;refine⟨λt x k c e s g y z f=>step (K t x k c e (by rw[<-hi x (by simp[e,Op.operands])];exact s) g y z f),λt x z k c e s=> ?_⟩;obtain⟨A,F,G⟩:=v t x z k c e (by rw[<-hi x (by simp[e,Op.operands])];exact s);exact⟨λg y u f=>step (A g y u f),λg y f=>step (F g y f),G⟩
theorem kq(b:Nat->Option (List AV)){k j:Nat}(cs e:List AV)(h:k≠j):XS (XS b k cs) j e=XS (XS b j e) k cs:=by
 funext x
 by_cases a:x=k
 .subst a;rw[Vu _ _ h,Tw,Tw]
 .by_cases c:x=j
  .subst c;rw[Tw,Vu _ _ a,Tw]
  .rw[Vu _ _ c,Vu _ _ a,Vu _ _ a,Vu _ _ c]
theorem tK(σ:AS){d d':Option Tmp}(x y:AV)(h:∀t,d=some t->d'≠some t):(σ.put d x).put d' y=(σ.put d' y).put d x:=by
 cases d with
 |none=>rfl
 | some t=>
  cases d' with
  |none=>rfl
  |some u=>
   have a:t≠u:=λe=>h t rfl (e▸rfl)
   simp[AS.put,List.set_comm _ _ a]
theorem aq(b:Nat->Option (List AV)){x y:Option (Nat×List AV)}(h:∀k cs a,x=some (k,cs)->y≠some (k,a)):D5 (D5 b x) y=D5 (D5 b y) x:=by
 cases x with
 |none=>rfl
 | some p=>
  cases y with
  |none=>rfl
  |some q=>
   obtain⟨k,cs⟩:=p;obtain⟨j,a⟩:=q;exact kq b cs a λe=>h k cs a rfl (by rw[e])
theorem t8(σ:AS){d d':Option Tmp}{x y:Hx}(h:∀t,d=some t->d'≠some t)(b:∀k cs a,x.wr=some (k,cs)->y.wr≠some (k,a)):(σ.app d x).app d' y=(σ.app d' y).app d x:=by
 have e:((σ.put d x.val).put d' y.val).tmps=((σ.put d' y.val).put d x.val).tmps:=by rw[tK σ _ _ h]
 simp only[AS.app];congr 1
 .cases d<;>cases d'<;>first|rfl|exact e
 .exact aq _ b
theorem tF(σ:AS){d d':Option Tmp}{x:Hx}{v:AV}(h:∀t,d=some t->d'≠some t):(σ.app d x).put d' v=(σ.put d' v).app d x:=by
 have e:=t8 σ (d:=d) (d':=d') (x:=x) (y:=⟨v,none⟩) h (by intro k cs a _ h;cases h);cases d' with
 |none=>rfl
 |some t=>exact e
theorem JO{b:Nat->Option (List AV)}{k:Nat}{x:Option (Nat×List AV)}(h:∀cs,x≠some (k,cs)):D5 b x k=b k:=by
 cases x with
 |none=>rfl
 |some p=>
  obtain⟨j,cs⟩:=p;exact Vu _ _ λe=>h cs (by rw[e])
theorem au{b:Nat->Option (List AV)}{k:Nat}{x:Option (Nat×List AV)}(h:(b k).isSome=true):(D5 b x k).isSome=true:=by
 cases x with
 |none=>exact h
 |some p=>exact I8 h
theorem GA{P:YK}{o:YD}{σ:AS}{e:Hx}{k:Nat}(h:aK P o σ=some e)(c:o.dst=some k)(a:(∃t,o.op= .alloc t)\/(∃t x,o.op= .box t x)\/(∃t n ps,o.op= .buildSlice t n ps)):σ.box k=none:=by
 have b:∀{cs:List AV} {v:Nat->AV} {e:Hx},Ti σ o.dst cs v=some e->σ.box k=none:=λ{cs v e} h=>by
  unfold Ti at h;rw[c]at h;simp only at h;split at h
  .cases h
  .assumption
 unfold aK at h;rcases a with ⟨t,a⟩|⟨t,x,a⟩|⟨t,n,ps,a⟩<;>simp only[a]at h
 .split at h
  .exact b h
  .cases h
 .exact b h
 ·(repeat' split at h)<;>first|(cases h;done)|exact b h
theorem D_{o:YD}{σ:AS}{k:Nat}(h:Cn o σ=some k):
 (∃t x a,o.op= .load t x/\σ.eval x= .p k a)\/(∃t x y a,o.op= .store t x y/\σ.eval x= .p k a)\/
 (o.dst=some k/\((∃t,o.op= .alloc t)\/(∃t x,o.op= .box t x)\/(∃t n ps,o.op= .buildSlice t n ps))):=by
 have e:∀{x:AV},pv x=some k->∃a,x= .p k a:=λ{x} h=>by
  cases x<;>simp[pv]at h
  subst h;exact⟨_,rfl⟩
 unfold Cn at h;split at h
 .rename_i t x b;obtain⟨a,c⟩:=e h;exact .inl ⟨t,x,a,b,c⟩
 .rename_i t x y b;obtain⟨a,c⟩:=e h;exact .inr (.inl ⟨t,x,y,a,b,c⟩)
 .rename_i t b;exact .inr (.inr ⟨h,.inl ⟨t,b⟩⟩)
 .rename_i t x b;exact .inr (.inr ⟨h,.inr (.inl ⟨t,x,b⟩)⟩)
 .rename_i t n ps b;exact .inr (.inr ⟨h,.inr (.inr ⟨t,n,ps,b⟩)⟩)
 .cases h
theorem Rb{σ:AS}(a:σ.wf){x:YJ}{k b:Nat}(h:σ.eval x= .p k b):(σ.box k).isSome=true:=a.eval x k (by rw[h];simp[AV.ids])
theorem bc{σ:AS}{d:Option Tmp}{e:Hx}(a:σ.wf)(f:∀k∈e.val.ids,(D5 σ.box e.wr k).isSome=true)
 (b:∀k cs,e.wr=some (k,cs)->∀x∈cs,∀j∈x.ids,(σ.box j).isSome=true):(σ.app d e).wf:=by
 rw[tt];refine AS.wf.put ?_ d f;cases c:e.wr with
 |none=>exact a
 |some p=>exact a.wr (b p.1 p.2 c)
theorem oM{P:YK}{o:YD}{σ:AS}{e:Hx}(h:aK P o σ=some e)(a:σ.wf):(σ.app o.dst e).wf:=by
 have pure:∀{v:AV},(∀k∈v.ids,(σ.box k).isSome=true)->(σ.app o.dst ⟨v,none⟩).wf:=λuR=>bc a uR (by intro k cs h;cases h)
 have w:∀{v:YM},(σ.app o.dst ⟨.v v,none⟩).wf:=pure (by intro k m;simp[AV.ids]at m);have B:∀{e:Hx},Ra P o σ=some e->(σ.app o.dst e).wf:=λ{e} h=>by
  unfold Ra at h;split at h
  .split at h
   .cases h
   .split at h
    .injection h with h;subst h;exact w
    .cases h
  .cases h
 have A:∀{e:Hx} {cs:List AV} {x:Nat->AV},Ti σ o.dst cs x=some e->(∀d k,k∈(x d).ids->k=d)->(∀x∈cs,∀j∈x.ids,(σ.box j).isSome=true)->(σ.app o.dst e).wf:=λ{e cs x} h p vf=>by
  unfold Ti at h;split at h
  .rename_i d Q;split at h
   .cases h
   .injection h with h;subst h;refine bc a ?_ ?_
    .intro k m;rw[p d k m];simp[D5,Tw]
    .intro k cs' h;injection h with h;injection h with _ h;subst h;exact vf
  .cases h
 have u:∀x:YJ,∀z∈cellsOf (σ.eval x),∀j∈z.ids,(σ.box j).isSome=true:=λx=>by
  have:=a.eval x;cases ve:σ.eval x with
  |v q=>intro z s j vg;simp[cellsOf]at s;obtain⟨q',_,rfl⟩:=s;simp[AV.ids]at vg
  |_=>intro z s j vg;rw[ve]at this;simp[cellsOf]at s;subst s;exact this j vg
 have D:∀l:List YM,∀x∈l.map AV.v,∀j∈x.ids,(σ.box j).isSome=true:=λl x p j vg=>by
  obtain⟨q,_,rfl⟩:=AY.1 p;simp[AV.ids]at vg
 unfold aK at h;cases uS:o.op<;>simp only[uS]at h
 case move x=>injection h with h;subst h;exact pure (a.eval x)
 case assign x=>injection h with h;subst h;exact pure (a.eval x)
 case alloc t=>
  split at h
  .exact A h (by intro d k m;simpa[AV.ids]using m) (D _)
  .cases h
 case box t x=>exact A h (by intro d k m;simpa[AV.ids]using m) (u x)
 case load t x=>
  split at h
  .rename_i k C p;split at h
   .rename_i cs F;unfold C9 at h
    (repeat' split at h)<;>first|(cases h;done)|skip
    .injection h with h;subst h;exact w
    .rename_i c G;injection h with h;subst h;exact pure (a.cells k cs F c (BZ G))
   .cases h
  .cases h
 case store t x y=>
  split at h
  .rename_i K C p;split at h
   .rename_i cs F;unfold Eb at h
    (repeat' split at h)<;>first|(cases h;done)|skip
    injection h with h;subst h;refine bc a (by intro k m;simp[AV.ids]at m) ?_;intro k cs' h;injection h with h;injection h with _ h;subst h;intro z s;simp only[BR]at s;rcases s with (s|s)|s
    .exact a.cells K cs F z (DH s)
    .exact u y z s
    .exact a.cells K cs F z (List.mem_of_mem_drop s)
   .cases h
  .cases h
 case fieldAddr t x f=>
  have b:=a.eval x;split at h
  .rename_i k C p;rw[p]at b;unfold U8 at h
   (repeat' split at h)<;>first|(cases h;done)|(injection h with h;subst h;exact pure b)
  .unfold B3 at h
   (repeat' split at h)<;>first|(cases h;done)|(injection h with h;subst h;exact pure (by intro k m;simp[AV.ids]at m))
  .cases h
 case indexAddr t x ix=>
  have b:=a.eval x;unfold Ed at h;split at h
  .rename_i k C N i p hi;rw[p]at b
   (repeat' split at h)<;>first|(cases h;done)|(injection h with h;subst h;exact pure b)
  .rename_i k len N i p hi;rw[p]at b
   (repeat' split at h)<;>first|(cases h;done)|(injection h with h;subst h;exact pure b)
  ·(repeat' split at h)<;>first|(cases h;done)|(injection h with h;subst h;exact pure (by intro k m;simp[AV.ids]at m))
  .cases h
 case nilCheck x=>
  have b:=a.eval x;split at h
  .rename_i k C p;rw[p]at b;injection h with h;subst h;exact pure b
  .exact B h
 case makeFunc fn first caps=>
  cases fn<;>simp only at h
  case func g=>
   split at h
   .rename_i c r uZ G;injection h with h;subst h;obtain⟨_,L⟩:=Eh (β:=λ_=>0) G;refine pure λk m=> ?_
    simp only[AV.ids]at m;obtain⟨q,ve,rfl⟩:=AY.1 m;obtain⟨x,p,hi⟩:=L q ve;obtain⟨y,_,rfl⟩:=AY.1 p;exact a.eval y _ hi
   .exact B h
  all_goals exact B h
 case buildSlice t n ps=>
  (repeat' split at h)<;>first|(cases h;done)|exact A h (by intro d k m;simpa[AV.ids]using m) (D _)
 all_goals exact B h
theorem RZ{P:YK}{b:Array YD}{o:YD}{σ:AS}{e:Hx}(h:Bj P b o σ=some e)(a:σ.wf):(σ.app o.dst e).wf:=by
 unfold Bj at h;split at h
 .exact oM h a
 .injection h with h;subst h;rw[tt];exact AS.wf.put (σ:=⟨σ.tmps,σ.box⟩) a o.dst (by intro k c;simp[AV.ids]at c)
theorem aD{P:YK}{W:YN}{b:Array YD}{uT:List YF->(YW)->Prop}{K:AS->(YW)->Prop}{i:Nat}{p:YD}{uW:Hx}(hi:b[i]? =some p)(hssa:nY b){D:Nat->Bool}
 (hD:∀(a:Array Bool),Oz b a->a.getD i true=false->∀(j:Nat) (vg:YD),b[j]? =some vg->D j=true->¬∀e∈vg.after,Region.binds .any e=true->a.getD e.on false=true):
 ∀(fuel:Nat) (a:Array Bool) (σ:AS) (Φ:YW),Oz b a->σ.wf->i∈Region.ready .any b a->TA b D a σ i p->Bj P b p σ=some uW->
  Jp P W b uT K fuel (a.setIfInBounds i true) (σ.app p.dst uW) Φ->Jp P W b uT K (fuel+1) a σ Φ:=by
 intro fuel;induction fuel with
 | zero=>
  intro a σ Φ hcl ve hr hm o uS;refine⟨λh=>(by rw[h]at hr;cases hr),λj hj=> ?_⟩
  by_cases s:j=i
  .subst s;exact⟨p,hi,.det uW o uS⟩
  .have:=ready_mono hj s;rw[uS.1]at this;cases this
 | succ fuel ih=>
  intro a σ Φ hcl ve hr hm o uS;refine⟨λh=>(by rw[h]at hr;cases hr),λj hj=> ?_⟩
  by_cases s:j=i
  .subst s;exact⟨p,hi,.det uW o uS⟩
  .obtain⟨vg,u,h1⟩:=uS.2 j (ready_mono hj s);refine⟨vg,u,?_⟩;obtain⟨N,oj',hoj',uR⟩:=mem_ready.1 hj;obtain rfl:vg=oj':=by rw[u]at hoj';injection hoj'
   obtain⟨hiun,oi',hoi',halli⟩:=mem_ready.1 hr;obtain rfl:p=oi':=by rw[hi]at hoi';injection hoi'
   have hDj:D j=false:=by
    cases r:D j with
    |false=>rfl
    |true=>exact absurd uR (hD a hcl hiun j vg u r)
   have unl:∀{m:Nat},a.getD m true=false->a.getD m false=true->False:=λ{m} h1 h2=>by
    rcases BC m a.size with h'|h'
    .simp[h']at h1 h2;rw[h1]at h2;cases h2
    .simp[BU h']at h2
   have apj:∀d,p.dst=some d->d∉vg.looksAt b:=λd hd hmem=>by
    rcases(hssa i j p vg hi u (Ne.symm s) d hd).2 hmem with ⟨e,o,r,hon⟩|⟨e,o,r,hon⟩
    .have:=uR e o r;rw[hon]at this;exact unl hiun this
    .have:=halli e o r;rw[hon]at this;exact unl N this
   have vf:∀d,vg.dst=some d->d∉p.looksAt b:=λd hd hmem=>by
    rcases(hssa j i vg p u hi s d hd).2 hmem with ⟨e,o,r,hon⟩|⟨e,o,r,hon⟩
    .have:=halli e o r;rw[hon]at this;exact unl N this
    .have:=uR e o r;rw[hon]at this;exact unl hiun this
   have apd:∀t,p.dst=some t->vg.dst≠some t:=λt ht=>(hssa i j p vg hi u (Ne.symm s) t ht).1
   have Q:∀x∈vg.op.operands,(σ.app p.dst uW).eval x=σ.eval x:=λx l=>tq (Q9 apj l)
   have wj:Lc b vg (σ.app p.dst uW)=Lc b vg σ:=D6 apj;obtain⟨hm1,hm2⟩:=hm j vg u s N hDj;have eff_i:Lc b p σ=true->aK P p σ=some uW:=λuV=>by unfold Bj at o;rw[YS uV]at o;exact o
   have wr_i:∀k cs,uW.wr=some (k,cs)->aK P p σ=some uW:=λk cs uV=>by
    cases r:Lc b p σ with
    |true=>exact eff_i r
    |false=>
     unfold Bj at o;rw[r]at o;simp only[CC,if_false]at o;injection o with o;subst o;cases uV
   cases h1 with
   | det ej uZ hK=>
    have hej':Bj P b vg σ=some ej/\(∀k cs ds,uW.wr=some (k,cs)->ej.wr≠some (k,ds))/\(∀k,Cn p σ=some k->Lc b p σ=true->∀cs,ej.wr≠some (k,cs)):=by
     cases uV:Lc b vg σ with
     |false=>
      unfold Bj at uZ ⊢;rw[wj,uV]at uZ;rw[uV];simp only[CC,if_false]at uZ ⊢;injection uZ with uZ;subst uZ;exact⟨rfl,(λ_ _ _ _ h=>by cases h),(λ_ _ _ _ h=>by cases h)⟩
     | true=>
      unfold Bj at uZ;rw[wj,uV]at uZ;simp only[if_true]at uZ;have c1:∀k,Cn vg σ=some k->∀cs,uW.wr≠some (k,cs):=by
       intro k ht cs hwr;have hei:=wr_i k cs hwr;rcases RC hei hwr with ⟨t,x,y,off,ho,l⟩|⟨hd,r,ho⟩
       .obtain⟨h3,h4,h5⟩:=hm2 t x y k off ho l;rcases D_ ht with ⟨t',x',A,B,C⟩|⟨t',x',y',A,B,C⟩|⟨hd',B⟩
        .exact(h4 t' x' B).2 k A C rfl
        .exact(h3 t' x' y' B).2 k A C rfl
        .have hn:=GA uZ hd' B;have F:=au (x:=uW.wr) (Rb ve l);simp only[AS.app]at hn;rw[hn]at F;cases F
       .rcases D_ ht with ⟨t',x',A,B,C⟩|⟨t',x',y',A,B,C⟩|⟨hd',B⟩
        .have F:=Rb ve C;rw[r]at F;cases F
        .have F:=Rb ve C;rw[r]at F;cases F
        .exact apd k hd hd'
      have hejs:aK P vg σ=some ej:=by
       rw[<-uZ];exact(V5 Q λk uU=>JO (c1 k uU)).symm
      refine⟨by unfold Bj;rw[uV];exact hejs,?_,?_⟩
      .intro k cs ds hwi hwj;rcases RC hejs hwj with ⟨t,x,y,off,ho,l⟩|⟨hd,r,ho⟩
       .exact c1 k (by unfold Cn;rw[ho];simp only[l,pv]) cs hwi
       .exact c1 k (by unfold Cn;rcases ho with ⟨t,ho⟩|⟨t,x,ho⟩|⟨t,n,ps,ho⟩<;>rw[ho]<;>exact hd) cs hwi
      .intro k ht hwi cs hwj;have hei:=eff_i hwi;rcases RC hejs hwj with ⟨t,x,y,off,ho,l⟩|⟨hd,r,ho⟩
       .rcases D_ ht with ⟨t',x',A,B,C⟩|⟨t',x',y',A,B,C⟩|⟨hd',B⟩
        .exact(hm1 t' x' k A B C t x y ho).2 k off l rfl
        .exact((hm2 t' x' y' k A B C).1 t x y ho).2 k off l rfl
        .have hn:=GA hei hd' B;have F:=Rb ve l;rw[hn]at F;cases F
       .rcases D_ ht with ⟨t',x',A,B,C⟩|⟨t',x',y',A,B,C⟩|⟨hd',B⟩
        .have F:=Rb ve C;rw[r]at F;cases F
        .have F:=Rb ve C;rw[r]at F;cases F
        .exact apd k hd' hd
    obtain⟨hej1,hww,hti⟩:=hej';refine .det ej hej1 (ih (a.setIfInBounds j true) _ Φ (hcl.set_ u uR) (RZ hej1 ve) (ready_mono hr (Ne.symm s)) (hm.next u N (λx l=>tq l) (λx l=>tq (Q9 vf l))) ?_ ?_)
    .have wi:Lc b p (σ.app vg.dst ej)=Lc b p σ:=D6 vf;unfold Bj at o ⊢;rw[wi];cases r:Lc b p σ with
     |false=>rw[r]at o;exact o
     |true=>
      rw[r]at o;simp only[if_true]at o ⊢;rw[<-o];exact V5 (λx l=>tq (Q9 vf l)) λk uU=>JO (hti k uU r)
    .rw[AN _ _ s,<-t8 σ apd hww];exact hK
   | @call uX g xs val G uV hc F hK=>
    have S:Y9 P vg σ=some (g,xs):=by rw[<-Z5 Q];exact hc
    obtain⟨c,hoc⟩:∃c,vg.op= .call c:=by
     unfold Y9 at hc;split at hc
     .exact⟨_,by assumption⟩
     .cases hc
    have hbox:∀x∈xs,∀k∈x.ids,(σ.app p.dst uW).box k=σ.box k:=by
     intro x l k uU;have hids:(σ.box k).isSome=true:=by
      unfold Y9 at S;rw[hoc]at S;simp only at S;split at S
      .rename_i g' xs' uY;split at S
       .injection S with S;injection S with _ h2;subst h2;unfold B7 at uY;split at uY
        .rename_i f hf;have hfe:=ve.eval f;split at uY
         .injection uY with uY;injection uY with _ h2;subst h2;simp only[BR,AY]at l;rcases l with (⟨q,_,rfl⟩|⟨q,_,rfl⟩)|⟨q,_,rfl⟩
          .simp[AV.ids]at uU
          .exact ve.eval q k uU
          .simp[AV.ids]at uU
         .rename_i g2 caps hv;injection uY with uY;injection uY with _ h2;subst h2;simp only[BR,AY]at l;rcases l with ⟨q,_,rfl⟩|⟨q,hq,rfl⟩
          .exact ve.eval q k uU
          .rw[hv]at hfe;refine hfe k ?_;simp only[AV.ids,List.mem_singleton]at uU ⊢;subst uU;exact AY.2 ⟨q,hq,rfl⟩
         .cases uY
        .cases uY
       .cases S
      .cases S
     refine JO λcs hwr=> ?_
     rcases RC (wr_i k cs hwr) hwr with ⟨t,x',y,off,ho,C⟩|⟨hd,r,ho⟩
     .exact(hm2 t x' y k off ho C).2.2 c hoc
     .rw[r]at hids;cases hids
    refine .call g xs val G (by rw[<-wj];exact uV) S (λβ w hbl T hB=>F β w hbl T λx l k uU cs hcs=>hB x l k uU cs (by rw[<-hbox x l k uU];exact hcs)) λx=>ih (a.setIfInBounds j true) _ _ (hcl.set_ u uR) (ve.put _ (by intro k uU;simp[AV.ids]at uU)) (ready_mono hr (Ne.symm s)) (hm.next u N (λx l=>s9 l) (λx l=>s9 (Q9 vf l))) ?_ ?_
    .have wi:Lc b p (σ.put vg.dst (.v (val x)))=Lc b p σ:=Of vf;unfold Bj at o ⊢;rw[wi];cases r:Lc b p σ with
     |false=>rw[r]at o;exact o
     |true=>
      rw[r]at o;simp only[if_true]at o ⊢;rw[<-o];exact V5 (λx l=>s9 (Q9 vf l)) λk _=>by rw[tC]
    .rw[AN _ _ s,<-tF σ apd];exact hK x
   | ask v uV hp hns hmv hcb F hK=>
    have hrho:∀x∈vg.op.operands,(σ.app p.dst uW).rho x=σ.rho x:=λx l=>by unfold AS.rho;rw[Q x l]
    refine .ask v (by rw[<-wj];exact uV) (by rw[<-Nr Q];exact hp) hns hmv (by rw[<-Pf (σ:=σ) (σ':=σ.app p.dst uW) λq hq y hy=>tq (Ow hi hq y hy)];exact hcb) (λw r T=>by rw[<-execOp_congr vg hns hrho];exact F w r T)<|ih (a.setIfInBounds j true) _ _ (hcl.set_ u uR) (ve.put _ (by intro k uU;simp[AV.ids]at uU)) (ready_mono hr (Ne.symm s)) (hm.next u N (λx l=>s9 l) (λx l=>s9 (Q9 vf l))) ?_ ?_
    .have wi:Lc b p (σ.put vg.dst (.v v))=Lc b p σ:=Of vf;unfold Bj at o ⊢;rw[wi];cases r:Lc b p σ with
     |false=>rw[r]at o;exact o
     |true=>
      rw[r]at o;simp only[if_true]at o ⊢;rw[<-o];exact V5 (λx l=>s9 (Q9 vf l)) λk _=>by rw[tC]
    .rw[AN _ _ s,<-tF σ apd];exact hK
   |lone hl _=>exact absurd (hl j u a i hcl hj hr).symm s
   | @pan L ch Φ2 g xs vs hl uV hp hc hv F hL T hz=>
    refine .pan ch Φ2 g xs vs (λq hq li jj h1 h2 h3=> ?_) (by rw[<-wj];exact uV) (by rw[<-Nr Q];exact hp) (by rw[<-Z5 Q];exact hc) hv F hL T hz;rcases hl q hq li jj h1 h2 h3 with h4|⟨ok,h4,⟨h5,h6⟩|h5⟩
    .exact .inl h4
    .refine .inr ⟨ok,h4,.inl ⟨h5,?_⟩⟩;rw[<-Nr (σ:=σ) (σ':=σ.app p.dst uW) λy hy=>tq (Ow hi h5 y hy)];exact h6
    .exact .inr ⟨ok,h4,.inr (h5.imp id λh5=>by rw[<-Pf (σ:=σ) (σ':=σ.app p.dst uW) λq hq y hy=>tq (Ow hi hq y hy)];exact h5)⟩
   | @mutm uX L val G Φ2 hl uV hp hns F hL T hK=>
    have hrho:∀x∈vg.op.operands,(σ.app p.dst uW).rho x=σ.rho x:=λx l=>by unfold AS.rho;rw[Q x l]
    refine .mutm val G Φ2 (λq hq li jj h1 h2 h3=> ?_) (by rw[<-wj];exact uV) (by rw[<-Nr Q];exact hp) hns (F.elim (λF=> .inl λw r T=>by rw[<-execOp_congr vg hns hrho];exact F w r T) λ⟨g,xs,vs,hc,hv,F⟩=> .inr ⟨g,xs,vs,by rw[<-Z5 Q];exact hc,hv,F⟩) hL T λx=> ?_
    .rcases hl q hq li jj h1 h2 h3 with h4|⟨ok,h4,⟨h5,h6⟩|h5⟩
     .exact .inl h4
     .refine .inr ⟨ok,h4,.inl ⟨h5,?_⟩⟩;rw[<-Nr (σ:=σ) (σ':=σ.app p.dst uW) λy hy=>tq (Ow hi h5 y hy)];exact h6
     .exact .inr ⟨ok,h4,.inr (h5.imp id λh5=>by rw[<-Pf (σ:=σ) (σ':=σ.app p.dst uW) λq hq y hy=>tq (Ow hi hq y hy)];exact h5)⟩
    refine ih (a.setIfInBounds j true) _ _ (hcl.set_ u uR) (ve.put _ (by intro k uU;simp[AV.ids]at uU)) (ready_mono hr (Ne.symm s)) (hm.next u N (λx l=>s9 l) (λx l=>s9 (Q9 vf l))) ?_ ?_
    .have wi:Lc b p (σ.put vg.dst (.v (val x)))=Lc b p σ:=Of vf;unfold Bj at o ⊢;rw[wi];cases r:Lc b p σ with
     |false=>rw[r]at o;exact o
     |true=>
      rw[r]at o;simp only[if_true]at o ⊢;rw[<-o];exact V5 (λx l=>s9 (Q9 vf l)) λk _=>by rw[tC]
    .rw[AN _ _ s,<-tF σ apd];exact hK x
   | @make uX val G uV hp hns F hK=>
    have hrho:∀x∈vg.op.operands,(σ.app p.dst uW).rho x=σ.rho x:=λx l=>by unfold AS.rho;rw[Q x l]
    refine .make val G (by rw[<-wj];exact uV) (by rw[<-Nr Q];exact hp) hns (λw r T=>by rw[<-execOp_congr vg hns hrho];exact F w r T) λx=>ih (a.setIfInBounds j true) _ _ (hcl.set_ u uR) (ve.put _ (by intro k uU;simp[AV.ids]at uU)) (ready_mono hr (Ne.symm s)) (hm.next u N (λx l=>s9 l) (λx l=>s9 (Q9 vf l))) ?_ ?_
    .have wi:Lc b p (σ.put vg.dst (.v (val x)))=Lc b p σ:=Of vf;unfold Bj at o ⊢;rw[wi];cases r:Lc b p σ with
     |false=>rw[r]at o;exact o
     |true=>
      rw[r]at o;simp only[if_true]at o ⊢;rw[<-o];exact V5 (λx l=>s9 (Q9 vf l)) λk _=>by rw[tC]
    .rw[AN _ _ s,<-tF σ apd];exact hK x
def Qg(a:Array YD)(i:Nat):Nat->List Bool
 |0=>[]
 | n+1=>
  let l:=Qg a i n
  l++ [match a[n]? with
   |some o=>o.after.toList.any λe=>Region.binds .any e&&(BH e.on i||l.getD e.on false)
   |none=>false]
theorem Vh(a:Array YD)(i:Nat):∀n,(Qg a i n).length=n
 |0=>rfl
 |n+1=>by simp[Qg,Vh a i n]
theorem Rx{b:Array YD}{i:Nat}{a:Array Bool}(t:Oz b a)(hi:a.getD i true=false):
 ∀(n m:Nat),(Qg b i n).getD m false=true->∃k,b[m]? =some k/\¬∀e∈k.after,Region.binds .any e=true->a.getD e.on false=true:=by
 intro n;induction n with
 |zero=>intro m h;simp[Qg]at h
 | succ n w=>
  intro m h;simp only[Qg,BF]at h;rcases BC m n with r|r
  .rw[List.getElem?_append_left (by rw[Vh];exact r)]at h;exact w m (by rw[BF];exact h)
  .rw [List.getElem?_append_right (by rw[Vh];exact r),Vh]at h;cases j:m-n with
   |succ q=>rw[j]at h;simp at h
   | zero=>
    obtain rfl:m=n:=J
    rw[j]at h;simp only[List.getElem?_cons_zero,CS]at h;split at h
    .rename_i o x;refine⟨o,x,λg=> ?_⟩;obtain⟨e,y,u⟩:=CR.1 h;simp only[AH,CZ,CJ]at u;have f:=g e (by simpa using y) u.1;rcases u.2 with c|c
     .rw[c]at f;rcases BC i a.size with s|s
      .simp[s]at hi f;rw[hi]at f;cases f
      .simp[BU s]at f
     .obtain⟨k,v,A⟩:=w e.on (by rw[BF];exact c);exact A λe' p l=>t e.on k v f e' p l
    .cases h
def cT(b:Array YD)(a:Array Bool)(y:YJ):Bool:=
 match y with
 | .tmp t=>b.toList.zipIdx.all λq=>a.getD q.2 true||(match q.1.dst with|some d=> !BH d t|none=>true)
 |_=>true
def XI(b:Array YD)(a:Array Bool)(σ:AS)(k:Nat)(y:YJ):Bool:=
 (match σ.eval y with| .p k' _=> !BH k' k|_=>true)&&cT b a y
def Wu(b:Array YD)(D:List Bool)(a:Array Bool)(σ:AS)(i:Nat)(c:YD):Bool:=
 match c.op with
 | .load _ x=>match σ.eval x with
  | .p k _=>b.toList.zipIdx.all λq=>match q.1.op with
   | .store _ y _=>a.getD q.2 true||(XI b a σ k y||D.getD q.2 false)
   |_=>true
  |_=>true
 | .store _ x _=>match σ.eval x with
  | .p k _=>b.toList.zipIdx.all λq=>BH q.2 i||(match q.1.op with
   | .store _ y _=>a.getD q.2 true||(XI b a σ k y||D.getD q.2 false)
   | .load _ y=>a.getD q.2 true||(XI b a σ k y||D.getD q.2 false)
   | .call _=>a.getD q.2 true||D.getD q.2 false
   |_=>true)
  |_=>true
 |_=>true
theorem EM{b:Array YD}{a:Array Bool}{σ:AS}{k:Nat}{y:YJ}(h:XI b a σ k y=true):Jt b a σ k y:=by
 simp only[XI,AH]at h;obtain⟨g,f⟩:=h;refine⟨λm r j o d l e=> ?_,λt s p e=> ?_⟩
 .subst e;simp only[cT]at f;have c:(r,m)∈b.toList.zipIdx:=by rw[BL];simpa using j
  have:=AE.1 f _ c;simp only[o,l]at this;simp at this
 .rw[p]at g;simp[e]at g
theorem bQ{f:Array YD}{D:List Bool}{b:Array Bool}{σ:AS}{i:Nat}{u:YD}(h:Wu f D b σ i u=true):TA f (λj=>D.getD j false) b σ i u:=by
 intro j B w r p C;have a:(B,j)∈f.toList.zipIdx:=by rw[BL];simpa using w
 have g:BH j i=false:=by
  cases vg:BH j i with
  |false=>rfl
  |true=>exact absurd (CI vg) r
 have e:D.getD j false=false:=C;refine⟨λt x k s l o v y z m=> ?_,λt x z k s l o=>⟨λv y F m=> ?_,λv y m=> ?_,λc A=> ?_⟩⟩
 .simp only[Wu,l,o]at h;have:=AE.1 h _ a;simp only[m,p,CG,e,Bool.or_false]at this;exact EM this
 .simp only[Wu,l,o]at h;have:=AE.1 h _ a;simp only[g,m,p,CG,e,Bool.or_false]at this;exact EM this
 .simp only[Wu,l,o]at h;have:=AE.1 h _ a;simp only[g,m,p,CG,e,Bool.or_false]at this;exact EM this
 .simp only[Wu,l,o]at h;have:=AE.1 h _ a;simp only[g,A,p,CG,e]at this;cases this
def MC(c:Array YD)(a:Array Bool)(i:Nat)(b:YD):Bool:=
 !a.getD i true&&b.after.toList.all λe=> !Region.binds .any e||a.getD e.on false
theorem Dn{b:Array YD}{a:Array Bool}{i:Nat}{c:YD}(hi:b[i]? =some c)(h:MC b a i c=true):i∈Region.ready .any b a:=by
 simp only[MC,AH,CN]at h;refine mem_ready.2 ⟨h.1,c,hi,λe g f=> ?_⟩;have:=AE.1 h.2 e (by simpa using g);simpa[f]using this
def Ib(P:YK)(b:Array YD)(i:Nat)(a:Array Bool)(σ:AS):Option AS:=
 match b[i]? with
 |some c=>if MC b a i c&&Wu b (Qg b i b.size) a σ i c then(match Bj P b c σ with
  |some e=>some (σ.app c.dst e)
  |none=>none)else none
 |none=>none
theorem JC{P:YK}{W:YN}{b:Array YD}{uT:List YF->(YW)->Prop}{K:AS->(YW)->Prop}{i:Nat}{a:Array Bool}{σ σ':AS}{Φ:YW}{fuel:Nat}(p:nY b)(r:Oz b a)(o:σ.wf)
 (h:Ib P b i a σ=some σ') (uS:Oz b (a.setIfInBounds i true)->σ'.wf->Jp P W b uT K fuel (a.setIfInBounds i true) σ' Φ):Jp P W b uT K (fuel+1) a σ Φ:=by
 unfold Ib at h;split at h
 .rename_i A c;split at h
  .rename_i t;simp only[AH]at t;split at h
   .rename_i e x;injection h with h;subst h;have w:=Dn c t.1;obtain⟨_,v,g,m⟩:=mem_ready.1 w;obtain rfl:A=v:=by rw[c]at g;injection g
    refine aD c p (D:=λj=>(Qg b i b.size).getD j false) ?_ fuel a σ Φ r o w (bQ t.2) x (uS (r.set_ c m) (RZ x o));intro s l u j vg y C k;obtain⟨F,f,B⟩:=Rx l u b.size j C;rw[y]at f;injection f with f;subst f;exact B k
   .cases h
  .cases h
 .cases h
def W_(P:YK)(b:Array YD):List Nat->Array Bool->AS->Option (Array Bool×AS)
 | [],a,σ=>some (a,σ)
 |i::l,a,σ=>match Ib P b i a σ with
  |some σ'=>W_ P b l (a.setIfInBounds i true) σ'
  |none=>none
theorem UC{P:YK}{W:YN}{c:Array YD}{uT:List YF->(YW)->Prop}{K:AS->(YW)->Prop}{Φ:YW}{fuel:Nat}(e:nY c):∀(l:List Nat) (b a:Array Bool) (σ σ':AS),Oz c b->σ.wf->
 W_ P c l b σ=some (a,σ')->(Oz c a->σ'.wf->Jp P W c uT K fuel a σ' Φ)->Jp P W c uT K (fuel+l.length) b σ Φ
 | [],b,a,σ,σ',g,f,h,uS=>by
  simp only[W_,AM,AZ]at h;obtain⟨rfl,rfl⟩:=h;exact uS g f
 | i::l,b,a,σ,σ',g,f,h,uS=>by
  simp only[W_]at h;split at h
  .rename_i m o;exact JC e g f o λj k=>UC e l _ _ _ _ j k h uS
  .cases h
def WL(o:YD):Bool:=
 match o.op with
 | .buildSlice _ _ _=>true
 | .call c=>match c.callee with
  | .builtin _=>false
  |_=>true
 |_=>false
def aF(P:YK)(b:Array YD)(i:Nat)(a:Array Bool)(σ:AS):Option AS:=
 match b[i]? with
 |some c=>if MC b a i c&& !(WL c&&Lc b c σ)then Ib P b i a σ else none
 |none=>none
theorem bJ{P:YK}{b:Array YD}{i:Nat}{a:Array Bool}{σ σ':AS}(h:aF P b i a σ=some σ'):Ib P b i a σ=some σ':=by
 unfold aF at h;split at h
 .split at h
  .exact h
  .cases h
 .cases h
def Ic(P:YK)(b:Array YD):Nat->Nat->Nat->Array Bool->AS->Nat×Array Bool×AS
 |0,_,fuel,a,σ=>(fuel,a,σ)
 | r+1,i,fuel,a,σ=>match fuel with
  |0=>(0,a,σ)
  |f+1=>match aF P b i a σ with
   |some σ'=>Ic P b r (i+1) f (a.setIfInBounds i true) σ'
   |none=>Ic P b r (i+1) (f+1) a σ
theorem IJ{P:YK}{W:YN}{b:Array YD}{uT:List YF->(YW)->Prop}{K:AS->(YW)->Prop}{Φ:YW}(g:nY b):∀(r i fuel:Nat) (a:Array Bool) (σ:AS),Oz b a->σ.wf->
 (Oz b (Ic P b r i fuel a σ).2.1->(Ic P b r i fuel a σ).2.2.wf->Jp P W b uT K (Ic P b r i fuel a σ).1 (Ic P b r i fuel a σ).2.1 (Ic P b r i fuel a σ).2.2 Φ)->Jp P W b uT K fuel a σ Φ
 |0,i,fuel,a,σ,e,c,h=>h e c
 |r+1,i,0,a,σ,e,c,h=>h e c
 | r+1,i,f+1,a,σ,e,c,h=>by
  unfold Ic at h;simp only at h;split at h
  .rename_i σ' l;exact JC g e c (bJ l) λj k=>IJ g r (i+1) f _ σ' j k h
  .exact IJ g r (i+1) (f+1) a σ e c h
inductive sK where
 |code (c:Code)
 |ops (ops:Array YD) (l:List Nat)
 |any (ops:Array YD) (fuel:Nat) (listed:Array Bool)
 |out (e:Exit)
inductive nT where
 |seq (c:Code)
 |blk (id:Nat)
 |lp (body:Code)
structure Ob where
 foc:sK
 k:List nT
 st:AS
def ab(P:YK)(bd:Code)(Q:Exit->Act->YN->Prop)(a:Act)(w:YN):Prop:=
 ∀(b:Frame) (ks:List Item) (cs:List Frame),∃e c f,Q e c f/\Arrives P (lone (b.at a (.code bd:: .inLoop bd::ks)) cs w) b ks cs e c f
def WY(P:YK)(bd:Code)(Q:Exit->Act->YN->Prop):Exit->Act->YN->Prop
 | .normal,a,w=>ab P bd Q a w
 |e,a,w=>Q e a w
theorem ON{P:YK}{bd:Code}{Q:Exit->Act->YN->Prop}{a:Act}{w:YN}(h:bd.wp P (WY P bd Q) a w):ab P bd Q a w:=by
 intro b s cs;obtain⟨e,f,g,m,c⟩:=h b (.inLoop bd::s) cs;cases e with
 |normal=>
  obtain⟨o,p,r,k,j⟩:=m b s cs;exact⟨o,p,r,k,.of_steps (Steps.trans c (.one step_inLoop)) j⟩
 |exit id=>exact⟨_,f,g,m,.pass (x:= .inLoop bd) rfl (λ_ _=> .inl Zs) c⟩
 |goto l=>exact⟨_,f,g,m,.pass (x:= .inLoop bd) rfl (λ_ _=> .inl Zs) c⟩
 |ret=>exact⟨_,f,g,m,.pass (x:= .inLoop bd) rfl (λ_ _=> .inl Zs) c⟩
 |panic t=>exact⟨_,f,g,m,.pass (x:= .inLoop bd) rfl (λ_ _=> .inl Zs) c⟩
 |outgrown=>exact⟨_,f,g,m,.pass (x:= .inLoop bd) rfl (λ_ _=> .inl Zs) c⟩
theorem lA{P:YK}{bd:Code}{Q:Exit->Act->YN->Prop}{a:Act}{w:YN}(h:ab P bd Q a w):(Code.loop bd).wp P Q a w:=by
 intro b j cs;obtain⟨e,g,k,f,c⟩:=h b j cs;exact⟨e,g,k,f,.of_steps (.one step_loop) c⟩
def post(P:YK)(Q:Exit->Act->YN->Prop):List nT->Exit->Act->YN->Prop
 | []=>Q
 | .seq c::k=>Exit.then (c.wp P (post P Q k)) (post P Q k)
 | .blk id::k=>Exit.inBlock id (post P Q k)
 | .lp bd::k=>WY P bd (post P Q k)
def Vt(P:YK)(Δ:List YI)(W:YN)(Q:Exit->Act->YN->Prop)(Φ:YW)(c:Ob):Prop:=
 match c.foc with
 | .code x=>c.st.wf->∀β a w,Re Δ W β c.st Φ a w->x.wp P (post P Q c.k) a w
 | .ops ops l=>c.st.wf->∀β a w,Re Δ W β c.st Φ a w->wpOps P ops (post P Q c.k) l a w
 | .any ops fuel b=>nY ops->Oz ops b->c.st.wf->Jp P W ops (λf Φ=>∀(σ:AS),σ.wf->∀β a w,Re Δ W β σ Φ a w->post P Q c.k (.panic f) a w) (λσ Φ=>σ.wf->∀β a w,Re Δ W β σ Φ a w->post P Q c.k .normal a w) fuel b c.st Φ
 | .out e=>c.st.wf->∀β a w,Re Δ W β c.st Φ a w->post P Q c.k e a w
structure K0(P:YK)(Δ:List YI)(W:YN)(Q:Exit->Act->YN->Prop)(Φ:YW)(c:Ob):Prop where
 get:Vt P Δ W Q Φ c
def So(P:YK)(stop:Nat)(c:Ob):Option Ob:=
 match c.foc with
 | .code x=>match x with
  | .seq x y=>some ⟨.code x,.seq y::c.k,c.st⟩
  | .block id x=>some ⟨.code x,.blk id::c.k,c.st⟩
  | .skip=>some ⟨.out .normal,c.k,c.st⟩
  | .label _=>some ⟨.out .normal,c.k,c.st⟩
  | .exit id=>some ⟨.out (.exit id),c.k,c.st⟩
  | .ret=>some ⟨.out .ret,c.k,c.st⟩
  | .region _ ops false=>some ⟨.ops ops (CP ops.size),c.k,c.st⟩
  | .region _ ops true=>if qt ops then some ⟨.any ops ops.size (DR ops.size false),c.k,c.st⟩else none
  |_=>none
 | .ops _ []=>some ⟨.out .normal,c.k,c.st⟩
 | .ops ops (i::l)=>if BH i stop then none else match ops[i]? with
  |some o=>if Lc ops o c.st&&WL o then none else match Bj P ops o c.st with
   |some e=>some ⟨.ops ops l,c.k,c.st.app o.dst e⟩
   |none=>none
  |none=>none
 | .any ops 0 a=>match Region.ready .any ops a with
  | []=>some ⟨.out .normal,c.k,c.st⟩
  |_=>none
 | .any ops (f+1) a=>
  let r:=Ic P ops (if Nat.ble ops.size stop then ops.size else stop) 0 (f+1) a c.st
  if Nat.blt r.1 (f+1)then some ⟨.any ops r.1 r.2.1,c.k,r.2.2⟩else none
 | .out e=>match c.k with
  | []=>none
  | .seq y::k=>match e with
   | .normal=>some ⟨.code y,k,c.st⟩
   |e=>some ⟨.out e,k,c.st⟩
  | .blk id::k=>match e with
   | .exit b=>if BH b id then some ⟨.out .normal,k,c.st⟩else some ⟨.out (.exit b),k,c.st⟩
   |e=>some ⟨.out e,k,c.st⟩
  | .lp bd::k=>match e with
   | .normal=>some ⟨.code bd,.lp bd::k,c.st⟩
   |e=>some ⟨.out e,k,c.st⟩
section
variable{P:YK}{Δ:List YI}{W:YN}{Q:Exit->Act->YN->Prop}{Φ:YW}{c c':Ob}
theorem OR(ve:P.follows .mixedOrders=true){stop:Nat}(h:So P stop c=some c')(uS:K0 P Δ W Q Φ c'):K0 P Δ W Q Φ c:=by
 obtain⟨N,k,σ⟩:=c;replace uS:=uS.get;refine⟨?_⟩;unfold So at h;simp only at h;split at h
 .rename_i x;split at h
  .injection h with h;subst h;exact λb β a w g=>wp_seq (uS b β a w g)
  .injection h with h;subst h;exact λb β a w g=>wp_block (uS b β a w g)
  .injection h with h;subst h;exact λb β a w g=>wp_skip (uS b β a w g)
  .injection h with h;subst h;exact λb β a w g=>wp_label (uS b β a w g)
  .injection h with h;subst h;exact λb β a w g=>wp_exit (uS b β a w g)
  .injection h with h;subst h;exact λb β a w g=>wp_ret (uS b β a w g)
  .injection h with h;subst h;exact λb β a w g=>wp_region (uS b β a w g)
  .rename_i id r;split at h
   .rename_i uR;injection h with h;subst h;intro b β a w g;refine wp_region_any ve (dN (W:=W) (λuZ β σ Φ a w D g b=>D σ b β a w g) (λβ σ Φ a w K g b=>K b β a w g) _ _ σ Φ β a _ (uS (jr uR) (uI _ _) b) g.drew b)
   .cases h
  .cases h
 .injection h with h;subst h;intro b β a w g;exact uS b β a w g
 .rename_i r i l;split at h
  .cases h
  .split at h
   .rename_i o G;split at h
    .cases h
    .split at h
     .rename_i e v;injection h with h;subst h;intro b β a w g;show wpOps P r (post P Q k) (i::l) a w;rw[wpOps_cons];refine IZ (uT:=λ_ _=>False) (KA:=λσ' Φ'=>σ'=σ.app o.dst e/\Φ'=Φ) (.det e v ⟨rfl,rfl⟩) G g b (λ_ _ _ _ _ _ D=>D.elim) ?_;rintro vg σ' Φ' vf L ⟨rfl,rfl⟩ C j;exact uS j vg vf L C
     .cases h
   .cases h
 .rename_i r p;split at h
  .rename_i g;injection h with h;subst h;exact λ_ _ b=>⟨g,λj=>uS j⟩
  .cases h
 .rename_i r f p;generalize (if Nat.ble r.size stop then r.size else stop)=m at h;split at h
  .injection h with h;subst h;exact λt F b=>IJ t m 0 (f+1) p σ F b λu j=>uS t u j
  .cases h
 .rename_i e;split at h
  .cases h
  .rename_i y B;split at h
   .injection h with h;subst h;intro b β a w g;exact uS b β a w g
   .rename_i s;injection h with h;subst h;intro b β a w g;have:=uS b β a w g;cases e<;>first|exact absurd rfl s|exact this
  .rename_i id B;split at h
   .rename_i A;split at h
    .rename_i v;injection h with h;subst h;intro b β a w g;have:=uS b β a w g;show Exit.inBlock id (post P Q B) (.exit A) a w;simp only[Exit.inBlock];rw[YS (CI v)];exact this
    .rename_i v;injection h with h;subst h;intro b β a w g;have:=uS b β a w g;show Exit.inBlock id (post P Q B) (.exit A) a w;simp only[Exit.inBlock];rw[V (λe=>v (by rw[e];exact Nat.beq_refl _))];exact this
   .rename_i s;injection h with h;subst h;intro b β a w g;have:=uS b β a w g;cases e<;>first|exact absurd rfl (s _)|exact this
  .rename_i bd B;split at h
   .injection h with h;subst h;intro b β a w g;exact ON (uS b β a w g)
   .rename_i s;injection h with h;subst h;intro b β a w g;have:=uS b β a w g;cases e<;>first|exact absurd rfl s|exact this
def B9(c:Ob):Option Ob:=
 match c.foc with
 | .code (.loop bd)=>some ⟨.code bd,.lp bd::c.k,c.st⟩
 |_=>none
theorem ug(h:B9 c=some c')(uS:K0 P Δ W Q Φ c'):K0 P Δ W Q Φ c:=by
 obtain⟨f,k,σ⟩:=c;replace uS:=uS.get;refine⟨?_⟩;unfold B9 at h;simp only at h;split at h
 .injection h with h;subst h;intro b β a w e;exact lA (ON (uS b β a w e))
 .cases h
def SJ(P:YK)(stop:Nat)(c:Ob):Option Ob:=
 match c.foc with
 | .code (.cond x t e)=>match c.st.eval x with
  | .v (.bool b)=>some ⟨.code (if b then t else e),c.k,c.st⟩
  |_=>none
 | .code (.loop bd)=>some ⟨.code bd,.lp bd::c.k,c.st⟩
 |_=>So P stop c
theorem aZ(o:P.follows .mixedOrders=true){stop:Nat}(h:SJ P stop c=some c')(uS:K0 P Δ W Q Φ c'):K0 P Δ W Q Φ c:=by
 unfold SJ at h;split at h
 .rename_i x t e g;split at h
  .rename_i b m;injection h with h;subst h;obtain⟨p,k,σ⟩:=c;simp only at g m uS;subst g;replace uS:=uS.get;refine⟨?_⟩;intro j β a w l;have f:=l.eval x;rw[m]at f;exact wp_cond f (uS j β a w l)
  .cases h
 .rename_i bd g;refine ug (c':=c') ?_ uS;unfold B9;rw[g];exact h
 .exact OR o h uS
def aj(P:YK)(stop:Nat):Nat->Ob->Ob
 |0,c=>c
 |n+1,c=>match SJ P stop c with
  |some c'=>aj P stop n c'
  |none=>c
theorem th(a:P.follows .mixedOrders=true){stop:Nat}:∀(n:Nat) (c:Ob),K0 P Δ W Q Φ (aj P stop n c)->K0 P Δ W Q Φ c
 |0,c,h=>h
 |n+1,c,h=>by
  unfold aj at h;split at h
  .rename_i c' b;exact aZ a b (th a n c' h)
  .exact h
def M1(P:YK)(stop:Nat):Nat->Ob->Ob
 |0,c=>c
 |n+1,c=>match So P stop c with
  |some c'=>M1 P stop n c'
  |none=>c
theorem s0(a:P.follows .mixedOrders=true){stop:Nat}:∀(n:Nat) (c:Ob),K0 P Δ W Q Φ (M1 P stop n c)->K0 P Δ W Q Φ c
 |0,c,h=>h
 |n+1,c,h=>by
  unfold M1 at h;split at h
  .rename_i c' b;exact OR a b (s0 a n c' h)
  .exact h
def gU(P:YK)(l:List Nat)(c:Ob):Ob:=
 match c.foc with
 | .any e fuel b=>if Nat.ble l.length fuel then(match W_ P e l b c.st with
  |some (a,σ')=>⟨.any e (fuel-l.length) a,c.k,σ'⟩
  |none=>c)else c
 |_=>c
theorem uy(l:List Nat)(h:K0 P Δ W Q Φ (gU P l c)):K0 P Δ W Q Φ c:=by
 obtain⟨t,k,σ⟩:=c;replace h:=h.get;refine⟨?_⟩;unfold gU at h;simp only at h;split at h
 .rename_i r fuel e;split at h
  .rename_i o;split at h
   .rename_i b σ' s;intro f m p;have:=UC (P:=P) (K:=λσ Φ=>σ.wf->∀β a w,Re Δ W β σ Φ a w->post P Q k .normal a w) (fuel:=fuel-l.length) (Φ:=Φ) f l e b σ σ' m p s (λg j=>h f g j);rw[Nat.sub_add_cancel (AU o)]at this;exact this
   .exact h
  .exact h
 .exact h
def P1(c:Ob):Option (Array YD×YD):=
 match c.foc with
 | .ops ops (i::_)=>(ops[i]?).map λo=>(ops,o)
 | .any ops (_+1) a=>match Region.ready .any ops a with
  | [i]=>(ops[i]?).map λo=>(ops,o)
  |_=>none
 |_=>none
def U4(P:YK)(c:Ob):Option (YE×List AV):=
 match P1 c with
 |some (a,o)=>if Lc a o c.st then Y9 P o c.st else none
 |none=>none
def Lf(v:AV)(c:Ob):Ob:=
 match c.foc with
 | .ops ops (i::l)=>⟨.ops ops l,c.k,c.st.put ((ops[i]?).bind (·.dst)) v⟩
 | .any ops fuel a=>match Region.ready .any ops a with
  |i::_=>⟨.any ops (fuel-1) (a.setIfInBounds i true),c.k,c.st.put ((ops[i]?).bind (·.dst)) v⟩
  |_=>c
 |_=>c
theorem up{uX:Type}{g:YE}{xs:List AV}{val:uX->YM}{G:uX->YN->Prop}(s:U4 P c=some (g,xs))
 (vf:∀β w,Below W.heap.size W w->Φ w->SD β c.st xs w->YG P g (xs.map (AV.conc β)).toArray w (K6 w val G))
 (h:∀x:uX,K0 P Δ W Q (λw=>Φ w/\G x w) (Lf (.v (val x)) c)):K0 P Δ W Q Φ c:=by
 obtain⟨T,k,σ⟩:=c;replace h:=λx=>(h x).get
 refine⟨?_⟩;unfold U4 at s;split at s
 .rename_i ve o f;split at s
  .rename_i uS;unfold P1 at f;simp only at f;split at f
   .rename_i e i l;cases b:e[i]? with
    |none=>rw[b]at f;cases f
    |some B=>
     rw[b]at f;simp only[AP,AM,AZ]at f;obtain⟨rfl,rfl⟩:=f;intro r β a w L;show wpOps P e (post P Q k) (i::l) a w;rw[wpOps_cons];refine IZ (uT:=λ_ _=>False) (KA:=λσ' Φ'=>∃x,σ'=σ.put B.dst (.v (val x))/\Φ'=λw=>Φ w/\G x w) (.call g xs val G uS s vf λx=>⟨x,rfl,rfl⟩) b L r (λ_ _ _ _ _ _ K=>K.elim) ?_;rintro D σ' Φ' uR S ⟨x,rfl,rfl⟩ C y;have:=h x;simp only[Lf,b,AL]at this;exact this y D uR S C
   .rename_i e fuel p;split at f
    .rename_i i m;cases b:e[i]? with
     |none=>rw[b]at f;cases f
     |some B=>
      rw[b]at f;simp only[AP,AM,AZ]at f;obtain⟨rfl,rfl⟩:=f;intro A vg r;refine⟨λuY=>(by rw[uY]at m;cases m),λj F=> ?_⟩;rw[m]at F;obtain rfl:j=i:=by simpa using F
      obtain⟨_,N,u,t⟩:=mem_ready.1 (show j∈Region.ready .any e p by rw[m];simp);obtain rfl:B=N:=by rw[b]at u;injection u
      refine⟨B,b,.call g xs val G uS s vf λx=> ?_⟩;have:=h x;simp only[Lf,m,b,AL,BK]at this;exact this A (vg.set_ b t) (r.put _ (by intro k uZ;simp[AV.ids]at uZ))
    .cases f
   .cases f
  .cases s
 .cases s
def M8(P:YK)(c:Ob):Option (YE×Array YM):=
 match U4 P c with
 |some (g,xs)=>match Jn xs with
  |some vs=>some (g,vs.toArray)
  |none=>none
 |none=>none
theorem tf{uX:Type}{g:YE}{args:Array YM}{val:uX->YM}{G:uX->YN->Prop}
 (j:∀w,Below W.heap.size W w->Φ w->YG P g args w (K6 w val G)) (a:M8 P c=some (g,args))
 (h:∀x:uX,K0 P Δ W Q (λw=>Φ w/\G x w) (Lf (.v (val x)) c)):K0 P Δ W Q Φ c:=by
 unfold M8 at a;split at a
 .rename_i l xs f;split at a
  .rename_i vs e;injection a with a;injection a with h1 h2;subst h1;subst h2;exact up f (λβ w k b _=>by rw[Qi e];exact j w k b) h
  .cases a
 .cases a
def Ue(c:Ob):Option (Sem Next):=
 match P1 c with
 |some (a,o)=>match o.op with
  | .select _ _=>none
  | .move _=>none
  |_=>if Lc a o c.st&&c.st.plain o.op then some (execOp c.st.rho o)else none
 |none=>none
def Vy(c:Ob):Option (Sem Next):=
 if (match P1 c with|some (ops,o)=>Tn ops c.st o|none=>false)then none else Ue c
theorem Rc{c:Ob}{s:Sem Next}(h:Vy c=some s):Ue c=some s/\∀a o,P1 c=some (a,o)->Tn a c.st o=false:=by
 unfold Vy at h;cases b:(match P1 c with|some (a,o)=>Tn a c.st o|none=>false)with
 |true=>rw[b]at h;cases h
 |false=>
  rw[b]at h;exact⟨h,λa o e=>by rw[e]at b;exact b⟩
theorem sV(s:Sem Next)(v:YM)(p:Vy c=some s)(uR:∀w,Below W.heap.size W w->Φ w->s.run P w= .ok (.value v) w)(h:K0 P Δ W Q Φ (Lf (.v v) c)):K0 P Δ W Q Φ c:=by
 obtain⟨foc,k,σ⟩:=c;replace h:=h.get;refine⟨?_⟩;have uV:=(Rc p).2;replace p:=(Rc p).1;unfold Ue at p;split at p
 .rename_i N o g;have G:=uV _ _ g;split at p
  .cases p
  .cases p
  .rename_i C B;split at p
   .rename_i F;simp only[AH]at F;injection p with p;subst p;unfold P1 at g;simp only at g;split at g
    .rename_i m i l;cases f:m[i]? with
     |none=>rw[f]at g;cases g
     |some uS=>
      rw[f]at g;simp only[AP,AM,AZ]at g;obtain⟨rfl,rfl⟩:=g;intro u β a w uY;show wpOps P m (post P Q k) (i::l) a w;rw[wpOps_cons];refine IZ (uT:=λ_ _=>False) (KA:=λσ' Φ'=>σ'=σ.put uS.dst (.v v)/\Φ'=Φ) (.ask v F.1 F.2 (λcs b e=>C cs b e) (GK λx e=>B x e) G (λw a b=> .inl (uR w a b)) ⟨rfl,rfl⟩) f uY u (λ_ _ _ _ _ _ uZ=>uZ.elim) ?_;rintro ve σ' Φ' S uX ⟨rfl,rfl⟩ vf D;simp only[Lf,f,AL]at h;exact h D ve S uX vf
    .rename_i m fuel t;split at g
     .rename_i i r;cases f:m[i]? with
      |none=>rw[f]at g;cases g
      |some uS=>
       rw[f]at g;simp only[AP,AM,AZ]at g;obtain⟨rfl,rfl⟩:=g;intro vg K u;refine⟨λuU=>(by rw[uU]at r;cases r),λj L=> ?_⟩;rw[r]at L;obtain rfl:j=i:=by simpa using L
       obtain⟨_,T,A,y⟩:=mem_ready.1 (show j∈Region.ready .any m t by rw[r];simp);obtain rfl:uS=T:=by rw[f]at A;injection A
       refine⟨uS,f,.ask v F.1 F.2 (λcs b e=>C cs b e) (GK λx e=>B x e) G (λw a b=> .inl (uR w a b)) ?_⟩;simp only[Lf,r,f,AL,BK]at h;exact h vg (K.set_ f y) (u.put _ (by intro k uW;simp[AV.ids]at uW))
     .cases g
    .cases g
   .cases p
 .cases p
theorem sO{uX:Type}(s:Sem Next)(val:uX->YM)(G:uX->YN->Prop)(p:Vy c=some s)(L:∀w,Below W.heap.size W w->Φ w->Lw P w val G s)(h:∀x,K0 P Δ W Q (λw=>Φ w/\G x w) (Lf (.v (val x)) c)):K0 P Δ W Q Φ c:=by
 obtain⟨foc,k,σ⟩:=c;replace h:=λx=>(h x).get
 refine⟨?_⟩;replace p:=(Rc p).1;unfold Ue at p;split at p
 .rename_i uR o m;split at p
  .cases p
  .cases p
  .rename_i B uZ;split at p
   .rename_i vg;simp only[AH]at vg;injection p with p;subst p;unfold P1 at m;simp only at m;split at m
    .rename_i g i l;cases f:g[i]? with
     |none=>rw[f]at m;cases m
     |some F=>
      rw[f]at m;simp only[AP,AM,AZ]at m;obtain⟨rfl,rfl⟩:=m;intro u β a w uY;show wpOps P g (post P Q k) (i::l) a w;rw[wpOps_cons];refine IZ (uT:=λ_ _=>False) (KA:=λσ' Φ'=>∃x,σ'=σ.put F.dst (.v (val x))/\Φ'=λw=>Φ w/\G x w) (.make val G vg.1 vg.2 (λcs b e=>B cs b e) L λx=>⟨x,rfl,rfl⟩) f uY u (λ_ _ _ _ _ _ N=>N.elim) ?_;rintro vf σ' Φ' S uV ⟨x,rfl,rfl⟩ uS C;have:=h x;simp only[Lf,f,AL]at this;exact this C vf S uV uS
    .rename_i g fuel t;split at m
     .rename_i i r;cases f:g[i]? with
      |none=>rw[f]at m;cases m
      |some F=>
       rw[f]at m;simp only[AP,AM,AZ]at m;obtain⟨rfl,rfl⟩:=m;intro D ve u;refine⟨λuU=>(by rw[uU]at r;cases r),λj K=> ?_⟩;rw[r]at K;obtain rfl:j=i:=by simpa using K
       obtain⟨_,T,A,y⟩:=mem_ready.1 (show j∈Region.ready .any g t by rw[r];simp);obtain rfl:F=T:=by rw[f]at A;injection A
       refine⟨F,f,.make val G vg.1 vg.2 (λcs b e=>B cs b e) L λx=> ?_⟩;have:=h x;simp only[Lf,r,f,AL,BK]at this;exact this D (ve.set_ f y) (u.put _ (by intro k uW;simp[AV.ids]at uW))
     .cases m
    .cases m
   .cases p
 .cases p
def EK(c:Ob):Option Bool:=
 match c.foc with
 | .code (.cond x _ _)=>match c.st.eval x with
  | .v (.bool b)=>some b
  |_=>none
 |_=>none
def Em(b:Bool)(c:Ob):Ob:=
 match c.foc with
 | .code (.cond _ x y)=>⟨.code (if b then x else y),c.k,c.st⟩
 |_=>c
theorem sW(b:Bool)(f:EK c=some b)(h:K0 P Δ W Q Φ (Em b c)):K0 P Δ W Q Φ c:=by
 obtain⟨o,k,σ⟩:=c;replace h:=h.get;refine⟨?_⟩;unfold EK at f;simp only at f;split at f
 .rename_i x t e;split at f
  .rename_i p m;injection f with f;subst f;intro j β a w l;have g:=l.eval x;rw[m]at g;exact wp_cond g (h j β a w l)
  .cases f
 .cases f
theorem sQ(b lit:Bool)(a:EK c=some b)(e:b=lit)(h:K0 P Δ W Q Φ (Em lit c)):K0 P Δ W Q Φ c:=by
 subst e;exact sW b a h
theorem j9{β:Nat->Nat}{σ:AS}{xs:List AV}{w:YN}(h:SD β σ xs w){k:Nat}(a:∃x∈xs,k∈x.ids){cs:List AV}(b:σ.box k=some cs):
 ∃ty,w.heap[β k]? =some (.cells (cs.map (AV.conc β)).toArray ty (0,0)):=by
 obtain⟨x,e,a⟩:=a;exact h x e k a cs b
def Ma(t:Nat)(v:YM)(c:Ob):Ob:=⟨c.foc,c.k,⟨c.st.tmps.set t (.v v),c.st.box⟩⟩
theorem sM(t:Nat)(v b:YM)(f:c.st.tmps[t]? =some (.v v))(e:v=b)(h:K0 P Δ W Q Φ (Ma t b c)):K0 P Δ W Q Φ c:=by
 subst e;have:Ma t v c=c:=by
  obtain⟨l,k,σ⟩:=c;obtain⟨o,m⟩:=σ;simp only[Ma];congr 2;refine DP λj=> ?_
  by_cases e:t=j
  .subst e;simp only at f;rw[List.getElem?_set];obtain⟨a,g⟩:=CQ.1 f;simp[a,g]
  .rw[List.getElem?_set_ne e]
 rw[this]at h;exact h
def QN(P:YK)(σ:AS):ResultVar->Option YM
 | .tmp t=>match σ.tmps.getD t (.v undef)with
  | .v x=>some x
  |_=>none
 | .cell t ty=>match σ.tmps.getD t (.v undef)with
  | .p k a=>match σ.box k with
   |some cs=>match C9 P ty a cs with
    |some ⟨.v x,none⟩=>some x
    |_=>none
   |none=>none
  |_=>none
def Bu(P:YK)(σ:AS):List ResultVar->Option (List YM)
 | []=>some []
 |r::l=>match QN P σ r,Bu P σ l with
  |some x,some xs=>some (x::xs)
  |_,_=>none
def bb:List YM->YM
 | [x]=>x
 |xs=> .tuple xs.toArray
def VF(P:YK)(a:Func)(c:Ob):Option YM:=
 match c.foc,c.k with
 | .out .ret,[]=>(Bu P c.st a.results.toList).map bb
 | .out .normal,[]=>(Bu P c.st a.results.toList).map bb
 |_,_=>none
def Dm(tmps:Array YM):ResultVar->Sem YM
 | .tmp t=>pure (tmps.getD t undef)
 | .cell a t=>do loadVar t (<-asAddr (tmps.getD a undef))
theorem Yq(a:Func)(tmps:Array YM):results a tmps=(a.results.mapM (Dm tmps) >>= λvs=>pure (if h:vs.size=1 then vs[0]else .tuple vs)):=by
 unfold results;congr 1
theorem eE{β:Nat->Nat}{σ:AS}{a:Act}{w:YN}{r:ResultVar}{x:YM}(h:QN P σ r=some x)(g:Re Δ W β σ Φ a w)(m:σ.wf):
 (Dm a.tmps r).run P w= .ok x w:=by
 have b:∀t,a.tmps.getD t undef=(σ.tmps.getD t (.v undef)).conc β:=λt=>g.eval (.tmp t)
 cases r with
 | tmp t=>
  simp only[QN]at h;split at h
  .rename_i y f;injection h with h;subst h;simp only[Dm,b,f,AV.conc,AI]
  .cases h
 | cell p t=>
  simp only[QN]at h;split at h
  .rename_i k A o;split at h
   .rename_i cs s;split at h
    .rename_i y f;injection h with h;subst h;obtain⟨_,j,l⟩:=g.box k cs s;have u:=(FK l f).1;have e:=b p;rw[o]at e;simp only[Dm,e,AV.conc,asAddr,AG,AI,AC];exact u
    .cases h
   .cases h
  .cases h
theorem PU{β:Nat->Nat}{σ:AS}{a:Act}{w:YN}(f:Re Δ W β σ Φ a w)(b:σ.wf):∀(l:List ResultVar) (xs:List YM),Bu P σ l=some xs->
 (l.mapM (Dm a.tmps)).run P w= .ok xs w
 | [],xs,h=>by simp[Bu]at h;subst h;simp
 | r::l,xs,h=>by
  simp only[Bu]at h;split at h
  .rename_i x e j m;injection h with h;subst h;have g:=eE j f b;have k:=PU f b l e m;rw[List.mapM_cons,AG,g,AC,AG,k]
   rfl
  .cases h
theorem LU{β:Nat->Nat}{σ:AS}{a:Act}{w:YN}{e:Func}{xs:List YM}(h:Bu P σ e.results.toList=some xs)(f:Re Δ W β σ Φ a w)(b:σ.wf):
 (results e a.tmps).run P w= .ok (bb xs) w:=by
 have:=PU f b _ _ h;rw[Yq,AG,Array.mapM_eq_mapM_toList,Sem.run_map];simp only[this,AC,AI];congr 1
 match xs with
 | []=>rfl
 | [x]=>rfl
 |x::y::l=>
  rw[dif_neg Zs]
  rfl
theorem ux{o:Func}{uY:YC->YN->Prop}{v:YM}(h:VF P o c=some v)(u:∀w,Below W.heap.size W w->(∀g,w.heap.size<=g.heap.size->(∀b,W.heap.size<=b->b<w.heap.size->g.heap[b]? =w.heap[b]?)->Φ g)->uY (.returned v) w):K0 P [] W (bodyPost P o uY) Φ c:=by
 obtain⟨x,k,σ⟩:=c;refine⟨?_⟩;unfold VF at h;split at h
 .rename_i l m;simp only at l m;subst l;subst m;cases j:Bu P σ o.results.toList with
  |none=>rw[j]at h;cases h
  |some xs=>
   simp only[j,AP,AM]at h;subst h;intro f β a w e;exact⟨e.defers,_,LU j e f,u w e.bel λg s p=>e.keep g ⟨s,λb r t _=>p b r t⟩⟩
 .rename_i l m;simp only at l m;subst l;subst m;cases j:Bu P σ o.results.toList with
  |none=>rw[j]at h;cases h
  |some xs=>
   simp only[j,AP,AM]at h;subst h;intro f β a w e;exact⟨e.defers,_,LU j e f,u w e.bel λg s p=>e.keep g ⟨s,λb r t _=>p b r t⟩⟩
 .cases h
end
def Uf(a:Func)(args:Array YM):Ob:=⟨.code (a.body.getD .skip),[],⟨args.toList.map .v++BM (a.ntmps-args.size) (.v undef),λ_=>none⟩⟩
theorem sL{P:YK}{f:YE}{b:Func}{args:Array YM}{w:YN}{uY:YC->YN->Prop}
 (l:P.funcs[f]? =some b) (o:b.body.isSome=true)
 (h:K0 P [] w (bodyPost P b uY) (λ_=>True) (Uf b args)):YG P f args w uY:=by
 obtain⟨c,e⟩:=AR.1 o;replace h:=h.get;simp only[Vt,Uf,e,CS]at h;refine calls_of_wp l e (h ?_ (λ_=>0) _ w ?_)
 .refine⟨λx g k a=> ?_,λj cs m=>by cases m⟩;simp only[BR,AY,List.mem_replicate]at g;rcases g with ⟨q,_,rfl⟩|⟨_,rfl⟩<;>simp[AV.ids]at a
 .refine⟨?_,rfl,Below.refl _ _,λk cs a=>(by cases a),λk p a=>(by cases a),λs r=>trivial⟩;simp[BN,AV.conc]
theorem Gc{P:YK}{W:YN}{c:Array YD}{uT:List YF->(YW)->Prop}{K:AS->(YW)->Prop}{i:Nat}{l:YD}{v:YM}(hi:c[i]? =some l)(uV:nY c)(hns:∀cs b,l.op≠ .select cs b)(hmv:fX l.op=false):
 ∀(fuel:Nat) (a:Array Bool) (σ:AS) (Φ:YW),Oz c a->σ.wf->i∈Region.ready .any c a->Lc c l σ=true->σ.plain l.op=true->Tn c σ l=false->
  (∀w,Below W.heap.size W w->Φ w->ib P (execOp σ.rho l) v w)->
  Jp P W c uT K fuel (a.setIfInBounds i true) (σ.put l.dst (.v v)) Φ->Jp P W c uT K (fuel+1) a σ Φ:=by
 intro fuel;induction fuel with
 | zero=>
  intro a σ Φ D uW N hw hp Q hs uS;refine⟨λh=>(by rw[h]at N;cases N),λj hj=> ?_⟩
  by_cases f:j=i
  .subst f;exact⟨l,hi,.ask v hw hp hns hmv Q hs uS⟩
  .have:=ready_mono hj f;rw[uS.1]at this;cases this
 | succ fuel ih=>
  intro a σ Φ D uW N hw hp Q hs uS;refine⟨λh=>(by rw[h]at N;cases N),λj hj=> ?_⟩
  by_cases f:j=i
  .subst f;exact⟨l,hi,.ask v hw hp hns hmv Q hs uS⟩
  .obtain⟨r,o,h1⟩:=uS.2 j (ready_mono hj f);refine⟨r,o,?_⟩;obtain⟨hjun,oj',hoj',s⟩:=mem_ready.1 hj;obtain rfl:r=oj':=by rw[o]at hoj';injection hoj'
   obtain⟨hiun,oi',hoi',T⟩:=mem_ready.1 N;obtain rfl:l=oi':=by rw[hi]at hoi';injection hoi'
   have unl:∀{m:Nat},a.getD m true=false->a.getD m false=true->False:=λ{m} h1 h2=>by
    rcases BC m a.size with h'|h'
    .simp[h']at h1 h2;rw[h1]at h2;cases h2
    .simp[BU h']at h2
   have apj:∀d,l.dst=some d->d∉r.looksAt c:=λd hd uU=>by
    rcases(uV i j l r hi o (Ne.symm f) d hd).2 uU with ⟨e,he,F,ve⟩|⟨e,he,F,ve⟩
    .have:=s e he F;rw[ve]at this;exact unl hiun this
    .have:=T e he F;rw[ve]at this;exact unl hjun this
   have B:∀d,r.dst=some d->d∉l.looksAt c:=λd hd uU=>by
    rcases(uV j i r l o hi f d hd).2 uU with ⟨e,he,F,ve⟩|⟨e,he,F,ve⟩
    .have:=T e he F;rw[ve]at this;exact unl hjun this
    .have:=s e he F;rw[ve]at this;exact unl hiun this
   have apd:∀t,l.dst=some t->r.dst≠some t:=λt ht=>(uV i j l r hi o (Ne.symm f) t ht).1
   have uY:∀x∈r.op.operands,(σ.put l.dst (.v v)).eval x=σ.eval x:=λx vg=>s9 (Q9 apj vg)
   have wj:Lc c r (σ.put l.dst (.v v))=Lc c r σ:=Of apj
   -- what i yields behind j
   have stay:∀{σ2:AS} {Φ2:YW},Tn c σ2 l=Tn c σ l->(∀x∈l.op.operands,σ2.eval x=σ.eval x)->Lc c l σ2=Lc c l σ->(∀w,Φ2 w->Φ w)->
    Lc c l σ2=true/\σ2.plain l.op=true/\Tn c σ2 l=false/\∀w,Below W.heap.size W w->Φ2 w->ib P (execOp σ2.rho l) v w:=λ{σ2 Φ2} hch he hw2 uR=>by
    refine⟨hw2.trans hw,by rw[Nr he];exact hp,hch.trans Q,λw F h2=> ?_⟩;have C:∀x∈l.op.operands,σ2.rho x=σ.rho x:=λx vg=>by unfold AS.rho;rw[he x vg]
    rw[execOp_congr l hns C];exact hs w F (uR w h2)
   cases h1 with
   | det ej vf hK=>
    have hej1:Bj P c r σ=some ej:=by
     unfold Bj at vf ⊢;rw[wj]at vf;cases F:Lc c r σ with
     |false=>rw[F]at vf;exact vf
     |true=>
      rw[F]at vf;simp only[if_true]at vf ⊢;rw[<-vf];exact(V5 uY λk _=>by rw[tC]).symm
    obtain⟨s1,s2,s4,s3⟩:=stay (σ2:=σ.app r.dst ej) (Φ2:=Φ) (Pf (λq uZ y A=>tq (Ow o uZ y A)) _) (λx vg=>tq (Q9 B vg)) (D6 B) (λ_ h=>h);refine .det ej hej1 (ih (a.setIfInBounds j true) _ Φ (D.set_ o s) (RZ hej1 uW) (ready_mono N (Ne.symm f)) s1 s2 s4 s3 ?_);rw[AN _ _ f];have e:=tF σ (d:=r.dst) (d':=l.dst) (x:=ej) (v:= .v v) (λt ht e=>apd t e ht);rw[e];exact hK
   | @call uX g xs val G hwc hc hsc hK=>
    have hc':Y9 P r σ=some (g,xs):=by rw[<-Z5 uY];exact hc
    refine .call g xs val G (by rw[<-wj];exact hwc) hc' (λβ w hbl uR hB=>hsc β w hbl uR λx vg k hk cs hcs=>hB x vg k hk cs (by rw[tC]at hcs;exact hcs)) (λx=> ?_);obtain⟨s1,s2,s4,s3⟩:=stay (σ2:=σ.put r.dst (.v (val x))) (Φ2:=λw=>Φ w/\G x w) (Pf (λq uZ y A=>s9 (Ow o uZ y A)) _) (λx vg=>s9 (Q9 B vg)) (Of B) (λ_ h=>h.1);refine ih (a.setIfInBounds j true) _ _ (D.set_ o s) (uW.put _ (by intro k hk;simp[AV.ids]at hk)) (ready_mono N (Ne.symm f)) s1 s2 s4 s3 ?_;rw[AN _ _ f,<-tK σ _ _ apd];exact hK x
   |ask u hwa hpa S hmva hcba hsa hK=>
    have C:∀x∈r.op.operands,(σ.put l.dst (.v v)).rho x=σ.rho x:=λx vg=>by unfold AS.rho;rw[uY x vg]
    refine .ask u (by rw[<-wj];exact hwa) (by rw[<-Nr uY];exact hpa) S hmva (by rw[<-Pf (σ:=σ) (σ':=σ.put l.dst (.v v)) λq uZ y A=>s9 (Ow hi uZ y A)];exact hcba) (λw F uR=>by rw[<-execOp_congr r S C];exact hsa w F uR) ?_;obtain⟨s1,s2,s4,s3⟩:=stay (σ2:=σ.put r.dst (.v u)) (Φ2:=Φ) (Pf (λq uZ y A=>s9 (Ow o uZ y A)) _) (λx vg=>s9 (Q9 B vg)) (Of B) (λ_ h=>h);refine ih (a.setIfInBounds j true) _ _ (D.set_ o s) (uW.put _ (by intro k hk;simp[AV.ids]at hk)) (ready_mono N (Ne.symm f)) s1 s2 s4 s3 ?_;rw[AN _ _ f,<-tK σ _ _ apd];exact hK
   | pan ch Φ2 g xs vs hl _ _ _ _ _ _ _ _=>
    rcases hl j o a i D hj N with p|⟨ok,p,⟨L,h6⟩|L|L⟩
    .exact absurd p.symm f
    rotate_left
    .rw[hi]at p;injection p with p;subst p;rw[hmv]at L;cases L
    .rw[hi]at p;injection p with p;subst p;rw[Pf (σ:=σ) (σ':=σ.put l.dst (.v v)) λq uZ y A=>s9 (Ow hi uZ y A),Q]at L;cases L
    .rw[hi]at p;injection p with p;subst p;rw[<-Nr (σ:=σ) (σ':=σ.put l.dst (.v v)) λy A=>s9 (Ow hi L y A)]at hp;rw[hp]at h6;cases h6
   | mutm val G Φ2 hl _ _ _ _ _ _ _=>
    rcases hl j o a i D hj N with p|⟨ok,p,⟨L,h6⟩|L|L⟩
    .exact absurd p.symm f
    rotate_left
    .rw[hi]at p;injection p with p;subst p;rw[hmv]at L;cases L
    .rw[hi]at p;injection p with p;subst p;rw[Pf (σ:=σ) (σ':=σ.put l.dst (.v v)) λq uZ y A=>s9 (Ow hi uZ y A),Q]at L;cases L
    .rw[hi]at p;injection p with p;subst p;rw[<-Nr (σ:=σ) (σ':=σ.put l.dst (.v v)) λy A=>s9 (Ow hi L y A)]at hp;rw[hp]at h6;cases h6
   |lone hl _=>exact absurd (hl j o a i D hj N).symm f
   | @make uX val G hwa hpa S hsa hK=>
    have C:∀x∈r.op.operands,(σ.put l.dst (.v v)).rho x=σ.rho x:=λx vg=>by unfold AS.rho;rw[uY x vg]
    refine .make val G (by rw[<-wj];exact hwa) (by rw[<-Nr uY];exact hpa) S (λw F uR=>by rw[<-execOp_congr r S C];exact hsa w F uR) λx=> ?_
    obtain⟨s1,s2,s4,s3⟩:=stay (σ2:=σ.put r.dst (.v (val x))) (Φ2:=λw=>Φ w/\G x w) (Pf (λq uZ y A=>s9 (Ow o uZ y A)) _) (λx vg=>s9 (Q9 B vg)) (Of B) (λ_ h=>h.1);refine ih (a.setIfInBounds j true) _ _ (D.set_ o s) (uW.put _ (by intro k hk;simp[AV.ids]at hk)) (ready_mono N (Ne.symm f)) s1 s2 s4 s3 ?_;rw[AN _ _ f,<-tK σ _ _ apd];exact hK x
section
variable{P:YK}{Δ:List YI}{W:YN}{Q:Exit->Act->YN->Prop}{Φ:YW}{c:Ob}
def askAt(i:Nat)(c:Ob):Option (Sem Next):=
 match c.foc with
 | .any b (_+1) a=>match b[i]? with
  |some o=>match o.op with
   | .select _ _=>none
   | .move _=>none
   |_=>if (MC b a i o&& !Tn b c.st o)&&(Lc b o c.st&&c.st.plain o.op)then some (execOp c.st.rho o)else none
  |none=>none
 |_=>none
def Bg(i:Nat)(v:YM)(c:Ob):Ob:=
 match c.foc with
 | .any b fuel a=>⟨.any b (fuel-1) (a.setIfInBounds i true),c.k,c.st.put ((b[i]?).bind (·.dst)) (.v v)⟩
 |_=>c
theorem sP(i:Nat)(s:Sem Next)(v:YM)(f:askAt i c=some s)(vg:∀w,Below W.heap.size W w->Φ w->s.run P w= .ok (.value v) w)(h:K0 P Δ W Q Φ (Bg i v c)):K0 P Δ W Q Φ c:=by
 obtain⟨G,k,σ⟩:=c;replace h:=h.get;refine⟨?_⟩;unfold Go.Proofs.YtnmokookhcgklaaGreatDoor.askAt at f;simp only at f;split at f
 .rename_i C fuel g;split at f
  .rename_i o l;split at f
   .cases f
   .cases f
   .rename_i A y;split at f
    .rename_i u;simp only[AH]at u;injection f with f;subst f;intro j t p;have B:=Dn l u.1.1;obtain⟨_,F,r,m⟩:=mem_ready.1 B;obtain rfl:o=F:=by rw[l]at r;injection r
     refine Gc (v:=v) l j (λcs b e=>A cs b e) (GK λx e=>y x e) fuel g σ Φ t p B u.2.1 u.2.2 (by simpa using u.1.2) (λw a b=> .inl (vg w a b)) ?_;have:=h j (t.set_ l m) (by simp only[Bg,l,AL];exact p.put _ (by intro k D;simp[AV.ids]at D));simp only[Bg,l,AL,BK]at this;exact this
    .cases f
  .cases f
 .cases f
theorem uD(i:Nat)(s:Sem Next)(f:Go.Proofs.YtnmokookhcgklaaGreatDoor.askAt i c=some s)(vg:∀w,Below W.heap.size W w->Φ w->s.run P w= .ok .skip w)(h:K0 P Δ W Q Φ (Bg i undef c)):K0 P Δ W Q Φ c:=by
 obtain⟨G,k,σ⟩:=c;replace h:=h.get;refine⟨?_⟩;unfold Go.Proofs.YtnmokookhcgklaaGreatDoor.askAt at f;simp only at f;split at f
 .rename_i C fuel g;split at f
  .rename_i o l;split at f
   .cases f
   .cases f
   .rename_i A y;split at f
    .rename_i u;simp only[AH]at u;injection f with f;subst f;intro j t p;have B:=Dn l u.1.1;obtain⟨_,F,r,m⟩:=mem_ready.1 B;obtain rfl:o=F:=by rw[l]at r;injection r
     refine Gc (v:=undef) l j (λcs b e=>A cs b e) (GK λx e=>y x e) fuel g σ Φ t p B u.2.1 u.2.2 (by simpa using u.1.2) (λw a b=> .inr ⟨rfl,vg w a b⟩) ?_;have:=h j (t.set_ l m) (by simp only[Bg,l,AL];exact p.put _ (by intro k D;simp[AV.ids]at D));simp only[Bg,l,AL,BK]at this;exact this
    .cases f
  .cases f
 .cases f
end
structure LS where
 slots:List (Nat×AV)
 boxes:List (Nat×List AV)
def E1{α:Type}:List (Nat×α)->Nat->Option α
 | [],_=>none
 |(k,x)::l,j=>if BH k j then some x else E1 l j
def Wv(l:List (Nat×AV))(g:Nat->YM):Nat->Nat->List AV
 |0,_=>[]
 |n+1,t=>(match E1 l t with|some x=>x|none=> .v (g t))::Wv l g n (t+1)
def LS.st(l:LS)(n:Nat)(g:Nat->YM):AS:=⟨Wv l.slots g n 0,E1 l.boxes⟩
def LS.ok(l:LS):Bool:=(l.slots.all λp=>p.2.ids.all λk=>(E1 l.boxes k).isSome)&&(l.boxes.all λp=>p.2.all λx=>x.ids.all λk=>(E1 l.boxes k).isSome)
def LS.fits(l:LS)(n:Nat)(σ:AS):Prop:=(l.slots.map λp=>σ.tmps[p.1]?)=(l.slots.map λp=>some p.2)/\(l.boxes.map λp=>σ.box p.1)=(l.boxes.map λp=>some p.2)/\σ.tmps.length=n
theorem C2{α:Type}{l:List (Nat×α)}{k:Nat}{x:α}(h:E1 l k=some x):(k,x)∈l:=by
 induction l with
 |nil=>cases h
 | cons p l a=>
  obtain⟨j,y⟩:=p;simp only[E1]at h;split at h
  .rename_i b;injection h with h;have:=CI b;subst h;subst this;exact DM ..
  .exact DI _ (a h)
theorem H8(l:List (Nat×AV))(g:Nat->YM):∀(n t j:Nat),(Wv l g n t)[j]? =if j<n then some (match E1 l (t+j)with|some x=>x|none=> .v (g (t+j)))else none
 |0,t,j=>by simp[Wv]
 |n+1,t,0=>by simp[Wv]
 |n+1,t,j+1=>by
  simp only[Wv,List.getElem?_cons_succ];rw[H8 l g n (t+1) j,show t+1+j=t+(j+1) by omega];simp
theorem Zb{α β:Type}{f g:α->β}:∀{l:List α},l.map f=l.map g->∀x∈l,f x=g x
 | [],_,x,a=>by cases a
 |y::l,h,x,a=>by
  simp only[DW]at h;injection h with h1 h2;rcases DJ.1 a with rfl|a
  .exact h1
  .exact Zb h2 x a
theorem LS.wf{l:LS}(h:l.ok=true)(n:Nat)(g:Nat->YM):(l.st n g).wf:=by
 simp only[LS.ok,AH,AE]at h;refine⟨λx c k b=> ?_,λj cs e x c k b=> ?_⟩
 .obtain⟨t,a⟩:=List.mem_iff_getElem?.1 c;simp only[LS.st,H8]at a;split at a
  .injection a with a;split at a
   .rename_i y f;subst a;exact h.1 _ (C2 f) k b
   .subst a;simp[AV.ids]at b
  .cases a
 .exact h.2 _ (C2 e) x c k b
theorem uJ{l:LS}{n:Nat}{Δ:List YI}{W:YN}{β:Nat->Nat}{σ:AS}{Φ:YW}{a:Act}{w:YN}(h:l.fits n σ)(f:Re Δ W β σ Φ a w):∃g,Re Δ W β (l.st n g) Φ a w:=by
 obtain⟨G,C,vg⟩:=h;have c:∀k cs,(l.st n (λt=>a.tmps.getD t undef)).box k=some cs->σ.box k=some cs:=λk cs m=>Zb C _ (C2 m)
 refine⟨λt=>a.tmps.getD t undef,⟨?_,f.defers,f.bel,λk cs m=>f.box k cs (c k cs m),λk A m u e=> ?_,λF B=>f.keep F ⟨B.size,λb D uS m=>B.heap b D uS λk r=> ?_⟩⟩⟩
 .refine DP λj=> ?_
  rw[BO];simp only[LS.st,H8,CD];have v:a.tmps.toList.length=n:=by rw[f.tmps,List.length_map,vg]
  by_cases y:j<n
  .rw[YS y];have s:j<a.tmps.size:=by simpa using(by omega:j<a.tmps.toList.length)
   simp only[AP];split
   .rename_i x vf;have:=Zb G _ (C2 vf);simp only at this;rw[f.tmps,BO,this];rfl
   .simp[AV.conc,s]
  .rw[V y,DE J];rfl
 .obtain⟨cs,o⟩:=AR.1 m;obtain⟨cs',p⟩:=AR.1 u;exact f.inj k A (by rw[c k cs o];rfl) (by rw[c A cs' p];rfl) e
 .obtain⟨cs,o⟩:=AR.1 r;exact m k (by rw[c k cs o];rfl)
section
variable{P:YK}{Δ:List YI}{W:YN}{Q:Exit->Act->YN->Prop}{Φ:YW}{c:Ob}
def dQ(P:YK)(Δ:List YI)(W:YN)(Q:Exit->Act->YN->Prop)(k:List nT){ι:Type}(f:ι->LS)(n:Nat)(Ψ:ι->YN->Prop)(μ:ι->Nat)(i:ι):Exit->Act->YN->Prop
 | .normal,a,w=>∃j β g,μ j<μ i/\Re Δ W β ((f j).st n g) (Ψ j) a w
 |e,a,w=>post P Q k e a w
def C3(c:Ob):Option Code:=
 match c.foc with
 | .code (.loop a)=>some a
 |_=>none
theorem sU{ι:Type}(n:Nat)(f:ι->LS)(Ψ:ι->YN->Prop)(μ:ι->Nat)(vg:ι)(uS:(C3 c).isSome=true)(K:∀i,(f i).ok=true)(uW:(f vg).fits n c.st)(ve:∀w,Φ w->Ψ vg w)
 (r:∀i g,K0 P Δ W (dQ P Δ W Q c.k f n Ψ μ i) (Ψ i) ⟨.code ((C3 c).getD .skip),[],(f i).st n g⟩):K0 P Δ W Q Φ c:=by
 obtain⟨uZ,k,σ⟩:=c;refine⟨?_⟩;unfold C3 at uS r;simp only at uS r;split at uS
 .rename_i bd;simp only[CS]at r;intro N β a w F;obtain⟨g,u⟩:=uJ uW ({F with keep:=λy uU=>ve y (F.keep y uU)}:Re Δ W β σ (Ψ vg) a w);have L:∀m (i:ι),μ i=m->∀β g a w,Re Δ W β ((f i).st n g) (Ψ i) a w->∀(b:Frame) (v:List Item) (cs:List Frame),
   ∃e G y,post P Q k e G y/\Arrives P (lone (b.at a (.code bd:: .inLoop bd::v)) cs w) b v cs e G y:=by
   intro m;induction m using Nat.strongRecOn with
   | _ m T=>
    intro i S β g a w F b v cs;obtain⟨e,p,o,t,h⟩:=(r i g).get (LS.wf (K i) n g) β a w F b (.inLoop bd::v) cs;cases e with
    |normal=>
     obtain⟨j,vf,uY,uR,u⟩:=t;obtain⟨B,C,D,A,s⟩:=T (μ j) (S▸uR) j rfl vf uY p o u b v cs;exact⟨B,C,D,A,.of_steps (Steps.trans h (.one step_inLoop)) s⟩
    |exit id=>exact⟨_,p,o,t,.pass (x:= .inLoop bd) rfl (λ_ _=> .inl Zs) h⟩
    |goto l=>exact⟨_,p,o,t,.pass (x:= .inLoop bd) rfl (λ_ _=> .inl Zs) h⟩
    |ret=>exact⟨_,p,o,t,.pass (x:= .inLoop bd) rfl (λ_ _=> .inl Zs) h⟩
    |panic uX=>exact⟨_,p,o,t,.pass (x:= .inLoop bd) rfl (λ_ _=> .inl Zs) h⟩
    |outgrown=>exact⟨_,p,o,t,.pass (x:= .inLoop bd) rfl (λ_ _=> .inl Zs) h⟩
  intro b v cs;obtain⟨e,G,y,t,h⟩:=L _ vg rfl β g a w u b v cs;exact⟨e,G,y,t,.of_steps (.one step_loop) h⟩
 .cases uS
def nJ(c:Ob):Bool:=
 match c.foc,c.k with
 | .out .normal,[]=>true
 |_,_=>false
theorem sR{ι:Type}{n:Nat}{f:ι->LS}{Ψ:ι->YN->Prop}{μ:ι->Nat}{i:ι}{k:List nT}(j:ι)(h:nJ c=true)(m:μ j<μ i)(t:(f j).fits n c.st)(o:∀w,Φ w->Ψ j w):
 K0 P Δ W (dQ P Δ W Q k f n Ψ μ i) Φ c:=by
 obtain⟨u,y,σ⟩:=c;refine⟨?_⟩;unfold nJ at h;split at h
 .rename_i r p;simp only at r p;subst r;subst p;intro s β a w v;have l:∃g,Re Δ W β ((f j).st n g) (λe=>Φ e) a w:=uJ t v;obtain⟨g,b⟩:=l;exact⟨j,β,g,m,{b with keep:=λe x=>o e (b.keep e x)}⟩
 .cases h
def nN(c:Ob):Bool:=
 match c.foc with
 | .out .normal=>false
 | .out _=>c.k.isEmpty
 |_=>false
def q9(k:List nT)(c:Ob):Ob:=⟨c.foc,k,c.st⟩
theorem sN{ι:Type}{n:Nat}{f:ι->LS}{Ψ:ι->YN->Prop}{μ:ι->Nat}{i:ι}{k:List nT}(g:nN c=true)(h:K0 P Δ W Q Φ (q9 k c)):K0 P Δ W (dQ P Δ W Q k f n Ψ μ i) Φ c:=by
 obtain⟨j,m,σ⟩:=c;replace h:=h.get;refine⟨?_⟩;cases j with
 | out e=>
  cases e with
  |normal=>cases g
  |_=>
   obtain rfl:m=[]:=by simpa[nN]using g
   intro b β a w l;exact h b β a w l
 |_=>cases g
end
section
variable{P:YK}{Δ:List YI}{W:YN}{Q:Exit->Act->YN->Prop}{Φ Φ':YW}{c:Ob}
def Rt(c:Ob):Bool:=match c.foc with| .ops _ _=>true|_=>false
theorem sZ{uX:Type}{L:List Nat}{val:uX->YM}{g:YE}{args:Array YM}{G Φ':uX->YN->Prop}
 (vf:∀w,Below W.heap.size W w->Φ w->YG P g args w (Ni w L val G)) (ve:Bk W L Φ) (u:∀x,Hw L Φ (G x) (Φ' x))
 (A:Rt c=true) (j:M8 P c=some (g,args)) (h:∀x,K0 P Δ W Q (Φ' x) (Lf (.v (val x)) c)):K0 P Δ W Q Φ c:=by
 obtain⟨uR,k,σ⟩:=c;replace h:=λx=>(h x).get
 refine⟨?_⟩;unfold M8 at j;split at j
 .rename_i N xs p;split at j
  .rename_i vs B;injection j with j;injection j with h1 h2;subst h1;subst h2;unfold U4 at p;split at p
   .rename_i y o b;split at p
    .rename_i vg;unfold P1 at b;simp only at b;split at b
     .rename_i m i l;cases f:m[i]? with
      |none=>rw[f]at b;cases b
      |some K=>
       rw[f]at b;simp only[AP,AM,AZ]at b;obtain⟨rfl,rfl⟩:=b;intro t β a w r;show wpOps P m (post P Q k) (i::l) a w;rw[wpOps_cons];unfold wpOp;simp only[f,Mw r,vg,if_true];refine .inl ?_;unfold Oper.wp;rw[Y8 p r,Qi B];refine Calls.mono (vf w r.bel r.phi) λe uS C=> ?_
       obtain⟨x,rfl,s,F⟩:=C;simp only[Vt,Lf,f,AL]at h;exact h x (t.put _ (by intro k D;simp[AV.ids]at D)) β _ uS ((r.mut ve s F (u x)).put K.dst (.v (val x)))
     .cases A
     .cases b
    .cases p
   .cases p
  .cases j
 .cases j
theorem sY{uX:Type}{L:List Nat}{val:uX->YM}{G Φ':uX->YN->Prop}(s:Sem Next)
 (uR:∀w,Below W.heap.size W w->Φ w->Pp P w L val G s) (uZ:Bk W L Φ) (C:∀x,Hw L Φ (G x) (Φ' x))
 (uS:Rt c=true) (f:Vy c=some s) (h:∀x,K0 P Δ W Q (Φ' x) (Lf (.v (val x)) c)):K0 P Δ W Q Φ c:=by
 obtain⟨uY,k,σ⟩:=c;replace h:=λx=>(h x).get
 refine⟨?_⟩;replace f:=(Rc f).1;unfold Ue at f;split at f
 .rename_i vg o g;split at f
  .cases f
  .cases f
  .rename_i A F;split at f
   .rename_i B;simp only[AH]at B;injection f with f;subst f;unfold P1 at g;simp only at g;split at g
    .rename_i m i l;cases j:m[i]? with
     |none=>rw[j]at g;cases g
     | some D=>
      rw[j]at g;simp only[AP,AM,AZ]at g;obtain⟨rfl,rfl⟩:=g;intro y β a w t;show wpOps P m (post P Q k) (i::l) a w;rw[wpOps_cons];unfold wpOp;simp only[j,Mw t,B.1,if_true];refine .inl ?_;have r:∀x∈D.op.operands,a.eval x=σ.rho x:=λx N=>by
       rw[t.eval,tp];· rfl
       exact AE.1 B.2 x (by simpa using N)
      obtain⟨x,K,p,u,ve⟩:=uR w t.bel t.phi;unfold Oper.wp;rw[execOp_congr D (λcs b e=>A cs b e) r,p];simp only[Vt,Lf,j,AL]at h;exact h x (y.put _ (by intro k vf;simp[AV.ids]at vf)) β _ K ((t.mut uZ u ve (C x)).put D.dst (.v (val x)))
    .cases uS
    .cases g
   .cases f
 .cases f
theorem mQ{a:Array YD}{o:YD}(h:(CP a.size).all (λi=>match a[i]? with
 |some B=>(B.dst !=o.dst)||(CP a.size).all (λk=>BH k i||(Qg a i a.size).getD k false||(Qg a k a.size).getD i false)
 |none=>true)=true):LJ a o:=by
 intro i hi r j m x v;have y:i<a.size:=(AJ.1 hi).1;have A:=AE.1 h i (DS.2 y);simp only[hi,bne_self_eq_false,CG]at A;obtain⟨w,D,t,f⟩:=mem_ready.1 x;obtain⟨s,vg,l,g⟩:=mem_ready.1 v;have p:j<a.size:=(AJ.1 l).1;have e:=AE.1 A j (DS.2 p);simp only[CZ,CJ]at e;rcases e with (e|e)|e
 .exact e
 .obtain⟨C,b,u⟩:=Rx m w _ _ e;rw[l]at b;injection b with b;subst b;exact absurd g u
 .obtain⟨C,b,u⟩:=Rx m s _ _ e;rw[t]at b;injection b with b;subst b;exact absurd f u
def dS(c:Ob):Bool:=match c.foc with
 | .any a (_+1) b=>match Region.ready .any a b with
  | [i]=>match a[i]? with
   |some o=>(CP a.size).all (λi=>match a[i]? with
    |some e=>(e.dst !=o.dst)||(CP a.size).all (λk=>BH k i||(Qg a i a.size).getD k false||(Qg a k a.size).getD i false)
    |none=>true)
   |none=>false
  |_=>false
 |_=>false
theorem tl{uX:Type}{L:List Nat}{val:uX->YM}{G Φ':uX->YN->Prop}(s:Sem Next)
 (hs:∀w,Below W.heap.size W w->Φ w->Pp P w L val G s) (hL:Bk W L Φ) (S:∀x,Hw L Φ (G x) (Φ' x))
 (uS:dS c=true) (g:Vy c=some s) (h:∀x,K0 P Δ W Q (Φ' x) (Lf (.v (val x)) c)):K0 P Δ W Q Φ c:=by
 obtain⟨foc,k,σ⟩:=c;replace h:=λx=>(h x).get
 refine⟨?_⟩;replace g:=(Rc g).1;unfold Ue at g;split at g
 .rename_i uU o m;split at g
  .cases g
  .cases g
  .rename_i N uV;split at g
   .rename_i uY;simp only[AH]at uY;injection g with g;subst g;unfold P1 at m;simp only at m;split at m
    .cases uS
    .rename_i p fuel r;split at m
     .rename_i i l;cases f:p[i]? with
      |none=>rw[f]at m;cases m
      | some y=>
       rw[f]at m;simp only[AP,AM,AZ]at m;obtain⟨rfl,rfl⟩:=m;intro F uZ K;refine⟨λh0=>(by rw[h0]at l;cases l),λj T=> ?_⟩;rw[l]at T;obtain rfl:j=i:=by simpa using T
       obtain⟨_,uT,C,B⟩:=mem_ready.1 (show j∈Region.ready .any p r by rw[l];simp);obtain rfl:y=uT:=by rw[f]at C;injection C
       have u:LJ p y:=by
        refine mQ ?_;unfold dS at uS;simp only[l,f]at uS;exact uS
       refine⟨y,f,.lone u λΔ' β a w Q' i' K' uR vg uW hK=> ?_⟩;unfold wpOp;simp only[uR,Mw vg,uY.1,if_true];refine .inl ?_;have D:∀x∈y.op.operands,a.eval x=σ.rho x:=λx vf=>by
        rw[vg.eval,tp];· rfl
        exact AE.1 uY.2 x (by simpa using vf)
       obtain⟨x,w',A,ve,hG⟩:=hs w vg.bel vg.phi;unfold Oper.wp;rw[execOp_congr y (λcs b e=>N cs b e) D,A];have vf:=h x;simp only[Vt,Lf,l,f,AL,BK]at vf;have t:(σ.put y.dst (.v (val x))).wf:=K.put _ (by intro k hk;simp[AV.ids]at hk);exact hK _ _ _ _ _ (vf F (uZ.set_ f B) t) ((vg.mut hL ve hG (S x)).put y.dst (.v (val x))) t
     .cases m
    .cases m
   .cases g
 .cases g
theorem K6.fresh{uX:Type}{w:YN}{val:uX->YM}{G:uX->YN->Prop}{e:YC}{a:YN}(h:K6 w val G e a)(L:uX->List Nat)
 (o:∀x w,G x w->∀b∈L x,∃cs ty own,w.heap[b]? =some (.cells cs ty own)):
 K6 w (λq:uX×Nat=>val q.1) (λq u=>G q.1 u/\(∀b∈L q.1,w.heap.size<=b/\b<q.2)/\q.2<=u.heap.size) e a:=by
 obtain⟨x,rfl,t,m⟩:=h;refine⟨(x,a.heap.size),rfl,t,λl r s=>⟨m l r s,λb g=> ?_,r⟩⟩;have f:b<a.heap.size:=by
  obtain⟨cs,ty,own,j⟩:=o x a (m a (AA _) λ_ _ _=>rfl) b g;exact(AJ.1 j).1
 refine⟨Nat.le_of_not_lt λA=> ?_,f⟩;have j:=m {a with heap:=a.heap.setIfInBounds b (.pending #[] 0)} Zs λk y v=>by
  rw[BQ J]
 obtain⟨cs,ty,own,p⟩:=o x _ j b g;rw[BI f]at p;cases p
theorem Lw.fresh{uX:Type}{w:YN}{val:uX->YM}{G:uX->YN->Prop}{s:Sem Next}(h:Lw P w val G s)(L:uX->List Nat)
 (o:∀x w,G x w->∀b∈L x,∃cs ty own,w.heap[b]? =some (.cells cs ty own)):
 Lw P w val (λx u=>G x u/\∀b∈L x,w.heap.size<=b) s:=by
 obtain⟨x,a,e,v,m⟩:=h;refine⟨x,a,e,v,λl t r=>⟨m l t r,λb f=> ?_⟩⟩;have j:b<a.heap.size:=by
  obtain⟨cs,ty,own,g⟩:=o x a (m a (AA _) λ_ _ _=>rfl) b f;exact(AJ.1 g).1
 refine Nat.le_of_not_lt λB=> ?_
 have g:=m {a with heap:=a.heap.setIfInBounds b (.pending #[] 0)} Zs λk A y=>by
  rw[BQ J]
 obtain⟨cs,ty,own,p⟩:=o x _ g b f;rw[BI j]at p;cases p
theorem K6.cast{uX:Type}{w:YN}{val:uX->YM}{G G':uX->YN->Prop}{e:YC}{b:YN}(h:K6 w val G e b)(k:∀x u,G x u->G' x u):K6 w val G' e b:=by
 obtain⟨x,l,j,g⟩:=h;exact⟨x,l,j,λa f m=>k _ _ (g a f m)⟩
end
section
variable{P:YK}{Δ:List YI}{W:YN}{Q:Exit->Act->YN->Prop}{Φ:YW}{c:Ob}
def aC(c:Ob):Bool:=match c.foc with| .any _ _ _=>false|_=>true
theorem s7{p:Prop}(m:∀w,Below W.heap.size W w->Φ w->p)(r:aC c=true)(h:p->K0 P Δ W Q Φ c):K0 P Δ W Q Φ c:=by
 by_cases g:p
 .exact h g
 .obtain⟨j,k,σ⟩:=c;refine⟨?_⟩;unfold Vt;cases j with
  |code x=>exact λ_ β a w b=>absurd (m w b.bel b.phi) g
  |ops o l=>exact λ_ β a w b=>absurd (m w b.bel b.phi) g
  |any o f l=>cases r
  |out e=>exact λ_ β a w b=>absurd (m w b.bel b.phi) g
end
section
variable{Δ:List YI}{W:YN}{Q:Exit->Act->YN->Prop}{Φ:YW}{c:Ob}
theorem M(h:K0 XW Δ W Q Φ (M1 XW 1000 1000 c)):K0 XW Δ W Q Φ c:=s0 O 1000 _ h
theorem H(n:Nat)(h:K0 XW Δ W Q Φ (M1 XW n 1000 c)):K0 XW Δ W Q Φ c:=s0 O 1000 _ h
theorem Z{uX:Type}{g:YE}{args:Array YM}{val:uX->YM}{G:uX->YN->Prop}(b:∀w,Below W.heap.size W w->Φ w->YG XW g args w (K6 w val G))(h:∀x:uX,K0 XW Δ W Q (λw=>Φ w/\G x w) (M1 XW 1000 1000 (Lf (.v (val x)) c)))(a:M8 XW c=some (g,args):=by kernel_rfl):K0 XW Δ W Q Φ c:=tf b a λx=>M (h x)
theorem ZD{uX:Type}{g:YE}{args:Array YM}{val:uX->YM}{G:uX->YN->Prop}(n:Nat)(b:∀w,Below W.heap.size W w->Φ w->YG XW g args w (K6 w val G))(h:∀x:uX,K0 XW Δ W Q (λw=>Φ w/\G x w) (M1 XW n 1000 (Lf (.v (val x)) c)))(a:M8 XW c=some (g,args):=by kernel_rfl):K0 XW Δ W Q Φ c:=tf b a λx=>H n (h x)
theorem ZI(b:Bool)(h:K0 XW Δ W Q Φ (M1 XW 1000 1000 (Em b c)))(a:EK c=some b:=by kernel_rfl):K0 XW Δ W Q Φ c:=sW b a (M h)
theorem X(b lit:Bool)(e:b=lit)(h:K0 XW Δ W Q Φ (M1 XW 1000 1000 (Em lit c)))(a:EK c=some b:=by kernel_rfl):K0 XW Δ W Q Φ c:=sQ b lit a e (M h)
theorem ZT(t:Nat)(v a:YM)(e:v=a)(h:K0 XW Δ W Q Φ (M1 XW 1000 1000 (Ma t a c)))(b:c.st.tmps[t]? =some (.v v):=by kernel_rfl):K0 XW Δ W Q Φ c:=sM t v a b e (M h)
theorem ZA(s:Sem Next)(v:YM)(b:∀w,Below W.heap.size W w->Φ w->s.run XW w= .ok (.value v) w)(h:K0 XW Δ W Q Φ (M1 XW 1000 1000 (Lf (.v v) c)))(a:Vy c=some s:=by kernel_rfl):K0 XW Δ W Q Φ c:=sV s v a b (M h)
theorem ZB(i:Nat)(s:Sem Next)(v:YM)(b:∀w,Below W.heap.size W w->Φ w->s.run XW w= .ok (.value v) w)(h:K0 XW Δ W Q Φ (M1 XW 1000 1000 (Bg i v c)))(a:Go.Proofs.YtnmokookhcgklaaGreatDoor.askAt i c=some s:=by kernel_rfl):K0 XW Δ W Q Φ c:=sP i s v a b (M h)
theorem ZV{e:Func}{uY:YC->YN->Prop}(v:YM)(f:∀w,Below W.heap.size W w->(∀a,w.heap.size<=a.heap.size->(∀b,W.heap.size<=b->b<w.heap.size->a.heap[b]? =w.heap[b]?)->Φ a)->uY (.returned v) w)(h:VF XW e c=some v:=by kernel_rfl):K0 XW [] W (bodyPost XW e uY) Φ c:=ux h f
theorem ZW{a:Func}(v:YM)(h:VF XW a c=some v:=by kernel_rfl):K0 XW [] W (bodyPost XW a (K6 W (λ_:Unit=>v) λ_ _=>True)) Φ c:=ux h λe b _=>⟨(),rfl,b,λ_ _ _=>trivial⟩
theorem ZX{a:Func}{b:YM}(v:YM)(e:Ending.returned v= .returned b)(h:VF XW a c=some v:=by kernel_rfl):K0 XW [] W (bodyPost XW a (K6 W (λ_:Unit=>b) λ_ _=>True)) Φ c:=ux h λg f _=>⟨(),e,f,λ_ _ _=>trivial⟩
end
abbrev Zv(f:YE)(a:Array YM)(w:YN)(v:YM):Prop:=YG XW f a w (K6 w (λ_:Unit=>v) λ_ _=>True)
def val:List Nat->Nat
 | []=>0
 |d::l=>d+4294967296*val l
def dg(l:List Nat)(i:Nat):Nat:=l.getD i 0
def Ny(l:List Nat):Prop:=∀i,dg l i<4294967296
def pw(k:Nat):Nat:=4294967296 ^ k
def lo(l:List Nat)(k:Nat):Nat:=val (l.take k)
def Na(l:List Nat):Prop:=Ny l/\(l=[]\/dg l (l.length-1)≠0)
theorem It:pw 0=1:=rfl
theorem Mr(k:Nat):pw (k+1)=pw k*4294967296:=BP ..
theorem Sl(a b:Nat):pw (a+b)=pw a*pw b:=BV ..
theorem Z9(k:Nat):0<pw k:=Nat.pow_pos J
theorem G3{a b:Nat}(h:a<=b):pw a<=pw b:=AX J h
theorem dr{a b:Nat}(h:a<b):pw a<pw b:=Nat.pow_lt_pow_right J h
theorem Cc(i:Nat):dg [] i=0:=by simp[dg]
theorem R4(d:Nat)(l:List Nat):dg (d::l) 0=d:=by simp[dg]
theorem R5(d:Nat)(l:List Nat)(i:Nat):dg (d::l) (i+1)=dg l i:=by simp[dg]
theorem Vx{l:List Nat}{i:Nat}(h:l.length<=i):dg l i=0:=by
 simp[dg,DE h]
theorem NP{l:List Nat}{i:Nat}(h:i<l.length):dg l i=l[i]:=by
 simp[dg,h]
theorem Rl{l:List Nat}{k i:Nat}(h:i<k):dg (l.take k) i=dg l i:=by
 simp[dg,h]
theorem KR{l:List Nat}{k i:Nat}(h:k<=i):dg (l.take k) i=0:=
 Vx Zp
theorem Rj{l:List Nat}{k i d:Nat}:dg (l.set k d) i=if k=i/\k<l.length then d else dg l i:=by
 unfold dg
 by_cases h:k=i
 .subst h
  by_cases a:k<l.length<;>simp[a]
 .simp[h]
theorem LB{a b:List Nat}{i:Nat}(h:i<a.length):dg (a++b) i=dg a i:=by
 simp[dg,List.getElem?_append,h]
theorem Cu{a b:List Nat}{i:Nat}(h:a.length<=i):dg (a++b) i=dg b (i-a.length):=by
 simp[dg,List.getElem?_append,show¬i<a.length by omega]
theorem Sa{l:List Nat}{k i:Nat}:dg (l.drop k) i=dg l (k+i):=by
 simp[dg,List.getElem?_drop]
theorem Ua{n i:Nat}:dg (BM n 0) i=0:=by
 by_cases h:i<n<;>simp[dg,h]
theorem Ny.nil:Ny []:=λi=>by rw[Cc];omega
theorem uQ{l:List Nat}(h:∀d∈l,d<4294967296):Ny l:=by
 intro i
 by_cases hi:i<l.length
 .rw[NP hi];exact h _ (List.getElem_mem hi)
 .rw[Vx J];omega
theorem Ny.cons{d:Nat}{l:List Nat}(a:d<4294967296)(h:Ny l):Ny (d::l)
 |0=>by rw[R4];exact a
 |i+1=>by rw[R5];exact h i
theorem Ny.tail{d:Nat}{l:List Nat}(h:Ny (d::l)):Ny l:=λi=>by
 have:=h (i+1);rwa [R5]at this
theorem Ny.head{d:Nat}{l:List Nat}(h:Ny (d::l)):d<4294967296:=by
 have:=h 0;rwa [R4]at this
theorem Ny.take{l:List Nat}(h:Ny l)(k:Nat):Ny (l.take k):=λi=>by
 by_cases hi:i<k
 .rw[Rl hi];exact h i
 .rw[KR J];omega
theorem Ny.drop{l:List Nat}(h:Ny l)(k:Nat):Ny (l.drop k):=λi=>by
 rw[Sa];exact h _
theorem Ny.set{l:List Nat}(h:Ny l)(k:Nat){d:Nat}(a:d<4294967296):Ny (l.set k d):=λi=>by
 rw[Rj];split
 .exact a
 .exact h i
theorem Ny.append{a b:List Nat}(c:Ny a)(e:Ny b):Ny (a++b):=λi=>by
 by_cases hi:i<a.length
 .rw[LB hi];exact c i
 .rw[Cu J];exact e _
theorem Ny.replicate(n:Nat):Ny (BM n 0):=λi=>by rw[Ua];omega
theorem Ny.one{d:Nat}(h:d<4294967296):Ny [d]:=Ny.cons h Ny.nil
theorem Tv:val []=0:=rfl
theorem Vk(d:Nat)(l:List Nat):val (d::l)=d+4294967296*val l:=rfl
theorem GN(d:Nat):val [d]=d:=by simp[val]
theorem Gk(a b:List Nat):val (a++b)=val a+pw a.length*val b:=by
 induction a with
 |nil=>simp[val,pw]
 |cons d l c=>simp only[DQ,Vk,c,CT,Mr];grind
theorem O5(l:List Nat):lo l 0=0:=by simp[lo,val]
theorem Lq(l:List Nat):∀k,lo l (k+1)=lo l k+dg l k*pw k:=by
 induction l with
 |nil=>intro k;simp[lo,val,Cc]
 | cons d l a=>
  intro k;cases k with
  |zero=>simp[lo,val,R4,pw]
  |succ k=>
   have h:=a k;simp only[lo,List.take_succ_cons,Vk,R5,Mr]at h ⊢
   grind
theorem Mz{l:List Nat}{k:Nat}(h:l.length<=k):lo l k=val l:=by
 rw[lo,List.take_of_length_le h]
theorem J4{l:List Nat}(h:Ny l):∀k,lo l k<pw k:=by
 intro k;induction k with
 |zero=>rw[O5,It];omega
 |succ k a=>
  rw[Lq,Mr];have b:=h k;have:dg l k*pw k<=4294967295*pw k:=AB _ J;omega
theorem Jz{l:List Nat}(h:Ny l):val l<pw l.length:=by
 rw[<-Mz (AA _)];exact J4 h _
theorem Mj{l:List Nat}{k:Nat}(h:Ny l)(a:l.length<=k):val l<pw k:=
 AW (Jz h) (G3 a)
theorem mW(l:List Nat){a b:Nat}(h:a<=b):lo l a<=lo l b:=by
 induction b with
 | zero => have:a=0:=J
           subst this;exact AA _
 | succ b c=>
  by_cases e:a=b+1
  .subst e;exact AA _
  .have:=c J;rw[Lq];omega
theorem qO(l:List Nat)(k:Nat):lo l k<=val l:=by
 rw[<-Mz (l:=l) (Nat.le_max_left l.length k)];exact mW l (Nat.le_max_right _ _)
theorem J5(l:List Nat)(k:Nat):val l=lo l k+pw k*val (l.drop k):=by
 by_cases h:k<=l.length
 .have:=Gk (l.take k) (l.drop k);rw[List.take_append_drop,BG,DA h]at this;exact this
 .rw[Mz J,DC J,val];omega
theorem W0{a b:List Nat}{k:Nat}(h:∀j,k<=j->dg a j=dg b j):val a+lo b k=val b+lo a k:=by
 have c:∀n k,(∀j,k<=j->dg a j=dg b j)->max a.length b.length<=k+n->val a+lo b k=val b+lo a k:=by
  intro n;induction n with
  |zero=>
   intro k _ f;rw[Mz (l:=a) J,Mz (l:=b) J];omega
  |succ n g=>
   intro k e f;have m:=g (k+1) (λj o=>e j J) J;rw[Lq,Lq,e k (AA _)]at m;omega
 exact c _ k h (Nat.le_add_left _ _)
theorem I6{a b:List Nat}(h:∀j,dg a j=dg b j):val a=val b:=by
 have:=W0 (a:=a) (b:=b) (k:=0) (λj _=>h j);rw[O5,O5]at this;omega
theorem QX{a b:List Nat}{k:Nat}(h:∀j,j<k->dg a j=dg b j):lo a k=lo b k:=by
 induction k with
 |zero=>rw[O5,O5]
 |succ k c=>rw[Lq,Lq,c (λj e=>h j J),h k J]
theorem Er{a b:List Nat}{k:Nat}(e:Ny a)(h:∀j,k<j->dg a j=dg b j)(c:dg a k<dg b k):val a<val b:=by
 have g:=W0 (a:=a) (b:=b) (k:=k+1) (λj l=>h j J);rw[Lq,Lq]at g;have m:=J4 e k;have f:(dg a k+1)*pw k<=dg b k*pw k:=AB _ c;rw[AQ]at f;omega
theorem d8{l:List Nat}{k i d:Nat}(h:k<=i):lo (l.set i d) k=lo l k:=
 QX λj a=>by rw[Rj,V J]
theorem Qv{l:List Nat}{i d:Nat}(h:i<l.length):lo (l.set i d) (i+1)=lo l i+d*pw i:=by
 rw[Lq,d8 (AA _),Rj,YS ⟨rfl,h⟩]
theorem C4(n k:Nat):lo (BM n 0) k=0:=by
 induction k with
 |zero=>exact O5 _
 |succ k a=>rw[Lq,a,Ua];omega
theorem Z6(n:Nat):val (BM n 0)=0:=by
 rw[<-Mz (AA _)];exact C4 _ _
theorem bA{l:List Nat}{k:Nat}(h:∀j,k<=j->dg l j=0):val l=lo l k:=by
 have:=W0 (a:=l) (b:=[]) (k:=k) (λj c=>by rw[h j c,Cc]);have e:lo [] k=0:=by simp[lo,val]
 rw[e,Tv]at this;omega
def A_(l:List Nat):Nat->Nat
 |0=>0
 |n+1=>if dg l n=0 then A_ l n else n+1
def trim(l:List Nat):List Nat:=l.take (A_ l l.length)
theorem On(l:List Nat):∀n,A_ l n<=n
 |0=>AA _
 |n+1=>by
  unfold A_;split
  .exact Nat.le_succ_of_le (On l n)
  .exact AA _
theorem PW(l:List Nat):∀n j,A_ l n<=j->j<n->dg l j=0
 |0,_,_,h=>absurd h J
 | n+1,j,h,b=>by
  unfold A_ at h;split at h
  .rename_i a
   by_cases e:j=n
   .subst e;exact a
   .exact PW l n j h J
  .omega
theorem Ty(l:List Nat):∀n,A_ l n=0\/dg l (A_ l n-1)≠0
 |0=>Or.inl rfl
 |n+1=>by
  unfold A_;split
  .exact Ty l n
  .rename_i h;right;simpa using h
theorem Os{l:List Nat}{n:Nat}(h:dg l n=0):A_ l (n+1)=A_ l n:=by
 rw[A_,YS h]
theorem OP{l:List Nat}{n:Nat}(h:dg l n≠0):A_ l (n+1)=n+1:=by
 rw[A_,V h]
theorem FP(l:List Nat):(trim l).length=A_ l l.length:=by
 rw[trim,BG];exact DA (On _ _)
theorem Og(l:List Nat):(trim l).length<=l.length:=by
 rw[FP];exact On _ _
theorem QH(l:List Nat)(i:Nat):dg (trim l) i=dg l i:=by
 by_cases h:i<A_ l l.length
 .rw[trim,Rl h]
 .rw[trim,KR J]
  by_cases a:i<l.length
  .exact(PW l _ i J a).symm
  .exact(Vx J).symm
theorem Ku(l:List Nat):val (trim l)=val l:=I6 (QH l)
theorem Ny.trim{l:List Nat}(h:Ny l):Ny (trim l):=h.take _
theorem L8{l:List Nat}(h:Ny l):Na (trim l):=by
 refine⟨h.trim,?_⟩;rcases Ty l l.length with a|a
 .left;rw[trim,a];rfl
 .right;rw[FP,QH];exact a
theorem Na.nil:Na []:=⟨Ny.nil,Or.inl rfl⟩
theorem Na.dig{l:List Nat}(h:Na l):Ny l:=h.1
theorem Na.pos{l:List Nat}(h:Na l)(b:l≠[]):pw (l.length-1)<=val l:=by
 have c:dg l (l.length-1)≠0:=h.2.resolve_left b;have a:0<l.length:=DK.2 b;have e:l.length=(l.length-1)+1:=J
 have f:val l=lo l (l.length-1)+dg l (l.length-1)*pw (l.length-1):=by
  rw[<-Lq,<-e,Mz (AA _)]
 have g:1*pw (l.length-1)<=dg l (l.length-1)*pw (l.length-1):=AB _ J;omega
theorem Na.zero{l:List Nat}(h:Na l)(a:val l=0):l=[]:=by
 rcases l with _|⟨d,l⟩
 .rfl
 .have:=h.pos Zs;have:=Z9 ((d::l).length-1);omega
theorem Na.length_lt{a b:List Nat}(f:Na a)(g:Na b)(h:a.length<b.length):val a<val b:=by
 have k:=Jz f.1;have c:b≠[]:=by intro e;subst e;simp at h
 have l:=g.pos c;have j:pw a.length<=pw (b.length-1):=G3 J;omega
theorem St{a b:List Nat}(f:Ny a)(g:Ny b)(h:val a=val b):∀i,dg a i=dg b i:=by
 induction a generalizing b with
 | nil=>
  intro i;induction b generalizing i with
  |nil=>rfl
  | cons d l e=>
   rw[Tv,Vk]at h;cases i with
   |zero=>rw[Cc,R4];omega
   |succ i=>
    have:=e g.tail (by rw[Tv];omega) i;rw[R5,<-this,Cc,Cc]
 | cons c k e=>
  intro i;rcases b with _|⟨d,l⟩
  .rw[Tv,Vk]at h;cases i with
   |zero=>rw[Cc,R4];omega
   |succ i=>
    have:=e f.tail Ny.nil (by rw[Tv];omega) i;rw[R5,this,Cc,Cc]
  .have j:=f.head;have m:=g.head;rw[Vk,Vk]at h;cases i with
   |zero=>rw[R4,R4];omega
   |succ i=>rw[R5,R5];exact e f.tail g.tail J i
theorem pm{a b:List Nat}(e:a.length=b.length)(h:∀i,i<a.length->dg a i=dg b i):a=b:=by
 apply List.ext_getElem e;intro i c f;have:=h i c;rwa [NP c,NP f]at this
theorem Na.unique{a b:List Nat}(e:Na a)(f:Na b)(h:val a=val b):a=b:=by
 have g:a.length=b.length:=by
  rcases Nat.lt_trichotomy a.length b.length with c|c|c
  .have:=e.length_lt f c;omega
  .exact c
  .have:=f.length_lt e c;omega
 exact pm g λi _=>St e.1 f.1 h i
theorem Na.trim{l:List Nat}(h:Na l):trim l=l:=(L8 h.1).unique h (Ku l)
theorem Na.length_le{l:List Nat}(h:Na l){k:Nat}(f:val l<pw k):l.length<=k:=by
 rcases BC k l.length with a|a
 .have b:l≠[]:=by intro e;subst e;simp at a
  have g:=h.pos b;have c:pw k<=pw (l.length-1):=G3 J;omega
 .exact a
theorem ip{o a b:List Nat}{k y:Nat}(c:k<o.length)(h:lo o k+y*pw k=lo a k+lo b k):
 lo (o.set k ((y+(dg a k+dg b k))%4294967296)) (k+1)+(y+(dg a k+dg b k))/4294967296*pw (k+1)=lo a (k+1)+lo b (k+1):=by
 rw[Qv c,Lq,Lq,Mr];have e:=BE (y+(dg a k+dg b k)) 4294967296;generalize (y+(dg a k+dg b k))%4294967296=r at e ⊢;generalize (y+(dg a k+dg b k))/4294967296=q at e ⊢
 grind
theorem mX{o a b:List Nat}{N y:Nat}(k:o.length=N+1)(c:Ny a)(f:Ny b)(g:a.length<=N)(j:b.length<=N)(h:lo o (N+1)+y*pw (N+1)=lo a (N+1)+lo b (N+1)):val o=val a+val b:=by
 rw[Mz J,Mz J,Mz J]at h;have l:=Mj c g;have p:=Mj f j;rw[Mr]at h;have m:=Z9 N;rcases BD y with e|e
 .subst e;omega
 .have:1*(pw N*4294967296)<=y*(pw N*4294967296):=AB _ e;omega
theorem KJ{o a b:List Nat}{k y d c:Nat}(f:k<o.length)(h:lo o k+lo b k=lo a k+y*pw k)(g:d+dg b k+y=dg a k+c*4294967296):
 lo (o.set k d) (k+1)+lo b (k+1)=lo a (k+1)+c*pw (k+1):=by
 rw[Qv f,Lq,Lq,Mr];have e:(d+dg b k+y)*pw k=(dg a k+c*4294967296)*pw k:=by rw[g]
 grind
theorem mf{o a b:List Nat}{y:Nat}(f:o.length=(trim a).length)(k:Ny o)(c:Ny a)(p:val b<=val a)(h:lo o (trim a).length+lo b (trim a).length=lo a (trim a).length+y*pw (trim a).length):val o=val a-val b:=by
 have g:lo a (trim a).length=val a:=by rw[<-Ku a,<-QX (a:=trim a) (λj _=>QH a j),Mz (AA _)]
 have s:val a<pw (trim a).length:=by rw[<-Ku a];exact Jz c.trim
 have r:=J5 b (trim a).length;have m:val (b.drop (trim a).length)=0:=by
  rcases BD (val (b.drop (trim a).length))with e|e
  .exact e
  .have:pw (trim a).length*1<=pw (trim a).length*val (b.drop (trim a).length):=DL _ e;omega
 rw[m]at r;rw[g,Mz (l:=o) J]at h;have t:=Mj k (DZ f);rcases BD y with e|e
 .subst e;omega
 .have:1*pw (trim a).length<=y*pw (trim a).length:=AB _ e;omega
theorem Am{x y:Nat}(b:x<4294967296)(a:y<4294967296):x*y<=18446744065119617025:=
 DF (show x<=4294967295 by omega) (show y<=4294967295 by omega)
theorem Wt{x y:Nat}(b:x<4294967296)(a:y<4294967296):(x:Int)*(y:Int)<=18446744065119617025/\0<=(x:Int)*(y:Int):=by
 have h:=Am b a;have e:((x*y:Nat):Int)=(x:Int)*(y:Int):=BS ..;omega
theorem VL{o a b:List Nat}{i k x y s:Nat}(c:i+k<o.length)(f:dg o (i+k)=dg a (i+k))
 (h:lo o (i+k)+y*pw (i+k)=lo a (i+k)+x*lo b k*pw i) (g:s=y+(x*dg b k+dg o (i+k))):
 lo (o.set (i+k) (s%4294967296)) (i+(k+1))+s/4294967296*pw (i+(k+1))=lo a (i+(k+1))+x*lo b (k+1)*pw i:=by
 rw[show i+(k+1)=i+k+1 by omega,Qv c,Lq,Lq,Mr,<-f];have e:=BE s 4294967296;generalize s%4294967296=r at e ⊢;generalize s/4294967296=q at e ⊢;rw[Sl]at h ⊢
 grind
theorem dy{o f a b:List Nat}{i q x y:Nat}(c:i+q<o.length)(p:dg a i=x)(m:val b=lo b q)
 (l:val f=lo a i*val b) (e:∀j,i+q<=j->dg f j=0) (g:∀j,i+q<=j->dg o j=dg f j)
 (h:lo o (i+q)+y*pw (i+q)=lo f (i+q)+x*lo b q*pw i):
 val (o.set (i+q) y)=lo a (i+1)*val b/\∀j,i+1+q<=j->dg (o.set (i+q) y) j=0:=by
 have k:∀j,i+1+q<=j->dg (o.set (i+q) y) j=0:=by
  intro j r;rw[Rj,V J,g j J,e j J]
 refine⟨?_,k⟩;rw[bA k,show i+1+q=i+q+1 by omega,Qv c,h,<-bA e,l,Lq,p,m]
 grind
theorem Vd{l:List Nat}{k:Nat}(h:k<l.length):val (l.drop k)=dg l k+4294967296*val (l.drop (k+1)):=by
 rw[List.drop_eq_getElem_cons h,Vk,NP h]
theorem Qz{l:List Nat}{k:Nat}(h:l.length<=k):val (l.drop k)=0:=by
 rw[DC h];rfl
theorem JE{a o:List Nat}{k d r q l:Nat}(m:k<a.length)(b:k<o.length)(h:val (o.drop (k+1))*d+r=val (a.drop (k+1)))
 (c:q=(r*4294967296+dg a k)/d) (g:l=(r*4294967296+dg a k)%d):
 val ((o.set k q).drop k)*d+l=val (a.drop k):=by
 have f:val ((o.set k q).drop (k+1))=val (o.drop (k+1)):=I6 λj=>by
  rw[Sa,Sa,Rj,V J]
 rw[Vd m,Vd (by rw[AK];exact b),f,Rj,YS ⟨rfl,b⟩];have e:=BE (r*4294967296+dg a k) d;rw[<-c,<-g]at e;clear c g f
 grind
theorem f9{r x d:Nat}(a:r<d)(b:x<4294967296):(r*4294967296+x)/d<4294967296:=by
 rw[BX J];have:(r+1)*4294967296<=d*4294967296:=AB _ a;have:d*4294967296=4294967296*d:=CE ..;omega
theorem Ca{a q d r:Nat}(h:q*d+r=a)(b:r<d):q=a/d/\r=a%d:=by
 subst h;constructor
 .rw[CF,Nat.add_mul_div_right _ _ J,CU b];omega
 .rw[CF,Nat.add_mul_mod_self_right,Nat.mod_eq_of_lt b]
theorem V0(k:Nat):pw k=2 ^ (32*k):=by
 rw[pw,Nat.pow_mul]
theorem T5(k:Nat):0<2 ^ k:=Nat.pow_pos J
theorem Ia{k:Nat}(h:k<32):2 ^ k<=2147483648:=by
 have:2 ^ k<=2 ^ 31:=AX J J;simpa using this
theorem Zw{k:Nat}(h:k<=32):2 ^ k*2 ^ (32-k)=4294967296:=by
 rw[<-BV,show k+(32-k)=32 by omega]
theorem IF{x c e:Nat}(a:c*e=4294967296)(j:x<4294967296):x*c/4294967296<c/\x*c%4294967296%c=0/\x*c%4294967296+c<=4294967296:=by
 have f:0<c:=Nat.pos_of_ne_zero λh=>by subst h;omega
 have b:0<e:=Nat.pos_of_ne_zero λh=>by subst h;omega
 refine⟨?_,?_,?_⟩
 .rw[BX J,CE];exact Nat.mul_lt_mul_of_pos_left j f
 .rw[<-a,Nat.mod_mul_right_mod,Nat.mul_mod_left]
 .have g:x*c%4294967296=x%e*c:=by
   rw[<-a,CE c e,Nat.mul_mod_mul_right]
  rw[g];have k:(x%e+1)*c<=e*c:=AB _ (BT _ b);rw[AQ,CE e c,a]at k;omega
theorem mq{a o:List Nat}{k h c x:Nat}(b:k+h+1<o.length)
 (f:lo o (k+h+1)=lo a k*c*pw h) (g:x=dg a k):
 lo ((o.set (k+h) (dg o (k+h)+x*c%4294967296)).set (k+h+1) (x*c/4294967296)) (k+1+h+1)=lo a (k+1)*c*pw h:=by
 rw[show k+1+h+1=(k+h+1)+1 by omega,Qv (by rw[AK];omega),show k+h+1=(k+h)+1 by omega,Qv J,Lq a,<-g];rw[Lq]at f;have e:=BE (x*c) 4294967296;generalize x*c%4294967296=r at e ⊢;generalize x*c/4294967296=q at e ⊢;rw[Mr];rw[Sl]at f ⊢;have j:(r+q*4294967296)*(pw k*pw h)=x*c*(pw k*pw h):=by rw[<-e];grind
 grind
theorem bX{x y c e:Nat}(b:c*e=4294967296)(l:x<4294967296)(m:y<4294967296):
 (x+y*4294967296)/c=x/c+y*e/\(x+y*4294967296)/c%4294967296+y/c*4294967296=x/c+y*e:=by
 have a:0<c:=Nat.pos_of_ne_zero λh=>by subst h;omega
 have g:0<e:=Nat.pos_of_ne_zero λh=>by subst h;omega
 have f:(x+y*4294967296)/c=x/c+y*e:=by
  rw[<-b,show y*(c*e)=y*e*c by grind,Nat.add_mul_div_right _ _ a]
 refine⟨f,?_⟩;rw[f];have r:x/c<e:=by rw[BX a,CE,b];exact l
 have o:=BE y c;have p:y%c*e+e<=4294967296:=by
  have:(y%c+1)*e<=c*e:=AB _ (BT _ a);rw[AQ,b]at this;omega
 have k:y*e=y/c*4294967296+y%c*e:=by rw[<-b];grind
 rw[k];have j:(x/c+(y/c*4294967296+y%c*e))%4294967296=x/c+y%c*e:=by
  rw[show x/c+(y/c*4294967296+y%c*e)=(x/c+y%c*e)+y/c*4294967296 by omega,Nat.add_mul_mod_self_right,Nat.mod_eq_of_lt J]
 rw[j];omega
theorem PQ{b o : List Nat}{k c e d:Nat}(f:c*e=4294967296)(j:Ny b)(l:k<o.length)
 (m:lo o k+pw k*(dg b k/c)=lo b (k+1)/c) (p:d=(dg b k+dg b (k+1)*4294967296)/c%4294967296):
 lo (o.set k d) (k+1)+pw (k+1)*(dg b (k+1)/c)=lo b (k+1+1)/c:=by
 have a:0<c:=Nat.pos_of_ne_zero λh=>by subst h;omega
 have g:=(bX f (j k) (j (k+1))).2;rw[<-p]at g;rw[Qv l,Lq b (k+1),Mr];have r:(lo b (k+1)+dg b (k+1)*(pw k*4294967296))/c=lo b (k+1)/c+dg b (k+1)*e*pw k:=by
  rw[<-f,show dg b (k+1)*(pw k*(c*e))=(dg b (k+1)*e*pw k)*c by grind,Nat.add_mul_div_right _ _ a]
 rw[r,<-m];have s:(d+dg b (k+1)/c*4294967296)*pw k=(dg b k/c+dg b (k+1)*e)*pw k:=by rw[g]
 grind
theorem UK{b o:List Nat}{c:Nat}(a:o.length=b.length)(e:lo o b.length+pw b.length*(dg b b.length/c)=lo b (b.length+1)/c):val o=val b/c:=by
 rw[Vx (AA _),Nat.zero_div,Mz J,Mz J]at e;simpa using e
theorem I7(a:List Nat)(k:Nat)(h:Ny a):val (a.drop k)=val a/pw k:=by
 have b:=J5 a k;have c:=J4 h k;rw[b,Nat.add_mul_div_left _ _ (Z9 k),CU c];omega
theorem FL{v t:Nat}:v*2 ^ t=v*2 ^ (t%32)*pw (t/32):=by
 rw[V0,Nat.mul_assoc,<-BV];congr 2;omega
theorem NV{v t:Nat}:v/2 ^ t=v/pw (t/32)/2 ^ (t%32):=by
 rw[Nat.div_div_eq_div_mul,V0,<-BV];congr 2;omega
theorem bp{uW uU a v P b rv:Nat}(l:uW=a*P+b)(c:uU=v*P+rv)(h:b<P)(g:0<v):uW<(a/v+1)*uU:=by
 have f:a+1<=(a/v+1)*v:=by
  have e:=Nat.div_add_mod' a v;have:=BT a g;rw[AQ];omega
 have j:(a+1)*P<=(a/v+1)*v*P:=AB _ f;have k:(a/v+1)*uU=(a/v+1)*v*P+(a/v+1)*rv:=by rw[c];grind
 rw[AQ]at j;omega
theorem d_{uW uU q:Nat}(h:uW<(q+1)*uU)(a:uW<4294967296*uU):uW<(min q 4294967295+1)*uU:=by
 by_cases b:q<=4294967295
 .rw[DA b];exact h
 .rw[Nat.min_eq_right J];exact a
theorem fB{uW uU d:Nat}(b:d*uU<=uW)(c:uW<(d+1)*uU):d=uW/uU/\uW-d*uU=uW%uU:=by
 have a:uW/uU=d:=Nat.div_eq_of_lt_le b c;refine⟨a.symm,?_⟩;have e:=Nat.div_add_mod' uW uU;rw[a]at e;omega
theorem Jm(a:YB)(n:Nat):(a.add n).block=a.block:=by unfold Addr.add;split<;>rfl
def Pm(w:YN)(B a:Nat)(A:YY)(n:Nat)(xs:List YM):Prop:=
 xs.length=n*a/\(0<n->∃ad,A=some ad/\ad.block<B/\∀j u,xs[j]? =some u->w.cell? (ad.add j)=some u)
section
variable{w w':YN}{B B' size n:Nat}{A:YY}{xs:List YM}
theorem uH:Pm w B size A 0 []:=⟨by simp,λh=>absurd h J⟩
theorem Pm.at_{k:Nat}(h:Pm w B 1 A n xs)(f:k<n):∃ad u,A=some ad/\ad.block<B/\xs[k]? =some u/\w.cell? (ad.add k)=some u:=by
 obtain⟨ad,e,c,b⟩:=h.2 J;have a:k<xs.length:=by have:=h.1;omega
 exact⟨ad,xs[k],e,c,CV a,b k _ (CV a)⟩
theorem Pm.keep(h:Pm w B size A n xs)(b:∀p:YB,p.block<B->w'.cell? p=w.cell? p):Pm w' B size A n xs:=
 ⟨h.1,λg=>by
  obtain⟨ad,e,a,c⟩:=h.2 g;exact⟨ad,e,a,λj u f=>(b _ (by rw[Jm];exact a)).trans (c j u f)⟩⟩
theorem Pm.more(h:Pm w B size A n xs)(c:B<=B'):Pm w B' size A n xs:=
 ⟨h.1,λb=>by
  obtain⟨ad,e,f,a⟩:=h.2 b;exact⟨ad,e,by omega,a⟩⟩
theorem Pm.below(h:Pm w B size A n xs)(b:Below B w w'):Pm w' B size A n xs:=h.keep λ_ a=>b.cell a
theorem Pm.alloc(h:Pm w B size A n xs)(a:B<=w.heap.size)(o:Obj):Pm (w.alloc o) B size A n xs:=h.keep λp b=>World.cell?_alloc_lt w o p J
theorem uB{base:Nat}{e:YH}{c:Nat}(h:w.ownsRow base e size (.slice A n c) n xs):Pm w w.heap.size size A n xs:=by
 refine⟨h.1,λj=> ?_⟩;obtain⟨g,cap,f,_,a⟩:=h.form j;have b:A=some ⟨g,0,none⟩:=by injection f
 subst b;exact⟨_,rfl,a,h.cells (g:=g) rfl⟩
end
def Ck(w:YN)(g:Nat)(t:YH)(cs:Array YM):Prop:=w.heap[g]? =some (.cells cs t (0,0))
section
variable{w w':YN}{g:Nat}{t:YH}{cs:Array YM}
theorem Ck.lt(h:Ck w g t cs):g<w.heap.size:=by
 rcases BC g w.heap.size with b|a
 .exact b
 .unfold Ck at h;rw[BU a]at h;cases h
theorem Ck.cell(h:Ck w g t cs)(i:Nat):w.cell? ⟨g,i,none⟩=cs[i]? :=cell_of_row w g i cs t (0,0) h
theorem Ck.frozen(h:Ck w g t cs)(i:Nat):w.frozen? ⟨g,i,none⟩=false:=by
 unfold Ck at h;simp[World.frozen?,h]
theorem Ck.new(w:YN)(t:YH)(cs:Array YM):Ck (w.alloc (.cells cs t)) w.heap.size t cs:=heap_alloc_new w _
theorem Ck.alloc(h:Ck w g t cs)(o:Obj):Ck (w.alloc o) g t cs:=(Below.heap_alloc w o g h.lt).trans h
theorem Ck.set_(h:Ck w g t cs)(i:Nat)(u:YM):Ck (w.setCell ⟨g,i,none⟩ u) g t (cs.setIfInBounds i u):=by
 unfold Ck at h ⊢;simp[World.setCell,CH,h]
theorem Ck.far(h:Ck w g t cs){p:YB}(a:g≠p.block)(u:YM):Ck (w.setCell p u) g t cs:=(Below.heap_setCell w p u g a).trans h
theorem Ck.below{B:Nat}(h:Ck w g t cs)(b:Below B w w')(a:g<B):Ck w' g t cs:=(b.block g a).trans h
theorem Ck.grown{row:Option Nat}(h:Ck w g t cs)(a:w.grownBy w' row)(b:some g≠row):Ck w' g t cs:=(a.block g h.lt b).trans h
end
section
variable{P:YK}(w:YN)
theorem Ip(base:Nat)(t ty e:YH)(i:TypeInfo)(a:Nat)(h:P.underlying t=some (.slice e))(hi:P.info? e=some i)
 (v:YM) (n:Nat) (xs:List YM) (b:w.ownsRow base e a v n xs) (c:Nat):(Builtin.append_ #[t,t] ty #[v,.slice none 0 c]).run P w= .ok v w:=by
 rcases b.2 with ⟨rfl,rfl⟩|⟨g,cap,j,rfl,_,_,f,_⟩
 .simp[Builtin.append_,run_underlying h,sizeOf,typeInfo,hi,Builtin.lenOf,Builtin.firstCells]
 .simp[Builtin.append_,run_underlying h,sizeOf,typeInfo,hi,Builtin.lenOf,Builtin.firstCells,f,storeCells]
theorem Dh(base:Nat)(t ty e:YH)(i:TypeInfo)(z:YM)(size bytes:Nat)(uS:P.underlying t=some (.slice e))(hi:P.info? e=some i)(vf:i.zero=some z)
 (k:i.size=size) (F:i.bytes=bytes) (C:z.cells.size=size) (vg:0<size)
 (v:YM) (n:Nat) (xs:List YM) (b:w.ownsRow base e size v n xs)
 (B:Nat) (A:YY) (m c:Nat) (a:List YM) (s:Pm w B size A m a) (Q:∀u∈a,u.oneCell'=true)
 (D:n+m<=maxLen) (g:(n+m)*bytes<=140737488355328) (l:base<=w.heap.size):
 ∃p x,(Builtin.append_ #[t,t] ty #[v,.slice A m c]).run P w= .ok p x/\x.ownsRow base e size p (n+m) (xs++a)/\w.grownBy x v.ownBlock/\
  (p.ownBlock=v.ownBlock\/p.ownBlock=some w.heap.size):=by
 rcases A with _|ad
 .have uR:m=0:=by
   rcases BD m with o|o
   .exact o
   .obtain⟨ad,h,_⟩:=s.2 o;cases h
  subst uR;have y:a=[]:=List.eq_nil_of_length_eq_zero (by simpa using s.1);subst y;exact⟨v,w,Ip w base t ty e i size uS hi v n xs b c,by simpa using b,DO w _,.inl rfl⟩
 .have f:∀j u,a[j]? =some u->w.cell? (ad.add j)=some u:=by
   intro j u G;rcases BD m with o|o
   .subst o;have y:a=[]:=List.eq_nil_of_length_eq_zero (by simpa using s.1);subst y;simp at G
   .obtain⟨uZ,h,_,K⟩:=s.2 o;injection h with h;subst h;exact K j u G
  obtain⟨p,x,r,ve,L,_,N⟩:=run_append_own_at (P:=P) w base t ty e i z size bytes uS hi vf k F C vg v n xs b ad m c a s.1 f Q D g l;exact⟨p,x,r,ve,L,N⟩
theorem NB{o:YD}{a:Act}{K:Act->YN->Prop}{Q:Exit->Act->YN->Prop}(s x:YJ)(t:YH)
 (G:o.op= .call {callee:= .builtin .append,args:= #[s,x],argTypes:= #[t,t]})
 (base:Nat) (e:YH) (i:TypeInfo) (z:YM) (size bytes:Nat) (uR:P.underlying t=some (.slice e)) (hi:P.info? e=some i) (F:i.zero=some z)
 (g:i.size=size) (vg:i.bytes=bytes) (y:z.cells.size=size) (D:0<size)
 (v:YM) (n:Nat) (xs:List YM) (N:a.eval s=v) (r:w.ownsRow base e size v n xs)
 (B:Nat) (A:YY) (m c:Nat) (b:List YM) (uY:a.eval x= .slice A m c) (vf:Pm w B size A m b) (uZ:∀u∈b,u.oneCell'=true)
 (C:n+m<=maxLen) (f:(n+m)*bytes<=140737488355328) (j:base<=w.heap.size)
 (h:∀k p,p.ownsRow base e size k (n+m) (xs++b)->w.grownBy p v.ownBlock->(k.ownBlock=v.ownBlock\/k.ownBlock=some w.heap.size)->K (a.put o.dst k) p):o.wp P a w K Q:=by
 obtain⟨k,p,l,uS,ve,L⟩:=Dh (P:=P) w base t o.type e i z size bytes uR hi F g vg y D v n xs r B A m c b vf uZ C f j;unfold Oper.wp execOp;simp only[G,resolve,invoke,builtin,AG,AI,AC,List.map_toArray,DW,List.map_nil,N,uY,l];exact h k p uS ve L
theorem I4{l:Array YD}{rest:List YD}{o:YD}{a:Act}{Q:Exit->Act->YN->Prop}(vg:o.guard=none)(s x:YJ)(t:YH)
 (uS:o.op= .call {callee:= .builtin .append,args:= #[s,x],argTypes:= #[t,t]})
 (base:Nat) (e:YH) (i:TypeInfo) (z:YM) (size bytes:Nat) (uR:P.underlying t=some (.slice e)) (hi:P.info? e=some i) (G:i.zero=some z)
 (g:i.size=size) (F:i.bytes=bytes) (y:z.cells.size=size) (D:0<size)
 (v:YM) (n:Nat) (xs:List YM) (N:a.eval s=v) (r:w.ownsRow base e size v n xs)
 (B:Nat) (A:YY) (m c:Nat) (b:List YM) (uY:a.eval x= .slice A m c) (ve:Pm w B size A m b) (uZ:∀u∈b,u.oneCell'=true)
 (C:n+m<=maxLen) (f:(n+m)*bytes<=140737488355328) (j:base<=w.heap.size)
 (h:∀k p,p.ownsRow base e size k (n+m) (xs++b)->w.grownBy p v.ownBlock->(k.ownBlock=v.ownBlock\/k.ownBlock=some w.heap.size)->wpList P l Q rest (a.put o.dst k) p):wpList P l Q (o::rest) a w:=
 wpList_plain vg λ_ S=>NB w s x t uS base e i z size bytes uR hi G g F y D v n xs N r B A m c b uY ve uZ C f j λk p vf K L=>S _ _ (h k p vf K L)
end
theorem Kv{p:Prop}(h:p):Hid p:=h
theorem U{p:Prop}(h:Hid p):p:=h
def Pa(l:List Nat):List YM:=l.map λ(d:Nat)=>BJ .u32 (d:Int)
theorem Qs(l:List Nat):(Pa l).length=l.length:=by simp[Pa]
theorem Zr{l:List Nat}{i:Nat}(h:i<l.length):(Pa l)[i]? =some (.int .u32 (dg l i:Int)):=by
 simp[Pa,dg,h]
theorem VW{l:List Nat}:∀u∈Pa l,u.oneCell'=true:=by
 intro u a;simp only[Pa,AY]at a;obtain⟨d,_,rfl⟩:=a
 rfl
theorem VY(l:List Nat)(i d:Nat):(Pa l).set i (.int .u32 (d:Int))=Pa (l.set i d):=by
 simp[Pa,List.map_set]
theorem F_(a b:List Nat):Pa (a++b)=Pa a++Pa b:=by simp[Pa]
structure In(w:YN)(A:YY)(n c:Nat)(l:List Nat):Prop where
 dig:Ny l
 len:l.length=n
 le:n<=c
 cap:c<=maxLen
 rd:Pm w w.heap.size 1 A n (Pa l)
structure Qp(w:YN)(B:Nat)(A:YY)(n c:Nat)(l:List Nat):Prop extends In w A n c l where
 own:0<c->∃g cur t,A=some ⟨g,0,none⟩/\B<=g/\w.heap[g]? =some (.cells cur t (0,0))/\c<=cur.size
section
variable{w w':YN}{A:YY}{n c:Nat}{l:List Nat}
theorem In.keep(h:In w A n c l)(b:w.heap.size<=w'.heap.size)(a:∀p:YB,p.block<w.heap.size->w'.cell? p=w.cell? p):In w' A n c l:=
 ⟨h.dig,h.len,h.le,h.cap,(h.rd.keep a).more b⟩
theorem In.below(h:In w A n c l)(a:Below w.heap.size w w'):In w' A n c l:=h.keep a.size λ_ b=>a.cell b
theorem In.at_(h:In w A n c l){k:Nat}(b:k<n):∃ad,A=some ad/\w.cell? (ad.add k)=some (.int .u32 (dg l k:Int)):=by
 obtain⟨ad,u,f,_,a,e⟩:=h.rd.at_ b;rw[Zr (by rw[h.len];exact b)]at a;injection a with a;subst a;exact⟨ad,f,e⟩
theorem tZ:In w none 0 0 []:=⟨Ny.nil,rfl,AA _,by unfold maxLen;omega,uH⟩
theorem In.take(h:In w A n c l){k c':Nat}(p:k<=n)(g:k<=c')(b:c'<=maxLen):In w A k c' (l.take k):=by
 refine⟨h.dig.take k,by rw[BG,h.len];omega,g,b,?_⟩;refine⟨by rw[Qs,BG,h.len];omega,λr=> ?_⟩;obtain⟨ad,o,m,a⟩:=h.rd.2 J;refine⟨ad,o,m,λj u f=>a j u ?_⟩;have e:Pa (l.take k)=(Pa l).take k:=by simp[Pa,List.map_take]
 rw[e,CK]at f;split at f
 .exact f
 .cases f
theorem In.trim(h:In w A n c l):In w A (A_ l n) (A_ l n) (Go.Proofs.YtnmokookhcgklaaGreatDoor.trim l):=by
 have e:Go.Proofs.YtnmokookhcgklaaGreatDoor.trim l=l.take (A_ l n):=by rw[Go.Proofs.YtnmokookhcgklaaGreatDoor.trim,h.len]
 rw[e];exact h.take (On _ _) (AA _) (BB (BB (On _ _) h.le) h.cap)
theorem Qp.below{B:Nat}(h:Qp w B A n c l)(e:Below w.heap.size w w'):Qp w' B A n c l:=
 ⟨h.toIn.below e,λj=>by
  obtain⟨g,a,t,m,k,f,b⟩:=h.own j;exact⟨g,a,t,m,k,(e.block g (AJ.1 f).1).trans f,b⟩⟩
theorem Qp.base{B B':Nat}(h:Qp w B A n c l)(k:B'<=B):Qp w B' A n c l:=
 ⟨h.toIn,λe=>by
  obtain⟨g,a,t,j,m,f,b⟩:=h.own e;exact⟨g,a,t,j,by omega,f,b⟩⟩
theorem tw{B:Nat}:Qp w B none 0 0 []:=⟨tZ,λh=>absurd h J⟩
theorem Qp.take{B:Nat}(h:Qp w B A n c l){k c':Nat}(e:k<=n)(f:k<=c')(a:c'<=c):Qp w B A k c' (l.take k):=
 ⟨h.toIn.take e f (BB a h.cap),λr=>by
  obtain⟨g,b,t,p,j,m,o⟩:=h.own J;exact⟨g,b,t,p,j,m,by omega⟩⟩
theorem Qp.trim{B:Nat}(h:Qp w B A n c l):Qp w B A (A_ l n) (A_ l n) (Go.Proofs.YtnmokookhcgklaaGreatDoor.trim l):=by
 have e:Go.Proofs.YtnmokookhcgklaaGreatDoor.trim l=l.take (A_ l n):=by rw[Go.Proofs.YtnmokookhcgklaaGreatDoor.trim,h.len]
 rw[e];exact h.take (On _ _) (AA _) (BB (On _ _) h.le)
def Mk(w:YN)(g t:Nat)(l:List Nat):Prop:=Ck w g t (Pa l).toArray
theorem Mk.cell{g t:Nat}(h:Mk w g t l){i:Nat}(hi:i<l.length):w.cell? ⟨g,i,none⟩=some (.int .u32 (dg l i:Int)):=by
 rw[Ck.cell h,DG,Zr hi]
theorem Mk.frozen{g t:Nat}(h:Mk w g t l)(i:Nat):w.frozen? ⟨g,i,none⟩=false:=Ck.frozen h i
theorem Mk.lt{g t:Nat}(h:Mk w g t l):g<w.heap.size:=Ck.lt h
theorem Mk.set_{g t:Nat}(h:Mk w g t l)(i d:Nat):Mk (w.setCell ⟨g,i,none⟩ (.int .u32 (d:Int))) g t (l.set i d):=by
 have:=Ck.set_ h i (.int .u32 (d:Int));unfold Mk;rw[<-VY];simpa using this
theorem Mk.below{g t B:Nat}(h:Mk w g t l)(b:Below B w w')(a:g<B):Mk w' g t l:=Ck.below h b a
theorem Mk.alloc{g t:Nat}(h:Mk w g t l)(o:Obj):Mk (w.alloc o) g t l:=Ck.alloc h o
theorem Mk.far{g t:Nat}(h:Mk w g t l){p:YB}(a:g≠p.block)(u:YM):Mk (w.setCell p u) g t l:=Ck.far h a u
theorem Mk.own{g t B:Nat}(h:Mk w g t l)(f:Ny l)(a:B<=g)(k:l.length<=maxLen):Qp w B (some ⟨g,0,none⟩) l.length l.length l:=by
 refine⟨⟨f,rfl,AA _,k,⟨by rw[Qs];omega,λ_=>⟨_,rfl,h.lt,λj u b=> ?_⟩⟩⟩,λ_=>⟨g,_,t,rfl,a,h,by simp[Qs]⟩⟩;have e:(⟨g,0,none⟩:YB).add j=⟨g,j,none⟩:=by unfold Addr.add;split<;>simp_all
 rw[e,Ck.cell h,DG];exact b
theorem tv{B t:Nat}{v:YM}(h:w.ownsRow B t 1 v n (Pa l))(m:Ny l)(b:l.length=n):∃A c,v= .slice A n c/\Qp w B A n c l:=by
 rcases h.2 with ⟨rfl,rfl⟩|⟨g,cap,a,rfl,k,e,j,f,p,o⟩
 .have:l=[]:=CX.1 b;subst this;exact⟨none,0,rfl,tw⟩
 .exact⟨some ⟨g,0,none⟩,cap,rfl,⟨m,b,j,f,uB h⟩,λ_=>⟨g,a,t,rfl,k,e,by omega⟩⟩
def V9(w:YN)(k:Nat)(e:YC)(w':YN):Prop:=
 ∃A n c l,e= .returned (.slice A n c)/\Na l/\val l=k/\Qp w' w.heap.size A n c l/\Below w.heap.size w w'
end
def Vr(a b:Nat):Int:=if a<b then -1 else if a=b then 0 else 1
theorem Fm{a b:Nat}(h:a<b):Vr a b= -1:=by simp[Vr,h]
theorem HH{a b:Nat}(h:b<a):Vr a b=1:=by
 unfold Vr;rw[V J,V J]
theorem cq{a b:Nat}(h:a=b):Vr a b=0:=by
 unfold Vr;rw[V J,YS h]
theorem Tryz.info_u32:(Tryz.prog.info? 208).map (λi=>(i.zero,i.size,i.bytes))=some (some (.int .u32 0),1,4):=O
theorem In.capI{w:YN}{A:YY}{n c:Nat}{l:List Nat}(h:In w A n c l):c<=9223372036854775807:=by
 have:=h.cap;unfold maxLen at this;omega
theorem In.lenI{w:YN}{A:YY}{n c:Nat}{l:List Nat}(h:In w A n c l):n<=9223372036854775807:=by
 have:=h.capI;have:=h.le;omega
theorem Fj{A:YY}{n c:Nat}{l:List Nat}(i:Int)(w:YN)(h:In w A n c l)(a:0<=i):
 YG XW 354 #[.slice A n c,I i] w λe g=>e= .returned (.int .u64 (dg l i.toNat:Nat))/\w=g:=by
 obtain⟨k,rfl⟩:=CY a;have o:=h.lenI;have m:=h.dig k
 by_cases b:k<n
 .obtain⟨ad,rfl,j⟩:=h.at_ b;have f:=Kv h.len;clear h a;go_enter func354,ntmps354;go_wp2;go_ret;exact⟨rfl,rfl⟩
 .have f:=Kv h.len;have e:Hid (dg l k=0):=Vx (by rw[h.len];omega);clear h a;go_enter func354,ntmps354;go_wp2;go_ret;refine⟨?_,rfl⟩;rw[CO,U e];rfl
theorem Mg{A:YY}{n c:Nat}{l:List Nat}(w:YN)(h:In w A n c l):
 YG XW 171 #[.slice A n c] w λe o=>e= .returned (.slice A (A_ l n) (A_ l n))/\w=o:=by
 have r:=h.lenI;have p:=h.capI;have m:=h.le;have uS:=Kv h;clear h;go_enter func171,ntmps171;go_wp2;go_loop [3] (λi=>∃k:Nat,k<=n/\i=I k/\A_ l k=A_ l n) (λi=>(intOf i).toNat)
 case atStart=>exact⟨n,AA _,rfl,rfl⟩
 case round=>
  obtain⟨k,s,rfl,g⟩:=hrel;have HT:=Kv g;clear g
  by_cases b:k=0
  .subst b;go_wp2;go_ret;have e:=U HT;rw[show A_ l 0=0 from rfl]at e;refine⟨?_,rfl⟩;rw[<-e]
   rfl
  .obtain⟨j,rfl⟩:∃j,k=j+1:=⟨k-1,by omega⟩
   obtain⟨ad,rfl,a⟩:=(U uS).at_ (k:=j) J;go_wp2
   .have f:(((dg l j:Nat):Int)==0)=true:=by assumption
    go_round
    case rel=>exact⟨j,by omega,rfl,by rw[<-U HT,Os];simpa using f⟩
    case measure=>simp[intOf]
   .have f:(((dg l j:Nat):Int)==0)=false:=by assumption
    go_ret;have e:=U HT;rw[OP (by simpa using f)]at e;refine⟨?_,rfl⟩;rw[<-e]
    rfl
def o_(w:YN)(l:List Nat)(e:YC)(a:YN):Prop:=
 ∃A n c,e= .returned (.slice A n c)/\Qp a w.heap.size A n c l/\Below w.heap.size w a
theorem dv{A:YY}{n c:Nat}{l:List Nat}(w:YN)(h:In w A n c l)(vf:n<=1099511627776):
 YG XW 240 #[.slice A n c] w (o_ w l):=by
 have G:=h.lenI;have F:=h.capI;have x:=h.le;have p:=Kv h.rd;have C:=h.dig;have t:=Kv h.len;clear h;obtain⟨u,o,g,m,j⟩:=info_parts Tryz.info_u32;have r:=λW=>Lib.run_eql_slice_nil (P:=XW) W 41 208 A n c 0 0 underlying41
 by_cases b:A=none
 .have B:n=0:=by
   rcases BD n with e|e
   .exact e
   .obtain⟨ad,h,_⟩:=(U p).2 e;rw[b]at h;cases h
  subst b;subst B;go_enter func240,ntmps240;go_wp2;go_ret;have:l=[]:=CX.1 (U t);subst this;exact⟨none,0,0,rfl,tw,Below.refl _ _⟩
 .obtain⟨ad,rfl⟩:∃ad,A=some ad:=by
   cases A with
   |none=>exact absurd rfl b
   |some ad=>exact⟨ad,rfl⟩
  clear b;go_enter func240,ntmps240;go_wp2_with (first
   |(at_builtin;refine I4 _ rfl (.tmp 5) (.tmp 6) 41 rfl w.heap.size 208 u _ 1 4 underlying41 o g m j rfl J (.slice (some ⟨w.heap.size,0,none⟩) 0 0) 0 [] rfl (World.ownsRow_lit _ _ _ (AA _) (by unfold maxLen;omega) rfl) w.heap.size (some ad) n c (Pa l) rfl ((U p).alloc (AA _) _) VW (by simp only[maxLen];omega) J Zs ?_;intro vg uS a f s))
  go_ret;simp only[CD,List.nil_append]at a;obtain⟨A1,D,rfl,v⟩:=tv a C (U t);exact⟨A1,n,D,rfl,v,((Below.refl _ _).alloc (AA _) _).grown f Zs (λk y=>by simp[Value.ownBlock]at y;omega)⟩
theorem Yx{A:YY}{n c:Nat}{l:List Nat}(w:YN)(h:In w A n c l)(k:n<=1099511627776):
 YG XW 174 #[.slice A n c] w (o_ w (trim l)):=by
 have m:=On l n;go_enter func174,ntmps174;go_wp2_with fail;refine(Mg w h).mono ?_;rintro e f ⟨rfl,rfl⟩;go_wp2_with fail;refine(dv w h.trim J).mono ?_;rintro e f ⟨A1,a,g,rfl,j,b⟩;go_wp2_with fail;go_ret;exact⟨A1,a,g,rfl,j,b⟩
theorem LO(k:Nat)(a:(k:Int)<=18446744073709551615):Ny [k%4294967296,k/4294967296]/\val [k%4294967296,k/4294967296]=k:=by
 refine⟨Ny.cons J (Ny.one J),?_⟩;simp only[val];omega
theorem X9(k:Nat)(g:(k:Int)<=18446744073709551615)(w:YN):
 YG XW 101 #[.int .u64 k] w (V9 w k):=by
 go_enter func101,ntmps101;go_wp2_with fail;have a:Mk (w.alloc (.cells #[.int .u32 ((k:Int)%4294967296),.int .u32 ((k:Int)/4294967296)] 208)) w.heap.size 208 [k%4294967296,k/4294967296]:=Ck.new w 208 _;have b:=LO k g;have f:=a.own (B:=w.heap.size) b.1 (AA _) (by simp[maxLen]);refine(Yx _ f.toIn Zs).mono ?_;rintro e m ⟨A1,h,l,rfl,c,j⟩;clear a f;go_wp2_with fail;go_ret;exact⟨A1,h,l,_,rfl,L8 b.1,by rw[Ku,b.2],c.base Zs,((Below.refl _ _).alloc (AA _) _).trans (j.mono Zs)⟩
def zs(n:Nat):Array YM:=(Pa (BM n 0)).toArray
theorem O4(W:YN)(k:Int)(N:Nat)(f:k=N)(l:N<=17592186044416):
 (Instr.makeSlice 41 (I k) (I k)).run XW W= .ok (.slice (some ⟨W.heap.size,0,none⟩) N N) (W.alloc (.cells (zs N) 208)):=by
 subst f;obtain⟨g,c,a,e,b⟩:=info_parts Tryz.info_u32;rw[run_make W 41 208 g _ underlying41 c a .i64 .i64 N N J J (by rw[b];omega) J,e,CO,EB];congr 3;apply Array.ext
 .simp[zs,size_madeCells,Pa]
 .intro i h j;simp[madeCells,zs,Pa,EA,Nat.mod_one]
theorem Mk.zero(W:YN)(N:Nat):Mk (W.alloc (.cells (zs N) 208)) W.heap.size 208 (BM N 0):=Ck.new W 208 _
theorem nF{A B:YY}{n c m d:Nat}{a b:List Nat}(w:YN)(r:In w A n c a)(s:In w B m d b)(L:n<=1099511627776)(uR:m<=1099511627776):
 YG XW 329 #[.slice A n c,.slice B m d] w (V9 w (val a+val b)):=by
 have Ha:=Kv r;have Hb:=Kv s;clear r s;obtain⟨N,Q,ve,K,D⟩:∃N,n<=N/\m<=N/\N<=1099511627776/\((n<m->N=m)/\(¬n<m->N=n)):=⟨max n m,by omega,by omega,by omega,by omega,by omega⟩
 have H3:=Kv D;clear D;have f:=λW=>O4 W (N+1) (N+1) rfl J
 go_enter func329,ntmps329;go_wp2_with fail
 all_goals
  first
   |(have e:=(U H3).1 (by assumption);subst e)
   |(have e:=(U H3).2 (by assumption);subst e)
  clear H3;go_simp;go_wp2;have C:=Mk.zero w (N+1);go_loopw [6,17] (λG i wr=>∃(k y:Nat) (o:List Nat),k<=N+1/\i=I k/\G= .int .u64 y/\o.length=N+1/\Ny o/\y<=1/\lo o k+y*pw k=lo a k+lo b k/\Mk wr w.heap.size 208 o/\Below w.heap.size w wr) (λ_ i _=>N+1- (intOf i).toNat)
  case atStart=>exact⟨0,0,_,BW _,rfl,rfl,by simp,Ny.replicate _,by omega,by simp[O5],C,(Below.refl _ _).alloc (AA _) _⟩
  case round=>
   obtain⟨k,y,o,uZ,rfl,rfl,l,j,P,h,f,g⟩:=hrel;clear C;have Hol:=Kv l;have Hsum:=Kv h;clear l h
   by_cases t:k<N+1
   .have vf:=(U Ha).dig k;have uS:=(U Hb).dig k;have v:=f.cell (i:=k) (by rw[U Hol];exact t);have F:=f.frozen k;go_wp2_with fail;refine(Fj _ _ ((U Ha).below g) J).mono ?_;rintro e vg ⟨rfl,rfl⟩;go_wp2_with fail;refine(Fj _ _ ((U Hb).below g) J).mono ?_;rintro e vg ⟨rfl,rfl⟩;go_wp2;have p:=f.set_ k ((y+(dg a k+dg b k))%4294967296);rw[show(((y+(dg a k+dg b k))%4294967296:Nat):Int)=((y:Int)+(dg a k+dg b k))%4294967296 by omega]at p;go_roundw
    case rel=>exact⟨k+1,(y+(dg a k+dg b k))/4294967296,_,by omega,by go_num,by go_num,by rw[AK];exact U Hol,j.set _ J,by omega,ip (by rw[U Hol];exact t) (U Hsum),p,g.setCell (AA _) _⟩
    case measure=>simp[intOf];omega
   .have x:k=N+1:=J
    subst x;have u:=f.own j (AA _) (by rw[U Hol];unfold maxLen;omega);rw[U Hol]at u;go_wp2_with fail;refine(Mg _ u.toIn).mono ?_;rintro e vg ⟨rfl,rfl⟩;go_wp2_with fail;go_ret;have r:=U Ha;have s:=U Hb;exact⟨_,_,_,trim o,rfl,L8 j,by rw[Ku];exact mX (U Hol) r.dig s.dig (by rw[r.len];omega) (by rw[s.len];omega) (U Hsum),u.trim,g⟩
theorem In.drewN{w:YN}{A:YY}{n c:Nat}{l:List Nat}(h:In w A n c l)(q:Nat):In (w.drewN q) A n c l:=⟨h.dig,h.len,h.le,h.cap,h.rd⟩
theorem In.drew{w:YN}{A:YY}{n c:Nat}{l:List Nat}(h:In w A n c l):In w.drew A n c l:=⟨h.dig,h.len,h.le,h.cap,h.rd⟩
theorem Qp.drewN{w:YN}{B:Nat}{A:YY}{n c:Nat}{l:List Nat}(h:Qp w B A n c l)(q:Nat):Qp (w.drewN q) B A n c l:=⟨h.toIn.drewN q,h.own⟩
theorem Qp.drew{w:YN}{B:Nat}{A:YY}{n c:Nat}{l:List Nat}(h:Qp w B A n c l):Qp w.drew B A n c l:=⟨h.toIn.drew,h.own⟩
theorem Mt{B:Nat}{a w:YN}(h:Below B a w)(n:Nat):Below B a (w.drewN n):=⟨h.os,h.tape,h.output,h.size,h.block⟩
def Qd(w a:YN):Prop:=∃q,a=w.drewN q
theorem Qd.refl(w:YN):Qd w w:=⟨0,rfl⟩
theorem Qd.drewN{w a:YN}(h:Qd w a)(n:Nat):Qd w (a.drewN n):=by
 obtain⟨q,rfl⟩:=h;exact⟨q+n,World.drewN_drewN ..⟩
theorem Qd.of(w:YN)(n:Nat):Qd w (w.drewN n):=⟨n,rfl⟩
def qS(w:YN)(v:YM)(e:YC)(a:YN):Prop:=e= .returned v/\Qd w a
theorem WT{A B:YY}{n c m d:Nat}{a b:List Nat}(w:YN)(o:In w A n c a)(p:In w B m d b):
 YG XW 332 #[.slice A n c,.slice B m d] w (qS w (I (Vr (val a) (val b)))):=by
 have Ta:=o.trim;have Tb:=p.trim;have v:=Ku a;have x:=Ku b;have s:=L8 o.dig;have t:=L8 p.dig;have Va:=Kv v;have Vb:=Kv x;clear v x;have vf:=Ta.lenI;have L:=Tb.lenI;rcases Nat.lt_trichotomy (A_ a n) (A_ b m)with h|h|h
 .have K:Hid (Vr (val a) (val b)= -1):=Fm (by rw[<-U Va,<-U Vb];exact s.length_lt t (by rw[Ta.len,Tb.len];exact h));go_enter func332,ntmps332;go_wp2_with fail;refine(Mg w o).mono ?_;rintro e l ⟨rfl,rfl⟩;go_wp2_with fail;refine(Mg w p).mono ?_;rintro e l ⟨rfl,rfl⟩;go_wp2_with fail;go_ret;rw[U K];exact⟨rfl,Qd.refl _⟩
 .have uS:=Kv h;clear h;have Hb:In w B (A_ a n) (A_ a n) (trim b):=by rw[U uS];exact Tb
  go_enter func332,ntmps332;go_wp2_with fail;refine(Mg w o).mono ?_;rintro e l ⟨rfl,rfl⟩;go_wp2_with fail;refine(Mg w p).mono ?_;rintro e l ⟨rfl,rfl⟩;rw[<-U uS];go_wp2_with fail;go_loopw [5] (λi wr=>∃(k:Nat) (z:Int),k<=A_ a n/\z+1=k/\i=I z/\Hid (∀j,k<=j->dg (trim a) j=dg (trim b) j)/\Qd w wr) (λi _=>(intOf i+1).toNat)
  case atStart=>
   refine⟨A_ a n,(A_ a n:Int)-1,AA _,by omega,rfl,λj r=> ?_,Qd.refl _⟩;rw[Vx (by rw[Ta.len];exact r),Vx (by rw[Hb.len];exact r)]
  case round=>
   obtain⟨k,z,ve,u,rfl,f,⟨q,rfl⟩⟩:=hrel
   by_cases y:k=0
   .subst y;obtain rfl:z= -1:=J
    clear u;go_wp2;go_ret;refine⟨?_,Qd.of _ _⟩;rw[cq]
    .rfl
    .rw[<-U Va,<-U Vb];exact I6 λj=>U f j (BW _)
   .obtain⟨j,rfl⟩:∃j,k=j+1:=⟨k-1,by omega⟩
    obtain rfl:z=(j:Int):=J
    clear u y;obtain⟨ad,F,C⟩:=Ta.at_ (k:=j) J;obtain⟨bd,vg,D⟩:=Hb.at_ (k:=j) J;subst F;subst vg;have r:(j:Int)<(A_ a n:Int):=J
    go_wp2;go_quiet (fail);go_wp2
    .have g:dg (trim a) j<dg (trim b) j:=by assumption
     go_ret;refine⟨?_,(Qd.of _ _).drewN _⟩;rw[Fm (by rw[<-U Va,<-U Vb];exact Er s.1 (λi hi=>U f i J) g)]
     rfl
    .go_quiet (fail);go_wp2
     .have g:dg (trim b) j<dg (trim a) j:=by assumption
      go_ret;refine⟨?_,((Qd.of _ _).drewN _).drewN _⟩;rw[HH (by rw[<-U Va,<-U Vb];exact Er t.1 (λi hi=>(U f i J).symm) g)]
      rfl
     .have uR:¬dg (trim a) j<dg (trim b) j:=by assumption
      have G:¬dg (trim b) j<dg (trim a) j:=by assumption
      go_roundw
      case rel=>
       refine⟨j,(j:Int)-1,by omega,by omega,rfl,λi hi=> ?_,Qd.of _ _⟩
       by_cases e:i=j
       .subst e;omega
       .exact U f i J
      case measure=>simp[intOf]
 .have K:Hid (Vr (val a) (val b)=1):=HH (by rw[<-U Va,<-U Vb];exact t.length_lt s (by rw[Ta.len,Tb.len];exact h));go_enter func332,ntmps332;go_wp2_with fail;refine(Mg w o).mono ?_;rintro e l ⟨rfl,rfl⟩;go_wp2_with fail;refine(Mg w p).mono ?_;rintro e l ⟨rfl,rfl⟩;go_wp2_with fail;go_ret;rw[U K];exact⟨rfl,Qd.refl _⟩
theorem In.qd{w a:YN}{A:YY}{n c:Nat}{l:List Nat}(h:In w A n c l)(b:Qd w a):In a A n c l:=by
 obtain⟨q,rfl⟩:=b;exact h.drewN q
theorem Qd.below{w a:YN}(h:Qd w a)(B:Nat):Below B w a:=by
 obtain⟨q,rfl⟩:=h;exact Mt (Below.refl _ _) q
theorem Lg(x:Int):XZ.wrap x=x%18446744073709551616:=IntKind.wrap_u64 x
theorem qY{A B:YY}{n c m d:Nat}{a b:List Nat}(w:YN)(u:In w A n c a)(x:In w B m d b)(S:n<=1099511627776):
 YG XW 330 #[.slice A n c,.slice B m d] w λe s=>∃A' G c' l,e= .returned (.tuple #[.slice A' G c',.bool (decide (val b<=val a))])/\Na l/\val l=val a-val b/\Qp s w.heap.size A' G c' l/\Below w.heap.size w s:=by
 have Ha:=Kv u;have Hb:=Kv x;have uW:=On a n
 by_cases f:val a<val b
 .have K:Hid (Vr (val a) (val b)= -1):=Fm f;have Hc:=Kv f;clear f;go_enter func330,ntmps330;go_wp2_with fail;refine(WT w u x).mono ?_;rintro e s ⟨rfl,⟨q,rfl⟩⟩;rw[U K];go_wp2_with fail;go_ret2;have:=U Hc;exact⟨none,0,0,[],by rw[YV J];rfl,Na.nil,by rw[Tv];omega,tw,Mt (Below.refl _ _) _⟩
 .obtain⟨z,P,K⟩:∃z,(0:Int)<=z/\Hid (Vr (val a) (val b)=z):=by
   refine⟨_,?_,rfl⟩;unfold Vr;rw[V f];split<;>omega
  have Hc:=Kv f;clear f u x;have j:=λW=>O4 W (A_ a n) (A_ a n) rfl J
  go_enter func330,ntmps330;go_wp2_with fail;refine(WT w (U Ha) (U Hb)).mono ?_;rintro e s ⟨rfl,⟨q,rfl⟩⟩;rw[U K];go_wp2_with fail;refine(Mg _ ((U Ha).drewN q)).mono ?_;rintro e s ⟨rfl,rfl⟩;go_wp2_with fail;have F:=(Mk.zero w (A_ a n))
  go_loopw [7,20] (λL i wr=>∃(k y:Nat) (o:List Nat),k<=A_ a n/\i=I k/\L= .int .u64 y/\o.length=A_ a n/\Ny o/\y<=1/\lo o k+lo b k=lo a k+y*pw k/\Mk wr w.heap.size 208 o/\Below w.heap.size w wr) (λ_ i _=>A_ a n- (intOf i).toNat)
  case atStart=>exact⟨0,0,_,BW _,rfl,rfl,by simp,Ny.replicate _,by omega,by simp[O5],F,Mt ((Below.refl _ _).alloc (AA _) _) _⟩
  case round=>
   obtain⟨k,y,o,T,rfl,rfl,v,h,uU,t,j,p⟩:=hrel;clear F;have Hol:=Kv v;have Hsum:=Kv t;clear v t
   by_cases r:k<A_ a n
   .have N:=(U Ha).dig k;have uR:=(U Hb).dig k;have D:=j.cell (i:=k) (by rw[U Hol];exact r);have vf:=j.frozen k;go_wp2_with fail;refine(Fj _ _ ((U Ha).below p) J).mono ?_;rintro e s ⟨rfl,rfl⟩;go_wp2_with fail;refine(Fj _ _ ((U Hb).below p) J).mono ?_;rintro e s ⟨rfl,rfl⟩
    by_cases ve:dg b k+y<=dg a k
    .go_wp2;have g:=j.set_ k (dg a k-dg b k-y);rw[show((dg a k-dg b k-y:Nat):Int)=(dg a k:Int)-dg b k-y by omega]at g;go_roundw
     case rel=>exact⟨k+1,0,_,by omega,by go_num,congrArg (BJ .u64) J,by rw[AK];exact U Hol,h.set _ J,by omega,KJ (by rw[U Hol];exact r) (U Hsum) J,g,p.setCell (AA _) _⟩
     case measure=>simp[intOf];omega
    .have g:=j.set_ k (dg a k+4294967296-dg b k-y)
     by_cases uZ:dg b k<=dg a k
     .go_wp2;rw[show((dg a k+4294967296-dg b k-y:Nat):Int)=XZ.wrap ((dg a k:Int)-dg b k-y)%4294967296 by rw[Lg];omega]at g;go_roundw
      case rel=>exact⟨k+1,1,_,by omega,by go_num,congrArg (BJ .u64) (by rw[Lg];omega),by rw[AK];exact U Hol,h.set _ J,by omega,KJ (by rw[U Hol];exact r) (U Hsum) J,g,p.setCell (AA _) _⟩
      case measure=>simp[intOf];omega
     .go_wp2;rw[show((dg a k+4294967296-dg b k-y:Nat):Int)=XZ.wrap (XZ.wrap ((dg a k:Int)-dg b k)-y)%4294967296 by rw[Lg,Lg];omega]at g;go_roundw
      case rel=>exact⟨k+1,1,_,by omega,by go_num,congrArg (BJ .u64) (by rw[Lg,Lg];omega),by rw[AK];exact U Hol,h.set _ J,by omega,KJ (by rw[U Hol];exact r) (U Hsum) J,g,p.setCell (AA _) _⟩
      case measure=>simp[intOf];omega
   .have vg:k=A_ a n:=J
    subst vg;have C:=j.own h (AA _) (by rw[U Hol];unfold maxLen;omega);rw[U Hol]at C;go_wp2_with fail;refine(Mg _ C.toIn).mono ?_;rintro e s ⟨rfl,rfl⟩;go_wp2_with fail;go_ret2;have u:=U Ha;have x:=U Hb;have uY:=U Hc;have uS:=u.trim.len;have Q:decide (val b<=val a)=true:=YU J;rw[Q];refine⟨_,_,_,trim o,rfl,L8 h,?_,C.trim,p⟩;rw[Ku];exact mf (by rw[uS];exact U Hol) h u.dig J (by rw[uS];exact U Hsum)
theorem nG{A B:YY}{n c m d:Nat}{a b:List Nat}(w:YN)(uW:In w A n c a)(uZ:In w B m d b)(hn:n<=1099511627776)(hm:m<=1099511627776):
 YG XW 298 #[.slice A n c,.slice B m d] w (V9 w (val a*val b)):=by
 have K:=On a n;have S:=On b m;have Ta:=uW.trim;have Tb:=uZ.trim;have Va:Hid (val (trim a)=val a):=Ku a;have Vb:Hid (val (trim b)=val b):=Ku b;have Ha:=Kv uW;have Hb:=Kv uZ;clear uW uZ;obtain⟨p,L⟩:∃p,p=A_ a n:=⟨_,rfl⟩
 obtain⟨q,uY⟩:∃q,q=A_ b m:=⟨_,rfl⟩
 rw[<-L]at Ta K;rw[<-uY]at Tb S;have HP:=Kv L;have HQ:=Kv uY;clear L uY;have hmk:=λW=>O4 W ((p:Int)+q) (p+q) J J
 go_enter func298,ntmps298;go_wp2_with fail;go_step3;go_wp2_with fail;refine(Mg w (U Ha)).mono ?_;rintro e uX ⟨rfl,rfl⟩;rw[<-U HP];go_wp2_with fail;refine(Mg w (U Hb)).mono ?_;rintro e uX ⟨rfl,rfl⟩;rw[<-U HQ];go_wp2_with fail;go_step3;go_wp2_with fail;go_loopw [23] (λi wr=>∃(k:Nat) (o:List Nat),k<=p/\i=I k/\o.length=p+q/\Ny o/\Hid (val o=lo (trim a) k*val (trim b)/\∀j,k+q<=j->dg o j=0)/\Mk wr w.heap.size 208 o/\Below w.heap.size w wr) (λi _=>p- (intOf i).toNat)
 case atStart=>exact⟨0,_,BW _,rfl,by simp,Ny.replicate _,⟨by rw[Z6,O5];omega,λj _=>Ua⟩,Mk.zero w (p+q),(Below.refl _ _).alloc (AA _) _⟩
 case round=>
  obtain⟨k,o,hk,rfl,D,h,G,C,g⟩:=hrel;have Hol:=Kv D;clear D
  by_cases hlt:k<p
  .obtain⟨ad,hA,hca⟩:=(Ta.below g).at_ (k:=k) J;subst hA;have hx:=Ta.dig k
   by_cases vf:dg (trim a) k=0
   .have hz:(((dg (trim a) k:Nat):Int)==0)=true:=by simp[vf]
    have H0:=Kv vf;clear vf;go_wp2;go_roundw
    case rel=>exact⟨k+1,o,by omega,by go_num,U Hol,h,⟨by rw[Lq,U H0,Nat.zero_mul,DY];exact(U G).1,λj hj=>(U G).2 j J⟩,C,g⟩
    case measure=>simp[intOf];omega
   .have hz:(((dg (trim a) k:Nat):Int)==0)=false:=by simpa using vf
    clear vf;go_wp2;obtain⟨uV,rfl⟩:∃uV:YN,uV=wr:=⟨_,rfl⟩
    go_loopw [8,32] (λcy i wr=>∃(j y:Nat) (r:List Nat),j<=q/\i=I j/\cy= .int .u64 y/\y<4294967296/\r.length=p+q/\Ny r/\Hid (lo r (k+j)+y*pw (k+j)=lo o (k+j)+dg (trim a) k*lo (trim b) j*pw k/\∀t,k+j<=t->dg r t=dg o t)/\Mk wr w.heap.size 208 r/\Below w.heap.size w wr) (λ_ i _=>q- (intOf i).toNat)
    case atStart=>exact⟨0,0,o,BW _,rfl,rfl,by omega,U Hol,h,⟨by rw[O5];omega,λ_ _=>rfl⟩,C,g⟩
    case round=>
     obtain⟨j,y,r,hj,rfl,rfl,hy,uS,x,vg,f,v⟩:=hrel;have Hrl:=Kv uS;clear uS
     by_cases uT:j<q
     .obtain⟨bd,hB,hcb⟩:=(Tb.below v).at_ (k:=j) J;subst hB;have N:=Tb.dig j;have hr2:=x (k+j);have hxy:=Wt hx N;have u:=f.cell (i:=k+j) (by rw[U Hrl];omega);have ve:=f.frozen (k+j);go_wp2;obtain⟨s,uU⟩:∃s,s=y+(dg (trim a) k*dg (trim b) j+dg r (k+j)):=⟨_,rfl⟩
      have uR:(s:Int)=(y:Int)+((dg (trim a) k:Int)*(dg (trim b) j:Int)+(dg r (k+j):Int)):=by
       rw[uU,Int.natCast_add,Int.natCast_add,BS]
      rw[<-uR];have l:=f.set_ (k+j) (s%4294967296);rw[show((s%4294967296:Nat):Int)=(s:Int)%4294967296 by omega]at l;go_roundw
      case rel=>
       refine⟨j+1,s/4294967296,_,by omega,by go_num,congrArg (BJ .u64) J,by omega,by rw[AK];exact U Hrl,x.set _ J,⟨?_,λt ht=> ?_⟩,l,v.setCell (AA _) _⟩
       .exact VL (by rw[U Hrl];omega) ((U vg).2 _ (AA _)) (U vg).1 uU
       .rw[Rj,V J];exact(U vg).2 t J
      case measure=>simp[intOf];omega
     .have T:j=q:=J
      subst T;have u:=f.cell (i:=k+j) (by rw[U Hrl];omega);have ve:=f.frozen (k+j);go_wp2;have l:=f.set_ (k+j) y;go_roundw
      case rel=>
       have F:=dy (a:=trim a) (b:=trim b) (by rw[U Hrl];omega) rfl (by rw[Mz (by rw[Tb.len];exact AA _)]) (U G).1 (U G).2 (U vg).2 (U vg).1;exact⟨k+1,_,by omega,by go_num,by rw[AK];exact U Hrl,x.set _ hy,F,l,v.setCell (AA _) _⟩
      case measure=>simp[intOf];omega
  .have P:k=p:=J
   subst P;have Q:=C.own h (AA _) (by rw[U Hol];unfold maxLen;omega);rw[U Hol]at Q;go_wp2_with fail;refine(Mg _ Q.toIn).mono ?_;rintro e uX ⟨rfl,rfl⟩;go_wp2_with fail;try rw[Exit.noGoto_ret];go_ret;refine⟨_,_,_,trim o,rfl,L8 h,?_,Q.trim,g⟩;rw[Ku,(U G).1,U Vb,Mz (by rw[Ta.len];exact AA _),U Va]
theorem HO{x y:Nat}(b:x<4294967296)(a:y<4294967296):bits .or .u64 ((x:Int)*4294967296) (y:Int)=((x*4294967296+y:Nat):Int):=by
 rw[show(x:Int)*4294967296=((x*4294967296:Nat):Int) by omega,u64_or_nat _ _ J J,nat_join 32 _ _ J J]
theorem n_{A:YY}{n c:Nat}{a:List Nat}(d:Nat)(w:YN)(vg:In w A n c a)(Q:n<=1099511627776)(uS:0<d)(S:d<4294967296):
 YG XW 172 #[.slice A n c,.int .u32 d] w λe D=>∃A' ve c' l,e= .returned (.tuple #[.slice A' ve c',.int .u32 ((val a%d:Nat):Int)])/\Na l/\val l=val a/d/\Qp D w.heap.size A' ve c' l/\Below w.heap.size w D:=by
 have uR:=λW=>O4 W (n:Int) n rfl J
 have Hl:=Kv vg.len;go_enter func172,ntmps172;go_wp2_with fail;go_loopw [7,8] (λre i wr=>∃(k r:Nat) (z:Int) (o:List Nat),k<=n/\z+1=k/\i=I z/\re= .int .u64 r/\r<d/\o.length=n/\Ny o/\Hid (val (o.drop k)*d+r=val (a.drop k))/\Mk wr w.heap.size 208 o/\Below w.heap.size w wr) (λ_ i _=>(intOf i+1).toNat)
 case atStart=>exact⟨n,0,(n:Int)-1,_,AA _,by omega,rfl,rfl,uS,by simp,Ny.replicate _,(show val ((BM n 0).drop n)*d+0=val (a.drop n) by rw[Qz (l:=a) (by rw[U Hl];exact AA _),Qz Zs];omega),Mk.zero w n,(Below.refl _ _).alloc (AA _) _⟩
 case round=>
  obtain⟨k,r,z,o,uY,F,rfl,rfl,G,m,g,vf,b,h⟩:=hrel;have Hol:=Kv m;clear m
  by_cases s:k=0
  .subst s;obtain rfl:z= -1:=J
   clear F;have B:=b.own g (AA _) (by rw[U Hol];unfold maxLen;omega);rw[U Hol]at B;go_wp2_with fail;refine(Mg _ B.toIn).mono ?_;rintro e D ⟨rfl,rfl⟩;go_wp2_with fail;go_ret2;obtain⟨u,v⟩:=Ca (U vf) G;simp only[DT]at u v;subst v;exact⟨_,_,_,trim o,rfl,L8 g,by rw[Ku];exact u,B.trim,h⟩
  .obtain⟨j,rfl⟩:∃j,k=j+1:=⟨k-1,by omega⟩
   obtain rfl:z=(j:Int):=J
   clear F s;obtain⟨ad,P,N⟩:=(vg.below h).at_ (k:=j) J;have K:=vg.dig j;have C:=b.cell (i:=j) (by rw[U Hol];omega);have L:=b.frozen j;have uZ:=HO (x:=r) (y:=dg a j) J K;subst P;have f:=f9 G K;have t:=BT (r*4294967296+dg a j) uS;go_wp2;have p:=b.set_ j ((r*4294967296+dg a j)/d);have u:(((r*4294967296+dg a j)/d:Nat):Int)=((r:Int)*4294967296+dg a j)/d%4294967296:=by
    have e:(((r*4294967296+dg a j)/d:Nat):Int)=((r:Int)*4294967296+dg a j)/d:=by rw[CW];rfl
    rw[<-e];exact(Int.emod_eq_of_lt (Int.natCast_nonneg _) (Int.ofNat_lt.2 f)).symm
   have v:(((r*4294967296+dg a j)%d:Nat):Int)=((r:Int)*4294967296+dg a j)%d:=by rw[Int.natCast_emod];rfl
   rw[u]at p;go_roundw
   case rel=>exact⟨j,(r*4294967296+dg a j)%d,(j:Int)-1,_,by omega,by omega,rfl,by rw[v],t,by rw[AK];exact U Hol,g.set _ f,JE (by rw[U Hl];omega) (by rw[U Hol];omega) (U vf) rfl rfl,p,h.setCell (AA _) _⟩
   case measure=>simp[intOf]
def oQ(w:YN)(k:Nat)(e:YC)(a:YN):Prop:=
 ∃A n l,e= .returned (.slice A n n)/\Na l/\val l=k/\Qp a w.heap.size A n n l/\Below w.heap.size w a
def De(v:Nat)(n:Int):Nat:=if 0<=n then v*2 ^ (min n.toNat 4096)else v/2 ^ (-n).toNat
theorem QE{x k:Nat}(f:x<4294967296)(a:k<32):XZ.wrap ((x:Int)*2 ^ k)=((x*2 ^ k:Nat):Int):=by
 have b:=Ia a;have c:x*2 ^ k<=4294967295*2147483648:=DF J b;have e:(x:Int)*2 ^ k=((x*2 ^ k:Nat):Int):=by rw[BS,Int.natCast_pow];rfl
 rw[e,Lg];generalize x*2 ^ k=y at c ⊢;omega
theorem p6{x k d:Nat}(a:x<4294967296)(b:k<32)(e:d<2 ^ k):
 bits .or .u32 (d:Int) (XZ.wrap ((x:Int)*2 ^ k)%4294967296)=((d+x*2 ^ k%4294967296:Nat):Int):=by
 obtain⟨_,c,g⟩:=IF (Zw (k:=k) J) a;have f:=T5 k;rw[QE a b,show((x*2 ^ k:Nat):Int)%4294967296=((x*2 ^ k%4294967296:Nat):Int) by omega,u32_or_nat _ _ J J,Nat.or_comm,nat_join k _ _ c e,CF]
theorem mb{x k:Nat}(b:x<4294967296)(a:k<32):
 XZ.wrap ((x:Int)*2 ^ k)/4294967296%4294967296=((x*2 ^ k/4294967296:Nat):Int):=by
 obtain⟨c,_⟩:=IF (Zw (k:=k) J) b;have e:=Ia a;rw[QE b a];omega
theorem IB{A:YY}{n c:Nat}{a:List Nat}(s:Nat)(w:YN)(G:In w A n c a)(T:n<=1099511627776)(uX:s<=9223372036854775807):
 YG XW 334 #[.slice A n c,I s] w (oQ w (val a*2 ^ (min s 4096))):=by
 have C:=On a n;have Ta:=G.trim;have Va:Hid (val (trim a)=val a):=Ku a;have Ha:=Kv G;clear G;obtain⟨p,vg⟩:∃p,p=A_ a n:=⟨_,rfl⟩
 rw[<-vg]at Ta C;have HP:=Kv vg;clear vg;obtain⟨t,uU,v,h⟩:∃t,t<=4096/\((s<4096->t=s)/\(¬s<4096->t=4096))/\min s 4096=t:=⟨min s 4096,by omega,⟨by omega,by omega⟩,rfl⟩
 rw[h];clear h;have Hts:=Kv v;clear v;go_enter func334,ntmps334;go_wp2_with fail;refine(Mg w (U Ha)).mono ?_;rintro e uZ ⟨rfl,rfl⟩;rw[<-U HP];go_upto_region 13 with fail;go_cut [1] (λS P=>S=I t/\P=w)
 case first=>
  go_wp2_with fail
  all_goals
   go_meet;refine⟨congrArg (BJ .i64) ?_,rfl⟩;have:=U Hts;omega
 case rest=>
  obtain⟨rfl,rfl⟩:=hcut;clear Hts;have uR:=λW=>O4 W ((p:Int)+(t:Int)/32+1) (p+t/32+1) J J
  go_wp2_with fail;go_loopw [76] (λi wr=>∃(k:Nat) (o:List Nat),k<=p/\i=I k/\o.length=p+t/32+1/\Ny o/\Hid (lo o (k+t/32+1)=lo (trim a) k*2 ^ (t%32)*pw (t/32)/\dg o (k+t/32)<2 ^ (t%32))/\Mk wr wc.heap.size 208 o/\Below wc.heap.size wc wr) (λi _=>p- (intOf i).toNat)
  case atStart=>exact⟨0,_,BW _,rfl,by simp,Ny.replicate _,⟨by rw[C4,O5];omega,by rw[Ua];exact T5 _⟩,Mk.zero wc (p+t/32+1),(Below.refl _ _).alloc (AA _) _⟩
  case round=>
   obtain⟨k,o,uW,rfl,u,m,F,f,r⟩:=hrel;have Hol:=Kv u;clear u
   by_cases uY:k<p
   .obtain⟨ad,Q,N⟩:=(Ta.below r).at_ (k:=k) J;have vf:=Ta.dig k;have D:=f.cell (i:=k+t/32) (by rw[U Hol];omega);have L:=f.frozen (k+t/32);have x:=f.cell (i:=k+t/32+1) (by rw[U Hol];omega);have K:=f.frozen (k+t/32+1);subst Q;go_wp2;have j:=(U F).1;have uS:=(U F).2;have g:t%32<32:=BT _ J;have b:=IF (Zw (k:=t%32) J) vf;rw[p6 vf g uS,mb vf g];have B:=(f.set_ (k+t/32) (dg o (k+t/32)+dg (trim a) k*2 ^ (t%32)%4294967296)).set_ (k+t/32+1) (dg (trim a) k*2 ^ (t%32)/4294967296);go_roundw
    case rel=>
     refine⟨k+1,_,by omega,by go_num,by rw[AK,AK];exact U Hol,(m.set _ J).set _ (AW b.1 (BB (Ia g) J)),⟨mq (by rw[U Hol];omega) j rfl,?_⟩,B,(r.setCell (AA _) _).setCell (AA _) _⟩;rw[show k+1+t/32=k+t/32+1 by omega,Rj,YS ⟨rfl,by rw[AK,U Hol];omega⟩];exact b.1
    case measure=>simp[intOf];omega
   .have ve:k=p:=J
    subst ve;have y:=f.own m (AA _) (by rw[U Hol];unfold maxLen;omega);rw[U Hol]at y;go_wp2_with fail;refine(Mg _ y.toIn).mono ?_;rintro e uZ ⟨rfl,rfl⟩;go_wp2_with fail;go_ret;refine⟨_,_,trim o,rfl,L8 m,?_,y.trim,r⟩;have j:=(U F).1;rw[Ku,<-Mz (l:=o) (DZ (U Hol)),j,Mz (by rw[Ta.len];exact AA _),U Va,<-FL]
theorem kQ{x y t:Nat}(b:x<4294967296)(a:y<4294967296)(c:t<32):
 bits .or .u64 (x:Int) ((y:Int)*4294967296)/2 ^ t%4294967296=(((x+y*4294967296)/2 ^ t%4294967296:Nat):Int):=by
 rw[show(y:Int)*4294967296=((y*4294967296:Nat):Int) by omega,u64_or_nat _ _ J J,Nat.or_comm,nat_join 32 _ _ J J,CF,
  Int.natCast_emod,CW,Int.natCast_pow]
 rfl
theorem Z_{A:YY}{n c:Nat}{a:List Nat}(s:Nat)(z:Int)(w:YN)(uR:In w A n c a)(hn:n<=1099511627776)(hs:(s:Int)<=9223372036854775808)(h0:0<s)(l:z= -(s:Int)):
 YG XW 334 #[.slice A n c,I z] w (oQ w (val a/2 ^ s)):=by
 have G:=On a n;have Ta:=uR.trim;have Va:Hid (val (trim a)=val a):=Ku a;have Ha:=Kv uR;clear uR;obtain⟨p,vf⟩:∃p,p=A_ a n:=⟨_,rfl⟩
 rw[<-vf]at Ta G;have HP:=Kv vf;clear vf;have uT:z<0:=J
 by_cases r:32*p<=s
 .have ve:z<=-32*(p:Int):=J
  have Hz:=Kv l;clear l;go_enter func334,ntmps334;go_wp2_with fail;refine(Mg w (U Ha)).mono ?_;rintro e C ⟨rfl,rfl⟩;rw[<-U HP];go_wp2_with fail;go_ret;refine⟨none,0,[],rfl,Na.nil,?_,tw,Below.refl _ _⟩;have h1:=Mj Ta.dig (by rw[Ta.len];exact AA p);rw[U Va,V0]at h1;have h2:2 ^ (32*p)<=2 ^ s:=AX J r;rw[CU J]
  rfl
 .obtain⟨h,P⟩:∃h,h=s/32:=⟨_,rfl⟩
  obtain⟨t,uY⟩:∃t,t=s%32:=⟨_,rfl⟩
  have ve:¬z<=-32*(p:Int):=J
  have uV: -9223372036854775807<=z:=J
  have N:wrap64 (-(z.tdiv 32))=(h:Int):=by
   rw[l,Int.neg_tdiv,Int.neg_neg,CL J,IntWalk.wrap64_in _ ⟨by omega,by omega⟩];omega
  have uZ: -(z.tmod 32)=(t:Int):=by
   rw[l,Int.neg_tmod,Int.neg_neg,CM J];omega
  have L:t<32:=J
  have hhp:h<p:=J
  have Hz:=Kv l;have Hh:=Kv P;have Ht:=Kv uY;clear l P uY r;obtain⟨b,B⟩:∃b,b=(trim a).drop h:=⟨_,rfl⟩
  have v:∀i,dg b i=dg (trim a) (h+i):=λi=>by rw[B,Sa]
  have y:b.length=p-h:=by rw[B,CA,Ta.len]
  have F:Ny b:=by rw[B];exact Ta.dig.drop h
  have x:val b=val a/pw h:=by rw[B,I7 _ _ Ta.dig,U Va]
  have HB:=Kv (And.intro v (And.intro y x));clear v y x B;have uX:=λW=>O4 W ((p:Int)-h) (p-h) J J
  go_enter func334,ntmps334;go_wp2_with fail;refine(Mg w (U Ha)).mono ?_;rintro e C ⟨rfl,rfl⟩;rw[<-U HP];go_upto_region 6 with fail;simp only[N,uZ];clear N uZ;go_wp2_with fail;go_loopw [37] (λi wr=>∃(k:Nat) (o:List Nat),k<=p-h/\i=I k/\o.length=p-h/\Ny o/\Hid (lo o k+pw k*(dg b k/2 ^ t)=lo b (k+1)/2 ^ t)/\Mk wr w.heap.size 208 o/\Below w.heap.size w wr) (λi _=>p-h- (intOf i).toNat)
  case atStart=>exact⟨0,_,BW _,rfl,by simp,Ny.replicate _,(show _=_ by rw[C4,Lq,O5,It];simp),Mk.zero w (p-h),(Below.refl _ _).alloc (AA _) _⟩
  case round=>
   obtain⟨k,o,hk,rfl,u,j,Q,g,f⟩:=hrel;have Hol:=Kv u;clear u
   by_cases hlt:k<p-h
   .have uW:=Ta.dig (k+h);have S:=Ta.dig (k+h+1);have uS:=g.cell (i:=k) (by rw[U Hol];omega);have uU:=g.frozen k;go_wp2_with fail;refine(Fj _ _ (Ta.below f) J).mono ?_;rintro e C ⟨rfl,rfl⟩;go_wp2_with fail;refine(Fj _ _ (Ta.below f) J).mono ?_;rintro e C ⟨rfl,rfl⟩;go_wp2;have m:=U HB;have q1:dg (trim a) (k+h)=dg b k:=by rw[m.1,CF]
    have T:dg (trim a) (k+h+1)=dg b (k+1):=by rw[m.1];congr 1;omega
    rw[q1]at uW;rw[T]at S;rw[q1,T,kQ uW S L];have vg:=g.set_ k ((dg b k+dg b (k+1)*4294967296)/2 ^ t%4294967296);go_roundw
    case rel=>exact⟨k+1,_,by omega,by go_num,by rw[AK];exact U Hol,j.set _ (BT _ J),PQ (Zw J) F (by rw[U Hol];omega) (U Q) rfl,vg,f.setCell (AA _) _⟩
    case measure=>simp[intOf];omega
   .have K:k=p-h:=J
    subst K;have D:=g.own j (AA _) (by rw[U Hol];unfold maxLen;omega);rw[U Hol]at D;go_wp2_with fail;refine(Mg _ D.toIn).mono ?_;rintro e C ⟨rfl,rfl⟩;go_wp2_with fail;go_ret;refine⟨_,_,trim o,rfl,L8 j,?_,D.trim,f⟩;have m:=U HB;rw[Ku,UK (b:=b) (by rw[m.2.1];exact U Hol) (by rw[m.2.1];exact U Q),m.2.2,U Hh,U Ht,<-NV]
theorem lP{A:YY}{n c:Nat}{a:List Nat}(z:Int)(w:YN)(b:In w A n c a)(e:n<=1099511627776)(f: -9223372036854775808<=z)(g:z<=9223372036854775807):
 YG XW 334 #[.slice A n c,I z] w (oQ w (De (val a) z)):=by
 unfold De
 by_cases h:0<=z
 .obtain⟨s,rfl⟩:=CY h;rw[YS h,CO];exact IB s w b e J
 .rw[V h];exact Z_ (-z).toNat z w b e J J J
def pl(l:List Nat)(k i:Nat):Nat:=lo (l.drop k) i
theorem dC(l:List Nat)(k:Nat):pl l k 0=0:=O5 _
theorem Ys(l:List Nat)(k i:Nat):pl l k (i+1)=pl l k i+dg l (k+i)*pw i:=by
 rw[pl,Lq,Sa];rfl
theorem oL{a b:List Nat}{k i:Nat}(h:∀j,k<=j->j<k+i->dg a j=dg b j):pl a k i=pl b k i:=
 QX λj c=>by rw[Sa,Sa];exact h _ J J
theorem Yt{l:List Nat}{k i d:Nat}(h:k+i<l.length):pl (l.set (k+i) d) k (i+1)=pl l k i+d*pw i:=by
 rw[Ys,Rj,YS ⟨rfl,h⟩];congr 1;exact oL λj a b=>by rw[Rj,V J]
theorem PN{l:List Nat}(h:Ny l)(k i:Nat):pl l k i<pw i:=J4 (h.drop k) i
theorem JB{l:List Nat}{k i:Nat}(h:∀j,k+i<=j->dg l j=0):val (l.drop k)=pl l k i:=
 bA λj a=>by rw[Sa];exact h _ J
theorem fo{a c b v2 p f rv q r uW uU:Nat}(m:uW=(a*4294967296+c)*p+f)(g:uU=(b*4294967296+v2)*p+rv)(k:f<p)
 (e:uW<4294967296*uU) (o:q*b+r=a) (h:4294967296<=q\/r*4294967296+c<q*v2):uW<q*uU:=by
 rcases h with h|h
 .exact AW e (AB _ h)
 .have l:a*4294967296+c+1<=q*(b*4294967296+v2):=by
   rw[Nat.mul_add,<-Nat.mul_assoc];omega
  have j:(a*4294967296+c+1)*p<=q*(b*4294967296+v2)*p:=AB _ l;rw[g,m,Nat.mul_add,<-Nat.mul_assoc];rw[AQ _ 1]at j;omega
theorem gi{a c b v2 p k rv q r uW uU:Nat}(w:uW=(a*4294967296+c)*p+k)(f:uU=(b*4294967296+v2)*p+rv)(g:rv<p)(e:1<=b)
 (v:q*b+r=a) (j:q<4294967296) (h:q*v2<=r*4294967296+c):q*uU<=uW+uU:=by
 have l:q*(b*4294967296+v2)<=a*4294967296+c:=by
  rw[Nat.mul_add,<-Nat.mul_assoc];omega
 have o:q*(b*4294967296+v2)*p<=(a*4294967296+c)*p:=AB _ l;have s:q*rv<=4294967296*p:=DF J J;have u:1*4294967296*p<=b*4294967296*p:=AB _ (AB _ e);have t:uU=b*4294967296*p+v2*p+rv:=by rw[f,AQ]
 have m:q*uU=q*(b*4294967296+v2)*p+q*rv:=by rw[f,Nat.mul_add,<-Nat.mul_assoc]
 omega
theorem aO{a c b v2 p g rv uW uU:Nat}(l:uW=(a*4294967296+c)*p+g)(m:uU=(b*4294967296+v2)*p+rv)(v:g<p)(o:rv<p)(s:c<4294967296)(w:v2<4294967296)
 (r:2147483648<=b) (u:uW<4294967296*uU):
 uW<(a/b+1)*uU/\a/b*b+a%b=a/\a<b*4294967296+4294967296/\a/b<=4294967297:=by
 have e:a/b*b+a%b=a:=Nat.div_add_mod' a b;have x:0<p:=J
 have t:a<b*4294967296+4294967296:=by
  have k:a*4294967296*p<=uW:=by rw[l,AQ];omega
  have h:4294967296*uU<4294967296*((b*4294967296+4294967296)*p):=by
   apply Nat.mul_lt_mul_of_pos_left _ J;have j:(b*4294967296+v2+1)*p<=(b*4294967296+4294967296)*p:=AB _ J;rw[AQ _ 1]at j;omega
  have f:(4294967296*p)*a<(4294967296*p)*(b*4294967296+4294967296):=by grind
  exact Nat.lt_of_mul_lt_mul_left f
 refine⟨?_,e,t,?_⟩
 .have k:a+1<=(a/b+1)*b:=by
   have:=BT a (show b>0 by omega);rw[AQ];omega
  have h:(a+1)*(4294967296*p)<=(a/b+1)*b*(4294967296*p):=AB _ k;have j:(a/b+1)*uU=(a/b+1)*b*(4294967296*p)+(a/b+1)*(v2*p+rv):=by rw[m];grind
  have f:(c+1)*p<=4294967296*p:=AB _ J;have y:uW=a*(4294967296*p)+c*p+g:=by rw[l];grind
  rw[AQ]at h f;omega
 .have:a/b<4294967298:=by
   rw[BX J];omega
  omega
def Cj(uW uU q:Nat):Prop:=q<4294967296/\uW<(q+1)*uU/\q*uU<=uW+uU
theorem eS{l:List Nat}{n:Nat}:lo l (n+2)=(dg l (n+1)*4294967296+dg l n)*pw n+lo l n:=by
 rw[show n+2=(n+1)+1 by omega,Lq,Lq,Mr]
 grind
theorem XN{l:List Nat}{k n:Nat}:pl l k (n+3)=((dg l (k+(n+2))*4294967296+dg l (k+(n+1)))*4294967296+dg l (k+n))*pw n+pl l k n:=by
 rw[show n+3=((n+1)+1)+1 by omega,Ys,Ys,Ys];simp only[Mr]
 grind
theorem eA{uW P v:List Nat}{k i q c y d b:Nat}(f:k+i<uW.length)(g:dg uW (k+i)=dg P (k+i))
 (h:pl uW k i+q*lo v i=pl P k i+(y+c)*pw i) (a:d+(c+q*dg v i)%4294967296+y=dg uW (k+i)+b*4294967296):
 pl (uW.set (k+i) d) k (i+1)+q*lo v (i+1)=pl P k (i+1)+(b+(c+q*dg v i)/4294967296)*pw (i+1):=by
 rw[Yt f,Lq,Ys,Mr,<-g];have e:=BE (c+q*dg v i) 4294967296;generalize (c+q*dg v i)%4294967296=m at e a;generalize (c+q*dg v i)/4294967296=t at e ⊢;have l:(d+m+y)*pw i=(dg uW (k+i)+b*4294967296)*pw i:=by rw[a]
 have j:(4294967296*t+m)*pw i=(c+q*dg v i)*pw i:=by rw[e]
 grind
theorem kE{uW P v:List Nat}{k n q c y d a:Nat}(e:k+n<uW.length)(f:dg uW (k+n)=dg P (k+n))
 (h:pl uW k n+q*lo v n=pl P k n+(y+c)*pw n) (b:d+c+y=dg uW (k+n)+a*4294967296):
 pl (uW.set (k+n) d) k (n+1)+q*lo v n=pl P k (n+1)+a*pw (n+1):=by
 rw[Yt e,Ys,Mr,<-f];have g:(d+c+y)*pw n=(dg uW (k+n)+a*4294967296)*pw n:=by rw[b]
 grind
theorem fE{uW P v:List Nat}{k i y:Nat}(a:k+i<uW.length)(b:dg uW (k+i)=dg P (k+i))
 (h:pl uW k i+y*pw i=pl P k i+lo v i):
 pl (uW.set (k+i) ((y+(dg uW (k+i)+dg v i))%4294967296)) k (i+1)+(y+(dg uW (k+i)+dg v i))/4294967296*pw (i+1)=pl P k (i+1)+lo v (i+1):=by
 rw[Yt a,Lq,Ys,Mr,<-b];have e:=BE (y+(dg uW (k+i)+dg v i)) 4294967296;generalize (y+(dg uW (k+i)+dg v i))%4294967296=m at e ⊢;generalize (y+(dg uW (k+i)+dg v i))/4294967296=t at e ⊢
 grind
theorem il{uW P v:List Nat}{k n y:Nat}(a:k+n<uW.length)(b:dg uW (k+n)=dg P (k+n))
 (h:pl uW k n+y*pw n=pl P k n+lo v n):
 ∃z,pl (uW.set (k+n) ((dg uW (k+n)+y)%4294967296)) k (n+1)+z*pw (n+1)=pl P k (n+1)+lo v n:=by
 refine⟨(dg uW (k+n)+y)/4294967296,?_⟩;rw[Yt a,Ys,Mr,<-b];have e:=BE (dg uW (k+n)+y) 4294967296;generalize (dg uW (k+n)+y)%4294967296=m at e ⊢;generalize (dg uW (k+n)+y)/4294967296=t at e ⊢
 grind
theorem fe{P P' uU q:Nat}(b:Cj P uU q)(h:P'+q*uU=P):P'<uU:=by
 have a:=b.2.1;rw[AQ]at a;omega
theorem gI{P P' P2 uU q B z:Nat}(f:Cj P uU q)(k:P'<B)(a:P<B)(c:P2<B)(h:P'+q*uU=P+B)(j:P2+z*B=P'+uU):
 1<=q/\P2<uU/\P2+(q-1)*uU=P:=by
 have g:=f.2.2;have l:1<=q:=by
  rcases BD q with e|e
  .subst e;omega
  .exact e
 obtain⟨m,rfl⟩:∃m,q=m+1:=⟨q-1,by omega⟩
 rw[AQ]at h g;have b:z=1:=by
  rcases Nat.lt_trichotomy z 1 with e|e|e
  .have:z=0:=J
   subst this;omega
  .exact e
  .have:2*B<=z*B:=AB _ e;omega
 subst b;rw[Nat.add_sub_cancel];omega
theorem fR{uW U' Q:List Nat}{k n q uU A:Nat}(b:k<Q.length)(f:∀j,k+(n+1)<=j->dg uW j=0)(c:∀j,k+(n+1)<=j->dg U' j=0)(a:∀j,j<k->dg U' j=dg uW j)
 (l:pl U' k (n+1)+q*uU=pl uW k (n+1)) (m:val (Q.drop (k+1))*pw (k+1)*uU+val uW=A):
 val ((Q.set k q).drop k)*pw k*uU+val U'=A:=by
 have o:=J5 uW k;have g:=J5 U' k;rw[JB f,<-QX a]at o;rw[JB c]at g;have h:val ((Q.set k q).drop (k+1))=val (Q.drop (k+1)):=I6 λj=>by
  rw[Sa,Sa,Rj,V J]
 rw[Vd (by rw[AK];exact b),h,Rj,YS ⟨rfl,b⟩];rw[Mr]at m;have e:(pl U' k (n+1)+q*uU)*pw k=pl uW k (n+1)*pw k:=by rw[l]
 grind
theorem Gl:AD 0=0:=Zd
theorem Ek:∀(f x:Nat),x<2 ^ f->f<=64->x≠0->1<=AD x/\2 ^ (AD x-1)<=x/\x<2 ^ AD x
 |0,x,h,_,b=>by simp at h;omega
 | f+1,x,h,e,b=>by
  have a:x<2 ^ 64:=AW h (AX J e);rw[Lib.bitLen_half x b a]
  by_cases g:x/2=0
  .have c:x=1:=J
   subst c;rw[show 1/2=0 from rfl,Gl]
   decide
  .obtain⟨j,l,k⟩:=Ek f (x/2) (by rw[BP]at h;omega) J g;refine⟨by omega,?_,?_⟩
   .rw[show 1+AD (x/2)-1=(AD (x/2)-1)+1 by omega,BP];omega
   .rw[CF,BP];omega
def B_(v:Nat):Nat:=if v=0 then 0 else Nat.log2 v+1
theorem VV{v k:Nat}(c:2 ^ k<=v)(f:v<2 ^ (k+1)):Nat.log2 v=k:=by
 have a:v≠0:=by have:=T5 k;omega
 have b:=Nat.log2_self_le a;have e:= @Nat.lt_log2_self v;rcases Nat.lt_trichotomy (Nat.log2 v) k with h|h|h
 .have:=AX (show 2>0 by omega) (show Nat.log2 v+1<=k by omega);omega
 .exact h
 .have:=AX (show 2>0 by omega) (show k+1<=Nat.log2 v by omega);omega
theorem KH{l:List Nat}{n:Nat}(a:Ny l)(t:l.length=n+1)(e:dg l n≠0):
 B_ (val l)=32*n+AD (dg l n):=by
 have c:=a n;obtain⟨u,b,f⟩:=Ek 32 (dg l n) c J e;have r:val l=lo l n+dg l n*pw n:=by rw[<-Lq,Mz J]
 have o:=J4 a n;have j:2 ^ (AD (dg l n)-1)*pw n<=dg l n*pw n:=AB _ b;have g:(dg l n+1)*pw n<=2 ^ AD (dg l n)*pw n:=AB _ f;rw[AQ]at g;have s:=Z9 n;have m:2 ^ (AD (dg l n)-1)*pw n=2 ^ (32*n+(AD (dg l n)-1)):=by rw[V0,<-BV];congr 1;omega
 have p:2 ^ AD (dg l n)*pw n=2 ^ (32*n+(AD (dg l n)-1)+1):=by rw[V0,<-BV];congr 1;omega
 have h:val l≠0:=by
  have:=T5 (32*n+(AD (dg l n)-1));omega
 rw[B_,V h,VV (k:=32*n+(AD (dg l n)-1)) J J];omega
theorem KM{l:List Nat}{n:Nat}(c:Ny l)(w:l.length=n+1)(m:dg l n≠0):
 2147483648*pw n<=val l*2 ^ (32-AD (dg l n))/\val l*2 ^ (32-AD (dg l n))<pw (n+1):=by
 have p:=c n;obtain⟨t,j,o⟩:=Ek 32 (dg l n) p J m;have f:AD (dg l n)<=32:=by
  rcases BC 32 (AD (dg l n))with h|h
  .have:=AX (show 2>0 by omega) (show 32<=AD (dg l n)-1 by omega);have e:(2:Nat) ^ 32=4294967296:=Zd
   omega
  .exact h
 have v:val l=lo l n+dg l n*pw n:=by rw[<-Lq,Mz J]
 have s:=J4 c n;have r:2 ^ (AD (dg l n)-1)*pw n<=dg l n*pw n:=AB _ j;have k:(dg l n+1)*pw n<=2 ^ AD (dg l n)*pw n:=AB _ o;rw[AQ]at k;have u:=Z9 n;have a:2 ^ (AD (dg l n)-1)*pw n<=val l:=J
 have b:val l<2 ^ AD (dg l n)*pw n:=J
 constructor
 .have g:2 ^ (AD (dg l n)-1)*pw n*2 ^ (32-AD (dg l n))<=val l*2 ^ (32-AD (dg l n)):=AB _ a;have e:2 ^ (AD (dg l n)-1)*pw n*2 ^ (32-AD (dg l n))=2147483648*pw n:=by
   rw[Nat.mul_right_comm,<-BV,show AD (dg l n)-1+(32-AD (dg l n))=31 by omega]
  omega
 .have g:val l*2 ^ (32-AD (dg l n))<2 ^ AD (dg l n)*pw n*2 ^ (32-AD (dg l n)):=Nat.mul_lt_mul_of_pos_right b (T5 _);have e:2 ^ AD (dg l n)*pw n*2 ^ (32-AD (dg l n))=pw (n+1):=by
   rw[Nat.mul_right_comm,<-BV,show AD (dg l n)+(32-AD (dg l n))=32 by omega,Mr,CE]
  omega
theorem Z3{x:Nat}(h:x<4294967296):AD x<=32:=Lib.bitLen_le x 32 J h
theorem N_{l:List Nat}{n:Nat}(b:Ny l)(f:l.length=n+1)(h:2147483648*pw n<=val l):2147483648<=dg l n:=by
 have e:val l=lo l n+dg l n*pw n:=by rw[<-Lq,Mz J]
 have c:=J4 b n;rcases BC (dg l n) 2147483648 with a|a
 .have:(dg l n+1)*pw n<=2147483648*pw n:=AB _ a;rw[AQ]at this;omega
 .exact a
theorem aX{v:Nat}:B_ v=0↔v=0:=by
 unfold B_;split<;>omega
def T3:R->Nat
 | []=>0
 |b::l=>(b.toNat-48)+10*T3 l
def Fp(l:R):Prop:=∀b∈l,48<=b.toNat/\b.toNat<58
def chr(d:Nat):UInt8:=UInt8.ofNat (48+d)
def WQ:Nat->Nat->R
 |0,_=>[]
 |f+1,n=>if n=0 then []else chr (n%10)::WQ f (n/10)
def Hj(n:Nat):R:=WQ n n
def Pr(n:Nat):R:=if n=0 then [48]else(Hj n).reverse
theorem V7{d:Nat}(h:d<10):(chr d).toNat=48+d:=by
 unfold chr;rw[UInt8.toNat_ofNat'];omega
theorem oP{b:UInt8}(a:48<=b.toNat):chr (b.toNat-48)=b:=by
 unfold chr;rw[show 48+(b.toNat-48)=b.toNat by omega];exact UInt8.ofNat_toNat
theorem NZ:∀f g n,n<=f->n<=g->WQ f n=WQ g n
 |0,g,n,h,_=>by
  have:n=0:=J
  subst this;cases g<;>simp[WQ]
 |f+1,0,n,_,h=>by
  have:n=0:=J
  subst this;simp[WQ]
 |f+1,g+1,n,a,b=>by
  simp only[WQ];split
  .rfl
  .rw[NZ f g (n/10) J J]
theorem B4:Hj 0=[]:=rfl
theorem Sb{n:Nat}(h:n≠0):Hj n=chr (n%10)::Hj (n/10):=by
 obtain⟨m,rfl⟩:∃m,n=m+1:=⟨n-1,by omega⟩
 unfold Hj;rw[WQ,V h,NZ m ((m+1)/10) ((m+1)/10) J J]
theorem Fp.nil:Fp []:=λ_ h=>by cases h
theorem Fp.cons{b:UInt8}{l:R}(c:48<=b.toNat/\b.toNat<58)(h:Fp l):Fp (b::l):=by
 intro x a;rcases DJ.1 a with rfl|a
 .exact c
 .exact h x a
theorem Fp.append{a b:R}(e:Fp a)(f:Fp b):Fp (a++b):=by
 intro x c;rcases BR.1 c with c|c
 .exact e x c
 .exact f x c
theorem uP{d:Nat}(h:d<10):Fp [chr d]:=Fp.cons (by rw[V7 h];omega) Fp.nil
theorem FO(a b:R):T3 (a++b)=T3 a+10 ^ a.length*T3 b:=by
 induction a with
 |nil=>simp[T3]
 |cons x l c=>simp only[DQ,T3,c,CT,BP];grind
theorem JX(b:UInt8):T3 [b]=b.toNat-48:=by simp[T3]
theorem jl:∀n,Fp (Hj n):=by
 intro n;induction n using Nat.strongRecOn with
 | _ n a=>
  by_cases h:n=0
  .subst h;exact Fp.nil
  .rw[Sb h];exact Fp.cons (by rw[V7 J];omega) (a _ J)
theorem fm:∀n,T3 (Hj n)=n:=by
 intro n;induction n using Nat.strongRecOn with
 |_ n a=>
  by_cases h:n=0
  .subst h;rfl
  .rw[Sb h,T3,a _ J,V7 J];omega
theorem Wy{b:UInt8}{t:R}(h:t≠[]):(b::t).getLast? =t.getLast? :=by
 cases t with
 |nil=>exact absurd rfl h
 |cons c u=>exact List.getLast?_cons_cons
theorem XK{l:R}(h:Fp l)(g:l≠[])(a:l.getLast? ≠some 48):T3 l≠0:=by
 induction l with
 |nil=>exact absurd rfl g
 | cons b t f=>
  by_cases c:t=[]
  .subst c;have k:=h b Zs;have:b≠48:=by intro e;subst e;simp at a
   have m:b.toNat≠48:=by intro e;exact this (UInt8.toNat_inj.1 e)
   rw[JX];omega
  .have:=f (λx j=>h x (by simp[j])) c (by rw[Wy c]at a;exact a);rw[T3];omega
theorem MH{l:R}(h:Fp l)(c:l.getLast? ≠some 48):Hj (T3 l)=l:=by
 induction l with
 |nil=>rfl
 |cons b t f=>
  have a:=XK h Zs c;have j:=h b Zs;rw[Sb a];rw[T3];have g:(b.toNat-48+10*T3 t)%10=b.toNat-48:=J
  have m:(b.toNat-48+10*T3 t)/10=T3 t:=J
  rw[g,m,oP j.1]
  by_cases e:t=[]
  .subst e;rfl
  .rw[f (λx k=>h x (by simp[k])) (by rw[Wy e]at c;exact c)]
theorem ei:∀n,(Hj n).getLast? ≠some 48:=by
 intro n;induction n using Nat.strongRecOn with
 | _ n b=>
  by_cases h:n=0
  .subst h;simp[B4]
  .rw[Sb h]
   by_cases a:n/10=0
   .rw[a,B4];intro e;have c:chr (n%10)=48:=by simpa using e
    have:=V7 (show n%10<10 by omega);rw[c]at this;have:n%10=0:=by simpa using this
    omega
   .have:=b (n/10) J;rw[Wy (by rw[Sb a];simp)];exact this
theorem FN{n k:Nat}(h:n<10 ^ k):(Hj n).length<=k:=by
 induction k generalizing n with
 | zero => have:n=0:=by simpa using h
           subst this;simp[B4]
 | succ k b=>
  by_cases a:n=0
  .subst a;simp[B4]
  .rw[Sb a,CT];have:=b (n:=n/10) (by rw[BP]at h;omega);omega
theorem TB(n:Nat):Fp (Pr n):=by
 unfold Pr;split
 .exact Fp.cons Zd Fp.nil
 .intro b a;exact jl n b (List.mem_reverse.1 a)
theorem bB(k:Nat):2 ^ k<=10 ^ k:=Nat.pow_le_pow_left J k
theorem eP{d x a len n:Nat}(h:d+10 ^ len*x=a)(c:1<=x)(e:a<2 ^ (32*n)):len<32*n:=by
 have f:10 ^ len*1<=10 ^ len*x:=DL _ c;have g:=bB len;rcases BC len (32*n)with b|b
 .exact b
 .have:=AX (show 2>0 by omega) b;omega
theorem jB{bs:R}{r k q a:Nat}(h:T3 bs+10 ^ bs.length*(r+10 ^ (k+1)*q)=a):
 T3 (bs++ [chr (r%10)])+10 ^ (bs++ [chr (r%10)]).length*(r/10+10 ^ k*q)=a:=by
 rw[FO,JX,V7 J,List.length_append,List.length_singleton,BP];rw[BP]at h;have e:=BE r 10;rw[show 48+r%10-48=r%10 by omega];generalize r%10=x at e ⊢;generalize r/10=y at e ⊢;subst e;rw[<-h]
 grind
theorem aE(l:R):T3 (l++ [48])=T3 l:=by
 rw[FO,JX];simp
def gx(l:R):Nat:=T3 l.reverse
theorem UR(l:R)(b:UInt8):gx (l++ [b])=10*gx l+(b.toNat-48):=by
 unfold gx;rw[List.reverse_append];simp[T3];omega
def JY(l:R):Bool:=l.all λb=>decide (48<=b.toNat)&&decide (b.toNat<58)
theorem Aw(l:R):JY l=true↔Fp l:=by
 simp[JY,Fp,AE]
def L3(l:R):Int:=
 if JY l=false then 3 else if l=[]\/(l.head? =some 48/\1<l.length)then 3 else if 1000<l.length then 5 else 0
def O0(l:R):Nat:=if L3 l=0 then gx l else 0
theorem ZM{n:Nat}(h:(Pr n).length<=1000):L3 (Pr n)=0/\O0 (Pr n)=n:=by
 have e:JY (Pr n)=true:=(Aw _).2 (TB n);have g:¬(Pr n=[]\/((Pr n).head? =some 48/\1<(Pr n).length)):=by
  unfold Pr
  by_cases c:n=0
  .simp[c]
  .rw[V c];have f:=ei n;have b:Hj n≠[]:=by rw[Sb c];simp
   rintro(a|⟨a,_⟩)
   .exact b (by simpa using a)
   .rw[List.head?_reverse]at a;exact f a
 have a:L3 (Pr n)=0:=by
  unfold L3;rw[V (by simp[e]),V g,V J]
 refine⟨a,?_⟩;unfold O0;rw[YS a];unfold Pr gx;split
 .subst_vars;rfl
 .rw[List.reverse_reverse,fm]
theorem LX{l:R}(h:L3 l=0):Pr (O0 l)=l/\Fp l/\l.length<=1000/\l≠[]:=by
 have r:=h;unfold L3 at h;split at h
 .omega
 .rename_i o;split at h
  .omega
  .rename_i k;split at h
   .omega
   .rename_i s;have j:Fp l:=(Aw l).1 (by simpa using o);have a:l≠[]:=λe=>k (Or.inl e)
    refine⟨?_,j,by omega,a⟩;unfold O0;rw[YS r];unfold Pr gx
    by_cases g:l.head? =some 48
    .have f:l.length=1:=by
      have:0<l.length:=DK.2 a;rcases BC 1 l.length with c|c
      .exact absurd (Or.inr ⟨g,c⟩) k
      .omega
     obtain⟨b,rfl⟩:=List.length_eq_one_iff.1 f;have:b=48:=by simpa using g
     subst this
     rfl
    .have f:Fp l.reverse:=λb p=>j b (List.mem_reverse.1 p)
     have c:l.reverse.getLast? ≠some 48:=by rw[List.getLast?_reverse];exact g
     have m:=XK f (by simpa using a) c;rw[V m,MH f c,List.reverse_reverse]
theorem NG{q r x a uW uU:Nat}(c:1<=q)(h:q*x+r=a)(b:uW<q*uU):(q-1)*x+(r+x)=a/\uW<(q-1+1)*uU:=by
 obtain⟨m,rfl⟩:∃m,q=m+1:=⟨q-1,by omega⟩
 rw[Nat.add_sub_cancel];rw[AQ]at h;exact⟨by omega,b⟩
theorem mO{UA VA:YY}{m uc vc:Nat}{u v:List Nat}(w:YN)(C:In w UA (m+3) uc u)(ve:In w VA (m+2) vc v)(P:2147483648<=dg v (m+1))(g:val u<4294967296*val v):
 YG XW 335 #[.slice UA (m+3) uc,.slice VA (m+2) vc] w λe w'=>∃q:Nat,e= .returned (.int .u64 q)/\Cj (val u) (val v) q/\Qd w w':=by
 have hn:=C.lenI;obtain⟨ad,hA,c0⟩:=C.at_ (k:=m+2) J;obtain⟨ad1,L,c1⟩:=C.at_ (k:=m+1) J;obtain⟨ad2,uY,c2⟩:=C.at_ (k:=m) J;obtain rfl:ad=ad1:=by rw[hA]at L;injection L
 obtain rfl:ad=ad2:=by rw[hA]at uY;injection uY
 clear L uY;obtain⟨bd,hB,d1⟩:=ve.at_ (k:=m+1) J;obtain⟨bd1,Q,d2⟩:=ve.at_ (k:=m) J;obtain rfl:bd=bd1:=by rw[hB]at Q;injection Q
 clear Q;have x0:=C.dig (m+2);have x1:=C.dig (m+1);have x2:=C.dig m;have y1:=ve.dig (m+1);have y2:=ve.dig m;have B:val u=((dg u (m+2)*4294967296+dg u (m+1))*4294967296+dg u m)*pw m+pl u 0 m:=by
  have:=XN (l:=u) (k:=0) (n:=m);rw[CD,CD,CD]at this;rw[<-this,pl,DT,Mz (by rw[C.len];exact AA _)]
 have vg:val v=(dg v (m+1)*4294967296+dg v m)*pw m+lo v m:=by
  rw[<-eS,Mz (by rw[ve.len];exact AA _)]
 have o:=PN C.dig 0 m;have j:=J4 ve.dig m;obtain⟨b,c⟩:∃b,b=dg u (m+2)*4294967296+dg u (m+1):=⟨_,rfl⟩
 have K:bits .or .u64 ((dg u (m+2):Int)*4294967296) (dg u (m+1):Int)=(b:Int):=by rw[c];exact HO x0 x1
 rw[<-c]at B;obtain⟨A,uR,uT,W⟩:=aO B vg o j x2 y2 P g;have ht64:(b:Int)<=18446744073709551615:=J
 have F:=Kv (And.intro B (And.intro vg (And.intro o (And.intro j (And.intro g (And.intro A (And.intro uR (And.intro uT (And.intro W c)))))))));clear B vg o j g A uR uT W c;subst hA;subst hB;obtain⟨n,s⟩:∃n,n=m+2:=⟨_,rfl⟩
 obtain⟨k,y⟩:∃k,k=m+1:=⟨_,rfl⟩
 rw[show m+3=n+1 by omega,<-s];rw[<-s]at c0 K;rw[<-y]at c1 d1 y1 K P;have b1:(m:Int)<n:=J
 have b2:(k:Int)<n:=J
 have b3:(n:Int)<9223372036854775807:=J
 have b4:(n:Int)<(n:Int)+1:=J
 have b5:(m:Int)<(n:Int)+1:=J
 have b6:(k:Int)<(n:Int)+1:=J
 have e1:YA.wrap ((n:Int)-1)=k:=by rw[DU _ J];omega
 have e2:YA.wrap ((n:Int)-2)=m:=by rw[DU _ J];omega
 obtain⟨q0,p⟩:∃q,q=b/dg v k:=⟨_,rfl⟩
 obtain⟨r0,t⟩:∃r,r=b%dg v k:=⟨_,rfl⟩
 have hr0b:r0<dg v k:=by rw[t];exact BT _ J
 have hq0b:q0<=4294967297:=by rw[p,y];exact(U F).2.2.2.2.2.2.2.2.1
 have f1:XZ.wrap (dg u n:Int)=(dg u n:Int):=by rw[Lg,s];omega
 have f2:XZ.wrap ((dg u n:Int)*4294967296)=(dg u n:Int)*4294967296:=by rw[Lg,s];omega
 have f3:XZ.wrap (dg u k:Int)=(dg u k:Int):=by rw[Lg,y];omega
 have f4:(b:Int).tdiv (dg v k:Int)=(q0:Int):=by rw[CL J,p,CW]
 have f5:XZ.wrap (q0:Int)=(q0:Int):=by rw[Lg];omega
 have f6:(b:Int).tmod (dg v k:Int)=(r0:Int):=by rw[CM J,t,Int.natCast_emod]
 have f7:XZ.wrap (dg v k:Int)=(dg v k:Int):=by rw[Lg];omega
 have F2:=Kv (And.intro s (And.intro y (And.intro p t)));clear s y p t;clear C ve hn;go_enter func335,ntmps335;go_wp2_with fail;go_quiet (fail);go_wp2_with fail;go_quiet (fail);go_wp2_with fail;clear f1 f2 f3 f4 f5 f6 K;have G:Hid (∀q r:Nat,q*dg v k+r=b->(4294967296<=q\/r*4294967296+dg u m<q*dg v m)->val u<q*val v):=by
  intro q r D T;obtain⟨_,y,_,_⟩:=U F2;obtain⟨B,vg,o,j,g,A,uR,uT,W,c⟩:=U F;rw[y]at D;exact fo B vg o g D T
 have vf:Hid (∀q r:Nat,q*dg v k+r=b->val u<(q+1)*val v->q<4294967296->q*dg v m<=r*4294967296+dg u m->Cj (val u) (val v) q):=by
  intro q r D T h3 h4;obtain⟨_,y,_,_⟩:=U F2;obtain⟨B,vg,o,j,g,A,uR,uT,W,c⟩:=U F;rw[y]at D P;exact⟨h3,T,gi B vg j J D h3 h4⟩
 have uS:Hid (∀q r:Nat,q*dg v k+r=b->val u<(q+1)*val v->4294967296<=r->Cj (val u) (val v) q):=by
  intro q r D T h3;have h4:q<4294967296:=by
   obtain⟨_,y,_,_⟩:=U F2;obtain⟨B,vg,o,j,g,A,uR,uT,W,c⟩:=U F;rw[y]at D;rcases BC q 4294967296 with h|h
   .exact h
   .have:4294967296*dg v (m+1)<=q*dg v (m+1):=AB _ h;omega
  refine(U vf) q r D T h4 ?_;have:=Am h4 y2;omega
 go_loopw [7,8] (λsq sr wr=>∃q r:Nat,sq= .int .u64 q/\sr= .int .u64 r/\q<=4294967297/\r<4294967296/\Hid (q*dg v k+r=b/\val u<(q+1)*val v)/\Qd w wr) (λsq _ _=>(intOf sq).toNat)
 case atStart=>
  obtain⟨_,y,p,t⟩:=U F2;obtain⟨B,vg,o,j,g,A,uR,uT,W,c⟩:=U F;exact⟨q0,r0,rfl,rfl,hq0b,by omega,(by rw[p,t,y];exact⟨uR,A⟩),(Qd.of _ _).drewN _⟩
 case round=>
  obtain⟨q,r,rfl,rfl,hq,hr,uU,⟨z,rfl⟩⟩:=hrel
  by_cases hbig:4294967296<=q
  .have a:=(U G) q r (U uU).1 (Or.inl hbig);have N:1<=q:=J
   have f:Hid ((q-1)*dg v k+(r+dg v k)=b/\val u<(q-1+1)*val v):=NG N (U uU).1 a;have Hdown:=Kv a;clear a;have g0:((q:Int)/4294967296 !=0)=true:=by rw[bne_iff_ne];omega
   by_cases uZ:r+dg v k<4294967296
   .have A:(((r:Int)+(dg v k:Int))/4294967296 !=0)=false:=by simp;omega
    go_wp2_with fail;go_quiet (fail);go_wp2_with fail;go_roundw
    case rel=>exact⟨q-1,r+dg v k,congrArg (BJ .u64) J,congrArg (BJ .u64) J,by omega,uZ,f,Qd.of _ _⟩
    case measure=>simp[intOf];omega
   .have A:(((r:Int)+(dg v k:Int))/4294967296 !=0)=true:=by rw[bne_iff_ne];omega
    go_wp2_with fail;go_quiet (fail);go_wp2_with fail;go_ret;exact⟨q-1,congrArg (λx=>Ending.returned (BJ .u64 x)) J,(U uS) _ _ (U f).1 (U f).2 J,Qd.of _ _⟩
  .have g0:((q:Int)/4294967296 !=0)=false:=by simp;omega
   obtain⟨uX,uW⟩:∃uX,uX=q*dg v m:=⟨_,rfl⟩
   obtain⟨uV,S⟩:∃uV,uV=r*4294967296+dg u m:=⟨_,rfl⟩
   have hXb:=Am (show q<4294967296 by omega) y2;have D:XZ.wrap ((q:Int)*(dg v m:Int))=(uX:Int):=by
    rw[uW,BS,Lg,<-BS];omega
   have T:XZ.wrap ((r:Int)*4294967296)=(r:Int)*4294967296:=by rw[Lg];omega
   have h3:bits .or .u64 ((r:Int)*4294967296) (dg u m:Int)=(uV:Int):=by rw[S];exact HO hr x2
   have h4:XZ.wrap (dg v m:Int)=(dg v m:Int):=by rw[Lg];omega
   have h5:XZ.wrap (dg u m:Int)=(dg u m:Int):=by rw[Lg];omega
   have HX:=Kv (And.intro uW S)
   by_cases hcmp:uV<uX
   .have a:=(U G) q r (U uU).1 (Or.inr (by rw[<-uW,<-S];exact hcmp));have N:1<=q:=by
     rcases BD q with e|e
     .subst e;omega
     .exact e
    clear uW S hXb;have f:Hid ((q-1)*dg v k+(r+dg v k)=b/\val u<(q-1+1)*val v):=NG N (U uU).1 a;have Hdown:=Kv a;clear a
    by_cases uZ:r+dg v k<4294967296
    .have A:(((r:Int)+(dg v k:Int))/4294967296 !=0)=false:=by simp;omega
     go_wp2_with fail;go_quiet (fail);go_wp2_with fail;go_roundw
     case rel=>exact⟨q-1,r+dg v k,congrArg (BJ .u64) J,congrArg (BJ .u64) J,by omega,uZ,f,Qd.of _ _⟩
     case measure=>simp[intOf];omega
    .have A:(((r:Int)+(dg v k:Int))/4294967296 !=0)=true:=by rw[bne_iff_ne];omega
     go_wp2_with fail;go_quiet (fail);go_wp2_with fail;go_ret;exact⟨q-1,congrArg (λx=>Ending.returned (BJ .u64 x)) J,(U uS) _ _ (U f).1 (U f).2 J,Qd.of _ _⟩
   .have hfin:Hid (Cj (val u) (val v) q):=(U vf) q r (U uU).1 (U uU).2 J (by rw[<-uW,<-S];omega);clear uW S hXb;go_wp2_with fail;go_quiet (fail);go_wp2_with fail;go_ret;exact⟨q,rfl,U hfin,(Qd.of _ _).drewN _⟩
def Jw(w:YN)(g t cap:Nat)(l:List Nat):Prop:=
 ∃a,w.heap[g]? =some (.cells a t (0,0))/\a.size=cap/\l.length<=cap/\a.toList.take l.length=Pa l
section
variable{w w':YN}{g t cap:Nat}{l:List Nat}
theorem Jw.cell(h:Jw w g t cap l){i:Nat}(hi:i<l.length):w.cell? ⟨g,i,none⟩=some (.int .u32 (dg l i:Int)):=by
 obtain⟨a,b,e,f,c⟩:=h;rw[cell_of_row w g i a t (0,0) b,<-Zr hi,<-c,CK,YS hi];simp
theorem Jw.frozen(h:Jw w g t cap l)(i:Nat):w.frozen? ⟨g,i,none⟩=false:=by
 obtain⟨a,b,_⟩:=h;simp[World.frozen?,b]
theorem Jw.set_(h:Jw w g t cap l){i:Nat}(hi:i<l.length)(d:Nat):Jw (w.setCell ⟨g,i,none⟩ (.int .u32 (d:Int))) g t cap (l.set i d):=by
 obtain⟨a,c,b,e,f⟩:=h;refine⟨a.setIfInBounds i (.int .u32 (d:Int)),by simp[World.setCell,CH,c],by simpa using b,by simpa using e,?_⟩;rw[AK,<-VY,<-f,Array.toList_setIfInBounds,List.take_set]
theorem Jw.lt(h:Jw w g t cap l):g<w.heap.size:=by
 obtain⟨a,b,_⟩:=h;exact(AJ.1 b).1
theorem Jw.drewN(h:Jw w g t cap l)(q:Nat):Jw (w.drewN q) g t cap l:=h
theorem Jw.far(h:Jw w g t cap l){p:YB}(b:g≠p.block)(u:YM):Jw (w.setCell p u) g t cap l:=by
 obtain⟨a,c,r⟩:=h;exact⟨a,(Below.heap_setCell w p u g b).trans c,r⟩
theorem Jw.alloc(h:Jw w g t cap l)(o:Obj):Jw (w.alloc o) g t cap l:=by
 obtain⟨a,b,r⟩:=h;exact⟨a,(Below.heap_alloc w o g (AJ.1 b).1).trans b,r⟩
theorem uG{B n:Nat}{v:YM}(h:w.ownsRow B t 1 v n (Pa l))(k:l.length=n)(r:0<n):∃g c,v= .slice (some ⟨g,0,none⟩) n c/\B<=g/\n<=c/\c<=maxLen/\Jw w g t c l:=by
 rcases h.2 with ⟨_,s⟩|⟨g,c,a,o,f,j,m,b,p,e⟩
 .omega
 .exact⟨g,c,o,f,m,b,a,j,by omega,by omega,by rw[k,<-e,EB]⟩
theorem HI(g k j:Nat):(⟨g,k,none⟩:YB).add j=⟨g,k+j,none⟩:=by
 unfold Addr.add;split<;>simp_all
theorem Jw.part(h:Jw w g t cap l)(f:Ny l){k n c:Nat}(o:k+n<=l.length)(e:n<=c)(m:c<=maxLen):In w (some ⟨g,k,none⟩) n c ((l.drop k).take n):=by
 refine⟨(f.drop k).take n,by rw[BG,CA];omega,e,m,⟨by rw[Qs,BG,CA];omega,λ_=>⟨_,rfl,h.lt,λj u a=> ?_⟩⟩⟩;have b:j<n:=by
  have:=(CQ.1 a).1;rw[Qs,BG,CA]at this;omega
 rw[Zr (by rw[BG,CA];omega)]at a;rw[HI,h.cell J,<-a,Rl b,Sa]
end
structure b0(w:YN)(B:Nat)(A:YY)(n c:Nat)(l:List Nat):Prop where
 dig:Ny l
 len:l.length=n
 le:n<=c
 cap:c<=maxLen
 rd:Pm w B 1 A n (Pa l)
theorem In.toB{w:YN}{A:YY}{n c:Nat}{l:List Nat}(h:In w A n c l):b0 w w.heap.size A n c l:=⟨h.dig,h.len,h.le,h.cap,h.rd⟩
theorem b0.toIn{w:YN}{B:Nat}{A:YY}{n c:Nat}{l:List Nat}(h:b0 w B A n c l)(a:B<=w.heap.size):In w A n c l:=⟨h.dig,h.len,h.le,h.cap,h.rd.more a⟩
theorem b0.below{w a:YN}{B:Nat}{A:YY}{n c:Nat}{l:List Nat}(h:b0 w B A n c l)(b:Below B w a):b0 a B A n c l:=⟨h.dig,h.len,h.le,h.cap,h.rd.below b⟩
theorem b0.more{w:YN}{B B':Nat}{A:YY}{n c:Nat}{l:List Nat}(h:b0 w B A n c l)(a:B<=B'):b0 w B' A n c l:=⟨h.dig,h.len,h.le,h.cap,h.rd.more a⟩
theorem b0.at_{w:YN}{B:Nat}{A:YY}{n c:Nat}{l:List Nat}(h:b0 w B A n c l){k:Nat}(b:k<n):∃ad,A=some ad/\w.cell? (ad.add k)=some (.int .u32 (dg l k:Int)):=by
 obtain⟨ad,u,f,_,a,e⟩:=h.rd.at_ b;rw[Zr (by rw[h.len];exact b)]at a;injection a with a;subst a;exact⟨ad,f,e⟩
theorem bm{a w:YN}{row:Option Nat}(h:a.grownBy w row)(n:Nat):a.grownBy (w.drewN n) row:=⟨h.os,h.tape,h.output,h.size,h.block⟩
theorem U3{a w:YN}{g:Nat}(h:a.grownBy w (some g)){p:YB}(c:p.block=g\/a.heap.size<=p.block)(u:YM):a.grownBy (w.setCell p u) (some g):=
 ⟨h.os,h.tape,h.output,by simpa[World.setCell]using h.size,λi hi b=>(Below.heap_setCell w p u i (by
  rintro rfl;rcases c with c|c
  .exact b (by rw[c])
  .omega)).trans (h.block i hi b)⟩
theorem H5{a w:YN}{g:Nat}(h:a.grownBy w (some g))(c:g<=a.heap.size):Below g a w:=
 ⟨h.os,h.tape,h.output,h.size,λk b=>h.block k J (λe=>by injection e with e;omega)⟩
theorem Mk.grown{w b:YN}{g t:Nat}{l:List Nat}{row:Option Nat}(h:Mk w g t l)(c:w.grownBy b row)(a:some g≠row):Mk b g t l:=Ck.grown h c a
theorem Mk.drewN{w:YN}{g t:Nat}{l:List Nat}(h:Mk w g t l)(q:Nat):Mk (w.drewN q) g t l:=h
def jW(w:YN)(g k n cap q uU:Nat)(uW:List Nat)(e:YC)(a:YN):Prop:=
 ∃(U':List Nat) (b:Bool),e= .returned (.bool b)/\Jw a g 208 cap U'/\U'.length=uW.length/\Ny U'/\w.grownBy a (some g)/\(∀j,(j<k\/k+n<j)->dg U' j=dg uW j)/\
  ((b=false/\pl U' k (n+1)+q*uU=pl uW k (n+1))\/(b=true/\pl U' k (n+1)+q*uU=pl uW k (n+1)+pw (n+1)))
theorem TP{x m y:Nat}(c:x<4294967296)(e:m<4294967296)(b:y<=1):
 ∃d a:Nat,d<4294967296/\a<=1/\d+m+y=x+a*4294967296/\XZ.wrap (XZ.wrap ((x:Int)- (m:Int))- (y:Int))%4294967296=(d:Int)/\
  XZ.wrap (XZ.wrap ((x:Int)- (m:Int))- (y:Int))/9223372036854775808=(a:Int):=by
 rw[Lg,Lg]
 by_cases h:m+y<=x
 .exact⟨x-m-y,0,by omega,by omega,by omega,by omega,by omega⟩
 .exact⟨x+4294967296-m-y,1,by omega,by omega,by omega,by omega,by omega⟩
theorem m_{s:Nat}(h:s<=18446744069414584320):bits .and .u64 (s:Int) 4294967295=((s%4294967296:Nat):Int):=by
 rw[show(4294967295:Int)=((4294967295:Nat):Int) by rfl,u64_and_nat _ _ J J,show 4294967295=2 ^ 32-1 by decide,Nat.and_two_pow_sub_one_eq_mod]
theorem pc{VA:YY}{n N:Nat}{v:List Nat}(w:YN)(g k cap T q:Nat)(uW:List Nat)(x:b0 w g VA n N v)
 (D:Jw w g 208 cap uW) (F:Ny uW) (hk:k+n+1<=uW.length) (Q:q<4294967296) (hn:n<=1099511627776) (uT:k<=1099511627776):
 YG XW 336 #[.slice (some ⟨g,k,none⟩) (n+1) T,.slice VA n N,.int .u64 q] w (jW w g k n cap q (val v) uW):=by
 have uS:=Nat.le_of_lt D.lt;have Hv:=Kv x;have Hl:=Kv x.len;clear x;go_enter func336,ntmps336;go_wp2_with fail;go_loopw [7,8,15] (λsc sy ve wr=>∃(i c y:Nat) (P:List Nat),i<=n/\ve=I i/\sc= .int .u64 c/\sy= .int .u64 y/\c<4294967296/\y<=1/\P.length=uW.length/\Ny P/\Hid (∀j,(j<k\/k+i<=j)->dg P j=dg uW j)/\Hid (pl P k i+q*lo v i=pl uW k i+(y+c)*pw i)/\Jw wr g 208 cap P/\w.grownBy wr (some g)) (λ_ _ ve _=>n- (intOf ve).toNat)
 case atStart=>exact⟨0,0,0,uW,BW _,rfl,rfl,rfl,by omega,by omega,rfl,F,λ_ _=>rfl,(show _=_ by rw[dC,O5];simp),D,DO _ _⟩
 case round=>
  obtain⟨i,c,y,P,hi,rfl,rfl,rfl,W,uY,B,e,f,uZ,a,l⟩:=hrel;have HPl:=Kv B;clear B;clear D
  by_cases L:i<n
  .obtain⟨ad,hA,uX⟩:=((U Hv).below (H5 l uS)).at_ (k:=i) L;have S:=(U Hv).dig i;have G:=e (k+i);have o:=a.cell (i:=k+i) (by rw[U HPl];omega);have C:=a.frozen (k+i);obtain⟨s,K⟩:∃s,s=c+q*dg v i:=⟨_,rfl⟩
   have vf:s<=18446744069414584320:=by have:=Am Q S;omega
   have uV:=Wt Q S;have hsi:(c:Int)+(q:Int)*(dg v i:Int)=(s:Int):=by rw[K,Int.natCast_add,BS]
   have uR:bits .and .u64 (s:Int) 4294967295=((s%4294967296:Nat):Int):=m_ vf;have HS:=Kv K;clear K;subst hA;go_wp2;obtain⟨d,p,r,u,t,b,h⟩:=TP G (BT s (show 0<4294967296 by omega)) uY;rw[show((s%4294967296:Nat):Int)=(s:Int)%4294967296 by omega]at b h;rw[b,h];have m:=a.set_ (i:=k+i) (by rw[U HPl];omega) d;go_roundw
   case rel=>
    refine⟨i+1,s/4294967296,p,_,by omega,by go_num,congrArg (BJ .u64) J,rfl,by omega,u,by rw[AK];exact U HPl,e.set _ r,λj uU=> ?_,?_,m,U3 l (Or.inl rfl) _⟩
    .rw[Rj,V J];exact U f j J
    .show _=_;have:=eA (by rw[U HPl];omega) (U f (k+i) J) (U uZ) (by rw[<-U HS];exact t);rw[<-U HS]at this;exact this
   case measure=>simp[intOf];omega
  .have vg:i=n:=J
   subst vg;have G:=e (k+i);have o:=a.cell (i:=k+i) (by rw[U HPl];omega);have C:=a.frozen (k+i);go_wp2_with fail;obtain⟨d,p,r,u,t,b,h⟩:=TP G W uY;rw[b,h];have m:=a.set_ (i:=k+i) (by rw[U HPl];omega) d;go_ret;have x:lo v i=val v:=Mz (by rw[U Hl];exact AA _);have A:=kE (by rw[U HPl];omega) (U f (k+i) J) (U uZ) t;rw[x]at A;refine⟨_,decide (p=1),?_,m,by rw[AK];exact U HPl,e.set _ r,U3 l (Or.inl rfl) _,λj uU=> ?_,?_⟩
   .rcases(show p=0\/p=1 by omega)with rfl|rfl<;>rfl
   .rw[Rj,V J];exact U f j J
   .rcases(show p=0\/p=1 by omega)with rfl|rfl
    .left;exact⟨rfl,by omega⟩
    .right;exact⟨rfl,by omega⟩
end Go.Proofs.YtnmokookhcgklaaGreatDoor
