/-
 The machine: ways that meet, maps; errors.As.
-/
import Derived.Test.YtnmokookhcgklaaGreatDoorYA
import Derived.Test.YtnmokookhcgklaaGreatDoorAUP
import Derived.MapKept
import Derived.WalkKit
import Derived.LaidEql
import Derived.Stop.Asserts
import Derived.RowKitTokens
open Array renaming getElem?_eq_some_iff->AH,getElem?_setIfInBounds_self_of_lt->AN,getElem?_setIfInBounds_ne->BF,replicate->BU,getElem?_modify->BY
open Bool renaming and_eq_true->AB,true_and->AG,false_and->AM,eq_iff_iff->BN,or_eq_true->BV,false_or->CB
open Function renaming comp_def->CN
open Go renaming goPanic->BA
open Go.IntWalk renaming i64_in->AJ
open Go.Result renaming andThen_ok->AC,andThen->BC
open Go.Sem renaming run_bind->AE,run_pure->AU
open Go.Value renaming int->CE
open Go.World renaming cell?_alloc_lt->BP,setRow->CM
open Int renaming le_refl->BW
open List renaming getElem?_eq_getElem->AD,length_append->AI,map_eq_cons_iff->AK,length_cons->AX,take_of_length_le->AZ,getElem?_eq_some_iff->BB,all_eq_true->BD,length_eq_zero_iff->BG,range->BI,mem_of_getElem?->BM,take_add_one->BO,map_eq_nil_iff->BQ,mem_range->BR,flatMap_cons->BS,getElem?_cons_succ->BT,mem_singleton->CC,getElem?_map->CF,mem_append->CG,append_nil->CI,mapM_cons->CJ,mem_cons->CK,mem_map->CL
open Nat renaming le_refl->AQ,le_trans->AW,zero_le->AY,add_one_sub_one->BE,lt_of_lt_of_le->BH,beq->BX,le_of_ble_eq_true->CA,zero_add->CD,beq_eq->CH
open Option renaming bind_some->AA,bind_eq_some_iff->AL,map_some->BJ,map_eq_some_iff->BK
open Option.some renaming injEq->AR
open Prod.mk renaming injEq->AP
open UInt8 renaming lt_iff_toNat_lt->BL,le_iff_toNat_le->BZ
open Go renaming World->YN,Value->YM,Program->YK,Operand->YJ,Deferred->YI,TypeId->YH,Calls->YG,PanicEntry->YF,FuncId->YE,Oper->YD,Ending->YC,Addr->YB
open Go.IntKind renaming i64->YA,u64->XZ,u32->XY,u8->XX
namespace Go.Proofs.YtnmokookhcgklaaGreatDoor
set_option maxRecDepth 100000
set_option maxHeartbeats 8000000
set_option linter.unusedVariables false
set_option linter.unusedSimpArgs false
open Go.RowKit Go.Proofs.Tryz
open Go.Proofs.Tryz renaming prog->XW
def dblk(A:YY)(c:Nat):List Nat:=match A with|some p=>if c=0 then []else [p.block]|none=>[]
theorem Qp.dblk{w:YN}{B:Nat}{A:YY}{n c:Nat}{l:List Nat}(h:Qp w B A n c l):∀b∈dblk A c,B<=b/\∃cs ty own,w.heap[b]? =some (.cells cs ty own):=by
 intro b a;unfold Go.Proofs.YtnmokookhcgklaaGreatDoor.dblk at a;split at a
 .split at a
  .cases a
  .rename_i p m;obtain⟨g,j,t,e,k,f,_⟩:=h.own J;injection e with e;subst e;simp only[CC]at a;subst a;exact⟨k,_,_,_,f⟩
 .cases a
theorem Qp.dsame{w k:YN}{B:Nat}{A:YY}{n c:Nat}{l:List Nat}(h:Qp w B A n c l)(r:w.heap.size<=k.heap.size)(s:∀b∈Go.Proofs.YtnmokookhcgklaaGreatDoor.dblk A c,k.heap[b]? =w.heap[b]?):Qp k B A n c l:=by
 have a:∀p,A=some p->0<c->k.heap[p.block]? =w.heap[p.block]? :=λp D f=>s _ (by unfold Go.Proofs.YtnmokookhcgklaaGreatDoor.dblk;rw[D];simp;omega)
 refine⟨⟨h.dig,h.len,h.le,h.cap,h.rd.1,λf=> ?_⟩,λf=> ?_⟩
 .obtain⟨x,m,uS,C⟩:=h.rd.2 f;have v:=h.le;refine⟨x,m,BH uS r,λj u vg=> ?_⟩;have e:k.cell? (x.add j)=w.cell? (x.add j):=World.cell?_of_block (by rw[Q1];exact a x m J);exact e.trans (C j u vg)
 .obtain⟨g,o,t,m,G,y,F⟩:=h.own f;exact⟨g,o,t,m,G,(a _ m f).trans y,F⟩
theorem Ug.dsame{v:SV}{x:Int}{K:Nat}{w a:YN}(h:Ug v x K w)(f:w.heap.size<=a.heap.size)(g:∀b∈dblk v.A v.c,a.heap[b]? =w.heap[b]?):Ug v x K a:=by
 have e:=h.2.2.2.dsame f g;exact⟨⟨e.toIn,h.1.zi,h.1.le⟩,h.2.1,h.2.2.1,e⟩
def Bv(r:RV):List Nat:=dblk r.a.A r.a.c++dblk r.b.A r.b.c
theorem Oe.dsame{r:RV}{q:Rat}{K:Nat}{w c:YN}(h:Oe r q K w)(e:w.heap.size<=c.heap.size)(f:∀b∈Bv r,c.heap[b]? =w.heap[b]?):Oe r q K c:=
 ⟨h.1.dsame e λb a=>f b (by unfold Bv;simp[a]),h.2.dsame e λb a=>f b (by unfold Bv;simp[a])⟩
theorem Oe.dblk{r:RV}{q:Rat}{K:Nat}{w:YN}(h:Oe r q K w):∀b∈Bv r,b<w.heap.size:=λb a=>by
 unfold Bv at a;rcases CG.1 a with a|a
 .obtain⟨_,_,_,_,c⟩:=h.1.2.2.2.dblk b a;exact(AH.1 c).1
 .obtain⟨_,_,_,_,c⟩:=h.2.2.2.2.dblk b a;exact(AH.1 c).1
def QF(N:Nat)(r:RV)(q:Rat)(u:YN):Prop:=Oe r q 125 u/\∀b∈Bv r,N<=b
theorem QF.same{N:Nat}{r:RV}{q:Rat}{w a:YN}(h:QF N r q w)(e:w.heap.size<=a.heap.size)(f:∀b,N<=b->b<w.heap.size->a.heap[b]? =w.heap[b]?):QF N r q a:=
 ⟨h.1.dsame e λb c=>f b (h.2 b c) (h.1.dblk b c),h.2⟩
theorem QF.left{N g:Nat}{r:RV}{q:Rat}{a u:YN}(j:g<N)(h:QF N r q a)(e:a.heap.size=u.heap.size)(c:∀b,b∉[g]->a.heap[b]? =u.heap[b]?):QF N r q u:=
 h.same J λb f _=>(c b Zp).symm
structure AF(N:Nat)(t:TV)(T:Xm)(u:YN):Prop where
 a:QF N t.a T.a u
 b:QF N t.b T.b u
 c:QF N t.c T.c u
 d:QF N t.d T.d u
 e:QF N t.e T.e u
 f:QF N t.f T.f u
theorem AF.same{N:Nat}{t:TV}{T:Xm}{w k:YN}(h:AF N t T w)(g:w.heap.size<=k.heap.size)(j:∀b,N<=b->b<w.heap.size->k.heap[b]? =w.heap[b]?):AF N t T k:=
 ⟨h.a.same g j,h.b.same g j,h.c.same g j,h.d.same g j,h.e.same g j,h.f.same g j⟩
theorem AF.left{N g:Nat}{t:TV}{T:Xm}{a u:YN}(j:g<N)(h:AF N t T a)(e:a.heap.size=u.heap.size)(c:∀b,b∉[g]->a.heap[b]? =u.heap[b]?):AF N t T u:=
 h.same J λb f _=>(c b Zp).symm
section
variable{w W:YN}{g n c m:Nat}{A:YY}{f:Bool}{s l:R}{ws0 rest r:WS}
theorem Pg{uX:Type}{cs:List YM}{val:uX->YM}{G:uX->YN->Prop}{j:YN}(x:uX)(p:Below W.heap.size W w)(t:Below W.heap.size W j)(h:Pt W w g cs j)
 (y:∀a,j.heap.size<=a.heap.size->(∀b,b∈[g]\/(w.heap.size<=b/\b<j.heap.size)->a.heap[b]? =j.heap[b]?)->G x a):Ni w [g] val G (.returned (val x)) j:=
 ⟨x,rfl,⟨t.os.trans p.os.symm,t.tape.trans p.tape.symm,t.output.trans p.output.symm,h.1,λk v u=>by
  rcases Nat.lt_or_ge k W.heap.size with o|o
  .rw[t.block k o,p.block k o]
  .exact h.2.1 k o v λe=>u (by simp[e])⟩,y⟩
theorem Ah{N:Nat}(vg:N<=w.heap.size)(G:Gy l=0)(C:ML w)(vf:l.length<=65536):YG XW 184 #[E l] w (K6 w (λr:RV=> .tuple #[r.val,I 0]) λr u=>QF N r (Du l) u):=by
 refine(Us G C J).mono λe j k=> ?_
 obtain⟨r,uS,D,F⟩:=k;have y:∀a,j.heap.size<=a.heap.size->(∀b,w.heap.size<=b->b<j.heap.size->a.heap[b]? =j.heap[b]?)->Oe r (Du l) 125 a:=λa x v=>by
  have t:Hu r 0 (Du l) 125 a:=F a x v;unfold Hu at t;rwa [YS rfl]at t
 refine⟨r,uS,D,λa x v=>⟨y a x v,λb h=> ?_⟩⟩;refine AW vg (Nat.le_of_not_lt λve=> ?_);have p:=(y j (AQ _) λ_ _ _=>rfl).dblk b h;have B:=y {j with heap:=j.heap.setIfInBounds b (.pending #[] 0)} Zs λk x v=>by
  rw[BF J]
 unfold Bv at h;rcases CG.1 h with h|h
 .obtain⟨_,cs,ty,own,o⟩:=B.1.2.2.2.dblk b h;rw[AN p]at o;cases o
 .obtain⟨_,cs,ty,own,o⟩:=B.2.2.2.2.dblk b h;rw[AN p]at o;cases o
theorem WM(F:ML W)(x:RE W w g A n c ws0)(hs:Qm ws0 n rest)(hb:K7 w g (Lj A n c rest.length f)):YG XW 113 #[Zq g 0] w
 (Lt w [g] S3 (Jv f rest) (λd (t:TV)=>t.val) (λd t u=>K7 u g (Lj A n c d.2.1.length d.2.2)/\AF w.heap.size t d.1 u)):=by
 have lg:=x.lg;have C:=hb.lt;refine tg func113 rfl x.hW lg hb<|M ?_
 obtain⟨o,D⟩:∃o,o=Jv f rest:=⟨_,rfl⟩
 rw[<-D];refine tx O<|M<|ZI true ?_
 cases rest with
 |nil=>
  have y:o=none:=by rw[D];unfold Jv;rfl
  rw[y];exact s6 (L:=[g]) (Φ':=λu=>N8 W w g u) (λe a h=>Rv (x.next a h) h.2.2) (λu h=>Kf (cs':=[]) lg u h) (λB u j p h _=>Nk B u j p h) O O<|sX λe a h=>Nj x.hW a h
 | cons ve r0=>
  have Q:=Qm.tail hs;have hl0:=x.mem hs;refine sZ (L:=[g]) (Φ':=λ_ u=>Pt W w g (Lj A n c r0.length f) u) (λe a h=>Px (x.next a h) hs h.2.2) (λu h=>Kf (cs':=[]) lg u h) (λ_ B u j p h uS=>Kk B u j p h uS) O O λ_=>M ?_
  by_cases vg:Gy ve=0
  case neg=>
   have y:o=none:=by rw[D];unfold Jv;rw[L6,V vg];rfl
   rw[y];exact Z (λe a h=>Us (l:=ve) rfl (F.below a) J) λu=>X (Gy ve !=0) true (by simpa using vg)<|td (Instr.panic Kh >>= λv=>pure (.value v)) Kh O (λe a h=>by simp[Instr.panic,Kh,BA]) O<|sX λe a h=>N9 x.hW a h.1
  refine Z (λe a h=>Ah (N:=w.heap.size) h.1 vg (F.below a) hl0) λuY=>ZI false<|ti 5 O λ_=>ZI true ?_
  cases r0 with
  |nil=>
   have y:o=none:=by rw[D];unfold Jv;rw[L6,YS vg];simp only[AA];rfl
   rw[y];exact s6 (L:=[g]) (Φ':=λu=>N8 W w g u) (λe a h=>Rv (x.next a h.1) h.1.2.2) (λu h=>Kf (cs':=[]) lg u h.1) (λB u j p h _=>Nk B u j p h.1) O O<|sX λe a h=>Nj x.hW a h
  | cons uR r1=>
   have S:=Qm.tail Q;have hl1:=x.mem Q;refine sZ (L:=[g]) (Φ':=λ_ u=>Pt W w g (Lj A n c r1.length f) u/\QF w.heap.size uY (Du ve) u) (λe a h=>Px (x.next a h.1) Q h.1.2.2) (λu h=>Kf (cs':=[]) lg u h.1) (λ_ B u j p h uS=>⟨Kk B u j p h.1 uS,QF.left C h.2 j p⟩) O O λ_=>M ?_
   by_cases G:Gy uR=0
   case neg=>
    have y:o=none:=by rw[D];unfold Jv;rw[L6,YS vg];simp only[AA];rw[L6,V G];rfl
    rw[y];exact Z (λe a h=>Us (l:=uR) rfl (F.below a) J) λu=>X (Gy uR !=0) true (by simpa using G)<|td (Instr.panic Kh >>= λv=>pure (.value v)) Kh O (λe a h=>by simp[Instr.panic,Kh,BA]) O<|sX λe a h=>N9 x.hW a h.1.1
   refine Z (λe a h=>Ah (N:=w.heap.size) h.1.1 G (F.below a) hl1) λq1=>ZI false<|ti 5 O λ_=>ZI true ?_
   cases r1 with
   |nil=>
    have y:o=none:=by rw[D];unfold Jv;rw[L6,YS vg];simp only[AA];rw[L6,YS G];simp only[AA];rfl
    rw[y];exact s6 (L:=[g]) (Φ':=λu=>N8 W w g u) (λe a h=>Rv (x.next a h.1.1) h.1.1.2.2) (λu h=>Kf (cs':=[]) lg u h.1.1) (λB u j p h _=>Nk B u j p h.1.1) O O<|sX λe a h=>Nj x.hW a h
   | cons T r2=>
    have uW:=Qm.tail S;have hl2:=x.mem S;refine sZ (L:=[g]) (Φ':=λ_ u=>Pt W w g (Lj A n c r2.length f) u/\QF w.heap.size uY (Du ve) u/\QF w.heap.size q1 (Du uR) u) (λe a h=>Px (x.next a h.1.1) S h.1.1.2.2) (λu h=>Kf (cs':=[]) lg u h.1.1) (λ_ B u j p h uS=>⟨Kk B u j p h.1.1 uS,QF.left C h.1.2 j p,QF.left C h.2 j p⟩) O O λ_=>M ?_
    by_cases vf:Gy T=0
    case neg=>
     have y:o=none:=by rw[D];unfold Jv;rw[L6,YS vg];simp only[AA];rw[L6,YS G];simp only[AA];rw[L6,V vf];rfl
     rw[y];exact Z (λe a h=>Us (l:=T) rfl (F.below a) J) λu=>X (Gy T !=0) true (by simpa using vf)<|td (Instr.panic Kh >>= λv=>pure (.value v)) Kh O (λe a h=>by simp[Instr.panic,Kh,BA]) O<|sX λe a h=>N9 x.hW a h.1.1
    refine Z (λe a h=>Ah (N:=w.heap.size) h.1.1 vf (F.below a) hl2) λuT=>ZI false<|ti 5 O λ_=>ZI true ?_
    cases r2 with
    |nil=>
     have y:o=none:=by rw[D];unfold Jv;rw[L6,YS vg];simp only[AA];rw[L6,YS G];simp only[AA];rw[L6,YS vf];simp only[AA];rfl
     rw[y];exact s6 (L:=[g]) (Φ':=λu=>N8 W w g u) (λe a h=>Rv (x.next a h.1.1) h.1.1.2.2) (λu h=>Kf (cs':=[]) lg u h.1.1) (λB u j p h _=>Nk B u j p h.1.1) O O<|sX λe a h=>Nj x.hW a h
    | cons uU r3=>
     have uZ:=Qm.tail uW;have hl3:=x.mem uW;refine sZ (L:=[g]) (Φ':=λ_ u=>Pt W w g (Lj A n c r3.length f) u/\QF w.heap.size uY (Du ve) u/\QF w.heap.size q1 (Du uR) u/\QF w.heap.size uT (Du T) u) (λe a h=>Px (x.next a h.1.1) uW h.1.1.2.2) (λu h=>Kf (cs':=[]) lg u h.1.1) (λ_ B u j p h uS=>⟨Kk B u j p h.1.1 uS,QF.left C h.1.2.1 j p,QF.left C h.1.2.2 j p,QF.left C h.2 j p⟩) O O λ_=>M ?_
     by_cases K:Gy uU=0
     case neg=>
      have y:o=none:=by rw[D];unfold Jv;rw[L6,YS vg];simp only[AA];rw[L6,YS G];simp only[AA];rw[L6,YS vf];simp only[AA];rw[L6,V K];rfl
      rw[y];exact Z (λe a h=>Us (l:=uU) rfl (F.below a) J) λu=>X (Gy uU !=0) true (by simpa using K)<|td (Instr.panic Kh >>= λv=>pure (.value v)) Kh O (λe a h=>by simp[Instr.panic,Kh,BA]) O<|sX λe a h=>N9 x.hW a h.1.1
     refine Z (λe a h=>Ah (N:=w.heap.size) h.1.1 K (F.below a) hl3) λq3=>ZI false<|ti 5 O λ_=>ZI true ?_
     cases r3 with
     |nil=>
      have y:o=none:=by rw[D];unfold Jv;rw[L6,YS vg];simp only[AA];rw[L6,YS G];simp only[AA];rw[L6,YS vf];simp only[AA];rw[L6,YS K];simp only[AA];rfl
      rw[y];exact s6 (L:=[g]) (Φ':=λu=>N8 W w g u) (λe a h=>Rv (x.next a h.1.1) h.1.1.2.2) (λu h=>Kf (cs':=[]) lg u h.1.1) (λB u j p h _=>Nk B u j p h.1.1) O O<|sX λe a h=>Nj x.hW a h
     | cons uV r4=>
      have P:=Qm.tail uZ;have hl4:=x.mem uZ;refine sZ (L:=[g]) (Φ':=λ_ u=>Pt W w g (Lj A n c r4.length f) u/\QF w.heap.size uY (Du ve) u/\QF w.heap.size q1 (Du uR) u/\QF w.heap.size uT (Du T) u/\QF w.heap.size q3 (Du uU) u) (λe a h=>Px (x.next a h.1.1) uZ h.1.1.2.2) (λu h=>Kf (cs':=[]) lg u h.1.1) (λ_ B u j p h uS=>⟨Kk B u j p h.1.1 uS,QF.left C h.1.2.1 j p,QF.left C h.1.2.2.1 j p,QF.left C h.1.2.2.2 j p,QF.left C h.2 j p⟩) O O λ_=>M ?_
      by_cases uX:Gy uV=0
      case neg=>
       have y:o=none:=by rw[D];unfold Jv;rw[L6,YS vg];simp only[AA];rw[L6,YS G];simp only[AA];rw[L6,YS vf];simp only[AA];rw[L6,YS K];simp only[AA];rw[L6,V uX];rfl
       rw[y];exact Z (λe a h=>Us (l:=uV) rfl (F.below a) J) λu=>X (Gy uV !=0) true (by simpa using uX)<|td (Instr.panic Kh >>= λv=>pure (.value v)) Kh O (λe a h=>by simp[Instr.panic,Kh,BA]) O<|sX λe a h=>N9 x.hW a h.1.1
      refine Z (λe a h=>Ah (N:=w.heap.size) h.1.1 uX (F.below a) hl4) λq4=>ZI false<|ti 5 O λ_=>ZI true ?_
      cases r4 with
      |nil=>
       have y:o=none:=by rw[D];unfold Jv;rw[L6,YS vg];simp only[AA];rw[L6,YS G];simp only[AA];rw[L6,YS vf];simp only[AA];rw[L6,YS K];simp only[AA];rw[L6,YS uX];simp only[AA];rfl
       rw[y];exact s6 (L:=[g]) (Φ':=λu=>N8 W w g u) (λe a h=>Rv (x.next a h.1.1) h.1.1.2.2) (λu h=>Kf (cs':=[]) lg u h.1.1) (λB u j p h _=>Nk B u j p h.1.1) O O<|sX λe a h=>Nj x.hW a h
      | cons s5 r5=>
       have hs5:=Qm.tail P;have hl5:=x.mem P;refine sZ (L:=[g]) (Φ':=λ_ u=>Pt W w g (Lj A n c r5.length f) u/\QF w.heap.size uY (Du ve) u/\QF w.heap.size q1 (Du uR) u/\QF w.heap.size uT (Du T) u/\QF w.heap.size q3 (Du uU) u/\QF w.heap.size q4 (Du uV) u) (λe a h=>Px (x.next a h.1.1) P h.1.1.2.2) (λu h=>Kf (cs':=[]) lg u h.1.1) (λ_ B u j p h uS=>⟨Kk B u j p h.1.1 uS,QF.left C h.1.2.1 j p,QF.left C h.1.2.2.1 j p,QF.left C h.1.2.2.2.1 j p,QF.left C h.1.2.2.2.2 j p,QF.left C h.2 j p⟩) O O λ_=>M ?_
       by_cases p5:Gy s5=0
       case neg=>
        have y:o=none:=by rw[D];unfold Jv;rw[L6,YS vg];simp only[AA];rw[L6,YS G];simp only[AA];rw[L6,YS vf];simp only[AA];rw[L6,YS K];simp only[AA];rw[L6,YS uX];simp only[AA];rw[L6,V p5];rfl
        rw[y];exact Z (λe a h=>Us (l:=s5) rfl (F.below a) J) λu=>X (Gy s5 !=0) true (by simpa using p5)<|td (Instr.panic Kh >>= λv=>pure (.value v)) Kh O (λe a h=>by simp[Instr.panic,Kh,BA]) O<|sX λe a h=>N9 x.hW a h.1.1
       refine Z (λe a h=>Ah (N:=w.heap.size) h.1.1 p5 (F.below a) hl5) λq5=>ZI false ?_
       have y:o=some (⟨Du ve,Du uR,Du T,Du uU,Du uV,Du s5⟩,r5,f):=by rw[D];unfold Jv;rw[L6,YS vg];simp only[AA];rw[L6,YS G];simp only[AA];rw[L6,YS vf];simp only[AA];rw[L6,YS K];simp only[AA];rw[L6,YS uX];simp only[AA];rw[L6,YS p5];rfl
       rw[y];refine ZI false<|ZV ((⟨uY,q1,uT,q3,q4,q5⟩:TV).val) (λe a h=>by have k:=h e (AQ _) (λ_ _ _=>rfl);exact Pg (val:=λt:TV=>t.val) (⟨uY,q1,uT,q3,q4,q5⟩:TV) x.hW a k.1.1 λw'' k1 k2=>⟨k.1.1.2.2.to (k2 g (.inl Zs)),AF.same ⟨k.1.2.1,k.1.2.2.1,k.1.2.2.2.1,k.1.2.2.2.2.1,k.1.2.2.2.2.2,k.2⟩ k1 λb b1 b2=>k2 b (.inr ⟨b1,b2⟩)⟩)
end
def Sv(x:Int×Co):List YM:=[I x.1,.int .u8 (x.2.1.toNat:Int),.int .u8 (x.2.2.1.toNat:Int),.int .u8 (x.2.2.2.1.toNat:Int),.int .u8 (x.2.2.2.2.toNat:Int)]
def Gr(l:List (Int×Co)):List YM:=l.flatMap Sv
section
variable{w W:YN}{g n c m:Nat}{A:YY}{f:Bool}{s l:R}{ws0 rest r:WS}
theorem ul{P:YK}{Φ:YW}{e:Ob}{p:Func}{uY:YC->YN->Prop}{o:List YF}(j:e.foc= .out (.panic o))(h:∀w,Below W.heap.size W w->Φ w->uY (.panicked o) w):K0 P [] W (bodyPost P p uY) Φ e:=by
 obtain⟨foc,k,σ⟩:=e;simp only at j;subst j;exact⟨λt β a w b=>Ag k ⟨b.defers,h w b.bel b.phi⟩⟩
theorem ER{cs:List YM}{L:List Nat}{e u:YN}(k:∀b∈L,w.heap.size<=b)(x:g<w.heap.size)(o:e.heap.size=u.heap.size)(j:∀b,b∉L->e.heap[b]? =u.heap[b]?)(h:Pt W w g cs e):Pt W w g cs u:=
 ⟨by rw[<-o];exact h.1,λb t v p=>(j b λa=>by have:=k b a;omega).symm.trans (h.2.1 b t v p),h.2.2.to (j g λa=>by have:=k g a;omega).symm⟩
theorem F7{u:YN}{e:YH}{s m cc:Nat}{y:YY}{xs:List YM}(h:Y u w.heap.size e s y m cc xs)(k:g<w.heap.size):∀b∈bl y,b∉[g]:=λb a j=>by
 have:=(h.lt b a).1;simp only[CC]at j;omega
theorem XH{B m yc b:Nat}{y:YY}{a:List (Int×Co)}{x:Int×Co}(p:Y w B 165 5 y m yc (Gr a))(k:B<=w.heap.size)(o:Kr 165 (Sv x).toArray b w)(u:m<1000000):
 Pp XW w (bl y) (λz:YZ=> .slice z.1 (m+1) z.2) (λz v=>Y v B 165 5 z.1 (m+1) z.2 (Gr (a++ [x]))) (Ln 37 37 (.slice y m yc) (Kd 1 b)):=by
 have j:=N4 (P:=XW) (s:=5) (z:= .agg (Sv (0,Ss)).toArray) (bytes:=16) (m:=1) (cc:=1) (t:=37) (elem:=165) O O rfl Zd p k (Mm (n:=1) o rfl) (by intro v h;simp[Sv]at h;rcases h with rfl|rfl|rfl|rfl|rfl<;>rfl) J Zd;have e:Gr (a++ [x])=Gr a++Sv x:=by simp[Gr]
 rw[e];exact j
theorem dY{v:WS}:(Do f (s::v)=none->Do f [s]=none)/\∀z r a,Do f (s::v)=some (z,r,a)->r=v/\Do f [s]=some (z,[],a):=by
 have e:∀v:WS,Do f (s::v)=if Rp s c8 dl=0 then some (Af s c8 dl,v,f)else if Rp s c8 dl=6 then some (0,v,true)else none:=λv=>by
  unfold Do;rw[Dq];split
  .rfl
  .split<;>rfl
 rw[e v,e []]
 by_cases b:Rp s c8 dl=0
 .simp only[b,if_true];exact⟨λh=>(by cases h),λz r a h=>(by cases h;exact⟨rfl,rfl⟩)⟩
 .by_cases j:Rp s c8 dl=6
  .rw[V b,YS j,V b,YS j];refine⟨λh=>(by cases h),λz r a h=> ?_⟩;simp only[AR,AP]at h ⊢;obtain⟨rfl,rfl,rfl⟩:=h;simp
  .rw[V b,V j,V b,V j];exact⟨λ_=>rfl,λz r a h=>by cases h⟩
theorem lU(D:RE W w g A n c ws0)(uZ:Qm ws0 n rest)(uS:K7 w g (Lj A n c rest.length f)):YG XW 114 #[Zq g 0] w
 (Lt w [g] S3 (EV f rest) (λd (y:YZ)=> .slice y.1 d.1.length y.2) (λd y u=>K7 u g (Lj A n c 0 d.2)/\Y u w.heap.size 165 5 y.1 d.1.length y.2 (Gr d.1))):=by
 have lg:=D.lg;have uV:=uS.lt;have hn2:=D.hn2;obtain⟨o,uR⟩:∃o,o=EV f rest:=⟨_,rfl⟩
 rw[<-uR];refine tg func114 rfl D.hW lg uS<|M<|sU (ι:={q:(WS×Bool×List (Int×Co)×Nat)×(YZ) // Qm ws0 n q.1.1/\o=(EV q.1.2.1 q.1.1).map (λl=>(q.1.2.2.1++l.1,l.2))/\q.1.1.length+q.1.2.2.2<=n/\q.1.2.2.1.length=q.1.2.2.2}) 21 (λq=>⟨[(0,.v (Zq g 0)),(3,.v (.slice q.1.2.1 q.1.1.2.2.2 q.1.2.2))],[]⟩) (λq u=>Pt W w g (Lj A n c q.1.1.1.length q.1.1.2.1) u/\Y u w.heap.size 165 5 q.1.2.1 q.1.1.2.2.2 q.1.2.2 (Gr q.1.1.2.2.1)) (λq=>q.1.1.1.length) (⟨((rest,f,[],0),(none,0)),uZ,by rw[uR];cases EV f rest<;>simp,by have:=uZ.2;simpa using this,rfl⟩) O (λ_=>O) zt (λu h=>⟨h,s_⟩) ?_
 rintro⟨⟨⟨rest,f,a,m⟩,y,yc⟩,T⟩ gg;have uZ:Qm ws0 n rest:=T.1;have uR:o=(EV f rest).map (λl=>(a++l.1,l.2)):=T.2.1;have vf:rest.length+m<=n:=T.2.2.1;have uX:a.length=m:=T.2.2.2;refine M ?_;cases rest with
 |nil=>
  have P:o=some (a,f):=by rw[uR];simp[EV]
  refine ZA (L4 53 ⟨g,0,none⟩) (k0 A n c 0) (λp e h=>K9 O (by rw[h.1.2.2.cell];rfl))<|ZI false<|sN O<|M<|ZV (.slice y m yc) (λp e h=>by rw[P,<-uX];have k:Pt W w g (Lj A n c 0 f) p/\Y p w.heap.size 165 5 y m yc (Gr a):=h p (AQ _) (λ_ _ _=>rfl);rw[<-uX]at k;exact Pg (val:=λy:YZ=> .slice y.1 a.length y.2) (y,yc) D.hW e k.1 λw'' K k2=>⟨k.1.2.2.to (k2 g (.inl Zs)),k.2.same λb uS=>k2 b (.inr (k.2.lt b uS))⟩)
 | cons s r=>
  refine ZA (L4 53 ⟨g,0,none⟩) (k0 A n c (r.length+1)) (λp e h=>K9 O (by rw[h.1.2.2.cell];rfl))<|X (decide (((r.length+1:Nat):Int)>0)) true Zs ?_
  cases F:Do f (s::r)with
  | none=>
   have P:o=none:=by
    rw[uR];cases r with
    |nil=>rfl
    |cons k v=>rw[show EV f (s::k::v)=(Do f [s]).bind _ from rfl,dY.1 F];rfl
   exact s6 (L:=[g]) (Φ':=λu=>N8 W w g u) (λp e h=>by have t:=N5 (D.next e h.1) uZ h.1.2.2;rw[F]at t;exact t) (λu h=>Kf (cs':=[]) lg u h.1) (λve u vg B h _=>Nk ve u vg B h.1) O O<|M<|sN O<|M<|ul O λp e h=>by rw[P];exact Nj D.hW e h
  | some d=>
   obtain⟨x,uW,C⟩:=d;obtain⟨rfl,uY⟩:=dY.2 _ _ _ F;have N:=uZ.tail;refine sZ (L:=[g]) (Φ':=λ_ u=>Pt W w g (Lj A n c uW.length C) u/\Y u w.heap.size 165 5 y m yc (Gr a)) (λp e h=>by have t:=N5 (D.next e h.1) uZ h.1.2.2;rw[F]at t;exact t) (λu h=>Kf (cs':=[]) lg u h.1) (λ_ ve u vg B h S=>⟨Kk ve u vg B h.1 S,Y.left h.2 B (F7 h.2 uV)⟩) O O λ_=>M ?_
   cases j:XQ C uW with
   | none=>
    have P:o=none:=by
     rw[uR];cases uW with
     |nil=>rfl
     | cons k v=>
      have Q:Dl k=none:=by
       cases Q:Dl k with
       |none=>rfl
       |some q=>rw[show XQ C (k::v)=(Dl k).map _ from rfl,Q]at j;cases j
      rw[show EV f (s::k::v)=(Do f [s]).bind λx=>(Dl k).bind λq=>(EV x.2.2 v).map λl=>((x.1,q)::l.1,l.2)from rfl,uY,AA,Q,Option.bind_none];rfl
    exact s6 (L:=[g]) (Φ':=λu=>N8 W w g u) (λp e h=>by have t:=B5 (D.next e h.1) N h.1.2.2;rw[j]at t;exact t) (λu h=>Kf (cs':=[]) lg u h.1) (λve u vg B h _=>Nk ve u vg B h.1) O O<|M<|sN O<|M<|ul O λp e h=>by rw[P];exact Nj D.hW e h
   | some d=>
    obtain⟨k,r2,f2⟩:=d;cases uW with
    |nil=>cases j
    |cons K v=>
    obtain⟨Q,rfl,rfl⟩:Dl K=some k/\v=r2/\C=f2:=by
     rw[show XQ C (K::v)=(Dl K).map (λc=>(c,v,C))from rfl]at j;obtain⟨q,q1,q2⟩:=BK.1 j;cases q2;exact⟨q1,rfl,rfl⟩
    have uT:=N.tail;have uU:o=(EV C v).map (λl=>(a++ [(x,k)]++l.1,l.2)):=by
     rw[uR,show EV f (s::K::v)=(Do f [s]).bind λx=>(Dl K).bind λq=>(EV x.2.2 v).map λl=>((x.1,q)::l.1,l.2)from rfl,uY,AA,Q,AA];cases EV C v<;>simp
    refine sZ (L:=[g]) (Φ':=λ_ u=>Pt W w g (Lj A n c v.length C) u/\Y u w.heap.size 165 5 y m yc (Gr a)) (λp e h=>by have t:=B5 (D.next e h.1) N h.1.2.2;rw[j]at t;exact t) (λu h=>Kf (cs':=[]) lg u h.1) (λ_ ve u vg B h S=>⟨Kk ve u vg B h.1 S,Y.left h.2 B (F7 h.2 uV)⟩) O O λ_=>H 5<|sO (Kw 37 1 #[(0,.agg (Sv (x,k)).toArray)]) (Kd 1) (Kr 165 (Sv (x,k)).toArray) O (λp e h=>Kb O) λgb=>H 6<|sY (L:=bl y) (val:=λ(z:YZ)=> .slice z.1 (m+1) z.2) (Φ':=λ(z:YZ) u=>Pt W w g (Lj A n c v.length C) u/\Y u w.heap.size 165 5 z.1 (m+1) z.2 (Gr (a++ [(x,k)]))) (G:=λ(z:YZ) u=>Y u w.heap.size 165 5 z.1 (m+1) z.2 (Gr (a++ [(x,k)]))) (Ln 37 37 (.slice y m yc) (Kd 1 gb)) (λp e h=>XH h.1.2 h.1.1.1 h.2 (by simp only[AX]at vf;omega)) (λu h=>λb uS=>⟨AW D.hW.size (h.1.2.lt b uS).1,(h.1.2.blk b uS).2⟩) (λz ve u vg B h S=>⟨ER (λb uS=>(h.1.2.lt b uS).1) uV vg B h.1.1,S⟩) O O λz=>M<|sR (⟨((v,C,a++ [(x,k)],m+1),z),uT,uU,by simp only[AX]at vf ⊢;omega,by simp[uX]⟩) O (by show v.length<(s::K::v).length;simp only[AX];omega) zt (λu h=>h)
end
def P7(c:Co):List YM:=[.int .u8 (c.1.toNat:Int),.int .u8 (c.2.1.toNat:Int),.int .u8 (c.2.2.1.toNat:Int),.int .u8 (c.2.2.2.toNat:Int)]
def Wk(l:List Co):List YM:=l.flatMap P7
abbrev Jo(m:Im)(y:YZ):YM:= .agg #[I m.w,I m.h,.slice y.1 m.px.length y.2]
def RA:Prop:=∀(w W:YN) (g n c:Nat) (A:YY) (f:Bool) (ws0 rest:WS),RE W w g A n c ws0->Qm ws0 n rest->K7 w g (Lj A n c rest.length f)->YG XW 115 #[Zq g 0] w
 (Lt w [g] S3 (Yd f rest) (λd (y:YZ)=>Jo d.1 y) (λd y u=>K7 u g (Lj A n c d.2.1.length d.2.2)/\Y u w.heap.size 214 4 y.1 d.1.px.length y.2 (Wk d.1.px)))
structure PM where
 sA:YY
 sc:Nat
 xA:YY
 xc:Nat
 t:TV
abbrev U2(P:Pn)(q:PM):YM:= .agg (#[I P.kind,.int .u8 (P.co.1.toNat:Int),.int .u8 (P.co.2.1.toNat:Int),.int .u8 (P.co.2.2.1.toNat:Int),.int .u8 (P.co.2.2.2.toNat:Int),I P.p0x,I P.p0y,I P.p1x,I P.p1y,I P.rad,.slice q.sA P.stops.length q.sc,I P.spread,I P.im.w,I P.im.h,.slice q.xA P.im.px.length q.xc,I P.samp]++q.t.cl.toArray)
def I0:TV:=⟨Yh,Yh,Yh,Yh,Yh,Yh⟩
def MV:PM:=⟨none,0,none,0,I0⟩
structure XP(N:Nat)(P:Pn)(q:PM)(u:YN):Prop where
 st:Y u N 165 5 q.sA P.stops.length q.sc (Gr P.stops)
 px:Y u N 214 4 q.xA P.im.px.length q.xc (Wk P.im.px)
 tr:(P.kind<2/\P.T=Pc/\q.t=I0)\/(2<=P.kind/\AF N q.t P.T u)
theorem XP.same{N:Nat}{P:Pn}{q:PM}{w e:YN}(h:XP N P q w)(f:w.heap.size<=e.heap.size)(c:∀b,N<=b->b<w.heap.size->e.heap[b]? =w.heap[b]?):XP N P q e:=
 ⟨h.st.same λb a=>c b (h.st.lt b a).1 (h.st.lt b a).2,h.px.same λb a=>c b (h.px.lt b a).1 (h.px.lt b a).2,h.tr.imp id λk=>⟨k.1,k.2.same f c⟩⟩
section
variable{w W:YN}{g n c m:Nat}{A:YY}{f:Bool}{s l:R}{ws0 rest r:WS}
theorem Ae{z:Int×Int}{b:Bool}(a:Qm ws0 n rest)(h:I_ f rest=some (z,r,b)):Qm ws0 n r:=by
 unfold I_ at h;obtain⟨⟨x,k,t⟩,e,h⟩:=AL.1 h;obtain⟨⟨y,p,o⟩,j,h⟩:=BK.1 h;cases h;exact Mv (Mv a e) j
theorem F1{T:Xm}{o:Bool}(x:Qm ws0 n rest)(h:Jv f rest=some (T,r,o)):Qm ws0 n r:=by
 unfold Jv at h;obtain⟨⟨a,F,vg⟩,y,h⟩:=AL.1 h;obtain⟨⟨b,uR,G⟩,k,h⟩:=AL.1 h;obtain⟨⟨d,B,K⟩,p,h⟩:=AL.1 h;obtain⟨⟨e,L,C⟩,t,h⟩:=AL.1 h;obtain⟨⟨q,uS,ve⟩,v,h⟩:=AL.1 h;obtain⟨⟨u,D,vf⟩,j,h⟩:=BK.1 h;cases h;exact F0 (F0 (F0 (F0 (F0 (F0 x y) k) p) t) v) j
theorem gP{m:Im}{e:Bool}(b:Qm ws0 n rest)(h:Yd f rest=some (m,r,e)):Qm ws0 n r:=by
 unfold Yd at h;obtain⟨⟨x,t,u,C⟩,j,h⟩:=AL.1 h;obtain⟨⟨y,k,o,B⟩,p,h⟩:=AL.1 h;have a:=Yr (Yr b j) p;simp only at h;cases o with
 |nil=>cases h
 | cons s v=>
  simp only at h;split at h
  .cases h
  .split at h
   .cases h
   .split at h
    .cases h;exact a.tail
    .split at h
     .cases h
     .cases h;exact a.tail
theorem Lt.imp{D uX:Type}{L:List Nat}{b:List YF}{q:Option D}{val:D->uX->YM}{G G':D->uX->YN->Prop}{e:YC}{j:YN}(h:Lt w L b q val G e j)(k:∀d x u,G d x u->G' d x u):Lt w L b q val G' e j:=by
 cases q with
 |none=>exact h
 |some d=>
  obtain⟨x,y,t,v⟩:=h;exact⟨x,y,t,λa p o=>k _ _ _ (v a p o)⟩
theorem QF.base{N N':Nat}{r:RV}{q:Rat}{u:YN}(h:QF N r q u)(e:N'<=N):QF N' r q u:=⟨h.1,λb a=>AW e (h.2 b a)⟩
theorem AF.base{N N':Nat}{t:TV}{T:Xm}{u:YN}(h:AF N t T u)(j:N'<=N):AF N' t T u:=⟨h.a.base j,h.b.base j,h.c.base j,h.d.base j,h.e.base j,h.f.base j⟩
theorem Bi{N:Nat}(o:N<=w.heap.size)(e:ML W)(a:RE W w g A n c ws0)(b:Qm ws0 n rest)(j:K7 w g (Lj A n c rest.length f)):YG XW 113 #[Zq g 0] w
 (Lt w [g] S3 (Jv f rest) (λd (t:TV)=>t.val) (λd t u=>K7 u g (Lj A n c d.2.1.length d.2.2)/\AF N t d.1 u)):=
 (WM e a b j).mono λ_ _ h=>h.imp λ_ _ _ k=>⟨k.1,k.2.base o⟩
theorem HC{N:Nat}(o:N<=w.heap.size)(e:RE W w g A n c ws0)(j:Qm ws0 n rest)(a:K7 w g (Lj A n c rest.length f)):YG XW 114 #[Zq g 0] w
 (Lt w [g] S3 (EV f rest) (λd (y:YZ)=> .slice y.1 d.1.length y.2) (λd y u=>K7 u g (Lj A n c 0 d.2)/\Y u N 165 5 y.1 d.1.length y.2 (Gr d.1))):=
 (lU e j a).mono λ_ _ h=>h.imp λ_ _ _ k=>⟨k.1,k.2.rebase λb a=>AW o (k.2.lt b a).1⟩
theorem cF{N:Nat}(o:RA)(p:N<=w.heap.size)(e:RE W w g A n c ws0)(j:Qm ws0 n rest)(a:K7 w g (Lj A n c rest.length f)):YG XW 115 #[Zq g 0] w
 (Lt w [g] S3 (Yd f rest) (λd (y:YZ)=>Jo d.1 y) (λd y u=>K7 u g (Lj A n c d.2.1.length d.2.2)/\Y u N 214 4 y.1 d.1.px.length y.2 (Wk d.1.px))):=
 (o _ _ _ _ _ _ _ _ _ e j a).mono λ_ _ h=>h.imp λ_ _ _ k=>⟨k.1,k.2.rebase λb a=>AW p (k.2.lt b a).1⟩
theorem mD(hI:RA)(hM:ML W)(B:RE W w g A n c ws0)(hs:Qm ws0 n rest)(hb:K7 w g (Lj A n c rest.length f)):YG XW 61 #[Zq g 0] w
 (Lt w [g] S3 (Fs f rest) (λd (q:PM)=>U2 d.1 q) (λd q u=>K7 u g (Lj A n c 0 d.2)/\XP w.heap.size d.1 q u)):=by
 have lg:=B.lg;have hg:=hb.lt;obtain⟨o,K⟩:∃o,o=Fs f rest:=⟨_,rfl⟩
 rw[<-K];refine tg func61 rfl B.hW lg hb<|M ?_
 cases rest with
 |nil=>
  have C:o=none:=by rw[K];rfl
  exact s6 (L:=[g]) (Φ':=λu=>N8 W w g u) (λx a h=>Rv (B.next a h) h.2.2) (λu h=>Kf (cs':=[]) lg u h) (λp u e j h _=>Nk p u e j h) O O<|sX λx a h=>by rw[C];exact Nj B.hW a h
 |cons s r=>
 have N:=hs.tail;rw[We]at K;refine sZ (L:=[g]) (Φ':=λ_ u=>Pt W w g (Lj A n c r.length f) u) (λx a h=>Px (B.next a h) hs h.2.2) (λu h=>Kf (cs':=[]) lg u h) (λ_ p u e j h D=>Kk p u e j h D) O O λ_=>H 0 ?_
 by_cases F:s=[115,111,108,105,100]
 case pos=>
  refine ZA (Nq .eql 9 (.tmp 5) (.const (.string ⟨#[115,111,108,105,100]⟩)) (E s) (E [115,111,108,105,100])) Zt (λx a h=>Kj (by simpa using F))<|ZI true ?_
  rw[YS (show s=Nn from F)]at K;cases uS:XQ f r with
  |none=>
   have C:o=none:=by rw[K];unfold IX;rw[uS];rfl
   exact s6 (L:=[g]) (Φ':=λu=>N8 W w g u) (λx a h=>by have t:=B5 (B.next a h) N h.2.2;rw[uS]at t;exact t) (λu h=>Kf (cs':=[]) lg u h) (λp u e j h _=>Nk p u e j h) O O<|sX λx a h=>by rw[C];exact Nj B.hW a h
  |some d=>
  obtain⟨uY,r0,uX⟩:=d;have uZ:=mJ N uS;refine sZ (L:=[g]) (Φ':=λ_ u=>Pt W w g (Lj A n c r0.length uX) u) (λx a h=>by have t:=B5 (B.next a h) N h.2.2;rw[uS]at t;exact t) (λu h=>Kf (cs':=[]) lg u h) (λ_ p u e j h D=>Kk p u e j h D) O O λ_=>M ?_
  cases r0 with
  |cons s2 r2=>
   have C:o=none:=by rw[K];unfold IX;rw[uS];rfl
   exact s6 (L:=[g]) (Φ':=λu=>N8 W w g u) (λx a h=>j0 a lg h.2.2) (λu h=>Kf (cs':=[]) lg u h) (λp u e j h _=>Nk p u e j h) O O<|sX λx a h=>by rw[C];exact Nj B.hW a h
  |nil=>
  have C:o=some ((⟨1,uY,0,0,0,0,0,[],0,Yf,0,Pc⟩:Pn),uX):=by rw[K];unfold IX;rw[uS];rfl
  refine sZ (L:=[g]) (Φ':=λ_ u=>Pt W w g (Lj A n c 0 uX) u) (λx a h=>PV a lg h.2.2) (λu h=>Kf (cs':=[]) lg u h) (λ_ p u e j h D=>Kk p u e j h D) O O λ_=>M<|ZV (U2 (⟨1,uY,0,0,0,0,0,[],0,Yf,0,Pc⟩:Pn) MV) (λx a h=>by have k:=h x (AQ _) (λ_ _ _=>rfl);rw[C];exact Pg (val:=λq:PM=>U2 (⟨1,uY,0,0,0,0,0,[],0,Yf,0,Pc⟩:Pn) q) MV B.hW a k λw'' k1 uT=>⟨k.2.2.to (uT g (.inl Zs)),XP.same ⟨s_,s_,.inl ⟨(show(1:Int)<2 by decide),rfl,rfl⟩⟩ k1 λb b1 b2=>uT b (.inr ⟨b1,b2⟩)⟩)
 refine ZA (Nq .eql 9 (.tmp 5) (.const (.string ⟨#[115,111,108,105,100]⟩)) (E s) (E [115,111,108,105,100])) Zf (λx a h=>Kj (by simpa using F))<|sW false O<|H 0 ?_
 by_cases vg:s=[108,105,110,101,97,114]
 case pos=>
  refine ZA (Nq .eql 9 (.tmp 5) (.const (.string ⟨#[108,105,110,101,97,114]⟩)) (E s) (E [108,105,110,101,97,114])) Zt (λx a h=>Kj (by simpa using vg))<|ZI true ?_
  rw[V (show¬s=Nn from F),YS (show s=Ky from vg)]at K;cases uS:I_ f r with
  |none=>
   have C:o=none:=by rw[K];unfold G1;rw[uS];rfl
   exact s6 (L:=[g]) (Φ':=λu=>N8 W w g u) (λx a h=>by have t:=F3 (B.next a h) N h.2.2;rw[uS]at t;exact t) (λu h=>Kf (cs':=[]) lg u h) (λp u e j h _=>Nk p u e j h) O O<|sX λx a h=>by rw[C];exact Nj B.hW a h
  |some d=>
  obtain⟨uY,r0,uX⟩:=d;have uZ:=Ae N uS;refine sZ (L:=[g]) (Φ':=λ_ u=>Pt W w g (Lj A n c r0.length uX) u) (λx a h=>by have t:=F3 (B.next a h) N h.2.2;rw[uS]at t;exact t) (λu h=>Kf (cs':=[]) lg u h) (λ_ p u e j h D=>Kk p u e j h D) O O λ_=>M ?_
  cases e:I_ uX r0 with
  |none=>
   have C:o=none:=by rw[K];unfold G1;rw[uS];simp only[AA];rw[e];rfl
   exact s6 (L:=[g]) (Φ':=λu=>N8 W w g u) (λx a h=>by have t:=F3 (B.next a h) uZ h.2.2;rw[e]at t;exact t) (λu h=>Kf (cs':=[]) lg u h) (λp u e j h _=>Nk p u e j h) O O<|sX λx a h=>by rw[C];exact Nj B.hW a h
  |some d=>
  obtain⟨uW,r1,f1⟩:=d;have Q:=Ae uZ e;refine sZ (L:=[g]) (Φ':=λ_ u=>Pt W w g (Lj A n c r1.length f1) u) (λx a h=>by have t:=F3 (B.next a h) uZ h.2.2;rw[e]at t;exact t) (λu h=>Kf (cs':=[]) lg u h) (λ_ p u e j h D=>Kk p u e j h D) O O λ_=>M ?_
  cases j:Bm Lm 0 f1 r1 with
  |none=>
   have C:o=none:=by rw[K];unfold G1;rw[uS];simp only[AA];rw[e];simp only[AA];rw[j];rfl
   exact s6 (L:=[g]) (Φ':=λu=>N8 W w g u) (λx a h=>by have t:=Tq (B.next a h) Q h.2.2;rw[j]at t;exact t) (λu h=>Kf (cs':=[]) lg u h) (λp u e j h _=>Nk p u e j h) O O<|sX λx a h=>by rw[C];exact Nj B.hW a h
  |some d=>
  obtain⟨v2,r2,f2⟩:=d;have P:=Ou Q j;refine sZ (L:=[g]) (Φ':=λ_ u=>Pt W w g (Lj A n c r2.length f2) u) (λx a h=>by have t:=Tq (B.next a h) Q h.2.2;rw[j]at t;exact t) (λu h=>Kf (cs':=[]) lg u h) (λ_ p u e j h D=>Kk p u e j h D) O O λ_=>M ?_
  cases T:Jv f2 r2 with
  |none=>
   have C:o=none:=by rw[K];unfold G1;rw[uS];simp only[AA];rw[e];simp only[AA];rw[j];simp only[AA];rw[T];rfl
   exact s6 (L:=[g]) (Φ':=λu=>N8 W w g u) (λx a h=>by have t:=Bi h.1 hM (B.next a h) P h.2.2;rw[T]at t;exact t) (λu h=>Kf (cs':=[]) lg u h) (λp u e j h _=>Nk p u e j h) O O<|sX λx a h=>by rw[C];exact Nj B.hW a h
  |some d=>
  obtain⟨uR,r3,uV⟩:=d;have uU:=F1 P T;refine sZ (L:=[g]) (val:=λt:TV=>t.val) (G:=λ(t:TV) u=>K7 u g (Lj A n c r3.length uV)/\AF w.heap.size t uR u) (Φ':=λ(t:TV) u=>Pt W w g (Lj A n c r3.length uV) u/\AF w.heap.size t uR u) (λx a h=>by have t:=Bi h.1 hM (B.next a h) P h.2.2;rw[T]at t;exact t) (λu h=>Kf (cs':=[]) lg u h) (λt p u e j h D=>⟨Kk p u e j h D.1,D.2⟩) O O λt=>M ?_
  cases e4:EV uV r3 with
  |none=>
   have C:o=none:=by rw[K];unfold G1;rw[uS];simp only[AA];rw[e];simp only[AA];rw[j];simp only[AA];rw[T];simp only[AA];rw[e4];rfl
   exact s6 (L:=[g]) (Φ':=λu=>N8 W w g u) (λx a h=>by have t:=HC h.1.1 (B.next a h.1) uU h.1.2.2;rw[e4]at t;exact t) (λu h=>Kf (cs':=[]) lg u h.1) (λp u e j h _=>Nk p u e j h.1) O O<|sX λx a h=>by rw[C];exact Nj B.hW a h
  |some d=>
  obtain⟨S,f4⟩:=d;refine sZ (L:=[g]) (val:=λy:YZ=> .slice y.1 S.length y.2) (G:=λ(y:YZ) u=>K7 u g (Lj A n c 0 f4)/\Y u w.heap.size 165 5 y.1 S.length y.2 (Gr S)) (Φ':=λ(y:YZ) u=>Pt W w g (Lj A n c 0 f4) u/\AF w.heap.size t uR u/\Y u w.heap.size 165 5 y.1 S.length y.2 (Gr S)) (λx a h=>by have t:=HC h.1.1 (B.next a h.1) uU h.1.2.2;rw[e4]at t;exact t) (λu h=>Kf (cs':=[]) lg u h.1) (λy p u e j h D=>⟨Kk p u e j h.1 D.1,AF.left hg h.2 e j,D.2⟩) O O λy=>M ?_
  have C:o=some ((⟨2,Ss,uY.1,uY.2,uW.1,uW.2,0,S,v2,Yf,0,uR⟩:Pn),f4):=by rw[K];unfold G1;rw[uS];simp only[AA];rw[e];simp only[AA];rw[j];simp only[AA];rw[T];simp only[AA];rw[e4];rfl
  refine sZ (L:=[g]) (Φ':=λ_ u=>Pt W w g (Lj A n c 0 f4) u/\AF w.heap.size t uR u/\Y u w.heap.size 165 5 y.1 S.length y.2 (Gr S)) (λx a h=>PV a lg h.1.2.2) (λu h=>Kf (cs':=[]) lg u h.1) (λ_ p u e j h D=>⟨Kk p u e j h.1 D,AF.left hg h.2.1 e j,Y.left h.2.2 j (F7 h.2.2 hg)⟩) O O λ_=>M<|ZV (U2 (⟨2,Ss,uY.1,uY.2,uW.1,uW.2,0,S,v2,Yf,0,uR⟩:Pn) (⟨y.1,y.2,none,0,t⟩:PM)) (λx a h=>by have k:=h x (AQ _) (λ_ _ _=>rfl);rw[C];exact Pg (val:=λq:PM=>U2 (⟨2,Ss,uY.1,uY.2,uW.1,uW.2,0,S,v2,Yf,0,uR⟩:Pn) q) (⟨y.1,y.2,none,0,t⟩:PM) B.hW a k.1 λw'' k1 uT=>⟨k.1.2.2.to (uT g (.inl Zs)),XP.same ⟨k.2.2,s_,.inr ⟨(show(2:Int)<=2 by decide),k.2.1⟩⟩ k1 λb b1 b2=>uT b (.inr ⟨b1,b2⟩)⟩)
 refine ZA (Nq .eql 9 (.tmp 5) (.const (.string ⟨#[108,105,110,101,97,114]⟩)) (E s) (E [108,105,110,101,97,114])) Zf (λx a h=>Kj (by simpa using vg))<|sW false O<|H 0 ?_
 by_cases vf:s=[114,97,100,105,97,108]
 case pos=>
  refine ZA (Nq .eql 9 (.tmp 5) (.const (.string ⟨#[114,97,100,105,97,108]⟩)) (E s) (E [114,97,100,105,97,108])) Zt (λx a h=>Kj (by simpa using vf))<|ZI true ?_
  rw[V (show¬s=Nn from F),V (show¬s=Ky from vg),YS (show s=L7 from vf)]at K;cases uS:I_ f r with
  |none=>
   have C:o=none:=by rw[K];unfold Fy;rw[uS];rfl
   exact s6 (L:=[g]) (Φ':=λu=>N8 W w g u) (λx a h=>by have t:=F3 (B.next a h) N h.2.2;rw[uS]at t;exact t) (λu h=>Kf (cs':=[]) lg u h) (λp u e j h _=>Nk p u e j h) O O<|sX λx a h=>by rw[C];exact Nj B.hW a h
  |some d=>
  obtain⟨uY,r0,uX⟩:=d;have uZ:=Ae N uS;refine sZ (L:=[g]) (Φ':=λ_ u=>Pt W w g (Lj A n c r0.length uX) u) (λx a h=>by have t:=F3 (B.next a h) N h.2.2;rw[uS]at t;exact t) (λu h=>Kf (cs':=[]) lg u h) (λ_ p u e j h D=>Kk p u e j h D) O O λ_=>M ?_
  cases e:Do uX r0 with
  |none=>
   have C:o=none:=by rw[K];unfold Fy;rw[uS];simp only[AA];rw[e];rfl
   exact s6 (L:=[g]) (Φ':=λu=>N8 W w g u) (λx a h=>by have t:=N5 (B.next a h) uZ h.2.2;rw[e]at t;exact t) (λu h=>Kf (cs':=[]) lg u h) (λp u e j h _=>Nk p u e j h) O O<|sX λx a h=>by rw[C];exact Nj B.hW a h
  |some d=>
  obtain⟨uW,r1,f1⟩:=d;have Q:=Mv uZ e;refine sZ (L:=[g]) (Φ':=λ_ u=>Pt W w g (Lj A n c r1.length f1) u) (λx a h=>by have t:=N5 (B.next a h) uZ h.2.2;rw[e]at t;exact t) (λu h=>Kf (cs':=[]) lg u h) (λ_ p u e j h D=>Kk p u e j h D) O O λ_=>M ?_
  cases j:Bm Lm 0 f1 r1 with
  |none=>
   have C:o=none:=by rw[K];unfold Fy;rw[uS];simp only[AA];rw[e];simp only[AA];rw[j];rfl
   exact s6 (L:=[g]) (Φ':=λu=>N8 W w g u) (λx a h=>by have t:=Tq (B.next a h) Q h.2.2;rw[j]at t;exact t) (λu h=>Kf (cs':=[]) lg u h) (λp u e j h _=>Nk p u e j h) O O<|sX λx a h=>by rw[C];exact Nj B.hW a h
  |some d=>
  obtain⟨v2,r2,f2⟩:=d;have P:=Ou Q j;refine sZ (L:=[g]) (Φ':=λ_ u=>Pt W w g (Lj A n c r2.length f2) u) (λx a h=>by have t:=Tq (B.next a h) Q h.2.2;rw[j]at t;exact t) (λu h=>Kf (cs':=[]) lg u h) (λ_ p u e j h D=>Kk p u e j h D) O O λ_=>M ?_
  cases T:Jv f2 r2 with
  |none=>
   have C:o=none:=by rw[K];unfold Fy;rw[uS];simp only[AA];rw[e];simp only[AA];rw[j];simp only[AA];rw[T];rfl
   exact s6 (L:=[g]) (Φ':=λu=>N8 W w g u) (λx a h=>by have t:=Bi h.1 hM (B.next a h) P h.2.2;rw[T]at t;exact t) (λu h=>Kf (cs':=[]) lg u h) (λp u e j h _=>Nk p u e j h) O O<|sX λx a h=>by rw[C];exact Nj B.hW a h
  |some d=>
  obtain⟨uR,r3,uV⟩:=d;have uU:=F1 P T;refine sZ (L:=[g]) (val:=λt:TV=>t.val) (G:=λ(t:TV) u=>K7 u g (Lj A n c r3.length uV)/\AF w.heap.size t uR u) (Φ':=λ(t:TV) u=>Pt W w g (Lj A n c r3.length uV) u/\AF w.heap.size t uR u) (λx a h=>by have t:=Bi h.1 hM (B.next a h) P h.2.2;rw[T]at t;exact t) (λu h=>Kf (cs':=[]) lg u h) (λt p u e j h D=>⟨Kk p u e j h D.1,D.2⟩) O O λt=>M ?_
  cases e4:EV uV r3 with
  |none=>
   have C:o=none:=by rw[K];unfold Fy;rw[uS];simp only[AA];rw[e];simp only[AA];rw[j];simp only[AA];rw[T];simp only[AA];rw[e4];rfl
   exact s6 (L:=[g]) (Φ':=λu=>N8 W w g u) (λx a h=>by have t:=HC h.1.1 (B.next a h.1) uU h.1.2.2;rw[e4]at t;exact t) (λu h=>Kf (cs':=[]) lg u h.1) (λp u e j h _=>Nk p u e j h.1) O O<|sX λx a h=>by rw[C];exact Nj B.hW a h
  |some d=>
  obtain⟨S,f4⟩:=d;refine sZ (L:=[g]) (val:=λy:YZ=> .slice y.1 S.length y.2) (G:=λ(y:YZ) u=>K7 u g (Lj A n c 0 f4)/\Y u w.heap.size 165 5 y.1 S.length y.2 (Gr S)) (Φ':=λ(y:YZ) u=>Pt W w g (Lj A n c 0 f4) u/\AF w.heap.size t uR u/\Y u w.heap.size 165 5 y.1 S.length y.2 (Gr S)) (λx a h=>by have t:=HC h.1.1 (B.next a h.1) uU h.1.2.2;rw[e4]at t;exact t) (λu h=>Kf (cs':=[]) lg u h.1) (λy p u e j h D=>⟨Kk p u e j h.1 D.1,AF.left hg h.2 e j,D.2⟩) O O λy=>M ?_
  have C:o=some ((⟨3,Ss,uY.1,uY.2,0,0,uW,S,v2,Yf,0,uR⟩:Pn),f4):=by rw[K];unfold Fy;rw[uS];simp only[AA];rw[e];simp only[AA];rw[j];simp only[AA];rw[T];simp only[AA];rw[e4];rfl
  refine sZ (L:=[g]) (Φ':=λ_ u=>Pt W w g (Lj A n c 0 f4) u/\AF w.heap.size t uR u/\Y u w.heap.size 165 5 y.1 S.length y.2 (Gr S)) (λx a h=>PV a lg h.1.2.2) (λu h=>Kf (cs':=[]) lg u h.1) (λ_ p u e j h D=>⟨Kk p u e j h.1 D,AF.left hg h.2.1 e j,Y.left h.2.2 j (F7 h.2.2 hg)⟩) O O λ_=>M<|ZV (U2 (⟨3,Ss,uY.1,uY.2,0,0,uW,S,v2,Yf,0,uR⟩:Pn) (⟨y.1,y.2,none,0,t⟩:PM)) (λx a h=>by have k:=h x (AQ _) (λ_ _ _=>rfl);rw[C];exact Pg (val:=λq:PM=>U2 (⟨3,Ss,uY.1,uY.2,0,0,uW,S,v2,Yf,0,uR⟩:Pn) q) (⟨y.1,y.2,none,0,t⟩:PM) B.hW a k.1 λw'' k1 uT=>⟨k.1.2.2.to (uT g (.inl Zs)),XP.same ⟨k.2.2,s_,.inr ⟨(show(2:Int)<=3 by decide),k.2.1⟩⟩ k1 λb b1 b2=>uT b (.inr ⟨b1,b2⟩)⟩)
 refine ZA (Nq .eql 9 (.tmp 5) (.const (.string ⟨#[114,97,100,105,97,108]⟩)) (E s) (E [114,97,100,105,97,108])) Zf (λx a h=>Kj (by simpa using vf))<|sW false O<|H 0 ?_
 by_cases ve:s=[112,97,116,116,101,114,110]
 case pos=>
  refine ZA (Nq .eql 9 (.tmp 5) (.const (.string ⟨#[112,97,116,116,101,114,110]⟩)) (E s) (E [112,97,116,116,101,114,110])) Zt (λx a h=>Kj (by simpa using ve))<|ZI true ?_
  rw[V (show¬s=Nn from F),V (show¬s=Ky from vg),V (show¬s=L7 from vf),YS (show s=Kx from ve)]at K;cases uS:Bm Lm 0 f r with
  |none=>
   have C:o=none:=by rw[K];unfold Fz;rw[uS];rfl
   exact s6 (L:=[g]) (Φ':=λu=>N8 W w g u) (λx a h=>by have t:=Tq (B.next a h) N h.2.2;rw[uS]at t;exact t) (λu h=>Kf (cs':=[]) lg u h) (λp u e j h _=>Nk p u e j h) O O<|sX λx a h=>by rw[C];exact Nj B.hW a h
  |some d=>
  obtain⟨uY,r0,uX⟩:=d;have uZ:=Ou N uS;refine sZ (L:=[g]) (Φ':=λ_ u=>Pt W w g (Lj A n c r0.length uX) u) (λx a h=>by have t:=Tq (B.next a h) N h.2.2;rw[uS]at t;exact t) (λu h=>Kf (cs':=[]) lg u h) (λ_ p u e j h D=>Kk p u e j h D) O O λ_=>M ?_
  cases e:Bm Ng 1 uX r0 with
  |none=>
   have C:o=none:=by rw[K];unfold Fz;rw[uS];simp only[AA];rw[e];rfl
   exact s6 (L:=[g]) (Φ':=λu=>N8 W w g u) (λx a h=>by have t:=Jy (B.next a h) uZ h.2.2;rw[e]at t;exact t) (λu h=>Kf (cs':=[]) lg u h) (λp u e j h _=>Nk p u e j h) O O<|sX λx a h=>by rw[C];exact Nj B.hW a h
  |some d=>
  obtain⟨uW,r1,f1⟩:=d;have Q:=Ou uZ e;refine sZ (L:=[g]) (Φ':=λ_ u=>Pt W w g (Lj A n c r1.length f1) u) (λx a h=>by have t:=Jy (B.next a h) uZ h.2.2;rw[e]at t;exact t) (λu h=>Kf (cs':=[]) lg u h) (λ_ p u e j h D=>Kk p u e j h D) O O λ_=>M ?_
  cases j:Jv f1 r1 with
  |none=>
   have C:o=none:=by rw[K];unfold Fz;rw[uS];simp only[AA];rw[e];simp only[AA];rw[j];rfl
   exact s6 (L:=[g]) (Φ':=λu=>N8 W w g u) (λx a h=>by have t:=Bi h.1 hM (B.next a h) Q h.2.2;rw[j]at t;exact t) (λu h=>Kf (cs':=[]) lg u h) (λp u e j h _=>Nk p u e j h) O O<|sX λx a h=>by rw[C];exact Nj B.hW a h
  |some d=>
  obtain⟨v2,r2,f2⟩:=d;have P:=F1 Q j;refine sZ (L:=[g]) (val:=λt:TV=>t.val) (G:=λ(t:TV) u=>K7 u g (Lj A n c r2.length f2)/\AF w.heap.size t v2 u) (Φ':=λ(t:TV) u=>Pt W w g (Lj A n c r2.length f2) u/\AF w.heap.size t v2 u) (λx a h=>by have t:=Bi h.1 hM (B.next a h) Q h.2.2;rw[j]at t;exact t) (λu h=>Kf (cs':=[]) lg u h) (λt p u e j h D=>⟨Kk p u e j h D.1,D.2⟩) O O λt=>M ?_
  cases T:Yd f2 r2 with
  |none=>
   have C:o=none:=by rw[K];unfold Fz;rw[uS];simp only[AA];rw[e];simp only[AA];rw[j];simp only[AA];rw[T];rfl
   exact s6 (L:=[g]) (Φ':=λu=>N8 W w g u) (λx a h=>by have t:=cF hI h.1.1 (B.next a h.1) P h.1.2.2;rw[T]at t;exact t) (λu h=>Kf (cs':=[]) lg u h.1) (λp u e j h _=>Nk p u e j h.1) O O<|sX λx a h=>by rw[C];exact Nj B.hW a h
  |some d=>
  obtain⟨uR,r3,uV⟩:=d;have uU:=gP P T;refine sZ (L:=[g]) (val:=λz:YZ=>Jo uR z) (G:=λ(z:YZ) u=>K7 u g (Lj A n c r3.length uV)/\Y u w.heap.size 214 4 z.1 uR.px.length z.2 (Wk uR.px)) (Φ':=λ(z:YZ) u=>Pt W w g (Lj A n c r3.length uV) u/\AF w.heap.size t v2 u/\Y u w.heap.size 214 4 z.1 uR.px.length z.2 (Wk uR.px)) (λx a h=>by have t:=cF hI h.1.1 (B.next a h.1) P h.1.2.2;rw[T]at t;exact t) (λu h=>Kf (cs':=[]) lg u h.1) (λz p u e j h D=>⟨Kk p u e j h.1 D.1,AF.left hg h.2 e j,D.2⟩) O O λz=>M ?_
  cases r3 with
  |cons s2 r2=>
   have C:o=none:=by rw[K];unfold Fz;rw[uS];simp only[AA];rw[e];simp only[AA];rw[j];simp only[AA];rw[T];rfl
   exact s6 (L:=[g]) (Φ':=λu=>N8 W w g u) (λx a h=>j0 a lg h.1.2.2) (λu h=>Kf (cs':=[]) lg u h.1) (λp u e j h _=>Nk p u e j h.1) O O<|sX λx a h=>by rw[C];exact Nj B.hW a h
  |nil=>
  have C:o=some ((⟨4,Ss,0,0,0,0,0,[],uY,uR,uW,v2⟩:Pn),uV):=by rw[K];unfold Fz;rw[uS];simp only[AA];rw[e];simp only[AA];rw[j];simp only[AA];rw[T];rfl
  refine sZ (L:=[g]) (Φ':=λ_ u=>Pt W w g (Lj A n c 0 uV) u/\AF w.heap.size t v2 u/\Y u w.heap.size 214 4 z.1 uR.px.length z.2 (Wk uR.px)) (λx a h=>PV a lg h.1.2.2) (λu h=>Kf (cs':=[]) lg u h.1) (λ_ p u e j h D=>⟨Kk p u e j h.1 D,AF.left hg h.2.1 e j,Y.left h.2.2 j (F7 h.2.2 hg)⟩) O O λ_=>M<|ZV (U2 (⟨4,Ss,0,0,0,0,0,[],uY,uR,uW,v2⟩:Pn) (⟨none,0,z.1,z.2,t⟩:PM)) (λx a h=>by have k:=h x (AQ _) (λ_ _ _=>rfl);rw[C];exact Pg (val:=λq:PM=>U2 (⟨4,Ss,0,0,0,0,0,[],uY,uR,uW,v2⟩:Pn) q) (⟨none,0,z.1,z.2,t⟩:PM) B.hW a k.1 λw'' k1 uT=>⟨k.1.2.2.to (uT g (.inl Zs)),XP.same ⟨s_,k.2.2,.inr ⟨(show(2:Int)<=4 by decide),k.2.1⟩⟩ k1 λb b1 b2=>uT b (.inr ⟨b1,b2⟩)⟩)
 refine ZA (Nq .eql 9 (.tmp 5) (.const (.string ⟨#[112,97,116,116,101,114,110]⟩)) (E s) (E [112,97,116,116,101,114,110])) Zf (λx a h=>Kj (by simpa using ve))<|ZI false ?_
 have C:o=none:=by rw[K,V (show¬s=Nn from F),V (show¬s=Ky from vg),V (show¬s=L7 from vf),V (show¬s=Kx from ve)]
 exact td (Instr.panic Kh >>= λv=>pure (.value v)) Kh O (λx a h=>by simp[Instr.panic,Kh,BA]) O<|sX λx a h=>by rw[C];exact N9 B.hW a h
end
section
variable{P:YK}{W w:YN}
theorem tS{f:YE}{l:Func}{args:Array YM}{u h:FrameMode}{rv:YM}{uY:YC->YN->Prop}{id m G:Nat}{r o:YD}{rest:Code}
 (uV:P.funcs[f]? =some l) (hb:l.body=some (.seq (.region id #[r,o] false) rest))
 (h0:∀(ρ:YJ->YM) (w:YN),(execOp ρ r).run P w= .ok .recover w) (K:r.guard=none) (L:r.dst=some m)
 (S:o.op= .assign (.tmp m)) (uR:o.guard=none) (t:o.dst=some G) (N:m<args.size+(l.ntmps-args.size))
 (B:∀(a:Frame) (cs:List Frame),a.mode=u->match recoverD (a::cs)with
  |some (v,cs')=>v=rv/\cs'={a with mode:=h}::cs
  |none=>rv= .nilIface/\h=u)
 (hW:Below W.heap.size W w)
 (uS:K0 P [] W (bodyPost P l uY) (λu=>w.heap.size<=u.heap.size/\∀b,W.heap.size<=b->b<w.heap.size->u.heap[b]? =w.heap[b]?) ⟨.code rest,[],⟨((((args.toList++List.replicate (l.ntmps-args.size) undef).set m rv).set G rv)).map .v,λ_=>none⟩⟩):
 CallsD P f args u w λe uZ C=>uZ=h/\uY e C:=by
 refine callsD_of_wpS uV hb λa cs uU=>wpS_seq (wpS_region ?_)
 have D:∀(cs':List Frame),cs'={a with mode:=h}::cs->rest.wpS P (bodyPostS P l a cs (λe uZ C=>uZ=h/\uY e C)) ⟨((args++BU (l.ntmps-args.size) undef).setIfInBounds m rv).setIfInBounds G rv,[]⟩ cs' w:=λcs' g=>by
  refine wpS_of_wp ?_;have vf:=uS.get ⟨λx uX k s=>by simp only[CL]at uX;obtain⟨q,_,rfl⟩:=uX;simp[AV.ids]at s,λj cs hj=>by cases hj⟩ (λ_=>0) ⟨((args++BU (l.ntmps-args.size) undef).setIfInBounds m rv).setIfInBounds G rv,[]⟩ w
   ⟨by simp[CN,AV.conc],rfl,hW,λk cs s=>(by cases s),λk k' s=>(by cases s),λC vf=>⟨vf.size,λb S uT=>vf.heap b S uT (λk s=>by cases s)⟩⟩
  refine wp_mono vf λe a' C y=> ?_
  cases e with
  |normal=>obtain⟨A,v,ve,vg⟩:=y;exact⟨A,h,g,v,ve,rfl,vg⟩
  |ret=>obtain⟨A,v,ve,vg⟩:=y;exact⟨A,h,g,v,ve,rfl,vg⟩
  |panic ch=>obtain⟨A,vg⟩:=y;exact⟨A,h,g,rfl,vg⟩
  |outgrown=>exact⟨h,rfl,y⟩
  |exit _=>exact y
  |goto _=>exact y
 have T:∀(ρ:YJ->YM) (w:YN),(execOp ρ o).run P w= .ok (.value (ρ (.tmp m))) w:=λρ w=>by unfold execOp;rw[S];rfl
 have F:Act.eval ⟨(args++BU (l.ntmps-args.size) undef).setIfInBounds m rv,[]⟩ (.tmp m)=rv:=by
  simp only[Act.eval,Array.getD_eq_getD_getElem?];rw[AN (by simpa using N)];rfl
 rw[show BI (#[r,o]:Array YD).size=[0,1]from rfl];have c:=B a cs uU;simp only[wpOpsS,show(#[r,o]:Array YD)[0]? =some r from rfl,show(#[r,o]:Array YD)[1]? =some o from rfl,Region.wanted,K,uR,if_true,h0,L,t,Act.put];cases uW:recoverD (a::cs)with
 |none=>
  rw[uW]at c;obtain⟨rfl,rfl⟩:=c;simp only[T,F];have Q:(a::cs)={a with mode:=h}::cs:=by rw[<-uU]
  simp only[Oper.upon_value,t,Act.put,Exit.thenS];exact D _ Q
 |some p=>
  rw[uW]at c;obtain⟨v,cs'⟩:=p;obtain⟨rfl,g⟩:=c;simp only[T,F,Oper.upon_value,t,Act.put,Exit.thenS];exact D _ g
end
def rO:List YM:=[I 0,.int .u8 0,.int .u8 0,.int .u8 0,.int .u8 0,I 0,I 0,I 0,I 0,I 0,.slice none 0 0,I 0,I 0,I 0,.slice none 0 0,I 0]++I0.cl
section
variable{w W:YN}{gp go:Nat}{cs:List YM}{b:Bool}
def qV(W w:YN)(u:YN):Prop:=w.heap.size<=u.heap.size/\∀b,W.heap.size<=b->b<w.heap.size->u.heap[b]? =w.heap[b]?
theorem mT(f:Below W.heap.size W w):CallsD XW 60 #[Zq gp 0,Zq go 0] .returning w (λe l c=>l= .returning/\(e= .returned (.tuple #[])/\Below W.heap.size W c/\qV W w c)):=by
 refine tS (rv:= .nilIface) func60 rfl (λρ w=>rfl) rfl rfl rfl rfl rfl (by show 5<2+(17-2);decide) (λa cs j=> ?_) f ?_
 .simp[recoverD,j]
 refine M<|ZI true<|ZV (.tuple #[]) (λk g h=>⟨rfl,g,h k (AQ _) λ_ _ _=>rfl⟩)
end
def bU(a:Func)(σ:AS):Option ((Nat×YH)×(Nat×YH)):=
 match a.results.toList with
 | [.cell t ty,.cell t2 ty2]=>match σ.tmps.getD t (.v undef),σ.tmps.getD t2 (.v undef)with
  | .v (.pointer (some ⟨g,0,none⟩)),.v (.pointer (some ⟨b,0,none⟩))=>some ((g,ty),(b,ty2))
  |_,_=>none
 |_=>none
theorem fV{P:YK}{Δ:List YI}{W:YN}{Φ:YW}{m:Func}{σ:AS}{β:Nat->Nat}{a:Act}{w c:YN}{g p:Nat}{ty f:YH}{v v2:YM}(b:bU m σ=some ((g,ty),(p,f)))(o:Re Δ W β σ Φ a w)
 (B:(loadVar ty ⟨g,0,none⟩).run P c= .ok v c) (y:(loadVar f ⟨p,0,none⟩).run P c= .ok v2 c):(results m a.tmps).run P c= .ok (.tuple #[v,v2]) c:=by
 unfold bU at b;split at b
 .rename_i t x r l e;split at b
  .rename_i A h s u;simp only[AR,AP]at b;obtain⟨⟨rfl,rfl⟩,rfl,rfl⟩:=b;have j:a.tmps.getD t undef=Zq A 0:=by
    have:=o.eval (.tmp t);simp only[Act.eval,AS.eval,s,AV.conc]at this;exact this
   have k:a.tmps.getD r undef=Zq h 0:=by
    have:=o.eval (.tmp r);simp only[Act.eval,AS.eval,u,AV.conc]at this;exact this
   rw[Yq,AE,Array.mapM_eq_mapM_toList,Sem.run_map,e,CJ,AE];simp only[Dm,j,k,asAddr,AE,AU,AC,B,y,List.mapM_nil,CJ]
   rfl
  .cases b
 .cases b
section
variable{P:YK}{W:YN}{Φ:YW}{c:Ob}{fn:Func}{uY:YC->YN->Prop}{fv:Fn}{cap dargs:Array YM}{f:YE}{args:Array YM}
def iK(c:Ob):Bool:=match c.foc,c.k with| .out .ret,[]=>true|_,_=>false
theorem uK(g p:Nat)(ty j:YH)(m:iK c=true)(A:bU fn c.st=some ((g,ty),(p,j)))(hi:∀w,(invoke (.fn fv cap) dargs).run P w= .ok (.enter f args) w)
 (h:∀w,Below W.heap.size W w->Φ w->CallsD P f args .returning w λe u b=>u= .returning/\∃x v v2,e= .returned x/\(loadVar ty ⟨g,0,none⟩).run P b= .ok v b/\(loadVar j ⟨p,0,none⟩).run P b= .ok v2 b/\uY (.returned (.tuple #[v,v2])) b):
 K0 P [⟨.fn fv cap,dargs⟩] W (bodyPostD P fn uY) Φ c:=by
 obtain⟨D,k,σ⟩:=c;refine⟨?_⟩;unfold iK at m;split at m
 .rename_i r o;simp only at r o;subst r;subst o;intro y β a w l;show Leaves P fn a.tmps uY a.defers .returning w;rw[l.defers];refine leaves_cons Zs (hi w) ((h w l.bel l.phi).mono λe vg b B=> ?_);obtain⟨rfl,x,v,v2,rfl,t,s,C⟩:=B;exact⟨_,fV A l t s,C⟩
 .cases m
end
theorem ME{a:Array YD}{o:YD}{σ:AS}(h:(BI a.size).all (λi=>match a[i]? with
 |some B=>(B.dst !=o.dst)||(BI a.size).all (λk=>BX k i||(Qg a i a.size).getD k false||(Qg a k a.size).getD i false||(match a[k]? with|some ok=>(C8 a ok&& !(σ.plain ok.op))||(fX ok.op||Tn a σ ok)|none=>false))
 |none=>true)=true):Jr a o σ:=by
 intro i hi p j l w u;have x:i<a.size:=(AH.1 hi).1;have y:=BD.1 h i (BR.2 x);simp only[hi,bne_self_eq_false,CB]at y;obtain⟨v,D,s,f⟩:=mem_ready.1 w;obtain⟨r,A,e,g⟩:=mem_ready.1 u;have m:j<a.size:=(AH.1 e).1;have c:=BD.1 y j (BR.2 m);simp only[BV,CH,e,AB,Bool.not_eq_true']at c;rcases c with ((c|c)|c)|c
 .exact .inl c
 .obtain⟨C,b,t⟩:=Rx l v _ _ c;rw[e]at b;injection b with b;subst b;exact absurd g t
 .obtain⟨C,b,t⟩:=Rx l r _ _ c;rw[s]at b;injection b with b;subst b;exact absurd f t
 .exact .inr ⟨A,e,c⟩
def QQ(c:Ob):Bool:=match c.foc with
 | .any a (_+1) b=>match Region.ready .any a b with
  | [i]=>match a[i]? with
   |some o=>(BI a.size).all (λi=>match a[i]? with
    |some e=>(e.dst !=o.dst)||(BI a.size).all (λk=>BX k i||(Qg a i a.size).getD k false||(Qg a k a.size).getD i false||(match a[k]? with|some ok=>(C8 a ok&& !(c.st.plain ok.op))||(fX ok.op||Tn a c.st ok)|none=>false))
    |none=>true)
   |none=>false
  |_=>false
 |_=>false
theorem jf{a:Array YD}{o:YD}(h:(BI a.size).all (λi=>match a[i]? with
 |some A=>(A.dst !=o.dst)||(A.after.size !=o.after.size)||(BI a.size).all (λk=>BX k i||(Qg a i a.size).getD k false||(Qg a k a.size).getD i false)
 |none=>true)=true):LJ a o:=by
 intro i hi p j l w u;have x:i<a.size:=(AH.1 hi).1;have y:=BD.1 h i (BR.2 x);simp only[hi,bne_self_eq_false,CB]at y;obtain⟨v,C,s,e⟩:=mem_ready.1 w;obtain⟨r,D,g,f⟩:=mem_ready.1 u;have m:j<a.size:=(AH.1 g).1;have c:=BD.1 y j (BR.2 m);simp only[BV,CH]at c;rcases c with (c|c)|c
 .exact c
 .obtain⟨B,b,t⟩:=Rx l v _ _ c;rw[g]at b;injection b with b;subst b;exact absurd f t
 .obtain⟨B,b,t⟩:=Rx l r _ _ c;rw[s]at b;injection b with b;subst b;exact absurd e t
def SY(c:Ob):Bool:=match c.foc with
 | .any a (_+1) b=>match Region.ready .any a b with
  | [i]=>match a[i]? with
   |some o=>(BI a.size).all (λi=>match a[i]? with
    |some e=>(e.dst !=o.dst)||(e.after.size !=o.after.size)||(BI a.size).all (λk=>BX k i||(Qg a i a.size).getD k false||(Qg a k a.size).getD i false)
    |none=>true)
   |none=>false
  |_=>false
 |_=>false
section
variable{P:YK}{Δ:List YI}{W:YN}{Q:Exit->Act->YN->Prop}{Φ:YW}{c:Ob}
theorem tz{uX:Type}{L:List Nat}{val:uX->YM}{G Φ':uX->YN->Prop}(s:Sem Next)
 (S:∀w,Below W.heap.size W w->Φ w->Pp P w L val G s) (T:Bk W L Φ) (F:∀x,Hw L Φ (G x) (Φ' x))
 (A:QQ c=true) (f:Vy c=some s) (h:∀x,K0 P Δ W Q (Φ' x) (Lf (.v (val x)) c)):K0 P Δ W Q Φ c:=by
 obtain⟨uW,k,σ⟩:=c;replace h:=λx=>(h x).get
 refine⟨?_⟩;replace f:=(Rc f).1;unfold Ue at f;split at f
 .rename_i K o l;split at f
  .cases f
  .cases f
  .rename_i C uR;split at f
   .rename_i vg;simp only[AB]at vg;injection f with f;subst f;unfold P1 at l;simp only at l;split at l
    .cases A
    .rename_i m fuel p;split at l
     .rename_i i g;cases a:m[i]? with
      |none=>rw[a]at l;cases l
      | some uS=>
       rw[a]at l;simp only[BJ,AR,AP]at l;obtain⟨rfl,rfl⟩:=l;intro y D B;refine⟨λuY=>(by rw[uY]at g;cases g),λj vf=> ?_⟩;rw[g]at vf;obtain rfl:j=i:=by simpa using vf
       obtain⟨_,N,u,t⟩:=mem_ready.1 (show j∈Region.ready .any m p by rw[g];simp);obtain rfl:uS=N:=by rw[a]at u;injection u
       have r:Jr m uS σ:=by
        refine ME ?_;unfold QQ at A;simp only[g,a]at A;exact A
       refine⟨uS,a,.mutm val G Φ' r vg.1 vg.2 (λcs b e=>C cs b e) (.inl S) T F λx=> ?_⟩;have ve:=h x;simp only[Vt,Lf,g,a,AA,BE]at ve;exact ve y (D.set_ a t) (B.put _ (by intro k uZ;simp[AV.ids]at uZ))
     .cases l
    .cases l
   .cases f
 .cases f
theorem tJ{L:List Nat}{G Φ':YW}(s:Sem Next)
 (hs:∀w,Below W.heap.size W w->Φ w->∃vf,s.run P w= .ok .skip vf/\SM L w vf/\∀p,vf.heap.size<=p.heap.size->(∀b∈L,p.heap[b]? =vf.heap[b]?)->G p) (hL:Bk W L Φ) (T:Hw L Φ G Φ')
 (ve:SY c=true) (g:Vy c=some s) (h:K0 P Δ W Q Φ' (Lf (.v undef) c)):K0 P Δ W Q Φ c:=by
 obtain⟨foc,k,σ⟩:=c;replace h:=h.get;refine⟨?_⟩;replace g:=(Rc g).1;unfold Ue at g;split at g
 .rename_i uX o m;split at g
  .cases g
  .cases g
  .rename_i uZ uV;split at g
   .rename_i S;simp only[AB]at S;injection g with g;subst g;unfold P1 at m;simp only at m;split at m
    .cases ve
    .rename_i r fuel t;split at m
     .rename_i i l;cases f:r[i]? with
      |none=>rw[f]at m;cases m
      | some A=>
       rw[f]at m;simp only[BJ,AR,AP]at m;obtain⟨rfl,rfl⟩:=m;intro uS uY uR;refine⟨λh0=>(by rw[h0]at l;cases l),λj uW=> ?_⟩;rw[l]at uW;obtain rfl:j=i:=by simpa using uW
       obtain⟨_,uT,D,C⟩:=mem_ready.1 (show j∈Region.ready .any r t by rw[l];simp);obtain rfl:A=uT:=by rw[f]at D;injection D
       have y:LJ r A:=by
        refine jf ?_;unfold SY at ve;simp only[l,f]at ve;exact ve
       refine⟨A,f,.lone y λΔ' β a w Q' i' K' N F uU hK=> ?_⟩;unfold wpOp;simp only[N,Mw F,S.1,if_true];refine .inl ?_;have vg:∀x∈A.op.operands,a.eval x=σ.rho x:=λx hx=>by
        rw[F.eval,tp];· rfl
        exact BD.1 S.2 x (by simpa using hx)
       obtain⟨vf,B,K,hG⟩:=hs w F.bel F.phi;unfold Oper.wp;rw[execOp_congr A (λcs b e=>uZ cs b e) vg,B];simp only[Vt,Lf,l,f,AA,BE]at h;have u:(σ.put A.dst (.v undef)).wf:=uR.put _ (by intro k hk;simp[AV.ids]at hk);exact hK _ _ _ _ _ (h uS (uY.set_ f C) u) ((F.mut hL K (λp a1 a2=>hG p a1 λb hb=>a2 b (.inl hb)) T).put A.dst (.v undef)) u
     .cases m
    .cases m
   .cases g
 .cases g
def HY(c:Ob):Bool:=QQ c&&(match P1 c with|some (_,o)=>c.st.plain o.op|none=>false)
theorem MK{b:Array YD}{fuel:Nat}{a:Array Bool}{k:List nT}{σ:AS}{i:Nat}{o:YD}(g:Region.ready .any b a=[i])(f:b[i]? =some o)(e:HY ⟨.any b (fuel+1) a,k,σ⟩=true):Jr b o σ/\σ.plain o.op=true:=by
 unfold HY QQ P1 at e;simp only[g,f,BJ,AB]at e;exact⟨ME e.1,e.2⟩
theorem ue{uX:Type}{L:List Nat}{g:YE}{args:Array YM}{val:uX->YM}{G Φ':uX->YN->Prop}
 (T:∀w,Below W.heap.size W w->Φ w->YG P g args w (Ni w L val G)) (uU:Bk W L Φ) (C:∀x,Hw L Φ (G x) (Φ' x))
 (D:HY c=true) (r:M8 P c=some (g,args)) (h:∀x,K0 P Δ W Q (Φ' x) (Lf (.v (val x)) c)):K0 P Δ W Q Φ c:=by
 obtain⟨uV,k,σ⟩:=c;replace h:=λx=>(h x).get
 refine⟨?_⟩;unfold M8 at r;split at r
 .rename_i uR xs m;split at r
  .rename_i vs ve;injection r with r;injection r with h1 h2;subst h1;subst h2;unfold U4 at m;split at m
   .rename_i vf o l;split at m
    .rename_i S;unfold P1 at l;simp only at l;split at l
     .cases D
     .rename_i s fuel p;split at l
      .rename_i i f;cases a:s[i]? with
       |none=>rw[a]at l;cases l
       | some uS=>
        rw[a]at l;simp only[BJ,AR,AP]at l;obtain⟨rfl,rfl⟩:=l;intro y B A;refine⟨λuY=>(by rw[uY]at f;cases f),λj vg=> ?_⟩;rw[f]at vg;obtain rfl:j=i:=by simpa using vg
        obtain⟨_,N,u,t⟩:=mem_ready.1 (show j∈Region.ready .any s p by rw[f];simp);obtain rfl:uS=N:=by rw[a]at u;injection u
        obtain⟨uW,K⟩:=MK f a D;refine⟨uS,a,.mutm val G Φ' uW S K (λcs b e=> ?_) (.inr ⟨uR,xs,vs,m,ve,T⟩) uU C λx=> ?_⟩
        .unfold Y9 at m;rw[e]at m;cases m
        have F:=h x;simp only[Vt,Lf,f,a,AA,BE]at F;exact F y (B.set_ a t) (A.put _ (by intro k uZ;simp[AV.ids]at uZ))
      .cases l
     .cases l
    .cases m
   .cases m
  .cases r
 .cases r
theorem uE{L:List Nat}{g:YE}{args:Array YM}{r:List YF}{Φ':YW}
 (uS:∀w,Below W.heap.size W w->Φ w->YG P g args w (Xa w L r)) (ve:Bk W L Φ) (s:Hw L Φ (λ_=>True) Φ')
 (t:HY c=true) (f:M8 P c=some (g,args)) (h:∀σ,K0 P Δ W Q Φ' (J_ r ⟨c.foc,c.k,σ⟩)):K0 P Δ W Q Φ c:=by
 obtain⟨foc,k,σ⟩:=c;replace h:=λx=>(h x).get
 refine⟨?_⟩;unfold M8 at f;split at f
 .rename_i D xs l;split at f
  .rename_i vs B;injection f with f;injection f with h1 h2;subst h1;subst h2;unfold U4 at l;split at l
   .rename_i y o a;split at l
    .rename_i G;unfold P1 at a;simp only at a;split at a
     .cases t
     .rename_i m fuel p;split at a
      .rename_i i e;cases b:m[i]? with
       |none=>rw[b]at a;cases a
       |some K=>
        rw[b]at a;simp only[BJ,AR,AP]at a;obtain⟨rfl,rfl⟩:=a;intro v vg A;refine⟨λF=>(by rw[F]at e;cases e),λj u=> ?_⟩;rw[e]at u;obtain rfl:j=i:=by simpa using u
        obtain⟨vf,C⟩:=MK e b t;exact⟨K,b,.pan r Φ' D xs vs vf G C l B uS ve s h⟩
      .cases a
     .cases a
    .cases l
   .cases l
  .cases f
 .cases f
end
theorem Wj:∀{b:R} {k:Nat} {c:Co},(M5 b)[k]? =some c->b[4*k]? =some c.1/\b[4*k+1]? =some c.2.1/\b[4*k+2]? =some c.2.2.1/\b[4*k+3]? =some c.2.2.2
 |x::y::z::u::l,0,c,h=>by cases h;exact⟨rfl,rfl,rfl,rfl⟩
 |x::y::z::u::l,k+1,c,h=>by
  have a:=Wj (b:=l) (k:=k) (c:=c) h;rw[show 4*(k+1)=4*k+1+1+1+1 by omega,show 4*k+1+1+1+1+1=(4*k+1)+1+1+1+1 by omega,show 4*k+1+1+1+1+2=(4*k+2)+1+1+1+1 by omega,show 4*k+1+1+1+1+3=(4*k+3)+1+1+1+1 by omega];simpa only[BT]using a
 | [],k,c,h=>by cases h
 | [_],k,c,h=>by cases h
 | [_,_],k,c,h=>by cases h
 | [_,_,_],k,c,h=>by cases h
theorem Is{lo hi z:Int}{f e:Bool}{ws r:WS}(h:SR lo hi f ws=some (z,true,r,e)):lo<=z/\z<=hi:=by
 cases ws with
 |nil=>cases h
 | cons s v=>
  rw[Dq]at h;split at h
  .rename_i a;cases h;have g:Af s lo hi=O1 s:=by unfold Af;rw[YS a]
   have j:¬(O1 s<lo\/hi<O1 s):=λc=>by
    unfold Rp at a
    by_cases b:Pw s=0
    .rw[YS b,YS c]at a;exact absurd a Zd
    .rw[V b]at a;exact b a
   rw[g];omega
  .split at h<;>cases h
section
variable{w W:YN}{g n c m:Nat}{A:YY}{f:Bool}{s l:R}{ws0 rest r:WS}
theorem jT{B m yc b:Nat}{y:YY}{a:List Co}{x:Co}(p:Y w B 214 4 y m yc (Wk a))(k:B<=w.heap.size)(o:Kr 214 (P7 x).toArray b w)(u:m<1000000):
 Pp XW w (bl y) (λz:YZ=> .slice z.1 (m+1) z.2) (λz v=>Y v B 214 4 z.1 (m+1) z.2 (Wk (a++ [x]))) (Ln 38 38 (.slice y m yc) (Kd 1 b)):=by
 have j:=N4 (P:=XW) (s:=4) (z:= .agg (P7 Ss).toArray) (bytes:=4) (m:=1) (cc:=1) (t:=38) (elem:=214) O O rfl Zd p k (Mm (n:=1) o rfl) (by intro v h;simp[P7]at h;rcases h with rfl|rfl|rfl|rfl<;>rfl) J Zd;have e:Wk (a++ [x])=Wk a++P7 x:=by simp[Wk]
 rw[e];exact j
theorem od{u:YN}{B B2 m cc y c2 D x:Nat}{o p:YH}{uV Y2:YY}{xs k:List YM}(h:Y u B o D uV m cc xs)(t:Y u B2 p x Y2 y c2 k)(j:o≠p):∀b∈bl uV,b∉bl Y2:=λb C e=>by
 obtain⟨G,vg,v⟩:=h.ty b C;obtain⟨c2,F,a⟩:=t.ty b e;rw[v]at a;simp only[AR,Obj.cells.injEq]at a;exact j a.2.1
theorem eu{p:R}{K:Nat}(D:Ao l=some p)(F:p.length=K)(C:0<K)(G:l.length<=100000):YG XW 185 #[E l] w (K6 w (λy:Nat×Nat=> .tuple #[.slice (some ⟨y.1,0,none⟩) K y.2,I 0]) λy u=>Y u 0 5 1 (some ⟨y.1,0,none⟩) K y.2 (bv p)):=by
 subst F;refine(Zj D J).mono λe t k=> ?_
 obtain⟨y,vg,B,j⟩:=k;have h:Y t 0 5 1 y.1 p.length y.2 (bv p):=j t (AQ _) λ_ _ _=>rfl
 obtain⟨g,o,_⟩:=h.cells C;refine⟨(g,y.2),by rw[vg];show Ending.returned (.tuple #[.slice y.1 _ _,_])=_;rw[o],B,λb x v=> ?_⟩;have a:Y b 0 5 1 y.1 p.length y.2 (bv p):=j b x v;rw[o]at a;exact a
theorem Dw{u:YN}{B K cc e k:Nat}{p:R}{b:UInt8}(h:Y u B 5 1 (some ⟨e,0,none⟩) K cc (bv p))(a:p[k]? =some b):u.cell? ((⟨e,0,none⟩:YB).add k)=some (.int .u8 (b.toNat:Int)):=by
 have v:=(BB.1 a).1;have j:=h.len;unfold bv at j;rw[List.length_map]at j;obtain⟨x,o,t⟩:=h.cells J;cases o;rw[Addr.add_mid,CD];exact t k _ (by unfold bv;rw[CF,a];rfl)
theorem oz{n:Nat}:((n:Int).tmod 4 !=0)=decide (n%4≠0):=by
 have e:(n:Int).tmod 4=((n%4:Nat):Int):=rfl;rw[e]
 by_cases h:n%4=0
 .rw[h];rfl
 .simp[h];omega
theorem dw(D:RE W w g A n c ws0)(hs:Qm ws0 n rest)(S:K7 w g (Lj A n c rest.length f)):YG XW 115 #[Zq g 0] w
 (Lt w [g] S3 (Yd f rest) (λd (y:YZ)=>Jo d.1 y) (λd y u=>K7 u g (Lj A n c d.2.1.length d.2.2)/\Y u w.heap.size 214 4 y.1 d.1.px.length y.2 (Wk d.1.px))):=by
 have lg:=D.lg;have hg:=S.lt;obtain⟨o,ho⟩:∃o,o=Yd f rest:=⟨_,rfl⟩
 rw[<-ho];refine tg func115 rfl D.hW lg S<|M ?_
 cases uY:SR 1 4096 f rest with
 |none=>
  have ve:o=none:=by rw[ho];unfold Yd;rw[uY];rfl
  exact s6 (L:=[g]) (Φ':=λu=>N8 W w g u) (λe a h=>by have t:=Xn (lo:=1) (hi:=4096) (D.next a h) hs h.2.2;rw[uY]at t;exact t) (λu h=>Kf (cs':=[]) lg u h) (λvf u F C h _=>Nk vf u F C h) O O<|sX λe a h=>by rw[ve];exact Nj D.hW a h
 |some d=>
 obtain⟨x,bx,r1,f1⟩:=d;have hs1:=Yr hs uY;refine sZ (L:=[g]) (Φ':=λ_ u=>Pt W w g (Lj A n c r1.length f1) u) (λe a h=>by have t:=Xn (lo:=1) (hi:=4096) (D.next a h) hs h.2.2;rw[uY]at t;exact t) (λu h=>Kf (cs':=[]) lg u h) (λ_ vf u F C h uZ=>Kk vf u F C h uZ) O O λ_=>M ?_
 cases uX:SR 1 4096 f1 r1 with
 |none=>
  have ve:o=none:=by rw[ho];unfold Yd;rw[uY,AA,uX];rfl
  exact s6 (L:=[g]) (Φ':=λu=>N8 W w g u) (λe a h=>by have t:=Xn (lo:=1) (hi:=4096) (D.next a h) hs1 h.2.2;rw[uX]at t;exact t) (λu h=>Kf (cs':=[]) lg u h) (λvf u F C h _=>Nk vf u F C h) O O<|sX λe a h=>by rw[ve];exact Nj D.hW a h
 |some d=>
 obtain⟨y,Q,r2,f2⟩:=d;have hs2:=Yr hs1 uX;refine sZ (L:=[g]) (Φ':=λ_ u=>Pt W w g (Lj A n c r2.length f2) u) (λe a h=>by have t:=Xn (lo:=1) (hi:=4096) (D.next a h) hs1 h.2.2;rw[uX]at t;exact t) (λu h=>Kf (cs':=[]) lg u h) (λ_ vf u F C h uZ=>Kk vf u F C h uZ) O O λ_=>M ?_
 cases r2 with
 |nil=>
  have ve:o=none:=by rw[ho];unfold Yd;rw[uY,AA,uX];rfl
  exact s6 (L:=[g]) (Φ':=λu=>N8 W w g u) (λe a h=>Rv (D.next a h) h.2.2) (λu h=>Kf (cs':=[]) lg u h) (λvf u F C h _=>Nk vf u F C h) O O<|sX λe a h=>by rw[ve];exact Nj D.hW a h
 |cons s uR=>
 have hs3:=hs2.tail;have hsl:=D.mem hs2;refine sZ (L:=[g]) (Φ':=λ_ u=>Pt W w g (Lj A n c uR.length f2) u) (λe a h=>Px (D.next a h) hs2 h.2.2) (λu h=>Kf (cs':=[]) lg u h) (λ_ vf u F C h uZ=>Kk vf u F C h uZ) O O λ_=>M ?_
 have uS:o=match Ao s with
  |none=>none
  |some b=>if b.length%4≠0 then none else if bx=false\/Q=false\/x*y>65536 then some (Yf,uR,true)
   else if (b.length:Int)≠4*x*y then none else some (⟨x,y,M5 b⟩,uR,f2):=by
  rw[ho];unfold Yd;rw[uY,AA,uX];rfl
 cases uV:Ao s with
 |none=>
  have ve:o=none:=by rw[uS,uV]
  exact Z (λe a h=>PA uV J) λB=>ZI true<|td (Instr.panic Kh >>= λv=>pure (.value v)) Kh O (λe a h=>by simp[Instr.panic,Kh,BA]) O<|sX λe a h=>by rw[ve];exact N9 D.hW a h.1
 |some b=>
 rw[uV]at uS;simp only at uS;have hbl:2*b.length=s.length:=by rw[<-B1 uV,Qe]
 by_cases h4:b.length%4=0
 case neg=>
  have ve:o=none:=by rw[uS,YS h4]
  exact tf (λe a h=>Zj uV J) O λB=>s0 O (stop:=1000) 9 _<|H 7<|ZT 33 (.bool (((b.length:Int).tmod 4) !=0)) Zt (by rw[oz];simp[h4])<|ZI true<|td (Instr.panic Kh >>= λv=>pure (.value v)) Kh O (λe a h=>by simp[Instr.panic,Kh,BA]) O<|sX λe a h=>by rw[ve];exact N9 D.hW a h.1
 rw[V J]at uS;have P:(((b.length:Int).tmod 4) !=0)=false:=by rw[oz];simp[h4]
 by_cases vg:bx=false\/Q=false\/x*y>65536
 case pos=>
  have ve:o=some (Yf,uR,true):=by rw[uS,YS vg]
  refine tf (λe a h=>Zj uV J) O λB=>s0 O (stop:=1000) 9 _<|H 7<|sM 33 (.bool (((b.length:Int).tmod 4) !=0)) Zf O (by rw[P]) ?_
  cases bx with
  |false=>
   refine M<|ZI false<|ZI true<|s8 (L:=[g]) (G:=λu=>K7 u g (Lj A n c uR.length true)) (Φ':=Pt W w g (Lj A n c uR.length true)) (Uk 4 ⟨g,1,none⟩ Zt) (λe a h=>h.1.2.2.store1 (j:=1) O rfl Zs rfl) (λu h=>Kf (cs':=[]) lg u h.1) (λvf u F C h uZ=>Kk vf u F C h.1 uZ) O O<|M<|ZV (Jo Yf (none,0)) (λe a h=>by rw[ve];have k:=h e (AQ _) (λ_ _ _=>rfl);exact Pg (val:=λy:YZ=>Jo Yf y) (none,0) D.hW a k λuW uU k2=>⟨k.2.2.to (k2 g (.inl Zs)),s_⟩)
  | true=>
   cases Q with
   |false=>
    refine M<|ZI false<|ZI true<|s8 (L:=[g]) (G:=λu=>K7 u g (Lj A n c uR.length true)) (Φ':=Pt W w g (Lj A n c uR.length true)) (Uk 4 ⟨g,1,none⟩ Zt) (λe a h=>h.1.2.2.store1 (j:=1) O rfl Zs rfl) (λu h=>Kf (cs':=[]) lg u h.1) (λvf u F C h uZ=>Kk vf u F C h.1 uZ) O O<|M<|ZV (Jo Yf (none,0)) (λe a h=>by rw[ve];have k:=h e (AQ _) (λ_ _ _=>rfl);exact Pg (val:=λy:YZ=>Jo Yf y) (none,0) D.hW a k λuW uU k2=>⟨k.2.2.to (k2 g (.inl Zs)),s_⟩)
   |true=>
    have hxy:x*y>65536:=by simpa using vg
    have hx:=Is uY;have hy:=Is uX;have hm:x*y<=4096*4096:=Int.mul_le_mul hx.2 hy.2 J Zd;refine M<|sW false O<|H 10<|sM 46 (I (YA.wrap (x*y))) (I (x*y)) O (by rw[AJ _ J])<|H 11<|ZT 47 (.bool (decide (x*y>65536))) Zt (by simp[hxy])<|ZI true<|s8 (L:=[g]) (G:=λu=>K7 u g (Lj A n c uR.length true)) (Φ':=Pt W w g (Lj A n c uR.length true)) (Uk 4 ⟨g,1,none⟩ Zt) (λe a h=>h.1.2.2.store1 (j:=1) O rfl Zs rfl) (λu h=>Kf (cs':=[]) lg u h.1) (λvf u F C h uZ=>Kk vf u F C h.1 uZ) O O<|M<|ZV (Jo Yf (none,0)) (λe a h=>by rw[ve];have k:=h e (AQ _) (λ_ _ _=>rfl);exact Pg (val:=λy:YZ=>Jo Yf y) (none,0) D.hW a k λuW uU k2=>⟨k.2.2.to (k2 g (.inl Zs)),s_⟩)
 obtain⟨hbx,hby,hxy⟩:bx=true/\Q=true/\x*y<=65536:=by
  refine⟨?_,?_,?_⟩
  .cases bx with
   |true=>rfl
   |false=>exact absurd (.inl rfl) vg
  .cases Q with
   |true=>rfl
   |false=>exact absurd (.inr (.inl rfl)) vg
  .exact Int.not_lt.1 λhc=>vg (.inr (.inr hc))
 rw[V vg]at uS;subst hbx hby;have hx:=Is uY;have hy:=Is uX;have hxy1:1<=x*y:=by have:=Int.mul_le_mul hx.1 hy.1 Zd J;omega
 have e4:4*x*y=4*(x*y):=Int.mul_assoc 4 x y
 by_cases hl:(b.length:Int)=4*x*y
 case neg=>
  have ve:o=none:=by rw[uS,YS hl]
  exact tf (λe a h=>Zj uV J) O λB=>s0 O (stop:=1000) 9 _<|H 7<|ZT 33 (.bool (((b.length:Int).tmod 4) !=0)) Zf (by rw[P])<|sW false O<|H 10<|sM 46 (I (YA.wrap (x*y))) (I (x*y)) O (by rw[AJ _ J])<|H 11<|ZT 47 (.bool (decide (x*y>65536))) Zf Zp<|sW false O<|H 4<|sM 56 (I (YA.wrap (4*x))) (I (4*x)) O (by rw[AJ _ J])<|H 6<|ZT 58 (I (YA.wrap (4*x*y))) (I (4*x*y)) (by rw[AJ _ J])<|X (((b.length:Int) !=4*x*y)) true (by simpa using hl)<|td (Instr.panic Kh >>= λv=>pure (.value v)) Kh O (λe a h=>by simp[Instr.panic,Kh,BA]) O<|sX λe a h=>by rw[ve];exact N9 D.hW a h.1
 have ve:o=some (⟨x,y,M5 b⟩,uR,f2):=by rw[uS,V (by simpa using hl)]
 obtain⟨N,hNq⟩:∃N,b.length=4*N:=⟨b.length/4,by omega⟩
 have hq2:=(JD N b hNq).2;refine tf (λe a h=>eu (K:=b.length) uV rfl J J) O λB=>s0 O (stop:=1000) 9 _<|H 7<|ZT 33 (.bool (((b.length:Int).tmod 4) !=0)) Zf (by rw[P])<|sW false O<|H 10<|sM 46 (I (YA.wrap (x*y))) (I (x*y)) O (by rw[AJ _ J])<|H 11<|ZT 47 (.bool (decide (x*y>65536))) Zf Zp<|sW false O<|H 4<|sM 56 (I (YA.wrap (4*x))) (I (4*x)) O (by rw[AJ _ J])<|H 6<|ZT 58 (I (YA.wrap (4*x*y))) (I (4*x*y)) (by rw[AJ _ J])<|X (((b.length:Int) !=4*x*y)) false (by simpa using hl)<|sU (ι:={q:Nat×(YZ) // q.1<=N}) 97 (λq=>⟨[(2,.p 2 0),(7,.v (.slice (some ⟨B.1,0,none⟩) b.length B.2)),(9,.p 9 0),(10,.v (I ((4*q.1.1:Nat):Int)))],[(2,[.v (I 0),.v (I 0),.v (.slice none 0 0)]),(9,[.v (I x),.v (I y),.v (.slice q.1.2.1 q.1.1 q.1.2.2)])]⟩) (λq u=>(Pt W w g (Lj A n c uR.length f2) u/\Y u 0 5 1 (some ⟨B.1,0,none⟩) b.length B.2 (bv b))/\Y u w.heap.size 214 4 q.1.2.1 q.1.1 q.1.2.2 (Wk ((M5 b).take q.1.1))) (λq=>N-q.1.1) (⟨(0,(none,0)),AY _⟩) O (λ_=>O) zt (λu h=>⟨h,s_⟩) ?_
 rintro⟨⟨k,T,yc⟩,hk⟩ gg;have hk:k<=N:=hk;refine M ?_
 by_cases hlt:k<N
 case neg=>
  obtain rfl:k=N:=J
  refine X (decide (((4*k:Nat):Int)<(b.length:Int))) false Zp<|sN O<|M ?_
  have hfull:(M5 b).take k=M5 b:=AZ J;have ev:(Value.agg #[I x,I y,.slice T k yc])=Jo ⟨x,y,M5 b⟩ (T,yc):=by
   show _=Value.agg #[_,_,.slice T (M5 b).length yc];rw[hq2]
  refine ZV (.agg #[I x,I y,.slice T k yc]) (λe a h=>by rw[ve,ev];have uU:(Pt W w g (Lj A n c uR.length f2) e/\Y e 0 5 1 (some ⟨B.1,0,none⟩) b.length B.2 (bv b))/\Y e w.heap.size 214 4 T k yc (Wk ((M5 b).take k)):=h e (AQ _) (λ_ _ _=>rfl);rw[hfull]at uU;exact Pg (val:=λy2:YZ=>Jo ⟨x,y,M5 b⟩ y2) (T,yc) D.hW a uU.1.1 λuW k2 k3=>⟨uU.1.1.2.2.to (k3 g (.inl Zs)),by show Y uW w.heap.size 214 4 T (M5 b).length yc (Wk (M5 b));rw[hq2];exact uU.2.same λuT S=>k3 uT (.inr (uU.2.lt uT S))⟩)
 obtain⟨px,hpx⟩:∃px,(M5 b)[k]? =some px:=⟨_,AD J⟩
 obtain⟨p1,p2,p3,p4⟩:=Wj hpx;refine X (decide (((4*k:Nat):Int)<(b.length:Int))) true Zp<|sM 79 (I (YA.wrap (((4*k:Nat):Int)+1))) (I ((4*k+1:Nat):Int)) O (by rw[AJ _ J];congr 1)<|sM 84 (I (YA.wrap (((4*k:Nat):Int)+2))) (I ((4*k+2:Nat):Int)) O (by rw[AJ _ J];congr 1)<|sM 89 (I (YA.wrap (((4*k:Nat):Int)+3))) (I ((4*k+3:Nat):Int)) O (by rw[AJ _ J];congr 1)<|ZB 4 (Ki 108 (.slice (some ⟨B.1,0,none⟩) b.length B.2) ((4*k:Nat):Int)) (.pointer (some ((⟨B.1,0,none⟩:YB).add (4*k)))) (λe a h=>Kg (k:=4*k) (elem:=5) O O J)<|ZB 5 (L4 5 ((⟨B.1,0,none⟩:YB).add (4*k))) (.int .u8 (px.1.toNat:Int)) (λe a h=>K9 O (Dw h.1.2 p1))<|ZB 9 (Ki 108 (.slice (some ⟨B.1,0,none⟩) b.length B.2) ((4*k+1:Nat):Int)) (.pointer (some ((⟨B.1,0,none⟩:YB).add (4*k+1)))) (λe a h=>Kg (k:=4*k+1) (elem:=5) O O J)<|ZB 10 (L4 5 ((⟨B.1,0,none⟩:YB).add (4*k+1))) (.int .u8 (px.2.1.toNat:Int)) (λe a h=>K9 O (Dw h.1.2 p2))<|ZB 14 (Ki 108 (.slice (some ⟨B.1,0,none⟩) b.length B.2) ((4*k+2:Nat):Int)) (.pointer (some ((⟨B.1,0,none⟩:YB).add (4*k+2)))) (λe a h=>Kg (k:=4*k+2) (elem:=5) O O J)<|ZB 15 (L4 5 ((⟨B.1,0,none⟩:YB).add (4*k+2))) (.int .u8 (px.2.2.1.toNat:Int)) (λe a h=>K9 O (Dw h.1.2 p3))<|ZB 19 (Ki 108 (.slice (some ⟨B.1,0,none⟩) b.length B.2) ((4*k+3:Nat):Int)) (.pointer (some ((⟨B.1,0,none⟩:YB).add (4*k+3)))) (λe a h=>Kg (k:=4*k+3) (elem:=5) O O J)<|ZB 20 (L4 5 ((⟨B.1,0,none⟩:YB).add (4*k+3))) (.int .u8 (px.2.2.2.toNat:Int)) (λe a h=>K9 O (Dw h.1.2 p4))<|sO (Kw 38 1 #[(0,.agg (P7 px).toArray)]) (Kd 1) (Kr 214 (P7 px).toArray) O (λe a h=>Kb O) λgb=>H 23<|uy [24]<|tz (L:=bl T) (val:=λ(z:YZ)=> .slice z.1 (k+1) z.2) (Φ':=λ(z:YZ) u=>(Pt W w g (Lj A n c uR.length f2) u/\Y u 0 5 1 (some ⟨B.1,0,none⟩) b.length B.2 (bv b))/\Y u w.heap.size 214 4 z.1 (k+1) z.2 (Wk ((M5 b).take k++ [px]))) (G:=λ(z:YZ) u=>Y u w.heap.size 214 4 z.1 (k+1) z.2 (Wk ((M5 b).take k++ [px]))) (Ln 38 38 (.slice T k yc) (Kd 1 gb)) (λe a h=>jT h.1.2 h.1.1.1.1 h.2 J) (λu h=>λuT S=>⟨AW D.hW.size (h.1.2.lt uT S).1,(h.1.2.blk uT S).2⟩) (λz vf u F C h uZ=>⟨⟨ER (λuT S=>(h.1.2.lt uT S).1) hg F C h.1.1.1,Y.left h.1.1.2 C (od h.1.1.2 h.1.2 Zd)⟩,uZ⟩) O O λz=>M<|sM 10 (I (YA.wrap (((4*k:Nat):Int)+4))) (I ((4*(k+1):Nat):Int)) O (by rw[AJ _ J];congr 1) ?_
 have htk:(M5 b).take (k+1)=(M5 b).take k++ [px]:=by rw[BO,hpx];rfl
 refine sR (⟨(k+1,z),by show k+1<=N;omega⟩) O zo zt (λu h=>⟨h.1,by show Y u w.heap.size 214 4 z.1 (k+1) z.2 (Wk ((M5 b).take (k+1)));rw[htk];exact h.2⟩)
theorem mY:RA:=λw W g n c A f ws0 rest a b e=>dw a b e
end
theorem Ww{P:YK}{t:YH}{g:Nat}{v:YM}{w:YN}(b:Tg P t=some false)(h:K7 w g [v]):(loadVar t ⟨g,0,none⟩).run P w= .ok v w:=by
 have a:=W8 (P:=P) b h.one;simp only[AE,Instr.loadAt,Instr.sureAddr,AU,AC]at a;generalize (loadVar t ⟨g,0,none⟩).run P w=r at a ⊢;cases r with
 |ok x c=>simp only[AC,Result.ok.injEq,Next.value.injEq]at a;rw[a.1,a.2]
 |_=>cases a
theorem fh{P:YK}{t:YH}{g:Nat}{vs:List YM}{w:YN}(c:Tg P t=some true)(b:Ot P t=some vs.length)(h:K7 w g vs):(loadVar t ⟨g,0,none⟩).run P w= .ok (.agg vs.toArray) w:=by
 have a:=Nh (P:=P) c b h.range;simp only[L4,AE,Instr.loadAt,Instr.sureAddr,AU,AC]at a;generalize (loadVar t ⟨g,0,none⟩).run P w=r at a ⊢;cases r with
 |ok x e=>simp only[AC,Result.ok.injEq,Next.value.injEq]at a;rw[a.1,a.2]
 |_=>cases a
section
variable{w W:YN}{l:R}
theorem qB(b:ML w)(a:Rq (Kt l)=true)(c:l.length<=10000000):YG XW 59 #[E l] w (K6 w (λy:YZ=> .tuple #[.slice y.1 (Al (Kt l)).length y.2,I 0,I 0]) λy u=>Km u y.1 (Al (Kt l)).length (Al (Kt l))/\(Al (Kt l)).length<=y.2):=Z7 b a rfl c
def bH(w:YN)(c a:Nat)(cs:List YM)(b:Bool)(u:YN):Prop:=K7 u c cs/\K7 u a [.bool b]/\w.heap.size<=c/\c<a/\a<u.heap.size
theorem bH.left{f a g:Nat}{cs:List YM}{b:Bool}{c u:YN}(h:bH w f a cs b c)(j:c.heap.size=u.heap.size)(e:∀b,b∉[g]->c.heap[b]? =u.heap[b]?)(k:a<g):bH w f a cs b u:=
 ⟨h.1.left e (by have:=h.2.2.2.1;simp;omega),h.2.1.left e Zp,h.2.2.1,h.2.2.2.1,by rw[<-j];exact h.2.2.2.2⟩
def yb(A:YY):Nat:=match A with|some ad=>ad.block+1|none=>0
end
def Uo(P:Pn)(q:PM):List YM:=[I P.kind,.int .u8 (P.co.1.toNat:Int),.int .u8 (P.co.2.1.toNat:Int),.int .u8 (P.co.2.2.1.toNat:Int),.int .u8 (P.co.2.2.2.toNat:Int),I P.p0x,I P.p0y,I P.p1x,I P.p1y,I P.rad,.slice q.sA P.stops.length q.sc,I P.spread,I P.im.w,I P.im.h,.slice q.xA P.im.px.length q.xc,I P.samp]++q.t.cl
theorem WV{w:YN}{g:Nat}{c:Array YM}{t:YH}{o:Nat×Nat}(h:w.heap[g]? =some (.cells c t o)):w.setRow g c=w:=by
 have e:(w.setRow g c).heap=w.heap:=by
  apply Array.ext_getElem?;intro i;simp only[CM,BY];split
  .rename_i e;subst e;rw[h];rfl
  .rfl
 show{w with heap:=(w.setRow g c).heap}=w;rw[e]
theorem bj{P:YK}{t:YH}{w:YN}{g:Nat}{v:YM}{cs:List YM}(h:K7 w g cs)(c:v.cells.toList=cs)(j:Ot P t=some cs.length)(f:∀u∈v.cells.toList,u.oneCell'=true):(Uk t ⟨g,0,none⟩ v).run P w= .ok .skip w:=by
 obtain⟨ty,h⟩:=h;have a:=run_storeCells_at P g 0 ty v.cells.toList 0 cs.toArray w h (by simp;rw[<-c];simp) f;have e:v.cells.size=cs.length:=by rw[<-c];simp
 have b:((cs.toArray.toList.take (0+0)++v.cells.toList++cs.toArray.toList.drop (0+0+v.cells.toList.length)).toArray)=cs.toArray:=by
  rw[c];simp
 rw[b,WV h]at a;simp only[Uk,Instr.storeAt,Instr.sureAddr,storeVar,AE,AU,AC,M0 j];rw[V (by simpa using e)];simp only[a,AU,AE,AC]
theorem LH{A:YY}{c:Nat}:Da 0 A c=A:=by
 unfold Da;cases A with
 |none=>rfl
 |some a=>simp[Addr.add]
section
variable{w W:YN}{l:R}
theorem Ge(c:Rq (Kt l)=true):∀y∈Al (Kt l),y.length<=l.length:=λy b=>by
 have a:Pj y∈Kt l:=by rw[<-dh c];exact CL.2 ⟨y,b,rfl⟩
 have g:(Pj y).length<=l.length:=by
  unfold Kt at a;split at a
  .cases a
  .exact Zx 32 l _ a
 have f:y.length<=(Pj y).length:=by
  unfold Pj;split
  .rename_i e;subst e;simp
  .exact(MA y).1
 omega
theorem Gf:(Al (Kt l)).length<=l.length+1:=by
 refine AW (IK _) ?_;unfold Kt;split
 .simp
 .rw[Rr];have:=List.count_le_length (a:=(32:UInt8)) (l:=l);omega
end
section
variable{w:YN}{z:Int}
theorem Dz(l:0<=z)(m:z<0+4):Zv 53 #[.string ⟨#[115,112,114,101,97,100]⟩,I z] w (E (Ks Lm 0 z)):=by
 obtain⟨k,j⟩:∃k:Nat,z=0+(k:Int):=⟨(z-0).toNat,by omega⟩
 have a:k<4:=J
 obtain⟨s,b⟩:∃s,Lm[k]? =some s:=⟨_,AD (show k<Lm.length from a)⟩
 have g:Ks Lm 0 z=s:=by
  unfold Ks;rw[show(z-0).toNat=k by omega,b];rfl
 rw[g];exact sL func53 rfl<|M<|tf (λe c h=>J1) O λy=>s0 O (stop:=1000) 7 _<|H 4<|sM 15 (I (YA.wrap (z-0))) (I (k:Int)) O (by rw[AJ _ J];congr 1;omega)<|sV (Ki 53 (.slice (some ⟨y,0,none⟩) 4 4) k) (.pointer (some ((⟨y,0,none⟩:YB).add k))) O (λe c h=>Kg (elem:=9) O O a)<|H 5<|ZA (L4 9 ((⟨y,0,none⟩:YB).add k)) (E s) (λe c h=>K9 O (by obtain⟨ad,q1,f⟩:=h.2.2 k s b;cases q1;exact f))<|ZW (E s)
theorem PC(l:1<=z)(m:z<1+2):Zv 53 #[.string ⟨#[108,111,111,107]⟩,I z] w (E (Ks Ng 1 z)):=by
 obtain⟨k,j⟩:∃k:Nat,z=1+(k:Int):=⟨(z-1).toNat,by omega⟩
 have a:k<2:=J
 obtain⟨s,b⟩:∃s,Ng[k]? =some s:=⟨_,AD (show k<Ng.length from a)⟩
 have g:Ks Ng 1 z=s:=by
  unfold Ks;rw[show(z-1).toNat=k by omega,b];rfl
 rw[g];exact sL func53 rfl<|M<|tf (λe c h=>JA) O λy=>s0 O (stop:=1000) 7 _<|H 4<|sM 15 (I (YA.wrap (z-1))) (I (k:Int)) O (by rw[AJ _ J];congr 1;omega)<|sV (Ki 53 (.slice (some ⟨y,0,none⟩) 2 2) k) (.pointer (some ((⟨y,0,none⟩:YB).add k))) O (λe c h=>Kg (elem:=9) O O a)<|H 5<|ZA (L4 9 ((⟨y,0,none⟩:YB).add k)) (E s) (λe c h=>K9 O (by obtain⟨ad,q1,f⟩:=h.2.2 k s b;cases q1;exact f))<|ZW (E s)
theorem PG(l:1<=z)(m:z<1+2):Zv 53 #[.string ⟨#[114,117,108,101]⟩,I z] w (E (Ks M2 1 z)):=by
 obtain⟨k,j⟩:∃k:Nat,z=1+(k:Int):=⟨(z-1).toNat,by omega⟩
 have a:k<2:=J
 obtain⟨s,b⟩:∃s,M2[k]? =some s:=⟨_,AD (show k<M2.length from a)⟩
 have g:Ks M2 1 z=s:=by
  unfold Ks;rw[show(z-1).toNat=k by omega,b];rfl
 rw[g];exact sL func53 rfl<|M<|tf (λe c h=>JV) O λy=>s0 O (stop:=1000) 7 _<|H 4<|sM 15 (I (YA.wrap (z-1))) (I (k:Int)) O (by rw[AJ _ J];congr 1;omega)<|sV (Ki 53 (.slice (some ⟨y,0,none⟩) 2 2) k) (.pointer (some ((⟨y,0,none⟩:YB).add k))) O (λe c h=>Kg (elem:=9) O O a)<|H 5<|ZA (L4 9 ((⟨y,0,none⟩:YB).add k)) (E s) (λe c h=>K9 O (by obtain⟨ad,q1,f⟩:=h.2.2 k s b;cases q1;exact f))<|ZW (E s)
theorem Ja{k:Co}:Zv 21 #[Rk k] w (E (P9 k)):=sL func21 rfl<|M<|sO (Kw 108 4 #[(0,.int .u8 (k.1.toNat:Int)),(1,.int .u8 (k.2.1.toNat:Int)),(2,.int .u8 (k.2.2.1.toNat:Int)),(3,.int .u8 (k.2.2.2.toNat:Int))]) (Kd 4) (Kr 5 #[.int .u8 (k.1.toNat:Int),.int .u8 (k.2.1.toNat:Int),.int .u8 (k.2.2.1.toNat:Int),.int .u8 (k.2.2.2.toNat:Int)]) O (λb a h=>Kb O) λe=>M<|ZD 10 (λb a h=>OT (A:=some ⟨e,0,none⟩) (n:=4) (c:=4) (bs:=Z0 k) (by have f:=uk (B:=0) (n:=4) (s:=1) h.2 rfl (AY _) Zd;exact Y.bytes (l:=Z0 k) f) Zd) λu=>ZA (Nq .add 9 (.const (.string ⟨#[35]⟩)) (.tmp 12) (E [35]) (E (Qf (Z0 k)))) (E (P9 k)) (λb a h=>M6 (l:=[35]) (m:=Qf (Z0 k)) (by rw[Qe];show 1+2*4<=_;decide))<|ZW (E (P9 k))
theorem Wa{k:Co}:Zv 40 #[Rk k] w (E (P9 k)):=sL func40 rfl<|M<|sO (Kw 108 4 #[(0,.int .u8 (k.1.toNat:Int)),(1,.int .u8 (k.2.1.toNat:Int)),(2,.int .u8 (k.2.2.1.toNat:Int)),(3,.int .u8 (k.2.2.2.toNat:Int))]) (Kd 4) (Kr 5 #[.int .u8 (k.1.toNat:Int),.int .u8 (k.2.1.toNat:Int),.int .u8 (k.2.2.1.toNat:Int),.int .u8 (k.2.2.2.toNat:Int)]) O (λb a h=>Kb O) λe=>M<|ZD 10 (λb a h=>PY (A:=some ⟨e,0,none⟩) (n:=4) (c:=4) (bs:=Z0 k) (by have f:=uk (B:=0) (n:=4) (s:=1) h.2 rfl (AY _) Zd;exact Y.bytes (l:=Z0 k) f) Zd) λu=>ZA (Nq .add 9 (.const (.string ⟨#[35]⟩)) (.tmp 12) (E [35]) (E (Qf (Z0 k)))) (E (P9 k)) (λb a h=>M6 (l:=[35]) (m:=Qf (Z0 k)) (by rw[Qe];show 1+2*4<=_;decide))<|ZW (E (P9 k))
end
section
variable{w:YN}{t:TV}{T:Xm}{K:Nat}
theorem Q6{N:Nat}(W:N<=w.heap.size)(vg:Fv t T K w)(F:2<=K/\K<=1000):YG XW 52 #[t.val] w (K6 w (λy:YZ=> .slice y.1 6 y.2) λy u=>Y u N 9 1 y.1 6 y.2 (sv (Mn T))):=by
 refine sL func52 rfl<|M<|tx O<|M<|ZI true<|ZD 3 (λj g h=>Ut (vg.a.below g) F) λu=>sO (Kw 53 1 #[(0,E (Kz T.a))]) (Kd 1) (Kr 9 #[E (Kz T.a)]) O (λj g h=>Kb O) λuZ=>H 4<|sY (L:=bl none) (val:=λ(z:YZ)=> .slice z.1 (0+1) z.2) (Φ':=λ(z:YZ) v=>Y v w.heap.size 9 1 z.1 (0+1) z.2 (sv [Kz T.a])) (G:=λ(z:YZ) v=>Y v w.heap.size 9 1 z.1 (0+1) z.2 (sv [Kz T.a])) (Ln 53 53 (.slice none 0 0) (Kd 1 uZ)) (λj g h=>Sf (p:=([]:List R)) (m:=0) (s_:Y j w.heap.size 9 1 none 0 0 (sv [])) g.size h.2 Zd) (λk h=>λb l=>⟨((s_:Y k w.heap.size 9 1 none 0 0 (sv [])).lt b l).1,((s_:Y k w.heap.size 9 1 none 0 0 (sv [])).blk b l).2⟩) (λz ve k uS vf h o=>o) O O λs=>M<|ti 5 O λ_=>ZI true<|ZD 3 (λj g h=>Ut (vg.b.below g) F) λu=>sO (Kw 53 1 #[(0,E (Kz T.b))]) (Kd 1) (Kr 9 #[E (Kz T.b)]) O (λj g h=>Kb O) λS=>H 4<|sY (L:=bl s.1) (val:=λ(z:YZ)=> .slice z.1 (1+1) z.2) (Φ':=λ(z:YZ) v=>Y v w.heap.size 9 1 z.1 (1+1) z.2 (sv [Kz T.a,Kz T.b])) (G:=λ(z:YZ) v=>Y v w.heap.size 9 1 z.1 (1+1) z.2 (sv [Kz T.a,Kz T.b])) (Ln 53 53 (.slice s.1 1 s.2) (Kd 1 S)) (λj g h=>Sf (p:=([Kz T.a]:List R)) (m:=1) (show Y j w.heap.size 9 1 s.1 1 s.2 (sv ([Kz T.a]:List R))from h.1.1) g.size h.2 Zd) (λk h=>λb l=>⟨((show Y k w.heap.size 9 1 s.1 1 s.2 (sv ([Kz T.a]:List R))from h.1.1).lt b l).1,((show Y k w.heap.size 9 1 s.1 1 s.2 (sv ([Kz T.a]:List R))from h.1.1).blk b l).2⟩) (λz ve k uS vf h o=>o) O O λB=>M<|ti 5 O λ_=>ZI true<|ZD 3 (λj g h=>Ut (vg.c.below g) F) λu=>sO (Kw 53 1 #[(0,E (Kz T.c))]) (Kd 1) (Kr 9 #[E (Kz T.c)]) O (λj g h=>Kb O) λP=>H 4<|sY (L:=bl B.1) (val:=λ(z:YZ)=> .slice z.1 (2+1) z.2) (Φ':=λ(z:YZ) v=>Y v w.heap.size 9 1 z.1 (2+1) z.2 (sv [Kz T.a,Kz T.b,Kz T.c])) (G:=λ(z:YZ) v=>Y v w.heap.size 9 1 z.1 (2+1) z.2 (sv [Kz T.a,Kz T.b,Kz T.c])) (Ln 53 53 (.slice B.1 2 B.2) (Kd 1 P)) (λj g h=>Sf (p:=([Kz T.a,Kz T.b]:List R)) (m:=2) (show Y j w.heap.size 9 1 B.1 2 B.2 (sv ([Kz T.a,Kz T.b]:List R))from h.1.1) g.size h.2 Zd) (λk h=>λb l=>⟨((show Y k w.heap.size 9 1 B.1 2 B.2 (sv ([Kz T.a,Kz T.b]:List R))from h.1.1).lt b l).1,((show Y k w.heap.size 9 1 B.1 2 B.2 (sv ([Kz T.a,Kz T.b]:List R))from h.1.1).blk b l).2⟩) (λz ve k uS vf h o=>o) O O λC=>M<|ti 5 O λ_=>ZI true<|ZD 3 (λj g h=>Ut (vg.d.below g) F) λu=>sO (Kw 53 1 #[(0,E (Kz T.d))]) (Kd 1) (Kr 9 #[E (Kz T.d)]) O (λj g h=>Kb O) λuY=>H 4<|sY (L:=bl C.1) (val:=λ(z:YZ)=> .slice z.1 (3+1) z.2) (Φ':=λ(z:YZ) v=>Y v w.heap.size 9 1 z.1 (3+1) z.2 (sv [Kz T.a,Kz T.b,Kz T.c,Kz T.d])) (G:=λ(z:YZ) v=>Y v w.heap.size 9 1 z.1 (3+1) z.2 (sv [Kz T.a,Kz T.b,Kz T.c,Kz T.d])) (Ln 53 53 (.slice C.1 3 C.2) (Kd 1 uY)) (λj g h=>Sf (p:=([Kz T.a,Kz T.b,Kz T.c]:List R)) (m:=3) (show Y j w.heap.size 9 1 C.1 3 C.2 (sv ([Kz T.a,Kz T.b,Kz T.c]:List R))from h.1.1) g.size h.2 Zd) (λk h=>λb l=>⟨((show Y k w.heap.size 9 1 C.1 3 C.2 (sv ([Kz T.a,Kz T.b,Kz T.c]:List R))from h.1.1).lt b l).1,((show Y k w.heap.size 9 1 C.1 3 C.2 (sv ([Kz T.a,Kz T.b,Kz T.c]:List R))from h.1.1).blk b l).2⟩) (λz ve k uS vf h o=>o) O O λr=>M<|ti 5 O λ_=>ZI true<|ZD 3 (λj g h=>Ut (vg.e.below g) F) λu=>sO (Kw 53 1 #[(0,E (Kz T.e))]) (Kd 1) (Kr 9 #[E (Kz T.e)]) O (λj g h=>Kb O) λuR=>H 4<|sY (L:=bl r.1) (val:=λ(z:YZ)=> .slice z.1 (4+1) z.2) (Φ':=λ(z:YZ) v=>Y v w.heap.size 9 1 z.1 (4+1) z.2 (sv [Kz T.a,Kz T.b,Kz T.c,Kz T.d,Kz T.e])) (G:=λ(z:YZ) v=>Y v w.heap.size 9 1 z.1 (4+1) z.2 (sv [Kz T.a,Kz T.b,Kz T.c,Kz T.d,Kz T.e])) (Ln 53 53 (.slice r.1 4 r.2) (Kd 1 uR)) (λj g h=>Sf (p:=([Kz T.a,Kz T.b,Kz T.c,Kz T.d]:List R)) (m:=4) (show Y j w.heap.size 9 1 r.1 4 r.2 (sv ([Kz T.a,Kz T.b,Kz T.c,Kz T.d]:List R))from h.1.1) g.size h.2 Zd) (λk h=>λb l=>⟨((show Y k w.heap.size 9 1 r.1 4 r.2 (sv ([Kz T.a,Kz T.b,Kz T.c,Kz T.d]:List R))from h.1.1).lt b l).1,((show Y k w.heap.size 9 1 r.1 4 r.2 (sv ([Kz T.a,Kz T.b,Kz T.c,Kz T.d]:List R))from h.1.1).blk b l).2⟩) (λz ve k uS vf h o=>o) O O λA=>M<|ti 5 O λ_=>ZI true<|ZD 3 (λj g h=>Ut (vg.f.below g) F) λu=>sO (Kw 53 1 #[(0,E (Kz T.f))]) (Kd 1) (Kr 9 #[E (Kz T.f)]) O (λj g h=>Kb O) λQ=>H 4<|sY (L:=bl A.1) (val:=λ(z:YZ)=> .slice z.1 (5+1) z.2) (Φ':=λ(z:YZ) v=>Y v w.heap.size 9 1 z.1 (5+1) z.2 (sv [Kz T.a,Kz T.b,Kz T.c,Kz T.d,Kz T.e,Kz T.f])) (G:=λ(z:YZ) v=>Y v w.heap.size 9 1 z.1 (5+1) z.2 (sv [Kz T.a,Kz T.b,Kz T.c,Kz T.d,Kz T.e,Kz T.f])) (Ln 53 53 (.slice A.1 5 A.2) (Kd 1 Q)) (λj g h=>Sf (p:=([Kz T.a,Kz T.b,Kz T.c,Kz T.d,Kz T.e]:List R)) (m:=5) (show Y j w.heap.size 9 1 A.1 5 A.2 (sv ([Kz T.a,Kz T.b,Kz T.c,Kz T.d,Kz T.e]:List R))from h.1.1) g.size h.2 Zd) (λk h=>λb l=>⟨((show Y k w.heap.size 9 1 A.1 5 A.2 (sv ([Kz T.a,Kz T.b,Kz T.c,Kz T.d,Kz T.e]:List R))from h.1.1).lt b l).1,((show Y k w.heap.size 9 1 A.1 5 A.2 (sv ([Kz T.a,Kz T.b,Kz T.c,Kz T.d,Kz T.e]:List R))from h.1.1).blk b l).2⟩) (λz ve k uS vf h o=>o) O O λD=>M<|ZI false<|ZV (.slice D.1 6 D.2) (λj g h=>⟨D,rfl,g,λx uU uW=>(show Y x w.heap.size 9 1 D.1 6 D.2 (sv (Mn T))from h x uU uW).rebase λb l=>AW W ((show Y x w.heap.size 9 1 D.1 6 D.2 (sv (Mn T))from h x uU uW).lt b l).1⟩)
end
def O3{α:Type}(w:YN)(A:YY)(n s:Nat)(cl:α->List YM)(l:List α):Prop:=l.length=n/\∀(k:Nat) (x:α),l[k]? =some x->∃ad,A=some ad/\∀(j:Nat) (v:YM),(cl x)[j]? =some v->w.cell? ((ad.add (k*s)).add j)=some v
theorem O3.below{α:Type}{w a:YN}{A:YY}{n s:Nat}{cl:α->List YM}{l:List α}(h:O3 w A n s cl l)(f:Below w.heap.size w a):O3 a A n s cl l:=
 ⟨h.1,λk x e=>by obtain⟨ad,g,b⟩:=h.2 k x e;exact⟨ad,g,λj v c=>La f (b j v c)⟩⟩
theorem Y7(a:YB)(m n:Nat):(a.add m).add n=a.add (m+n):=by
 cases a;by_cases b:m=0<;>by_cases c:n=0<;>simp[Addr.add,b,c,Nat.add_assoc]
theorem TJ{α:Type}{s:Nat}{cl:α->List YM}(b:∀x,(cl x).length=s):∀(l:List α) (k:Nat) (x:α) (j:Nat) (v:YM),l[k]? =some x->(cl x)[j]? =some v->(l.flatMap cl)[k*s+j]? =some v
 | [],k,x,j,v,h,_=>by simp at h
 |y::l,0,x,j,v,h,a=>by
  simp only[List.getElem?_cons_zero,AR]at h;subst h;have e:=(BB.1 a).1;rw[BS,Nat.zero_mul,CD,List.getElem?_append_left e];exact a
 |y::l,k+1,x,j,v,h,a=>by
  rw[BT]at h;have c:=TJ b l k x j v h a;rw[BS,List.getElem?_append_right (by rw[b];rw[Nat.succ_mul];omega),b];rw[show(k+1)*s+j-s=k*s+j by rw[Nat.succ_mul];omega];exact c
theorem Ff:∀l:List Co,(l.flatMap Z0).length=4*l.length
 | []=>rfl
 |x::l=>by
  have:=Ff l;rw[BS,AI,this,AX];show 4+_=_;omega
theorem Qo(x:Co):(P7 x).length=4:=rfl
theorem b8(x:Int×Co):(Sv x).length=5:=rfl
theorem Km.reads{w:YN}{A:YY}{n:Nat}{ls:WS}(h:Km w A n ls):Pm w w.heap.size 1 A n (sv ls):=by
 refine⟨by simp[sv,h.1],λk=> ?_⟩;obtain⟨s,l⟩:∃s,ls[0]? =some s:=⟨_,AD (by rw[h.1];exact k)⟩
 obtain⟨ad,e,g⟩:=h.2 0 s l;refine⟨ad,e,?_,λj u c=> ?_⟩
 .have:=Z2 g;simpa[Addr.add]using this
 .simp only[sv,CF]at c;obtain⟨x,m,rfl⟩:=BK.1 c;obtain⟨f,a,b⟩:=h.2 j x m;rw[e]at a;cases a;exact b
theorem Q3{w:YN}{N b n m cc:Nat}{A2:YY}{p l:WS}(k:Kr 9 (sv p).toArray b w)(h:p.length=n)(g:Km w A2 m l)(f:0<m)(x:n+m<=1000000)(r:N<=w.heap.size):
 Lw XW w (λy:YZ=> .slice y.1 (n+m) y.2) (λy v=>Y v N 9 1 y.1 (n+m) y.2 (sv (p++l))) (Ln 53 53 (Kd n b) (.slice A2 m cc)):=by
 have a:=g.reads;obtain⟨ad,u,_⟩:=a.2 f;subst u;have o:=e8 (P:=XW) (B:=N) (s:=1) (z:= .string ⟨#[]⟩) (bytes:=16) (n:=n) (m:=m) (c:=n) (cc:=cc) (t:=53) (elem:=9) O O rfl Zd (Mm (n:=n) k (by simp[sv,h])) a J J Zd r (by by_cases j:0<n;exact .inl j;right;have:p=[]:=BG.1 J;rw[this];rfl) (.inl f);have e:sv (p++l)=sv p++sv l:=by simp[sv]
 rw[e];exact o
theorem O7{w:YN}{B m n yc cc:Nat}{y A2:YY}{p l:WS}(b:Y w B 9 1 y m yc (sv p))(g:B<=w.heap.size)(c:Km w A2 n l)(h:m+n<=1000000):
 Pp XW w (bl y) (λz:YZ=> .slice z.1 (m+n) z.2) (λz v=>Y v B 9 1 z.1 (m+n) z.2 (sv (p++l))) (Ln 53 53 (.slice y m yc) (.slice A2 n cc)):=by
 have f:=N4 (P:=XW) (s:=1) (z:= .string ⟨#[]⟩) (bytes:=16) (m:=n) (cc:=cc) (t:=53) (elem:=9) O O rfl Zd b g c.reads (by intro v a;simp[sv]at a;obtain⟨x,_,rfl⟩:=a;rfl) J Zd;have e:sv (p++l)=sv p++sv l:=by simp[sv]
 rw[e];exact f
section
variable{w:YN}{A:YY}{n c K:Nat}{px:List Co}
theorem gz{B m yc a:Nat}{y:YY}{p:R}{x:Co}(j:Y w B 5 1 y m yc (bv p))(g:B<=w.heap.size)(h:Kr 5 (P7 x).toArray a w)(k:m<1000000):
 Pp XW w (bl y) (λz:YZ=> .slice z.1 (m+4) z.2) (λz v=>Y v B 5 1 z.1 (m+4) z.2 (bv (p++Z0 x))) (Ln 108 108 (.slice y m yc) (Kd 4 a)):=by
 have f:=N4 (P:=XW) (s:=1) (z:= .int .u8 0) (bytes:=1) (m:=4) (cc:=4) (t:=108) (elem:=5) O O rfl Zd j g (Mm (n:=4) h rfl) (by intro v b;simp[P7]at b;rcases b with rfl|rfl|rfl|rfl<;>rfl) J Zd;have e:bv (p++Z0 x)=bv p++P7 x:=by simp[bv,Z0,P7]
 rw[e];exact f
theorem Bw{k:Nat}{ad:YB}(b:A=some ad)(a:k<n):(Ki 38 (.slice A n c) k).run XW w= .ok (.value (.pointer (some (ad.add (k*4))))) w:=by
 rw[b];exact Qa (elem:=214) O O a
theorem UV{ad:YB}{x:Co}(h:∀j v,(P7 x)[j]? =some v->w.cell? (ad.add j)=some v):(L4 214 ad).run XW w= .ok (.value (.agg (P7 x).toArray)) w:=
 Rn O O h
theorem Xp{k:Nat}{ad:YB}(b:A=some ad)(a:k<n):(Ki 37 (.slice A n c) k).run XW w= .ok (.value (.pointer (some (ad.add (k*5))))) w:=by
 rw[b];exact Qa (elem:=165) O O a
theorem VQ{ad:YB}{x:Int×Co}(h:∀j v,(Sv x)[j]? =some v->w.cell? (ad.add j)=some v):(L4 165 ad).run XW w= .ok (.value (.agg (Sv x).toArray)) w:=
 Rn O O h
theorem qT(s:O3 w A n 4 P7 px)(Q:n<=20000):Zv 177 #[.slice A n c] w (E (GG px)):=by
 have o:=s.1;refine sL func177 rfl<|M<|sU (ι:={q:Nat×(YZ) // q.1<=n}) 26 (λq=>⟨[(0,.v (.slice A n c)),(3,.v (.slice q.1.2.1 (4*q.1.1) q.1.2.2)),(6,.v (.slice A n c)),(7,.v (I n)),(8,.v (I q.1.1))],[]⟩) (λq u=>Y u w.heap.size 5 1 q.1.2.1 (4*q.1.1) q.1.2.2 (bv ((px.take q.1.1).flatMap Z0))) (λq=>n-q.1.1) (⟨(0,none,0),AY _⟩) O (λ_=>O) zt (λu h=>s_) ?_
 rintro⟨⟨k,y,yc⟩,t⟩ S;have t:k<=n:=t
 by_cases m:k<n
 case neg=>
  obtain rfl:k=n:=J
  have f:px.take k=px:=AZ J;exact M<|X (decide ((k:Int)<(k:Int))) false Zs<|sN O<|M<|Z (λe l h=>OT (A:=y) (n:=4*k) (c:=yc) (bs:=px.flatMap Z0) (by have uR:4*k=(px.flatMap Z0).length:=(by rw[Ff,o]);have r:Y e w.heap.size 5 1 y (4*k) yc (bv (px.flatMap Z0)):=(by rw[<-f];exact h);rw[uR]at r ⊢;exact Y.bytes r) J) λu=>ZW (E (GG px))
 obtain⟨x,C⟩:∃x,px[k]? =some x:=⟨_,AD J⟩
 obtain⟨ad,ve,uS⟩:=s.2 k x C;have g:(px.take (k+1)).flatMap Z0=(px.take k).flatMap Z0++Z0 x:=by rw[BO,C];simp
 obtain⟨p,a⟩:∃p,p=(px.take k).flatMap Z0:=⟨_,rfl⟩
 refine M<|X (decide ((k:Int)<(n:Int))) true Zp<|ZA (Ki 38 (.slice A n c) k) (.pointer (some (ad.add (k*4)))) (λe l h=>Bw ve m)<|sV (L4 214 (ad.add (k*4))) (.agg (P7 x).toArray) O (λe l h=>UV λj v F=>La l (uS j v F))<|H 9<|sO (Kw 108 4 #[(0,.int .u8 (x.1.toNat:Int)),(1,.int .u8 (x.2.1.toNat:Int)),(2,.int .u8 (x.2.2.1.toNat:Int)),(3,.int .u8 (x.2.2.2.toNat:Int))]) (Kd 4) (Kr 5 (P7 x).toArray) O (λe l h=>Kb O) λD=>H 10<|sY (L:=bl y) (val:=λ(z:YZ)=> .slice z.1 (4*k+4) z.2) (Φ':=λ(z:YZ) v=>Y v w.heap.size 5 1 z.1 (4*k+4) z.2 (bv (p++Z0 x))) (G:=λ(z:YZ) v=>Y v w.heap.size 5 1 z.1 (4*k+4) z.2 (bv (p++Z0 x))) (Ln 108 108 (.slice y (4*k) yc) (Kd 4 D)) (λe l h=>by have vg:Y e w.heap.size 5 1 y (4*k) yc (bv p):=(by rw[a];exact h.1);exact gz vg l.size h.2 J) (λe h=>λb B=>⟨((show Y e w.heap.size 5 1 y (4*k) yc (bv p)from(by rw[a];exact h.1)).lt b B).1,((show Y e w.heap.size 5 1 y (4*k) yc (bv p)from(by rw[a];exact h.1)).blk b B).2⟩) (λz P uY N uZ h vf=>vf) O O λz=>M<|sS 8 m J O<|sR (⟨(k+1,z.1,z.2),by show k+1<=n;omega⟩) O zo zt (λu h=>(by show Y u w.heap.size 5 1 z.1 (4*(k+1)) z.2 (bv ((px.take (k+1)).flatMap Z0));rw[g,<-a,show 4*(k+1)=4*k+4 by omega];exact h))
theorem X8{m:Im}{y:YZ}(o:O3 w y.1 m.px.length 4 P7 m.px)(p:m.px.length<=20000)(g: -9223372036854775808<=m.w/\m.w<=9223372036854775807)(j: -9223372036854775808<=m.h/\m.h<=9223372036854775807):YG XW 104 #[Jo m y] w (K6 w (λy:YZ=> .slice y.1 3 y.2) λy u=>Km u y.1 3 (E5 m)):=by
 refine sL func104 rfl<|M<|Z (λb a h=>L9 (n:=m.w) g.1 g.2) λs=>Z (λb a h=>L9 (n:=m.h) j.1 j.2) λt=>ZD 9 (λb a h=>qT (c:=y.2) (o.below a) p) λr=>sO (Kw 53 3 #[(0,E (K8 m.w)),(1,E (K8 m.h)),(2,E (GG m.px))]) (Kd 3) (Kr 9 #[E (K8 m.w),E (K8 m.h),E (GG m.px)]) O (λb a h=>Kb O) λf=>M<|ZV (.slice (some ⟨f,0,none⟩) 3 3) (λb a h=>⟨(some ⟨f,0,none⟩,3),rfl,a,λe l k=>Lh (L:=E5 m) (h e l k).2 rfl⟩)
end
section
variable{ws l:WS}{x y:Oj}
theorem p9(h:x.i<ws.length):(Le ws x).2.i=x.i+1:=by
 obtain⟨s,a⟩:∃s,ws[x.i]? =some s:=⟨_,AD h⟩
 rw[Pk a]
theorem oX:x.i<=(Le ws x).2.i:=by
 unfold Le;split
 .exact AQ _
 .exact Nat.le_succ _
theorem rb:(Ms ws x).2.i=(Le ws x).2.i:=rfl
theorem qr:(Sd ws x).2.i=(Le ws x).2.i:=by
 unfold Sd;split<;>rfl
def kx:WS:=[[],Nn,Ky,L7,Kx]
end
def MN(t:YH)(x y:YJ)(u v:YM):Sem Next:=(do eqGuard .neq t x y u v;binOp .neq t u v) >>= λv=>pure (.value v)
theorem Vf{P:YK}{n:Nat}{xs a:Array YM}{f:Field}{e:List Field}{u v:YM}{b c:Bool}{w:YN}(k:f.name≠ "_")(g:(part f.type xs f.offset).run P w= .ok u w)(l:(part f.type a f.offset).run P w= .ok v w)
 (h:(Op.equalIn n f.type u v).run P w= .ok b w) (j:(Op.eqFields n xs a e).run P w= .ok c w):(Op.eqFields n xs a (f::e)).run P w= .ok (b&&c) w:=by
 simp only[Op.eqFields,AE,g,l,h,AC,k,ne_eq,not_false_eq_true,if_true];cases b
 .simp
 .simp[j]
theorem Oa{P:YK}{t:YH}{d:TypeDesc}{xs:Array YM}{a:Nat}{v:YM}{w:YN}(c:P.underlying t=some d)(e:d.isRow=false)(f:xs[a]? =some v):(part t xs a).run P w= .ok v w:=by
 have b:(isAgg t).run P w= .ok false w:=by unfold isAgg;rw[AE,run_underlying c w];cases d<;>first|rfl|cases e
 simp only[part,AE,b,AC,Bool.false_eq_true,if_false,f,AU]
section
variable{w:YN}
def ec(a b:Co):Bool:=((a.1.toNat:Int)==(b.1.toNat:Int))&&(((a.2.1.toNat:Int)==(b.2.1.toNat:Int))&&(((a.2.2.1.toNat:Int)==(b.2.2.1.toNat:Int))&&(((a.2.2.2.toNat:Int)==(b.2.2.2.toNat:Int))&&true)))
theorem QK{a b:UInt8}:((a.toNat:Int)==(b.toNat:Int))=decide (a=b):=by
 rw[BN,YQ,decide_eq_true_iff,Int.ofNat_inj];exact UInt8.toNat_inj
theorem Jh{a b:Co}:ec a b=decide (a=b):=by
 obtain⟨j,k,h,c⟩:=a;obtain⟨g,f,e,l⟩:=b;unfold ec;rw[QK,QK,QK,QK,BN];simp
theorem jN(k:Nat)(a b:Co):(Op.equalIn (k+2) 24 (Rk a) (Rk b)).run XW w= .ok (ec a b) w:=by
 have vf:XW.underlying 24=some (.struct (XW.fieldsOf 24)):=O
 have F:XW.stoodInHeld 24=false:=O
 have c:(XW.fieldsOf 24).toList.map (λf=>(f.name,f.offset,f.type))=[("R",0,5),("G",1,5),("B",2,5),("A",3,5)]:=O
 have e:XW.underlying 5=some (.int .u8):=O
 obtain⟨ve,N,vg,B,c⟩:=AK.1 c;obtain⟨K,L,o,t,c⟩:=AK.1 c;obtain⟨uR,P,p,s,c⟩:=AK.1 c;obtain⟨uZ,C,j,x,c⟩:=AK.1 c;obtain rfl:C=[]:=BQ.1 c;subst j;subst p;subst o;simp only[AP]at B t s x;obtain⟨G,y,r⟩:=B;obtain⟨uS,u,h⟩:=t;obtain⟨n2,v,m⟩:=s;obtain⟨D,A,l⟩:=x;have g:∀a b:Int,(Op.equalIn (k+1) 5 (.int .u8 a) (.int .u8 b)).run XW w= .ok (a==b) w:=λa b=>run_equalIn_int w k _ .u8 .u8 a b e
 show(Op.equalIn (k+1+1) 24 (.agg _) (.agg _)).run XW w=_;rw[run_equalIn_struct w (k+1) _ _ _ vf F,vg];refine Vf (by rw[G];decide) (by rw[r,y];exact Oa e rfl rfl) (by rw[r,y];exact Oa e rfl rfl) (by rw[r];exact g _ _)<|Vf (by rw[uS];decide) (by rw[h,u];exact Oa e rfl rfl) (by rw[h,u];exact Oa e rfl rfl) (by rw[h];exact g _ _)<|Vf (by rw[n2];decide) (by rw[m,v];exact Oa e rfl rfl) (by rw[m,v];exact Oa e rfl rfl) (by rw[m];exact g _ _)<|Vf (by rw[D];decide) (by rw[l,A];exact Oa e rfl rfl) (by rw[l,A];exact Oa e rfl rfl) (by rw[l];exact g _ _) ?_
 simp[Op.eqFields]
theorem Qb{x y:YJ}{a b:Co}{B:Bool}(f:decide (a=b)=B):(Fi 24 x y (Rk a) (Rk b)).run XW w= .ok (.value (.bool B)) w:=by
 subst f;have e:XW.eqGuardType XW.depth 24=false:=O
 have c:=jN (w:=w) 9998 a b;rw[Jh]at c;simp only[Fi,AE,run_eqGuard_agg w .eql _ x y _ _ e,AC,run_eql_struct,AU]at c ⊢;rw[c]
 rfl
theorem fj{x y:YJ}{a b:Co}{B:Bool}(f:decide (a=b)= !B):(MN 24 x y (Rk a) (Rk b)).run XW w= .ok (.value (.bool B)) w:=by
 have e:XW.eqGuardType XW.depth 24=false:=O
 have c:=jN (w:=w) 9998 a b;rw[Jh,f]at c;simp only[MN,AE,run_eqGuard_agg w .neq _ x y _ _ e,AC,run_neq_struct,AU]at c ⊢;rw[c];simp
theorem n9(k:Nat)(a b:Co):(Op.equalIn (k+2) 214 (Rk a) (Rk b)).run XW w= .ok (ec a b) w:=by
 have vf:XW.underlying 214=some (.struct (XW.fieldsOf 214)):=O
 have F:XW.stoodInHeld 214=false:=O
 have c:(XW.fieldsOf 214).toList.map (λf=>(f.name,f.offset,f.type))=[("R",0,5),("G",1,5),("B",2,5),("A",3,5)]:=O
 have e:XW.underlying 5=some (.int .u8):=O
 obtain⟨ve,N,vg,B,c⟩:=AK.1 c;obtain⟨K,L,o,t,c⟩:=AK.1 c;obtain⟨uR,P,p,s,c⟩:=AK.1 c;obtain⟨uZ,C,j,x,c⟩:=AK.1 c;obtain rfl:C=[]:=BQ.1 c;subst j;subst p;subst o;simp only[AP]at B t s x;obtain⟨G,y,r⟩:=B;obtain⟨uS,u,h⟩:=t;obtain⟨n2,v,m⟩:=s;obtain⟨D,A,l⟩:=x;have g:∀a b:Int,(Op.equalIn (k+1) 5 (.int .u8 a) (.int .u8 b)).run XW w= .ok (a==b) w:=λa b=>run_equalIn_int w k _ .u8 .u8 a b e
 show(Op.equalIn (k+1+1) 214 (.agg _) (.agg _)).run XW w=_;rw[run_equalIn_struct w (k+1) _ _ _ vf F,vg];refine Vf (by rw[G];decide) (by rw[r,y];exact Oa e rfl rfl) (by rw[r,y];exact Oa e rfl rfl) (by rw[r];exact g _ _)<|Vf (by rw[uS];decide) (by rw[h,u];exact Oa e rfl rfl) (by rw[h,u];exact Oa e rfl rfl) (by rw[h];exact g _ _)<|Vf (by rw[n2];decide) (by rw[m,v];exact Oa e rfl rfl) (by rw[m,v];exact Oa e rfl rfl) (by rw[m];exact g _ _)<|Vf (by rw[D];decide) (by rw[l,A];exact Oa e rfl rfl) (by rw[l,A];exact Oa e rfl rfl) (by rw[l];exact g _ _) ?_
 simp[Op.eqFields]
theorem fK{x y:YJ}{a b:Co}{B:Bool}(f:decide (a=b)=B):(Fi 214 x y (Rk a) (Rk b)).run XW w= .ok (.value (.bool B)) w:=by
 subst f;have e:XW.eqGuardType XW.depth 214=false:=O
 have c:=n9 (w:=w) 9998 a b;rw[Jh]at c;simp only[Fi,AE,run_eqGuard_agg w .eql _ x y _ _ e,AC,run_eql_struct,AU]at c ⊢;rw[c]
 rfl
theorem eZ{x y:YJ}{a b:Co}{B:Bool}(f:decide (a=b)= !B):(MN 214 x y (Rk a) (Rk b)).run XW w= .ok (.value (.bool B)) w:=by
 have e:XW.eqGuardType XW.depth 214=false:=O
 have c:=n9 (w:=w) 9998 a b;rw[Jh,f]at c;simp only[MN,AE,run_eqGuard_agg w .neq _ x y _ _ e,AC,run_neq_struct,AU]at c ⊢;rw[c];simp
theorem lb(a b:Int×Co):(Op.equalIn 10000 165 (.agg (Sv a).toArray) (.agg (Sv b).toArray)).run XW w= .ok ((a.1==b.1)&&(ec a.2 b.2&&true)) w:=by
 have C:XW.underlying 165=some (.struct (XW.fieldsOf 165)):=O
 have x:XW.stoodInHeld 165=false:=O
 have c:(XW.fieldsOf 165).toList.map (λf=>(f.name,f.offset,f.type))=[("Offset",0,3),("Color",1,24)]:=O
 have g:XW.underlying 3=some (.int .i64):=O
 have j:XW.underlying 24=some (.struct (XW.fieldsOf 24)):=O
 have u:Ot XW 24=some 4:=O
 obtain⟨D,F,v,t,c⟩:=AK.1 c;obtain⟨vg,y,k,o,c⟩:=AK.1 c;obtain rfl:y=[]:=BQ.1 c;subst k;simp only[AP]at t o;obtain⟨A,r,l⟩:=t;obtain⟨B,p,e⟩:=o;have h:(isAgg 24).run XW w= .ok true w:=by unfold isAgg;rw[AE,run_underlying j w];rfl
 have m:∀s:Int×Co,(part 24 (Sv s).toArray 1).run XW w= .ok (Rk s.2) w:=λs=>by
  simp only[part,AE,h,M0 u,AC,if_true];rfl
 show(Op.equalIn (9999+1) 165 (.agg _) (.agg _)).run XW w=_;rw[run_equalIn_struct w 9999 _ _ _ C x,v];refine Vf (by rw[A];decide) (by rw[l,r];exact Oa g rfl rfl) (by rw[l,r];exact Oa g rfl rfl) (by rw[l];exact run_equalIn_int w 9998 _ .i64 .i64 _ _ g)<|Vf (by rw[B];decide) (by rw[e,p];exact m a) (by rw[e,p];exact m b) (by rw[e];exact jN 9997 a.2 b.2) ?_
 simp[Op.eqFields]
theorem T_{x y:YJ}{a b:Int×Co}{B:Bool}(g:decide (a=b)= !B):(MN 165 x y (.agg (Sv a).toArray) (.agg (Sv b).toArray)).run XW w= .ok (.value (.bool B)) w:=by
 have f:XW.eqGuardType XW.depth 165=false:=O
 have c:=lb (w:=w) a b;have e:((a.1==b.1)&&(ec a.2 b.2&&true))= !B:=by
  rw[Jh,<-g,BN];simp[Prod.ext_iff]
 rw[e]at c;simp only[MN,AE,run_eqGuard_agg w .neq _ x y _ _ f,AC,run_neq_struct,AU]at c ⊢;rw[c];simp
end
structure Hs(P:Pn)(q:PM)(K:Nat)(w:YN):Prop where
 st:O3 w q.sA P.stops.length 5 Sv P.stops
 px:O3 w q.xA P.im.px.length 4 P7 P.im.px
 tr:Fv q.t P.T K w
theorem Hs.below{P:Pn}{q:PM}{K:Nat}{w b:YN}(h:Hs P q K w)(a:Below w.heap.size w b):Hs P q K b:=⟨h.st.below a,h.px.below a,h.tr.below a⟩
theorem Fv.zero{K:Nat}{w:YN}:Fv I0 Pc K w:=⟨VE,VE,VE,VE,VE,VE⟩
theorem Y.rowA{α:Type}{w:YN}{B n c s:Nat}{e:YH}{A:YY}{cl:α->List YM}{l:List α}(p:∀x,(cl x).length=s)(r:l.length=n)(h:Y w B e s A n c (l.flatMap cl)):O3 w A n s cl l:=by
 refine⟨r,λk x a=> ?_⟩;have m:=(BB.1 a).1;obtain⟨g,o,f⟩:=h.cells J;refine⟨_,o,λj v b=> ?_⟩;rw[Y7,Addr.add_mid,CD];exact f _ _ (TJ p l k x j v a b)
theorem XP.rd{N K:Nat}{P:Pn}{q:PM}{w:YN}(h:XP N P q w)(g:125<=K):Hs P q K w:=by
 refine⟨h.st.rowA b8 rfl,h.px.rowA Qo rfl,?_⟩;rcases h.tr with ⟨_,j,k⟩|⟨_,h⟩
 .rw[j,k];exact .zero
 .exact⟨h.a.1.q.mono g,h.b.1.q.mono g,h.c.1.q.mono g,h.d.1.q.mono g,h.e.1.q.mono g,h.f.1.q.mono g⟩
def Gq:Int->List (Int×Co)->Bool
 |_,[]=>true
 |a,x::l=>decide (a<=x.1/\x.1<=65536)&&Gq x.1 l
def Oq(l:List (Int×Co)):Bool:=decide (1<=l.length/\l.length<=16)&&Gq 0 l
def Gx(c:Co):Bool:=decide (c.1<=c.2.2.2/\c.2.1<=c.2.2.2/\c.2.2.1<=c.2.2.2)
def Ay(m:Im):Bool:=Tr m.w m.h&&decide ((m.px.length:Int)=m.w*m.h)&&m.px.all Gx
def Um(n:Int):Bool:=decide (1<=n/\n<=3)
def Gi(P:Pn):Pn:=
 if P.kind=1 then{P with co:=Ss,T:=Pc}
 else if P.kind=2 then{P with p0x:=0,p0y:=0,p1x:=0,p1y:=0,stops:=[],spread:=0,T:=Pc}
 else if P.kind=3 then{P with p0x:=0,p0y:=0,rad:=0,stops:=[],spread:=0,T:=Pc}
 else if P.kind=4 then{P with im:=Yf,spread:=0,samp:=0,T:=Pc}
 else{P with T:=Pc}
def Vi(P:Pn):Prop:=P.co=Ss/\(P.p0x=0/\P.p0y=0)/\(P.p1x=0/\P.p1y=0)/\P.rad=0/\P.spread=0/\P.samp=0/\P.stops=[]/\(P.im.w=0/\P.im.h=0/\P.im.px=[])
instance(P:Pn):Decidable (Vi P):=decidable_of_iff (P.co=Ss/\(P.p0x=0/\P.p0y=0)/\(P.p1x=0/\P.p1y=0)/\P.rad=0/\P.spread=0/\P.samp=0/\P.stops=[]/\(P.im.w=0/\P.im.h=0/\P.im.px=[])) Iff.rfl
def Wz(P:Pn):Bool:=
 if P.kind=1 then SB P.T Pc
 else if P.kind=2 then Mx P.p0x P.p0y&&(Mx P.p1x P.p1y&&((Oq P.stops&&Um P.spread)&&decide (P.T.det≠0)))
 else if P.kind=3 then Mx P.p0x P.p0y&&(decide (1<=P.rad/\P.rad<=1048576)&&((Oq P.stops&&Um P.spread)&&decide (P.T.det≠0)))
 else if P.kind=4 then Ay P.im&&((decide (P.spread=0)||Um P.spread)&&(decide (P.samp=1\/P.samp=2)&&decide (P.T.det≠0)))
 else false
def Ld(P:Pn):Bool:=P.T.ok&&(decide (Vi (Gi P))&&Wz P)
section
variable{w:YN}{A A2:YY}{n c:Nat}{l:List (Int×Co)}{px:List Co}{P:Pn}{q:PM}{K:Nat}{B:Bool}{k x y:Int}{m:Im}{co:Co}{g:Nat}
def m1(a b:UInt8):UInt8:=if b<a then b else a
theorem p8(a b:UInt8):((m1 a b).toNat:Int)=if (b.toNat:Int)<(a.toNat:Int)then(b.toNat:Int)else(a.toNat:Int):=by
 unfold m1
 by_cases h:b<a
 .rw[YS h,YS (by have:=BL.1 h;omega)]
 .rw[V h,V (by have:=mt BL.2 h;omega)]
def Hk(c:Co):Co:=(m1 c.1 c.2.2.2,m1 c.2.1 c.2.2.2,m1 c.2.2.1 c.2.2.2,m1 c.2.2.2 c.2.2.2)
theorem jZ{a b:UInt8}:m1 a b=a↔a<=b:=by
 unfold m1
 by_cases h:b<a
 .rw[YS h];have:=BL.1 h;constructor
  .intro e;subst e;exact UInt8.le_refl _
  .intro e;have:=BZ.1 e;omega
 .rw[V h];have:=mt BL.2 h;exact⟨λ_=>BZ.2 J,λ_=>rfl⟩
theorem eM:decide (Hk co=co)=Gx co:=by
 obtain⟨r,g,b,a⟩:=co;unfold Hk Gx;apply decide_eq_decide.2;simp only[AP,jZ];constructor
 .exact λh=>⟨h.1,h.2.1,h.2.2.1⟩
 .exact λh=>⟨h.1,h.2.1,h.2.2,UInt8.le_refl _⟩
theorem Ji{v:UInt8}(b:K7 w g (P7 co)):Zv 297 #[.int .u8 (v.toNat:Int),Zq g 0] w (.int .u8 ((m1 v co.2.2.2).toNat:Int)):=sL func297 rfl<|M<|ZA (L4 5 ⟨g,3,none⟩) (.int .u8 (co.2.2.2.toNat:Int)) (λe a h=>K9 O (by rw[(b.below a).cell];rfl))<|ZX (.int .u8 (if (co.2.2.2.toNat:Int)<(v.toNat:Int)then(co.2.2.2.toNat:Int)else(v.toNat:Int))) (by rw[p8])
theorem pB(b:K7 w g (P7 co)):Zv 296 #[Rk co,.func (.func 297) #[] #[Zq g 0]] w (Rk (Hk co)):=sL func296 rfl<|M<|Z (λe a h=>Ji (v:=co.1) (b.below a)) λj=>Z (λe a h=>Ji (v:=co.2.1) (b.below a)) λp=>Z (λe a h=>Ji (v:=co.2.2.1) (b.below a)) λf=>Z (λe a h=>Ji (v:=co.2.2.2) (b.below a)) λo=>ZW (Rk (Hk co))
theorem nj:Zv 252 #[Rk co] w (Rk (Hk co)):=sL func252 rfl<|H 0<|sO (fu 214 (Rk co)) X0 (λg u=>K7 u g (P7 co)/\0<=g/\g<u.heap.size) O (λb a h=>J3 (v:=Rk co) (AY _)) λg=>H 1<|M<|ZA (L4 214 ⟨g,0,none⟩) (Rk co) (λb a h=>Nh (vs:=P7 co) O O h.2.1.range)<|Z (λb a h=>pB h.2.1) λu=>ZW (Rk (Hk co))
theorem ja(a:Gx co=B):Zv 195 #[Rk co] w (.bool B):=sL func195 rfl<|M<|ZD 3 (λe b h=>nj (co:=co)) λu=>ZB 3 (Fi 214 (.tmp 4) (.tmp 5) (Rk (Hk co)) (Rk co)) (.bool B) (λe b h=>fK (eM.trans a))<|ZW (.bool B)
theorem OD(a:Gx co=B):Zv 194 #[Rk co] w (.bool (!B)):=sL func194 rfl<|M<|Z (λe b h=>ja a) λu=>ZW (.bool (!B))
theorem cn(a:decide (1<=x/\x<=4096)=B):Zv 192 #[I x] w (.bool B):=by
 refine sL func192 rfl<|H 3 ?_
 by_cases b:1<=x
 case neg=>
  exact ZT 5 (.bool (decide (x>=1))) Zf (by rw[YV J])<|ZX Zf (by rw[<-a,YV J])
 exact ZT 5 (.bool (decide (x>=1))) Zt (by rw[YU J])<|ZX (.bool (decide (x<=4096))) (by rw[<-a];congr 2;exact decide_eq_decide.2 J)
theorem Ie(a:Um x=B):Zv 123 #[I x] w (.bool B):=by
 unfold Um at a;refine sL func123 rfl<|H 3 ?_
 by_cases b:1<=x
 case neg=>
  exact ZT 5 (.bool (decide (x>=1))) Zf (by rw[YV J])<|ZX Zf (by rw[<-a,YV J])
 exact ZT 5 (.bool (decide (x>=1))) Zt (by rw[YU J])<|ZX (.bool (decide (x<=3))) (by rw[<-a];congr 2;exact decide_eq_decide.2 J)
theorem En{α:Type}{p:α->Bool}{l:List α}{k:Nat}{x:α}(a:l[k]? =some x)(h:(l.take k).all p=true):(l.take (k+1)).all p=p x:=by
 rw[BO,a];simp[h]
theorem GU{α:Type}{p:α->Bool}{l:List α}{k:Nat}{x:α}(a:l[k]? =some x)(h:p x=false):l.all p=false:=by
 rw[List.all_eq_false];exact⟨x,BM a,by simp[h]⟩
theorem mm(C:px.all Gx=B)(s:O3 w A n 4 P7 px)(uS:n<=1000000000):YG XW 251 #[.slice A n c,.func (.func 194) #[] #[]] w (K6 w (λr:{r:Int // decide (r>=0)= !B}=>I r.1) λ_ _=>True):=by
 have F:=s.1;refine sL func251 rfl<|M<|sU (ι:={q:Nat // q<=n/\(px.take q).all Gx=true}) 19 (λq=>⟨[(0,.v (.slice A n c)),(1,.v (.func (.func 194) #[] #[])),(7,.v (I n)),(8,.v (I q.1))],[]⟩) (λq u=>True) (λq=>n-q.1) (⟨0,AY _,rfl⟩) O (λ_=>O) zt (λu h=>trivial) ?_
 rintro⟨k,t,a⟩ vf;have t:k<=n:=t;have a:(px.take k).all Gx=true:=a
 by_cases f:k<n
 case neg=>
  obtain rfl:k=n:=J
  rw[AZ J]at a;refine M<|X (decide ((k:Int)<(k:Int))) false Zs<|sN O<|M<|ZV (I (-1)) (λe b h=>⟨⟨-1,by rw[<-C,a];rfl⟩,rfl,b,λ_ _ _=>trivial⟩)
 obtain⟨x,p⟩:∃x,px[k]? =some x:=⟨_,AD J⟩
 obtain⟨ad,G,vg⟩:=s.2 k x p;refine M<|X (decide ((k:Int)<(n:Int))) true Zp<|ZA (Ki 38 (.slice A n c) k) (.pointer (some (ad.add (k*4)))) (λe b h=>Bw G f)<|ZA (L4 214 (ad.add (k*4))) (.agg (P7 x).toArray) (λe b h=>UV λj v D=>La b (vg j v D)) ?_
 cases o:Gx x
 .refine Z (λe b h=>OD (co:=x) o) λu=>ZI true<|sN O<|M<|ZV (I (k:Int)) (λe b h=>⟨⟨k,by rw[<-C,GU p o];simp⟩,rfl,b,λ_ _ _=>trivial⟩)
 .refine Z (λe b h=>OD (co:=x) o) λu=>ZI false<|sS 8 f J O<|sR (⟨k+1,by show k+1<=n;omega,by rw[En p a,o]⟩) O zo zt (λu h=>trivial)
theorem bC(a:px.all Gx=B)(e:O3 w A n 4 P7 px)(f:n<=1000000000):Zv 193 #[.slice A n c,.func (.func 194) #[] #[]] w (.bool (!B)):=sL func193 rfl<|M<|Z (λj b h=>mm (c:=c) a (e.below b) f) λu=>ZX (.bool (decide (u.1>=0))) (by rw[u.2])
theorem Eq(a:1<=x/\x<=4096)(b:1<=y/\y<=4096):YA.wrap (x*y)=x*y:=by
 have e:x*y<=4096*4096:=Int.mul_le_mul a.2 b.2 J J;have f:0<=x*y:=Int.mul_nonneg J J;rw[AJ _ J]
theorem EQ{y:YZ}(b:Ay m=B)(s:O3 w y.1 m.px.length 4 P7 m.px)(t:m.px.length<=1000000000):Zv 122 #[Jo m y] w (.bool B):=by
 unfold Ay at b;refine sL func122 rfl<|M ?_
 by_cases a:1<=m.w/\m.w<=4096
 case neg=>
  have f:Tr m.w m.h=false:=YV J;exact Z (λp j h=>cn (x:=m.w) (YV a)) λu=>M<|ZI true<|ZX Zf (by rw[<-b,f];rfl)
 refine Z (λp j h=>cn (x:=m.w) (YU a)) λu=> ?_
 by_cases e:1<=m.h/\m.h<=4096
 case neg=>
  have f:Tr m.w m.h=false:=YV J;exact Z (λp j h=>cn (x:=m.h) (YV e)) λC=>M<|ZI true<|ZX Zf (by rw[<-b,f];rfl)
 refine ZD 21 (λp j h=>cn (x:=m.h) (YU e)) λC=> ?_
 by_cases r:m.w*m.h<=65536
 case neg=>
  have f:Tr m.w m.h=false:=YV J;exact ZT 24 (.bool (decide (YA.wrap (m.w*m.h)>65536))) Zt (by rw[Eq a e,YU J])<|ZI true<|ZX Zf (by rw[<-b,f];rfl)
 have f:Tr m.w m.h=true:=YU ⟨a.1,a.2,e.1,e.2,r⟩;rw[f,AG]at b;refine ZT 24 (.bool (decide (YA.wrap (m.w*m.h)>65536))) Zf (by rw[Eq a e,YV J]) ?_
 by_cases o:(m.px.length:Int)=m.w*m.h
 case neg=>
  exact X (((m.px.length:Int) !=YA.wrap (m.w*m.h))) true (by rw[Eq a e];simpa using o)<|ZX Zf (by rw[<-b,YV o];rfl)
 rw[YU o,AG]at b;exact X (((m.px.length:Int) !=YA.wrap (m.w*m.h))) false (by rw[Eq a e];simpa using o)<|Z (λp j h=>bC (c:=y.2) b (s.below j) t) λv=>ZX (.bool (!!B)) (by rw[Bool.not_not])
theorem Jb{α:Type}{l:List α}{k:Nat}{x:α}(b:l[k]? =some x):l.drop k=x::l.drop (k+1):=by
 obtain⟨a,e⟩:=BB.1 b;rw[<-e,<-List.drop_eq_getElem_cons a]
theorem JU(f:Oq l=B)(r:O3 w A n 5 Sv l):Zv 191 #[.slice A n c] w (.bool B):=by
 have G:=r.1;unfold Oq at f;refine sL func191 rfl<|H 4 ?_
 by_cases uR:n<1
 case pos=>
  exact ZT 9 (.bool (decide ((n:Int)<1))) Zt (by rw[YU J])<|ZI true<|ZX Zf (by rw[<-f,YV J];rfl)
 refine ZT 9 (.bool (decide ((n:Int)<1))) Zf (by rw[YV J]) ?_
 by_cases ve:n>16
 case pos=>
  exact X (decide ((n:Int)>16)) true Zp<|ZX Zf (by rw[<-f,YV J];rfl)
 rw[YU J,AG]at f;refine X (decide ((n:Int)>16)) false Zp<|sU (ι:={q:Nat×Int // q.1<=n/\Gq q.2 (l.drop q.1)=B}) 32 (λq=>⟨[(3,.v (I q.1.2)),(14,.v (.slice A n c)),(15,.v (I n)),(16,.v (I q.1.1))],[]⟩) (λq u=>True) (λq=>n-q.1.1) (⟨(0,0),AY _,f⟩) O (λ_=>O) zt (λu h=>trivial) ?_
 rintro⟨⟨k,a⟩,s,b⟩ L;have s:k<=n:=s;have b:Gq a (l.drop k)=B:=b
 by_cases o:k<n
 case neg=>
  obtain rfl:k=n:=J
  rw[List.drop_eq_nil_of_le J]at b;exact M<|X (decide ((k:Int)<(k:Int))) false Zs<|sN O<|M<|ZX (.bool true) (by rw[<-b];rfl)
 obtain⟨x,D⟩:∃x,l[k]? =some x:=⟨_,AD J⟩
 obtain⟨ad,vf,F⟩:=r.2 k x D;have e:Gq a (l.drop k)=(decide (a<=x.1/\x.1<=65536)&&Gq x.1 (l.drop (k+1))):=by rw[Jb D];rfl
 rw[e]at b;refine M<|X (decide ((k:Int)<(n:Int))) true Zp<|ZA (Ki 37 (.slice A n c) k) (.pointer (some (ad.add (k*5)))) (λuS t h=>Xp vf o)<|sV (L4 165 (ad.add (k*5))) (.agg (Sv x).toArray) O (λuS t h=>VQ λj v vg=>La t (F j v vg))<|H 5 ?_
 by_cases p:x.1<a
 case pos=>
  exact ZT 24 (.bool (decide (x.1<a))) Zt (by rw[YU p])<|ZI true<|sN O<|M<|ZX Zf (by rw[<-b,YV J];rfl)
 refine ZT 24 (.bool (decide (x.1<a))) Zf (by rw[YV p]) ?_
 by_cases C:x.1>65536
 case pos=>
  exact X (decide (x.1>65536)) true (by simpa using C)<|sN O<|M<|ZX Zf (by rw[<-b,YV J];rfl)
 rw[YU J,AG]at b;refine X (decide (x.1>65536)) false (by simpa using C)<|sS 16 o J O<|sR (⟨(k+1,x.1),by show k+1<=n;omega,b⟩) O zo zt (λu h=>trivial)
theorem I5(j:(Oq P.stops&&Um P.spread)=B)(o:Hs P q K w):Zv 121 #[U2 P q] w (.bool B):=by
 cases b:Oq P.stops
 .exact sL func121 rfl<|M<|Z (λe a h=>JU (c:=q.sc) b (o.st.below a)) λu=>ZX Zf (by rw[<-j,b];rfl)
 cases f:Um P.spread
 .exact sL func121 rfl<|M<|Z (λe a h=>JU (c:=q.sc) b (o.st.below a)) λu=>Z (λe a h=>Ie (x:=P.spread) f) λp=>ZX Zf (by rw[<-j,b,f];rfl)
 .exact sL func121 rfl<|M<|Z (λe a h=>JU (c:=q.sc) b (o.st.below a)) λu=>Z (λe a h=>Ie (x:=P.spread) f) λp=>ZX Zt (by rw[<-j,b,f];rfl)
theorem Vo(b:decide (n=0)=B):Zv 188 #[.slice A n c,.slice none 0 0] w (.bool B):=by
 refine sL func188 rfl<|M ?_
 by_cases a:n=0
 case neg=>
  exact X (((n:Int) !=0)) true (by simpa using a)<|ZX Zf (by rw[<-b,YV a])
 subst a;exact ZI false<|tx O<|M<|ZI false<|ZX (.bool true) (by rw[<-b];rfl)
theorem ke(b:decide (n=0)=B):Zv 249 #[.slice A n c,.slice none 0 0] w (.bool B):=by
 refine sL func249 rfl<|M ?_
 by_cases a:n=0
 case neg=>
  exact X (((n:Int) !=0)) true (by simpa using a)<|ZX Zf (by rw[<-b,YV a])
 subst a;exact ZI false<|tx O<|M<|ZI false<|ZX (.bool true) (by rw[<-b];rfl)
theorem KU{y:YZ}(f:decide (m.w=0/\m.h=0/\m.px=[])=B):Zv 189 #[Jo m y,Jo Yf (none,0)] w (.bool B):=by
 refine sL func189 rfl<|H 6 ?_
 by_cases a:m.w=0
 case neg=>
  refine ZT 10 (.bool (m.w==0)) Zf (by rw[YR.2 a])<|ZV Zf (λj b h=>⟨(),by rw[<-f,YV (λh=>a h.1)],b,λ_ _ _=>trivial⟩)
 refine sM 10 (.bool (m.w==0)) Zt O (by rw[YQ.2 a])<|H 13 ?_
 by_cases e:m.h=0
 case neg=>
  refine ZT 17 (.bool (m.h==0)) Zf (by rw[YR.2 e])<|ZV Zf (λj b h=>⟨(),by rw[<-f,YV (λh=>e h.2.1)],b,λ_ _ _=>trivial⟩)
 exact ZT 17 (.bool (m.h==0)) Zt (by rw[YQ.2 e])<|Z (λj b h=>ke (A:=y.1) (c:=y.2) (n:=m.px.length) (B:=B) (by rw[<-f];apply decide_eq_decide.2;rw[BG];exact⟨λh=>⟨a,e,h⟩,λh=>h.2.2⟩)) λu=>ZW (.bool B)
theorem Ze{a b:YJ}(e:decide (x=0/\y=0)=B):(Fi 36 a b (pt x y) (pt 0 0)).run XW w= .ok (.value (.bool B)) w:=by
 rw[GY,<-e];congr 2;rw[Value.bool.injEq,BN];simp
theorem oe(v:decide (Vi P)=B)(F:P.kind=k)(D:P.T=Pc)(vg:Hs P q K w)(G:2<=K/\K<=10000000):Zv 117 #[U2 P q,U2 (⟨k,Ss,0,0,0,0,0,[],0,Yf,0,Pc⟩:Pn) MV] w (.bool B):=by
 refine sL func117 rfl<|H 6<|sM 10 (.bool (P.kind==k)) Zt O (by rw[YQ.2 F])<|H 10 ?_
 by_cases r:P.co=Ss
 case neg=>
  refine ZA (Fi 24 (.tmp 12) (.tmp 14) (Rk P.co) (Rk Ss)) Zf (λb a h=>Qb (YV r))<|ZV Zf (λb a h=>⟨(),by rw[<-v,YV (λh:Vi P=>r h.1)],a,λ_ _ _=>trivial⟩)
 refine sV (Fi 24 (.tmp 12) (.tmp 14) (Rk P.co) (Rk Ss)) Zt O (λb a h=>Qb (YU r))<|H 17 ?_
 by_cases C:P.p0x=0/\P.p0y=0
 case neg=>
  refine ZA (Fi 36 (.tmp 19) (.tmp 21) (pt P.p0x P.p0y) (pt 0 0)) Zf (λb a h=>Ze (YV C))<|ZV Zf (λb a h=>⟨(),by rw[<-v,YV (λh:Vi P=>C h.2.1)],a,λ_ _ _=>trivial⟩)
 refine sV (Fi 36 (.tmp 19) (.tmp 21) (pt P.p0x P.p0y) (pt 0 0)) Zt O (λb a h=>Ze (YU C))<|H 24 ?_
 by_cases s:P.p1x=0/\P.p1y=0
 case neg=>
  refine ZA (Fi 36 (.tmp 26) (.tmp 28) (pt P.p1x P.p1y) (pt 0 0)) Zf (λb a h=>Ze (YV s))<|ZV Zf (λb a h=>⟨(),by rw[<-v,YV (λh:Vi P=>s h.2.2.1)],a,λ_ _ _=>trivial⟩)
 refine sV (Fi 36 (.tmp 26) (.tmp 28) (pt P.p1x P.p1y) (pt 0 0)) Zt O (λb a h=>Ze (YU s))<|H 34 ?_
 by_cases j:P.rad=0
 case neg=>
  refine ZT 38 (.bool (P.rad==0)) Zf (by rw[YR.2 j])<|ZV Zf (λb a h=>⟨(),by rw[<-v,YV (λh:Vi P=>j h.2.2.2.1)],a,λ_ _ _=>trivial⟩)
 refine sM 38 (.bool (P.rad==0)) Zt O (by rw[YQ.2 j])<|H 41 ?_
 by_cases f:P.spread=0
 case neg=>
  refine ZT 45 (.bool (P.spread==0)) Zf (by rw[YR.2 f])<|ZV Zf (λb a h=>⟨(),by rw[<-v,YV (λh:Vi P=>f h.2.2.2.2.1)],a,λ_ _ _=>trivial⟩)
 refine sM 45 (.bool (P.spread==0)) Zt O (by rw[YQ.2 f])<|H 48 ?_
 by_cases e:P.samp=0
 case neg=>
  refine ZT 52 (.bool (P.samp==0)) Zf (by rw[YR.2 e])<|ZV Zf (λb a h=>⟨(),by rw[<-v,YV (λh:Vi P=>e h.2.2.2.2.2.1)],a,λ_ _ _=>trivial⟩)
 refine ZT 52 (.bool (P.samp==0)) Zt (by rw[YQ.2 e]) ?_
 by_cases o:P.stops=[]
 case neg=>
  refine Z (λb a h=>Vo (A:=q.sA) (c:=q.sc) (n:=P.stops.length) (B:=false) (YV λh=>o (BG.1 h))) λu=>ZV Zf (λb a h=>⟨(),by rw[<-v,YV (λh:Vi P=>o h.2.2.2.2.2.2.1)],a,λ_ _ _=>trivial⟩)
 refine Z (λb a h=>Vo (A:=q.sA) (c:=q.sc) (n:=P.stops.length) (B:=true) (YU (BG.2 o))) λu=> ?_
 by_cases p:P.im.w=0/\P.im.h=0/\P.im.px=[]
 case neg=>
  refine Z (λb a h=>KU (m:=P.im) (y:=(q.xA,q.xc)) (YV p)) λu=>ZV Zf (λb a h=>⟨(),by rw[<-v,YV (λh:Vi P=>p h.2.2.2.2.2.2.2)],a,λ_ _ _=>trivial⟩)
 exact Z (λb a h=>KU (m:=P.im) (y:=(q.xA,q.xc)) (YU p)) λuS=>Z (λb a h=>by have t:=XJ (vg.tr.below a) (Fv.zero (w:=b)) G;rw[D,GV]at t;exact t) λvf=>ZX Zt (by rw[<-v,YU (show Vi P from⟨r,C,s,j,f,e,o,p⟩)])
def Yc(P:Pn)(q:PM):PM:=
 if P.kind=1 then⟨q.sA,q.sc,q.xA,q.xc,I0⟩else if P.kind=2 then⟨none,0,q.xA,q.xc,I0⟩else if P.kind=3 then⟨none,0,q.xA,q.xc,I0⟩else if P.kind=4 then⟨q.sA,q.sc,none,0,I0⟩else⟨q.sA,q.sc,q.xA,q.xc,I0⟩
theorem Hs.wofR(h:Hs P q K w):Hs (Gi P) (Yc P q) K w:=by
 by_cases a:P.kind=1
 case pos=>
  have e:Gi P=(⟨P.kind,Ss,P.p0x,P.p0y,P.p1x,P.p1y,P.rad,P.stops,P.spread,P.im,P.samp,Pc⟩:Pn):=by unfold Gi;rw[YS a]
  have b:Yc P q=(⟨q.sA,q.sc,q.xA,q.xc,I0⟩:PM):=by unfold Yc;rw[YS a]
  rw[e,b];exact⟨h.st,h.px,.zero⟩
 by_cases f:P.kind=2
 case pos=>
  have e:Gi P=(⟨P.kind,P.co,0,0,0,0,P.rad,[],0,P.im,P.samp,Pc⟩:Pn):=by unfold Gi;rw[V a];rw[YS f]
  have b:Yc P q=(⟨none,0,q.xA,q.xc,I0⟩:PM):=by unfold Yc;rw[V a];rw[YS f]
  rw[e,b];exact⟨⟨rfl,λk x h=>by simp at h⟩,h.px,.zero⟩
 by_cases j:P.kind=3
 case pos=>
  have e:Gi P=(⟨P.kind,P.co,0,0,P.p1x,P.p1y,0,[],0,P.im,P.samp,Pc⟩:Pn):=by unfold Gi;rw[V a];rw[V f];rw[YS j]
  have b:Yc P q=(⟨none,0,q.xA,q.xc,I0⟩:PM):=by unfold Yc;rw[V a];rw[V f];rw[YS j]
  rw[e,b];exact⟨⟨rfl,λk x h=>by simp at h⟩,h.px,.zero⟩
 by_cases o:P.kind=4
 case pos=>
  have e:Gi P=(⟨P.kind,P.co,P.p0x,P.p0y,P.p1x,P.p1y,P.rad,P.stops,0,Yf,0,Pc⟩:Pn):=by unfold Gi;rw[V a];rw[V f];rw[V j];rw[YS o]
  have b:Yc P q=(⟨q.sA,q.sc,none,0,I0⟩:PM):=by unfold Yc;rw[V a];rw[V f];rw[V j];rw[YS o]
  rw[e,b];exact⟨h.st,⟨rfl,λk x h=>by simp[Yf]at h⟩,.zero⟩
 have e:Gi P=(⟨P.kind,P.co,P.p0x,P.p0y,P.p1x,P.p1y,P.rad,P.stops,P.spread,P.im,P.samp,Pc⟩:Pn):=by unfold Gi;rw[V a,V f,V j,V o]
 have b:Yc P q=(⟨q.sA,q.sc,q.xA,q.xc,I0⟩:PM):=by unfold Yc;rw[V a,V f,V j,V o]
 rw[e,b];exact⟨h.st,h.px,.zero⟩
theorem qF:Zv 118 #[U2 P q] w (U2 (Gi P) (Yc P q)):=by
 refine sL func118 rfl<|M ?_
 by_cases a:P.kind=1
 case pos=>
  have e:Gi P=(⟨P.kind,Ss,P.p0x,P.p0y,P.p1x,P.p1y,P.rad,P.stops,P.spread,P.im,P.samp,Pc⟩:Pn):=by unfold Gi;rw[YS a]
  have f:Yc P q=(⟨q.sA,q.sc,q.xA,q.xc,I0⟩:PM):=by unfold Yc;rw[YS a]
  rw[e,f];exact X (P.kind==1) true (YQ.2 a)<|ZW (U2 (⟨P.kind,Ss,P.p0x,P.p0y,P.p1x,P.p1y,P.rad,P.stops,P.spread,P.im,P.samp,Pc⟩:Pn) (⟨q.sA,q.sc,q.xA,q.xc,I0⟩:PM))
 refine X (P.kind==1) false (YR.2 a) ?_
 by_cases b:P.kind=2
 case pos=>
  have e:Gi P=(⟨P.kind,P.co,0,0,0,0,P.rad,[],0,P.im,P.samp,Pc⟩:Pn):=by unfold Gi;rw[V a];rw[YS b]
  have f:Yc P q=(⟨none,0,q.xA,q.xc,I0⟩:PM):=by unfold Yc;rw[V a];rw[YS b]
  rw[e,f];exact X (P.kind==2) true (YQ.2 b)<|ZW (U2 (⟨P.kind,P.co,0,0,0,0,P.rad,[],0,P.im,P.samp,Pc⟩:Pn) (⟨none,0,q.xA,q.xc,I0⟩:PM))
 refine X (P.kind==2) false (YR.2 b) ?_
 by_cases h:P.kind=3
 case pos=>
  have e:Gi P=(⟨P.kind,P.co,0,0,P.p1x,P.p1y,0,[],0,P.im,P.samp,Pc⟩:Pn):=by unfold Gi;rw[V a];rw[V b];rw[YS h]
  have f:Yc P q=(⟨none,0,q.xA,q.xc,I0⟩:PM):=by unfold Yc;rw[V a];rw[V b];rw[YS h]
  rw[e,f];exact X (P.kind==3) true (YQ.2 h)<|ZW (U2 (⟨P.kind,P.co,0,0,P.p1x,P.p1y,0,[],0,P.im,P.samp,Pc⟩:Pn) (⟨none,0,q.xA,q.xc,I0⟩:PM))
 refine X (P.kind==3) false (YR.2 h) ?_
 by_cases j:P.kind=4
 case pos=>
  have e:Gi P=(⟨P.kind,P.co,P.p0x,P.p0y,P.p1x,P.p1y,P.rad,P.stops,0,Yf,0,Pc⟩:Pn):=by unfold Gi;rw[V a];rw[V b];rw[V h];rw[YS j]
  have f:Yc P q=(⟨q.sA,q.sc,none,0,I0⟩:PM):=by unfold Yc;rw[V a];rw[V b];rw[V h];rw[YS j]
  rw[e,f];exact X (P.kind==4) true (YQ.2 j)<|ZW (U2 (⟨P.kind,P.co,P.p0x,P.p0y,P.p1x,P.p1y,P.rad,P.stops,0,Yf,0,Pc⟩:Pn) (⟨q.sA,q.sc,none,0,I0⟩:PM))
 have e:Gi P=(⟨P.kind,P.co,P.p0x,P.p0y,P.p1x,P.p1y,P.rad,P.stops,P.spread,P.im,P.samp,Pc⟩:Pn):=by unfold Gi;rw[V a,V b,V h,V j]
 have f:Yc P q=(⟨q.sA,q.sc,q.xA,q.xc,I0⟩:PM):=by unfold Yc;rw[V a,V b,V h,V j]
 rw[e,f];exact X (P.kind==4) false (YR.2 j)<|ZW (U2 (⟨P.kind,P.co,P.p0x,P.p0y,P.p1x,P.p1y,P.rad,P.stops,P.spread,P.im,P.samp,Pc⟩:Pn) (⟨q.sA,q.sc,q.xA,q.xc,I0⟩:PM))
theorem aT:(Gi P).kind=P.kind/\(Gi P).T=Pc:=by
 unfold Gi
 by_cases b:P.kind=1
 .rw[YS b];exact⟨rfl,rfl⟩
 rw[V b]
 by_cases e:P.kind=2
 .rw[YS e];exact⟨rfl,rfl⟩
 rw[V e]
 by_cases a:P.kind=3
 .rw[YS a];exact⟨rfl,rfl⟩
 rw[V a]
 by_cases f:P.kind=4
 .rw[YS f];exact⟨rfl,rfl⟩
 rw[V f];exact⟨rfl,rfl⟩
theorem Wn{uX uV:Int}(a:Mx uX uV=B):Zv 120 #[pt uX uV] w (.bool B):=by subst a;exact cH
theorem Z1{r:Rat}:(Ub r ((0:Int):Rat) !=0)=decide (r≠0):=by
 rw[Se rfl];rw[BN];simp
theorem IL(a:Ld P=B)(f:Hs P q K w)(uU:P.im.px.length<=1000000000)(r:2<=K/\K<=10000000):Zv 62 #[U2 P q] w (.bool B):=by
 unfold Ld at a;obtain⟨G,F⟩:=aT (P:=P);refine sL func62 rfl<|M ?_
 cases uZ:P.T.ok
 .rw[uZ,AM]at a;exact Z (λe b h=>IM uZ (f.tr.below b) r) λu=>M<|ZI true<|ZX Zf (by rw[<-a])
 rw[uZ,AG]at a;refine Z (λe b h=>IM uZ (f.tr.below b) r) λu=>Z (λe b h=>qF (P:=P) (q:=q)) λuT=> ?_
 cases L:decide (Vi (Gi P))
 .rw[L,AM]at a;exact Z (λe b h=>oe (k:=P.kind) L G F (f.below b).wofR r) λuX=>M<|ZI true<|ZX Zf (by rw[<-a])
 rw[L,AG]at a;unfold Wz at a;have j:∀e:YN,Hs P q K e->∀v:RV,Oe v P.T.det (4*K+1) e->Zv 124 #[v.val,Yh.val] e (I (Ub P.T.det ((0:Int):Rat))):=λe _ v W=>Ds W.q (VE (K:=2)) J
 refine Z (λe b h=>oe (k:=P.kind) L G F (f.below b).wofR r) λuX=>M<|ZI false ?_
 by_cases D:P.kind=1
 case pos=>
  rw[YS D]at a;exact X (P.kind==1) true (YQ.2 D)<|Z (λe b h=>XJ (f.tr.below b) (Fv.zero (w:=e)) r) λuV=>ZX (.bool (SB P.T Pc)) (by rw[<-a])
 refine X (P.kind==1) false (YR.2 D) ?_
 by_cases vg:P.kind=2
 case pos=>
  rw[V D,YS vg]at a;refine X (P.kind==2) true (YQ.2 vg) ?_;cases o:Mx P.p0x P.p0y
  .rw[o,AM]at a;exact Z (λe b h=>Wn o) λuS=>M<|ZI true<|ZX Zf (by rw[<-a])
  rw[o,AG]at a;refine Z (λe b h=>Wn o) λuS=> ?_
  cases c2:Mx P.p1x P.p1y
  .rw[c2,AM]at a;exact Z (λe b h=>Wn c2) λQ=>M<|ZI true<|ZX Zf (by rw[<-a])
  rw[c2,AG]at a;refine Z (λe b h=>Wn c2) λQ=> ?_
  cases t:(Oq P.stops&&Um P.spread)
  .rw[t,AM]at a;exact Z (λe b h=>I5 t (f.below b)) λuY=>M<|ZI true<|ZX Zf (by rw[<-a])
  rw[t,AG]at a;exact Z (λe b h=>I5 t (f.below b)) λuY=>M<|ZI false<|Z (λe b h=>Hi (f.tr.below b) r) λp=>Z (λe b h=>j e (f.below b) p h.2) λvf=>ZX (.bool (Ub P.T.det ((0:Int):Rat) !=0)) (by rw[Z1,<-a])
 refine X (P.kind==2) false (YR.2 vg) ?_
 by_cases ve:P.kind=3
 case pos=>
  rw[V D,V vg,YS ve]at a;refine X (P.kind==3) true (YQ.2 ve) ?_;cases o:Mx P.p0x P.p0y
  .rw[o,AM]at a;exact Z (λe b h=>Wn o) λuS=>M<|ZI true<|ZX Zf (by rw[<-a])
  rw[o,AG]at a;refine ZD 10 (λe b h=>Wn o) λuS=> ?_
  by_cases S:P.rad<1
  case pos=>
   rw[show decide (1<=P.rad/\P.rad<=1048576)=false from YV J,AM]at a;exact ZT 52 (.bool (decide (P.rad<1))) Zt (by rw[YU S])<|ZI true<|ZX Zf (by rw[<-a])
  refine sM 52 (.bool (decide (P.rad<1))) Zf O (by rw[YV S])<|H 15 ?_
  by_cases uW:P.rad>1048576
  case pos=>
   rw[show decide (1<=P.rad/\P.rad<=1048576)=false from YV J,AM]at a;exact ZT 57 (.bool (decide (P.rad>1048576))) Zt (by rw[YU uW])<|ZI true<|ZX Zf (by rw[<-a])
  rw[show decide (1<=P.rad/\P.rad<=1048576)=true from YU J,AG]at a;refine ZT 57 (.bool (decide (P.rad>1048576))) Zf (by rw[YV uW]) ?_;cases t:(Oq P.stops&&Um P.spread)
  .rw[t,AM]at a;exact Z (λe b h=>I5 t (f.below b)) λuY=>M<|ZI true<|ZX Zf (by rw[<-a])
  rw[t,AG]at a;exact Z (λe b h=>I5 t (f.below b)) λuY=>M<|ZI false<|Z (λe b h=>Hi (f.tr.below b) r) λp=>Z (λe b h=>j e (f.below b) p h.2) λvf=>ZX (.bool (Ub P.T.det ((0:Int):Rat) !=0)) (by rw[Z1,<-a])
 refine X (P.kind==3) false (YR.2 ve) ?_
 by_cases uR:P.kind=4
 case pos=>
  rw[V D,V vg,V ve,YS uR]at a;refine X (P.kind==4) true (YQ.2 uR) ?_;cases o:Ay P.im
  .rw[o,AM]at a;exact Z (λe b h=>EQ (y:=(q.xA,q.xc)) o (f.px.below b) uU) λuS=>M<|ZI true<|ZX Zf (by rw[<-a])
  rw[o,AG]at a;refine ZD 9 (λe b h=>EQ (y:=(q.xA,q.xc)) o (f.px.below b) uU) λuS=> ?_
  by_cases N:P.spread=0
  case pos=>
   rw[YU N,Bool.true_or,AG]at a;refine sM 72 (.bool (P.spread !=0)) Zf O (by rw[bne_eq_false_iff_eq.2 N])<|H 20 ?_
   by_cases s:P.samp=1
   case pos=>
    rw[YU (.inl s),AG]at a;exact ZT 83 (.bool (P.samp !=1)) Zf (by rw[bne_eq_false_iff_eq.2 s])<|ZI false<|Z (λe b h=>Hi (f.tr.below b) r) λp=>Z (λe b h=>j e (f.below b) p h.2) λvf=>ZX (.bool (Ub P.T.det ((0:Int):Rat) !=0)) (by rw[Z1,<-a])
   refine ZT 83 (.bool (P.samp !=1)) Zt (by rw[bne_iff_ne.2 s]) ?_
   by_cases C:P.samp=2
   case pos=>
    rw[YU (.inr C),AG]at a;exact X (P.samp !=2) false (bne_eq_false_iff_eq.2 C)<|Z (λe b h=>Hi (f.tr.below b) r) λp=>Z (λe b h=>j e (f.below b) p h.2) λvf=>ZX (.bool (Ub P.T.det ((0:Int):Rat) !=0)) (by rw[Z1,<-a])
   rw[show decide (P.samp=1\/P.samp=2)=false from YV (λh=>h.elim s C),AM]at a;exact X (P.samp !=2) true (bne_iff_ne.2 C)<|ZX Zf (by rw[<-a])
  rw[YV N,CB]at a;refine ZT 72 (.bool (P.spread !=0)) Zt (by rw[bne_iff_ne.2 N]) ?_;cases c2:Um P.spread
  .rw[c2,AM]at a;exact Z (λe b h=>Ie c2) λQ=>M<|ZI true<|ZX Zf (by rw[<-a])
  rw[c2,AG]at a;refine ZD 20 (λe b h=>Ie c2) λQ=> ?_
  by_cases s:P.samp=1
  case pos=>
   rw[YU (.inl s),AG]at a;exact ZT 83 (.bool (P.samp !=1)) Zf (by rw[bne_eq_false_iff_eq.2 s])<|ZI false<|Z (λe b h=>Hi (f.tr.below b) r) λp=>Z (λe b h=>j e (f.below b) p h.2) λvf=>ZX (.bool (Ub P.T.det ((0:Int):Rat) !=0)) (by rw[Z1,<-a])
  refine ZT 83 (.bool (P.samp !=1)) Zt (by rw[bne_iff_ne.2 s]) ?_
  by_cases C:P.samp=2
  case pos=>
   rw[YU (.inr C),AG]at a;exact X (P.samp !=2) false (bne_eq_false_iff_eq.2 C)<|Z (λe b h=>Hi (f.tr.below b) r) λp=>Z (λe b h=>j e (f.below b) p h.2) λvf=>ZX (.bool (Ub P.T.det ((0:Int):Rat) !=0)) (by rw[Z1,<-a])
  rw[show decide (P.samp=1\/P.samp=2)=false from YV (λh=>h.elim s C),AM]at a;exact X (P.samp !=2) true (bne_iff_ne.2 C)<|ZX Zf (by rw[<-a])
 rw[V D,V vg,V ve,V uR]at a;exact X (P.kind==4) false (YR.2 uR)<|ZX Zf (by rw[<-a])
end
section
variable{P:YK}{Δ:List YI}{W:YN}{Q:Exit->Act->YN->Prop}{Φ:YW}{c:Ob}
def XL(i j:Nat)(c:Ob):Bool:=match c.foc with
 | .any f (_+1) e=>match Region.ready .any f e with
  | [a,b]=>BX a i&&BX b j
  |_=>false
 |_=>false
def lL(P:YK)(W:YN)(Q:Exit->Act->YN->Prop)(i:Nat)(Φ:YW)(c:Ob)(Δ:List YI):Prop:=
 match c.foc with
 | .any e (fuel+1) b=>nY e->Oz e b->c.st.wf->i∈Region.ready .any e b->∃o,e[i]? =some o/\kZ P W e o (λf Φ=>∀(σ:AS),σ.wf->∀β a w,Re Δ W β σ Φ a w->post P Q c.k (.panic f) a w) (Jp P W e (λf Φ=>∀(σ:AS),σ.wf->∀β a w,Re Δ W β σ Φ a w->post P Q c.k (.panic f) a w) (λσ Φ=>σ.wf->∀β a w,Re Δ W β σ Φ a w->post P Q c.k .normal a w) fuel (b.setIfInBounds i true)) c.st Φ
 |_=>True
structure Py(P:YK)(W:YN)(Q:Exit->Act->YN->Prop)(i:Nat)(Φ:YW)(c:Ob)(Δ:List YI):Prop where
 get:lL P W Q i Φ c Δ
theorem tR{i j:Nat}(h:XL i j c=true)(hi:Py P W Q i Φ c Δ)(s:Py P W Q j Φ c Δ):K0 P Δ W Q Φ c:=by
 obtain⟨u,k,σ⟩:=c;refine⟨?_⟩;unfold XL at h;simp only at h;split at h
 .rename_i r fuel o;split at h
  .rename_i a b g;simp only[AB,CH]at h;obtain⟨rfl,rfl⟩:=h;intro f m l;refine⟨λt=>(by rw[t]at g;cases g),λx p=> ?_⟩;have e:=p;rw[g]at e;rcases CK.1 e with rfl|e
   .exact hi.get f m l p
   .obtain rfl:x=b:=by simpa using e
    exact s.get f m l p
  .cases h
 .cases h
def dZ(P:YK)(i:Nat)(c:Ob):Option (YE×Array YM):=
 match c.foc with
 | .any a (_+1) _=>match a[i]? with
  | some o=>if Lc a o c.st then(match Y9 P o c.st with
   |some (g,xs)=>match Jn xs with
    |some vs=>some (g,vs.toArray)
    |none=>none
   |none=>none)else none
  |none=>none
 |_=>none
theorem tD{uX:Type}{i:Nat}{g:YE}{args:Array YM}{val:uX->YM}{G:uX->YN->Prop}
 (C:∀w,Below W.heap.size W w->Φ w->YG P g args w (K6 w val G)) (a:dZ P i c=some (g,args))
 (h:∀x:uX,K0 P Δ W Q (λw=>Φ w/\G x w) (Bg i (val x) c)):Py P W Q i Φ c Δ:=by
 obtain⟨F,k,σ⟩:=c;replace h:=λx=>(h x).get
 refine⟨?_⟩;unfold dZ at a;simp only at a;split at a
 .rename_i s fuel l;split at a
  .rename_i o j;split at a
   .rename_i B;split at a
    .rename_i v xs y;split at a
     .rename_i vs t;injection a with a;injection a with h1 h2;subst h1;subst h2;intro f p m u;obtain⟨_,vg,e,b⟩:=mem_ready.1 u;obtain rfl:o=vg:=by rw[j]at e;injection e
      refine⟨o,j,.call v xs val G B y (λβ w D r _=>by rw[Qi t];exact C w D r) λx=> ?_⟩;have:=h x;simp only[Bg,j,AA,BE]at this;exact this f (p.set_ j b) (m.put _ (by intro k A;simp[AV.ids]at A))
     .cases a
    .cases a
   .cases a
  .cases a
 .cases a
def nM(i:Nat)(c:Ob):Option (Sem Next):=
 match c.foc with
 | .any a (_+1) _=>match a[i]? with
  |some o=>match o.op with
   | .select _ _=>none
   |_=>if Lc a o c.st&&c.st.plain o.op then some (execOp c.st.rho o)else none
  |none=>none
 |_=>none
theorem Py.make{uX:Type}{i:Nat}(s:Sem Next)(val:uX->YM)(G:uX->YN->Prop)(a:nM i c=some s)(B:∀w,Below W.heap.size W w->Φ w->Lw P w val G s)(h:∀x,K0 P Δ W Q (λw=>Φ w/\G x w) (Bg i (val x) c)):Py P W Q i Φ c Δ:=by
 obtain⟨D,k,σ⟩:=c;replace h:=λx=>(h x).get
 refine⟨?_⟩;unfold nM at a;simp only at a;split at a
 .rename_i v fuel m;split at a
  .rename_i o l;split at a
   .cases a
   .rename_i r;split at a
    .rename_i u;simp only[AB]at u;injection a with a;subst a;intro j t p y;obtain⟨_,C,g,f⟩:=mem_ready.1 y;obtain rfl:o=C:=by rw[l]at g;injection g
     refine⟨o,l,.make val G u.1 u.2 (λcs b e=>r cs b e) B λx=> ?_⟩;have:=h x;simp only[Bg,l,AA,BE]at this;exact this j (t.set_ l f) (p.put _ (by intro k A;simp[AV.ids]at A))
    .cases a
  .cases a
 .cases a
end
section
--ATNAMES
theorem Qy{x y:Int}(h:Mx x y=true):(-1048576<=x/\x<=1048576)/\(-1048576<=y/\y<=1048576):=YP h
theorem Db:∀{l:List (Int×Co)} {a:Int},0<=a->Gq a l=true->∀x∈l,0<=x.1/\x.1<=65536
 | [],a,_,_,x,b=>by cases b
 |y::l,a,c,h,x,b=>by
  have h:(decide (a<=y.1/\y.1<=65536)&&Gq y.1 l)=true:=h;rw[AB,decide_eq_true_iff]at h;rcases CK.1 b with rfl|b
  .omega
  .exact Db J h.2 x b
theorem U6{x:Int}(h: -9223372036854775808<=x/\x<=9223372036854775807):(K8 x).length<=21:=by
 have a:x.natAbs<pw 2:=by
  have:pw 2=18446744073709551616:=by rfl
  omega
 exact T2 (k:=2) Zd a
theorem Xi{r:Rat}(h:Bl r<=256):(Kz r).length<=163:=by
 have a:r.num.natAbs<pw 8:=g5 (by unfold Bl at h;omega);have b:r.den<pw 8:=g5 (by unfold Bl at h;omega);have c:=T2 (k:=8) Zd a;have e:=T2 (x:=(r.den:Int)) (k:=8) Zd (by simpa using b);unfold Kz;split
 .omega
 .simp only[AI,AX];omega
theorem UB{T:Xm}(h:T.ok=true):Nm (Mn T)<=978/\(Mn T).length=6:=by
 obtain⟨b,g,a,f,e,c⟩:=uu h;have o:=Xi b;have l:=Xi g;have j:=Xi a;have k:=Xi f;have m:=Xi e;have p:=Xi c;refine⟨?_,rfl⟩;unfold Mn;simp only[Nm];omega
theorem Bt:∀l:List (Int×Co),(Yj l).length=2*l.length
 | []=>rfl
 |x::l=>by
  have:=Bt l;show(K8 x.1::P9 x.2::Yj l).length=_;simp only[AX];omega
theorem KP{l:List (Int×Co)}{k:Nat}{x:Int×Co}(h:l[k]? =some x):Yj (l.take (k+1))=Yj (l.take k)++ [K8 x.1,P9 x.2]:=by
 unfold Yj;rw[BO,h];simp
section
variable{w:YN}{P:Pn}{q:PM}{K:Nat}
theorem LC{B m yc c:Nat}{y:YY}{p:WS}{a b:R}(g:Y w B 9 1 y m yc (sv p))(e:B<=w.heap.size)(f:Kr 9 #[E a,E b] c w)(h:m<999990):
 Pp XW w (bl y) (λz:YZ=> .slice z.1 (m+2) z.2) (λz v=>Y v B 9 1 z.1 (m+2) z.2 (sv (p++ [a,b]))) (Ln 53 53 (.slice y m yc) (Kd 2 c)):=
 O7 (cc:=2) g e (Lh (L:=[a,b]) f rfl) (show m+2<=1000000 by omega)
theorem X6(hp:Hs P q K w)(hv:Ld P=true)(hK:2<=K/\K<=1000)(hl:P.im.px.length<=20000):YG XW 55 #[U2 P q] w (K6 w (λy:YZ=> .slice y.1 (Pz P).length y.2) λy u=>Km u y.1 (Pz P).length (Pz P)):=by
 unfold Ld at hv;rw[AB,AB]at hv;obtain⟨hok,hz,hk⟩:=hv;unfold Wz at hk
 by_cases A:P.kind=1
 case pos=>
  have e:Pz P=[Nn,P9 P.co]:=by unfold Pz;rw[YS A]
  rw[e];refine sL func55 rfl<|M<|X (P.kind==1) true (YQ.2 A)<|ZD 3 (λc a h=>Ja (k:=P.co)) λu=>sO (Kw 53 2 #[(0,E Nn),(1,E (P9 P.co))]) (Kd 2) (Kr 9 #[E Nn,E (P9 P.co)]) O (λc a h=>Kb O) λgb=>M<|ZV (.slice (some ⟨gb,0,none⟩) 2 2) (λc a h=>⟨(some ⟨gb,0,none⟩,2),rfl,a,λo A D=>Lh (L:=[Nn,P9 P.co]) (h o A D).2 rfl⟩)
 by_cases k4:P.kind=4
 case pos=>
  rw[V A,V J,V J,YS k4,AB,AB,AB,BV,decide_eq_true_iff,decide_eq_true_iff]at hk;obtain⟨hi,hs,hm,_⟩:=hk;have ve:0<=P.spread/\P.spread<0+4:=by
   rcases hs with hs|hs
   .omega
   .have:=YP hs;omega
  unfold Ay at hi;rw[AB,AB]at hi;have hsz:=YP hi.1.1;obtain⟨f,uZ⟩:∃x,x=Ks Lm 0 P.spread:=⟨_,rfl⟩
  obtain⟨C,hx2⟩:∃x,x=Ks Ng 1 P.samp:=⟨_,rfl⟩
  have e:Pz P=([Kx,f,C]++Mn P.T)++E5 P.im:=by unfold Pz;rw[V A,YS k4,uZ,hx2]
  rw[e];refine sL func55 rfl<|M<|X (P.kind==1) false (YR.2 A)<|X (P.kind==4) true (YQ.2 k4)<|Z (λc a h=>by have t:=Dz (w:=c) ve.1 ve.2;rw[<-uZ]at t;exact t) λu1=>ZD 6 (λc a h=>by have t:=PC (w:=c) (z:=P.samp) J J;rw[<-hx2]at t;exact t) λu2=>tR (i:=6) (j:=9) O ?_ ?_
  .refine Py.make (i:=6) (Kw 53 3 #[(0,E Kx),(1,E f),(2,E C)]) (Kd 3) (Kr 9 #[E Kx,E f,E C]) O (λc a h=>Kb O) λgb=>H 10<|ZD 10 (λc a h=>Q6 (N:=w.heap.size) a.size (hp.tr.below a) hK) λy=>sO (Ln 53 53 (Kd 3 gb) (.slice y.1 6 y.2)) (λy:YZ=> .slice y.1 (3+6) y.2) (λy v=>Y v w.heap.size 9 1 y.1 (3+6) y.2 (sv ([Kx,f,C]++Mn P.T))) O (λc a h=>Q3 (p:=[Kx,f,C]) (l:=Mn P.T) h.1.2 rfl h.2.strs Zd (CA rfl) a.size) λz=>M<|ZD 4 (λc a h=>X8 (y:=(q.xA,q.xc)) (hp.px.below a) hl J J) λv=>sY (L:=bl z.1) (val:=λ(y:YZ)=> .slice y.1 (3+6+3) y.2) (Φ':=λ(y:YZ) u=>Y u w.heap.size 9 1 y.1 (3+6+3) y.2 (sv (([Kx,f,C]++Mn P.T)++E5 P.im))) (G:=λ(y:YZ) u=>Y u w.heap.size 9 1 y.1 (3+6+3) y.2 (sv (([Kx,f,C]++Mn P.T)++E5 P.im))) (Ln 53 53 (.slice z.1 (3+6) z.2) (.slice v.1 3 v.2)) (λc a h=>O7 (p:=[Kx,f,C]++Mn P.T) (l:=E5 P.im) h.1.2 a.size h.2 Zd) (λc h=>λb F=>⟨(h.1.2.lt b F).1,(h.1.2.blk b F).2⟩) (λy wa wb e1 e2 h uX=>uX) O O λy2=>M<|ZV (.slice y2.1 (3+6+3) y2.2) (λc a h=>⟨y2,rfl,a,λo A D=>(show Y o w.heap.size 9 1 y2.1 (3+6+3) y2.2 (sv (([Kx,f,C]++Mn P.T)++E5 P.im))from h o A D).strs⟩)
  .refine tD (i:=9) (λc a h=>Q6 (N:=w.heap.size) a.size (hp.tr.below a) hK) O λy=>H 6<|sO (Kw 53 3 #[(0,E Kx),(1,E f),(2,E C)]) (Kd 3) (Kr 9 #[E Kx,E f,E C]) O (λc a h=>Kb O) λgb=>H 10<|sO (Ln 53 53 (Kd 3 gb) (.slice y.1 6 y.2)) (λy:YZ=> .slice y.1 (3+6) y.2) (λy v=>Y v w.heap.size 9 1 y.1 (3+6) y.2 (sv ([Kx,f,C]++Mn P.T))) O (λc a h=>Q3 (p:=[Kx,f,C]) (l:=Mn P.T) h.2 rfl h.1.2.strs Zd (CA rfl) a.size) λz=>M<|ZD 4 (λc a h=>X8 (y:=(q.xA,q.xc)) (hp.px.below a) hl J J) λv=>sY (L:=bl z.1) (val:=λ(y:YZ)=> .slice y.1 (3+6+3) y.2) (Φ':=λ(y:YZ) u=>Y u w.heap.size 9 1 y.1 (3+6+3) y.2 (sv (([Kx,f,C]++Mn P.T)++E5 P.im))) (G:=λ(y:YZ) u=>Y u w.heap.size 9 1 y.1 (3+6+3) y.2 (sv (([Kx,f,C]++Mn P.T)++E5 P.im))) (Ln 53 53 (.slice z.1 (3+6) z.2) (.slice v.1 3 v.2)) (λc a h=>O7 (p:=[Kx,f,C]++Mn P.T) (l:=E5 P.im) h.1.2 a.size h.2 Zd) (λc h=>λb F=>⟨(h.1.2.lt b F).1,(h.1.2.blk b F).2⟩) (λy wa wb e1 e2 h uX=>uX) O O λy2=>M<|ZV (.slice y2.1 (3+6+3) y2.2) (λc a h=>⟨y2,rfl,a,λo A D=>(show Y o w.heap.size 9 1 y2.1 (3+6+3) y2.2 (sv (([Kx,f,C]++Mn P.T)++E5 P.im))from h o A D).strs⟩)
 obtain⟨f,uZ⟩:∃x,x=Ks Lm 0 P.spread:=⟨_,rfl⟩
 by_cases D:P.kind=2
 case pos=>
  rw[V A,YS D,AB,AB,AB]at hk;obtain⟨hp0,hp1,hst0,_⟩:=hk;have hr0:=Qy hp0;have hr1:=Qy hp1;have s:=hst0;rw[AB]at s;have ve:0<=P.spread/\P.spread<0+4:=by have:=YP (show decide (1<=P.spread/\P.spread<=3)=true from s.2);omega
  have g:=s.1;unfold Oq at g;rw[AB,decide_eq_true_iff]at g;have hst:=g.2;have uW:=g.1.2;have e:Pz P=([Ky,K8 P.p0x,K8 P.p0y,K8 P.p1x,K8 P.p1y,f]++Mn P.T)++Yj P.stops:=by unfold Pz;rw[V A,V k4,YS D,uZ]
  rw[e];obtain⟨L1,S⟩:∃L:WS,L=[Ky,K8 P.p0x,K8 P.p0y,K8 P.p1x,K8 P.p1y,f]:=⟨_,rfl⟩
  have uT:L1.length=6:=by rw[S];rfl
  obtain⟨L2,uU⟩:∃L:WS,L=([Ky,K8 P.p0x,K8 P.p0y,K8 P.p1x,K8 P.p1y,f]++Mn P.T):=⟨_,rfl⟩
  have uS:L2=L1++Mn P.T:=by rw[uU,S]
  have uV:L2.length=12:=by rw[uS,AI,uT];rfl
  rw[<-uU];refine sL func55 rfl<|M<|X (P.kind==1) false (YR.2 A)<|X (P.kind==4) false (YR.2 k4)<|X (P.kind==2) true (YQ.2 D)<|Z (λc a h=>L9 (n:=P.p0x) J J) λu0=>Z (λc a h=>L9 (n:=P.p0y) J J) λu1=>Z (λc a h=>L9 (n:=P.p1x) J J) λu2=>ZD 16 (λc a h=>L9 (n:=P.p1y) J J) λu3=>sO (Kw 53 5 #[(0,E Ky),(1,E (K8 P.p0x)),(2,E (K8 P.p0y)),(3,E (K8 P.p1x)),(4,E (K8 P.p1y))]) (Kd 5) (Kr 9 #[E Ky,E (K8 P.p0x),E (K8 P.p0y),E (K8 P.p1x),E (K8 P.p1y)]) O (λc a h=>Kb O) λga=>M<|ZD 4 (λc a h=>by have t:=Dz (w:=c) ve.1 ve.2;rw[<-uZ]at t;exact t) λu9=>sO (Kw 53 1 #[(0,E f)]) (Kd 1) (Kr 9 #[E f]) O (λc a h=>Kb O) λgb=>H 5<|sO (Ln 53 53 (Kd 5 ga) (Kd 1 gb)) (λz:YZ=> .slice z.1 (5+1) z.2) (λz v=>Y v w.heap.size 9 1 z.1 (5+1) z.2 (sv L1)) O (λc a h=>by have t:=Q3 (N:=w.heap.size) (n:=5) (m:=1) (p:=[Ky,K8 P.p0x,K8 P.p0y,K8 P.p1x,K8 P.p1y]) (l:=[f]) (cc:=1) h.1.1.2 rfl (Lh (L:=[f]) h.2 rfl) Zd Zd a.size;rw[S];exact t) λz=>H 9<|ZD 9 (λc a h=>Q6 (N:=w.heap.size) a.size (hp.tr.below a) hK) λy=>tl (L:=bl z.1) (val:=λ(z:YZ)=> .slice z.1 (5+1+6) z.2) (Φ':=λ(z:YZ) v=>Y v w.heap.size 9 1 z.1 (5+1+6) z.2 (sv L2)) (G:=λ(z:YZ) v=>Y v w.heap.size 9 1 z.1 (5+1+6) z.2 (sv L2)) (Ln 53 53 (.slice z.1 (5+1) z.2) (.slice y.1 6 y.2)) (λc a h=>by have t:=O7 h.1.2 a.size h.2.strs Zd (cc:=y.2);rw[<-uS]at t;exact t) (λc h=>λb F=>⟨(h.1.2.lt b F).1,(h.1.2.blk b F).2⟩) (λz wa wb e1 e2 h uX=>uX) O O λz2=>M<|sU (ι:={r:Nat×(YZ) // r.1<=P.stops.length}) 91 (λr=>⟨[(3,.v (.slice r.1.2.1 (5+1+6+2*r.1.1) r.1.2.2)),(74,.v (.slice q.sA P.stops.length q.sc)),(75,.v (I P.stops.length)),(76,.v (I r.1.1))],[]⟩) (λr u=>Y u w.heap.size 9 1 r.1.2.1 (5+1+6+2*r.1.1) r.1.2.2 (sv (L2++Yj (P.stops.take r.1.1)))) (λr=>P.stops.length-r.1.1) (⟨(0,z2),AY _⟩) O (λ_=>O) zt (λu h=>by show Y u w.heap.size 9 1 z2.1 (5+1+6) z2.2 (sv (L2++ []));rw[CI];exact h) ?_
  rintro⟨⟨k,vg,yc⟩,W⟩ gg;have W:k<=P.stops.length:=W
  by_cases Q:k<P.stops.length
  case neg=>
   have hkn:P.stops.length=k:=J
   refine M<|X (decide ((k:Int)<(P.stops.length:Int))) false Zp<|sN O<|M ?_
   have uY:P.stops.take k=P.stops:=AZ J;have vf:(L2++Yj P.stops).length=5+1+6+2*k:=by rw[AI,Bt,uV];omega
   refine ZV (.slice vg (5+1+6+2*k) yc) (λc a h=>⟨(vg,yc),by rw[vf],a,λo A D=>by rw[vf];have t:=(show Y o w.heap.size 9 1 vg (5+1+6+2*k) yc (sv (L2++Yj (P.stops.take k)))from h o A D).strs;rw[uY]at t;exact t⟩)
  obtain⟨x,hx⟩:∃x,P.stops[k]? =some x:=⟨_,AD Q⟩
  obtain⟨ad,hA,hc⟩:=hp.st.2 k x hx;have hxr:=Db (BW 0) hst x (BM hx);have uR:L2++Yj (P.stops.take (k+1))=(L2++Yj (P.stops.take k))++ [K8 x.1,P9 x.2]:=by rw[KP hx];simp
  obtain⟨p,B⟩:∃p,p=L2++Yj (P.stops.take k):=⟨_,rfl⟩
  refine M<|X (decide ((k:Int)<(P.stops.length:Int))) true Zp<|ZA (Ki 37 (.slice q.sA P.stops.length q.sc) k) (.pointer (some (ad.add (k*5)))) (λc a h=>Xp hA Q)<|ZA (L4 165 (ad.add (k*5))) (.agg (Sv x).toArray) (λc a h=>VQ λj v hj=>La a (hc j v hj))<|Z (λc a h=>L9 (n:=x.1) J J) λv1=>ZD 7 (λc a h=>Ja (k:=x.2)) λv2=>sO (Kw 53 2 #[(0,E (K8 x.1)),(1,E (P9 x.2))]) (Kd 2) (Kr 9 #[E (K8 x.1),E (P9 x.2)]) O (λc a h=>Kb O) λgc=>H 8<|tl (L:=bl vg) (val:=λ(z:YZ)=> .slice z.1 (5+1+6+2*k+2) z.2) (Φ':=λ(z:YZ) v=>Y v w.heap.size 9 1 z.1 (5+1+6+2*k+2) z.2 (sv (p++ [K8 x.1,P9 x.2]))) (G:=λ(z:YZ) v=>Y v w.heap.size 9 1 z.1 (5+1+6+2*k+2) z.2 (sv (p++ [K8 x.1,P9 x.2]))) (Ln 53 53 (.slice vg (5+1+6+2*k) yc) (Kd 2 gc)) (λc a h=>LC (show Y c w.heap.size 9 1 vg (5+1+6+2*k) yc (sv p)from(by rw[B];exact h.1.1.1)) a.size h.2 (by have:=uW;omega)) (λc h=>λb F=>⟨((show Y c w.heap.size 9 1 vg (5+1+6+2*k) yc (sv p)from(by rw[B];exact h.1.1.1)).lt b F).1,((show Y c w.heap.size 9 1 vg (5+1+6+2*k) yc (sv p)from(by rw[B];exact h.1.1.1)).blk b F).2⟩) (λz wa wb e1 e2 h uX=>uX) O O λz=>M<|sS 76 Q J O<|sR (⟨(k+1,z.1,z.2),by show k+1<=P.stops.length;omega⟩) O zo zt (λu h=>(by show Y u w.heap.size 9 1 z.1 (5+1+6+2*(k+1)) z.2 (sv (L2++Yj (P.stops.take (k+1))));rw[uR,<-B,show 5+1+6+2*(k+1)=5+1+6+2*k+2 by omega];exact h))
 by_cases k3:P.kind=3
 case neg=>rw[V A,V D,V k3,V k4]at hk;cases hk
 rw[V A,V D,YS k3,AB,AB,AB,decide_eq_true_iff]at hk;obtain⟨hp0,hrad,hst0,_⟩:=hk;have hr0:=Qy hp0;have s:=hst0;rw[AB]at s;have ve:0<=P.spread/\P.spread<0+4:=by have:=YP (show decide (1<=P.spread/\P.spread<=3)=true from s.2);omega
 have g:=s.1;unfold Oq at g;rw[AB,decide_eq_true_iff]at g;have hst:=g.2;have uW:=g.1.2;have e:Pz P=([L7,K8 P.p0x,K8 P.p0y,K8 P.rad,f]++Mn P.T)++Yj P.stops:=by unfold Pz;rw[V A,V k4,V D,uZ]
 rw[e];obtain⟨L1,S⟩:∃L:WS,L=[L7,K8 P.p0x,K8 P.p0y,K8 P.rad,f]:=⟨_,rfl⟩
 have uT:L1.length=5:=by rw[S];rfl
 obtain⟨L2,uU⟩:∃L:WS,L=([L7,K8 P.p0x,K8 P.p0y,K8 P.rad,f]++Mn P.T):=⟨_,rfl⟩
 have uS:L2=L1++Mn P.T:=by rw[uU,S]
 have uV:L2.length=11:=by rw[uS,AI,uT];rfl
 rw[<-uU];refine sL func55 rfl<|M<|X (P.kind==1) false (YR.2 A)<|X (P.kind==4) false (YR.2 k4)<|X (P.kind==2) false (YR.2 D)<|Z (λc a h=>L9 (n:=P.p0x) J J) λu0=>Z (λc a h=>L9 (n:=P.p0y) J J) λu1=>ZD 11 (λc a h=>L9 (n:=P.rad) J J) λu2=>sO (Kw 53 4 #[(0,E L7),(1,E (K8 P.p0x)),(2,E (K8 P.p0y)),(3,E (K8 P.rad))]) (Kd 4) (Kr 9 #[E L7,E (K8 P.p0x),E (K8 P.p0y),E (K8 P.rad)]) O (λc a h=>Kb O) λga=>M<|ZD 4 (λc a h=>by have t:=Dz (w:=c) ve.1 ve.2;rw[<-uZ]at t;exact t) λu9=>sO (Kw 53 1 #[(0,E f)]) (Kd 1) (Kr 9 #[E f]) O (λc a h=>Kb O) λgb=>H 5<|sO (Ln 53 53 (Kd 4 ga) (Kd 1 gb)) (λz:YZ=> .slice z.1 (4+1) z.2) (λz v=>Y v w.heap.size 9 1 z.1 (4+1) z.2 (sv L1)) O (λc a h=>by have t:=Q3 (N:=w.heap.size) (n:=4) (m:=1) (p:=[L7,K8 P.p0x,K8 P.p0y,K8 P.rad]) (l:=[f]) (cc:=1) h.1.1.2 rfl (Lh (L:=[f]) h.2 rfl) Zd Zd a.size;rw[S];exact t) λz=>H 9<|ZD 9 (λc a h=>Q6 (N:=w.heap.size) a.size (hp.tr.below a) hK) λy=>tl (L:=bl z.1) (val:=λ(z:YZ)=> .slice z.1 (4+1+6) z.2) (Φ':=λ(z:YZ) v=>Y v w.heap.size 9 1 z.1 (4+1+6) z.2 (sv L2)) (G:=λ(z:YZ) v=>Y v w.heap.size 9 1 z.1 (4+1+6) z.2 (sv L2)) (Ln 53 53 (.slice z.1 (4+1) z.2) (.slice y.1 6 y.2)) (λc a h=>by have t:=O7 h.1.2 a.size h.2.strs Zd (cc:=y.2);rw[<-uS]at t;exact t) (λc h=>λb F=>⟨(h.1.2.lt b F).1,(h.1.2.blk b F).2⟩) (λz wa wb e1 e2 h uX=>uX) O O λz2=>M<|sU (ι:={r:Nat×(YZ) // r.1<=P.stops.length}) 91 (λr=>⟨[(3,.v (.slice r.1.2.1 (4+1+6+2*r.1.1) r.1.2.2)),(74,.v (.slice q.sA P.stops.length q.sc)),(75,.v (I P.stops.length)),(76,.v (I r.1.1))],[]⟩) (λr u=>Y u w.heap.size 9 1 r.1.2.1 (4+1+6+2*r.1.1) r.1.2.2 (sv (L2++Yj (P.stops.take r.1.1)))) (λr=>P.stops.length-r.1.1) (⟨(0,z2),AY _⟩) O (λ_=>O) zt (λu h=>by show Y u w.heap.size 9 1 z2.1 (4+1+6) z2.2 (sv (L2++ []));rw[CI];exact h) ?_
 rintro⟨⟨k,vg,yc⟩,W⟩ gg;have W:k<=P.stops.length:=W
 by_cases Q:k<P.stops.length
 case neg=>
  have hkn:P.stops.length=k:=J
  refine M<|X (decide ((k:Int)<(P.stops.length:Int))) false Zp<|sN O<|M ?_
  have uY:P.stops.take k=P.stops:=AZ J;have vf:(L2++Yj P.stops).length=4+1+6+2*k:=by rw[AI,Bt,uV];omega
  refine ZV (.slice vg (4+1+6+2*k) yc) (λc a h=>⟨(vg,yc),by rw[vf],a,λo A D=>by rw[vf];have t:=(show Y o w.heap.size 9 1 vg (4+1+6+2*k) yc (sv (L2++Yj (P.stops.take k)))from h o A D).strs;rw[uY]at t;exact t⟩)
 obtain⟨x,hx⟩:∃x,P.stops[k]? =some x:=⟨_,AD Q⟩
 obtain⟨ad,hA,hc⟩:=hp.st.2 k x hx;have hxr:=Db (BW 0) hst x (BM hx);have uR:L2++Yj (P.stops.take (k+1))=(L2++Yj (P.stops.take k))++ [K8 x.1,P9 x.2]:=by rw[KP hx];simp
 obtain⟨p,B⟩:∃p,p=L2++Yj (P.stops.take k):=⟨_,rfl⟩
 refine M<|X (decide ((k:Int)<(P.stops.length:Int))) true Zp<|ZA (Ki 37 (.slice q.sA P.stops.length q.sc) k) (.pointer (some (ad.add (k*5)))) (λc a h=>Xp hA Q)<|ZA (L4 165 (ad.add (k*5))) (.agg (Sv x).toArray) (λc a h=>VQ λj v hj=>La a (hc j v hj))<|Z (λc a h=>L9 (n:=x.1) J J) λv1=>ZD 7 (λc a h=>Ja (k:=x.2)) λv2=>sO (Kw 53 2 #[(0,E (K8 x.1)),(1,E (P9 x.2))]) (Kd 2) (Kr 9 #[E (K8 x.1),E (P9 x.2)]) O (λc a h=>Kb O) λgc=>H 8<|tl (L:=bl vg) (val:=λ(z:YZ)=> .slice z.1 (4+1+6+2*k+2) z.2) (Φ':=λ(z:YZ) v=>Y v w.heap.size 9 1 z.1 (4+1+6+2*k+2) z.2 (sv (p++ [K8 x.1,P9 x.2]))) (G:=λ(z:YZ) v=>Y v w.heap.size 9 1 z.1 (4+1+6+2*k+2) z.2 (sv (p++ [K8 x.1,P9 x.2]))) (Ln 53 53 (.slice vg (4+1+6+2*k) yc) (Kd 2 gc)) (λc a h=>LC (show Y c w.heap.size 9 1 vg (4+1+6+2*k) yc (sv p)from(by rw[B];exact h.1.1.1)) a.size h.2 (by have:=uW;omega)) (λc h=>λb F=>⟨((show Y c w.heap.size 9 1 vg (4+1+6+2*k) yc (sv p)from(by rw[B];exact h.1.1.1)).lt b F).1,((show Y c w.heap.size 9 1 vg (4+1+6+2*k) yc (sv p)from(by rw[B];exact h.1.1.1)).blk b F).2⟩) (λz wa wb e1 e2 h uX=>uX) O O λz=>M<|sS 76 Q J O<|sR (⟨(k+1,z.1,z.2),by show k+1<=P.stops.length;omega⟩) O zo zt (λu h=>(by show Y u w.heap.size 9 1 z.1 (4+1+6+2*(k+1)) z.2 (sv (L2++Yj (P.stops.take (k+1))));rw[uR,<-B,show 4+1+6+2*(k+1)=4+1+6+2*k+2 by omega];exact h))
end
end
section
--ATNAMES
theorem R7:∀(a b:WS),Nm (a++b)=Nm a+Nm b
 | [],b=>by simp[Nm]
 |x::a,b=>by
  have:=R7 a b;show x.length+Nm (a++b)=x.length+Nm a+Nm b;omega
theorem XM(k:Co):(P9 k).length=9:=by
 unfold P9;rw[AX,Qe];rfl
theorem RS:∀{l:List (Int×Co)} {a:Int},0<=a->Gq a l=true->Nm (Yj l)<=30*l.length
 | [],a,_,_=>by simp[Yj,Nm]
 |x::l,a,c,h=>by
  have h:(decide (a<=x.1/\x.1<=65536)&&Gq x.1 l)=true:=h;rw[AB,decide_eq_true_iff]at h;have b:=RS (show 0<=x.1 by omega) h.2;have e:=U6 (x:=x.1) J;have f:=XM x.2;show(K8 x.1).length+((P9 x.2).length+Nm (Yj l))<=_;rw[AX];omega
theorem VZ(l:List Co):(GG l).length=8*l.length:=by
 unfold GG;rw[Qe,Ff];omega
theorem Wl{l:WS}{frm k:Int}{m:Nat}(h:∀x∈l,x.length<=m):(Ks l frm k).length<=m:=by
 unfold Ks;cases a:l[(k-frm).toNat]? with
 |none=>exact AY _
 |some x=>exact h x (BM a)
theorem Bx{P:Pn}(l:Ld P=true):(Pz P).length<=60/\Nm (Pz P)<=8*P.im.px.length+1600:=by
 unfold Ld at l;rw[AB,AB]at l;obtain⟨o,vg,b⟩:=l;unfold Wz at b;obtain⟨G,c⟩:=UB o;have y:(Ks Lm 0 P.spread).length<=8:=Wl Zd;have A:(Ks Ng 1 P.samp).length<=8:=Wl Zd;unfold Pz
 by_cases e:P.kind=1
 .rw[YS e];have:=XM P.co;refine⟨by simp,?_⟩;show 5+((P9 P.co).length+0)<=_;omega
 by_cases k:P.kind=4
 .rw[V e,V J,V J,YS k,AB]at b;rw[V e,YS k];unfold Ay at b;rw[AB,AB]at b;have B:=YP b.1.1.1;have t:=U6 (x:=P.im.w) J;have j:=U6 (x:=P.im.h) J;have F:=VZ P.im.px;rw[R7,R7];refine⟨by rw[AI,AI,c];simp[E5],?_⟩;show 7+((Ks Lm 0 P.spread).length+((Ks Ng 1 P.samp).length+0))+Nm (Mn P.T)+((K8 P.im.w).length+((K8 P.im.h).length+((GG P.im.px).length+0)))<=_;omega
 rw[V e,V k]
 by_cases g:P.kind=2
 .rw[V e,YS g,AB,AB,AB,AB]at b;obtain⟨f,p,⟨a,_⟩,_⟩:=b;have m:=Qy f;have v:=Qy p;unfold Oq at a;rw[AB,decide_eq_true_iff]at a;have t:=RS (BW 0) a.2;have j:=Bt P.stops;have q1:=U6 (x:=P.p0x) J;have C:=U6 (x:=P.p0y) J;have u:=U6 (x:=P.p1x) J;have D:=U6 (x:=P.p1y) J;rw[YS g,R7,R7];refine⟨by rw[AI,AI,c,j];simp;omega,?_⟩;show 6+((K8 P.p0x).length+((K8 P.p0y).length+((K8 P.p1x).length+((K8 P.p1y).length+((Ks Lm 0 P.spread).length+0)))))+Nm (Mn P.T)+Nm (Yj P.stops)<=_;omega
 by_cases s:P.kind=3
 .rw[V e,V g,YS s,AB,AB,AB,AB,decide_eq_true_iff]at b;obtain⟨f,r,⟨a,_⟩,_⟩:=b;have m:=Qy f;unfold Oq at a;rw[AB,decide_eq_true_iff]at a;have t:=RS (BW 0) a.2;have j:=Bt P.stops;have q1:=U6 (x:=P.p0x) J;have C:=U6 (x:=P.p0y) J;have u:=U6 (x:=P.rad) J;rw[V g,R7,R7];refine⟨by rw[AI,AI,c,j];simp;omega,?_⟩;show 6+((K8 P.p0x).length+((K8 P.p0y).length+((K8 P.rad).length+((Ks Lm 0 P.spread).length+0))))+Nm (Mn P.T)+Nm (Yj P.stops)<=_;omega
 rw[V e,V g,V s,V k]at b;cases b
section
variable{w:YN}{P:Pn}{q:PM}{K:Nat}{l:R}
theorem kY(e:Ld P=false)(b:Hs P q K w)(g:2<=K/\K<=1000)(c:P.im.px.length<=1000000000):Zv 25 #[U2 P q] w (.tuple #[E [],I 16]):=sL func25 rfl<|M<|Z (λf a h=>IL e (b.below a) c J) λu=>ZI true<|ZW (.tuple #[E [],I 16])
theorem NA(b:Ld P=true)(e:Hs P q K w)(j:2<=K/\K<=1000)(g:P.im.px.length<=20000):Zv 25 #[U2 P q] w (.tuple #[E (M7 (Pz P)),I 0]):=by
 have k:=Bx b;exact sL func25 rfl<|M<|Z (λf a h=>IL b (e.below a) J J) λu=>ZI false<|Z (λf a h=>X6 (e.below a) b j g) λy=>Z (λf a h=>C5 (c:=y.2) h.2 J J) λv=>ZW (.tuple #[E (M7 (Pz P)),I 0])
end
end
section
section
variable{P:YK}{Δ:List YI}{W:YN}{Q:Exit->Act->YN->Prop}{Φ:YW}{c:Ob}
def RU(t:Nat)(v:AV)(c:Ob):Ob:=⟨c.foc,c.k,⟨c.st.tmps.set t v,c.st.box⟩⟩
def P5:List Nat->(Nat->AV)->Ob->Ob
 | [],_,c=>c
 |t::L,x,c=>RU t (x t) (P5 L x c)
theorem RQ{t:Nat}:RU t (c.st.tmps.getD t (.v undef)) c=c:=by
 obtain⟨a,k,⟨e,b⟩⟩:=c;simp only[RU];congr 2;refine List.ext_getElem? λj=> ?_
 rw[List.getElem?_set];split
 .rename_i h;subst h;split
  .rename_i h;rw[List.getD_eq_getElem?_getD,AD h];rfl
  .rename_i h;rw[List.getElem?_eq_none J]
 .rfl
theorem FM:∀L:List Nat,P5 L (λt=>c.st.tmps.getD t (.v undef)) c=c
 | []=>rfl
 |t::L=>by rw[P5,FM L];exact RQ
theorem tb(L:List Nat)(h:∀x,K0 P Δ W Q Φ (P5 L x c)):K0 P Δ W Q Φ c:=by
 have:=h λt=>c.st.tmps.getD t (.v undef)
 rwa [FM]at this
theorem sT(h:P.follows .mixedOrders=true)(stop n t:Nat)(L:List Nat)(a:Nat){b:Bool}(g v2 B:Bool)(o:c.st.tmps[t]? =some (.v (.bool b)))
 (j:(M1 P stop n (Ma t Zt c)).st.tmps[a]? =some (.v (.bool g))) (l:(M1 P stop n (Ma t Zf c)).st.tmps[a]? =some (.v (.bool v2)))
 (m:∀x,P5 (t::L) x (Ma a (.bool B) (M1 P stop n (Ma t Zf c)))=P5 (t::L) x (Ma a (.bool B) (M1 P stop n (Ma t Zt c))))
 (e:(if b then g else v2)=B) (k:∀x,K0 P Δ W Q Φ (P5 (t::L) x (Ma a (.bool B) (M1 P stop n (Ma t Zt c))))):K0 P Δ W Q Φ c:=by
 refine tY t b o (λf=> ?_) (λf=> ?_)
 .subst f;exact s0 h (stop:=stop) n _<|sM a (.bool g) (.bool B) j (by rw[<-e];rfl) (tb (t::L) k)
 .subst f;exact s0 h (stop:=stop) n _<|sM a (.bool v2) (.bool B) l (by rw[<-e];rfl) (tb (t::L) λx=>by rw[m x];exact k x)
theorem tj(l:P.follows .mixedOrders=true)(a:Bool)(stop n n2 t:Nat)(L:List Nat)(f:Nat){b:Bool}(vs v v2 B:Bool){g:YE}{args:Array YM}(o:c.st.tmps[t]? =some (.v (.bool b)))
 (A:∀w,Below W.heap.size W w->Φ w->YG P g args w (K6 w (λ_:Unit=> .bool v) λ_ _=>True))
 (s:M8 P (M1 P stop n (Ma t (.bool a) c))=some (g,args))
 (C:(M1 P stop n (Ma t (.bool (!a)) c)).st.tmps[f]? =some (.v (.bool vs)))
 (r:(M1 P stop n2 (Lf (.v (.bool v)) (M1 P stop n (Ma t (.bool a) c)))).st.tmps[f]? =some (.v (.bool v2)))
 (y:∀x,P5 (t::L) x (Ma f (.bool B) (M1 P stop n2 (Lf (.v (.bool v)) (M1 P stop n (Ma t (.bool a) c)))))=P5 (t::L) x (Ma f (.bool B) (M1 P stop n (Ma t (.bool (!a)) c))))
 (e:(if b=a then v2 else vs)=B) (k:∀(x:Nat->AV) (Φ':YW),(∀w,Φ' w->Φ w)->K0 P Δ W Q Φ' (P5 (t::L) x (Ma f (.bool B) (M1 P stop n (Ma t (.bool (!a)) c))))):K0 P Δ W Q Φ c:=by
 have j:b=a->K0 P Δ W Q Φ (Ma t (.bool a) c):=λm=>by
  refine s0 l (stop:=stop) n _<|tf A s λu=>s0 l (stop:=stop) n2 _<|sM f (.bool v2) (.bool B) r (by rw[<-e,YS m]) (tb (t::L) λx=> ?_)
  rw[y x];exact k x _ λw h=>h.1
 have p:b=(!a)->K0 P Δ W Q Φ (Ma t (.bool (!a)) c):=λm=>by
  exact s0 l (stop:=stop) n _<|sM f (.bool vs) (.bool B) C (by rw[<-e,V (by rw[m];cases a<;>decide)]) (tb (t::L) λx=>k x _ λw h=>h)
 cases a
 .exact tY t b o p j
 .exact tY t b o j p
theorem M3{a b:Bool}:(if a then b else false)=(a&&b):=by cases a<;>rfl
theorem Ov{a b:Bool}:(if a then true else b)=(a||b):=by cases a<;>rfl
theorem Q4{a b:Bool}:(if a=true then b else false)=(a&&b):=by cases a<;>rfl
theorem JH{a b:Bool}:(if a=false then b else true)=(a||b):=by cases a<;>rfl
theorem tU{ι:Type}(f:ι->Ob->Ob)(h:(∀i,K0 P Δ W Q Φ (f i c))->K0 P Δ W Q Φ c)(k:∀i,K0 P Δ W Q Φ (f i c)):K0 P Δ W Q Φ c:=h k
theorem t_{ι:Type}(f:ι->Ob->Ob)(h:(∀i Φ',(∀w,Φ' w->Φ w)->K0 P Δ W Q Φ' (f i c))->K0 P Δ W Q Φ c)(k:∀i Φ',(∀w,Φ' w->Φ w)->K0 P Δ W Q Φ' (f i c)):K0 P Δ W Q Φ c:=h k
theorem tM{ι:Type}(f:ι->Ob->Ob)(Ψ:ι->YN->Prop)(h:(∀i,K0 P Δ W Q (Ψ i) (f i c))->K0 P Δ W Q Φ c)(k:∀i,K0 P Δ W Q (Ψ i) (f i c)):K0 P Δ W Q Φ c:=h k
theorem Re.imp2{β:Nat->Nat}{σ:AS}{a:Act}{w:YN}{Φ':YW}(b:Re Δ W β σ Φ a w)(h:∀w,Φ w->Φ' w):Re Δ W β σ Φ' a w:=⟨b.tmps,b.defers,b.bel,b.box,b.inj,λe f=>h e (b.keep e f)⟩
theorem tA{Φ':YW}(m:aC c=true)(k:∀w,Φ w->Φ' w)(h:K0 P Δ W Q Φ' c):K0 P Δ W Q Φ c:=by
 obtain⟨j,p,σ⟩:=c;replace h:=h.get;refine⟨?_⟩;cases j with
 |code x=>exact λb β a w g=>h b β a w (g.imp2 k)
 |ops o l=>exact λb β a w g=>h b β a w (g.imp2 k)
 |any o f l=>cases m
 |out e=>exact λb β a w g=>h b β a w (g.imp2 k)
theorem tm{c':Ob}(h:K0 P Δ W Q Φ c')(e:c=c'):K0 P Δ W Q Φ c:=e▸h
end
open Go.MapKept in
def FA(w:YN)(g:Nat)(l:List Int):Prop:=∃b a,w.heap[g]? =some (.map b a)/\b.toList.map (λe=>(e.key,e.val))=l.map (λi=>(CE .i64 i,Value.bool true))
def rX(t:YH)(m k v:YM):Sem Next:=Instr.mapUpdate t m k v >>= λ_=>(pure .skip:Sem Next)
section
variable{P:YK}{w:YN}{t kt et:YH}{g:Nat}{l:List Int}{x:Int}
theorem E8{x:Int}:∀{c:List MapEntry} {l:List Int} {i:Nat},c.map (λe=>(e.key,e.val))=l.map (λi=>(CE .i64 i,Value.bool true))->
 ∃a,Instr.findNow (.int .i64) (I x) c i=some a/\((a=none/\x∉l)\/(∃j,a=some (j,.bool true))/\x∈l)
 | [],[],i,h=>⟨none,rfl,.inl ⟨rfl,by simp⟩⟩
 | [],_::_,i,h=>by simp at h
 |_::_,[],i,h=>by simp at h
 | e::c,y::l,i,h=>by
  simp only[List.map_cons,List.cons.injEq,AP]at h;obtain⟨⟨m,r⟩,h⟩:=h
  by_cases b:x=y
  .subst b;exact⟨some (i,.bool true),by simp[Instr.findNow,Instr.sameNow,m,r],.inr ⟨⟨i,rfl⟩,by simp⟩⟩
  .obtain⟨a,p,o⟩:=E8 (x:=x) (i:=i+1) h;refine⟨a,by simp only[Instr.findNow,Instr.sameNow,m,if_true,YR.2 b,p],?_⟩;rcases o with ⟨f,k⟩|⟨f,k⟩
   .exact .inl ⟨f,by simp[b,k]⟩
   .exact .inr ⟨f,by simp[k]⟩
open Go.MapKept in
theorem bn(o:P.underlying t=some (.map kt et))(c:P.underlying kt=some (.int .i64))(s:(zeroValue et).run P w= .ok Zf w)(h:FA w g l):
 (Instr.lookup t (.map (some g)) (I x) false).run P w= .ok (.bool (decide (x∈l))) w:=by
 obtain⟨r,e,m,u⟩:=h;obtain⟨a,k,p⟩:=E8 (x:=x) (i:=0) u;have b:(Instr.checkKey r.isEmpty 10000 kt (I x)).run P w= .ok () w:=by
  exact MapKept.run_checkKey c (by simp[MapKept.IsKey]) _ _
 rcases p with ⟨rfl,f⟩|⟨⟨j,rfl⟩,f⟩
 .simp[Instr.lookup,run_underlying o,MapKept.run_getObj_map m,b,run_findKey c k,s,BC,f]
 .simp[Instr.lookup,run_underlying o,MapKept.run_getObj_map m,b,run_findKey c k,BC,f]
open Go.MapKept in
theorem ZK(y:P.underlying t=some (.map kt et))(r:P.underlying kt=some (.int .i64))(h:FA w g l)(B:x∉l):
 ∃f,(rX t (.map (some g)) (I x) Zt).run P w= .ok .skip f/\SM [g] w f/\∀e,f.heap.size<=e.heap.size->(∀b∈[g],e.heap[b]? =f.heap[b]?)->FA e g (l++ [x]):=by
 obtain⟨o,c,j,p⟩:=h;obtain⟨a,A,v⟩:=E8 (x:=x) (i:=0) p;rcases v with ⟨rfl,_⟩|⟨_,h⟩
 case inr=>exact absurd h B
 have m:(Instr.checkKey false 10000 kt (I x)).run P w= .ok () w:=by
  exact MapKept.run_checkKey r (by simp[MapKept.IsKey]) _ _
 refine⟨{w with heap:=w.heap.setIfInBounds g (.map (o.push ⟨I x,.bool true,c⟩) (c+1))},by simp only[rX,Instr.mapUpdate,AE,run_underlying y,MapKept.run_getObj_map j,m,run_findKey r A,run_setObj_map _ j,AC,AU],⟨rfl,rfl,rfl,Nat.le_of_eq Zs,λk _ u=>(heap_set j).2 k (by simpa using u)⟩,λe _ s=>⟨o.push ⟨I x,.bool true,c⟩,c+1,?_,by simp[p]⟩⟩;rw[s g Zs];exact(heap_set j).1
end
section
variable{Δ:List YI}{W:YN}{Φ Φ':YW}
def pE(W:YN)(g:Nat)(Φ:YW):Prop:=∀w,Φ w->W.heap.size<=g/\∃b a,w.heap[g]? =some (.map b a)
theorem Re.mutM{β:Nat->Nat}{σ:AS}{a:Act}{w t:YN}{g:Nat}{G:YW}(f:Re Δ W β σ Φ a w)(C:pE W g Φ)(h:SM [g] w t)
 (F:∀c,t.heap.size<=c.heap.size->(∀b∈[g],c.heap[b]? =t.heap[b]?)->G c) (v:Hw [g] Φ G Φ'):Re Δ W β σ Φ' a t:=by
 obtain⟨vg,B,l,m⟩:=C w f.phi;have s:g<w.heap.size:=(AH.1 m).1;have A:∀k,(σ.box k).isSome=true->β k≠g:=λk j e=>by
  obtain⟨cs,u⟩:=Option.isSome_iff_exists.1 j;obtain⟨_,ty,y⟩:=f.box k cs u;rw[e,m]at y;cases y
 refine⟨f.tmps,f.defers,⟨h.os.trans f.bel.os,h.tape.trans f.bel.tape,h.output.trans f.bel.output,AW f.bel.size h.size,λk j=> ?_⟩,λk cs j=> ?_,f.inj,λc r=> ?_⟩
 .rw[h.block k (BH j f.bel.size) Zp];exact f.bel.block k j
 .have uS:(σ.box k).isSome=true:=by rw[j];rfl
  obtain⟨x,ty,p⟩:=f.box k cs j;exact⟨x,ty,by rw[h.block _ (AH.1 p).1 (by simpa using A k uS)];exact p⟩
 .refine v {c with heap:=c.heap.setIfInBounds g (.map B l)} c Zs (λb o=> ?_) (f.keep _ ⟨?_,λb x p D=> ?_⟩) (F c r.size λb o=> ?_)
  .exact BF (by simpa[eq_comm]using o)
  .simp only[Array.size_setIfInBounds];exact AW h.size r.size
  .by_cases o:g=b
   .subst o;simp only[];rw[AN (BH s (AW h.size r.size))];exact m.symm
   .simp only[];rw[BF o,r.heap b x (BH p h.size) D,h.block b p (by simpa[eq_comm]using o)]
  .obtain rfl:b=g:=by simpa using o
   exact r.heap b vg (BH s h.size) λk j=>A k j
end
section
variable{P:YK}{Δ:List YI}{W:YN}{Q:Exit->Act->YN->Prop}{Φ Φ':YW}{c:Ob}
theorem uN{g:Nat}{G:YW}(s:Sem Next)
 (N:∀w,Below W.heap.size W w->Φ w->∃t,s.run P w= .ok .skip t/\SM [g] w t/\∀r,t.heap.size<=r.heap.size->(∀b∈[g],r.heap[b]? =t.heap[b]?)->G r) (uY:pE W g Φ) (F:Hw [g] Φ G Φ')
 (K:Rt c=true) (f:Vy c=some s) (h:K0 P Δ W Q Φ' (Lf (.v undef) c)):K0 P Δ W Q Φ c:=by
 obtain⟨S,k,σ⟩:=c;replace h:=h.get;refine⟨?_⟩;replace f:=(Rc f).1;unfold Ue at f;split at f
 .rename_i vf o j;split at f
  .cases f
  .cases f
  .rename_i D ve;split at f
   .rename_i vg;simp only[AB]at vg;injection f with f;subst f;unfold P1 at j;simp only at j;split at j
    .rename_i p i l;cases m:p[i]? with
     |none=>rw[m]at j;cases j
     | some uS=>
      rw[m]at j;simp only[BJ,AR,AP]at j;obtain⟨rfl,rfl⟩:=j;intro C β a w A;show wpOps P p (post P Q k) (i::l) a w;rw[wpOps_cons];unfold wpOp;simp only[m,Mw A,vg.1,if_true];refine .inl ?_;have y:∀x∈uS.op.operands,a.eval x=σ.rho x:=λx uZ=>by
       rw[A.eval,tp];· rfl
       exact BD.1 vg.2 x (by simpa using uZ)
      obtain⟨t,u,B,uR⟩:=N w A.bel A.phi;unfold Oper.wp;rw[execOp_congr uS (λcs b e=>D cs b e) y,u];simp only[Vt,Lf,m,AA]at h;exact h (C.put _ (by intro k L;simp[AV.ids]at L)) β _ t ((A.mutM uY B uR F).put uS.dst (.v undef))
    .cases K
    .cases j
   .cases f
 .cases f
end
end
section
open Go.Extern.Stop Go.Stop Go.Extern
section
variable{w:YN}
theorem Zl{t:YM}:Zv 167 #[.nilIface,t] w Zf:=sL func167 rfl<|M<|ZI true<|ZW Zf
abbrev EO(t:Nat):YM:=Zq 4 t
abbrev kX(t:Nat):YM:= .agg #[EO t]
theorem rA(t:YB):(ReflectliteValue.unpack (.iface 220 (.pointer (some t)))).run XW w= .ok (.agg #[EO 220,Zq w.heap.size 0,.int .u64 150]) (w.alloc (.cells #[.pointer (some t)] 220)):=O
theorem qs(a:YB):(ReflectliteValue.methodAny (ReflectliteValue.valueError "reflectlite.Value.Type" 0) (λt _ _ _=>ReflectliteType.toType t) #[.agg #[EO 220,.pointer (some a),.int .u64 150]]).run XW w= .ok (.iface 314 (kX 220)) w:=O
theorem qP:((ReflectliteType.abiMethod λt=>Functor.map (λa:Nat=>CE XX (a:Int)) (Rtype.kind t)) #[EO 220]).run XW w= .ok (.int .u8 22) w:=O
theorem qq:((ReflectliteType.abiMethod λt=>Functor.map (λa:Nat=>CE XX (a:Int)) (Rtype.kind t)) #[EO 218]).run XW w= .ok (.int .u8 25) w:=O
theorem qM:(ReflectliteType.method ReflectliteType.elem #[kX 220]).run XW w= .ok (.iface 314 (kX 218)) w:=O
theorem qW:(ReflectliteType.relation "Implements" ReflectliteType.implements_ #[kX 218,.iface 314 (kX 118)]).run XW w= .ok Zt w:=O
theorem q8(v:YM):(ReflectliteType.typeOf #[.iface 218 v]).run XW w= .ok (.iface 314 (kX 218)) w:=O
theorem q7:(ReflectliteType.relation "AssignableTo" ReflectliteType.assignableTo #[kX 218,.iface 314 (kX 218)]).run XW w= .ok Zt w:=O
theorem sE(z:Sem YM)(f:YH->YB->Nat->Nat->Sem YM)(v:YM):
 ReflectliteValue.method z f #[v]=(do match<-ReflectliteValue.parts v with|none=>z|some (t,a,fl)=>f t a fl (fl%32)):=rfl
theorem nE(a:YB):(ReflectliteValue.parts (.agg #[EO 220,.pointer (some a),.int .u64 150])).run XW w= .ok (some (220,a,150)) w:=O
theorem qG(a p:YB)(c:w.cell? a=some (.pointer (some p))):
 (ReflectliteValue.method (ReflectliteValue.valueError "reflectlite.Value.IsNil" 0) ReflectliteValue.isNil #[.agg #[EO 220,.pointer (some a),.int .u64 150]]).run XW w= .ok Zf w:=by
 have b:XW.underlying 220=some (.pointer 218):=O
 rw[sE];simp only[AE,nE,BC];simp[ReflectliteValue.isNil,loadVar,isAgg,underlying,b,c,BC]
theorem qf:(Rtype.elem? 220).run XW w= .ok (some 218) w:=O
theorem p_(p:YB):(ReflectliteValue.mk 218 p ReflectliteValue.flagAddr).run XW w= .ok (.agg #[EO 218,.pointer (some p),.int .u64 409]) w:=O
theorem rj(a p:YB)(c:w.cell? a=some (.pointer (some p))):
 (ReflectliteValue.method (ReflectliteValue.valueError "reflectlite.Value.Elem" 0) ReflectliteValue.elem #[.agg #[EO 220,.pointer (some a),.int .u64 150]]).run XW w= .ok (.agg #[EO 218,.pointer (some p),.int .u64 409]) w:=by
 have b:XW.underlying 220=some (.pointer 218):=O
 rw[sE];simp only[AE,nE,BC];simp[ReflectliteValue.elem,loadVar,isAgg,underlying,b,c,BC,qf,p_]
theorem rf(cs:Array YM):(ReflectliteValue.unpack (.iface 218 (.agg cs))).run XW w= .ok (.agg #[EO 218,Zq w.heap.size 0,.int .u64 153]) (w.alloc (.cells cs 218)):=O
theorem sI(v x:YM):ReflectliteValue.set #[v,x]=(do
 let(some (dst,a,fl),some (src,b,_)):=(<-ReflectliteValue.parts v,<-ReflectliteValue.parts x)
  |unsupported (.noEntry "extern/(internal/reflectlite.Value).Set.zeroValue")
 if fl/ReflectliteValue.flagAddr%2==0 then unsupported (.noEntry "extern/(internal/reflectlite.Value).Set.unaddressable")
 let val<-loadVar src b
 if<-Rtype.directlyAssignable dst src then storeVar dst a val
 else if<-Rtype.implements dst src then
  if (<-Rtype.kind src)==20 then
   match val with
   | .nilIface=>unsupported (.noEntry "extern/reflectlite: a nil value of one interface type handed on as a value of another")
   |_=>storeVar dst a val
  else storeVar dst a (.iface src val)
 else panicString ("reflectlite.Set: value of type " ++(<-Rtype.spelt src)++ " is not assignable to type " ++(<-Rtype.spelt dst))
 pure (.tuple #[])):=rfl
theorem pM(a:YB):(ReflectliteValue.parts (.agg #[EO 218,.pointer (some a),.int .u64 409])).run XW w= .ok (some (218,a,409)) w:=O
theorem q6(a:YB):(ReflectliteValue.parts (.agg #[EO 218,.pointer (some a),.int .u64 153])).run XW w= .ok (some (218,a,153)) w:=O
theorem qX:(Rtype.directlyAssignable 218 218).run XW w= .ok true w:=O
theorem rg{ta b:Nat}{cs:List YM}{c u:YM}(l:w.rangeAt b 0 [c,u])(m:K7 w ta cs)(p:cs.length=2)(o:c.oneCell'=true/\u.oneCell'=true):
 (ReflectliteValue.set #[.agg #[EO 218,Zq ta 0,.int .u64 409],.agg #[EO 218,Zq b 0,.int .u64 153]]).run XW w= .ok (.tuple #[]) (w.setRow ta #[c,u]):=by
 have f:Tg XW 218=some true:=O
 have j:Ot XW 218=some 2:=O
 have g:(loadVar 218 ⟨b,0,none⟩).run XW w= .ok (.agg #[c,u]) w:=by
  unfold Tg at f;split at f
  .rename_i k;exact run_loadVar_mid w b 0 _ [c,u] _ l k rfl j
  .rename_i k;exact run_loadVar_mid w b 0 _ [c,u] _ l k rfl j
  .cases f
  .cases f
 obtain⟨ty,h⟩:=m;have a:=run_storeCells_at XW ta 0 ty [c,u] 0 cs.toArray w h Zp (by simp;exact o);have e:((cs.toArray.toList.take (0+0)++ [c,u]++cs.toArray.toList.drop (0+0+ [c,u].length)).toArray)= #[c,u]:=by
  simp[p]
 rw[e]at a;rw[sI];simp only[AE,pM,q6,AC];simp[ReflectliteValue.flagAddr,g,BC,qX,storeVar,M0 j,Value.cells,a]
theorem ir{g:Nat}{cs:List YM}(h:K7 w g cs):g<w.heap.size:=by obtain⟨t,h⟩:=h;exact(AH.1 h).1
theorem eJ(w:YN)(o:Obj):(w.alloc o).heap[w.heap.size]? =some o:=by show(w.heap.push _)[w.heap.size]? =_;simp
theorem Q0(w:YN)(o:Obj)(b:Nat)(h:b<w.heap.size):(w.alloc o).heap[b]? =w.heap[b]? :=by show(w.heap.push _)[b]? =_;rw[Array.getElem?_push,V J]
def ET(w:YN):Prop:=w.cell? ⟨0,0,none⟩=some (.iface 314 (kX 118))
theorem oJ{ta:Nat}{cs:List YM}{c u:YM}(e:ET w)(f:K7 w ta cs)(r:cs.length=2)(o:c.oneCell'=true/\u.oneCell'=true):
 YG XW 167 #[.iface 218 (.agg #[c,u]),.iface 220 (Zq ta 0)] w λp m=>p= .returned Zt/\m=((((w.alloc (.cells #[Zq ta 0] 220)).alloc (.cells #[EO 220,Zq w.heap.size 0,.int .u64 150] 275)).alloc (.cells #[EO 220,Zq w.heap.size 0,.int .u64 150] 275)).alloc (.cells #[c,u] 218)).setRow ta #[c,u]:=by
 have uZ:= @run_callFunc_extern XW 233 _ (λargs=>ReflectliteValue.unpack (args.getD 0 (.tuple #[]))) func233 O O O O;have v:= @run_callFunc_extern XW 234 _ (ReflectliteValue.methodAny (ReflectliteValue.valueError "reflectlite.Value.Type" 0) (λt _ _ _=>ReflectliteType.toType t)) func234 O O O O;have x:= @run_callFunc_extern XW 235 _ (ReflectliteValue.method (ReflectliteValue.valueError "reflectlite.Value.IsNil" 0) ReflectliteValue.isNil) func235 O O O O;have C:= @run_callFunc_extern XW 382 _ (ReflectliteType.abiMethod λt=>do pure (.int .u8 (<-Rtype.kind t))) func382 O O O O;have ve:= @run_callFunc_extern XW 394 _ (ReflectliteType.method ReflectliteType.elem) func394 O O O O;have s:= @run_callFunc_extern XW 395 _ (ReflectliteType.relation "Implements" ReflectliteType.implements_) func395 O O O O;have B:= @run_callFunc_extern XW 284 _ ReflectliteType.typeOf func284 O O O O;have P:= @run_callFunc_extern XW 392 _ (ReflectliteType.relation "AssignableTo" ReflectliteType.assignableTo) func392 O O O O;have vf:= @run_callFunc_extern XW 285 _ (ReflectliteValue.method (ReflectliteValue.valueError "reflectlite.Value.Elem" 0) ReflectliteValue.elem) func285 O O O O;have uS:= @run_callFunc_extern XW 286 _ ReflectliteValue.set func286 O O O O;have T:= @rA;have y:= @qs;have Q:= @qP;have g:= @qq;have G:= @qM;have F:= @qW;have K:= @q8;have uR:= @q7;have N:= @rf;have uY:∀(h:YM) (w:YN),(Go.method 489 314 (.agg #[h]) "Kind").run XW w= .ok (382,h) w:=λh w=>by kernel_rfl
 have vg:∀(h:YM) (w:YN),(Go.method 489 314 (.agg #[h]) "Elem").run XW w= .ok (394,.agg #[h]) w:=λh w=>by kernel_rfl
 have D:∀(h:YM) (w:YN),(Go.method 489 314 (.agg #[h]) "Implements").run XW w= .ok (395,.agg #[h]) w:=λh w=>by kernel_rfl
 have S:∀(h:YM) (w:YN),(Go.method 489 314 (.agg #[h]) "AssignableTo").run XW w= .ok (392,.agg #[h]) w:=λh w=>by kernel_rfl
 have a:ta<w.heap.size:=ir f;have j:0<w.heap.size:=by
  rcases Nat.eq_zero_or_pos w.heap.size with l|h
  .simp[ET,World.cell?,l]at e
  .exact h
 have L:=qG (w:=(w.alloc (.cells #[Zq ta 0] 220)).alloc (.cells #[EO 220,Zq w.heap.size 0,.int .u64 150] 275)) ⟨w.heap.size,0,none⟩ ⟨ta,0,none⟩ Zs;have k:((w.alloc (.cells #[Zq ta 0] 220)).alloc (.cells #[EO 220,Zq w.heap.size 0,.int .u64 150] 275)).cell? ⟨0,0,none⟩=some (.iface 314 (kX 118)):=by
  rw[BP _ _ ⟨0,0,none⟩ Zs,BP _ _ ⟨0,0,none⟩ j];exact e
 have A:=rj (w:=((w.alloc (.cells #[Zq ta 0] 220)).alloc (.cells #[EO 220,Zq w.heap.size 0,.int .u64 150] 275)).alloc (.cells #[EO 220,Zq w.heap.size 0,.int .u64 150] 275)) ⟨w.heap.size,0,none⟩ ⟨ta,0,none⟩ (by rw[BP _ _ ⟨w.heap.size,0,none⟩ Zp];simp);have st:=rg (w:=(((w.alloc (.cells #[Zq ta 0] 220)).alloc (.cells #[EO 220,Zq w.heap.size 0,.int .u64 150] 275)).alloc (.cells #[EO 220,Zq w.heap.size 0,.int .u64 150] 275)).alloc (.cells #[c,u] 218)) (ta:=ta) (b:=w.heap.size+1+1+1) (cs:=cs) (c:=c) (u:=u)
  (K7.range ⟨218,by rw[show w.heap.size+1+1+1=(((w.alloc (.cells #[Zq ta 0] 220)).alloc (.cells #[EO 220,Zq w.heap.size 0,.int .u64 150] 275)).alloc (.cells #[EO 220,Zq w.heap.size 0,.int .u64 150] 275)).heap.size by simp];exact eJ _ _⟩)
  (by obtain⟨ty,h⟩:=f;exact⟨ty,by rw[Q0 _ _ _ Zp,Q0 _ _ _ Zp,Q0 _ _ _ Zp,Q0 _ _ _ a];exact h⟩) r o
 go_enter func167,ntmps167;go_wp2;refine wp_loop_rounds 1 ?_;rw[rounds_succ];go_wp2;go_ret;exact⟨rfl,rfl⟩
theorem bF{ta:Nat}{cs:List YM}{c u:YM}(p:ET w)(b:K7 w ta cs)(s:cs.length=2)(r:c.oneCell'=true/\u.oneCell'=true):
 YG XW 167 #[.iface 218 (.agg #[c,u]),.iface 220 (Zq ta 0)] w (Ni w [ta] (λ_:Unit=> .bool true) λ_ v=>K7 v ta [c,u]):=
 (oJ p b s r).mono λe x ⟨g,j⟩=>by
  subst j;have a:=ir b;refine⟨(),g,⟨rfl,rfl,rfl,by rw[Qt];simp;omega,λk m l=> ?_⟩,λo t f=> ?_⟩
  .rw[Q2 _ _ _ _ (by simpa using l),Q0 _ _ _ Zp,Q0 _ _ _ Zp,Q0 _ _ _ Zp,Q0 _ _ _ m]
  .obtain⟨ty,h⟩:=b;refine⟨ty,?_⟩;rw[f ta (.inl Zs)];simp only[CM,BY,if_true];rw[Q0 _ _ _ Zp,Q0 _ _ _ Zp,Q0 _ _ _ Zp,Q0 _ _ _ a,h]
   rfl
end
end
end Go.Proofs.YtnmokookhcgklaaGreatDoor
