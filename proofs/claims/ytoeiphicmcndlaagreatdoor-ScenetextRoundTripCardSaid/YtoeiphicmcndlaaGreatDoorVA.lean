/-
 Words and lines.
-/
import Derived.Shelf.Strings.BuilderK
import Derived.Test.YtoeiphicmcndlaaGreatDoorProg
import Derived.KernelRfl
import Derived.Test.YtoeiphicmcndlaaGreatDoorAUQ
import Derived.OpenShut
import Derived.Lib.SmallJoins
import Derived.ChangeSlices
import Derived.Deep.Slices
import Derived.Test.YtoeiphicmcndlaaGreatDoorASh
namespace Go.Proofs.YtoeiphicmcndlaaGreatDoor
set_option maxRecDepth 100000
set_option maxHeartbeats 8000000
set_option linter.unusedVariables false
set_option linter.unusedSimpArgs false
open Go.RowKit
section
open Go.Shelf
def Tryz.layB_ren:Go.Shelf.Ren:=⟨fun|240=>70|167=>58|166=>39|276=>120|n=>n,fun|0=>0|3=>3|4=>4|5=>5|9=>9|20=>20|37=>86|70=>93|72=>95|75=>97|80=>100|164=>187|n=>n,fun|n=>n⟩
theorem Tryz.layB167:Go.Proofs.Lays.n167 Tryz.prog Tryz.layB_ren:={
 mixed:=by kernel_rfl
 f167:=Tryz.func58.trans (congrArg some Zk)
 f240:=Tryz.func70.trans (congrArg some Zk)
 f276:=Tryz.func120.trans (congrArg some Zk)
 t0:=Tryz.underlying0
 a0:=Tryz.isAgg0
 z0:=Tryz.sizeOf0
 v0:=Tryz.zeroValue0
 t4:=Tryz.underlying4
 a4:=Tryz.isAgg4
 z4:=Tryz.sizeOf4
 v4:=Tryz.zeroValue4
 t5:=Tryz.underlying5
 a5:=Tryz.isAgg5
 z5:=Tryz.sizeOf5
 v5:=Tryz.zeroValue5
 t9:=Tryz.underlying9
 a9:=Tryz.isAgg9
 z9:=Tryz.sizeOf9
 v9:=Tryz.zeroValue9
 t20:=Tryz.underlying20
 a20:=Tryz.isAgg20
 z20:=Tryz.sizeOf20
 v20:=Tryz.zeroValue20
 t37:=Tryz.underlying86
 a37:=Tryz.isAgg86
 z37:=Tryz.sizeOf86
 v37:=Tryz.zeroValue86
 t70:=Tryz.underlying93
 a70:=Tryz.isAgg93
 z70:=Tryz.sizeOf93
 v70:=Tryz.zeroValue93
 t72:=Tryz.underlying95
 a72:=Tryz.isAgg95
 z72:=Tryz.sizeOf95
 v72:=Tryz.zeroValue95
 t75:=Tryz.underlying97
 a75:=Tryz.isAgg97
 z75:=Tryz.sizeOf97
 v75:=Tryz.zeroValue97
 t164:=Tryz.underlying187
 a164:=Tryz.isAgg187
 z164:=Tryz.sizeOf187
 v164:=Tryz.zeroValue187}
theorem Tryz.layB166:Go.Proofs.Lays.n166 Tryz.prog Tryz.layB_ren:={
 mixed:=by kernel_rfl
 f166:=Tryz.func39.trans (congrArg some Zk)
 f240:=Tryz.func70.trans (congrArg some Zk)
 f276:=Tryz.func120.trans (congrArg some Zk)
 t0:=Tryz.underlying0
 a0:=Tryz.isAgg0
 z0:=Tryz.sizeOf0
 v0:=Tryz.zeroValue0
 t3:=Tryz.underlying3
 a3:=Tryz.isAgg3
 z3:=Tryz.sizeOf3
 v3:=Tryz.zeroValue3
 t4:=Tryz.underlying4
 a4:=Tryz.isAgg4
 z4:=Tryz.sizeOf4
 v4:=Tryz.zeroValue4
 t9:=Tryz.underlying9
 a9:=Tryz.isAgg9
 z9:=Tryz.sizeOf9
 v9:=Tryz.zeroValue9
 t20:=Tryz.underlying20
 a20:=Tryz.isAgg20
 z20:=Tryz.sizeOf20
 v20:=Tryz.zeroValue20
 t37:=Tryz.underlying86
 a37:=Tryz.isAgg86
 z37:=Tryz.sizeOf86
 v37:=Tryz.zeroValue86
 t70:=Tryz.underlying93
 a70:=Tryz.isAgg93
 z70:=Tryz.sizeOf93
 v70:=Tryz.zeroValue93
 t72:=Tryz.underlying95
 a72:=Tryz.isAgg95
 z72:=Tryz.sizeOf95
 v72:=Tryz.zeroValue95
 t75:=Tryz.underlying97
 a75:=Tryz.isAgg97
 z75:=Tryz.sizeOf97
 v75:=Tryz.zeroValue97
 t164:=Tryz.underlying187
 a164:=Tryz.isAgg187
 z164:=Tryz.sizeOf187
 v164:=Tryz.zeroValue187}
theorem Tryz.layBX:Builder.Extra Tryz.prog Tryz.layB_ren:={
 sizeBuilder:=by kernel_rfl
 liesBuilder:=by kernel_rfl
 t5:=Tryz.underlying5
 a5:=Tryz.isAgg5
 z5:=Tryz.sizeOf5
 v5:=Tryz.zeroValue5
 infoByte:=by kernel_rfl
 cellsByte:=by kernel_rfl
 sizeByte:=by kernel_rfl
 neB5:=by decide}
end
def Mf(c:UInt8):Bool:=(decide (97≤c.toNat)&&decide (c.toNat≤122))||(decide (65≤c.toNat)&&decide (c.toNat≤90))||(decide (48≤c.toNat)&&decide (c.toNat≤57))|| [46,95,58,47,43,45,44,61,35].contains c.toNat
def q1(c:UInt8):List UInt8:=if Mf c then [c]else 42::J1 c
def P0(l:List UInt8):List UInt8:=if l=[]then [42]else l.flatMap q1
def unqS:List UInt8→Option (List UInt8)
 | []=>some []
 |c::l=>if Mf c then(unqS l).map (c::·)else if c=42 then(match l with
  |a::b::r=>if M1 a<0∨M1 b<0∨Mf (Nh a b)=true then none else(unqS r).map (Nh a b::·)
  |_=>none)else none
termination_by l=>l.length
def Z1(w:List UInt8):Option (List UInt8):=if w=[42]then some []else match unqS w with
 |some b=>if b=[]then none else some b
 |none=>none
theorem q1_plain{c:UInt8}(h:Mf c=true):q1 c=[c]:=if_pos h
theorem q1_not{c:UInt8}(h:Mf c=false):q1 c=42::J1 c:=if_neg (by rw[h];decide)
theorem plain_mark:Mf 42=false:=by decide+kernel
theorem hex_lt(b:UInt8):b.toNat/16<16∧b.toNat%16<16:=by have:=b.toNat_lt;omega
theorem Dv{c:UInt8}{l:List UInt8}(h:Mf c=true):unqS (c::l)=(unqS l).map (c::·):=by rw[unqS.eq_def];exact if_pos h
theorem Gf{a b:UInt8}{r:List UInt8}:unqS (42::a::b::r)=if M1 a<0∨M1 b<0∨Mf (Nh a b)=true then none else(unqS r).map (Nh a b::·):=by
 rw[unqS.eq_def]
 show(if Mf 42=true then _ else if (42:UInt8)=42 then _ else _)=_
 rw[if_neg (by rw[plain_mark];decide),if_pos rfl]
theorem Z0{l:List UInt8}(h:l.length<2):unqS (42::l)=none:=by
 rw[unqS.eq_def]
 show(if Mf 42=true then _ else if (42:UInt8)=42 then _ else _)=_
 rw[if_neg (by rw[plain_mark];decide),if_pos rfl]
 match l,h with
 | [],_=>rfl
 | [_],_=>rfl
 |_::_::_,h=>simp at h;omega
theorem unqS_bad{c:UInt8}{l:List UInt8}(h:Mf c=false)(h2:c≠42):unqS (c::l)=none:=by
 rw[unqS.eq_def]
 show(if Mf c=true then _ else if c=42 then _ else _)=_
 rw[if_neg (by rw[h];decide),if_neg h2]
theorem Ew:∀l:List UInt8,unqS (l.flatMap q1)=some l
 | []=>by rw[List.flatMap_nil,unqS]
 | c::l=>by
  rw[List.flatMap_cons]
  cases hp:Mf c
  ·rw[q1_not hp]
   show unqS (42::Rp (c.toNat/16)::Rp (c.toNat%16)::l.flatMap q1)=_
   rw[Gf,byteH_enc,Ca _ (hex_lt c).1,Ca _ (hex_lt c).2,hp,if_neg Zp,Ew l]
   rfl
  ·rw[q1_plain hp]
   show unqS (c::l.flatMap q1)=_
   rw[Dv hp,Ew l]
   rfl
theorem enc2_byteH{a b:UInt8}(ha:¬M1 a<0)(hb:¬M1 b<0):J1 (Nh a b)=[a,b]:=by
 have ra:=(U0 a).2
 have rb:=(U0 b).2
 rw[Nh,enc2_ofNat Zo Zo,D1 a ha,D1 b hb]
theorem quo_unqS:∀(n:Nat) {w p:List UInt8},w.length≤n→unqS w=some p→p.flatMap q1=w
 |_,[],p,_,h=>by rw[unqS]at h;cases h;rfl
 |0,_::_,_,hn,_=>by simp at hn
 | n + 1,c::l,p,hn,h=>by
  simp only[List.length_cons]at hn
  cases hp:Mf c
  ·by_cases hc:c=42
   ·subst hc
    match l,hn,h with
    | [],_,h=>rw[Z0 Zs]at h;cases h
    | [_],_,h=>rw[Z0 Zs]at h;cases h
    | a ::b::r,hn,h=>
     rw[Gf]at h
     split at h
     ·cases h
     ·rename_i hv
      cases hr:unqS r with
      |none=>rw[hr]at h;cases h
      | some q=>
       rw[hr]at h
       cases h
       have h3:Mf (Nh a b)=false:=by
        cases h4:Mf (Nh a b)
        ·rfl
        ·exact absurd (.inr (.inr h4)) hv
       simp only[List.length_cons]at hn
       rw[List.flatMap_cons,quo_unqS n Zo hr,q1_not h3,enc2_byteH (fun k=>hv (.inl k)) (fun k=>hv (.inr (.inl k)))]
       rfl
   ·rw[unqS_bad hp hc]at h;cases h
  ·rw[Dv hp]at h
   cases hr:unqS l with
   |none=>rw[hr]at h;cases h
   |some q=>
    rw[hr]at h
    cases h
    rw[List.flatMap_cons,quo_unqS n Zo hr,q1_plain hp]
    rfl
theorem unq_quo(l:List UInt8):Z1 (P0 l)=some l:=by
 unfold P0
 split
 ·rename_i h;subst h;exact if_pos rfl
 ·rename_i h
  unfold Z1
  rw[if_neg ?_,Ew]
  ·exact if_neg h
  ·intro e
   have:=Ew l
   rw[e,Z0 Zs]at this
   cases this
theorem quo_unq{w p:List UInt8}(h:Z1 w=some p):P0 p=w:=by
 unfold Z1 at h
 split at h
 ·rename_i hw;subst hw;cases h;rfl
 ·split at h
  ·rename_i b hb
   split at h
   ·cases h
   ·rename_i h0
    cases h
    unfold P0
    rw[if_neg h0]
    exact quo_unqS _ (Nat.le_refl _) hb
  ·cases h
theorem q1_len(c:UInt8):1≤(q1 c).length∧(q1 c).length≤3:=by
 unfold q1;split<;>simp[J1]
theorem flat_len(l:List UInt8):l.length≤(l.flatMap q1).length∧(l.flatMap q1).length≤3*l.length:=by
 induction l with
 |nil=>simp
 |cons c l ih=>
  have:=q1_len c
  simp only[List.flatMap_cons,List.length_append,List.length_cons]
  omega
theorem quo_len(l:List UInt8):1≤(P0 l).length∧(P0 l).length≤3*l.length+1:=by
 unfold P0
 split
 ·simp
 ·rename_i h
  have:=flat_len l
  have:0<l.length:=List.length_pos_iff.2 h
  omega
theorem quo_ne(l:List UInt8):P0 l≠[]:=fun h=>by have:=(quo_len l).1;rw[h]at this;simp at this
theorem q1_mem{c b:UInt8}(h:b∈q1 c):Mf b=true∨b=42:=by
 have key:∀n:Fin 256,(q1 (UInt8.ofNat n.val)).all (fun b=>Mf b||b==42)=true:=by decide+kernel
 have:=key ⟨c.toNat,by have:=c.toNat_lt;omega⟩
 simp only[UInt8.ofNat_toNat,List.all_eq_true,Bool.or_eq_true,beq_iff_eq]at this
 exact this b h
theorem quo_mem{l:List UInt8}{b:UInt8}(h:b∈P0 l):Mf b=true∨b=42:=by
 unfold P0 at h
 split at h
 ·right;simpa using h
 ·obtain⟨c,_,hc⟩:=List.mem_flatMap.1 h
  exact q1_mem hc
theorem quo_blank{l:List UInt8}:(32:UInt8)∉P0 l:=fun h=>(quo_mem h).elim (fun k=>absurd k (by decide+kernel)) (fun k=>absurd k Zd)
def Ki(c:UInt8):List UInt8→List (List UInt8)
 | []=>[[]]
 |b::l=>if b=c then []::Ki c l else match Ki c l with
  | []=>[[b]]
  |h::t=>(b::h)::t
def Nb(c:UInt8):List (List UInt8)→List UInt8
 | []=>[]
 | [x]=>x
 |x::l=>x++c::Nb c l
theorem Z5(c:UInt8)(l:List UInt8):Ki c l≠[]:=by
 cases l with
 |nil=>simp[Ki]
 |cons b l=>
  unfold Ki
  split
  ·simp
  ·split<;>simp
theorem Wh{c:UInt8}{l:List UInt8}:Ki c (c::l)=[]::Ki c l:=by rw[Ki,if_pos rfl]
theorem I4{c:UInt8}:∀{x:List UInt8} (l:List UInt8),c∉x→Ki c (x++c::l)=x::Ki c l
 | [],l,_=>Wh
 |b::x,l,h=>by
  have hb:b≠c:=fun e=>h (by simp[e])
  show Ki c (b::(x++c::l))=_
  rw[Ki,if_neg hb,I4 l fun k=>h (by simp[k])]
theorem I3{c:UInt8}:∀{x:List UInt8},c∉x→Ki c x=[x]
 | [],_=>rfl
 |b::x,h=>by
  have hb:b≠c:=fun e=>h (by simp[e])
  rw[Ki,if_neg hb,I3 fun k=>h (by simp[k])]
theorem Z4{c:UInt8}:∀{l:List (List UInt8)},l≠[]→(∀x∈l,c∉x)→Ki c (Nb c l)=l
 | [],h,_=>absurd rfl h
 | [x],_,h=>I3 (h x Zs)
 |x::y::l,_,h=>by
  show Ki c (x++c::Nb c (y::l))=_
  rw[I4 _ (h x Zs),Z4 Zs fun z hz=>h z (by simp[hz])]
def Lx:List (List UInt8)→List (List UInt8)
 | []=>[]
 |w::l=>match Z1 w with
  |some p=>p::Lx l
  |none=>[]
def Vm(l:List (List UInt8)):Bool:=l.all fun w=>(Z1 w).isSome
theorem W3:∀l:List (List UInt8),(Lx l).length≤l.length
 | []=>Nat.le_refl _
 |w::l=>by
  unfold Lx
  have:=W3 l
  split<;>simp<;>omega
theorem Dw:∀l:List (List UInt8),Lx (l.map P0)=l∧Vm (l.map P0)=true
 | []=>⟨rfl,rfl⟩
 | x::l=>by
  have ih:=Dw l
  constructor
  ·rw[List.map_cons,Lx,unq_quo]
   show x::Lx (l.map P0)=_
   rw[ih.1]
  ·simp only[Vm,List.map_cons,List.all_cons,unq_quo,Option.isSome_some,Bool.true_and]
   exact ih.2
theorem quo_all:∀{l:List (List UInt8)},Vm l=true→(Lx l).map P0=l
 | [],_=>rfl
 |w::l,h=>by
  simp only[Vm,List.all_cons,Bool.and_eq_true]at h
  obtain⟨p,hp⟩:=Option.isSome_iff_exists.1 h.1
  rw[Lx,hp]
  show P0 p::(Lx l).map P0=_
  rw[quo_unq hp,quo_all h.2]
def Lr(l:List (List UInt8)):List UInt8:=Nb 32 (l.map P0)
def L9(l:List UInt8):List (List UInt8):=if l=[]then []else Ki 32 l
theorem words_join(l:List (List UInt8)):L9 (Lr l)=l.map P0:=by
 unfold L9 Lr
 cases l with
 |nil=>rfl
 | cons x l=>
  have hne:Nb 32 ((x::l).map P0)≠[]:=by
   intro h
   have hq:=quo_ne x
   cases l with
   |nil=>exact hq h
   |cons y l=>
    have h':P0 x++32::Nb 32 ((y::l).map P0)=[]:=h
    simp at h'
  rw[if_neg hne]
  exact Z4 Zs fun z hz=>by
   obtain⟨y,_,rfl⟩:=List.mem_map.1 hz
   exact quo_blank
def R7(l:List (List UInt8)):List UInt8:=l.flatMap (· ++ [10])
theorem joinN_cons(x:List UInt8)(l:List (List UInt8)):R7 (x::l)=x++10::R7 l:=by simp[R7]
def Nq(l:List UInt8):List (List UInt8):=if l=[]then []else Ki 10 l.dropLast
def okN(l:List UInt8):Bool:=l.isEmpty||l.getLast? ==some 10
theorem joinN_by:∀{l:List (List UInt8)},l≠[]→R7 l=Nb 10 l++ [10]
 | [],h=>absurd rfl h
 | [x],_=>by simp[R7,Nb]
 |x::y::l,_=>by
  rw[joinN_cons,joinN_by (l:=y::l) Zs]
  show _=(x++10::Nb 10 (y::l))++ [10]
  simp
theorem lines_join(l:List (List UInt8)):Nq (R7 l)=if l=[]then []else Ki 10 (Nb 10 l):=by
 unfold Nq
 cases l with
 |nil=>rfl
 |cons x l=>
  rw[joinN_by Zs,if_neg Zs,if_neg Zs,List.dropLast_concat]
theorem lines_plain{l:List (List UInt8)}(h:∀x∈l,(10:UInt8)∉x):Nq (R7 l)=l:=by
 rw[lines_join]
 split
 ·rename_i h0;exact h0.symm
 ·rename_i h0;exact Z4 h0 h
theorem Vx(c:UInt8):∀l:List UInt8,(Ki c l).length=l.count c+1
 | []=>rfl
 | b::l=>by
  have ih:=Vx c l
  rw[Ki]
  split
  ·rename_i hb;subst hb
   simp[ih]
  ·rename_i hb
   cases hs:Ki c l with
   |nil=>exact absurd hs (Z5 c l)
   |cons h t=>
    rw[hs]at ih
    rw[List.count_cons_of_ne hb]
    simpa using ih
section
variable{P:Program}{Δ:List Deferred}{W:World}{Q:Exit→Act→World→Prop}{Φ:World→Prop}{c:Nn}
theorem K0.callB{X:Type}{val:X→Value}{g:FuncId}{args:Array Value}{Φ':X→World→Prop}
 (hs:∀w,Below W.heap.size W w→Φ w→Calls P g args w (fun e w'=>∃x,e= .returned (val x)∧Below W.heap.size w w'∧∀w'',w'.heap.size≤w''.heap.size→(∀b,W.heap.size≤b→b<w'.heap.size→w''.heap[b]? =w'.heap[b]?)→Φ' x w''))
 (hb:c.st.box=fun _=>none) (hf:Qj c=true) (hc:Lk P c=some (g,args)) (h:∀x,K0 P Δ W Q (Φ' x) (Le (.v (val x)) c)):K0 P Δ W Q Φ c:=by
 obtain⟨foc,k,σ⟩:=c
 have hb:σ.box=fun _=>none:=hb
 replace h:=fun x=>(h x).get
 refine⟨?_⟩
 unfold Lk at hc
 split at hc
 ·rename_i g' xs hn
  split at hc
  ·rename_i vs hv
   injection hc with hc
   injection hc with h1 h2
   subst h1;subst h2
   unfold Sn at hn
   split at hn
   ·rename_i ops o ho
    split at hn
    ·rename_i hw
     unfold O7 at ho
     simp only at ho
     split at ho
     ·rename_i ops' i l
      cases hoi:ops'[i]? with
      |none=>rw[hoi]at ho;cases ho
      |some o'=>
       rw[hoi]at ho
       simp only[Option.map_some,Option.some.injEq,Prod.mk.injEq]at ho
       obtain⟨rfl,rfl⟩:=ho
       intro hwf β a w hr
       show wpOps P ops' (post P Q k) (i::l) a w
       rw[wpOps_cons]
       unfold wpOp
       simp only[hoi,M4 hr,hw,if_true]
       refine .inl ?_
       unfold Oper.wp
       rw[Vn hn hr,Pf hv]
       refine Calls.mono (hs w hr.bel hr.phi) fun e w' he=> ?_
       obtain⟨x,rfl,hch,hG⟩:=he
       simp only[U6,Le,hoi,Option.bind_some]at h
       have hr':Q4 Δ W β σ (Φ' x) a w':=⟨hr.tmps,hr.defers,⟨hch.os.trans hr.bel.os,hch.tape.trans hr.bel.tape,hch.output.trans hr.bel.output,Nat.le_trans hr.bel.size hch.size,fun k hk=>(hch.block k hk).trans (hr.bel.block k hk)⟩,(fun k cs hk=>by rw[hb]at hk;cases hk),hr.inj,(fun w'' hw=>hG w'' hw.size fun b h1 h2=>hw.heap b h1 h2 fun k hk=>by rw[hb]at hk;cases hk)⟩
       exact h x (hwf.put _ (by intro k hk;simp[AV.ids]at hk)) β _ w' (hr'.put o'.dst (.v (val x)))
     ·cases hf
     ·cases ho
    ·cases hn
   ·cases hn
  ·cases hc
 ·cases hc
end
def BAt(W:World)(g:Nat)(bs:List UInt8)(u:World):Prop:=Lib.IsBuilderF 95 5 W.heap.size g (Lib.byteCells bs) u
theorem ownsRowF_same{u v:World}{B:Nat}{e:TypeId}{x:Value}{n:Nat}{xs:List Value}(h:u.ownsRowF B e 1 x n xs)(e2:∀k,B≤k→k<u.heap.size→v.heap[k]? =u.heap[k]?):v.ownsRowF B e 1 x n xs:=by
 refine⟨h.1,?_⟩
 rcases h.2 with h1|⟨g,cap,cur,fz,h1,h2,h3,rest⟩
 ·exact .inl h1
 ·exact .inr ⟨g,cap,cur,fz,h1,h2,(e2 g h2 (Array.getElem?_eq_some_iff.1 h3).1).trans h3,rest⟩
theorem Dr{u v:World}{T e:TypeId}{B b:Nat}{p:Value}{bs:List Value}(h:Lib.BuilderAtF T e B b p bs u)(e2:∀k,B≤k→k<u.heap.size→v.heap[k]? =u.heap[k]?):Lib.BuilderAtF T e B b p bs v:=by
 have hlt:=h.lt
 obtain⟨hB,x,hv,hown,hne⟩:=h
 exact⟨hB,x,(e2 b hB hlt).trans hv,ownsRowF_same hown e2,hne⟩
theorem BAt.same{W u v:World}{g:Nat}{bs:List UInt8}(h:BAt W g bs u)(e2:∀k,W.heap.size≤k→k<u.heap.size→v.heap[k]? =u.heap[k]?):BAt W g bs v:=
 h.elim (fun x=> .inl (Dr x e2)) (fun x=> .inr (Dr x e2))
theorem byteCells_add(l:List UInt8)(c:UInt8):Lib.byteCells (l++ [c])=Lib.byteCells l++ [.int .u8 c.toNat]:=by simp[Lib.byteCells]
theorem byteCells_app(l m:List UInt8):Lib.byteCells (l++m)=Lib.byteCells l++Lib.strCells ⟨m.toArray⟩:=by simp[Lib.byteCells,Lib.strCells]
section
variable{W w:World}{g:Nat}{bs l:List UInt8}
theorem make_bld(hB:W.heap.size≤w.heap.size):Lh Tryz.prog w Ud (fun g u=>BAt W g [] u) (Aq 95):=
 ⟨w.heap.size,w.alloc (.cells #[.pointer none,.slice none 0 0] 95),by simp only[Aq,Instr.alloc,Sem.run_bind,V8 (show Yz Tryz.prog 95=some (.agg #[.pointer none,.slice none 0 0]) by kernel_rfl),V9,Result.andThen_ok,Sem.run_pure,Ud];rfl,Uz _ _,fun w'' h1 h2=> .inl ⟨hB,.slice none 0 0,(Vk w _ h1 h2).1,World.ownsRowF_nil _ _ _ _,by simp[Value.ownBlock]⟩⟩
theorem J3(hw:Below W.heap.size W w)(h:BAt W g bs w)(c:UInt8)(hl:bs.length≤100000000):Calls Tryz.prog 58 #[Ud g,.int .u8 c.toNat] w (fun e w'=>∃x:Unit,e= .returned .nilIface∧Below W.heap.size w w'∧∀w'',w'.heap.size≤w''.heap.size→(∀b,W.heap.size≤b→b<w'.heap.size→w''.heap[b]? =w'.heap[b]?)→BAt W g (bs++ [c]) w''):=by
 refine Calls.mono (Any.Builder_WriteByte_k Tryz.layB167 Tryz.layBX W.heap.size g (Lib.byteCells bs) c.toNat w h (by rw[Lib.byteCells_length];omega) hw.size) fun e w' he=> ?_
 obtain⟨h1,h2,h3,_⟩:=he
 exact⟨(),h1,h3,fun w'' k1 k2=>by have h4:BAt W g (bs++ [c]) w':= .inr (by rw[byteCells_add];exact h2);exact h4.same k2⟩
theorem wstr_m(hw:Below W.heap.size W w)(h:BAt W g bs w)(hl:bs.length+l.length≤100000000):Calls Tryz.prog 39 #[Ud g,K4 l] w (fun e w'=>∃x:Unit,e= .returned (.tuple #[Zi l.length,.nilIface])∧Below W.heap.size w w'∧∀w'',w'.heap.size≤w''.heap.size→(∀b,W.heap.size≤b→b<w'.heap.size→w''.heap[b]? =w'.heap[b]?)→BAt W g (bs++l) w''):=by
 refine Calls.mono (Any.Builder_WriteString_k Tryz.layB166 Tryz.layBX W.heap.size g (Lib.byteCells bs) ⟨l.toArray⟩ w h (by rw[Lib.byteCells_length];show bs.length+l.length≤_;omega) hw.size) fun e w' he=> ?_
 obtain⟨h1,h2,h3,_⟩:=he
 exact⟨(),h1,h3,fun w'' k1 k2=>by have h4:BAt W g (bs++l) w':= .inr (by rw[byteCells_app];exact h2);exact h4.same k2⟩
theorem bstr_m(hw:Below W.heap.size W w)(h:BAt W g bs w):Calls Tryz.prog 40 #[Ud g] w (fun e w'=>∃x:Unit,e= .returned (K4 bs)∧Below W.heap.size w w'∧∀w'':World,w'.heap.size≤w''.heap.size→(∀b,W.heap.size≤b→b<w'.heap.size→w''.heap[b]? =w'.heap[b]?)→True):=
 Calls.mono (Tryz.Builder_String_any_f W.heap.size g bs w h hw.size) fun e w' he=>⟨(),he.1,he.2.2,fun _ _ _=>trivial⟩
end
def sgnL:List UInt8:=[46,95,58,47,43,45,44,61,35]
def An(c:UInt8):Bool:=(decide (97≤c.toNat)&&decide (c.toNat≤122))||(decide (65≤c.toNat)&&decide (c.toNat≤90))||(decide (48≤c.toNat)&&decide (c.toNat≤57))
theorem u8_back(c:UInt8):(((c.toNat:Nat):Int).toNat).toUInt8=c:=by simp
theorem sgn_idx(c:UInt8):decide (Lib.indexByte sgnL c≥0)=[46,95,58,47,43,45,44,61,35].contains c.toNat:=by
 have key:∀n:Fin 256,decide (Lib.indexByte sgnL (UInt8.ofNat n.val)≥0)=[46,95,58,47,43,45,44,61,35].contains n.val:=by decide+kernel
 have:=key ⟨c.toNat,by have:=c.toNat_lt;omega⟩
 simpa only[UInt8.ofNat_toNat]using this
theorem hex_idx(c:UInt8):Lib.indexByte hexT c=M1 c:=by
 have key:∀n:Fin 256,Lib.indexByte hexT (UInt8.ofNat n.val)=M1 (UInt8.ofNat n.val):=by decide+kernel
 have:=key ⟨c.toNat,by have:=c.toNat_lt;omega⟩
 simpa only[UInt8.ofNat_toNat]using this
theorem Gs{c:UInt8}(h:An c=true):Mf c=true:=by
 unfold Mf;unfold An at h;rw[h];rfl
theorem Cs{c:UInt8}(h:An c=false):Mf c=decide (Lib.indexByte sgnL c≥0):=by
 rw[sgn_idx];unfold Mf;unfold An at h;rw[h];rfl
section
variable{w:World}{l:List UInt8}
theorem sgn_m(c:UInt8):Zv 106 #[K4 sgnL,.int .u8 c.toNat] w (Zi (Lib.indexByte sgnL c)):=
 Calls.mono (Tryz.strings_IndexByte ⟨sgnL.toArray⟩ c.toNat w) fun e w' he=>⟨(),by rw[he.1,u8_back],by rw[he.2];exact Below.refl _ _,fun _ _ _=>trivial⟩
theorem hexi_m(c:UInt8):Zv 106 #[K4 hexT,.int .u8 c.toNat] w (Zi (M1 c)):=
 Calls.mono (Tryz.strings_IndexByte ⟨hexT.toArray⟩ c.toNat w) fun e w' he=>⟨(),by rw[he.1,u8_back,←hex_idx],by rw[he.2];exact Below.refl _ _,fun _ _ _=>trivial⟩
theorem plain_m(c:UInt8):Zv 57 #[.int .u8 c.toNat] w (.bool (Mf c)):=by
 have hc:(97≤c.toNat∧c.toNat≤122)∨(122<c.toNat)∨(90<c.toNat∧c.toNat<97)∨(65≤c.toNat∧c.toNat≤90)∨(57<c.toNat∧c.toNat<65)∨(48≤c.toNat∧c.toNat≤57)∨(c.toNat<48):=by omega
 refine K0.enter Tryz.func57 rfl <| ZS 2 ?_
 rcases hc with hc|hc|hc|hc|hc|hc|hc
 ·have hL:An c=true:=by unfold An;simp;omega
  exact K0.slot 5 (.bool (decide ((((c.toNat:Nat)):Int)≥97))) Zt Zk (by rw[decide_eq_true Zo]) <| ZS 6 <| K0.slot 9 (.bool (decide ((((c.toNat:Nat)):Int)≤122))) Zt Zk (by rw[decide_eq_true Zo]) <| ZS 1 <| ZR <| ZX Zt (by rw[Gs hL])
 ·have hL:An c=false:=by unfold An;simp;omega
  exact K0.slot 5 (.bool (decide ((((c.toNat:Nat)):Int)≥97))) Zt Zk (by rw[decide_eq_true Zo]) <| ZS 6 <| K0.slot 9 (.bool (decide ((((c.toNat:Nat)):Int)≤122))) Zf Zk (by rw[decide_eq_false Zo]) <| ZS 9 <| K0.slot 12 (.bool (decide ((((c.toNat:Nat)):Int)≥65))) Zt Zk (by rw[decide_eq_true Zo]) <| ZS 1 <| K0.slot 18 (.bool (decide ((((c.toNat:Nat)):Int)≤90))) Zf Zk (by rw[decide_eq_false Zo]) <| ZS 4 <| K0.slot 21 (.bool (decide ((((c.toNat:Nat)):Int)≥48))) Zt Zk (by rw[decide_eq_true Zo]) <| ZS 9 <| ZT 26 (.bool (decide ((((c.toNat:Nat)):Int)≤57))) Zf (by rw[decide_eq_false Zo]) <| ZC (fun w1 hw h=>sgn_m c) fun u=>ZX (.bool (decide (Lib.indexByte sgnL c≥0))) (by rw[Cs hL])
 ·have hL:An c=false:=by unfold An;simp;omega
  exact K0.slot 5 (.bool (decide ((((c.toNat:Nat)):Int)≥97))) Zf Zk (by rw[decide_eq_false Zo]) <| ZS 6 <| ZS 9 <| K0.slot 12 (.bool (decide ((((c.toNat:Nat)):Int)≥65))) Zt Zk (by rw[decide_eq_true Zo]) <| ZS 1 <| K0.slot 18 (.bool (decide ((((c.toNat:Nat)):Int)≤90))) Zf Zk (by rw[decide_eq_false Zo]) <| ZS 4 <| K0.slot 21 (.bool (decide ((((c.toNat:Nat)):Int)≥48))) Zt Zk (by rw[decide_eq_true Zo]) <| ZS 9 <| ZT 26 (.bool (decide ((((c.toNat:Nat)):Int)≤57))) Zf (by rw[decide_eq_false Zo]) <| ZC (fun w1 hw h=>sgn_m c) fun u=>ZX (.bool (decide (Lib.indexByte sgnL c≥0))) (by rw[Cs hL])
 ·have hL:An c=true:=by unfold An;simp;omega
  exact K0.slot 5 (.bool (decide ((((c.toNat:Nat)):Int)≥97))) Zf Zk (by rw[decide_eq_false Zo]) <| ZS 6 <| ZS 9 <| K0.slot 12 (.bool (decide ((((c.toNat:Nat)):Int)≥65))) Zt Zk (by rw[decide_eq_true Zo]) <| ZS 1 <| ZT 18 (.bool (decide ((((c.toNat:Nat)):Int)≤90))) Zt (by rw[decide_eq_true Zo]) <| ZX Zt (by rw[Gs hL])
 ·have hL:An c=false:=by unfold An;simp;omega
  exact K0.slot 5 (.bool (decide ((((c.toNat:Nat)):Int)≥97))) Zf Zk (by rw[decide_eq_false Zo]) <| ZS 6 <| ZS 9 <| K0.slot 12 (.bool (decide ((((c.toNat:Nat)):Int)≥65))) Zf Zk (by rw[decide_eq_false Zo]) <| ZS 1 <| ZS 4 <| K0.slot 21 (.bool (decide ((((c.toNat:Nat)):Int)≥48))) Zt Zk (by rw[decide_eq_true Zo]) <| ZS 9 <| ZT 26 (.bool (decide ((((c.toNat:Nat)):Int)≤57))) Zf (by rw[decide_eq_false Zo]) <| ZC (fun w1 hw h=>sgn_m c) fun u=>ZX (.bool (decide (Lib.indexByte sgnL c≥0))) (by rw[Cs hL])
 ·have hL:An c=true:=by unfold An;simp;omega
  exact K0.slot 5 (.bool (decide ((((c.toNat:Nat)):Int)≥97))) Zf Zk (by rw[decide_eq_false Zo]) <| ZS 6 <| ZS 9 <| K0.slot 12 (.bool (decide ((((c.toNat:Nat)):Int)≥65))) Zf Zk (by rw[decide_eq_false Zo]) <| ZS 1 <| ZS 4 <| K0.slot 21 (.bool (decide ((((c.toNat:Nat)):Int)≥48))) Zt Zk (by rw[decide_eq_true Zo]) <| ZS 9 <| ZT 26 (.bool (decide ((((c.toNat:Nat)):Int)≤57))) Zt (by rw[decide_eq_true Zo]) <| ZX Zt (by rw[Gs hL])
 ·have hL:An c=false:=by unfold An;simp;omega
  exact K0.slot 5 (.bool (decide ((((c.toNat:Nat)):Int)≥97))) Zf Zk (by rw[decide_eq_false Zo]) <| ZS 6 <| ZS 9 <| K0.slot 12 (.bool (decide ((((c.toNat:Nat)):Int)≥65))) Zf Zk (by rw[decide_eq_false Zo]) <| ZS 1 <| ZS 4 <| K0.slot 21 (.bool (decide ((((c.toNat:Nat)):Int)≥48))) Zf Zk (by rw[decide_eq_false Zo]) <| ZS 9 <| ZR <| ZC (fun w1 hw h=>sgn_m c) fun u=>ZX (.bool (decide (Lib.indexByte sgnL c≥0))) (by rw[Cs hL])
end
def slC(t:TypeId)(s:Value)(kd:IntKind)(i j:Int):Sem Next:=Instr.sliceAt t s (some (.int kd i)) (some (.int kd j)) none >>= fun v=>pure (.value v)
section
variable{P:Program}{w:World}{l:List UInt8}{t:TypeId}
theorem Wm(s:ByteArray)(ht:P.underlying t=some .string)(k1 k2:IntKind)(a b:Int)(h0:0≤a)(h1:a≤b)(h2:b≤s.size):
 (Instr.slice t (.string s) (some (.int k1 a)) (some (.int k2 b)) none).run P w= .ok (.string (s.extract a.toNat b.toNat)) w:=by
 simp[Instr.slice,run_underlying ht,Instr.sliceBounds,run_sliceBound,sliced, *,(by omega:0≤b)]
 rw[run_sliceBound _ _ _ _ _ h0 Zo]
 rfl
theorem run_slC{kd:IntKind}{i j:Nat}(ht:P.underlying t=some .string)(h1:i≤j)(h2:j≤l.length):(slC t (K4 l) kd i j).run P w= .ok (.value (K4 ((l.take j).drop i))) w:=by
 have:=Wm (P:=P) (w:=w) ⟨l.toArray⟩ ht kd kd i j Zo Zo (by show(j:Int)≤((l.length:Nat):Int);omega)
 simp only[slC,K4,Sem.run_bind,sliceAtS ht]at this ⊢
 simp only[this,Result.andThen_ok,Sem.run_pure,Int.toNat_natCast]
 have e:(⟨l.toArray⟩:ByteArray).extract i j=⟨((l.take j).drop i).toArray⟩:=by
  apply ByteArray.ext
  simp[ByteArray.data_extract,List.drop_take]
 rw[e]
theorem B7{kd:IntKind}{i:Nat}{b:UInt8}(ht:P.underlying t=some .string)(h:l[i]? =some b):(slC t (K4 l) kd i (i+1:Nat)).run P w= .ok (.value (K4 [b])) w:=by
 obtain⟨h1,h2⟩:=List.getElem?_eq_some_iff.1 h
 rw[run_slC ht (Nat.le_succ i) h1]
 have:(l.take (i+1)).drop i=[b]:=by
  rw[List.take_add_one,h,List.drop_append_of_le_length Zp]
  simp
 rw[this]
end
theorem flat_succ{l:List UInt8}{k:Nat}{c:UInt8}(h:l[k]? =some c):(l.take (k+1)).flatMap q1=(l.take k).flatMap q1++q1 c:=by
 rw[List.take_add_one,h];simp
theorem flat_take_len(l:List UInt8)(k:Nat):((l.take k).flatMap q1).length≤3*l.length:=by
 have:=(flat_len (l.take k)).2
 have h2:=List.length_take_le k l
 have h3:(l.take k).length≤l.length:=by rw[List.length_take];omega
 omega
theorem D5{l:List UInt8}{k:Nat}{c:UInt8}(h:l[k]? =some c):l.drop k=c::l.drop (k+1):=by
 obtain⟨h1,h2⟩:=List.getElem?_eq_some_iff.1 h
 rw[List.drop_eq_getElem_cons h1,h2]
section
variable{l p:List UInt8}{k:Nat}{a b c:UInt8}
theorem unq_one(h:unqS l=(unqS (l.drop k)).map (p++·))(hc:l[k]? =some c)(hp:Mf c=true):unqS l=(unqS (l.drop (k+1))).map ((p++ [c])++·):=by
 rw[h,D5 hc,Dv hp,Option.map_map];congr 1;funext q;simp
theorem unq_bad(h:unqS l=(unqS (l.drop k)).map (p++·))(hc:l[k]? =some c)(hp:Mf c=false)(h2:c≠42):unqS l=none:=by
 rw[h,D5 hc,unqS_bad hp h2];rfl
theorem unq_short(h:unqS l=(unqS (l.drop k)).map (p++·))(hc:l[k]? =some 42)(h2:l.length≤k+2):unqS l=none:=by
 rw[h,D5 hc,Z0 (by rw[List.length_drop];have:=(List.getElem?_eq_some_iff.1 hc).1;omega)];rfl
theorem unq_hex(h:unqS l=(unqS (l.drop k)).map (p++·))(hc:l[k]? =some 42)(ha:l[k+1]? =some a)(hb:l[k+2]? =some b):
 (M1 a<0∨M1 b<0∨Mf (Nh a b)=true→unqS l=none)∧(¬(M1 a<0∨M1 b<0∨Mf (Nh a b)=true)→unqS l=(unqS (l.drop (k+3))).map ((p++ [Nh a b])++·)):=by
 rw[D5 hc,D5 ha,D5 hb,Gf]at h
 constructor
 ·intro hv;rw[h,if_pos hv];rfl
 ·intro hv;rw[h,if_neg hv,Option.map_map];congr 1;funext q;simp
theorem drop_end(h:l.length≤k):l.drop k=[]:=List.drop_of_length_le h
theorem unq_end(h:unqS l=(unqS (l.drop k)).map (p++·))(h2:l.length≤k):unqS l=some p:=by
 rw[h,drop_end h2,unqS];show some (p++ [])=_;rw[List.append_nil]
theorem Y4(h1:l≠[42])(h:unqS l=none):Z1 l=none:=by unfold Z1;rw[if_neg h1,h]
theorem unqL_nil(h1:l≠[42])(h:unqS l=some []):Z1 l=none:=by unfold Z1;rw[if_neg h1,h];rfl
theorem unqL_some(h1:l≠[42])(h:unqS l=some p)(h2:p≠[]):Z1 l=some p:=by unfold Z1;rw[if_neg h1,h];exact if_neg h2
end
def unqV:Option (List UInt8)→Value
 |some p=> .tuple #[K4 p,.int .i64 0]
 |none=> .tuple #[K4 [],.int .i64 3]
theorem byteH_nat(a b:UInt8)(ha:0≤M1 a)(hb:0≤M1 b):IntKind.u8.wrap (bits .or .i64 (IntKind.i64.wrap (M1 a*2 ^ 4)) (M1 b))=((Nh a b).toNat:Int):=byte_or ⟨ha,(U0 a).2⟩ ⟨hb,(U0 b).2⟩
section
variable{w:World}{l:List UInt8}
theorem Cr{c:UInt8}{B:Bool}(h:Mf c=B):Zv 57 #[.int .u8 c.toNat] w (.bool B):=h▸plain_m c
theorem quote_m(hl:l.length≤10000000):Zv 28 #[K4 l] w (K4 (P0 l)):=by
 refine K0.enter Tryz.func28 rfl <| ZS 1 ?_
 by_cases h0:l=[]
 ·subst h0
  exact ZA (Qf .eql 9 (.tmp 6) (.const (.string ⟨#[]⟩)) (K4 []) (K4 [])) Zt (fun w1 hw h=>Ks Zs) <| ZI true <| ZW (.string ⟨#[42]⟩)
 have hq:P0 l=l.flatMap q1:=if_neg h0
 refine ZA (Qf .eql 9 (.tmp 6) (.const (.string ⟨#[]⟩)) (K4 l) (K4 [])) Zf (fun w1 hw h=>Ks (by simpa using h0)) <| K0.cond false Zk <| ZS 0 <| K0.make (Aq 95) (Ud) (fun g u=>BAt w g [] u) Zk (fun w1 hw h=>make_bld hw.size) fun g=>ZR <| K0.loop (ι:={q:Nat // q≤l.length}) 31 (fun q=>⟨[(0,.v (K4 l)),(3,.v (Ud g)),(9,.v (Zi l.length)),(10,.v (Zi q.1))],[]⟩) (fun q u=>BAt w g ((l.take q.1).flatMap q1) u) (fun q=>l.length-q.1) (⟨0,Nat.zero_le _⟩) Zk (fun _=>by kernel_rfl) ⟨Zk,Zk,Zk⟩ (fun u h=>h.2) ?_
 rintro⟨k,hk⟩ gg
 by_cases hlt:k<l.length
 ·refine ZR <| K0.condr (decide ((k:Int)<(l.length:Int))) true Zk Zp <| ZS 2 ?_
  obtain⟨c,hc⟩:∃c,l[k]? =some c:=⟨_,List.getElem?_eq_getElem hlt⟩
  have hb:=flat_take_len l k
  refine ZA (ixS 9 (K4 l) k) (.int .u8 c.toNat) (fun w1 hw h=>Se Zk hc) ?_
  cases hp:Mf c
  ·have e1:=q1_not hp
   refine ZC (fun w1 hw h=>Cr hp) fun u=>ZI false <| K0.callB (val:=fun _=> .nilIface) (Φ':=fun(_:Unit) u=>BAt w g ((l.take k).flatMap q1++ [42]) u) (fun w1 hw h=>J3 hw h.1 42 (show((l.take k).flatMap q1).length≤100000000 from by omega)) Zk Zk Zk fun _=>ZS 2 <| K0.slot 22 (.int .u8 (((c.toNat:Nat):Int).fdiv (2 ^ 4))) (.int .u8 ((c.toNat/16:Nat):Int)) Zk (by rw[u8_shr]) <| ZA (ixK 9 (K4 hexT) .u8 (c.toNat/16:Nat)) (.int .u8 (Rp (c.toNat/16)).toNat) (fun w1 hw h=>Jc Zk (Jn _ (hex_lt c).1)) <| K0.callB (val:=fun _=> .nilIface) (Φ':=fun(_:Unit) u=>BAt w g (((l.take k).flatMap q1++ [42])++ [Rp (c.toNat/16)]) u) (fun w1 hw h=>J3 hw h _ (by simp only[List.length_append,List.length_singleton];omega)) Zk Zk Zk fun _=>ZS 2 <| K0.slot 26 (.int .u8 (bits .and .u8 ((c.toNat:Nat):Int) 15)) (.int .u8 ((c.toNat%16:Nat):Int)) Zk (by rw[u8_and]) <| ZA (ixK 9 (K4 hexT) .u8 (c.toNat%16:Nat)) (.int .u8 (Rp (c.toNat%16)).toNat) (fun w1 hw h=>Jc Zk (Jn _ (hex_lt c).2)) <| K0.callB (val:=fun _=> .nilIface) (Φ':=fun(_:Unit) u=>BAt w g ((((l.take k).flatMap q1++ [42])++ [Rp (c.toNat/16)])++ [Rp (c.toNat%16)]) u) (fun w1 hw h=>J3 hw h _ (by simp only[List.length_append,List.length_singleton];omega)) Zk Zk Zk fun _=>ZR <| K0.slot 10 (Zi (IntKind.i64.wrap ((k:Int)+1))) (Zi ((k+1:Nat):Int)) Zk (by rw[Kd hlt Zo]) <| K0.next (⟨k+1,by omega⟩) Zk (by show l.length- (k+1)<l.length-k;omega) ⟨Zk,Zk,Zk⟩ (fun _ h=>by show BAt w g ((l.take (k+1)).flatMap q1) _;rw[flat_succ hc,e1];simpa[J1]using h)
  ·have e1:=q1_plain hp
   refine ZC (fun w1 hw h=>Cr hp) fun u=>ZI true <| K0.callB (val:=fun _=> .nilIface) (Φ':=fun(_:Unit) u=>BAt w g ((l.take k).flatMap q1++ [c]) u) (fun w1 hw h=>J3 hw h.1 c (show((l.take k).flatMap q1).length≤100000000 from by omega)) Zk Zk Zk fun _=>ZR <| K0.slot 10 (Zi (IntKind.i64.wrap ((k:Int)+1))) (Zi ((k+1:Nat):Int)) Zk (by rw[Kd hlt Zo]) <| K0.next (⟨k+1,by omega⟩) Zk (by show l.length- (k+1)<l.length-k;omega) ⟨Zk,Zk,Zk⟩ (fun _ h=>by show BAt w g ((l.take (k+1)).flatMap q1) _;rw[flat_succ hc,e1];exact h)
 ·refine ZR <| ZJ (decide ((k:Int)<(l.length:Int))) false Zp ?_
  have hfull:l.take k=l:=List.take_of_length_le Zo
  exact K0.leave Zk <| ZR <| K0.callB (val:=fun _=>K4 (l.flatMap q1)) (Φ':=fun(_:Unit) u=>True) (fun w1 hw h=>bstr_m hw (by rw[←hfull];exact h)) Zk Zk Zk fun _=>ZR <| ZX (K4 (l.flatMap q1)) (by rw[hq])
end
end Go.Proofs.YtoeiphicmcndlaaGreatDoor
