/-
 Words and lines.
-/
import Derived.Shelf.Strings.BuilderK
import Derived.Test.YtoeiphicmcndlaaGreatDoorProg
import Derived.KernelRfl
import Derived.Test.YtoeiphicmcndlaaGreatDoorAUQ
import Derived.OpenShut
import Derived.Lib.SmallJoins
import Derived.ChangeSlices
import Derived.Deep.Slices
import Derived.Test.YtoeiphicmcndlaaGreatDoorASh
namespace Go.Proofs.YtoeiphicmcndlaaGreatDoor
set_option maxRecDepth 100000
set_option maxHeartbeats 8000000
set_option linter.unusedVariables false
set_option linter.unusedSimpArgs false
open Go.RowKit
section
open Go.Shelf
def Tryz.layB_ren:Go.Shelf.Ren:=⟨fun|240=>70|167=>58|166=>39|276=>120|n=>n,fun|0=>0|3=>3|4=>4|5=>5|9=>9|20=>20|37=>86|70=>93|72=>95|75=>97|80=>100|164=>187|n=>n,fun|n=>n⟩
theorem Tryz.layB167:Go.Proofs.Lays.n167 Tryz.prog Tryz.layB_ren:={
 mixed:=by kernel_rfl
 f167:=Tryz.func58.trans (congrArg some Zk)
 f240:=Tryz.func70.trans (congrArg some Zk)
 f276:=Tryz.func120.trans (congrArg some Zk)
 t0:=Tryz.underlying0
 a0:=Tryz.isAgg0
 z0:=Tryz.sizeOf0
 v0:=Tryz.zeroValue0
 t4:=Tryz.underlying4
 a4:=Tryz.isAgg4
 z4:=Tryz.sizeOf4
 v4:=Tryz.zeroValue4
 t5:=Tryz.underlying5
 a5:=Tryz.isAgg5
 z5:=Tryz.sizeOf5
 v5:=Tryz.zeroValue5
 t9:=Tryz.underlying9
 a9:=Tryz.isAgg9
 z9:=Tryz.sizeOf9
 v9:=Tryz.zeroValue9
 t20:=Tryz.underlying20
 a20:=Tryz.isAgg20
 z20:=Tryz.sizeOf20
 v20:=Tryz.zeroValue20
 t37:=Tryz.underlying86
 a37:=Tryz.isAgg86
 z37:=Tryz.sizeOf86
 v37:=Tryz.zeroValue86
 t70:=Tryz.underlying93
 a70:=Tryz.isAgg93
 z70:=Tryz.sizeOf93
 v70:=Tryz.zeroValue93
 t72:=Tryz.underlying95
 a72:=Tryz.isAgg95
 z72:=Tryz.sizeOf95
 v72:=Tryz.zeroValue95
 t75:=Tryz.underlying97
 a75:=Tryz.isAgg97
 z75:=Tryz.sizeOf97
 v75:=Tryz.zeroValue97
 t164:=Tryz.underlying187
 a164:=Tryz.isAgg187
 z164:=Tryz.sizeOf187
 v164:=Tryz.zeroValue187}
theorem Tryz.layB166:Go.Proofs.Lays.n166 Tryz.prog Tryz.layB_ren:={
 mixed:=by kernel_rfl
 f166:=Tryz.func39.trans (congrArg some Zk)
 f240:=Tryz.func70.trans (congrArg some Zk)
 f276:=Tryz.func120.trans (congrArg some Zk)
 t0:=Tryz.underlying0
 a0:=Tryz.isAgg0
 z0:=Tryz.sizeOf0
 v0:=Tryz.zeroValue0
 t3:=Tryz.underlying3
 a3:=Tryz.isAgg3
 z3:=Tryz.sizeOf3
 v3:=Tryz.zeroValue3
 t4:=Tryz.underlying4
 a4:=Tryz.isAgg4
 z4:=Tryz.sizeOf4
 v4:=Tryz.zeroValue4
 t9:=Tryz.underlying9
 a9:=Tryz.isAgg9
 z9:=Tryz.sizeOf9
 v9:=Tryz.zeroValue9
 t20:=Tryz.underlying20
 a20:=Tryz.isAgg20
 z20:=Tryz.sizeOf20
 v20:=Tryz.zeroValue20
 t37:=Tryz.underlying86
 a37:=Tryz.isAgg86
 z37:=Tryz.sizeOf86
 v37:=Tryz.zeroValue86
 t70:=Tryz.underlying93
 a70:=Tryz.isAgg93
 z70:=Tryz.sizeOf93
 v70:=Tryz.zeroValue93
 t72:=Tryz.underlying95
 a72:=Tryz.isAgg95
 z72:=Tryz.sizeOf95
 v72:=Tryz.zeroValue95
 t75:=Tryz.underlying97
 a75:=Tryz.isAgg97
 z75:=Tryz.sizeOf97
 v75:=Tryz.zeroValue97
 t164:=Tryz.underlying187
 a164:=Tryz.isAgg187
 z164:=Tryz.sizeOf187
 v164:=Tryz.zeroValue187}
theorem Tryz.layBX:Builder.Extra Tryz.prog Tryz.layB_ren:={
 sizeBuilder:=by kernel_rfl
 liesBuilder:=by kernel_rfl
 t5:=Tryz.underlying5
 a5:=Tryz.isAgg5
 z5:=Tryz.sizeOf5
 v5:=Tryz.zeroValue5
 infoByte:=by kernel_rfl
 cellsByte:=by kernel_rfl
 sizeByte:=by kernel_rfl
 neB5:=by decide}
end
def Mz(c:UInt8):Bool:=(decide (97≤c.toNat)&&decide (c.toNat≤122))||(decide (65≤c.toNat)&&decide (c.toNat≤90))||(decide (48≤c.toNat)&&decide (c.toNat≤57))|| [46,95,58,47,43,45,44,61,35].contains c.toNat
def q1(c:UInt8):List UInt8:=if Mz c then [c]else 42::enc2 c
def Rm(l:List UInt8):List UInt8:=if l=[]then [42]else l.flatMap q1
def unqS:List UInt8→Option (List UInt8)
 | []=>some []
 |c::l=>if Mz c then(unqS l).map (c::·)else if c=42 then(match l with
  |a::b::r=>if M5 a<0∨M5 b<0∨Mz (Na a b)=true then none else(unqS r).map (Na a b::·)
  |_=>none)else none
termination_by l=>l.length
def Vt(w:List UInt8):Option (List UInt8):=if w=[42]then some []else match unqS w with
 |some b=>if b=[]then none else some b
 |none=>none
theorem q1_plain{c:UInt8}(h:Mz c=true):q1 c=[c]:=if_pos h
theorem q1_not{c:UInt8}(h:Mz c=false):q1 c=42::enc2 c:=if_neg (by rw[h];decide)
theorem plain_mark:Mz 42=false:=by decide+kernel
theorem hex_lt(b:UInt8):b.toNat/16<16∧b.toNat%16<16:=by have:=b.toNat_lt;omega
theorem Xs{c:UInt8}{l:List UInt8}(h:Mz c=true):unqS (c::l)=(unqS l).map (c::·):=by rw[unqS.eq_def];exact if_pos h
theorem unqS_mark{a b:UInt8}{r:List UInt8}:unqS (42::a::b::r)=if M5 a<0∨M5 b<0∨Mz (Na a b)=true then none else(unqS r).map (Na a b::·):=by
 rw[unqS.eq_def]
 show(if Mz 42=true then _ else if (42:UInt8)=42 then _ else _)=_
 rw[if_neg (by rw[plain_mark];decide),if_pos rfl]
theorem unqS_short{l:List UInt8}(h:l.length<2):unqS (42::l)=none:=by
 rw[unqS.eq_def]
 show(if Mz 42=true then _ else if (42:UInt8)=42 then _ else _)=_
 rw[if_neg (by rw[plain_mark];decide),if_pos rfl]
 match l,h with
 | [],_=>rfl
 | [_],_=>rfl
 |_::_::_,h=>simp at h;omega
theorem unqS_bad{c:UInt8}{l:List UInt8}(h:Mz c=false)(h2:c≠42):unqS (c::l)=none:=by
 rw[unqS.eq_def]
 show(if Mz c=true then _ else if c=42 then _ else _)=_
 rw[if_neg (by rw[h];decide),if_neg h2]
theorem unqS_quo:∀l:List UInt8,unqS (l.flatMap q1)=some l
 | []=>by rw[List.flatMap_nil,unqS]
 | c::l=>by
  rw[List.flatMap_cons]
  cases hp:Mz c
  ·rw[q1_not hp]
   show unqS (42::Rc (c.toNat/16)::Rc (c.toNat%16)::l.flatMap q1)=_
   rw[unqS_mark,byteH_enc,valH_hexC _ (hex_lt c).1,valH_hexC _ (hex_lt c).2,hp,if_neg Zp,unqS_quo l]
   rfl
  ·rw[q1_plain hp]
   show unqS (c::l.flatMap q1)=_
   rw[Xs hp,unqS_quo l]
   rfl
theorem enc2_byteH{a b:UInt8}(ha:¬M5 a<0)(hb:¬M5 b<0):enc2 (Na a b)=[a,b]:=by
 have ra:=(T5 a).2
 have rb:=(T5 b).2
 rw[Na,enc2_ofNat Zo Zo,hexC_valH a ha,hexC_valH b hb]
theorem quo_unqS:∀(n:Nat) {w p:List UInt8},w.length≤n→unqS w=some p→p.flatMap q1=w
 |_,[],p,_,h=>by rw[unqS]at h;cases h;rfl
 |0,_::_,_,hn,_=>by simp at hn
 | n + 1,c::l,p,hn,h=>by
  simp only[List.length_cons]at hn
  cases hp:Mz c
  ·by_cases hc:c=42
   ·subst hc
    match l,hn,h with
    | [],_,h=>rw[unqS_short Zs]at h;cases h
    | [_],_,h=>rw[unqS_short Zs]at h;cases h
    | a ::b::r,hn,h=>
     rw[unqS_mark]at h
     split at h
     ·cases h
     ·rename_i hv
      cases hr:unqS r with
      |none=>rw[hr]at h;cases h
      | some q=>
       rw[hr]at h
       cases h
       have h3:Mz (Na a b)=false:=by
        cases h4:Mz (Na a b)
        ·rfl
        ·exact absurd (.inr (.inr h4)) hv
       simp only[List.length_cons]at hn
       rw[List.flatMap_cons,quo_unqS n Zo hr,q1_not h3,enc2_byteH (fun k=>hv (.inl k)) (fun k=>hv (.inr (.inl k)))]
       rfl
   ·rw[unqS_bad hp hc]at h;cases h
  ·rw[Xs hp]at h
   cases hr:unqS l with
   |none=>rw[hr]at h;cases h
   |some q=>
    rw[hr]at h
    cases h
    rw[List.flatMap_cons,quo_unqS n Zo hr,q1_plain hp]
    rfl
theorem quo_unq{w p:List UInt8}(h:Vt w=some p):Rm p=w:=by
 unfold Vt at h
 split at h
 ·rename_i hw;subst hw;cases h;rfl
 ·split at h
  ·rename_i b hb
   split at h
   ·cases h
   ·rename_i h0
    cases h
    unfold Rm
    rw[if_neg h0]
    exact quo_unqS _ (Nat.le_refl _) hb
  ·cases h
theorem q1_len(c:UInt8):1≤(q1 c).length∧(q1 c).length≤3:=by
 unfold q1;split<;>simp[enc2]
theorem flat_len(l:List UInt8):l.length≤(l.flatMap q1).length∧(l.flatMap q1).length≤3*l.length:=by
 induction l with
 |nil=>simp
 |cons c l ih=>
  have:=q1_len c
  simp only[List.flatMap_cons,List.length_append,List.length_cons]
  omega
theorem quo_len(l:List UInt8):1≤(Rm l).length∧(Rm l).length≤3*l.length+1:=by
 unfold Rm
 split
 ·simp
 ·rename_i h
  have:=flat_len l
  have:0<l.length:=List.length_pos_iff.2 h
  omega
def Km(c:UInt8):List UInt8→List (List UInt8)
 | []=>[[]]
 |b::l=>if b=c then []::Km c l else match Km c l with
  | []=>[[b]]
  |h::t=>(b::h)::t
def Sq(c:UInt8):List (List UInt8)→List UInt8
 | []=>[]
 | [x]=>x
 |x::l=>x++c::Sq c l
theorem R7(c:UInt8)(l:List UInt8):Km c l≠[]:=by
 cases l with
 |nil=>simp[Km]
 |cons b l=>
  unfold Km
  split
  ·simp
  ·split<;>simp
theorem splitBy_eq{c:UInt8}{l:List UInt8}:Km c (c::l)=[]::Km c l:=by rw[Km,if_pos rfl]
def Lp:List (List UInt8)→List (List UInt8)
 | []=>[]
 |w::l=>match Vt w with
  |some p=>p::Lp l
  |none=>[]
def Vp(l:List (List UInt8)):Bool:=l.all fun w=>(Vt w).isSome
theorem unqAll_len:∀l:List (List UInt8),(Lp l).length≤l.length
 | []=>Nat.le_refl _
 |w::l=>by
  unfold Lp
  have:=unqAll_len l
  split<;>simp<;>omega
theorem quo_all:∀{l:List (List UInt8)},Vp l=true→(Lp l).map Rm=l
 | [],_=>rfl
 |w::l,h=>by
  simp only[Vp,List.all_cons,Bool.and_eq_true]at h
  obtain⟨p,hp⟩:=Option.isSome_iff_exists.1 h.1
  rw[Lp,hp]
  show Rm p::(Lp l).map Rm=_
  rw[quo_unq hp,quo_all h.2]
def Oi(l:List (List UInt8)):List UInt8:=Sq 32 (l.map Rm)
def Ld(l:List UInt8):List (List UInt8):=if l=[]then []else Km 32 l
def T9(l:List (List UInt8)):List UInt8:=l.flatMap (· ++ [10])
theorem joinN_cons(x:List UInt8)(l:List (List UInt8)):T9 (x::l)=x++10::T9 l:=by simp[T9]
def Mm(l:List UInt8):List (List UInt8):=if l=[]then []else Km 10 l.dropLast
def okN(l:List UInt8):Bool:=l.isEmpty||l.getLast? ==some 10
theorem T6(c:UInt8):∀l:List UInt8,(Km c l).length=l.count c+1
 | []=>rfl
 | b::l=>by
  have ih:=T6 c l
  rw[Km]
  split
  ·rename_i hb;subst hb
   simp[ih]
  ·rename_i hb
   cases hs:Km c l with
   |nil=>exact absurd hs (R7 c l)
   |cons h t=>
    rw[hs]at ih
    rw[List.count_cons_of_ne hb]
    simpa using ih
section
variable{P:Program}{Δ:List Deferred}{W:World}{Q:Exit→Act→World→Prop}{Φ:World→Prop}{c:Nh}
theorem K0.callB{X:Type}{val:X→Value}{g:FuncId}{args:Array Value}{Φ':X→World→Prop}
 (hs:∀w,Below W.heap.size W w→Φ w→Calls P g args w (fun e w'=>∃x,e= .returned (val x)∧Below W.heap.size w w'∧∀w'',w'.heap.size≤w''.heap.size→(∀b,W.heap.size≤b→b<w'.heap.size→w''.heap[b]? =w'.heap[b]?)→Φ' x w''))
 (hb:c.st.box=fun _=>none) (hf:Qb c=true) (hc:Ln P c=some (g,args)) (h:∀x,K0 P Δ W Q (Φ' x) (Lg (.v (val x)) c)):K0 P Δ W Q Φ c:=by
 obtain⟨foc,k,σ⟩:=c
 have hb:σ.box=fun _=>none:=hb
 replace h:=fun x=>(h x).get
 refine⟨?_⟩
 unfold Ln at hc
 split at hc
 ·rename_i g' xs hn
  split at hc
  ·rename_i vs hv
   injection hc with hc
   injection hc with h1 h2
   subst h1;subst h2
   unfold S0 at hn
   split at hn
   ·rename_i ops o ho
    split at hn
    ·rename_i hw
     unfold O0 at ho
     simp only at ho
     split at ho
     ·rename_i ops' i l
      cases hoi:ops'[i]? with
      |none=>rw[hoi]at ho;cases ho
      |some o'=>
       rw[hoi]at ho
       simp only[Option.map_some,Option.some.injEq,Prod.mk.injEq]at ho
       obtain⟨rfl,rfl⟩:=ho
       intro hwf β a w hr
       show wpOps P ops' (post P Q k) (i::l) a w
       rw[wpOps_cons]
       unfold wpOp
       simp only[hoi,M8 hr,hw,if_true]
       refine .inl ?_
       unfold Oper.wp
       rw[Uq hn hr,P7 hv]
       refine Calls.mono (hs w hr.bel hr.phi) fun e w' he=> ?_
       obtain⟨x,rfl,hch,hG⟩:=he
       simp only[Tg,Lg,hoi,Option.bind_some]at h
       have hr':Pz Δ W β σ (Φ' x) a w':=⟨hr.tmps,hr.defers,⟨hch.os.trans hr.bel.os,hch.tape.trans hr.bel.tape,hch.output.trans hr.bel.output,Nat.le_trans hr.bel.size hch.size,fun k hk=>(hch.block k hk).trans (hr.bel.block k hk)⟩,(fun k cs hk=>by rw[hb]at hk;cases hk),hr.inj,(fun w'' hw=>hG w'' hw.size fun b h1 h2=>hw.heap b h1 h2 fun k hk=>by rw[hb]at hk;cases hk)⟩
       exact h x (hwf.put _ (by intro k hk;simp[AV.ids]at hk)) β _ w' (hr'.put o'.dst (.v (val x)))
     ·cases hf
     ·cases ho
    ·cases hn
   ·cases hn
  ·cases hc
 ·cases hc
end
def BAt(W:World)(g:Nat)(bs:List UInt8)(u:World):Prop:=Lib.IsBuilderF 95 5 W.heap.size g (Lib.byteCells bs) u
theorem ownsRowF_same{u v:World}{B:Nat}{e:TypeId}{x:Value}{n:Nat}{xs:List Value}(h:u.ownsRowF B e 1 x n xs)(e2:∀k,B≤k→k<u.heap.size→v.heap[k]? =u.heap[k]?):v.ownsRowF B e 1 x n xs:=by
 refine⟨h.1,?_⟩
 rcases h.2 with h1|⟨g,cap,cur,fz,h1,h2,h3,rest⟩
 ·exact .inl h1
 ·exact .inr ⟨g,cap,cur,fz,h1,h2,(e2 g h2 (Array.getElem?_eq_some_iff.1 h3).1).trans h3,rest⟩
theorem builderF_same{u v:World}{T e:TypeId}{B b:Nat}{p:Value}{bs:List Value}(h:Lib.BuilderAtF T e B b p bs u)(e2:∀k,B≤k→k<u.heap.size→v.heap[k]? =u.heap[k]?):Lib.BuilderAtF T e B b p bs v:=by
 have hlt:=h.lt
 obtain⟨hB,x,hv,hown,hne⟩:=h
 exact⟨hB,x,(e2 b hB hlt).trans hv,ownsRowF_same hown e2,hne⟩
theorem BAt.same{W u v:World}{g:Nat}{bs:List UInt8}(h:BAt W g bs u)(e2:∀k,W.heap.size≤k→k<u.heap.size→v.heap[k]? =u.heap[k]?):BAt W g bs v:=
 h.elim (fun x=> .inl (builderF_same x e2)) (fun x=> .inr (builderF_same x e2))
theorem byteCells_add(l:List UInt8)(c:UInt8):Lib.byteCells (l++ [c])=Lib.byteCells l++ [.int .u8 c.toNat]:=by simp[Lib.byteCells]
theorem byteCells_app(l m:List UInt8):Lib.byteCells (l++m)=Lib.byteCells l++Lib.strCells ⟨m.toArray⟩:=by simp[Lib.byteCells,Lib.strCells]
section
variable{W w:World}{g:Nat}{bs l:List UInt8}
theorem make_bld(hB:W.heap.size≤w.heap.size):Lj Tryz.prog w X5 (fun g u=>BAt W g [] u) (Up 95):=
 ⟨w.heap.size,w.alloc (.cells #[.pointer none,.slice none 0 0] 95),by simp only[Up,Instr.alloc,Sem.run_bind,U9 (show Xr Tryz.prog 95=some (.agg #[.pointer none,.slice none 0 0]) by kernel_rfl),Ua,Result.andThen_ok,Sem.run_pure,X5];rfl,U5 _ _,fun w'' h1 h2=> .inl ⟨hB,.slice none 0 0,(Un w _ h1 h2).1,World.ownsRowF_nil _ _ _ _,by simp[Value.ownBlock]⟩⟩
theorem wbyte_m(hw:Below W.heap.size W w)(h:BAt W g bs w)(c:UInt8)(hl:bs.length≤100000000):Calls Tryz.prog 58 #[X5 g,.int .u8 c.toNat] w (fun e w'=>∃x:Unit,e= .returned .nilIface∧Below W.heap.size w w'∧∀w'',w'.heap.size≤w''.heap.size→(∀b,W.heap.size≤b→b<w'.heap.size→w''.heap[b]? =w'.heap[b]?)→BAt W g (bs++ [c]) w''):=by
 refine Calls.mono (Any.Builder_WriteByte_k Tryz.layB167 Tryz.layBX W.heap.size g (Lib.byteCells bs) c.toNat w h (by rw[Lib.byteCells_length];omega) hw.size) fun e w' he=> ?_
 obtain⟨h1,h2,h3,_⟩:=he
 exact⟨(),h1,h3,fun w'' k1 k2=>by have h4:BAt W g (bs++ [c]) w':= .inr (by rw[byteCells_add];exact h2);exact h4.same k2⟩
theorem wstr_m(hw:Below W.heap.size W w)(h:BAt W g bs w)(hl:bs.length+l.length≤100000000):Calls Tryz.prog 39 #[X5 g,K4 l] w (fun e w'=>∃x:Unit,e= .returned (.tuple #[Zi l.length,.nilIface])∧Below W.heap.size w w'∧∀w'',w'.heap.size≤w''.heap.size→(∀b,W.heap.size≤b→b<w'.heap.size→w''.heap[b]? =w'.heap[b]?)→BAt W g (bs++l) w''):=by
 refine Calls.mono (Any.Builder_WriteString_k Tryz.layB166 Tryz.layBX W.heap.size g (Lib.byteCells bs) ⟨l.toArray⟩ w h (by rw[Lib.byteCells_length];show bs.length+l.length≤_;omega) hw.size) fun e w' he=> ?_
 obtain⟨h1,h2,h3,_⟩:=he
 exact⟨(),h1,h3,fun w'' k1 k2=>by have h4:BAt W g (bs++l) w':= .inr (by rw[byteCells_app];exact h2);exact h4.same k2⟩
theorem bstr_m(hw:Below W.heap.size W w)(h:BAt W g bs w):Calls Tryz.prog 40 #[X5 g] w (fun e w'=>∃x:Unit,e= .returned (K4 bs)∧Below W.heap.size w w'∧∀w'':World,w'.heap.size≤w''.heap.size→(∀b,W.heap.size≤b→b<w'.heap.size→w''.heap[b]? =w'.heap[b]?)→True):=
 Calls.mono (Tryz.Builder_String_any_f W.heap.size g bs w h hw.size) fun e w' he=>⟨(),he.1,he.2.2,fun _ _ _=>trivial⟩
end
def sgnL:List UInt8:=[46,95,58,47,43,45,44,61,35]
def Yu(c:UInt8):Bool:=(decide (97≤c.toNat)&&decide (c.toNat≤122))||(decide (65≤c.toNat)&&decide (c.toNat≤90))||(decide (48≤c.toNat)&&decide (c.toNat≤57))
theorem u8_back(c:UInt8):(((c.toNat:Nat):Int).toNat).toUInt8=c:=by simp
theorem sgn_idx(c:UInt8):decide (Lib.indexByte sgnL c≥0)=[46,95,58,47,43,45,44,61,35].contains c.toNat:=by
 have key:∀n:Fin 256,decide (Lib.indexByte sgnL (UInt8.ofNat n.val)≥0)=[46,95,58,47,43,45,44,61,35].contains n.val:=by decide+kernel
 have:=key ⟨c.toNat,by have:=c.toNat_lt;omega⟩
 simpa only[UInt8.ofNat_toNat]using this
theorem hex_idx(c:UInt8):Lib.indexByte hexT c=M5 c:=by
 have key:∀n:Fin 256,Lib.indexByte hexT (UInt8.ofNat n.val)=M5 (UInt8.ofNat n.val):=by decide+kernel
 have:=key ⟨c.toNat,by have:=c.toNat_lt;omega⟩
 simpa only[UInt8.ofNat_toNat]using this
theorem plain_let{c:UInt8}(h:Yu c=true):Mz c=true:=by
 unfold Mz;unfold Yu at h;rw[h];rfl
theorem plain_not{c:UInt8}(h:Yu c=false):Mz c=decide (Lib.indexByte sgnL c≥0):=by
 rw[sgn_idx];unfold Mz;unfold Yu at h;rw[h];rfl
section
variable{w:World}{l:List UInt8}
theorem sgn_m(c:UInt8):Zv 106 #[K4 sgnL,.int .u8 c.toNat] w (Zi (Lib.indexByte sgnL c)):=
 Calls.mono (Tryz.strings_IndexByte ⟨sgnL.toArray⟩ c.toNat w) fun e w' he=>⟨(),by rw[he.1,u8_back],by rw[he.2];exact Below.refl _ _,fun _ _ _=>trivial⟩
theorem hexi_m(c:UInt8):Zv 106 #[K4 hexT,.int .u8 c.toNat] w (Zi (M5 c)):=
 Calls.mono (Tryz.strings_IndexByte ⟨hexT.toArray⟩ c.toNat w) fun e w' he=>⟨(),by rw[he.1,u8_back,←hex_idx],by rw[he.2];exact Below.refl _ _,fun _ _ _=>trivial⟩
theorem plain_m(c:UInt8):Zv 57 #[.int .u8 c.toNat] w (.bool (Mz c)):=by
 have hc:(97≤c.toNat∧c.toNat≤122)∨(122<c.toNat)∨(90<c.toNat∧c.toNat<97)∨(65≤c.toNat∧c.toNat≤90)∨(57<c.toNat∧c.toNat<65)∨(48≤c.toNat∧c.toNat≤57)∨(c.toNat<48):=by omega
 refine K0.enter Tryz.func57 rfl <| ZS 2 ?_
 rcases hc with hc|hc|hc|hc|hc|hc|hc
 ·have hL:Yu c=true:=by unfold Yu;simp;omega
  exact K0.slot 5 (.bool (decide ((((c.toNat:Nat)):Int)≥97))) Zt Zk (by rw[decide_eq_true Zo]) <| ZS 6 <| K0.slot 9 (.bool (decide ((((c.toNat:Nat)):Int)≤122))) Zt Zk (by rw[decide_eq_true Zo]) <| ZS 1 <| ZR <| ZX Zt (by rw[plain_let hL])
 ·have hL:Yu c=false:=by unfold Yu;simp;omega
  exact K0.slot 5 (.bool (decide ((((c.toNat:Nat)):Int)≥97))) Zt Zk (by rw[decide_eq_true Zo]) <| ZS 6 <| K0.slot 9 (.bool (decide ((((c.toNat:Nat)):Int)≤122))) Zf Zk (by rw[decide_eq_false Zo]) <| ZS 9 <| K0.slot 12 (.bool (decide ((((c.toNat:Nat)):Int)≥65))) Zt Zk (by rw[decide_eq_true Zo]) <| ZS 1 <| K0.slot 18 (.bool (decide ((((c.toNat:Nat)):Int)≤90))) Zf Zk (by rw[decide_eq_false Zo]) <| ZS 4 <| K0.slot 21 (.bool (decide ((((c.toNat:Nat)):Int)≥48))) Zt Zk (by rw[decide_eq_true Zo]) <| ZS 9 <| ZT 26 (.bool (decide ((((c.toNat:Nat)):Int)≤57))) Zf (by rw[decide_eq_false Zo]) <| ZC (fun w1 hw h=>sgn_m c) fun u=>ZX (.bool (decide (Lib.indexByte sgnL c≥0))) (by rw[plain_not hL])
 ·have hL:Yu c=false:=by unfold Yu;simp;omega
  exact K0.slot 5 (.bool (decide ((((c.toNat:Nat)):Int)≥97))) Zf Zk (by rw[decide_eq_false Zo]) <| ZS 6 <| ZS 9 <| K0.slot 12 (.bool (decide ((((c.toNat:Nat)):Int)≥65))) Zt Zk (by rw[decide_eq_true Zo]) <| ZS 1 <| K0.slot 18 (.bool (decide ((((c.toNat:Nat)):Int)≤90))) Zf Zk (by rw[decide_eq_false Zo]) <| ZS 4 <| K0.slot 21 (.bool (decide ((((c.toNat:Nat)):Int)≥48))) Zt Zk (by rw[decide_eq_true Zo]) <| ZS 9 <| ZT 26 (.bool (decide ((((c.toNat:Nat)):Int)≤57))) Zf (by rw[decide_eq_false Zo]) <| ZC (fun w1 hw h=>sgn_m c) fun u=>ZX (.bool (decide (Lib.indexByte sgnL c≥0))) (by rw[plain_not hL])
 ·have hL:Yu c=true:=by unfold Yu;simp;omega
  exact K0.slot 5 (.bool (decide ((((c.toNat:Nat)):Int)≥97))) Zf Zk (by rw[decide_eq_false Zo]) <| ZS 6 <| ZS 9 <| K0.slot 12 (.bool (decide ((((c.toNat:Nat)):Int)≥65))) Zt Zk (by rw[decide_eq_true Zo]) <| ZS 1 <| ZT 18 (.bool (decide ((((c.toNat:Nat)):Int)≤90))) Zt (by rw[decide_eq_true Zo]) <| ZX Zt (by rw[plain_let hL])
 ·have hL:Yu c=false:=by unfold Yu;simp;omega
  exact K0.slot 5 (.bool (decide ((((c.toNat:Nat)):Int)≥97))) Zf Zk (by rw[decide_eq_false Zo]) <| ZS 6 <| ZS 9 <| K0.slot 12 (.bool (decide ((((c.toNat:Nat)):Int)≥65))) Zf Zk (by rw[decide_eq_false Zo]) <| ZS 1 <| ZS 4 <| K0.slot 21 (.bool (decide ((((c.toNat:Nat)):Int)≥48))) Zt Zk (by rw[decide_eq_true Zo]) <| ZS 9 <| ZT 26 (.bool (decide ((((c.toNat:Nat)):Int)≤57))) Zf (by rw[decide_eq_false Zo]) <| ZC (fun w1 hw h=>sgn_m c) fun u=>ZX (.bool (decide (Lib.indexByte sgnL c≥0))) (by rw[plain_not hL])
 ·have hL:Yu c=true:=by unfold Yu;simp;omega
  exact K0.slot 5 (.bool (decide ((((c.toNat:Nat)):Int)≥97))) Zf Zk (by rw[decide_eq_false Zo]) <| ZS 6 <| ZS 9 <| K0.slot 12 (.bool (decide ((((c.toNat:Nat)):Int)≥65))) Zf Zk (by rw[decide_eq_false Zo]) <| ZS 1 <| ZS 4 <| K0.slot 21 (.bool (decide ((((c.toNat:Nat)):Int)≥48))) Zt Zk (by rw[decide_eq_true Zo]) <| ZS 9 <| ZT 26 (.bool (decide ((((c.toNat:Nat)):Int)≤57))) Zt (by rw[decide_eq_true Zo]) <| ZX Zt (by rw[plain_let hL])
 ·have hL:Yu c=false:=by unfold Yu;simp;omega
  exact K0.slot 5 (.bool (decide ((((c.toNat:Nat)):Int)≥97))) Zf Zk (by rw[decide_eq_false Zo]) <| ZS 6 <| ZS 9 <| K0.slot 12 (.bool (decide ((((c.toNat:Nat)):Int)≥65))) Zf Zk (by rw[decide_eq_false Zo]) <| ZS 1 <| ZS 4 <| K0.slot 21 (.bool (decide ((((c.toNat:Nat)):Int)≥48))) Zf Zk (by rw[decide_eq_false Zo]) <| ZS 9 <| ZR <| ZC (fun w1 hw h=>sgn_m c) fun u=>ZX (.bool (decide (Lib.indexByte sgnL c≥0))) (by rw[plain_not hL])
end
def slC(t:TypeId)(s:Value)(kd:IntKind)(i j:Int):Sem Next:=Instr.sliceAt t s (some (.int kd i)) (some (.int kd j)) none >>= fun v=>pure (.value v)
section
variable{P:Program}{w:World}{l:List UInt8}{t:TypeId}
theorem run_slice_both(s:ByteArray)(ht:P.underlying t=some .string)(k1 k2:IntKind)(a b:Int)(h0:0≤a)(h1:a≤b)(h2:b≤s.size):
 (Instr.slice t (.string s) (some (.int k1 a)) (some (.int k2 b)) none).run P w= .ok (.string (s.extract a.toNat b.toNat)) w:=by
 simp[Instr.slice,run_underlying ht,Instr.sliceBounds,run_sliceBound,sliced, *,(by omega:0≤b)]
 rw[run_sliceBound _ _ _ _ _ h0 Zo]
 rfl
theorem run_slC{kd:IntKind}{i j:Nat}(ht:P.underlying t=some .string)(h1:i≤j)(h2:j≤l.length):(slC t (K4 l) kd i j).run P w= .ok (.value (K4 ((l.take j).drop i))) w:=by
 have:=run_slice_both (P:=P) (w:=w) ⟨l.toArray⟩ ht kd kd i j Zo Zo (by show(j:Int)≤((l.length:Nat):Int);omega)
 simp only[slC,K4,Sem.run_bind,sliceAtS ht]at this ⊢
 simp only[this,Result.andThen_ok,Sem.run_pure,Int.toNat_natCast]
 have e:(⟨l.toArray⟩:ByteArray).extract i j=⟨((l.take j).drop i).toArray⟩:=by
  apply ByteArray.ext
  simp[ByteArray.data_extract,List.drop_take]
 rw[e]
theorem Zc{kd:IntKind}{i:Nat}{b:UInt8}(ht:P.underlying t=some .string)(h:l[i]? =some b):(slC t (K4 l) kd i (i+1:Nat)).run P w= .ok (.value (K4 [b])) w:=by
 obtain⟨h1,h2⟩:=List.getElem?_eq_some_iff.1 h
 rw[run_slC ht (Nat.le_succ i) h1]
 have:(l.take (i+1)).drop i=[b]:=by
  rw[List.take_add_one,h,List.drop_append_of_le_length Zp]
  simp
 rw[this]
end
theorem flat_succ{l:List UInt8}{k:Nat}{c:UInt8}(h:l[k]? =some c):(l.take (k+1)).flatMap q1=(l.take k).flatMap q1++q1 c:=by
 rw[List.take_add_one,h];simp
theorem flat_take_len(l:List UInt8)(k:Nat):((l.take k).flatMap q1).length≤3*l.length:=by
 have:=(flat_len (l.take k)).2
 have h2:=List.length_take_le k l
 have h3:(l.take k).length≤l.length:=by rw[List.length_take];omega
 omega
theorem drop_at{l:List UInt8}{k:Nat}{c:UInt8}(h:l[k]? =some c):l.drop k=c::l.drop (k+1):=by
 obtain⟨h1,h2⟩:=List.getElem?_eq_some_iff.1 h
 rw[List.drop_eq_getElem_cons h1,h2]
section
variable{l p:List UInt8}{k:Nat}{a b c:UInt8}
theorem unq_one(h:unqS l=(unqS (l.drop k)).map (p++·))(hc:l[k]? =some c)(hp:Mz c=true):unqS l=(unqS (l.drop (k+1))).map ((p++ [c])++·):=by
 rw[h,drop_at hc,Xs hp,Option.map_map];congr 1;funext q;simp
theorem unq_bad(h:unqS l=(unqS (l.drop k)).map (p++·))(hc:l[k]? =some c)(hp:Mz c=false)(h2:c≠42):unqS l=none:=by
 rw[h,drop_at hc,unqS_bad hp h2];rfl
theorem unq_short(h:unqS l=(unqS (l.drop k)).map (p++·))(hc:l[k]? =some 42)(h2:l.length≤k+2):unqS l=none:=by
 rw[h,drop_at hc,unqS_short (by rw[List.length_drop];have:=(List.getElem?_eq_some_iff.1 hc).1;omega)];rfl
theorem unq_hex(h:unqS l=(unqS (l.drop k)).map (p++·))(hc:l[k]? =some 42)(ha:l[k+1]? =some a)(hb:l[k+2]? =some b):
 (M5 a<0∨M5 b<0∨Mz (Na a b)=true→unqS l=none)∧(¬(M5 a<0∨M5 b<0∨Mz (Na a b)=true)→unqS l=(unqS (l.drop (k+3))).map ((p++ [Na a b])++·)):=by
 rw[drop_at hc,drop_at ha,drop_at hb,unqS_mark]at h
 constructor
 ·intro hv;rw[h,if_pos hv];rfl
 ·intro hv;rw[h,if_neg hv,Option.map_map];congr 1;funext q;simp
theorem drop_end(h:l.length≤k):l.drop k=[]:=List.drop_of_length_le h
theorem unq_end(h:unqS l=(unqS (l.drop k)).map (p++·))(h2:l.length≤k):unqS l=some p:=by
 rw[h,drop_end h2,unqS];show some (p++ [])=_;rw[List.append_nil]
theorem Vs(h1:l≠[42])(h:unqS l=none):Vt l=none:=by unfold Vt;rw[if_neg h1,h]
theorem unqL_nil(h1:l≠[42])(h:unqS l=some []):Vt l=none:=by unfold Vt;rw[if_neg h1,h];rfl
theorem unqL_some(h1:l≠[42])(h:unqS l=some p)(h2:p≠[]):Vt l=some p:=by unfold Vt;rw[if_neg h1,h];exact if_neg h2
end
def unqV:Option (List UInt8)→Value
 |some p=> .tuple #[K4 p,.int .i64 0]
 |none=> .tuple #[K4 [],.int .i64 3]
theorem byteH_nat(a b:UInt8)(ha:0≤M5 a)(hb:0≤M5 b):IntKind.u8.wrap (bits .or .i64 (IntKind.i64.wrap (M5 a*2 ^ 4)) (M5 b))=((Na a b).toNat:Int):=byte_or ⟨ha,(T5 a).2⟩ ⟨hb,(T5 b).2⟩
section
variable{w:World}{l:List UInt8}
theorem plain_v{c:UInt8}{B:Bool}(h:Mz c=B):Zv 57 #[.int .u8 c.toNat] w (.bool B):=h▸plain_m c
theorem quote_m(hl:l.length≤10000000):Zv 28 #[K4 l] w (K4 (Rm l)):=by
 refine K0.enter Tryz.func28 rfl <| ZS 1 ?_
 by_cases h0:l=[]
 ·subst h0
  exact ZA (Pw .eql 9 (.tmp 6) (.const (.string ⟨#[]⟩)) (K4 []) (K4 [])) Zt (fun w1 hw h=>Kv Zs) <| ZI true <| ZW (.string ⟨#[42]⟩)
 have hq:Rm l=l.flatMap q1:=if_neg h0
 refine ZA (Pw .eql 9 (.tmp 6) (.const (.string ⟨#[]⟩)) (K4 l) (K4 [])) Zf (fun w1 hw h=>Kv (by simpa using h0)) <| K0.cond false Zk <| ZS 0 <| K0.make (Up 95) (X5) (fun g u=>BAt w g [] u) Zk (fun w1 hw h=>make_bld hw.size) fun g=>ZR <| K0.loop (ι:={q:Nat // q≤l.length}) 31 (fun q=>⟨[(0,.v (K4 l)),(3,.v (X5 g)),(9,.v (Zi l.length)),(10,.v (Zi q.1))],[]⟩) (fun q u=>BAt w g ((l.take q.1).flatMap q1) u) (fun q=>l.length-q.1) (⟨0,Nat.zero_le _⟩) Zk (fun _=>by kernel_rfl) ⟨Zk,Zk,Zk⟩ (fun u h=>h.2) ?_
 rintro⟨k,hk⟩ gg
 by_cases hlt:k<l.length
 ·refine ZR <| K0.condr (decide ((k:Int)<(l.length:Int))) true Zk Zp <| ZS 2 ?_
  obtain⟨c,hc⟩:∃c,l[k]? =some c:=⟨_,List.getElem?_eq_getElem hlt⟩
  have hb:=flat_take_len l k
  refine ZA (ixS 9 (K4 l) k) (.int .u8 c.toNat) (fun w1 hw h=>Qh Zk hc) ?_
  cases hp:Mz c
  ·have e1:=q1_not hp
   refine ZC (fun w1 hw h=>plain_v hp) fun u=>ZI false <| K0.callB (val:=fun _=> .nilIface) (Φ':=fun(_:Unit) u=>BAt w g ((l.take k).flatMap q1++ [42]) u) (fun w1 hw h=>wbyte_m hw h.1 42 (show((l.take k).flatMap q1).length≤100000000 from by omega)) Zk Zk Zk fun _=>ZS 2 <| K0.slot 22 (.int .u8 (((c.toNat:Nat):Int).fdiv (2 ^ 4))) (.int .u8 ((c.toNat/16:Nat):Int)) Zk (by rw[u8_shr]) <| ZA (ixK 9 (K4 hexT) .u8 (c.toNat/16:Nat)) (.int .u8 (Rc (c.toNat/16)).toNat) (fun w1 hw h=>run_ixK Zk (hexT_at _ (hex_lt c).1)) <| K0.callB (val:=fun _=> .nilIface) (Φ':=fun(_:Unit) u=>BAt w g (((l.take k).flatMap q1++ [42])++ [Rc (c.toNat/16)]) u) (fun w1 hw h=>wbyte_m hw h _ (by simp only[List.length_append,List.length_singleton];omega)) Zk Zk Zk fun _=>ZS 2 <| K0.slot 26 (.int .u8 (bits .and .u8 ((c.toNat:Nat):Int) 15)) (.int .u8 ((c.toNat%16:Nat):Int)) Zk (by rw[u8_and]) <| ZA (ixK 9 (K4 hexT) .u8 (c.toNat%16:Nat)) (.int .u8 (Rc (c.toNat%16)).toNat) (fun w1 hw h=>run_ixK Zk (hexT_at _ (hex_lt c).2)) <| K0.callB (val:=fun _=> .nilIface) (Φ':=fun(_:Unit) u=>BAt w g ((((l.take k).flatMap q1++ [42])++ [Rc (c.toNat/16)])++ [Rc (c.toNat%16)]) u) (fun w1 hw h=>wbyte_m hw h _ (by simp only[List.length_append,List.length_singleton];omega)) Zk Zk Zk fun _=>ZR <| K0.slot 10 (Zi (IntKind.i64.wrap ((k:Int)+1))) (Zi ((k+1:Nat):Int)) Zk (by rw[Ki hlt Zo]) <| K0.next (⟨k+1,by omega⟩) Zk (by show l.length- (k+1)<l.length-k;omega) ⟨Zk,Zk,Zk⟩ (fun _ h=>by show BAt w g ((l.take (k+1)).flatMap q1) _;rw[flat_succ hc,e1];simpa[enc2]using h)
  ·have e1:=q1_plain hp
   refine ZC (fun w1 hw h=>plain_v hp) fun u=>ZI true <| K0.callB (val:=fun _=> .nilIface) (Φ':=fun(_:Unit) u=>BAt w g ((l.take k).flatMap q1++ [c]) u) (fun w1 hw h=>wbyte_m hw h.1 c (show((l.take k).flatMap q1).length≤100000000 from by omega)) Zk Zk Zk fun _=>ZR <| K0.slot 10 (Zi (IntKind.i64.wrap ((k:Int)+1))) (Zi ((k+1:Nat):Int)) Zk (by rw[Ki hlt Zo]) <| K0.next (⟨k+1,by omega⟩) Zk (by show l.length- (k+1)<l.length-k;omega) ⟨Zk,Zk,Zk⟩ (fun _ h=>by show BAt w g ((l.take (k+1)).flatMap q1) _;rw[flat_succ hc,e1];exact h)
 ·refine ZR <| ZJ (decide ((k:Int)<(l.length:Int))) false Zp ?_
  have hfull:l.take k=l:=List.take_of_length_le Zo
  exact K0.leave Zk <| ZR <| K0.callB (val:=fun _=>K4 (l.flatMap q1)) (Φ':=fun(_:Unit) u=>True) (fun w1 hw h=>bstr_m hw (by rw[←hfull];exact h)) Zk Zk Zk fun _=>ZR <| ZX (K4 (l.flatMap q1)) (by rw[hq])
end
end Go.Proofs.YtoeiphicmcndlaaGreatDoor
