/-
 Fractions, the program's and the reference's.
-/
import Derived.Test.YtoeiphicmcndlaaGreatDoorAAn
import Derived.Test.YtoeiphicmcndlaaGreatDoorAIm
namespace Go.Proofs.YtoeiphicmcndlaaGreatDoor
set_option maxRecDepth 100000
set_option maxHeartbeats 8000000
set_option linter.unusedVariables false
set_option linter.unusedSimpArgs false
open Go.RowKit
structure RV where
 a:SV
 b:SV
@[reducible] def RV.val(r:RV):Value:= .agg #[.bool r.a.s,.slice r.a.A r.a.n r.a.c,.bool r.b.s,.slice r.b.A r.b.n r.b.c]
def Af(r:RV)(q:Rat)(K:Nat)(w:World):Prop:=∃x y:Int,Pg r.a x K w∧Pg r.b y K w∧q=Rat.divInt x y
def Nr(r:RV)(q:Rat)(K:Nat)(w:World):Prop:=T7 r.a q.num K w∧T7 r.b q.den K w
theorem qfromInt_m(z:Int)(w:World)(h1: -9223372036854775808≤z)(h2:z≤9223372036854775807):Calls Tryz.prog 175 #[Zi z] w (K7 w RV.val fun r w=>Nr r z 2 w):=by
 exact K0.enter Tryz.func175 rfl <| ZR <| ZC (fun w hb h=>Tg z w h1 h2) fun x=>ZC (fun w hb h=>Tg 1 w Zd Zd) fun y=>ZV (RV.val ⟨x,y⟩) <| fun w hb h=>⟨⟨x,y⟩,rfl,hb,fun w'' k1 k2=>⟨(h w'' k1 k2).1.2,(h w'' k1 k2).2⟩⟩
theorem gcd_m{a b:DV}{x y K:Nat}{w:World}(ha:C7 a x K w)(hb:C7 b y K w)(hK:K≤274877906944):
 Calls Tryz.prog 254 #[a.val,b.val] w (K7 w DV.val fun v w=>C6 v (Nat.gcd x y) K w):=by
 refine(gcd_c w ha.1 hb.1 (by have:=ha.2.2;omega) (by have:=hb.2.2;omega)).mono fun _ _ h=> ?_
 rw[ha.2.1,hb.2.1]at h
 refine h.post ?_
 rcases Nat.eq_zero_or_pos x with e|e
 ·rw[e,Nat.gcd_zero_left];exact hb.lt
 ·exact Nat.lt_of_le_of_lt (Nat.gcd_le_left _ e) ha.lt
theorem rgcd_m{a b:DV}{x y K:Nat}{w:World}(ha:C7 a x K w)(hb:C7 b y K w)(hK:K≤1073741824):
 Calls Tryz.prog 244 #[a.val,b.val] w (K7 w DV.val fun v w=>C6 v (Nat.gcd x y) K w):=by
 refine(refGcd_c w ha.1 hb.1 (by have:=ha.2.2;omega) (by have:=hb.2.2;omega)).mono fun _ _ h=> ?_
 rw[ha.2.1,hb.2.1]at h
 refine h.post ?_
 rcases Nat.eq_zero_or_pos x with e|e
 ·rw[e,Nat.gcd_zero_left];exact hb.lt
 ·exact Nat.lt_of_le_of_lt (Nat.gcd_le_left _ e) ha.lt
def DmVal(y:Nat)(q:DV×DV):Value:= .tuple #[q.1.val,q.2.val,Zi (divE y)]
theorem divmod_m{a b:DV}{x y K:Nat}{w:World}(ha:C7 a x K w)(hb:C7 b y K w)(hK:K≤274877906944):
 Calls Tryz.prog 256 #[a.val,b.val] w (K7 w (DmVal y) fun q w=>C6 q.1 (x/y) K w):=by
 refine(divmod_c w ha.1 hb.1 (by have:=ha.2.2;omega) (by have:=hb.2.2;omega)).mono fun _ _ h=> ?_
 obtain⟨A1,n1,c1,l1,A2,n2,c2,l2,rfl,N1,v1,N2,v2,o1,o2,hb2⟩:=h
 rw[ha.2.1,hb.2.1]at v1
 refine⟨(⟨A1,n1,c1,l1⟩,⟨A2,n2,c2,l2⟩),by rw[hb.2.1];rfl,hb2,fun w'' h1 h2=>⟨⟨(o1.mid h1 h2).toIn,v1,?_⟩,N1⟩⟩
 have h3:=N1.length_le (k:=K) (by rw[v1];exact Nat.lt_of_le_of_lt (Nat.div_le_self _ _) ha.lt)
 rw[o1.len]at h3
 exact h3
theorem Gn{P:Program}{t:TypeId}{p:Addr}{v:Value}{w:World}(ht:Rm P t=some false)(hc:w.cell? p=some v):
 (Instr.loadAt t (.pointer (some p)) >>= fun v=>(pure (.value v):Sem Next)).run P w= .ok (.value v) w:=by
 have hagg:(isAgg t).run P w= .ok false w:=by
  unfold Rm at ht
  split at ht
  ·cases ht
  ·cases ht
  ·rename_i d hn1 hn2 hd
   unfold isAgg
   rw[Sem.run_bind,run_underlying hd w]
   cases d<;>first|rfl|(exfalso;first|exact hn1 _ rfl|exact hn2 _ _ rfl)|(exfalso;first|exact hn1 _ hd|exact hn2 _ _ hd)
  ·cases ht
 have hl:(load p).run P w= .ok v w:=by simp[run_load,hc]
 simp only[Sem.run_bind,Instr.loadAt,Instr.sureAddr,Sem.run_pure,Result.andThen_ok,loadVar,hagg,hl,Bool.false_eq_true,if_false]
theorem cell_one{β:Nat}{w:World}{v:Value}{ty:TypeId}(h:w.heap[β]? =some (.cells #[v] ty (0,0))):w.cell? ⟨β,0,none⟩=some v:=by simp[World.cell?,h]
theorem part_m{a:SV}{b:DV}{x:Int}{y K:Nat}{w:World}{p:Addr}(ha:Pg a x K w)(hp:w.cell? p=some b.val)(hb:C7 b y K w)(hK:K≤274877906944):
 Calls Tryz.prog 255 #[a.val,.pointer (some p)] w (K7 w DV.val fun v w=>C6 v (x.natAbs/y) K w):=by
 refine K0.enter Tryz.func255 rfl <| ZS 2 <| ZA (Instr.loadAt 36 (.pointer (some p)) >>= fun v=>(pure (.value v):Sem Next)) b.val (fun w' hbl _=>Gn Zk (Lc hbl hp)) <| ZC (fun w1 hw h=>divmod_m (ha.d.below hw) (hb.below hw) hK) fun q=>ZV (q.1.val) (fun w1 hw h=>⟨q.1,rfl,hw,fun w'' k1 k2=>(h w'' k1 k2).2⟩)
theorem num_parts{x y:Int}(hy:y≠0):zi (decide (Q5 x*Q5 y<0)) (x.natAbs/Nat.gcd x.natAbs y.natAbs)=(Rat.divInt x y).num:=by
 rw[Rat.num_divInt]
 have hg:(y.gcd x:Nat)=Nat.gcd x.natAbs y.natAbs:=Nat.gcd_comm _ _
 rw[hg]
 have hd:Nat.gcd x.natAbs y.natAbs∣x.natAbs:=Nat.gcd_dvd_left _ _
 generalize Nat.gcd x.natAbs y.natAbs=g at hd ⊢
 have hd':(g:Int)∣(x.natAbs:Int):=Int.natCast_dvd_natCast.2 hd
 have hneg:(-(x.natAbs:Int))/(g:Int)= -((x.natAbs:Int)/g):=Int.neg_ediv_of_dvd hd'
 rcases Int.lt_trichotomy x 0 with h|h|h
 ·have e:(x.natAbs:Int)= -x:=by omega
  have s1:Q5 x= -1:=by simp[Q5,h]
  rcases Int.lt_trichotomy y 0 with k|k|k
  ·have s2:Q5 y= -1:=by simp[Q5,k]
   rw[s1,s2,Int.sign_eq_neg_one_of_neg k,show -1*x=(x.natAbs:Int) by omega]
   simp[zi]
  ·exact absurd k hy
  ·have s2:Q5 y=1:=by unfold Q5;rw[if_neg Zo,if_neg Zo]
   rw[s1,s2,Int.sign_eq_one_of_pos k,show 1*x= -(x.natAbs:Int) by omega,hneg]
   simp[zi]
 ·subst h
  simp[zi,Q5]
 ·have e:(x.natAbs:Int)=x:=by omega
  have s1:Q5 x=1:=by unfold Q5;rw[if_neg Zo,if_neg Zo]
  rcases Int.lt_trichotomy y 0 with k|k|k
  ·have s2:Q5 y= -1:=by simp[Q5,k]
   rw[s1,s2,Int.sign_eq_neg_one_of_neg k,show -1*x= -(x.natAbs:Int) by omega,hneg]
   simp[zi]
  ·exact absurd k hy
  ·have s2:Q5 y=1:=by unfold Q5;rw[if_neg Zo,if_neg Zo]
   rw[s1,s2,Int.sign_eq_one_of_pos k,show 1*x=(x.natAbs:Int) by omega]
   simp[zi]
theorem Hp{x y:Int}(hy:y≠0):zi false (y.natAbs/Nat.gcd x.natAbs y.natAbs)=((Rat.divInt x y).den:Int):=by
 rw[Rat.den_divInt,if_neg hy]
 have hg:(y.gcd x:Nat)=Nat.gcd x.natAbs y.natAbs:=Nat.gcd_comm _ _
 rw[hg]
 simp[zi]
theorem add_divInt{a b:Rat}:Rat.divInt (a.num*b.den+b.num*a.den) (a.den*b.den)=a+b:=by
 have h:=Rat.divInt_add_divInt a.num b.num (d₁:=a.den) (d₂:=b.den) (by have:=a.den_nz;omega) (by have:=b.den_nz;omega)
 rw[Rat.num_divInt_den,Rat.num_divInt_den]at h
 exact h.symm
theorem sub_divInt{a b:Rat}:Rat.divInt (a.num*b.den-b.num*a.den) (a.den*b.den)=a-b:=by
 have h:=Rat.divInt_sub_divInt a.num b.num (d₁:=a.den) (d₂:=b.den) (by have:=a.den_nz;omega) (by have:=b.den_nz;omega)
 rw[Rat.num_divInt_den,Rat.num_divInt_den]at h
 exact h.symm
theorem mul_divInt{a b:Rat}:Rat.divInt (a.num*b.num) (a.den*b.den)=a*b:=by
 have h:=Rat.divInt_mul_divInt a.num b.num (d₁:=a.den) (d₂:=b.den)
 rw[Rat.num_divInt_den,Rat.num_divInt_den]at h
 exact h.symm
theorem Zr(a b:Rat):(a.den:Int)*b.den≠0:=Int.mul_ne_zero (by have:=a.den_nz;omega) (by have:=b.den_nz;omega)
theorem cmp_rat{a b:Rat}:Q5 (a.num*b.den-b.num*a.den)=if a<b then -1 else if a=b then 0 else 1:=by
 unfold Q5
 have h1:=Rat.lt_iff a b
 have h2:=Rat.lt_iff b a
 by_cases h:a<b
 ·rw[if_pos h,if_pos (by have:=h1.1 h;omega)]
 ·rw[if_neg h,if_neg (fun k=>h (h1.2 Zo))]
  by_cases e:a=b
  ·rw[if_pos e,if_pos (by rw[e];omega)]
  ·rw[if_neg e,if_neg]
   intro k
   have:=Rat.le_antisymm (Rat.not_lt.1 fun q=>by have:=h2.1 q;omega) (Rat.not_lt.1 h)
   exact e this
theorem divInt_bd{x y:Int}{K:Nat}(hx:x.natAbs<pw K)(hy:y.natAbs<pw K)(h0:y≠0):(Rat.divInt x y).num.natAbs<pw K∧((Rat.divInt x y).den:Int).natAbs<pw K:=by
 rw[←num_parts h0,←Hp h0,Yy,Yy]
 exact⟨Nat.lt_of_le_of_lt (Nat.div_le_self _ _) hx,Nat.lt_of_le_of_lt (Nat.div_le_self _ _) hy⟩
theorem C6.sv{v:DV}{k K:Nat}{w:World}(s:Bool)(h:C6 v k K w):Pg ⟨s,v.A,v.n,v.c,v.l⟩ (zi s k) K w:=⟨h.1.1,by rw[←h.1.2.1],h.1.2.2⟩
theorem T7.cast'{v:SV}{x y:Int}{K:Nat}{w:World}(h:T7 v x K w)(e:x=y):T7 v y K w:=by rw[←e];exact h
theorem gcd_nz{x y:Int}(hy:y≠0):Nat.gcd x.natAbs y.natAbs≠0:=fun e=>by
 have:=(Nat.gcd_eq_zero_iff.1 e).2;omega
theorem cell_box{g:Nat}{w:World}{v:Value}(h:∃ty,w.heap[g]? =some (.cells #[v] ty (0,0))):w.cell? ⟨g,0,none⟩=some v:=by
 obtain⟨ty,h⟩:=h
 exact cell_one h
theorem sgn_is(x:Int):Q5 x= -1∨Q5 x=0∨Q5 x=1:=by unfold Q5;split<;>(try split)<;>simp
theorem wrap_sgn(x y:Int):IntKind.i64.wrap (Q5 x*Q5 y)=Q5 x*Q5 y:=by
 refine IntWalk.i64_in _ ?_
 rcases sgn_is x with e|e|e<;>rcases sgn_is y with k|k|k<;>rw[e,k]<;>decide
theorem lowest_m{a b:SV}{x y:Int}{K:Nat}{w:World}(ha:Pg a x K w)(hb:Pg b y K w)(hy:y≠0)(hK:K≤68719476736):
 Calls Tryz.prog 213 #[a.val,b.val] w (K7 w RV.val fun r w=>Nr r (Rat.divInt x y) K w):=by
 have hbd:=divInt_bd ha.lt hb.lt hy
 have hg:=gcd_nz (x:=x) hy
 refine K0.enter Tryz.func213 rfl <| ZR <| ZC (fun w1 hw h=>gcd_m (ha.d.below hw) (hb.d.below hw) Zo) fun g=>ZC (fun w1 hw h=>Um (ha.below hw) Zo) fun u=>ZC (fun w1 hw h=>Um (hb.below hw) Zo) fun u=>K0.call (val:=DV.val) (G:=fun v w=>C6 v (x.natAbs/Nat.gcd x.natAbs y.natAbs) K w) (xs:=[.v a.val,.p 5 0]) Zk (fun β w1 hw h hB=>part_m (ha.below hw) (cell_box (box_of hB (k:=5) (by simp[AV.ids]) (cs:=[.v g.val]) Zk)) h.1.1.2.1 Zo) fun p=>ZR <| ZC (fun w1 hw h=>Vh (C6.sv (decide (IntKind.i64.wrap (Q5 x*Q5 y)<0)) h.2) Zo) fun n=>K0.call (val:=DV.val) (G:=fun v w=>C6 v (y.natAbs/Nat.gcd x.natAbs y.natAbs) K w) (xs:=[.v b.val,.p 5 0]) Zk (fun β w1 hw h hB=>part_m (hb.below hw) (cell_box (box_of hB (k:=5) (by simp[AV.ids]) (cs:=[.v g.val]) Zk)) h.1.1.1.1.2.1 Zo) fun q=>ZR <| ZC (fun w1 hw h=>Vh (C6.sv false h.2) Zo) fun d=>ZV (RV.val ⟨n,d⟩) (fun w1 hw h=>⟨⟨n,d⟩,rfl,hw,fun w'' k1 k2=>⟨Rn ((h w'' k1 k2).1.1.2.cast' (by rw[wrap_sgn];exact num_parts hy)) hbd.1,Rn ((h w'' k1 k2).2.cast' (Hp hy)) hbd.2⟩⟩)
def SV0:SV:=⟨false,none,0,0,[]⟩
def Ju:RV:=⟨SV0,SV0⟩
def IsQE(r:RV)(x y:Int)(K:Nat)(w:World):Prop:=if y=0 then r=Ju else Nr r (Rat.divInt x y) K w
theorem IsQE.zero{x y:Int}{K:Nat}{w:World}(h:y=0):IsQE Ju x y K w:=by unfold IsQE;rw[if_pos h]
theorem IsQE.of{r:RV}{x y:Int}{K:Nat}{w:World}(h:y≠0)(hr:Nr r (Rat.divInt x y) K w):IsQE r x y K w:=by unfold IsQE;rw[if_neg h];exact hr
theorem IsQE.n{r:RV}{x y:Int}{K:Nat}{w:World}(h:IsQE r x y K w)(hy:y≠0):Nr r (Rat.divInt x y) K w:=by unfold IsQE at h;rw[if_neg hy]at h;exact h
def QEVal(y:Int)(r:RV):Value:= .tuple #[r.val,Zi (divEI y)]
theorem V5(y:Int):(Q5 y==0)=decide (y=0):=by
 unfold Q5
 by_cases h:y<0
 ·rw[if_pos h,decide_eq_false Zo];rfl
 ·rw[if_neg h]
  by_cases e:y=0
  ·rw[if_pos e,decide_eq_true e];rfl
  ·rw[if_neg e,decide_eq_false e];rfl
theorem divEI_no{y:Int}(h:y≠0):divEI y=0:=if_neg h
theorem divEI_yes{y:Int}(h:y=0):divEI y=9:=if_pos h
theorem qnew_m{a b:SV}{x y:Int}{K:Nat}{w:World}(ha:Pg a x K w)(hb:Pg b y K w)(hK:K≤68719476736):
 Calls Tryz.prog 174 #[a.val,b.val] w (K7 w (QEVal y) fun r w=>IsQE r x y K w):=by
 by_cases hy:y=0
 ·refine K0.enter Tryz.func174 rfl <| ZR <| ZC (fun w1 hw h=>Um (hb.below hw) Zo) fun u=>ZJ (Q5 y==0) true (by rw[V5,decide_eq_true hy]) <| ZV (.tuple #[Ju.val,Zi 9]) (fun w1 hw h=>⟨Ju,by unfold QEVal;rw[divEI_yes hy],hw,fun w'' k1 k2=> .zero hy⟩)
 ·refine K0.enter Tryz.func174 rfl <| ZR <| ZC (fun w1 hw h=>Um (hb.below hw) Zo) fun u=>ZJ (Q5 y==0) false (by rw[V5,decide_eq_false hy]) <| ZC (fun w1 hw h=>lowest_m (ha.below hw) (hb.below hw) hy hK) fun r=>ZV (.tuple #[r.val,Zi 0]) (fun w1 hw h=>⟨r,by unfold QEVal;rw[divEI_no hy],hw,fun w'' k1 k2=> .of hy (h w'' k1 k2).2⟩)
theorem Zm(x:Int):Rat.divInt x 0=0:=Rat.divInt_zero x
theorem M0{a:RV}{q:Rat}{K:Nat}{w:World}(ha:Af a q K w)(hK:2≤K∧K≤68719476736):
 Calls Tryz.prog 116 #[a.val] w (K7 w RV.val fun r w=>Nr r q K w):=by
 obtain⟨x,y,hx,hy,hq⟩:=ha
 by_cases h0:y=0
 ·have hq0:q=0:=by rw[hq,h0,Zm]
  refine K0.enter Tryz.func116 rfl <| ZR <| ZC (fun w1 hw h=>qnew_m (hx.below hw) (hy.below hw) hK.2) fun r=>ZJ (divEI y !=0) true (by rw[divEI_yes h0];rfl) <| ZC (fun w1 hw h=>qfromInt_m 0 w1 Zd Zd) fun z=>ZV (RV.val z) (fun w1 hw h=>⟨z,rfl,hw,fun w'' k1 k2=>by rw[hq0];exact⟨(h w'' k1 k2).2.1.mono hK.1,(h w'' k1 k2).2.2.mono hK.1⟩⟩)
 ·refine K0.enter Tryz.func116 rfl <| ZR <| ZC (fun w1 hw h=>qnew_m (hx.below hw) (hy.below hw) hK.2) fun r=>ZJ (divEI y !=0) false (by rw[divEI_no h0];rfl) <| ZV (RV.val r) (fun w1 hw h=>⟨r,rfl,hw,fun w'' k1 k2=>by rw[hq];exact(h w'' k1 k2).2.n h0⟩)
theorem Nr.q{r:RV}{q:Rat}{K:Nat}{w:World}(h:Nr r q K w):Af r q K w:=⟨q.num,q.den,h.1.1,h.2.1,(Rat.num_divInt_den q).symm⟩
theorem Af.below{r:RV}{q:Rat}{K:Nat}{w w':World}(h:Af r q K w)(hb:Below w.heap.size w w'):Af r q K w':=by
 obtain⟨x,y,h1,h2,h3⟩:=h
 exact⟨x,y,h1.below hb,h2.below hb,h3⟩
theorem Af.mono{r:RV}{q:Rat}{K K':Nat}{w:World}(h:Af r q K w)(hK:K≤K'):Af r q K' w:=by
 obtain⟨x,y,h1,h2,h3⟩:=h
 exact⟨x,y,h1.mono hK,h2.mono hK,h3⟩
theorem Nr.mono{r:RV}{q:Rat}{K K':Nat}{w:World}(h:Nr r q K w)(hK:K≤K'):Nr r q K' w:=⟨h.1.mono hK,h.2.mono hK⟩
theorem Nr.cast{r:RV}{p q:Rat}{K:Nat}{w:World}(h:Nr r p K w)(e:p=q):Nr r q K w:=by rw[←e];exact h
def Sw(p q:Rat):Int:=if p<q then -1 else if p=q then 0 else 1
section
variable{a b:RV}{p q:Rat}{K1 K2:Nat}{w:World}
def CrossVal(t:SV×SV×SV):Value:= .tuple #[t.1.val,t.2.1.val,t.2.2.val]
theorem cross_m(ha:Af a p K1 w)(hb:Af b q K2 w)(hK:2≤K1∧2≤K2∧K1+K2≤68719476736):
 Calls Tryz.prog 157 #[a.val,b.val] w (K7 w CrossVal fun t w=>T7 t.1 (p.num*q.den) (K1+K2) w∧T7 t.2.1 (q.num*p.den) (K1+K2) w∧T7 t.2.2 (p.den*q.den) (K1+K2) w):=by
 refine K0.enter Tryz.func157 rfl <| ZR <| ZC (fun w1 hw h=>M0 (ha.below hw) Zo) fun x=>ZC (fun w1 hw h=>M0 (hb.below hw) Zo) fun y=>ZC (fun w1 hw h=>imul_m h.1.2.1.i h.2.2.i Zo) fun u=>ZC (fun w1 hw h=>imul_m h.1.2.1.i h.1.1.2.2.i Zo) fun v=>ZC (fun w1 hw h=>imul_m h.1.1.1.2.2.i h.1.1.2.2.i Zo) fun t=>ZV (CrossVal (u,v,t)) (fun w1 hw h=>⟨(u,v,t),rfl,hw,fun w'' k1 k2=>⟨(h w'' k1 k2).1.1.2,(h w'' k1 k2).1.2.mono Zo,(h w'' k1 k2).2⟩⟩)
theorem Bj(ha:Af a p K1 w)(hb:Af b q K2 w)(hK:2≤K1∧2≤K2∧K1+K2≤68719476736):
 Zv 101 #[a.val,b.val] w (Zi (Sw p q)):=by
 exact K0.enter Tryz.func101 rfl <| ZR <| ZC (fun w1 hw h=>cross_m (ha.below hw) (hb.below hw) hK) fun t=>ZC (fun w1 hw h=>icmp_m h.2.1.i h.2.2.1.i Zo) fun u=>ZX (Zi (Q5 (p.num*q.den-q.num*p.den))) (by rw[cmp_rat];rfl)
theorem iadd_e{a b:SV}{x y:Int}{K:Nat}{w:World}(ha:Pg a x K w)(hb:Pg b y K w)(hK:K+1≤68719476736):Calls Tryz.prog 221 #[a.val,b.val] w (K7 w SV.val fun v w=>T7 v (x+y) (K+1) w):=
 (iadd_m ha hb Zo).mono fun _ _ h=>h.impG fun v u q=>Rn q (abs_add_lt ha.lt hb.lt)
theorem isub_e{a b:SV}{x y:Int}{K:Nat}{w:World}(ha:Pg a x K w)(hb:Pg b y K w)(hK:K+1≤68719476736):Calls Tryz.prog 176 #[a.val,b.val] w (K7 w SV.val fun v w=>T7 v (x-y) (K+1) w):=
 (isub_m ha hb Zo).mono fun _ _ h=>h.impG fun v u q=>Rn q (abs_sub_lt ha.lt hb.lt)
theorem qsub_m(ha:Af a p K1 w)(hb:Af b q K2 w)(hK:2≤K1∧2≤K2∧K1+K2≤68719476000):
 Calls Tryz.prog 158 #[a.val,b.val] w (K7 w RV.val fun r w=>Nr r (p-q) (K1+K2+1) w):=by
 refine K0.enter Tryz.func158 rfl <| ZR <| ZC (fun w1 hw h=>cross_m (ha.below hw) (hb.below hw) Zo) fun t=>ZC (fun w1 hw h=>isub_e h.2.1.i h.2.2.1.i Zo) fun s=>ZC (fun w1 hw h=>lowest_m h.2.i (h.1.2.2.2.i.mono Zo) (Zr p q) Zo) fun r=>ZV (RV.val r) (fun w1 hw h=>⟨r,rfl,hw,fun w'' k1 k2=>(h w'' k1 k2).2.cast sub_divInt⟩)
theorem qmul_m(ha:Af a p K1 w)(hb:Af b q K2 w)(hK:2≤K1∧2≤K2∧K1+K2≤68719476000):
 Calls Tryz.prog 159 #[a.val,b.val] w (K7 w RV.val fun r w=>Nr r (p*q) (K1+K2) w):=by
 refine K0.enter Tryz.func159 rfl <| ZR <| ZC (fun w1 hw h=>M0 (ha.below hw) Zo) fun x=>ZC (fun w1 hw h=>M0 (hb.below hw) Zo) fun y=>ZC (fun w1 hw h=>imul_m h.1.2.1.i h.2.1.i Zo) fun n=>ZC (fun w1 hw h=>imul_m h.1.1.2.2.i h.1.2.2.i Zo) fun d=>ZC (fun w1 hw h=>lowest_m h.1.2.i h.2.i (Zr p q) Zo) fun r=>ZV (RV.val r) (fun w1 hw h=>⟨r,rfl,hw,fun w'' k1 k2=>(h w'' k1 k2).2.cast mul_divInt⟩)
end
def Kj(t:TypeId)(x:Value)(k:Int):Sem Next:=Instr.indexAt t x (Zi k) >>= fun v=>pure (.value v)
def L5(t:TypeId)(p:Addr):Sem Next:=Instr.loadAt t (.pointer (some p)) >>= fun v=>pure (.value v)
theorem Kn{P:Program}{t elem:TypeId}{ad:Addr}{n c k:Nat}{w:World}(hu:P.underlying t=some (.slice elem))(hs:Nz P elem=some 1)(hk:k<n):
 (Kj t (.slice (some ad) n c) k).run P w= .ok (.value (.pointer (some (ad.add k)))) w:=by
 have hb:0≤(k:Int)∧(k:Int)<(n:Int):=by omega
 simp only[Kj,Instr.indexAt,asIntOf,Sem.run_bind,Sem.run_pure,Result.andThen_ok,run_underlying hu,Lf hs,if_pos hb,Int.toNat_natCast,Nat.mul_one]
theorem K8{P:Program}{t:TypeId}{p:Addr}{v:Value}{w:World}(ht:Rm P t=some false)(hc:w.cell? p=some v):(L5 t p).run P w= .ok (.value v) w:=Gn ht hc
def R3(a b:SV):Bool:=decide (a.s=b.s)&&decide (a.l=b.l)
theorem sameB_no1{a b:SV}(h:(a.s !=b.s)=true):R3 a b=false:=by
 unfold R3;rw[decide_eq_false (by simpa using h)];rfl
theorem Ce{a b:SV}(h:a.l≠b.l):R3 a b=false:=by
 unfold R3;rw[decide_eq_false h,Bool.and_false]
theorem sameB_yes{a b:SV}(h:(a.s !=b.s)=false)(h2:a.l=b.l):R3 a b=true:=by
 unfold R3;rw[decide_eq_true (by simpa using h),decide_eq_true h2];rfl
theorem Ie{l m:List Nat}{k:Nat}(h:∀i,i<k→dg l i=dg m i)(he:dg l k=dg m k):∀i,i<k+1→dg l i=dg m i:=by
 intro i hi
 rcases Nat.lt_or_ge i k with h1|h1
 ·exact h i h1
 ·obtain rfl:i=k:=by omega
  exact he
theorem dg_ext{l m:List Nat}(h:l.length=m.length)(hd:∀i,i<l.length→dg l i=dg m i):l=m:=by
 refine List.ext_getElem h fun i h1 h2=> ?_
 have:=hd i h1
 unfold dg at this
 simpa[h1,h2]using this
theorem Kd{k n:Nat}(h:k<n)(hn:n≤9223372036854775807):IntKind.i64.wrap ((k:Int)+1)=((k+1:Nat):Int):=by
 rw[IntWalk.i64_in _ Zo];omega
theorem Wp{a b:SV}{x y:Int}{K1 K2:Nat}{w:World}(ha:Pg a x K1 w)(hb:Pg b y K2 w):
 Zv 243 #[a.val,b.val] w (.bool (R3 a b)):=by
 have hla:=ha.inn.len
 have hlb:=hb.inn.len
 have hnI:=ha.inn.lenI
 refine K0.enter Tryz.func243 rfl <| ZS 6 ?_
 cases hs:(a.s !=b.s)
 case true=>
  exact ZT 11 (.bool (a.s !=b.s)) Zt (by rw[hs]) <| ZI true <| ZX Zf (by rw[sameB_no1 hs])
 refine ZT 11 (.bool (a.s !=b.s)) Zf (by rw[hs]) ?_
 by_cases hn:a.n=b.n
 case neg=>
  have hne:a.l≠b.l:=fun e=>hn (by rw[←hla,←hlb,e])
  exact ZJ ((a.n:Int) !=(b.n:Int)) true Zp <| ZX Zf (by rw[Ce hne])
 refine ZJ ((a.n:Int) !=(b.n:Int)) false Zp <| K0.loop (ι:={k:Nat // k≤a.n∧∀i,i<k→dg a.l i=dg b.l i}) 38 (fun i=>⟨[(2,.p 2 0),(3,.p 3 0),(5,.v (Zi i.1))],[(2,[.v (.bool a.s),.v (.slice a.A a.n a.c)]),(3,[.v (.bool b.s),.v (.slice b.A b.n b.c)])]⟩) (fun _ _=>True) (fun i=>a.n-i.1) (⟨0,by omega,by omega⟩) Zk (fun _=>by kernel_rfl) ⟨Zk,Zk,Zk⟩ (fun _ _=>trivial) ?_
 rintro⟨k,hk,hkd⟩ g
 by_cases hlt:k<a.n
 ·refine ZR <| ZJ (decide ((k:Int)<(a.n:Int))) true Zp ?_
  obtain⟨ad,hA,hca⟩:=ha.inn.at_ (k:=k) hlt
  obtain⟨bd,hB,hcb⟩:=hb.inn.at_ (k:=k) Zo
  refine ZB 3 (Kj 36 (.slice a.A a.n a.c) k) (.pointer (some (ad.add k))) (fun w1 hw h=>by rw[hA];exact Kn (elem:=175) Zk Zk hlt) <| ZB 4 (L5 175 (ad.add k)) (.int .u32 (dg a.l k)) (fun w1 hw h=>K8 Zk (Lc hw hca)) <| ZB 8 (Kj 36 (.slice b.A b.n b.c) k) (.pointer (some (bd.add k))) (fun w1 hw h=>by rw[hB];exact Kn (elem:=175) Zk Zk Zo) <| ZB 9 (L5 175 (bd.add k)) (.int .u32 (dg b.l k)) (fun w1 hw h=>K8 Zk (Lc hw hcb)) ?_
  by_cases he:dg a.l k=dg b.l k
  ·refine ZJ ((((dg a.l k:Nat):Int) !=((dg b.l k:Nat):Int))) false (by rw[he];simp) <| K0.slot 5 (Zi (IntKind.i64.wrap ((k:Int)+1))) (Zi ((k+1:Nat):Int)) Zk (by rw[Kd hlt hnI]) <| K0.next (⟨k+1,by omega,Ie hkd he⟩) Zk (by show a.n- (k+1)<a.n-k;omega) ⟨Zk,Zk,Zk⟩ (fun _ _=>trivial)
  ·exact ZJ ((((dg a.l k:Nat):Int) !=((dg b.l k:Nat):Int))) true Zp <| K0.leave Zk <| ZR <| ZX Zf (by rw[Ce fun e=>he (by rw[e])])
 ·refine ZR <| ZJ (decide ((k:Int)<(a.n:Int))) false Zp <| K0.leave Zk <| ZR ?_
  have hl:a.l=b.l:=dg_ext Zo fun i hi=>hkd i Zo
  exact ZX Zt (by rw[sameB_yes hs hl])
theorem qsame_m{a b:SV}{x y:Int}{K1 K2:Nat}{w:World}(ha:Pg a x K1 w)(hb:Pg b y K2 w):
 Zv 249 #[a.val,b.val] w (.bool (R3 a b)):=by
 have hla:=ha.inn.len
 have hlb:=hb.inn.len
 have hnI:=ha.inn.lenI
 refine K0.enter Tryz.func249 rfl <| ZS 6 ?_
 cases hs:(a.s !=b.s)
 case true=>
  exact ZT 12 (.bool (a.s !=b.s)) Zt (by rw[hs]) <| ZI true <| ZX Zf (by rw[sameB_no1 hs])
 refine ZT 12 (.bool (a.s !=b.s)) Zf (by rw[hs]) ?_
 by_cases hn:a.n=b.n
 case neg=>
  have hne:a.l≠b.l:=fun e=>hn (by rw[←hla,←hlb,e])
  exact ZJ ((a.n:Int) !=(b.n:Int)) true Zp <| ZX Zf (by rw[Ce hne])
 refine ZJ ((a.n:Int) !=(b.n:Int)) false Zp <| K0.loop (ι:={k:Nat // k≤a.n∧∀i,i<k→dg a.l i=dg b.l i}) 37 (fun i=>⟨[(2,.p 2 0),(3,.p 3 0),(24,.v (Zi i.1)),(22,.v (.slice a.A a.n a.c)),(23,.v (Zi a.n))],[(2,[.v (.bool a.s),.v (.slice a.A a.n a.c)]),(3,[.v (.bool b.s),.v (.slice b.A b.n b.c)])]⟩) (fun _ _=>True) (fun i=>a.n-i.1) (⟨0,by omega,by omega⟩) Zk (fun _=>by kernel_rfl) ⟨Zk,Zk,Zk⟩ (fun _ _=>trivial) ?_
 rintro⟨k,hk,hkd⟩ g
 by_cases hlt:k<a.n
 ·refine ZR <| ZJ (decide ((k:Int)<(a.n:Int))) true Zp ?_
  obtain⟨ad,hA,hca⟩:=ha.inn.at_ (k:=k) hlt
  obtain⟨bd,hB,hcb⟩:=hb.inn.at_ (k:=k) Zo
  refine ZA (Kj 36 (.slice a.A a.n a.c) k) (.pointer (some (ad.add k))) (fun w1 hw h=>by rw[hA];exact Kn (elem:=175) Zk Zk hlt) <| ZA (L5 175 (ad.add k)) (.int .u32 (dg a.l k)) (fun w1 hw h=>K8 Zk (Lc hw hca)) <| ZA (Kj 36 (.slice b.A b.n b.c) k) (.pointer (some (bd.add k))) (fun w1 hw h=>by rw[hB];exact Kn (elem:=175) Zk Zk Zo) <| ZA (L5 175 (bd.add k)) (.int .u32 (dg b.l k)) (fun w1 hw h=>K8 Zk (Lc hw hcb)) ?_
  by_cases he:dg a.l k=dg b.l k
  ·refine ZJ ((((dg a.l k:Nat):Int) !=((dg b.l k:Nat):Int))) false (by rw[he];simp) <| K0.slot 24 (Zi (IntKind.i64.wrap ((k:Int)+1))) (Zi ((k+1:Nat):Int)) Zk (by rw[Kd hlt hnI]) <| K0.next (⟨k+1,by omega,Ie hkd he⟩) Zk (by show a.n- (k+1)<a.n-k;omega) ⟨Zk,Zk,Zk⟩ (fun _ _=>trivial)
  ·exact ZJ ((((dg a.l k:Nat):Int) !=((dg b.l k:Nat):Int))) true Zp <| K0.leave Zk <| ZR <| ZX Zf (by rw[Ce fun e=>he (by rw[e])])
 ·refine ZR <| ZJ (decide ((k:Int)<(a.n:Int))) false Zp <| K0.leave Zk <| ZR ?_
  have hl:a.l=b.l:=dg_ext Zo fun i hi=>hkd i Zo
  exact ZX Zt (by rw[sameB_yes hs hl])
theorem Wn{a b:SV}{x y:Int}{K1 K2:Nat}{w:World}{B:Bool}(hs:R3 a b=B)(ha:Pg a x K1 w)(hb:Pg b y K2 w):
 Zv 243 #[a.val,b.val] w (.bool B):=by subst hs;exact Wp ha hb
theorem qsame_v{a b:SV}{x y:Int}{K1 K2:Nat}{w:World}{B:Bool}(hs:R3 a b=B)(ha:Pg a x K1 w)(hb:Pg b y K2 w):
 Zv 249 #[a.val,b.val] w (.bool B):=by subst hs;exact qsame_m ha hb
section
variable{a b:RV}{p q:Rat}{K K1 K2:Nat}{w:World}
theorem natAbs_den(q:Rat):((q.den:Int)).natAbs=q.den:=by omega
def bitsQ(q:Rat):Nat:=max (bitsN q.num.natAbs) (bitsN q.den)
theorem if_max(a b:Nat):(if ((b:Int)>(a:Int))then(b:Int)else(a:Int))=((max a b:Nat):Int):=by
 split<;>omega
theorem Uw(ha:Af a q K w)(hK:2≤K∧K≤68719476736):
 Zv 148 #[a.val] w (Zi (bitsQ q:Nat)):=by
 exact K0.enter Tryz.func148 rfl <| ZR <| ZC (fun w1 hw h=>M0 (ha.below hw) hK) fun x=>ZC (fun w1 hw h=>ibitLen_m h.2.1.i Zo) fun u=>ZC (fun w1 hw h=>ibitLen_m h.1.2.2.i Zo) fun u=>ZX (Zi (if ((bitsN ((q.den:Int)).natAbs:Nat):Int)>(bitsN q.num.natAbs:Nat)then((bitsN ((q.den:Int)).natAbs:Nat):Int)else(bitsN q.num.natAbs:Nat))) (by rw[natAbs_den,if_max];rfl)
theorem E0{v z:SV}{x y:Int}{K K':Nat}{w w':World}(hv:Pg v x K w)(hz:T7 z y K' w'):R3 v z=(isn v.s v.l&&decide (x=y)):=by
 obtain⟨hz1,N,hs,_⟩:=hz
 have hx:=hv.zi
 have hy:=hz1.zi
 have hva:=hv.abs
 have hza:=hz1.abs
 unfold R3 isn
 by_cases e:x=y
 ·subst e
  have ev:val v.l=val z.l:=by rw[←hva,←hza]
  by_cases ht:trim v.l=v.l
  ·have hl:v.l=z.l:=by
    have h1:=Kw hv.inn.dig
    rw[ht]at h1
    exact h1.unique N ev
   have hpos:decide (0<v.l.length)=decide (0<x.natAbs):=by
    have h1:=Kw hv.inn.dig
    rw[ht]at h1
    rw[←h1.len_pos,hva]
   rw[decide_eq_true ht,decide_eq_true hl,hpos]
   cases hvs:v.s
   ·have:¬x<0:=by rw[←hx,hvs];simp[II.zi,Go.Proofs.YtoeiphicmcndlaaGreatDoor.zi]
    rw[decide_eq_true (by rw[hs,decide_eq_false this])];simp
   ·rw[hs]
    have h2:x= -(val v.l:Int):=by rw[←hx,hvs];simp[Go.Proofs.YtoeiphicmcndlaaGreatDoor.zi]
    by_cases hp:0<x.natAbs
    ·rw[decide_eq_true hp,decide_eq_true (show x<0 by omega)];simp
    ·rw[decide_eq_false hp,decide_eq_false (show¬x<0 by omega)];simp
  ·have hl:v.l≠z.l:=fun e=>ht (by rw[e];exact N.trim)
   rw[decide_eq_false ht,decide_eq_false hl];simp
 ·rw[decide_eq_false e]
  have:¬(v.s=z.s∧v.l=z.l):=fun⟨h1,h2⟩=>e (by rw[←hx,←hy,h1,h2])
  by_cases h1:v.s=z.s
  ·rw[decide_eq_false (fun h2=>this ⟨h1,h2⟩)];simp
  ·rw[decide_eq_false h1];simp
def isnQ(r:RV)(x y:Int):Bool:=decide (y≠0)&&(isn r.a.s r.a.l&&decide (x=(Rat.divInt x y).num))&&(isn r.b.s r.b.l&&decide (y=(Rat.divInt x y).den))
theorem qisn_m{x y:Int}(hx:Pg a.a x K w)(hy:Pg a.b y K w)(hK:2≤K∧K≤68719476736):
 Zv 205 #[a.val] w (.bool (isnQ a x y)):=by
 have ha:Af a (Rat.divInt x y) K w:=⟨x,y,hx,hy,rfl⟩
 by_cases h0:y=0
 ·exact K0.enter Tryz.func205 rfl <| ZR <| ZC (fun w1 hw h=>M0 (ha.below hw) hK) fun z=>ZD 4 (fun w1 hw h=>Um (hy.below hw) Zo) fun u=>ZT 9 (.bool (Q5 y !=0)) Zf (by show Value.bool (!(Q5 y==0))=_;rw[V5,decide_eq_true h0];rfl) <| ZX Zf (by unfold isnQ;rw[decide_eq_false (by simpa using h0)];rfl)
 ·refine K0.enter Tryz.func205 rfl <| ZR <| ZC (fun w1 hw h=>M0 (ha.below hw) hK) fun z=>ZD 4 (fun w1 hw h=>Um (hy.below hw) Zo) fun u=>ZT 9 (.bool (Q5 y !=0)) Zt (by show Value.bool (!(Q5 y==0))=_;rw[V5,decide_eq_false h0];rfl) ?_
  have fin:∀{w1:World},Nr z (Rat.divInt x y) K w1→isnQ a x y=(R3 a.a z.a&&R3 a.b z.b):=fun{w1} hz=>by
   rw[E0 hx hz.1,E0 hy hz.2]
   unfold isnQ
   rw[decide_eq_true h0,Bool.true_and]
  cases hs:R3 a.a z.a
  ·refine ZC (fun w1 hw h=>qsame_v hs (hx.below hw) h.1.2.1.i) fun u=>ZV Zf (fun w1 hw h=>⟨(),by rw[fin (h w1 (Nat.le_refl _) fun _ _ _=>rfl).1.1.2,hs];rfl,hw,fun _ _ _=>trivial⟩)
  ·refine ZC (fun w1 hw h=>qsame_v hs (hx.below hw) h.1.2.1.i) fun u=>ZC (fun w1 hw h=>qsame_m (hy.below hw) h.1.1.2.2.i) fun u=>ZV (.bool (R3 a.b z.b)) (fun w1 hw h=>⟨(),by rw[fin (h w1 (Nat.le_refl _) fun _ _ _=>rfl).1.1.1.2,hs];rfl,hw,fun _ _ _=>trivial⟩)
end
theorem sgn_lt0(y:Int):decide (Q5 y<0)=decide (y<0):=by
 unfold Q5
 by_cases h:y<0
 ·rw[if_pos h,decide_eq_true h];rfl
 ·rw[if_neg h,decide_eq_false h];split<;>rfl
theorem radd_e{a b:SV}{x y:Int}{K:Nat}{w:World}(ha:Pg a x K w)(hb:Pg b y K w)(hK:K+1≤68719476736):Calls Tryz.prog 265 #[a.val,b.val] w (K7 w SV.val fun v w=>T7 v (x+y) (K+1) w):=
 (radd_m ha hb Zo).mono fun _ _ h=>h.impG fun v u q=>Rn q (abs_add_lt ha.lt hb.lt)
theorem quoI_pos{x g:Int}(hg:0<g):Iy x g=x/g:=by
 unfold Iy
 rw[if_neg Zo,Int.fdiv_eq_ediv_of_nonneg _ Zo]
theorem red_num{x y:Int}(hy:y≠0):Iy (if y<0 then -x else x) (Nat.gcd x.natAbs y.natAbs)=(Rat.divInt x y).num:=by
 rw[quoI_pos (by have:=gcd_nz (x:=x) hy;omega),Rat.num_divInt]
 have hg:(y.gcd x:Nat)=Nat.gcd x.natAbs y.natAbs:=Nat.gcd_comm _ _
 rw[hg]
 by_cases h:y<0
 ·rw[if_pos h,Int.sign_eq_neg_one_of_neg h];congr 1;omega
 ·rw[if_neg h,Int.sign_eq_one_of_pos Zo];congr 1;omega
theorem red_den{x y:Int}(hy:y≠0):Iy (if y<0 then -y else y) (Nat.gcd x.natAbs y.natAbs)=((Rat.divInt x y).den:Int):=by
 rw[quoI_pos (by have:=gcd_nz (x:=x) hy;omega),←Hp hy,show(if y<0 then -y else y)=(y.natAbs:Int) by split<;>omega]
 simp[zi]
section
variable{a b:RV}{p q:Rat}{K K1 K2:Nat}{w:World}
theorem Wu{a b:SV}{x y:Int}(ha:Pg a x K w)(hb:Pg b y K w)(hy:y≠0)(hK:K≤1073741824):
 Calls Tryz.prog 203 #[a.val,b.val] w (K7 w RV.val fun r w=>Nr r (Rat.divInt x y) K w):=by
 have hbd:=divInt_bd ha.lt hb.lt hy
 by_cases hs:y<0
 ·refine K0.enter Tryz.func203 rfl <| ZR <| ZC (fun w1 hw h=>rgcd_m (ha.d.below hw) (hb.d.below hw) hK) fun g=>ZC (fun w1 hw h=>Q6 (C6.sv false h.2) Zo) fun G=>ZC (fun w1 hw h=>Sf (hb.below hw) Zo) fun u=>ZJ (decide (Q5 y<0)) true (by rw[sgn_lt0,decide_eq_true hs]) <| ZC (fun w1 hw h=>rneg_m (ha.below hw) Zo) fun n=>ZC (fun w1 hw h=>rneg_m (hb.below hw) Zo) fun d=>ZC (fun w1 hw h=>Ch h.1.2.i h.1.1.1.2.i Zo) fun s=>ZC (fun w1 hw h=>Ch h.1.2.i h.1.1.1.1.2.i Zo) fun t=>ZV (RV.val ⟨s.1,t.1⟩) (fun w1 hw h=>⟨⟨s.1,t.1⟩,rfl,hw,fun w'' k1 k2=>⟨Rn ((h w'' k1 k2).1.2.1.cast (by rw[←red_num hy,if_pos hs];rfl)) hbd.1,Rn ((h w'' k1 k2).2.1.cast (by rw[←red_den hy,if_pos hs];rfl)) hbd.2⟩⟩)
 ·refine K0.enter Tryz.func203 rfl <| ZR <| ZC (fun w1 hw h=>rgcd_m (ha.d.below hw) (hb.d.below hw) hK) fun g=>ZC (fun w1 hw h=>Q6 (C6.sv false h.2) Zo) fun G=>ZC (fun w1 hw h=>Sf (hb.below hw) Zo) fun u=>ZJ (decide (Q5 y<0)) false (by rw[sgn_lt0,decide_eq_false hs]) <| ZC (fun w1 hw h=>Ch (ha.below hw) h.1.2.i Zo) fun s=>ZC (fun w1 hw h=>Ch (hb.below hw) h.1.1.2.i Zo) fun t=>ZV (RV.val ⟨s.1,t.1⟩) (fun w1 hw h=>⟨⟨s.1,t.1⟩,rfl,hw,fun w'' k1 k2=>⟨Rn ((h w'' k1 k2).1.2.1.cast (by rw[←red_num hy,if_neg hs];rfl)) hbd.1,Rn ((h w'' k1 k2).2.1.cast (by rw[←red_den hy,if_neg hs];rfl)) hbd.2⟩⟩)
theorem Bg(z:Int)(w:World)(h1: -9223372036854775808≤z)(h2:z≤9223372036854775807):Calls Tryz.prog 124 #[Zi z] w (K7 w RV.val fun r w=>Nr r z 2 w):=by
 refine K0.enter Tryz.func124 rfl <| ZR <| ZC (fun w1 hw h=>E3 z w1 h1 h2) fun x=>ZC (fun w1 hw h=>E3 1 w1 Zd Zd) fun y=>ZV (RV.val ⟨x,y⟩) (fun w1 hw h=>⟨⟨x,y⟩,rfl,hw,fun w'' k1 k2=>⟨(h w'' k1 k2).1.2,(h w'' k1 k2).2⟩⟩)
theorem Lv(ha:Af a q K w)(hK:2≤K∧K≤1073741824):
 Calls Tryz.prog 142 #[a.val] w (K7 w RV.val fun r w=>Nr r q K w):=by
 obtain⟨x,y,hx,hy,hq⟩:=ha
 by_cases h0:y=0
 ·have hq0:q=0:=by rw[hq,h0,Zm]
  refine K0.enter Tryz.func142 rfl <| ZR <| ZC (fun w1 hw h=>Sf (hy.below hw) Zo) fun u=>ZJ (Q5 y==0) true (by rw[V5,decide_eq_true h0]) <| ZC (fun w1 hw h=>Bg 0 w1 Zd Zd) fun z=>ZV (RV.val z) (fun w1 hw h=>⟨z,rfl,hw,fun w'' k1 k2=>by rw[hq0];exact⟨(h w'' k1 k2).2.1.mono hK.1,(h w'' k1 k2).2.2.mono hK.1⟩⟩)
 ·refine K0.enter Tryz.func142 rfl <| ZR <| ZC (fun w1 hw h=>Sf (hy.below hw) Zo) fun u=>ZJ (Q5 y==0) false (by rw[V5,decide_eq_false h0]) <| ZC (fun w1 hw h=>Wu (hx.below hw) (hy.below hw) h0 hK.2) fun r=>ZV (RV.val r) (fun w1 hw h=>⟨r,rfl,hw,fun w'' k1 k2=>by rw[hq];exact(h w'' k1 k2).2⟩)
theorem rqcmp_m(ha:Af a p K1 w)(hb:Af b q K2 w)(hK:2≤K1∧2≤K2∧K1+K2≤1073741824):
 Zv 122 #[a.val,b.val] w (Zi (Sw p q)):=by
 exact K0.enter Tryz.func122 rfl <| ZR <| ZC (fun w1 hw h=>Lv (ha.below hw) Zo) fun x=>ZC (fun w1 hw h=>Lv (hb.below hw) Zo) fun y=>ZC (fun w1 hw h=>E1 h.1.2.1.i h.2.2.i Zo) fun u=>ZC (fun w1 hw h=>E1 h.1.2.1.i h.1.1.2.2.i Zo) fun v=>ZC (fun w1 hw h=>rcmp_m h.1.2.i h.2.i Zo) fun u=>ZX (Zi (Q5 (p.num*q.den-q.num*p.den))) (by rw[cmp_rat];rfl)
theorem rqneg_m(ha:Af a p K1 w)(hK:2≤K1∧K1≤1073741824):
 Calls Tryz.prog 230 #[a.val] w (K7 w RV.val fun r w=>Nr r (-p) K1 w):=by
 refine K0.enter Tryz.func230 rfl <| ZR <| ZC (fun w1 hw h=>Lv (ha.below hw) hK) fun x=>ZC (fun w1 hw h=>rneg_m h.2.1.i Zo) fun u=>ZV (RV.val ⟨u,x.b⟩) (fun w1 hw h=>⟨⟨u,x.b⟩,rfl,hw,fun w'' k1 k2=>⟨(h w'' k1 k2).2,(h w'' k1 k2).1.2.2⟩⟩)
theorem rqadd_m(ha:Af a p K1 w)(hb:Af b q K2 w)(hK:2≤K1∧2≤K2∧K1+K2≤1073741820):
 Calls Tryz.prog 229 #[a.val,b.val] w (K7 w RV.val fun r w=>Nr r (p+q) (K1+K2+1) w):=by
 refine K0.enter Tryz.func229 rfl <| ZR <| ZC (fun w1 hw h=>Lv (ha.below hw) Zo) fun x=>ZC (fun w1 hw h=>Lv (hb.below hw) Zo) fun y=>ZC (fun w1 hw h=>E1 h.1.2.1.i h.2.2.i Zo) fun u=>ZC (fun w1 hw h=>E1 h.1.2.1.i h.1.1.2.2.i Zo) fun v=>ZC (fun w1 hw h=>radd_e h.1.2.i (h.2.i.mono (show K2+K1≤K1+K2 by omega)) Zo) fun s=>ZC (fun w1 hw h=>E1 h.1.1.1.1.2.2.i h.1.1.1.2.2.i Zo) fun d=>ZC (fun w1 hw h=>Wu h.1.2.i (h.2.i.mono Zo) (Zr p q) Zo) fun r=>ZV (RV.val r) (fun w1 hw h=>⟨r,rfl,hw,fun w'' k1 k2=>(h w'' k1 k2).2.cast add_divInt⟩)
theorem sub_neg'(p q:Rat):p+ -q=p-q:=by grind
theorem rqsub_m(ha:Af a p K1 w)(hb:Af b q K2 w)(hK:2≤K1∧2≤K2∧K1+K2≤1073741820):
 Calls Tryz.prog 181 #[a.val,b.val] w (K7 w RV.val fun r w=>Nr r (p-q) (K1+K2+1) w):=by
 refine K0.enter Tryz.func181 rfl <| ZR <| ZC (fun w1 hw h=>rqneg_m (hb.below hw) Zo) fun n=>ZC (fun w1 hw h=>rqadd_m (ha.below hw) h.2.q hK) fun r=>ZV (RV.val r) (fun w1 hw h=>⟨r,rfl,hw,fun w'' k1 k2=>(h w'' k1 k2).2.cast (sub_neg' p q)⟩)
theorem rqmul_m(ha:Af a p K1 w)(hb:Af b q K2 w)(hK:2≤K1∧2≤K2∧K1+K2≤1073741820):
 Calls Tryz.prog 182 #[a.val,b.val] w (K7 w RV.val fun r w=>Nr r (p*q) (K1+K2) w):=by
 refine K0.enter Tryz.func182 rfl <| ZR <| ZC (fun w1 hw h=>Lv (ha.below hw) Zo) fun x=>ZC (fun w1 hw h=>Lv (hb.below hw) Zo) fun y=>ZC (fun w1 hw h=>E1 h.1.2.1.i h.2.1.i Zo) fun n=>ZC (fun w1 hw h=>E1 h.1.1.2.2.i h.1.2.2.i Zo) fun d=>ZC (fun w1 hw h=>Wu h.1.2.i h.2.i (Zr p q) Zo) fun r=>ZV (RV.val r) (fun w1 hw h=>⟨r,rfl,hw,fun w'' k1 k2=>(h w'' k1 k2).2.cast mul_divInt⟩)
theorem Td(ha:Af a q K w)(hK:2≤K∧K≤1073741824):
 Zv 178 #[a.val] w (Zi (bitsQ q:Nat)):=by
 exact K0.enter Tryz.func178 rfl <| ZR <| ZC (fun w1 hw h=>Lv (ha.below hw) hK) fun x=>ZC (fun w1 hw h=>rbitLen_m h.2.1.i Zo) fun u=>ZC (fun w1 hw h=>rbitLen_m h.1.2.2.i Zo) fun u=>ZX (Zi (if ((bitsN ((q.den:Int)).natAbs:Nat):Int)>(bitsN q.num.natAbs:Nat)then((bitsN ((q.den:Int)).natAbs:Nat):Int)else(bitsN q.num.natAbs:Nat))) (by rw[natAbs_den,if_max];rfl)
def Gk(a b:RV):Bool:=R3 a.a b.a&&R3 a.b b.b
theorem rsame_m{x y z t:Int}(hx:Pg a.a x K w)(hy:Pg a.b y K w)(hz:Pg b.a z K1 w)(ht:Pg b.b t K1 w):
 Zv 201 #[a.val,b.val] w (.bool (Gk a b)):=by
 cases hs:R3 a.a b.a
 ·exact K0.enter Tryz.func201 rfl <| ZR <| ZC (fun w1 hw h=>Wn hs (hx.below hw) (hz.below hw)) fun u=>ZX Zf (by unfold Gk;rw[hs];rfl)
 ·exact K0.enter Tryz.func201 rfl <| ZR <| ZC (fun w1 hw h=>Wn hs (hx.below hw) (hz.below hw)) fun u=>ZC (fun w1 hw h=>Wp (hy.below hw) (ht.below hw)) fun u=>ZX (.bool (R3 a.b b.b)) (by unfold Gk;rw[hs];rfl)
theorem rsame_v{x y z t:Int}{B:Bool}(hB:Gk a b=B)(hx:Pg a.a x K w)(hy:Pg a.b y K w)(hz:Pg b.a z K1 w)(ht:Pg b.b t K1 w):
 Zv 201 #[a.val,b.val] w (.bool B):=by subst hB;exact rsame_m hx hy hz ht
end
theorem isn_n2{v:SV}{x:Int}{K:Nat}{w:World}(h:T7 v x K w):isn v.s v.l=true:=by
 obtain⟨h1,N,hs,_⟩:=h
 have hva:=h1.abs
 unfold isn
 rw[decide_eq_true N.trim,←N.len_pos,←hva]
 cases hv:v.s
 ·rfl
 ·rw[hv]at hs
  have:x<0:=by simpa using hs.symm
  rw[decide_eq_true Zo];rfl
end Go.Proofs.YtoeiphicmcndlaaGreatDoor
