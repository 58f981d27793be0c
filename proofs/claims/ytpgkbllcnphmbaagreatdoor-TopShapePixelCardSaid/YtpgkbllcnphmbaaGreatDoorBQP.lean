/-
 A part of the proof.
-/
import Derived.Test.YtpgkbllcnphmbaaGreatDoorAAn
import Derived.Test.YtpgkbllcnphmbaaGreatDoorBWk
import Derived.Defers
namespace Go.Proofs.YtpgkbllcnphmbaaGreatDoor
set_option maxRecDepth 100000
set_option maxHeartbeats 8000000
set_option linter.unusedVariables false
set_option linter.unusedSimpArgs false
open Go.RowKit
structure RV where
 a:SV
 b:SV
@[reducible] def RV.val(r:RV):Value:= .agg #[.bool r.a.s,.slice r.a.A r.a.n r.a.c,.bool r.b.s,.slice r.b.A r.b.n r.b.c]
def Ox(r:RV)(q:Rat)(K:Nat)(w:World):Prop:=∃x y:Int,Ss r.a x K w∧Ss r.b y K w∧q=Rat.divInt x y
def Kh(r:RV)(q:Rat)(K:Nat)(w:World):Prop:=Xr r.a q.num K w∧Xr r.b q.den K w
theorem Ki(z:Int)(w:World)(h1: -9223372036854775808≤z)(h2:z≤9223372036854775807):Calls Tryz.prog 57 #[.int .i64 z] w (K3 w RV.val fun r w=>Kh r z 2 w):=by
 refine K0.enter Tryz.func57 rfl ?_
 refine ZR ?_
 refine ZC (fun w hb h=>Xj z w h1 h2) fun x=> ?_
 refine ZC (fun w hb h=>Xj 1 w Zd Zd) fun y=> ?_
 refine ZV (RV.val ⟨x,y⟩) ?_
 exact fun w hb h=>⟨⟨x,y⟩,rfl,hb,fun w'' k1 k2=>⟨(h w'' k1 k2).1.2,(h w'' k1 k2).2⟩⟩
theorem gcd_m{a b:DV}{x y K:Nat}{w:World}(ha:Cz a x K w)(hb:Cz b y K w)(hK:K≤274877906944):
 Calls Tryz.prog 175 #[a.val,b.val] w (K3 w DV.val fun v w=>Ys v (Nat.gcd x y) K w):=by
 refine(gcd_c w ha.1 hb.1 (by have:=ha.2.2;omega) (by have:=hb.2.2;omega)).mono fun _ _ h=> ?_
 rw[ha.2.1,hb.2.1]at h
 refine h.post ?_
 rcases Nat.eq_zero_or_pos x with e|e
 ·rw[e,Nat.gcd_zero_left];exact hb.lt
 ·exact Nat.lt_of_le_of_lt (Nat.gcd_le_left _ e) ha.lt
def DmVal(y:Nat)(q:DV×DV):Value:= .tuple #[q.1.val,q.2.val,.int .i64 (divE y)]
theorem divmod_m{a b:DV}{x y K:Nat}{w:World}(ha:Cz a x K w)(hb:Cz b y K w)(hK:K≤274877906944):
 Calls Tryz.prog 172 #[a.val,b.val] w (K3 w (DmVal y) fun q w=>Ys q.1 (x/y) K w):=by
 refine(F4 w ha.1 hb.1 (by have:=ha.2.2;omega) (by have:=hb.2.2;omega)).mono fun _ _ h=> ?_
 obtain⟨A1,n1,c1,l1,A2,n2,c2,l2,rfl,N1,v1,N2,v2,o1,o2,hb2⟩:=h
 rw[ha.2.1,hb.2.1]at v1
 refine⟨(⟨A1,n1,c1,l1⟩,⟨A2,n2,c2,l2⟩),by rw[hb.2.1];rfl,hb2,fun w'' h1 h2=>⟨⟨(o1.mid h1 h2).toIn,v1,?_⟩,N1⟩⟩
 have h3:=N1.length_le (k:=K) (by rw[v1];exact Nat.lt_of_le_of_lt (Nat.div_le_self _ _) ha.lt)
 rw[o1.len]at h3
 exact h3
theorem Gp{P:Program}{t:TypeId}{p:Addr}{v:Value}{w:World}(ht:Ob P t=some false)(hc:w.cell? p=some v):
 (Instr.loadAt t (.pointer (some p)) >>= fun v=>(pure (.value v):Sem Next)).run P w= .ok (.value v) w:=by
 have hagg:(isAgg t).run P w= .ok false w:=by
  unfold Ob at ht
  split at ht
  ·cases ht
  ·cases ht
  ·rename_i d hn1 hn2 hd
   unfold isAgg
   rw[Sem.run_bind,run_underlying hd w]
   cases d<;>first|rfl|(exfalso;first|exact hn1 _ rfl|exact hn2 _ _ rfl)|(exfalso;first|exact hn1 _ hd|exact hn2 _ _ hd)
  ·cases ht
 have hl:(load p).run P w= .ok v w:=by simp[run_load,hc]
 simp only[Sem.run_bind,Instr.loadAt,Instr.sureAddr,Sem.run_pure,Result.andThen_ok,loadVar,hagg,hl,Bool.false_eq_true,if_false]
theorem cell_one{β:Nat}{w:World}{v:Value}{ty:TypeId}(h:w.heap[β]? =some (.cells #[v] ty (0,0))):w.cell? ⟨β,0,none⟩=some v:=by simp[World.cell?,h]
theorem part_m{a:SV}{b:DV}{x:Int}{y K:Nat}{w:World}{p:Addr}(ha:Ss a x K w)(hp:w.cell? p=some b.val)(hb:Cz b y K w)(hK:K≤274877906944):
 Calls Tryz.prog 176 #[a.val,.pointer (some p)] w (K3 w DV.val fun v w=>Ys v (x.natAbs/y) K w):=by
 refine K0.enter Tryz.func176 rfl ?_
 refine ZS 2 ?_
 refine ZA (Instr.loadAt 22 (.pointer (some p)) >>= fun v=>(pure (.value v):Sem Next)) b.val (fun w' hbl _=>Gp Zk (Kt hbl hp)) ?_
 refine ZC (fun w1 hw h=>divmod_m (ha.d.below hw) (hb.below hw) hK) fun q=> ?_
 refine ZV (q.1.val) (fun w1 hw h=>⟨q.1,rfl,hw,fun w'' k1 k2=>(h w'' k1 k2).2⟩)
theorem H4{x y:Int}(hy:y≠0):zi (decide (Uq x*Uq y<0)) (x.natAbs/Nat.gcd x.natAbs y.natAbs)=(Rat.divInt x y).num:=by
 rw[Rat.num_divInt]
 have hg:(y.gcd x:Nat)=Nat.gcd x.natAbs y.natAbs:=Nat.gcd_comm _ _
 rw[hg]
 have hd:Nat.gcd x.natAbs y.natAbs∣x.natAbs:=Nat.gcd_dvd_left _ _
 generalize Nat.gcd x.natAbs y.natAbs=g at hd ⊢
 have hd':(g:Int)∣(x.natAbs:Int):=Int.natCast_dvd_natCast.2 hd
 have hneg:(-(x.natAbs:Int))/(g:Int)= -((x.natAbs:Int)/g):=Int.neg_ediv_of_dvd hd'
 rcases Int.lt_trichotomy x 0 with h|h|h
 ·have e:(x.natAbs:Int)= -x:=by omega
  have s1:Uq x= -1:=by simp[Uq,h]
  rcases Int.lt_trichotomy y 0 with k|k|k
  ·have s2:Uq y= -1:=by simp[Uq,k]
   rw[s1,s2,Int.sign_eq_neg_one_of_neg k,show -1*x=(x.natAbs:Int) by omega]
   simp[zi]
  ·exact absurd k hy
  ·have s2:Uq y=1:=by unfold Uq;rw[if_neg Zo,if_neg Zo]
   rw[s1,s2,Int.sign_eq_one_of_pos k,show 1*x= -(x.natAbs:Int) by omega,hneg]
   simp[zi]
 ·subst h
  simp[zi,Uq]
 ·have e:(x.natAbs:Int)=x:=by omega
  have s1:Uq x=1:=by unfold Uq;rw[if_neg Zo,if_neg Zo]
  rcases Int.lt_trichotomy y 0 with k|k|k
  ·have s2:Uq y= -1:=by simp[Uq,k]
   rw[s1,s2,Int.sign_eq_neg_one_of_neg k,show -1*x= -(x.natAbs:Int) by omega,hneg]
   simp[zi]
  ·exact absurd k hy
  ·have s2:Uq y=1:=by unfold Uq;rw[if_neg Zo,if_neg Zo]
   rw[s1,s2,Int.sign_eq_one_of_pos k,show 1*x=(x.natAbs:Int) by omega]
   simp[zi]
theorem Hs{x y:Int}(hy:y≠0):zi false (y.natAbs/Nat.gcd x.natAbs y.natAbs)=((Rat.divInt x y).den:Int):=by
 rw[Rat.den_divInt,if_neg hy]
 have hg:(y.gcd x:Nat)=Nat.gcd x.natAbs y.natAbs:=Nat.gcd_comm _ _
 rw[hg]
 simp[zi]
theorem Fq{a b:Rat}:Rat.divInt (a.num*b.den+b.num*a.den) (a.den*b.den)=a+b:=by
 have h:=Rat.divInt_add_divInt a.num b.num (d₁:=a.den) (d₂:=b.den) (by have:=a.den_nz;omega) (by have:=b.den_nz;omega)
 rw[Rat.num_divInt_den,Rat.num_divInt_den]at h
 exact h.symm
theorem sub_divInt{a b:Rat}:Rat.divInt (a.num*b.den-b.num*a.den) (a.den*b.den)=a-b:=by
 have h:=Rat.divInt_sub_divInt a.num b.num (d₁:=a.den) (d₂:=b.den) (by have:=a.den_nz;omega) (by have:=b.den_nz;omega)
 rw[Rat.num_divInt_den,Rat.num_divInt_den]at h
 exact h.symm
theorem mul_divInt{a b:Rat}:Rat.divInt (a.num*b.num) (a.den*b.den)=a*b:=by
 have h:=Rat.divInt_mul_divInt a.num b.num (d₁:=a.den) (d₂:=b.den)
 rw[Rat.num_divInt_den,Rat.num_divInt_den]at h
 exact h.symm
theorem quo_divInt{a b:Rat}:Rat.divInt (a.num*b.den) (a.den*b.num)=a/b:=by
 rw[Rat.div_def]
 have h:=Rat.divInt_mul_divInt a.num b.den (d₁:=a.den) (d₂:=b.num)
 rw[←h,Rat.num_divInt_den,←Rat.inv_divInt,Rat.num_divInt_den]
theorem Ub(a b:Rat):(a.den:Int)*b.den≠0:=Int.mul_ne_zero (by have:=a.den_nz;omega) (by have:=b.den_nz;omega)
theorem half_divInt{a b:Rat}:Rat.divInt (a.num*b.den+b.num*a.den) (a.den*b.den+a.den*b.den)=(a+b)/2:=by
 have h:=Rat.divInt_mul_divInt (a.num*b.den+b.num*a.den) 1 (d₁:=a.den*b.den) (d₂:=2)
 rw[Fq]at h
 rw[show(a.den:Int)*b.den+a.den*b.den=a.den*b.den*2 by omega,←Int.mul_one (a.num*b.den+b.num*a.den),←h,Rat.div_def,Rat.inv_def]
 rfl
theorem cmp_rat{a b:Rat}:Uq (a.num*b.den-b.num*a.den)=if a<b then -1 else if a=b then 0 else 1:=by
 unfold Uq
 have h1:=Rat.lt_iff a b
 have h2:=Rat.lt_iff b a
 by_cases h:a<b
 ·rw[if_pos h,if_pos (by have:=h1.1 h;omega)]
 ·rw[if_neg h,if_neg (fun k=>h (h1.2 Zo))]
  by_cases e:a=b
  ·rw[if_pos e,if_pos (by rw[e];omega)]
  ·rw[if_neg e,if_neg]
   intro k
   have:=Rat.le_antisymm (Rat.not_lt.1 fun q=>by have:=h2.1 q;omega) (Rat.not_lt.1 h)
   exact e this
theorem divInt_bd{x y:Int}{K:Nat}(hx:x.natAbs<pw K)(hy:y.natAbs<pw K)(h0:y≠0):(Rat.divInt x y).num.natAbs<pw K∧((Rat.divInt x y).den:Int).natAbs<pw K:=by
 rw[←H4 h0,←Hs h0,zi_abs,zi_abs]
 exact⟨Nat.lt_of_le_of_lt (Nat.div_le_self _ _) hx,Nat.lt_of_le_of_lt (Nat.div_le_self _ _) hy⟩
theorem Ys.sv{v:DV}{k K:Nat}{w:World}(s:Bool)(h:Ys v k K w):Ss ⟨s,v.A,v.n,v.c,v.l⟩ (zi s k) K w:=⟨h.1.1,by rw[←h.1.2.1],h.1.2.2⟩
theorem Xr.cast'{v:SV}{x y:Int}{K:Nat}{w:World}(h:Xr v x K w)(e:x=y):Xr v y K w:=by rw[←e];exact h
theorem gcd_nz{x y:Int}(hy:y≠0):Nat.gcd x.natAbs y.natAbs≠0:=fun e=>by
 have:=(Nat.gcd_eq_zero_iff.1 e).2;omega
theorem cell_box{g:Nat}{w:World}{v:Value}(h:∃ty,w.heap[g]? =some (.cells #[v] ty (0,0))):w.cell? ⟨g,0,none⟩=some v:=by
 obtain⟨ty,h⟩:=h
 exact cell_one h
theorem sgn_is(x:Int):Uq x= -1∨Uq x=0∨Uq x=1:=by unfold Uq;split<;>(try split)<;>simp
theorem wrap_sgn(x y:Int):IntKind.i64.wrap (Uq x*Uq y)=Uq x*Uq y:=by
 refine IntWalk.i64_in _ ?_
 rcases sgn_is x with e|e|e<;>rcases sgn_is y with k|k|k<;>rw[e,k]<;>decide
theorem Vf{a b:SV}{x y:Int}{K:Nat}{w:World}(ha:Ss a x K w)(hb:Ss b y K w)(hy:y≠0)(hK:K≤68719476736):
 Calls Tryz.prog 109 #[a.val,b.val] w (K3 w RV.val fun r w=>Kh r (Rat.divInt x y) K w):=by
 have hbd:=divInt_bd ha.lt hb.lt hy
 have hg:=gcd_nz (x:=x) hy
 refine K0.enter Tryz.func109 rfl ?_
 refine ZR ?_
 refine ZC (fun w1 hw h=>gcd_m (ha.d.below hw) (hb.d.below hw) Zo) fun g=> ?_
 refine ZC (fun w1 hw h=>Zt (ha.below hw) Zo) fun u=> ?_
 refine ZC (fun w1 hw h=>Zt (hb.below hw) Zo) fun u=> ?_
 refine K0.call (val:=DV.val) (G:=fun v w=>Ys v (x.natAbs/Nat.gcd x.natAbs y.natAbs) K w) (xs:=[.v a.val,.p 5 0]) Zk (fun β w1 hw h hB=>part_m (ha.below hw) (cell_box (Pc hB (k:=5) (by simp[AV.ids]) (cs:=[.v g.val]) Zk)) h.1.1.2.1 Zo) (fun p=> ?_)
 refine ZR ?_
 refine ZC (fun w1 hw h=>Rk (Ys.sv (decide (IntKind.i64.wrap (Uq x*Uq y)<0)) h.2) Zo) fun n=> ?_
 refine K0.call (val:=DV.val) (G:=fun v w=>Ys v (y.natAbs/Nat.gcd x.natAbs y.natAbs) K w) (xs:=[.v b.val,.p 5 0]) Zk (fun β w1 hw h hB=>part_m (hb.below hw) (cell_box (Pc hB (k:=5) (by simp[AV.ids]) (cs:=[.v g.val]) Zk)) h.1.1.1.1.2.1 Zo) (fun q=> ?_)
 refine ZR ?_
 refine ZC (fun w1 hw h=>Rk (Ys.sv false h.2) Zo) fun d=> ?_
 refine ZV (RV.val ⟨n,d⟩) (fun w1 hw h=>⟨⟨n,d⟩,rfl,hw,fun w'' k1 k2=>⟨T0 ((h w'' k1 k2).1.1.2.cast' (by rw[wrap_sgn];exact H4 hy)) hbd.1,T0 ((h w'' k1 k2).2.cast' (Hs hy)) hbd.2⟩⟩)
def SV0:SV:=⟨false,none,0,0,[]⟩
def Oc:RV:=⟨SV0,SV0⟩
def C2(r:RV)(x y:Int)(K:Nat)(w:World):Prop:=if y=0 then r=Oc else Kh r (Rat.divInt x y) K w
theorem C2.zero{x y:Int}{K:Nat}{w:World}(h:y=0):C2 Oc x y K w:=by unfold C2;rw[if_pos h]
theorem C2.of{r:RV}{x y:Int}{K:Nat}{w:World}(h:y≠0)(hr:Kh r (Rat.divInt x y) K w):C2 r x y K w:=by unfold C2;rw[if_neg h];exact hr
theorem C2.n{r:RV}{x y:Int}{K:Nat}{w:World}(h:C2 r x y K w)(hy:y≠0):Kh r (Rat.divInt x y) K w:=by unfold C2 at h;rw[if_neg hy]at h;exact h
def QEVal(y:Int)(r:RV):Value:= .tuple #[r.val,.int .i64 (F7 y)]
theorem sgn_zero(y:Int):(Uq y==0)=decide (y=0):=by
 unfold Uq
 by_cases h:y<0
 ·rw[if_pos h,decide_eq_false Zo];rfl
 ·rw[if_neg h]
  by_cases e:y=0
  ·rw[if_pos e,decide_eq_true e];rfl
  ·rw[if_neg e,decide_eq_false e];rfl
theorem F6{y:Int}(h:y≠0):F7 y=0:=if_neg h
theorem Bu{y:Int}(h:y=0):F7 y=9:=if_pos h
theorem J1{a b:SV}{x y:Int}{K:Nat}{w:World}(ha:Ss a x K w)(hb:Ss b y K w)(hK:K≤68719476736):
 Calls Tryz.prog 102 #[a.val,b.val] w (K3 w (QEVal y) fun r w=>C2 r x y K w):=by
 by_cases hy:y=0
 ·
  refine K0.enter Tryz.func102 rfl ?_
  refine ZR ?_
  refine ZC (fun w1 hw h=>Zt (hb.below hw) Zo) fun u=> ?_
  refine ZJ (Uq y==0) true (by rw[sgn_zero,decide_eq_true hy]) ?_
  refine ZV (.tuple #[Oc.val,.int .i64 9]) (fun w1 hw h=>⟨Oc,by unfold QEVal;rw[Bu hy],hw,fun w'' k1 k2=> .zero hy⟩)
 ·
  refine K0.enter Tryz.func102 rfl ?_
  refine ZR ?_
  refine ZC (fun w1 hw h=>Zt (hb.below hw) Zo) fun u=> ?_
  refine ZJ (Uq y==0) false (by rw[sgn_zero,decide_eq_false hy]) ?_
  refine ZC (fun w1 hw h=>Vf (ha.below hw) (hb.below hw) hy hK) fun r=> ?_
  refine ZV (.tuple #[r.val,.int .i64 0]) (fun w1 hw h=>⟨r,by unfold QEVal;rw[F6 hy],hw,fun w'' k1 k2=> .of hy (h w'' k1 k2).2⟩)
theorem R8{x y:Int}{w:World}(hx: -9223372036854775808≤x∧x≤9223372036854775807)(hy: -9223372036854775808≤y∧y≤9223372036854775807):
 Calls Tryz.prog 55 #[.int .i64 x,.int .i64 y] w (K3 w (QEVal y) fun r w=>C2 r x y 2 w):=by
 refine K0.enter Tryz.func55 rfl ?_
 refine ZR ?_
 refine ZC (fun w1 hw h=>Xj x w1 hx.1 hx.2) fun a=> ?_
 refine ZC (fun w1 hw h=>Xj y w1 hy.1 hy.2) fun b=> ?_
 refine ZC (fun w1 hw h=>J1 h.1.2.i h.2.i Zd) fun r=> ?_
 refine ZV (QEVal y r) (fun w1 hw h=>⟨r,rfl,hw,fun w'' k1 k2=>(h w'' k1 k2).2⟩)
theorem A0(x:Int):Rat.divInt x 0=0:=Rat.divInt_zero x
theorem L8{a:RV}{q:Rat}{K:Nat}{w:World}(ha:Ox a q K w)(hK:2≤K∧K≤68719476736):
 Calls Tryz.prog 107 #[a.val] w (K3 w RV.val fun r w=>Kh r q K w):=by
 obtain⟨x,y,hx,hy,hq⟩:=ha
 by_cases h0:y=0
 ·have hq0:q=0:=by rw[hq,h0,A0]
  refine K0.enter Tryz.func107 rfl ?_
  refine ZR ?_
  refine ZC (fun w1 hw h=>J1 (hx.below hw) (hy.below hw) hK.2) fun r=> ?_
  refine ZJ (F7 y !=0) true (by rw[Bu h0];rfl) ?_
  refine ZC (fun w1 hw h=>Ki 0 w1 Zd Zd) fun z=> ?_
  refine ZV (RV.val z) (fun w1 hw h=>⟨z,rfl,hw,fun w'' k1 k2=>by rw[hq0];exact⟨(h w'' k1 k2).2.1.mono hK.1,(h w'' k1 k2).2.2.mono hK.1⟩⟩)
 ·
  refine K0.enter Tryz.func107 rfl ?_
  refine ZR ?_
  refine ZC (fun w1 hw h=>J1 (hx.below hw) (hy.below hw) hK.2) fun r=> ?_
  refine ZJ (F7 y !=0) false (by rw[F6 h0];rfl) ?_
  refine ZV (RV.val r) (fun w1 hw h=>⟨r,rfl,hw,fun w'' k1 k2=>by rw[hq];exact(h w'' k1 k2).2.n h0⟩)
theorem Kh.q{r:RV}{q:Rat}{K:Nat}{w:World}(h:Kh r q K w):Ox r q K w:=⟨q.num,q.den,h.1.1,h.2.1,(Rat.num_divInt_den q).symm⟩
theorem Ox.below{r:RV}{q:Rat}{K:Nat}{w w':World}(h:Ox r q K w)(hb:Below w.heap.size w w'):Ox r q K w':=by
 obtain⟨x,y,h1,h2,h3⟩:=h
 exact⟨x,y,h1.below hb,h2.below hb,h3⟩
theorem Ox.mono{r:RV}{q:Rat}{K K':Nat}{w:World}(h:Ox r q K w)(hK:K≤K'):Ox r q K' w:=by
 obtain⟨x,y,h1,h2,h3⟩:=h
 exact⟨x,y,h1.mono hK,h2.mono hK,h3⟩
theorem Kh.mono{r:RV}{q:Rat}{K K':Nat}{w:World}(h:Kh r q K w)(hK:K≤K'):Kh r q K' w:=⟨h.1.mono hK,h.2.mono hK⟩
theorem Kh.cast{r:RV}{p q:Rat}{K:Nat}{w:World}(h:Kh r p K w)(e:p=q):Kh r q K w:=by rw[←e];exact h
def Kk(p q:Rat):Int:=if p<q then -1 else if p=q then 0 else 1
section
variable{a b:RV}{p q:Rat}{K1 K2:Nat}{w:World}
def CrossVal(t:SV×SV×SV):Value:= .tuple #[t.1.val,t.2.1.val,t.2.2.val]
theorem Dg(ha:Ox a p K1 w)(hb:Ox b q K2 w)(hK:2≤K1∧2≤K2∧K1+K2≤68719476736):
 Calls Tryz.prog 104 #[a.val,b.val] w (K3 w CrossVal fun t w=>Xr t.1 (p.num*q.den) (K1+K2) w∧Xr t.2.1 (q.num*p.den) (K1+K2) w∧Xr t.2.2 (p.den*q.den) (K1+K2) w):=by
 refine K0.enter Tryz.func104 rfl ?_
 refine ZR ?_
 refine ZC (fun w1 hw h=>L8 (ha.below hw) Zo) fun x=> ?_
 refine ZC (fun w1 hw h=>L8 (hb.below hw) Zo) fun y=> ?_
 refine ZC (fun w1 hw h=>T1 h.1.2.1.i h.2.2.i Zo) fun u=> ?_
 refine ZC (fun w1 hw h=>T1 h.1.2.1.i h.1.1.2.2.i Zo) fun v=> ?_
 refine ZC (fun w1 hw h=>T1 h.1.1.1.2.2.i h.1.1.2.2.i Zo) fun t=> ?_
 refine ZV (CrossVal (u,v,t)) (fun w1 hw h=>⟨(u,v,t),rfl,hw,fun w'' k1 k2=>⟨(h w'' k1 k2).1.1.2,(h w'' k1 k2).1.2.mono Zo,(h w'' k1 k2).2⟩⟩)
theorem Lq(ha:Ox a p K1 w)(hb:Ox b q K2 w)(hK:2≤K1∧2≤K2∧K1+K2≤68719476736):
 Calls Tryz.prog 56 #[a.val,b.val] w (K3 w (fun _:Unit=> .int .i64 (Kk p q)) fun _ _=>True):=by
 refine K0.enter Tryz.func56 rfl ?_
 refine ZR ?_
 refine ZC (fun w1 hw h=>Dg (ha.below hw) (hb.below hw) hK) fun t=> ?_
 refine ZC (fun w1 hw h=>icmp_m h.2.1.i h.2.2.1.i Zo) fun u=> ?_
 exact ZX (.int .i64 (Uq (p.num*q.den-q.num*p.den))) (by rw[cmp_rat];rfl)
theorem qneg_m(ha:Ox a p K1 w)(hK:2≤K1∧K1≤68719476736):
 Calls Tryz.prog 353 #[a.val] w (K3 w RV.val fun r w=>Kh r (-p) K1 w):=by
 refine K0.enter Tryz.func353 rfl ?_
 refine ZR ?_
 refine ZC (fun w1 hw h=>L8 (ha.below hw) hK) fun x=> ?_
 refine ZC (fun w1 hw h=>ineg_m h.2.1.i Zo) fun u=> ?_
 refine ZV (RV.val ⟨u,x.b⟩) (fun w1 hw h=>⟨⟨u,x.b⟩,rfl,hw,fun w'' k1 k2=>⟨(h w'' k1 k2).2,(h w'' k1 k2).1.2.2⟩⟩)
theorem iadd_e{a b:SV}{x y:Int}{K:Nat}{w:World}(ha:Ss a x K w)(hb:Ss b y K w)(hK:K+1≤68719476736):Calls Tryz.prog 110 #[a.val,b.val] w (K3 w SV.val fun v w=>Xr v (x+y) (K+1) w):=
 (iadd_m ha hb Zo).mono fun _ _ h=>h.impG fun v u q=>T0 q (abs_add_lt ha.lt hb.lt)
theorem isub_e{a b:SV}{x y:Int}{K:Nat}{w:World}(ha:Ss a x K w)(hb:Ss b y K w)(hK:K+1≤68719476736):Calls Tryz.prog 160 #[a.val,b.val] w (K3 w SV.val fun v w=>Xr v (x-y) (K+1) w):=
 (En ha hb Zo).mono fun _ _ h=>h.impG fun v u q=>T0 q (abs_sub_lt ha.lt hb.lt)
theorem Sx(ha:Ox a p K1 w)(hb:Ox b q K2 w)(hK:2≤K1∧2≤K2∧K1+K2≤68719476000):
 Calls Tryz.prog 60 #[a.val,b.val] w (K3 w RV.val fun r w=>Kh r (p+q) (K1+K2+1) w):=by
 refine K0.enter Tryz.func60 rfl ?_
 refine ZR ?_
 refine ZC (fun w1 hw h=>Dg (ha.below hw) (hb.below hw) Zo) fun t=> ?_
 refine ZC (fun w1 hw h=>iadd_e h.2.1.i h.2.2.1.i Zo) fun s=> ?_
 refine ZC (fun w1 hw h=>Vf h.2.i (h.1.2.2.2.i.mono Zo) (Ub p q) Zo) fun r=> ?_
 refine ZV (RV.val r) (fun w1 hw h=>⟨r,rfl,hw,fun w'' k1 k2=>(h w'' k1 k2).2.cast Fq⟩)
theorem J0(ha:Ox a p K1 w)(hb:Ox b q K2 w)(hK:2≤K1∧2≤K2∧K1+K2≤68719476000):
 Calls Tryz.prog 100 #[a.val,b.val] w (K3 w RV.val fun r w=>Kh r (p-q) (K1+K2+1) w):=by
 refine K0.enter Tryz.func100 rfl ?_
 refine ZR ?_
 refine ZC (fun w1 hw h=>Dg (ha.below hw) (hb.below hw) Zo) fun t=> ?_
 refine ZC (fun w1 hw h=>isub_e h.2.1.i h.2.2.1.i Zo) fun s=> ?_
 refine ZC (fun w1 hw h=>Vf h.2.i (h.1.2.2.2.i.mono Zo) (Ub p q) Zo) fun r=> ?_
 refine ZV (RV.val r) (fun w1 hw h=>⟨r,rfl,hw,fun w'' k1 k2=>(h w'' k1 k2).2.cast sub_divInt⟩)
theorem qmid_m(ha:Ox a p K1 w)(hb:Ox b q K2 w)(hK:2≤K1∧2≤K2∧K1+K2≤68719476000):
 Calls Tryz.prog 99 #[a.val,b.val] w (K3 w RV.val fun r w=>Kh r ((p+q)/2) (K1+K2+1) w):=by
 have hnz:(p.den:Int)*q.den+p.den*q.den≠0:=by have:=Ub p q;omega
 refine K0.enter Tryz.func99 rfl ?_
 refine ZR ?_
 refine ZC (fun w1 hw h=>Dg (ha.below hw) (hb.below hw) Zo) fun t=> ?_
 refine ZC (fun w1 hw h=>iadd_e h.2.1.i h.2.2.1.i Zo) fun s=> ?_
 refine ZC (fun w1 hw h=>iadd_e h.1.2.2.2.i h.1.2.2.2.i Zo) fun d=> ?_
 refine ZC (fun w1 hw h=>Vf h.1.2.i h.2.i hnz Zo) fun r=> ?_
 refine ZV (RV.val r) (fun w1 hw h=>⟨r,rfl,hw,fun w'' k1 k2=>(h w'' k1 k2).2.cast half_divInt⟩)
theorem V5(ha:Ox a p K1 w)(hb:Ox b q K2 w)(hK:2≤K1∧2≤K2∧K1+K2≤68719476000):
 Calls Tryz.prog 61 #[a.val,b.val] w (K3 w RV.val fun r w=>Kh r (p*q) (K1+K2) w):=by
 refine K0.enter Tryz.func61 rfl ?_
 refine ZR ?_
 refine ZC (fun w1 hw h=>L8 (ha.below hw) Zo) fun x=> ?_
 refine ZC (fun w1 hw h=>L8 (hb.below hw) Zo) fun y=> ?_
 refine ZC (fun w1 hw h=>T1 h.1.2.1.i h.2.1.i Zo) fun n=> ?_
 refine ZC (fun w1 hw h=>T1 h.1.1.2.2.i h.1.2.2.i Zo) fun d=> ?_
 refine ZC (fun w1 hw h=>Vf h.1.2.i h.2.i (Ub p q) Zo) fun r=> ?_
 refine ZV (RV.val r) (fun w1 hw h=>⟨r,rfl,hw,fun w'' k1 k2=>(h w'' k1 k2).2.cast mul_divInt⟩)
def IsQuo(r:RV)(p q:Rat)(K:Nat)(w:World):Prop:=if q=0 then r=Oc else Kh r (p/q) K w
def QuoVal(q:Rat)(r:RV):Value:= .tuple #[r.val,.int .i64 (if q=0 then 9 else 0)]
theorem Rx(p q:Rat):(p.den:Int)*q.num=0↔q=0:=by
 have:=p.den_nz
 constructor
 ·intro h
  rcases Int.mul_eq_zero.1 h with h|h
  ·omega
  ·exact Rat.num_eq_zero.1 h
 ·intro h;rw[h];simp
theorem quo_post{r:RV}{p q:Rat}{K:Nat}{w:World}(h:C2 r (p.num*q.den) (p.den*q.num) K w):IsQuo r p q K w:=by
 unfold IsQuo
 by_cases e:q=0
 ·rw[if_pos e]
  unfold C2 at h
  rw[if_pos ((Rx p q).2 e)]at h
  exact h
 ·rw[if_neg e]
  exact(h.n fun k=>e ((Rx p q).1 k)).cast quo_divInt
theorem qquo_m(ha:Ox a p K1 w)(hb:Ox b q K2 w)(hK:2≤K1∧2≤K2∧K1+K2≤68719476000):
 Calls Tryz.prog 94 #[a.val,b.val] w (K3 w (QuoVal q) fun r w=>IsQuo r p q (K1+K2) w):=by
 have hE:F7 (p.den*q.num)=if q=0 then 9 else 0:=by
  by_cases h:q=0
  ·rw[if_pos h,Bu ((Rx p q).2 h)]
  ·rw[if_neg h,F6 (fun e=>h ((Rx p q).1 e))]
 refine K0.enter Tryz.func94 rfl ?_
 refine ZR ?_
 refine ZC (fun w1 hw h=>L8 (ha.below hw) Zo) fun x=> ?_
 refine ZC (fun w1 hw h=>L8 (hb.below hw) Zo) fun y=> ?_
 refine ZC (fun w1 hw h=>T1 h.1.2.1.i h.2.2.i Zo) fun n=> ?_
 refine ZC (fun w1 hw h=>T1 h.1.1.2.2.i h.1.2.1.i Zo) fun d=> ?_
 refine ZC (fun w1 hw h=>J1 h.1.2.i h.2.i Zo) fun r=> ?_
 refine ZV (.tuple #[r.val,.int .i64 (F7 (p.den*q.num))]) (fun w1 hw h=>⟨r,by unfold QuoVal;rw[hE],hw,fun w'' k1 k2=>quo_post (h w'' k1 k2).2⟩)
end
def Kc(t:TypeId)(x:Value)(k:Int):Sem Next:=Instr.indexAt t x (.int .i64 k) >>= fun v=>pure (.value v)
def Kd(t:TypeId)(p:Addr):Sem Next:=Instr.loadAt t (.pointer (some p)) >>= fun v=>pure (.value v)
theorem R5{P:Program}{t elem:TypeId}{ad:Addr}{n c k:Nat}{w:World}(hu:P.underlying t=some (.slice elem))(hs:N8 P elem=some 1)(hk:k<n):
 (Kc t (.slice (some ad) n c) k).run P w= .ok (.value (.pointer (some (ad.add k)))) w:=by
 have hb:0≤(k:Int)∧(k:Int)<(n:Int):=by omega
 simp only[Kc,Instr.indexAt,asIntOf,Sem.run_bind,Sem.run_pure,Result.andThen_ok,run_underlying hu,Lf hs,if_pos hb,Int.toNat_natCast,Nat.mul_one]
theorem Kg{P:Program}{t:TypeId}{p:Addr}{v:Value}{w:World}(ht:Ob P t=some false)(hc:w.cell? p=some v):(Kd t p).run P w= .ok (.value v) w:=Gp ht hc
theorem K7{k n:Nat}(h:k<n)(hn:n≤9223372036854775807):IntKind.i64.wrap ((k:Int)+1)=((k+1:Nat):Int):=by
 rw[IntWalk.i64_in _ Zo];omega
section
variable{a b:RV}{p q:Rat}{K K1 K2:Nat}{w:World}
theorem quoI_floor(q:Rat):Iz q.num q.den=q.floor:=by
 have h:=q.den_nz
 unfold Iz
 rw[if_neg Zo,Rat.floor_def,Int.fdiv_eq_ediv_of_nonneg _ Zo]
theorem natAbs_den(q:Rat):((q.den:Int)).natAbs=q.den:=by omega
theorem E0{s:Bool}{w:World}:Calls Tryz.prog 174 #[.bool s] w (K3 w (fun g:Nat=> .func (.func 253) #[] #[Ku g]) fun g u=>K8 u g [.bool s]):=by
 refine K0.enter Tryz.func174 rfl ?_
 refine ZS 0 ?_
 refine K0.make (Ad 4 (.bool s)) (Ku) (fun g u=>K8 u g [.bool s]∧w.heap.size≤g∧g<u.heap.size) Zk (fun w1 hw h=>make_box hw.size) (fun g=> ?_)
 refine ZR ?_
 refine ZV (.func (.func 253) #[] #[Ku g]) (fun w1 hw h=>⟨g,rfl,hw,fun w'' k1 k2=>((h w'' k1 k2).2).1⟩)
theorem B0{s:Bool}{d:DV}{k K g:Nat}{w:World}(hg:K8 w g [.bool s])(hd:Cz d k K w)(hK:K≤274877906944):Calls Tryz.prog 253 #[d.val,Ku g] w (K3 w SV.val fun v w=>Xr v (zi s k) K w):=by
 refine K0.enter Tryz.func253 rfl ?_
 refine K0.run Zk (stop:=1000) 3 _ ?_
 refine ZS 0 ?_
 refine ZA (Kd 4 ⟨g,0,none⟩) (.bool s) (fun w1 hw h=>Kg Zk (Kt hw (by obtain⟨t,h⟩:=hg;exact cell_one h))) ?_
 refine ZC (fun w1 hw h=>Rk (a:=⟨s,d.A,d.n,d.c,d.l⟩) ((hd.below hw).sv s) hK) fun v=> ?_
 refine ZV (v.val) (fun w1 hw h=>⟨v,rfl,hw,fun w'' k1 k2=>(h w'' k1 k2).2⟩)
def Dm2Val(q:DV×DV):Value:= .tuple #[q.1.val,q.2.val,.int .i64 0]
theorem divmod2_m{a b:DV}{x y K:Nat}{w:World}(ha:Cz a x K w)(hb:Cz b y K w)(hy:y≠0)(hK:K≤274877906944):
 Calls Tryz.prog 172 #[a.val,b.val] w (K3 w Dm2Val fun q w=>Ys q.1 (x/y) K w∧Ys q.2 (x%y) K w):=by
 refine(F4 w ha.1 hb.1 (by have:=ha.2.2;omega) (by have:=hb.2.2;omega)).mono fun _ _ h=> ?_
 obtain⟨A1,n1,c1,l1,A2,n2,c2,l2,rfl,N1,v1,N2,v2,o1,o2,hb2⟩:=h
 rw[ha.2.1,hb.2.1]at v1
 rw[ha.2.1,hb.2.1,Vd hy]at v2
 have hl:=hb.lt
 refine⟨(⟨A1,n1,c1,l1⟩,⟨A2,n2,c2,l2⟩),by rw[hb.2.1,A5 hy];rfl,hb2,fun w'' h1 h2=>⟨⟨⟨(o1.mid h1 h2).toIn,v1,?_⟩,N1⟩,⟨⟨(o2.mid h1 h2).toIn,v2,?_⟩,N2⟩⟩⟩
 ·have h3:=N1.length_le (k:=K) (by rw[v1];exact Nat.lt_of_le_of_lt (Nat.div_le_self _ _) ha.lt)
  rw[o1.len]at h3
  exact h3
 ·have h3:=N2.length_le (k:=K) (by rw[v2];exact Nat.lt_trans (Nat.mod_lt _ Zo) hl)
  rw[o2.len]at h3
  exact h3
theorem zi_of'{s:Bool}{x:Int}(h:s=decide (x<0)):zi s x.natAbs=x:=by rw[h];exact zi_of x rfl
theorem idiv_m{a b:SV}{x y:Int}{w:World}(ha:Ss a x K1 w)(hb:Ss b y K2 w)(hy:0<y)(hK:K1≤17179869184∧K2≤17179869184):
 Calls Tryz.prog 108 #[a.val,b.val] w (K3 w (fun q:SV×SV=> .tuple #[q.1.val,q.2.val,.int .i64 0]) fun q w=>Xr q.1 (Iz x y) (K1+1) w):=by
 have hq0:(Iz x y).natAbs<pw (K1+1):=by
  have h1:=ha.lt;have h3:=pw_lt (show K1<K1+1 by omega)
  have h4:(Iz x y).natAbs≤x.natAbs:=by
   unfold Iz
   rw[if_neg Zo,Int.fdiv_eq_ediv_of_nonneg _ Zo]
   exact Int.natAbs_ediv_le_natAbs x y
  omega
 refine K0.enter Tryz.func108 rfl ?_
 refine ZR ?_
 refine ZC (fun w1 hw h=>Rk (ha.below hw) Zo) fun u=> ?_
 refine ZC (fun w1 hw h=>Rk (hb.below hw) Zo) fun v=> ?_
 refine K0.pure_ (p:=v.s=false∧y.natAbs=y) (fun w1 hw h=>⟨by rw[h.2.2.2.1];exact decide_eq_false Zo,by omega⟩) Zk (fun hvs=> ?_)
 refine K0.pure_ (p:=u.s=decide (x<0)) (fun w1 hw h=>h.1.2.2.2.1) Zk (fun hus=> ?_)
 have hy0:y.natAbs≠0:=by omega
 have hdm:=ref_dm u.s false x.natAbs y.natAbs hy0
 have hzu:zi u.s x.natAbs=x:=zi_of' hus
 rw[hzu,show zi false y.natAbs=y by simp[zi];omega]at hdm
 refine ZC (fun w1 hw h=>divmod2_m (K:=K1+K2) ((h.1.2).i.mono (Nat.le_add_right _ _)).d ((h.2).i.mono (Nat.le_add_left _ _)).d Zo Zo) fun q=> ?_
 refine K0.cond false Zk ?_
 refine ZS 6 ?_
 cases hs:u.s
 ·
  refine ZT 40 (.bool (u.s !=v.s)) (.bool false) (by rw[hs,hvs.1];rfl) ?_
  refine ZI false ?_
  refine ZC (fun w1 hw h=>E0 (s:=(u.s !=v.s))) fun f=> ?_
  refine ZC (fun w1 hw h=>B0 (k:=x.natAbs/y.natAbs) h.2 (h.1.2).1.1 Zo) fun o=> ?_
  refine ZC (fun w1 hw h=>T1 (h.2).i (h.1.1.1.2).i Zo) fun m=> ?_
  refine ZC (fun w1 hw h=>En (h.1.1.1.1.1.2).i (h.2).i Zo) fun r=> ?_
  refine ZV (.tuple #[o.val,r.val,.int .i64 0]) (fun w1 hw h=>⟨(o,r),rfl,hw,fun w'' k1 k2=>T0 (((h w'' k1 k2).1.1.2).cast (by rw[hvs.1];exact(hdm.2 (.inl (by rw[hs];rfl))).1.symm)) hq0⟩)
 refine ZT 40 (.bool (u.s !=v.s)) (.bool true) (by rw[hs,hvs.1];rfl) ?_
 refine K0.pure_ (p:=0<q.2.n↔0<x.natAbs%y.natAbs) (fun w1 hw h=>(h.2).2.pos) Zk (fun hp=> ?_)
 by_cases hr:0<x.natAbs%y.natAbs
 ·
  refine ZJ (decide ((q.2.n:Int)>0)) true (decide_eq_true (by have:=hp.2 hr;omega)) ?_
  refine ZC (fun w1 hw h=>J9 (k:=1) Zd) fun t=> ?_
  refine ZC (fun w1 hw h=>nadd_m (h.1.2).1.1 (h.2).1.1 Zo) fun p=> ?_
  refine ZC (fun w1 hw h=>E0 (s:=(u.s !=v.s))) fun f=> ?_
  refine ZC (fun w1 hw h=>B0 (k:=x.natAbs/y.natAbs+1) h.2 (h.1.2).1.1 Zo) fun o=> ?_
  refine ZC (fun w1 hw h=>T1 (h.2).i (h.1.1.1.1.1.2).i Zo) fun m=> ?_
  refine ZC (fun w1 hw h=>En (h.1.1.1.1.1.1.1.2).i (h.2).i Zo) fun r=> ?_
  refine ZV (.tuple #[o.val,r.val,.int .i64 0]) (fun w1 hw h=>⟨(o,r),rfl,hw,fun w'' k1 k2=>T0 (((h w'' k1 k2).1.1.2).cast (by rw[hs,hvs.1,(hdm.1 ⟨by rw[hs];rfl,by omega⟩).1];simp[zi];omega)) hq0⟩)
 ·
  refine ZJ (decide ((q.2.n:Int)>0)) false (decide_eq_false (by have:=fun h=>hr (hp.1 h);omega)) ?_
  refine ZC (fun w1 hw h=>E0 (s:=(u.s !=v.s))) fun f=> ?_
  refine ZC (fun w1 hw h=>B0 (k:=x.natAbs/y.natAbs) h.2 (h.1.2).1.1 Zo) fun o=> ?_
  refine ZC (fun w1 hw h=>T1 (h.2).i (h.1.1.1.2).i Zo) fun m=> ?_
  refine ZC (fun w1 hw h=>En (h.1.1.1.1.1.2).i (h.2).i Zo) fun r=> ?_
  refine ZV (.tuple #[o.val,r.val,.int .i64 0]) (fun w1 hw h=>⟨(o,r),rfl,hw,fun w'' k1 k2=>T0 (((h w'' k1 k2).1.1.2).cast (by rw[hs,hvs.1];exact((hdm.2 (.inr Zo)).1.trans (by rw[hs])).symm)) hq0⟩)
theorem Zm(ha:Ox a q K w)(hK:2≤K∧K≤17179869184):
 Calls Tryz.prog 59 #[a.val] w (K3 w SV.val fun v w=>Xr v q.floor (K+1) w):=by
 refine K0.enter Tryz.func59 rfl ?_
 refine ZR ?_
 refine ZC (fun w1 hw h=>L8 (ha.below hw) Zo) fun x=> ?_
 refine ZC (fun w1 hw h=>idiv_m h.2.1.i h.2.2.i (by have:=q.den_pos;omega) ⟨hK.2,hK.2⟩) fun d=> ?_
 refine ZV (SV.val d.1) (fun w1 hw h=>⟨d.1,rfl,hw,fun w'' k1 k2=>(h w'' k1 k2).2.cast (quoI_floor q)⟩)
def bitsQ(q:Rat):Nat:=max (bitsN q.num.natAbs) (bitsN q.den)
theorem if_max(a b:Nat):(if ((b:Int)>(a:Int))then(b:Int)else(a:Int))=((max a b:Nat):Int):=by
 split<;>omega
theorem S0(ha:Ox a q K w)(hK:2≤K∧K≤68719476736):
 Calls Tryz.prog 144 #[a.val] w (K3 w (fun _:Unit=> .int .i64 (bitsQ q:Nat)) fun _ _=>True):=by
 refine K0.enter Tryz.func144 rfl ?_
 refine ZR ?_
 refine ZC (fun w1 hw h=>L8 (ha.below hw) hK) fun x=> ?_
 refine ZC (fun w1 hw h=>Hg h.2.1.i Zo) fun u=> ?_
 refine ZC (fun w1 hw h=>Hg h.1.2.2.i Zo) fun u=> ?_
 exact ZX (.int .i64 (if ((bitsN ((q.den:Int)).natAbs:Nat):Int)>(bitsN q.num.natAbs:Nat)then((bitsN ((q.den:Int)).natAbs:Nat):Int)else(bitsN q.num.natAbs:Nat))) (by rw[natAbs_den,if_max];rfl)
end
theorem K0.enterW{P:Program}{f:FuncId}{fn:Func}{args:Array Value}{W w:World}{R:Ending→World→Prop}
 (hf:P.funcs[f]? =some fn) (hb:fn.body.isSome=true) (hW:Below W.heap.size W w)
 (h:K0 P [] W (bodyPost P fn R) (fun u=>w.heap.size≤u.heap.size∧∀b,W.heap.size≤b→b<w.heap.size→u.heap[b]? =w.heap[b]?) (R3 fn args)):Calls P f args w R:=by
 obtain⟨c,hc⟩:=Option.isSome_iff_exists.1 hb
 replace h:=h.get
 simp only[Qp,R3,hc,Option.getD_some]at h
 refine calls_of_wp hf hc (wpIn_wide.1 (h ?_ (fun _=>0) _ w ?_))
 ·refine⟨fun x hx k hk=> ?_,fun j cs hj=>by cases hj⟩
  simp only[List.mem_append,List.mem_map,List.mem_replicate]at hx
  rcases hx with ⟨q,_,rfl⟩|⟨_,rfl⟩<;>simp[AV.ids]at hk
 ·refine⟨?_,rfl,hW,fun k cs hk=>(by cases hk),fun k k' hk=>(by cases hk),fun w' hw=>⟨hw.size,fun b h1 h2=>hw.heap b h1 h2 (fun k hk=>by cases hk)⟩⟩
  simp[Function.comp_def,AV.conc]
section
variable{P:Program}{Δ:List Deferred}{W:World}{Q:Exit→Act→World→Prop}{Φ Φ':World→Prop}{c:Md}
theorem K0.mutSt [Rnd]{L:List Nat}{G:World→Prop}(s:Sem Next)
 (hs:∀w,Below W.heap.size W w→Φ w→∃w',s.run P w= .ok .skip w'∧Ga L w w'∧∀w'',w'.heap.size≤w''.heap.size→(∀b∈L,w''.heap[b]? =w'.heap[b]?)→G w'') (hL:Uv W L Φ) (hΦ:Tt L Φ G Φ')
 (hf:Yd c=true) (hc:Q1 c=some s) (h:K0 P Δ W Q Φ' (Lh (.v undef) c)):K0 P Δ W Q Φ c:=by
 obtain⟨foc,k,σ⟩:=c
 replace h:=h.get
 refine⟨?_⟩
 replace hc:=(O1 hc).1
 unfold Pu at hc
 split at hc
 ·rename_i ops o ho
  split at hc
  ·cases hc
  ·cases hc
  ·rename_i hns hnm
   split at hc
   ·rename_i hw
    simp only[Bool.and_eq_true]at hw
    injection hc with hc
    subst hc
    unfold Na at ho
    simp only at ho
    split at ho
    ·rename_i ops' i l
     cases hoi:ops'[i]? with
     |none=>rw[hoi]at ho;cases ho
     | some o'=>
      rw[hoi]at ho
      simp only[Option.map_some,Option.some.injEq,Prod.mk.injEq]at ho
      obtain⟨rfl,rfl⟩:=ho
      intro hwf β a w hr
      show wpOpsIn Fe 0 P ops' (post P Q k) (i::l) a w
      rw[wpOpsIn_cons]
      unfold wpOpIn
      simp only[hoi,Lv hr,hw.1,if_true]
      have hrho:∀x∈o'.op.operands,a.eval x=σ.rho x:=fun x hx=>by
       rw[hr.eval,AV.conc_isV];· rfl
       exact List.all_eq_true.1 hw.2 x (by simpa using hx)
      obtain⟨w',hrun,hch,hG⟩:=hs w hr.bel hr.phi
      refine Y8 ((congrArg (fun s=>s.run P w) (execOp_congr o' (fun cs b e=>hns cs b e) hrho)).trans hrun) Zs ?_
      simp only[Qp,Lh,hoi,Option.bind_some]at h
      exact h (hwf.put _ (by intro k hk;simp[AV.ids]at hk)) β _ w' ((hr.mut hL hch (fun w'' k1 k2=>hG w'' k1 fun b hb=>k2 b (.inl hb)) hΦ).put o'.dst (.v undef))
    ·cases hf
    ·cases ho
   ·cases hc
 ·cases hc
end
section
variable{P:Program}{Δ:List Deferred}{W:World}{Q:Exit→Act→World→Prop}{Φ Φ':World→Prop}{c:Md}
theorem K0.both [Rnd](b:Bool)(hb:Bv c=some b)(ht:b=true→K0 P Δ W Q Φ (Ag true c))(hf:b=false→K0 P Δ W Q Φ (Ag false c)):K0 P Δ W Q Φ c:=by
 cases b
 ·exact K0.cond false hb (hf rfl)
 ·exact K0.cond true hb (ht rfl)
theorem K0.fork [Rnd](t:Nat)(b:Bool)(hv:c.st.tmps[t]? =some (.v (.bool b)))(ht:b=true→K0 P Δ W Q Φ (Kw t (.bool true) c))(hf:b=false→K0 P Δ W Q Φ (Kw t (.bool false) c)):K0 P Δ W Q Φ c:=by
 cases b
 ·exact K0.slot t _ _ hv rfl (hf rfl)
 ·exact K0.slot t _ _ hv rfl (ht rfl)
def amUn(c:Md):Md:=(Tr c).getD c
theorem K0.un [Rnd](hc:(Tr c).isSome=true)(h:K0 P Δ W Q Φ (amUn c)):K0 P Δ W Q Φ c:=by
 unfold amUn at h
 cases e:Tr c with
 |none=>rw[e]at hc;cases hc
 |some c'=>rw[e]at h;exact K0.unroll e h
def Df(k:Nat)(b:Nat→Option (List AV)):Nat→Option (List AV):=fun j=>
 if Nat.beq j k then none else match b j with
  |some cs=>if cs.all AV.isV then some cs else none
  |none=>none
def Hr(b:Nat→Option (List AV))(g:Nat→Value):List AV→Nat→List AV
 | [],_=>[]
 |x::l,t=>(if x.ids.all (fun i=>(b i).isSome)then x else .v (g t))::Hr b g l (t+1)
def amDrop(k:Nat)(g:Nat→Value)(c:Md):Md:=⟨c.foc,c.k,⟨Hr (Df k c.st.box) g c.st.tmps 0,Df k c.st.box⟩⟩
theorem Bt(b:Nat→Option (List AV))(g:Nat→Value):∀(l:List AV) (t j:Nat),(Hr b g l t)[j]? =(l[j]?).map fun x=>if x.ids.all (fun i=>(b i).isSome)then x else .v (g (t+j))
 | [],t,j=>by simp[Hr]
 |x::l,t,0=>by simp[Hr]
 |x::l,t,j+1=>by
  simp only[Hr,List.getElem?_cons_succ]
  rw[Bt b g l (t+1) j,show t+1+j=t+(j+1) by omega]
theorem Qi{k j:Nat}{b:Nat→Option (List AV)}{cs:List AV}(h:Df k b j=some cs):b j=some cs∧cs.all AV.isV=true:=by
 unfold Df at h
 split at h
 ·cases h
 ·split at h
  ·rename_i cs' hb
   split at h
   ·rename_i ha
    injection h with h
    subst h
    exact⟨hb,ha⟩
   ·cases h
  ·cases h
def codeFoc(c:Md):Bool:=match c.foc with| .code _=>true|_=>false
theorem K0.drop [Rnd](k:Nat)(hf:codeFoc c=true)(h:∀g,K0 P Δ W Q Φ (amDrop k g c)):K0 P Δ W Q Φ c:=by
 obtain⟨foc,kk,σ⟩:=c
 refine⟨?_⟩
 unfold codeFoc at hf
 simp only at hf
 split at hf
 ·rename_i x
  intro hwf β a w hr
  have h0:=(h fun t=>a.tmps.getD t undef).get
  simp only[Qp,amDrop]at h0
  refine h0 ?_ β a w ?_
  ·refine⟨fun x hx i hi=> ?_,fun j cs hj x hx i hi=> ?_⟩
   ·obtain⟨t,ht⟩:=List.mem_iff_getElem?.1 hx
    rw[Bt]at ht
    obtain⟨y,hy,e⟩:=Option.map_eq_some_iff.1 ht
    split at e
    ·rename_i hall
     subst e
     exact List.all_eq_true.1 hall i hi
    ·subst e;simp[AV.ids]at hi
   ·have:=List.all_eq_true.1 (Qi hj).2 x hx
    cases x<;>first|(simp[AV.ids]at hi;done)|cases this
  ·have hlen:a.tmps.toList.length=σ.tmps.length:=by rw[hr.tmps,List.length_map]
   refine⟨List.ext_getElem? fun j=> ?_,hr.defers,hr.bel,fun k cs hk=>hr.box k cs (Qi hk).1,fun i j hi hj e=> ?_,fun w' hw=>hr.keep w' ⟨hw.size,fun b h1 h2 h3=>hw.heap b h1 h2 fun i hi=> ?_⟩⟩
   ·rw[List.getElem?_map,Bt,hr.tmps,List.getElem?_map]
    cases hj:σ.tmps[j]? with
    |none=>rfl
    | some x=>
     simp only[Option.map_some,Nat.zero_add]
     split
     ·rfl
     ·congr 1
      have:=hr.eval (.tmp j)
      simp only[Act.eval,AS.eval,List.getD_eq_getElem?_getD,hj,Option.getD_some]at this
      exact this.symm
   ·obtain⟨c1,e1⟩:=Option.isSome_iff_exists.1 hi
    obtain⟨c2,e2⟩:=Option.isSome_iff_exists.1 hj
    exact hr.inj i j (by rw[(Qi e1).1];rfl) (by rw[(Qi e2).1];rfl) e
   ·obtain⟨c1,e1⟩:=Option.isSome_iff_exists.1 hi
    exact h3 i (by rw[(Qi e1).1];rfl)
 ·cases hf
end
section
variable{P:Program}{Δ:List Deferred}{W:World}{Q:Exit→Act→World→Prop}{Φ Φ':World→Prop}{c:Md}
def deferOf(P:Program)(c:Md):Option Deferred:=
 match Na c with
 |some (ops,o)=>match o.op with
  | .defer k=>if Kp ops o c.st&&c.st.plain o.op then pev P (resolve c.st.rho k o.type)else none
  |_=>none
 |none=>none
theorem K0.defer_(d:Deferred)(hf:Yd c=true)(hc:deferOf P c=some d)(h:K0 P (d::Δ) W Q Φ (Lh (.v undef) c)):K0 P Δ W Q Φ c:=by
 obtain⟨foc,k,σ⟩:=c
 replace h:=h.get
 refine⟨?_⟩
 unfold deferOf at hc
 split at hc
 ·rename_i ops o ho
  split at hc
  ·rename_i kc hop
   split at hc
   ·rename_i hw
    simp only[Bool.and_eq_true]at hw
    unfold Na at ho
    simp only at ho
    split at ho
    ·rename_i ops' i l
     cases hoi:ops'[i]? with
     |none=>rw[hoi]at ho;cases ho
     | some o'=>
      rw[hoi]at ho
      simp only[Option.map_some,Option.some.injEq,Prod.mk.injEq]at ho
      obtain⟨rfl,rfl⟩:=ho
      intro hwf β a w hr
      show wpOpsIn Fe 0 P ops' (post P Q k) (i::l) a w
      rw[wpOpsIn_cons]
      unfold wpOpIn
      simp only[hoi,Lv hr,hw.1,if_true]
      have hrho:∀x∈o'.op.operands,a.eval x=σ.rho x:=fun x hx=>by
       rw[hr.eval,AV.conc_isV];· rfl
       exact List.all_eq_true.1 hw.2 x (by simpa using hx)
      have hrun:(execOp σ.rho o').run P w= .ok (.defer d) w:=by
       unfold execOp
       simp only[hop,Sem.run_bind,pev_run hc w,Result.andThen_ok,Sem.run_pure]
      refine⟨fun _ _=>trivial,?_⟩
      show o'.uponIn Fe 0 P a _ _ ((execOp a.eval o').run P w)
      rw[execOp_congr o' (fun cs b e=>by rw[hop]at e;cases e) hrho,hrun]
      simp only[Qp,Lh,hoi,Option.bind_some]at h
      have hr':O7 (d::Δ) W β σ Φ {a with defers:=d::a.defers} w:=⟨hr.tmps,congrArg (d::·) hr.defers,hr.bel,hr.box,hr.inj,hr.keep⟩
      exact h (hwf.put _ (by intro k hk;simp[AV.ids]at hk)) β _ w (hr'.put o'.dst (.v undef))
    ·cases hf
    ·cases ho
   ·cases hc
  ·cases hc
 ·cases hc
end
theorem K9{P:Program}{t elem:TypeId}{g n c k s:Nat}{w:World}(hu:P.underlying t=some (.slice elem))(hs:N8 P elem=some s)(hk:k<n):
 (Kc t (.slice (some ⟨g,0,none⟩) n c) k).run P w= .ok (.value (.pointer (some ⟨g,k*s,none⟩))) w:=by
 have hb:0≤(k:Int)∧(k:Int)<(n:Int):=by omega
 simp only[Kc,Instr.indexAt,asIntOf,Sem.run_bind,Sem.run_pure,Result.andThen_ok,run_underlying hu,Lf hs,if_pos hb,Int.toNat_natCast,Addr.add_mid,Nat.zero_add]
theorem Ka{P:Program}{t:TypeId}{g off:Nat}{vs:List Value}{w:World}(ht:Ob P t=some true)(hn:N8 P t=some vs.length)(h:w.rangeAt g off vs):
 (Kd t ⟨g,off,none⟩).run P w= .ok (.value (.agg vs.toArray)) w:=by
 have hrun:∀d:TypeDesc,P.underlying t=some d→d.isRow=true→(loadVar t ⟨g,off,none⟩).run P w= .ok (.agg vs.toArray) w:=fun d hd hdr=>
  run_loadVar_mid w g off t vs d h hd hdr hn
 have hl:(loadVar t ⟨g,off,none⟩).run P w= .ok (.agg vs.toArray) w:=by
  unfold Ob at ht
  split at ht
  ·rename_i hd;exact hrun _ hd rfl
  ·rename_i hd;exact hrun _ hd rfl
  ·cases ht
  ·cases ht
 simp only[Kd,Sem.run_bind,Instr.loadAt,Instr.sureAddr,Sem.run_pure,Result.andThen_ok,hl]
def RV.cl(r:RV):List Value:=[.bool r.a.s,.slice r.a.A r.a.n r.a.c,.bool r.b.s,.slice r.b.A r.b.n r.b.c]
def RatsAt(w:World)(g:Nat)(L:List RV):Prop:=∀k r,L[k]? =some r→w.rangeAt g (k*4) r.cl
theorem cl_at:∀(L:List RV) (k j:Nat) (r:RV) (v:Value),L[k]? =some r→r.cl[j]? =some v→(L.flatMap RV.cl)[k*4+j]? =some v:=by
 intro L
 induction L with
 |nil=>intro k j r v h;cases h
 | cons x L ih=>
  intro k j r v h hv
  have hj:j<4:=(List.getElem?_eq_some_iff.1 hv).1
  rw[List.flatMap_cons]
  cases k with
  |zero=>
   obtain rfl:x=r:=by simpa using h
   rw[List.getElem?_append_left (by show 0*4+j<4;omega),Nat.zero_mul,Nat.zero_add]
   exact hv
  |succ k=>
   rw[List.getElem?_append_right (by show 4≤(k+1)*4+j;omega),show(k+1)*4+j-x.cl.length=k*4+j by show(k+1)*4+j-4=_;omega]
   exact ih k j r v (by simpa using h) hv
theorem Ed{t:TypeId}{g:Nat}{L:List RV}{w:World}(h:Kv t (L.flatMap RV.cl).toArray g w):RatsAt w g L:=by
 intro k r hk j v hv
 unfold Kv at h
 simp only[World.cell?,h,Option.isSome_none,Bool.false_eq_true,if_false]
 rw[List.getElem?_toArray]
 exact cl_at L k j r v hk hv
theorem Lg{P:Program}{t elem:TypeId}{ad:Addr}{n c k s:Nat}{w:World}(hu:P.underlying t=some (.slice elem))(hs:N8 P elem=some s)(hk:k<n):
 (Kc t (.slice (some ad) n c) k).run P w= .ok (.value (.pointer (some (ad.add (k*s))))) w:=by
 have hb:0≤(k:Int)∧(k:Int)<(n:Int):=by omega
 simp only[Kc,Instr.indexAt,asIntOf,Sem.run_bind,Sem.run_pure,Result.andThen_ok,run_underlying hu,Lf hs,if_pos hb,Int.toNat_natCast]
theorem N7{P:Program}{t:TypeId}{ad:Addr}{vs:List Value}{w:World}(ht:Ob P t=some true)(hn:N8 P t=some vs.length)(h:∀j v,vs[j]? =some v→w.cell? (ad.add j)=some v):
 (Kd t ad).run P w= .ok (.value (.agg vs.toArray)) w:=by
 have hl:(loadCells ad vs.length).run P w= .ok vs.toArray w:=run_loadCells_list (P:=P) w ad vs h
 have hag:(isAgg t).run P w= .ok true w:=by
  unfold Ob at ht
  split at ht
  ·rename_i hd;unfold isAgg;rw[Sem.run_bind,run_underlying hd w];rfl
  ·rename_i hd;unfold isAgg;rw[Sem.run_bind,run_underlying hd w];rfl
  ·cases ht
  ·cases ht
 simp only[Kd,Instr.loadAt,Instr.sureAddr,loadVar,Sem.run_bind,Sem.run_pure,Result.andThen_ok,hag,if_true,Lf hn,hl]
theorem Ck{P:Program}{f:FuncId}{fn:Func}{args:Array Value}{W w:World}{c:Code}{Q:Exit→Act→World→Prop}(hc:fn.body=some c)(hW:Below W.heap.size W w)
 (h:K0 P [] W Q (fun u=>w.heap.size≤u.heap.size∧∀b,W.heap.size≤b→b<w.heap.size→u.heap[b]? =w.heap[b]?) (R3 fn args)):
 c.wp P Q {tmps:=args++Array.replicate (fn.ntmps-args.size) undef,defers:=[]} w:=by
 replace h:=h.get
 simp only[Qp,R3,hc,Option.getD_some]at h
 refine wpIn_wide.1 (h ?_ (fun _=>0) _ w ?_)
 ·refine⟨fun x hx k hk=> ?_,fun j cs hj=>by cases hj⟩
  simp only[List.mem_append,List.mem_map,List.mem_replicate]at hx
  rcases hx with ⟨q,_,rfl⟩|⟨_,rfl⟩<;>simp[AV.ids]at hk
 ·refine⟨?_,rfl,hW,fun k cs hk=>(by cases hk),fun k k' hk=>(by cases hk),fun w' hw=>⟨hw.size,fun b h1 h2=>hw.heap b h1 h2 (fun k hk=>by cases hk)⟩⟩
  simp[Function.comp_def,AV.conc]
theorem K0.enterD{P:Program}{f:FuncId}{fn:Func}{args:Array Value}{W w:World}{R:Ending→World→Prop}
 (hf:P.funcs[f]? =some fn) (hb:fn.body.isSome=true) (hW:Below W.heap.size W w)
 (h:K0 P [] W (bodyPostD P fn R) (fun u=>w.heap.size≤u.heap.size∧∀b,W.heap.size≤b→b<w.heap.size→u.heap[b]? =w.heap[b]?) (R3 fn args)):Calls P f args w R:=by
 obtain⟨c,hc⟩:=Option.isSome_iff_exists.1 hb
 exact calls_of_wp_defers hf hc (Ck (f:=f) hc hW h)
theorem K0.enterT{P:Program}{f:FuncId}{fn:Func}{args:Array Value}{W w:World}{u:FrameMode}{R:Ending→World→Prop}
 (hf:P.funcs[f]? =some fn) (hb:fn.body.isSome=true) (hW:Below W.heap.size W w)
 (h:K0 P [] W (bodyPost P fn R) (fun u=>w.heap.size≤u.heap.size∧∀b,W.heap.size≤b→b<w.heap.size→u.heap[b]? =w.heap[b]?) (R3 fn args)):CallsD P f args u w fun e u' w'=>u'=u∧R e w':=by
 obtain⟨c,hc⟩:=Option.isSome_iff_exists.1 hb
 exact callsD_of_wp hf hc (Ck (f:=f) hc hW h)
end Go.Proofs.YtpgkbllcnphmbaaGreatDoor
