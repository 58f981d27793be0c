/-
 A part of the proof.
-/
import Derived.Test.YtpgkbllcnphmbaaGreatDoorBQP
import Derived.Test.YtpgkbllcnphmbaaGreatDoorBBr
import Derived.Test.YtpgkbllcnphmbaaGreatDoorASh
import Derived.Lib.IndexBytes
import Derived.IntWalk
import Derived.Test.YtpgkbllcnphmbaaGreatDoorBAr
namespace Go.Proofs.YtpgkbllcnphmbaaGreatDoor
set_option maxRecDepth 100000
set_option maxHeartbeats 8000000
set_option linter.unusedVariables false
set_option linter.unusedSimpArgs false
open Go.RowKit
section
variable{P:Program}{w:World}{l m:List UInt8}{t:TypeId}
def opS(op:BinOp)(t:TypeId)(x y:Operand)(u v:Value):Sem Next:=(do eqGuard op t x y u v;binOp op t u v) >>= fun v=>pure (.value v)
end
def Yj(x:Int):Bool:=decide (-9223372036854775808≤x∧x≤9223372036854775807)
def toV(x:Int):Int:=if Yj x then x else 0
theorem Vg{x:Int}(h1: -9223372036854775808≤x)(h2:x≤9223372036854775807):Yj x=true∧toV x=x:=by
 have h:Yj x=true:=decide_eq_true ⟨h1,h2⟩
 exact⟨h,by rw[toV,h];rfl⟩
theorem Bp{x:Int}(h:¬(-9223372036854775808≤x∧x≤9223372036854775807)):Yj x=false∧toV x=0:=by
 have h:Yj x=false:=decide_eq_false h
 exact⟨h,by rw[toV,h];rfl⟩
theorem or_zero1{y:Nat}(hy:y<4294967296):bits .or .u64 0 (y:Int)=(y:Int):=by
 rw[show(0:Int)=((0:Nat):Int)from rfl,u64_or_nat _ _ Zo Zo,Nat.zero_or]
theorem in_cell{w:World}{ad:Addr}{n c k:Nat}{l:List Nat}(h:In w (some ad) n c l)(hk:k<n):w.cell? (ad.add k)=some (.int .u32 (dg l k:Int)):=by
 obtain⟨ad2,h1,h2⟩:=h.at_ hk
 cases h1;exact h2
theorem Ia{k:Nat}(h:k<18446744073709551616):IntKind.u64.wrap (k:Int)=(k:Int):=by rw[Lm];omega
section
variable{w:World}{a:SV}{x:Int}{K k:Nat}{d:DV}{l:List UInt8}
theorem val1{l:List Nat}(h:l.length=1):val l=dg l 0:=by
 match l,h with
 | [a],_=>simp[val,dg]
theorem val2{l:List Nat}(h:l.length=2):val l=dg l 1*4294967296+dg l 0:=by
 match l,h with
 | [a,b],_=>simp[val,dg];omega
theorem norm_big{l:List Nat}(h:Pp l)(hl:2<l.length):18446744073709551616≤val l:=by
 have h1:=h.pos (by intro e;rw[e]at hl;simp at hl)
 have h2:=Zn (show 2≤l.length-1 by omega)
 rw[V6]at h2
 omega
theorem Eh{k:Nat}(h:k≤9223372036854775808):IntKind.i64.wrap (IntKind.u64.wrap (0- (k:Int)))= -(k:Int):=by rw[Lm,IntKind.wrap_i64];omega
theorem pos_conv{k:Nat}(h:k<9223372036854775808):IntKind.i64.wrap (k:Int)=(k:Int):=by rw[IntKind.wrap_i64];omega
theorem u64_shl{k:Nat}(h:k<4294967296):IntKind.u64.wrap ((k:Int)*2 ^ 32)=(k:Int)*4294967296:=by rw[Lm];omega
theorem itoInt_m(ia:Ss a x K w)(hK:K≤274877906944):Calls Tryz.prog 58 #[a.val] w (K3 w (fun _:Unit=> .tuple #[.int .i64 (toV x),.bool (Yj x)]) fun _ _=>True):=by
 have hx:=ia.zi
 rw[←ia.abs]at hx
 have hneg:a.s=true→x= -(x.natAbs:Int):=fun h=>by rw[h]at hx;simp[zi]at hx;omega
 have hpos:a.s=false→x=(x.natAbs:Int):=fun h=>by rw[h]at hx;simp[zi]at hx;omega
 refine K0.enter Tryz.func58 rfl ?_
 refine ZR ?_
 refine ZC (fun w1 hw h=>J8 (ia.d.below hw) hK) fun m=> ?_
 obtain⟨A,n,c,l⟩:=m
 refine K0.pure_ (p:=l.length=n∧val l=x.natAbs∧Pp l) (fun w1 hw h=>⟨h.2.1.1.1.len,h.2.1.1.2.1,h.2.1.2⟩) Zk (fun hp=> ?_)
 obtain⟨hln,hv,hN⟩:=hp
 by_cases h3:2<n
 case pos=>
  have hbig:=norm_big hN Zo
  rw[hv]at hbig
  have hf:=Bp (x:=x) Zo
  have hmax:n≤274877906944:=by have q:=hN.length_le (k:=K) (by rw[hv];exact ia.lt);omega
  refine K0.un Zk ?_
  refine ZS 3 ?_
  refine ZT 15 (.bool (decide (IntKind.i64.wrap ((n:Int)-1)≥0))) (.bool true) (by rw[IntWalk.i64_in _ Zo,decide_eq_true Zo]) ?_
  refine K0.condr (decide ((n:Int)≤2)) false Zk (decide_eq_false Zo) ?_
  refine ZS 4 ?_
  refine ZT 34 (.bool (decide ((n:Int)>2))) (.bool true) (by rw[decide_eq_true Zo]) ?_
  refine ZI true ?_
  exact ZX (.tuple #[.int .i64 0,.bool false]) (by rw[hf.1,hf.2])
 have hcell:∀{ad:Addr} {u:World} {j:Nat},Wa ⟨some ad,n,c,l⟩ x.natAbs K u→j<n→u.cell? (ad.add j)=some (.int .u32 (dg l j:Int)):=fun q hj=>in_cell q.1.1.1 hj
 obtain rfl|rfl|rfl:n=0∨n=1∨n=2:=by omega
 ·have h0:x=0:=by rw[List.length_eq_zero_iff.1 hln]at hv;simp[val]at hv;omega
  refine K0.un Zk ?_
  refine ZR ?_
  refine ZI false ?_
  refine ZI false ?_
  refine K0.both (a.s) Zk (fun hc=> ?_) (fun hc=> ?_)
  ·
   refine ZR ?_
   exact ZX (.tuple #[.int .i64 0,.bool true]) (by rw[h0];rfl)
  ·
   refine ZR ?_
   exact ZX (.tuple #[.int .i64 0,.bool true]) (by rw[h0];rfl)
 ·have hd0:=hN.1 0
  rw[val1 hln]at hv
  refine K0.pure_ (p:=∃ad,A=some ad) (fun w1 hw h=>by obtain⟨ad,hA,_⟩:=h.2.1.1.1.at_ (k:=0) (by show 0<1;decide);exact⟨ad,hA⟩) Zk (fun hA=> ?_)
  obtain⟨ad,rfl⟩:=hA
  refine K0.un Zk ?_
  refine ZR ?_
  refine ZI true ?_
  refine ZA (Kc 22 (.slice (some ad) 1 c) ((0:Nat):Int)) (.pointer (some (ad.add 0))) (fun w1 hw h=>R5 (elem:=144) Zk Zk Zd) ?_
  refine K0.ask (Kd 144 (ad.add 0)) (.int .u32 (dg l 0:Int)) Zk (fun w1 hw h=>Kg Zk (hcell h.2 Zd)) ?_
  refine ZS 7 ?_
  refine K0.slot 28 (.int .u64 (IntKind.u64.wrap (dg l 0:Int))) (.int .u64 (dg l 0:Int)) Zk (by rw[Ia Zo]) ?_
  refine ZS 8 ?_
  refine ZT 29 (.int .u64 (bits .or .u64 0 (dg l 0:Int))) (.int .u64 ((x.natAbs:Nat):Int)) (by rw[or_zero1 hd0,hv]) ?_
  refine K0.cond false Zk ?_
  refine ZS 7 ?_
  refine K0.slot 37 (.bool (decide (((x.natAbs:Nat):Int)>9223372036854775808))) (.bool false) Zk (by rw[decide_eq_false Zo]) ?_
  refine ZS 10 ?_
  refine ZT 40 (.bool (((x.natAbs:Nat):Int)==9223372036854775808)) (.bool false) (by rw[beq_eq_false_iff_ne.2 Zo]) ?_
  refine ZI false ?_
  refine K0.both (a.s) Zk (fun hc=> ?_) (fun hc=> ?_)
  ·
   refine ZR ?_
   exact ZX (.tuple #[.int .i64 (IntKind.i64.wrap (IntKind.u64.wrap (0- ((x.natAbs:Nat):Int)))),.bool true]) (by have e:=hneg hc;have ft:=Vg (x:=x) Zo Zo;rw[ft.1,ft.2,Eh Zo,←e])
  ·
   refine ZR ?_
   exact ZX (.tuple #[.int .i64 (IntKind.i64.wrap ((x.natAbs:Nat):Int)),.bool true]) (by have e:=hpos hc;have ft:=Vg (x:=x) Zo Zo;rw[ft.1,ft.2,pos_conv Zo,←e])
 ·have hd0:=hN.1 0
  have hd1:=hN.1 1
  rw[val2 hln]at hv
  refine K0.pure_ (p:=∃ad,A=some ad) (fun w1 hw h=>by obtain⟨ad,hA,_⟩:=h.2.1.1.1.at_ (k:=0) (by show 0<2;decide);exact⟨ad,hA⟩) Zk (fun hA=> ?_)
  obtain⟨ad,rfl⟩:=hA
  refine K0.un Zk ?_
  refine ZR ?_
  refine ZI true ?_
  refine ZA (Kc 22 (.slice (some ad) 2 c) ((1:Nat):Int)) (.pointer (some (ad.add 1))) (fun w1 hw h=>R5 (elem:=144) Zk Zk Zd) ?_
  refine K0.ask (Kd 144 (ad.add 1)) (.int .u32 (dg l 1:Int)) Zk (fun w1 hw h=>Kg Zk (hcell h.2 Zd)) ?_
  refine ZS 7 ?_
  refine K0.slot 28 (.int .u64 (IntKind.u64.wrap (dg l 1:Int))) (.int .u64 (dg l 1:Int)) Zk (by rw[Ia Zo]) ?_
  refine ZS 8 ?_
  refine ZT 29 (.int .u64 (bits .or .u64 0 (dg l 1:Int))) (.int .u64 (dg l 1:Int)) (by rw[or_zero1 hd1]) ?_
  refine ZI true ?_
  refine ZA (Kc 22 (.slice (some ad) 2 c) ((0:Nat):Int)) (.pointer (some (ad.add 0))) (fun w1 hw h=>R5 (elem:=144) Zk Zk Zd) ?_
  refine K0.ask (Kd 144 (ad.add 0)) (.int .u32 (dg l 0:Int)) Zk (fun w1 hw h=>Kg Zk (hcell h.2 Zd)) ?_
  refine ZS 7 ?_
  refine K0.slot 28 (.int .u64 (IntKind.u64.wrap (dg l 0:Int))) (.int .u64 (dg l 0:Int)) Zk (by rw[Ia Zo]) ?_
  refine K0.slot 23 (.int .u64 (IntKind.u64.wrap ((dg l 1:Int)*2 ^ 32))) (.int .u64 ((dg l 1:Int)*4294967296)) Zk (by rw[u64_shl hd1]) ?_
  refine ZS 8 ?_
  refine ZT 29 (.int .u64 (bits .or .u64 ((dg l 1:Int)*4294967296) (dg l 0:Int))) (.int .u64 ((x.natAbs:Nat):Int)) (by rw[D9 hd1 hd0,hv]) ?_
  refine K0.cond false Zk ?_
  refine ZS 7 ?_
  by_cases g:9223372036854775808<x.natAbs
  case pos=>
   have hf:=Bp (x:=x) Zo
   refine ZT 37 (.bool (decide (((x.natAbs:Nat):Int)>9223372036854775808))) (.bool true) (by rw[decide_eq_true Zo]) ?_
   refine ZI true ?_
   exact ZX (.tuple #[.int .i64 0,.bool false]) (by rw[hf.1,hf.2])
  refine K0.slot 37 (.bool (decide (((x.natAbs:Nat):Int)>9223372036854775808))) (.bool false) Zk (by rw[decide_eq_false Zo]) ?_
  refine ZS 10 ?_
  by_cases q:x.natAbs=9223372036854775808
  case pos=>
   refine ZT 40 (.bool (((x.natAbs:Nat):Int)==9223372036854775808)) (.bool true) (by rw[beq_iff_eq.2 Zo]) ?_
   refine K0.both ((!a.s)) Zk (fun hc=> ?_) (fun hc=> ?_)
   ·have hc2:a.s=false:=by revert hc;cases a.s<;>simp
    have hf:=Bp (x:=x) (by have e:=hpos hc2;omega)
    refine ZR ?_
    exact ZX (.tuple #[.int .i64 0,.bool false]) (by rw[hf.1,hf.2])
   ·have hc2:a.s=true:=by revert hc;cases a.s<;>simp
    refine ZR ?_
    refine ZJ (a.s) true (hc2) ?_
    exact ZX (.tuple #[.int .i64 (IntKind.i64.wrap (IntKind.u64.wrap (0- ((x.natAbs:Nat):Int)))),.bool true]) (by have e:=hneg hc2;have ft:=Vg (x:=x) Zo Zo;rw[ft.1,ft.2,Eh Zo,←e])
  refine ZT 40 (.bool (((x.natAbs:Nat):Int)==9223372036854775808)) (.bool false) (by rw[beq_eq_false_iff_ne.2 Zo]) ?_
  refine ZI false ?_
  refine K0.both (a.s) Zk (fun hc=> ?_) (fun hc=> ?_)
  ·
   refine ZR ?_
   exact ZX (.tuple #[.int .i64 (IntKind.i64.wrap (IntKind.u64.wrap (0- ((x.natAbs:Nat):Int)))),.bool true]) (by have e:=hneg hc;have ft:=Vg (x:=x) Zo Zo;rw[ft.1,ft.2,Eh Zo,←e])
  ·
   refine ZR ?_
   exact ZX (.tuple #[.int .i64 (IntKind.i64.wrap ((x.natAbs:Nat):Int)),.bool true]) (by have e:=hpos hc;have ft:=Vg (x:=x) Zo Zo;rw[ft.1,ft.2,pos_conv Zo,←e])
end
section
variable{w:World}{t u:TV}{T U:Mi}{K K1 K2:Nat}{r s:RV}{p q:Rat}{X Y:Int}
theorem K8.below{g:Nat}{cs:List Value}{w':World}(h:K8 w g cs)(hb:Below w.heap.size w w'):K8 w' g cs:=by
 obtain⟨ty,h⟩:=h
 exact⟨ty,(hb.block g (Array.getElem?_eq_some_iff.1 h).1).trans h⟩
def eqA(T U:Mi):Bool:=decide (T.a=U.a)&&(decide (T.b=U.b)&&(decide (T.c=U.c)&&(decide (T.d=U.d)&&(decide (T.e=U.e)&&decide (T.f=U.f)))))
theorem eqA_rfl:eqA T T=true:=by simp[eqA]
def OutA(r:TV)(e:Int)(T:Mi)(K:Nat)(u:World):Prop:=if e=0 then Sb r T K u else r=TV0
theorem outA0{e:Int}(he:e≠0):OutA TV0 e T K w:=by unfold OutA;rw[if_neg he]
theorem outAn{r:TV}{e:Int}(he:e=0)(h:Sb r T K w):OutA r e T K w:=by unfold OutA;rwa [if_pos he]
structure RowT(w:World)(A:Option Addr)(n:Nat)(L:List TV)(Ts:List Mi)(K:Nat):Prop where
 len:L.length=n
 lenT:Ts.length=n
 cells:∀(k:Nat) (t:TV),L[k]? =some t→∃ad:Addr,A=some ad∧∀(j:Nat) (v:Value),t.cl[j]? =some v→w.cell? ((ad.add (k*24)).add j)=some v
 elems:∀(k:Nat) (t:TV) (T:Mi),L[k]? =some t→Ts[k]? =some T→S4 t T K w
def Xy:Mi→List Mi→Bool
 |_,[]=>true
 |A,T::l=>(A.comp T).ok&&Xy (A.comp T) l
def compF(Ts:List Mi):Mi:=Ts.foldl Mi.comp Oi
def Tm(Ts:List Mi):Int:=if (Ts.all Mi.ok&&Xy Oi Ts)=true then 0 else 5
def bd(z:Int):Prop:= -9223372036854775808≤z∧z≤9223372036854775807
theorem compose_m{A:Option Addr}{n c:Nat}{L:List TV}{Ts:List Mi}(hl:RowT w A n L Ts K)(hn:n≤1000)(hK:8≤K∧K≤1000000):
 Calls Tryz.prog 308 #[.slice A n c] w (K3 w (fun r:TV=> .tuple #[r.val,.int .i64 (Tm Ts)]) fun r u=>OutA r (Tm Ts) (compF Ts) 8 u):=by
 refine K0.enter Tryz.func308 rfl ?_
 refine ZR ?_
 refine ZC (fun w1 hw h=>identity_m) fun i=> ?_
 refine K0.loop (ι:={k:Nat // k≤n∧(Ts.take k).all Mi.ok=true}) 37 (fun q=>⟨[(0,.v (.slice A n c)),(2,.p 2 0),(3,.v (.int .i64 0)),(4,.p 4 0),(10,.v (.slice A n c)),(11,.v (.int .i64 n)),(12,.v (.int .i64 q.1))],[(2,TV0.cl.map .v),(4,i.cl.map .v)]⟩) (fun _ u=>Sb i Oi 2 u) (fun q=>n-q.1) (⟨0,by omega,rfl⟩) Zk (fun _=>by kernel_rfl) ⟨Zk,Zk,Zk⟩ (fun u h=>h.2) ?_
 rintro⟨k,hk,hall⟩ gg
 by_cases hlt:k<n
 ·
  refine ZR ?_
  refine ZJ (decide ((k:Int)<(n:Int))) true Zp ?_
  obtain⟨x,hx⟩:∃x,L[k]? =some x:=⟨_,List.getElem?_eq_getElem (by rw[hl.len];exact hlt)⟩
  obtain⟨T,hT⟩:∃T,Ts[k]? =some T:=⟨_,List.getElem?_eq_getElem (by rw[hl.lenT];exact hlt)⟩
  obtain⟨ad,hA,hcells⟩:=hl.cells k x hx
  have hxT:=hl.elems k x T hx hT
  refine ZA (Kc 395 (.slice A n c) k) (.pointer (some (ad.add (k*24)))) (fun w1 hw h=>by rw[hA];exact Lg (elem:=28) Zk Zk hlt) ?_
  refine ZA (Kd 28 (ad.add (k*24))) (x.val) (fun w1 hw h=>N7 (vs:=x.cl) Zk Zk (fun j v hv=>Kt hw (hcells j v hv))) ?_
  cases hB:T.ok
  ·
   refine ZC (fun w1 hw h=>Q9 hB (hxT.below hw) Zo) fun u=> ?_
   refine K0.runC Zk (stop:=1000) 6000 _ ?_
   refine K0.leave Zk ?_
   refine ZR ?_
   have he:Tm Ts=5:=by
    unfold Tm
    rw[if_neg]
    intro e
    have h1:=List.all_eq_true.1 (Bool.and_eq_true _ _▸e).1 T (List.mem_of_getElem? hT)
    rw[hB]at h1;cases h1
   refine ZV (.tuple #[TV0.val,.int .i64 5]) (fun w1 hw h=>⟨TV0,by rw[he],hw,fun w'' k1 k2=>outA0 (by rw[he];decide)⟩)
  ·
   refine ZC (fun w1 hw h=>Q9 hB (hxT.below hw) Zo) fun u=> ?_
   refine ZI false ?_
   refine K0.slot 12 (.int .i64 (IntKind.i64.wrap ((k:Int)+1))) (.int .i64 ((k+1:Nat):Int)) Zk (by rw[K7 hlt Zo]) ?_
   refine K0.next (⟨k+1,by omega,by rw[List.take_add_one,hT,List.all_append,hall];simp[hB]⟩) Zk (by show n- (k+1)<n-k;omega) ⟨Zk,Zk,Zk⟩ (fun u h=>h.1)
 ·
  refine ZR ?_
  refine ZJ (decide ((k:Int)<(n:Int))) false (by simp at hlt ⊢;omega) ?_
  refine K0.leave Zk ?_
  refine ZR ?_
  have hkn:k=n:=by omega
  have hok:Ts.all Mi.ok=true:=by rw[hkn,List.take_of_length_le (by rw[hl.lenT];omega)]at hall;exact hall
  refine K0.loop (ι:={q:Nat×TV×Mi // q.1≤n∧Xy Oi Ts=Xy q.2.2 (Ts.drop q.1)∧compF Ts=(Ts.drop q.1).foldl Mi.comp q.2.2}) 37 (fun q=>⟨[(0,.v (.slice A n c)),(2,.p 2 0),(3,.v (.int .i64 0)),(4,.p 4 0),(21,.v (.slice A n c)),(22,.v (.int .i64 n)),(23,.v (.int .i64 q.1.1))],[(2,TV0.cl.map .v),(4,q.1.2.1.cl.map .v)]⟩) (fun q u=>Sb q.1.2.1 q.1.2.2 8 u) (fun q=>n-q.1.1) (⟨(0,i,Oi),by show 0≤n;omega,rfl,rfl⟩) Zk (fun _=>by kernel_rfl) ⟨Zk,Zk,Zk⟩ (fun u h=>h.mono Zd) ?_
  rintro⟨⟨k,t,T⟩,hk,hpre,hcomp⟩ gg
  simp only at hk hpre hcomp
  by_cases hlt:k<n
  ·
   refine ZR ?_
   refine ZJ (decide ((k:Int)<(n:Int))) true Zp ?_
   obtain⟨x,hx⟩:∃x,L[k]? =some x:=⟨_,List.getElem?_eq_getElem (by rw[hl.len];exact hlt)⟩
   obtain⟨S,hT⟩:∃T,Ts[k]? =some T:=⟨_,List.getElem?_eq_getElem (by rw[hl.lenT];exact hlt)⟩
   obtain⟨ad,hA,hcells⟩:=hl.cells k x hx
   have hxT:=hl.elems k x S hx hT
   have hdrop:Ts.drop k=S::Ts.drop (k+1):=by
    rw[←List.getElem_cons_drop (h:=by rw[hl.lenT];exact hlt)]
    congr 1
    have:=List.getElem?_eq_getElem (l:=Ts) (i:=k) (by rw[hl.lenT];exact hlt)
    rw[hT]at this
    injection this with this
    exact this.symm
   rw[hdrop]at hpre hcomp
   simp only[Xy]at hpre
   refine ZA (Kc 395 (.slice A n c) k) (.pointer (some (ad.add (k*24)))) (fun w1 hw h=>by rw[hA];exact Lg (elem:=28) Zk Zk hlt) ?_
   refine ZA (Kd 28 (ad.add (k*24))) (x.val) (fun w1 hw h=>N7 (vs:=x.cl) Zk Zk (fun j v hv=>Kt hw (hcells j v hv))) ?_
   refine ZC (fun w1 hw h=>behind_m (h.q.mono hK.1) (hxT.below hw) Zo) fun b=> ?_
   cases hB:(T.comp S).ok
   ·
    refine ZC (fun w1 hw h=>Q9 hB h.2.q Zo) fun u=> ?_
    refine K0.runC Zk (stop:=1000) 6000 _ ?_
    refine K0.leave Zk ?_
    refine ZR ?_
    have he:Tm Ts=5:=by
     unfold Tm
     rw[if_neg]
     intro e
     rw[hpre,hB]at e
     simp at e
    refine ZV (.tuple #[TV0.val,.int .i64 5]) (fun w1 hw h=>⟨TV0,by rw[he],hw,fun w'' k1 k2=>outA0 (by rw[he];decide)⟩)
   ·
    refine ZC (fun w1 hw h=>Q9 hB h.2.q Zo) fun u=> ?_
    refine ZI false ?_
    refine K0.slot 23 (.int .i64 (IntKind.i64.wrap ((k:Int)+1))) (.int .i64 ((k+1:Nat):Int)) Zk (by rw[K7 hlt Zo]) ?_
    refine K0.next (⟨(k+1,b,T.comp S),by show k+1≤n;omega,by rw[hpre,hB,Bool.true_and],by rw[hcomp];rfl⟩) Zk (by show n- (k+1)<n-k;omega) ⟨Zk,Zk,Zk⟩ (fun u h=>h.1.2.of_ok hB)
  ·
   refine ZR ?_
   refine ZJ (decide ((k:Int)<(n:Int))) false (by simp at hlt ⊢;omega) ?_
   refine K0.leave Zk ?_
   refine ZR ?_
   have hkn:k=n:=by omega
   have hd:Ts.drop k=[]:=List.drop_eq_nil_of_le (by rw[hl.lenT];omega)
   rw[hd]at hpre hcomp
   have he:Tm Ts=0:=by
    unfold Tm
    rw[hok,hpre]
    rfl
   refine ZC (fun w1 hw h=>normA_m h.q Zd) fun v=> ?_
   refine ZV (.tuple #[v.val,.int .i64 0]) (fun w1 hw h=>⟨v,by rw[he],hw,fun w'' k1 k2=>outAn he ((h w'' k1 k2).2.cast hcomp.symm)⟩)
theorem Hw{A:Option Addr}{n c:Nat}{L:List TV}{Ts:List Mi}{e:Int}(he:Tm Ts=e)(hl:RowT w A n L Ts K)(hn:n≤1000)(hK:8≤K∧K≤1000000):
 Calls Tryz.prog 308 #[.slice A n c] w (K3 w (fun r:TV=> .tuple #[r.val,.int .i64 e]) fun r u=>OutA r e (compF Ts) 8 u):=by subst he;exact compose_m hl hn hK
def halfQ:Rat:=Rat.divInt 1 2
def atX(T:Mi)(X Y:Int):Int:=((T.app (X:Rat) (Y:Rat)).1+halfQ).floor
def atY(T:Mi)(X Y:Int):Int:=((T.app (X:Rat) (Y:Rat)).2+halfQ).floor
def Jy(T:Mi)(X Y:Int):Bool:=Yj (atX T X Y)&&(Yj (atY T X Y)&&Lt (toV (atX T X Y)) (toV (atY T X Y)))
def Fy(T:Mi)(X Y:Int):Int:=if T.ok=false then 5 else if Lt X Y=false then 6 else if Jy T X Y=false then 6 else 0
def atP(T:Mi)(X Y:Int):Value:=if Fy T X Y=0 then pt (atX T X Y) (atY T X Y)else pt 0 0
theorem Te{a:SV}{x v:Int}{B:Bool}(hv:toV x=v)(hB:Yj x=B)(ha:Ss a x K w)(hK:K≤1000000):Calls Tryz.prog 58 #[a.val] w (K3 w (fun _:Unit=> .tuple #[.int .i64 v,.bool B]) fun _ _=>True):=by
 subst hv;subst hB;exact itoInt_m ha (Nat.le_trans hK Zd)
theorem C0{e:Int}(he:Fy T X Y=e)(h0:e≠0):(Value.tuple #[atP T X Y,.int .i64 (Fy T X Y)])= .tuple #[pt 0 0,.int .i64 e]:=by
 unfold atP;rw[he,if_neg h0]
theorem Z1{x:Int}(h:Yj x=true):toV x=x:=by unfold toV;rw[if_pos h]
theorem apply_m(ht:S4 t T K w)(hK:8≤K∧K≤10000):Calls Tryz.prog 46 #[t.val,pt X Y] w (K3 w (fun _:Unit=> .tuple #[atP T X Y,.int .i64 (Fy T X Y)]) fun _ _=>True):=by
 refine K0.enter Tryz.func46 rfl ?_
 refine ZR ?_
 cases hB:T.ok
 ·
  refine ZC (fun w1 hw h=>Q9 hB (ht.below hw) Zo) fun u=> ?_
  refine K0.runC Zk (stop:=1000) 6000 _ ?_
  have he:Fy T X Y=5:=by unfold Fy;rw[if_pos hB]
  exact ZX (.tuple #[pt 0 0,.int .i64 5]) (congrArg Ending.returned (C0 he Zd).symm)
 refine ZC (fun w1 hw h=>Q9 hB (ht.below hw) Zo) fun u=> ?_
 refine ZI false ?_
 cases hP:Lt X Y
 ·
  refine ZC (fun w1 hw h=>Nh hP) fun u=> ?_
  refine K0.runC Zk (stop:=1000) 6000 _ ?_
  have he:Fy T X Y=6:=by unfold Fy;rw[if_neg (by rw[hB];simp),if_pos hP]
  exact ZX (.tuple #[pt 0 0,.int .i64 6]) (congrArg Ending.returned (C0 he Zd).symm)
 refine ZC (fun w1 hw h=>Nh hP) fun u=> ?_
 refine ZI false ?_
 have hpb:(-1048576≤X∧X≤1048576)∧(-1048576≤Y∧Y≤1048576):=by unfold Lt at hP;simpa using hP
 refine ZC (fun w1 hw h=>Ki X w1 Zo Zo) fun c=> ?_
 refine ZC (fun w1 hw h=>Ki Y w1 Zo Zo) fun d=> ?_
 refine ZC (fun w1 hw h=>applyE_m (ht.below hw) (h.1.2.q.mono Zo) (h.2.q.mono Zo) Zo) fun x=> ?_
 refine ZC (fun w1 hw h=>R8 (x:=1) (y:=2) Zd Zd) fun f=> ?_
 refine ZC (fun w1 hw h=>Sx h.1.2.1.q (h.2.n Zd).q Zo) fun m=> ?_
 refine ZC (fun w1 hw h=>Zm h.2.q Zo) fun g=> ?_
 obtain⟨a,ha⟩:∃a,toV (atX T X Y)=a:=⟨_,rfl⟩
 obtain⟨b,hb⟩:∃b,toV (atY T X Y)=b:=⟨_,rfl⟩
 have bad:Jy T X Y=false→Fy T X Y=6:=fun h=>by unfold Fy;rw[if_neg (by rw[hB];simp),if_neg (by rw[hP];simp),if_pos h]
 cases hfa:Yj (atX T X Y)
 ·
  refine ZC (fun w1 hw h=>Te ha hfa h.2.i Zo) fun u=> ?_
  refine ZC (fun w1 hw h=>Sx h.1.1.1.1.2.2.q (h.1.1.1.2.n Zd).q Zo) fun n=> ?_
  refine ZC (fun w1 hw h=>Zm h.2.q Zo) fun k=> ?_
  cases hfb:Yj (atY T X Y)
  all_goals
   refine ZC (fun w1 hw h=>Te hb hfb h.2.i Zo) fun u=> ?_
   refine K0.runC Zk (stop:=1000) 6000 _ ?_
   exact ZX (.tuple #[pt 0 0,.int .i64 6]) (congrArg Ending.returned (C0 (bad (by unfold Jy;rw[hfa];rfl)) Zd).symm)
 refine ZC (fun w1 hw h=>Te ha hfa h.2.i Zo) fun u=> ?_
 refine ZC (fun w1 hw h=>Sx h.1.1.1.1.2.2.q (h.1.1.1.2.n Zd).q Zo) fun n=> ?_
 refine ZC (fun w1 hw h=>Zm h.2.q Zo) fun k=> ?_
 cases hfb:Yj (atY T X Y)
 ·
  refine ZC (fun w1 hw h=>Te hb hfb h.2.i Zo) fun u=> ?_
  refine K0.runC Zk (stop:=1000) 6000 _ ?_
  exact ZX (.tuple #[pt 0 0,.int .i64 6]) (congrArg Ending.returned (C0 (bad (by unfold Jy;rw[hfa,hfb];rfl)) Zd).symm)
 refine ZC (fun w1 hw h=>Te hb hfb h.2.i Zo) fun u=> ?_
 cases hv:Lt a b
 ·
  refine ZC (fun w1 hw h=>Nh hv) fun u=> ?_
  refine K0.runC Zk (stop:=1000) 6000 _ ?_
  exact ZX (.tuple #[pt 0 0,.int .i64 6]) (congrArg Ending.returned (C0 (bad (by unfold Jy;rw[hfa,hfb,ha,hb,hv];rfl)) Zd).symm)
 refine ZC (fun w1 hw h=>Nh hv) fun u=> ?_
 refine K0.runC Zk (stop:=1000) 6000 _ ?_
 have hok:Jy T X Y=true:=by unfold Jy;rw[hfa,hfb,ha,hb,hv];rfl
 have he:Fy T X Y=0:=by unfold Fy;rw[if_neg (by rw[hB];simp),if_neg (by rw[hP];simp),if_neg (by rw[hok];simp)]
 exact ZX (.tuple #[pt a b,.int .i64 0]) (by unfold atP;rw[if_pos he,he,←Z1 hfa,←Z1 hfb,ha,hb])
end
structure Sg where
 v:Int
 ax:Int
 ay:Int
 bx:Int
 by_:Int
 cx:Int
 cy:Int
@[reducible] def Sg.cl(s:Sg):List Value:=[.int .i64 s.v,.int .i64 s.ax,.int .i64 s.ay,.int .i64 s.bx,.int .i64 s.by_,.int .i64 s.cx,.int .i64 s.cy]
@[reducible] def Sg.val(s:Sg):Value:= .agg #[.int .i64 s.v,.int .i64 s.ax,.int .i64 s.ay,.int .i64 s.bx,.int .i64 s.by_,.int .i64 s.cx,.int .i64 s.cy]
def neP(t:TypeId)(x y:Operand)(u v:Value):Sem Next:=(do eqGuard .neq t x y u v;binOp .neq t u v) >>= fun v=>pure (.value v)
theorem D4{x y:Operand}{a b c d:Int}{w:World}:(neP 35 x y (pt a b) (pt c d)).run Tryz.prog w= .ok (.value (.bool (!(a==c&&b==d)))) w:=by
 have h3:Tryz.prog.eqGuardType Tryz.prog.depth 35=false:=by kernel_rfl
 have he:=U0 (x:=x) (y:=y) (a:=a) (b:=b) (c:=c) (d:=d) (w:=w)
 simp only[Xs,pt,Sem.run_bind,run_eqGuard_agg w .eql _ x y _ _ h3,Result.andThen_ok,run_eql_struct,Sem.run_pure]at he
 simp only[neP,pt,Sem.run_bind,run_eqGuard_agg w .neq _ x y _ _ h3,Result.andThen_ok,run_neq_struct,Sem.run_pure]
 generalize (Op.equalIn 10000 35 (.agg #[.int .i64 a,.int .i64 b]) (.agg #[.int .i64 c,.int .i64 d])).run Tryz.prog w=r at he ⊢
 cases r with
 |ok x w'=>simp only[Result.andThen_ok,Sem.run_pure,Result.ok.injEq,Next.value.injEq,Value.bool.injEq]at he ⊢;exact⟨by rw[he.1],he.2⟩
 |_=>cases he
end Go.Proofs.YtpgkbllcnphmbaaGreatDoor
