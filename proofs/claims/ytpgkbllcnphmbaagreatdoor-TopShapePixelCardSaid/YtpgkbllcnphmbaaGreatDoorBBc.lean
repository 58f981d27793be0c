/-
 A part of the proof.
-/
import Derived.Test.YtpgkbllcnphmbaaGreatDoorBBr
import Derived.Test.YtpgkbllcnphmbaaGreatDoorBIx
namespace Go.Proofs.YtpgkbllcnphmbaaGreatDoor
set_option maxRecDepth 100000
set_option maxHeartbeats 8000000
set_option linter.unusedVariables false
set_option linter.unusedSimpArgs false
open Go.RowKit
theorem Ni{p:Pt}(h:vP p=true):(-1048576≤p.1∧p.1≤1048576)∧-1048576≤p.2∧p.2≤1048576:=by
 unfold vP Lt at h
 simp only[Bool.and_eq_true,decide_eq_true_eq]at h
 omega
def addP(p q:Pt):Pt:=(p.1+q.1,p.2+q.2)
theorem mul_bd{x y:Int}{M N:Nat}(hx:x.natAbs≤M)(hy:y.natAbs≤N):(x*y).natAbs≤M*N:=by
 rw[Int.natAbs_mul];exact Nat.mul_le_mul hx hy
theorem Hy{x:Int}(h: -1048576≤x∧x≤1048576):Nb x=x:=by
 unfold Nb;rw[if_neg Zo,if_neg Zo]
section
variable{w:World}{a b c d p q:Pt}{B:Bool}
theorem Bk(h:vP p=true):Calls Tryz.prog 93 #[Ls p] w (K3 w (fun _:Unit=>Ls p) fun _ _=>True):=by
 have:=hold_m (w:=w) (X:=p.1) (Y:=p.2)
 rw[Hy (Ni h).1,Hy (Ni h).2]at this
 exact this
theorem subv_m(ha:vP a=true)(hb:vP b=true):Calls Tryz.prog 239 #[Ls a,Ls b] w (K3 w (fun _:Unit=>Ls (Lk a b)) fun _ _=>True):=by
 have h1:=Ni ha
 have h2:=Ni hb
 refine K0.enter Tryz.func239 rfl ?_
 refine ZR ?_
 refine ZC (fun w1 hw h=>Bk ha) fun u=> ?_
 refine ZC (fun w1 hw h=>Bk hb) fun v=> ?_
 exact ZX (pt (IntKind.i64.wrap (a.1-b.1)) (IntKind.i64.wrap (a.2-b.2))) (by rw[IntWalk.i64_in _ Zo,IntWalk.i64_in _ Zo];rfl)
theorem addv_m(ha:vP a=true)(hb:vP b=true):Calls Tryz.prog 294 #[Ls a,Ls b] w (K3 w (fun _:Unit=>Ls (addP a b)) fun _ _=>True):=by
 have h1:=Ni ha
 have h2:=Ni hb
 refine K0.enter Tryz.func294 rfl ?_
 refine ZR ?_
 refine ZC (fun w1 hw h=>Bk ha) fun u=> ?_
 refine ZC (fun w1 hw h=>Bk hb) fun v=> ?_
 exact ZX (pt (IntKind.i64.wrap (a.1+b.1)) (IntKind.i64.wrap (a.2+b.2))) (by rw[IntWalk.i64_in _ Zo,IntWalk.i64_in _ Zo];rfl)
theorem Ot(ha:vP a=true)(hb:vP b=true)(hB:Pb a b=B):Calls Tryz.prog 296 #[Ls a,Ls b] w (K3 w (fun _:Unit=> .bool B) fun _ _=>True):=by
 subst hB
 refine K0.enter Tryz.func296 rfl ?_
 refine ZR ?_
 refine ZC (fun w1 hw h=>Bk ha) fun u=> ?_
 refine ZD 6 (fun w1 hw h=>Bk hb) fun v=> ?_
 by_cases h1:a.2<b.2
 ·
  refine ZT 14 (.bool (decide (a.2<b.2))) (.bool true) (by rw[decide_eq_true h1]) ?_
  exact ZX (.bool true) (by unfold Pb;rw[decide_eq_true h1,Bool.true_or])
 refine K0.slot 14 (.bool (decide (a.2<b.2))) (.bool false) Zk (by rw[decide_eq_false h1]) ?_
 refine ZS 12 ?_
 cases h2:a.2==b.2
 ·
  refine ZT 20 (.bool (a.2==b.2)) (.bool false) (by rw[h2]) ?_
  exact ZX (.bool false) (by unfold Pb;rw[decide_eq_false h1,h2];rfl)
 refine ZT 20 (.bool (a.2==b.2)) (.bool true) (by rw[h2]) ?_
 exact ZX (.bool (decide (a.1<b.1))) (by unfold Pb;rw[decide_eq_false h1,h2];rfl)
theorem ends_m(ha:vP a=true)(hb:vP b=true):Calls Tryz.prog 295 #[Ls a,Ls b] w (K3 w (fun _:Unit=> .tuple #[Ls (Of a b).1,Ls (Of a b).2]) fun _ _=>True):=by
 cases hl:Pb b a
 ·
  refine K0.enter Tryz.func295 rfl ?_
  refine ZR ?_
  refine ZC (fun w1 hw h=>Ot hb ha hl) fun u=> ?_
  refine ZI false ?_
  exact ZX (.tuple #[Ls a,Ls b]) (by unfold Of;rw[hl];rfl)
 ·
  refine K0.enter Tryz.func295 rfl ?_
  refine ZR ?_
  refine ZC (fun w1 hw h=>Ot hb ha hl) fun u=> ?_
  refine ZI true ?_
  exact ZX (.tuple #[Ls b,Ls a]) (by unfold Of;rw[hl];rfl)
theorem Jk(ha:vP a=true)(hb:vP b=true):vP (Of a b).1=true∧vP (Of a b).2=true:=by
 unfold Of;split
 ·exact⟨hb,ha⟩
 ·exact⟨ha,hb⟩
theorem eqPt:(a.1==b.1&&a.2==b.2)=decide (a=b):=by
 by_cases h:a=b
 ·subst h;simp
 ·rw[decide_eq_false h]
  refine Bool.eq_false_iff.2 fun k=>h ?_
  simp only[Bool.and_eq_true,beq_iff_eq]at k
  exact Prod.ext k.1 k.2
def eqH(x y:Operand){a b:Pt}(_:vP a=true)(_:vP b=true):Sem Next:=Xs 35 x y (Ls a) (Ls b)
def neH(x y:Operand){a b:Pt}(_:vP a=true)(_:vP b=true):Sem Next:=neP 35 x y (Ls a) (Ls b)
theorem Se{x y:Operand}(ha:vP a=true)(hb:vP b=true)(h:decide (a=b)=B):(eqH x y ha hb).run Tryz.prog w= .ok (.value (.bool B)) w:=by
 rw[←h,←eqPt];exact U0
theorem run_neH{x y:Operand}(ha:vP a=true)(hb:vP b=true)(h:decide (a=b)=B):(neH x y ha hb).run Tryz.prog w= .ok (.value (.bool (!B))) w:=by
 rw[←h,←eqPt];exact D4
theorem shared_m(ha:vP a=true)(hb:vP b=true)(hc:vP c=true)(hd:vP d=true):Calls Tryz.prog 241 #[Ls a,Ls b,Ls c,Ls d] w (K3 w (fun _:Unit=> .tuple #[Ls (N6 a b c d).1,.int .i64 (N6 a b c d).2]) fun _ _=>True):=by
 have hp:=Jk ha hb
 have hq:=Jk hc hd
 have hs:N6 a b c d=shP (Of a b) (Of c d):=rfl
 refine K0.enter Tryz.func241 rfl ?_
 refine ZR ?_
 refine ZC (fun w1 hw h=>ends_m ha hb) fun u=> ?_
 refine ZC (fun w1 hw h=>ends_m hc hd) fun v=> ?_
 rw[hs]
 generalize Of a b=p at hp
 generalize Of c d=q at hq
 obtain⟨hp1,hp2⟩:=hp
 obtain⟨hq1,hq2⟩:=hq
 cases h1:Pb p.1 q.1<;>cases h2:Pb q.2 p.2
 ·have hs:shP p q=if Pb p.2 p.1 then((0,0),0)else if p.1=p.2 then(p.1,1)else((0,0),2):=by unfold shP;simp only[h1,h2];rfl
  refine ZC (fun w1 hw h=>Ot hp1 hq1 h1) fun l1=> ?_
  refine ZI false ?_
  refine ZC (fun w1 hw h=>Ot hq2 hp2 h2) fun l2=> ?_
  refine ZI false ?_
  cases h3:Pb p.2 p.1
  ·
   refine ZC (fun w1 hw h=>Ot hp2 hp1 h3) fun l3=> ?_
   refine K0.cond false Zk ?_
   refine ZS 2 ?_
   cases h4:decide (p.1=p.2)
   ·
    refine ZA (eqH (.tmp 36) (.tmp 37) hp1 hp2) (.bool false) (fun w1 hw h=>Se hp1 hp2 h4) ?_
    refine ZI false ?_
    exact ZX (.tuple #[pt 0 0,.int .i64 2]) (by rw[hs,h3,if_neg (of_decide_eq_false h4)];rfl)
   ·
    refine ZA (eqH (.tmp 36) (.tmp 37) hp1 hp2) (.bool true) (fun w1 hw h=>Se hp1 hp2 h4) ?_
    refine ZI true ?_
    exact ZX (.tuple #[Ls p.1,.int .i64 1]) (by rw[hs,h3,if_pos (of_decide_eq_true h4)];rfl)
  ·
   refine ZC (fun w1 hw h=>Ot hp2 hp1 h3) fun l3=> ?_
   refine ZI true ?_
   exact ZX (.tuple #[pt 0 0,.int .i64 0]) (by rw[hs,h3];rfl)
 ·have hs:shP p q=if Pb q.2 p.1 then((0,0),0)else if p.1=q.2 then(p.1,1)else((0,0),2):=by unfold shP;simp only[h1,h2];rfl
  refine ZC (fun w1 hw h=>Ot hp1 hq1 h1) fun l1=> ?_
  refine ZI false ?_
  refine ZC (fun w1 hw h=>Ot hq2 hp2 h2) fun l2=> ?_
  refine ZI true ?_
  cases h3:Pb q.2 p.1
  ·
   refine ZC (fun w1 hw h=>Ot hq2 hp1 h3) fun l3=> ?_
   refine K0.cond false Zk ?_
   refine ZS 2 ?_
   cases h4:decide (p.1=q.2)
   ·
    refine ZA (eqH (.tmp 36) (.tmp 37) hp1 hq2) (.bool false) (fun w1 hw h=>Se hp1 hq2 h4) ?_
    refine ZI false ?_
    exact ZX (.tuple #[pt 0 0,.int .i64 2]) (by rw[hs,h3,if_neg (of_decide_eq_false h4)];rfl)
   ·
    refine ZA (eqH (.tmp 36) (.tmp 37) hp1 hq2) (.bool true) (fun w1 hw h=>Se hp1 hq2 h4) ?_
    refine ZI true ?_
    exact ZX (.tuple #[Ls p.1,.int .i64 1]) (by rw[hs,h3,if_pos (of_decide_eq_true h4)];rfl)
  ·
   refine ZC (fun w1 hw h=>Ot hq2 hp1 h3) fun l3=> ?_
   refine ZI true ?_
   exact ZX (.tuple #[pt 0 0,.int .i64 0]) (by rw[hs,h3];rfl)
 ·have hs:shP p q=if Pb p.2 q.1 then((0,0),0)else if q.1=p.2 then(q.1,1)else((0,0),2):=by unfold shP;simp only[h1,h2];rfl
  refine ZC (fun w1 hw h=>Ot hp1 hq1 h1) fun l1=> ?_
  refine ZI true ?_
  refine ZC (fun w1 hw h=>Ot hq2 hp2 h2) fun l2=> ?_
  refine ZI false ?_
  cases h3:Pb p.2 q.1
  ·
   refine ZC (fun w1 hw h=>Ot hp2 hq1 h3) fun l3=> ?_
   refine K0.cond false Zk ?_
   refine ZS 2 ?_
   cases h4:decide (q.1=p.2)
   ·
    refine ZA (eqH (.tmp 36) (.tmp 37) hq1 hp2) (.bool false) (fun w1 hw h=>Se hq1 hp2 h4) ?_
    refine ZI false ?_
    exact ZX (.tuple #[pt 0 0,.int .i64 2]) (by rw[hs,h3,if_neg (of_decide_eq_false h4)];rfl)
   ·
    refine ZA (eqH (.tmp 36) (.tmp 37) hq1 hp2) (.bool true) (fun w1 hw h=>Se hq1 hp2 h4) ?_
    refine ZI true ?_
    exact ZX (.tuple #[Ls q.1,.int .i64 1]) (by rw[hs,h3,if_pos (of_decide_eq_true h4)];rfl)
  ·
   refine ZC (fun w1 hw h=>Ot hp2 hq1 h3) fun l3=> ?_
   refine ZI true ?_
   exact ZX (.tuple #[pt 0 0,.int .i64 0]) (by rw[hs,h3];rfl)
 ·have hs:shP p q=if Pb q.2 q.1 then((0,0),0)else if q.1=q.2 then(q.1,1)else((0,0),2):=by unfold shP;simp only[h1,h2];rfl
  refine ZC (fun w1 hw h=>Ot hp1 hq1 h1) fun l1=> ?_
  refine ZI true ?_
  refine ZC (fun w1 hw h=>Ot hq2 hp2 h2) fun l2=> ?_
  refine ZI true ?_
  cases h3:Pb q.2 q.1
  ·
   refine ZC (fun w1 hw h=>Ot hq2 hq1 h3) fun l3=> ?_
   refine K0.cond false Zk ?_
   refine ZS 2 ?_
   cases h4:decide (q.1=q.2)
   ·
    refine ZA (eqH (.tmp 36) (.tmp 37) hq1 hq2) (.bool false) (fun w1 hw h=>Se hq1 hq2 h4) ?_
    refine ZI false ?_
    exact ZX (.tuple #[pt 0 0,.int .i64 2]) (by rw[hs,h3,if_neg (of_decide_eq_false h4)];rfl)
   ·
    refine ZA (eqH (.tmp 36) (.tmp 37) hq1 hq2) (.bool true) (fun w1 hw h=>Se hq1 hq2 h4) ?_
    refine ZI true ?_
    exact ZX (.tuple #[Ls q.1,.int .i64 1]) (by rw[hs,h3,if_pos (of_decide_eq_true h4)];rfl)
  ·
   refine ZC (fun w1 hw h=>Ot hq2 hq1 h3) fun l3=> ?_
   refine ZI true ?_
   exact ZX (.tuple #[pt 0 0,.int .i64 0]) (by rw[hs,h3];rfl)
end
def dP(p:Pt):Prop:=(-2097152≤p.1∧p.1≤2097152)∧-2097152≤p.2∧p.2≤2097152
theorem dP_sub{a b:Pt}(ha:vP a=true)(hb:vP b=true):dP (Lk a b):=by
 have h1:=Ni ha;have h2:=Ni hb
 unfold dP Lk;dsimp only;omega
theorem A9{p q:Pt}(hp:dP p)(hq:dP q):(-4398046511104≤p.1*q.2∧p.1*q.2≤4398046511104)∧(-4398046511104≤p.2*q.1∧p.2*q.1≤4398046511104):=by
 obtain⟨h1,h2⟩:=hp
 obtain⟨h3,h4⟩:=hq
 have e1:=mul_bd (x:=p.1) (y:=q.2) (M:=2097152) (N:=2097152) Zo Zo
 have e2:=mul_bd (x:=p.2) (y:=q.1) (M:=2097152) (N:=2097152) Zo Zo
 omega
def Ej(a b:Int):Int:=if b<a then b else a
def Fx(a b:Int):Int:=if a<b then b else a
theorem Ri(a b:Int):Ej a b=min a b:=by unfold Ej;omega
theorem Rh(a b:Int):Fx a b=max a b:=by unfold Fx;omega
section
variable{w:World}{a b c d p q:Pt}{t y:Rat}{K:Nat}{r:RV}{n m x:Int}{B:Bool}
theorem Vp(hp:dP p)(hq:dP q):Calls Tryz.prog 240 #[Ls p,Ls q] w (K3 w (fun _:Unit=> .int .i64 (Ld p q)) fun _ _=>True):=by
 have hb:=A9 hp hq
 refine K0.enter Tryz.func240 rfl ?_
 refine ZR ?_
 exact ZX (.int .i64 (IntKind.i64.wrap (IntKind.i64.wrap (p.1*q.2)-IntKind.i64.wrap (p.2*q.1)))) (by rw[IntWalk.i64_in (p.1*q.2) Zo,IntWalk.i64_in (p.2*q.1) Zo,IntWalk.i64_in _ Zo];rfl)
theorem by_m(hn: -9223372036854775808≤n∧n≤9223372036854775807)(hm: -9223372036854775808≤m∧m≤9223372036854775807)(h0:m≠0):Calls Tryz.prog 238 #[.int .i64 n,.int .i64 m] w (K3 w RV.val fun r u=>Kh r (Rat.divInt n m) 2 u):=by
 refine K0.enter Tryz.func238 rfl ?_
 refine ZR ?_
 refine ZC (fun w1 hw h=>R8 hn hm) fun f=> ?_
 refine ZV (f.val) (fun w1 hw h=>⟨f,rfl,hw,fun w'' k1 k2=>((h w'' k1 k2).2).n h0⟩)
theorem Dk(hn: -2097152≤n∧n≤2097152)(hm: -2097152≤m∧m≤2097152)(ht:Ox r t K w)(hK:2≤K∧K≤1000):Calls Tryz.prog 237 #[.int .i64 n,.int .i64 m,r.val] w (K3 w RV.val fun r u=>Kh r (Uf n m t) (K+5) u):=by
 have hz:IntKind.i64.wrap (m-n)=m-n:=IntWalk.i64_in _ Zo
 refine K0.enter Tryz.func237 rfl ?_
 refine ZR ?_
 refine ZC (fun w1 hw h=>Ki n w1 Zo Zo) fun f=> ?_
 refine ZC (fun w1 hw h=>by have e:=Ki (m-n) w1 Zo Zo;rw[←hz]at e;exact e) fun e=> ?_
 refine ZC (fun w1 hw h=>V5 (ht.below hw) (h.2).q Zo) fun x=> ?_
 refine ZC (fun w1 hw h=>Sx (h.1.1.2).q (h.2).q Zo) fun s=> ?_
 refine ZV (s.val) (fun w1 hw h=>⟨s,rfl,hw,fun w'' k1 k2=>by have t:=(h w'' k1 k2).2;rw[hz]at t;exact t.mono Zo⟩)
theorem yAt_m(ha:vP a=true)(hb:vP b=true)(hx: -2097152≤x∧x≤2097152):Calls Tryz.prog 164 #[Ls a,Ls b,.int .i64 x] w (K3 w (fun r:RV=> .tuple #[r.val,.bool (yAt a b x).isSome]) fun r u=>∀q,yAt a b x=some q→Kh r q 7 u):=by
 have h1:=Ni ha
 have h2:=Ni hb
 refine K0.enter Tryz.func164 rfl ?_
 refine ZR ?_
 refine K0.make (M5 (108) 2 #[(0,Ls a),(1,Ls b)]) (Km 2) (Kv 35 #[.int .i64 a.1,.int .i64 a.2,.int .i64 b.1,.int .i64 b.2]) Zk (fun w1 hw h=>Ke Zk) (fun g=> ?_)
 refine ZR ?_
 refine ZD 13 (fun w1 hw h=>may_m (c:=2) (l:=[a,b]) (B:=true) (Kq.lit (fun _=>rfl) h.2) Zs (by simp[ha,hb])) fun u=> ?_
 refine K0.joinB Zk 1000 8 20 [21,22,23,24,25,26,27] 28 true (decide (x<Ej a.1 b.1)) ((a.1==b.1)||(decide (x<Ej a.1 b.1))) Zk Zk Zk (fun _=>by kernel_rfl) R9 (fun xj1=> ?_)
 refine K0.run Zk (stop:=1000) 1 _ ?_
 refine K0.joinB Zk 1000 8 29 [30,31,32,33,34,35,36] 37 true (decide (x>Fx a.1 b.1)) ((a.1==b.1||decide (x<Ej a.1 b.1))||(decide (x>Fx a.1 b.1))) Zk Zk Zk (fun _=>by kernel_rfl) R9 (fun xj2=> ?_)
 refine ZR ?_
 by_cases hn:a.1=b.1∨x<min a.1 b.1∨max a.1 b.1<x
 ·have e:yAt a b x=none:=if_pos hn
  refine ZJ ((a.1==b.1||decide (x<Ej a.1 b.1))||decide (x>Fx a.1 b.1)) true (by rw[Ri,Rh];simp only[Bool.or_eq_true,beq_iff_eq,decide_eq_true_eq];omega) ?_
  refine ZV (.tuple #[Oc.val,.bool false]) (fun w1 hw h=>⟨Oc,by rw[e];rfl,hw,fun w'' k1 k2 q hq=>by rw[e]at hq;cases hq⟩)
 have e:yAt a b x=some (Uf a.2 b.2 (Rat.divInt (x-a.1) (b.1-a.1))):=if_neg hn
 have z1:IntKind.i64.wrap (x-a.1)=x-a.1:=IntWalk.i64_in _ Zo
 have z2:IntKind.i64.wrap (b.1-a.1)=b.1-a.1:=IntWalk.i64_in _ Zo
 refine ZJ ((a.1==b.1||decide (x<Ej a.1 b.1))||decide (x>Fx a.1 b.1)) false (by rw[Ri,Rh];simp only[Bool.or_eq_false_iff,beq_eq_false_iff_ne,decide_eq_false_iff_not];omega) ?_
 refine ZC (fun w1 hw h=>by have f:=by_m (w:=w1) (n:=x-a.1) (m:=b.1-a.1) Zo Zo Zo;rw[←z1,←z2]at f;exact f) fun f=> ?_
 refine ZC (fun w1 hw h=>Dk (n:=a.2) (m:=b.2) Zo Zo (h.2).q Zd) fun s=> ?_
 refine ZV (.tuple #[s.val,.bool true]) (fun w1 hw h=>⟨s,by rw[e];rfl,hw,fun w'' k1 k2 q hq=>by rw[e]at hq;obtain rfl:=Option.some.inj hq;have t:=(h w'' k1 k2).2;rw[z1,z2]at t;exact t⟩)
theorem cmp_mn{y:Rat}{e:Pt×Pt}{m:W8}(h:N9 y e=some m):Kk y (Ej e.1.2 e.2.2:Int)=1∧Kk y (Fx e.1.2 e.2.2:Int)= -1∧e.1.2≠e.2.2:=by
 obtain⟨_,_,_,_,hy⟩:=Qg h
 have hne:e.1.2≠e.2.2:=fun k=>by rw[k]at hy;grind
 unfold Ej Fx
 rcases hy with ⟨h1,h2⟩|⟨h1,h2⟩
 ·have:e.1.2<e.2.2:=Rat.intCast_lt_intCast.1 (by grind)
  rw[if_neg Zo,if_pos this]
  exact⟨Vq h1,Vr h2,hne⟩
 ·have:e.2.2<e.1.2:=Rat.intCast_lt_intCast.1 (by grind)
  rw[if_pos this,if_neg Zo]
  exact⟨Vq h1,Vr h2,hne⟩
theorem xAt_m{mk:W8}(ha:vP a=true)(hb:vP b=true)(hy:Ox r y K w)(hmk:N9 y (a,b)=some mk)(hK:2≤K∧K≤900):Calls Tryz.prog 228 #[Ls a,Ls b,r.val] w (K3 w (fun x:RV=> .tuple #[x.val,.bool true]) fun x u=>Kh x mk.1 (K+10) u):=by
 have h1:=Ni ha
 have h2:=Ni hb
 obtain⟨c1,c2,hne⟩:=cmp_mn hmk
 replace hne:a.2≠b.2:=hne
 have hmn:Ej a.2 b.2=min a.2 b.2:=Ri _ _
 have hmx:Fx a.2 b.2=max a.2 b.2:=Rh _ _
 have z2:IntKind.i64.wrap (b.2-a.2)=b.2-a.2:=IntWalk.i64_in _ Zo
 have hmv:mk.1=Uf a.1 b.1 ((y-a.2)*Rat.divInt 1 (b.2-a.2)):=by
  unfold N9 at hmk
  split at hmk
  ·cases hmk
  ·rw[←Option.some.inj hmk]
 refine K0.enter Tryz.func228 rfl ?_
 refine ZR ?_
 refine ZC (fun w1 hw h=>Ki (Ej a.2 b.2) w1 Zo Zo) fun l=> ?_
 refine ZC (fun w1 hw h=>Ki (Fx a.2 b.2) w1 Zo Zo) fun u=> ?_
 refine K0.make (M5 (108) 2 #[(0,Ls a),(1,Ls b)]) (Km 2) (Kv 35 #[.int .i64 a.1,.int .i64 a.2,.int .i64 b.1,.int .i64 b.2]) Zk (fun w1 hw h=>Ke Zk) (fun g=> ?_)
 refine ZR ?_
 refine ZD 13 (fun w1 hw h=>may_m (c:=2) (l:=[a,b]) (B:=true) (Kq.lit (fun _=>rfl) h.2) Zs (by simp[ha,hb])) fun v=> ?_
 refine ZT 35 (.bool (a.2==b.2)) (.bool false) (by rw[beq_eq_false_iff_ne.2 hne]) ?_
 refine ZD 19 (fun w1 hw h=>Lq (hy.below hw) (h.1.1.1.2).q Zo) fun k1=> ?_
 refine ZT 41 (.bool (decide (Kk y (Ej a.2 b.2:Int)<0))) (.bool false) (by rw[c1];rfl) ?_
 refine ZC (fun w1 hw h=>Lq (hy.below hw) (h.1.1.1.2).q Zo) fun k2=> ?_
 refine ZJ (decide (Kk y (Fx a.2 b.2:Int)>0)) false (by rw[c2];rfl) ?_
 refine ZC (fun w1 hw h=>Ki a.2 w1 Zo Zo) fun f=> ?_
 refine ZC (fun w1 hw h=>J0 (hy.below hw) (h.2).q Zo) fun d=> ?_
 refine ZC (fun w1 hw h=>by have f:=by_m (w:=w1) (n:=1) (m:=b.2-a.2) Zd Zo Zo;rw[←z2]at f;exact f) fun e=> ?_
 refine ZC (fun w1 hw h=>V5 (h.1.2).q (h.2).q Zo) fun t=> ?_
 refine ZC (fun w1 hw h=>Dk (n:=a.1) (m:=b.1) Zo Zo (h.2).q Zo) fun s=> ?_
 refine ZV (.tuple #[s.val,.bool true]) (fun w1 hw h=>⟨s,rfl,hw,fun w'' k1 k2=>by have t:=(h w'' k1 k2).2;rw[z2,←hmv]at t;exact t.mono Zo⟩)
theorem Gk(h0:Ld (Lk b a) (Lk d c)=0)(h:¬(Ld (Lk b a) (Lk c a)=0∧(N6 a b c d).2=1)):Pa a b c d=none:=by
 unfold Pa;dsimp only;rw[if_pos h0,if_neg h]
theorem segs_some(h0:Ld (Lk b a) (Lk d c)=0)(h:Ld (Lk b a) (Lk c a)=0∧(N6 a b c d).2=1):Pa a b c d=some ((N6 a b c d).1.2:Rat):=by
 unfold Pa;dsimp only;rw[if_pos h0,if_pos h]
theorem segs_x(h0:Ld (Lk b a) (Lk d c)≠0):Pa a b c d=if Rat.divInt (Ld (Lk c a) (Lk d c)) (Ld (Lk b a) (Lk d c))<0∨1<Rat.divInt (Ld (Lk c a) (Lk d c)) (Ld (Lk b a) (Lk d c))∨Rat.divInt (Ld (Lk c a) (Lk b a)) (Ld (Lk b a) (Lk d c))<0∨1<Rat.divInt (Ld (Lk c a) (Lk b a)) (Ld (Lk b a) (Lk d c))then none else some (Uf a.2 b.2 (Rat.divInt (Ld (Lk c a) (Lk d c)) (Ld (Lk b a) (Lk d c)))):=by
 unfold Pa;dsimp only;rw[if_neg h0]
theorem sub_ne(h:a≠b):Lk b a≠(0,0):=fun k=>h (by unfold Lk at k;injection k with k1 k2;exact Prod.ext Zo Zo)
theorem shared_v(ha:vP a=true)(hb:vP b=true)(hc:vP c=true)(hd:vP d=true):vP (N6 a b c d).1=true:=by
 have hp:=Jk ha hb
 have hq:=Jk hc hd
 have hA:vP (if Pb (Of a b).1 (Of c d).1 then(Of c d).1 else(Of a b).1)=true:=by
  split
  ·exact hq.1
  ·exact hp.1
 unfold N6 shP
 dsimp only
 generalize (if Pb (Of a b).1 (Of c d).1 then(Of c d).1 else(Of a b).1)=A at hA ⊢
 generalize (if Pb (Of c d).2 (Of a b).2 then(Of c d).2 else(Of a b).2)=B
 split
 ·rfl
 ·split
  ·exact hA
  ·rfl
theorem segs_m(ha:vP a=true)(hb:vP b=true)(hc:vP c=true)(hd:vP d=true)(hab:a≠b):Calls Tryz.prog 165 #[Ls a,Ls b,Ls c,Ls d] w (K3 w (fun z:(RV×RV)×{k:Int // decide (k=1)=(Pa a b c d).isSome}=> .tuple #[z.1.1.val,z.1.2.val,.int .i64 z.2.1]) fun z u=>∀q,Pa a b c d=some q→Kh z.1.2 q 7 u):=by
 have h1:=Ni ha
 have h2:=Ni hb
 have hu:=dP_sub hb ha
 have hv:=dP_sub hd hc
 have hx:=dP_sub hc ha
 have bn:=A9 hu hv
 have bt:=A9 hx hv
 have bs:=A9 hx hu
 have hun:=sub_ne hab
 refine K0.enter Tryz.func165 rfl ?_
 refine ZR ?_
 refine K0.make (M5 (108) 4 #[(0,Ls a),(1,Ls b),(2,Ls c),(3,Ls d)]) (Km 4) (Kv 35 #[.int .i64 a.1,.int .i64 a.2,.int .i64 b.1,.int .i64 b.2,.int .i64 c.1,.int .i64 c.2,.int .i64 d.1,.int .i64 d.2]) Zk (fun w1 hw h=>Ke Zk) (fun g=> ?_)
 refine ZR ?_
 refine ZC (fun w1 hw h=>may_m (c:=4) (l:=[a,b,c,d]) (B:=true) (Kq.lit (fun _=>rfl) h.2) Zs (by simp[ha,hb,hc,hd])) fun v=> ?_
 refine ZI false ?_
 refine ZC (fun w1 hw h=>subv_m hb ha) fun u1=> ?_
 refine ZC (fun w1 hw h=>subv_m hd hc) fun u2=> ?_
 refine ZC (fun w1 hw h=>subv_m hc ha) fun u3=> ?_
 refine ZC (fun w1 hw h=>Vp hu hv) fun n=> ?_
 cases h0:Ld (Lk b a) (Lk d c) !=0
 case true=>
  have h0':Ld (Lk b a) (Lk d c)≠0:=bne_iff_ne.1 h0
  have e:=segs_x h0'
  refine ZJ (Ld (Lk b a) (Lk d c) !=0) true (h0) ?_
  refine ZC (fun w1 hw h=>Vp hx hv) fun m1=> ?_
  refine ZC (fun w1 hw h=>by_m (w:=w1) (n:=Ld (Lk c a) (Lk d c)) (m:=Ld (Lk b a) (Lk d c)) (by unfold Ld;omega) (by unfold Ld;omega) h0') fun t=> ?_
  refine ZC (fun w1 hw h=>Vp hx hu) fun m2=> ?_
  refine ZC (fun w1 hw h=>by_m (w:=w1) (n:=Ld (Lk c a) (Lk b a)) (m:=Ld (Lk b a) (Lk d c)) (by unfold Ld;omega) (by unfold Ld;omega) h0') fun s=> ?_
  refine K0.pure_ (p:=True) (fun _ _ _=>trivial) Zk (fun _=> ?_)
  generalize Rat.divInt (Ld (Lk c a) (Lk d c)) (Ld (Lk b a) (Lk d c))=qt at e ⊢
  generalize Rat.divInt (Ld (Lk c a) (Lk b a)) (Ld (Lk b a) (Lk d c))=qs at e ⊢
  refine K0.make (M5 (97) 2 #[(0,t.val),(1,s.val)]) (Km 2) (Kv 26 ([t,s].flatMap RV.cl).toArray) Zk (fun w1 hw h=>Ke Zk) (fun h=> ?_)
  refine ZR ?_
  refine K0.loop (ι:={k:Nat // k≤2∧∀j,j<k→¬(if j=0 then qt else qs)<0∧¬1<(if j=0 then qt else qs)}) 128 (fun k=>⟨[(4,.p 4 0),(5,.p 5 0),(8,.p 8 0),(9,.p 9 0),(15,.p 15 0),(57,.v (Km 2 h)),(58,.v (.int .i64 2)),(59,.v (.int .i64 k.1))],[(4,(Kf a).map .v),(5,(Kf b).map .v),(8,Oc.cl.map .v),(9,Oc.cl.map .v),(15,t.cl.map .v)]⟩) (fun _ u=>Kv 26 ([t,s].flatMap RV.cl).toArray h u∧Kh t qt 2 u∧Kh s qs 2 u) (fun k=>2-k.1) (⟨0,by decide,fun j hj=>absurd hj Zo⟩) Zk (fun _=>by kernel_rfl) ⟨Zk,Zk,Zk⟩ (fun u h=>⟨h.2,h.1.1.1.2,h.1.2⟩) ?_
  rintro⟨k,hk,hI⟩ g2
  by_cases hlt:k<2
  case neg=>
   obtain rfl:k=2:=by omega
   have i0:=hI 0 Zd
   have i1:=hI 1 Zd
   rw[if_pos rfl]at i0
   rw[if_neg Zd]at i1
   have e2:Pa a b c d=some (Uf a.2 b.2 qt):=by rw[e,if_neg (by grind)]
   refine ZR ?_
   refine ZI false ?_
   refine K0.leave Zk ?_
   refine ZR ?_
   refine ZC (fun w1 hw h=>Dk (n:=a.1) (m:=b.1) Zo Zo h.2.1.q Zd) fun x=> ?_
   refine ZC (fun w1 hw h=>Dk (n:=a.2) (m:=b.2) Zo Zo h.1.2.1.q Zd) fun y=> ?_
   refine ZV (.tuple #[x.val,y.val,.int .i64 1]) (fun w1 hw h=>⟨((x,y),⟨1,by rw[e2];rfl⟩),rfl,hw,fun w'' k1 k2 q hq=>by rw[e2]at hq;obtain rfl:=Option.some.inj hq;exact(h w'' k1 k2).2⟩)
  obtain⟨X,hX⟩:∃X,X=(if k=0 then qt else qs):=⟨_,rfl⟩
  obtain⟨Y,hY⟩:∃Y,Y=(if k=0 then t else s):=⟨_,rfl⟩
  have hLk: [t,s][k]? =some Y:=by rcases(by omega:k=0∨k=1)with rfl|rfl<;>simp[hY]
  have hQk:∀u,Kh t qt 2 u∧Kh s qs 2 u→Kh Y X 2 u:=fun u hu=>by rcases(by omega:k=0∨k=1)with rfl|rfl<;>simp[hY,hX]<;>simp[hu]
  have bad:X<0∨1<X→Pa a b c d=none:=fun hx=>by
   rw[e,if_pos]
   rcases(by omega:k=0∨k=1)with rfl|rfl<;>simp at hX<;>subst hX<;>grind
  refine ZR ?_
  refine ZJ (decide ((k:Int)<2)) true (decide_eq_true Zo) ?_
  refine ZA (Kc 97 (Km 2 h) k) (.pointer (some ⟨h,k*4,none⟩)) (fun w1 hw h=>K9 (elem:=26) Zk Zk hlt) ?_
  refine ZA (Kd 26 ⟨h,k*4,none⟩) (Y.val) (fun w1 hw h=>Ka (vs:=Y.cl) Zk Zk (Ed h.1 k Y hLk)) ?_
  refine ZC (fun w1 hw h=>Ki 0 w1 Zd Zd) fun z0=> ?_
  refine ZD 5 (fun w1 hw h=>Lq (hQk _ h.1.2).q (h.2).q Zd) fun c0=> ?_
  have e0:decide (Kk X ((0:Int):Rat)<0)=decide (X<0):=by
   unfold Kk
   split
   ·rename_i h1;rw[decide_eq_true (show X<0 by grind)];rfl
   ·rename_i h1;rw[decide_eq_false (show¬X<0 by grind)];split<;>rfl
  have e1:decide (Kk X ((1:Int):Rat)>0)=decide (1<X):=by
   unfold Kk
   split
   ·rename_i h1;rw[decide_eq_false (show¬1<X by grind)];rfl
   ·split
    ·rename_i h1 h2;rw[decide_eq_false (show¬1<X by grind)];rfl
    ·rename_i h1 h2;rw[decide_eq_true (show 1<X by grind)];rfl
  cases hx:decide (X<0)
  case true=>
   have hb:=bad (.inl (of_decide_eq_true hx))
   refine ZT 67 (.bool (decide (Kk X ((0:Int):Rat)<0))) (.bool true) (by rw[e0,hx]) ?_
   refine ZI true ?_
   refine K0.leave Zk ?_
   refine ZR ?_
   refine ZV (.tuple #[Oc.val,Oc.val,.int .i64 0]) (fun w1 hw h=>⟨((Oc,Oc),⟨0,by rw[hb];rfl⟩),rfl,hw,fun w'' k1 k2 q hq=>by rw[hb]at hq;cases hq⟩)
  refine ZT 67 (.bool (decide (Kk X ((0:Int):Rat)<0))) (.bool false) (by rw[e0,hx]) ?_
  refine ZC (fun w1 hw h=>Ki 1 w1 Zd Zd) fun z1=> ?_
  refine ZC (fun w1 hw h=>Lq (hQk _ h.1.1.1.2).q (h.2).q Zd) fun c1=> ?_
  cases hy:decide (1<X)
  case true=>
   have hb:=bad (.inr (of_decide_eq_true hy))
   refine ZJ (decide (Kk X ((1:Int):Rat)>0)) true (by rw[e1,hy]) ?_
   refine K0.leave Zk ?_
   refine ZR ?_
   refine ZV (.tuple #[Oc.val,Oc.val,.int .i64 0]) (fun w1 hw h=>⟨((Oc,Oc),⟨0,by rw[hb];rfl⟩),rfl,hw,fun w'' k1 k2 q hq=>by rw[hb]at hq;cases hq⟩)
  refine ZJ (decide (Kk X ((1:Int):Rat)>0)) false (by rw[e1,hy]) ?_
  refine K0.slot 59 (.int .i64 (IntKind.i64.wrap ((k:Int)+1))) (.int .i64 ((k+1:Nat):Int)) Zk (by rw[K7 hlt Zd]) ?_
  refine K0.next (⟨k+1,hlt,fun j hj=>by rcases(by omega:j<k∨j=k)with hj|rfl;exact hI j hj;rw[←hX];exact⟨of_decide_eq_false hx,of_decide_eq_false hy⟩⟩) Zk (by show 2- (k+1)<2-k;omega) ⟨Zk,Zk,Zk⟩ (fun u h=>h.1.1.1.1)
 case false=>
  have h0':Ld (Lk b a) (Lk d c)=0:=by simpa using h0
  have hl:((Lk b a).1==0&&(Lk b a).2==0)=false:=by
   refine Bool.eq_false_iff.2 fun k=>hun ?_
   simp only[Bool.and_eq_true,beq_iff_eq]at k
   exact Prod.ext k.1 k.2
  refine K0.condr (Ld (Lk b a) (Lk d c) !=0) false Zk (h0) ?_
  refine ZS 2 ?_
  refine K0.run Zk (stop:=1000) 1 _ ?_
  refine ZS 2 ?_
  refine ZA (Xs 35 (.tmp 89) (.tmp 90) (Ls (Lk b a)) (pt 0 0)) (.bool false) (fun w1 hw h=>by rw[←hl];exact U0) ?_
  refine ZI false ?_
  cases hz:Ld (Lk b a) (Lk c a) !=0
  case true=>
   have e:=Gk h0' (fun k=>absurd k.1 (bne_iff_ne.1 hz))
   refine ZD 5 (fun w1 hw h=>Vp hu hx) fun m1=> ?_
   refine ZT 97 (.bool (Ld (Lk b a) (Lk c a) !=0)) (.bool true) (by rw[hz]) ?_
   refine ZI true ?_
   refine ZV (.tuple #[Oc.val,Oc.val,.int .i64 0]) (fun w1 hw h=>⟨((Oc,Oc),⟨0,by rw[e];rfl⟩),rfl,hw,fun w'' k1 k2 q hq=>by rw[e]at hq;cases hq⟩)
  have hz':Ld (Lk b a) (Lk c a)=0:=by simpa using hz
  refine ZD 5 (fun w1 hw h=>Vp hu hx) fun m1=> ?_
  refine K0.slot 97 (.bool (Ld (Lk b a) (Lk c a) !=0)) (.bool false) Zk (by rw[hz]) ?_
  refine ZS 7 ?_
  refine ZA (Xs 35 (.tmp 98) (.tmp 99) (Ls (Lk b a)) (pt 0 0)) (.bool false) (fun w1 hw h=>by rw[←hl];exact U0) ?_
  refine ZI false ?_
  refine ZC (fun w1 hw h=>shared_m ha hb hc hd) fun s=> ?_
  have hsv:=shared_v ha hb hc hd
  cases hk:(N6 a b c d).2 !=1
  case true=>
   have e:=Gk h0' (fun k=>absurd k.2 (bne_iff_ne.1 hk))
   refine ZJ ((N6 a b c d).2 !=1) true (hk) ?_
   refine ZV (.tuple #[Oc.val,Oc.val,.int .i64 (N6 a b c d).2]) (fun w1 hw h=>⟨((Oc,Oc),⟨(N6 a b c d).2,by rw[e];exact decide_eq_false (bne_iff_ne.1 hk)⟩),rfl,hw,fun w'' k1 k2 q hq=>by rw[e]at hq;cases hq⟩)
  have hk':(N6 a b c d).2=1:=by simpa using hk
  have e:=segs_some h0' ⟨hz',hk'⟩
  have hs:=Ni hsv
  refine ZJ ((N6 a b c d).2 !=1) false (hk) ?_
  refine ZC (fun w1 hw h=>Ki (N6 a b c d).1.1 w1 Zo Zo) fun x=> ?_
  refine ZC (fun w1 hw h=>Ki (N6 a b c d).1.2 w1 Zo Zo) fun y=> ?_
  refine ZV (.tuple #[x.val,y.val,.int .i64 1]) (fun w1 hw h=>⟨((x,y),⟨1,by rw[e];rfl⟩),rfl,hw,fun w'' k1 k2 q hq=>by rw[e]at hq;obtain rfl:=Option.some.inj hq;exact((h w'' k1 k2).2).mono Zd⟩)
end
abbrev LP:=List Pt×Option Addr×Nat
def Cs(x:LP):Value:= .slice x.2.1 x.1.length x.2.2
def lpC(x:LP):List Value:=[Cs x]
structure Np(u:World)(A:Option Addr)(n:Nat)(H:List LP):Prop where
 row:Kq u A n 1 lpC H
 ring:∀x∈H,Kq u x.2.1 x.1.length 2 Kf x.1
theorem Np.below{w w1:World}{A:Option Addr}{n:Nat}{H:List LP}(h:Np w A n H)(hw:Below w.heap.size w w1):Np w1 A n H:=⟨h.row.below hw,fun x hx=>(h.ring x hx).below hw⟩
abbrev K4(H:List LP):List (List Pt):=H.map (·.1)
def vL:Nat→List (List Pt)→Bool
 |_,[]=>true
 |n,r::L=>(decide (n+r.length≤4096)&&r.all vP)&&vL (n+r.length) L
theorem Aw:∀{L:List (List Pt)} {n:Nat},n≤4096→vL n L=(decide (n+L.flatten.length≤4096)&&L.flatten.all vP)
 | [],n,h=>by simp[vL,h]
 | r::L,n,h=>by
  unfold vL
  by_cases h1:n+r.length≤4096
  ·rw[Aw h1,decide_eq_true h1,List.flatten_cons,List.length_append,List.all_append,Bool.true_and,Nat.add_assoc]
   cases r.all vP<;>cases L.flatten.all vP<;>simp
  ·rw[decide_eq_false h1,decide_eq_false Zp];rfl
section
variable{w:World}{A:Option Addr}{n c k:Nat}{H:List LP}{B:Bool}
theorem T9{ad:Addr}(hA:A=some ad)(hk:k<n):(Kc 57 (.slice A n c) k).run Tryz.prog w= .ok (.value (.pointer (some (ad.add (k*1))))) w:=by
 rw[hA];exact Lg (elem:=108) Zk Zk hk
theorem X8{ad:Addr}{x:LP}(h:∀(j:Nat) (v:Value),(lpC x)[j]? =some v→w.cell? (ad.add j)=some v):(Kd 108 ad).run Tryz.prog w= .ok (.value (Cs x)) w:=
 Kg Zk (by have:=h 0 (Cs x) rfl;simpa[Addr.add]using this)
theorem Pg(hp:Np w A n H)(hn:n≤1000000)(hl:∀x∈H,x.1.length≤1000000)(hB:vL 0 (K4 H)=B):Calls Tryz.prog 155 #[.slice A n c] w (K3 w (fun _:Unit=> .bool B) fun _ _=>True):=by
 refine K0.enter Tryz.func155 rfl ?_
 refine ZR ?_
 refine K0.loop (ι:={q:Nat×Nat // q.1≤n∧q.2≤4096∧vL q.2 (K4 (H.drop q.1))=B}) 23 (fun q=>⟨[(0,.v (.slice A n c)),(3,.v (.int .i64 q.1.2)),(6,.v (.slice A n c)),(7,.v (.int .i64 n)),(8,.v (.int .i64 q.1.1))],[]⟩) (fun _ _=>True) (fun q=>n-q.1.1) (⟨(0,0),Nat.zero_le _,Nat.zero_le _,hB⟩) Zk (fun _=>by kernel_rfl) ⟨Zk,Zk,Zk⟩ (fun _ _=>trivial) ?_
 rintro⟨⟨k,m⟩,hk,hm,hall⟩ gg
 by_cases hlt:k<n
 case neg=>
  have:B=true:=by rw[←hall,List.drop_of_length_le (by rw[hp.row.1];omega)];rfl
  refine ZR ?_
  refine ZJ (decide ((k:Int)<(n:Int))) false (decide_eq_false Zo) ?_
  refine K0.leave Zk ?_
  refine ZR ?_
  exact ZX (.bool true) (by rw[this])
 obtain⟨x,hx⟩:∃v,H[k]? =some v:=⟨_,List.getElem?_eq_getElem (by rw[hp.row.1];exact hlt)⟩
 obtain⟨ad,hA,hc⟩:=hp.row.2 k x hx
 have hmx:=List.mem_of_getElem? hx
 have hlx:=hl x hmx
 rw[Nn hx]at hall
 replace hall:((decide (m+x.1.length≤4096)&&x.1.all vP)&&vL (m+x.1.length) (K4 (H.drop (k+1))))=B:=hall
 refine ZR ?_
 refine ZJ (decide ((k:Int)<(n:Int))) true (decide_eq_true Zo) ?_
 refine ZA (Kc 57 (.slice A n c) k) (.pointer (some (ad.add (k*1)))) (fun w1 hw h=>T9 hA hlt) ?_
 refine K0.ask (Kd 108 (ad.add (k*1))) (Cs x) Zk (fun w1 hw h=>X8 fun j v hj=>Kt hw (hc j v hj)) ?_
 refine ZS 3 ?_
 refine K0.run Zk (stop:=1000) 2 _ ?_
 refine K0.slot 3 (.int .i64 (IntKind.i64.wrap ((m:Int)+(x.1.length:Int)))) (.int .i64 ((m+x.1.length:Nat):Int)) Zk (by rw[IntWalk.i64_in _ Zo];rfl) ?_
 refine ZS 2 ?_
 by_cases hle:m+x.1.length≤4096
 case neg=>
  have:B=false:=by rw[←hall,decide_eq_false hle];rfl
  refine ZT 17 (.bool (decide (((m+x.1.length:Nat):Int)>4096))) (.bool true) (by rw[decide_eq_true Zo]) ?_
  refine ZI true ?_
  refine K0.leave Zk ?_
  refine ZR ?_
  exact ZX (.bool false) (by rw[this])
 rw[decide_eq_true hle,Bool.true_and]at hall
 refine K0.slot 17 (.bool (decide (((m+x.1.length:Nat):Int)>4096))) (.bool false) Zk (by rw[decide_eq_false Zo]) ?_
 cases hv:x.1.all vP
 ·have:B=false:=by rw[←hall,hv];rfl
  refine ZR ?_
  refine ZC (fun w1 hw h=>cont_pv (c:=x.2.2) ((hp.ring x hmx).below hw) hlx hv) fun u=> ?_
  refine ZI true ?_
  refine K0.leave Zk ?_
  refine ZR ?_
  exact ZX (.bool false) (by rw[this])
 rw[hv,Bool.true_and]at hall
 refine ZR ?_
 refine ZC (fun w1 hw h=>cont_pv (c:=x.2.2) ((hp.ring x hmx).below hw) hlx hv) fun u=> ?_
 refine ZI false ?_
 refine K0.slot 8 (.int .i64 (IntKind.i64.wrap ((k:Int)+1))) (.int .i64 ((k+1:Nat):Int)) Zk (by rw[K7 hlt Zo]) ?_
 refine K0.next (⟨(k+1,m+x.1.length),hlt,hle,hall⟩) Zk (by show n- (k+1)<n-k;omega) ⟨Zk,Zk,Zk⟩ (fun _ _=>trivial)
end
section
variable{w w' u:World}{e e1 e2:TypeId}{s n B:Nat}
theorem Oq{B2 m cc m2 c2 s1 s2:Nat}{Y Y2:Option Addr}{xs xs2:List Value}(h:K6 u B e1 s1 Y m cc xs)(h2:K6 u B2 e2 s2 Y2 m2 c2 xs2)(hne:e1≠e2):∀b∈bl Y,b∉bl Y2:=fun b hb hb2=>by
 obtain⟨c1,o1,h3⟩:=h.ty b hb
 obtain⟨c2,o2,h4⟩:=h2.ty b hb2
 rw[h3]at h4
 simp only[Option.some.injEq,Obj.cells.injEq]at h4
 exact hne h4.2.1
theorem Oy{P:Program}{sm:Sem Next}{y:Option Addr×Nat}{xs:List Value}(ha:Nf P u (bl y.1) (fun z:Option Addr×Nat=> .slice z.1 n z.2) (fun z v=>K6 v B e s z.1 n z.2 xs) sm){R:Option Addr×Nat→Prop}(hR:∀z,(∀b∈bl z.1,b∈bl y.1∨u.heap.size≤b)→R z):
 Nf P u (bl y.1) (fun z:Option Addr×Nat=> .slice z.1 n z.2) (fun z v=>K6 v B e s z.1 n z.2 xs∧R z) sm:=by
 obtain⟨z,w',h1,h2,h3⟩:=ha
 refine⟨z,w',h1,h2,fun w'' k1 k2=>⟨h3 w'' k1 k2,hR z fun b hb=> ?_⟩⟩
 by_cases hne:b∈bl y.1
 ·exact .inl hne
 right
 rcases Nat.lt_or_ge b u.heap.size with hlt|hge
 case inr=>exact hge
 exfalso
 have hz0:=h3 w' (Nat.le_refl _) fun _ _=>rfl
 have hlt':b<w'.heap.size:=(hz0.lt b hb).2
 have hz2:=h3 {w' with heap:=w'.heap.setIfInBounds b (.pending #[] 0)} Zs fun k hk=>by
  rw[Array.getElem?_setIfInBounds_ne]
  intro hc
  subst hc
  rcases hk with hk|hk
  ·exact hne hk
  ·omega
 obtain⟨_,cs,ty,own,h5⟩:=hz2.blk b hb
 rw[Array.getElem?_setIfInBounds_self_of_lt hlt']at h5;cases h5
end
structure L4(B:Nat)(y:Option Addr×Nat)(n:Nat)(H:List LP)(u:World):Prop where
 own:K6 u B 108 1 y.1 n y.2 (H.flatMap lpC)
 ring:∀x∈H,K6 u B 35 2 x.2.1 x.1.length x.2.2 (x.1.flatMap Kf)
def AptR(A:Option Addr)(H:List LP):Prop:=∀b∈bl A,∀x∈H,b∉bl x.2.1
section
variable{w u wa:World}{B n m k gb:Nat}{y z:Option Addr×Nat}{H:List LP}{x:LP}{A:Option Addr}{acc:List Pt}{p:Pt}
theorem lpC_map:∀(H:List LP),H.flatMap lpC=H.map Cs
 | []=>rfl
 |x::H=>by rw[List.flatMap_cons,lpC_map H];rfl
theorem L4.nil_:L4 B (none,0) 0 [] u:=⟨K6.nil_,by simp⟩
theorem L4.len(h:L4 B y n H u):H.length=n:=by
 have:=h.own.len
 rw[lpC_map]at this
 simpa using this
theorem L4.polyA(h:L4 B y n H u):Np u y.1 n H:=
 ⟨h.own.reads.rows (fun _=>rfl) h.len,fun x hx=>(h.ring x hx).reads.rows (fun _=>rfl) rfl⟩
theorem L4.stay(h:L4 B y n H wa){cc:Nat}{xs:List Value}{m:Nat}(ho:K6 wa B 35 2 A m cc xs)(hap:AptR A H)(e2:∀b,b∉bl A→wa.heap[b]? =u.heap[b]?):L4 B y n H u:=
 ⟨h.own.left e2 fun b hb hc=>Oq ho h.own Zd b hc hb,fun x hx=>(h.ring x hx).left e2 fun b hb hc=>hap b hc x hx hb⟩
theorem L4.mono{N:Nat}(h:L4 B y n H u)(hN:N≤B):L4 N y n H u:=
 ⟨h.own.rebase fun b hb=>Nat.le_trans hN (h.own.lt b hb).1,fun x hx=>(h.ring x hx).rebase fun b hb=>Nat.le_trans hN ((h.ring x hx).lt b hb).1⟩
theorem app_pt(ho:K6 u B 35 2 z.1 m z.2 (acc.flatMap Kf))(hB:B≤u.heap.size)(hp:L4 B y n H u)(hap:AptR z.1 H)(hg:Kv 35 (Kf p).toArray gb u)(hm:m≤10000000):
 Nf Tryz.prog u (bl z.1) (fun z:Option Addr×Nat=> .slice z.1 (m+1) z.2) (fun z v=>K6 v B 35 2 z.1 (m+1) z.2 ((acc++ [p]).flatMap Kf)∧AptR z.1 H) (Nc 108 108 (.slice z.1 m z.2) (Km 1 gb)):=by
 have ha:=M9 (P:=Tryz.prog) (s:=2) (z:=pt 0 0) (bytes:=16) (m:=1) (cc:=1) (t:=108) (elem:=35) Zk Zk rfl Zd ho hB (M8 (n:=1) hg rfl) (by intro v hv;simp[Kf]at hv;rcases hv with rfl|rfl<;>rfl) Zo Zd
 have e:(acc++ [p]).flatMap Kf=acc.flatMap Kf++(Kf p).toArray.toList:=by simp
 rw[e]
 refine Oy ha fun z' hz b hb x hx hc=> ?_
 rcases hz b hb with h5|h5
 ·exact hap b h5 x hx hc
 ·have:=((hp.ring x hx).lt b hc).2;omega
theorem app_ring(hp:L4 B y n H u)(hB:B≤u.heap.size)(hg:Kv 108 (lpC x).toArray gb u)(hn:n≤10000000):
 Nf Tryz.prog u (bl y.1) (fun z:Option Addr×Nat=> .slice z.1 (n+1) z.2) (fun z v=>K6 v B 108 1 z.1 (n+1) z.2 ((H++ [x]).flatMap lpC)) (Nc 57 57 (.slice y.1 n y.2) (Km 1 gb)):=by
 have ha:=M9 (P:=Tryz.prog) (s:=1) (z:= .slice none 0 0) (bytes:=24) (m:=1) (cc:=1) (t:=57) (elem:=108) Zk Zk rfl Zd hp.own hB (M8 (n:=1) hg rfl) (by intro v hv;simp[lpC]at hv;subst hv;rfl) Zo Zd
 have e:(H++ [x]).flatMap lpC=H.flatMap lpC++(lpC x).toArray.toList:=by simp
 rw[e];exact ha
theorem L4.app(h:L4 B y n H wa)(hx:K6 wa B 35 2 x.2.1 x.1.length x.2.2 (x.1.flatMap Kf))(e2:∀b,b∉bl y.1→wa.heap[b]? =u.heap[b]?)(hG:K6 u B 108 1 z.1 (n+1) z.2 ((H++ [x]).flatMap lpC)):L4 B z (n+1) (H++ [x]) u:=by
 refine⟨hG,fun q hq=> ?_⟩
 rcases List.mem_append.1 hq with h4|h4
 ·exact(h.ring q h4).left e2 fun b hb=>Oq (h.ring q h4) h.own Zd b hb
 ·obtain rfl:q=x:=by simpa using h4
  exact hx.left e2 fun b hb=>Oq hx h.own Zd b hb
theorem L4.same(h:L4 B y n H wa)(e:∀b,B≤b→b<wa.heap.size→u.heap[b]? =wa.heap[b]?):L4 B y n H u:=
 ⟨h.own.same fun b hb=>e b (h.own.lt b hb).1 (h.own.lt b hb).2,fun x hx=>(h.ring x hx).same fun b hb=>e b ((h.ring x hx).lt b hb).1 ((h.ring x hx).lt b hb).2⟩
theorem Lb{α:Type}{l:List α}{k:Nat}{x:α}(h:l[k]? =some x):l.take (k+1)=l.take k++ [x]:=by rw[List.take_add_one,h];rfl
theorem add0(p:Pt):addP p (0,0)=p:=by unfold addP;simp
theorem ptrans_m{c N:Nat}(hN:N≤w.heap.size)(hp:Np w A n H)(hn:n≤1000000)(hv:vL 0 (K4 H)=true):Calls Tryz.prog 235 #[.slice A n c,pt 0 0] w (K3 w (fun q:(Option Addr×Nat)×{l:List LP // K4 l=K4 H}=> .slice q.1.1 n q.1.2) fun q u=>L4 N q.1 n q.2.1 u):=by
 have hf:=hv
 rw[Aw (Nat.zero_le _),Bool.and_eq_true,decide_eq_true_eq,List.all_eq_true]at hf
 have hlen:∀x∈H,x.1.length≤4096:=fun x hx=>by
  have:x.1.length≤(K4 H).flatten.length:=List.Sublist.length_le (List.sublist_flatten_of_mem (List.mem_map_of_mem hx))
  omega
 have hpt:∀x∈H,∀p∈x.1,vP p=true:=fun x hx p hp=>hf.2 p (List.mem_flatten.2 ⟨x.1,List.mem_map_of_mem hx,hp⟩)
 refine K0.enter Tryz.func235 rfl ?_
 refine ZR ?_
 refine ZC (fun w1 hw h=>Pg (c:=c) (hp.below hw) hn (fun x hx=>by have:=hlen x hx;omega) hv) fun v=> ?_
 refine ZI false ?_
 refine K0.loop (ι:={q:(Nat×List LP)×(Option Addr×Nat) // q.1.1≤n∧K4 q.1.2=K4 (H.take q.1.1)}) 39 (fun q=>⟨[(3,.p 3 0),(5,.v (.slice q.1.2.1 q.1.1.1 q.1.2.2)),(14,.v (.slice A n c)),(15,.v (.int .i64 n)),(16,.v (.int .i64 q.1.1.1))],[(3,[.v (.int .i64 0),.v (.int .i64 0)])]⟩) (fun q u=>L4 w.heap.size q.1.2 q.1.1.1 q.1.1.2 u) (fun q=>n-q.1.1.1) (⟨((0,[]),(none,0)),Nat.zero_le _,rfl⟩) Zk (fun _=>by kernel_rfl) ⟨Zk,Zk,Zk⟩ (fun _ _=>L4.nil_) ?_
 rintro⟨⟨⟨k,L⟩,y⟩,hk,hL⟩ gg
 have hk2:k≤n:=hk
 have hL2:K4 L=K4 (H.take k):=hL
 by_cases hlt:k<n
 case neg=>
  obtain rfl:k=n:=by omega
  have hL3:K4 L=K4 H:=by rw[hL2,List.take_of_length_le (by rw[hp.row.1];omega)]
  refine ZR ?_
  refine ZJ (decide ((k:Int)<(k:Int))) false (decide_eq_false Zo) ?_
  refine K0.leave Zk ?_
  refine ZR ?_
  refine ZV (.slice y.1 k y.2) (fun w1 hw h=>⟨(y,⟨L,hL3⟩),rfl,hw,fun w'' k1 k2=>L4.mono (h w'' k1 k2) hN⟩)
 obtain⟨x,hx⟩:∃v,H[k]? =some v:=⟨_,List.getElem?_eq_getElem (by rw[hp.row.1];exact hlt)⟩
 obtain⟨ad,hA,hc⟩:=hp.row.2 k x hx
 have hmx:=List.mem_of_getElem? hx
 have hlx:=hlen x hmx
 refine ZR ?_
 refine ZJ (decide ((k:Int)<(n:Int))) true (decide_eq_true Zo) ?_
 refine ZA (Kc 57 (.slice A n c) k) (.pointer (some (ad.add (k*1)))) (fun w1 hw h=>T9 hA hlt) ?_
 refine ZA (Kd 108 (ad.add (k*1))) (Cs x) (fun w1 hw h=>X8 fun j v hj=>Kt hw (hc j v hj)) ?_
 refine K0.loop (ι:={q:Nat×(Option Addr×Nat) // q.1≤x.1.length}) 39 (fun q=>⟨[(3,.p 3 0),(5,.v (.slice y.1 k y.2)),(7,.v (Cs x)),(8,.v (.slice q.1.2.1 q.1.1 q.1.2.2)),(14,.v (.slice A n c)),(15,.v (.int .i64 n)),(16,.v (.int .i64 k)),(20,.v (Cs x)),(21,.v (.int .i64 x.1.length)),(22,.v (.int .i64 q.1.1))],[(3,[.v (.int .i64 0),.v (.int .i64 0)])]⟩) (fun q u=>(K6 u w.heap.size 35 2 q.1.2.1 q.1.1 q.1.2.2 ((x.1.take q.1.1).flatMap Kf)∧AptR q.1.2.1 L)∧L4 w.heap.size y k L u) (fun q=>x.1.length-q.1.1) (⟨(0,(none,0)),Nat.zero_le _⟩) Zk (fun _=>by kernel_rfl) ⟨Zk,Zk,Zk⟩ (fun u h=>⟨⟨K6.nil_,by intro b hb;cases hb⟩,h⟩) ?_
 rintro⟨⟨j,z⟩,hj⟩ gg2
 by_cases hlj:j<x.1.length
 case neg=>
  obtain rfl:j=x.1.length:=by have:=hj;simp only at this;omega
  refine ZR ?_
  refine ZJ (decide ((x.1.length:Int)<(x.1.length:Int))) false (decide_eq_false Zo) ?_
  refine K0.leave Zk ?_
  refine ZS 2 ?_
  refine K0.make (M5 (57) 1 #[(0,Cs (x.1,z))]) (Km 1) (Kv 108 (lpC (x.1,z)).toArray) Zk (fun w1 hw h=>Ke Zk) (fun gb=> ?_)
  refine ZS 3 ?_
  refine K0.mutOp (L:=bl y.1) (val:=fun(z:Option Addr×Nat)=> .slice z.1 (k+1) z.2) (Φ':=fun(y':Option Addr×Nat) v=>L4 w.heap.size y' (k+1) (L++ [(x.1,z)]) v) (G:=fun(z':Option Addr×Nat) v=>K6 v w.heap.size 108 1 z'.1 (k+1) z'.2 ((L++ [(x.1,z)]).flatMap lpC)) (Nc 57 57 (.slice y.1 k y.2) (Km 1 gb)) (fun w1 hw h=>app_ring h.1.2 hw.size h.2 Zo) (fun w1 h b hb=>⟨(h.1.2.own.lt b hb).1,(h.1.2.own.blk b hb).2⟩) (fun y' wa w1 e1 e2 h hG=>h.1.2.app (by have:=h.1.1.1;rw[List.take_length]at this;exact this) e2 hG) Zk Zk (fun y'=> ?_)
  refine ZR ?_
  refine K0.slot 16 (.int .i64 (IntKind.i64.wrap ((k:Int)+1))) (.int .i64 ((k+1:Nat):Int)) Zk (by rw[K7 hlt Zo]) ?_
  refine K0.next (⟨((k+1,L++ [(x.1,z)]),y'),hlt,by show K4 (L++ [(x.1,z)])=K4 (H.take (k+1));unfold K4 at hL2 ⊢;rw[Lb hx,List.map_append,List.map_append,hL2];rfl⟩) Zk (by show n- (k+1)<n-k;omega) ⟨Zk,Zk,Zk⟩ (fun _ h=>h)
 obtain⟨p,hp2⟩:∃v,x.1[j]? =some v:=⟨_,List.getElem?_eq_getElem hlj⟩
 have hpv:=hpt x hmx p (List.mem_of_getElem? hp2)
 obtain⟨ad2,hA2,hc2⟩:=(hp.ring x hmx).2 j p hp2
 refine ZR ?_
 refine ZJ (decide ((j:Int)<(x.1.length:Int))) true (decide_eq_true Zo) ?_
 refine ZA (Kc 108 (Cs x) j) (.pointer (some (ad2.add (j*2)))) (fun w1 hw h=>Pe hA2 hlj) ?_
 refine ZA (Kd 35 (ad2.add (j*2))) (Ls p) (fun w1 hw h=>R1 fun i v hi=>Kt hw (hc2 i v hi)) ?_
 refine ZD 4 (fun w1 hw h=>addv_m (a:=p) (b:=(0,0)) hpv Zd) fun s=> ?_
 refine K0.slot 29 (Ls (addP p (0,0))) (Ls p) Zk (by rw[add0]) ?_
 refine K0.make (M5 (108) 1 #[(0,Ls p)]) (Km 1) (Kv 35 (Kf p).toArray) Zk (fun w1 hw h=>Ke Zk) (fun gb=> ?_)
 refine ZS 5 ?_
 refine K0.mutOp (L:=bl z.1) (val:=fun(z:Option Addr×Nat)=> .slice z.1 (j+1) z.2) (Φ':=fun(z:Option Addr×Nat) v=>(K6 v w.heap.size 35 2 z.1 (j+1) z.2 ((x.1.take (j+1)).flatMap Kf)∧AptR z.1 L)∧L4 w.heap.size y k L v) (G:=fun(z:Option Addr×Nat) v=>K6 v w.heap.size 35 2 z.1 (j+1) z.2 ((x.1.take j++ [p]).flatMap Kf)∧AptR z.1 L) (Nc 108 108 (.slice z.1 j z.2) (Km 1 gb)) (fun w1 hw h=>app_pt h.1.1.1.1 hw.size h.1.1.2 h.1.1.1.2 h.2 Zo) (fun w1 h b hb=>⟨(h.1.1.1.1.lt b hb).1,(h.1.1.1.1.blk b hb).2⟩) (fun z' wa w1 e1 e2 h hG=>⟨by rw[Lb hp2];exact hG,h.1.1.2.stay h.1.1.1.1 h.1.1.1.2 e2⟩) Zk Zk (fun z'=> ?_)
 refine ZR ?_
 refine K0.slot 22 (.int .i64 (IntKind.i64.wrap ((j:Int)+1))) (.int .i64 ((j+1:Nat):Int)) Zk (by rw[K7 hlj Zo]) ?_
 refine K0.next (⟨(j+1,z'),hlj⟩) Zk (by show x.1.length- (j+1)<x.1.length-j;omega) ⟨Zk,Zk,Zk⟩ (fun _ h=>h)
end
end Go.Proofs.YtpgkbllcnphmbaaGreatDoor
