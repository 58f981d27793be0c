/-
 A part of the proof.
-/
import Derived.Test.YtpgkbllcnphmbaaGreatDoorBMl
import Derived.Test.YtpgkbllcnphmbaaGreatDoorBBf
import Derived.Test.YtpgkbllcnphmbaaGreatDoorBAr
namespace Go.Proofs.YtpgkbllcnphmbaaGreatDoor
set_option linter.unusedVariables false
set_option linter.unusedSimpArgs false
open Go.RowKit
section
variable{w u:World}{A:Option Addr}{n c K:Nat}{H:List LP}{rule x y z:Int}{a b:Pt}{r:RV}{q:Rat}
theorem far_m(h1: -4096≤z)(h2:z≤4096):Calls Tryz.prog 92 #[.int .i64 z] w (K3 w (fun _:Unit=> .bool false) fun _ _=>True):=by
 refine K0.enter Tryz.func92 rfl ?_
 refine ZS 2 ?_
 refine ZT 4 (.bool (decide (z< -4096))) (.bool false) (by rw[decide_eq_false Zo]) ?_
 refine K0.slot 7 (.bool (decide (z>4096))) (.bool false) Zk (by rw[decide_eq_false Zo]) ?_
 refine K0.slot 2 (.bool (decide (z>4096))) (.bool false) Zk (by rw[decide_eq_false Zo]) ?_
 exact ZW (.bool false)
theorem Tk(hx: -4096≤x∧x≤4096)(hy: -4096≤y∧y≤4096):Calls Tryz.prog 51 #[.int .i64 x,.int .i64 y] w (K3 w (fun _:Unit=>Ls (Oh x y)) fun _ _=>True):=by
 refine K0.enter Tryz.func51 rfl ?_
 refine ZR ?_
 refine ZC (fun w1 hw h=>far_m hx.1 hx.2) fun f1=> ?_
 refine ZC (fun w1 hw h=>far_m hy.1 hy.2) fun f2=> ?_
 refine ZI false ?_
 exact ZX (pt (IntKind.i64.wrap (x*256)) (IntKind.i64.wrap (y*256))) (by rw[IntWalk.i64_in _ Zo,IntWalk.i64_in _ Zo];rfl)
theorem pixels_m(hq:Ox r q K w)(hK:2≤K∧K≤1000000000):Calls Tryz.prog 53 #[r.val,.int .i64 0] w (K3 w (fun v:RV=> .tuple #[v.val,.int .i64 0]) fun v u=>Kh v (q/65536) (K+2) u):=by
 have hne:((65536:Int):Rat)≠0:=by decide
 refine K0.enter Tryz.func53 rfl ?_
 refine ZR ?_
 refine ZI false ?_
 refine ZC (fun w1 hw h=>Ki 65536 w1 Zd Zd) fun f=> ?_
 refine ZC (fun w1 hw h=>qquo_m (hq.below hw) h.2.q ⟨hK.1,by decide,by omega⟩) fun d=> ?_
 refine ZV (.tuple #[d.val,.int .i64 0]) (fun w1 hw h=>⟨d,rfl,hw,fun w'' k1 k2=>by have h2:=(h w'' k1 k2).2;unfold IsQuo at h2;rw[if_neg hne]at h2;exact h2⟩)
theorem pixels_no{e:Int}(he:e≠0):Calls Tryz.prog 53 #[r.val,.int .i64 e] w (K3 w (fun _:Unit=> .tuple #[Oc.val,.int .i64 e]) fun _ _=>True):=by
 refine K0.enter Tryz.func53 rfl ?_
 refine ZR ?_
 refine ZJ (e !=0) true (by simp[he]) ?_
 exact ZW (.tuple #[Oc.val,.int .i64 e])
theorem D2(hx: -4096≤x∧x≤4096)(hy: -4096≤y∧y≤4096):vP (Oh x y)=true:=by
 unfold vP Oh Lt
 simp only[Bool.and_eq_true,decide_eq_true_eq]
 omega
theorem apixel_m(hp:Np w A n H)(hn:n≤1000000)(hv:vL 0 (K4 H)=true)(hV:(K4 H).flatten.length≤192)(hr:rule=1∨rule=2)(hx:0≤x∧x≤4000)(hy:0≤y∧y≤4000):
 Calls Tryz.prog 27 #[.slice A n c,.int .i64 rule,.int .i64 x,.int .i64 y] w (K3 w (fun v:RV=> .tuple #[v.val,.int .i64 0]) fun v u=>Kh v (Vy (K4 H) rule (Oh x y) (Oh (x+1) (y+1))/65536) 400000002 u):=by
 refine K0.enter Tryz.func27 rfl ?_
 refine ZR ?_
 refine ZC (fun w1 hw h=>Tk (x:=x) (y:=y) ⟨by omega,by omega⟩ ⟨by omega,by omega⟩) fun c1=> ?_
 refine ZC (fun w1 hw h=>Tk (x:=x) (y:=y) ⟨by omega,by omega⟩ ⟨by omega,by omega⟩) fun c2=> ?_
 refine ZC (fun w1 hw h=>Nh (X:=(Oh x y).1) (Y:=(Oh x y).2) (B:=true) (D2 ⟨by omega,by omega⟩ ⟨by omega,by omega⟩)) fun v1=> ?_
 refine K0.cond true Zk ?_
 refine ZS 4 ?_
 refine K0.slot 21 (.int .i64 (IntKind.i64.wrap (x+1))) (.int .i64 (x+1)) Zk (by rw[IntWalk.i64_in _ Zo]) ?_
 refine K0.slot 23 (.int .i64 (IntKind.i64.wrap (y+1))) (.int .i64 (y+1)) Zk (by rw[IntWalk.i64_in _ Zo]) ?_
 refine ZC (fun w1 hw h=>Tk (x:=x+1) (y:=y+1) ⟨by omega,by omega⟩ ⟨by omega,by omega⟩) fun c3=> ?_
 refine ZC (fun w1 hw h=>inbox_m (c:=c) (a:=Oh x y) (b:=Oh (x+1) (y+1)) (hp.below hw) hn hv hV hr (D2 ⟨by omega,by omega⟩ ⟨by omega,by omega⟩) (D2 ⟨by omega,by omega⟩ ⟨by omega,by omega⟩) (by show x*256<(x+1)*256;omega) (by show y*256<(y+1)*256;omega)) fun ar=> ?_
 refine ZC (fun w1 hw h=>pixels_m h.2.q ⟨by decide,by decide⟩) fun px=> ?_
 refine ZV (.tuple #[px.val,.int .i64 0]) (fun w1 hw h=>⟨px,rfl,hw,fun w'' k1 k2=>(h w'' k1 k2).2⟩)
theorem apixel_no(hp:Np w A n H)(hn:n≤1000000)(hl:∀x∈H,x.1.length≤1000000)(hv:vL 0 (K4 H)=false)(hx:0≤x∧x≤4000)(hy:0≤y∧y≤4000):
 Calls Tryz.prog 27 #[.slice A n c,.int .i64 rule,.int .i64 x,.int .i64 y] w (K3 w (fun _:Unit=> .tuple #[Oc.val,.int .i64 12]) fun _ _=>True):=by
 refine K0.enter Tryz.func27 rfl ?_
 refine ZR ?_
 refine ZC (fun w1 hw h=>Tk (x:=x) (y:=y) ⟨by omega,by omega⟩ ⟨by omega,by omega⟩) fun c1=> ?_
 refine ZC (fun w1 hw h=>Tk (x:=x) (y:=y) ⟨by omega,by omega⟩ ⟨by omega,by omega⟩) fun c2=> ?_
 refine ZC (fun w1 hw h=>Nh (X:=(Oh x y).1) (Y:=(Oh x y).2) (B:=true) (D2 ⟨by omega,by omega⟩ ⟨by omega,by omega⟩)) fun v1=> ?_
 refine K0.cond true Zk ?_
 refine ZS 4 ?_
 refine K0.slot 21 (.int .i64 (IntKind.i64.wrap (x+1))) (.int .i64 (x+1)) Zk (by rw[IntWalk.i64_in _ Zo]) ?_
 refine K0.slot 23 (.int .i64 (IntKind.i64.wrap (y+1))) (.int .i64 (y+1)) Zk (by rw[IntWalk.i64_in _ Zo]) ?_
 refine ZC (fun w1 hw h=>Tk (x:=x+1) (y:=y+1) ⟨by omega,by omega⟩ ⟨by omega,by omega⟩) fun c3=> ?_
 refine ZC (fun w1 hw h=>inbox_no (c:=c) (rule:=rule) (a:=Oh x y) (b:=Oh (x+1) (y+1)) (hp.below hw) hn hl hv) fun ar=> ?_
 refine ZC (fun w1 hw h=>pixels_no (r:=Oc) (e:=12) Zd) fun px=> ?_
 exact ZW (.tuple #[Oc.val,.int .i64 12])
theorem Js{p:Rat}:decide (Kk p ((0:Int):Rat)≤0)=decide (p≤0):=by
 have e:((0:Int):Rat)=0:=rfl
 rw[e];unfold Kk
 split
 ·rename_i h;rw[decide_eq_true Zd,decide_eq_true (Rat.le_of_lt h)]
 ·split
  ·rename_i h;subst h;rfl
  ·rename_i h1 h2;rw[decide_eq_false Zd,decide_eq_false (by grind)]
theorem cmp_ge1{p:Rat}:decide (Kk p ((1:Int):Rat)≥0)=decide (1≤p):=by
 have e:((1:Int):Rat)=1:=rfl
 rw[e];unfold Kk
 split
 ·rename_i h;rw[decide_eq_false Zd,decide_eq_false (by grind)]
 ·split
  ·rename_i h;subst h;rfl
  ·rename_i h1 h2;rw[decide_eq_true Zd,decide_eq_true (by grind)]
theorem fromArea_m(hq:Ox r q K w)(hK:2≤K∧K≤1000000000):Calls Tryz.prog 28 #[r.val] w (K3 w (fun _:Unit=> .int .u8 (byteOf q:Int)) fun _ _=>True):=by
 by_cases h0:q≤0
 ·
  refine K0.enter Tryz.func28 rfl ?_
  refine ZR ?_
  refine ZC (fun w1 hw h=>R8 (x:=1) (y:=2) Zd Zd) fun f=> ?_
  refine ZC (fun w1 hw h=>Ki 0 w1 Zd Zd) fun z=> ?_
  refine ZC (fun w1 hw h=>Lq (hq.below hw) h.2.q ⟨hK.1,by decide,by omega⟩) fun c1=> ?_
  refine ZJ (decide (Kk q ((0:Int):Rat)≤0)) true (by rw[Js,decide_eq_true h0]) ?_
  exact ZX (.int .u8 0) (by unfold byteOf;rw[if_pos h0];rfl)
 by_cases h1:1≤q
 ·
  refine K0.enter Tryz.func28 rfl ?_
  refine ZR ?_
  refine ZC (fun w1 hw h=>R8 (x:=1) (y:=2) Zd Zd) fun f=> ?_
  refine ZC (fun w1 hw h=>Ki 0 w1 Zd Zd) fun z=> ?_
  refine ZC (fun w1 hw h=>Lq (hq.below hw) h.2.q ⟨hK.1,by decide,by omega⟩) fun c1=> ?_
  refine ZJ (decide (Kk q ((0:Int):Rat)≤0)) false (by rw[Js,decide_eq_false h0]) ?_
  refine ZC (fun w1 hw h=>Ki 1 w1 Zd Zd) fun o=> ?_
  refine ZC (fun w1 hw h=>Lq (hq.below hw) h.2.q ⟨hK.1,by decide,by omega⟩) fun c2=> ?_
  refine ZJ (decide (Kk q ((1:Int):Rat)≥0)) true (by rw[cmp_ge1,decide_eq_true h1]) ?_
  exact ZX (.int .u8 255) (by unfold byteOf;rw[if_neg h0,if_pos h1];rfl)
 have hb:0≤(q*255+1/2).floor∧(q*255+1/2).floor<256:=by
  constructor
  ·exact Rat.le_floor_iff.2 (show((0:Int):Rat)≤q*255+1/2 by have e:((0:Int):Rat)=0:=rfl;rw[e];grind)
  ·have h2:=I1 q
   unfold byteOf at h2
   rw[if_neg h0,if_neg h1]at h2
   omega
 have hd:Rat.divInt 1 2=(1/2:Rat):=by kernel_rfl
 have he:(q*((255:Int):Rat)+Rat.divInt 1 2).floor=(q*255+1/2).floor:=by rw[hd];rfl
 have hbo:byteOf q=(q*255+1/2).floor.toNat:=by unfold byteOf;rw[if_neg h0,if_neg h1]
 rw[←he]at hb hbo
 obtain⟨v,hv⟩:∃v,v=(q*((255:Int):Rat)+Rat.divInt 1 2).floor:=⟨_,rfl⟩
 rw[←hv]at hb hbo
 have hpw : v.natAbs < pw 2 := by have:pw 2=18446744073709551616:=by decide
                                  omega
 refine K0.enter Tryz.func28 rfl ?_
 refine ZR ?_
 refine ZC (fun w1 hw h=>R8 (x:=1) (y:=2) Zd Zd) fun f=> ?_
 refine ZC (fun w1 hw h=>Ki 0 w1 Zd Zd) fun z=> ?_
 refine ZC (fun w1 hw h=>Lq (hq.below hw) h.2.q ⟨hK.1,by decide,by omega⟩) fun c1=> ?_
 refine ZJ (decide (Kk q ((0:Int):Rat)≤0)) false (by rw[Js,decide_eq_false h0]) ?_
 refine ZC (fun w1 hw h=>Ki 1 w1 Zd Zd) fun o=> ?_
 refine ZC (fun w1 hw h=>Lq (hq.below hw) h.2.q ⟨hK.1,by decide,by omega⟩) fun c2=> ?_
 refine ZJ (decide (Kk q ((1:Int):Rat)≥0)) false (by rw[cmp_ge1,decide_eq_false h1]) ?_
 refine ZC (fun w1 hw h=>Ki 255 w1 Zd Zd) fun t=> ?_
 refine ZC (fun w1 hw h=>V5 (hq.below hw) h.2.q ⟨hK.1,by decide,by omega⟩) fun ml=> ?_
 refine ZC (fun w1 hw h=>Sx h.2.q (h.1.1.1.1.1.1.2.n Zd).q ⟨by omega,by decide,by omega⟩) fun ad=> ?_
 refine ZC (fun w1 hw h=>Zm h.2.q ⟨by omega,by omega⟩) fun fl=> ?_
 refine ZC (fun w1 hw h=>Te (x:=v) (v:=v) (B:=true) (K:=2) (Z1 (by unfold Yj;simp;omega)) (by unfold Yj;simp;omega) (T0 (show Xr fl v _ w1 by rw[hv];exact h.2) hpw).i Zd) fun ti=> ?_
 exact ZX (.int .u8 (IntKind.u8.wrap v)) (by rw[show IntKind.u8.wrap v=v from IntWalk.u8_in _ Zo,hbo,Int.toNat_of_nonneg hb.1])
def Mh(L:List (List Pt))(rule x y:Int):Nat:=if vL 0 L=true then covP L rule x y else 0
theorem Jr(L:List (List Pt))(rule x y:Int):Mh L rule x y≤255:=by
 unfold Mh
 split
 ·have:=I1 (Vy L rule (Oh x y) (Oh (x+1) (y+1))/65536);unfold covP;omega
 ·decide
theorem Fa(hp:Np w A n H)(hn:n≤1000000)(hl:∀x∈H,x.1.length≤1000000)(hV:(K4 H).flatten.length≤192)(hr:rule=1∨rule=2)(hx:0≤x∧x≤4000)(hy:0≤y∧y≤4000):
 Calls Tryz.prog 9 #[.slice A n c,.int .i64 rule,.int .i64 x,.int .i64 y] w (K3 w (fun _:Unit=> .int .u8 (Mh (K4 H) rule x y:Int)) fun _ _=>True):=by
 cases hv:vL 0 (K4 H)
 ·
  refine K0.enter Tryz.func9 rfl ?_
  refine ZR ?_
  refine ZC (fun w1 hw h=>apixel_no (c:=c) (rule:=rule) (hp.below hw) hn hl hv hx hy) fun px=> ?_
  refine ZI true ?_
  exact ZX (.int .u8 0) (by unfold Mh;rw[if_neg (by rw[hv];decide)];rfl)
 ·
  refine K0.enter Tryz.func9 rfl ?_
  refine ZR ?_
  refine ZC (fun w1 hw h=>apixel_m (c:=c) (hp.below hw) hn hv hV hr hx hy) fun px=> ?_
  refine ZI false ?_
  refine ZC (fun w1 hw h=>fromArea_m h.2.q ⟨by decide,by decide⟩) fun v=> ?_
  exact ZX (.int .u8 (byteOf (Vy (K4 H) rule (Oh x y) (Oh (x+1) (y+1))/65536):Int)) (by unfold Mh covP;rw[if_pos hv])
end
abbrev Mv(a b c d:Int):Value:= .agg #[.int .i64 a,.int .i64 b,.int .i64 c,.int .i64 d]
def Qk(a b c d:Int):Prop:=(-4096≤a∧a<c∧c≤4096)∧(-4096≤b∧b<d∧d≤4096)
def rIn(a b c d:Int):Prop:=((-4096≤a∧a≤4096)∧(-4096≤b∧b≤4096))∧((-4096≤c∧c≤4096)∧(-4096≤d∧d≤4096))
theorem Qk.in_{a b c d:Int}(ho:Qk a b c d):rIn a b c d:=by unfold Qk at ho;unfold rIn;omega
section
variable{w:World}{a b c d a2 b2 c2 d2 x y z:Int}
theorem may_t(ho: -4096≤z∧z≤4096):Calls Tryz.prog 74 #[.int .i64 z] w (K3 w (fun _:Unit=> .bool true) fun _ _=>True):=by
 refine K0.enter Tryz.func74 rfl ?_
 refine ZS 2 ?_
 refine ZT 4 (.bool (decide (z≥-4096))) (.bool true) (by rw[decide_eq_true Zo]) ?_
 refine K0.slot 2 (.bool (decide (z≤4096))) (.bool true) Zk (by rw[decide_eq_true Zo]) ?_
 exact ZW (.bool true)
theorem R4(ho:rIn a b c d):Calls Tryz.prog 38 #[Mv a b c d] w (K3 w (fun _:Unit=> .bool true) fun _ _=>True):=by
 refine K0.enter Tryz.func38 rfl ?_
 refine ZR ?_
 refine ZC (fun w1 hw h=>may_t ho.1.1) fun u1=> ?_
 refine ZC (fun w1 hw h=>may_t ho.1.2) fun u2=> ?_
 refine ZC (fun w1 hw h=>may_t ho.2.1) fun u3=> ?_
 refine ZC (fun w1 hw h=>may_t ho.2.2) fun u4=> ?_
 exact ZW (.bool true)
theorem rempty_f(ho:Qk a b c d):Calls Tryz.prog 37 #[Mv a b c d] w (K3 w (fun _:Unit=> .bool false) fun _ _=>True):=by
 refine K0.enter Tryz.func37 rfl ?_
 refine ZR ?_
 refine ZD 10 (fun w1 hw h=>R4 ho.in_) fun u1=> ?_
 refine ZT 12 (.bool (decide (c≤a))) (.bool false) (by unfold Qk at ho;rw[decide_eq_false Zo]) ?_
 refine K0.slot 2 (.bool (decide (d≤b))) (.bool false) Zk (by unfold Qk at ho;rw[decide_eq_false Zo]) ?_
 exact ZW (.bool false)
theorem rempty_t(ho:rIn a b c d)(h2:c≤a):Calls Tryz.prog 37 #[Mv a b c d] w (K3 w (fun _:Unit=> .bool true) fun _ _=>True):=by
 refine K0.enter Tryz.func37 rfl ?_
 refine ZR ?_
 refine ZD 10 (fun w1 hw h=>R4 ho) fun u1=> ?_
 refine ZT 12 (.bool (decide (c≤a))) (.bool true) (by rw[decide_eq_true h2]) ?_
 exact ZW (.bool true)
theorem Nk(ho:Qk a b c d):Calls Tryz.prog 78 #[Mv a b c d] w (K3 w (fun _:Unit=>Mv a b c d) fun _ _=>True):=by
 refine K0.enter Tryz.func78 rfl ?_
 refine ZR ?_
 refine ZC (fun w1 hw h=>rempty_f ho) fun u1=> ?_
 refine ZI false ?_
 exact ZW (Mv a b c d)
theorem Eb(ho:rIn a b c d)(h2:c≤a):Calls Tryz.prog 78 #[Mv a b c d] w (K3 w (fun _:Unit=>Mv 0 0 0 0) fun _ _=>True):=by
 refine K0.enter Tryz.func78 rfl ?_
 refine ZR ?_
 refine ZC (fun w1 hw h=>rempty_t ho h2) fun u1=> ?_
 refine ZI true ?_
 exact ZW (Mv 0 0 0 0)
theorem Pf:Calls Tryz.prog 78 #[Mv 0 0 0 0] w (K3 w (fun _:Unit=>Mv 0 0 0 0) fun _ _=>True):=Eb (by unfold rIn;decide) Zd
theorem Rv{n:Int}(ho:Qk a b c d)(hn:(c-a)*(d-b)=n)(hb:0≤n∧n≤100000000):Calls Tryz.prog 75 #[Mv a b c d] w (K3 w (fun _:Unit=> .int .i64 n) fun _ _=>True):=by
 refine K0.enter Tryz.func75 rfl ?_
 refine ZR ?_
 refine ZC (fun w1 hw h=>Nk ho) fun u1=> ?_
 exact ZX (.int .i64 (IntKind.i64.wrap (IntKind.i64.wrap (c-a)*IntKind.i64.wrap (d-b)))) (by unfold Qk at ho;rw[IntWalk.i64_in (c-a) Zo,IntWalk.i64_in (d-b) Zo,hn,IntWalk.i64_in _ Zo])
theorem rarea_0:Calls Tryz.prog 75 #[Mv 0 0 0 0] w (K3 w (fun _:Unit=> .int .i64 0) fun _ _=>True):=by
 refine K0.enter Tryz.func75 rfl ?_
 refine ZR ?_
 refine ZC (fun w1 hw h=>Pf) fun u1=> ?_
 exact ZW (.int .i64 0)
theorem rcont_t(ho:Qk a b c d)(hx:a≤x∧x<c)(hy:b≤y∧y<d):Calls Tryz.prog 19 #[Mv a b c d,.int .i64 x,.int .i64 y] w (K3 w (fun _:Unit=> .bool true) fun _ _=>True):=by
 refine K0.enter Tryz.func19 rfl ?_
 refine ZR ?_
 refine ZD 9 (fun w1 hw h=>rempty_f ho) fun u1=> ?_
 refine K0.slot 15 (.bool (decide (x≥a))) (.bool true) Zk (by rw[decide_eq_true Zo]) ?_
 refine ZS 15 ?_
 refine K0.slot 21 (.bool (decide (x<c))) (.bool true) Zk (by rw[decide_eq_true Zo]) ?_
 refine ZS 21 ?_
 refine ZT 27 (.bool (decide (y≥b))) (.bool true) (by rw[decide_eq_true Zo]) ?_
 refine K0.slot 6 (.bool (decide (y<d))) (.bool true) Zk (by rw[decide_eq_true Zo]) ?_
 exact ZW (.bool true)
theorem rcont_0:Calls Tryz.prog 19 #[Mv 0 0 0 0,.int .i64 x,.int .i64 y] w (K3 w (fun _:Unit=> .bool false) fun _ _=>True):=by
 refine K0.enter Tryz.func19 rfl ?_
 refine ZR ?_
 refine ZC (fun w1 hw h=>rempty_t (a:=0) (b:=0) (c:=0) (d:=0) (by unfold rIn;decide) Zd) fun u1=> ?_
 exact ZW (.bool false)
theorem B1(ho:Qk x y (x+1) (y+1)):Calls Tryz.prog 85 #[Mv x y (x+1) (y+1),.int .i64 x,.int .i64 y] w (K3 w (fun _:Unit=> .int .i64 0) fun _ _=>True):=by
 have hr:=ho
 unfold Qk at hr
 refine K0.enter Tryz.func85 rfl ?_
 refine ZR ?_
 refine ZC (fun w1 hw h=>rcont_t (x:=x) (y:=y) ho ⟨by omega,by omega⟩ ⟨by omega,by omega⟩) fun u1=> ?_
 refine ZI false ?_
 exact ZX (.int .i64 (IntKind.i64.wrap (IntKind.i64.wrap (IntKind.i64.wrap (IntKind.i64.wrap (y-y)*IntKind.i64.wrap (x+1-x))+x)-x))) (by rw[IntWalk.i64_in (y-y) Zo,IntWalk.i64_in (x+1-x) Zo,show(y-y)*(x+1-x)=0 by rw[Int.sub_self,Int.zero_mul],IntWalk.i64_in 0 Zd,IntWalk.i64_in (0+x) Zo,show 0+x-x=0 by omega,IntWalk.i64_in 0 Zd])
theorem rpix_0:Calls Tryz.prog 85 #[Mv 0 0 0 0,.int .i64 x,.int .i64 y] w (K3 w (fun _:Unit=> .int .i64 (-1)) fun _ _=>True):=by
 refine K0.enter Tryz.func85 rfl ?_
 refine ZR ?_
 refine ZC (fun w1 hw h=>rcont_0 (x:=x) (y:=y)) fun u1=> ?_
 refine ZI true ?_
 exact ZW (.int .i64 (-1))
theorem rinter_t(ho:Qk a b c d)(h2:Qk a2 b2 c2 d2){e f g k:Int}(he:Fx a a2=e)(hf:Fx b b2=f)(hg:Ej c c2=g)(hk:Ej d d2=k)(h3:Qk e f g k):
 Calls Tryz.prog 40 #[Mv a b c d,Mv a2 b2 c2 d2] w (K3 w (fun _:Unit=>Mv e f g k) fun _ _=>True):=by
 refine K0.enter Tryz.func40 rfl ?_
 refine ZR ?_
 refine ZC (fun w1 hw h=>Nk ho) fun u1=> ?_
 refine ZD 21 (fun w1 hw h=>Nk h2) fun u2=> ?_
 refine K0.slot 29 (Mv (Fx a a2) (Fx b b2) (Ej c c2) (Ej d d2)) (Mv e f g k) Zk (by rw[he,hf,hg,hk]) ?_
 refine ZC (fun w1 hw h=>Nk h3) fun u3=> ?_
 exact ZW (Mv e f g k)
theorem rinter_0(ho:Qk a b c d):Calls Tryz.prog 40 #[Mv 0 0 0 0,Mv a b c d] w (K3 w (fun _:Unit=>Mv 0 0 0 0) fun _ _=>True):=by
 have hr:=ho
 unfold Qk at hr
 have e1:=Rh 0 a
 have e2:=Rh 0 b
 have e3:=Ri 0 c
 have e4:=Ri 0 d
 refine K0.enter Tryz.func40 rfl ?_
 refine ZR ?_
 refine ZC (fun w1 hw h=>Pf) fun u1=> ?_
 refine ZD 21 (fun w1 hw h=>Nk ho) fun u2=> ?_
 refine ZC (fun w1 hw h=>Eb (a:=Fx 0 a) (b:=Fx 0 b) (c:=Ej 0 c) (d:=Ej 0 d) (by unfold rIn;omega) Zo) fun u3=> ?_
 exact ZW (Mv 0 0 0 0)
theorem rinter_r0(ho:Qk a b c d):Calls Tryz.prog 40 #[Mv a b c d,Mv 0 0 0 0] w (K3 w (fun _:Unit=>Mv 0 0 0 0) fun _ _=>True):=by
 have hr:=ho
 unfold Qk at hr
 have e1:=Rh a 0
 have e2:=Rh b 0
 have e3:=Ri c 0
 have e4:=Ri d 0
 refine K0.enter Tryz.func40 rfl ?_
 refine ZR ?_
 refine ZC (fun w1 hw h=>Nk ho) fun u1=> ?_
 refine ZD 21 (fun w1 hw h=>Pf) fun u2=> ?_
 refine ZC (fun w1 hw h=>Eb (a:=Fx a 0) (b:=Fx b 0) (c:=Ej c 0) (d:=Ej d 0) (by unfold rIn;omega) Zo) fun u3=> ?_
 exact ZW (Mv 0 0 0 0)
theorem B3:Calls Tryz.prog 40 #[Mv 0 0 0 0,Mv 0 0 0 0] w (K3 w (fun _:Unit=>Mv 0 0 0 0) fun _ _=>True):=by
 refine K0.enter Tryz.func40 rfl ?_
 refine ZR ?_
 refine ZC (fun w1 hw h=>Pf) fun u1=> ?_
 refine ZC (fun w1 hw h=>Pf) fun u2=> ?_
 refine ZC (fun w1 hw h=>Pf) fun u3=> ?_
 exact ZW (Mv 0 0 0 0)
end
section
variable{w:World}{n a b v:Nat}{g:Nat}{p c:Px}
theorem u64N{n:Nat}(h:n≤18446744073709551615):IntKind.u64.wrap (n:Int)=n:=IntWalk.u64_in _ Zo
theorem i64N{n:Nat}(h:n≤9223372036854775807):IntKind.i64.wrap (n:Int)=n:=IntWalk.i64_in _ Zo
theorem size_v(h:n≤4294967295):Calls Tryz.prog 113 #[.int .i64 n] w (K3 w (fun _:Unit=> .int .u64 n) fun _ _=>True):=by
 refine K0.enter Tryz.func113 rfl ?_
 refine ZR ?_
 refine ZJ (decide ((n:Int)<0)) false (decide_eq_false Zo) ?_
 exact ZX (.int .u64 (IntKind.u64.wrap (n:Int))) (by rw[u64N Zo])
theorem and32(h:n≤4294967295):IntKind.u64.wrap (((BitVec.ofInt 64 (n:Int) &&& BitVec.ofInt 64 4294967295).toNat:Nat):Int)=n:=by
 have e:(BitVec.ofInt 64 (n:Int) &&& BitVec.ofInt 64 4294967295).toNat=n:=by
  rw[BitVec.toNat_and]
  have e1:(BitVec.ofInt 64 4294967295).toNat=2 ^ 32-1:=by decide
  rw[e1,Nat.and_two_pow_sub_one_eq_mod,BitVec.toNat_ofInt]
  omega
 rw[e,u64N Zo]
theorem shr0{n:Nat}(h:n≤4294967295):(n:Int).fdiv (2 ^ min (Int.toNat 32) IntKind.u64.bits)=0:=by
 have e:(2:Int) ^ min (Int.toNat 32) IntKind.u64.bits=4294967296:=by decide
 rw[e,Int.fdiv_eq_ediv_of_nonneg _ Zd];omega
theorem mul1_v(h:n≤4294967295):Calls Tryz.prog 112 #[.int .u64 n,.int .u64 1] w (K3 w (fun _:Unit=> .tuple #[.int .u64 0,.int .u64 n]) fun _ _=>True):=by
 refine K0.enter Tryz.func112 rfl ?_
 refine ZS 2 ?_
 refine K0.slot 15 (.int .u64 (IntKind.u64.wrap (((BitVec.ofInt 64 (n:Int) &&& BitVec.ofInt 64 4294967295).toNat:Nat):Int))) (.int .u64 n) Zk (by rw[and32 h]) ?_
 refine K0.run Zk (stop:=1000) 1 _ ?_
 refine ZS 2 ?_
 refine K0.slot 17 (.int .u64 ((n:Int).fdiv (2 ^ min (Int.toNat 32) IntKind.u64.bits))) (.int .u64 0) Zk (by rw[shr0 h]) ?_
 refine K0.run Zk (stop:=1000) 1 _ ?_
 refine ZS 2 ?_
 refine K0.run Zk (stop:=1000) 1 _ ?_
 refine ZS 2 ?_
 refine K0.run Zk (stop:=1000) 1 _ ?_
 refine ZS 3 ?_
 refine K0.slot 24 (.int .u64 (IntKind.u64.wrap ((n:Int)*1))) (.int .u64 n) Zk (by rw[Int.mul_one,u64N Zo]) ?_
 refine K0.run Zk (stop:=1000) 1 _ ?_
 refine ZS 5 ?_
 refine K0.slot 29 (.int .u64 ((n:Int).fdiv (2 ^ min (Int.toNat 32) IntKind.u64.bits))) (.int .u64 0) Zk (by rw[shr0 h]) ?_
 refine K0.run Zk (stop:=1000) 1 _ ?_
 refine ZS 5 ?_
 refine ZT 38 (.int .u64 (IntKind.u64.wrap ((n:Int)*0))) (.int .u64 0) (by rw[Int.mul_zero];rfl) ?_
 exact ZX (.tuple #[.int .u64 0,.int .u64 (IntKind.u64.wrap ((n:Int)*1))]) (by rw[Int.mul_one,u64N Zo])
theorem div_v(h:n≤4294967295):Calls Tryz.prog 179 #[.int .u64 0,.int .u64 n,.int .u64 255] w (K3 w (fun _:Unit=> .tuple #[.int .u64 (n/255:Nat),.int .u64 (n%255:Nat)]) fun _ _=>True):=by
 refine K0.enter Tryz.func179 rfl ?_
 refine ZR ?_
 refine ZI false ?_
 refine ZI false ?_
 refine ZI true ?_
 exact ZX (.tuple #[.int .u64 (IntKind.u64.wrap ((n:Int).tdiv 255)),.int .u64 ((n:Int).tmod 255)]) (by rw[show((n:Int).tdiv 255)=((n/255:Nat):Int)from rfl,u64N Zo];rfl)
theorem drN_d(n:Nat):drN n=if n%255≥255-n%255 then n/255+1 else n/255:=by
 unfold drN;split<;>omega
theorem near_v(hn:n≤4294967295):Calls Tryz.prog 115 #[.agg #[.int .u64 0,.int .u64 n,.int .u64 255]] w (K3 w (fun _:Unit=> .tuple #[.int .u64 (drN n:Nat),.bool true]) fun _ _=>True):=by
 have hr:n%255<255:=Nat.mod_lt _ Zd
 have hq:n/255≤4294967295:=by omega
 have hd:=drN_d n
 obtain⟨q,hq1⟩:∃q,n/255=q:=⟨_,rfl⟩
 obtain⟨r,hr1⟩:∃r,n%255=r:=⟨_,rfl⟩
 rw[hq1]at hq;rw[hr1]at hr;rw[hq1,hr1]at hd
 refine K0.enter Tryz.func115 rfl ?_
 refine ZR ?_
 have dq:∀w1,Calls Tryz.prog 179 #[.int .u64 0,.int .u64 n,.int .u64 255] w1 (K3 w1 (fun _:Unit=> .tuple #[.int .u64 (q:Nat),.int .u64 (r:Nat)]) fun _ _=>True):=fun w1=>by
  have:=div_v (w:=w1) hn
  rw[hq1,hr1]at this;exact this
 refine ZI false ?_
 refine ZC (fun w1 hw h=>dq w1) fun dv=> ?_
 have e1:IntKind.u64.wrap (255- (r:Int))=((255-r:Nat):Int):=by rw[show(255- (r:Int))=((255-r:Nat):Int) by omega,u64N Zo]
 by_cases hc:r≥255-r
 ·rw[if_pos hc]at hd
  refine ZJ (decide ((r:Int)≥IntKind.u64.wrap (255- (r:Int)))) true (by rw[e1];exact decide_eq_true Zo) ?_
  exact ZX (.tuple #[.int .u64 (IntKind.u64.wrap ((q:Int)+1)),.bool (IntKind.u64.wrap ((q:Int)+1) !=0)]) (by rw[show((q:Int)+1)=((q+1:Nat):Int)from rfl,u64N Zo,hd,show(((q+1:Nat):Int) !=0)=true from bne_iff_ne.2 Zo])
 ·rw[if_neg hc]at hd
  refine ZJ (decide ((r:Int)≥IntKind.u64.wrap (255- (r:Int)))) false (by rw[e1];exact decide_eq_false Zo) ?_
  exact ZX (.tuple #[.int .u64 (q:Int),.bool true]) (by rw[hd])
theorem signed_v(hn:n≤4294967295):Calls Tryz.prog 114 #[.bool false,.func (.func 115) #[.agg #[.int .u64 0,.int .u64 n,.int .u64 255]] #[]] w (K3 w (fun _:Unit=> .tuple #[.int .i64 (drN n:Nat),.bool true]) fun _ _=>True):=by
 have hd:drN n≤4294967295:=by unfold drN;omega
 refine K0.enter Tryz.func114 rfl ?_
 refine ZR ?_
 refine ZD 5 (fun w1 hw h=>near_v hn) fun nv=> ?_
 refine K0.run Zk (stop:=1000) 2 _ ?_
 refine ZS 5 ?_
 refine K0.slot 18 (.bool (decide (((drN n:Nat):Int)>9223372036854775808))) (.bool false) Zk (by rw[decide_eq_false Zo]) ?_
 refine K0.run Zk (stop:=1000) 1 _ ?_
 refine ZS 9 ?_
 refine ZT 22 (.bool (((drN n:Nat):Int)==9223372036854775808)) (.bool false) (by rw[beq_eq_false_iff_ne.2 Zo]) ?_
 refine ZI false ?_
 refine ZI false ?_
 exact ZX (.tuple #[.int .i64 (IntKind.i64.wrap ((drN n:Nat):Int)),.bool true]) (by rw[i64N Zo])
theorem divR_v(hn:n≤4294967295):Calls Tryz.prog 29 #[.int .i64 n,.int .i64 255] w (K3 w (fun _:Unit=> .int .i64 (drN n:Nat)) fun _ _=>True):=by
 have md:∀w1,Calls Tryz.prog 62 #[.int .i64 n,.int .i64 1,.int .i64 255] w1 (K3 w1 (fun _:Unit=> .tuple #[.int .i64 (drN n:Nat),.bool true]) fun _ _=>True):=fun w=>by
  refine K0.enter Tryz.func62 rfl ?_
  refine ZR ?_
  refine ZI false ?_
  refine ZC (fun w1 hw h=>size_v hn) fun s1=> ?_
  refine ZC (fun w1 hw h=>size_v (n:=1) Zd) fun s2=> ?_
  refine ZC (fun w1 hw h=>mul1_v hn) fun ml=> ?_
  refine ZD 7 (fun w1 hw h=>size_v (n:=255) Zd) fun s3=> ?_
  refine ZT 30 (.bool (!(decide ((n:Int)<0)==decide ((1:Int)<0)))) (.bool false) (by rw[decide_eq_false Zo];rfl) ?_
  refine ZC (fun w1 hw h=>signed_v hn) fun sg=> ?_
  exact ZW (.tuple #[.int .i64 (drN n:Nat),.bool true])
 refine K0.enter Tryz.func29 rfl ?_
 refine ZR ?_
 refine ZC (fun w1 hw h=>md w1) fun u=> ?_
 exact ZW (.int .i64 (drN n:Nat))
theorem Vc(ha:a≤255)(hb:b≤255):Calls Tryz.prog 10 #[.int .u8 a,.int .u8 b] w (K3 w (fun _:Unit=> .int .u8 (mulB a b:Nat)) fun _ _=>True):=by
 have h1:=Nat.mul_le_mul ha hb
 have h2:=Ow ha hb
 refine K0.enter Tryz.func10 rfl ?_
 refine ZR ?_
 refine K0.slot 9 (.int .i64 (IntKind.i64.wrap (IntKind.i64.wrap (a:Int)*IntKind.i64.wrap (b:Int)))) (.int .i64 ((a*b:Nat):Int)) Zk (by rw[i64N Zo,i64N Zo,←Int.natCast_mul,i64N Zo]) ?_
 refine ZC (fun w1 hw h=>divR_v (n:=a*b) Zo) fun u=> ?_
 exact ZX (.int .u8 (IntKind.u8.wrap ((drN (a*b):Nat):Int))) (by rw[IntWalk.u8_in _ ⟨by omega,by have h3:drN (a*b)≤255:=h2;omega⟩];rfl)
theorem clampI_v(hn:n≤4294967295):Calls Tryz.prog 122 #[.int .i64 n,.int .i64 0,.int .i64 255] w (K3 w (fun _:Unit=> .int .i64 (min n 255:Nat)) fun _ _=>True):=by
 refine K0.enter Tryz.func122 rfl ?_
 refine ZR ?_
 refine ZJ (decide ((n:Int)<0)) false (decide_eq_false Zo) ?_
 by_cases hc:n>255
 ·
  refine ZJ (decide ((n:Int)>255)) true (decide_eq_true Zo) ?_
  exact ZX (.int .i64 255) (by rw[Nat.min_eq_right Zo];rfl)
 ·
  refine ZJ (decide ((n:Int)>255)) false (decide_eq_false Zo) ?_
  exact ZX (.int .i64 n) (by rw[Nat.min_eq_left Zo])
theorem divN_v(hn:n≤4294967295):Calls Tryz.prog 68 #[.int .i64 n] w (K3 w (fun _:Unit=> .int .u8 (dnB n:Nat)) fun _ _=>True):=by
 have hd:drN n≤4294967295:=by unfold drN;omega
 refine K0.enter Tryz.func68 rfl ?_
 refine ZR ?_
 refine ZC (fun w1 hw h=>divR_v hn) fun u=> ?_
 refine ZC (fun w1 hw h=>clampI_v hd) fun k=> ?_
 exact ZX (.int .u8 (IntKind.u8.wrap ((min (drN n) 255:Nat):Int))) (by rw[IntWalk.u8_in _ Zo];rfl)
end
abbrev Ur(p:Px):List Value:=[.int .u8 (p.r:Int),.int .u8 (p.g:Int),.int .u8 (p.b:Int),.int .u8 (p.a:Int)]
abbrev Mw(p:Px):Value:= .agg #[.int .u8 (p.r:Int),.int .u8 (p.g:Int),.int .u8 (p.b:Int),.int .u8 (p.a:Int)]
section
variable{w:World}{n a b v k:Nat}{g:Nat}{p c s d:Px}
theorem minN:(if (a:Int)<(v:Int)then(a:Int)else(v:Int))=((min v a:Nat):Int):=by split<;>omega
theorem Aa(hb:K8 w g (Ur p)):Calls Tryz.prog 116 #[.int .u8 v,Ku g] w (K3 w (fun _:Unit=> .int .u8 (min v p.a:Nat)) fun _ _=>True):=by
 refine K0.enter Tryz.func116 rfl ?_
 refine ZR ?_
 refine ZA (Kd 5 ⟨g,3,none⟩) (.int .u8 p.a) (fun w1 hw h=>Kg Zk (by have:=(hb.below hw).range 3 _ rfl;simpa using this)) ?_
 exact ZX (.int .u8 (if (p.a:Int)<(v:Int)then(p.a:Int)else(v:Int))) (by rw[minN])
theorem J4(hb:K8 w g (Ur c))(hc:c.ok)(hv:v≤255):Calls Tryz.prog 33 #[.int .u8 v,Ku g] w (K3 w (fun _:Unit=> .int .u8 (mulB v c.a:Nat)) fun _ _=>True):=by
 refine K0.enter Tryz.func33 rfl ?_
 refine ZR ?_
 refine ZA (Kd 5 ⟨g,3,none⟩) (.int .u8 c.a) (fun w1 hw h=>Kg Zk (by have:=(hb.below hw).range 3 _ rfl;simpa using this)) ?_
 refine ZC (fun w1 hw h=>Vc hv hc.a) fun m=> ?_
 exact ZW (.int .u8 (mulB v c.a:Nat))
theorem Za(hb:K8 w g [.int .u8 (k:Int)])(hk:k≤255)(hv:v≤255):Calls Tryz.prog 69 #[.int .u8 v,Ku g] w (K3 w (fun _:Unit=> .int .u8 (mulB v k:Nat)) fun _ _=>True):=by
 refine K0.enter Tryz.func69 rfl ?_
 refine ZR ?_
 refine ZA (Kd 5 ⟨g,0,none⟩) (.int .u8 k) (fun w1 hw h=>Kg Zk (by have:=(hb.below hw).range 0 _ rfl;simpa using this)) ?_
 refine ZC (fun w1 hw h=>Vc hv hk) fun m=> ?_
 exact ZW (.int .u8 (mulB v k:Nat))
theorem eachC_m(hb:K8 w g (Ur p)):Calls Tryz.prog 32 #[Mw p,.func (.func 116) #[] #[Ku g]] w (K3 w (fun _:Unit=>Mw p.clamp) fun _ _=>True):=by
 refine K0.enter Tryz.func32 rfl ?_
 refine ZR ?_
 refine ZC (fun w1 hw h=>Aa (v:=p.r) (hb.below hw)) fun u0=> ?_
 refine ZC (fun w1 hw h=>Aa (v:=p.g) (hb.below hw)) fun u1=> ?_
 refine ZC (fun w1 hw h=>Aa (v:=p.b) (hb.below hw)) fun u2=> ?_
 refine ZC (fun w1 hw h=>Aa (v:=p.a) (hb.below hw)) fun u3=> ?_
 exact ZW (Mw p.clamp)
theorem eachP_m(hb:K8 w g (Ur c))(hc:c.ok):Calls Tryz.prog 32 #[Mw ⟨c.r,c.g,c.b,0⟩,.func (.func 33) #[] #[Ku g]] w (K3 w (fun _:Unit=>Mw ⟨mulB c.r c.a,mulB c.g c.a,mulB c.b c.a,mulB 0 c.a⟩) fun _ _=>True):=by
 refine K0.enter Tryz.func32 rfl ?_
 refine ZR ?_
 refine ZC (fun w1 hw h=>J4 (v:=c.r) (hb.below hw) hc hc.r) fun u0=> ?_
 refine ZC (fun w1 hw h=>J4 (v:=c.g) (hb.below hw) hc hc.g) fun u1=> ?_
 refine ZC (fun w1 hw h=>J4 (v:=c.b) (hb.below hw) hc hc.b) fun u2=> ?_
 refine ZC (fun w1 hw h=>J4 (v:=0) (hb.below hw) hc Zd) fun u3=> ?_
 exact ZW (Mw ⟨mulB c.r c.a,mulB c.g c.a,mulB c.b c.a,mulB 0 c.a⟩)
theorem eachS_m(hb:K8 w g [.int .u8 (k:Int)])(hk:k≤255)(hp:p.ok):Calls Tryz.prog 32 #[Mw p,.func (.func 69) #[] #[Ku g]] w (K3 w (fun _:Unit=>Mw (p.scale k)) fun _ _=>True):=by
 refine K0.enter Tryz.func32 rfl ?_
 refine ZR ?_
 refine ZC (fun w1 hw h=>Za (v:=p.r) (hb.below hw) hk hp.r) fun u0=> ?_
 refine ZC (fun w1 hw h=>Za (v:=p.g) (hb.below hw) hk hp.g) fun u1=> ?_
 refine ZC (fun w1 hw h=>Za (v:=p.b) (hb.below hw) hk hp.b) fun u2=> ?_
 refine ZC (fun w1 hw h=>Za (v:=p.a) (hb.below hw) hk hp.a) fun u3=> ?_
 exact ZW (Mw (p.scale k))
theorem Di:Calls Tryz.prog 64 #[Mw p] w (K3 w (fun _:Unit=>Mw p.clamp) fun _ _=>True):=by
 refine K0.enter Tryz.func64 rfl ?_
 refine ZR ?_
 refine K0.call (val:=fun _:Unit=>Mw p.clamp) (G:=fun _ _=>True) (xs:=[.v (Mw p),.f 116 [(1,0)]]) Zk (fun β w1 hw h hB=>eachC_m (Pc hB (k:=1) (by simp[AV.ids]) (cs:=(Ur p).map .v) Zk)) (fun u=> ?_)
 refine ZR ?_
 exact ZW (Mw p.clamp)
theorem Nm(hc:c.ok):Calls Tryz.prog 12 #[Mw c] w (K3 w (fun _:Unit=>Mw c.pre) fun _ _=>True):=by
 refine K0.enter Tryz.func12 rfl ?_
 refine ZR ?_
 refine K0.call (val:=fun _:Unit=>Mw ⟨mulB c.r c.a,mulB c.g c.a,mulB c.b c.a,mulB 0 c.a⟩) (G:=fun _ _=>True) (xs:=[.v (Mw ⟨c.r,c.g,c.b,0⟩),.f 33 [(1,0)]]) Zk (fun β w1 hw h hB=>eachP_m (Pc hB (k:=1) (by simp[AV.ids]) (cs:=(Ur c).map .v) Zk) hc) (fun u=> ?_)
 refine ZR ?_
 exact ZW (Mw c.pre)
theorem scaleP_m(hk:k≤255)(hp:p.ok):Calls Tryz.prog 31 #[Mw p,.int .u8 k] w (K3 w (fun _:Unit=>Mw (p.scale k)) fun _ _=>True):=by
 refine K0.enter Tryz.func31 rfl ?_
 refine ZR ?_
 refine K0.call (val:=fun _:Unit=>Mw (p.scale k)) (G:=fun _ _=>True) (xs:=[.v (Mw p),.f 69 [(3,0)]]) Zk (fun β w1 hw h hB=>eachS_m (Pc hB (k:=3) (by simp[AV.ids]) (cs:=[.v (.int .u8 (k:Int))]) Zk) hk hp) (fun u=> ?_)
 refine ZR ?_
 exact ZW (Mw (p.scale k))
theorem Ij(hb:b≤255):IntKind.i64.wrap (255- (b:Int))=((255-b:Nat):Int):=by rw[IntWalk.i64_in _ Zo];omega
theorem mulW(ha:a≤65535)(hb:b≤65535):IntKind.i64.wrap ((a:Int)*(b:Int))=((a*b:Nat):Int):=by
 have:=Nat.mul_le_mul ha hb
 rw[←Int.natCast_mul,i64N Zo]
theorem addW(ha:a≤4294967295)(hb:b≤4294967295):IntKind.i64.wrap ((a:Int)+(b:Int))=((a+b:Nat):Int):=by rw[←Int.natCast_add,i64N Zo]
section
variable{s sa d da:Nat}{S SA D DA:Int}
theorem Xb(ha:a≤255)(hb:b≤255):a*b≤65025:=Nat.mul_le_mul ha hb
theorem term_v(hs:s≤255)(hda:da≤255)(eS:S=s)(eD:DA=da):Calls Tryz.prog 121 #[.int .i64 1,.int .i64 S,.int .i64 SA,.int .i64 D,.int .i64 DA] w (K3 w (fun _:Unit=> .int .i64 (s*da:Nat)) fun _ _=>True):=by
 subst eS;subst eD
 refine K0.enter Tryz.func121 rfl ?_
 refine ZR ?_
 refine K0.runC Zk (stop:=1000) 6000 _ ?_
 exact ZX (.int .i64 (IntKind.i64.wrap ((s:Int)*(da:Int)))) (by rw[mulW Zo Zo])
theorem Bx(hs:s≤255)(hsa:sa≤255)(hd:d≤255)(hda:da≤255)(eS:S=s)(eSA:SA=sa)(eD:D=d)(eDA:DA=da):Calls Tryz.prog 67 #[.int .i64 1,.int .i64 S,.int .i64 SA,.int .i64 D,.int .i64 DA] w (K3 w (fun _:Unit=> .int .u8 (chanN s sa d da:Nat)) fun _ _=>True):=by
 subst eS;subst eSA;subst eD;subst eDA
 have h1:=Xb hs (show 255-da≤255 by omega)
 have h2:=Xb hd (show 255-sa≤255 by omega)
 have h3:=Xb hs hda
 refine K0.enter Tryz.func67 rfl ?_
 refine ZR ?_
 refine ZC (fun w1 hw h=>term_v (SA:=(sa:Int)) (D:=(d:Int)) hs hda rfl rfl) fun t=> ?_
 refine K0.slot 26 (.int .i64 (IntKind.i64.wrap (IntKind.i64.wrap (IntKind.i64.wrap ((s:Int)*IntKind.i64.wrap (255- (da:Int)))+IntKind.i64.wrap ((d:Int)*IntKind.i64.wrap (255- (sa:Int))))+((s*da:Nat):Int)))) (.int .i64 ((s*(255-da)+d*(255-sa)+s*da:Nat):Int)) Zk (by rw[Ij hda,Ij hsa,mulW Zo Zo,mulW Zo Zo,addW Zo Zo,addW Zo Zo]) ?_
 refine ZC (fun w1 hw h=>divN_v (n:=s*(255-da)+d*(255-sa)+s*da) Zo) fun n=> ?_
 exact ZW (.int .u8 (chanN s sa d da:Nat))
end
theorem Je:Calls Tryz.prog 63 #[.int .i64 1] w (K3 w (fun _:Unit=> .bool true) fun _ _=>True):=by
 refine K0.enter Tryz.func63 rfl ?_
 refine ZR ?_
 exact ZW (.bool true)
theorem sep1_v:Calls Tryz.prog 65 #[.int .i64 1] w (K3 w (fun _:Unit=> .bool true) fun _ _=>True):=by
 refine K0.enter Tryz.func65 rfl ?_
 refine ZR ?_
 exact ZW (.bool true)
theorem blend_m(hs:s.ok)(hd:d.ok):Calls Tryz.prog 30 #[.int .i64 1,Mw s,Mw d] w (K3 w (fun _:Unit=>Mw (s.over d)) fun _ _=>True):=by
 obtain⟨S,hS⟩:∃S,s.clamp=S:=⟨_,rfl⟩
 obtain⟨D,hD⟩:∃D,d.clamp=D:=⟨_,rfl⟩
 have ks:=hs.clamp
 have kd:=hd.clamp
 rw[hS]at ks;rw[hD]at kd
 have cS:∀w1,Calls Tryz.prog 64 #[Mw s] w1 (K3 w1 (fun _:Unit=>Mw S) fun _ _=>True):=fun w1=>by rw[←hS];exact Di
 have cD:∀w1,Calls Tryz.prog 64 #[Mw d] w1 (K3 w1 (fun _:Unit=>Mw D) fun _ _=>True):=fun w1=>by rw[←hD];exact Di
 have h1:=Xb ks.a (show 255-D.a≤255 by omega)
 have h2:=Xb kd.a (show 255-S.a≤255 by omega)
 have h3:=Xb ks.a kd.a
 have h4:=ks.a
 have h5:=kd.a
 have w8:∀n:Nat,n≤255→IntKind.i64.wrap (n:Int)=n:=fun n h=>i64N Zo
 refine K0.enter Tryz.func30 rfl ?_
 refine ZR ?_
 refine ZC (fun w1 hw h=>Je) fun v=> ?_
 refine ZI false ?_
 refine ZC (fun w1 hw h=>cS w1) fun c1=> ?_
 refine ZC (fun w1 hw h=>cD w1) fun c2=> ?_
 refine ZC (fun w1 hw h=>sep1_v) fun v2=> ?_
 refine K0.cond false Zk ?_
 refine ZS 6 ?_
 refine K0.slot 26 (.int .i64 (IntKind.i64.wrap (S.a:Int))) (.int .i64 S.a) Zk (by rw[w8 _ ks.a]) ?_
 refine ZT 29 (.int .i64 (IntKind.i64.wrap (D.a:Int))) (.int .i64 D.a) (by rw[w8 _ kd.a]) ?_
 refine ZC (fun w1 hw h=>Bx ks.r ks.a kd.r kd.a (w8 _ ks.r) rfl (w8 _ kd.r) rfl) fun r0=> ?_
 refine ZC (fun w1 hw h=>Bx ks.g ks.a kd.g kd.a (w8 _ ks.g) rfl (w8 _ kd.g) rfl) fun r1=> ?_
 refine ZC (fun w1 hw h=>Bx ks.b ks.a kd.b kd.a (w8 _ ks.b) rfl (w8 _ kd.b) rfl) fun r2=> ?_
 refine K0.slot 72 (.int .i64 (IntKind.i64.wrap (IntKind.i64.wrap (IntKind.i64.wrap ((S.a:Int)*IntKind.i64.wrap (255- (D.a:Int)))+IntKind.i64.wrap ((D.a:Int)*IntKind.i64.wrap (255- (S.a:Int))))+IntKind.i64.wrap ((S.a:Int)*(D.a:Int))))) (.int .i64 ((S.a*(255-D.a)+D.a*(255-S.a)+S.a*D.a:Nat):Int)) Zk (by rw[Ij kd.a,Ij ks.a,mulW Zo Zo,mulW Zo Zo,mulW Zo Zo,addW Zo Zo,addW Zo Zo]) ?_
 refine ZC (fun w1 hw h=>divN_v (n:=S.a*(255-D.a)+D.a*(255-S.a)+S.a*D.a) Zo) fun r3=> ?_
 exact ZX (Mw ⟨chanN S.r S.a D.r D.a,chanN S.g S.a D.g D.a,chanN S.b S.a D.b D.a,alphN S.a D.a⟩) (by rw[←hS,←hD];rfl)
theorem Qj(hs:s.ok)(hd:d.ok)(hk:k≤255):Calls Tryz.prog 11 #[.int .i64 1,Mw s,Mw d,.int .u8 k] w (K3 w (fun _:Unit=>Mw (s.blend d k)) fun _ _=>True):=by
 refine K0.enter Tryz.func11 rfl ?_
 refine ZR ?_
 refine ZC (fun w1 hw h=>scaleP_m hk hs) fun c=> ?_
 refine ZC (fun w1 hw h=>blend_m (hs.scale hk) hd) fun b=> ?_
 exact ZW (Mw (s.blend d k))
end
theorem Nw{P:Program}{n:Nat}{xs ys:Array Value}{f:Field}{fs:List Field}{u v:Value}{b c:Bool}{w:World}(hn:f.name≠ "_")(h1:(part f.type xs f.offset).run P w= .ok u w)(h2:(part f.type ys f.offset).run P w= .ok v w)
 (h3:(Op.equalIn n f.type u v).run P w= .ok b w) (h4:(Op.eqFields n xs ys fs).run P w= .ok c w):(Op.eqFields n xs ys (f::fs)).run P w= .ok (b&&c) w:=by
 simp only[Op.eqFields,Sem.run_bind,h1,h2,h3,Result.andThen_ok,hn,ne_eq,not_false_eq_true,if_true]
 cases b
 ·simp
 ·simp[h4]
theorem Kx{P:Program}{t:TypeId}{d:TypeDesc}{xs:Array Value}{off:Nat}{v:Value}{w:World}(hu:P.underlying t=some d)(hd:d.isRow=false)(hv:xs[off]? =some v):(part t xs off).run P w= .ok v w:=by
 have hag:(isAgg t).run P w= .ok false w:=by unfold isAgg;rw[Sem.run_bind,run_underlying hu w];cases d<;>first|rfl|cases hd
 simp only[part,Sem.run_bind,hag,Result.andThen_ok,Bool.false_eq_true,if_false,hv,Sem.run_pure]
section
variable{w:World}{p:Px}{a b c d:Int}{x y:Operand}
theorem eq_rc(k:Nat)(a b c d:Int):(Op.equalIn (k+2) 74 (.agg #[.int .i64 a,.int .i64 b,.int .i64 c,.int .i64 d]) (.agg #[.int .i64 a,.int .i64 b,.int .i64 c,.int .i64 d])).run Tryz.prog w= .ok true w:=by
 have h1:Tryz.prog.underlying 74=some (.struct (Tryz.prog.fieldsOf 74)):=by kernel_rfl
 have h2:Tryz.prog.stoodInHeld 74=false:=by kernel_rfl
 have hm:(Tryz.prog.fieldsOf 74).toList.map (fun f=>(f.name,f.offset,f.type))=[("X0",0,3),("Y0",1,3),("X1",2,3),("Y1",3,3)]:=by kernel_rfl
 have hu:Tryz.prog.underlying 3=some (.int .i64):=by kernel_rfl
 obtain⟨f0,r0,hf,k0,hm⟩:=List.map_eq_cons_iff.1 hm
 obtain⟨f1,r1,hf1,k1,hm⟩:=List.map_eq_cons_iff.1 hm
 obtain⟨f2,r2,hf2,k2,hm⟩:=List.map_eq_cons_iff.1 hm
 obtain⟨f3,r3,hf3,k3,hm⟩:=List.map_eq_cons_iff.1 hm
 obtain rfl:r3=[]:=List.map_eq_nil_iff.1 hm
 subst hf3;subst hf2;subst hf1
 simp only[Prod.mk.injEq]at k0 k1 k2 k3
 obtain⟨n0,o0,t0⟩:=k0
 obtain⟨n1,o1,t1⟩:=k1
 obtain⟨n2,o2,t2⟩:=k2
 obtain⟨n3,o3,t3⟩:=k3
 have e0:∀a:Int,(Op.equalIn (k+1) 3 (.int .i64 a) (.int .i64 a)).run Tryz.prog w= .ok true w:=fun a=>by rw[run_equalIn_int w k _ .i64 .i64 a a hu,beq_self_eq_true]
 show(Op.equalIn (k+1+1) 74 (.agg _) (.agg _)).run Tryz.prog w=_
 rw[run_equalIn_struct w (k+1) _ _ _ h1 h2,hf]
 refine Nw (c:=true) (b:=true) (by rw[n0];decide) (by rw[t0,o0];exact Kx hu rfl rfl) (by rw[t0,o0];exact Kx hu rfl rfl) (by rw[t0];exact e0 _) ?_
 refine Nw (c:=true) (b:=true) (by rw[n1];decide) (by rw[t1,o1];exact Kx hu rfl rfl) (by rw[t1,o1];exact Kx hu rfl rfl) (by rw[t1];exact e0 _) ?_
 refine Nw (c:=true) (b:=true) (by rw[n2];decide) (by rw[t2,o2];exact Kx hu rfl rfl) (by rw[t2,o2];exact Kx hu rfl rfl) (by rw[t2];exact e0 _) ?_
 refine Nw (c:=true) (b:=true) (by rw[n3];decide) (by rw[t3,o3];exact Kx hu rfl rfl) (by rw[t3,o3];exact Kx hu rfl rfl) (by rw[t3];exact e0 _) ?_
 simp[Op.eqFields]
theorem Gq:(Xs 74 x y (.agg #[.int .i64 a,.int .i64 b,.int .i64 c,.int .i64 d]) (.agg #[.int .i64 a,.int .i64 b,.int .i64 c,.int .i64 d])).run Tryz.prog w= .ok (.value (.bool true)) w:=by
 have h3:Tryz.prog.eqGuardType Tryz.prog.depth 74=false:=by kernel_rfl
 have he:=eq_rc (w:=w) 9998 a b c d
 simp only[Xs,Sem.run_bind,run_eqGuard_agg w .eql _ x y _ _ h3,Result.andThen_ok,run_eql_struct,Sem.run_pure]at he ⊢
 rw[he]
 rfl
theorem Gn:(neP 74 x y (.agg #[.int .i64 a,.int .i64 b,.int .i64 c,.int .i64 d]) (.agg #[.int .i64 a,.int .i64 b,.int .i64 c,.int .i64 d])).run Tryz.prog w= .ok (.value (.bool false)) w:=by
 have h3:Tryz.prog.eqGuardType Tryz.prog.depth 74=false:=by kernel_rfl
 have he:=eq_rc (w:=w) 9998 a b c d
 simp only[neP,Sem.run_bind,run_eqGuard_agg w .neq _ x y _ _ h3,Result.andThen_ok,run_neq_struct,Sem.run_pure]at he ⊢
 rw[he]
 rfl
theorem eq_px(k:Nat)(a b c d:Int):(Op.equalIn (k+2) 53 (.agg #[.int .u8 a,.int .u8 b,.int .u8 c,.int .u8 d]) (.agg #[.int .u8 a,.int .u8 b,.int .u8 c,.int .u8 d])).run Tryz.prog w= .ok true w:=by
 have h1:Tryz.prog.underlying 53=some (.struct (Tryz.prog.fieldsOf 53)):=by kernel_rfl
 have h2:Tryz.prog.stoodInHeld 53=false:=by kernel_rfl
 have hm:(Tryz.prog.fieldsOf 53).toList.map (fun f=>(f.name,f.offset,f.type))=[("R",0,5),("G",1,5),("B",2,5),("A",3,5)]:=by kernel_rfl
 have hu:Tryz.prog.underlying 5=some (.int .u8):=by kernel_rfl
 obtain⟨f0,r0,hf,k0,hm⟩:=List.map_eq_cons_iff.1 hm
 obtain⟨f1,r1,hf1,k1,hm⟩:=List.map_eq_cons_iff.1 hm
 obtain⟨f2,r2,hf2,k2,hm⟩:=List.map_eq_cons_iff.1 hm
 obtain⟨f3,r3,hf3,k3,hm⟩:=List.map_eq_cons_iff.1 hm
 obtain rfl:r3=[]:=List.map_eq_nil_iff.1 hm
 subst hf3;subst hf2;subst hf1
 simp only[Prod.mk.injEq]at k0 k1 k2 k3
 obtain⟨n0,o0,t0⟩:=k0
 obtain⟨n1,o1,t1⟩:=k1
 obtain⟨n2,o2,t2⟩:=k2
 obtain⟨n3,o3,t3⟩:=k3
 have e0:∀a:Int,(Op.equalIn (k+1) 5 (.int .u8 a) (.int .u8 a)).run Tryz.prog w= .ok true w:=fun a=>by rw[run_equalIn_int w k _ .u8 .u8 a a hu,beq_self_eq_true]
 show(Op.equalIn (k+1+1) 53 (.agg _) (.agg _)).run Tryz.prog w=_
 rw[run_equalIn_struct w (k+1) _ _ _ h1 h2,hf]
 refine Nw (c:=true) (b:=true) (by rw[n0];decide) (by rw[t0,o0];exact Kx hu rfl rfl) (by rw[t0,o0];exact Kx hu rfl rfl) (by rw[t0];exact e0 _) ?_
 refine Nw (c:=true) (b:=true) (by rw[n1];decide) (by rw[t1,o1];exact Kx hu rfl rfl) (by rw[t1,o1];exact Kx hu rfl rfl) (by rw[t1];exact e0 _) ?_
 refine Nw (c:=true) (b:=true) (by rw[n2];decide) (by rw[t2,o2];exact Kx hu rfl rfl) (by rw[t2,o2];exact Kx hu rfl rfl) (by rw[t2];exact e0 _) ?_
 refine Nw (c:=true) (b:=true) (by rw[n3];decide) (by rw[t3,o3];exact Kx hu rfl rfl) (by rw[t3,o3];exact Kx hu rfl rfl) (by rw[t3];exact e0 _) ?_
 simp[Op.eqFields]
theorem Qt:(Xs 53 x y (.agg #[.int .u8 a,.int .u8 b,.int .u8 c,.int .u8 d]) (.agg #[.int .u8 a,.int .u8 b,.int .u8 c,.int .u8 d])).run Tryz.prog w= .ok (.value (.bool true)) w:=by
 have h3:Tryz.prog.eqGuardType Tryz.prog.depth 53=false:=by kernel_rfl
 have he:=eq_px (w:=w) 9998 a b c d
 simp only[Xs,Sem.run_bind,run_eqGuard_agg w .eql _ x y _ _ h3,Result.andThen_ok,run_eql_struct,Sem.run_pure]at he ⊢
 rw[he]
 rfl
theorem cvalid_m(hp:p.clamp=p):Calls Tryz.prog 84 #[Mw p] w (K3 w (fun _:Unit=> .bool true) fun _ _=>True):=by
 have hc:∀w1,Calls Tryz.prog 64 #[Mw p] w1 (K3 w1 (fun _:Unit=>Mw p) fun _ _=>True):=fun w1=>by
  have:=Di (w:=w1) (p:=p);rwa [hp]at this
 refine K0.enter Tryz.func84 rfl ?_
 refine ZR ?_
 refine ZD 3 (fun w1 hw h=>hc w1) fun u=> ?_
 refine ZB 3 (Xs 53 (.tmp 4) (.tmp 5) (Mw p) (Mw p)) (.bool true) (fun w1 hw h=>Qt) ?_
 exact ZW (.bool true)
end
end Go.Proofs.YtpgkbllcnphmbaaGreatDoor
