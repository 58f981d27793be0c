/-
 Points.
-/
import Derived.Test.YtoeiphicmcndlaaGreatDoorAQP
import Derived.Test.YtoeiphicmcndlaaGreatDoorAUP
namespace Go.Proofs.YtoeiphicmcndlaaGreatDoor
set_option maxRecDepth 100000
set_option maxHeartbeats 8000000
set_option linter.unusedVariables false
set_option linter.unusedSimpArgs false
open Go.RowKit
def pt(a b:Int):Value:= .agg #[Zi a,Zi b]
def D4(t:TypeId)(x y:Operand)(u v:Value):Sem Next:=(do eqGuard .eql t x y u v;binOp .eql t u v) >>= fun v=>pure (.value v)
theorem Jd{x y:Operand}{a b c d:Int}{w:World}:(D4 57 x y (pt a b) (pt c d)).run Tryz.prog w= .ok (.value (.bool (a==c&&b==d))) w:=by
 have h1:Tryz.prog.underlying 57=some (.struct (Tryz.prog.fieldsOf 57)):=by kernel_rfl
 have h2:Tryz.prog.stoodInHeld 57=false:=by kernel_rfl
 have h3:Tryz.prog.eqGuardType Tryz.prog.depth 57=false:=by kernel_rfl
 have hm:(Tryz.prog.fieldsOf 57).toList.map (fun f=>(f.name,f.offset,f.type))=[("X",0,3),("Y",1,3)]:=by kernel_rfl
 have hu:Tryz.prog.underlying 3=some (.int .i64):=by kernel_rfl
 have hz:Nz Tryz.prog 3=some 1:=by kernel_rfl
 have hr:Rm Tryz.prog 3=some false:=by kernel_rfl
 obtain⟨f0,r0,hf,k0,hm⟩:=List.map_eq_cons_iff.1 hm
 obtain⟨f1,r1,hf1,k1,hm⟩:=List.map_eq_cons_iff.1 hm
 obtain rfl:r1=[]:=List.map_eq_nil_iff.1 hm
 subst hf1
 simp only[Prod.mk.injEq]at k0 k1
 obtain⟨n0,o0,t0⟩:=k0
 obtain⟨n1,o1,t1⟩:=k1
 have hp:∀(xs:Array Value) (off:Nat) (v:Value),xs[off]? =some v→(part 3 xs off).run Tryz.prog w= .ok v w:=by
  intro xs off v hv
  have hag:(isAgg 3).run Tryz.prog w= .ok false w:=by unfold isAgg;rw[Sem.run_bind,run_underlying hu w];rfl
  simp only[part,Sem.run_bind,hag,Result.andThen_ok,Bool.false_eq_true,if_false,hv,Sem.run_pure]
 have e0:∀a b:Int,(Op.equalIn 9999 3 (Zi a) (Zi b)).run Tryz.prog w= .ok (a==b) w:=fun a b=>run_equalIn_int w 9998 _ .i64 .i64 a b hu
 have p0:(part 3 #[Zi a,Zi b] 0).run Tryz.prog w= .ok (Zi a) w:=hp _ 0 _ rfl
 have p1:(part 3 #[Zi a,Zi b] 1).run Tryz.prog w= .ok (Zi b) w:=hp _ 1 _ rfl
 have q0:(part 3 #[Zi c,Zi d] 0).run Tryz.prog w= .ok (Zi c) w:=hp _ 0 _ rfl
 have q1:(part 3 #[Zi c,Zi d] 1).run Tryz.prog w= .ok (Zi d) w:=hp _ 1 _ rfl
 have hfld:(Op.eqFields 9999 #[Zi a,Zi b] #[Zi c,Zi d] [f0,f1]).run Tryz.prog w= .ok (a==c&&b==d) w:=by
  have x0:("X" :String)≠ "_" :=by decide
  have x1:("Y" :String)≠ "_" :=by decide
  simp only[Op.eqFields,n0,n1,o0,o1,t0,t1,Sem.run_bind,p0,q0,p1,q1,Result.andThen_ok,e0,x0,x1,ne_eq,not_false_eq_true,if_true]
  cases h:a==c
  ·simp[e0,h]
  ·cases h':b==d<;>simp[e0,h,p1,q1,h']
 have hq:(Op.equalIn 10000 57 (pt a b) (pt c d)).run Tryz.prog w= .ok (a==c&&b==d) w:=by
  rw[pt,pt,run_equalIn_struct w 9999 _ _ _ h1 h2,hf];exact hfld
 simp only[D4,pt,Sem.run_bind,run_eqGuard_agg w .eql _ x y _ _ h3,Result.andThen_ok,run_eql_struct,Sem.run_pure]
 rw[pt,pt]at hq
 rw[hq]
 rfl
def L8(X Y:Int):Bool:=decide ((-1048576≤X∧X≤1048576)∧(-1048576≤Y∧Y≤1048576))
section
variable{p q:Rat}{K1 K2:Nat}{w:World}{X Y:Int}
theorem rvalid_m:Zv 270 #[pt X Y] w (.bool (L8 X Y)):=by
 refine K0.enter Tryz.func270 rfl <| ZS 3 ?_
 by_cases h0:X≥-1048576
 case neg=>
  exact ZT 5 (.bool (decide (X≥-1048576))) Zf (by rw[decide_eq_false Zo]) <| ZX Zf (by unfold L8;rw[decide_eq_false Zo])
 refine K0.slot 5 (.bool (decide (X≥-1048576))) Zt Zk (by rw[decide_eq_true Zo]) <| ZS 7 ?_
 by_cases h1:X≤1048576
 case neg=>
  exact ZT 9 (.bool (decide (X≤1048576))) Zf (by rw[decide_eq_false Zo]) <| ZX Zf (by unfold L8;rw[decide_eq_false Zo])
 refine K0.slot 9 (.bool (decide (X≤1048576))) Zt Zk (by rw[decide_eq_true Zo]) <| ZS 12 ?_
 by_cases h2:Y≥-1048576
 case neg=>
  exact ZT 14 (.bool (decide (Y≥-1048576))) Zf (by rw[decide_eq_false Zo]) <| ZX Zf (by unfold L8;rw[decide_eq_false Zo])
 refine K0.slot 14 (.bool (decide (Y≥-1048576))) Zt Zk (by rw[decide_eq_true Zo]) <| ZS 17 ?_
 by_cases h3:Y≤1048576
 case neg=>
  exact ZT 19 (.bool (decide (Y≤1048576))) Zf (by rw[decide_eq_false Zo]) <| ZX Zf (by unfold L8;rw[decide_eq_false Zo])
 exact ZT 19 (.bool (decide (Y≤1048576))) Zt (by rw[decide_eq_true Zo]) <| ZX Zt (by unfold L8;rw[decide_eq_true Zo])
end
def Pe(x:Int):Int:=if x< -1048576 then -1048576 else if 1048576<x then 1048576 else x
section
variable{w:World}{X Y U V x:Int}
theorem iclampP_m:Zv 250 #[Zi x,Zi (-1048576),Zi 1048576] w (Zi (Pe x)):=by
 by_cases h1:x< -1048576
 ·exact K0.enter Tryz.func250 rfl <| ZR <| ZJ (decide (x< -1048576)) true (by simpa using h1) <| ZX (Zi (-1048576)) (by unfold Pe;rw[if_pos h1])
 ·by_cases h2:1048576<x
  ·exact K0.enter Tryz.func250 rfl <| ZR <| ZJ (decide (x< -1048576)) false (by simpa using h1) <| ZJ (decide (x>1048576)) true (by simpa using h2) <| ZX (Zi 1048576) (by unfold Pe;rw[if_neg h1,if_pos h2])
  ·exact K0.enter Tryz.func250 rfl <| ZR <| ZJ (decide (x< -1048576)) false (by simpa using h1) <| ZJ (decide (x>1048576)) false (by simpa using h2) <| ZX (Zi x) (by unfold Pe;rw[if_neg h1,if_neg h2])
theorem held_m:Zv 209 #[Zi x] w (Zi (Pe x)):=by
 exact K0.enter Tryz.func209 rfl <| ZR <| ZC (fun w1 hw h=>iclampP_m (x:=x)) fun u=>ZW (Zi (Pe x))
theorem hold_m:Zv 151 #[pt X Y] w (pt (Pe X) (Pe Y)):=by
 exact K0.enter Tryz.func151 rfl <| ZR <| ZC (fun w1 hw h=>held_m (x:=X)) fun u=>ZC (fun w1 hw h=>held_m (x:=Y)) fun v=>ZW (pt (Pe X) (Pe Y))
theorem clampP_eq(x:Int):(Pe x==x)=decide (-1048576≤x∧x≤1048576):=by
 unfold Pe
 split
 ·rw[decide_eq_false Zo];simp;omega
 ·split
  ·rw[decide_eq_false Zo];simp;omega
  ·rw[decide_eq_true Zo];simp
theorem validP_eq(X Y:Int):(Pe X==X&&Pe Y==Y)=L8 X Y:=by
 rw[clampP_eq,clampP_eq];unfold L8;simp
theorem valid_m:Zv 97 #[pt X Y] w (.bool (L8 X Y)):=by
 exact K0.enter Tryz.func97 rfl <| ZR <| ZD 3 (fun w1 hw h=>hold_m (X:=X) (Y:=Y)) fun u=>ZB 3 (D4 57 (.tmp 4) (.tmp 5) (pt (Pe X) (Pe Y)) (pt X Y)) (.bool (Pe X==X&&Pe Y==Y)) (fun w1 hw h=>Jd) <| ZX (.bool (Pe X==X&&Pe Y==Y)) (by rw[validP_eq])
end
section
variable{w:World}{X Y U V x:Int}{p q:Rat}{K:Nat}
theorem Nc{B:Bool}(h:L8 X Y=B):Zv 270 #[pt X Y] w (.bool B):=by subst h;exact rvalid_m
theorem Mu{B:Bool}(h:L8 X Y=B):Zv 97 #[pt X Y] w (.bool B):=by subst h;exact valid_m
end
end Go.Proofs.YtoeiphicmcndlaaGreatDoor
