/-
 Transforms.
-/
import Derived.Test.YtoeiphicmcndlaaGreatDoorAO
import Derived.Test.YtoeiphicmcndlaaGreatDoorGA
import Derived.Test.YtoeiphicmcndlaaGreatDoorAUP
namespace Go.Proofs.YtoeiphicmcndlaaGreatDoor
set_option maxRecDepth 100000
set_option maxHeartbeats 8000000
set_option linter.unusedVariables false
set_option linter.unusedSimpArgs false
open Go.RowKit
structure TV where
 a:RV
 b:RV
 c:RV
 d:RV
 e:RV
 f:RV
def TV.cl(t:TV):List Value:=t.a.cl++(t.b.cl++(t.c.cl++(t.d.cl++(t.e.cl++t.f.cl))))
@[reducible] def TV.val(t:TV):Value:= .agg t.cl.toArray
structure Y0 where
 a:Rat
 b:Rat
 c:Rat
 d:Rat
 e:Rat
 f:Rat
structure Ag(t:TV)(T:Y0)(K:Nat)(w:World):Prop where
 a:Af t.a T.a K w
 b:Af t.b T.b K w
 c:Af t.c T.c K w
 d:Af t.d T.d K w
 e:Af t.e T.e K w
 f:Af t.f T.f K w
structure IsAN(t:TV)(T:Y0)(K:Nat)(w:World):Prop where
 a:Nr t.a T.a K w
 b:Nr t.b T.b K w
 c:Nr t.c T.c K w
 d:Nr t.d T.d K w
 e:Nr t.e T.e K w
 f:Nr t.f T.f K w
def T5(T:Y0):List Nat:=[bitsQ T.a,bitsQ T.b,bitsQ T.c,bitsQ T.d,bitsQ T.e,bitsQ T.f]
def Y0.ok(T:Y0):Bool:=(T5 T).all fun n=>decide (n≤256)
def Y0.det(T:Y0):Rat:=T.a*T.d-T.b*T.c
section
variable{t u:TV}{T U:Y0}{K K':Nat}{w w':World}
theorem Ag.below(h:Ag t T K w)(hb:Below w.heap.size w w'):Ag t T K w':=⟨h.a.below hb,h.b.below hb,h.c.below hb,h.d.below hb,h.e.below hb,h.f.below hb⟩
theorem Ag.mono(h:Ag t T K w)(hK:K≤K'):Ag t T K' w:=⟨h.a.mono hK,h.b.mono hK,h.c.mono hK,h.d.mono hK,h.e.mono hK,h.f.mono hK⟩
end
theorem bits_8{n:Nat}(h:bitsN n≤256):n<pw 8:=by
 rw[Sj]
 unfold bitsN at h
 split at h
 ·rename_i h0;rw[h0];exact Nat.two_pow_pos _
 ·exact Nat.lt_of_lt_of_le Nat.lt_log2_self (Nat.pow_le_pow_right Zd Zo)
theorem Y0.ok_bits{T:Y0}(h:T.ok=true):bitsQ T.a≤256∧bitsQ T.b≤256∧bitsQ T.c≤256∧bitsQ T.d≤256∧bitsQ T.e≤256∧bitsQ T.f≤256:=by
 unfold Y0.ok T5 at h
 simpa using h
theorem isq0{K:Nat}{w:World}:Af Ju ((0:Int):Rat) K w:=⟨0,0,⟨In.nil_,rfl,Nat.zero_le _⟩,⟨In.nil_,rfl,Nat.zero_le _⟩,by rw[Zm];rfl⟩
section
variable{t u:TV}{T U:Y0}{K:Nat}{w:World}{r s r2 s2:RV}{p q p2 q2:Rat}
theorem Gu(ht:Ag t T K w)(hK:2≤K∧K≤10000000):
 Calls Tryz.prog 147 #[t.val] w (K7 w TV.val fun v w=>IsAN v T K w):=by
 refine K0.enter Tryz.func147 rfl <| ZR <| K0.un Zk <| ZR <| K0.drop 5 Zk fun _=>ZI true <| ZC (fun w1 hw h=>M0 (ht.a.below hw) Zo) fun a=>K0.drop 5 Zk fun _=>ZI true <| ZC (fun w1 hw h=>M0 (ht.b.below hw) Zo) fun b=>K0.drop 5 Zk fun _=>ZI true <| ZC (fun w1 hw h=>M0 (ht.c.below hw) Zo) fun c=>K0.drop 5 Zk fun _=>ZI true <| ZC (fun w1 hw h=>M0 (ht.d.below hw) Zo) fun d=>K0.drop 5 Zk fun _=>ZI true <| ZC (fun w1 hw h=>M0 (ht.e.below hw) Zo) fun e=>K0.drop 5 Zk fun _=>ZI true <| ZC (fun w1 hw h=>M0 (ht.f.below hw) Zo) fun f=>ZI false <| ZV (TV.val ⟨a,b,c,d,e,f⟩) (fun w1 hw h=>⟨⟨a,b,c,d,e,f⟩,rfl,hw,fun w'' k1 k2=>⟨(h w'' k1 k2).1.1.1.1.1.2,(h w'' k1 k2).1.1.1.1.2,(h w'' k1 k2).1.1.1.2,(h w'' k1 k2).1.1.2,(h w'' k1 k2).1.2,(h w'' k1 k2).2⟩⟩)
theorem Eg(ht:Ag t T K w)(hK:2≤K∧K≤10000000):
 Calls Tryz.prog 102 #[t.val] w (K7 w RV.val fun v w=>Nr v T.det (4*K+1) w):=by
 refine K0.enter Tryz.func102 rfl <| ZR <| ZC (fun w1 hw h=>qmul_m (ht.a.below hw) (ht.d.below hw) Zo) fun m=>ZC (fun w1 hw h=>qmul_m (ht.b.below hw) (ht.c.below hw) Zo) fun n=>ZC (fun w1 hw h=>qsub_m h.1.2.q h.2.q Zo) fun v=>ZV (RV.val v) (fun w1 hw h=>⟨v,rfl,hw,fun w'' k1 k2=>(h w'' k1 k2).2.mono Zo⟩)
theorem validA_m(ht:Ag t T K w)(hK:2≤K∧K≤10000000):
 Zv 93 #[t.val] w (.bool T.ok):=by
 have bad:∀n∈T5 T,((n:Int)>256)→T.ok=false:=fun n hn h=>by
  unfold Y0.ok
  rw[List.all_eq_false]
  exact⟨n,hn,by simp;omega⟩
 refine K0.enter Tryz.func93 rfl <| ZR <| ZC (fun w1 hw h=>Gu (ht.below hw) hK) fun n=>K0.un Zk <| ZR <| K0.drop 4 Zk fun _=>ZI true <| ZC (fun w1 hw h=>Uw h.2.a.q Zo) fun u=>K0.both (decide (((bitsQ T.a:Nat):Int)>256)) Zk (fun hc=> ?_) (fun hc=> ?_)
 ·exact K0.runC Zk (stop:=1000) 6000 _ <| ZX Zf (by rw[bad (bitsQ T.a) (by simp[T5]) (of_decide_eq_true hc)])
 have hba:=of_decide_eq_false hc
 clear hc
 refine ZR <| K0.drop 4 Zk fun _=>ZI true <| ZC (fun w1 hw h=>Uw h.1.2.b.q Zo) fun u=>K0.both (decide (((bitsQ T.b:Nat):Int)>256)) Zk (fun hc=> ?_) (fun hc=> ?_)
 ·exact K0.runC Zk (stop:=1000) 6000 _ <| ZX Zf (by rw[bad (bitsQ T.b) (by simp[T5]) (of_decide_eq_true hc)])
 have hbb:=of_decide_eq_false hc
 clear hc
 refine ZR <| K0.drop 4 Zk fun _=>ZI true <| ZC (fun w1 hw h=>Uw h.1.1.2.c.q Zo) fun u=>K0.both (decide (((bitsQ T.c:Nat):Int)>256)) Zk (fun hc=> ?_) (fun hc=> ?_)
 ·exact K0.runC Zk (stop:=1000) 6000 _ <| ZX Zf (by rw[bad (bitsQ T.c) (by simp[T5]) (of_decide_eq_true hc)])
 have hbc:=of_decide_eq_false hc
 clear hc
 refine ZR <| K0.drop 4 Zk fun _=>ZI true <| ZC (fun w1 hw h=>Uw h.1.1.1.2.d.q Zo) fun u=>K0.both (decide (((bitsQ T.d:Nat):Int)>256)) Zk (fun hc=> ?_) (fun hc=> ?_)
 ·exact K0.runC Zk (stop:=1000) 6000 _ <| ZX Zf (by rw[bad (bitsQ T.d) (by simp[T5]) (of_decide_eq_true hc)])
 have hbd:=of_decide_eq_false hc
 clear hc
 refine ZR <| K0.drop 4 Zk fun _=>ZI true <| ZC (fun w1 hw h=>Uw h.1.1.1.1.2.e.q Zo) fun u=>K0.both (decide (((bitsQ T.e:Nat):Int)>256)) Zk (fun hc=> ?_) (fun hc=> ?_)
 ·exact K0.runC Zk (stop:=1000) 6000 _ <| ZX Zf (by rw[bad (bitsQ T.e) (by simp[T5]) (of_decide_eq_true hc)])
 have hbe:=of_decide_eq_false hc
 clear hc
 refine ZR <| K0.drop 4 Zk fun _=>ZI true <| ZC (fun w1 hw h=>Uw h.1.1.1.1.1.2.f.q Zo) fun u=>K0.both (decide (((bitsQ T.f:Nat):Int)>256)) Zk (fun hc=> ?_) (fun hc=> ?_)
 ·exact K0.runC Zk (stop:=1000) 6000 _ <| ZX Zf (by rw[bad (bitsQ T.f) (by simp[T5]) (of_decide_eq_true hc)])
 have hbf:=of_decide_eq_false hc
 clear hc
 refine ZR <| ZI false ?_
 have hall:T.ok=true:=by unfold Y0.ok T5;simp only[List.all_cons,List.all_nil,Bool.and_true,Bool.and_eq_true,decide_eq_true_eq];exact⟨by omega,by omega,by omega,by omega,by omega,by omega⟩
 exact ZX Zt (by rw[hall])
theorem W1{B:Bool}(hB:T.ok=B)(ht:Ag t T K w)(hK:2≤K∧K≤10000000):Zv 93 #[t.val] w (.bool B):=by subst hB;exact validA_m ht hK
end
section
variable{w:World}{t u:TV}{T U:Y0}{K K1 K2:Nat}{r s:RV}{p q:Rat}{X Y:Int}
def Uf(r s:RV)(B:Bool)(w:World):Prop:=∀v,Below w.heap.size w v→Zv 201 #[r.val,s.val] v (.bool B)
theorem Cd(ha:Nr r p K1 w)(hb:Nr s q K2 w):Uf r s (decide (p=q)) w:=fun v hv=>rsame_nn (ha.below hv) (hb.below hv) rfl
theorem Uf.below{B:Bool}{w':World}(h:Uf r s B w)(hb:Below w.heap.size w w'):Uf r s B w':=fun v hv=>h v (hb.trans (hv.mono hb.size))
theorem coef_m:Calls Tryz.prog 141 #[t.val] w (K7 w (Kf 6) fun g v=>K5 v g t.cl):=by
 refine K0.enter Tryz.func141 rfl <| ZS 12 <| K0.make (Lq 77 6 #[(0,t.a.val),(1,t.b.val),(2,t.c.val),(3,t.d.val),(4,t.e.val),(5,t.f.val)]) (Kf 6) (L4 40 t.cl.toArray) Zk (fun w1 hw h=>Kc Zk) fun g=>ZR <| ZV (Kf 6 g) (fun w1 hw h=>⟨g,rfl,hw,fun w'' k1 k2=>⟨_,(h w'' k1 k2).2⟩⟩)
theorem six_a{g:Nat}(h:K5 w g t.cl):w.rangeAt g (0*4) t.a.cl:=h.fst
theorem six_b{g:Nat}(h:K5 w g t.cl):w.rangeAt g (1*4) t.b.cl:=by have:=(K5.mid (a:=t.a.cl) h);intro j v hv;exact this j v (by rw[List.getElem?_append_left (List.getElem?_eq_some_iff.1 hv).1];exact hv)
theorem six_c{g:Nat}(h:K5 w g t.cl):w.rangeAt g (2*4) t.c.cl:=by have:=(K5.mid (a:=t.a.cl++t.b.cl) (b:=t.c.cl++(t.d.cl++(t.e.cl++t.f.cl))) (by rw[List.append_assoc];exact h));intro j v hv;exact this j v (by rw[List.getElem?_append_left (List.getElem?_eq_some_iff.1 hv).1];exact hv)
theorem six_d{g:Nat}(h:K5 w g t.cl):w.rangeAt g (3*4) t.d.cl:=by have:=(K5.mid (a:=t.a.cl++t.b.cl++t.c.cl) (b:=t.d.cl++(t.e.cl++t.f.cl)) (by rw[List.append_assoc,List.append_assoc];exact h));intro j v hv;exact this j v (by rw[List.getElem?_append_left (List.getElem?_eq_some_iff.1 hv).1];exact hv)
theorem six_e{g:Nat}(h:K5 w g t.cl):w.rangeAt g (4*4) t.e.cl:=by have:=(K5.mid (a:=t.a.cl++t.b.cl++t.c.cl++t.d.cl) (b:=t.e.cl++t.f.cl) (by rw[List.append_assoc,List.append_assoc,List.append_assoc];exact h));intro j v hv;exact this j v (by rw[List.getElem?_append_left (List.getElem?_eq_some_iff.1 hv).1];exact hv)
theorem six_f{g:Nat}(h:K5 w g t.cl):w.rangeAt g (5*4) t.f.cl:=K5.mid (a:=t.a.cl++t.b.cl++t.c.cl++t.d.cl++t.e.cl) (by rw[List.append_assoc,List.append_assoc,List.append_assoc,List.append_assoc];exact h)
theorem K5.below{g:Nat}{cs:List Value}{w':World}(h:K5 w g cs)(hb:Below w.heap.size w w'):K5 w' g cs:=by
 obtain⟨ty,h⟩:=h
 exact⟨ty,(hb.block g (Array.getElem?_eq_some_iff.1 h).1).trans h⟩
theorem sameAll6_m{g g':Nat}{Ba Bb Bc Bd Be Bf:Bool}(hg:K5 w g t.cl)(hg':K5 w g' u.cl)(ha:Uf t.a u.a Ba w)(hb:Uf t.b u.b Bb w)(hc:Uf t.c u.c Bc w)(hd:Uf t.d u.d Bd w)(he:Uf t.e u.e Be w)(hf:Uf t.f u.f Bf w):
 Zv 140 #[Kf 6 g,Kf 6 g'] w (.bool (Ba&&(Bb&&(Bc&&(Bd&&(Be&&Bf)))))):=by
 refine K0.enter Tryz.func140 rfl <| ZR <| ZI false <| K0.un Zk <| ZR <| ZI true <| ZB 2 (Kj 77 (Kf 6 g) 0) (Zq g (0*4)) (fun w1 hw h=>Kq (elem:=40) Zk Zk Zd) <| ZB 3 (L5 40 ⟨g,0*4,none⟩) (t.a.val) (fun w1 hw h=>Mj (vs:=t.a.cl) Zk Zk (six_a (hg.below hw))) <| ZB 6 (Kj 77 (Kf 6 g') 0) (Zq g' (0*4)) (fun w1 hw h=>Kq (elem:=40) Zk Zk Zd) <| ZB 7 (L5 40 ⟨g',0*4,none⟩) (u.a.val) (fun w1 hw h=>Mj (vs:=u.a.cl) Zk Zk (six_a (hg'.below hw))) ?_
 cases Ba
 ·exact ZC (fun w1 hw h=>ha w1 hw) fun z=>K0.runC Zk (stop:=1000) 6000 _ <| ZX Zf Zs
 refine ZC (fun w1 hw h=>ha w1 hw) fun z=>ZI false <| ZI true <| ZB 2 (Kj 77 (Kf 6 g) 1) (Zq g (1*4)) (fun w1 hw h=>Kq (elem:=40) Zk Zk Zd) <| ZB 3 (L5 40 ⟨g,1*4,none⟩) (t.b.val) (fun w1 hw h=>Mj (vs:=t.b.cl) Zk Zk (six_b (hg.below hw))) <| ZB 6 (Kj 77 (Kf 6 g') 1) (Zq g' (1*4)) (fun w1 hw h=>Kq (elem:=40) Zk Zk Zd) <| ZB 7 (L5 40 ⟨g',1*4,none⟩) (u.b.val) (fun w1 hw h=>Mj (vs:=u.b.cl) Zk Zk (six_b (hg'.below hw))) ?_
 cases Bb
 ·exact ZC (fun w1 hw h=>hb w1 hw) fun z=>K0.runC Zk (stop:=1000) 6000 _ <| ZX Zf Zs
 refine ZC (fun w1 hw h=>hb w1 hw) fun z=>ZI false <| ZI true <| ZB 2 (Kj 77 (Kf 6 g) 2) (Zq g (2*4)) (fun w1 hw h=>Kq (elem:=40) Zk Zk Zd) <| ZB 3 (L5 40 ⟨g,2*4,none⟩) (t.c.val) (fun w1 hw h=>Mj (vs:=t.c.cl) Zk Zk (six_c (hg.below hw))) <| ZB 6 (Kj 77 (Kf 6 g') 2) (Zq g' (2*4)) (fun w1 hw h=>Kq (elem:=40) Zk Zk Zd) <| ZB 7 (L5 40 ⟨g',2*4,none⟩) (u.c.val) (fun w1 hw h=>Mj (vs:=u.c.cl) Zk Zk (six_c (hg'.below hw))) ?_
 cases Bc
 ·exact ZC (fun w1 hw h=>hc w1 hw) fun z=>K0.runC Zk (stop:=1000) 6000 _ <| ZX Zf Zs
 refine ZC (fun w1 hw h=>hc w1 hw) fun z=>ZI false <| ZI true <| ZB 2 (Kj 77 (Kf 6 g) 3) (Zq g (3*4)) (fun w1 hw h=>Kq (elem:=40) Zk Zk Zd) <| ZB 3 (L5 40 ⟨g,3*4,none⟩) (t.d.val) (fun w1 hw h=>Mj (vs:=t.d.cl) Zk Zk (six_d (hg.below hw))) <| ZB 6 (Kj 77 (Kf 6 g') 3) (Zq g' (3*4)) (fun w1 hw h=>Kq (elem:=40) Zk Zk Zd) <| ZB 7 (L5 40 ⟨g',3*4,none⟩) (u.d.val) (fun w1 hw h=>Mj (vs:=u.d.cl) Zk Zk (six_d (hg'.below hw))) ?_
 cases Bd
 ·exact ZC (fun w1 hw h=>hd w1 hw) fun z=>K0.runC Zk (stop:=1000) 6000 _ <| ZX Zf Zs
 refine ZC (fun w1 hw h=>hd w1 hw) fun z=>ZI false <| ZI true <| ZB 2 (Kj 77 (Kf 6 g) 4) (Zq g (4*4)) (fun w1 hw h=>Kq (elem:=40) Zk Zk Zd) <| ZB 3 (L5 40 ⟨g,4*4,none⟩) (t.e.val) (fun w1 hw h=>Mj (vs:=t.e.cl) Zk Zk (six_e (hg.below hw))) <| ZB 6 (Kj 77 (Kf 6 g') 4) (Zq g' (4*4)) (fun w1 hw h=>Kq (elem:=40) Zk Zk Zd) <| ZB 7 (L5 40 ⟨g',4*4,none⟩) (u.e.val) (fun w1 hw h=>Mj (vs:=u.e.cl) Zk Zk (six_e (hg'.below hw))) ?_
 cases Be
 ·exact ZC (fun w1 hw h=>he w1 hw) fun z=>K0.runC Zk (stop:=1000) 6000 _ <| ZX Zf Zs
 refine ZC (fun w1 hw h=>he w1 hw) fun z=>ZI false <| ZI true <| ZB 2 (Kj 77 (Kf 6 g) 5) (Zq g (5*4)) (fun w1 hw h=>Kq (elem:=40) Zk Zk Zd) <| ZB 3 (L5 40 ⟨g,5*4,none⟩) (t.f.val) (fun w1 hw h=>Mj (vs:=t.f.cl) Zk Zk (six_f (hg.below hw))) <| ZB 6 (Kj 77 (Kf 6 g') 5) (Zq g' (5*4)) (fun w1 hw h=>Kq (elem:=40) Zk Zk Zd) <| ZB 7 (L5 40 ⟨g',5*4,none⟩) (u.f.val) (fun w1 hw h=>Mj (vs:=u.f.cl) Zk Zk (six_f (hg'.below hw))) ?_
 cases Bf
 ·exact ZC (fun w1 hw h=>hf w1 hw) fun z=>K0.runC Zk (stop:=1000) 6000 _ <| ZX Zf Zs
 exact ZC (fun w1 hw h=>hf w1 hw) fun z=>ZI false <| ZI false <| ZX Zt Zs
theorem fields_m{Ba Bb Bc Bd Be Bf:Bool}(ha:Uf t.a u.a Ba w)(hb:Uf t.b u.b Bb w)(hc:Uf t.c u.c Bc w)(hd:Uf t.d u.d Bd w)(he:Uf t.e u.e Be w)(hf:Uf t.f u.f Bf w):
 Zv 83 #[t.val,u.val] w (.bool (Ba&&(Bb&&(Bc&&(Bd&&(Be&&Bf)))))):=by
 exact K0.enter Tryz.func83 rfl <| ZR <| ZC (fun w1 hw h=>coef_m (t:=t)) fun g=>ZC (fun w1 hw h=>coef_m (t:=u)) fun g'=>ZC (fun w1 hw h=>sameAll6_m h.1.2 h.2 (ha.below hw) (hb.below hw) (hc.below hw) (hd.below hw) (he.below hw) (hf.below hw)) fun v=>ZW (.bool (Ba&&(Bb&&(Bc&&(Bd&&(Be&&Bf))))))
def eqA(T U:Y0):Bool:=decide (T.a=U.a)&&(decide (T.b=U.b)&&(decide (T.c=U.c)&&(decide (T.d=U.d)&&(decide (T.e=U.e)&&decide (T.f=U.f)))))
theorem eqA_rfl:eqA T T=true:=by simp[eqA]
theorem eqA_eq(h:eqA T U=true):T=U:=by
 simp only[eqA,Bool.and_eq_true,decide_eq_true_eq]at h
 obtain⟨h1,h2,h3,h4,h5,h6⟩:=h
 cases T;cases U
 simp only at h1 h2 h3 h4 h5 h6
 subst h1;subst h2;subst h3;subst h4;subst h5;subst h6
 rfl
theorem fieldsN_m{B:Bool}(hB:eqA T U=B)(h1:IsAN t T K1 w)(h2:IsAN u U K2 w):Zv 83 #[t.val,u.val] w (.bool B):=by
 subst hB
 exact fields_m (Cd h1.a h2.a) (Cd h1.b h2.b) (Cd h1.c h2.c) (Cd h1.d h2.d) (Cd h1.e h2.e) (Cd h1.f h2.f)
def bd(z:Int):Prop:= -9223372036854775808≤z∧z≤9223372036854775807
end
section
variable{w:World}{t u:TV}{T U:Y0}{K K1 K2:Nat}{r s r2 s2:RV}{p q p2 q2:Rat}{X Y:Int}
theorem rvalidA_m(ht:Ag t T K w)(hK:2≤K∧K≤10000000):
 Zv 121 #[t.val] w (.bool T.ok):=by
 have bad:∀n∈T5 T,((n:Int)>256)→T.ok=false:=fun n hn h=>by
  unfold Y0.ok
  rw[List.all_eq_false]
  exact⟨n,hn,by simp;omega⟩
 refine K0.enter Tryz.func121 rfl <| ZR <| ZC (fun w1 hw h=>coef_m (t:=t)) fun g=>K0.un Zk <| ZR <| ZI true <| ZA (Kj 77 (Kf 6 g) 0) (Zq g (0*4)) (fun w1 hw h=>Kq (elem:=40) Zk Zk Zd) <| ZA (L5 40 ⟨g,0*4,none⟩) (t.a.val) (fun w1 hw h=>Mj (vs:=t.a.cl) Zk Zk (six_a h.2)) <| ZC (fun w1 hw h=>Td (ht.a.below hw) Zo) fun u=>K0.both (decide (((bitsQ T.a:Nat):Int)>256)) Zk (fun hc=> ?_) (fun hc=> ?_)
 ·exact K0.runC Zk (stop:=1000) 6000 _ <| ZX Zf (by rw[bad (bitsQ T.a) (by simp[T5]) (of_decide_eq_true hc)])
 have hba:=of_decide_eq_false hc
 clear hc
 refine ZR <| ZI true <| ZA (Kj 77 (Kf 6 g) 1) (Zq g (1*4)) (fun w1 hw h=>Kq (elem:=40) Zk Zk Zd) <| ZA (L5 40 ⟨g,1*4,none⟩) (t.b.val) (fun w1 hw h=>Mj (vs:=t.b.cl) Zk Zk (six_b h.1.2)) <| ZC (fun w1 hw h=>Td (ht.b.below hw) Zo) fun u=>K0.both (decide (((bitsQ T.b:Nat):Int)>256)) Zk (fun hc=> ?_) (fun hc=> ?_)
 ·exact K0.runC Zk (stop:=1000) 6000 _ <| ZX Zf (by rw[bad (bitsQ T.b) (by simp[T5]) (of_decide_eq_true hc)])
 have hbb:=of_decide_eq_false hc
 clear hc
 refine ZR <| ZI true <| ZA (Kj 77 (Kf 6 g) 2) (Zq g (2*4)) (fun w1 hw h=>Kq (elem:=40) Zk Zk Zd) <| ZA (L5 40 ⟨g,2*4,none⟩) (t.c.val) (fun w1 hw h=>Mj (vs:=t.c.cl) Zk Zk (six_c h.1.1.2)) <| ZC (fun w1 hw h=>Td (ht.c.below hw) Zo) fun u=>K0.both (decide (((bitsQ T.c:Nat):Int)>256)) Zk (fun hc=> ?_) (fun hc=> ?_)
 ·exact K0.runC Zk (stop:=1000) 6000 _ <| ZX Zf (by rw[bad (bitsQ T.c) (by simp[T5]) (of_decide_eq_true hc)])
 have hbc:=of_decide_eq_false hc
 clear hc
 refine ZR <| ZI true <| ZA (Kj 77 (Kf 6 g) 3) (Zq g (3*4)) (fun w1 hw h=>Kq (elem:=40) Zk Zk Zd) <| ZA (L5 40 ⟨g,3*4,none⟩) (t.d.val) (fun w1 hw h=>Mj (vs:=t.d.cl) Zk Zk (six_d h.1.1.1.2)) <| ZC (fun w1 hw h=>Td (ht.d.below hw) Zo) fun u=>K0.both (decide (((bitsQ T.d:Nat):Int)>256)) Zk (fun hc=> ?_) (fun hc=> ?_)
 ·exact K0.runC Zk (stop:=1000) 6000 _ <| ZX Zf (by rw[bad (bitsQ T.d) (by simp[T5]) (of_decide_eq_true hc)])
 have hbd:=of_decide_eq_false hc
 clear hc
 refine ZR <| ZI true <| ZA (Kj 77 (Kf 6 g) 4) (Zq g (4*4)) (fun w1 hw h=>Kq (elem:=40) Zk Zk Zd) <| ZA (L5 40 ⟨g,4*4,none⟩) (t.e.val) (fun w1 hw h=>Mj (vs:=t.e.cl) Zk Zk (six_e h.1.1.1.1.2)) <| ZC (fun w1 hw h=>Td (ht.e.below hw) Zo) fun u=>K0.both (decide (((bitsQ T.e:Nat):Int)>256)) Zk (fun hc=> ?_) (fun hc=> ?_)
 ·exact K0.runC Zk (stop:=1000) 6000 _ <| ZX Zf (by rw[bad (bitsQ T.e) (by simp[T5]) (of_decide_eq_true hc)])
 have hbe:=of_decide_eq_false hc
 clear hc
 refine ZR <| ZI true <| ZA (Kj 77 (Kf 6 g) 5) (Zq g (5*4)) (fun w1 hw h=>Kq (elem:=40) Zk Zk Zd) <| ZA (L5 40 ⟨g,5*4,none⟩) (t.f.val) (fun w1 hw h=>Mj (vs:=t.f.cl) Zk Zk (six_f h.1.1.1.1.1.2)) <| ZC (fun w1 hw h=>Td (ht.f.below hw) Zo) fun u=>K0.both (decide (((bitsQ T.f:Nat):Int)>256)) Zk (fun hc=> ?_) (fun hc=> ?_)
 ·exact K0.runC Zk (stop:=1000) 6000 _ <| ZX Zf (by rw[bad (bitsQ T.f) (by simp[T5]) (of_decide_eq_true hc)])
 have hbf:=of_decide_eq_false hc
 clear hc
 refine ZR <| ZI false ?_
 have hall:T.ok=true:=by unfold Y0.ok T5;simp only[List.all_cons,List.all_nil,Bool.and_true,Bool.and_eq_true,decide_eq_true_eq];exact⟨by omega,by omega,by omega,by omega,by omega,by omega⟩
 exact ZX Zt (by rw[hall])
theorem Gm{B:Bool}(hB:T.ok=B)(ht:Ag t T K w)(hK:2≤K∧K≤10000000):Zv 121 #[t.val] w (.bool B):=by subst hB;exact rvalidA_m ht hK
end
theorem Qr{p q:Rat}{B:Bool}(h:decide (p=q)=B):(Sw p q !=0)= !B:=by
 rw[←h]
 unfold Sw
 by_cases h1:p<q
 ·rw[if_pos h1,decide_eq_false (fun k=>by rw[k]at h1;exact absurd h1 (Rat.lt_irrefl))];rfl
 ·rw[if_neg h1]
  by_cases h2:p=q
  ·rw[if_pos h2,decide_eq_true h2];rfl
  ·rw[if_neg h2,decide_eq_false h2];rfl
section
variable{w wa:World}{t u:TV}{T U:Y0}{K K1 K2:Nat}{r s:RV}{p q:Rat}{X Y:Int}{L:List Nat}{ty:TypeId}
theorem equalA_m(ht:Ag t T K w)(hu:Ag u U K w)(hK:2≤K∧K≤10000000):Zv 96 #[t.val,u.val] w (.bool (eqA T U)):=by
 refine K0.enter Tryz.func96 rfl <| ZR <| ZC (fun w1 hw h=>Gu (ht.below hw) hK) fun n=>ZC (fun w1 hw h=>Gu (hu.below hw) hK) fun m=>K0.un Zk <| ZR <| K0.drop 8 Zk fun _=>ZI true <| ZC (fun w1 hw h=>Bj h.1.2.a.q h.2.a.q Zo) fun v=> ?_
 cases hea:decide (T.a=U.a)
 ·exact ZJ (Sw T.a U.a !=0) true (by rw[Qr hea];rfl) <| ZX Zf (by unfold eqA;rw[hea];simp)
 refine ZJ (Sw T.a U.a !=0) false (by rw[Qr hea];rfl) <| K0.drop 8 Zk fun _=>ZI true <| ZC (fun w1 hw h=>Bj h.1.1.2.b.q h.1.2.b.q Zo) fun v=> ?_
 cases heb:decide (T.b=U.b)
 ·exact ZJ (Sw T.b U.b !=0) true (by rw[Qr heb];rfl) <| ZX Zf (by unfold eqA;rw[heb];simp)
 refine ZJ (Sw T.b U.b !=0) false (by rw[Qr heb];rfl) <| K0.drop 8 Zk fun _=>ZI true <| ZC (fun w1 hw h=>Bj h.1.1.1.2.c.q h.1.1.2.c.q Zo) fun v=> ?_
 cases hec:decide (T.c=U.c)
 ·exact ZJ (Sw T.c U.c !=0) true (by rw[Qr hec];rfl) <| ZX Zf (by unfold eqA;rw[hec];simp)
 refine ZJ (Sw T.c U.c !=0) false (by rw[Qr hec];rfl) <| K0.drop 8 Zk fun _=>ZI true <| ZC (fun w1 hw h=>Bj h.1.1.1.1.2.d.q h.1.1.1.2.d.q Zo) fun v=> ?_
 cases hed:decide (T.d=U.d)
 ·exact ZJ (Sw T.d U.d !=0) true (by rw[Qr hed];rfl) <| ZX Zf (by unfold eqA;rw[hed];simp)
 refine ZJ (Sw T.d U.d !=0) false (by rw[Qr hed];rfl) <| K0.drop 8 Zk fun _=>ZI true <| ZC (fun w1 hw h=>Bj h.1.1.1.1.1.2.e.q h.1.1.1.1.2.e.q Zo) fun v=> ?_
 cases hee:decide (T.e=U.e)
 ·exact ZJ (Sw T.e U.e !=0) true (by rw[Qr hee];rfl) <| ZX Zf (by unfold eqA;rw[hee];simp)
 refine ZJ (Sw T.e U.e !=0) false (by rw[Qr hee];rfl) <| K0.drop 8 Zk fun _=>ZI true <| ZC (fun w1 hw h=>Bj h.1.1.1.1.1.1.2.f.q h.1.1.1.1.1.2.f.q Zo) fun v=> ?_
 cases hef:decide (T.f=U.f)
 ·exact ZJ (Sw T.f U.f !=0) true (by rw[Qr hef];rfl) <| ZX Zf (by unfold eqA;rw[hef];simp)
 exact ZJ (Sw T.f U.f !=0) false (by rw[Qr hef];rfl) <| ZI false <| ZX Zt (by unfold eqA;rw[hea,heb,hec,hed,hee,hef];rfl)
theorem rnormA_m(ht:Ag t T K w)(hK:2≤K∧K≤10000000):Calls Tryz.prog 84 #[t.val] w (K7 w TV.val fun v w=>IsAN v T K w):=by
 refine K0.enter Tryz.func84 rfl <| ZR <| ZC (fun w1 hw h=>Lv (ht.a.below hw) Zo) fun a=>ZC (fun w1 hw h=>Lv (ht.b.below hw) Zo) fun b=>ZC (fun w1 hw h=>Lv (ht.c.below hw) Zo) fun c=>ZC (fun w1 hw h=>Lv (ht.d.below hw) Zo) fun d=>ZC (fun w1 hw h=>Lv (ht.e.below hw) Zo) fun e=>ZC (fun w1 hw h=>Lv (ht.f.below hw) Zo) fun f=>ZV (TV.val ⟨a,b,c,d,e,f⟩) (fun w1 hw h=>⟨⟨a,b,c,d,e,f⟩,rfl,hw,fun w'' k1 k2=>⟨(h w'' k1 k2).1.1.1.1.1.2,(h w'' k1 k2).1.1.1.1.2,(h w'' k1 k2).1.1.1.2,(h w'' k1 k2).1.1.2,(h w'' k1 k2).1.2,(h w'' k1 k2).2⟩⟩)
theorem requalA_m(ht:Ag t T K w)(hu:Ag u U K w)(hK:2≤K∧K≤10000000):Zv 47 #[t.val,u.val] w (.bool (eqA T U)):=by
 exact K0.enter Tryz.func47 rfl <| ZR <| ZC (fun w1 hw h=>rnormA_m (ht.below hw) hK) fun n=>ZC (fun w1 hw h=>rnormA_m (hu.below hw) hK) fun m=>ZC (fun w1 hw h=>fieldsN_m rfl h.1.2 h.2) fun v=>ZW (.bool (eqA T U))
theorem rdetA_m(ht:Ag t T K w)(hK:2≤K∧K≤10000000):Calls Tryz.prog 123 #[t.val] w (K7 w RV.val fun v w=>Nr v T.det (4*K+1) w):=by
 refine K0.enter Tryz.func123 rfl <| ZR <| ZC (fun w1 hw h=>rqmul_m (ht.a.below hw) (ht.d.below hw) Zo) fun m=>ZC (fun w1 hw h=>rqmul_m (ht.b.below hw) (ht.c.below hw) Zo) fun n=>ZC (fun w1 hw h=>rqsub_m h.1.2.q h.2.q Zo) fun v=>ZV (RV.val v) (fun w1 hw h=>⟨v,rfl,hw,fun w'' k1 k2=>(h w'' k1 k2).2.mono Zo⟩)
end
section
variable{w:World}{t u:TV}{T U:Y0}{K K1 K2:Nat}{r s:RV}{X Y:Int}
theorem Gp{B:Bool}(hB:eqA T U=B)(ht:Ag t T K w)(hu:Ag u U K w)(hK:2≤K∧K≤10000000):Zv 47 #[t.val,u.val] w (.bool B):=by subst hB;exact requalA_m ht hu hK
end
end Go.Proofs.YtoeiphicmcndlaaGreatDoor
