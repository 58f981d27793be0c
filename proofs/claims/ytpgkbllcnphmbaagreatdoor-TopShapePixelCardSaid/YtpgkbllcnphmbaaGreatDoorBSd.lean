/-
 A part of the proof.
-/
import Derived.Test.YtpgkbllcnphmbaaGreatDoorBMo
import Derived.Shelf.Spec.SlicesGrow
namespace Go.Proofs.YtpgkbllcnphmbaaGreatDoor
set_option maxRecDepth 100000
set_option maxHeartbeats 8000000
set_option linter.unusedVariables false
set_option linter.unusedSimpArgs false
open Go.RowKit
structure MV where
 x0:Int
 y0:Int
 x1:Int
 y1:Int
 A:Option Addr
 n:Nat
 c:Nat
abbrev Bb(m:MV):List Value:=[.int .i64 m.x0,.int .i64 m.y0,.int .i64 m.x1,.int .i64 m.y1,.slice m.A m.n m.c]
abbrev Lr(m:MV):Value:= .agg #[.int .i64 m.x0,.int .i64 m.y0,.int .i64 m.x1,.int .i64 m.y1,.slice m.A m.n m.c]
abbrev X5:MV:=⟨0,0,0,0,none,0,0⟩
abbrev Mn(x y:Int)(z:Option Addr×Nat):MV:=⟨x,y,x+1,y+1,z.1,1,z.2⟩
theorem Jd(m:MV):(Bb m).length=5:=rfl
def Ar(k:Nat):List Value:=[.int .u8 (k:Int)]
theorem Jw:∀k,(Ar k).length=1:=fun _=>rfl
inductive G9(u:World)(x y:Int)(k:Nat):MV→Prop
 |nil (h:k=0):G9 u x y k X5
 |one (z:Option Addr×Nat) (h:Kq u z.1 1 1 Ar [k]):G9 u x y k (Mn x y z)
inductive Cn(N:Nat)(x y:Int)(k:Nat)(m:MV)(u:World):Prop
 |nil (h:k=0) (e:m=X5)
 |one (z:Option Addr×Nat) (h:K6 u N 5 1 z.1 1 z.2 (Ar k)) (e:m=Mn x y z)
section
variable{w u:World}{x y:Int}{m m1 m2:MV}{k k1 k2 N g gl n c:Nat}{z:Option Addr×Nat}{A:Option Addr}{L:List MV}
theorem G9.below{w1:World}(h:G9 w x y k m)(hw:Below w.heap.size w w1):G9 w1 x y k m:=by
 cases h with
 |nil h=>exact .nil h
 |one z h=>exact .one z (h.below hw)
theorem Cn.a(h:Cn N x y k m u):G9 u x y k m:=by
 rcases h with ⟨h,rfl⟩|⟨z,h,rfl⟩
 ·exact .nil h
 ·exact .one z ((K6.reads h).rows (cl:=Ar) (l:=[k]) Jw rfl)
theorem Cn.mono(h:Cn N x y k m u){B:Nat}(hB:B≤N):Cn B x y k m u:=by
 rcases h with ⟨h,e⟩|⟨z,h,e⟩
 ·exact .nil h e
 ·exact .one z (K6.rebase h fun b hb=>Nat.le_trans hB (K6.lt h b hb).1) e
theorem Eg:(x+1-x)*(y+1-y)=1:=by rw[show x+1-x=1 by omega,show y+1-y=1 by omega];rfl
theorem V9(hr:Qk x y (x+1) (y+1))(hm:G9 w x y k m):Calls Tryz.prog 212 #[Lr m] w (K3 w (fun _:Unit=> .bool true) fun _ _=>True):=by
 refine K0.enter Tryz.func212 rfl ?_
 refine ZR ?_
 cases hm with
 |nil h=>
  refine ZC (fun w1 hw h=>rarea_0) fun a=> ?_
  refine ZD 5 (fun w1 hw h=>Pf) fun c=> ?_
  refine ZB 5 (Xs 74 (.tmp 9) (.tmp 11) (Mv 0 0 0 0) (Mv 0 0 0 0)) (.bool true) (fun w1 hw h=>Gq) ?_
  exact ZW (.bool true)
 |one z h=>
  refine ZC (fun w1 hw h=>Rv hr Eg Zd) fun a=> ?_
  refine ZD 5 (fun w1 hw h=>Nk hr) fun c=> ?_
  refine ZB 5 (Xs 74 (.tmp 9) (.tmp 11) (Mv x y (x+1) (y+1)) (Mv x y (x+1) (y+1))) (.bool true) (fun w1 hw h=>Gq) ?_
  exact ZW (.bool true)
theorem mat_m(hr:Qk x y (x+1) (y+1))(ha:G9 w x y k m):Calls Tryz.prog 277 #[Lr m,.int .i64 x,.int .i64 y] w (K3 w (fun _:Unit=> .int .u8 k) fun _ _=>True):=by
 refine K0.enter Tryz.func277 rfl ?_
 refine ZR ?_
 cases ha with
 |nil h0=>
  subst h0
  refine ZC (fun w1 hw h=>rpix_0 (x:=x) (y:=y)) fun i=> ?_
  refine ZI true ?_
  exact ZW (.int .u8 0)
 |one z ha=>
  obtain⟨ad,hA,hc⟩:=ha.2 0 k rfl
  refine ZC (fun w1 hw h=>B1 hr) fun i=> ?_
  refine ZI false ?_
  refine ZA (Kc 223 (.slice z.1 1 z.2) (0:Nat)) (.pointer (some (ad.add (0*1)))) (fun w1 hw h=>by rw[hA];exact Lg (elem:=5) Zk Zk Zd) ?_
  refine ZA (Kd 5 (ad.add (0*1))) (.int .u8 k) (fun w1 hw h=>Kg Zk (Kt hw (by have:=hc 0 _ rfl;rw[T6]at this;exact this))) ?_
  exact ZW (.int .u8 k)
theorem mlevel_m(hr:Qk x y (x+1) (y+1))(ha:G9 w x y k m):Calls Tryz.prog 215 #[Lr m,.int .i64 x,.int .i64 y] w (K3 w (fun _:Unit=> .int .u8 k) fun _ _=>True):=by
 refine K0.enter Tryz.func215 rfl ?_
 refine ZR ?_
 cases ha with
 |nil h0=>
  subst h0
  refine ZC (fun w1 hw h=>rpix_0 (x:=x) (y:=y)) fun i=> ?_
  refine ZI true ?_
  exact ZW (.int .u8 0)
 |one z ha=>
  obtain⟨ad,hA,hc⟩:=ha.2 0 k rfl
  refine ZC (fun w1 hw h=>B1 hr) fun i=> ?_
  refine ZI false ?_
  refine ZA (Kc 223 (.slice z.1 1 z.2) (0:Nat)) (.pointer (some (ad.add (0*1)))) (fun w1 hw h=>by rw[hA];exact Lg (elem:=5) Zk Zk Zd) ?_
  refine ZA (Kd 5 (ad.add (0*1))) (.int .u8 k) (fun w1 hw h=>Kg Zk (Kt hw (by have:=hc 0 _ rfl;rw[T6]at this;exact this))) ?_
  exact ZW (.int .u8 k)
theorem un1_m{x y:Value}(hb:K8 w g [.int .u8 (k:Int)]):Calls Tryz.prog 284 #[x,y,Ku g] w (K3 w (fun _:Unit=> .int .u8 k) fun _ _=>True):=by
 refine K0.enter Tryz.func284 rfl ?_
 refine ZR ?_
 refine ZA (Kd 5 ⟨g,0,none⟩) (.int .u8 k) (fun w1 hw h=>Kg Zk (by have:=(hb.below hw).range 0 _ rfl;simpa using this)) ?_
 exact ZW (.int .u8 k)
theorem Od{i:Nat}{ad:Addr}(hA:A=some ad)(hi:i<n):(Kc 411 (.slice A n c) i).run Tryz.prog w= .ok (.value (.pointer (some (ad.add (i*5))))) w:=by
 rw[hA];exact Lg (elem:=225) Zk Zk hi
theorem Qc{ad:Addr}(h:∀(j:Nat) (v:Value),(Bb m)[j]? =some v→w.cell? (ad.add j)=some v):(Kd 225 ad).run Tryz.prog w= .ok (.value (Lr m)) w:=
 N7 (vs:=Bb m) Zk Zk h
theorem mall1_m(hr:Qk x y (x+1) (y+1))(hm:G9 w x y k m):Calls Tryz.prog 322 #[Lr m] w (K3 w (fun _:Unit=> .bool false) fun _ _=>True):=by
 refine K0.enter Tryz.func322 rfl ?_
 refine ZR ?_
 refine ZC (fun w1 hw h=>V9 hr (hm.below hw)) fun v=> ?_
 exact ZW (.bool false)
theorem mindex_m(hr:Qk x y (x+1) (y+1))(hl:Kq w A n 5 Bb L)(hn:n≤1000000)(ha:∀m∈L,∃k,G9 w x y k m):Calls Tryz.prog 359 #[.slice A n c,.func (.func 322) #[] #[]] w (K3 w (fun _:Unit=> .int .i64 (-1)) fun _ _=>True):=by
 refine K0.enter Tryz.func359 rfl ?_
 refine ZR ?_
 refine K0.loop (ι:={q:Nat // q≤n}) 19 (fun q=>⟨[(0,.v (.slice A n c)),(1,.v (.func (.func 322) #[] #[])),(7,.v (.int .i64 n)),(8,.v (.int .i64 q.1))],[]⟩) (fun q u=>True) (fun q=>n-q.1) (⟨0,Nat.zero_le _⟩) Zk (fun _=>by kernel_rfl) ⟨Zk,Zk,Zk⟩ (fun u h=>trivial) ?_
 rintro⟨i,hi⟩ gg
 by_cases hlt:i<n
 case neg=>
  obtain rfl:i=n:=by omega
  refine ZR ?_
  refine ZJ (decide ((i:Int)<(i:Int))) false (decide_eq_false Zo) ?_
  refine K0.leave Zk ?_
  refine ZR ?_
  exact ZW (.int .i64 (-1))
 obtain⟨m,hx⟩:∃v,L[i]? =some v:=⟨_,List.getElem?_eq_getElem (by rw[hl.1];exact hlt)⟩
 obtain⟨ad,hA,hc⟩:=hl.2 i m hx
 obtain⟨k,hm⟩:=ha m (List.mem_of_getElem? hx)
 refine ZR ?_
 refine ZJ (decide ((i:Int)<(n:Int))) true (decide_eq_true Zo) ?_
 refine ZA (Kc 411 (.slice A n c) i) (.pointer (some (ad.add (i*5)))) (fun w1 hw h=>Od hA hlt) ?_
 refine ZA (Kd 225 (ad.add (i*5))) (Lr m) (fun w1 hw h=>Qc fun j v hj=>Kt hw (hc j v hj)) ?_
 refine ZC (fun w1 hw h=>mall1_m hr (hm.below hw)) fun u=> ?_
 refine ZI false ?_
 refine K0.slot 8 (.int .i64 (IntKind.i64.wrap ((i:Int)+1))) (.int .i64 ((i+1:Nat):Int)) Zk (by rw[K7 hlt Zo]) ?_
 refine K0.next (⟨i+1,hlt⟩) Zk (by show n- (i+1)<n-i;omega) ⟨Zk,Zk,Zk⟩ (fun u h=>trivial)
theorem mall_m(hr:Qk x y (x+1) (y+1))(hl:Kq w A n 5 Bb L)(hn:n≤1000000)(ha:∀m∈L,∃k,G9 w x y k m):Calls Tryz.prog 274 #[.slice A n c] w (K3 w (fun _:Unit=> .bool true) fun _ _=>True):=by
 have hct:∀w1,Below w.heap.size w w1→Calls Tryz.prog 321 #[.slice A n c,.func (.func 322) #[] #[]] w1 (K3 w1 (fun _:Unit=> .bool false) fun _ _=>True):=fun w1 hw1=>by
  refine K0.enter Tryz.func321 rfl ?_
  refine ZR ?_
  refine ZC (fun w1 hw h=>mindex_m (c:=c) hr ((hl.below hw1).below hw) hn (fun m hm=>by obtain⟨k,hk⟩:=ha m hm;exact⟨k,(hk.below hw1).below hw⟩)) fun u=> ?_
  exact ZW (.bool false)
 refine K0.enter Tryz.func274 rfl ?_
 refine ZR ?_
 refine ZC (fun w1 hw h=>hct w1 hw) fun u=> ?_
 exact ZW (.bool true)
theorem mu1_m(hr:Qk x y (x+1) (y+1))(hb:K8 w g [.slice (some ⟨gl,0,none⟩) 2 2])(hl:Kq w (some ⟨gl,0,none⟩) 2 5 Bb [m1,m2])(h1:G9 w x y k1 m1)(h2:G9 w x y k2 m2)(hk1:k1≤255)(hk2:k2≤255):
 Calls Tryz.prog 327 #[.int .i64 x,.int .i64 y,Ku g] w (K3 w (fun _:Unit=> .int .u8 (mulB k1 k2:Nat)) fun _ _=>True):=by
 obtain⟨a1,e1,c1⟩:=hl.2 0 m1 rfl
 obtain⟨a2,e2,c2⟩:=hl.2 1 m2 rfl
 injection e1 with e1;subst e1
 injection e2 with e2;subst e2
 refine K0.enter Tryz.func327 rfl ?_
 refine ZR ?_
 refine ZA (Kd 411 ⟨g,0,none⟩) (.slice (some ⟨gl,0,none⟩) 2 2) (fun w1 hw h=>(hb.below hw).load1 Zk) ?_
 refine ZA (Kc 411 (.slice (some ⟨gl,0,none⟩) 2 2) (0:Nat)) (.pointer (some ((⟨gl,0,none⟩:Addr).add (0*5)))) (fun w1 hw h=>Od rfl Zd) ?_
 refine ZA (Kd 225 ((⟨gl,0,none⟩:Addr).add (0*5))) (Lr m1) (fun w1 hw h=>Qc fun j v hj=>Kt hw (c1 j v hj)) ?_
 refine ZC (fun w1 hw h=>mat_m hr (h1.below hw)) fun v1=> ?_
 refine K0.ask (Kd 411 ⟨g,0,none⟩) (.slice (some ⟨gl,0,none⟩) 2 2) Zk (fun w1 hw h=>(hb.below hw).load1 Zk) ?_
 refine ZS 1 ?_
 refine ZA (slL 411 (.slice (some ⟨gl,0,none⟩) 2 2) (1:Nat)) (.slice (some ⟨gl,1*5,none⟩) 1 1) (fun w1 hw h=>E5 (e:=225) Zk Zk Zk Zd Zd) ?_
 refine K0.un Zk ?_
 refine ZR ?_
 refine ZI true ?_
 refine ZA (Kc 411 (.slice (some ⟨gl,1*5,none⟩) 1 1) (0:Nat)) (.pointer (some ((⟨gl,1*5,none⟩:Addr).add (0*5)))) (fun w1 hw h=>Od rfl Zd) ?_
 refine ZA (Kd 225 ((⟨gl,1*5,none⟩:Addr).add (0*5))) (Lr m2) (fun w1 hw h=>Qc fun j v hj=>Kt hw (by have:=c2 j v hj;rw[Addr.add_mid,Addr.add_mid]at this;rw[Addr.add_mid,Addr.add_mid];exact this)) ?_
 refine ZC (fun w1 hw h=>mat_m hr (h2.below hw)) fun v2=> ?_
 refine ZC (fun w1 hw h=>Vc hk1 hk2) fun v3=> ?_
 refine ZI false ?_
 exact ZW (.int .u8 (mulB k1 k2:Nat))
theorem mut_make{P:Program}{X:Type}{val:X→Value}{G:X→World→Prop}{s:Sem Next}(h:Nf P w [] val G s):Lp P w val G s:=by
 obtain⟨x,w',h1,h2,h3⟩:=h
 exact⟨x,w',h1,⟨h2.os,h2.tape,h2.output,h2.size,fun b hb=>h2.block b hb Zs⟩,fun w'' k1 k2=>h3 w'' k1 fun b hb=>by
  rcases hb with hb|hb
  ·cases hb
  ·exact k2 b hb.1 hb.2⟩
theorem Ue{P:Program}{t e:TypeId}{s bytes B gb:Nat}{z0:Value}{cs:List Value}(hu:P.underlying t=some (.slice e))(hi:S5 P e=some (z0,s,bytes))(hzs:z0.cells.size=s)(hs:0<s)(hl:cs.length=s)(h1:∀v∈cs,v.oneCell'=true)(hb:bytes≤10000)(hg:Kv e cs.toArray gb w)(hB:B≤w.heap.size):
 Lp P w (fun z:Option Addr×Nat=> .slice z.1 1 z.2) (fun z u=>K6 u B e s z.1 1 z.2 cs) (Nc t t (.slice none 0 0) (Km 1 gb)):=by
 have:=M9 (P:=P) (A:=none) (n:=0) (c:=0) (m:=1) (cc:=1) (xs:=[]) hu hi hzs hs K6.nil_ hB (M8 (n:=1) hg (by simpa using hl)) (by simpa using h1) Zd hb
 refine mut_make ?_
 rw[List.nil_append,List.toList_toArray]at this
 exact this
theorem made_un(hr:Qk x y (x+1) (y+1))(hf:∀w1,Below w.heap.size w w1→Calls Tryz.prog 284 #[.int .i64 x,.int .i64 y,Ku g] w1 (K3 w1 (fun _:Unit=> .int .u8 k) fun _ _=>True))(hN:N≤w.heap.size):
 Calls Tryz.prog 275 #[Mv x y (x+1) (y+1),.func (.func 284) #[] #[Ku g]] w (K3 w (fun z:Option Addr×Nat=>Lr (Mn x y z)) fun z u=>K6 u N 5 1 z.1 1 z.2 (Ar k)):=by
 have hr2:=hr
 unfold Qk at hr2
 refine K0.enter Tryz.func275 rfl ?_
 refine ZR ?_
 refine ZC (fun w1 hw h=>Nk hr) fun c=> ?_
 refine K0.un Zk ?_
 refine ZR ?_
 refine ZJ (decide (y<y+1)) true (decide_eq_true Zo) ?_
 refine K0.un Zk ?_
 refine ZR ?_
 refine ZJ (decide (x<x+1)) true (decide_eq_true Zo) ?_
 refine ZD 7 (fun w1 hw h=>hf w1 hw) fun v=> ?_
 refine K0.make (M5 (223) 1 #[(0,.int .u8 k)]) (Km 1) (Kv 5 (Ar k).toArray) Zk (fun w1 hw h=>Ke Zk) (fun gb=> ?_)
 refine ZS 7 ?_
 refine K0.make (Nc 223 223 (.slice none 0 0) (Km 1 gb)) (fun z:Option Addr×Nat=> .slice z.1 1 z.2) (fun z u=>K6 u w.heap.size 5 1 z.1 1 z.2 (Ar k)) Zk (fun w1 hw h=>Ue (z0:= .int .u8 0) (bytes:=1) Zk Zk rfl Zd rfl (by intro v hv;simp[Ar]at hv;subst hv;rfl) Zd h.2 hw.size) (fun z=> ?_)
 refine ZR ?_
 refine ZJ (decide (IntKind.i64.wrap (x+1)<x+1)) false (decide_eq_false (by rw[IntWalk.i64_in _ Zo];omega)) ?_
 refine ZJ (decide (IntKind.i64.wrap (y+1)<y+1)) false (decide_eq_false (by rw[IntWalk.i64_in _ Zo];omega)) ?_
 refine ZV (Lr (Mn x y z)) (fun w1 hw h=>⟨z,rfl,hw,fun u k1 k2=>(h u k1 k2).2.rebase fun b hb=>Nat.le_trans hN ((h u k1 k2).2.lt b hb).1⟩)
theorem made_mu(hr:Qk x y (x+1) (y+1))(hf:∀w1,Below w.heap.size w w1→Calls Tryz.prog 327 #[.int .i64 x,.int .i64 y,Ku g] w1 (K3 w1 (fun _:Unit=> .int .u8 k) fun _ _=>True))(hN:N≤w.heap.size):
 Calls Tryz.prog 275 #[Mv x y (x+1) (y+1),.func (.func 327) #[] #[Ku g]] w (K3 w (fun z:Option Addr×Nat=>Lr (Mn x y z)) fun z u=>K6 u N 5 1 z.1 1 z.2 (Ar k)):=by
 have hr2:=hr
 unfold Qk at hr2
 refine K0.enter Tryz.func275 rfl ?_
 refine ZR ?_
 refine ZC (fun w1 hw h=>Nk hr) fun c=> ?_
 refine K0.un Zk ?_
 refine ZR ?_
 refine ZJ (decide (y<y+1)) true (decide_eq_true Zo) ?_
 refine K0.un Zk ?_
 refine ZR ?_
 refine ZJ (decide (x<x+1)) true (decide_eq_true Zo) ?_
 refine ZD 7 (fun w1 hw h=>hf w1 hw) fun v=> ?_
 refine K0.make (M5 (223) 1 #[(0,.int .u8 k)]) (Km 1) (Kv 5 (Ar k).toArray) Zk (fun w1 hw h=>Ke Zk) (fun gb=> ?_)
 refine ZS 7 ?_
 refine K0.make (Nc 223 223 (.slice none 0 0) (Km 1 gb)) (fun z:Option Addr×Nat=> .slice z.1 1 z.2) (fun z u=>K6 u w.heap.size 5 1 z.1 1 z.2 (Ar k)) Zk (fun w1 hw h=>Ue (z0:= .int .u8 0) (bytes:=1) Zk Zk rfl Zd rfl (by intro v hv;simp[Ar]at hv;subst hv;rfl) Zd h.2 hw.size) (fun z=> ?_)
 refine ZR ?_
 refine ZJ (decide (IntKind.i64.wrap (x+1)<x+1)) false (decide_eq_false (by rw[IntWalk.i64_in _ Zo];omega)) ?_
 refine ZJ (decide (IntKind.i64.wrap (y+1)<y+1)) false (decide_eq_false (by rw[IntWalk.i64_in _ Zo];omega)) ?_
 refine ZV (Lr (Mn x y z)) (fun w1 hw h=>⟨z,rfl,hw,fun u k1 k2=>(h u k1 k2).2.rebase fun b hb=>Nat.le_trans hN ((h u k1 k2).2.lt b hb).1⟩)
theorem Ek:Calls Tryz.prog 275 #[Mv 0 0 0 0,.func (.func 327) #[] #[Ku g]] w (K3 w (fun _:Unit=>Lr X5) fun _ _=>True):=by
 refine K0.enter Tryz.func275 rfl ?_
 refine ZR ?_
 refine ZC (fun w1 hw h=>Pf) fun c=> ?_
 refine K0.un Zk ?_
 refine ZR ?_
 refine ZI false ?_
 exact ZW (Lr X5)
theorem Ge(hr:Qk x y (x+1) (y+1))(hN:N≤w.heap.size):Calls Tryz.prog 207 #[Mv x y (x+1) (y+1),.int .u8 k] w (K3 w (fun m:MV=> .tuple #[Lr m,.int .i64 0]) fun m u=>Cn N x y k m u):=by
 refine K0.enter Tryz.func207 rfl ?_
 refine ZR ?_
 refine ZC (fun w1 hw h=>R4 hr.in_) fun v=> ?_
 refine ZI false ?_
 refine ZC (fun w1 hw h=>Rv hr Eg Zd) fun a=> ?_
 refine ZI false ?_
 refine K0.call (val:=fun z:Option Addr×Nat=>Lr (Mn x y z)) (G:=fun z u=>K6 u w.heap.size 5 1 z.1 1 z.2 (Ar k)) (xs:=[.v (Mv x y (x+1) (y+1)),.f 284 [(3,0)]]) Zk (fun β w1 hw h hB=>made_un hr (fun w2 hw2=>un1_m (K8.below (Pc hB (k:=3) (by simp[AV.ids]) (cs:=[.v (.int .u8 (k:Int))]) Zk) hw2)) hw.size) (fun z=> ?_)
 refine ZR ?_
 refine ZV (.tuple #[Lr (Mn x y z),.int .i64 0]) (fun w1 hw h=>⟨Mn x y z,rfl,hw,fun u k1 k2=> .one z ((h u k1 k2).2.rebase fun b hb=>Nat.le_trans hN ((h u k1 k2).2.lt b hb).1) rfl⟩)
theorem mulB_0(k:Nat):mulB 0 k=0:=by unfold mulB drN;rw[Nat.zero_mul]
theorem mulB_r0(k:Nat):mulB k 0=0:=by unfold mulB drN;rw[Nat.mul_zero]
theorem mxI_self(a:Int):Fx a a=a:=by rw[Rh];omega
theorem mnI_self(a:Int):Ej a a=a:=by rw[Ri];omega
theorem Zi(hr:Qk x y (x+1) (y+1)):Calls Tryz.prog 40 #[Mv x y (x+1) (y+1),Mv x y (x+1) (y+1)] w (K3 w (fun _:Unit=>Mv x y (x+1) (y+1)) fun _ _=>True):=
 rinter_t hr hr (mxI_self _) (mxI_self _) (mnI_self _) (mnI_self _) hr
theorem multiply_m(hr:Qk x y (x+1) (y+1))(hl:Kv 225 ([m1,m2].flatMap Bb).toArray gl w)(h1:G9 w x y k1 m1)(h2:G9 w x y k2 m2)(hk1:k1≤255)(hk2:k2≤255)(hN:N≤w.heap.size):
 Calls Tryz.prog 285 #[Km 2 gl] w (K3 w (fun m:MV=> .tuple #[Lr m,.int .i64 0]) fun m u=>Cn N x y (mulB k1 k2) m u):=by
 have hrow:Kq w (some ⟨gl,0,none⟩) 2 5 Bb [m1,m2]:=Kq.lit (cl:=Bb) Jd hl
 have hall:∀m∈[m1,m2],∃k,G9 w x y k m:=by
  intro m hm
  rcases List.mem_cons.1 hm with rfl|hm
  ·exact⟨_,h1⟩
  ·obtain rfl:=List.mem_singleton.1 hm;exact⟨_,h2⟩
 obtain⟨a1,e1,c1⟩:=hrow.2 0 m1 rfl
 obtain⟨a2,e2,c2⟩:=hrow.2 1 m2 rfl
 injection e1 with e1;subst e1
 injection e2 with e2;subst e2
 have key:∀w1,Below w.heap.size w w1→Calls Tryz.prog 274 #[Km 2 gl] w1 (K3 w1 (fun _:Unit=> .bool true) fun _ _=>True):=fun w1 hw1=>
  mall_m hr (hrow.below hw1) Zd fun m hm=>by obtain⟨k,hk⟩:=hall m hm;exact⟨k,hk.below hw1⟩
 have bd:∀w1,Below w.heap.size w w1→(Kd 74 ((⟨gl,0,none⟩:Addr).add (0*5))).run Tryz.prog w1= .ok (.value (Mv m1.x0 m1.y0 m1.x1 m1.y1)) w1:=fun w1 hw1=>
  N7 (vs:=[.int .i64 m1.x0,.int .i64 m1.y0,.int .i64 m1.x1,.int .i64 m1.y1]) Zk Zk fun j v hj=>Kt hw1 (c1 j v (by
   rcases(by have:=(List.getElem?_eq_some_iff.1 hj).1;simp at this;omega:j=0∨j=1∨j=2∨j=3)with rfl|rfl|rfl|rfl<;>exact hj))
 refine K0.enter Tryz.func285 rfl ?_
 refine ZR ?_
 refine ZC (fun w1 hw h=>key w1 hw) fun a=> ?_
 refine ZI false ?_
 refine ZI false ?_
 refine ZA (Kc 411 (Km 2 gl) (0:Nat)) (.pointer (some ((⟨gl,0,none⟩:Addr).add (0*5)))) (fun w1 hw h=>Od rfl Zd) ?_
 rcases id h1 with ⟨q1⟩|⟨z1,r1⟩<;>rcases id h2 with ⟨q2⟩|⟨z2,r2⟩
 ·skip
  refine ZA (Kd 74 ((⟨gl,0,none⟩:Addr).add (0*5))) (Mv 0 0 0 0) (fun w1 hw h=>bd w1 hw) ?_
  refine K0.un Zk ?_
  refine ZR ?_
  refine ZI true ?_
  refine ZA (Kc 411 (Km 2 gl) (0:Nat)) (.pointer (some ((⟨gl,0,none⟩:Addr).add (0*5)))) (fun w1 hw h=>Od rfl Zd) ?_
  refine ZA (Kd 225 ((⟨gl,0,none⟩:Addr).add (0*5))) (Lr X5) (fun w1 hw h=>Qc fun j v hj=>Kt hw (c1 j v hj)) ?_
  refine ZC (fun w1 hw h=>B3) fun i1=> ?_
  refine K0.drop 6 Zk (fun _=> ?_)
  refine ZI true ?_
  refine ZA (Kc 411 (Km 2 gl) (1:Nat)) (.pointer (some ((⟨gl,0,none⟩:Addr).add (1*5)))) (fun w1 hw h=>Od rfl Zd) ?_
  refine ZA (Kd 225 ((⟨gl,0,none⟩:Addr).add (1*5))) (Lr X5) (fun w1 hw h=>Qc fun j v hj=>Kt hw (c2 j v hj)) ?_
  refine ZC (fun w1 hw h=>B3) fun i2=> ?_
  refine ZI false ?_
  refine K0.call (val:=fun _:Unit=>Lr X5) (G:=fun _ _=>True) (xs:=[.v (Mv 0 0 0 0),.f 327 [(1,0)]]) Zk (fun β w1 hw h hB=>Ek) (fun z=> ?_)
  refine ZR ?_
  refine ZV (.tuple #[Lr X5,.int .i64 0]) (fun w1 hw h=>⟨X5,rfl,hw,fun u k1 k2=> .nil (by rw[q1,mulB_0]) rfl⟩)
 ·skip
  refine ZA (Kd 74 ((⟨gl,0,none⟩:Addr).add (0*5))) (Mv 0 0 0 0) (fun w1 hw h=>bd w1 hw) ?_
  refine K0.un Zk ?_
  refine ZR ?_
  refine ZI true ?_
  refine ZA (Kc 411 (Km 2 gl) (0:Nat)) (.pointer (some ((⟨gl,0,none⟩:Addr).add (0*5)))) (fun w1 hw h=>Od rfl Zd) ?_
  refine ZA (Kd 225 ((⟨gl,0,none⟩:Addr).add (0*5))) (Lr X5) (fun w1 hw h=>Qc fun j v hj=>Kt hw (c1 j v hj)) ?_
  refine ZC (fun w1 hw h=>B3) fun i1=> ?_
  refine K0.drop 6 Zk (fun _=> ?_)
  refine ZI true ?_
  refine ZA (Kc 411 (Km 2 gl) (1:Nat)) (.pointer (some ((⟨gl,0,none⟩:Addr).add (1*5)))) (fun w1 hw h=>Od rfl Zd) ?_
  refine ZA (Kd 225 ((⟨gl,0,none⟩:Addr).add (1*5))) (Lr (Mn x y z2)) (fun w1 hw h=>Qc fun j v hj=>Kt hw (c2 j v hj)) ?_
  refine ZC (fun w1 hw h=>rinter_0 hr) fun i2=> ?_
  refine ZI false ?_
  refine K0.call (val:=fun _:Unit=>Lr X5) (G:=fun _ _=>True) (xs:=[.v (Mv 0 0 0 0),.f 327 [(1,0)]]) Zk (fun β w1 hw h hB=>Ek) (fun z=> ?_)
  refine ZR ?_
  refine ZV (.tuple #[Lr X5,.int .i64 0]) (fun w1 hw h=>⟨X5,rfl,hw,fun u k1 k2=> .nil (by rw[q1,mulB_0]) rfl⟩)
 ·skip
  refine ZA (Kd 74 ((⟨gl,0,none⟩:Addr).add (0*5))) (Mv x y (x+1) (y+1)) (fun w1 hw h=>bd w1 hw) ?_
  refine K0.un Zk ?_
  refine ZR ?_
  refine ZI true ?_
  refine ZA (Kc 411 (Km 2 gl) (0:Nat)) (.pointer (some ((⟨gl,0,none⟩:Addr).add (0*5)))) (fun w1 hw h=>Od rfl Zd) ?_
  refine ZA (Kd 225 ((⟨gl,0,none⟩:Addr).add (0*5))) (Lr (Mn x y z1)) (fun w1 hw h=>Qc fun j v hj=>Kt hw (c1 j v hj)) ?_
  refine ZC (fun w1 hw h=>Zi hr) fun i1=> ?_
  refine K0.drop 6 Zk (fun _=> ?_)
  refine ZI true ?_
  refine ZA (Kc 411 (Km 2 gl) (1:Nat)) (.pointer (some ((⟨gl,0,none⟩:Addr).add (1*5)))) (fun w1 hw h=>Od rfl Zd) ?_
  refine ZA (Kd 225 ((⟨gl,0,none⟩:Addr).add (1*5))) (Lr X5) (fun w1 hw h=>Qc fun j v hj=>Kt hw (c2 j v hj)) ?_
  refine ZC (fun w1 hw h=>rinter_r0 hr) fun i2=> ?_
  refine ZI false ?_
  refine K0.call (val:=fun _:Unit=>Lr X5) (G:=fun _ _=>True) (xs:=[.v (Mv 0 0 0 0),.f 327 [(1,0)]]) Zk (fun β w1 hw h hB=>Ek) (fun z=> ?_)
  refine ZR ?_
  refine ZV (.tuple #[Lr X5,.int .i64 0]) (fun w1 hw h=>⟨X5,rfl,hw,fun u k1 k2=> .nil (by rw[q2,mulB_r0]) rfl⟩)
 ·skip
  refine ZA (Kd 74 ((⟨gl,0,none⟩:Addr).add (0*5))) (Mv x y (x+1) (y+1)) (fun w1 hw h=>bd w1 hw) ?_
  refine K0.un Zk ?_
  refine ZR ?_
  refine ZI true ?_
  refine ZA (Kc 411 (Km 2 gl) (0:Nat)) (.pointer (some ((⟨gl,0,none⟩:Addr).add (0*5)))) (fun w1 hw h=>Od rfl Zd) ?_
  refine ZA (Kd 225 ((⟨gl,0,none⟩:Addr).add (0*5))) (Lr (Mn x y z1)) (fun w1 hw h=>Qc fun j v hj=>Kt hw (c1 j v hj)) ?_
  refine ZC (fun w1 hw h=>Zi hr) fun i1=> ?_
  refine K0.drop 6 Zk (fun _=> ?_)
  refine ZI true ?_
  refine ZA (Kc 411 (Km 2 gl) (1:Nat)) (.pointer (some ((⟨gl,0,none⟩:Addr).add (1*5)))) (fun w1 hw h=>Od rfl Zd) ?_
  refine ZA (Kd 225 ((⟨gl,0,none⟩:Addr).add (1*5))) (Lr (Mn x y z2)) (fun w1 hw h=>Qc fun j v hj=>Kt hw (c2 j v hj)) ?_
  refine ZC (fun w1 hw h=>Zi hr) fun i2=> ?_
  refine ZI false ?_
  refine K0.call (val:=fun z:Option Addr×Nat=>Lr (Mn x y z)) (G:=fun z u=>K6 u w.heap.size 5 1 z.1 1 z.2 (Ar (mulB k1 k2))) (xs:=[.v (Mv x y (x+1) (y+1)),.f 327 [(1,0)]]) Zk (fun β w1 hw h hB=>made_mu hr (fun w2 hw2=>mu1_m hr (K8.below (Pc hB (k:=1) (by simp[AV.ids]) (cs:=[.v (Km 2 gl)]) Zk) hw2) ((hrow.below hw).below hw2) ((h1.below hw).below hw2) ((h2.below hw).below hw2) hk1 hk2) hw.size) (fun z=> ?_)
  refine ZR ?_
  refine ZV (.tuple #[Lr (Mn x y z),.int .i64 0]) (fun w1 hw h=>⟨Mn x y z,rfl,hw,fun u k1 k2=> .one z ((h u k1 k2).2.rebase fun b hb=>Nat.le_trans hN ((h u k1 k2).2.lt b hb).1) rfl⟩)
end
section
open Go.Shelf
def Tg:Go.Shelf.Ren:=⟨fun|4=>389|n=>n,fun|22=>108|25=>35|3=>3|4=>4|9=>9|20=>20|0=>0|n=>n,fun|n=>n⟩
theorem growP:Lays8.n4 Tryz.prog Tg:={
 mixed:=by kernel_rfl
 f4:=⟨ "slices.Grow[[]grisaille/api.Point,grisaille/api.Point]",by decide,Tryz.func389.trans (congrArg some Zk)⟩
 t0:=Tryz.underlying0
 a0:=Tryz.isAgg0
 z0:=Tryz.sizeOf0
 v0:=Tryz.zeroValue0
 t3:=Tryz.underlying3
 a3:=Tryz.isAgg3
 z3:=Tryz.sizeOf3
 v3:=Tryz.zeroValue3
 t4:=Tryz.underlying4
 a4:=Tryz.isAgg4
 z4:=Tryz.sizeOf4
 v4:=Tryz.zeroValue4
 t9:=Tryz.underlying9
 a9:=Tryz.isAgg9
 z9:=Tryz.sizeOf9
 v9:=Tryz.zeroValue9
 t20:=Tryz.underlying20
 a20:=Tryz.isAgg20
 z20:=Tryz.sizeOf20
 v20:=Tryz.zeroValue20
 t22:=Tryz.underlying108
 a22:=Tryz.isAgg108
 z22:=Tryz.sizeOf108
 v22:=Tryz.zeroValue108}
theorem flat_inv{α:Type}{s:Nat}{cl:α→List Value}(hs:∀x,(cl x).length=s):∀(l:List α) (t:Nat) (v:Value),(l.flatMap cl)[t]? =some v→∃(k:Nat) (x:α) (j:Nat),l[k]? =some x∧(cl x)[j]? =some v∧t=k*s+j
 | [],t,v,h=>by simp at h
 | x::l,t,v,h=>by
  rw[List.flatMap_cons]at h
  rcases Nat.lt_or_ge t (cl x).length with h1|h1
  ·rw[List.getElem?_append_left h1]at h
   exact⟨0,x,t,rfl,h,by omega⟩
  ·rw[List.getElem?_append_right h1]at h
   obtain⟨k,y,j,h2,h3,h4⟩:=flat_inv hs l _ v h
   have:=hs x
   exact⟨k+1,y,j,h2,h3,by rw[Nat.add_mul];omega⟩
theorem Kq.reads{α:Type}{w:World}{A:Option Addr}{n s:Nat}{cl:α→List Value}{l:List α}(h:Kq w A n s cl l)(hs:∀x,(cl x).length=s)(h0:0<s):Mu w w.heap.size s A n (l.flatMap cl):=by
 refine⟨by rw[Pk hs,h.1],fun hn=> ?_⟩
 obtain⟨x,hx⟩:∃x,l[0]? =Option.some x:=⟨_,List.getElem?_eq_getElem (by rw[h.1];exact hn)⟩
 obtain⟨ad,h1,h2⟩:=h.2 0 x hx
 obtain⟨v,hv⟩:∃v,(cl x)[0]? =Option.some v:=⟨_,List.getElem?_eq_getElem (by rw[hs];exact h0)⟩
 obtain⟨_,_,_,hb⟩:=T4 (h2 0 v hv)
 rw[On,On]at hb
 refine⟨ad,h1,(Array.getElem?_eq_some_iff.1 hb).1,fun j u hu=> ?_⟩
 obtain⟨k,y,i,h3,h4,rfl⟩:=flat_inv hs l j u hu
 obtain⟨ad2,h5,h6⟩:=h.2 k y h3
 rw[h1]at h5;injection h5 with h5;subst h5
 rw[←T6];exact h6 i u h4
section
variable{w u:World}{A:Option Addr}{n c N:Nat}{H:List LP}{l:List Pt}
theorem Td:∀p,(Kf p).length=2:=fun _=>rfl
theorem ptC2_one(l:List Pt):∀v∈l.flatMap Kf,v.oneCell'=true:=fun v hv=>by
 obtain⟨p,_,hp⟩:=List.mem_flatMap.1 hv
 simp[Kf]at hp;rcases hp with rfl|rfl<;>rfl
theorem app_pts{z:Option Addr×Nat}{m B c2:Nat}{A2:Option Addr}{acc:List Pt}(h:K6 u B 35 2 z.1 m z.2 (acc.flatMap Kf))(hB:B≤u.heap.size)(hr:Kq u A2 l.length 2 Kf l)(hn:m+l.length≤100000000):
 Nf Tryz.prog u (bl z.1) (fun z:Option Addr×Nat=> .slice z.1 (m+l.length) z.2) (fun z v=>K6 v B 35 2 z.1 (m+l.length) z.2 ((acc++l).flatMap Kf)) (Nc 108 108 (.slice z.1 m z.2) (.slice A2 l.length c2)):=by
 rw[List.flatMap_append]
 exact M9 (P:=Tryz.prog) (s:=2) (z:=pt 0 0) (bytes:=16) (m:=l.length) (cc:=c2) (t:=108) (elem:=35) Zk Zk rfl Zd h hB (hr.reads Td Zd) (ptC2_one l) hn Zd
theorem growP_m(hn:0<n)(h2:n≤1000000)(hN:N≤w.heap.size):Calls Tryz.prog 389 #[.slice none 0 0,.int .i64 n] w (K3 w (fun y:Option Addr×Nat=> .slice y.1 0 y.2) fun y u=>K6 u N 35 2 y.1 0 y.2 []):=by
 have hi:S5 Tryz.prog 35=some (pt 0 0,2,16):=by kernel_rfl
 unfold S5 at hi
 obtain⟨i0,hi0,hi1⟩:=Option.bind_eq_some_iff.1 hi
 obtain⟨z',hz0,hi2⟩:=Option.map_eq_some_iff.1 hi1
 simp only[Prod.mk.injEq]at hi2
 obtain⟨rfl,hs0,hb0⟩:=hi2
 have h:=Any8.slices_Grow_grow growP i0 (pt 0 0) hi0 hz0 Zo none 0 0 n [] w (Nat.le_refl _) Zo (by rw[hb0];omega) Zo Zs (fun _=>rfl) (fun a ha=>by cases ha)
 refine h.mono fun e w' he=> ?_
 obtain⟨rfl,rfl⟩:=he
 have hG1:0+n≤grownCap w (0+n) 0 (Tg.t 25):=grownCap_ge w _ _ _
 have hG2:grownCap w (0+n) 0 (Tg.t 25)≤maxLen:=grownCap_le_maxLen w (0+n) 0 _ (by unfold maxLen;omega)
 generalize grownCap w (0+n) 0 (Tg.t 25)=G at hG1 hG2
 have hbn:=Om w.drew (Obj.cells (#[]++Builtin.zeroCells (pt 0 0).cells (0+n-0)++Builtin.zeroCells (pt 0 0).cells (G- (0+n))) (Tg.t 25))
 refine⟨(some ⟨w.heap.size,0,none⟩,G),rfl,⟨rfl,rfl,rfl,hbn.size,hbn.block⟩,fun w'' k1 k2=>⟨by simp,.inr ⟨w.heap.size,G,_,rfl,hN,(P6 w.drew _ k1 k2).1,Nat.zero_le _,hG2,?_,by simp⟩⟩⟩
 have e:(pt 0 0).cells.size=2:=rfl
 simp only[Builtin.zeroCells,e,Array.size_append,Array.size_map,Array.size_range,List.size_toArray,List.length_nil]
 omega
theorem growA_m(h2:n≤1000000)(hN:N≤w.heap.size):Calls Tryz.prog 389 #[.slice none 0 0,.int .i64 n] w (K3 w (fun y:Option Addr×Nat=> .slice y.1 0 y.2) fun y u=>K6 u N 35 2 y.1 0 y.2 []):=by
 by_cases h0:0<n
 ·exact growP_m h0 h2 hN
 ·obtain rfl:n=0:=by omega
  refine(Any8.slices_Grow_room growP none 0 0 0 w (Nat.le_refl _) Zo Zo (Nat.le_refl _)).mono fun e w' he=> ?_
  obtain⟨rfl,rfl⟩:=he
  exact⟨(none,0),rfl,Below.refl _ _,fun _ _ _=>K6.nil_⟩
theorem Np.at(h:Np w A n H){k:Nat}(hk:k<n):∃x ad,H[k]? =some x∧A=some ad∧∀(j:Nat) (v:Value),(lpC x)[j]? =some v→w.cell? ((ad.add (k*1)).add j)=some v:=by
 obtain⟨x,hx⟩:∃v,H[k]? =some v:=⟨_,List.getElem?_eq_getElem (by rw[h.row.1];exact hk)⟩
 obtain⟨ad,hA,hc⟩:=h.row.2 k x hx
 exact⟨x,ad,hx,hA,hc⟩
theorem Th{k:Nat}{x:LP}(h:H[k]? =some x):(K4 (H.take (k+1))).flatten=(K4 (H.take k)).flatten++x.1:=by
 rw[Lb h];simp[K4]
theorem flat_le(k:Nat):(K4 (H.take k)).flatten.length≤(K4 H).flatten.length:=by
 have e:K4 H=K4 (H.take k)++K4 (H.drop k):=by unfold K4;rw[←List.map_append,List.take_append_drop]
 rw[e,List.flatten_append,List.length_append];omega
theorem concat_m(hp:Np w A n H)(hn:n≤1000000)(hT:(K4 H).flatten.length≤1000000)(hN:N≤w.heap.size):
 Calls Tryz.prog 377 #[.slice A n c] w (K3 w (fun y:Option Addr×Nat=> .slice y.1 (K4 H).flatten.length y.2) fun y u=>K6 u N 35 2 y.1 (K4 H).flatten.length y.2 ((K4 H).flatten.flatMap Kf)):=by
 have hHl:H.length=n:=hp.row.1
 refine K0.enter Tryz.func377 rfl ?_
 refine ZR ?_
 refine K0.loop (ι:={k:Nat // k≤n}) 36 (fun k=>⟨[(0,.v (.slice A n c)),(3,.v (.int .i64 ((K4 (H.take k.1)).flatten.length:Int))),(9,.v (.slice A n c)),(10,.v (.int .i64 (n:Int))),(11,.v (.int .i64 (k.1:Int)))],[]⟩) (fun _ _=>True) (fun k=>n-k.1) (⟨0,Nat.zero_le _⟩) Zk (fun _=>by kernel_rfl) ⟨Zk,Zk,Zk⟩ (fun _ _=>trivial) ?_
 rintro⟨k,hk⟩ gg
 by_cases hlt:k<n
 ·obtain⟨x,ad,hx,hA,hc⟩:=hp.at hlt
  have h1:=flat_le (H:=H) (k+1)
  rw[Th hx,List.length_append]at h1
  refine ZR ?_
  refine ZJ (decide ((k:Int)<(n:Int))) true (decide_eq_true Zo) ?_
  refine ZA (Kc 57 (.slice A n c) k) (.pointer (some (ad.add (k*1)))) (fun w1 hw h=>T9 hA hlt) ?_
  refine ZA (Kd 108 (ad.add (k*1))) (Cs x) (fun w1 hw h=>X8 fun j v hj=>Kt hw (hc j v hj)) ?_
  refine ZJ (decide (IntKind.i64.wrap (((K4 (H.take k)).flatten.length:Int)+(x.1.length:Int))<0)) false (by rw[Rq Zo Zo];exact decide_eq_false Zo) ?_
  refine K0.slot 3 (.int .i64 (IntKind.i64.wrap (((K4 (H.take k)).flatten.length:Int)+(x.1.length:Int)))) (.int .i64 ((K4 (H.take (k+1))).flatten.length:Int)) Zk (by rw[Rq Zo Zo,Th hx,List.length_append]) ?_
  refine K0.slot 11 (.int .i64 (IntKind.i64.wrap ((k:Int)+1))) (.int .i64 ((k+1:Nat):Int)) Zk (by rw[K7 hlt Zo]) ?_
  refine K0.next (⟨k+1,hlt⟩) Zk (by show n- (k+1)<n-k;omega) ⟨Zk,Zk,Zk⟩ (fun _ _=>trivial)
 obtain rfl:k=n:=by omega
 have hte:H.take k=H:=List.take_of_length_le Zo
 refine ZR ?_
 refine ZJ (decide ((k:Int)<(k:Int))) false (decide_eq_false Zo) ?_
 refine K0.slot 3 (.int .i64 ((K4 (H.take k)).flatten.length:Int)) (.int .i64 ((K4 H).flatten.length:Int)) Zk (by rw[hte]) ?_
 refine K0.leave Zk ?_
 refine ZR ?_
 refine ZC (fun w1 hw h=>growA_m (n:=(K4 H).flatten.length) (N:=w.heap.size) hT hw.size) fun g=> ?_
 refine K0.loop (ι:={q:Nat×(Option Addr×Nat) // q.1≤k}) 36 (fun q=>⟨[(6,.v (.slice q.1.2.1 (K4 (H.take q.1.1)).flatten.length q.1.2.2)),(25,.v (.slice A k c)),(26,.v (.int .i64 (k:Int))),(27,.v (.int .i64 (q.1.1:Int)))],[]⟩) (fun q u=>K6 u w.heap.size 35 2 q.1.2.1 (K4 (H.take q.1.1)).flatten.length q.1.2.2 ((K4 (H.take q.1.1)).flatten.flatMap Kf)) (fun q=>k-q.1.1) (⟨(0,g),Nat.zero_le _⟩) Zk (fun _=>by kernel_rfl) ⟨Zk,Zk,Zk⟩ (fun u h=>h.2) ?_
 rintro⟨⟨i,z⟩,hi⟩ gg2
 have hi:i≤k:=hi
 by_cases hli:i<k
 case neg=>
  obtain rfl:i=k:=by omega
  refine ZR ?_
  refine ZJ (decide ((i:Int)<(i:Int))) false (decide_eq_false Zo) ?_
  refine K0.leave Zk ?_
  refine ZR ?_
  refine ZV (.slice z.1 (K4 (H.take i)).flatten.length z.2) (fun w1 hw h=>⟨z,by rw[hte],hw,fun w'' k1 k2=>by have h2:K6 w'' w.heap.size 35 2 z.1 (K4 (H.take i)).flatten.length z.2 ((K4 (H.take i)).flatten.flatMap Kf):=h w'' k1 k2;rw[hte]at h2;exact h2.rebase fun b hb=>Nat.le_trans hN (h2.lt b hb).1⟩)
 obtain⟨x,ad,hx,hA,hc⟩:=hp.at hli
 have h1:=flat_le (H:=H) (i+1)
 rw[Th hx,List.length_append]at h1
 have hmx:=List.mem_of_getElem? hx
 refine ZR ?_
 refine ZJ (decide ((i:Int)<(k:Int))) true (decide_eq_true Zo) ?_
 refine ZA (Kc 57 (.slice A k c) i) (.pointer (some (ad.add (i*1)))) (fun w1 hw h=>T9 hA hli) ?_
 refine K0.ask (Kd 108 (ad.add (i*1))) (Cs x) Zk (fun w1 hw h=>X8 fun j v hj=>Kt hw (hc j v hj)) ?_
 refine ZS 2 ?_
 refine K0.run Zk (stop:=1000) 1 _ ?_
 refine ZS 2 ?_
 refine K0.mutOp (L:=bl z.1) (val:=fun z':Option Addr×Nat=> .slice z'.1 ((K4 (H.take i)).flatten.length+x.1.length) z'.2) (Φ':=fun z' u=>K6 u w.heap.size 35 2 z'.1 ((K4 (H.take i)).flatten.length+x.1.length) z'.2 (((K4 (H.take i)).flatten++x.1).flatMap Kf)) (G:=fun z' u=>K6 u w.heap.size 35 2 z'.1 ((K4 (H.take i)).flatten.length+x.1.length) z'.2 (((K4 (H.take i)).flatten++x.1).flatMap Kf)) (Nc 108 108 (.slice z.1 (K4 (H.take i)).flatten.length z.2) (Cs x)) (fun w1 hw h=>app_pts (A2:=x.2.1) (c2:=x.2.2) h hw.size ((hp.ring x hmx).below hw) Zo) (fun u h=>K6.blk (B:=w.heap.size) (elem:=35) (s:=2) (n:=(K4 (H.take i)).flatten.length) (c:=z.2) (xs:=(K4 (H.take i)).flatten.flatMap Kf) h) (fun z' wa u e1 e2 h hG=>hG) Zk Zk (fun z'=> ?_)
 refine ZR ?_
 have hlen:(K4 (H.take (i+1))).flatten.length=(K4 (H.take i)).flatten.length+x.1.length:=by rw[Th hx,List.length_append]
 refine K0.slot 6 (.slice z'.1 ((K4 (H.take i)).flatten.length+x.1.length) z'.2) (.slice z'.1 (K4 (H.take (i+1))).flatten.length z'.2) Zk (by rw[hlen]) ?_
 refine K0.slot 27 (.int .i64 (IntKind.i64.wrap ((i:Int)+1))) (.int .i64 ((i+1:Nat):Int)) Zk (by rw[K7 hli Zo]) ?_
 refine K0.next (⟨(i+1,z'),hli⟩) Zk (by show k- (i+1)<k-i;omega) ⟨Zk,Zk,Zk⟩ (fun u h=>by show K6 u w.heap.size 35 2 z'.1 (K4 (H.take (i+1))).flatten.length z'.2 ((K4 (H.take (i+1))).flatten.flatMap Kf);rw[hlen,Th hx];exact h)
end
end
def bndF(b:Pt×Pt)(p:Pt):Pt×Pt:=((Ej b.1.1 p.1,Ej b.1.2 p.2),(Fx b.2.1 p.1,Fx b.2.2 p.2))
structure Fs(l:List Pt)(b:Pt×Pt):Prop where
 h:∀p∈l,b.1.1≤p.1∧p.1≤b.2.1∧b.1.2≤p.2∧p.2≤b.2.2
 lo:vP b.1=true
 hi:vP b.2=true
theorem Fs.step{l:List Pt}{b:Pt×Pt}{p:Pt}(h:Fs l b)(hp:vP p=true):Fs (l++ [p]) (bndF b p):=by
 have h1:=Ni h.lo
 have h2:=Ni h.hi
 have h3:=Ni hp
 have e1:=Ri b.1.1 p.1
 have e2:=Ri b.1.2 p.2
 have e3:=Rh b.2.1 p.1
 have e4:=Rh b.2.2 p.2
 refine⟨fun q hq=> ?_,?_,?_⟩
 ·unfold bndF
  dsimp only
  rcases List.mem_append.1 hq with h4|h4
  ·have:=h.h q h4;omega
  ·obtain rfl:q=p:=by simpa using h4
   omega
 ·unfold bndF vP Lt;simp only[Bool.and_eq_true,decide_eq_true_eq];omega
 ·unfold bndF vP Lt;simp only[Bool.and_eq_true,decide_eq_true_eq];omega
theorem Fs.one{p:Pt}(hp:vP p=true):Fs [] (p,p):=⟨fun q hq=>(by cases hq),hp,hp⟩
section
variable{w u:World}{A:Option Addr}{n c N:Nat}{H:List LP}{z:Int}
theorem bounds_m(hp:Np w A n H)(hn:n≤1000000)(hv:vL 0 (K4 H)=true)(hT:0<(K4 H).flatten.length):
 Calls Tryz.prog 361 #[.slice A n c] w (K3 w (fun q:{q:Pt×Pt // Fs (K4 H).flatten q}=> .tuple #[Ls q.1.1,Ls q.1.2,.bool true]) fun _ _=>True):=by
 have hf:=hv
 rw[Aw (Nat.zero_le _),Bool.and_eq_true,decide_eq_true_eq,List.all_eq_true]at hf
 have hl:∀x∈H,x.1.length≤1000000:=fun x hx=>by
  have:x.1.length≤(K4 H).flatten.length:=List.Sublist.length_le (List.sublist_flatten_of_mem (List.mem_map_of_mem hx))
  omega
 obtain⟨L,hL⟩:∃L,L=(K4 H).flatten:=⟨_,rfl⟩
 rw[←hL]at hf hT ⊢
 obtain⟨p0,hp0⟩:∃p0,L[0]? =some p0:=⟨_,List.getElem?_eq_getElem hT⟩
 have hv0:=hf.2 p0 (List.mem_of_getElem? hp0)
 have hl2:L.length≤4096:=by omega
 obtain⟨m,hm⟩:∃m,L.length=m+1:=⟨L.length-1,by omega⟩
 refine K0.enter Tryz.func361 rfl ?_
 refine ZR ?_
 refine ZC (fun w1 hw h=>(concat_m (c:=c) (N:=w.heap.size) (hp.below hw) hn (by rw[←hL];omega) hw.size).mono fun e w' k=>by rw[←hL,hm]at k;exact k) fun y=> ?_
 refine K0.pure_ (p:=∃g,y.1=some ⟨g,0,none⟩) (fun u hu h=>by obtain⟨g,h1,_⟩:=h.2.cells (Nat.succ_pos m);exact⟨g,h1⟩) Zk (fun hyg=> ?_)
 obtain⟨gy,hgy⟩:=hyg
 have el:∀{v:World} {i:Nat} {x:Pt},K6 v w.heap.size 35 2 y.1 (m+1) y.2 (L.flatMap Kf)→L[i]? =some x→v.rangeAt gy (i*2) (Kf x):=fun h hx=>by
  rw[hgy]at h;exact Lw Td h (Nat.succ_pos m) hx
 refine ZC (fun w1 hw h=>Pg (c:=c) (hp.below hw) hn hl hv) fun v=> ?_
 refine ZI false ?_
 refine ZB 1 (Kc 108 (.slice y.1 (m+1) y.2) (0:Nat)) (.pointer (some ⟨gy,0*2,none⟩)) (fun w1 hw h=>by rw[hgy];exact K9 (elem:=35) Zk Zk (Nat.succ_pos m)) ?_
 refine ZB 2 (Kd 35 ⟨gy,0*2,none⟩) (Ls p0) (fun w1 hw h=>Ka (vs:=Kf p0) Zk Zk (el h.1.2 hp0)) ?_
 refine ZB 4 (Kc 108 (.slice y.1 (m+1) y.2) (0:Nat)) (.pointer (some ⟨gy,0*2,none⟩)) (fun w1 hw h=>by rw[hgy];exact K9 (elem:=35) Zk Zk (Nat.succ_pos m)) ?_
 refine ZB 5 (Kd 35 ⟨gy,0*2,none⟩) (Ls p0) (fun w1 hw h=>Ka (vs:=Kf p0) Zk Zk (el h.1.2 hp0)) ?_
 refine K0.loop (ι:={q:Nat×Pt×Pt // q.1≤m+1∧Fs (L.take q.1) q.2}) 59 (fun q=>⟨[(2,.p 2 0),(3,.p 3 0),(6,.p 6 0),(7,.p 7 0),(28,.v (.slice y.1 (m+1) y.2)),(29,.v (.int .i64 ((m+1:Nat):Int))),(30,.v (.int .i64 (q.1.1:Int)))],[(2,(Kf (0,0)).map .v),(3,(Kf (0,0)).map .v),(6,(Kf q.1.2.1).map .v),(7,(Kf q.1.2.2).map .v)]⟩) (fun _ u=>K6 u w.heap.size 35 2 y.1 (m+1) y.2 (L.flatMap Kf)) (fun q=>m+1-q.1.1) (⟨(0,p0,p0),Nat.zero_le _,Fs.one hv0⟩) Zk (fun _=>by kernel_rfl) ⟨Zk,Zk,Zk⟩ (fun u h=>h.1.2) ?_
 rintro⟨⟨k,b⟩,hk,hb⟩ gg
 have hk:k≤m+1:=hk
 have hb:Fs (L.take k) b:=hb
 by_cases hlt:k<m+1
 case neg=>
  obtain rfl:k=m+1:=by omega
  rw[List.take_of_length_le Zo]at hb
  refine ZR ?_
  refine ZJ (decide (((m+1:Nat):Int)<((m+1:Nat):Int))) false (decide_eq_false Zo) ?_
  refine K0.leave Zk ?_
  refine ZR ?_
  refine ZV (.tuple #[Ls b.1,Ls b.2,.bool true]) (fun w1 hw h=>⟨⟨b,hb⟩,rfl,hw,fun _ _ _=>trivial⟩)
 obtain⟨p,hpk⟩:∃p,L[k]? =some p:=⟨_,List.getElem?_eq_getElem Zo⟩
 have hvp:=hf.2 p (List.mem_of_getElem? hpk)
 refine ZR ?_
 refine ZJ (decide ((k:Int)<((m+1:Nat):Int))) true (decide_eq_true Zo) ?_
 refine ZA (Kc 108 (.slice y.1 (m+1) y.2) k) (.pointer (some ⟨gy,k*2,none⟩)) (fun w1 hw h=>by rw[hgy];exact K9 (elem:=35) Zk Zk hlt) ?_
 refine ZA (Kd 35 ⟨gy,k*2,none⟩) (Ls p) (fun w1 hw h=>Ka (vs:=Kf p) Zk Zk (el h hpk)) ?_
 refine K0.slot 30 (.int .i64 (IntKind.i64.wrap ((k:Int)+1))) (.int .i64 ((k+1:Nat):Int)) Zk (by rw[K7 hlt Zo]) ?_
 refine K0.next (⟨(k+1,bndF b p),hlt,by show Fs (L.take (k+1)) (bndF b p);rw[Lb hpk];exact hb.step hvp⟩) Zk (by show m+1- (k+1)<m+1-k;omega) ⟨Zk,Zk,Zk⟩ (fun u h=>h)
theorem concat_0(hp:Np w A n H)(hn:n≤1000000)(hT:(K4 H).flatten.length=0):Calls Tryz.prog 361 #[.slice A n c] w (K3 w (fun _:Unit=> .tuple #[pt 0 0,pt 0 0,.bool false]) fun _ _=>True):=by
 refine K0.enter Tryz.func361 rfl ?_
 refine ZR ?_
 refine ZC (fun w1 hw h=>(concat_m (c:=c) (N:=w.heap.size) (hp.below hw) hn Zo hw.size).mono fun e w' k=>by rw[hT]at k;exact k) fun y=> ?_
 refine ZI true ?_
 exact ZW (.tuple #[pt 0 0,pt 0 0,.bool false])
def pixB(b:Pt×Pt):Int×Int×Int×Int:=if b.1.1/256≥(b.2.1+255)/256∨b.1.2/256≥(b.2.2+255)/256 then(0,0,0,0)else(b.1.1/256,b.1.2/256,(b.2.1+255)/256,(b.2.2+255)/256)
structure PxB(L:List (List Pt))(r:Int×Int×Int×Int):Prop where
 rng:(-4096≤r.1∧r.1≤4096)∧(-4096≤r.2.1∧r.2.1≤4096)∧(-4096≤r.2.2.1∧r.2.2.1≤4096)∧(-4096≤r.2.2.2∧r.2.2.2≤4096)
 out:∀x y:Int,¬((r.1≤x∧x<r.2.2.1)∧(r.2.1≤y∧y<r.2.2.2))→C5 L (Oh x y) (Oh (x+1) (y+1))
theorem pxB_of{L:List (List Pt)}{b:Pt×Pt}(h:Fs L.flatten b):PxB L (pixB b):=by
 have h1:=Ni h.lo
 have h2:=Ni h.hi
 unfold pixB
 split
 ·rename_i hz
  refine⟨by dsimp only;omega,fun x y _=>Fj h.h ?_⟩
  omega
 ·exact⟨by dsimp only;omega,fun x y hxy=>Fj h.h hxy⟩
theorem pxB_0{L:List (List Pt)}(h:L.flatten.length=0):PxB L (0,0,0,0):=⟨by dsimp only;omega,fun x y _=> .inl fun p hp=>by rw[List.eq_nil_of_length_eq_zero h]at hp;cases hp⟩
theorem up_m(h: -1048576≤z∧z≤1048576):Calls Tryz.prog 362 #[.int .i64 z] w (K3 w (fun _:Unit=> .int .i64 ((z+255)/256)) fun _ _=>True):=by
 have hz:=h
 refine K0.enter Tryz.func362 rfl ?_
 refine ZR ?_
 exact ZX (.int .i64 (Int.fdiv (IntKind.i64.wrap (IntKind.i64.wrap (z+256)-1)) 256)) (by rw[IntWalk.i64_in (z+256) Zo,IntWalk.i64_in _ Zo,Int.fdiv_eq_ediv_of_nonneg _ Zd,show z+256-1=z+255 by omega])
theorem pixb_m(hp:Np w A n H)(hn:n≤1000000)(hv:vL 0 (K4 H)=true):Calls Tryz.prog 324 #[.slice A n c] w (K3 w (fun r:{r:Int×Int×Int×Int // PxB (K4 H) r}=>Mv r.1.1 r.1.2.1 r.1.2.2.1 r.1.2.2.2) fun _ _=>True):=by
 refine K0.enter Tryz.func324 rfl ?_
 refine ZR ?_
 by_cases hT:0<(K4 H).flatten.length
 case neg=>
  refine ZC (fun w1 hw h=>concat_0 (c:=c) (hp.below hw) hn Zo) fun q=> ?_
  refine ZI true ?_
  refine ZV (Mv 0 0 0 0) (fun w1 hw h=>⟨⟨(0,0,0,0),pxB_0 Zo⟩,rfl,hw,fun _ _ _=>trivial⟩)
 refine ZC (fun w1 hw h=>bounds_m (c:=c) (hp.below hw) hn hv hT) fun q=> ?_
 obtain⟨b,hb⟩:=q
 have h1:=Ni hb.lo
 have h2:=Ni hb.hi
 refine ZI false ?_
 refine ZC (fun w1 hw h=>up_m (z:=b.2.1) ⟨by omega,by omega⟩) fun u1=> ?_
 refine ZD 5 (fun w1 hw h=>up_m (z:=b.2.2) ⟨by omega,by omega⟩) fun u2=> ?_
 refine K0.run Zk (stop:=1000) 2 _ ?_
 refine ZS 5 ?_
 have f1:Int.fdiv b.1.1 256=b.1.1/256:=Int.fdiv_eq_ediv_of_nonneg _ Zd
 have f2:Int.fdiv b.1.2 256=b.1.2/256:=Int.fdiv_eq_ediv_of_nonneg _ Zd
 have hpx:=pxB_of hb
 by_cases c1:b.1.1/256≥(b.2.1+255)/256
 ·
  refine ZT 36 (.bool (decide (Int.fdiv b.1.1 256≥(b.2.1+255)/256))) (.bool true) (by rw[f1,decide_eq_true c1]) ?_
  refine ZI true ?_
  refine ZV (Mv 0 0 0 0) (fun w1 hw h=>⟨⟨(0,0,0,0),by unfold pixB at hpx;rw[if_pos (.inl c1)]at hpx;exact hpx⟩,rfl,hw,fun _ _ _=>trivial⟩)
 refine ZT 36 (.bool (decide (Int.fdiv b.1.1 256≥(b.2.1+255)/256))) (.bool false) (by rw[f1,decide_eq_false c1]) ?_
 by_cases c2:b.1.2/256≥(b.2.2+255)/256
 ·
  refine ZJ (decide (Int.fdiv b.1.2 256≥(b.2.2+255)/256)) true (by rw[f2,decide_eq_true c2]) ?_
  refine ZV (Mv 0 0 0 0) (fun w1 hw h=>⟨⟨(0,0,0,0),by unfold pixB at hpx;rw[if_pos (.inr c2)]at hpx;exact hpx⟩,rfl,hw,fun _ _ _=>trivial⟩)
 refine ZJ (decide (Int.fdiv b.1.2 256≥(b.2.2+255)/256)) false (by rw[f2,decide_eq_false c2]) ?_
 refine ZV (Mv (Int.fdiv b.1.1 256) (Int.fdiv b.1.2 256) ((b.2.1+255)/256) ((b.2.2+255)/256)) (fun w1 hw h=>⟨⟨(Int.fdiv b.1.1 256,Int.fdiv b.1.2 256,(b.2.1+255)/256,(b.2.2+255)/256),by unfold pixB at hpx;rw[if_neg Zo]at hpx;rw[f1,f2];exact hpx⟩,rfl,hw,fun _ _ _=>trivial⟩)
end
end Go.Proofs.YtpgkbllcnphmbaaGreatDoor
