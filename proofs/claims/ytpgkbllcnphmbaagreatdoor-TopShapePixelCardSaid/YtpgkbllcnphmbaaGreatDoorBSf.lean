/-
 A part of the proof.
-/
import Derived.Test.YtpgkbllcnphmbaaGreatDoorBMu
namespace Go.Proofs.YtpgkbllcnphmbaaGreatDoor
set_option maxRecDepth 100000
set_option maxHeartbeats 8000000
set_option linter.unusedVariables false
set_option linter.unusedSimpArgs false
open Go.RowKit
section
variable{w u:World}{x y:Int}{k k2 N g n c:Nat}{z:Option Addr×Nat}{ad:Addr}
theorem sc1_m(hb:K8 w g [.int .u8 (k2:Int)])(hk:k2≤255)(hv:k≤255):Calls Tryz.prog 319 #[.int .u8 k,Ku g] w (K3 w (fun _:Unit=> .int .u8 (mulB k k2:Nat)) fun _ _=>True):=by
 refine K0.enter Tryz.func319 rfl ?_
 refine ZR ?_
 refine ZA (Kd 5 ⟨g,0,none⟩) (.int .u8 k2) (fun w1 hw h=>Kg Zk (by have:=(hb.below hw).range 0 _ rfl;simpa using this)) ?_
 refine ZC (fun w1 hw h=>Vc hv hk) fun m=> ?_
 exact ZW (.int .u8 (mulB k k2:Nat))
theorem cl8_m(hr:Kq w (some ad) 1 1 Ar [k])(hN:N≤w.heap.size):Calls Tryz.prog 358 #[.slice (some ad) 1 c] w (K3 w (fun y:Option Addr×Nat=> .slice y.1 1 y.2) fun y u=>K6 u N 5 1 y.1 1 y.2 (Ar k)):=by
 refine K0.enter Tryz.func358 rfl ?_
 refine ZR ?_
 refine ZI false ?_
 refine K0.make (M5 223 0 #[]) (fun y:Option Addr×Nat=> .slice y.1 0 y.2) (fun y u=>K6 u w.heap.size 5 1 y.1 0 y.2 []) Zk (fun w1 hw h=>make_0 Zk hw.size) (fun g=> ?_)
 refine ZS 2 ?_
 refine K0.mutOp (L:=bl g.1) (val:=fun(z:Option Addr×Nat)=> .slice z.1 1 z.2) (Φ':=fun(z:Option Addr×Nat) v=>K6 v w.heap.size 5 1 z.1 1 z.2 (Ar k)) (G:=fun(z:Option Addr×Nat) v=>K6 v w.heap.size 5 1 z.1 1 z.2 (Ar k)) (Nc 223 223 (.slice g.1 0 g.2) (.slice (some ad) 1 c)) (fun w1 hw h=>by
  have:=M9 (P:=Tryz.prog) (s:=1) (z:= .int .u8 0) (bytes:=1) (m:=1) (cc:=c) (t:=223) (elem:=5) Zk Zk rfl Zd h.2 hw.size (by have:=Kq.reads (Kq.below hr hw) Jw Zd;simpa using this) (by intro v hv;simp[Ar]at hv;subst hv;rfl) Zd Zd
  rw[List.nil_append,Nat.zero_add]at this
  exact this) (fun w1 h b hb=>⟨(h.2.lt b hb).1,(h.2.blk b hb).2⟩) (fun z' wa w1 e1 e2 h hG=>hG) Zk Zk (fun z'=> ?_)
 refine ZR ?_
 refine ZV (.slice z'.1 1 z'.2) (fun w1 hw h=>⟨z',rfl,hw,fun w'' k1 k2=>(h w'' k1 k2).rebase fun b hb=>Nat.le_trans hN ((h w'' k1 k2).lt b hb).1⟩)
theorem meach_m(hr:Qk x y (x+1) (y+1))(hz:Kq w z.1 1 1 Ar [k])(hc:1≤z.2)(hb:K8 w g [.int .u8 (k2:Int)])(hk:k2≤255)(hv:k≤255)(hN:N≤w.heap.size):
 Calls Tryz.prog 318 #[Lr (Mn x y z),.func (.func 319) #[] #[Ku g]] w (K3 w (fun z:Option Addr×Nat=> .tuple #[Lr (Mn x y z),.int .i64 0]) fun z u=>K6 u N 5 1 z.1 1 z.2 (Ar (mulB k k2))):=by
 obtain⟨zA,zc⟩:=z
 obtain⟨ad,hA,hcc⟩:=hz.2 0 k rfl
 obtain rfl:zA=some ad:=hA
 refine K0.enter Tryz.func318 rfl ?_
 refine ZR ?_
 refine ZC (fun w1 hw h=>V9 (m:=Mn x y (some ad,zc)) hr (.one (some ad,zc) (hz.below hw))) fun v=> ?_
 refine K0.cond false Zk ?_
 refine ZS 8 ?_
 refine ZA (sl2 223 (.slice (some ad) 1 zc) 1 1) (.slice (some (ad.add (0*1))) 1 1) (fun w1 hw h=>run_sl2 (e:=5) Zk Zk Zk hc) ?_
 refine ZC (fun w1 hw h=>cl8_m (c:=1) (N:=w.heap.size) (Kq.below (Kq.at0 hz) hw) hw.size) fun q=> ?_
 refine K0.pure_ (p:=∃gq,q.1=some ⟨gq,0,none⟩) (fun w1 hw h=>by obtain⟨gq,h1,_⟩:=h.2.cells Zd;exact⟨gq,h1⟩) Zk (fun hq=> ?_)
 obtain⟨gq,hq⟩:=hq
 obtain⟨qA,qc⟩:=q
 obtain rfl:qA=some ⟨gq,0,none⟩:=hq
 refine K0.un Zk ?_
 refine ZR ?_
 refine ZI true ?_
 refine ZA (Kc 223 (.slice (some ⟨gq,0,none⟩) 1 qc) (0:Nat)) (.pointer (some ((⟨gq,0,none⟩:Addr).add (0*1)))) (fun w1 hw h=>Lg (elem:=5) Zk Zk Zd) ?_
 refine ZA (Kd 5 ((⟨gq,0,none⟩:Addr).add (0*1))) (.int .u8 k) (fun w1 hw h=>Kg Zk (by obtain⟨_,e,hcell⟩:=h.2.cells Zd;injection e with e;injection e with e;subst e;exact hcell 0 _ rfl)) ?_
 refine ZC (fun w1 hw h=>sc1_m (hb.below hw) hk hv) fun v2=> ?_
 refine ZA (Kc 223 (.slice (some ⟨gq,0,none⟩) 1 qc) (0:Nat)) (.pointer (some ((⟨gq,0,none⟩:Addr).add (0*1)))) (fun w1 hw h=>Lg (elem:=5) Zk Zk Zd) ?_
 refine K0.mutSt (L:=[gq]) (G:=fun u=>K6 u w.heap.size 5 1 (some ⟨gq,0,none⟩) 1 qc (Ar (mulB k k2))) (Φ':=fun u=>K6 u w.heap.size 5 1 (some ⟨gq,0,none⟩) 1 qc (Ar (mulB k k2))) (Rm 5 ⟨gq,0,none⟩ (.int .u8 (mulB k k2:Nat))) (fun w1 hw h=>h.1.2.storeN (t:=5) (v:= .int .u8 (mulB k k2:Nat)) (j:=0) Zk (by show 0+1≤1;decide) (fun u hu=>by have hu:u∈[Value.int .u8 ((mulB k k2:Nat):Int)]:=hu;obtain rfl:=List.mem_singleton.1 hu;rfl)) (fun u h b hb=>by obtain rfl:=List.mem_singleton.1 hb;exact⟨(h.1.2.lt b (by simp[bl])).1,(h.1.2.blk b (by simp[bl])).2⟩) (fun wa u e1 e2 h hG=>hG) Zk Zk ?_
 refine ZR ?_
 refine ZI false ?_
 refine ZV (.tuple #[Lr (Mn x y (some ⟨gq,0,none⟩,qc)),.int .i64 0]) (fun w1 hw h=>⟨(some ⟨gq,0,none⟩,qc),rfl,hw,fun u k1 k2=>(h u k1 k2).rebase fun b hb=>Nat.le_trans hN ((h u k1 k2).lt b hb).1⟩)
theorem scaleM_m(hr:Qk x y (x+1) (y+1))(hz:Kq w z.1 1 1 Ar [k])(hc:1≤z.2)(hk:k2≤255)(hv:k≤255)(hN:N≤w.heap.size):
 Calls Tryz.prog 271 #[Lr (Mn x y z),.int .u8 k2] w (K3 w (fun z:Option Addr×Nat=> .tuple #[Lr (Mn x y z),.int .i64 0]) fun z u=>K6 u N 5 1 z.1 1 z.2 (Ar (mulB k k2))):=by
 refine K0.enter Tryz.func271 rfl ?_
 refine ZR ?_
 refine K0.call (val:=fun z:Option Addr×Nat=> .tuple #[Lr (Mn x y z),.int .i64 0]) (G:=fun z u=>K6 u w.heap.size 5 1 z.1 1 z.2 (Ar (mulB k k2))) (xs:=[.v (Lr (Mn x y z)),.f 319 [(3,0)]]) Zk (fun β w1 hw h hB=>meach_m hr (Kq.below hz hw) hc (Pc hB (k:=3) (by simp[AV.ids]) (cs:=[.v (.int .u8 (k2:Int))]) Zk) hk hv hw.size) (fun q=> ?_)
 refine ZR ?_
 refine ZV (.tuple #[Lr (Mn x y q),.int .i64 0]) (fun w1 hw h=>⟨q,rfl,hw,fun u k1 k2=>(h u k1 k2).2.rebase fun b hb=>Nat.le_trans hN ((h u k1 k2).2.lt b hb).1⟩)
end
abbrev wr(x:Int):Int:=IntKind.i64.wrap x
def nearM(a b:Int):Int:=
 let n:=wr (wr (2*a)+b)
 let d:=wr (2*b)
 if n.tmod d<0 then wr (wr (n.tdiv d)-1)else wr (n.tdiv d)
def Ip(a b c:Pt):Int:=
 let x:=wr (wr (a.1-wr (2*b.1))+c.1)
 let y:=wr (wr (a.2-wr (2*b.2))+c.2)
 wr (wr (x*x)+wr (y*y))
section
variable{w u:World}{A:Option Addr}{n c m:Nat}{l:List Pt}
theorem run_quoI{t:TypeId}{x y:Operand}{a b:Int}(hb:b≠0):(opS .quo t x y (.int .i64 a) (.int .i64 b)).run Tryz.prog w= .ok (.value (.int .i64 (wr (a.tdiv b)))) w:=by
 simp only[opS,eqGuard_quo,Sem.run_bind,Sem.run_pure,Result.andThen_ok,binOp,Op.intDiv,ne_eq,not_true_eq_false,if_false,hb]
theorem run_remI{t:TypeId}{x y:Operand}{a b:Int}(hb:b≠0):(opS .rem t x y (.int .i64 a) (.int .i64 b)).run Tryz.prog w= .ok (.value (.int .i64 (a.tmod b))) w:=by
 simp only[opS,eqGuard_rem,Sem.run_bind,Sem.run_pure,Result.andThen_ok,binOp,Op.intDiv,ne_eq,not_true_eq_false,if_false,hb]
theorem Dx{a b c:Pt}:Calls Tryz.prog 218 #[Ls a,Ls b,Ls c] w (K3 w (fun _:Unit=> .int .i64 (Ip a b c)) fun _ _=>True):=by
 refine K0.enter Tryz.func218 rfl ?_
 refine ZR ?_
 exact ZW (.int .i64 (Ip a b c))
theorem near_m{a b:Int}(hb:wr (2*b)≠0):Calls Tryz.prog 222 #[.int .i64 a,.int .i64 b] w (K3 w (fun _:Unit=> .int .i64 (nearM a b)) fun _ _=>True):=by
 refine K0.enter Tryz.func222 rfl ?_
 refine ZS 6 ?_
 refine ZS 2 ?_
 refine K0.ask (opS .quo 3 (.tmp 14) (.tmp 15) (.int .i64 (wr (wr (2*a)+b))) (.int .i64 (wr (2*b)))) (.int .i64 (wr ((wr (wr (2*a)+b)).tdiv (wr (2*b))))) Zk (fun w1 hw h=>run_quoI hb) ?_
 refine ZS 2 ?_
 refine ZA (opS .rem 3 (.tmp 17) (.tmp 18) (.int .i64 (wr (wr (2*a)+b))) (.int .i64 (wr (2*b)))) (.int .i64 ((wr (wr (2*a)+b)).tmod (wr (2*b)))) (fun w1 hw h=>run_remI hb) ?_
 by_cases h1:(wr (wr (2*a)+b)).tmod (wr (2*b))<0
 ·
  refine ZJ (decide ((wr (wr (2*a)+b)).tmod (wr (2*b))<0)) true (decide_eq_true h1) ?_
  exact ZX (.int .i64 (wr (wr ((wr (wr (2*a)+b)).tdiv (wr (2*b)))-1))) (by unfold nearM;dsimp only;rw[if_pos h1])
 ·
  refine ZJ (decide ((wr (wr (2*a)+b)).tmod (wr (2*b))<0)) false (decide_eq_false h1) ?_
  exact ZX (.int .i64 (wr ((wr (wr (2*a)+b)).tdiv (wr (2*b))))) (by unfold nearM;dsimp only;rw[if_neg h1])
def pcC(need n:Int):Bool:=decide (need≤wr (wr (wr (wr (wr (wr (16*n)*n)*n)*n)*32)*32))
theorem may2_m{i m:Int}(hr:Kq w A n 2 Kf l)(hn:n≤100)(hv:l.all vP=true)(hm:1≤m∧m≤64)(hi:0≤i∧i≤m):Calls Tryz.prog 220 #[.slice A n c,.int .i64 i,.int .i64 m] w (K3 w (fun _:Unit=> .bool true) fun _ _=>True):=by
 refine K0.enter Tryz.func220 rfl ?_
 refine ZR ?_
 refine K0.loop (ι:={k:Nat // k≤n}) 34 (fun k=>⟨[(1,.v (.int .i64 i)),(2,.v (.int .i64 m)),(9,.v (.slice A n c)),(10,.v (.int .i64 (n:Int))),(11,.v (.int .i64 (k.1:Int)))],[]⟩) (fun _ _=>True) (fun k=>n-k.1) (⟨0,Nat.zero_le _⟩) Zk (fun _=>by kernel_rfl) ⟨Zk,Zk,Zk⟩ (fun u h=>trivial) ?_
 rintro⟨k,hk⟩ g2
 have hk:k≤n:=hk
 by_cases hlt:k<n
 case neg=>
  obtain rfl:k=n:=by omega
  refine ZR ?_
  refine K0.condr (decide ((k:Int)<(k:Int))) false Zk (decide_eq_false Zo) ?_
  refine ZS 2 ?_
  refine K0.leave Zk ?_
  refine ZS 2 ?_
  refine K0.slot 20 (.bool (decide (m≥1))) (.bool true) Zk (by rw[decide_eq_true hm.1]) ?_
  refine ZS 6 ?_
  refine K0.slot 24 (.bool (decide (m≤64))) (.bool true) Zk (by rw[decide_eq_true hm.2]) ?_
  refine ZS 10 ?_
  refine ZT 28 (.bool (decide (i≥0))) (.bool true) (by rw[decide_eq_true hi.1]) ?_
  refine K0.slot 6 (.bool (decide (i≤m))) (.bool true) Zk (by rw[decide_eq_true hi.2]) ?_
  exact ZW (.bool true)
 obtain⟨p,hp⟩:∃p,l[k]? =some p:=⟨_,List.getElem?_eq_getElem (by rw[hr.1];exact hlt)⟩
 obtain⟨ad,hA,hc⟩:=hr.2 k p hp
 refine ZR ?_
 refine ZJ (decide ((k:Int)<(n:Int))) true (decide_eq_true Zo) ?_
 refine ZA (Kc 108 (.slice A n c) k) (.pointer (some (ad.add (k*2)))) (fun w1 hw h=>Pe hA hlt) ?_
 refine ZA (Kd 35 (ad.add (k*2))) (Ls p) (fun w1 hw h=>R1 fun i v hi=>Kt hw (hc i v hi)) ?_
 refine ZC (fun w1 hw h=>Nh (List.all_eq_true.1 hv p (List.mem_of_getElem? hp))) fun vp=> ?_
 refine ZI false ?_
 refine K0.slot 11 (.int .i64 (IntKind.i64.wrap ((k:Int)+1))) (.int .i64 ((k+1:Nat):Int)) Zk (by rw[K7 hlt Zo]) ?_
 refine K0.next (⟨k+1,hlt⟩) Zk (by show n- (k+1)<n-k;omega) ⟨Zk,Zk,Zk⟩ (fun _ _=>trivial)
def Sy(need:Int):Nat→Nat→Int×Int
 |_,0=>(0,11)
 |n,f+1=>if pcC need n then(n,0)else Sy need (n+1) f
theorem Cb(need:Int)(n f:Nat):Sy need n (f+1)=if pcC need n then((n:Int),0)else Sy need (n+1) f:=rfl
def Ph(need:Int)(l:List Pt):Int×Int:=if l.all vP=true then Sy need 1 64 else(0,6)
theorem pcs_m{need:Int}(hr:Kq w A n 2 Kf l)(hn:n≤100):Calls Tryz.prog 217 #[.int .i64 need,.int .i64 32,.slice A n c] w (K3 w (fun _:Unit=> .tuple #[.int .i64 (Ph need l).1,.int .i64 (Ph need l).2]) fun _ _=>True):=by
 refine K0.enter Tryz.func217 rfl ?_
 refine ZR ?_
 refine ZI false ?_
 refine K0.loop (ι:={k:Nat // k≤n∧(l.take k).all vP=true}) 46 (fun k=>⟨[(0,.v (.int .i64 need)),(1,.v (.int .i64 32)),(17,.v (.slice A n c)),(18,.v (.int .i64 (n:Int))),(19,.v (.int .i64 (k.1:Int)))],[]⟩) (fun _ _=>True) (fun k=>n-k.1) (⟨0,Nat.zero_le _,rfl⟩) Zk (fun _=>by kernel_rfl) ⟨Zk,Zk,Zk⟩ (fun u h=>trivial) ?_
 rintro⟨k,hk,hall⟩ g2
 have hk:k≤n:=hk
 by_cases hlt:k<n
 case neg=>
  obtain rfl:k=n:=by omega
  rw[List.take_of_length_le (by rw[hr.1];exact Nat.le_refl _)]at hall
  refine ZR ?_
  refine ZJ (decide ((k:Int)<(k:Int))) false (decide_eq_false Zo) ?_
  refine K0.leave Zk ?_
  refine ZR ?_
  have e0:Ph need l=Sy need 1 64:=by unfold Ph;rw[if_pos hall]
  refine K0.loop (ι:={j:Nat // (1≤j∧j≤65)∧Sy need j (65-j)=Sy need 1 64}) 46 (fun j=>⟨[(0,.v (.int .i64 need)),(1,.v (.int .i64 32)),(10,.v (.int .i64 (j.1:Int)))],[]⟩) (fun _ _=>True) (fun j=>65-j.1) (⟨1,by decide,rfl⟩) Zk (fun _=>by kernel_rfl) ⟨Zk,Zk,Zk⟩ (fun u h=>trivial) ?_
  rintro⟨j,hj,hjf⟩ g3
  by_cases hj2:j≤64
  case neg=>
   obtain rfl:j=65:=by omega
   refine ZR ?_
   refine ZI false ?_
   refine K0.leave Zk ?_
   refine ZR ?_
   exact ZX (.tuple #[.int .i64 0,.int .i64 11]) (by rw[e0,←hjf];rfl)
  have e1:65-j=(64-j)+1:=by omega
  rw[e1,Cb need j (64-j)]at hjf
  refine ZR ?_
  refine ZJ (decide ((j:Int)≤64)) true (decide_eq_true Zo) ?_
  cases hpc:pcC need j with
  |true=>
   rw[hpc]at hjf
   refine ZJ (pcC need j) true (hpc) ?_
   refine K0.leave Zk ?_
   refine ZR ?_
   exact ZX (.tuple #[.int .i64 (j:Int),.int .i64 0]) (by rw[e0,←hjf];rfl)
  |false=>
  rw[hpc]at hjf
  refine ZJ (pcC need j) false (hpc) ?_
  refine K0.slot 10 (.int .i64 (IntKind.i64.wrap ((j:Int)+1))) (.int .i64 ((j+1:Nat):Int)) Zk (by rw[IntWalk.i64_in _ Zo];rfl) ?_
  refine K0.next (⟨j+1,⟨by omega,by omega⟩,by rw[show 65- (j+1)=64-j by omega];exact hjf⟩) Zk (by show 65- (j+1)<65-j;omega) ⟨Zk,Zk,Zk⟩ (fun u h=>trivial)
 obtain⟨p,hp⟩:∃p,l[k]? =some p:=⟨_,List.getElem?_eq_getElem (by rw[hr.1];exact hlt)⟩
 obtain⟨ad,hA,hc⟩:=hr.2 k p hp
 refine ZR ?_
 refine ZJ (decide ((k:Int)<(n:Int))) true (decide_eq_true Zo) ?_
 refine ZA (Kc 108 (.slice A n c) k) (.pointer (some (ad.add (k*2)))) (fun w1 hw h=>Pe hA hlt) ?_
 refine ZA (Kd 35 (ad.add (k*2))) (Ls p) (fun w1 hw h=>R1 fun i v hi=>Kt hw (hc i v hi)) ?_
 cases hvp:vP p with
 |false=>
  have e0:Ph need l=(0,6):=by unfold Ph;rw[if_neg fun h2=>by rw[List.all_eq_true]at h2;rw[h2 p (List.mem_of_getElem? hp)]at hvp;cases hvp]
  refine ZC (fun w1 hw h=>Nh hvp) fun vp=> ?_
  refine ZI true ?_
  refine K0.leave Zk ?_
  refine ZR ?_
  exact ZX (.tuple #[.int .i64 0,.int .i64 6]) (by rw[e0])
 |true=>
 refine ZC (fun w1 hw h=>Nh hvp) fun vp=> ?_
 refine ZI false ?_
 refine K0.slot 19 (.int .i64 (IntKind.i64.wrap ((k:Int)+1))) (.int .i64 ((k+1:Nat):Int)) Zk (by rw[K7 hlt Zo]) ?_
 refine K0.next (⟨k+1,hlt,by show(l.take (k+1)).all vP=true;rw[Lb hp,List.all_append,show(l.take k).all vP=true from hall];simp[hvp]⟩) Zk (by show n- (k+1)<n-k;omega) ⟨Zk,Zk,Zk⟩ (fun _ _=>trivial)
end
section
variable{w u:World}{A:Option Addr}{n c m:Nat}{l:List Pt}{a b d e:Pt}{W:World}
theorem Gz{need:Int}:∀(f n:Nat),1≤n→(Sy need n f).2=0→(1:Int)≤(Sy need n f).1∧(Sy need n f).1≤n+f-1
 |0,n,hn,h=>by cases h
 | f+1,n,hn,h=>by
  rw[Cb]at h ⊢
  split
  ·dsimp only;omega
  ·rename_i h1
   rw[if_neg h1]at h
   have:=Gz f (n+1) Zo h
   omega
theorem D8{need:Int}(h:(Ph need l).2=0):l.all vP=true∧(1:Int)≤(Ph need l).1∧(Ph need l).1≤64:=by
 unfold Ph at h ⊢
 split at h
 ·rename_i h1
  rw[if_pos h1]
  have:=Gz 64 1 (Nat.le_refl _) h
  exact⟨h1,by omega,by omega⟩
 ·cases h
def q3C(a b d:Pt):List Value:=[a,b,d].flatMap Kf
def q4C(a b d e:Pt):List Value:=[a,b,d,e].flatMap Kf
abbrev q3V(a b d:Pt):Value:= .agg (q3C a b d).toArray
abbrev q4V(a b d e:Pt):Value:= .agg (q4C a b d e).toArray
def cuM(a b d e:Pt):Int:=wr (9*(if Ip b d e>Ip a b d then Ip b d e else Ip a b d))
theorem K8.sub{g off:Nat}{cs vs:List Value}(h:K8 u g cs)(hs:∀(j:Nat) (v:Value),vs[j]? =some v→cs[off+j]? =some v):u.rangeAt g off vs:=fun j v hj=>by
 have:=h.range (off+j) v (hs j v hj)
 rw[Nat.zero_add]at this;exact this
theorem Ik{l:List Pt}{k:Nat}{p:Pt}(hk:l[k]? =some p):∀(j:Nat) (v:Value),(Kf p)[j]? =some v→(l.flatMap Kf)[k*2+j]? =some v:=fun j v hj=>Pm (cl:=Kf) (fun _=>rfl) l k p j v hk hj
theorem K8.row{g:Nat}{l:List Pt}(h:K8 u g (l.flatMap Kf)):Kq u (some ⟨g,0,none⟩) l.length 2 Kf l:=by
 obtain⟨ty,h⟩:=h
 exact Kq.lit (fun _=>rfl) h
def Ca(k i m x y z:Int):Int:=nearM (wr (wr (wr (wr (k*k)*x)+wr (wr (wr (2*i)*k)*y))+wr (wr (i*i)*z))) (wr (m*m))
theorem K8.loadJ{P:Program}{g j:Nat}{cs:List Value}{v:Value}{t:TypeId}(h:K8 u g cs)(ht:Ob P t=some false)(hj:cs[j]? =some v):(Kd t ⟨g,j,none⟩).run P u= .ok (.value v) u:=Kg ht (by have:=h.range j v hj;rw[Nat.zero_add]at this;exact this)
def cubM(k i m x y z t:Int):Int:=nearM (wr (wr (wr (wr (wr (wr (k*k)*k)*x)+wr (wr (wr (wr (3*i)*k)*k)*y))+wr (wr (wr (wr (3*i)*i)*k)*z))+wr (wr (wr (i*i)*i)*t))) (wr (wr (m*m)*m))
theorem qseg_m:Calls Tryz.prog 146 #[q3V a b d,.int .i64 32] w (K3 w (fun _:Unit=> .tuple #[.int .i64 (Ph (Ip a b d) [a,b,d]).1,.int .i64 (Ph (Ip a b d) [a,b,d]).2]) fun _ _=>True):=by
 refine K0.enter Tryz.func146 rfl ?_
 refine ZS 0 ?_
 refine K0.run Zk (stop:=1000) 3 _ ?_
 refine K0.expose 2 (q3C a b d) Zk Zk (fun g hg=> ?_)
 refine ZR ?_
 refine ZB 1 (Kd 35 ⟨g,0,none⟩) (Ls a) (fun w1 hw h=>Ka (vs:=Kf a) Zk Zk (h.2.sub (Ik (k:=0) rfl))) ?_
 refine ZB 3 (Kd 35 ⟨g,2,none⟩) (Ls b) (fun w1 hw h=>Ka (vs:=Kf b) Zk Zk (h.2.sub (Ik (k:=1) rfl))) ?_
 refine ZB 5 (Kd 35 ⟨g,4,none⟩) (Ls d) (fun w1 hw h=>Ka (vs:=Kf d) Zk Zk (h.2.sub (Ik (k:=2) rfl))) ?_
 refine ZC (fun w1 hw h=>Dx (a:=a) (b:=b) (c:=d)) fun sq=> ?_
 refine ZC (fun w1 hw h=>pcs_m (need:=Ip a b d) (l:=[a,b,d]) (c:=3) h.1.2.row Zs) fun pc=> ?_
 exact ZW (.tuple #[.int .i64 (Ph (Ip a b d) [a,b,d]).1,.int .i64 (Ph (Ip a b d) [a,b,d]).2])
theorem cseg_m:Calls Tryz.prog 151 #[q4V a b d e,.int .i64 32] w (K3 w (fun _:Unit=> .tuple #[.int .i64 (Ph (cuM a b d e) [a,b,d,e]).1,.int .i64 (Ph (cuM a b d e) [a,b,d,e]).2]) fun _ _=>True):=by
 refine K0.enter Tryz.func151 rfl ?_
 refine ZS 0 ?_
 refine K0.run Zk (stop:=1000) 3 _ ?_
 refine K0.expose 2 (q4C a b d e) Zk Zk (fun g hg=> ?_)
 refine ZR ?_
 refine ZB 1 (Kd 35 ⟨g,0,none⟩) (Ls a) (fun w1 hw h=>Ka (vs:=Kf a) Zk Zk (h.2.sub (Ik (k:=0) rfl))) ?_
 refine ZB 3 (Kd 35 ⟨g,2,none⟩) (Ls b) (fun w1 hw h=>Ka (vs:=Kf b) Zk Zk (h.2.sub (Ik (k:=1) rfl))) ?_
 refine ZB 5 (Kd 35 ⟨g,4,none⟩) (Ls d) (fun w1 hw h=>Ka (vs:=Kf d) Zk Zk (h.2.sub (Ik (k:=2) rfl))) ?_
 refine ZB 8 (Kd 35 ⟨g,2,none⟩) (Ls b) (fun w1 hw h=>Ka (vs:=Kf b) Zk Zk (h.2.sub (Ik (k:=1) rfl))) ?_
 refine ZB 10 (Kd 35 ⟨g,4,none⟩) (Ls d) (fun w1 hw h=>Ka (vs:=Kf d) Zk Zk (h.2.sub (Ik (k:=2) rfl))) ?_
 refine ZB 12 (Kd 35 ⟨g,6,none⟩) (Ls e) (fun w1 hw h=>Ka (vs:=Kf e) Zk Zk (h.2.sub (Ik (k:=3) rfl))) ?_
 refine ZC (fun w1 hw h=>Dx (a:=a) (b:=b) (c:=d)) fun sq=> ?_
 refine ZC (fun w1 hw h=>Dx (a:=b) (b:=d) (c:=e)) fun sr=> ?_
 refine ZC (fun w1 hw h=>pcs_m (need:=cuM a b d e) (l:=[a,b,d,e]) (c:=4) h.1.1.2.row Zs) fun pc=> ?_
 exact ZW (.tuple #[.int .i64 (Ph (cuM a b d e) [a,b,d,e]).1,.int .i64 (Ph (cuM a b d e) [a,b,d,e]).2])
theorem qat1_m{gk gi gn:Nat}{k i m x y z:Int}(h1:K8 w gk [.int .i64 k])(h2:K8 w gi [.int .i64 i])(h3:K8 w gn [.int .i64 m])(hm:wr (2*wr (m*m))≠0):
 Calls Tryz.prog 221 #[.int .i64 x,.int .i64 y,.int .i64 z,Ku gk,Ku gi,Ku gn] w (K3 w (fun _:Unit=> .int .i64 (Ca k i m x y z)) fun _ _=>True):=by
 refine K0.enter Tryz.func221 rfl ?_
 refine ZR ?_
 refine ZA (Kd 3 ⟨gk,0,none⟩) (.int .i64 k) (fun w1 hw h=>(h1.bel hw).load1 Zk) ?_
 refine ZA (Kd 3 ⟨gk,0,none⟩) (.int .i64 k) (fun w1 hw h=>(h1.bel hw).load1 Zk) ?_
 refine ZA (Kd 3 ⟨gi,0,none⟩) (.int .i64 i) (fun w1 hw h=>(h2.bel hw).load1 Zk) ?_
 refine ZA (Kd 3 ⟨gk,0,none⟩) (.int .i64 k) (fun w1 hw h=>(h1.bel hw).load1 Zk) ?_
 refine ZA (Kd 3 ⟨gi,0,none⟩) (.int .i64 i) (fun w1 hw h=>(h2.bel hw).load1 Zk) ?_
 refine ZA (Kd 3 ⟨gi,0,none⟩) (.int .i64 i) (fun w1 hw h=>(h2.bel hw).load1 Zk) ?_
 refine ZA (Kd 3 ⟨gn,0,none⟩) (.int .i64 m) (fun w1 hw h=>(h3.bel hw).load1 Zk) ?_
 refine ZA (Kd 3 ⟨gn,0,none⟩) (.int .i64 m) (fun w1 hw h=>(h3.bel hw).load1 Zk) ?_
 refine ZC (fun w1 hw h=>near_m (a:=wr (wr (wr (wr (k*k)*x)+wr (wr (wr (2*i)*k)*y))+wr (wr (i*i)*z))) hm) fun nr=> ?_
 exact ZW (.int .i64 (Ca k i m x y z))
theorem wr_sq{m:Int}(h:1≤m∧m≤64):wr (2*wr (m*m))≠0:=by
 have h1:1≤m*m:=by have:=Int.mul_le_mul h.1 h.1 Zd Zo;omega
 have h2:m*m≤64*64:=Int.mul_le_mul h.2 h.2 Zo Zd
 unfold wr
 rw[IntWalk.i64_in (m*m) Zo,IntWalk.i64_in _ Zo];omega
theorem qat_m{i m:Int}(hv: [a,b,d].all vP=true)(hm:1≤m∧m≤64)(hi:0≤i∧i≤m):
 Calls Tryz.prog 150 #[q3V a b d,.int .i64 i,.int .i64 m] w (K3 w (fun _:Unit=>Ls (Ca (wr (m-i)) i m a.1 b.1 d.1,Ca (wr (m-i)) i m a.2 b.2 d.2)) fun _ _=>True):=by
 refine K0.enter Tryz.func150 rfl ?_
 refine ZS 0 ?_
 refine K0.run Zk (stop:=1000) 4 _ ?_
 refine K0.expose 3 (q3C a b d) Zk Zk (fun g hg=> ?_)
 refine K0.expose 4 [.int .i64 i] Zk Zk (fun gi hgi=> ?_)
 refine K0.expose 5 [.int .i64 m] Zk Zk (fun gm hgm=> ?_)
 refine ZR ?_
 refine ZB 1 (Kd 3 ⟨gi,0,none⟩) (.int .i64 i) (fun w1 hw h=>h.1.2.load1 Zk) ?_
 refine ZB 2 (Kd 3 ⟨gm,0,none⟩) (.int .i64 m) (fun w1 hw h=>h.2.load1 Zk) ?_
 refine ZC (fun w1 hw h=>may2_m (l:=[a,b,d]) (c:=3) h.1.1.2.row Zs hv hm hi) fun my=> ?_
 refine ZI false ?_
 refine ZA (Kd 3 ⟨gm,0,none⟩) (.int .i64 m) (fun w1 hw h=>h.1.2.load1 Zk) ?_
 refine ZA (Kd 3 ⟨gi,0,none⟩) (.int .i64 i) (fun w1 hw h=>h.1.1.2.load1 Zk) ?_
 refine K0.expose 7 [.int .i64 (wr (m-i))] Zk Zk (fun gk hgk=> ?_)
 refine K0.run Zk (stop:=1000) 2 _ ?_
 refine ZT 8 (.func (.func 221) #[] #[Ku gk,Ku gi,Ku gm]) (.func (.func 221) #[] #[Ku gk,Ku gi,Ku gm]) (rfl) ?_
 refine ZB 3 (Kd 3 ⟨g,0,none⟩) (.int .i64 a.1) (fun w1 hw h=>h.1.1.1.1.2.loadJ Zk rfl) ?_
 refine ZB 6 (Kd 3 ⟨g,2,none⟩) (.int .i64 b.1) (fun w1 hw h=>h.1.1.1.1.2.loadJ Zk rfl) ?_
 refine ZB 9 (Kd 3 ⟨g,4,none⟩) (.int .i64 d.1) (fun w1 hw h=>h.1.1.1.1.2.loadJ Zk rfl) ?_
 refine ZB 14 (Kd 3 ⟨g,1,none⟩) (.int .i64 a.2) (fun w1 hw h=>h.1.1.1.1.2.loadJ Zk rfl) ?_
 refine ZB 17 (Kd 3 ⟨g,3,none⟩) (.int .i64 b.2) (fun w1 hw h=>h.1.1.1.1.2.loadJ Zk rfl) ?_
 refine ZB 20 (Kd 3 ⟨g,5,none⟩) (.int .i64 d.2) (fun w1 hw h=>h.1.1.1.1.2.loadJ Zk rfl) ?_
 have hn:=wr_sq hm
 refine ZC (fun w1 hw h=>qat1_m (k:=wr (m-i)) (i:=i) (m:=m) (x:=a.1) (y:=b.1) (z:=d.1) h.2 h.1.1.1.2 h.1.1.2 hn) fun q1=> ?_
 refine ZC (fun w1 hw h=>qat1_m (k:=wr (m-i)) (i:=i) (m:=m) (x:=a.2) (y:=b.2) (z:=d.2) h.1.2 h.1.1.1.1.2 h.1.1.1.2 hn) fun q2=> ?_
 exact ZW (Ls (Ca (wr (m-i)) i m a.1 b.1 d.1,Ca (wr (m-i)) i m a.2 b.2 d.2))
theorem cat1_m{gk gi gn:Nat}{k i m x y z t:Int}(h1:K8 w gk [.int .i64 k])(h2:K8 w gi [.int .i64 i])(h3:K8 w gn [.int .i64 m])(hm:wr (2*wr (wr (m*m)*m))≠0):
 Calls Tryz.prog 223 #[.int .i64 x,.int .i64 y,.int .i64 z,.int .i64 t,Ku gk,Ku gi,Ku gn] w (K3 w (fun _:Unit=> .int .i64 (cubM k i m x y z t)) fun _ _=>True):=by
 refine K0.enter Tryz.func223 rfl ?_
 refine ZR ?_
 refine ZA (Kd 3 ⟨gk,0,none⟩) (.int .i64 k) (fun w1 hw h=>(h1.bel hw).load1 Zk) ?_
 refine ZA (Kd 3 ⟨gk,0,none⟩) (.int .i64 k) (fun w1 hw h=>(h1.bel hw).load1 Zk) ?_
 refine ZA (Kd 3 ⟨gk,0,none⟩) (.int .i64 k) (fun w1 hw h=>(h1.bel hw).load1 Zk) ?_
 refine ZA (Kd 3 ⟨gi,0,none⟩) (.int .i64 i) (fun w1 hw h=>(h2.bel hw).load1 Zk) ?_
 refine ZA (Kd 3 ⟨gk,0,none⟩) (.int .i64 k) (fun w1 hw h=>(h1.bel hw).load1 Zk) ?_
 refine ZA (Kd 3 ⟨gk,0,none⟩) (.int .i64 k) (fun w1 hw h=>(h1.bel hw).load1 Zk) ?_
 refine ZA (Kd 3 ⟨gi,0,none⟩) (.int .i64 i) (fun w1 hw h=>(h2.bel hw).load1 Zk) ?_
 refine ZA (Kd 3 ⟨gi,0,none⟩) (.int .i64 i) (fun w1 hw h=>(h2.bel hw).load1 Zk) ?_
 refine ZA (Kd 3 ⟨gk,0,none⟩) (.int .i64 k) (fun w1 hw h=>(h1.bel hw).load1 Zk) ?_
 refine ZA (Kd 3 ⟨gi,0,none⟩) (.int .i64 i) (fun w1 hw h=>(h2.bel hw).load1 Zk) ?_
 refine ZA (Kd 3 ⟨gi,0,none⟩) (.int .i64 i) (fun w1 hw h=>(h2.bel hw).load1 Zk) ?_
 refine ZA (Kd 3 ⟨gi,0,none⟩) (.int .i64 i) (fun w1 hw h=>(h2.bel hw).load1 Zk) ?_
 refine ZA (Kd 3 ⟨gn,0,none⟩) (.int .i64 m) (fun w1 hw h=>(h3.bel hw).load1 Zk) ?_
 refine ZA (Kd 3 ⟨gn,0,none⟩) (.int .i64 m) (fun w1 hw h=>(h3.bel hw).load1 Zk) ?_
 refine ZA (Kd 3 ⟨gn,0,none⟩) (.int .i64 m) (fun w1 hw h=>(h3.bel hw).load1 Zk) ?_
 refine ZC (fun w1 hw h=>near_m (a:=wr (wr (wr (wr (wr (wr (k*k)*k)*x)+wr (wr (wr (wr (3*i)*k)*k)*y))+wr (wr (wr (wr (3*i)*i)*k)*z))+wr (wr (wr (i*i)*i)*t))) hm) fun nr=> ?_
 exact ZW (.int .i64 (cubM k i m x y z t))
theorem wr_cu{m:Int}(h:1≤m∧m≤64):wr (2*wr (wr (m*m)*m))≠0:=by
 have h1:1≤m*m:=by have:=Int.mul_le_mul h.1 h.1 Zd Zo;omega
 have h2:m*m≤64*64:=Int.mul_le_mul h.2 h.2 Zo Zd
 have h3:1≤m*m*m:=by have:=Int.mul_le_mul h1 h.1 Zd Zo;omega
 have h4:m*m*m≤64*64*64:=Int.mul_le_mul h2 h.2 Zo Zd
 unfold wr
 rw[IntWalk.i64_in (m*m) Zo,IntWalk.i64_in (m*m*m) Zo,IntWalk.i64_in _ Zo];omega
theorem cat_m{i m:Int}(hv: [a,b,d,e].all vP=true)(hm:1≤m∧m≤64)(hi:0≤i∧i≤m):
 Calls Tryz.prog 153 #[q4V a b d e,.int .i64 i,.int .i64 m] w (K3 w (fun _:Unit=>Ls (cubM (wr (m-i)) i m a.1 b.1 d.1 e.1,cubM (wr (m-i)) i m a.2 b.2 d.2 e.2)) fun _ _=>True):=by
 refine K0.enter Tryz.func153 rfl ?_
 refine ZS 0 ?_
 refine K0.run Zk (stop:=1000) 4 _ ?_
 refine K0.expose 3 (q4C a b d e) Zk Zk (fun g hg=> ?_)
 refine K0.expose 4 [.int .i64 i] Zk Zk (fun gi hgi=> ?_)
 refine K0.expose 5 [.int .i64 m] Zk Zk (fun gm hgm=> ?_)
 refine ZR ?_
 refine ZB 1 (Kd 3 ⟨gi,0,none⟩) (.int .i64 i) (fun w1 hw h=>h.1.2.load1 Zk) ?_
 refine ZB 2 (Kd 3 ⟨gm,0,none⟩) (.int .i64 m) (fun w1 hw h=>h.2.load1 Zk) ?_
 refine ZC (fun w1 hw h=>may2_m (l:=[a,b,d,e]) (c:=4) h.1.1.2.row Zs hv hm hi) fun my=> ?_
 refine ZI false ?_
 refine ZA (Kd 3 ⟨gm,0,none⟩) (.int .i64 m) (fun w1 hw h=>h.1.2.load1 Zk) ?_
 refine ZA (Kd 3 ⟨gi,0,none⟩) (.int .i64 i) (fun w1 hw h=>h.1.1.2.load1 Zk) ?_
 refine K0.expose 7 [.int .i64 (wr (m-i))] Zk Zk (fun gk hgk=> ?_)
 refine K0.run Zk (stop:=1000) 2 _ ?_
 refine ZT 8 (.func (.func 223) #[] #[Ku gk,Ku gi,Ku gm]) (.func (.func 223) #[] #[Ku gk,Ku gi,Ku gm]) (rfl) ?_
 refine ZB 3 (Kd 3 ⟨g,0,none⟩) (.int .i64 a.1) (fun w1 hw h=>h.1.1.1.1.2.loadJ Zk rfl) ?_
 refine ZB 6 (Kd 3 ⟨g,2,none⟩) (.int .i64 b.1) (fun w1 hw h=>h.1.1.1.1.2.loadJ Zk rfl) ?_
 refine ZB 9 (Kd 3 ⟨g,4,none⟩) (.int .i64 d.1) (fun w1 hw h=>h.1.1.1.1.2.loadJ Zk rfl) ?_
 refine ZB 12 (Kd 3 ⟨g,6,none⟩) (.int .i64 e.1) (fun w1 hw h=>h.1.1.1.1.2.loadJ Zk rfl) ?_
 refine ZB 17 (Kd 3 ⟨g,1,none⟩) (.int .i64 a.2) (fun w1 hw h=>h.1.1.1.1.2.loadJ Zk rfl) ?_
 refine ZB 20 (Kd 3 ⟨g,3,none⟩) (.int .i64 b.2) (fun w1 hw h=>h.1.1.1.1.2.loadJ Zk rfl) ?_
 refine ZB 23 (Kd 3 ⟨g,5,none⟩) (.int .i64 d.2) (fun w1 hw h=>h.1.1.1.1.2.loadJ Zk rfl) ?_
 refine ZB 26 (Kd 3 ⟨g,7,none⟩) (.int .i64 e.2) (fun w1 hw h=>h.1.1.1.1.2.loadJ Zk rfl) ?_
 have hn:=wr_cu hm
 refine ZC (fun w1 hw h=>cat1_m (k:=wr (m-i)) (i:=i) (m:=m) (x:=a.1) (y:=b.1) (z:=d.1) (t:=e.1) h.2 h.1.1.1.2 h.1.1.2 hn) fun q1=> ?_
 refine ZC (fun w1 hw h=>cat1_m (k:=wr (m-i)) (i:=i) (m:=m) (x:=a.2) (y:=b.2) (z:=d.2) (t:=e.2) h.1.2 h.1.1.1.1.2 h.1.1.1.2 hn) fun q2=> ?_
 exact ZW (Ls (cubM (wr (m-i)) i m a.1 b.1 d.1 e.1,cubM (wr (m-i)) i m a.2 b.2 d.2 e.2))
end
abbrev ASt:=Nat×(Option Addr×Nat)
structure AJ(W:World)(go:Nat)(xs:List Pt)(s:ASt)(k:Nat)(u:World):Prop where
 kk:s.1=k
 box:Kb u go 108 [.slice s.2.1 k s.2.2]
 own:K6 u W.heap.size 35 2 s.2.1 k s.2.2 ((xs.take k).flatMap Kf)
def ALs(go:Nat)(s:ASt):List Nat:=go::bl s.2.1
structure AG(W:World)(go:Nat)(xs:List Pt)(s s':ASt)(u:World):Prop where
 kk:s'.1=s.1+1
 box:Kb u go 108 [.slice s'.2.1 (s.1+1) s'.2.2]
 own:K6 u W.heap.size 35 2 s'.2.1 (s.1+1) s'.2.2 ((xs.take (s.1+1)).flatMap Kf)
section
variable{w W w0 wa u:World}{go l k:Nat}{xs:List Pt}{s s':ASt}
theorem als_mem{x:Nat}:x∈ALs go s↔x=go∨x∈bl s.2.1:=by unfold ALs;simp
theorem AJ.ow(hgo:W.heap.size≤go):Uv W (ALs go s) (AJ W go xs s k):=fun u h x hx=>by
 rcases als_mem.1 hx with rfl|hx
 ·exact⟨hgo,h.box.own⟩
 ·exact⟨(h.own.blk x hx).1,(h.own.blk x hx).2⟩
theorem AJ.left:Tt (ALs go s) (AJ W go xs s k) (AG W go xs s s') (AJ W go xs s' (k+1)):=fun wa u e1 e2 h hG=>by
 have hk:=h.kk
 subst hk
 exact⟨hG.kk,hG.box,hG.own⟩
theorem AJ.cel:C4 (AJ W go xs s k):=fun wa u h1 h2 h=>
 ⟨h.kk,Kb.cel wa u h1 h2 h.box,K6.cel wa u h1 h2 h.own⟩
structure ARd(W w0:World)(l:Nat)(rc:Loop)(go:Nat)(xs:List Pt)(s:ASt)(y':Option Addr×Nat)(u:World):Prop where
 f:RFL W w0 l (ALs go s) rc u
 own:K6 u W.heap.size 35 2 y'.1 (s.1+1) y'.2 ((xs.take (s.1+1)).flatMap Kf)
 bk:∀b∈bl y'.1,b∈bl s.2.1∨w0.heap.size≤b
theorem app_fr{z:Option Addr×Nat}{acc:List Pt}{p:Pt}{B m M gb:Nat}(ho:K6 u B 35 2 z.1 m z.2 (acc.flatMap Kf))(hB:B≤u.heap.size)(hM:M≤u.heap.size)(hg:Kv 35 (Kf p).toArray gb u)(hm:m≤10000000):
 Nf Tryz.prog u (bl z.1) (fun z:Option Addr×Nat=> .slice z.1 (m+1) z.2) (fun z' v=>K6 v B 35 2 z'.1 (m+1) z'.2 ((acc++ [p]).flatMap Kf)∧∀b∈bl z'.1,b∈bl z.1∨M≤b) (Nc 108 108 (.slice z.1 m z.2) (Km 1 gb)):=by
 have ha:=M9 (P:=Tryz.prog) (s:=2) (z:=pt 0 0) (bytes:=16) (m:=1) (cc:=1) (t:=108) (elem:=35) Zk Zk rfl Zd ho hB (M8 (n:=1) hg rfl) (by intro v hv;simp[Kf]at hv;rcases hv with rfl|rfl<;>rfl) Zo Zd
 have e:(acc++ [p]).flatMap Kf=acc.flatMap Kf++(Kf p).toArray.toList:=by simp
 rw[e]
 refine Oy ha fun z' hz b hb=> ?_
 rcases hz b hb with h5|h5
 ·exact .inl h5
 ·exact .inr Zo
theorem all_m{gn ga:Nat}(hxl:xs.length≤1000)(hit:I3 Tryz.prog w 219 #[Ku gn,Ku ga] (fun p:Pt=> #[Ls p]) xs fun _=>True):
 Calls Tryz.prog 147 #[.func (.func 219) #[] #[Ku gn,Ku ga]] w (K3 w (fun y:Option Addr×Nat=> .slice y.1 xs.length y.2) fun y u=>K6 u w.heap.size 35 2 y.1 xs.length y.2 (xs.flatMap Kf)):=by
 refine K0.enterM Tryz.func147 rfl (Below.refl _ _) ?_
 refine ZS 0 ?_
 refine K0.run Zk (stop:=1000) 1 _ ?_
 refine ZS 0 ?_
 refine K0.make (C1 108) (Ku) (fun g u=>Kb u g 108 [.slice none 0 0]∧w.heap.size≤g∧g∉[]) Zk (fun w1 hw h=>Q4 (z:= .slice none 0 0) Zk hw.size Zs) (fun go=> ?_)
 refine ZR ?_
 refine K0.pure_ (p:=w.heap.size≤go) (fun u hu h=>h.2.2.1) Zk (fun hgo=> ?_)
 refine K0.rangeC (α:=Pt) (gf:=219) (lb:= #[Ku gn,Ku ga]) (ps:= #[6]) (encs:=fun p=> #[Ls p]) (xs:=xs) (Pre:=fun _=>True) ASt (fun s k u=>AJ w go xs s k u) (ALs go) (fun s s' u=>AG w go xs s s' u) (0,(none,0)) Zk (fun w1 hw h=>hit) (enters_of Tryz.func219 Zk rfl) (fun x=>rfl) (fun s k u h=>trivial) (fun s k=>AJ.ow hgo) (fun s k s'=>AJ.left) (fun s k=>AJ.cel) (fun u h=>⟨rfl,h.2.1,K6.nil_⟩) (fun l s k' x w0 fn tmps D hw0 hl hlt hlL hrec hx hRF R hR=> ?_) (fun s D hD=> ?_)
 rotate_left
 ·obtain⟨cnt,y⟩:=s
  refine ZR ?_
  refine ZA (Kd 108 ⟨go,0,none⟩) (.slice y.1 xs.length y.2) (fun w1 hw h=>h.1.box.load1 Zk) ?_
  refine K0.retM (v:= .slice y.1 xs.length y.2) (J:=fun u=>AJ w go xs (cnt,y) xs.length u) (fun wa u h1 h2 h=>AJ.cel wa u h1 h2 h) hD Zk (fun w1 hw h=>⟨y,rfl,hw,fun u k1 k2=>by have h2:=(h u ⟨k1,fun b h1 h2=>k2 b h1 h2⟩).own;rw[List.take_length]at h2;exact h2⟩)
 have hJ0:=hRF _ w0 ⟨Nat.le_refl _,fun _ _ _ _=>rfl,hrec⟩
 obtain rfl:s.1=k':=hJ0.kk
 have hkl:s.1<xs.length:=(List.getElem?_eq_some_iff.1 hx).1
 have htk:xs.take (s.1+1)=xs.take s.1++ [x]:=Lb hx
 refine ZR ?_
 refine K0.begin Zk hl ?_
 refine ZR ?_
 refine ZA (Kd 108 ⟨go,0,none⟩) (.slice s.2.1 s.1 s.2.2) (fun w1 hw h=>(hRF _ w1 h).box.load1 Zk) ?_
 refine K0.make (M5 (108) 1 #[(0,Ls x)]) (Km 1) (Kv 35 (Kf x).toArray) Zk (fun w1 hw h=>Ke Zk) (fun gb=> ?_)
 refine ZS 3 ?_
 refine K0.mutOp (L:=bl s.2.1) (val:=fun z':Option Addr×Nat=> .slice z'.1 (s.1+1) z'.2) (Φ':=fun z' u=>ARd w w0 l (Yb fn tmps #[6] _ _ D .busy) go xs s z' u∧Kb u go 108 [.slice s.2.1 s.1 s.2.2]) (G:=fun z' v=>K6 v w.heap.size 35 2 z'.1 (s.1+1) z'.2 ((xs.take (s.1+1)).flatMap Kf)∧∀b∈bl z'.1,b∈bl s.2.1∨w0.heap.size≤b) (Nc 108 108 (.slice s.2.1 s.1 s.2.2) (Km 1 gb)) (fun w1 hw h=>by rw[htk];exact app_fr (hRF _ w1 h.1).own hw.size h.1.1 h.2 Zo) (fun u h=>(hRF _ u h.1).own.blk) (fun z' wa u e1 e2 h hG=>⟨⟨RFL.left ⟨h.1.1,fun b k1 k2 k3 _=>h.1.2.1 b k1 k2 k3,h.1.2.2⟩ e1 e2 (fun b hb=> .inl (als_mem.2 (.inr hb))) (fun b hb=>((hRF _ wa h.1).own.blk b hb).2),hG.1,hG.2⟩,(hRF _ wa h.1).box.left e2 (fun hb=>(hRF _ wa h.1).box.ne (hRF _ wa h.1).own Zd _ hb rfl)⟩) Zk Zk (fun z'=> ?_)
 refine ZR ?_
 refine K0.mutSt (L:=[go]) (G:=fun u=>Kb u go 108 [.slice z'.1 (s.1+1) z'.2]) (Φ':=fun u=>ARd w w0 l (Yb fn tmps #[6] _ _ D .busy) go xs s z' u∧Kb u go 108 [.slice z'.1 (s.1+1) z'.2]) (Rm 108 ⟨go,0,none⟩ (.slice z'.1 (s.1+1) z'.2)) (fun w1 hw h=>h.2.store Zk rfl (fun v hv=>by have hv:=List.mem_singleton.1 hv;subst hv;rfl)) (fun u h b hb=>by have hb:=List.mem_singleton.1 hb;subst hb;exact⟨hgo,h.2.own⟩) (fun wa u e1 e2 h hG=>⟨⟨h.1.f.left e1 e2 (fun b hb=> .inl (als_mem.2 (.inl (List.mem_singleton.1 hb)))) (fun b hb=>by have hb:=List.mem_singleton.1 hb;subst hb;exact h.2.own),h.1.own.left e2 (fun b hb hc=>h.2.ne h.1.own Zd b hb (List.mem_singleton.1 hc)),h.1.bk⟩,hG⟩) Zk Zk ?_
 refine ZR ?_
 refine K0.rend ((s.1+1,z'):ASt) Zk hl hlt hlL hrec hw0 (fun w1 hw1 h=> ?_)
 have h0:=h w1 ⟨Nat.le_refl _,fun _ _ _=>rfl⟩
 refine⟨h0.1.f.2.2,h0.1.f.1,h0.1.f.2.1,fun u k1 k2=>⟨rfl,h0.2.to (k2 go (.inl (als_mem.2 (.inl rfl)))),h0.1.own.same fun b hb=>k2 b ?_⟩⟩
 rcases h0.1.bk b hb with h4|h4
 ·exact .inl (als_mem.2 (.inr h4))
 ·exact .inr ⟨h4,(h0.1.own.lt b hb).2⟩
end
def Ee(a b d:Pt)(m i:Int):Pt:=(Ca (wr (m-i)) i m a.1 b.1 d.1,Ca (wr (m-i)) i m a.2 b.2 d.2)
def Fg(a b d e:Pt)(m i:Int):Pt:=(cubM (wr (m-i)) i m a.1 b.1 d.1 e.1,cubM (wr (m-i)) i m a.2 b.2 d.2 e.2)
def Qn(F:Int→Pt)(m:Nat):List Pt:=(List.range m).map fun i=>F ((i+1:Nat):Int)
theorem Gi{F:Int→Pt}{m k:Nat}(h:k<m):(Qn F m)[k]? =some (F ((k+1:Nat):Int)):=by
 unfold Qn;rw[List.getElem?_map,List.getElem?_range h];rfl
theorem Ry{F:Int→Pt}{m:Nat}:(Qn F m).length=m:=by simp[Qn]
section
variable{w W u:World}{a b d e:Pt}{gq gn g2 ga m:Nat}
theorem quad1_m{i:Int}(h1:K8 w gq (q3C a b d))(h2:K8 w gn [.int .i64 (m:Int)])(hv: [a,b,d].all vP=true)(hm:1≤(m:Int)∧(m:Int)≤64)(hi:0≤i∧i≤m):
 Calls Tryz.prog 149 #[.int .i64 i,Ku gq,Ku gn] w (K3 w (fun _:Unit=>Ls (Ee a b d m i)) fun _ _=>True):=by
 refine K0.enter Tryz.func149 rfl ?_
 refine ZR ?_
 refine ZA (Kd 164 ⟨gq,0,none⟩) (q3V a b d) (fun w1 hw h=>Ka (vs:=q3C a b d) Zk Zk (h1.bel hw).range) ?_
 refine ZA (Kd 3 ⟨gn,0,none⟩) (.int .i64 (m:Int)) (fun w1 hw h=>(h2.bel hw).load1 Zk) ?_
 refine ZC (fun w1 hw h=>qat_m hv hm hi) fun q=> ?_
 exact ZW (Ls (Ee a b d m i))
theorem cubic1_m{i:Int}(h1:K8 w gq (q4C a b d e))(h2:K8 w gn [.int .i64 (m:Int)])(hv: [a,b,d,e].all vP=true)(hm:1≤(m:Int)∧(m:Int)≤64)(hi:0≤i∧i≤m):
 Calls Tryz.prog 152 #[.int .i64 i,Ku gq,Ku gn] w (K3 w (fun _:Unit=>Ls (Fg a b d e m i)) fun _ _=>True):=by
 refine K0.enter Tryz.func152 rfl ?_
 refine ZR ?_
 refine ZA (Kd 166 ⟨gq,0,none⟩) (q4V a b d e) (fun w1 hw h=>Ka (vs:=q4C a b d e) Zk Zk (h1.bel hw).range) ?_
 refine ZA (Kd 3 ⟨gn,0,none⟩) (.int .i64 (m:Int)) (fun w1 hw h=>(h2.bel hw).load1 Zk) ?_
 refine ZC (fun w1 hw h=>cat_m hv hm hi) fun q=> ?_
 exact ZW (Ls (Fg a b d e m i))
theorem quad_iter(h1:K8 W gq (q3C a b d))(h2:K8 W gn [.int .i64 (m:Int)])(h3:K8 W g2 [.int .i64 (m:Int)])(h4:K8 W ga [.func (.func 149) #[] #[Ku gq,Ku gn]])(hv: [a,b,d].all vP=true)(hm:1≤(m:Int)∧(m:Int)≤64):
 I3 Tryz.prog W 219 #[Ku g2,Ku ga] (fun p:Pt=> #[Ls p]) (Qn (Ee a b d m) m) (fun _=>True):=by
 intro l ι J L G s0 w hW hPre hOwn hLeft hy h0
 refine K0.enterW Tryz.func219 rfl hW ?_
 refine K0.weak (Φ':=fun u=>J s0 0 u∧w.heap.size≤u.heap.size) Zk (fun u hu=>⟨h0 u hu,hu.1⟩) ?_
 refine ZR ?_
 refine K0.loop (ι:={q:ι×Nat // q.2≤m}) 16 (fun q=>⟨[(0,.v (.func (.yield l) #[] #[])),(1,.v (Ku g2)),(2,.v (Ku ga)),(4,.v (.int .i64 ((q.1.2+1:Nat):Int)))],[]⟩) (fun q u=>J q.1.1 q.1.2 u∧w.heap.size≤u.heap.size) (fun q=>m-q.1.2) (⟨(s0,0),Nat.zero_le _⟩) Zk (fun _=>by kernel_rfl) ⟨Zk,Zk,Zk⟩ (fun _ h=>h) ?_
 rintro⟨⟨s,k⟩,hk⟩ gg
 have hk:k≤m:=hk
 by_cases hlt:k<m
 case neg=>
  obtain rfl:k=m:=by omega
  refine ZR ?_
  refine ZA (Kd 3 ⟨g2,0,none⟩) (.int .i64 (k:Int)) (fun w1 hw h=>(h3.bel hw).load1 Zk) ?_
  refine ZJ (decide (((k+1:Nat):Int)≤(k:Int))) false (decide_eq_false Zo) ?_
  refine K0.leave Zk ?_
  refine ZR ?_
  refine ZV (.tuple #[]) (fun w1 hw h=>⟨⟨_,rfl⟩,hw,(h w1 (Nat.le_refl _) fun _ _ _=>rfl).2,s,fun u hu=>by rw[Ry];exact(h u hu.1 hu.2).1⟩)
 refine ZR ?_
 refine ZA (Kd 3 ⟨g2,0,none⟩) (.int .i64 (m:Int)) (fun w1 hw h=>(h3.bel hw).load1 Zk) ?_
 refine ZJ (decide (((k+1:Nat):Int)≤(m:Int))) true (decide_eq_true Zo) ?_
 refine ZA (Kd 244 ⟨ga,0,none⟩) (.func (.func 149) #[] #[Ku gq,Ku gn]) (fun w1 hw h=>(h4.bel hw).load1 Zk) ?_
 refine ZC (fun w1 hw h=>quad1_m (i:=((k+1:Nat):Int)) (h1.bel hw) (h2.bel hw) hv hm ⟨by omega,by omega⟩) fun p=> ?_
 refine K0.yield (L:=L s) (val:=fun _:ι=> .bool true) (G:=G s) (Φ':=fun s' u=>J s' (k+1) u∧w.heap.size≤u.heap.size) (l:=l) (args:= #[Ls (Ee a b d m ((k+1:Nat):Int))]) (fun w1 hb hcl=>hy s k (Ee a b d m ((k+1:Nat):Int)) w1 hb (fun u hu=>(hcl u hu).1.1) (Gi hlt)) (fun u h=>hOwn s k u h.1.1) (fun s' wa u e1 e2 h hG=>⟨hLeft s k s' wa u e1 e2 h.1.1 hG,by rw[←e1];exact h.1.2⟩) Zk Zk (fun s'=> ?_)
 refine ZR ?_
 refine ZI false ?_
 refine K0.slot 4 (.int .i64 (IntKind.i64.wrap (((k+1:Nat):Int)+1))) (.int .i64 ((k+1+1:Nat):Int)) Zk (by rw[IntWalk.i64_in _ Zo];rfl) ?_
 refine K0.next (⟨(s',k+1),hlt⟩) Zk (by show m- (k+1)<m-k;omega) ⟨Zk,Zk,Zk⟩ (fun _ h=>h)
theorem cubic_iter(h1:K8 W gq (q4C a b d e))(h2:K8 W gn [.int .i64 (m:Int)])(h3:K8 W g2 [.int .i64 (m:Int)])(h4:K8 W ga [.func (.func 152) #[] #[Ku gq,Ku gn]])(hv: [a,b,d,e].all vP=true)(hm:1≤(m:Int)∧(m:Int)≤64):
 I3 Tryz.prog W 219 #[Ku g2,Ku ga] (fun p:Pt=> #[Ls p]) (Qn (Fg a b d e m) m) (fun _=>True):=by
 intro l ι J L G s0 w hW hPre hOwn hLeft hy h0
 refine K0.enterW Tryz.func219 rfl hW ?_
 refine K0.weak (Φ':=fun u=>J s0 0 u∧w.heap.size≤u.heap.size) Zk (fun u hu=>⟨h0 u hu,hu.1⟩) ?_
 refine ZR ?_
 refine K0.loop (ι:={q:ι×Nat // q.2≤m}) 16 (fun q=>⟨[(0,.v (.func (.yield l) #[] #[])),(1,.v (Ku g2)),(2,.v (Ku ga)),(4,.v (.int .i64 ((q.1.2+1:Nat):Int)))],[]⟩) (fun q u=>J q.1.1 q.1.2 u∧w.heap.size≤u.heap.size) (fun q=>m-q.1.2) (⟨(s0,0),Nat.zero_le _⟩) Zk (fun _=>by kernel_rfl) ⟨Zk,Zk,Zk⟩ (fun _ h=>h) ?_
 rintro⟨⟨s,k⟩,hk⟩ gg
 have hk:k≤m:=hk
 by_cases hlt:k<m
 case neg=>
  obtain rfl:k=m:=by omega
  refine ZR ?_
  refine ZA (Kd 3 ⟨g2,0,none⟩) (.int .i64 (k:Int)) (fun w1 hw h=>(h3.bel hw).load1 Zk) ?_
  refine ZJ (decide (((k+1:Nat):Int)≤(k:Int))) false (decide_eq_false Zo) ?_
  refine K0.leave Zk ?_
  refine ZR ?_
  refine ZV (.tuple #[]) (fun w1 hw h=>⟨⟨_,rfl⟩,hw,(h w1 (Nat.le_refl _) fun _ _ _=>rfl).2,s,fun u hu=>by rw[Ry];exact(h u hu.1 hu.2).1⟩)
 refine ZR ?_
 refine ZA (Kd 3 ⟨g2,0,none⟩) (.int .i64 (m:Int)) (fun w1 hw h=>(h3.bel hw).load1 Zk) ?_
 refine ZJ (decide (((k+1:Nat):Int)≤(m:Int))) true (decide_eq_true Zo) ?_
 refine ZA (Kd 244 ⟨ga,0,none⟩) (.func (.func 152) #[] #[Ku gq,Ku gn]) (fun w1 hw h=>(h4.bel hw).load1 Zk) ?_
 refine ZC (fun w1 hw h=>cubic1_m (i:=((k+1:Nat):Int)) (h1.bel hw) (h2.bel hw) hv hm ⟨by omega,by omega⟩) fun p=> ?_
 refine K0.yield (L:=L s) (val:=fun _:ι=> .bool true) (G:=G s) (Φ':=fun s' u=>J s' (k+1) u∧w.heap.size≤u.heap.size) (l:=l) (args:= #[Ls (Fg a b d e m ((k+1:Nat):Int))]) (fun w1 hb hcl=>hy s k (Fg a b d e m ((k+1:Nat):Int)) w1 hb (fun u hu=>(hcl u hu).1.1) (Gi hlt)) (fun u h=>hOwn s k u h.1.1) (fun s' wa u e1 e2 h hG=>⟨hLeft s k s' wa u e1 e2 h.1.1 hG,by rw[←e1];exact h.1.2⟩) Zk Zk (fun s'=> ?_)
 refine ZR ?_
 refine ZI false ?_
 refine K0.slot 4 (.int .i64 (IntKind.i64.wrap (((k+1:Nat):Int)+1))) (.int .i64 ((k+1+1:Nat):Int)) Zk (by rw[IntWalk.i64_in _ Zo];rfl) ?_
 refine K0.next (⟨(s',k+1),hlt⟩) Zk (by show m- (k+1)<m-k;omega) ⟨Zk,Zk,Zk⟩ (fun _ h=>h)
end
end Go.Proofs.YtpgkbllcnphmbaaGreatDoor
