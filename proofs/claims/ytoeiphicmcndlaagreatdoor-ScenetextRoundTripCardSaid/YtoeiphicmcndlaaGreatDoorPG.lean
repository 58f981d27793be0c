/-
 Paints as text: the reference's checks.
-/
import Derived.Test.YtoeiphicmcndlaaGreatDoorYX
import Derived.Test.YtoeiphicmcndlaaGreatDoorAR
import Derived.Test.YtoeiphicmcndlaaGreatDoorTA
namespace Go.Proofs.YtoeiphicmcndlaaGreatDoor
set_option maxRecDepth 100000
set_option maxHeartbeats 8000000
set_option linter.unusedVariables false
set_option linter.unusedSimpArgs false
open Go.RowKit
section
open Go.RowKit
--ATNAMES
section
variable{w:World}{A A2:Option Addr}{n c n2 c2:Nat}{ws l:WS}{x y:RSt}
theorem Hf:∀{l:WS} {s:List UInt8},s∉l→S9 s l=none
 | [],s,_=>rfl
 |y::l,s,h=>by
  rw[Pa,if_neg (fun e=>h (by rw[e];simp)),Hf (fun hc=>h (by simp[hc]))];rfl
theorem Ed:∀{l:WS} {s:List UInt8} {k:Nat},l[k]? =some s→(∀j,j<k→l[j]? ≠some s)→S9 s l=some k
 | [],s,k,h,_=>by simp at h
 |y::l,s,0,h,_=>by
  simp at h;rw[Pa,if_pos h]
 |y::l,s,k+1,h,hn=>by
  have h0:=hn 0 Zo
  rw[Pa,if_neg (fun e=>h0 (by simp[e])),Ed (k:=k) (by simpa using h) (fun j hj=>by have:=hn (j+1) Zo;simpa using this)];rfl
end
end
section
open Go.RowKit
--ATNAMES
end
section
open Go.RowKit
--ATNAMES
section
variable{w:World}{A A2:Option Addr}{n c n2 c2:Nat}{ws l:WS}{x:RSt}{m k:Int}{B:Bool}
theorem size_v(hB:A8 m k=B):Zv 192 #[Zi m,Zi k] w (.bool B):=by
 refine K0.enter Tryz.func192 rfl <| ZS 3 ?_
 by_cases h0:1≤m
 case neg=>
  exact ZT 7 (.bool (decide (m≥1))) Zf (by rw[decide_eq_false Zo]) <| ZX Zf (by rw[←hB];unfold A8;rw[decide_eq_false Zo])
 refine K0.slot 7 (.bool (decide (m≥1))) Zt Zk (by rw[decide_eq_true Zo]) <| ZS 7 ?_
 by_cases h1:m≤4096
 case neg=>
  exact ZT 11 (.bool (decide (m≤4096))) Zf (by rw[decide_eq_false Zo]) <| ZX Zf (by rw[←hB];unfold A8;rw[decide_eq_false Zo])
 refine K0.slot 11 (.bool (decide (m≤4096))) Zt Zk (by rw[decide_eq_true Zo]) <| ZS 11 ?_
 by_cases h2:1≤k
 case neg=>
  exact ZT 15 (.bool (decide (k≥1))) Zf (by rw[decide_eq_false Zo]) <| ZX Zf (by rw[←hB];unfold A8;rw[decide_eq_false Zo])
 refine K0.slot 15 (.bool (decide (k≥1))) Zt Zk (by rw[decide_eq_true Zo]) <| ZS 15 ?_
 by_cases h3:k≤4096
 case neg=>
  exact ZT 19 (.bool (decide (k≤4096))) Zf (by rw[decide_eq_false Zo]) <| ZX Zf (by rw[←hB];unfold A8;rw[decide_eq_false Zo])
 refine ZT 19 (.bool (decide (k≤4096))) Zt (by rw[decide_eq_true Zo]) <| ZV (.bool (decide (IntKind.i64.wrap (m*k)≤65536))) (fun w1 hw h=>⟨(),by rw[←hB,C8 ⟨h0,h1⟩ ⟨h2,h3⟩];unfold A8;congr 2;exact decide_eq_decide.2 ⟨fun h=>⟨h0,h1,h2,h3,h⟩,fun h=>h.2.2.2.2⟩,hw,fun _ _ _=>trivial⟩)
end
end
section
open Go.RowKit
--ATNAMES
end
section
open Go.RowKit
--ATNAMES
def Qz(t:TypeId)(p:Addr)(f:Nat):Sem Next:=Instr.fieldAt t (.pointer (some p)) f >>= fun v=>pure (.value v)
theorem Mb{P:Program}{t:TypeId}{p:Addr}{f d:Nat}{w:World}(h:Ss P t f 0 0=some ⟨.p 0 (0+d),none⟩):(Qz t p f).run P w= .ok (.value (.pointer (some (p.add d)))) w:=by
 unfold Ss at h
 split at h
 ·rename_i fs hu
  split at h
  ·rename_i fd hf
   split at h
   ·rename_i n hn
    injection h with h
    injection h with h _
    injection h with _ h
    rw[Nat.zero_add,Nat.zero_add]at h
    have hrun:(Instr.fieldAt t (.pointer (some p)) f).run P w= .ok (.pointer (some (p.add fd.offset))) w:=by
     simp only[Instr.fieldAt,Sem.run_bind,run_underlying hu,Result.andThen_ok,hf,Instr.sureAddr,Sem.run_pure,fieldPlace,Lf hn,Nat.add_one_ne_zero,if_false]
    simp only[Qz,Sem.run_bind,hrun,Result.andThen_ok,Sem.run_pure,h]
   ·cases h
  ·cases h
 ·cases h
section
variable{w:World}{A A2:Option Addr}{n c:Nat}{l:List (Int×Co)}{px:List Co}{P:Pn}{q:PM}{K:Nat}{B:Bool}{k x y:Int}{m:Im}{co:Co}{g:Nat}
theorem le8(a b:UInt8):decide ((a.toNat:Int)≤(b.toNat:Int))=decide (a≤b):=decide_eq_decide.2 ⟨fun h=>UInt8.le_iff_toNat_le.2 Zo,fun h=>by have:=UInt8.le_iff_toNat_le.1 h;omega⟩
theorem rcvalid_v(hB:E7 co=B):Zv 193 #[Rf co] w (.bool B):=by
 unfold E7 at hB
 refine K0.enter Tryz.func193 rfl <| ZS 6 ?_
 by_cases h0:co.1≤co.2.2.2
 case neg=>
  refine ZT 8 (.bool (decide ((co.1.toNat:Int)≤(co.2.2.2.toNat:Int)))) Zf (by rw[le8,decide_eq_false h0]) <| ZV Zf (fun w1 hw h=>⟨(),by rw[←hB,decide_eq_false (fun h=>h0 h.1)],hw,fun _ _ _=>trivial⟩)
 refine K0.slot 8 (.bool (decide ((co.1.toNat:Int)≤(co.2.2.2.toNat:Int)))) Zt Zk (by rw[le8,decide_eq_true h0]) <| ZS 13 ?_
 by_cases h1:co.2.1≤co.2.2.2
 case neg=>
  refine ZT 15 (.bool (decide ((co.2.1.toNat:Int)≤(co.2.2.2.toNat:Int)))) Zf (by rw[le8,decide_eq_false h1]) <| ZV Zf (fun w1 hw h=>⟨(),by rw[←hB,decide_eq_false (fun h=>h1 h.2.1)],hw,fun _ _ _=>trivial⟩)
 refine K0.slot 15 (.bool (decide ((co.2.1.toNat:Int)≤(co.2.2.2.toNat:Int)))) Zt Zk (by rw[le8,decide_eq_true h1]) <| ZS 19 ?_
 by_cases h2:co.2.2.1≤co.2.2.2
 case neg=>
  refine ZT 21 (.bool (decide ((co.2.2.1.toNat:Int)≤(co.2.2.2.toNat:Int)))) Zf (by rw[le8,decide_eq_false h2]) <| ZV Zf (fun w1 hw h=>⟨(),by rw[←hB,decide_eq_false (fun h=>h2 h.2.2)],hw,fun _ _ _=>trivial⟩)
 exact ZT 21 (.bool (decide ((co.2.2.1.toNat:Int)≤(co.2.2.2.toNat:Int)))) Zt (by rw[le8,decide_eq_true h2]) <| ZX Zt (by rw[←hB,decide_eq_true ⟨h0,h1,h2⟩])
theorem E2{y:Option Addr×Nat}(hB:Xy m=B)(hp:Ma w y.1 m.px.length 4 Oa m.px)(hn:m.px.length≤1000000000):Zv 129 #[imV m y] w (.bool B):=by
 unfold Xy at hB
 refine K0.enter Tryz.func129 rfl <| ZR ?_
 cases h1:A8 m.w m.h
 ·rw[h1,Bool.false_and,Bool.false_and]at hB
  exact ZC (fun w1 hw h=>size_v h1) fun u=>ZR <| ZI true <| ZX Zf (by rw[←hB])
 have hsz:=of_decide_eq_true (show decide _=true from h1)
 have hww:=C8 (x:=m.w) (y:=m.h) ⟨hsz.1,hsz.2.1⟩ ⟨hsz.2.2.1,hsz.2.2.2.1⟩
 rw[h1,Bool.true_and]at hB
 refine ZC (fun w1 hw h=>size_v h1) fun u=>ZR ?_
 by_cases h4:(m.px.length:Int)=m.w*m.h
 case neg=>
  exact ZJ (((m.px.length:Int) !=IntKind.i64.wrap (m.w*m.h))) true (by rw[hww];simpa using h4) <| ZX Zf (by rw[←hB,decide_eq_false h4];rfl)
 rw[decide_eq_true h4,Bool.true_and]at hB
 refine ZJ (((m.px.length:Int) !=IntKind.i64.wrap (m.w*m.h))) false (by rw[hww];simpa using h4) <| K0.loop (ι:={q:Nat // q≤m.px.length∧(m.px.take q).all E7=true}) 35 (fun q=>⟨[(1,.p 1 0),(3,.v (Zi q.1))],[(1,[.v (Zi m.w),.v (Zi m.h),.v (.slice y.1 m.px.length y.2)])]⟩) (fun q u=>True) (fun q=>m.px.length-q.1) (⟨0,Nat.zero_le _,rfl⟩) Zk (fun _=>by kernel_rfl) ⟨Zk,Zk,Zk⟩ (fun u h=>trivial) ?_
 rintro⟨k,hk,hall⟩ gg
 have hk:k≤m.px.length:=hk
 have hall:(m.px.take k).all E7=true:=hall
 by_cases hlt:k<m.px.length
 case neg=>
  have hkn:m.px.length=k:=by omega
  rw[List.take_of_length_le Zo]at hall
  exact ZR <| ZJ (decide ((k:Int)<(m.px.length:Int))) false Zp <| K0.leave Zk <| ZR <| ZX Zt (by rw[←hB,hall])
 obtain⟨x,hx⟩:∃x,m.px[k]? =some x:=⟨_,List.getElem?_eq_getElem Zo⟩
 obtain⟨ad,hA,hc⟩:=hp.2 k x hx
 refine ZR <| ZJ (decide ((k:Int)<(m.px.length:Int))) true Zp <| ZA (Kj 48 (.slice y.1 m.px.length y.2) k) (.pointer (some (ad.add (k*4)))) (fun w1 hw h=>px_idx hA hlt) <| ZA (L5 152 (ad.add (k*4))) (.agg (Oa x).toArray) (fun w1 hw h=>px_ld fun j v hj=>Lc hw (hc j v hj)) ?_
 cases hb:E7 x
 ·exact ZC (fun w1 hw h=>rcvalid_v (co:=x) hb) fun u=>ZI true <| K0.leave Zk <| ZR <| ZX Zf (by rw[←hB,Zx hx hb])
 ·refine ZC (fun w1 hw h=>rcvalid_v (co:=x) hb) fun u=>ZI false <| K0.slot 3 (Zi (IntKind.i64.wrap ((k:Int)+1))) (Zi ((k+1:Nat):Int)) Zk (by rw[Kd hlt Zo]) <| K0.next (⟨k+1,by show k+1≤m.px.length;omega,by rw[U5 hx hall,hb]⟩) Zk (by show m.px.length- (k+1)<m.px.length-k;omega) ⟨Zk,Zk,Zk⟩ (fun u h=>trivial)
theorem Cg(hB:Ny l=B)(hp:Ma w A n 5 Ri l)(hn:n≤1000000000):Zv 287 #[.slice A n c] w (.bool B):=by
 have hpn:=hp.1
 unfold Ny at hB
 obtain⟨C,hC⟩:∃C,C=B4 0 l:=⟨_,rfl⟩
 rw[←hC]at hB
 refine K0.enter Tryz.func287 rfl <| ZR <| K0.loop (ι:={q:Nat×Int // q.1≤n∧B4 q.2 (l.drop q.1)=C∧0≤q.2∧(q.1=0→q.2=0)∧(0<q.1→∃y,l[q.1-1]? =some y∧y.1=q.2)}) 50 (fun q=>⟨[(0,.v (.slice A n c)),(3,.v (Zi q.1.1))],[]⟩) (fun q u=>True) (fun q=>n-q.1.1) (⟨(0,0),Nat.zero_le _,hC.symm,Int.le_refl 0,fun _=>rfl,fun h=>absurd h Zd⟩) Zk (fun _=>by kernel_rfl) ⟨Zk,Zk,Zk⟩ (fun u h=>trivial) ?_
 rintro⟨⟨k,a⟩,hk,hst,ha0,hk0,hkp⟩ gg
 have hk:k≤n:=hk
 have hst:B4 a (l.drop k)=C:=hst
 have ha0:0≤a:=ha0
 have hk0:k=0→a=0:=hk0
 have hkp:0<k→∃y,l[k-1]? =some y∧y.1=a:=hkp
 by_cases hlt:k<n
 case neg=>
  obtain rfl:k=n:=by omega
  rw[List.drop_eq_nil_of_le Zo]at hst
  have hst:true=C:=hst
  rw[←hst,Bool.and_true]at hB
  by_cases h1:1≤k
  case neg=>
   exact ZR <| ZJ (decide ((k:Int)<(k:Int))) false Zs <| K0.leave Zk <| ZS 4 <| ZT 45 (.bool (decide ((k:Int)≥1))) Zf (by rw[decide_eq_false Zo]) <| ZX Zf (by rw[←hB,decide_eq_false Zo])
  exact ZR <| ZJ (decide ((k:Int)<(k:Int))) false Zs <| K0.leave Zk <| ZS 4 <| ZT 45 (.bool (decide ((k:Int)≥1))) Zt (by rw[decide_eq_true Zo]) <| ZX (.bool (decide ((k:Int)≤16))) (by rw[←hB];congr 2;exact decide_eq_decide.2 Zo)
 obtain⟨x,hx⟩:∃x,l[k]? =some x:=⟨_,List.getElem?_eq_getElem Zo⟩
 obtain⟨ad,hA,hc⟩:=hp.2 k x hx
 have e:B4 a (l.drop k)=(decide (a≤x.1∧x.1≤65536)&&B4 x.1 (l.drop (k+1))):=by rw[drop_get hx];rfl
 rw[e]at hst
 have hld:∀w1:World,Below w.heap.size w w1→(L5 3 ((ad.add (k*5)).add 0)).run Tryz.prog w1= .ok (.value (Zi x.1)) w1:=fun w1 hw=>K8 Zk (Lc hw (hc 0 _ rfl))
 refine ZR <| K0.condr (decide ((k:Int)<(n:Int))) true Zk Zp <| ZS 2 <| K0.askAt 2 (Kj 58 (.slice A n c) k) (.pointer (some (ad.add (k*5)))) Zk (fun w1 hw h=>Z3 hA Zo) <| ZS 3 <| K0.askAt 3 (Qz 139 (ad.add (k*5)) 0) (.pointer (some ((ad.add (k*5)).add 0))) Zk (fun w1 hw h=>Mb (d:=0) Zk) <| ZS 4 <| K0.askAt 4 (L5 3 ((ad.add (k*5)).add 0)) (Zi x.1) Zk (fun w1 hw h=>hld w1 hw) <| ZS 7 ?_
 by_cases h3:x.1<0
 case pos=>
  rw[show decide (a≤x.1∧x.1≤65536)=false from decide_eq_false Zo,Bool.false_and]at hst
  exact ZT 16 (.bool (decide (x.1<0))) Zt (by rw[decide_eq_true h3]) <| ZI true <| K0.leave Zk <| ZR <| ZX Zf (by rw[←hB,←hst,Bool.and_false])
 refine K0.slot 16 (.bool (decide (x.1<0))) Zf Zk (by rw[decide_eq_false h3]) <| ZS 9 <| K0.askAt 9 (Kj 58 (.slice A n c) k) (.pointer (some (ad.add (k*5)))) Zk (fun w1 hw h=>Z3 hA Zo) <| ZS 10 <| K0.askAt 10 (Qz 139 (ad.add (k*5)) 0) (.pointer (some ((ad.add (k*5)).add 0))) Zk (fun w1 hw h=>Mb (d:=0) Zk) <| ZS 11 <| K0.askAt 11 (L5 3 ((ad.add (k*5)).add 0)) (Zi x.1) Zk (fun w1 hw h=>hld w1 hw) <| ZS 15 ?_
 by_cases h4:x.1>65536
 case pos=>
  rw[show decide (a≤x.1∧x.1≤65536)=false from decide_eq_false Zo,Bool.false_and]at hst
  exact ZT 24 (.bool (decide (x.1>65536))) Zt (by rw[decide_eq_true h4]) <| ZI true <| K0.leave Zk <| ZR <| ZX Zf (by rw[←hB,←hst,Bool.and_false])
 refine K0.slot 24 (.bool (decide (x.1>65536))) Zf Zk (by rw[decide_eq_false h4]) <| ZS 18 ?_
 by_cases hkz:k=0
 case pos=>
  have haz:=hk0 hkz
  rw[show decide (a≤x.1∧x.1≤65536)=true from decide_eq_true Zo,Bool.true_and]at hst
  refine ZT 27 (.bool (decide ((k:Int)>0))) Zf (by rw[decide_eq_false Zo]) <| ZI false <| K0.slot 3 (Zi (IntKind.i64.wrap ((k:Int)+1))) (Zi ((k+1:Nat):Int)) Zk (by rw[Kd hlt Zo]) <| K0.next (⟨(k+1,x.1),by show k+1≤n;omega,hst,by show 0≤x.1;omega,fun h=>absurd h (Nat.succ_ne_zero k),fun _=>⟨x,hx,rfl⟩⟩) Zk (by show n- (k+1)<n-k;omega) ⟨Zk,Zk,Zk⟩ (fun u h=>trivial)
 obtain⟨y,hy,hya⟩:=hkp Zo
 obtain⟨ad2,hA2,hc2⟩:=hp.2 (k-1) y hy
 rw[hA]at hA2
 cases hA2
 have hld2:∀w1:World,Below w.heap.size w w1→(L5 3 ((ad.add ((k-1)*5)).add 0)).run Tryz.prog w1= .ok (.value (Zi y.1)) w1:=fun w1 hw=>K8 Zk (Lc hw (hc2 0 _ rfl))
 refine K0.slot 27 (.bool (decide ((k:Int)>0))) Zt Zk (by rw[decide_eq_true Zo]) <| ZS 20 <| K0.askAt 20 (Kj 58 (.slice A n c) k) (.pointer (some (ad.add (k*5)))) Zk (fun w1 hw h=>Z3 hA Zo) <| ZS 21 <| K0.askAt 21 (Qz 139 (ad.add (k*5)) 0) (.pointer (some ((ad.add (k*5)).add 0))) Zk (fun w1 hw h=>Mb (d:=0) Zk) <| ZS 22 <| K0.askAt 22 (L5 3 ((ad.add (k*5)).add 0)) (Zi x.1) Zk (fun w1 hw h=>hld w1 hw) <| ZS 26 <| K0.slot 35 (Zi (IntKind.i64.wrap ((k:Int)-1))) (Zi ((k-1:Nat):Int)) Zk (by rw[IntWalk.i64_in _ Zo];congr 1;omega) <| K0.askAt 26 (Kj 58 (.slice A n c) ((k-1:Nat):Int)) (.pointer (some (ad.add ((k-1)*5)))) Zk (fun w1 hw h=>Z3 hA Zo) <| ZS 27 <| K0.askAt 27 (Qz 139 (ad.add ((k-1)*5)) 0) (.pointer (some ((ad.add ((k-1)*5)).add 0))) Zk (fun w1 hw h=>Mb (d:=0) Zk) <| ZS 28 <| ZB 28 (L5 3 ((ad.add ((k-1)*5)).add 0)) (Zi y.1) (fun w1 hw h=>hld2 w1 hw) ?_
 by_cases h5:x.1<y.1
 case pos=>
  rw[show decide (a≤x.1∧x.1≤65536)=false from decide_eq_false Zo,Bool.false_and]at hst
  exact ZR <| ZJ (decide (x.1<y.1)) true (by simpa using h5) <| K0.leave Zk <| ZR <| ZX Zf (by rw[←hB,←hst,Bool.and_false])
 rw[show decide (a≤x.1∧x.1≤65536)=true from decide_eq_true Zo,Bool.true_and]at hst
 refine ZR <| ZJ (decide (x.1<y.1)) false (by simpa using h5) <| K0.slot 3 (Zi (IntKind.i64.wrap ((k:Int)+1))) (Zi ((k+1:Nat):Int)) Zk (by rw[Kd hlt Zo]) <| K0.next (⟨(k+1,x.1),by show k+1≤n;omega,hst,by show 0≤x.1;omega,fun h=>absurd h (Nat.succ_ne_zero k),fun _=>⟨x,hx,rfl⟩⟩) Zk (by show n- (k+1)<n-k;omega) ⟨Zk,Zk,Zk⟩ (fun u h=>trivial)
def img0(P:Pn):Bool:=decide (P.im.w=0∧P.im.h=0∧P.im.px=[]∧P.samp=0)
def ramp0(P:Pn):Bool:=decide ((P.p0x=0∧P.p0y=0)∧(P.p1x=0∧P.p1y=0)∧P.rad=0∧P.stops=[])
theorem Yd(hB:img0 P=B):Zv 285 #[X4 P q] w (.bool B):=by
 unfold img0 at hB
 refine K0.enter Tryz.func285 rfl <| ZS 5 ?_
 by_cases h0:P.im.w=0
 case neg=>
  refine ZT 7 (.bool (P.im.w==0)) Zf (by rw[beq_eq_false_iff_ne.2 h0]) <| ZV Zf (fun w1 hw h=>⟨(),by rw[←hB,decide_eq_false (fun h=>h0 h.1)],hw,fun _ _ _=>trivial⟩)
 refine K0.slot 7 (.bool (P.im.w==0)) Zt Zk (by rw[beq_iff_eq.2 h0]) <| ZS 11 ?_
 by_cases h1:P.im.h=0
 case neg=>
  refine ZT 13 (.bool (P.im.h==0)) Zf (by rw[beq_eq_false_iff_ne.2 h1]) <| ZV Zf (fun w1 hw h=>⟨(),by rw[←hB,decide_eq_false (fun h=>h1 h.2.1)],hw,fun _ _ _=>trivial⟩)
 refine K0.slot 13 (.bool (P.im.h==0)) Zt Zk (by rw[beq_iff_eq.2 h1]) <| ZS 18 ?_
 by_cases h2:P.im.px=[]
 case neg=>
  refine ZT 20 (.bool ((P.im.px.length:Int)==0)) Zf (by rw[beq_eq_false_iff_ne.2 (by rw[Ne,Int.ofNat_eq_zero,List.length_eq_zero_iff];exact h2)]) <| ZV Zf (fun w1 hw h=>⟨(),by rw[←hB,decide_eq_false (fun h=>h2 h.2.2.1)],hw,fun _ _ _=>trivial⟩)
 refine K0.slot 20 (.bool ((P.im.px.length:Int)==0)) Zt Zk (by rw[h2];rfl) <| ZS 22 ?_
 by_cases h3:P.samp=0
 case neg=>
  refine ZT 24 (.bool (P.samp==0)) Zf (by rw[beq_eq_false_iff_ne.2 h3]) <| ZV Zf (fun w1 hw h=>⟨(),by rw[←hB,decide_eq_false (fun h=>h3 h.2.2.2)],hw,fun _ _ _=>trivial⟩)
 exact ZT 24 (.bool (P.samp==0)) Zt (by rw[beq_iff_eq.2 h3]) <| ZR <| ZX Zt (by rw[←hB,decide_eq_true ⟨h0,h1,h2,h3⟩])
theorem Je(hB:ramp0 P=B):Zv 284 #[X4 P q] w (.bool B):=by
 unfold ramp0 at hB
 refine K0.enter Tryz.func284 rfl <| ZS 3 ?_
 by_cases h0:P.p0x=0∧P.p0y=0
 case neg=>
  refine ZA (D4 57 (.tmp 4) (.tmp 5) (pt P.p0x P.p0y) (pt 0 0)) Zf (fun w1 hw h=>Xz (decide_eq_false h0)) <| ZR <| ZV Zf (fun w1 hw h=>⟨(),by rw[←hB,decide_eq_false (fun h=>h0 h.1)],hw,fun _ _ _=>trivial⟩)
 refine K0.ask (D4 57 (.tmp 4) (.tmp 5) (pt P.p0x P.p0y) (pt 0 0)) Zt Zk (fun w1 hw h=>Xz (decide_eq_true h0)) <| ZS 8 ?_
 by_cases h1:P.p1x=0∧P.p1y=0
 case neg=>
  refine ZA (D4 57 (.tmp 9) (.tmp 10) (pt P.p1x P.p1y) (pt 0 0)) Zf (fun w1 hw h=>Xz (decide_eq_false h1)) <| ZR <| ZV Zf (fun w1 hw h=>⟨(),by rw[←hB,decide_eq_false (fun h=>h1 h.2.1)],hw,fun _ _ _=>trivial⟩)
 refine K0.ask (D4 57 (.tmp 9) (.tmp 10) (pt P.p1x P.p1y) (pt 0 0)) Zt Zk (fun w1 hw h=>Xz (decide_eq_true h1)) <| ZS 16 ?_
 by_cases h2:P.rad=0
 case neg=>
  refine ZT 18 (.bool (P.rad==0)) Zf (by rw[beq_eq_false_iff_ne.2 h2]) <| ZV Zf (fun w1 hw h=>⟨(),by rw[←hB,decide_eq_false (fun h=>h2 h.2.2.1)],hw,fun _ _ _=>trivial⟩)
 refine K0.slot 18 (.bool (P.rad==0)) Zt Zk (by rw[beq_iff_eq.2 h2]) <| ZS 21 ?_
 by_cases h3:P.stops=[]
 case neg=>
  refine ZT 23 (.bool ((P.stops.length:Int)==0)) Zf (by rw[beq_eq_false_iff_ne.2 (by rw[Ne,Int.ofNat_eq_zero,List.length_eq_zero_iff];exact h3)]) <| ZV Zf (fun w1 hw h=>⟨(),by rw[←hB,decide_eq_false (fun h=>h3 h.2.2.2)],hw,fun _ _ _=>trivial⟩)
 exact ZT 23 (.bool ((P.stops.length:Int)==0)) Zt (by rw[h3];rfl) <| ZX Zt (by rw[←hB,decide_eq_true ⟨h0,h1,h2,h3⟩])
theorem rzero_v{t:TV}{T:Y0}(hB:eqA T Px=B)(ht:Ag t T K w)(hK:2≤K∧K≤10000000):Zv 286 #[t.val] w (.bool B):=by
 exact K0.enter Tryz.func286 rfl <| ZR <| ZC (fun w1 hw h=>Gp hB (ht.below hw) (Ag.zero (w:=w1)) hK) fun u=>ZW (.bool B)
theorem Uu(hB:T4 x=B):Zv 288 #[Zi x] w (.bool B):=by
 unfold T4 at hB
 refine K0.enter Tryz.func288 rfl <| ZS 3 ?_
 by_cases h1:1≤x
 case neg=>
  exact ZT 5 (.bool (decide (x≥1))) Zf (by rw[decide_eq_false Zo]) <| ZX Zf (by rw[←hB,decide_eq_false Zo])
 exact ZT 5 (.bool (decide (x≥1))) Zt (by rw[decide_eq_true Zo]) <| ZX (.bool (decide (x≤3))) (by rw[←hB];congr 2;exact decide_eq_decide.2 Zo)
theorem rvecv{X Y:Int}(hB:L8 X Y=B):Zv 270 #[pt X Y] w (.bool B):=by subst hB;exact rvalid_m
theorem samp2{z:Int}(h:¬z=1):(z==2)=decide (z=1∨z=2):=by
 rw[Bool.eq_iff_iff,beq_iff_eq,decide_eq_true_iff]
 exact⟨.inr,fun k=>k.resolve_left h⟩
def hasB(P:Pn):Bool:=
 if P.kind=1 then ramp0 P&&(img0 P&&(decide (P.spread=0)&&eqA P.T Px))
 else if P.kind=2 then img0 P&&(decide (P.co=Uq)&&(decide (P.rad=0)&&(L8 P.p0x P.p0y&&(L8 P.p1x P.p1y&&(Ny P.stops&&T4 P.spread)))))
 else if P.kind=3 then img0 P&&(decide (P.co=Uq)&&(decide (P.p1x=0∧P.p1y=0)&&(L8 P.p0x P.p0y&&(decide (1≤P.rad)&&(decide (P.rad≤1048576)&&(Ny P.stops&&T4 P.spread))))))
 else if P.kind=4 then ramp0 P&&(decide (P.co=Uq)&&(Xy P.im&&((decide (P.spread=0)||T4 P.spread)&&decide (P.samp=1∨P.samp=2))))
 else false
theorem has_v(hB:hasB P=B)(hp:Db P q K w)(hK:2≤K∧K≤10000000)(hl:P.im.px.length≤1000000000)(hsl:P.stops.length≤1000000000):Zv 271 #[X4 P q] w (.bool B):=by
 unfold hasB at hB
 refine K0.enter Tryz.func271 rfl <| ZR ?_
 by_cases k1:P.kind=1
 case pos=>
  rw[if_pos k1]at hB
  refine ZJ ((P.kind==1)) true (beq_iff_eq.2 k1) ?_
  cases c1:ramp0 P
  ·rw[c1,Bool.false_and]at hB
   exact ZC (fun w1 hw h=>Je (q:=q) c1) fun u_c1=>ZR <| ZX Zf (by rw[←hB])
  rw[c1,Bool.true_and]at hB
  refine ZC (fun w1 hw h=>Je (q:=q) c1) fun u_c1=> ?_
  cases c2:img0 P
  ·rw[c2,Bool.false_and]at hB
   exact ZC (fun w1 hw h=>Yd (q:=q) c2) fun u_c2=>ZR <| ZX Zf (by rw[←hB])
  rw[c2,Bool.true_and]at hB
  refine ZD 12 (fun w1 hw h=>Yd (q:=q) c2) fun u_c2=> ?_
  by_cases c3:P.spread=0
  case neg=>
   rw[decide_eq_false c3,Bool.false_and]at hB
   exact ZT 18 (.bool (P.spread==0)) Zf (by rw[beq_eq_false_iff_ne.2 c3]) <| ZX Zf (by rw[←hB])
  rw[decide_eq_true c3,Bool.true_and]at hB
  refine ZT 18 (.bool (P.spread==0)) Zt (by rw[beq_iff_eq.2 c3]) ?_
  cases c4:eqA P.T Px
  ·rw[c4]at hB
   exact ZC (fun w1 hw h=>rzero_v c4 (hp.tr.below hw) hK) fun u_c4=>ZR <| ZX Zf (by rw[←hB])
  rw[c4]at hB
  exact ZC (fun w1 hw h=>rzero_v c4 (hp.tr.below hw) hK) fun u_c4=>ZR <| ZX Zt (by rw[←hB])
 refine ZJ ((P.kind==1)) false (beq_eq_false_iff_ne.2 k1) ?_
 by_cases k2:P.kind=2
 case pos=>
  rw[if_neg k1,if_pos k2]at hB
  refine ZJ ((P.kind==2)) true (beq_iff_eq.2 k2) ?_
  cases c1:img0 P
  ·rw[c1,Bool.false_and]at hB
   exact ZC (fun w1 hw h=>Yd (q:=q) c1) fun u_c1=>ZR <| ZX Zf (by rw[←hB])
  rw[c1,Bool.true_and]at hB
  refine ZD 6 (fun w1 hw h=>Yd (q:=q) c1) fun u_c1=> ?_
  by_cases c2:P.co=Uq
  case neg=>
   rw[decide_eq_false c2,Bool.false_and]at hB
   exact ZA (D4 23 (.tmp 29) (.tmp 30) (Rf P.co) (Rf Uq)) Zf (fun w1 hw h=>P7 (decide_eq_false c2)) <| ZR <| ZX Zf (by rw[←hB])
  rw[decide_eq_true c2,Bool.true_and]at hB
  refine K0.ask (D4 23 (.tmp 29) (.tmp 30) (Rf P.co) (Rf Uq)) Zt Zk (fun w1 hw h=>P7 (decide_eq_true c2)) <| ZS 14 ?_
  by_cases c3:P.rad=0
  case neg=>
   rw[decide_eq_false c3,Bool.false_and]at hB
   exact ZT 38 (.bool (P.rad==0)) Zf (by rw[beq_eq_false_iff_ne.2 c3]) <| ZX Zf (by rw[←hB])
  rw[decide_eq_true c3,Bool.true_and]at hB
  refine ZT 38 (.bool (P.rad==0)) Zt (by rw[beq_iff_eq.2 c3]) ?_
  cases c4:L8 P.p0x P.p0y
  ·rw[c4,Bool.false_and]at hB
   exact ZC (fun w1 hw h=>rvecv c4) fun u_c4=>ZR <| ZX Zf (by rw[←hB])
  rw[c4,Bool.true_and]at hB
  refine ZC (fun w1 hw h=>rvecv c4) fun u_c4=> ?_
  cases c5:L8 P.p1x P.p1y
  ·rw[c5,Bool.false_and]at hB
   exact ZC (fun w1 hw h=>rvecv c5) fun u_c5=>ZR <| ZX Zf (by rw[←hB])
  rw[c5,Bool.true_and]at hB
  refine ZC (fun w1 hw h=>rvecv c5) fun u_c5=> ?_
  cases c6:Ny P.stops
  ·rw[c6,Bool.false_and]at hB
   exact ZC (fun w1 hw h=>Cg (c:=q.sc) c6 (hp.st.below hw) hsl) fun u_c6=>ZR <| ZX Zf (by rw[←hB])
  rw[c6,Bool.true_and]at hB
  refine ZC (fun w1 hw h=>Cg (c:=q.sc) c6 (hp.st.below hw) hsl) fun u_c6=> ?_
  cases c7:T4 P.spread
  ·rw[c7]at hB
   exact ZC (fun w1 hw h=>Uu c7) fun u_c7=>ZR <| ZX Zf (by rw[←hB])
  rw[c7]at hB
  exact ZC (fun w1 hw h=>Uu c7) fun u_c7=>ZR <| ZX Zt (by rw[←hB])
 refine ZJ ((P.kind==2)) false (beq_eq_false_iff_ne.2 k2) ?_
 by_cases k3:P.kind=3
 case pos=>
  rw[if_neg k1,if_neg k2,if_pos k3]at hB
  refine ZJ ((P.kind==3)) true (beq_iff_eq.2 k3) ?_
  cases c1:img0 P
  ·rw[c1,Bool.false_and]at hB
   exact ZC (fun w1 hw h=>Yd (q:=q) c1) fun u_c1=>ZR <| ZX Zf (by rw[←hB])
  rw[c1,Bool.true_and]at hB
  refine ZD 6 (fun w1 hw h=>Yd (q:=q) c1) fun u_c1=> ?_
  by_cases c2:P.co=Uq
  case neg=>
   rw[decide_eq_false c2,Bool.false_and]at hB
   exact ZA (D4 23 (.tmp 64) (.tmp 65) (Rf P.co) (Rf Uq)) Zf (fun w1 hw h=>P7 (decide_eq_false c2)) <| ZR <| ZX Zf (by rw[←hB])
  rw[decide_eq_true c2,Bool.true_and]at hB
  refine K0.ask (D4 23 (.tmp 64) (.tmp 65) (Rf P.co) (Rf Uq)) Zt Zk (fun w1 hw h=>P7 (decide_eq_true c2)) <| ZS 12 ?_
  by_cases c3:P.p1x=0∧P.p1y=0
  case neg=>
   rw[decide_eq_false c3,Bool.false_and]at hB
   exact ZA (D4 57 (.tmp 70) (.tmp 71) (pt P.p1x P.p1y) (pt 0 0)) Zf (fun w1 hw h=>Xz (decide_eq_false c3)) <| ZR <| ZX Zf (by rw[←hB])
  rw[decide_eq_true c3,Bool.true_and]at hB
  refine ZA (D4 57 (.tmp 70) (.tmp 71) (pt P.p1x P.p1y) (pt 0 0)) Zt (fun w1 hw h=>Xz (decide_eq_true c3)) ?_
  cases c4:L8 P.p0x P.p0y
  ·rw[c4,Bool.false_and]at hB
   exact ZC (fun w1 hw h=>rvecv c4) fun u_c4=>ZR <| ZX Zf (by rw[←hB])
  rw[c4,Bool.true_and]at hB
  refine ZD 25 (fun w1 hw h=>rvecv c4) fun u_c4=> ?_
  by_cases c5:1≤P.rad
  case neg=>
   rw[decide_eq_false c5,Bool.false_and]at hB
   exact ZT 84 (.bool (decide (P.rad≥1))) Zf (by rw[decide_eq_false c5]) <| ZX Zf (by rw[←hB])
  rw[decide_eq_true c5,Bool.true_and]at hB
  refine K0.slot 84 (.bool (decide (P.rad≥1))) Zt Zk (by rw[decide_eq_true c5]) <| ZS 30 ?_
  by_cases c6:P.rad≤1048576
  case neg=>
   rw[decide_eq_false c6,Bool.false_and]at hB
   exact ZT 89 (.bool (decide (P.rad≤1048576))) Zf (by rw[decide_eq_false c6]) <| ZX Zf (by rw[←hB])
  rw[decide_eq_true c6,Bool.true_and]at hB
  refine ZT 89 (.bool (decide (P.rad≤1048576))) Zt (by rw[decide_eq_true c6]) ?_
  cases c7:Ny P.stops
  ·rw[c7,Bool.false_and]at hB
   exact ZC (fun w1 hw h=>Cg (c:=q.sc) c7 (hp.st.below hw) hsl) fun u_c7=>ZR <| ZX Zf (by rw[←hB])
  rw[c7,Bool.true_and]at hB
  refine ZC (fun w1 hw h=>Cg (c:=q.sc) c7 (hp.st.below hw) hsl) fun u_c7=> ?_
  cases c8:T4 P.spread
  ·rw[c8]at hB
   exact ZC (fun w1 hw h=>Uu c8) fun u_c8=>ZR <| ZX Zf (by rw[←hB])
  rw[c8]at hB
  exact ZC (fun w1 hw h=>Uu c8) fun u_c8=>ZR <| ZX Zt (by rw[←hB])
 refine ZJ ((P.kind==3)) false (beq_eq_false_iff_ne.2 k3) ?_
 by_cases k4:P.kind=4
 case pos=>
  rw[if_neg k1,if_neg k2,if_neg k3,if_pos k4]at hB
  refine ZJ ((P.kind==4)) true (beq_iff_eq.2 k4) ?_
  cases c1:ramp0 P
  ·rw[c1,Bool.false_and]at hB
   exact ZC (fun w1 hw h=>Je (q:=q) c1) fun u_c1=>ZR <| ZX Zf (by rw[←hB])
  rw[c1,Bool.true_and]at hB
  refine ZD 6 (fun w1 hw h=>Je (q:=q) c1) fun u_c1=> ?_
  by_cases c2:P.co=Uq
  case neg=>
   rw[decide_eq_false c2,Bool.false_and]at hB
   exact ZA (D4 23 (.tmp 105) (.tmp 106) (Rf P.co) (Rf Uq)) Zf (fun w1 hw h=>P7 (decide_eq_false c2)) <| ZR <| ZX Zf (by rw[←hB])
  rw[decide_eq_true c2,Bool.true_and]at hB
  refine ZA (D4 23 (.tmp 105) (.tmp 106) (Rf P.co) (Rf Uq)) Zt (fun w1 hw h=>P7 (decide_eq_true c2)) ?_
  cases c3:Xy P.im
  ·rw[c3,Bool.false_and]at hB
   exact ZC (fun w1 hw h=>E2 (y:=(q.xA,q.xc)) c3 (hp.px.below hw) hl) fun u_c3=>ZR <| ZX Zf (by rw[←hB])
  rw[c3,Bool.true_and]at hB
  refine ZD 18 (fun w1 hw h=>E2 (y:=(q.xA,q.xc)) c3 (hp.px.below hw) hl) fun u_c3=> ?_
  by_cases s0:P.spread=0
  case pos=>
   rw[decide_eq_true s0,Bool.true_or,Bool.true_and]at hB
   refine K0.slot 118 (.bool (P.spread==0)) Zt Zk (by rw[beq_iff_eq.2 s0]) <| ZS 28 ?_
   by_cases m1:P.samp=1
   case pos=>
    rw[decide_eq_true (.inl m1)]at hB
    exact ZT 128 (.bool (P.samp==1)) Zt (by rw[beq_iff_eq.2 m1]) <| ZX Zt (by rw[←hB])
   exact ZT 128 (.bool (P.samp==1)) Zf (by rw[beq_eq_false_iff_ne.2 m1]) <| ZX (.bool (P.samp==2)) (by rw[←hB,samp2 m1])
  rw[decide_eq_false s0,Bool.false_or]at hB
  cases c5:T4 P.spread
  ·rw[c5,Bool.false_and]at hB
   exact ZT 118 (.bool (P.spread==0)) Zf (by rw[beq_eq_false_iff_ne.2 s0]) <| ZC (fun w1 hw h=>Uu c5) fun u9=>ZR <| ZX Zf (by rw[←hB])
  rw[c5,Bool.true_and]at hB
  refine ZT 118 (.bool (P.spread==0)) Zf (by rw[beq_eq_false_iff_ne.2 s0]) <| ZD 28 (fun w1 hw h=>Uu c5) fun u9=> ?_
  by_cases m1:P.samp=1
  case pos=>
   rw[decide_eq_true (.inl m1)]at hB
   exact ZT 128 (.bool (P.samp==1)) Zt (by rw[beq_iff_eq.2 m1]) <| ZX Zt (by rw[←hB])
  exact ZT 128 (.bool (P.samp==1)) Zf (by rw[beq_eq_false_iff_ne.2 m1]) <| ZX (.bool (P.samp==2)) (by rw[←hB,samp2 m1])
 rw[if_neg k1,if_neg k2,if_neg k3,if_neg k4]at hB
 exact ZJ ((P.kind==4)) false (beq_eq_false_iff_ne.2 k4) <| ZX Zf (by rw[←hB])
end
end
section
open Go.RowKit
--ATNAMES
theorem valid_has(P:Pn):Ku P=(P.T.ok&&(hasB P&&(decide (P.kind=1)||decide (P.T.det≠0)))):=by
 unfold Ku H7 hasB ramp0 img0 Xy
 rw[Bool.eq_iff_iff]
 by_cases k1:P.kind=1
 ·simp[k1,T3,Dk,Uq]
  grind
 by_cases k2:P.kind=2
 ·simp[k2,T3,Dk,Uq]
  grind
 by_cases k3:P.kind=3
 ·simp[k3,T3,Dk,Uq]
  grind
 by_cases k4:P.kind=4
 ·simp[k4,T3,Dk,Uq,Di]
  grind
 simp[k1,k2,k3,k4]
section
variable{w:World}{A A2:Option Addr}{n c:Nat}{l:List (Int×Co)}{px:List Co}{P:Pn}{q:PM}{K:Nat}{B:Bool}{x y:Int}{m:Im}{co:Co}{t:TV}{T:Y0}
theorem rpvalid_v(hB:Ku P=B)(hp:Db P q K w)(hK:2≤K∧K≤1000)(hl:P.im.px.length≤1000000000)(hsl:P.stops.length≤1000000000):Zv 235 #[X4 P q] w (.bool B):=by
 rw[valid_has]at hB
 refine K0.enter Tryz.func235 rfl <| ZR ?_
 cases h1:P.T.ok
 ·rw[h1,Bool.false_and]at hB
  exact ZC (fun w1 hw h=>Gm h1 (hp.tr.below hw) Zo) fun u=>ZI true <| ZX Zf (by rw[←hB])
 rw[h1,Bool.true_and]at hB
 refine ZC (fun w1 hw h=>Gm h1 (hp.tr.below hw) Zo) fun u=> ?_
 cases h2:hasB P
 ·rw[h2,Bool.false_and]at hB
  exact ZC (fun w1 hw h=>has_v h2 (hp.below hw) Zo hl hsl) fun u2=>ZI true <| ZX Zf (by rw[←hB])
 rw[h2,Bool.true_and]at hB
 refine ZC (fun w1 hw h=>has_v h2 (hp.below hw) Zo hl hsl) fun u2=>K0.cond false Zk <| ZS 4 ?_
 by_cases k1:P.kind=1
 case pos=>
  rw[decide_eq_true k1,Bool.true_or]at hB
  exact ZT 15 (.bool (P.kind==1)) Zt (by rw[beq_iff_eq.2 k1]) <| ZX Zt (by rw[←hB])
 rw[decide_eq_false k1,Bool.false_or]at hB
 exact ZT 15 (.bool (P.kind==1)) Zf (by rw[beq_eq_false_iff_ne.2 k1]) <| ZC (fun w1 hw h=>rdetA_m (hp.tr.below hw) Zo) fun d=>ZC (fun w1 hw h=>Bg 0 w1 Zd Zd) fun z=>ZC (fun w1 hw h=>rqcmp_m h.1.2.q h.2.q Zo) fun v=>ZX (.bool (Sw P.T.det ((0:Int):Rat) !=0)) (by rw[Xf,←hB])
end
end
section
open Go.RowKit
--ATNAMES
end
section
open Go.RowKit
--ATNAMES
section
variable{w:World}{P:Pn}{q:PM}{K:Nat}{l:List UInt8}
theorem rsame_st{A A2:Option Addr}{n c c2:Nat}{l:List (Int×Co)}(h1:Ma w A n 5 Ri l)(h2:Ma w A2 n 5 Ri l)(hn:n≤1000000000):Zv 143 #[.slice A n c,.slice A2 n c2] w Zt:=by
 have hln:=h1.1
 refine K0.enter Tryz.func143 rfl <| ZR <| ZJ (((n:Int) !=(n:Int))) false (bne_self_eq_false _) <| K0.loop (ι:={q:Nat // q≤n}) 26 (fun q=>⟨[(0,.v (.slice A n c)),(1,.v (.slice A2 n c2)),(5,.v (Zi q.1))],[]⟩) (fun q u=>True) (fun q=>n-q.1) (⟨0,Nat.zero_le _⟩) Zk (fun _=>by kernel_rfl) ⟨Zk,Zk,Zk⟩ (fun u h=>trivial) ?_
 rintro⟨k,hk⟩ gg
 have hk:k≤n:=hk
 by_cases hlt:k<n
 case neg=>
  obtain rfl:k=n:=by omega
  exact ZR <| ZJ (decide ((k:Int)<(k:Int))) false Zs <| K0.leave Zk <| ZR <| ZW Zt
 obtain⟨x,hx⟩:∃x,l[k]? =some x:=⟨_,List.getElem?_eq_getElem Zo⟩
 obtain⟨a,hA,hc⟩:=h1.2 k x hx
 obtain⟨b,hB,hd⟩:=h2.2 k x hx
 refine ZR <| K0.condr (decide ((k:Int)<(n:Int))) true Zk Zp <| ZS 2 <| K0.askAt 2 (Kj 58 (.slice A n c) k) (.pointer (some (a.add (k*5)))) Zk (fun w1 hw h=>Z3 hA hlt) <| ZS 3 <| K0.askAt 3 (L5 139 (a.add (k*5))) (.agg (Ri x).toArray) Zk (fun w1 hw h=>st_ld fun j v hj=>Lc hw (hc j v hj)) <| ZS 6 <| K0.askAt 6 (Kj 58 (.slice A2 n c2) k) (.pointer (some (b.add (k*5)))) Zk (fun w1 hw h=>Z3 hB hlt) <| ZS 7 <| K0.askAt 7 (L5 139 (b.add (k*5))) (.agg (Ri x).toArray) Zk (fun w1 hw h=>st_ld fun j v hj=>Lc hw (hd j v hj)) <| ZS 8 <| ZB 8 (Xa 139 (.tmp 20) (.tmp 24) (.agg (Ri x).toArray) (.agg (Ri x).toArray)) Zf (fun w1 hw h=>run_ne_stop Zs) <| ZI false <| K0.slot 5 (Zi (IntKind.i64.wrap ((k:Int)+1))) (Zi ((k+1:Nat):Int)) Zk (by rw[Kd hlt Zo]) <| K0.next (⟨k+1,by show k+1≤n;omega⟩) Zk (by show n- (k+1)<n-k;omega) ⟨Zk,Zk,Zk⟩ (fun u h=>trivial)
theorem rsame_im{m:Im}{y y2:Option Addr×Nat}(h1:Ma w y.1 m.px.length 4 Oa m.px)(h2:Ma w y2.1 m.px.length 4 Oa m.px)(hn:m.px.length≤1000000000):Zv 51 #[imV m y,imV m y2] w Zt:=by
 refine K0.enter Tryz.func51 rfl <| ZS 6 <| K0.slot 11 (.bool (m.w !=m.w)) Zf Zk (by rw[bne_self_eq_false]) <| ZS 13 <| ZT 18 (.bool (m.h !=m.h)) Zf (by rw[bne_self_eq_false]) <| ZJ (((m.px.length:Int) !=(m.px.length:Int))) false (bne_self_eq_false _) <| K0.loop (ι:={q:Nat // q≤m.px.length}) 45 (fun q=>⟨[(2,.p 2 0),(3,.p 3 0),(5,.v (Zi q.1))],[(2,[.v (Zi m.w),.v (Zi m.h),.v (.slice y.1 m.px.length y.2)]),(3,[.v (Zi m.w),.v (Zi m.h),.v (.slice y2.1 m.px.length y2.2)])]⟩) (fun q u=>True) (fun q=>m.px.length-q.1) (⟨0,Nat.zero_le _⟩) Zk (fun _=>by kernel_rfl) ⟨Zk,Zk,Zk⟩ (fun u h=>trivial) ?_
 rintro⟨k,hk⟩ gg
 have hk:k≤m.px.length:=hk
 by_cases hlt:k<m.px.length
 case neg=>
  have hkn:m.px.length=k:=by omega
  exact ZR <| ZJ (decide ((k:Int)<(m.px.length:Int))) false Zp <| K0.leave Zk <| ZR <| ZW Zt
 obtain⟨x,hx⟩:∃x,m.px[k]? =some x:=⟨_,List.getElem?_eq_getElem Zo⟩
 obtain⟨a,hA,hc⟩:=h1.2 k x hx
 obtain⟨b,hB,hd⟩:=h2.2 k x hx
 refine ZR <| K0.condr (decide ((k:Int)<(m.px.length:Int))) true Zk Zp <| ZS 3 <| K0.askAt 3 (Kj 48 (.slice y.1 m.px.length y.2) k) (.pointer (some (a.add (k*4)))) Zk (fun w1 hw h=>px_idx hA hlt) <| ZS 4 <| K0.askAt 4 (L5 152 (a.add (k*4))) (.agg (Oa x).toArray) Zk (fun w1 hw h=>px_ld fun j v hj=>Lc hw (hc j v hj)) <| ZS 8 <| K0.askAt 8 (Kj 48 (.slice y2.1 m.px.length y2.2) k) (.pointer (some (b.add (k*4)))) Zk (fun w1 hw h=>px_idx hB hlt) <| ZS 9 <| K0.askAt 9 (L5 152 (b.add (k*4))) (.agg (Oa x).toArray) Zk (fun w1 hw h=>px_ld fun j v hj=>Lc hw (hd j v hj)) <| ZS 10 <| ZB 10 (Xa 152 (.tmp 38) (.tmp 43) (Rf x) (Rf x)) Zf (fun w1 hw h=>run_ne_px Zs) <| ZI false <| K0.slot 5 (Zi (IntKind.i64.wrap ((k:Int)+1))) (Zi ((k+1:Nat):Int)) Zk (by rw[Kd hlt Zo]) <| K0.next (⟨k+1,by show k+1≤m.px.length;omega⟩) Zk (by show m.px.length- (k+1)<m.px.length-k;omega) ⟨Zk,Zk,Zk⟩ (fun u h=>trivial)
theorem eq_ptS{a b:Operand}{x y:Int}:(D4 57 a b (pt x y) (pt x y)).run Tryz.prog w= .ok (.value Zt) w:=by
 rw[Jd];simp
theorem requal_v{q2:PM}(h1:Db P q K w)(h2:Db P q2 K w)(hK:2≤K∧K≤1000)(hn:P.stops.length≤1000000000∧P.im.px.length≤1000000000):Zv 85 #[X4 P q,X4 P q2] w Zt:=by
 exact K0.enter Tryz.func85 rfl <| ZS 6 <| K0.slot 10 (.bool (P.kind==P.kind)) Zt Zk (by rw[beq_self_eq_true]) <| ZS 10 <| K0.ask (D4 23 (.tmp 12) (.tmp 14) (Rf P.co) (Rf P.co)) Zt Zk (fun w1 hw h=>P7 Zs) <| ZS 17 <| K0.ask (D4 57 (.tmp 19) (.tmp 21) (pt P.p0x P.p0y) (pt P.p0x P.p0y)) Zt Zk (fun w1 hw h=>eq_ptS) <| ZS 24 <| K0.ask (D4 57 (.tmp 26) (.tmp 28) (pt P.p1x P.p1y) (pt P.p1x P.p1y)) Zt Zk (fun w1 hw h=>eq_ptS) <| ZS 34 <| ZT 38 (.bool (P.rad==P.rad)) Zt (by rw[beq_self_eq_true]) <| ZD 48 (fun w1 hw h=>rsame_st (c:=q.sc) (c2:=q2.sc) (h1.st.below hw) (h2.st.below hw) hn.1) fun u1=>ZT 52 (.bool (P.spread==P.spread)) Zt (by rw[beq_self_eq_true]) <| ZD 62 (fun w1 hw h=>rsame_im (y:=(q.xA,q.xc)) (y2:=(q2.xA,q2.xc)) (h1.px.below hw) (h2.px.below hw) hn.2) fun u2=>ZT 66 (.bool (P.samp==P.samp)) Zt (by rw[beq_self_eq_true]) <| ZC (fun w1 hw h=>Gp (T:=P.T) (U:=P.T) eqA_rfl (h1.tr.below hw) (h2.tr.below hw) Zo) fun u3=>ZW Zt
end
end
structure InT(t:TV)(w:World):Prop where
 a:InR t.a w
 b:InR t.b w
 c:InR t.c w
 d:InR t.d w
 e:InR t.e w
 f:InR t.f w
theorem rd_aff{w:World}{cs:List Value}(h:Rd w shAff cs):∃t:TV,cs=t.cl∧InT t w:=by
 obtain⟨_,_,rfl,_,h1,h⟩:=Kk h
 obtain⟨_,_,rfl,_,h2,h⟩:=Kk h
 obtain⟨_,_,rfl,_,h3,h⟩:=Kk h
 obtain⟨_,_,rfl,_,h4,h⟩:=Kk h
 obtain⟨_,_,rfl,_,h5,h⟩:=Kk h
 obtain⟨_,_,rfl,_,h6,h⟩:=Kk h
 obtain rfl:=h
 obtain⟨a,rfl,ia⟩:=Ci h1
 obtain⟨b,rfl,ib⟩:=Ci h2
 obtain⟨c,rfl,ic⟩:=Ci h3
 obtain⟨d,rfl,id⟩:=Ci h4
 obtain⟨e,rfl,ie⟩:=Ci h5
 obtain⟨f,rfl,if_⟩:=Ci h6
 exact⟨⟨a,b,c,d,e,f⟩,by simp[TV.cl],ia,ib,ic,id,ie,if_⟩
section
open Go.RowKit
--ATNAMES
def Ni(t:TV):Bool:=decide (t.a.a.n≤12)&&(decide (t.a.b.n≤12)&&(decide (t.b.a.n≤12)&&(decide (t.b.b.n≤12)&&(decide (t.c.a.n≤12)&&(decide (t.c.b.n≤12)&&(decide (t.d.a.n≤12)&&(decide (t.d.b.n≤12)&&(decide (t.e.a.n≤12)&&(decide (t.e.b.n≤12)&&(decide (t.f.a.n≤12)&&decide (t.f.b.n≤12)))))))))))
theorem U8{n:Nat}(h:decide ((n:Int)>12)=true):decide (n≤12)=false:=decide_eq_false (by have:=of_decide_eq_true h;omega)
theorem U9{n:Nat}(h:decide ((n:Int)>12)=false):decide (n≤12)=true:=decide_eq_true (by have:=of_decide_eq_false h;omega)
section
variable{w:World}{P:Pn}{q:PM}{K:Nat}{l:List UInt8}{t:TV}
theorem short_isA(h:Ni t=true)(i:InT t w):∃T,Ag t T 12 w:=by
 unfold Ni at h
 simp only[Bool.and_eq_true,decide_eq_true_eq]at h
 obtain⟨a1,a2,b1,b2,c1,c2,d1,d2,e1,e2,f1,f2⟩:=h
 have k:∀{r:RV},InR r w→r.a.n≤12→r.b.n≤12→∃q,Af r q 12 w:=fun h h1 h2=>⟨_,_,_,of_in h.1 h1,of_in h.2 h2,rfl⟩
 obtain⟨a,ha⟩:=k i.a a1 a2
 obtain⟨b,hb⟩:=k i.b b1 b2
 obtain⟨c,hc⟩:=k i.c c1 c2
 obtain⟨d,hd⟩:=k i.d d1 d2
 obtain⟨e,he⟩:=k i.e e1 e2
 obtain⟨f,hf⟩:=k i.f f1 f2
 exact⟨⟨a,b,c,d,e,f⟩,ha,hb,hc,hd,he,hf⟩
theorem short_m:Zv 11 #[t.val] w (.bool (Ni t)):=by
 refine K0.enter Tryz.func11 rfl <| ZS 12 <| K0.make (Lq 77 6 #[(0,t.a.val),(1,t.b.val),(2,t.c.val),(3,t.d.val),(4,t.e.val),(5,t.f.val)]) (Kf 6) (L4 40 t.cl.toArray) Zk (fun w1 hw h=>Kc Zk) fun g=>ZR ?_
 have hg:∀v:World,L4 40 t.cl.toArray g v→K5 v g t.cl:=fun v h=>⟨_,h⟩
 have hcell:∀{v:World} {k j:Nat} {cs:List Value} {x:Value},v.rangeAt g k cs→cs[j]? =some x→v.cell? ⟨g,k+j,none⟩=some x:=fun h1 h2=>h1 _ _ h2
 refine K0.un Zk <| ZR <| ZI true <| ZA (Kj 77 (Kf 6 g) 0) (Zq g (0*4)) (fun w1 hw h=>Kq (elem:=40) Zk Zk Zd) <| K0.ask (L5 36 ⟨g,1,none⟩) (.slice t.a.a.A t.a.a.n t.a.a.c) Zk (fun w1 hw h=>K8 Zk (hcell (k:=0*4) (j:=1) (six_a (hg _ h.2)) rfl)) <| ZS 9 <| K0.fork 31 (decide ((t.a.a.n:Int)>12)) Zk (fun hc=> ?_) (fun hc=> ?_)
 ·exact K0.runC Zk (stop:=1000) 6000 _ <| ZX Zf (by unfold Ni;rw[U8 hc];simp)
 have haa:=U9 hc
 clear hc
 refine ZR <| ZA (Kj 77 (Kf 6 g) 0) (Zq g (0*4)) (fun w1 hw h=>Kq (elem:=40) Zk Zk Zd) <| ZA (L5 36 ⟨g,3,none⟩) (.slice t.a.b.A t.a.b.n t.a.b.c) (fun w1 hw h=>K8 Zk (hcell (k:=0*4) (j:=3) (six_a (hg _ h.2)) rfl)) <| K0.both (decide ((t.a.b.n:Int)>12)) Zk (fun hc=> ?_) (fun hc=> ?_)
 ·exact K0.runC Zk (stop:=1000) 6000 _ <| ZX Zf (by unfold Ni;rw[U8 hc];simp)
 have hba:=U9 hc
 clear hc
 refine ZR <| ZI true <| ZA (Kj 77 (Kf 6 g) 1) (Zq g (1*4)) (fun w1 hw h=>Kq (elem:=40) Zk Zk Zd) <| K0.ask (L5 36 ⟨g,5,none⟩) (.slice t.b.a.A t.b.a.n t.b.a.c) Zk (fun w1 hw h=>K8 Zk (hcell (k:=1*4) (j:=1) (six_b (hg _ h.2)) rfl)) <| ZS 9 <| K0.fork 31 (decide ((t.b.a.n:Int)>12)) Zk (fun hc=> ?_) (fun hc=> ?_)
 ·exact K0.runC Zk (stop:=1000) 6000 _ <| ZX Zf (by unfold Ni;rw[U8 hc];simp)
 have hab:=U9 hc
 clear hc
 refine ZR <| ZA (Kj 77 (Kf 6 g) 1) (Zq g (1*4)) (fun w1 hw h=>Kq (elem:=40) Zk Zk Zd) <| ZA (L5 36 ⟨g,7,none⟩) (.slice t.b.b.A t.b.b.n t.b.b.c) (fun w1 hw h=>K8 Zk (hcell (k:=1*4) (j:=3) (six_b (hg _ h.2)) rfl)) <| K0.both (decide ((t.b.b.n:Int)>12)) Zk (fun hc=> ?_) (fun hc=> ?_)
 ·exact K0.runC Zk (stop:=1000) 6000 _ <| ZX Zf (by unfold Ni;rw[U8 hc];simp)
 have hbb:=U9 hc
 clear hc
 refine ZR <| ZI true <| ZA (Kj 77 (Kf 6 g) 2) (Zq g (2*4)) (fun w1 hw h=>Kq (elem:=40) Zk Zk Zd) <| K0.ask (L5 36 ⟨g,9,none⟩) (.slice t.c.a.A t.c.a.n t.c.a.c) Zk (fun w1 hw h=>K8 Zk (hcell (k:=2*4) (j:=1) (six_c (hg _ h.2)) rfl)) <| ZS 9 <| K0.fork 31 (decide ((t.c.a.n:Int)>12)) Zk (fun hc=> ?_) (fun hc=> ?_)
 ·exact K0.runC Zk (stop:=1000) 6000 _ <| ZX Zf (by unfold Ni;rw[U8 hc];simp)
 have hac:=U9 hc
 clear hc
 refine ZR <| ZA (Kj 77 (Kf 6 g) 2) (Zq g (2*4)) (fun w1 hw h=>Kq (elem:=40) Zk Zk Zd) <| ZA (L5 36 ⟨g,11,none⟩) (.slice t.c.b.A t.c.b.n t.c.b.c) (fun w1 hw h=>K8 Zk (hcell (k:=2*4) (j:=3) (six_c (hg _ h.2)) rfl)) <| K0.both (decide ((t.c.b.n:Int)>12)) Zk (fun hc=> ?_) (fun hc=> ?_)
 ·exact K0.runC Zk (stop:=1000) 6000 _ <| ZX Zf (by unfold Ni;rw[U8 hc];simp)
 have hbc:=U9 hc
 clear hc
 refine ZR <| ZI true <| ZA (Kj 77 (Kf 6 g) 3) (Zq g (3*4)) (fun w1 hw h=>Kq (elem:=40) Zk Zk Zd) <| K0.ask (L5 36 ⟨g,13,none⟩) (.slice t.d.a.A t.d.a.n t.d.a.c) Zk (fun w1 hw h=>K8 Zk (hcell (k:=3*4) (j:=1) (six_d (hg _ h.2)) rfl)) <| ZS 9 <| K0.fork 31 (decide ((t.d.a.n:Int)>12)) Zk (fun hc=> ?_) (fun hc=> ?_)
 ·exact K0.runC Zk (stop:=1000) 6000 _ <| ZX Zf (by unfold Ni;rw[U8 hc];simp)
 have had:=U9 hc
 clear hc
 refine ZR <| ZA (Kj 77 (Kf 6 g) 3) (Zq g (3*4)) (fun w1 hw h=>Kq (elem:=40) Zk Zk Zd) <| ZA (L5 36 ⟨g,15,none⟩) (.slice t.d.b.A t.d.b.n t.d.b.c) (fun w1 hw h=>K8 Zk (hcell (k:=3*4) (j:=3) (six_d (hg _ h.2)) rfl)) <| K0.both (decide ((t.d.b.n:Int)>12)) Zk (fun hc=> ?_) (fun hc=> ?_)
 ·exact K0.runC Zk (stop:=1000) 6000 _ <| ZX Zf (by unfold Ni;rw[U8 hc];simp)
 have hbd:=U9 hc
 clear hc
 refine ZR <| ZI true <| ZA (Kj 77 (Kf 6 g) 4) (Zq g (4*4)) (fun w1 hw h=>Kq (elem:=40) Zk Zk Zd) <| K0.ask (L5 36 ⟨g,17,none⟩) (.slice t.e.a.A t.e.a.n t.e.a.c) Zk (fun w1 hw h=>K8 Zk (hcell (k:=4*4) (j:=1) (six_e (hg _ h.2)) rfl)) <| ZS 9 <| K0.fork 31 (decide ((t.e.a.n:Int)>12)) Zk (fun hc=> ?_) (fun hc=> ?_)
 ·exact K0.runC Zk (stop:=1000) 6000 _ <| ZX Zf (by unfold Ni;rw[U8 hc];simp)
 have hae:=U9 hc
 clear hc
 refine ZR <| ZA (Kj 77 (Kf 6 g) 4) (Zq g (4*4)) (fun w1 hw h=>Kq (elem:=40) Zk Zk Zd) <| ZA (L5 36 ⟨g,19,none⟩) (.slice t.e.b.A t.e.b.n t.e.b.c) (fun w1 hw h=>K8 Zk (hcell (k:=4*4) (j:=3) (six_e (hg _ h.2)) rfl)) <| K0.both (decide ((t.e.b.n:Int)>12)) Zk (fun hc=> ?_) (fun hc=> ?_)
 ·exact K0.runC Zk (stop:=1000) 6000 _ <| ZX Zf (by unfold Ni;rw[U8 hc];simp)
 have hbe:=U9 hc
 clear hc
 refine ZR <| ZI true <| ZA (Kj 77 (Kf 6 g) 5) (Zq g (5*4)) (fun w1 hw h=>Kq (elem:=40) Zk Zk Zd) <| K0.ask (L5 36 ⟨g,21,none⟩) (.slice t.f.a.A t.f.a.n t.f.a.c) Zk (fun w1 hw h=>K8 Zk (hcell (k:=5*4) (j:=1) (six_f (hg _ h.2)) rfl)) <| ZS 9 <| K0.fork 31 (decide ((t.f.a.n:Int)>12)) Zk (fun hc=> ?_) (fun hc=> ?_)
 ·exact K0.runC Zk (stop:=1000) 6000 _ <| ZX Zf (by unfold Ni;rw[U8 hc];simp)
 have haf:=U9 hc
 clear hc
 refine ZR <| ZA (Kj 77 (Kf 6 g) 5) (Zq g (5*4)) (fun w1 hw h=>Kq (elem:=40) Zk Zk Zd) <| ZA (L5 36 ⟨g,23,none⟩) (.slice t.f.b.A t.f.b.n t.f.b.c) (fun w1 hw h=>K8 Zk (hcell (k:=5*4) (j:=3) (six_f (hg _ h.2)) rfl)) <| K0.both (decide ((t.f.b.n:Int)>12)) Zk (fun hc=> ?_) (fun hc=> ?_)
 ·exact K0.runC Zk (stop:=1000) 6000 _ <| ZX Zf (by unfold Ni;rw[U8 hc];simp)
 have hbf:=U9 hc
 clear hc
 exact ZR <| ZI false <| ZX Zt (by unfold Ni;rw[haa,hba,hab,hbb,hac,hbc,had,hbd,hae,hbe,haf,hbf];rfl)
def Xr(P:Pn)(q:PM):Bool:=Ni q.t&&(decide (P.stops.length≤40)&&decide (P.im.px.length≤1000))
theorem short_v{B:Bool}(hB:Ni t=B):Zv 11 #[t.val] w (.bool B):=by subst hB;exact short_m
theorem Uh{B:Bool}(hB:Xr P q=B):Zv 12 #[X4 P q] w (.bool B):=by
 unfold Xr at hB
 refine K0.enter Tryz.func12 rfl <| ZR ?_
 cases h1:Ni q.t
 ·rw[h1,Bool.false_and]at hB
  exact ZC (fun w1 hw h=>short_v h1) fun u=>ZX Zf (by rw[←hB])
 rw[h1,Bool.true_and]at hB
 refine ZD 10 (fun w1 hw h=>short_v h1) fun u=> ?_
 by_cases h2:P.stops.length≤40
 case neg=>
  rw[decide_eq_false h2,Bool.false_and]at hB
  exact ZT 12 (.bool (decide ((P.stops.length:Int)≤40))) Zf (by rw[decide_eq_false Zo]) <| ZX Zf (by rw[←hB])
 rw[decide_eq_true h2,Bool.true_and]at hB
 exact ZT 12 (.bool (decide ((P.stops.length:Int)≤40))) Zt (by rw[decide_eq_true Zo]) <| ZX (.bool (decide ((P.im.px.length:Int)≤1000))) (by rw[←hB];congr 2;exact decide_eq_decide.2 Zo)
end
def shCol:Sh:= .cons 1 (.int .u8) (.cons 1 (.int .u8) (.cons 1 (.int .u8) (.cons 1 (.int .u8) .nil)))
def shPnt:Sh:= .cons 1 (.int .i64) (.cons 1 (.int .i64) .nil)
def shStop:Sh:= .cons 1 (.int .i64) (.cons 4 shCol .nil)
def shImg:Sh:= .cons 1 (.int .i64) (.cons 1 (.int .i64) (.cons 1 (.sl 4 shCol) .nil))
def J9:Sh:= .cons 1 (.int .i64) (.cons 4 shCol (.cons 2 shPnt (.cons 2 shPnt (.cons 1 (.int .i64) (.cons 1 (.sl 5 shStop) (.cons 1 (.int .i64) (.cons 3 shImg (.cons 1 (.int .i64) (.cons 24 shAff .nil)))))))))
section
variable{w:World}{cs:List Value}
theorem rd_u8(h:Rd w (.int .u8) cs):∃c:UInt8,cs=[.int .u8 (c.toNat:Int)]:=by
 obtain⟨z,rfl,hz⟩:=h
 have h2:0≤z∧z≤255:=by
  simp only[Lit.wf,Bool.and_eq_true,decide_eq_true_iff]at hz
  exact hz
 refine⟨UInt8.ofNat z.toNat,?_⟩
 have h3:(UInt8.ofNat z.toNat).toNat=z.toNat:=by
  rw[UInt8.toNat_ofNat']
  omega
 rw[h3,Int.toNat_of_nonneg h2.1]
theorem Wx(h:Rd w shCol cs):∃c:Co,cs=Oa c:=by
 obtain⟨_,_,rfl,_,h1,h⟩:=Kk h
 obtain⟨_,_,rfl,_,h2,h⟩:=Kk h
 obtain⟨_,_,rfl,_,h3,h⟩:=Kk h
 obtain⟨_,_,rfl,_,h4,h⟩:=Kk h
 obtain rfl:=h
 obtain⟨a,rfl⟩:=rd_u8 h1
 obtain⟨b,rfl⟩:=rd_u8 h2
 obtain⟨c,rfl⟩:=rd_u8 h3
 obtain⟨d,rfl⟩:=rd_u8 h4
 exact⟨(a,b,c,d),rfl⟩
theorem Ww(h:Rd w shPnt cs):∃x y:Int,cs=[Zi x,Zi y]:=by
 obtain⟨_,_,rfl,_,h1,h⟩:=Kk h
 obtain⟨_,_,rfl,_,h2,h⟩:=Kk h
 obtain rfl:=h
 obtain⟨a,rfl,_⟩:=h1
 obtain⟨b,rfl,_⟩:=h2
 exact⟨a,b,rfl⟩
theorem rd_stop(h:Rd w shStop cs):∃x:Int×Co,cs=Ri x:=by
 obtain⟨_,_,rfl,_,h1,h⟩:=Kk h
 obtain⟨_,_,rfl,_,h2,h⟩:=Kk h
 obtain rfl:=h
 obtain⟨a,rfl,_⟩:=h1
 obtain⟨c,rfl⟩:=Wx h2
 exact⟨(a,c),rfl⟩
theorem Z9{α:Type}{n:Nat}{e:Sh}{cl:α→List Value}(he:∀xs,Rd w e xs→∃x,xs=cl x)(h:Rd w (.sl n e) cs):∃(A:Option Addr) (cap:Nat) (l:List α),cs=[.slice A l.length cap]∧Ma w A l.length n cl l:=by
 obtain⟨A,len,cap,rfl,_,_,hel⟩:=h
 have hx:∀i:Fin len,∃x:α,∃ad,A=some ad∧∀(j:Nat) (v:Value),(cl x)[j]? =some v→w.cell? ((ad.add (i.1*n)).add j)=some v:=fun i=>by
  obtain⟨ad,xs,h1,_,h2,h3⟩:=hel i.1 i.2
  obtain⟨x,rfl⟩:=he xs h3
  exact⟨x,ad,h1,h2⟩
 have hlen:(List.ofFn fun i:Fin len=>Classical.choose (hx i)).length=len:=List.length_ofFn
 refine⟨A,cap,List.ofFn fun i:Fin len=>Classical.choose (hx i),by rw[hlen],rfl,fun k x hk=> ?_⟩
 obtain⟨h1,h2⟩:=List.getElem?_eq_some_iff.1 hk
 rw[List.getElem_ofFn]at h2
 have:=Classical.choose_spec (hx ⟨k,by rw[hlen]at h1;exact h1⟩)
 rw[h2]at this
 exact this
theorem rd_paint(h:Rd w J9 cs):∃(P:Pn) (q:PM),cs=pnC P q∧Ma w q.sA P.stops.length 5 Ri P.stops∧Ma w q.xA P.im.px.length 4 Oa P.im.px∧InT q.t w:=by
 obtain⟨_,_,rfl,_,h1,h⟩:=Kk h
 obtain⟨_,_,rfl,_,h2,h⟩:=Kk h
 obtain⟨_,_,rfl,_,h3,h⟩:=Kk h
 obtain⟨_,_,rfl,_,h4,h⟩:=Kk h
 obtain⟨_,_,rfl,_,h5,h⟩:=Kk h
 obtain⟨_,_,rfl,_,h6,h⟩:=Kk h
 obtain⟨_,_,rfl,_,h7,h⟩:=Kk h
 obtain⟨_,_,rfl,_,h8,h⟩:=Kk h
 obtain⟨_,_,rfl,_,h9,h⟩:=Kk h
 obtain⟨_,_,rfl,_,h10,h⟩:=Kk h
 obtain rfl:=h
 obtain⟨k,rfl,_⟩:=h1
 obtain⟨c,rfl⟩:=Wx h2
 obtain⟨x0,y0,rfl⟩:=Ww h3
 obtain⟨x1,y1,rfl⟩:=Ww h4
 obtain⟨r,rfl,_⟩:=h5
 obtain⟨sA,sc,l,rfl,hst⟩:=Z9 (fun xs=>rd_stop) h6
 obtain⟨sp,rfl,_⟩:=h7
 obtain⟨_,_,rfl,_,i1,h⟩:=Kk h8
 obtain⟨_,_,rfl,_,i2,h⟩:=Kk h
 obtain⟨_,_,rfl,_,i3,h⟩:=Kk h
 obtain rfl:=h
 obtain⟨iw,rfl,_⟩:=i1
 obtain⟨ih,rfl,_⟩:=i2
 obtain⟨xA,xc,px,rfl,hpx⟩:=Z9 (fun xs=>Wx) i3
 obtain⟨sm,rfl,_⟩:=h9
 obtain⟨t,rfl,ht⟩:=rd_aff h10
 exact⟨⟨k,c,x0,y0,x1,y1,r,l,sp,⟨iw,ih,px⟩,sm,Px⟩,⟨sA,sc,xA,xc,t⟩,by simp[pnC,Oa],hst,hpx,ht⟩
end
end
end Go.Proofs.YtoeiphicmcndlaaGreatDoor
