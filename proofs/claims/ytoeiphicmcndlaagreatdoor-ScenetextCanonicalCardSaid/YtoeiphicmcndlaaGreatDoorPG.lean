/-
 Paints as text: the reference's checks.
-/
import Derived.Test.YtoeiphicmcndlaaGreatDoorYX
namespace Go.Proofs.YtoeiphicmcndlaaGreatDoor
set_option maxRecDepth 100000
set_option maxHeartbeats 8000000
set_option linter.unusedVariables false
set_option linter.unusedSimpArgs false
open Go.RowKit
section
open Go.RowKit
--ATNAMES
section
variable{w:World}{A A2:Option Addr}{n c n2 c2:Nat}{ws l:WS}{x y:RSt}
theorem idxW_none:∀{l:WS} {s:List UInt8},s∉l→Rn s l=none
 | [],s,_=>rfl
 |y::l,s,h=>by
  rw[P4,if_neg (fun e=>h (by rw[e];simp)),idxW_none (fun hc=>h (by simp[hc]))];rfl
theorem idxW_first:∀{l:WS} {s:List UInt8} {k:Nat},l[k]? =some s→(∀j,j<k→l[j]? ≠some s)→Rn s l=some k
 | [],s,k,h,_=>by simp at h
 |y::l,s,0,h,_=>by
  simp at h;rw[P4,if_pos h]
 |y::l,s,k+1,h,hn=>by
  have h0:=hn 0 Zo
  rw[P4,if_neg (fun e=>h0 (by simp[e])),idxW_first (k:=k) (by simpa using h) (fun j hj=>by have:=hn (j+1) Zo;simpa using this)];rfl
end
end
section
open Go.RowKit
--ATNAMES
end
section
open Go.RowKit
--ATNAMES
section
variable{w:World}{A A2:Option Addr}{n c n2 c2:Nat}{ws l:WS}{x:RSt}{m k:Int}{B:Bool}
theorem size_v(hB:Yj m k=B):Zv 192 #[Zi m,Zi k] w (.bool B):=by
 refine K0.enter Tryz.func192 rfl <| ZS 3 ?_
 by_cases h0:1≤m
 case neg=>
  exact ZT 7 (.bool (decide (m≥1))) Zf (by rw[decide_eq_false Zo]) <| ZX Zf (by rw[←hB];unfold Yj;rw[decide_eq_false Zo])
 refine K0.slot 7 (.bool (decide (m≥1))) Zt Zk (by rw[decide_eq_true Zo]) <| ZS 7 ?_
 by_cases h1:m≤4096
 case neg=>
  exact ZT 11 (.bool (decide (m≤4096))) Zf (by rw[decide_eq_false Zo]) <| ZX Zf (by rw[←hB];unfold Yj;rw[decide_eq_false Zo])
 refine K0.slot 11 (.bool (decide (m≤4096))) Zt Zk (by rw[decide_eq_true Zo]) <| ZS 11 ?_
 by_cases h2:1≤k
 case neg=>
  exact ZT 15 (.bool (decide (k≥1))) Zf (by rw[decide_eq_false Zo]) <| ZX Zf (by rw[←hB];unfold Yj;rw[decide_eq_false Zo])
 refine K0.slot 15 (.bool (decide (k≥1))) Zt Zk (by rw[decide_eq_true Zo]) <| ZS 15 ?_
 by_cases h3:k≤4096
 case neg=>
  exact ZT 19 (.bool (decide (k≤4096))) Zf (by rw[decide_eq_false Zo]) <| ZX Zf (by rw[←hB];unfold Yj;rw[decide_eq_false Zo])
 refine ZT 19 (.bool (decide (k≤4096))) Zt (by rw[decide_eq_true Zo]) <| ZV (.bool (decide (IntKind.i64.wrap (m*k)≤65536))) (fun w1 hw h=>⟨(),by rw[←hB,wrap_wh ⟨h0,h1⟩ ⟨h2,h3⟩];unfold Yj;congr 2;exact decide_eq_decide.2 ⟨fun h=>⟨h0,h1,h2,h3,h⟩,fun h=>h.2.2.2.2⟩,hw,fun _ _ _=>trivial⟩)
end
end
section
open Go.RowKit
--ATNAMES
end
section
open Go.RowKit
--ATNAMES
def Rp(t:TypeId)(p:Addr)(f:Nat):Sem Next:=Instr.fieldAt t (.pointer (some p)) f >>= fun v=>pure (.value v)
theorem Mi{P:Program}{t:TypeId}{p:Addr}{f d:Nat}{w:World}(h:Td P t f 0 0=some ⟨.p 0 (0+d),none⟩):(Rp t p f).run P w= .ok (.value (.pointer (some (p.add d)))) w:=by
 unfold Td at h
 split at h
 ·rename_i fs hu
  split at h
  ·rename_i fd hf
   split at h
   ·rename_i n hn
    injection h with h
    injection h with h _
    injection h with _ h
    rw[Nat.zero_add,Nat.zero_add]at h
    have hrun:(Instr.fieldAt t (.pointer (some p)) f).run P w= .ok (.pointer (some (p.add fd.offset))) w:=by
     simp only[Instr.fieldAt,Sem.run_bind,run_underlying hu,Result.andThen_ok,hf,Instr.sureAddr,Sem.run_pure,fieldPlace,Lq hn,Nat.add_one_ne_zero,if_false]
    simp only[Rp,Sem.run_bind,hrun,Result.andThen_ok,Sem.run_pure,h]
   ·cases h
  ·cases h
 ·cases h
section
variable{w:World}{A A2:Option Addr}{n c:Nat}{l:List (Int×Co)}{px:List Co}{P:Pn}{q:PM}{K:Nat}{B:Bool}{k x y:Int}{m:Im}{co:Co}{g:Nat}
theorem le8(a b:UInt8):decide ((a.toNat:Int)≤(b.toNat:Int))=decide (a≤b):=decide_eq_decide.2 ⟨fun h=>UInt8.le_iff_toNat_le.2 Zo,fun h=>by have:=UInt8.le_iff_toNat_le.1 h;omega⟩
theorem rcvalid_v(hB:pxOK co=B):Zv 193 #[Te co] w (.bool B):=by
 unfold pxOK at hB
 refine K0.enter Tryz.func193 rfl <| ZS 6 ?_
 by_cases h0:co.1≤co.2.2.2
 case neg=>
  refine ZT 8 (.bool (decide ((co.1.toNat:Int)≤(co.2.2.2.toNat:Int)))) Zf (by rw[le8,decide_eq_false h0]) <| ZV Zf (fun w1 hw h=>⟨(),by rw[←hB,decide_eq_false (fun h=>h0 h.1)],hw,fun _ _ _=>trivial⟩)
 refine K0.slot 8 (.bool (decide ((co.1.toNat:Int)≤(co.2.2.2.toNat:Int)))) Zt Zk (by rw[le8,decide_eq_true h0]) <| ZS 13 ?_
 by_cases h1:co.2.1≤co.2.2.2
 case neg=>
  refine ZT 15 (.bool (decide ((co.2.1.toNat:Int)≤(co.2.2.2.toNat:Int)))) Zf (by rw[le8,decide_eq_false h1]) <| ZV Zf (fun w1 hw h=>⟨(),by rw[←hB,decide_eq_false (fun h=>h1 h.2.1)],hw,fun _ _ _=>trivial⟩)
 refine K0.slot 15 (.bool (decide ((co.2.1.toNat:Int)≤(co.2.2.2.toNat:Int)))) Zt Zk (by rw[le8,decide_eq_true h1]) <| ZS 19 ?_
 by_cases h2:co.2.2.1≤co.2.2.2
 case neg=>
  refine ZT 21 (.bool (decide ((co.2.2.1.toNat:Int)≤(co.2.2.2.toNat:Int)))) Zf (by rw[le8,decide_eq_false h2]) <| ZV Zf (fun w1 hw h=>⟨(),by rw[←hB,decide_eq_false (fun h=>h2 h.2.2)],hw,fun _ _ _=>trivial⟩)
 exact ZT 21 (.bool (decide ((co.2.2.1.toNat:Int)≤(co.2.2.2.toNat:Int)))) Zt (by rw[le8,decide_eq_true h2]) <| ZX Zt (by rw[←hB,decide_eq_true ⟨h0,h1,h2⟩])
theorem rimvalid_v{y:Option Addr×Nat}(hB:Y5 m=B)(hp:Od w y.1 m.px.length 4 Ph m.px)(hn:m.px.length≤1000000000):Zv 129 #[imV m y] w (.bool B):=by
 unfold Y5 at hB
 refine K0.enter Tryz.func129 rfl <| ZR ?_
 cases h1:Yj m.w m.h
 ·rw[h1,Bool.false_and,Bool.false_and]at hB
  exact ZC (fun w1 hw h=>size_v h1) fun u=>ZR <| ZI true <| ZX Zf (by rw[←hB])
 have hsz:=of_decide_eq_true (show decide _=true from h1)
 have hww:=wrap_wh (x:=m.w) (y:=m.h) ⟨hsz.1,hsz.2.1⟩ ⟨hsz.2.2.1,hsz.2.2.2.1⟩
 rw[h1,Bool.true_and]at hB
 refine ZC (fun w1 hw h=>size_v h1) fun u=>ZR ?_
 by_cases h4:(m.px.length:Int)=m.w*m.h
 case neg=>
  exact ZJ (((m.px.length:Int) !=IntKind.i64.wrap (m.w*m.h))) true (by rw[hww];simpa using h4) <| ZX Zf (by rw[←hB,decide_eq_false h4];rfl)
 rw[decide_eq_true h4,Bool.true_and]at hB
 refine ZJ (((m.px.length:Int) !=IntKind.i64.wrap (m.w*m.h))) false (by rw[hww];simpa using h4) <| K0.loop (ι:={q:Nat // q≤m.px.length∧(m.px.take q).all pxOK=true}) 35 (fun q=>⟨[(1,.p 1 0),(3,.v (Zi q.1))],[(1,[.v (Zi m.w),.v (Zi m.h),.v (.slice y.1 m.px.length y.2)])]⟩) (fun q u=>True) (fun q=>m.px.length-q.1) (⟨0,Nat.zero_le _,rfl⟩) Zk (fun _=>by kernel_rfl) ⟨Zk,Zk,Zk⟩ (fun u h=>trivial) ?_
 rintro⟨k,hk,hall⟩ gg
 have hk:k≤m.px.length:=hk
 have hall:(m.px.take k).all pxOK=true:=hall
 by_cases hlt:k<m.px.length
 case neg=>
  have hkn:m.px.length=k:=by omega
  rw[List.take_of_length_le Zo]at hall
  exact ZR <| ZJ (decide ((k:Int)<(m.px.length:Int))) false Zp <| K0.leave Zk <| ZR <| ZX Zt (by rw[←hB,hall])
 obtain⟨x,hx⟩:∃x,m.px[k]? =some x:=⟨_,List.getElem?_eq_getElem Zo⟩
 obtain⟨ad,hA,hc⟩:=hp.2 k x hx
 refine ZR <| ZJ (decide ((k:Int)<(m.px.length:Int))) true Zp <| ZA (Ku 48 (.slice y.1 m.px.length y.2) k) (.pointer (some (ad.add (k*4)))) (fun w1 hw h=>px_idx hA hlt) <| ZA (Kt 152 (ad.add (k*4))) (.agg (Ph x).toArray) (fun w1 hw h=>px_ld fun j v hj=>Lr hw (hc j v hj)) ?_
 cases hb:pxOK x
 ·exact ZC (fun w1 hw h=>rcvalid_v (co:=x) hb) fun u=>ZI true <| K0.leave Zk <| ZR <| ZX Zf (by rw[←hB,all_bad hx hb])
 ·refine ZC (fun w1 hw h=>rcvalid_v (co:=x) hb) fun u=>ZI false <| K0.slot 3 (Zi (IntKind.i64.wrap ((k:Int)+1))) (Zi ((k+1:Nat):Int)) Zk (by rw[Ki hlt Zo]) <| K0.next (⟨k+1,by show k+1≤m.px.length;omega,by rw[all_take hx hall,hb]⟩) Zk (by show m.px.length- (k+1)<m.px.length-k;omega) ⟨Zk,Zk,Zk⟩ (fun u h=>trivial)
theorem rgvalid_v(hB:Of l=B)(hp:Od w A n 5 Z6 l)(hn:n≤1000000000):Zv 287 #[.slice A n c] w (.bool B):=by
 have hpn:=hp.1
 unfold Of at hB
 obtain⟨C,hC⟩:∃C,C=stOK 0 l:=⟨_,rfl⟩
 rw[←hC]at hB
 refine K0.enter Tryz.func287 rfl <| ZR <| K0.loop (ι:={q:Nat×Int // q.1≤n∧stOK q.2 (l.drop q.1)=C∧0≤q.2∧(q.1=0→q.2=0)∧(0<q.1→∃y,l[q.1-1]? =some y∧y.1=q.2)}) 50 (fun q=>⟨[(0,.v (.slice A n c)),(3,.v (Zi q.1.1))],[]⟩) (fun q u=>True) (fun q=>n-q.1.1) (⟨(0,0),Nat.zero_le _,hC.symm,Int.le_refl 0,fun _=>rfl,fun h=>absurd h Zd⟩) Zk (fun _=>by kernel_rfl) ⟨Zk,Zk,Zk⟩ (fun u h=>trivial) ?_
 rintro⟨⟨k,a⟩,hk,hst,ha0,hk0,hkp⟩ gg
 have hk:k≤n:=hk
 have hst:stOK a (l.drop k)=C:=hst
 have ha0:0≤a:=ha0
 have hk0:k=0→a=0:=hk0
 have hkp:0<k→∃y,l[k-1]? =some y∧y.1=a:=hkp
 by_cases hlt:k<n
 case neg=>
  obtain rfl:k=n:=by omega
  rw[List.drop_eq_nil_of_le Zo]at hst
  have hst:true=C:=hst
  rw[←hst,Bool.and_true]at hB
  by_cases h1:1≤k
  case neg=>
   exact ZR <| ZJ (decide ((k:Int)<(k:Int))) false Zs <| K0.leave Zk <| ZS 4 <| ZT 45 (.bool (decide ((k:Int)≥1))) Zf (by rw[decide_eq_false Zo]) <| ZX Zf (by rw[←hB,decide_eq_false Zo])
  exact ZR <| ZJ (decide ((k:Int)<(k:Int))) false Zs <| K0.leave Zk <| ZS 4 <| ZT 45 (.bool (decide ((k:Int)≥1))) Zt (by rw[decide_eq_true Zo]) <| ZX (.bool (decide ((k:Int)≤16))) (by rw[←hB];congr 2;exact decide_eq_decide.2 Zo)
 obtain⟨x,hx⟩:∃x,l[k]? =some x:=⟨_,List.getElem?_eq_getElem Zo⟩
 obtain⟨ad,hA,hc⟩:=hp.2 k x hx
 have e:stOK a (l.drop k)=(decide (a≤x.1∧x.1≤65536)&&stOK x.1 (l.drop (k+1))):=by rw[drop_get hx];rfl
 rw[e]at hst
 have hld:∀w1:World,Below w.heap.size w w1→(Kt 3 ((ad.add (k*5)).add 0)).run Tryz.prog w1= .ok (.value (Zi x.1)) w1:=fun w1 hw=>K6 Zk (Lr hw (hc 0 _ rfl))
 refine ZR <| K0.condr (decide ((k:Int)<(n:Int))) true Zk Zp <| ZS 2 <| K0.askAt 2 (Ku 58 (.slice A n c) k) (.pointer (some (ad.add (k*5)))) Zk (fun w1 hw h=>st_idx hA Zo) <| ZS 3 <| K0.askAt 3 (Rp 139 (ad.add (k*5)) 0) (.pointer (some ((ad.add (k*5)).add 0))) Zk (fun w1 hw h=>Mi (d:=0) Zk) <| ZS 4 <| K0.askAt 4 (Kt 3 ((ad.add (k*5)).add 0)) (Zi x.1) Zk (fun w1 hw h=>hld w1 hw) <| ZS 7 ?_
 by_cases h3:x.1<0
 case pos=>
  rw[show decide (a≤x.1∧x.1≤65536)=false from decide_eq_false Zo,Bool.false_and]at hst
  exact ZT 16 (.bool (decide (x.1<0))) Zt (by rw[decide_eq_true h3]) <| ZI true <| K0.leave Zk <| ZR <| ZX Zf (by rw[←hB,←hst,Bool.and_false])
 refine K0.slot 16 (.bool (decide (x.1<0))) Zf Zk (by rw[decide_eq_false h3]) <| ZS 9 <| K0.askAt 9 (Ku 58 (.slice A n c) k) (.pointer (some (ad.add (k*5)))) Zk (fun w1 hw h=>st_idx hA Zo) <| ZS 10 <| K0.askAt 10 (Rp 139 (ad.add (k*5)) 0) (.pointer (some ((ad.add (k*5)).add 0))) Zk (fun w1 hw h=>Mi (d:=0) Zk) <| ZS 11 <| K0.askAt 11 (Kt 3 ((ad.add (k*5)).add 0)) (Zi x.1) Zk (fun w1 hw h=>hld w1 hw) <| ZS 15 ?_
 by_cases h4:x.1>65536
 case pos=>
  rw[show decide (a≤x.1∧x.1≤65536)=false from decide_eq_false Zo,Bool.false_and]at hst
  exact ZT 24 (.bool (decide (x.1>65536))) Zt (by rw[decide_eq_true h4]) <| ZI true <| K0.leave Zk <| ZR <| ZX Zf (by rw[←hB,←hst,Bool.and_false])
 refine K0.slot 24 (.bool (decide (x.1>65536))) Zf Zk (by rw[decide_eq_false h4]) <| ZS 18 ?_
 by_cases hkz:k=0
 case pos=>
  have haz:=hk0 hkz
  rw[show decide (a≤x.1∧x.1≤65536)=true from decide_eq_true Zo,Bool.true_and]at hst
  refine ZT 27 (.bool (decide ((k:Int)>0))) Zf (by rw[decide_eq_false Zo]) <| ZI false <| K0.slot 3 (Zi (IntKind.i64.wrap ((k:Int)+1))) (Zi ((k+1:Nat):Int)) Zk (by rw[Ki hlt Zo]) <| K0.next (⟨(k+1,x.1),by show k+1≤n;omega,hst,by show 0≤x.1;omega,fun h=>absurd h (Nat.succ_ne_zero k),fun _=>⟨x,hx,rfl⟩⟩) Zk (by show n- (k+1)<n-k;omega) ⟨Zk,Zk,Zk⟩ (fun u h=>trivial)
 obtain⟨y,hy,hya⟩:=hkp Zo
 obtain⟨ad2,hA2,hc2⟩:=hp.2 (k-1) y hy
 rw[hA]at hA2
 cases hA2
 have hld2:∀w1:World,Below w.heap.size w w1→(Kt 3 ((ad.add ((k-1)*5)).add 0)).run Tryz.prog w1= .ok (.value (Zi y.1)) w1:=fun w1 hw=>K6 Zk (Lr hw (hc2 0 _ rfl))
 refine K0.slot 27 (.bool (decide ((k:Int)>0))) Zt Zk (by rw[decide_eq_true Zo]) <| ZS 20 <| K0.askAt 20 (Ku 58 (.slice A n c) k) (.pointer (some (ad.add (k*5)))) Zk (fun w1 hw h=>st_idx hA Zo) <| ZS 21 <| K0.askAt 21 (Rp 139 (ad.add (k*5)) 0) (.pointer (some ((ad.add (k*5)).add 0))) Zk (fun w1 hw h=>Mi (d:=0) Zk) <| ZS 22 <| K0.askAt 22 (Kt 3 ((ad.add (k*5)).add 0)) (Zi x.1) Zk (fun w1 hw h=>hld w1 hw) <| ZS 26 <| K0.slot 35 (Zi (IntKind.i64.wrap ((k:Int)-1))) (Zi ((k-1:Nat):Int)) Zk (by rw[IntWalk.i64_in _ Zo];congr 1;omega) <| K0.askAt 26 (Ku 58 (.slice A n c) ((k-1:Nat):Int)) (.pointer (some (ad.add ((k-1)*5)))) Zk (fun w1 hw h=>st_idx hA Zo) <| ZS 27 <| K0.askAt 27 (Rp 139 (ad.add ((k-1)*5)) 0) (.pointer (some ((ad.add ((k-1)*5)).add 0))) Zk (fun w1 hw h=>Mi (d:=0) Zk) <| ZS 28 <| ZB 28 (Kt 3 ((ad.add ((k-1)*5)).add 0)) (Zi y.1) (fun w1 hw h=>hld2 w1 hw) ?_
 by_cases h5:x.1<y.1
 case pos=>
  rw[show decide (a≤x.1∧x.1≤65536)=false from decide_eq_false Zo,Bool.false_and]at hst
  exact ZR <| ZJ (decide (x.1<y.1)) true (by simpa using h5) <| K0.leave Zk <| ZR <| ZX Zf (by rw[←hB,←hst,Bool.and_false])
 rw[show decide (a≤x.1∧x.1≤65536)=true from decide_eq_true Zo,Bool.true_and]at hst
 refine ZR <| ZJ (decide (x.1<y.1)) false (by simpa using h5) <| K0.slot 3 (Zi (IntKind.i64.wrap ((k:Int)+1))) (Zi ((k+1:Nat):Int)) Zk (by rw[Ki hlt Zo]) <| K0.next (⟨(k+1,x.1),by show k+1≤n;omega,hst,by show 0≤x.1;omega,fun h=>absurd h (Nat.succ_ne_zero k),fun _=>⟨x,hx,rfl⟩⟩) Zk (by show n- (k+1)<n-k;omega) ⟨Zk,Zk,Zk⟩ (fun u h=>trivial)
def img0(P:Pn):Bool:=decide (P.im.w=0∧P.im.h=0∧P.im.px=[]∧P.samp=0)
def ramp0(P:Pn):Bool:=decide ((P.p0x=0∧P.p0y=0)∧(P.p1x=0∧P.p1y=0)∧P.rad=0∧P.stops=[])
theorem Vz(hB:img0 P=B):Zv 285 #[X7 P q] w (.bool B):=by
 unfold img0 at hB
 refine K0.enter Tryz.func285 rfl <| ZS 5 ?_
 by_cases h0:P.im.w=0
 case neg=>
  refine ZT 7 (.bool (P.im.w==0)) Zf (by rw[beq_eq_false_iff_ne.2 h0]) <| ZV Zf (fun w1 hw h=>⟨(),by rw[←hB,decide_eq_false (fun h=>h0 h.1)],hw,fun _ _ _=>trivial⟩)
 refine K0.slot 7 (.bool (P.im.w==0)) Zt Zk (by rw[beq_iff_eq.2 h0]) <| ZS 11 ?_
 by_cases h1:P.im.h=0
 case neg=>
  refine ZT 13 (.bool (P.im.h==0)) Zf (by rw[beq_eq_false_iff_ne.2 h1]) <| ZV Zf (fun w1 hw h=>⟨(),by rw[←hB,decide_eq_false (fun h=>h1 h.2.1)],hw,fun _ _ _=>trivial⟩)
 refine K0.slot 13 (.bool (P.im.h==0)) Zt Zk (by rw[beq_iff_eq.2 h1]) <| ZS 18 ?_
 by_cases h2:P.im.px=[]
 case neg=>
  refine ZT 20 (.bool ((P.im.px.length:Int)==0)) Zf (by rw[beq_eq_false_iff_ne.2 (by rw[Ne,Int.ofNat_eq_zero,List.length_eq_zero_iff];exact h2)]) <| ZV Zf (fun w1 hw h=>⟨(),by rw[←hB,decide_eq_false (fun h=>h2 h.2.2.1)],hw,fun _ _ _=>trivial⟩)
 refine K0.slot 20 (.bool ((P.im.px.length:Int)==0)) Zt Zk (by rw[h2];rfl) <| ZS 22 ?_
 by_cases h3:P.samp=0
 case neg=>
  refine ZT 24 (.bool (P.samp==0)) Zf (by rw[beq_eq_false_iff_ne.2 h3]) <| ZV Zf (fun w1 hw h=>⟨(),by rw[←hB,decide_eq_false (fun h=>h3 h.2.2.2)],hw,fun _ _ _=>trivial⟩)
 exact ZT 24 (.bool (P.samp==0)) Zt (by rw[beq_iff_eq.2 h3]) <| ZR <| ZX Zt (by rw[←hB,decide_eq_true ⟨h0,h1,h2,h3⟩])
theorem rramp_v(hB:ramp0 P=B):Zv 284 #[X7 P q] w (.bool B):=by
 unfold ramp0 at hB
 refine K0.enter Tryz.func284 rfl <| ZS 3 ?_
 by_cases h0:P.p0x=0∧P.p0y=0
 case neg=>
  refine ZA (eqP 57 (.tmp 4) (.tmp 5) (pt P.p0x P.p0y) (pt 0 0)) Zf (fun w1 hw h=>Vm (decide_eq_false h0)) <| ZR <| ZV Zf (fun w1 hw h=>⟨(),by rw[←hB,decide_eq_false (fun h=>h0 h.1)],hw,fun _ _ _=>trivial⟩)
 refine K0.ask (eqP 57 (.tmp 4) (.tmp 5) (pt P.p0x P.p0y) (pt 0 0)) Zt Zk (fun w1 hw h=>Vm (decide_eq_true h0)) <| ZS 8 ?_
 by_cases h1:P.p1x=0∧P.p1y=0
 case neg=>
  refine ZA (eqP 57 (.tmp 9) (.tmp 10) (pt P.p1x P.p1y) (pt 0 0)) Zf (fun w1 hw h=>Vm (decide_eq_false h1)) <| ZR <| ZV Zf (fun w1 hw h=>⟨(),by rw[←hB,decide_eq_false (fun h=>h1 h.2.1)],hw,fun _ _ _=>trivial⟩)
 refine K0.ask (eqP 57 (.tmp 9) (.tmp 10) (pt P.p1x P.p1y) (pt 0 0)) Zt Zk (fun w1 hw h=>Vm (decide_eq_true h1)) <| ZS 16 ?_
 by_cases h2:P.rad=0
 case neg=>
  refine ZT 18 (.bool (P.rad==0)) Zf (by rw[beq_eq_false_iff_ne.2 h2]) <| ZV Zf (fun w1 hw h=>⟨(),by rw[←hB,decide_eq_false (fun h=>h2 h.2.2.1)],hw,fun _ _ _=>trivial⟩)
 refine K0.slot 18 (.bool (P.rad==0)) Zt Zk (by rw[beq_iff_eq.2 h2]) <| ZS 21 ?_
 by_cases h3:P.stops=[]
 case neg=>
  refine ZT 23 (.bool ((P.stops.length:Int)==0)) Zf (by rw[beq_eq_false_iff_ne.2 (by rw[Ne,Int.ofNat_eq_zero,List.length_eq_zero_iff];exact h3)]) <| ZV Zf (fun w1 hw h=>⟨(),by rw[←hB,decide_eq_false (fun h=>h3 h.2.2.2)],hw,fun _ _ _=>trivial⟩)
 exact ZT 23 (.bool ((P.stops.length:Int)==0)) Zt (by rw[h3];rfl) <| ZX Zt (by rw[←hB,decide_eq_true ⟨h0,h1,h2,h3⟩])
theorem rzero_v{t:TV}{T:Yg}(hB:eqA T Q6=B)(ht:IsA t T K w)(hK:2≤K∧K≤10000000):Zv 286 #[t.val] w (.bool B):=by
 exact K0.enter Tryz.func286 rfl <| ZR <| ZC (fun w1 hw h=>requalA_v hB (ht.below hw) (IsA.zero (w:=w1)) hK) fun u=>ZW (.bool B)
theorem U1(hB:Sa x=B):Zv 288 #[Zi x] w (.bool B):=by
 unfold Sa at hB
 refine K0.enter Tryz.func288 rfl <| ZS 3 ?_
 by_cases h1:1≤x
 case neg=>
  exact ZT 5 (.bool (decide (x≥1))) Zf (by rw[decide_eq_false Zo]) <| ZX Zf (by rw[←hB,decide_eq_false Zo])
 exact ZT 5 (.bool (decide (x≥1))) Zt (by rw[decide_eq_true Zo]) <| ZX (.bool (decide (x≤3))) (by rw[←hB];congr 2;exact decide_eq_decide.2 Zo)
theorem rvecv{X Y:Int}(hB:La X Y=B):Zv 270 #[pt X Y] w (.bool B):=by subst hB;exact rvalid_m
theorem samp2{z:Int}(h:¬z=1):(z==2)=decide (z=1∨z=2):=by
 rw[Bool.eq_iff_iff,beq_iff_eq,decide_eq_true_iff]
 exact⟨.inr,fun k=>k.resolve_left h⟩
def hasB(P:Pn):Bool:=
 if P.kind=1 then ramp0 P&&(img0 P&&(decide (P.spread=0)&&eqA P.T Q6))
 else if P.kind=2 then img0 P&&(decide (P.co=Us)&&(decide (P.rad=0)&&(La P.p0x P.p0y&&(La P.p1x P.p1y&&(Of P.stops&&Sa P.spread)))))
 else if P.kind=3 then img0 P&&(decide (P.co=Us)&&(decide (P.p1x=0∧P.p1y=0)&&(La P.p0x P.p0y&&(decide (1≤P.rad)&&(decide (P.rad≤1048576)&&(Of P.stops&&Sa P.spread))))))
 else if P.kind=4 then ramp0 P&&(decide (P.co=Us)&&(Y5 P.im&&((decide (P.spread=0)||Sa P.spread)&&decide (P.samp=1∨P.samp=2))))
 else false
theorem has_v(hB:hasB P=B)(hp:PRd P q K w)(hK:2≤K∧K≤10000000)(hl:P.im.px.length≤1000000000)(hsl:P.stops.length≤1000000000):Zv 271 #[X7 P q] w (.bool B):=by
 unfold hasB at hB
 refine K0.enter Tryz.func271 rfl <| ZR ?_
 by_cases k1:P.kind=1
 case pos=>
  rw[if_pos k1]at hB
  refine ZJ ((P.kind==1)) true (beq_iff_eq.2 k1) ?_
  cases c1:ramp0 P
  ·rw[c1,Bool.false_and]at hB
   exact ZC (fun w1 hw h=>rramp_v (q:=q) c1) fun u_c1=>ZR <| ZX Zf (by rw[←hB])
  rw[c1,Bool.true_and]at hB
  refine ZC (fun w1 hw h=>rramp_v (q:=q) c1) fun u_c1=> ?_
  cases c2:img0 P
  ·rw[c2,Bool.false_and]at hB
   exact ZC (fun w1 hw h=>Vz (q:=q) c2) fun u_c2=>ZR <| ZX Zf (by rw[←hB])
  rw[c2,Bool.true_and]at hB
  refine ZD 12 (fun w1 hw h=>Vz (q:=q) c2) fun u_c2=> ?_
  by_cases c3:P.spread=0
  case neg=>
   rw[decide_eq_false c3,Bool.false_and]at hB
   exact ZT 18 (.bool (P.spread==0)) Zf (by rw[beq_eq_false_iff_ne.2 c3]) <| ZX Zf (by rw[←hB])
  rw[decide_eq_true c3,Bool.true_and]at hB
  refine ZT 18 (.bool (P.spread==0)) Zt (by rw[beq_iff_eq.2 c3]) ?_
  cases c4:eqA P.T Q6
  ·rw[c4]at hB
   exact ZC (fun w1 hw h=>rzero_v c4 (hp.tr.below hw) hK) fun u_c4=>ZR <| ZX Zf (by rw[←hB])
  rw[c4]at hB
  exact ZC (fun w1 hw h=>rzero_v c4 (hp.tr.below hw) hK) fun u_c4=>ZR <| ZX Zt (by rw[←hB])
 refine ZJ ((P.kind==1)) false (beq_eq_false_iff_ne.2 k1) ?_
 by_cases k2:P.kind=2
 case pos=>
  rw[if_neg k1,if_pos k2]at hB
  refine ZJ ((P.kind==2)) true (beq_iff_eq.2 k2) ?_
  cases c1:img0 P
  ·rw[c1,Bool.false_and]at hB
   exact ZC (fun w1 hw h=>Vz (q:=q) c1) fun u_c1=>ZR <| ZX Zf (by rw[←hB])
  rw[c1,Bool.true_and]at hB
  refine ZD 6 (fun w1 hw h=>Vz (q:=q) c1) fun u_c1=> ?_
  by_cases c2:P.co=Us
  case neg=>
   rw[decide_eq_false c2,Bool.false_and]at hB
   exact ZA (eqP 23 (.tmp 29) (.tmp 30) (Te P.co) (Te Us)) Zf (fun w1 hw h=>Pv (decide_eq_false c2)) <| ZR <| ZX Zf (by rw[←hB])
  rw[decide_eq_true c2,Bool.true_and]at hB
  refine K0.ask (eqP 23 (.tmp 29) (.tmp 30) (Te P.co) (Te Us)) Zt Zk (fun w1 hw h=>Pv (decide_eq_true c2)) <| ZS 14 ?_
  by_cases c3:P.rad=0
  case neg=>
   rw[decide_eq_false c3,Bool.false_and]at hB
   exact ZT 38 (.bool (P.rad==0)) Zf (by rw[beq_eq_false_iff_ne.2 c3]) <| ZX Zf (by rw[←hB])
  rw[decide_eq_true c3,Bool.true_and]at hB
  refine ZT 38 (.bool (P.rad==0)) Zt (by rw[beq_iff_eq.2 c3]) ?_
  cases c4:La P.p0x P.p0y
  ·rw[c4,Bool.false_and]at hB
   exact ZC (fun w1 hw h=>rvecv c4) fun u_c4=>ZR <| ZX Zf (by rw[←hB])
  rw[c4,Bool.true_and]at hB
  refine ZC (fun w1 hw h=>rvecv c4) fun u_c4=> ?_
  cases c5:La P.p1x P.p1y
  ·rw[c5,Bool.false_and]at hB
   exact ZC (fun w1 hw h=>rvecv c5) fun u_c5=>ZR <| ZX Zf (by rw[←hB])
  rw[c5,Bool.true_and]at hB
  refine ZC (fun w1 hw h=>rvecv c5) fun u_c5=> ?_
  cases c6:Of P.stops
  ·rw[c6,Bool.false_and]at hB
   exact ZC (fun w1 hw h=>rgvalid_v (c:=q.sc) c6 (hp.st.below hw) hsl) fun u_c6=>ZR <| ZX Zf (by rw[←hB])
  rw[c6,Bool.true_and]at hB
  refine ZC (fun w1 hw h=>rgvalid_v (c:=q.sc) c6 (hp.st.below hw) hsl) fun u_c6=> ?_
  cases c7:Sa P.spread
  ·rw[c7]at hB
   exact ZC (fun w1 hw h=>U1 c7) fun u_c7=>ZR <| ZX Zf (by rw[←hB])
  rw[c7]at hB
  exact ZC (fun w1 hw h=>U1 c7) fun u_c7=>ZR <| ZX Zt (by rw[←hB])
 refine ZJ ((P.kind==2)) false (beq_eq_false_iff_ne.2 k2) ?_
 by_cases k3:P.kind=3
 case pos=>
  rw[if_neg k1,if_neg k2,if_pos k3]at hB
  refine ZJ ((P.kind==3)) true (beq_iff_eq.2 k3) ?_
  cases c1:img0 P
  ·rw[c1,Bool.false_and]at hB
   exact ZC (fun w1 hw h=>Vz (q:=q) c1) fun u_c1=>ZR <| ZX Zf (by rw[←hB])
  rw[c1,Bool.true_and]at hB
  refine ZD 6 (fun w1 hw h=>Vz (q:=q) c1) fun u_c1=> ?_
  by_cases c2:P.co=Us
  case neg=>
   rw[decide_eq_false c2,Bool.false_and]at hB
   exact ZA (eqP 23 (.tmp 64) (.tmp 65) (Te P.co) (Te Us)) Zf (fun w1 hw h=>Pv (decide_eq_false c2)) <| ZR <| ZX Zf (by rw[←hB])
  rw[decide_eq_true c2,Bool.true_and]at hB
  refine K0.ask (eqP 23 (.tmp 64) (.tmp 65) (Te P.co) (Te Us)) Zt Zk (fun w1 hw h=>Pv (decide_eq_true c2)) <| ZS 12 ?_
  by_cases c3:P.p1x=0∧P.p1y=0
  case neg=>
   rw[decide_eq_false c3,Bool.false_and]at hB
   exact ZA (eqP 57 (.tmp 70) (.tmp 71) (pt P.p1x P.p1y) (pt 0 0)) Zf (fun w1 hw h=>Vm (decide_eq_false c3)) <| ZR <| ZX Zf (by rw[←hB])
  rw[decide_eq_true c3,Bool.true_and]at hB
  refine ZA (eqP 57 (.tmp 70) (.tmp 71) (pt P.p1x P.p1y) (pt 0 0)) Zt (fun w1 hw h=>Vm (decide_eq_true c3)) ?_
  cases c4:La P.p0x P.p0y
  ·rw[c4,Bool.false_and]at hB
   exact ZC (fun w1 hw h=>rvecv c4) fun u_c4=>ZR <| ZX Zf (by rw[←hB])
  rw[c4,Bool.true_and]at hB
  refine ZD 25 (fun w1 hw h=>rvecv c4) fun u_c4=> ?_
  by_cases c5:1≤P.rad
  case neg=>
   rw[decide_eq_false c5,Bool.false_and]at hB
   exact ZT 84 (.bool (decide (P.rad≥1))) Zf (by rw[decide_eq_false c5]) <| ZX Zf (by rw[←hB])
  rw[decide_eq_true c5,Bool.true_and]at hB
  refine K0.slot 84 (.bool (decide (P.rad≥1))) Zt Zk (by rw[decide_eq_true c5]) <| ZS 30 ?_
  by_cases c6:P.rad≤1048576
  case neg=>
   rw[decide_eq_false c6,Bool.false_and]at hB
   exact ZT 89 (.bool (decide (P.rad≤1048576))) Zf (by rw[decide_eq_false c6]) <| ZX Zf (by rw[←hB])
  rw[decide_eq_true c6,Bool.true_and]at hB
  refine ZT 89 (.bool (decide (P.rad≤1048576))) Zt (by rw[decide_eq_true c6]) ?_
  cases c7:Of P.stops
  ·rw[c7,Bool.false_and]at hB
   exact ZC (fun w1 hw h=>rgvalid_v (c:=q.sc) c7 (hp.st.below hw) hsl) fun u_c7=>ZR <| ZX Zf (by rw[←hB])
  rw[c7,Bool.true_and]at hB
  refine ZC (fun w1 hw h=>rgvalid_v (c:=q.sc) c7 (hp.st.below hw) hsl) fun u_c7=> ?_
  cases c8:Sa P.spread
  ·rw[c8]at hB
   exact ZC (fun w1 hw h=>U1 c8) fun u_c8=>ZR <| ZX Zf (by rw[←hB])
  rw[c8]at hB
  exact ZC (fun w1 hw h=>U1 c8) fun u_c8=>ZR <| ZX Zt (by rw[←hB])
 refine ZJ ((P.kind==3)) false (beq_eq_false_iff_ne.2 k3) ?_
 by_cases k4:P.kind=4
 case pos=>
  rw[if_neg k1,if_neg k2,if_neg k3,if_pos k4]at hB
  refine ZJ ((P.kind==4)) true (beq_iff_eq.2 k4) ?_
  cases c1:ramp0 P
  ·rw[c1,Bool.false_and]at hB
   exact ZC (fun w1 hw h=>rramp_v (q:=q) c1) fun u_c1=>ZR <| ZX Zf (by rw[←hB])
  rw[c1,Bool.true_and]at hB
  refine ZD 6 (fun w1 hw h=>rramp_v (q:=q) c1) fun u_c1=> ?_
  by_cases c2:P.co=Us
  case neg=>
   rw[decide_eq_false c2,Bool.false_and]at hB
   exact ZA (eqP 23 (.tmp 105) (.tmp 106) (Te P.co) (Te Us)) Zf (fun w1 hw h=>Pv (decide_eq_false c2)) <| ZR <| ZX Zf (by rw[←hB])
  rw[decide_eq_true c2,Bool.true_and]at hB
  refine ZA (eqP 23 (.tmp 105) (.tmp 106) (Te P.co) (Te Us)) Zt (fun w1 hw h=>Pv (decide_eq_true c2)) ?_
  cases c3:Y5 P.im
  ·rw[c3,Bool.false_and]at hB
   exact ZC (fun w1 hw h=>rimvalid_v (y:=(q.xA,q.xc)) c3 (hp.px.below hw) hl) fun u_c3=>ZR <| ZX Zf (by rw[←hB])
  rw[c3,Bool.true_and]at hB
  refine ZD 18 (fun w1 hw h=>rimvalid_v (y:=(q.xA,q.xc)) c3 (hp.px.below hw) hl) fun u_c3=> ?_
  by_cases s0:P.spread=0
  case pos=>
   rw[decide_eq_true s0,Bool.true_or,Bool.true_and]at hB
   refine K0.slot 118 (.bool (P.spread==0)) Zt Zk (by rw[beq_iff_eq.2 s0]) <| ZS 28 ?_
   by_cases m1:P.samp=1
   case pos=>
    rw[decide_eq_true (.inl m1)]at hB
    exact ZT 128 (.bool (P.samp==1)) Zt (by rw[beq_iff_eq.2 m1]) <| ZX Zt (by rw[←hB])
   exact ZT 128 (.bool (P.samp==1)) Zf (by rw[beq_eq_false_iff_ne.2 m1]) <| ZX (.bool (P.samp==2)) (by rw[←hB,samp2 m1])
  rw[decide_eq_false s0,Bool.false_or]at hB
  cases c5:Sa P.spread
  ·rw[c5,Bool.false_and]at hB
   exact ZT 118 (.bool (P.spread==0)) Zf (by rw[beq_eq_false_iff_ne.2 s0]) <| ZC (fun w1 hw h=>U1 c5) fun u9=>ZR <| ZX Zf (by rw[←hB])
  rw[c5,Bool.true_and]at hB
  refine ZT 118 (.bool (P.spread==0)) Zf (by rw[beq_eq_false_iff_ne.2 s0]) <| ZD 28 (fun w1 hw h=>U1 c5) fun u9=> ?_
  by_cases m1:P.samp=1
  case pos=>
   rw[decide_eq_true (.inl m1)]at hB
   exact ZT 128 (.bool (P.samp==1)) Zt (by rw[beq_iff_eq.2 m1]) <| ZX Zt (by rw[←hB])
  exact ZT 128 (.bool (P.samp==1)) Zf (by rw[beq_eq_false_iff_ne.2 m1]) <| ZX (.bool (P.samp==2)) (by rw[←hB,samp2 m1])
 rw[if_neg k1,if_neg k2,if_neg k3,if_neg k4]at hB
 exact ZJ ((P.kind==4)) false (beq_eq_false_iff_ne.2 k4) <| ZX Zf (by rw[←hB])
end
end
section
open Go.RowKit
--ATNAMES
theorem valid_has(P:Pn):L6 P=(P.T.ok&&(hasB P&&(decide (P.kind=1)||decide (P.T.det≠0)))):=by
 unfold L6 kindOK hasB ramp0 img0 Y5
 rw[Bool.eq_iff_iff]
 by_cases k1:P.kind=1
 ·simp[k1,T2,wof,Us]
  grind
 by_cases k2:P.kind=2
 ·simp[k2,T2,wof,Us]
  grind
 by_cases k3:P.kind=3
 ·simp[k3,T2,wof,Us]
  grind
 by_cases k4:P.kind=4
 ·simp[k4,T2,wof,Us,im0]
  grind
 simp[k1,k2,k3,k4]
section
variable{w:World}{A A2:Option Addr}{n c:Nat}{l:List (Int×Co)}{px:List Co}{P:Pn}{q:PM}{K:Nat}{B:Bool}{x y:Int}{m:Im}{co:Co}{t:TV}{T:Yg}
theorem rpvalid_v(hB:L6 P=B)(hp:PRd P q K w)(hK:2≤K∧K≤1000)(hl:P.im.px.length≤1000000000)(hsl:P.stops.length≤1000000000):Zv 235 #[X7 P q] w (.bool B):=by
 rw[valid_has]at hB
 refine K0.enter Tryz.func235 rfl <| ZR ?_
 cases h1:P.T.ok
 ·rw[h1,Bool.false_and]at hB
  exact ZC (fun w1 hw h=>rvalidA_v h1 (hp.tr.below hw) Zo) fun u=>ZI true <| ZX Zf (by rw[←hB])
 rw[h1,Bool.true_and]at hB
 refine ZC (fun w1 hw h=>rvalidA_v h1 (hp.tr.below hw) Zo) fun u=> ?_
 cases h2:hasB P
 ·rw[h2,Bool.false_and]at hB
  exact ZC (fun w1 hw h=>has_v h2 (hp.below hw) Zo hl hsl) fun u2=>ZI true <| ZX Zf (by rw[←hB])
 rw[h2,Bool.true_and]at hB
 refine ZC (fun w1 hw h=>has_v h2 (hp.below hw) Zo hl hsl) fun u2=>K0.cond false Zk <| ZS 4 ?_
 by_cases k1:P.kind=1
 case pos=>
  rw[decide_eq_true k1,Bool.true_or]at hB
  exact ZT 15 (.bool (P.kind==1)) Zt (by rw[beq_iff_eq.2 k1]) <| ZX Zt (by rw[←hB])
 rw[decide_eq_false k1,Bool.false_or]at hB
 exact ZT 15 (.bool (P.kind==1)) Zf (by rw[beq_eq_false_iff_ne.2 k1]) <| ZC (fun w1 hw h=>rdetA_m (hp.tr.below hw) Zo) fun d=>ZC (fun w1 hw h=>Zg 0 w1 Zd Zd) fun z=>ZC (fun w1 hw h=>rqcmp_m h.1.2.q h.2.q Zo) fun v=>ZX (.bool (S6 P.T.det ((0:Int):Rat) !=0)) (by rw[V8,←hB])
end
end
section
open Go.RowKit
--ATNAMES
end
end Go.Proofs.YtoeiphicmcndlaaGreatDoor
