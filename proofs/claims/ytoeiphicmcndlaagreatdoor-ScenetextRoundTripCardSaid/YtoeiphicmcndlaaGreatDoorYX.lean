/-
 Paints as text: which paints are valid; the program's words.
-/
import Derived.Test.YtoeiphicmcndlaaGreatDoorYT
import Derived.Test.YtoeiphicmcndlaaGreatDoorTA
namespace Go.Proofs.YtoeiphicmcndlaaGreatDoor
set_option maxRecDepth 100000
set_option maxHeartbeats 8000000
set_option linter.unusedVariables false
set_option linter.unusedSimpArgs false
open Go.RowKit
section
variable{w:World}{A A2:Option Addr}{n c:Nat}{l:List (Int×Co)}{px:List Co}{P:Pn}{q:PM}{K:Nat}{B:Bool}{k x y:Int}{m:Im}{co:Co}{g:Nat}
def mn8(a b:UInt8):UInt8:=if b<a then b else a
theorem mn8_eq(a b:UInt8):((mn8 a b).toNat:Int)=if (b.toNat:Int)<(a.toNat:Int)then(b.toNat:Int)else(a.toNat:Int):=by
 unfold mn8
 by_cases h:b<a
 ·rw[if_pos h,if_pos (by have:=UInt8.lt_iff_toNat_lt.1 h;omega)]
 ·rw[if_neg h,if_neg (by have:=mt UInt8.lt_iff_toNat_lt.2 h;omega)]
def Eh(c:Co):Co:=(mn8 c.1 c.2.2.2,mn8 c.2.1 c.2.2.2,mn8 c.2.2.1 c.2.2.2,mn8 c.2.2.2 c.2.2.2)
theorem mn8_self{a b:UInt8}:mn8 a b=a↔a≤b:=by
 unfold mn8
 by_cases h:b<a
 ·rw[if_pos h]
  have:=UInt8.lt_iff_toNat_lt.1 h
  constructor
  ·intro e;subst e;exact UInt8.le_refl _
  ·intro e;have:=UInt8.le_iff_toNat_le.1 e;omega
 ·rw[if_neg h]
  have:=mt UInt8.lt_iff_toNat_lt.2 h
  exact⟨fun _=>UInt8.le_iff_toNat_le.2 Zo,fun _=>rfl⟩
theorem clampC_ok:decide (Eh co=co)=E7 co:=by
 obtain⟨r,g,b,a⟩:=co
 unfold Eh E7
 apply decide_eq_decide.2
 simp only[Prod.mk.injEq,mn8_self]
 constructor
 ·exact fun h=>⟨h.1,h.2.1,h.2.2.1⟩
 ·exact fun h=>⟨h.1,h.2.1,h.2.2,UInt8.le_refl _⟩
theorem Fz{v:UInt8}(hb:K5 w g (Oa co)):Zv 252 #[.int .u8 (v.toNat:Int),Zq g 0] w (.int .u8 ((mn8 v co.2.2.2).toNat:Int)):=by
 exact K0.enter Tryz.func252 rfl <| ZR <| ZA (L5 5 ⟨g,3,none⟩) (.int .u8 (co.2.2.2.toNat:Int)) (fun w1 hw h=>K8 Zk (by rw[(hb.below hw).cell];rfl)) <| ZX (.int .u8 (if (co.2.2.2.toNat:Int)<(v.toNat:Int)then(co.2.2.2.toNat:Int)else(v.toNat:Int))) (by rw[mn8_eq])
theorem each_m(hb:K5 w g (Oa co)):Zv 251 #[Rf co,.func (.func 252) #[] #[Zq g 0]] w (Rf (Eh co)):=by
 exact K0.enter Tryz.func251 rfl <| ZR <| ZC (fun w1 hw h=>Fz (v:=co.1) (hb.below hw)) fun u0=>ZC (fun w1 hw h=>Fz (v:=co.2.1) (hb.below hw)) fun u1=>ZC (fun w1 hw h=>Fz (v:=co.2.2.1) (hb.below hw)) fun u2=>ZC (fun w1 hw h=>Fz (v:=co.2.2.2) (hb.below hw)) fun u3=>ZW (Rf (Eh co))
theorem clamp_m:Zv 211 #[Rf co] w (Rf (Eh co)):=by
 exact K0.enter Tryz.func211 rfl <| ZS 0 <| K0.make (boxS 152 (Rf co)) (Ud) (fun g u=>K5 u g (Oa co)∧0≤g∧g<u.heap.size) Zk (fun w1 hw h=>Fi (v:=Rf co) (Nat.zero_le _)) fun g=>ZS 1 <| ZR <| ZA (L5 152 ⟨g,0,none⟩) (Rf co) (fun w1 hw h=>Mj (vs:=Oa co) Zk Zk h.2.1.range) <| ZC (fun w1 hw h=>each_m h.2.1) fun u=>ZW (Rf (Eh co))
theorem cvalid_v(hB:E7 co=B):Zv 156 #[Rf co] w (.bool B):=by
 exact K0.enter Tryz.func156 rfl <| ZR <| ZD 3 (fun w1 hw h=>clamp_m (co:=co)) fun u=>ZB 3 (D4 152 (.tmp 4) (.tmp 5) (Rf (Eh co)) (Rf co)) (.bool B) (fun w1 hw h=>run_eq_px (clampC_ok.trans hB)) <| ZW (.bool B)
theorem ivalid2_v(hB:E7 co=B):Zv 155 #[Rf co] w (.bool (!B)):=by
 exact K0.enter Tryz.func155 rfl <| ZR <| ZC (fun w1 hw h=>cvalid_v hB) fun u=>ZW (.bool (!B))
theorem may_v(hB:decide (1≤x∧x≤4096)=B):Zv 153 #[Zi x] w (.bool B):=by
 refine K0.enter Tryz.func153 rfl <| ZS 3 ?_
 by_cases h1:1≤x
 case neg=>
  exact ZT 5 (.bool (decide (x≥1))) Zf (by rw[decide_eq_false Zo]) <| ZX Zf (by rw[←hB,decide_eq_false Zo])
 exact ZT 5 (.bool (decide (x≥1))) Zt (by rw[decide_eq_true Zo]) <| ZX (.bool (decide (x≤4096))) (by rw[←hB];congr 2;exact decide_eq_decide.2 Zo)
theorem F1(hB:T4 x=B):Zv 100 #[Zi x] w (.bool B):=by
 unfold T4 at hB
 refine K0.enter Tryz.func100 rfl <| ZS 3 ?_
 by_cases h1:1≤x
 case neg=>
  exact ZT 5 (.bool (decide (x≥1))) Zf (by rw[decide_eq_false Zo]) <| ZX Zf (by rw[←hB,decide_eq_false Zo])
 exact ZT 5 (.bool (decide (x≥1))) Zt (by rw[decide_eq_true Zo]) <| ZX (.bool (decide (x≤3))) (by rw[←hB];congr 2;exact decide_eq_decide.2 Zo)
theorem U5{α:Type}{p:α→Bool}{l:List α}{k:Nat}{x:α}(hx:l[k]? =some x)(h:(l.take k).all p=true):(l.take (k+1)).all p=p x:=by
 rw[List.take_add_one,hx];simp[h]
theorem Zx{α:Type}{p:α→Bool}{l:List α}{k:Nat}{x:α}(hx:l[k]? =some x)(h:p x=false):l.all p=false:=by
 rw[List.all_eq_false];exact⟨x,List.mem_of_getElem? hx,by simp[h]⟩
theorem index_v(hB:px.all E7=B)(hp:Ma w A n 4 Oa px)(hn:n≤1000000000):Calls Tryz.prog 210 #[.slice A n c,.func (.func 155) #[] #[]] w (K7 w (fun r:{r:Int // decide (r≥0)= !B}=>Zi r.1) fun _ _=>True):=by
 have hpn:=hp.1
 refine K0.enter Tryz.func210 rfl <| ZR <| K0.loop (ι:={q:Nat // q≤n∧(px.take q).all E7=true}) 19 (fun q=>⟨[(0,.v (.slice A n c)),(1,.v (.func (.func 155) #[] #[])),(7,.v (Zi n)),(8,.v (Zi q.1))],[]⟩) (fun q u=>True) (fun q=>n-q.1) (⟨0,Nat.zero_le _,rfl⟩) Zk (fun _=>by kernel_rfl) ⟨Zk,Zk,Zk⟩ (fun u h=>trivial) ?_
 rintro⟨k,hk,hall⟩ gg
 have hk:k≤n:=hk
 have hall:(px.take k).all E7=true:=hall
 by_cases hlt:k<n
 case neg=>
  obtain rfl:k=n:=by omega
  rw[List.take_of_length_le Zo]at hall
  refine ZR <| ZJ (decide ((k:Int)<(k:Int))) false Zs <| K0.leave Zk <| ZR <| ZV (Zi (-1)) (fun w1 hw h=>⟨⟨-1,by rw[←hB,hall];rfl⟩,rfl,hw,fun _ _ _=>trivial⟩)
 obtain⟨x,hx⟩:∃x,px[k]? =some x:=⟨_,List.getElem?_eq_getElem Zo⟩
 obtain⟨ad,hA,hc⟩:=hp.2 k x hx
 refine ZR <| ZJ (decide ((k:Int)<(n:Int))) true Zp <| ZA (Kj 48 (.slice A n c) k) (.pointer (some (ad.add (k*4)))) (fun w1 hw h=>px_idx hA hlt) <| ZA (L5 152 (ad.add (k*4))) (.agg (Oa x).toArray) (fun w1 hw h=>px_ld fun j v hj=>Lc hw (hc j v hj)) ?_
 cases hb:E7 x
 ·refine ZC (fun w1 hw h=>ivalid2_v (co:=x) hb) fun u=>ZI true <| K0.leave Zk <| ZR <| ZV (Zi (k:Int)) (fun w1 hw h=>⟨⟨k,by rw[←hB,Zx hx hb];simp⟩,rfl,hw,fun _ _ _=>trivial⟩)
 ·refine ZC (fun w1 hw h=>ivalid2_v (co:=x) hb) fun u=>ZI false <| K0.slot 8 (Zi (IntKind.i64.wrap ((k:Int)+1))) (Zi ((k+1:Nat):Int)) Zk (by rw[Kd hlt Zo]) <| K0.next (⟨k+1,by show k+1≤n;omega,by rw[U5 hx hall,hb]⟩) Zk (by show n- (k+1)<n-k;omega) ⟨Zk,Zk,Zk⟩ (fun u h=>trivial)
theorem contains_v(hB:px.all E7=B)(hp:Ma w A n 4 Oa px)(hn:n≤1000000000):Zv 154 #[.slice A n c,.func (.func 155) #[] #[]] w (.bool (!B)):=by
 exact K0.enter Tryz.func154 rfl <| ZR <| ZC (fun w1 hw h=>index_v (c:=c) hB (hp.below hw) hn) fun u=>ZX (.bool (decide (u.1≥0))) (by rw[u.2])
theorem C8(h1:1≤x∧x≤4096)(h2:1≤y∧y≤4096):IntKind.i64.wrap (x*y)=x*y:=by
 have h3:x*y≤4096*4096:=Int.mul_le_mul h1.2 h2.2 Zo Zo
 have h4:0≤x*y:=Int.mul_nonneg Zo Zo
 rw[IntWalk.i64_in _ Zo]
theorem H9{y:Option Addr×Nat}(hB:Xy m=B)(hp:Ma w y.1 m.px.length 4 Oa m.px)(hn:m.px.length≤1000000000):Zv 99 #[imV m y] w (.bool B):=by
 unfold Xy at hB
 refine K0.enter Tryz.func99 rfl <| ZR ?_
 by_cases h1:1≤m.w∧m.w≤4096
 case neg=>
  have hz:A8 m.w m.h=false:=decide_eq_false Zo
  exact ZC (fun w1 hw h=>may_v (x:=m.w) (decide_eq_false h1)) fun u=>ZR <| ZI true <| ZX Zf (by rw[←hB,hz];rfl)
 refine ZC (fun w1 hw h=>may_v (x:=m.w) (decide_eq_true h1)) fun u=> ?_
 by_cases h2:1≤m.h∧m.h≤4096
 case neg=>
  have hz:A8 m.w m.h=false:=decide_eq_false Zo
  exact ZC (fun w1 hw h=>may_v (x:=m.h) (decide_eq_false h2)) fun u2=>ZR <| ZI true <| ZX Zf (by rw[←hB,hz];rfl)
 refine ZD 21 (fun w1 hw h=>may_v (x:=m.h) (decide_eq_true h2)) fun u2=> ?_
 by_cases h3:m.w*m.h≤65536
 case neg=>
  have hz:A8 m.w m.h=false:=decide_eq_false Zo
  exact ZT 24 (.bool (decide (IntKind.i64.wrap (m.w*m.h)>65536))) Zt (by rw[C8 h1 h2,decide_eq_true Zo]) <| ZI true <| ZX Zf (by rw[←hB,hz];rfl)
 have hz:A8 m.w m.h=true:=decide_eq_true ⟨h1.1,h1.2,h2.1,h2.2,h3⟩
 rw[hz,Bool.true_and]at hB
 refine ZT 24 (.bool (decide (IntKind.i64.wrap (m.w*m.h)>65536))) Zf (by rw[C8 h1 h2,decide_eq_false Zo]) ?_
 by_cases h4:(m.px.length:Int)=m.w*m.h
 case neg=>
  exact ZJ (((m.px.length:Int) !=IntKind.i64.wrap (m.w*m.h))) true (by rw[C8 h1 h2];simpa using h4) <| ZX Zf (by rw[←hB,decide_eq_false h4];rfl)
 rw[decide_eq_true h4,Bool.true_and]at hB
 exact ZJ (((m.px.length:Int) !=IntKind.i64.wrap (m.w*m.h))) false (by rw[C8 h1 h2];simpa using h4) <| ZC (fun w1 hw h=>contains_v (c:=y.2) hB (hp.below hw) hn) fun v=>ZX (.bool (!!B)) (by rw[Bool.not_not])
theorem drop_get{α:Type}{l:List α}{k:Nat}{x:α}(hx:l[k]? =some x):l.drop k=x::l.drop (k+1):=by
 obtain⟨h1,h2⟩:=List.getElem?_eq_some_iff.1 hx
 rw[←h2,←List.drop_eq_getElem_cons h1]
theorem gvalid_v(hB:Ny l=B)(hp:Ma w A n 5 Ri l):Zv 152 #[.slice A n c] w (.bool B):=by
 have hpn:=hp.1
 unfold Ny at hB
 refine K0.enter Tryz.func152 rfl <| ZS 4 ?_
 by_cases h1:n<1
 case pos=>
  exact ZT 9 (.bool (decide ((n:Int)<1))) Zt (by rw[decide_eq_true Zo]) <| ZI true <| ZX Zf (by rw[←hB,decide_eq_false Zo];rfl)
 refine ZT 9 (.bool (decide ((n:Int)<1))) Zf (by rw[decide_eq_false Zo]) ?_
 by_cases h2:n>16
 case pos=>
  exact ZJ (decide ((n:Int)>16)) true Zp <| ZX Zf (by rw[←hB,decide_eq_false Zo];rfl)
 rw[decide_eq_true Zo,Bool.true_and]at hB
 refine ZJ (decide ((n:Int)>16)) false Zp <| K0.loop (ι:={q:Nat×Int // q.1≤n∧B4 q.2 (l.drop q.1)=B}) 32 (fun q=>⟨[(3,.v (Zi q.1.2)),(14,.v (.slice A n c)),(15,.v (Zi n)),(16,.v (Zi q.1.1))],[]⟩) (fun q u=>True) (fun q=>n-q.1.1) (⟨(0,0),Nat.zero_le _,hB⟩) Zk (fun _=>by kernel_rfl) ⟨Zk,Zk,Zk⟩ (fun u h=>trivial) ?_
 rintro⟨⟨k,a⟩,hk,hst⟩ gg
 have hk:k≤n:=hk
 have hst:B4 a (l.drop k)=B:=hst
 by_cases hlt:k<n
 case neg=>
  obtain rfl:k=n:=by omega
  rw[List.drop_eq_nil_of_le Zo]at hst
  exact ZR <| ZJ (decide ((k:Int)<(k:Int))) false Zs <| K0.leave Zk <| ZR <| ZX (.bool true) (by rw[←hst];rfl)
 obtain⟨x,hx⟩:∃x,l[k]? =some x:=⟨_,List.getElem?_eq_getElem Zo⟩
 obtain⟨ad,hA,hc⟩:=hp.2 k x hx
 have e:B4 a (l.drop k)=(decide (a≤x.1∧x.1≤65536)&&B4 x.1 (l.drop (k+1))):=by rw[drop_get hx];rfl
 rw[e]at hst
 refine ZR <| ZJ (decide ((k:Int)<(n:Int))) true Zp <| ZA (Kj 58 (.slice A n c) k) (.pointer (some (ad.add (k*5)))) (fun w1 hw h=>Z3 hA hlt) <| K0.ask (L5 139 (ad.add (k*5))) (.agg (Ri x).toArray) Zk (fun w1 hw h=>st_ld fun j v hj=>Lc hw (hc j v hj)) <| ZS 5 ?_
 by_cases h3:x.1<a
 case pos=>
  exact ZT 24 (.bool (decide (x.1<a))) Zt (by rw[decide_eq_true h3]) <| ZI true <| K0.leave Zk <| ZR <| ZX Zf (by rw[←hst,decide_eq_false Zo];rfl)
 refine ZT 24 (.bool (decide (x.1<a))) Zf (by rw[decide_eq_false h3]) ?_
 by_cases h4:x.1>65536
 case pos=>
  exact ZJ (decide (x.1>65536)) true (by simpa using h4) <| K0.leave Zk <| ZR <| ZX Zf (by rw[←hst,decide_eq_false Zo];rfl)
 rw[decide_eq_true Zo,Bool.true_and]at hst
 refine ZJ (decide (x.1>65536)) false (by simpa using h4) <| K0.slot 16 (Zi (IntKind.i64.wrap ((k:Int)+1))) (Zi ((k+1:Nat):Int)) Zk (by rw[Kd hlt Zo]) <| K0.next (⟨(k+1,x.1),by show k+1≤n;omega,hst⟩) Zk (by show n- (k+1)<n-k;omega) ⟨Zk,Zk,Zk⟩ (fun u h=>trivial)
theorem Es(hB:(Ny P.stops&&T4 P.spread)=B)(hp:Db P q K w):Zv 98 #[X4 P q] w (.bool B):=by
 cases h1:Ny P.stops
 ·exact K0.enter Tryz.func98 rfl <| ZR <| ZC (fun w1 hw h=>gvalid_v (c:=q.sc) h1 (hp.st.below hw)) fun u=>ZX Zf (by rw[←hB,h1];rfl)
 cases h2:T4 P.spread
 ·exact K0.enter Tryz.func98 rfl <| ZR <| ZC (fun w1 hw h=>gvalid_v (c:=q.sc) h1 (hp.st.below hw)) fun u=>ZC (fun w1 hw h=>F1 (x:=P.spread) h2) fun u2=>ZX Zf (by rw[←hB,h1,h2];rfl)
 ·exact K0.enter Tryz.func98 rfl <| ZR <| ZC (fun w1 hw h=>gvalid_v (c:=q.sc) h1 (hp.st.below hw)) fun u=>ZC (fun w1 hw h=>F1 (x:=P.spread) h2) fun u2=>ZX Zt (by rw[←hB,h1,h2];rfl)
theorem eqnil_st(hB:decide (n=0)=B):Zv 149 #[.slice A n c,.slice none 0 0] w (.bool B):=by
 refine K0.enter Tryz.func149 rfl <| ZR ?_
 by_cases h0:n=0
 case neg=>
  exact ZJ (((n:Int) !=0)) true (by simpa using h0) <| ZX Zf (by rw[←hB,decide_eq_false h0])
 subst h0
 exact ZI false <| K0.un Zk <| ZR <| ZI false <| ZX (.bool true) (by rw[←hB];rfl)
theorem eqnil_px(hB:decide (n=0)=B):Zv 208 #[.slice A n c,.slice none 0 0] w (.bool B):=by
 refine K0.enter Tryz.func208 rfl <| ZR ?_
 by_cases h0:n=0
 case neg=>
  exact ZJ (((n:Int) !=0)) true (by simpa using h0) <| ZX Zf (by rw[←hB,decide_eq_false h0])
 subst h0
 exact ZI false <| K0.un Zk <| ZR <| ZI false <| ZX (.bool true) (by rw[←hB];rfl)
theorem imzero_v{y:Option Addr×Nat}(hB:decide (m.w=0∧m.h=0∧m.px=[])=B):Zv 150 #[imV m y,imV Di (none,0)] w (.bool B):=by
 refine K0.enter Tryz.func150 rfl <| ZS 6 ?_
 by_cases h1:m.w=0
 case neg=>
  refine ZT 10 (.bool (m.w==0)) Zf (by rw[beq_eq_false_iff_ne.2 h1]) <| ZV Zf (fun w1 hw h=>⟨(),by rw[←hB,decide_eq_false (fun h=>h1 h.1)],hw,fun _ _ _=>trivial⟩)
 refine K0.slot 10 (.bool (m.w==0)) Zt Zk (by rw[beq_iff_eq.2 h1]) <| ZS 13 ?_
 by_cases h2:m.h=0
 case neg=>
  refine ZT 17 (.bool (m.h==0)) Zf (by rw[beq_eq_false_iff_ne.2 h2]) <| ZV Zf (fun w1 hw h=>⟨(),by rw[←hB,decide_eq_false (fun h=>h2 h.2.1)],hw,fun _ _ _=>trivial⟩)
 exact ZT 17 (.bool (m.h==0)) Zt (by rw[beq_iff_eq.2 h2]) <| ZC (fun w1 hw h=>eqnil_px (A:=y.1) (c:=y.2) (n:=m.px.length) (B:=B) (by rw[←hB];apply decide_eq_decide.2;rw[List.length_eq_zero_iff];exact⟨fun h=>⟨h1,h2,h⟩,fun h=>h.2.2⟩)) fun u=>ZW (.bool B)
theorem Xz{a b:Operand}(hB:decide (x=0∧y=0)=B):(D4 57 a b (pt x y) (pt 0 0)).run Tryz.prog w= .ok (.value (.bool B)) w:=by
 rw[Jd,←hB]
 congr 2
 rw[Value.bool.injEq,Bool.eq_iff_iff];simp
theorem eqz_v(hB:decide (T3 P)=B)(hk:P.kind=k)(hT:P.T=Px)(hp:Db P q K w)(hK:2≤K∧K≤10000000):Zv 94 #[X4 P q,X4 (⟨k,Uq,0,0,0,0,0,[],0,Di,0,Px⟩:Pn) pm0] w (.bool B):=by
 refine K0.enter Tryz.func94 rfl <| ZS 6 <| K0.slot 10 (.bool (P.kind==k)) Zt Zk (by rw[beq_iff_eq.2 hk]) <| ZS 10 ?_
 by_cases cco:P.co=Uq
 case neg=>
  refine ZA (D4 23 (.tmp 12) (.tmp 14) (Rf P.co) (Rf Uq)) Zf (fun w1 hw h=>P7 (decide_eq_false cco)) <| ZV Zf (fun w1 hw h=>⟨(),by rw[←hB,decide_eq_false (fun h:T3 P=>cco h.1)],hw,fun _ _ _=>trivial⟩)
 refine K0.ask (D4 23 (.tmp 12) (.tmp 14) (Rf P.co) (Rf Uq)) Zt Zk (fun w1 hw h=>P7 (decide_eq_true cco)) <| ZS 17 ?_
 by_cases cp0:P.p0x=0∧P.p0y=0
 case neg=>
  refine ZA (D4 57 (.tmp 19) (.tmp 21) (pt P.p0x P.p0y) (pt 0 0)) Zf (fun w1 hw h=>Xz (decide_eq_false cp0)) <| ZV Zf (fun w1 hw h=>⟨(),by rw[←hB,decide_eq_false (fun h:T3 P=>cp0 h.2.1)],hw,fun _ _ _=>trivial⟩)
 refine K0.ask (D4 57 (.tmp 19) (.tmp 21) (pt P.p0x P.p0y) (pt 0 0)) Zt Zk (fun w1 hw h=>Xz (decide_eq_true cp0)) <| ZS 24 ?_
 by_cases cp1:P.p1x=0∧P.p1y=0
 case neg=>
  refine ZA (D4 57 (.tmp 26) (.tmp 28) (pt P.p1x P.p1y) (pt 0 0)) Zf (fun w1 hw h=>Xz (decide_eq_false cp1)) <| ZV Zf (fun w1 hw h=>⟨(),by rw[←hB,decide_eq_false (fun h:T3 P=>cp1 h.2.2.1)],hw,fun _ _ _=>trivial⟩)
 refine K0.ask (D4 57 (.tmp 26) (.tmp 28) (pt P.p1x P.p1y) (pt 0 0)) Zt Zk (fun w1 hw h=>Xz (decide_eq_true cp1)) <| ZS 34 ?_
 by_cases crad:P.rad=0
 case neg=>
  refine ZT 38 (.bool (P.rad==0)) Zf (by rw[beq_eq_false_iff_ne.2 crad]) <| ZV Zf (fun w1 hw h=>⟨(),by rw[←hB,decide_eq_false (fun h:T3 P=>crad h.2.2.2.1)],hw,fun _ _ _=>trivial⟩)
 refine K0.slot 38 (.bool (P.rad==0)) Zt Zk (by rw[beq_iff_eq.2 crad]) <| ZS 41 ?_
 by_cases cspr:P.spread=0
 case neg=>
  refine ZT 45 (.bool (P.spread==0)) Zf (by rw[beq_eq_false_iff_ne.2 cspr]) <| ZV Zf (fun w1 hw h=>⟨(),by rw[←hB,decide_eq_false (fun h:T3 P=>cspr h.2.2.2.2.1)],hw,fun _ _ _=>trivial⟩)
 refine K0.slot 45 (.bool (P.spread==0)) Zt Zk (by rw[beq_iff_eq.2 cspr]) <| ZS 48 ?_
 by_cases csam:P.samp=0
 case neg=>
  refine ZT 52 (.bool (P.samp==0)) Zf (by rw[beq_eq_false_iff_ne.2 csam]) <| ZV Zf (fun w1 hw h=>⟨(),by rw[←hB,decide_eq_false (fun h:T3 P=>csam h.2.2.2.2.2.1)],hw,fun _ _ _=>trivial⟩)
 refine ZT 52 (.bool (P.samp==0)) Zt (by rw[beq_iff_eq.2 csam]) ?_
 by_cases cst:P.stops=[]
 case neg=>
  refine ZC (fun w1 hw h=>eqnil_st (A:=q.sA) (c:=q.sc) (n:=P.stops.length) (B:=false) (decide_eq_false fun h=>cst (List.length_eq_zero_iff.1 h))) fun u=>ZV Zf (fun w1 hw h=>⟨(),by rw[←hB,decide_eq_false (fun h:T3 P=>cst h.2.2.2.2.2.2.1)],hw,fun _ _ _=>trivial⟩)
 refine ZC (fun w1 hw h=>eqnil_st (A:=q.sA) (c:=q.sc) (n:=P.stops.length) (B:=true) (decide_eq_true (List.length_eq_zero_iff.2 cst))) fun u=> ?_
 by_cases cim:P.im.w=0∧P.im.h=0∧P.im.px=[]
 case neg=>
  refine ZC (fun w1 hw h=>imzero_v (m:=P.im) (y:=(q.xA,q.xc)) (decide_eq_false cim)) fun u=>ZV Zf (fun w1 hw h=>⟨(),by rw[←hB,decide_eq_false (fun h:T3 P=>cim h.2.2.2.2.2.2.2)],hw,fun _ _ _=>trivial⟩)
 exact ZC (fun w1 hw h=>imzero_v (m:=P.im) (y:=(q.xA,q.xc)) (decide_eq_true cim)) fun u1=>ZC (fun w1 hw h=>by have t:=equalA_m (hp.tr.below hw) (Ag.zero (w:=w1)) hK;rw[hT,eqA_rfl]at t;exact t) fun u2=>ZX Zt (by rw[←hB,decide_eq_true (show T3 P from⟨cco,cp0,cp1,crad,cspr,csam,cst,cim⟩)])
def Vr(P:Pn)(q:PM):PM:=
 if P.kind=1 then⟨q.sA,q.sc,q.xA,q.xc,Gg⟩else if P.kind=2 then⟨none,0,q.xA,q.xc,Gg⟩else if P.kind=3 then⟨none,0,q.xA,q.xc,Gg⟩else if P.kind=4 then⟨q.sA,q.sc,none,0,Gg⟩else⟨q.sA,q.sc,q.xA,q.xc,Gg⟩
theorem Db.wofR(h:Db P q K w):Db (Dk P) (Vr P q) K w:=by
 by_cases h1:P.kind=1
 case pos=>
  have e:Dk P=(⟨P.kind,Uq,P.p0x,P.p0y,P.p1x,P.p1y,P.rad,P.stops,P.spread,P.im,P.samp,Px⟩:Pn):=by unfold Dk;rw[if_pos h1]
  have e2:Vr P q=(⟨q.sA,q.sc,q.xA,q.xc,Gg⟩:PM):=by unfold Vr;rw[if_pos h1]
  rw[e,e2]
  exact⟨h.st,h.px,.zero⟩
 by_cases h2:P.kind=2
 case pos=>
  have e:Dk P=(⟨P.kind,P.co,0,0,0,0,P.rad,[],0,P.im,P.samp,Px⟩:Pn):=by unfold Dk;rw[if_neg h1];rw[if_pos h2]
  have e2:Vr P q=(⟨none,0,q.xA,q.xc,Gg⟩:PM):=by unfold Vr;rw[if_neg h1];rw[if_pos h2]
  rw[e,e2]
  exact⟨⟨rfl,fun k x h=>by simp at h⟩,h.px,.zero⟩
 by_cases h3:P.kind=3
 case pos=>
  have e:Dk P=(⟨P.kind,P.co,0,0,P.p1x,P.p1y,0,[],0,P.im,P.samp,Px⟩:Pn):=by unfold Dk;rw[if_neg h1];rw[if_neg h2];rw[if_pos h3]
  have e2:Vr P q=(⟨none,0,q.xA,q.xc,Gg⟩:PM):=by unfold Vr;rw[if_neg h1];rw[if_neg h2];rw[if_pos h3]
  rw[e,e2]
  exact⟨⟨rfl,fun k x h=>by simp at h⟩,h.px,.zero⟩
 by_cases h4:P.kind=4
 case pos=>
  have e:Dk P=(⟨P.kind,P.co,P.p0x,P.p0y,P.p1x,P.p1y,P.rad,P.stops,0,Di,0,Px⟩:Pn):=by unfold Dk;rw[if_neg h1];rw[if_neg h2];rw[if_neg h3];rw[if_pos h4]
  have e2:Vr P q=(⟨q.sA,q.sc,none,0,Gg⟩:PM):=by unfold Vr;rw[if_neg h1];rw[if_neg h2];rw[if_neg h3];rw[if_pos h4]
  rw[e,e2]
  exact⟨h.st,⟨rfl,fun k x h=>by simp[Di]at h⟩,.zero⟩
 have e:Dk P=(⟨P.kind,P.co,P.p0x,P.p0y,P.p1x,P.p1y,P.rad,P.stops,P.spread,P.im,P.samp,Px⟩:Pn):=by unfold Dk;rw[if_neg h1,if_neg h2,if_neg h3,if_neg h4]
 have e2:Vr P q=(⟨q.sA,q.sc,q.xA,q.xc,Gg⟩:PM):=by unfold Vr;rw[if_neg h1,if_neg h2,if_neg h3,if_neg h4]
 rw[e,e2]
 exact⟨h.st,h.px,.zero⟩
theorem wof_m:Zv 95 #[X4 P q] w (X4 (Dk P) (Vr P q)):=by
 refine K0.enter Tryz.func95 rfl <| ZR ?_
 by_cases h1:P.kind=1
 case pos=>
  have e:Dk P=(⟨P.kind,Uq,P.p0x,P.p0y,P.p1x,P.p1y,P.rad,P.stops,P.spread,P.im,P.samp,Px⟩:Pn):=by unfold Dk;rw[if_pos h1]
  have e2:Vr P q=(⟨q.sA,q.sc,q.xA,q.xc,Gg⟩:PM):=by unfold Vr;rw[if_pos h1]
  rw[e,e2]
  exact ZJ ((P.kind==1)) true (beq_iff_eq.2 h1) <| ZW (X4 (⟨P.kind,Uq,P.p0x,P.p0y,P.p1x,P.p1y,P.rad,P.stops,P.spread,P.im,P.samp,Px⟩:Pn) (⟨q.sA,q.sc,q.xA,q.xc,Gg⟩:PM))
 refine ZJ ((P.kind==1)) false (beq_eq_false_iff_ne.2 h1) ?_
 by_cases h2:P.kind=2
 case pos=>
  have e:Dk P=(⟨P.kind,P.co,0,0,0,0,P.rad,[],0,P.im,P.samp,Px⟩:Pn):=by unfold Dk;rw[if_neg h1];rw[if_pos h2]
  have e2:Vr P q=(⟨none,0,q.xA,q.xc,Gg⟩:PM):=by unfold Vr;rw[if_neg h1];rw[if_pos h2]
  rw[e,e2]
  exact ZJ ((P.kind==2)) true (beq_iff_eq.2 h2) <| ZW (X4 (⟨P.kind,P.co,0,0,0,0,P.rad,[],0,P.im,P.samp,Px⟩:Pn) (⟨none,0,q.xA,q.xc,Gg⟩:PM))
 refine ZJ ((P.kind==2)) false (beq_eq_false_iff_ne.2 h2) ?_
 by_cases h3:P.kind=3
 case pos=>
  have e:Dk P=(⟨P.kind,P.co,0,0,P.p1x,P.p1y,0,[],0,P.im,P.samp,Px⟩:Pn):=by unfold Dk;rw[if_neg h1];rw[if_neg h2];rw[if_pos h3]
  have e2:Vr P q=(⟨none,0,q.xA,q.xc,Gg⟩:PM):=by unfold Vr;rw[if_neg h1];rw[if_neg h2];rw[if_pos h3]
  rw[e,e2]
  exact ZJ ((P.kind==3)) true (beq_iff_eq.2 h3) <| ZW (X4 (⟨P.kind,P.co,0,0,P.p1x,P.p1y,0,[],0,P.im,P.samp,Px⟩:Pn) (⟨none,0,q.xA,q.xc,Gg⟩:PM))
 refine ZJ ((P.kind==3)) false (beq_eq_false_iff_ne.2 h3) ?_
 by_cases h4:P.kind=4
 case pos=>
  have e:Dk P=(⟨P.kind,P.co,P.p0x,P.p0y,P.p1x,P.p1y,P.rad,P.stops,0,Di,0,Px⟩:Pn):=by unfold Dk;rw[if_neg h1];rw[if_neg h2];rw[if_neg h3];rw[if_pos h4]
  have e2:Vr P q=(⟨q.sA,q.sc,none,0,Gg⟩:PM):=by unfold Vr;rw[if_neg h1];rw[if_neg h2];rw[if_neg h3];rw[if_pos h4]
  rw[e,e2]
  exact ZJ ((P.kind==4)) true (beq_iff_eq.2 h4) <| ZW (X4 (⟨P.kind,P.co,P.p0x,P.p0y,P.p1x,P.p1y,P.rad,P.stops,0,Di,0,Px⟩:Pn) (⟨q.sA,q.sc,none,0,Gg⟩:PM))
 have e:Dk P=(⟨P.kind,P.co,P.p0x,P.p0y,P.p1x,P.p1y,P.rad,P.stops,P.spread,P.im,P.samp,Px⟩:Pn):=by unfold Dk;rw[if_neg h1,if_neg h2,if_neg h3,if_neg h4]
 have e2:Vr P q=(⟨q.sA,q.sc,q.xA,q.xc,Gg⟩:PM):=by unfold Vr;rw[if_neg h1,if_neg h2,if_neg h3,if_neg h4]
 rw[e,e2]
 exact ZJ ((P.kind==4)) false (beq_eq_false_iff_ne.2 h4) <| ZW (X4 (⟨P.kind,P.co,P.p0x,P.p0y,P.p1x,P.p1y,P.rad,P.stops,P.spread,P.im,P.samp,Px⟩:Pn) (⟨q.sA,q.sc,q.xA,q.xc,Gg⟩:PM))
theorem below_kind:(Dk P).kind=P.kind∧(Dk P).T=Px:=by
 unfold Dk
 by_cases h1:P.kind=1
 ·rw[if_pos h1];exact⟨rfl,rfl⟩
 rw[if_neg h1]
 by_cases h2:P.kind=2
 ·rw[if_pos h2];exact⟨rfl,rfl⟩
 rw[if_neg h2]
 by_cases h3:P.kind=3
 ·rw[if_pos h3];exact⟨rfl,rfl⟩
 rw[if_neg h3]
 by_cases h4:P.kind=4
 ·rw[if_pos h4];exact⟨rfl,rfl⟩
 rw[if_neg h4];exact⟨rfl,rfl⟩
theorem Gr{X Y:Int}(hB:L8 X Y=B):Zv 97 #[pt X Y] w (.bool B):=by subst hB;exact valid_m
theorem Xf{r:Rat}:(Sw r ((0:Int):Rat) !=0)=decide (r≠0):=by
 rw[Qr rfl]
 rw[Bool.eq_iff_iff];simp
theorem pvalid_v(hB:Ku P=B)(hp:Db P q K w)(hl:P.im.px.length≤1000000000)(hK:2≤K∧K≤10000000):Zv 55 #[X4 P q] w (.bool B):=by
 unfold Ku at hB
 obtain⟨hwk,hwT⟩:=below_kind (P:=P)
 refine K0.enter Tryz.func55 rfl <| ZR ?_
 cases h1:P.T.ok
 ·rw[h1,Bool.false_and]at hB
  exact ZC (fun w1 hw h=>W1 h1 (hp.tr.below hw) hK) fun u=>ZR <| ZI true <| ZX Zf (by rw[←hB])
 rw[h1,Bool.true_and]at hB
 refine ZC (fun w1 hw h=>W1 h1 (hp.tr.below hw) hK) fun u=>ZC (fun w1 hw h=>wof_m (P:=P) (q:=q)) fun u2=> ?_
 cases h2:decide (T3 (Dk P))
 ·rw[h2,Bool.false_and]at hB
  exact ZC (fun w1 hw h=>eqz_v (k:=P.kind) h2 hwk hwT (hp.below hw).wofR hK) fun u3=>ZR <| ZI true <| ZX Zf (by rw[←hB])
 rw[h2,Bool.true_and]at hB
 unfold H7 at hB
 have hdet:∀w1:World,Db P q K w1→∀v:RV,Nr v P.T.det (4*K+1) w1→Zv 101 #[v.val,Ju.val] w1 (Zi (Sw P.T.det ((0:Int):Rat))):=fun w1 _ v hv=>Bj hv.q (isq0 (K:=2)) Zo
 refine ZC (fun w1 hw h=>eqz_v (k:=P.kind) h2 hwk hwT (hp.below hw).wofR hK) fun u3=>ZR <| ZI false ?_
 by_cases k1:P.kind=1
 case pos=>
  rw[if_pos k1]at hB
  exact ZJ ((P.kind==1)) true (beq_iff_eq.2 k1) <| ZC (fun w1 hw h=>equalA_m (hp.tr.below hw) (Ag.zero (w:=w1)) hK) fun u4=>ZX (.bool (eqA P.T Px)) (by rw[←hB])
 refine ZJ ((P.kind==1)) false (beq_eq_false_iff_ne.2 k1) ?_
 by_cases k2:P.kind=2
 case pos=>
  rw[if_neg k1,if_pos k2]at hB
  refine ZJ ((P.kind==2)) true (beq_iff_eq.2 k2) ?_
  cases c1:L8 P.p0x P.p0y
  ·rw[c1,Bool.false_and]at hB
   exact ZC (fun w1 hw h=>Gr c1) fun x1=>ZR <| ZI true <| ZX Zf (by rw[←hB])
  rw[c1,Bool.true_and]at hB
  refine ZC (fun w1 hw h=>Gr c1) fun x1=> ?_
  cases c2:L8 P.p1x P.p1y
  ·rw[c2,Bool.false_and]at hB
   exact ZC (fun w1 hw h=>Gr c2) fun x2=>ZR <| ZI true <| ZX Zf (by rw[←hB])
  rw[c2,Bool.true_and]at hB
  refine ZC (fun w1 hw h=>Gr c2) fun x2=> ?_
  cases c3:(Ny P.stops&&T4 P.spread)
  ·rw[c3,Bool.false_and]at hB
   exact ZC (fun w1 hw h=>Es c3 (hp.below hw)) fun x3=>ZR <| ZI true <| ZX Zf (by rw[←hB])
  rw[c3,Bool.true_and]at hB
  exact ZC (fun w1 hw h=>Es c3 (hp.below hw)) fun x3=>ZR <| ZI false <| ZC (fun w1 hw h=>Eg (hp.tr.below hw) hK) fun u9=>ZC (fun w1 hw h=>hdet w1 (hp.below hw) u9 h.2) fun v9=>ZX (.bool (Sw P.T.det ((0:Int):Rat) !=0)) (by rw[Xf,←hB])
 refine ZJ ((P.kind==2)) false (beq_eq_false_iff_ne.2 k2) ?_
 by_cases k3:P.kind=3
 case pos=>
  rw[if_neg k1,if_neg k2,if_pos k3]at hB
  refine ZJ ((P.kind==3)) true (beq_iff_eq.2 k3) ?_
  cases c1:L8 P.p0x P.p0y
  ·rw[c1,Bool.false_and]at hB
   exact ZC (fun w1 hw h=>Gr c1) fun x1=>ZR <| ZI true <| ZX Zf (by rw[←hB])
  rw[c1,Bool.true_and]at hB
  refine ZD 10 (fun w1 hw h=>Gr c1) fun x1=> ?_
  by_cases r1:P.rad<1
  case pos=>
   rw[show decide (1≤P.rad∧P.rad≤1048576)=false from decide_eq_false Zo,Bool.false_and]at hB
   exact ZT 52 (.bool (decide (P.rad<1))) Zt (by rw[decide_eq_true r1]) <| ZI true <| ZX Zf (by rw[←hB])
  refine K0.slot 52 (.bool (decide (P.rad<1))) Zf Zk (by rw[decide_eq_false r1]) <| ZS 15 ?_
  by_cases r2:P.rad>1048576
  case pos=>
   rw[show decide (1≤P.rad∧P.rad≤1048576)=false from decide_eq_false Zo,Bool.false_and]at hB
   exact ZT 57 (.bool (decide (P.rad>1048576))) Zt (by rw[decide_eq_true r2]) <| ZI true <| ZX Zf (by rw[←hB])
  rw[show decide (1≤P.rad∧P.rad≤1048576)=true from decide_eq_true Zo,Bool.true_and]at hB
  refine ZT 57 (.bool (decide (P.rad>1048576))) Zf (by rw[decide_eq_false r2]) ?_
  cases c3:(Ny P.stops&&T4 P.spread)
  ·rw[c3,Bool.false_and]at hB
   exact ZC (fun w1 hw h=>Es c3 (hp.below hw)) fun x3=>ZR <| ZI true <| ZX Zf (by rw[←hB])
  rw[c3,Bool.true_and]at hB
  exact ZC (fun w1 hw h=>Es c3 (hp.below hw)) fun x3=>ZR <| ZI false <| ZC (fun w1 hw h=>Eg (hp.tr.below hw) hK) fun u9=>ZC (fun w1 hw h=>hdet w1 (hp.below hw) u9 h.2) fun v9=>ZX (.bool (Sw P.T.det ((0:Int):Rat) !=0)) (by rw[Xf,←hB])
 refine ZJ ((P.kind==3)) false (beq_eq_false_iff_ne.2 k3) ?_
 by_cases k4:P.kind=4
 case pos=>
  rw[if_neg k1,if_neg k2,if_neg k3,if_pos k4]at hB
  refine ZJ ((P.kind==4)) true (beq_iff_eq.2 k4) ?_
  cases c1:Xy P.im
  ·rw[c1,Bool.false_and]at hB
   exact ZC (fun w1 hw h=>H9 (y:=(q.xA,q.xc)) c1 (hp.px.below hw) hl) fun x1=>ZR <| ZI true <| ZX Zf (by rw[←hB])
  rw[c1,Bool.true_and]at hB
  refine ZD 9 (fun w1 hw h=>H9 (y:=(q.xA,q.xc)) c1 (hp.px.below hw) hl) fun x1=> ?_
  by_cases s0:P.spread=0
  case pos=>
   rw[decide_eq_true s0,Bool.true_or,Bool.true_and]at hB
   refine K0.slot 72 (.bool (P.spread !=0)) Zf Zk (by rw[bne_eq_false_iff_eq.2 s0]) <| ZS 20 ?_
   by_cases m1:P.samp=1
   case pos=>
    rw[decide_eq_true (.inl m1),Bool.true_and]at hB
    exact ZT 83 (.bool (P.samp !=1)) Zf (by rw[bne_eq_false_iff_eq.2 m1]) <| ZI false <| ZC (fun w1 hw h=>Eg (hp.tr.below hw) hK) fun u9=>ZC (fun w1 hw h=>hdet w1 (hp.below hw) u9 h.2) fun v9=>ZX (.bool (Sw P.T.det ((0:Int):Rat) !=0)) (by rw[Xf,←hB])
   refine ZT 83 (.bool (P.samp !=1)) Zt (by rw[bne_iff_ne.2 m1]) ?_
   by_cases m2:P.samp=2
   case pos=>
    rw[decide_eq_true (.inr m2),Bool.true_and]at hB
    exact ZJ ((P.samp !=2)) false (bne_eq_false_iff_eq.2 m2) <| ZC (fun w1 hw h=>Eg (hp.tr.below hw) hK) fun u9=>ZC (fun w1 hw h=>hdet w1 (hp.below hw) u9 h.2) fun v9=>ZX (.bool (Sw P.T.det ((0:Int):Rat) !=0)) (by rw[Xf,←hB])
   rw[show decide (P.samp=1∨P.samp=2)=false from decide_eq_false (fun h=>h.elim m1 m2),Bool.false_and]at hB
   exact ZJ ((P.samp !=2)) true (bne_iff_ne.2 m2) <| ZX Zf (by rw[←hB])
  rw[decide_eq_false s0,Bool.false_or]at hB
  refine ZT 72 (.bool (P.spread !=0)) Zt (by rw[bne_iff_ne.2 s0]) ?_
  cases c2:T4 P.spread
  ·rw[c2,Bool.false_and]at hB
   exact ZC (fun w1 hw h=>F1 c2) fun x2=>ZR <| ZI true <| ZX Zf (by rw[←hB])
  rw[c2,Bool.true_and]at hB
  refine ZD 20 (fun w1 hw h=>F1 c2) fun x2=> ?_
  by_cases m1:P.samp=1
  case pos=>
   rw[decide_eq_true (.inl m1),Bool.true_and]at hB
   exact ZT 83 (.bool (P.samp !=1)) Zf (by rw[bne_eq_false_iff_eq.2 m1]) <| ZI false <| ZC (fun w1 hw h=>Eg (hp.tr.below hw) hK) fun u9=>ZC (fun w1 hw h=>hdet w1 (hp.below hw) u9 h.2) fun v9=>ZX (.bool (Sw P.T.det ((0:Int):Rat) !=0)) (by rw[Xf,←hB])
  refine ZT 83 (.bool (P.samp !=1)) Zt (by rw[bne_iff_ne.2 m1]) ?_
  by_cases m2:P.samp=2
  case pos=>
   rw[decide_eq_true (.inr m2),Bool.true_and]at hB
   exact ZJ ((P.samp !=2)) false (bne_eq_false_iff_eq.2 m2) <| ZC (fun w1 hw h=>Eg (hp.tr.below hw) hK) fun u9=>ZC (fun w1 hw h=>hdet w1 (hp.below hw) u9 h.2) fun v9=>ZX (.bool (Sw P.T.det ((0:Int):Rat) !=0)) (by rw[Xf,←hB])
  rw[show decide (P.samp=1∨P.samp=2)=false from decide_eq_false (fun h=>h.elim m1 m2),Bool.false_and]at hB
  exact ZJ ((P.samp !=2)) true (bne_iff_ne.2 m2) <| ZX Zf (by rw[←hB])
 rw[if_neg k1,if_neg k2,if_neg k3,if_neg k4]at hB
 exact ZJ ((P.kind==4)) false (beq_eq_false_iff_ne.2 k4) <| ZX Zf (by rw[←hB])
end
section
variable{P:Program}{Δ:List Deferred}{W:World}{Q:Exit→Act→World→Prop}{Φ:World→Prop}{c:Nn}
def twoReady(i j:Nat)(c:Nn):Bool:=match c.foc with
 | .any ops (_+1) listed=>match Region.ready .any ops listed with
  | [a,b]=>Nat.beq a i&&Nat.beq b j
  |_=>false
 |_=>false
def GoodAt0(P:Program)(W:World)(Q:Exit→Act→World→Prop)(i:Nat)(Φ:World→Prop)(c:Nn)(Δ:List Deferred):Prop:=
 match c.foc with
 | .any ops (fuel+1) listed=>Ssa ops→O4 ops listed→c.st.wf→i∈Region.ready .any ops listed→∃o,ops[i]? =some o∧AOp P W ops o (fun ch Φ=>∀(σ:AS),σ.wf→∀β a w,Q4 Δ W β σ Φ a w→post P Q c.k (.panic ch) a w) (G5 P W ops (fun ch Φ=>∀(σ:AS),σ.wf→∀β a w,Q4 Δ W β σ Φ a w→post P Q c.k (.panic ch) a w) (fun σ Φ=>σ.wf→∀β a w,Q4 Δ W β σ Φ a w→post P Q c.k .normal a w) fuel (listed.setIfInBounds i true)) c.st Φ
 |_=>True
structure Qa(P:Program)(W:World)(Q:Exit→Act→World→Prop)(i:Nat)(Φ:World→Prop)(c:Nn)(Δ:List Deferred):Prop where
 get:GoodAt0 P W Q i Φ c Δ
theorem K0.two{i j:Nat}(h:twoReady i j c=true)(hi:Qa P W Q i Φ c Δ)(hj:Qa P W Q j Φ c Δ):K0 P Δ W Q Φ c:=by
 obtain⟨foc,k,σ⟩:=c
 refine⟨?_⟩
 unfold twoReady at h
 simp only at h
 split at h
 ·rename_i ops fuel listed
  split at h
  ·rename_i a b hrd
   simp only[Bool.and_eq_true,Nat.beq_eq]at h
   obtain⟨rfl,rfl⟩:=h
   intro hssa hcl hwf
   refine⟨fun h0=>(by rw[h0]at hrd;cases hrd),fun x hx=> ?_⟩
   have hx2:=hx
   rw[hrd]at hx2
   rcases List.mem_cons.1 hx2 with rfl|hx2
   ·exact hi.get hssa hcl hwf hx
   ·obtain rfl:x=b:=by simpa using hx2
    exact hj.get hssa hcl hwf hx
  ·cases h
 ·cases h
def callAtV(P:Program)(i:Nat)(c:Nn):Option (FuncId×Array Value):=
 match c.foc with
 | .any ops (_+1) _=>match ops[i]? with
  | some o=>if Kx ops o c.st then(match Vp P o c.st with
   |some (g,xs)=>match G4 xs with
    |some vs=>some (g,vs.toArray)
    |none=>none
   |none=>none)else none
  |none=>none
 |_=>none
theorem Qa.callv{X:Type}{i:Nat}{g:FuncId}{args:Array Value}{val:X→Value}{G:X→World→Prop}
 (hs:∀w,Below W.heap.size W w→Φ w→Calls P g args w (K7 w val G)) (hc:callAtV P i c=some (g,args))
 (h:∀x:X,K0 P Δ W Q (fun w=>Φ w∧G x w) (Ae i (val x) c)):Qa P W Q i Φ c Δ:=by
 obtain⟨foc,k,σ⟩:=c
 replace h:=fun x=>(h x).get
 refine⟨?_⟩
 unfold callAtV at hc
 simp only at hc
 split at hc
 ·rename_i ops fuel listed
  split at hc
  ·rename_i o ho
   split at hc
   ·rename_i hw
    split at hc
    ·rename_i g' xs hn
     split at hc
     ·rename_i vs hv
      injection hc with hc
      injection hc with h1 h2
      subst h1;subst h2
      intro hssa hcl hwf hr
      obtain⟨_,o',ho',hall⟩:=mem_ready.1 hr
      obtain rfl:o=o':=by rw[ho]at ho';injection ho'
      refine⟨o,ho,.call g' xs val G hw hn (fun β w hb hΦ _=>by rw[Pf hv];exact hs w hb hΦ) fun x=> ?_⟩
      have:=h x
      simp only[Ae,ho,Option.bind_some,Nat.add_one_sub_one]at this
      exact this hssa (hcl.set_ ho hall) (hwf.put _ (by intro k hk;simp[AV.ids]at hk))
     ·cases hc
    ·cases hc
   ·cases hc
  ·cases hc
 ·cases hc
def semAt(i:Nat)(c:Nn):Option (Sem Next):=
 match c.foc with
 | .any ops (_+1) _=>match ops[i]? with
  |some o=>match o.op with
   | .select _ _=>none
   |_=>if Kx ops o c.st&&c.st.plain o.op then some (execOp c.st.rho o)else none
  |none=>none
 |_=>none
theorem Qa.make{X:Type}{i:Nat}(s:Sem Next)(val:X→Value)(G:X→World→Prop)(hc:semAt i c=some s)(hs:∀w,Below W.heap.size W w→Φ w→Lh P w val G s)(h:∀x,K0 P Δ W Q (fun w=>Φ w∧G x w) (Ae i (val x) c)):Qa P W Q i Φ c Δ:=by
 obtain⟨foc,k,σ⟩:=c
 replace h:=fun x=>(h x).get
 refine⟨?_⟩
 unfold semAt at hc
 simp only at hc
 split at hc
 ·rename_i ops fuel listed
  split at hc
  ·rename_i o ho
   split at hc
   ·cases hc
   ·rename_i hns
    split at hc
    ·rename_i hw
     simp only[Bool.and_eq_true]at hw
     injection hc with hc
     subst hc
     intro hssa hcl hwf hr
     obtain⟨_,o',ho',hall⟩:=mem_ready.1 hr
     obtain rfl:o=o':=by rw[ho]at ho';injection ho'
     refine⟨o,ho,.make val G hw.1 hw.2 (fun cs b e=>hns cs b e) hs fun x=> ?_⟩
     have:=h x
     simp only[Ae,ho,Option.bind_some,Nat.add_one_sub_one]at this
     exact this hssa (hcl.set_ ho hall) (hwf.put _ (by intro k hk;simp[AV.ids]at hk))
    ·cases hc
  ·cases hc
 ·cases hc
end
section
open Go.RowKit
--ATNAMES
theorem Pq{x y:Int}(h:L8 x y=true):(-1048576≤x∧x≤1048576)∧(-1048576≤y∧y≤1048576):=of_decide_eq_true h
theorem Wg:∀{l:List (Int×Co)} {a:Int},0≤a→B4 a l=true→∀x∈l,0≤x.1∧x.1≤65536
 | [],a,_,_,x,hx=>by cases hx
 |y::l,a,ha,h,x,hx=>by
  have h:(decide (a≤y.1∧y.1≤65536)&&B4 y.1 l)=true:=h
  rw[Bool.and_eq_true,decide_eq_true_iff]at h
  rcases List.mem_cons.1 hx with rfl|hx
  ·omega
  ·exact Wg Zo h.2 x hx
theorem Sq{x:Int}(h: -9223372036854775808≤x∧x≤9223372036854775807):(Kb x).length≤21:=by
 have h2:x.natAbs<pw 2:=by
  have:pw 2=18446744073709551616:=by rfl
  omega
 exact Vi (k:=2) Zd h2
theorem Ux{r:Rat}(h:bitsQ r≤256):(Kr r).length≤163:=by
 have h1:r.num.natAbs<pw 8:=bits_8 (by unfold bitsQ at h;omega)
 have h2:r.den<pw 8:=bits_8 (by unfold bitsQ at h;omega)
 have h3:=Vi (k:=8) Zd h1
 have h4:=Vi (x:=(r.den:Int)) (k:=8) Zd (by simpa using h2)
 unfold Kr
 split
 ·omega
 ·simp only[List.length_append,List.length_cons];omega
theorem affW_len{T:Y0}(h:T.ok=true):Mq (Oz T)≤978∧(Oz T).length=6:=by
 obtain⟨h1,h2,h3,h4,h5,h6⟩:=Y0.ok_bits h
 have k1:=Ux h1;have k2:=Ux h2;have k3:=Ux h3;have k4:=Ux h4;have k5:=Ux h5;have k6:=Ux h6
 refine⟨?_,rfl⟩
 unfold Oz
 simp only[Mq]
 omega
theorem F0:∀l:List (Int×Co),(Cb l).length=2*l.length
 | []=>rfl
 |x::l=>by
  have:=F0 l
  show(Kb x.1::Pd x.2::Cb l).length=_
  simp only[List.length_cons];omega
theorem stW_snoc{l:List (Int×Co)}{k:Nat}{x:Int×Co}(h:l[k]? =some x):Cb (l.take (k+1))=Cb (l.take k)++ [Kb x.1,Pd x.2]:=by
 unfold Cb
 rw[List.take_add_one,h];simp
section
variable{w:World}{P:Pn}{q:PM}{K:Nat}
theorem app_row2{B m yc gb:Nat}{y:Option Addr}{p:WS}{a b:List UInt8}(ho:K6 w B 9 1 y m yc (sv p))(hB:B≤w.heap.size)(hg:L4 9 #[K4 a,K4 b] gb w)(hm:m<999990):
 Ot Tryz.prog w (bl y) (fun z:Option Addr×Nat=> .slice z.1 (m+2) z.2) (fun z v=>K6 v B 9 1 z.1 (m+2) z.2 (sv (p++ [a,b]))) (M9 66 66 (.slice y m yc) (Kf 2 gb)):=
 Xk (cc:=2) ho hB (O9 (L:=[a,b]) hg rfl) (show m+2≤1000000 by omega)
theorem Uk(hp:Db P q K w)(hv:Ku P=true)(hK:2≤K∧K≤1000)(hl:P.im.px.length≤20000):Calls Tryz.prog 37 #[X4 P q] w (K7 w (fun y:Option Addr×Nat=> .slice y.1 (Rx P).length y.2) fun y u=>L3 u y.1 (Rx P).length (Rx P)):=by
 unfold Ku at hv
 rw[Bool.and_eq_true,Bool.and_eq_true]at hv
 obtain⟨hok,hz,hk⟩:=hv
 unfold H7 at hk
 by_cases k1:P.kind=1
 case pos=>
  have e:Rx P=[Pr,Pd P.co]:=by unfold Rx;rw[if_pos k1]
  rw[e]
  refine K0.enter Tryz.func37 rfl <| ZR <| ZJ ((P.kind==1)) true (beq_iff_eq.2 k1) <| ZD 3 (fun w1 hw h=>Fr (k:=P.co)) fun u=>K0.make (Lq (66) 2 #[(0,K4 Pr),(1,K4 (Pd P.co))]) (Kf 2) (L4 9 #[K4 Pr,K4 (Pd P.co)]) Zk (fun w1 hw h=>Kc Zk) fun gb=>ZR <| ZV (.slice (some ⟨gb,0,none⟩) 2 2) (fun w1 hw h=>⟨(some ⟨gb,0,none⟩,2),rfl,hw,fun w'' k1 k2=>O9 (L:=[Pr,Pd P.co]) (h w'' k1 k2).2 rfl⟩)
 by_cases k4:P.kind=4
 case pos=>
  rw[if_neg k1,if_neg Zo,if_neg Zo,if_pos k4,Bool.and_eq_true,Bool.and_eq_true,Bool.and_eq_true,Bool.or_eq_true,decide_eq_true_iff,decide_eq_true_iff]at hk
  obtain⟨hi,hs,hm,_⟩:=hk
  have hs2:0≤P.spread∧P.spread<0+4:=by
   rcases hs with hs|hs
   ·omega
   ·have:=of_decide_eq_true hs;omega
  unfold Xy at hi
  rw[Bool.and_eq_true,Bool.and_eq_true]at hi
  have hsz:=of_decide_eq_true hi.1.1
  obtain⟨x1,hx1⟩:∃x,x=Kz Ln 0 P.spread:=⟨_,rfl⟩
  obtain⟨x2,hx2⟩:∃x,x=Kz Oc 1 P.samp:=⟨_,rfl⟩
  have e:Rx P=([M5,x1,x2]++Oz P.T)++Hd P.im:=by unfold Rx;rw[if_neg k1,if_pos k4,hx1,hx2]
  rw[e]
  refine K0.enter Tryz.func37 rfl <| ZR <| ZJ ((P.kind==1)) false (beq_eq_false_iff_ne.2 k1) <| ZJ ((P.kind==4)) true (beq_iff_eq.2 k4) <| ZC (fun w1 hw h=>by have t:=Bm (w:=w1) hs2.1 hs2.2;rw[←hx1]at t;exact t) fun u1=>ZD 6 (fun w1 hw h=>by have t:=name_look (w:=w1) (z:=P.samp) Zo Zo;rw[←hx2]at t;exact t) fun u2=>K0.two (i:=6) (j:=9) Zk ?_ ?_
  ·refine Qa.make (i:=6) (Lq (66) 3 #[(0,K4 M5),(1,K4 x1),(2,K4 x2)]) (Kf 3) (L4 9 #[K4 M5,K4 x1,K4 x2]) Zk (fun w1 hw h=>Kc Zk) fun gb=>ZS 10 <| ZD 10 (fun w1 hw h=>P3 (N:=w.heap.size) hw.size (hp.tr.below hw) hK) fun y=>K0.make (M9 66 66 (Kf 3 gb) (.slice y.1 6 y.2)) (fun y:Option Addr×Nat=> .slice y.1 (3+6) y.2) (fun y v=>K6 v w.heap.size 9 1 y.1 (3+6) y.2 (sv ([M5,x1,x2]++Oz P.T))) Zk (fun w1 hw h=>Rb (p:=[M5,x1,x2]) (l:=Oz P.T) h.1.2 rfl h.2.strs Zd (Nat.le_of_ble_eq_true rfl) hw.size) fun z=>ZR <| ZD 4 (fun w1 hw h=>Un (y:=(q.xA,q.xc)) (hp.px.below hw) hl Zo Zo) fun v=>K0.mutOp (L:=bl z.1) (val:=fun(y:Option Addr×Nat)=> .slice y.1 (3+6+3) y.2) (Φ':=fun(y:Option Addr×Nat) u=>K6 u w.heap.size 9 1 y.1 (3+6+3) y.2 (sv (([M5,x1,x2]++Oz P.T)++Hd P.im))) (G:=fun(y:Option Addr×Nat) u=>K6 u w.heap.size 9 1 y.1 (3+6+3) y.2 (sv (([M5,x1,x2]++Oz P.T)++Hd P.im))) (M9 66 66 (.slice z.1 (3+6) z.2) (.slice v.1 3 v.2)) (fun w1 hw h=>Xk (p:=[M5,x1,x2]++Oz P.T) (l:=Hd P.im) h.1.2 hw.size h.2 Zd) (fun w1 h=>fun b hb=>⟨(h.1.2.lt b hb).1,(h.1.2.blk b hb).2⟩) (fun y wa wb e1 e2 h hG=>hG) Zk Zk fun y2=>ZR <| ZV (.slice y2.1 (3+6+3) y2.2) (fun w1 hw h=>⟨y2,rfl,hw,fun w'' k1 k2=>(show K6 w'' w.heap.size 9 1 y2.1 (3+6+3) y2.2 (sv (([M5,x1,x2]++Oz P.T)++Hd P.im))from h w'' k1 k2).strs⟩)
  ·refine Qa.callv (i:=9) (fun w1 hw h=>P3 (N:=w.heap.size) hw.size (hp.tr.below hw) hK) Zk fun y=>ZS 6 <| K0.make (Lq (66) 3 #[(0,K4 M5),(1,K4 x1),(2,K4 x2)]) (Kf 3) (L4 9 #[K4 M5,K4 x1,K4 x2]) Zk (fun w1 hw h=>Kc Zk) fun gb=>ZS 10 <| K0.make (M9 66 66 (Kf 3 gb) (.slice y.1 6 y.2)) (fun y:Option Addr×Nat=> .slice y.1 (3+6) y.2) (fun y v=>K6 v w.heap.size 9 1 y.1 (3+6) y.2 (sv ([M5,x1,x2]++Oz P.T))) Zk (fun w1 hw h=>Rb (p:=[M5,x1,x2]) (l:=Oz P.T) h.2 rfl h.1.2.strs Zd (Nat.le_of_ble_eq_true rfl) hw.size) fun z=>ZR <| ZD 4 (fun w1 hw h=>Un (y:=(q.xA,q.xc)) (hp.px.below hw) hl Zo Zo) fun v=>K0.mutOp (L:=bl z.1) (val:=fun(y:Option Addr×Nat)=> .slice y.1 (3+6+3) y.2) (Φ':=fun(y:Option Addr×Nat) u=>K6 u w.heap.size 9 1 y.1 (3+6+3) y.2 (sv (([M5,x1,x2]++Oz P.T)++Hd P.im))) (G:=fun(y:Option Addr×Nat) u=>K6 u w.heap.size 9 1 y.1 (3+6+3) y.2 (sv (([M5,x1,x2]++Oz P.T)++Hd P.im))) (M9 66 66 (.slice z.1 (3+6) z.2) (.slice v.1 3 v.2)) (fun w1 hw h=>Xk (p:=[M5,x1,x2]++Oz P.T) (l:=Hd P.im) h.1.2 hw.size h.2 Zd) (fun w1 h=>fun b hb=>⟨(h.1.2.lt b hb).1,(h.1.2.blk b hb).2⟩) (fun y wa wb e1 e2 h hG=>hG) Zk Zk fun y2=>ZR <| ZV (.slice y2.1 (3+6+3) y2.2) (fun w1 hw h=>⟨y2,rfl,hw,fun w'' k1 k2=>(show K6 w'' w.heap.size 9 1 y2.1 (3+6+3) y2.2 (sv (([M5,x1,x2]++Oz P.T)++Hd P.im))from h w'' k1 k2).strs⟩)
 obtain⟨x1,hx1⟩:∃x,x=Kz Ln 0 P.spread:=⟨_,rfl⟩
 by_cases k2:P.kind=2
 case pos=>
  rw[if_neg k1,if_pos k2,Bool.and_eq_true,Bool.and_eq_true,Bool.and_eq_true]at hk
  obtain⟨hp0,hp1,hst0,_⟩:=hk
  have hr0:=Pq hp0
  have hr1:=Pq hp1
  have hst2:=hst0
  rw[Bool.and_eq_true]at hst2
  have hs2:0≤P.spread∧P.spread<0+4:=by have:=of_decide_eq_true (show decide (1≤P.spread∧P.spread≤3)=true from hst2.2);omega
  have hst1:=hst2.1
  unfold Ny at hst1
  rw[Bool.and_eq_true,decide_eq_true_iff]at hst1
  have hst:=hst1.2
  have hst16:=hst1.1.2
  have e:Rx P=([Qc,Kb P.p0x,Kb P.p0y,Kb P.p1x,Kb P.p1y,x1]++Oz P.T)++Cb P.stops:=by unfold Rx;rw[if_neg k1,if_neg k4,if_pos k2,hx1]
  rw[e]
  obtain⟨L1,hL1⟩:∃L:WS,L=[Qc,Kb P.p0x,Kb P.p0y,Kb P.p1x,Kb P.p1y,x1]:=⟨_,rfl⟩
  have hL1n:L1.length=6:=by rw[hL1];rfl
  obtain⟨L2,hL2⟩:∃L:WS,L=([Qc,Kb P.p0x,Kb P.p0y,Kb P.p1x,Kb P.p1y,x1]++Oz P.T):=⟨_,rfl⟩
  have hL2e:L2=L1++Oz P.T:=by rw[hL2,hL1]
  have hL2n:L2.length=12:=by rw[hL2e,List.length_append,hL1n];rfl
  rw[←hL2]
  refine K0.enter Tryz.func37 rfl <| ZR <| ZJ ((P.kind==1)) false (beq_eq_false_iff_ne.2 k1) <| ZJ ((P.kind==4)) false (beq_eq_false_iff_ne.2 k4) <| ZJ ((P.kind==2)) true (beq_iff_eq.2 k2) <| ZC (fun w1 hw h=>Kv (n:=P.p0x) Zo Zo) fun u0=>ZC (fun w1 hw h=>Kv (n:=P.p0y) Zo Zo) fun u1=>ZC (fun w1 hw h=>Kv (n:=P.p1x) Zo Zo) fun u2=>ZD 16 (fun w1 hw h=>Kv (n:=P.p1y) Zo Zo) fun u3=>K0.make (Lq (66) 5 #[(0,K4 Qc),(1,K4 (Kb P.p0x)),(2,K4 (Kb P.p0y)),(3,K4 (Kb P.p1x)),(4,K4 (Kb P.p1y))]) (Kf 5) (L4 9 #[K4 Qc,K4 (Kb P.p0x),K4 (Kb P.p0y),K4 (Kb P.p1x),K4 (Kb P.p1y)]) Zk (fun w1 hw h=>Kc Zk) fun ga=>ZR <| ZD 4 (fun w1 hw h=>by have t:=Bm (w:=w1) hs2.1 hs2.2;rw[←hx1]at t;exact t) fun u9=>K0.make (Lq (66) 1 #[(0,K4 x1)]) (Kf 1) (L4 9 #[K4 x1]) Zk (fun w1 hw h=>Kc Zk) fun gb=>ZS 5 <| K0.make (M9 66 66 (Kf 5 ga) (Kf 1 gb)) (fun z:Option Addr×Nat=> .slice z.1 (5+1) z.2) (fun z v=>K6 v w.heap.size 9 1 z.1 (5+1) z.2 (sv L1)) Zk (fun w1 hw h=>by have t:=Rb (N:=w.heap.size) (n:=5) (m:=1) (p:=[Qc,Kb P.p0x,Kb P.p0y,Kb P.p1x,Kb P.p1y]) (l:=[x1]) (cc:=1) h.1.1.2 rfl (O9 (L:=[x1]) h.2 rfl) Zd Zd hw.size;rw[hL1];exact t) fun z=>ZS 9 <| ZD 9 (fun w1 hw h=>P3 (N:=w.heap.size) hw.size (hp.tr.below hw) hK) fun y=>K0.mutAny (L:=bl z.1) (val:=fun(z:Option Addr×Nat)=> .slice z.1 (5+1+6) z.2) (Φ':=fun(z:Option Addr×Nat) v=>K6 v w.heap.size 9 1 z.1 (5+1+6) z.2 (sv L2)) (G:=fun(z:Option Addr×Nat) v=>K6 v w.heap.size 9 1 z.1 (5+1+6) z.2 (sv L2)) (M9 66 66 (.slice z.1 (5+1) z.2) (.slice y.1 6 y.2)) (fun w1 hw h=>by have t:=Xk h.1.2 hw.size h.2.strs Zd (cc:=y.2);rw[←hL2e]at t;exact t) (fun w1 h=>fun b hb=>⟨(h.1.2.lt b hb).1,(h.1.2.blk b hb).2⟩) (fun z wa wb e1 e2 h hG=>hG) Zk Zk fun z2=>ZR <| K0.loop (ι:={r:Nat×(Option Addr×Nat) // r.1≤P.stops.length}) 91 (fun r=>⟨[(3,.v (.slice r.1.2.1 (5+1+6+2*r.1.1) r.1.2.2)),(74,.v (.slice q.sA P.stops.length q.sc)),(75,.v (Zi P.stops.length)),(76,.v (Zi r.1.1))],[]⟩) (fun r u=>K6 u w.heap.size 9 1 r.1.2.1 (5+1+6+2*r.1.1) r.1.2.2 (sv (L2++Cb (P.stops.take r.1.1)))) (fun r=>P.stops.length-r.1.1) (⟨(0,z2),Nat.zero_le _⟩) Zk (fun _=>by kernel_rfl) ⟨Zk,Zk,Zk⟩ (fun u h=>by show K6 u w.heap.size 9 1 z2.1 (5+1+6) z2.2 (sv (L2++ []));rw[List.append_nil];exact h) ?_
  rintro⟨⟨k,y0,yc⟩,hk0⟩ gg
  have hk0:k≤P.stops.length:=hk0
  by_cases hlt:k<P.stops.length
  case neg=>
   have hkn:P.stops.length=k:=by omega
   refine ZR <| ZJ (decide ((k:Int)<(P.stops.length:Int))) false Zp <| K0.leave Zk <| ZR ?_
   have hfull:P.stops.take k=P.stops:=List.take_of_length_le Zo
   have hlen:(L2++Cb P.stops).length=5+1+6+2*k:=by rw[List.length_append,F0,hL2n];omega
   refine ZV (.slice y0 (5+1+6+2*k) yc) (fun w1 hw h=>⟨(y0,yc),by rw[hlen],hw,fun w'' k1 k2=>by rw[hlen];have t:=(show K6 w'' w.heap.size 9 1 y0 (5+1+6+2*k) yc (sv (L2++Cb (P.stops.take k)))from h w'' k1 k2).strs;rw[hfull]at t;exact t⟩)
  obtain⟨x,hx⟩:∃x,P.stops[k]? =some x:=⟨_,List.getElem?_eq_getElem hlt⟩
  obtain⟨ad,hA,hc⟩:=hp.st.2 k x hx
  have hxr:=Wg (Int.le_refl 0) hst x (List.mem_of_getElem? hx)
  have hstep:L2++Cb (P.stops.take (k+1))=(L2++Cb (P.stops.take k))++ [Kb x.1,Pd x.2]:=by rw[stW_snoc hx];simp
  obtain⟨p,hp'⟩:∃p,p=L2++Cb (P.stops.take k):=⟨_,rfl⟩
  refine ZR <| ZJ (decide ((k:Int)<(P.stops.length:Int))) true Zp <| ZA (Kj 58 (.slice q.sA P.stops.length q.sc) k) (.pointer (some (ad.add (k*5)))) (fun w1 hw h=>Z3 hA hlt) <| ZA (L5 139 (ad.add (k*5))) (.agg (Ri x).toArray) (fun w1 hw h=>st_ld fun j v hj=>Lc hw (hc j v hj)) <| ZC (fun w1 hw h=>Kv (n:=x.1) Zo Zo) fun v1=>ZD 7 (fun w1 hw h=>Fr (k:=x.2)) fun v2=>K0.make (Lq (66) 2 #[(0,K4 (Kb x.1)),(1,K4 (Pd x.2))]) (Kf 2) (L4 9 #[K4 (Kb x.1),K4 (Pd x.2)]) Zk (fun w1 hw h=>Kc Zk) fun gc=>ZS 8 <| K0.mutAny (L:=bl y0) (val:=fun(z:Option Addr×Nat)=> .slice z.1 (5+1+6+2*k+2) z.2) (Φ':=fun(z:Option Addr×Nat) v=>K6 v w.heap.size 9 1 z.1 (5+1+6+2*k+2) z.2 (sv (p++ [Kb x.1,Pd x.2]))) (G:=fun(z:Option Addr×Nat) v=>K6 v w.heap.size 9 1 z.1 (5+1+6+2*k+2) z.2 (sv (p++ [Kb x.1,Pd x.2]))) (M9 66 66 (.slice y0 (5+1+6+2*k) yc) (Kf 2 gc)) (fun w1 hw h=>app_row2 (show K6 w1 w.heap.size 9 1 y0 (5+1+6+2*k) yc (sv p)from(by rw[hp'];exact h.1.1.1)) hw.size h.2 (by have:=hst16;omega)) (fun w1 h=>fun b hb=>⟨((show K6 w1 w.heap.size 9 1 y0 (5+1+6+2*k) yc (sv p)from(by rw[hp'];exact h.1.1.1)).lt b hb).1,((show K6 w1 w.heap.size 9 1 y0 (5+1+6+2*k) yc (sv p)from(by rw[hp'];exact h.1.1.1)).blk b hb).2⟩) (fun z wa wb e1 e2 h hG=>hG) Zk Zk fun z=>ZR <| K0.slot 76 (Zi (IntKind.i64.wrap ((k:Int)+1))) (Zi ((k+1:Nat):Int)) Zk (by rw[Kd hlt Zo]) <| K0.next (⟨(k+1,z.1,z.2),by show k+1≤P.stops.length;omega⟩) Zk (by show P.stops.length- (k+1)<P.stops.length-k;omega) ⟨Zk,Zk,Zk⟩ (fun u h=>(by show K6 u w.heap.size 9 1 z.1 (5+1+6+2*(k+1)) z.2 (sv (L2++Cb (P.stops.take (k+1))));rw[hstep,←hp',show 5+1+6+2*(k+1)=5+1+6+2*k+2 by omega];exact h))
 by_cases k3:P.kind=3
 case neg=>rw[if_neg k1,if_neg k2,if_neg k3,if_neg k4]at hk;cases hk
 rw[if_neg k1,if_neg k2,if_pos k3,Bool.and_eq_true,Bool.and_eq_true,Bool.and_eq_true,decide_eq_true_iff]at hk
 obtain⟨hp0,hrad,hst0,_⟩:=hk
 have hr0:=Pq hp0
 have hst2:=hst0
 rw[Bool.and_eq_true]at hst2
 have hs2:0≤P.spread∧P.spread<0+4:=by have:=of_decide_eq_true (show decide (1≤P.spread∧P.spread≤3)=true from hst2.2);omega
 have hst1:=hst2.1
 unfold Ny at hst1
 rw[Bool.and_eq_true,decide_eq_true_iff]at hst1
 have hst:=hst1.2
 have hst16:=hst1.1.2
 have e:Rx P=([Qp,Kb P.p0x,Kb P.p0y,Kb P.rad,x1]++Oz P.T)++Cb P.stops:=by unfold Rx;rw[if_neg k1,if_neg k4,if_neg k2,hx1]
 rw[e]
 obtain⟨L1,hL1⟩:∃L:WS,L=[Qp,Kb P.p0x,Kb P.p0y,Kb P.rad,x1]:=⟨_,rfl⟩
 have hL1n:L1.length=5:=by rw[hL1];rfl
 obtain⟨L2,hL2⟩:∃L:WS,L=([Qp,Kb P.p0x,Kb P.p0y,Kb P.rad,x1]++Oz P.T):=⟨_,rfl⟩
 have hL2e:L2=L1++Oz P.T:=by rw[hL2,hL1]
 have hL2n:L2.length=11:=by rw[hL2e,List.length_append,hL1n];rfl
 rw[←hL2]
 refine K0.enter Tryz.func37 rfl <| ZR <| ZJ ((P.kind==1)) false (beq_eq_false_iff_ne.2 k1) <| ZJ ((P.kind==4)) false (beq_eq_false_iff_ne.2 k4) <| ZJ ((P.kind==2)) false (beq_eq_false_iff_ne.2 k2) <| ZC (fun w1 hw h=>Kv (n:=P.p0x) Zo Zo) fun u0=>ZC (fun w1 hw h=>Kv (n:=P.p0y) Zo Zo) fun u1=>ZD 11 (fun w1 hw h=>Kv (n:=P.rad) Zo Zo) fun u2=>K0.make (Lq (66) 4 #[(0,K4 Qp),(1,K4 (Kb P.p0x)),(2,K4 (Kb P.p0y)),(3,K4 (Kb P.rad))]) (Kf 4) (L4 9 #[K4 Qp,K4 (Kb P.p0x),K4 (Kb P.p0y),K4 (Kb P.rad)]) Zk (fun w1 hw h=>Kc Zk) fun ga=>ZR <| ZD 4 (fun w1 hw h=>by have t:=Bm (w:=w1) hs2.1 hs2.2;rw[←hx1]at t;exact t) fun u9=>K0.make (Lq (66) 1 #[(0,K4 x1)]) (Kf 1) (L4 9 #[K4 x1]) Zk (fun w1 hw h=>Kc Zk) fun gb=>ZS 5 <| K0.make (M9 66 66 (Kf 4 ga) (Kf 1 gb)) (fun z:Option Addr×Nat=> .slice z.1 (4+1) z.2) (fun z v=>K6 v w.heap.size 9 1 z.1 (4+1) z.2 (sv L1)) Zk (fun w1 hw h=>by have t:=Rb (N:=w.heap.size) (n:=4) (m:=1) (p:=[Qp,Kb P.p0x,Kb P.p0y,Kb P.rad]) (l:=[x1]) (cc:=1) h.1.1.2 rfl (O9 (L:=[x1]) h.2 rfl) Zd Zd hw.size;rw[hL1];exact t) fun z=>ZS 9 <| ZD 9 (fun w1 hw h=>P3 (N:=w.heap.size) hw.size (hp.tr.below hw) hK) fun y=>K0.mutAny (L:=bl z.1) (val:=fun(z:Option Addr×Nat)=> .slice z.1 (4+1+6) z.2) (Φ':=fun(z:Option Addr×Nat) v=>K6 v w.heap.size 9 1 z.1 (4+1+6) z.2 (sv L2)) (G:=fun(z:Option Addr×Nat) v=>K6 v w.heap.size 9 1 z.1 (4+1+6) z.2 (sv L2)) (M9 66 66 (.slice z.1 (4+1) z.2) (.slice y.1 6 y.2)) (fun w1 hw h=>by have t:=Xk h.1.2 hw.size h.2.strs Zd (cc:=y.2);rw[←hL2e]at t;exact t) (fun w1 h=>fun b hb=>⟨(h.1.2.lt b hb).1,(h.1.2.blk b hb).2⟩) (fun z wa wb e1 e2 h hG=>hG) Zk Zk fun z2=>ZR <| K0.loop (ι:={r:Nat×(Option Addr×Nat) // r.1≤P.stops.length}) 91 (fun r=>⟨[(3,.v (.slice r.1.2.1 (4+1+6+2*r.1.1) r.1.2.2)),(74,.v (.slice q.sA P.stops.length q.sc)),(75,.v (Zi P.stops.length)),(76,.v (Zi r.1.1))],[]⟩) (fun r u=>K6 u w.heap.size 9 1 r.1.2.1 (4+1+6+2*r.1.1) r.1.2.2 (sv (L2++Cb (P.stops.take r.1.1)))) (fun r=>P.stops.length-r.1.1) (⟨(0,z2),Nat.zero_le _⟩) Zk (fun _=>by kernel_rfl) ⟨Zk,Zk,Zk⟩ (fun u h=>by show K6 u w.heap.size 9 1 z2.1 (4+1+6) z2.2 (sv (L2++ []));rw[List.append_nil];exact h) ?_
 rintro⟨⟨k,y0,yc⟩,hk0⟩ gg
 have hk0:k≤P.stops.length:=hk0
 by_cases hlt:k<P.stops.length
 case neg=>
  have hkn:P.stops.length=k:=by omega
  refine ZR <| ZJ (decide ((k:Int)<(P.stops.length:Int))) false Zp <| K0.leave Zk <| ZR ?_
  have hfull:P.stops.take k=P.stops:=List.take_of_length_le Zo
  have hlen:(L2++Cb P.stops).length=4+1+6+2*k:=by rw[List.length_append,F0,hL2n];omega
  refine ZV (.slice y0 (4+1+6+2*k) yc) (fun w1 hw h=>⟨(y0,yc),by rw[hlen],hw,fun w'' k1 k2=>by rw[hlen];have t:=(show K6 w'' w.heap.size 9 1 y0 (4+1+6+2*k) yc (sv (L2++Cb (P.stops.take k)))from h w'' k1 k2).strs;rw[hfull]at t;exact t⟩)
 obtain⟨x,hx⟩:∃x,P.stops[k]? =some x:=⟨_,List.getElem?_eq_getElem hlt⟩
 obtain⟨ad,hA,hc⟩:=hp.st.2 k x hx
 have hxr:=Wg (Int.le_refl 0) hst x (List.mem_of_getElem? hx)
 have hstep:L2++Cb (P.stops.take (k+1))=(L2++Cb (P.stops.take k))++ [Kb x.1,Pd x.2]:=by rw[stW_snoc hx];simp
 obtain⟨p,hp'⟩:∃p,p=L2++Cb (P.stops.take k):=⟨_,rfl⟩
 refine ZR <| ZJ (decide ((k:Int)<(P.stops.length:Int))) true Zp <| ZA (Kj 58 (.slice q.sA P.stops.length q.sc) k) (.pointer (some (ad.add (k*5)))) (fun w1 hw h=>Z3 hA hlt) <| ZA (L5 139 (ad.add (k*5))) (.agg (Ri x).toArray) (fun w1 hw h=>st_ld fun j v hj=>Lc hw (hc j v hj)) <| ZC (fun w1 hw h=>Kv (n:=x.1) Zo Zo) fun v1=>ZD 7 (fun w1 hw h=>Fr (k:=x.2)) fun v2=>K0.make (Lq (66) 2 #[(0,K4 (Kb x.1)),(1,K4 (Pd x.2))]) (Kf 2) (L4 9 #[K4 (Kb x.1),K4 (Pd x.2)]) Zk (fun w1 hw h=>Kc Zk) fun gc=>ZS 8 <| K0.mutAny (L:=bl y0) (val:=fun(z:Option Addr×Nat)=> .slice z.1 (4+1+6+2*k+2) z.2) (Φ':=fun(z:Option Addr×Nat) v=>K6 v w.heap.size 9 1 z.1 (4+1+6+2*k+2) z.2 (sv (p++ [Kb x.1,Pd x.2]))) (G:=fun(z:Option Addr×Nat) v=>K6 v w.heap.size 9 1 z.1 (4+1+6+2*k+2) z.2 (sv (p++ [Kb x.1,Pd x.2]))) (M9 66 66 (.slice y0 (4+1+6+2*k) yc) (Kf 2 gc)) (fun w1 hw h=>app_row2 (show K6 w1 w.heap.size 9 1 y0 (4+1+6+2*k) yc (sv p)from(by rw[hp'];exact h.1.1.1)) hw.size h.2 (by have:=hst16;omega)) (fun w1 h=>fun b hb=>⟨((show K6 w1 w.heap.size 9 1 y0 (4+1+6+2*k) yc (sv p)from(by rw[hp'];exact h.1.1.1)).lt b hb).1,((show K6 w1 w.heap.size 9 1 y0 (4+1+6+2*k) yc (sv p)from(by rw[hp'];exact h.1.1.1)).blk b hb).2⟩) (fun z wa wb e1 e2 h hG=>hG) Zk Zk fun z=>ZR <| K0.slot 76 (Zi (IntKind.i64.wrap ((k:Int)+1))) (Zi ((k+1:Nat):Int)) Zk (by rw[Kd hlt Zo]) <| K0.next (⟨(k+1,z.1,z.2),by show k+1≤P.stops.length;omega⟩) Zk (by show P.stops.length- (k+1)<P.stops.length-k;omega) ⟨Zk,Zk,Zk⟩ (fun u h=>(by show K6 u w.heap.size 9 1 z.1 (4+1+6+2*(k+1)) z.2 (sv (L2++Cb (P.stops.take (k+1))));rw[hstep,←hp',show 4+1+6+2*(k+1)=4+1+6+2*k+2 by omega];exact h))
end
end
section
open Go.RowKit
--ATNAMES
theorem Pz:∀(a b:WS),Mq (a++b)=Mq a+Mq b
 | [],b=>by simp[Mq]
 |x::a,b=>by
  have:=Pz a b
  show x.length+Mq (a++b)=x.length+Mq a+Mq b
  omega
theorem colW_len(k:Co):(Pd k).length=9:=by
 unfold Pd
 rw[List.length_cons,Sr];rfl
theorem stW_sum:∀{l:List (Int×Co)} {a:Int},0≤a→B4 a l=true→Mq (Cb l)≤30*l.length
 | [],a,_,_=>by simp[Cb,Mq]
 |x::l,a,ha,h=>by
  have h:(decide (a≤x.1∧x.1≤65536)&&B4 x.1 l)=true:=h
  rw[Bool.and_eq_true,decide_eq_true_iff]at h
  have ih:=stW_sum (show 0≤x.1 by omega) h.2
  have h1:=Sq (x:=x.1) Zo
  have h2:=colW_len x.2
  show(Kb x.1).length+((Pd x.2).length+Mq (Cb l))≤_
  rw[List.length_cons];omega
theorem hexW_len(l:List Co):(hexW l).length=8*l.length:=by
 unfold hexW
 rw[Sr,D3];omega
theorem name_len{l:WS}{frm k:Int}{m:Nat}(h:∀x∈l,x.length≤m):(Kz l frm k).length≤m:=by
 unfold Kz
 cases hk:l[(k-frm).toNat]? with
 |none=>exact Nat.zero_le _
 |some x=>exact h x (List.mem_of_getElem? hk)
theorem Fe{P:Pn}(hv:Ku P=true):(Rx P).length≤60∧Mq (Rx P)≤8*P.im.px.length+1600:=by
 unfold Ku at hv
 rw[Bool.and_eq_true,Bool.and_eq_true]at hv
 obtain⟨hok,hz,hk⟩:=hv
 unfold H7 at hk
 obtain⟨ha,ha6⟩:=affW_len hok
 have hsp:(Kz Ln 0 P.spread).length≤8:=name_len Zd
 have hlk:(Kz Oc 1 P.samp).length≤8:=name_len Zd
 unfold Rx
 by_cases k1:P.kind=1
 ·rw[if_pos k1]
  have:=colW_len P.co
  refine⟨by simp,?_⟩
  show 5+((Pd P.co).length+0)≤_
  omega
 by_cases k4:P.kind=4
 ·rw[if_neg k1,if_neg Zo,if_neg Zo,if_pos k4,Bool.and_eq_true]at hk
  rw[if_neg k1,if_pos k4]
  unfold Xy at hk
  rw[Bool.and_eq_true,Bool.and_eq_true]at hk
  have hsz:=of_decide_eq_true hk.1.1.1
  have h1:=Sq (x:=P.im.w) Zo
  have h2:=Sq (x:=P.im.h) Zo
  have h3:=hexW_len P.im.px
  rw[Pz,Pz]
  refine⟨by rw[List.length_append,List.length_append,ha6];simp[Hd],?_⟩
  show 7+((Kz Ln 0 P.spread).length+((Kz Oc 1 P.samp).length+0))+Mq (Oz P.T)+((Kb P.im.w).length+((Kb P.im.h).length+((hexW P.im.px).length+0)))≤_
  omega
 rw[if_neg k1,if_neg k4]
 by_cases k2:P.kind=2
 ·rw[if_neg k1,if_pos k2,Bool.and_eq_true,Bool.and_eq_true,Bool.and_eq_true,Bool.and_eq_true]at hk
  obtain⟨hp0,hp1,⟨hst,_⟩,_⟩:=hk
  have hr0:=Pq hp0
  have hr1:=Pq hp1
  unfold Ny at hst
  rw[Bool.and_eq_true,decide_eq_true_iff]at hst
  have h1:=stW_sum (Int.le_refl 0) hst.2
  have h2:=F0 P.stops
  have q1:=Sq (x:=P.p0x) Zo;have q2:=Sq (x:=P.p0y) Zo;have q3:=Sq (x:=P.p1x) Zo;have q4:=Sq (x:=P.p1y) Zo
  rw[if_pos k2,Pz,Pz]
  refine⟨by rw[List.length_append,List.length_append,ha6,h2];simp;omega,?_⟩
  show 6+((Kb P.p0x).length+((Kb P.p0y).length+((Kb P.p1x).length+((Kb P.p1y).length+((Kz Ln 0 P.spread).length+0)))))+Mq (Oz P.T)+Mq (Cb P.stops)≤_
  omega
 by_cases k3:P.kind=3
 ·rw[if_neg k1,if_neg k2,if_pos k3,Bool.and_eq_true,Bool.and_eq_true,Bool.and_eq_true,Bool.and_eq_true,decide_eq_true_iff]at hk
  obtain⟨hp0,hrad,⟨hst,_⟩,_⟩:=hk
  have hr0:=Pq hp0
  unfold Ny at hst
  rw[Bool.and_eq_true,decide_eq_true_iff]at hst
  have h1:=stW_sum (Int.le_refl 0) hst.2
  have h2:=F0 P.stops
  have q1:=Sq (x:=P.p0x) Zo;have q2:=Sq (x:=P.p0y) Zo;have q3:=Sq (x:=P.rad) Zo
  rw[if_neg k2,Pz,Pz]
  refine⟨by rw[List.length_append,List.length_append,ha6,h2];simp;omega,?_⟩
  show 6+((Kb P.p0x).length+((Kb P.p0y).length+((Kb P.rad).length+((Kz Ln 0 P.spread).length+0))))+Mq (Oz P.T)+Mq (Cb P.stops)≤_
  omega
 rw[if_neg k1,if_neg k2,if_neg k3,if_neg k4]at hk;cases hk
section
variable{w:World}{P:Pn}{q:PM}{K:Nat}{l:List UInt8}
theorem formatPaint_n(hv:Ku P=false)(hp:Db P q K w)(hK:2≤K∧K≤1000)(hl:P.im.px.length≤1000000000):Zv 26 #[X4 P q] w (.tuple #[K4 [],Zi 16]):=by
 exact K0.enter Tryz.func26 rfl <| ZR <| ZC (fun w1 hw h=>pvalid_v hv (hp.below hw) hl Zo) fun u=>ZI true <| ZW (.tuple #[K4 [],Zi 16])
theorem formatPaint_s(hv:Ku P=true)(hp:Db P q K w)(hK:2≤K∧K≤1000)(hl:P.im.px.length≤20000):Zv 26 #[X4 P q] w (.tuple #[K4 (Lr (Rx P)),Zi 0]):=by
 have hs:=Fe hv
 exact K0.enter Tryz.func26 rfl <| ZR <| ZC (fun w1 hw h=>pvalid_v hv (hp.below hw) Zo Zo) fun u=>ZI false <| ZC (fun w1 hw h=>Uk (hp.below hw) hv hK hl) fun y=>ZC (fun w1 hw h=>Zc (c:=y.2) h.2 Zo Zo) fun v=>ZW (.tuple #[K4 (Lr (Rx P)),Zi 0])
end
end
end Go.Proofs.YtoeiphicmcndlaaGreatDoor
