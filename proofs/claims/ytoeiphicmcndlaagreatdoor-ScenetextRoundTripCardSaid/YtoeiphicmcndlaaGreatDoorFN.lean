/-
 Nodes and scenes: the reference's checks.
-/
import Derived.Test.YtoeiphicmcndlaaGreatDoorFJ
namespace Go.Proofs.YtoeiphicmcndlaaGreatDoor
set_option maxRecDepth 100000
set_option maxHeartbeats 8000000
set_option linter.unusedVariables false
set_option linter.unusedSimpArgs false
open Go.RowKit
section
open Go.RowKit
--ATNAMES
section
variable{w:World}{A:Option Addr}{n c g:Nat}{x a b:Int}{B:Bool}{N:Nd}{q:ND}{K:Nat}{S:Jt}{y:Option Addr×Nat}{l:List Int}{Ps:List Pn}{ql:List (Pn×PM)}
theorem rrule_v:Zv 185 #[Zi x] w (.bool (R4 x)):=by
 exact K0.enter Tryz.func185 rfl <| ZS 3 <| K0.joinB Zk 1000 4 5 [6,7,8] 2 true (x==2) ((x==1)||(x==2)) Zk Zk Zk (fun _=>by kernel_rfl) On fun xj1=>ZR <| ZW (.bool (R4 x))
theorem rmode_v:Zv 128 #[Zi x] w (.bool (Xc x)):=by
 exact K0.enter Tryz.func128 rfl <| ZS 3 <| K0.joinB Zk 1000 4 5 [6,7,8] 2 (decide (x≤13)) false ((decide (x≥1))&&(decide (x≤13))) Zk Zk Zk (fun _=>by kernel_rfl) Li fun xj2=>ZR <| ZW (.bool (Xc x))
def Ar(x a b:Int):Bool:=decide (x≥a)&&decide (x≤b)
theorem Y3:Zv 233 #[Zi x,Zi a,Zi b] w (.bool (Ar x a b)):=by
 exact K0.enter Tryz.func233 rfl <| ZS 4 <| K0.joinB Zk 1000 5 10 [11,12,13,14] 6 (decide (x≤b)) false ((decide (x≥a))&&(decide (x≤b))) Zk Zk Zk (fun _=>by kernel_rfl) Li fun xj3=>ZR <| ZW (.bool (Ar x a b))
theorem width_v:Zv 232 #[Zi x] w (.bool (Ar x 1 16384)):=by
 exact K0.enter Tryz.func232 rfl <| ZR <| ZC (fun w1 hw h=>Y3 (x:=x) (a:=1) (b:=16384)) fun u=>ZW (.bool (Ar x 1 16384))
theorem dashG_in{z:Int}:(!Ar z 0 1048576)=Dq z:=by
 unfold Ar Dq
 rw[Bool.eq_iff_iff]
 simp only[Bool.not_eq_true',Bool.and_eq_false_iff,decide_eq_false_iff_not,Bool.or_eq_true,decide_eq_true_eq]
 omega
theorem rdashes_v(hd:Ma w A n 1 daC l)(hn:n≤1000000000):Zv 234 #[.slice A n c] w (.bool (Ra l)):=by
 have hdn:=hd.1
 refine K0.enter Tryz.func234 rfl <| ZR <| K0.slot 3 (.bool ((n:Int)==0)) (.bool (Qx n (l.take 0))) Zk (by simp[Qx]) <| K0.loop (ι:={k:Nat // k≤n∧(l.take k).any Dq=false}) 40 (fun k=>⟨[(0,.v (.slice A n c)),(3,.v (.bool (Qx n (l.take k.1)))),(4,.v (Zi k.1))],[]⟩) (fun k u=>True) (fun k=>n-k.1) (⟨0,Nat.zero_le _,rfl⟩) Zk (fun _=>by kernel_rfl) ⟨Zk,Zk,Zk⟩ (fun u h=>trivial) ?_
 rintro⟨k,hk,hall⟩ gg
 have hk:k≤n:=hk
 have hall:(l.take k).any Dq=false:=hall
 by_cases hlt:k<n
 case neg=>
  obtain rfl:k=n:=by omega
  exact ZR <| ZJ (decide ((k:Int)<(k:Int))) false Zs <| K0.leave Zk <| ZS 2 <| K0.joinB Zk 1000 5 29 [30,31,32,33] 34 (decide ((k:Int)≤16)) false ((Qx k (l.take k))&&(decide ((k:Int)≤16))) Zk Zk Zk (fun _=>by kernel_rfl) Li fun xj4=>K0.joinB Zk 1000 6 34 [35,36,37,38,39] 2 (Int.tmod (k:Int) 2==0) false ((Qx k (l.take k)&&decide ((k:Int)≤16))&&(Int.tmod (k:Int) 2==0)) Zk Zk Zk (fun _=>by kernel_rfl) Li fun xj5=>ZR <| ZX (.bool ((Qx k (l.take k)&&decide ((k:Int)≤16))&&(Int.tmod (k:Int) 2==0))) (by unfold Ra;rw[List.take_of_length_le Zo]at hall ⊢;rw[hall,hdn,Bool.and_assoc,Bool.and_comm (decide _),←Bool.and_assoc];rfl)
 obtain⟨z,hx⟩:∃v,l[k]? =some v:=⟨_,List.getElem?_eq_getElem Zo⟩
 obtain⟨ad,hA,hc⟩:=hd.2 k z hx
 have hcell:∀w1:World,Below w.heap.size w w1→w1.cell? (ad.add k)=some (Zi z):=fun w1 hw=>by have:=Lc hw (hc 0 (Zi z) rfl);rw[Ei,Nat.mul_one,Nat.add_zero]at this;exact this
 refine ZR <| ZJ (decide ((k:Int)<(n:Int))) true Zp <| ZA (Kj 45 (.slice A n c) k) (.pointer (some (ad.add k))) (fun w1 hw h=>by rw[hA];exact Kn (elem:=3) Zk Zk hlt) <| ZA (L5 3 (ad.add k)) (Zi z) (fun w1 hw h=>K8 Zk (hcell w1 hw)) <| ZC (fun w1 hw h=>Y3 (x:=z) (a:=0) (b:=1048576)) fun u=> ?_
 cases hb:Dq z
 ·refine K0.condr ((!Ar z 0 1048576)) false Zk (by rw[dashG_in,hb]) <| ZS 2 ?_
  cases hs:Qx n (l.take k)
  ·refine ZR <| ZA (Kj 45 (.slice A n c) k) (.pointer (some (ad.add k))) (fun w1 hw h=>by rw[hA];exact Kn (elem:=3) Zk Zk hlt) <| ZA (L5 3 (ad.add k)) (Zi z) (fun w1 hw h=>K8 Zk (hcell w1 hw)) <| K0.slot 4 (Zi (IntKind.i64.wrap ((k:Int)+1))) (Zi ((k+1:Nat):Int)) Zk (by rw[Kd hlt Zo]) <| K0.slot 3 (.bool (decide (z>0))) (.bool (Qx n (l.take (k+1)))) Zk (by unfold Qx at hs ⊢;rw[Vj hx,←Bool.or_assoc,hs,Bool.false_or]) <| K0.next (⟨k+1,by show k+1≤n;omega,by rw[Vj hx,hall,hb];rfl⟩) Zk (by show n- (k+1)<n-k;omega) ⟨Zk,Zk,Zk⟩ (fun u h=>trivial)
  ·refine ZR <| K0.slot 4 (Zi (IntKind.i64.wrap ((k:Int)+1))) (Zi ((k+1:Nat):Int)) Zk (by rw[Kd hlt Zo]) <| K0.slot 3 Zt (.bool (Qx n (l.take (k+1)))) Zk (by unfold Qx at hs ⊢;rw[Vj hx,←Bool.or_assoc,hs,Bool.true_or]) <| K0.next (⟨k+1,by show k+1≤n;omega,by rw[Vj hx,hall,hb];rfl⟩) Zk (by show n- (k+1)<n-k;omega) ⟨Zk,Zk,Zk⟩ (fun u h=>trivial)
 ·exact ZJ ((!Ar z 0 1048576)) true (by rw[dashG_in,hb]) <| K0.leave Zk <| ZR <| ZX Zf (by unfold Ra;rw[any_hit hx hb];rfl)
def styX(S:Jt):Bool:=(!Ar S.w 1 16384|| !Ar S.j 1 3)|| !Ar S.c 3 5
theorem sty_raw:(!styX S&&((Ar S.m 256 65536&&Ra S.d)&&Ar S.p 0 1048576))=P6 S:=by
 unfold styX P6 Ar Zz
 rw[Bool.eq_iff_iff]
 simp only[Bool.and_eq_true,Bool.not_eq_true',Bool.or_eq_false_iff,Bool.not_eq_false',Bool.or_eq_true,decide_eq_true_eq,beq_iff_eq]
 constructor
 ·rintro⟨⟨⟨h1,h2⟩,h3⟩,⟨h4,h5⟩,h6⟩
  exact⟨⟨⟨⟨⟨⟨⟨h1,by omega⟩,by omega⟩,h4.1⟩,h4.2⟩,h5⟩,h6.1⟩,h6.2⟩
 ·rintro⟨⟨⟨⟨⟨⟨⟨h1,h2⟩,h3⟩,h4⟩,h5⟩,h6⟩,h7⟩,h8⟩
  exact⟨⟨⟨h1,by omega⟩,by omega⟩,⟨⟨h4,h5⟩,h6⟩,h7,h8⟩
theorem rstyle_v(hB:P6 S=B)(hd:Ma w y.1 S.d.length 1 daC S.d)(hn:S.d.length≤1000000000):Zv 190 #[styV S y] w (.bool B):=by
 rw[←sty_raw]at hB
 refine K0.enter Tryz.func190 rfl <| ZR <| ZD 5 (fun w1 hw h=>width_v (x:=S.w)) fun u=>K0.joinC Zk false 1000 6 3 7 [8,9,10,11,12] 13 true (Ar S.j 1 3) (!Ar S.j 1 3) ((!Ar S.w 1 16384)||(!Ar S.j 1 3)) Zk (fun w1 hw h=>Y3) Zk Zk Zk (fun _=>by kernel_rfl) or_ift fun xj6 Φxj6 hixj6=>K0.joinC Zk false 1000 5 2 13 [14,15,16,17] 18 true (Ar S.c 3 5) (!Ar S.c 3 5) ((!Ar S.w 1 16384|| !Ar S.j 1 3)||(!Ar S.c 3 5)) Zk (fun w1 hw h=>Y3) Zk Zk Zk (fun _=>by kernel_rfl) or_ift (fun xj7 Φxj7 hixj7=> ?_)
 cases hx:styX S
 case true=>
  rw[hx]at hB
  exact ZT 18 (.bool ((!Ar S.w 1 16384|| !Ar S.j 1 3)|| !Ar S.c 3 5)) (.bool true) (by rw[←hx];rfl) <| ZI true <| ZX (.bool false) (by rw[←hB];rfl)
 rw[hx,Bool.not_false,Bool.true_and]at hB
 exact ZT 18 (.bool ((!Ar S.w 1 16384|| !Ar S.j 1 3)|| !Ar S.c 3 5)) (.bool false) (by rw[←hx];rfl) <| ZI false <| ZD 4 (fun w1 hw h=>Y3 (x:=S.m) (a:=256) (b:=65536)) fun u2=>K0.joinC Zk true 1000 5 2 22 [23,24,25,26] 27 false (Ra S.d) (Ra S.d) ((Ar S.m 256 65536)&&(Ra S.d)) Zk (fun w1 hw h=>rdashes_v (c:=y.2) (hd.below hw) hn) Zk Zk Zk (fun _=>by kernel_rfl) P5 fun xj8 Φxj8 hixj8=>K0.joinC Zk true 1000 5 2 27 [28,29,30,31] 2 false (Ar S.p 0 1048576) (Ar S.p 0 1048576) ((Ar S.m 256 65536&&Ra S.d)&&(Ar S.p 0 1048576)) Zk (fun w1 hw h=>Y3) Zk Zk Zk (fun _=>by kernel_rfl) P5 fun xj9 Φxj9 hixj9=>ZR <| ZX (.bool ((Ar S.m 256 65536&&Ra S.d)&&Ar S.p 0 1048576)) (by rw[hB])
theorem noGroup_v:Zv 189 #[Gv N q] w (.bool (Ee N)):=by
 exact K0.enter Tryz.func189 rfl <| ZS 4 <| K0.joinB Zk 1000 5 6 [7,8,9,10] 11 (N.bl==0) false (((N.op.toNat:Int)==0)&&(N.bl==0)) Zk Zk Zk (fun _=>by kernel_rfl) Li fun xj10=>K0.joinB Zk 1000 5 11 [12,13,14,15] 16 (!N.iso) false ((((N.op.toNat:Int)==0)&&(N.bl==0))&&(!N.iso)) Zk Zk Zk (fun _=>by kernel_rfl) Li fun xj11=>K0.joinB Zk 1000 5 16 [17,18,19,20] 2 (!N.ko) false (((((N.op.toNat:Int)==0)&&(N.bl==0))&& !N.iso)&&(!N.ko)) Zk Zk Zk (fun _=>by kernel_rfl) Li fun xj12=>ZR <| ZW (.bool (Ee N))
theorem noShape_v:Zv 186 #[Gv N q] w (.bool (Ui N)):=by
 exact K0.enter Tryz.func186 rfl <| ZS 5 <| K0.joinB Zk 1000 5 7 [8,9,10,11] 12 (N.frule==0) false (((N.path.length:Int)==0)&&(N.frule==0)) Zk Zk Zk (fun _=>by kernel_rfl) Li fun xj13=>K0.joinB Zk 1000 6 12 [13,14,15,16,17] 18 ((N.fill.length:Int)==0) false ((((N.path.length:Int)==0)&&(N.frule==0))&&((N.fill.length:Int)==0)) Zk Zk Zk (fun _=>by kernel_rfl) Li fun xj14=>K0.joinB Zk 1000 6 18 [19,20,21,22,23] 2 ((N.stroke.length:Int)==0) false (((((N.path.length:Int)==0)&&(N.frule==0))&&((N.fill.length:Int)==0))&&((N.stroke.length:Int)==0)) Zk Zk Zk (fun _=>by kernel_rfl) Li fun xj15=>ZR <| ZW (.bool (Ui N))
theorem styZ_raw:((((((S.w==0)&&(S.j==0))&&(S.c==0))&&(S.m==0))&&((S.d.length:Int)==0))&&(S.p==0))=Ow S:=by
 unfold Ow
 rw[Bool.eq_iff_iff]
 simp only[Bool.and_eq_true,beq_iff_eq,decide_eq_true_eq]
 constructor
 ·rintro⟨⟨h1,h2⟩,h3⟩
  exact⟨⟨h1,h3⟩,by omega⟩
 ·rintro⟨⟨h1,h3⟩,h2⟩
  exact⟨⟨h1,by omega⟩,h3⟩
theorem Cw:Zv 187 #[Gv N q] w (.bool (Ow N.sty)):=by
 exact K0.enter Tryz.func187 rfl <| ZS 4 <| K0.joinB Zk 1000 5 9 [10,11,12,13] 14 (N.sty.j==0) false ((N.sty.w==0)&&(N.sty.j==0)) Zk Zk Zk (fun _=>by kernel_rfl) Li fun xj16=>K0.joinB Zk 1000 5 14 [15,16,17,18] 19 (N.sty.c==0) false (((N.sty.w==0)&&(N.sty.j==0))&&(N.sty.c==0)) Zk Zk Zk (fun _=>by kernel_rfl) Li fun xj17=>K0.joinB Zk 1000 5 19 [20,21,22,23] 24 (N.sty.m==0) false ((((N.sty.w==0)&&(N.sty.j==0))&&(N.sty.c==0))&&(N.sty.m==0)) Zk Zk Zk (fun _=>by kernel_rfl) Li fun xj18=>K0.joinB Zk 1000 6 24 [25,26,27,28,29] 30 ((N.sty.d.length:Int)==0) false (((((N.sty.w==0)&&(N.sty.j==0))&&(N.sty.c==0))&&(N.sty.m==0))&&((N.sty.d.length:Int)==0)) Zk Zk Zk (fun _=>by kernel_rfl) Li fun xj19=>K0.joinB Zk 1000 5 30 [31,32,33,34] 2 (N.sty.p==0) false ((((((N.sty.w==0)&&(N.sty.j==0))&&(N.sty.c==0))&&(N.sty.m==0))&&((N.sty.d.length:Int)==0))&&(N.sty.p==0)) Zk Zk Zk (fun _=>by kernel_rfl) Li fun xj20=>ZR <| ZX (.bool ((((((N.sty.w==0)&&(N.sty.j==0))&&(N.sty.c==0))&&(N.sty.m==0))&&((N.sty.d.length:Int)==0))&&(N.sty.p==0))) (by rw[←styZ_raw])
theorem pic_raw:((((N.im.w==0)&&(N.im.h==0))&&((N.im.px.length:Int)==0))&&(N.samp==0))=Xw N:=by
 unfold Xw
 rw[Bool.eq_iff_iff]
 simp only[Bool.and_eq_true,beq_iff_eq,decide_eq_true_eq]
 constructor
 ·rintro⟨⟨⟨h1,h2⟩,h3⟩,h4⟩
  exact⟨⟨h1,h2,List.length_eq_zero_iff.1 Zo⟩,h4⟩
 ·rintro⟨⟨h1,h2,h3⟩,h4⟩
  exact⟨⟨⟨h1,h2⟩,by rw[h3];rfl⟩,h4⟩
theorem noImage_v:Zv 188 #[Gv N q] w (.bool (Xw N)):=by
 exact K0.enter Tryz.func188 rfl <| ZS 5 <| K0.joinB Zk 1000 6 7 [8,9,10,11,12] 13 (N.im.h==0) false ((N.im.w==0)&&(N.im.h==0)) Zk Zk Zk (fun _=>by kernel_rfl) Li fun xj21=>K0.joinB Zk 1000 7 13 [14,15,16,17,18,19] 20 ((N.im.px.length:Int)==0) false (((N.im.w==0)&&(N.im.h==0))&&((N.im.px.length:Int)==0)) Zk Zk Zk (fun _=>by kernel_rfl) Li fun xj22=>K0.joinB Zk 1000 5 20 [21,22,23,24] 2 (N.samp==0) false ((((N.im.w==0)&&(N.im.h==0))&&((N.im.px.length:Int)==0))&&(N.samp==0)) Zk Zk Zk (fun _=>by kernel_rfl) Li fun xj23=>ZR <| ZX (.bool ((((N.im.w==0)&&(N.im.h==0))&&((N.im.px.length:Int)==0))&&(N.samp==0))) (by rw[←pic_raw])
theorem clip_raw:((((N.clip.length:Int)==0)&&(N.crule !=0))||(decide ((N.clip.length:Int)>0)&& !R4 N.crule))= !Qe N:=by
 unfold Qe
 by_cases h:N.clip.length=0
 ·rw[if_pos h,show((N.clip.length:Int)==0)=true from beq_iff_eq.2 Zo,show decide ((N.clip.length:Int)>0)=false from decide_eq_false Zo]
  simp[bne]
 ·rw[if_neg h,show((N.clip.length:Int)==0)=false from beq_eq_false_iff_ne.2 Zo,show decide ((N.clip.length:Int)>0)=true from decide_eq_true Zo]
  simp
def owL:List Nat:=[12,13,14,15,16,17,18,19,20,21,22]
theorem ownFields_v:Zv 126 #[Gv N q] w (.bool (Qe N&&T6 N)):=by
 refine K0.enter Tryz.func126 rfl <| ZS 5 <| K0.joinB Zk 1000 5 7 [8,9,10,11] 12 (N.crule !=0) false (((N.clip.length:Int)==0)&&(N.crule !=0)) Zk Zk Zk (fun _=>by kernel_rfl) Li fun xj24=>K0.meet2 (fun(i:Nat→AV) c=>Q9 owL i (M7 23 (.bool (!Qe N)) (Lw Tryz.prog 1000 11 (M7 12 Zt c)))) (fun k=> ?_) (fun xj Φ9 hi9=> ?_)
 ·refine K0.fork 12 (((N.clip.length:Int)==0)&&(N.crule !=0)) Zk (fun hc=> ?_) (fun hc=> ?_)
  ·exact K0.run Zk (stop:=1000) 11 _ <| K0.slot 23 Zt (.bool (!Qe N)) Zk (by rw[←clip_raw,hc,Bool.true_or]) <| K0.blur owL fun x=>K0.eq (k x _ fun w h=>h) Zk
  ·exact K0.run Zk (stop:=1000) 5 _ <| K0.joinC Zk true 1000 5 2 17 [18,19,20,21] 22 false (R4 N.crule) (!R4 N.crule) ((decide ((N.clip.length:Int)>0))&&(!R4 N.crule)) Zk (fun w1 hw h=>rrule_v) Zk Zk Zk (fun _=>by kernel_rfl) P5 fun xj25 Φxj25 hixj25=>K0.run Zk (stop:=1000) 1 _ <| K0.slot 23 (.bool (decide ((N.clip.length:Int)>0)&& !R4 N.crule)) (.bool (!Qe N)) Zk (by rw[←clip_raw,hc,Bool.false_or]) <| K0.blur owL fun x=>K0.eq (k x _ (by assumption)) Zk
 refine ZR ?_
 cases hcl:Qe N
 ·exact ZJ ((!false)) true (rfl) <| ZW Zf
 refine ZJ ((!true)) false (rfl) ?_
 rw[Bool.true_and]
 unfold T6
 by_cases k1:N.kind=1
 ·exact ZJ ((N.kind==1)) true (beq_iff_eq.2 k1) <| ZD 3 (fun w1 hw h=>noShape_v (N:=N) (q:=q)) fun u=>K0.joinC Zk true 1000 4 2 30 [31,32,33] 34 false (Ow N.sty) (Ow N.sty) ((Ui N)&&(Ow N.sty)) Zk (fun w1 hw h=>Cw (N:=N) (q:=q)) Zk Zk Zk (fun _=>by kernel_rfl) P5 fun xj26 Φxj26 hixj26=>K0.joinC Zk true 1000 4 2 34 [35,36,37] 2 false (Xw N) (Xw N) ((Ui N&&Ow N.sty)&&(Xw N)) Zk (fun w1 hw h=>noImage_v (N:=N) (q:=q)) Zk Zk Zk (fun _=>by kernel_rfl) P5 fun xj27 Φxj27 hixj27=>ZR <| ZX (.bool ((Ui N&&Ow N.sty)&&Xw N)) (by rw[if_pos k1])
 refine ZJ ((N.kind==1)) false (beq_eq_false_iff_ne.2 k1) ?_
 by_cases k2:N.kind=2
 ·exact ZJ ((N.kind==2)) true (beq_iff_eq.2 k2) <| ZD 3 (fun w1 hw h=>noGroup_v (N:=N) (q:=q)) fun u=>K0.joinC Zk true 1000 4 2 42 [43,44,45] 2 false (Xw N) (Xw N) ((Ee N)&&(Xw N)) Zk (fun w1 hw h=>noImage_v (N:=N) (q:=q)) Zk Zk Zk (fun _=>by kernel_rfl) P5 fun xj28 Φxj28 hixj28=>ZR <| ZX (.bool (Ee N&&Xw N)) (by rw[if_neg k1,if_pos k2])
 exact ZJ ((N.kind==2)) false (beq_eq_false_iff_ne.2 k2) <| ZD 3 (fun w1 hw h=>noGroup_v (N:=N) (q:=q)) fun u=>K0.joinC Zk true 1000 4 2 48 [49,50,51] 52 false (Ui N) (Ui N) ((Ee N)&&(Ui N)) Zk (fun w1 hw h=>noShape_v (N:=N) (q:=q)) Zk Zk Zk (fun _=>by kernel_rfl) P5 fun xj29 Φxj29 hixj29=>K0.joinC Zk true 1000 4 2 52 [53,54,55] 2 false (Ow N.sty) (Ow N.sty) ((Ee N&&Ui N)&&(Ow N.sty)) Zk (fun w1 hw h=>Cw (N:=N) (q:=q)) Zk Zk Zk (fun _=>by kernel_rfl) P5 fun xj30 Φxj30 hixj30=>ZR <| ZX (.bool ((Ee N&&Ui N)&&Ow N.sty)) (by rw[if_neg k1,if_neg k2,Bool.and_assoc])
end
end
section
open Go.RowKit
--ATNAMES
section
variable{w:World}{A:Option Addr}{n c g:Nat}{x a b:Int}{B:Bool}{N:Nd}{q:ND}{K:Nat}{S:Sc}{y:Option Addr×Nat}{Ps:List Pn}{ql:List (Pn×PM)}{nl:List (Nd×ND)}{Ns:List Nd}{k:Nat}
theorem Wq(hB:Ps.all Ku=B)(hp:Vw w A ql K Ps)(hn:Ps.length=n)(hn2:n≤1000000000)(hl:∀P∈Ps,Few P)(hK:2≤K∧K≤1000):Zv 191 #[.slice A n c] w (.bool B):=by
 refine K0.enter Tryz.func191 rfl <| ZR <| K0.loop (ι:={q:Nat // q≤n∧(Ps.take q).all Ku=true}) 16 (fun q=>⟨[(0,.v (.slice A n c)),(3,.v (Zi q.1))],[]⟩) (fun q u=>True) (fun q=>n-q.1) (⟨0,Nat.zero_le _,rfl⟩) Zk (fun _=>by kernel_rfl) ⟨Zk,Zk,Zk⟩ (fun u h=>trivial) ?_
 rintro⟨k,hk,hall⟩ gg
 have hk:k≤n:=hk
 have hall:(Ps.take k).all Ku=true:=hall
 by_cases hlt:k<n
 case neg=>
  obtain rfl:k=n:=by omega
  rw[List.take_of_length_le Zo]at hall
  exact ZR <| ZJ (decide ((k:Int)<(k:Int))) false Zs <| K0.leave Zk <| ZR <| ZX Zt (by rw[←hB,hall])
 obtain⟨P,hx⟩:∃x,Ps[k]? =some x:=⟨_,List.getElem?_eq_getElem Zo⟩
 obtain⟨p,hx2,hrd⟩:=hp.get hx
 obtain⟨ad,hA,hc⟩:=hp.row.2 k _ hx2
 have hf:=hl P (List.mem_of_getElem? hx)
 refine ZR <| ZJ (decide ((k:Int)<(n:Int))) true Zp <| ZA (Kj 44 (.slice A n c) k) (.pointer (some (ad.add (k*40)))) (fun w1 hw h=>U1 hA hlt) <| ZA (L5 60 (ad.add (k*40))) (.agg (pC2 (P,p)).toArray) (fun w1 hw h=>Vy fun j v hj=>Lc hw (hc j v hj)) ?_
 cases hb:Ku P
 ·exact ZC (fun w1 hw h=>rpvalid_v (P:=P) (q:=p) hb (hrd.below hw) hK (by have:=hf.1;omega) (by have:=hf.2;omega)) fun u=>ZI true <| K0.leave Zk <| ZR <| ZX Zf (by rw[←hB,Zx hx hb])
 ·refine ZC (fun w1 hw h=>rpvalid_v (P:=P) (q:=p) hb (hrd.below hw) hK (by have:=hf.1;omega) (by have:=hf.2;omega)) fun u=>ZI false <| K0.slot 3 (Zi (IntKind.i64.wrap ((k:Int)+1))) (Zi ((k+1:Nat):Int)) Zk (by rw[Kd hlt Zo]) <| K0.next (⟨k+1,by show k+1≤n;omega,by rw[U5 hx hall,hb]⟩) Zk (by show n- (k+1)<n-k;omega) ⟨Zk,Zk,Zk⟩ (fun u h=>trivial)
theorem checkShape_v(hp:Jv N q K w)(hf:Hx N)(hK:2≤K∧K≤1000)(hB:V4 N=B):Calls Tryz.prog 127 #[Gv N q] w (K7 w (fun z:{z:Int // decide (z=0)=B}=>Zi z.1) fun _ _=>True):=by
 unfold V4 at hB
 refine K0.enter Tryz.func127 rfl <| ZR ?_
 cases h1:Pt N.path
 ·rw[h1,Bool.false_and]at hB
  refine ZC (fun w1 hw h=>Cf (c:=q.pac) (hp.pa.below hw) hf.pa h1) fun u=>ZI true <| ZV (Zi 10) (fun w1 hw h=>⟨⟨10,by rw[←hB];rfl⟩,rfl,hw,fun _ _ _=>trivial⟩)
 rw[h1,Bool.true_and]at hB
 refine ZC (fun w1 hw h=>Cf (c:=q.pac) (hp.pa.below hw) hf.pa h1) fun u=>ZI false <| ZC (fun w1 hw h=>rrule_v (x:=N.frule)) fun u2=> ?_
 cases h2:R4 N.frule
 ·rw[h2,Bool.false_and]at hB
  refine ZJ ((!false)) true (rfl) <| ZV (Zi 2) (fun w1 hw h=>⟨⟨2,by rw[←hB];rfl⟩,rfl,hw,fun _ _ _=>trivial⟩)
 rw[h2,Bool.true_and]at hB
 refine K0.condr ((!true)) false Zk (rfl) <| ZS 5 <| K0.joinB Zk 1000 6 18 [19,20,21,22,23] 13 true (decide ((N.stroke.length:Int)>1)) ((decide ((N.fill.length:Int)>1))||(decide ((N.stroke.length:Int)>1))) Zk Zk Zk (fun _=>by kernel_rfl) On fun xj1=>ZR ?_
 cases h3:Id N
 case true=>
  rw[h3]at hB
  refine ZJ (Id N) true (h3) <| ZV (Zi 5) (fun w1 hw h=>⟨⟨5,by rw[←hB];rfl⟩,rfl,hw,fun _ _ _=>trivial⟩)
 rw[h3,Bool.not_false,Bool.true_and]at hB
 refine K0.condr (Id N) false Zk (h3) <| ZS 5 <| K0.joinC Zk true 1000 6 3 29 [30,31,32,33,34] 24 false (P6 N.sty) (!P6 N.sty) ((decide ((N.stroke.length:Int)>0))&&(!P6 N.sty)) Zk (fun w1 hw h=>rstyle_v (y:=(q.daA,q.dac)) rfl (hp.da.below hw) (by have:=hf.da;omega)) Zk Zk Zk (fun _=>by kernel_rfl) P5 fun xj2 Φxj2 hixj2=>ZR ?_
 cases h4:penB N
 case false=>
  rw[h4,Bool.false_and]at hB
  unfold penB at h4
  by_cases h0:N.stroke.length=0
  ·rw[if_pos h0]at h4
   refine K0.condr ((decide ((N.stroke.length:Int)>0)&& !P6 N.sty)) false Zk (by rw[decide_eq_false Zo];rfl) <| ZS 5 <| K0.joinC Zk true 1000 5 3 40 [41,42,43,44] 35 false (Ow N.sty) (!Ow N.sty) (((N.stroke.length:Int)==0)&&(!Ow N.sty)) Zk (fun w1 hw h=>Cw (N:=N) (q:=q)) Zk Zk Zk (fun _=>by kernel_rfl) P5 fun xj3 Φxj3 hixj3=>ZR <| ZJ ((((N.stroke.length:Int)==0)&& !Ow N.sty)) true (by rw[h4,beq_iff_eq.2 Zo];rfl) <| ZV (Zi 17) (fun w1 hw h=>⟨⟨17,by rw[←hB];rfl⟩,rfl,hw,fun _ _ _=>trivial⟩)
  ·rw[if_neg h0]at h4
   refine ZJ ((decide ((N.stroke.length:Int)>0)&& !P6 N.sty)) true (by rw[h4,decide_eq_true Zo];rfl) <| ZV (Zi 13) (fun w1 hw h=>⟨⟨13,by rw[←hB];rfl⟩,rfl,hw,fun _ _ _=>trivial⟩)
 rw[h4,Bool.true_and]at hB
 unfold penB at h4
 have k4:(decide ((N.stroke.length:Int)>0)&& !P6 N.sty)=false:=by
  by_cases h0:N.stroke.length=0
  ·rw[decide_eq_false Zo];rfl
  ·rw[if_neg h0]at h4;rw[h4,Bool.not_true,Bool.and_false]
 have k5:(((N.stroke.length:Int)==0)&& !Ow N.sty)=false:=by
  by_cases h0:N.stroke.length=0
  ·rw[if_pos h0]at h4;rw[h4,Bool.not_true,Bool.and_false]
  ·rw[beq_eq_false_iff_ne.2 Zo];rfl
 refine K0.condr ((decide ((N.stroke.length:Int)>0)&& !P6 N.sty)) false Zk (k4) <| ZS 5 <| K0.joinC Zk true 1000 5 3 40 [41,42,43,44] 35 false (Ow N.sty) (!Ow N.sty) (((N.stroke.length:Int)==0)&&(!Ow N.sty)) Zk (fun w1 hw h=>Cw (N:=N) (q:=q)) Zk Zk Zk (fun _=>by kernel_rfl) P5 fun xj4 Φxj4 hixj4=>ZR <| K0.condr ((((N.stroke.length:Int)==0)&& !Ow N.sty)) false Zk (k5) <| ZS 5 <| ZD 5 (fun w1 hw h=>Wq (c:=q.fic) rfl (hp.fi.below hw) rfl (by have:=hf.fn;omega) hf.fi hK) fun u5=>K0.joinC Zk false 1000 6 3 50 [51,52,53,54,55] 45 true (N.stroke.all Ku) (!N.stroke.all Ku) ((!N.fill.all Ku)||(!N.stroke.all Ku)) Zk (fun w1 hw h=>Wq (c:=q.stc) rfl (hp.st.below hw) rfl (by have:=hf.sn;omega) hf.st hK) Zk Zk Zk (fun _=>by kernel_rfl) or_ift fun xj5 Φxj5 hixj5=>ZR ?_
 cases B
 ·refine ZJ ((!N.fill.all Ku|| !N.stroke.all Ku)) true (by rw[←Bool.not_and,hB];rfl) <| ZV (Zi 16) (fun w1 hw h=>⟨⟨16,rfl⟩,rfl,hw,fun _ _ _=>trivial⟩)
 ·refine ZJ ((!N.fill.all Ku|| !N.stroke.all Ku)) false (by rw[←Bool.not_and,hB];rfl) <| ZV (Zi 0) (fun w1 hw h=>⟨⟨0,rfl⟩,rfl,hw,fun _ _ _=>trivial⟩)
theorem rcheck_v(hp:Jv N q K w)(hf:Hx N)(hK:2≤K∧K≤1000)(hB:Lm N=B):Calls Tryz.prog 71 #[Gv N q] w (K7 w (fun z:{z:Int // decide (z=0)=B}=>Zi z.1) fun _ _=>True):=by
 unfold Lm commB at hB
 refine K0.enter Tryz.func71 rfl <| ZS 4 <| K0.joinB Zk 1000 5 7 [8,9,10,11] 3 true (decide (N.kind>3)) ((decide (N.kind<1))||(decide (N.kind>3))) Zk Zk Zk (fun _=>by kernel_rfl) On fun xj6=>ZR ?_
 cases h1:Ig N
 case true=>
  rw[h1]at hB
  refine ZJ (Ig N) true (h1) <| ZV (Zi 2) (fun w1 hw h=>⟨⟨2,by rw[←hB];rfl⟩,rfl,hw,fun _ _ _=>trivial⟩)
 rw[h1,Bool.not_false,Bool.true_and]at hB
 refine K0.condr (Ig N) false Zk (h1) <| ZS 4 <| K0.joinB Zk 1000 5 16 [17,18,19,20] 21 true (decide (N.id>1073741824)) ((decide (N.id<1))||(decide (N.id>1073741824))) Zk Zk Zk (fun _=>by kernel_rfl) On fun xj7=>K0.joinB Zk 1000 5 21 [22,23,24,25] 26 true (decide (N.dep<0)) ((decide (N.id<1)||decide (N.id>1073741824))||(decide (N.dep<0))) Zk Zk Zk (fun _=>by kernel_rfl) On fun xj8=>K0.joinB Zk 1000 5 26 [27,28,29,30] 12 true (decide (N.dep≥8)) (((decide (N.id<1)||decide (N.id>1073741824))||decide (N.dep<0))||(decide (N.dep≥8))) Zk Zk Zk (fun _=>by kernel_rfl) On fun xj9=>ZR ?_
 cases h2:rngX N
 case true=>
  rw[h2]at hB
  refine ZJ (rngX N) true (h2) <| ZV (Zi 6) (fun w1 hw h=>⟨⟨6,by rw[←hB];rfl⟩,rfl,hw,fun _ _ _=>trivial⟩)
 rw[h2,Bool.not_false,Bool.true_and]at hB
 refine ZJ (rngX N) false (h2) <| ZC (fun w1 hw h=>Gm rfl (hp.tr.below hw) Zo) fun u1=> ?_
 cases h3:N.T.ok
 ·rw[h3]at hB
  refine ZJ ((!false)) true (rfl) <| ZV (Zi 5) (fun w1 hw h=>⟨⟨5,by rw[←hB];rfl⟩,rfl,hw,fun _ _ _=>trivial⟩)
 rw[h3,Bool.true_and]at hB
 refine ZJ ((!true)) false (rfl) <| ZC (fun w1 hw h=>rdetA_m (hp.tr.below hw) Zo) fun d=>ZC (fun w1 hw h=>Bg 0 w1 Zd Zd) fun z=>ZC (fun w1 hw h=>rqcmp_m h.1.2.q h.2.q Zo) fun v=> ?_
 cases h4:decide (N.T.det≠0)
 ·rw[h4]at hB
  refine ZJ ((Sw N.T.det ((0:Int):Rat)==0)) true (by rw[cmp_eq0];have:=of_decide_eq_false h4;exact decide_eq_true (Classical.not_not.1 this)) <| ZV (Zi 9) (fun w1 hw h=>⟨⟨9,by rw[←hB];rfl⟩,rfl,hw,fun _ _ _=>trivial⟩)
 rw[h4,Bool.true_and]at hB
 refine ZJ ((Sw N.T.det ((0:Int):Rat)==0)) false (by rw[cmp_eq0];exact decide_eq_false (of_decide_eq_true h4)) ?_
 cases h5:Pt N.clip
 ·rw[h5]at hB
  refine ZC (fun w1 hw h=>Cf (c:=q.clc) (hp.cl.below hw) hf.cl h5) fun u4=>ZI true <| ZV (Zi 10) (fun w1 hw h=>⟨⟨10,by rw[←hB];rfl⟩,rfl,hw,fun _ _ _=>trivial⟩)
 rw[h5,Bool.true_and]at hB
 refine ZC (fun w1 hw h=>Cf (c:=q.clc) (hp.cl.below hw) hf.cl h5) fun u4=>ZI false <| ZC (fun w1 hw h=>ownFields_v (N:=N) (q:=q)) fun u5=> ?_
 cases h6:(Qe N&&T6 N)
 ·rw[h6]at hB
  refine ZJ ((!false)) true (rfl) <| ZV (Zi 17) (fun w1 hw h=>⟨⟨17,by rw[←hB];rfl⟩,rfl,hw,fun _ _ _=>trivial⟩)
 rw[h6,Bool.true_and]at hB
 refine ZJ ((!true)) false (rfl) ?_
 unfold ownB at hB
 by_cases k2:N.kind=2
 ·rw[if_neg Zo,if_pos k2]at hB
  refine ZJ ((N.kind==2)) true (beq_iff_eq.2 k2) <| ZC (fun w1 hw h=>checkShape_v (hp.below hw) hf hK hB) fun z=>ZV (Zi z.1) (fun w1 hw h=>⟨z,rfl,hw,fun _ _ _=>trivial⟩)
 refine ZJ ((N.kind==2)) false (beq_eq_false_iff_ne.2 k2) ?_
 by_cases k1:N.kind=1
 ·rw[if_pos k1]at hB
  refine ZJ ((N.kind==1)) true (beq_iff_eq.2 k1) <| ZC (fun w1 hw h=>rmode_v (x:=N.bl)) fun u6=> ?_
  cases hm:Xc N.bl
  ·rw[hm]at hB
   refine ZJ ((!false)) true (rfl) <| ZV (Zi 2) (fun w1 hw h=>⟨⟨2,by rw[←hB];rfl⟩,rfl,hw,fun _ _ _=>trivial⟩)
  ·rw[hm]at hB
   refine ZJ ((!true)) false (rfl) <| ZV (Zi 0) (fun w1 hw h=>⟨⟨0,by rw[←hB];rfl⟩,rfl,hw,fun _ _ _=>trivial⟩)
 rw[if_neg k1,if_neg k2]at hB
 refine ZJ ((N.kind==1)) false (beq_eq_false_iff_ne.2 k1) <| ZC (fun w1 hw h=>E2 (m:=N.im) (y:=(q.pxA,q.pxc)) rfl (hp.px.below hw) (by have:=hf.px;omega)) fun u6=> ?_
 cases hi:Xy N.im
 ·rw[hi]at hB
  refine ZJ ((!false)) true (rfl) <| ZV (Zi 16) (fun w1 hw h=>⟨⟨16,by rw[←hB];rfl⟩,rfl,hw,fun _ _ _=>trivial⟩)
 rw[hi,Bool.true_and]at hB
 refine K0.condr ((!true)) false Zk (rfl) <| ZS 4 <| K0.joinB Zk 1000 4 71 [72,73,74] 75 (N.samp !=2) false ((N.samp !=1)&&(N.samp !=2)) Zk Zk Zk (fun _=>by kernel_rfl) Li fun xj10=>ZR ?_
 cases hs:((N.samp !=1)&&(N.samp !=2))
 ·rw[hs]at hB
  refine ZJ (false) false (rfl) <| ZV (Zi 0) (fun w1 hw h=>⟨⟨0,by rw[←hB];rfl⟩,rfl,hw,fun _ _ _=>trivial⟩)
 ·rw[hs]at hB
  refine ZJ (true) true (rfl) <| ZV (Zi 2) (fun w1 hw h=>⟨⟨2,by rw[←hB];rfl⟩,rfl,hw,fun _ _ _=>trivial⟩)
end
end
section
open Go.RowKit
--ATNAMES
section
variable{w:World}{A:Option Addr}{n c i k:Nat}{z:Int}{B:Bool}{N:Nd}{q:ND}{K:Nat}{S:Sc}{y:Option Addr×Nat}{nl:List (Nd×ND)}{Ns:List Nd}
theorem run_slN{P:Program}{t e:TypeId}{n c i s:Nat}(ht:P.underlying t=some (.slice e))(he:P.elem t=e)(hs:Nz P e=some s)(hi:i≤c):(slH t (.slice A n c) i).run P w= .ok (.value (.slice (if c=0 then A else A.map (·.add 0)) i c)) w:=by
 have h1:=run_slice_h (P:=P) w t A n c (by rw[he];exact ht) .i64 i Zo Zo
 have h2:=run_sliceAt_slice (P:=P) w t (.slice A n c) none (some (Zi i)) none (by rw[he];exact ht)
 simp only[slH,Sem.run_bind,h2,h1,he,Lf hs,Result.andThen_ok,Sem.run_pure]
 simp[sliced]
theorem Ma.upto{α:Type}{s:Nat}{cl:α→List Value}{l:List α}(h:Ma w A n s cl l)(hi:i≤n):Ma w (if c=0 then A else A.map (·.add 0)) i s cl (l.take i):=by
 refine⟨by rw[List.length_take,h.1];omega,fun k s hk=> ?_⟩
 rw[List.getElem?_take]at hk
 split at hk
 ·obtain⟨ad,h1,h2⟩:=h.2 k s hk
  subst h1
  split
  ·exact⟨ad,rfl,h2⟩
  ·exact⟨ad.add 0,rfl,by simpa[Addr.add]using h2⟩
 ·cases hk
def NdR(w:World)(A:Option Addr)(n:Nat)(nl:List (Nd×ND)):Prop:=Ma w A n 47 (fun x=>X9 x.1 x.2) nl
theorem any_false{α:Type}{p:α→Bool}{l:List α}{k:Nat}(h:l.length≤k)(h2:(l.take k).any p=false):l.any p=false:=by rw[List.take_of_length_le h]at h2;exact h2
theorem rfind_v(hp:NdR w A n nl)(hn:n≤1000000000)(hB:nl.any (fun x=>x.1.id==z)=B):Calls Tryz.prog 72 #[.slice A n c,Zi z] w (K7 w (fun r:{r:Int // decide (r≥0)=B}=>Zi r.1) fun _ _=>True):=by
 have hln:=hp.1
 refine K0.enter Tryz.func72 rfl <| ZR <| K0.loop (ι:={k:Nat // k≤n∧(nl.take k).any (fun x=>x.1.id==z)=false}) 20 (fun k=>⟨[(0,.v (.slice A n c)),(1,.v (Zi z)),(5,.v (Zi k.1))],[]⟩) (fun k u=>True) (fun k=>n-k.1) (⟨0,Nat.zero_le _,rfl⟩) Zk (fun _=>by kernel_rfl) ⟨Zk,Zk,Zk⟩ (fun u h=>trivial) ?_
 rintro⟨k,hk,hall⟩ gg
 have hk:k≤n:=hk
 have hall:(nl.take k).any (fun x=>x.1.id==z)=false:=hall
 by_cases hlt:k<n
 case neg=>
  obtain rfl:k=n:=by omega
  refine ZR <| ZJ (decide ((k:Int)<(k:Int))) false Zs <| K0.leave Zk <| ZR <| ZV (Zi (-1)) (fun w1 hw h=>⟨⟨-1,by rw[←hB,any_false Zo hall];rfl⟩,rfl,hw,fun _ _ _=>trivial⟩)
 obtain⟨x,hx⟩:∃x,nl[k]? =some x:=⟨_,List.getElem?_eq_getElem Zo⟩
 obtain⟨ad,hA,hc⟩:=hp.2 k x hx
 refine ZR <| ZJ (decide ((k:Int)<(n:Int))) true Zp <| K0.ask (Kj 24 (.slice A n c) k) (.pointer (some (ad.add (k*47)))) Zk (fun w1 hw h=>N9 hA hlt) <| ZS 3 <| ZA (Qz 52 (ad.add (k*47)) 0) (.pointer (some ((ad.add (k*47)).add 0))) (fun w1 hw h=>Mb (d:=0) Zk) <| ZA (L5 3 ((ad.add (k*47)).add 0)) (Zi x.1.id) (fun w1 hw h=>K8 Zk (Lc hw (hc 0 _ rfl))) ?_
 cases hb:(x.1.id==z)
 ·refine ZJ ((x.1.id==z)) false (hb) <| K0.slot 5 (Zi (IntKind.i64.wrap ((k:Int)+1))) (Zi ((k+1:Nat):Int)) Zk (by rw[Kd hlt Zo]) <| K0.next (⟨k+1,by show k+1≤n;omega,by rw[Vj hx,hall,hb];rfl⟩) Zk (by show n- (k+1)<n-k;omega) ⟨Zk,Zk,Zk⟩ (fun u h=>trivial)
 ·refine ZJ ((x.1.id==z)) true (hb) <| K0.leave Zk <| ZR <| ZV (Zi (k:Int)) (fun w1 hw h=>⟨⟨k,by rw[←hB,any_hit hx hb];simp⟩,rfl,hw,fun _ _ _=>trivial⟩)
theorem mxd_nil:mxd []=0:=rfl
theorem mxd_at{l:List Nd}(hk:l[k]? =some N):mxd (l.take (k+1))=N.dep+(if N.kind=1 then 1 else 0):=mxd_snoc hk
theorem rstands_v(hp:Ut w A nl K Ns)(hn:Ns.length=n)(hk:Ns[k]? =some N)(hv:∀x∈Ns.take (k+1),Lm x=true)(hn2:n≤1000000000)(hB:(!decide (N.dep>mxd (Ns.take k)))=B):Zv 73 #[.slice A n c,Zi k] w (.bool B):=by
 have hkl:=(List.getElem?_eq_some_iff.1 hk).1
 obtain⟨q,hq,_⟩:=hp.get hk
 obtain⟨ad,hA,hc⟩:=hp.row.2 k _ hq
 have hd:=dep_rng (hv N (List.mem_of_getElem? (i:=k) (by rw[List.getElem?_take,if_pos Zo];exact hk)))
 cases k with
 |zero=>
  rw[List.take_zero,mxd_nil]at hB
  exact K0.enter Tryz.func73 rfl <| ZR <| ZI true <| K0.ask (Kj 24 (.slice A n c) (0:Nat)) (.pointer (some (ad.add (0*47)))) Zk (fun w1 hw h=>N9 (k:=0) hA Zo) <| ZS 3 <| ZA (Qz 52 (ad.add (0*47)) 2) (.pointer (some ((ad.add (0*47)).add 2))) (fun w1 hw h=>Mb (d:=2) Zk) <| ZA (L5 3 ((ad.add (0*47)).add 2)) (Zi N.dep) (fun w1 hw h=>K8 Zk (Lc hw (hc 2 _ rfl))) <| ZX (.bool (N.dep==0)) (by rw[←hB];congr 2;rw[Bool.eq_iff_iff];simp;omega)
 | succ j=>
  obtain⟨M,hM⟩:∃v,Ns[j]? =some v:=⟨_,List.getElem?_eq_getElem Zo⟩
  obtain⟨q2,hq2,_⟩:=hp.get hM
  obtain⟨ad2,hA2,hc2⟩:=hp.row.2 j _ hq2
  have hd2:=dep_rng (hv M (List.mem_of_getElem? (i:=j) (by rw[List.getElem?_take,if_pos Zo];exact hM)))
  rw[mxd_at hM]at hB
  have hw1:Value.int .i64 (IntKind.i64.wrap (((j+1:Nat):Int)-1))=Zi (j:Int):=by rw[IntWalk.i64_in _ Zo];congr 1;omega
  refine K0.enter Tryz.func73 rfl <| ZR <| K0.condr ((((j+1:Nat):Int)==0)) false Zk (beq_eq_false_iff_ne.2 Zo) <| ZS 3 <| K0.slot 15 (Zi (IntKind.i64.wrap (((j+1:Nat):Int)-1))) (Zi (j:Int)) Zk (hw1) <| K0.askAt 3 (Kj 24 (.slice A n c) j) (.pointer (some (ad2.add (j*47)))) Zk (fun w1 hw h=>N9 hA2 Zo) <| ZS 4 <| K0.askAt 4 (Qz 52 (ad2.add (j*47)) 1) (.pointer (some ((ad2.add (j*47)).add 1))) Zk (fun w1 hw h=>Mb (d:=1) Zk) <| ZS 5 <| K0.askAt 5 (L5 3 ((ad2.add (j*47)).add 1)) (Zi M.kind) Zk (fun w1 hw h=>K8 Zk (Lc hw (hc2 1 _ rfl))) <| ZS 8 ?_
  by_cases k1:M.kind=1
  ·refine K0.slot 20 (.bool (M.kind==1)) Zt Zk (by rw[beq_iff_eq.2 k1]) <| ZS 10 <| K0.askAt 10 (Kj 24 (.slice A n c) (j+1:Nat)) (.pointer (some (ad.add ((j+1)*47)))) Zk (fun w1 hw h=>N9 hA Zo) <| ZS 11 <| K0.askAt 11 (Qz 52 (ad.add ((j+1)*47)) 2) (.pointer (some ((ad.add ((j+1)*47)).add 2))) Zk (fun w1 hw h=>Mb (d:=2) Zk) <| ZS 12 <| K0.askAt 12 (L5 3 ((ad.add ((j+1)*47)).add 2)) (Zi N.dep) Zk (fun w1 hw h=>K8 Zk (Lc hw (hc 2 _ rfl))) <| ZS 16 <| K0.slot 28 (Zi (IntKind.i64.wrap (((j+1:Nat):Int)-1))) (Zi (j:Int)) Zk (hw1) <| K0.askAt 16 (Kj 24 (.slice A n c) j) (.pointer (some (ad2.add (j*47)))) Zk (fun w1 hw h=>N9 hA2 Zo) <| ZS 17 <| K0.askAt 17 (Qz 52 (ad2.add (j*47)) 2) (.pointer (some ((ad2.add (j*47)).add 2))) Zk (fun w1 hw h=>Mb (d:=2) Zk) <| ZS 18 <| K0.askAt 18 (L5 3 ((ad2.add (j*47)).add 2)) (Zi M.dep) Zk (fun w1 hw h=>K8 Zk (Lc hw (hc2 2 _ rfl))) <| ZS 20 <| ZT 32 (Zi (IntKind.i64.wrap (M.dep+1))) (Zi (M.dep+1)) (by rw[IntWalk.i64_in _ Zo]) ?_
   rw[if_pos k1]at hB
   cases he:(N.dep==M.dep+1)
   ·exact K0.condr ((N.dep==M.dep+1)) false Zk (he) <| ZS 2 <| K0.askAt 2 (Kj 24 (.slice A n c) (j+1:Nat)) (.pointer (some (ad.add ((j+1)*47)))) Zk (fun w1 hw h=>N9 hA Zo) <| ZS 3 <| K0.askAt 3 (Qz 52 (ad.add ((j+1)*47)) 2) (.pointer (some ((ad.add ((j+1)*47)).add 2))) Zk (fun w1 hw h=>Mb (d:=2) Zk) <| ZS 4 <| K0.askAt 4 (L5 3 ((ad.add ((j+1)*47)).add 2)) (Zi N.dep) Zk (fun w1 hw h=>K8 Zk (Lc hw (hc 2 _ rfl))) <| ZS 8 <| K0.slot 42 (Zi (IntKind.i64.wrap (((j+1:Nat):Int)-1))) (Zi (j:Int)) Zk (hw1) <| K0.askAt 8 (Kj 24 (.slice A n c) j) (.pointer (some (ad2.add (j*47)))) Zk (fun w1 hw h=>N9 hA2 Zo) <| ZS 9 <| K0.askAt 9 (Qz 52 (ad2.add (j*47)) 2) (.pointer (some ((ad2.add (j*47)).add 2))) Zk (fun w1 hw h=>Mb (d:=2) Zk) <| ZS 10 <| ZB 10 (L5 3 ((ad2.add (j*47)).add 2)) (Zi M.dep) (fun w1 hw h=>K8 Zk (Lc hw (hc2 2 _ rfl))) <| ZX (.bool (decide (N.dep≤M.dep))) (by rw[←hB];congr 2;rw[Bool.eq_iff_iff];have:=beq_eq_false_iff_ne.1 he;simp;omega)
   ·exact ZJ ((N.dep==M.dep+1)) true (he) <| ZX Zt (by rw[←hB];congr 2;have:=beq_iff_eq.1 he;rw[decide_eq_false Zo];rfl)
  ·refine K0.slot 20 (.bool (M.kind==1)) Zf Zk (by rw[beq_eq_false_iff_ne.2 k1]) ?_
   rw[if_neg k1]at hB
   exact ZR <| K0.cond false Zk <| ZS 2 <| K0.askAt 2 (Kj 24 (.slice A n c) (j+1:Nat)) (.pointer (some (ad.add ((j+1)*47)))) Zk (fun w1 hw h=>N9 hA Zo) <| ZS 3 <| K0.askAt 3 (Qz 52 (ad.add ((j+1)*47)) 2) (.pointer (some ((ad.add ((j+1)*47)).add 2))) Zk (fun w1 hw h=>Mb (d:=2) Zk) <| ZS 4 <| K0.askAt 4 (L5 3 ((ad.add ((j+1)*47)).add 2)) (Zi N.dep) Zk (fun w1 hw h=>K8 Zk (Lc hw (hc 2 _ rfl))) <| ZS 8 <| K0.slot 42 (Zi (IntKind.i64.wrap (((j+1:Nat):Int)-1))) (Zi (j:Int)) Zk (hw1) <| K0.askAt 8 (Kj 24 (.slice A n c) j) (.pointer (some (ad2.add (j*47)))) Zk (fun w1 hw h=>N9 hA2 Zo) <| ZS 9 <| K0.askAt 9 (Qz 52 (ad2.add (j*47)) 2) (.pointer (some ((ad2.add (j*47)).add 2))) Zk (fun w1 hw h=>Mb (d:=2) Zk) <| ZS 10 <| ZB 10 (L5 3 ((ad2.add (j*47)).add 2)) (Zi M.dep) (fun w1 hw h=>K8 Zk (Lc hw (hc2 2 _ rfl))) <| ZX (.bool (decide (N.dep≤M.dep))) (by rw[←hB];congr 2;rw[Bool.eq_iff_iff];simp<;>omega)
def nodeB(Ns:List Nd)(k:Nat)(N:Nd):Bool:=Lm N&&(!decide (N.id∈(Ns.take k).map (·.id))&& !decide (N.dep>mxd (Ns.take k)))
theorem any_ids{l:List (Nd×ND)}:l.any (fun x=>x.1.id==z)=decide (z∈(l.map (·.1)).map (·.id)):=by
 rw[Bool.eq_iff_iff]
 simp only[List.any_eq_true,beq_iff_eq,decide_eq_true_eq,List.map_map,List.mem_map,Function.comp]
theorem rwrong_v(hp:Ut w A nl K Ns)(hn:Ns.length=n)(hf:NFs Ns)(hK:2≤K∧K≤1000)(hcap:n≤c)(hk:Ns[k]? =some N)(hv:∀x∈Ns.take k,Lm x=true)(hn2:n≤1000000000)(hB:nodeB Ns k N=B):Calls Tryz.prog 41 #[.slice A n c,Zi k] w (K7 w (fun z:{z:Int // decide (z=0)=B}=>Zi z.1) fun _ _=>True):=by
 unfold nodeB at hB
 have hkl:=(List.getElem?_eq_some_iff.1 hk).1
 obtain⟨q,hq,hrd⟩:=hp.get hk
 obtain⟨ad,hA,hc⟩:=hp.row.2 k _ hq
 have hN:=hf N (List.mem_of_getElem? hk)
 refine K0.enter Tryz.func41 rfl <| ZR <| ZA (Kj 24 (.slice A n c) k) (.pointer (some (ad.add (k*47)))) (fun w1 hw h=>N9 hA Zo) <| ZA (L5 52 (ad.add (k*47))) (Gv N q) (fun w1 hw h=>Yb fun j v hj=>Lc hw (hc j v hj)) ?_
 cases hvn:Lm N
 ·rw[hvn,Bool.false_and]at hB
  refine ZC (fun w1 hw h=>rcheck_v (hrd.below hw) hN hK hvn) fun z=>ZJ ((z.1 !=0)) true (by have:=of_decide_eq_false z.2;simpa using this) <| ZV (Zi z.1) (fun w1 hw h=>⟨⟨z.1,by rw[z.2,←hB]⟩,rfl,hw,fun _ _ _=>trivial⟩)
 rw[hvn,Bool.true_and]at hB
 have hv1:∀x∈Ns.take (k+1),Lm x=true:=fun x hx=>by
  rw[Ug hk]at hx
  rcases List.mem_append.1 hx with h|h
  ·exact hv x h
  ·obtain rfl:x=N:=by simpa using h
   exact hvn
 refine ZC (fun w1 hw h=>rcheck_v (hrd.below hw) hN hK hvn) fun z=>K0.condr ((z.1 !=0)) false Zk (by have:=of_decide_eq_true z.2;simpa using this) <| ZS 2 <| K0.askAt 2 (slH 24 (.slice A n c) k) (.slice (if c=0 then A else A.map (·.add 0)) k c) Zk (fun w1 hw h=>run_slN (e:=52) (s:=47) Zk Zk Zk Zo) <| ZS 5 <| K0.askAt 5 (Kj 24 (.slice A n c) k) (.pointer (some (ad.add (k*47)))) Zk (fun w1 hw h=>N9 hA Zo) <| ZS 6 <| K0.askAt 6 (Qz 52 (ad.add (k*47)) 0) (.pointer (some ((ad.add (k*47)).add 0))) Zk (fun w1 hw h=>Mb (d:=0) Zk) <| ZS 7 <| ZB 7 (L5 3 ((ad.add (k*47)).add 0)) (Zi N.id) (fun w1 hw h=>K8 Zk (Lc hw (hc 0 _ rfl))) ?_
 obtain⟨D,hD⟩:∃D:Bool,D=decide (N.id∈(Ns.take k).map (·.id)):=⟨_,rfl⟩
 rw[←hD]at hB
 have eids:(nl.take k).any (fun x=>x.1.id==N.id)=D:=by rw[hD,any_ids,List.map_take,hp.eq]
 refine ZC (fun w1 hw h=>rfind_v (c:=c) (nl:=nl.take k) (show NdR w1 (if c=0 then A else A.map (·.add 0)) k _ from(hp.row.below hw).upto Zo) Zo eids) fun r=> ?_
 clear hD eids
 cases D
 case true=>
  refine ZJ (decide (r.1≥0)) true (r.2) <| ZV (Zi 7) (fun w1 hw h=>⟨⟨7,by rw[←hB];rfl⟩,rfl,hw,fun _ _ _=>trivial⟩)
 rw[Bool.not_false,Bool.true_and]at hB
 refine ZJ (decide (r.1≥0)) false (r.2) <| ZC (fun w1 hw h=>rstands_v (c:=c) (hp.below hw) hn hk hv1 hn2 hB) fun u=> ?_
 cases B
 ·refine ZI true <| ZV (Zi 17) (fun w1 hw h=>⟨⟨17,rfl⟩,rfl,hw,fun _ _ _=>trivial⟩)
 ·refine ZI false <| ZV (Zi 0) (fun w1 hw h=>⟨⟨0,rfl⟩,rfl,hw,fun _ _ _=>trivial⟩)
theorem nds_step2{l:List Nd}{k:Nat}(hx:l[k]? =some N)(h:Ab (l.take k) (l.drop k)=B):(nodeB l k N&&Ab (l.take (k+1)) (l.drop (k+1)))=B:=by
 rw[←nds_step hx h]
 unfold nodeB
 simp only[Bool.and_assoc]
theorem rscheck_v(hp:Ut w y.1 nl K S.nds)(hf:NFs S.nds)(hK:2≤K∧K≤1000)(hcap:S.nds.length≤y.2)(hB:Ai S=B):Calls Tryz.prog 20 #[soV S y] w (K7 w (fun z:{z:Int // decide (z=0)=B}×Int=> .tuple #[Zi z.1.1,Zi z.2]) fun _ _=>True):=by
 unfold Ai at hB
 refine K0.enter Tryz.func20 rfl <| ZS 4 <| K0.joinB Zk 1000 5 9 [10,11,12,13] 14 true (decide (S.w>256)) ((decide (S.w<1))||(decide (S.w>256))) Zk Zk Zk (fun _=>by kernel_rfl) On fun xj1=>K0.joinB Zk 1000 5 14 [15,16,17,18] 19 true (decide (S.h<1)) ((decide (S.w<1)||decide (S.w>256))||(decide (S.h<1))) Zk Zk Zk (fun _=>by kernel_rfl) On fun xj2=>K0.joinB Zk 1000 4 19 [20,21,22] 23 true (decide (S.h>256)) (((decide (S.w<1)||decide (S.w>256))||decide (S.h<1))||(decide (S.h>256))) Zk Zk Zk (fun _=>by kernel_rfl) On (fun xj3=> ?_)
 cases hs:I5 S
 case true=>
  rw[hs]at hB
  refine ZT 23 (.bool (((decide (S.w<1)||decide (S.w>256))||decide (S.h<1))||decide (S.h>256))) (.bool true) (by rw[←hs];rfl) <| ZI true <| ZV (.tuple #[Zi 6,Zi 0]) (fun w1 hw h=>⟨(⟨6,by rw[←hB];rfl⟩,0),rfl,hw,fun _ _ _=>trivial⟩)
 rw[hs,Bool.not_false,Bool.true_and]at hB
 refine ZT 23 (.bool (((decide (S.w<1)||decide (S.w>256))||decide (S.h<1))||decide (S.h>256))) (.bool false) (by rw[←hs];rfl) <| ZI false ?_
 cases hm:decide ((S.nds.length:Int)>64)
 case true=>
  rw[hm]at hB
  refine ZJ (decide ((S.nds.length:Int)>64)) true (hm) <| ZV (.tuple #[Zi 5,Zi 64]) (fun w1 hw h=>⟨(⟨5,by rw[←hB];rfl⟩,64),rfl,hw,fun _ _ _=>trivial⟩)
 rw[hm,Bool.not_false,Bool.true_and]at hB
 have hn:S.nds.length≤64:=by have:=of_decide_eq_false hm;omega
 refine ZJ (decide ((S.nds.length:Int)>64)) false (hm) <| K0.loop (ι:={k:Nat // k≤S.nds.length∧(∀x∈S.nds.take k,Lm x=true)∧Ab (S.nds.take k) (S.nds.drop k)=B}) 43 (fun k=>⟨[(1,.p 1 0),(4,.v (Zi k.1))],[(1,(soC S y).map .v)]⟩) (fun k u=>True) (fun k=>S.nds.length-k.1) (⟨0,Nat.zero_le _,fun x hx=>(by simp at hx),hB⟩) Zk (fun _=>by kernel_rfl) ⟨Zk,Zk,Zk⟩ (fun u h=>trivial) ?_
 rintro⟨k,hk,hv,hall⟩ gg
 have hk:k≤S.nds.length:=hk
 have hv:∀x∈S.nds.take k,Lm x=true:=hv
 have hall:Ab (S.nds.take k) (S.nds.drop k)=B:=hall
 by_cases hlt:k<S.nds.length
 case neg=>
  refine ZR <| ZJ (decide ((k:Int)<(S.nds.length:Int))) false Zp <| K0.leave Zk <| ZR <| ZV (.tuple #[Zi 0,Zi 0]) (fun w1 hw h=>⟨(⟨0,by rw[←hall,List.drop_of_length_le Zo];rfl⟩,0),rfl,hw,fun _ _ _=>trivial⟩)
 obtain⟨N,hx⟩:∃v,S.nds[k]? =some v:=⟨_,List.getElem?_eq_getElem hlt⟩
 have hst:=nds_step2 hx hall
 refine ZR <| ZJ (decide ((k:Int)<(S.nds.length:Int))) true Zp ?_
 cases hb:nodeB S.nds k N
 ·rw[hb,Bool.false_and]at hst
  refine ZC (fun w1 hw h=>rwrong_v (c:=y.2) (hp.below hw) rfl hf hK hcap hx hv Zo hb) fun z=>ZJ ((z.1 !=0)) true (by have:=of_decide_eq_false z.2;simpa using this) <| K0.leave Zk <| ZR <| ZV (.tuple #[Zi z.1,Zi k]) (fun w1 hw h=>⟨(⟨z.1,by rw[z.2,←hst]⟩,k),rfl,hw,fun _ _ _=>trivial⟩)
 rw[hb,Bool.true_and]at hst
 have hvN:Lm N=true:=by unfold nodeB at hb;rw[Bool.and_eq_true]at hb;exact hb.1
 refine ZC (fun w1 hw h=>rwrong_v (c:=y.2) (hp.below hw) rfl hf hK hcap hx hv Zo hb) fun z=>ZJ ((z.1 !=0)) false (by have:=of_decide_eq_true z.2;simpa using this) <| K0.slot 4 (Zi (IntKind.i64.wrap ((k:Int)+1))) (Zi ((k+1:Nat):Int)) Zk (by rw[Kd hlt Zo]) ?_
 have hv2:∀x∈S.nds.take (k+1),Lm x=true:=fun x hx2=>by
  rw[Ug hx]at hx2
  rcases List.mem_append.1 hx2 with h|h
  ·exact hv x h
  ·obtain rfl:x=N:=by simpa using h
   exact hvN
 refine K0.next (⟨k+1,by show k+1≤S.nds.length;omega,hv2,hst⟩) Zk (by show S.nds.length- (k+1)<S.nds.length-k;omega) ⟨Zk,Zk,Zk⟩ (fun u h=>trivial)
theorem rsvalid_v(hp:Ut w y.1 nl K S.nds)(hf:NFs S.nds)(hK:2≤K∧K≤1000)(hcap:S.nds.length≤y.2)(hB:Ai S=B):Zv 8 #[soV S y] w (.bool B):=by
 exact K0.enter Tryz.func8 rfl <| ZR <| ZC (fun w1 hw h=>rscheck_v (hp.below hw) hf hK hcap hB) fun z=>ZX (.bool (z.1.1==0)) (congrArg (fun b=>Ending.returned (Value.bool b)) z.1.2)
end
end
end Go.Proofs.YtoeiphicmcndlaaGreatDoor
