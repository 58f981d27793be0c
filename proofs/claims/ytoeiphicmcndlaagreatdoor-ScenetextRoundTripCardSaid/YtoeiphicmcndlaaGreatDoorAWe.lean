/-
 Functions of the package natural.
-/
import Derived.Test.YtoeiphicmcndlaaGreatDoorAWc
import Derived.Test.YtoeiphicmcndlaaGreatDoorANum
import Derived.Deep.DeepCutAuto
namespace Go.Proofs.YtoeiphicmcndlaaGreatDoor
set_option maxRecDepth 100000
set_option maxHeartbeats 8000000
set_option linter.unusedVariables false
set_option linter.unusedSimpArgs false
open Go.RowKit
def B5(v:Nat)(n:Int):Nat:=if 0≤n then v*2 ^ (min n.toNat 4096)else v/2 ^ (-n).toNat
theorem up_wide{x k:Nat}(hx:x<4294967296)(hk:k<32):IntKind.u64.wrap ((x:Int)*2 ^ k)=((x*2 ^ k:Nat):Int):=by
 have h1:=Ex hk
 have h2:x*2 ^ k≤4294967295*2147483648:=Nat.mul_le_mul Zo h1
 have e:(x:Int)*2 ^ k=((x*2 ^ k:Nat):Int):=by rw[Int.natCast_mul,Int.natCast_pow];rfl
 rw[e,L6]
 generalize x*2 ^ k=y at h2 ⊢
 omega
theorem up_low{x k d:Nat}(hx:x<4294967296)(hk:k<32)(hd:d<2 ^ k):
 bits .or .u32 (d:Int) (IntKind.u64.wrap ((x:Int)*2 ^ k)%4294967296)=((d+x*2 ^ k%4294967296:Nat):Int):=by
 obtain⟨_,h1,h2⟩:=W2 (Y7 (k:=k) Zo) hx
 have h3:=Rc k
 rw[up_wide hx hk,show((x*2 ^ k:Nat):Int)%4294967296=((x*2 ^ k%4294967296:Nat):Int) by omega,u32_or_nat _ _ Zo Zo,Nat.or_comm,nat_join k _ _ h1 hd,Nat.add_comm]
theorem up_high{x k:Nat}(hx:x<4294967296)(hk:k<32):
 IntKind.u64.wrap ((x:Int)*2 ^ k)/4294967296%4294967296=((x*2 ^ k/4294967296:Nat):Int):=by
 obtain⟨h0,_⟩:=W2 (Y7 (k:=k) Zo) hx
 have h3:=Ex hk
 rw[up_wide hx hk]
 omega
theorem Wi{A:Option Addr}{n c:Nat}{a:List Nat}(s:Nat)(w:World)(ha:In w A n c a)(hn:n≤1099511627776)(hs:s≤9223372036854775807):
 Calls Tryz.prog 277 #[.slice A n c,Zi s] w (RetX w (val a*2 ^ (min s 4096))):=by
 have hta:=Nw a n
 have Ta:=ha.trim
 have Va:Hid (val (trim a)=val a):=Kh a
 have Ha:=Km ha
 clear ha
 obtain⟨p,hp⟩:∃p,p=tlen a n:=⟨_,rfl⟩
 rw[←hp]at Ta hta
 have HP:=Km hp
 clear hp
 obtain⟨t,ht,hts,hts2⟩:∃t,t≤4096∧((s<4096→t=s)∧(¬s<4096→t=4096))∧min s 4096=t:=⟨min s 4096,by omega,⟨by omega,by omega⟩,rfl⟩
 rw[hts2]
 clear hts2
 have Hts:=Km hts
 clear hts
 go_enter Tryz.func277,Tryz.ntmps277
 go_wp2_with fail
 refine(Lu w (K3 Ha)).mono ?_
 rintro e w' ⟨rfl,rfl⟩
 rw[←K3 HP]
 go_upto_region 13 with fail
 go_cut [1] (fun s1 wx=>s1=Zi t∧wx=w)
 case first=>
  go_wp2_with fail
  all_goals
   go_meet
   refine⟨congrArg (Value.int .i64) ?_,rfl⟩
   have:=K3 Hts
   omega
 case rest=>
  obtain⟨rfl,rfl⟩:=hcut
  clear Hts
  have hmk:=fun W=>Nk W ((p:Int)+(t:Int)/32+1) (p+t/32+1) Zo Zo
  go_wp2_with fail
  go_loopw [76] (fun i wr=>∃(k:Nat) (o:List Nat),k≤p∧i=Zi k∧o.length=p+t/32+1∧N8 o∧Hid (lo o (k+t/32+1)=lo (trim a) k*2 ^ (t%32)*pw (t/32)∧dg o (k+t/32)<2 ^ (t%32))∧Mk wr wc.heap.size 175 o∧Below wc.heap.size wc wr) (fun i _=>p- (intOf i).toNat)
  case atStart=>exact⟨0,_,Nat.zero_le _,rfl,by simp,N8.replicate _,⟨by rw[Zb,N4];omega,by rw[Sv];exact Rc _⟩,Mk.zero wc (p+t/32+1),(Below.refl _ _).alloc (Nat.le_refl _) _⟩
  case round=>
   obtain⟨k,o,hk,rfl,hol,hod,hI,hmo,hbw⟩:=hrel
   have Hol:=Km hol
   clear hol
   by_cases hlt:k<p
   ·obtain⟨ad,hA,hca⟩:=(Ta.below hbw).at_ (k:=k) Zo
    have hx:=Ta.dig k
    have hcell:=hmo.cell (i:=k+t/32) (by rw[K3 Hol];omega)
    have hfz:=hmo.frozen (k+t/32)
    have hcell1:=hmo.cell (i:=k+t/32+1) (by rw[K3 Hol];omega)
    have hfz1:=hmo.frozen (k+t/32+1)
    subst hA
    go_wp2
    have hI1:=(K3 hI).1
    have hI2:=(K3 hI).2
    have hmod:t%32<32:=Nat.mod_lt _ Zo
    have hparts:=W2 (Y7 (k:=t%32) Zo) hx
    rw[up_low hx hmod hI2,up_high hx hmod]
    have hst:=(hmo.set_ (k+t/32) (dg o (k+t/32)+dg (trim a) k*2 ^ (t%32)%4294967296)).set_ (k+t/32+1) (dg (trim a) k*2 ^ (t%32)/4294967296)
    go_roundw
    case rel=>
     refine⟨k+1,_,by omega,by go_num,by rw[List.length_set,List.length_set];exact K3 Hol,(hod.set _ Zo).set _ (Nat.lt_of_lt_of_le hparts.1 (Nat.le_trans (Ex hmod) Zo)),⟨up_step (by rw[K3 Hol];omega) hI1 rfl,?_⟩,hst,(hbw.setCell (Nat.le_refl _) _).setCell (Nat.le_refl _) _⟩
     rw[show k+1+t/32=k+t/32+1 by omega,Q8,if_pos ⟨rfl,by rw[List.length_set,K3 Hol];omega⟩]
     exact hparts.1
    case measure=>simp[intOf];omega
   ·have hk':k=p:=by omega
    subst hk'
    have ho:=hmo.own hod (Nat.le_refl _) (by rw[K3 Hol];unfold maxLen;omega)
    rw[K3 Hol]at ho
    go_wp2_with fail
    refine(Lu _ ho.toIn).mono ?_
    rintro e w' ⟨rfl,rfl⟩
    go_wp2_with fail
    go_ret
    refine⟨_,_,trim o,rfl,Kw hod,?_,ho.trim,hbw⟩
    have hI1:=(K3 hI).1
    rw[Kh,←M6 (l:=o) (Nat.le_of_eq (K3 Hol)),hI1,M6 (by rw[Ta.len];exact Nat.le_refl _),K3 Va,←I6]
theorem down_val{x y t:Nat}(hx:x<4294967296)(hy:y<4294967296)(ht:t<32):
 bits .or .u64 (x:Int) ((y:Int)*4294967296)/2 ^ t%4294967296=(((x+y*4294967296)/2 ^ t%4294967296:Nat):Int):=by
 rw[show(y:Int)*4294967296=((y*4294967296:Nat):Int) by omega,u64_or_nat _ _ Zo Zo,Nat.or_comm,nat_join 32 _ _ Zo Zo,Nat.add_comm,
  Int.natCast_emod,Int.natCast_ediv,Int.natCast_pow]
 rfl
theorem shift_down{A:Option Addr}{n c:Nat}{a:List Nat}(s:Nat)(z:Int)(w:World)(ha:In w A n c a)(hn:n≤1099511627776)(hs:(s:Int)≤9223372036854775808)(h0:0<s)(hz:z= -(s:Int)):
 Calls Tryz.prog 277 #[.slice A n c,Zi z] w (RetX w (val a/2 ^ s)):=by
 have hta:=Nw a n
 have Ta:=ha.trim
 have Va:Hid (val (trim a)=val a):=Kh a
 have Ha:=Km ha
 clear ha
 obtain⟨p,hp⟩:∃p,p=tlen a n:=⟨_,rfl⟩
 rw[←hp]at Ta hta
 have HP:=Km hp
 clear hp
 have hz1:z<0:=by omega
 by_cases hle:32*p≤s
 ·have hz2:z≤-32*(p:Int):=by omega
  have Hz:=Km hz
  clear hz
  go_enter Tryz.func277,Tryz.ntmps277
  go_wp2_with fail
  refine(Lu w (K3 Ha)).mono ?_
  rintro e w' ⟨rfl,rfl⟩
  rw[←K3 HP]
  go_wp2_with fail
  go_ret
  refine⟨none,0,[],rfl,Mx.nil,?_,Py.nil_,Below.refl _ _⟩
  have h1:=Mi Ta.dig (by rw[Ta.len];exact Nat.le_refl p)
  rw[K3 Va,Sj]at h1
  have h2:2 ^ (32*p)≤2 ^ s:=Nat.pow_le_pow_right Zo hle
  rw[Nat.div_eq_of_lt Zo]
  rfl
 ·obtain⟨h,hh⟩:∃h,h=s/32:=⟨_,rfl⟩
  obtain⟨t,ht⟩:∃t,t=s%32:=⟨_,rfl⟩
  have hz2:¬z≤-32*(p:Int):=by omega
  have hz3: -9223372036854775807≤z:=by omega
  have e1:wrap64 (-(z.tdiv 32))=(h:Int):=by
   rw[hz,Int.neg_tdiv,Int.neg_neg,Int.tdiv_eq_ediv_of_nonneg Zo,IntWalk.wrap64_in _ ⟨by omega,by omega⟩];omega
  have e2: -(z.tmod 32)=(t:Int):=by
   rw[hz,Int.neg_tmod,Int.neg_neg,Int.tmod_eq_emod_of_nonneg Zo];omega
  have htb:t<32:=by omega
  have hhp:h<p:=by omega
  have Hz:=Km hz
  have Hh:=Km hh
  have Ht:=Km ht
  clear hz hh ht hle
  obtain⟨b,hb⟩:∃b,b=(trim a).drop h:=⟨_,rfl⟩
  have hbd:∀i,dg b i=dg (trim a) (h+i):=fun i=>by rw[hb,Qq]
  have hbl:b.length=p-h:=by rw[hb,List.length_drop,Ta.len]
  have hbD:N8 b:=by rw[hb];exact Ta.dig.drop h
  have hbv:val b=val a/pw h:=by rw[hb,Eu _ _ Ta.dig,K3 Va]
  have HB:=Km (And.intro hbd (And.intro hbl hbv))
  clear hbd hbl hbv hb
  have hmk:=fun W=>Nk W ((p:Int)-h) (p-h) Zo Zo
  go_enter Tryz.func277,Tryz.ntmps277
  go_wp2_with fail
  refine(Lu w (K3 Ha)).mono ?_
  rintro e w' ⟨rfl,rfl⟩
  rw[←K3 HP]
  go_upto_region 6 with fail
  simp only[e1,e2]
  clear e1 e2
  go_wp2_with fail
  go_loopw [37] (fun i wr=>∃(k:Nat) (o:List Nat),k≤p-h∧i=Zi k∧o.length=p-h∧N8 o∧Hid (lo o k+pw k*(dg b k/2 ^ t)=lo b (k+1)/2 ^ t)∧Mk wr w.heap.size 175 o∧Below w.heap.size w wr) (fun i _=>p-h- (intOf i).toNat)
  case atStart=>exact⟨0,_,Nat.zero_le _,rfl,by simp,N8.replicate _,(show _=_ by rw[Zb,La,N4,Fd];simp),Mk.zero w (p-h),(Below.refl _ _).alloc (Nat.le_refl _) _⟩
  case round=>
   obtain⟨k,o,hk,rfl,hol,hod,hI,hmo,hbw⟩:=hrel
   have Hol:=Km hol
   clear hol
   by_cases hlt:k<p-h
   ·have hx:=Ta.dig (k+h)
    have hy:=Ta.dig (k+h+1)
    have hcell:=hmo.cell (i:=k) (by rw[K3 Hol];omega)
    have hfz:=hmo.frozen k
    go_wp2_with fail
    refine(D6 _ _ (Ta.below hbw) Zo).mono ?_
    rintro e w' ⟨rfl,rfl⟩
    go_wp2_with fail
    refine(D6 _ _ (Ta.below hbw) Zo).mono ?_
    rintro e w' ⟨rfl,rfl⟩
    go_wp2
    have hB:=K3 HB
    have q1:dg (trim a) (k+h)=dg b k:=by rw[hB.1,Nat.add_comm]
    have q2:dg (trim a) (k+h+1)=dg b (k+1):=by rw[hB.1];congr 1;omega
    rw[q1]at hx
    rw[q2]at hy
    rw[q1,q2,down_val hx hy htb]
    have hst:=hmo.set_ k ((dg b k+dg b (k+1)*4294967296)/2 ^ t%4294967296)
    go_roundw
    case rel=>exact⟨k+1,_,by omega,by go_num,by rw[List.length_set];exact K3 Hol,hod.set _ (Nat.mod_lt _ Zo),down_step (Y7 Zo) hbD (by rw[K3 Hol];omega) (K3 hI) rfl,hst,hbw.setCell (Nat.le_refl _) _⟩
    case measure=>simp[intOf];omega
   ·have hk':k=p-h:=by omega
    subst hk'
    have ho:=hmo.own hod (Nat.le_refl _) (by rw[K3 Hol];unfold maxLen;omega)
    rw[K3 Hol]at ho
    go_wp2_with fail
    refine(Lu _ ho.toIn).mono ?_
    rintro e w' ⟨rfl,rfl⟩
    go_wp2_with fail
    go_ret
    refine⟨_,_,trim o,rfl,Kw hod,?_,ho.trim,hbw⟩
    have hB:=K3 HB
    rw[Kh,down_end (b:=b) (by rw[hB.2.1];exact K3 Hol) (by rw[hB.2.1];exact K3 hI),hB.2.2,K3 Hh,K3 Ht,←shift_div]
theorem shift_c{A:Option Addr}{n c:Nat}{a:List Nat}(z:Int)(w:World)(ha:In w A n c a)(hn:n≤1099511627776)(h1: -9223372036854775808≤z)(h2:z≤9223372036854775807):
 Calls Tryz.prog 277 #[.slice A n c,Zi z] w (RetX w (B5 (val a) z)):=by
 unfold B5
 by_cases h:0≤z
 ·obtain⟨s,rfl⟩:=Int.eq_ofNat_of_zero_le h
  rw[if_pos h,Int.toNat_natCast]
  exact Wi s w ha hn Zo
 ·rw[if_neg h]
  exact shift_down (-z).toNat z w ha hn Zo Zo Zo
end Go.Proofs.YtoeiphicmcndlaaGreatDoor
