/-
 A part of the proof.
-/
import Derived.Test.YtpgkbllcnphmbaaGreatDoorBNum
import Derived.Deep.DeepCutAuto
import Derived.Lib.BitFns
namespace Go.Proofs.YtpgkbllcnphmbaaGreatDoor
set_option maxRecDepth 100000
set_option maxHeartbeats 8000000
set_option linter.unusedVariables false
set_option linter.unusedSimpArgs false
open Go.RowKit
theorem In.qd{w w':World}{A:Option Addr}{n c:Nat}{l:List Nat}(h:In w A n c l)(hq:Qd w w'):In w' A n c l:=by
 obtain⟨q,rfl⟩:=hq;exact h.drewN q
theorem Qd.below{w w':World}(h:Qd w w')(B:Nat):Below B w w':=by
 obtain⟨q,rfl⟩:=h;exact P5 (Below.refl _ _) q
theorem Lm(x:Int):IntKind.u64.wrap x=x%18446744073709551616:=IntKind.wrap_u64 x
theorem sub_c{A B:Option Addr}{n c m d:Nat}{a b:List Nat}(w:World)(ha:In w A n c a)(hb:In w B m d b)(hn:n≤1099511627776):
 Calls Tryz.prog 177 #[.slice A n c,.slice B m d] w fun e w'=>∃A' n' c' l,e= .returned (.tuple #[.slice A' n' c',.bool (decide (val b≤val a))])∧Pp l∧val l=val a-val b∧Sr w' w.heap.size A' n' c' l∧Below w.heap.size w w':=by
 have Ha:=Le ha
 have Hb:=Le hb
 have ht:=Mz a n
 by_cases hcmp:val a<val b
 ·have K:Hid (Vs (val a) (val b)= -1):=Dh hcmp
  have Hc:=Le hcmp
  clear hcmp
  go_enter Tryz.func177,Tryz.ntmps177
  go_wp2_with fail
  refine(cmp_c w ha hb).mono ?_
  rintro e w' ⟨rfl,⟨q,rfl⟩⟩
  rw[K5 K]
  go_wp2_with fail
  go_ret2
  have:=K5 Hc
  exact⟨none,0,0,[],by rw[decide_eq_false Zo];rfl,Pp.nil,by rw[I6];omega,Sr.nil_,P5 (Below.refl _ _) _⟩
 ·obtain⟨z,hz0,K⟩:∃z,(0:Int)≤z∧Hid (Vs (val a) (val b)=z):=by
   refine⟨_,?_,rfl⟩
   unfold Vs
   rw[if_neg hcmp];split<;>omega
  have Hc:=Le hcmp
  clear hcmp ha hb
  have hmk:=fun W=>Oa W (tlen a n) (tlen a n) rfl Zo
  go_enter Tryz.func177,Tryz.ntmps177
  go_wp2_with fail
  refine(cmp_c w (K5 Ha) (K5 Hb)).mono ?_
  rintro e w' ⟨rfl,⟨q,rfl⟩⟩
  rw[K5 K]
  go_wp2_with fail
  refine(Li _ ((K5 Ha).drewN q)).mono ?_
  rintro e w' ⟨rfl,rfl⟩
  go_wp2_with fail
  have hM:=(Mk.zero w (tlen a n))
  go_loopw [7,20] (fun cy i wr=>∃(k y:Nat) (o:List Nat),k≤tlen a n∧i= .int .i64 k∧cy= .int .u64 y∧o.length=tlen a n∧O3 o∧y≤1∧lo o k+lo b k=lo a k+y*pw k∧Mk wr w.heap.size 144 o∧Below w.heap.size w wr) (fun _ i _=>tlen a n- (intOf i).toNat)
  case atStart=>exact⟨0,0,_,Nat.zero_le _,rfl,rfl,by simp,O3.replicate _,by omega,by simp[O0],hM,P5 ((Below.refl _ _).alloc (Nat.le_refl _) _) _⟩
  case round=>
   obtain⟨k,y,o,hk,rfl,rfl,hol,hod,hy,hsum,hmk,hbw⟩:=hrel
   clear hM
   have Hol:=Le hol
   have Hsum:=Le hsum
   clear hol hsum
   by_cases hlt:k<tlen a n
   ·have hda:=(K5 Ha).dig k
    have hdb:=(K5 Hb).dig k
    have hcell:=hmk.cell (i:=k) (by rw[K5 Hol];exact hlt)
    have hfz:=hmk.frozen k
    go_wp2_with fail
    refine(Xm _ _ ((K5 Ha).below hbw) Zo).mono ?_
    rintro e w' ⟨rfl,rfl⟩
    go_wp2_with fail
    refine(Xm _ _ ((K5 Hb).below hbw) Zo).mono ?_
    rintro e w' ⟨rfl,rfl⟩
    by_cases hge:dg b k+y≤dg a k
    ·go_wp2
     have hst:=hmk.set_ k (dg a k-dg b k-y)
     rw[show((dg a k-dg b k-y:Nat):Int)=(dg a k:Int)-dg b k-y by omega]at hst
     go_roundw
     case rel=>exact⟨k+1,0,_,by omega,by go_num,congrArg (Value.int .u64) Zo,by rw[List.length_set];exact K5 Hol,hod.set _ Zo,by omega,Dw (by rw[K5 Hol];exact hlt) (K5 Hsum) Zo,hst,hbw.setCell (Nat.le_refl _) _⟩
     case measure=>simp[intOf];omega
    ·have hst:=hmk.set_ k (dg a k+4294967296-dg b k-y)
     by_cases hg2:dg b k≤dg a k
     ·go_wp2
      rw[show((dg a k+4294967296-dg b k-y:Nat):Int)=IntKind.u64.wrap ((dg a k:Int)-dg b k-y)%4294967296 by rw[Lm];omega]at hst
      go_roundw
      case rel=>exact⟨k+1,1,_,by omega,by go_num,congrArg (Value.int .u64) (by rw[Lm];omega),by rw[List.length_set];exact K5 Hol,hod.set _ Zo,by omega,Dw (by rw[K5 Hol];exact hlt) (K5 Hsum) Zo,hst,hbw.setCell (Nat.le_refl _) _⟩
      case measure=>simp[intOf];omega
     ·go_wp2
      rw[show((dg a k+4294967296-dg b k-y:Nat):Int)=IntKind.u64.wrap (IntKind.u64.wrap ((dg a k:Int)-dg b k)-y)%4294967296 by rw[Lm,Lm];omega]at hst
      go_roundw
      case rel=>exact⟨k+1,1,_,by omega,by go_num,congrArg (Value.int .u64) (by rw[Lm,Lm];omega),by rw[List.length_set];exact K5 Hol,hod.set _ Zo,by omega,Dw (by rw[K5 Hol];exact hlt) (K5 Hsum) Zo,hst,hbw.setCell (Nat.le_refl _) _⟩
      case measure=>simp[intOf];omega
   ·have hk':k=tlen a n:=by omega
    subst hk'
    have ho:=hmk.own hod (Nat.le_refl _) (by rw[K5 Hol];unfold maxLen;omega)
    rw[K5 Hol]at ho
    go_wp2_with fail
    refine(Li _ ho.toIn).mono ?_
    rintro e w' ⟨rfl,rfl⟩
    go_wp2_with fail
    go_ret2
    have ha:=K5 Ha
    have hb:=K5 Hb
    have hc:=K5 Hc
    have hl:=ha.trim.len
    have hd:decide (val b≤val a)=true:=decide_eq_true Zo
    rw[hd]
    refine⟨_,_,_,trim o,rfl,Lz hod,?_,ho.trim,hbw⟩
    rw[Kr]
    exact sub_end (by rw[hl];exact K5 Hol) hod ha.dig Zo (by rw[hl];exact K5 Hsum)
theorem mul_c{A B:Option Addr}{n c m d:Nat}{a b:List Nat}(w:World)(ha:In w A n c a)(hb:In w B m d b)(hn:n≤1099511627776)(hm:m≤1099511627776):
 Calls Tryz.prog 178 #[.slice A n c,.slice B m d] w (Cx w (val a*val b)):=by
 have hta:=Mz a n
 have htb:=Mz b m
 have Ta:=ha.trim
 have Tb:=hb.trim
 have Va:Hid (val (trim a)=val a):=Kr a
 have Vb:Hid (val (trim b)=val b):=Kr b
 have Ha:=Le ha
 have Hb:=Le hb
 clear ha hb
 obtain⟨p,hp⟩:∃p,p=tlen a n:=⟨_,rfl⟩
 obtain⟨q,hq⟩:∃q,q=tlen b m:=⟨_,rfl⟩
 rw[←hp]at Ta hta
 rw[←hq]at Tb htb
 have HP:=Le hp
 have HQ:=Le hq
 clear hp hq
 have hmk:=fun W=>Oa W ((p:Int)+q) (p+q) Zo Zo
 go_enter Tryz.func178,Tryz.ntmps178
 go_wp2_with fail
 go_step3
 go_wp2_with fail
 refine(Li w (K5 Ha)).mono ?_
 rintro e w' ⟨rfl,rfl⟩
 rw[←K5 HP]
 go_wp2_with fail
 refine(Li w (K5 Hb)).mono ?_
 rintro e w' ⟨rfl,rfl⟩
 rw[←K5 HQ]
 go_wp2_with fail
 go_step3
 go_wp2_with fail
 go_loopw [23] (fun i wr=>∃(k:Nat) (o:List Nat),k≤p∧i= .int .i64 k∧o.length=p+q∧O3 o∧Hid (val o=lo (trim a) k*val (trim b)∧∀j,k+q≤j→dg o j=0)∧Mk wr w.heap.size 144 o∧Below w.heap.size w wr) (fun i _=>p- (intOf i).toNat)
 case atStart=>exact⟨0,_,Nat.zero_le _,rfl,by simp,O3.replicate _,⟨by rw[G0,O0];omega,fun j _=>Rw⟩,Mk.zero w (p+q),(Below.refl _ _).alloc (Nat.le_refl _) _⟩
 case round=>
  obtain⟨k,o,hk,rfl,hol,hod,hI,hmo,hbw⟩:=hrel
  have Hol:=Le hol
  clear hol
  by_cases hlt:k<p
  ·obtain⟨ad,hA,hca⟩:=(Ta.below hbw).at_ (k:=k) Zo
   subst hA
   have hx:=Ta.dig k
   by_cases h0:dg (trim a) k=0
   ·have hz:(((dg (trim a) k:Nat):Int)==0)=true:=by simp[h0]
    have H0:=Le h0
    clear h0
    go_wp2
    go_roundw
    case rel=>exact⟨k+1,o,by omega,by go_num,K5 Hol,hod,⟨by rw[Lc,K5 H0,Nat.zero_mul,Nat.add_zero];exact(K5 hI).1,fun j hj=>(K5 hI).2 j Zo⟩,hmo,hbw⟩
    case measure=>simp[intOf];omega
   ·have hz:(((dg (trim a) k:Nat):Int)==0)=false:=by simpa using h0
    clear h0
    go_wp2
    obtain⟨wo,rfl⟩:∃wo:World,wo=wr:=⟨_,rfl⟩
    go_loopw [8,32] (fun cy i wr=>∃(j y:Nat) (r:List Nat),j≤q∧i= .int .i64 j∧cy= .int .u64 y∧y<4294967296∧r.length=p+q∧O3 r∧Hid (lo r (k+j)+y*pw (k+j)=lo o (k+j)+dg (trim a) k*lo (trim b) j*pw k∧∀t,k+j≤t→dg r t=dg o t)∧Mk wr w.heap.size 144 r∧Below w.heap.size w wr) (fun _ i _=>q- (intOf i).toNat)
    case atStart=>exact⟨0,0,o,Nat.zero_le _,rfl,rfl,by omega,K5 Hol,hod,⟨by rw[O0];omega,fun _ _=>rfl⟩,hmo,hbw⟩
    case round=>
     obtain⟨j,y,r,hj,rfl,rfl,hy,hrl,hrd,hJ,hmr,hbr⟩:=hrel
     have Hrl:=Le hrl
     clear hrl
     by_cases hlt2:j<q
     ·obtain⟨bd,hB,hcb⟩:=(Tb.below hbr).at_ (k:=j) Zo
      subst hB
      have hy2:=Tb.dig j
      have hr2:=hrd (k+j)
      have hxy:=H5 hx hy2
      have hcell:=hmr.cell (i:=k+j) (by rw[K5 Hrl];omega)
      have hfz:=hmr.frozen (k+j)
      go_wp2
      obtain⟨s,hs⟩:∃s,s=y+(dg (trim a) k*dg (trim b) j+dg r (k+j)):=⟨_,rfl⟩
      have hsi:(s:Int)=(y:Int)+((dg (trim a) k:Int)*(dg (trim b) j:Int)+(dg r (k+j):Int)):=by
       rw[hs,Int.natCast_add,Int.natCast_add,Int.natCast_mul]
      rw[←hsi]
      have hst:=hmr.set_ (k+j) (s%4294967296)
      rw[show((s%4294967296:Nat):Int)=(s:Int)%4294967296 by omega]at hst
      go_roundw
      case rel=>
       refine⟨j+1,s/4294967296,_,by omega,by go_num,congrArg (Value.int .u64) Zo,by omega,by rw[List.length_set];exact K5 Hrl,hrd.set _ Zo,⟨?_,fun t ht=> ?_⟩,hst,hbr.setCell (Nat.le_refl _) _⟩
       ·exact mul_step (by rw[K5 Hrl];omega) ((K5 hJ).2 _ (Nat.le_refl _)) (K5 hJ).1 hs
       ·rw[P4,if_neg Zo];exact(K5 hJ).2 t Zo
      case measure=>simp[intOf];omega
     ·have hj':j=q:=by omega
      subst hj'
      have hcell:=hmr.cell (i:=k+j) (by rw[K5 Hrl];omega)
      have hfz:=hmr.frozen (k+j)
      go_wp2
      have hst:=hmr.set_ (k+j) y
      go_roundw
      case rel=>
       have hrow:=mul_row (a:=trim a) (b:=trim b) (by rw[K5 Hrl];omega) rfl (by rw[Mm (by rw[Tb.len];exact Nat.le_refl _)]) (K5 hI).1 (K5 hI).2 (K5 hJ).2 (K5 hJ).1
       exact⟨k+1,_,by omega,by go_num,by rw[List.length_set];exact K5 Hrl,hrd.set _ hy,hrow,hst,hbr.setCell (Nat.le_refl _) _⟩
      case measure=>simp[intOf];omega
  ·have hk':k=p:=by omega
   subst hk'
   have ho:=hmo.own hod (Nat.le_refl _) (by rw[K5 Hol];unfold maxLen;omega)
   rw[K5 Hol]at ho
   go_wp2_with fail
   refine(Li _ ho.toIn).mono ?_
   rintro e w' ⟨rfl,rfl⟩
   go_wp2_with fail
   try rw[Exit.noGoto_ret]
   go_ret
   refine⟨_,_,_,trim o,rfl,Lz hod,?_,ho.trim,hbw⟩
   rw[Kr,(K5 hI).1,K5 Vb,Mm (by rw[Ta.len];exact Nat.le_refl _),K5 Va]
theorem D9{x y:Nat}(hx:x<4294967296)(hy:y<4294967296):bits .or .u64 ((x:Int)*4294967296) (y:Int)=((x*4294967296+y:Nat):Int):=by
 rw[show(x:Int)*4294967296=((x*4294967296:Nat):Int) by omega,u64_or_nat _ _ Zo Zo,nat_join 32 _ _ Zo Zo]
theorem one_c{A:Option Addr}{n c:Nat}{a:List Nat}(d:Nat)(w:World)(ha:In w A n c a)(hn:n≤1099511627776)(h0:0<d)(h1:d<4294967296):
 Calls Tryz.prog 247 #[.slice A n c,.int .u32 d] w fun e w'=>∃A' n' c' l,e= .returned (.tuple #[.slice A' n' c',.int .u32 ((val a%d:Nat):Int)])∧Pp l∧val l=val a/d∧Sr w' w.heap.size A' n' c' l∧Below w.heap.size w w':=by
 have hmk:=fun W=>Oa W (n:Int) n rfl Zo
 have Hl:=Le ha.len
 go_enter Tryz.func247,Tryz.ntmps247
 go_wp2_with fail
 go_loopw [7,8] (fun re i wr=>∃(k r:Nat) (z:Int) (o:List Nat),k≤n∧z+1=k∧i= .int .i64 z∧re= .int .u64 r∧r<d∧o.length=n∧O3 o∧Hid (val (o.drop k)*d+r=val (a.drop k))∧Mk wr w.heap.size 144 o∧Below w.heap.size w wr) (fun _ i _=>(intOf i+1).toNat)
 case atStart=>exact⟨n,0,(n:Int)-1,_,Nat.le_refl _,by omega,rfl,rfl,h0,by simp,O3.replicate _,(show val ((List.replicate n 0).drop n)*d+0=val (a.drop n) by rw[Tw (l:=a) (by rw[K5 Hl];exact Nat.le_refl _),Tw Zs];omega),Mk.zero w n,(Below.refl _ _).alloc (Nat.le_refl _) _⟩
 case round=>
  obtain⟨k,r,z,o,hk,hz,rfl,rfl,hr,hol,hod,hI,hmo,hbw⟩:=hrel
  have Hol:=Le hol
  clear hol
  by_cases hk0:k=0
  ·subst hk0
   obtain rfl:z= -1:=by omega
   clear hz
   have ho:=hmo.own hod (Nat.le_refl _) (by rw[K5 Hol];unfold maxLen;omega)
   rw[K5 Hol]at ho
   go_wp2_with fail
   refine(Li _ ho.toIn).mono ?_
   rintro e w' ⟨rfl,rfl⟩
   go_wp2_with fail
   go_ret2
   obtain⟨e1,e2⟩:=F5 (K5 hI) hr
   simp only[List.drop_zero]at e1 e2
   subst e2
   exact⟨_,_,_,trim o,rfl,Lz hod,by rw[Kr];exact e1,ho.trim,hbw⟩
  ·obtain⟨j,rfl⟩:∃j,k=j+1:=⟨k-1,by omega⟩
   obtain rfl:z=(j:Int):=by omega
   clear hz hk0
   obtain⟨ad,hA,hca⟩:=(ha.below hbw).at_ (k:=j) Zo
   have hx:=ha.dig j
   have hcell:=hmo.cell (i:=j) (by rw[K5 Hol];omega)
   have hfz:=hmo.frozen j
   have hor:=D9 (x:=r) (y:=dg a j) Zo hx
   subst hA
   have hdiv:=div_digit hr hx
   have hmod:=Nat.mod_lt (r*4294967296+dg a j) h0
   go_wp2
   have hst:=hmo.set_ j ((r*4294967296+dg a j)/d)
   have e1:(((r*4294967296+dg a j)/d:Nat):Int)=((r:Int)*4294967296+dg a j)/d%4294967296:=by
    have e:(((r*4294967296+dg a j)/d:Nat):Int)=((r:Int)*4294967296+dg a j)/d:=by rw[Int.natCast_ediv];rfl
    rw[←e];exact(Int.emod_eq_of_lt (Int.natCast_nonneg _) (Int.ofNat_lt.2 hdiv)).symm
   have e2:(((r*4294967296+dg a j)%d:Nat):Int)=((r:Int)*4294967296+dg a j)%d:=by rw[Int.natCast_emod];rfl
   rw[e1]at hst
   go_roundw
   case rel=>exact⟨j,(r*4294967296+dg a j)%d,(j:Int)-1,_,by omega,by omega,rfl,by rw[e2],hmod,by rw[List.length_set];exact K5 Hol,hod.set _ hdiv,div_step (by rw[K5 Hl];omega) (by rw[K5 Hol];omega) (K5 hI) rfl rfl,hst,hbw.setCell (Nat.le_refl _) _⟩
   case measure=>simp[intOf]
def RetX(w:World)(k:Nat)(e:Ending)(w':World):Prop:=
 ∃A n l,e= .returned (.slice A n n)∧Pp l∧val l=k∧Sr w' w.heap.size A n n l∧Below w.heap.size w w'
theorem V6(k:Nat):pw k=2 ^ (32*k):=by
 rw[pw,Nat.pow_mul]
theorem Rs(k:Nat):0<2 ^ k:=Nat.pow_pos Zo
theorem Dt{k:Nat}(h:k<32):2 ^ k≤2147483648:=by
 have:2 ^ k≤2 ^ 31:=Nat.pow_le_pow_right Zo Zo
 simpa using this
theorem X7{k:Nat}(h:k≤32):2 ^ k*2 ^ (32-k)=4294967296:=by
 rw[←Nat.pow_add,show k+(32-k)=32 by omega]
theorem Dr{x c e : Nat}(hc:c*e=4294967296)(hx:x<4294967296):x*c/4294967296<c∧x*c%4294967296%c=0∧x*c%4294967296+c≤4294967296:=by
 have hc0 : 0 < c := by rcases Nat.eq_zero_or_pos c with h|h;· subst h;omega
                        ·exact h
 have he0 : 0 < e := by rcases Nat.eq_zero_or_pos e with h|h;· subst h;omega
                        ·exact h
 refine⟨?_,?_,?_⟩
 ·rw[Nat.div_lt_iff_lt_mul Zo,Nat.mul_comm]
  exact Nat.mul_lt_mul_of_pos_left hx hc0
 ·rw[←hc,Nat.mod_mul_right_mod,Nat.mul_mod_left]
 ·have h1:x*c%4294967296=x%e*c:=by
   rw[←hc,Nat.mul_comm c e,Nat.mul_mod_mul_right]
  rw[h1]
  have h2:(x%e+1)*c≤e*c:=Nat.mul_le_mul_right _ (Nat.mod_lt _ he0)
  rw[Nat.add_mul,Nat.mul_comm e c,hc]at h2
  omega
theorem up_step{a o:List Nat}{k h c x:Nat}(hlen:k+h+1<o.length)
 (hI:lo o (k+h+1)=lo a k*c*pw h) (hx:x=dg a k):
 lo ((o.set (k+h) (dg o (k+h)+x*c%4294967296)).set (k+h+1) (x*c/4294967296)) (k+1+h+1)=lo a (k+1)*c*pw h:=by
 rw[show k+1+h+1=(k+h+1)+1 by omega,Oz (by rw[List.length_set];omega),show k+h+1=(k+h)+1 by omega,Oz Zo,Lc a,←hx]
 rw[Lc]at hI
 have e:=Nat.div_add_mod (x*c) 4294967296
 generalize x*c%4294967296=r at e ⊢
 generalize x*c/4294967296=q at e ⊢
 rw[Ms]
 rw[pw_add]at hI ⊢
 have e2:(r+q*4294967296)*(pw k*pw h)=x*c*(pw k*pw h):=by rw[←e];grind
 grind
theorem down_digit{x y c e:Nat}(hc:c*e=4294967296)(hx:x<4294967296)(hy:y<4294967296):
 (x+y*4294967296)/c=x/c+y*e∧(x+y*4294967296)/c%4294967296+y/c*4294967296=x/c+y*e:=by
 have hc0 : 0 < c := by rcases Nat.eq_zero_or_pos c with h|h;· subst h;omega
                        ·exact h
 have he0 : 0 < e := by rcases Nat.eq_zero_or_pos e with h|h;· subst h;omega
                        ·exact h
 have h1:(x+y*4294967296)/c=x/c+y*e:=by
  rw[←hc,show y*(c*e)=y*e*c by grind,Nat.add_mul_div_right _ _ hc0]
 refine⟨h1,?_⟩
 rw[h1]
 have h2:x/c<e:=by rw[Nat.div_lt_iff_lt_mul hc0,Nat.mul_comm,hc];exact hx
 have h3:=Nat.div_add_mod y c
 have h4:y%c*e+e≤4294967296:=by
  have:(y%c+1)*e≤c*e:=Nat.mul_le_mul_right _ (Nat.mod_lt _ hc0)
  rw[Nat.add_mul,hc]at this;omega
 have h5:y*e=y/c*4294967296+y%c*e:=by rw[←hc];grind
 rw[h5]
 have h6:(x/c+(y/c*4294967296+y%c*e))%4294967296=x/c+y%c*e:=by
  rw[show x/c+(y/c*4294967296+y%c*e)=(x/c+y%c*e)+y/c*4294967296 by omega,Nat.add_mul_mod_self_right,Nat.mod_eq_of_lt Zo]
 rw[h6];omega
theorem down_step{b o : List Nat}{k c e d:Nat}(hc:c*e=4294967296)(hb:O3 b)(hk:k<o.length)
 (hI:lo o k+pw k*(dg b k/c)=lo b (k+1)/c) (hd:d=(dg b k+dg b (k+1)*4294967296)/c%4294967296):
 lo (o.set k d) (k+1)+pw (k+1)*(dg b (k+1)/c)=lo b (k+1+1)/c:=by
 have hc0 : 0 < c := by rcases Nat.eq_zero_or_pos c with h|h;· subst h;omega
                        ·exact h
 have h1:=(down_digit hc (hb k) (hb (k+1))).2
 rw[←hd]at h1
 rw[Oz hk,Lc b (k+1),Ms]
 have h2:(lo b (k+1)+dg b (k+1)*(pw k*4294967296))/c=lo b (k+1)/c+dg b (k+1)*e*pw k:=by
  rw[←hc,show dg b (k+1)*(pw k*(c*e))=(dg b (k+1)*e*pw k)*c by grind,Nat.add_mul_div_right _ _ hc0]
 rw[h2,←hI]
 have h3:(d+dg b (k+1)/c*4294967296)*pw k=(dg b k/c+dg b (k+1)*e)*pw k:=by rw[h1]
 grind
theorem down_end{b o:List Nat}{c:Nat}(hlen:o.length=b.length)(hI:lo o b.length+pw b.length*(dg b b.length/c)=lo b (b.length+1)/c):val o=val b/c:=by
 rw[Ua (Nat.le_refl _),Nat.zero_div,Mm Zo,Mm Zo]at hI
 simpa using hI
theorem I8(a:List Nat)(k:Nat)(h:O3 a):val (a.drop k)=val a/pw k:=by
 have h1:=Dd a k
 have h2:=Cd h k
 rw[h1,Nat.add_mul_div_left _ _ (Yc k),Nat.div_eq_of_lt h2];omega
theorem shift_split{v t:Nat}:v*2 ^ t=v*2 ^ (t%32)*pw (t/32):=by
 rw[V6,Nat.mul_assoc,←Nat.pow_add]
 congr 2
 omega
theorem shift_div{v t:Nat}:v/2 ^ t=v/pw (t/32)/2 ^ (t%32):=by
 rw[Nat.div_div_eq_div_mul,V6,←Nat.pow_add]
 congr 2
 omega
def Ir(v:Nat)(n:Int):Nat:=if 0≤n then v*2 ^ (min n.toNat 4096)else v/2 ^ (-n).toNat
theorem up_wide{x k:Nat}(hx:x<4294967296)(hk:k<32):IntKind.u64.wrap ((x:Int)*2 ^ k)=((x*2 ^ k:Nat):Int):=by
 have h1:=Dt hk
 have h2:x*2 ^ k≤4294967295*2147483648:=Nat.mul_le_mul Zo h1
 have e:(x:Int)*2 ^ k=((x*2 ^ k:Nat):Int):=by rw[Int.natCast_mul,Int.natCast_pow];rfl
 rw[e,Lm]
 generalize x*2 ^ k=y at h2 ⊢
 omega
theorem up_low{x k d:Nat}(hx:x<4294967296)(hk:k<32)(hd:d<2 ^ k):
 bits .or .u32 (d:Int) (IntKind.u64.wrap ((x:Int)*2 ^ k)%4294967296)=((d+x*2 ^ k%4294967296:Nat):Int):=by
 obtain⟨_,h1,h2⟩:=Dr (X7 (k:=k) Zo) hx
 have h3:=Rs k
 rw[up_wide hx hk,show((x*2 ^ k:Nat):Int)%4294967296=((x*2 ^ k%4294967296:Nat):Int) by omega,u32_or_nat _ _ Zo Zo,Nat.or_comm,nat_join k _ _ h1 hd,Nat.add_comm]
theorem up_high{x k:Nat}(hx:x<4294967296)(hk:k<32):
 IntKind.u64.wrap ((x:Int)*2 ^ k)/4294967296%4294967296=((x*2 ^ k/4294967296:Nat):Int):=by
 obtain⟨h0,_⟩:=Dr (X7 (k:=k) Zo) hx
 have h3:=Dt hk
 rw[up_wide hx hk]
 omega
theorem E1{A:Option Addr}{n c:Nat}{a:List Nat}(s:Nat)(w:World)(ha:In w A n c a)(hn:n≤1099511627776)(hs:s≤9223372036854775807):
 Calls Tryz.prog 249 #[.slice A n c,.int .i64 s] w (RetX w (val a*2 ^ (min s 4096))):=by
 have hta:=Mz a n
 have Ta:=ha.trim
 have Va:Hid (val (trim a)=val a):=Kr a
 have Ha:=Le ha
 clear ha
 obtain⟨p,hp⟩:∃p,p=tlen a n:=⟨_,rfl⟩
 rw[←hp]at Ta hta
 have HP:=Le hp
 clear hp
 obtain⟨t,ht,hts,hts2⟩:∃t,t≤4096∧((s<4096→t=s)∧(¬s<4096→t=4096))∧min s 4096=t:=⟨min s 4096,by omega,⟨by omega,by omega⟩,rfl⟩
 rw[hts2]
 clear hts2
 have Hts:=Le hts
 clear hts
 go_enter Tryz.func249,Tryz.ntmps249
 go_wp2_with fail
 refine(Li w (K5 Ha)).mono ?_
 rintro e w' ⟨rfl,rfl⟩
 rw[←K5 HP]
 go_upto_region 13 with fail
 go_cut [1] (fun s1 wx=>s1= .int .i64 t∧wx=w)
 case first=>
  go_wp2_with fail
  all_goals
   go_meet
   refine⟨congrArg (Value.int .i64) ?_,rfl⟩
   have:=K5 Hts
   omega
 case rest=>
  obtain⟨rfl,rfl⟩:=hcut
  clear Hts
  have hmk:=fun W=>Oa W ((p:Int)+(t:Int)/32+1) (p+t/32+1) Zo Zo
  go_wp2_with fail
  go_loopw [76] (fun i wr=>∃(k:Nat) (o:List Nat),k≤p∧i= .int .i64 k∧o.length=p+t/32+1∧O3 o∧Hid (lo o (k+t/32+1)=lo (trim a) k*2 ^ (t%32)*pw (t/32)∧dg o (k+t/32)<2 ^ (t%32))∧Mk wr wc.heap.size 144 o∧Below wc.heap.size wc wr) (fun i _=>p- (intOf i).toNat)
  case atStart=>exact⟨0,_,Nat.zero_le _,rfl,by simp,O3.replicate _,⟨by rw[U7,O0];omega,by rw[Rw];exact Rs _⟩,Mk.zero wc (p+t/32+1),(Below.refl _ _).alloc (Nat.le_refl _) _⟩
  case round=>
   obtain⟨k,o,hk,rfl,hol,hod,hI,hmo,hbw⟩:=hrel
   have Hol:=Le hol
   clear hol
   by_cases hlt:k<p
   ·obtain⟨ad,hA,hca⟩:=(Ta.below hbw).at_ (k:=k) Zo
    have hx:=Ta.dig k
    have hcell:=hmo.cell (i:=k+t/32) (by rw[K5 Hol];omega)
    have hfz:=hmo.frozen (k+t/32)
    have hcell1:=hmo.cell (i:=k+t/32+1) (by rw[K5 Hol];omega)
    have hfz1:=hmo.frozen (k+t/32+1)
    subst hA
    go_wp2
    have hI1:=(K5 hI).1
    have hI2:=(K5 hI).2
    have hmod:t%32<32:=Nat.mod_lt _ Zo
    have hparts:=Dr (X7 (k:=t%32) Zo) hx
    rw[up_low hx hmod hI2,up_high hx hmod]
    have hst:=(hmo.set_ (k+t/32) (dg o (k+t/32)+dg (trim a) k*2 ^ (t%32)%4294967296)).set_ (k+t/32+1) (dg (trim a) k*2 ^ (t%32)/4294967296)
    go_roundw
    case rel=>
     refine⟨k+1,_,by omega,by go_num,by rw[List.length_set,List.length_set];exact K5 Hol,(hod.set _ Zo).set _ (Nat.lt_of_lt_of_le hparts.1 (Nat.le_trans (Dt hmod) Zo)),⟨up_step (by rw[K5 Hol];omega) hI1 rfl,?_⟩,hst,(hbw.setCell (Nat.le_refl _) _).setCell (Nat.le_refl _) _⟩
     rw[show k+1+t/32=k+t/32+1 by omega,P4,if_pos ⟨rfl,by rw[List.length_set,K5 Hol];omega⟩]
     exact hparts.1
    case measure=>simp[intOf];omega
   ·have hk':k=p:=by omega
    subst hk'
    have ho:=hmo.own hod (Nat.le_refl _) (by rw[K5 Hol];unfold maxLen;omega)
    rw[K5 Hol]at ho
    go_wp2_with fail
    refine(Li _ ho.toIn).mono ?_
    rintro e w' ⟨rfl,rfl⟩
    go_wp2_with fail
    go_ret
    refine⟨_,_,trim o,rfl,Lz hod,?_,ho.trim,hbw⟩
    have hI1:=(K5 hI).1
    rw[Kr,←Mm (l:=o) (Nat.le_of_eq (K5 Hol)),hI1,Mm (by rw[Ta.len];exact Nat.le_refl _),K5 Va,←shift_split]
theorem down_val{x y t:Nat}(hx:x<4294967296)(hy:y<4294967296)(ht:t<32):
 bits .or .u64 (x:Int) ((y:Int)*4294967296)/2 ^ t%4294967296=(((x+y*4294967296)/2 ^ t%4294967296:Nat):Int):=by
 rw[show(y:Int)*4294967296=((y*4294967296:Nat):Int) by omega,u64_or_nat _ _ Zo Zo,Nat.or_comm,nat_join 32 _ _ Zo Zo,Nat.add_comm,
  Int.natCast_emod,Int.natCast_ediv,Int.natCast_pow]
 rfl
theorem shift_down{A:Option Addr}{n c:Nat}{a:List Nat}(s:Nat)(z:Int)(w:World)(ha:In w A n c a)(hn:n≤1099511627776)(hs:(s:Int)≤9223372036854775808)(h0:0<s)(hz:z= -(s:Int)):
 Calls Tryz.prog 249 #[.slice A n c,.int .i64 z] w (RetX w (val a/2 ^ s)):=by
 have hta:=Mz a n
 have Ta:=ha.trim
 have Va:Hid (val (trim a)=val a):=Kr a
 have Ha:=Le ha
 clear ha
 obtain⟨p,hp⟩:∃p,p=tlen a n:=⟨_,rfl⟩
 rw[←hp]at Ta hta
 have HP:=Le hp
 clear hp
 have hz1:z<0:=by omega
 by_cases hle:32*p≤s
 ·have hz2:z≤-32*(p:Int):=by omega
  have Hz:=Le hz
  clear hz
  go_enter Tryz.func249,Tryz.ntmps249
  go_wp2_with fail
  refine(Li w (K5 Ha)).mono ?_
  rintro e w' ⟨rfl,rfl⟩
  rw[←K5 HP]
  go_wp2_with fail
  go_ret
  refine⟨none,0,[],rfl,Pp.nil,?_,Sr.nil_,Below.refl _ _⟩
  have h1:=Q2 Ta.dig (by rw[Ta.len];exact Nat.le_refl p)
  rw[K5 Va,V6]at h1
  have h2:2 ^ (32*p)≤2 ^ s:=Nat.pow_le_pow_right Zo hle
  rw[Nat.div_eq_of_lt Zo]
  rfl
 ·obtain⟨h,hh⟩:∃h,h=s/32:=⟨_,rfl⟩
  obtain⟨t,ht⟩:∃t,t=s%32:=⟨_,rfl⟩
  have hz2:¬z≤-32*(p:Int):=by omega
  have hz3: -9223372036854775807≤z:=by omega
  have e1:wrap64 (-(z.tdiv 32))=(h:Int):=by
   rw[hz,Int.neg_tdiv,Int.neg_neg,Int.tdiv_eq_ediv_of_nonneg Zo,IntWalk.wrap64_in _ ⟨by omega,by omega⟩];omega
  have e2: -(z.tmod 32)=(t:Int):=by
   rw[hz,Int.neg_tmod,Int.neg_neg,Int.tmod_eq_emod_of_nonneg Zo];omega
  have htb:t<32:=by omega
  have hhp:h<p:=by omega
  have Hz:=Le hz
  have Hh:=Le hh
  have Ht:=Le ht
  clear hz hh ht hle
  obtain⟨b,hb⟩:∃b,b=(trim a).drop h:=⟨_,rfl⟩
  have hbd:∀i,dg b i=dg (trim a) (h+i):=fun i=>by rw[hb,Pr]
  have hbl:b.length=p-h:=by rw[hb,List.length_drop,Ta.len]
  have hbD:O3 b:=by rw[hb];exact Ta.dig.drop h
  have hbv:val b=val a/pw h:=by rw[hb,I8 _ _ Ta.dig,K5 Va]
  have HB:=Le (And.intro hbd (And.intro hbl hbv))
  clear hbd hbl hbv hb
  have hmk:=fun W=>Oa W ((p:Int)-h) (p-h) Zo Zo
  go_enter Tryz.func249,Tryz.ntmps249
  go_wp2_with fail
  refine(Li w (K5 Ha)).mono ?_
  rintro e w' ⟨rfl,rfl⟩
  rw[←K5 HP]
  go_upto_region 6 with fail
  simp only[e1,e2]
  clear e1 e2
  go_wp2_with fail
  go_loopw [37] (fun i wr=>∃(k:Nat) (o:List Nat),k≤p-h∧i= .int .i64 k∧o.length=p-h∧O3 o∧Hid (lo o k+pw k*(dg b k/2 ^ t)=lo b (k+1)/2 ^ t)∧Mk wr w.heap.size 144 o∧Below w.heap.size w wr) (fun i _=>p-h- (intOf i).toNat)
  case atStart=>exact⟨0,_,Nat.zero_le _,rfl,by simp,O3.replicate _,(show _=_ by rw[U7,Lc,O0,D7];simp),Mk.zero w (p-h),(Below.refl _ _).alloc (Nat.le_refl _) _⟩
  case round=>
   obtain⟨k,o,hk,rfl,hol,hod,hI,hmo,hbw⟩:=hrel
   have Hol:=Le hol
   clear hol
   by_cases hlt:k<p-h
   ·have hx:=Ta.dig (k+h)
    have hy:=Ta.dig (k+h+1)
    have hcell:=hmo.cell (i:=k) (by rw[K5 Hol];omega)
    have hfz:=hmo.frozen k
    go_wp2_with fail
    refine(Xm _ _ (Ta.below hbw) Zo).mono ?_
    rintro e w' ⟨rfl,rfl⟩
    go_wp2_with fail
    refine(Xm _ _ (Ta.below hbw) Zo).mono ?_
    rintro e w' ⟨rfl,rfl⟩
    go_wp2
    have hB:=K5 HB
    have q1:dg (trim a) (k+h)=dg b k:=by rw[hB.1,Nat.add_comm]
    have q2:dg (trim a) (k+h+1)=dg b (k+1):=by rw[hB.1];congr 1;omega
    rw[q1]at hx
    rw[q2]at hy
    rw[q1,q2,down_val hx hy htb]
    have hst:=hmo.set_ k ((dg b k+dg b (k+1)*4294967296)/2 ^ t%4294967296)
    go_roundw
    case rel=>exact⟨k+1,_,by omega,by go_num,by rw[List.length_set];exact K5 Hol,hod.set _ (Nat.mod_lt _ Zo),down_step (X7 Zo) hbD (by rw[K5 Hol];omega) (K5 hI) rfl,hst,hbw.setCell (Nat.le_refl _) _⟩
    case measure=>simp[intOf];omega
   ·have hk':k=p-h:=by omega
    subst hk'
    have ho:=hmo.own hod (Nat.le_refl _) (by rw[K5 Hol];unfold maxLen;omega)
    rw[K5 Hol]at ho
    go_wp2_with fail
    refine(Li _ ho.toIn).mono ?_
    rintro e w' ⟨rfl,rfl⟩
    go_wp2_with fail
    go_ret
    refine⟨_,_,trim o,rfl,Lz hod,?_,ho.trim,hbw⟩
    have hB:=K5 HB
    rw[Kr,down_end (b:=b) (by rw[hB.2.1];exact K5 Hol) (by rw[hB.2.1];exact K5 hI),hB.2.2,K5 Hh,K5 Ht,←shift_div]
theorem shift_c{A:Option Addr}{n c:Nat}{a:List Nat}(z:Int)(w:World)(ha:In w A n c a)(hn:n≤1099511627776)(h1: -9223372036854775808≤z)(h2:z≤9223372036854775807):
 Calls Tryz.prog 249 #[.slice A n c,.int .i64 z] w (RetX w (Ir (val a) z)):=by
 unfold Ir
 by_cases h:0≤z
 ·obtain⟨s,rfl⟩:=Int.eq_ofNat_of_zero_le h
  rw[if_pos h,Int.toNat_natCast]
  exact E1 s w ha hn Zo
 ·rw[if_neg h]
  exact shift_down (-z).toNat z w ha hn Zo Zo Zo
def pl(l:List Nat)(k i:Nat):Nat:=lo (l.drop k) i
theorem pl_zero(l:List Nat)(k:Nat):pl l k 0=0:=O0 _
theorem Si(l:List Nat)(k i:Nat):pl l k (i+1)=pl l k i+dg l (k+i)*pw i:=by
 rw[pl,Lc,Pr];rfl
theorem pl_ext{a b:List Nat}{k i:Nat}(h:∀j,k≤j→j<k+i→dg a j=dg b j):pl a k i=pl b k i:=
 Jf fun j hj=>by rw[Pr,Pr];exact h _ Zo Zo
theorem Sj{l:List Nat}{k i d:Nat}(h:k+i<l.length):pl (l.set (k+i) d) k (i+1)=pl l k i+d*pw i:=by
 rw[Si,P4,if_pos ⟨rfl,h⟩]
 congr 1
 exact pl_ext fun j h1 h2=>by rw[P4,if_neg Zo]
theorem Gy{l:List Nat}(h:O3 l)(k i:Nat):pl l k i<pw i:=Cd (h.drop k) i
theorem Ef{l:List Nat}{k i:Nat}(h:∀j,k+i≤j→dg l j=0):val (l.drop k)=pl l k i:=
 val_lo fun j hj=>by rw[Pr];exact h _ Zo
theorem guess_dec{top u2 v1 v2 p ru rv q r U V:Nat}(hU:U=(top*4294967296+u2)*p+ru)(hV:V=(v1*4294967296+v2)*p+rv)(hru:ru<p)
 (hUV:U<4294967296*V) (hq:q*v1+r=top) (h:4294967296≤q∨r*4294967296+u2<q*v2):U<q*V:=by
 rcases h with h|h
 ·exact Nat.lt_of_lt_of_le hUV (Nat.mul_le_mul_right _ h)
 ·have h1:top*4294967296+u2+1≤q*(v1*4294967296+v2):=by
   rw[Nat.mul_add,←Nat.mul_assoc]
   omega
  have h2:(top*4294967296+u2+1)*p≤q*(v1*4294967296+v2)*p:=Nat.mul_le_mul_right _ h1
  rw[hV,hU,Nat.mul_add,←Nat.mul_assoc]
  rw[Nat.add_mul _ 1]at h2
  omega
theorem guess_end{top u2 v1 v2 p ru rv q r U V:Nat}(hU:U=(top*4294967296+u2)*p+ru)(hV:V=(v1*4294967296+v2)*p+rv)(hrv:rv<p)(hv1:1≤v1)
 (hq:q*v1+r=top) (hq2:q<4294967296) (h:q*v2≤r*4294967296+u2):q*V≤U+V:=by
 have h1:q*(v1*4294967296+v2)≤top*4294967296+u2:=by
  rw[Nat.mul_add,←Nat.mul_assoc];omega
 have h2:q*(v1*4294967296+v2)*p≤(top*4294967296+u2)*p:=Nat.mul_le_mul_right _ h1
 have h3:q*rv≤4294967296*p:=Nat.mul_le_mul Zo Zo
 have h4:1*4294967296*p≤v1*4294967296*p:=Nat.mul_le_mul_right _ (Nat.mul_le_mul_right _ hv1)
 have h5:V=v1*4294967296*p+v2*p+rv:=by rw[hV,Nat.add_mul]
 have h6:q*V=q*(v1*4294967296+v2)*p+q*rv:=by rw[hV,Nat.mul_add,←Nat.mul_assoc]
 omega
theorem guess_init{top u2 v1 v2 p ru rv U V:Nat}(hU:U=(top*4294967296+u2)*p+ru)(hV:V=(v1*4294967296+v2)*p+rv)(hru:ru<p)(hrv:rv<p)(hu2:u2<4294967296)(hv2:v2<4294967296)
 (hv1:2147483648≤v1) (hUV:U<4294967296*V):
 U<(top/v1+1)*V∧top/v1*v1+top%v1=top∧top<v1*4294967296+4294967296∧top/v1≤4294967297:=by
 have e:top/v1*v1+top%v1=top:=Nat.div_add_mod' top v1
 have hp:0<p:=by omega
 have h0:top<v1*4294967296+4294967296:=by
  have h1:top*4294967296*p≤U:=by rw[hU,Nat.add_mul];omega
  have h2:4294967296*V<4294967296*((v1*4294967296+4294967296)*p):=by
   apply Nat.mul_lt_mul_of_pos_left _ Zo
   have h3:(v1*4294967296+v2+1)*p≤(v1*4294967296+4294967296)*p:=Nat.mul_le_mul_right _ Zo
   rw[Nat.add_mul _ 1]at h3
   omega
  have h4:(4294967296*p)*top<(4294967296*p)*(v1*4294967296+4294967296):=by grind
  exact Nat.lt_of_mul_lt_mul_left h4
 refine⟨?_,e,h0,?_⟩
 ·have h1:top+1≤(top/v1+1)*v1:=by
   have:=Nat.mod_lt top (show v1>0 by omega)
   rw[Nat.add_mul];omega
  have h2:(top+1)*(4294967296*p)≤(top/v1+1)*v1*(4294967296*p):=Nat.mul_le_mul_right _ h1
  have h3:(top/v1+1)*V=(top/v1+1)*v1*(4294967296*p)+(top/v1+1)*(v2*p+rv):=by rw[hV];grind
  have h4:(u2+1)*p≤4294967296*p:=Nat.mul_le_mul_right _ Zo
  have h5:U=top*(4294967296*p)+u2*p+ru:=by rw[hU];grind
  rw[Nat.add_mul]at h2 h4
  omega
 ·have:top/v1<4294967298:=by
   rw[Nat.div_lt_iff_lt_mul Zo];omega
  omega
def Ug(U V q:Nat):Prop:=q<4294967296∧U<(q+1)*V∧q*V≤U+V
theorem two_lists{l:List Nat}{n:Nat}:lo l (n+2)=(dg l (n+1)*4294967296+dg l n)*pw n+lo l n:=by
 rw[show n+2=(n+1)+1 by omega,Lc,Lc,Ms]
 grind
theorem three_lists{l:List Nat}{k n:Nat}:pl l k (n+3)=((dg l (k+(n+2))*4294967296+dg l (k+(n+1)))*4294967296+dg l (k+n))*pw n+pl l k n:=by
 rw[show n+3=((n+1)+1)+1 by omega,Si,Si,Si]
 simp only[Ms]
 grind
theorem take_step{U P v:List Nat}{k i q c y d y':Nat}(hk:k+i<U.length)(hd:dg U (k+i)=dg P (k+i))
 (h:pl U k i+q*lo v i=pl P k i+(y+c)*pw i) (hdd:d+(c+q*dg v i)%4294967296+y=dg U (k+i)+y'*4294967296):
 pl (U.set (k+i) d) k (i+1)+q*lo v (i+1)=pl P k (i+1)+(y'+(c+q*dg v i)/4294967296)*pw (i+1):=by
 rw[Sj hk,Lc,Si,Ms,←hd]
 have e:=Nat.div_add_mod (c+q*dg v i) 4294967296
 generalize (c+q*dg v i)%4294967296=m at e hdd
 generalize (c+q*dg v i)/4294967296=t at e ⊢
 have e2:(d+m+y)*pw i=(dg U (k+i)+y'*4294967296)*pw i:=by rw[hdd]
 have e3:(4294967296*t+m)*pw i=(c+q*dg v i)*pw i:=by rw[e]
 grind
theorem take_end{U P v:List Nat}{k n q c y d y':Nat}(hk:k+n<U.length)(hd:dg U (k+n)=dg P (k+n))
 (h:pl U k n+q*lo v n=pl P k n+(y+c)*pw n) (hdd:d+c+y=dg U (k+n)+y'*4294967296):
 pl (U.set (k+n) d) k (n+1)+q*lo v n=pl P k (n+1)+y'*pw (n+1):=by
 rw[Sj hk,Si,Ms,←hd]
 have e2:(d+c+y)*pw n=(dg U (k+n)+y'*4294967296)*pw n:=by rw[hdd]
 grind
theorem back_step{U P v:List Nat}{k i y:Nat}(hk:k+i<U.length)(hd:dg U (k+i)=dg P (k+i))
 (h:pl U k i+y*pw i=pl P k i+lo v i):
 pl (U.set (k+i) ((y+(dg U (k+i)+dg v i))%4294967296)) k (i+1)+(y+(dg U (k+i)+dg v i))/4294967296*pw (i+1)=pl P k (i+1)+lo v (i+1):=by
 rw[Sj hk,Lc,Si,Ms,←hd]
 have e:=Nat.div_add_mod (y+(dg U (k+i)+dg v i)) 4294967296
 generalize (y+(dg U (k+i)+dg v i))%4294967296=m at e ⊢
 generalize (y+(dg U (k+i)+dg v i))/4294967296=t at e ⊢
 grind
theorem back_end{U P v:List Nat}{k n y:Nat}(hk:k+n<U.length)(hd:dg U (k+n)=dg P (k+n))
 (h:pl U k n+y*pw n=pl P k n+lo v n):
 ∃z,pl (U.set (k+n) ((dg U (k+n)+y)%4294967296)) k (n+1)+z*pw (n+1)=pl P k (n+1)+lo v n:=by
 refine⟨(dg U (k+n)+y)/4294967296,?_⟩
 rw[Sj hk,Si,Ms,←hd]
 have e:=Nat.div_add_mod (dg U (k+n)+y) 4294967296
 generalize (dg U (k+n)+y)%4294967296=m at e ⊢
 generalize (dg U (k+n)+y)/4294967296=t at e ⊢
 grind
theorem div_exact{P P' V q:Nat}(hg:Ug P V q)(h:P'+q*V=P):P'<V:=by
 have h1:=hg.2.1
 rw[Nat.add_mul]at h1;omega
theorem div_back{P P' P2 V q B z:Nat}(hg:Ug P V q)(hP:P'<B)(hPB:P<B)(hP2:P2<B)(h:P'+q*V=P+B)(h2:P2+z*B=P'+V):
 1≤q∧P2<V∧P2+(q-1)*V=P:=by
 have h1:=hg.2.2
 have hq:1≤q:=by
  rcases Nat.eq_zero_or_pos q with e|e
  ·subst e;omega
  ·exact e
 obtain⟨m,rfl⟩:∃m,q=m+1:=⟨q-1,by omega⟩
 rw[Nat.add_mul]at h h1
 have hz:z=1:=by
  rcases Nat.lt_trichotomy z 1 with e|e|e
  ·have:z=0:=by omega
   subst this;omega
  ·exact e
  ·have:2*B≤z*B:=Nat.mul_le_mul_right _ e
   omega
 subst hz
 rw[Nat.add_sub_cancel]
 omega
theorem div_round{U U' Q:List Nat}{k n q V A:Nat}(hkQ:k<Q.length)(hz:∀j,k+(n+1)≤j→dg U j=0)(hz':∀j,k+(n+1)≤j→dg U' j=0)(hlow:∀j,j<k→dg U' j=dg U j)
 (hP:pl U' k (n+1)+q*V=pl U k (n+1)) (hI:val (Q.drop (k+1))*pw (k+1)*V+val U=A):
 val ((Q.set k q).drop k)*pw k*V+val U'=A:=by
 have h1:=Dd U k
 have h2:=Dd U' k
 rw[Ef hz,←Jf hlow]at h1
 rw[Ef hz']at h2
 have h3:val ((Q.set k q).drop (k+1))=val (Q.drop (k+1)):=D1 fun j=>by
  rw[Pr,Pr,P4,if_neg Zo]
 rw[Qz (by rw[List.length_set];exact hkQ),h3,P4,if_pos ⟨rfl,hkQ⟩]
 rw[Ms]at hI
 have e:(pl U' k (n+1)+q*V)*pw k=pl U k (n+1)*pw k:=by rw[hP]
 grind
theorem bitLen_zero:Lib.bitLen 0=0:=by decide
theorem Vw:∀(f x:Nat),x<2 ^ f→f≤64→x≠0→1≤Lib.bitLen x∧2 ^ (Lib.bitLen x-1)≤x∧x<2 ^ Lib.bitLen x
 |0,x,h,_,h0=>by simp at h;omega
 | f+1,x,h,hf,h0=>by
  have h64:x<2 ^ 64:=Nat.lt_of_lt_of_le h (Nat.pow_le_pow_right Zo hf)
  rw[Lib.bitLen_half x h0 h64]
  by_cases h2:x/2=0
  ·have hx:x=1:=by omega
   subst hx
   rw[show 1/2=0 from rfl,bitLen_zero]
   decide
  ·obtain⟨h3,h4,h5⟩:=Vw f (x/2) (by rw[Nat.pow_succ]at h;omega) Zo h2
   refine⟨by omega,?_,?_⟩
   ·rw[show 1+Lib.bitLen (x/2)-1=(Lib.bitLen (x/2)-1)+1 by omega,Nat.pow_succ];omega
   ·rw[Nat.add_comm,Nat.pow_succ];omega
def bitsN(v:Nat):Nat:=if v=0 then 0 else Nat.log2 v+1
theorem bits_unique{v k:Nat}(h1:2 ^ k≤v)(h2:v<2 ^ (k+1)):Nat.log2 v=k:=by
 have h0:v≠0:=by have:=Rs k;omega
 have h3:=Nat.log2_self_le h0
 have h4:= @Nat.lt_log2_self v
 rcases Nat.lt_trichotomy (Nat.log2 v) k with h|h|h
 ·have:=Nat.pow_le_pow_right (show 2>0 by omega) (show Nat.log2 v+1≤k by omega);omega
 ·exact h
 ·have:=Nat.pow_le_pow_right (show 2>0 by omega) (show k+1≤Nat.log2 v by omega);omega
theorem top_bits{l:List Nat}{n:Nat}(hd:O3 l)(hl:l.length=n+1)(h0:dg l n≠0):
 bitsN (val l)=32*n+Lib.bitLen (dg l n):=by
 have h1:=hd n
 obtain⟨h2,h3,h4⟩:=Vw 32 (dg l n) h1 Zo h0
 have h5:val l=lo l n+dg l n*pw n:=by rw[←Lc,Mm Zo]
 have h6:=Cd hd n
 have h7:2 ^ (Lib.bitLen (dg l n)-1)*pw n≤dg l n*pw n:=Nat.mul_le_mul_right _ h3
 have h8:(dg l n+1)*pw n≤2 ^ Lib.bitLen (dg l n)*pw n:=Nat.mul_le_mul_right _ h4
 rw[Nat.add_mul]at h8
 have hp:=Yc n
 have e1:2 ^ (Lib.bitLen (dg l n)-1)*pw n=2 ^ (32*n+(Lib.bitLen (dg l n)-1)):=by rw[V6,←Nat.pow_add];congr 1;omega
 have e2:2 ^ Lib.bitLen (dg l n)*pw n=2 ^ (32*n+(Lib.bitLen (dg l n)-1)+1):=by rw[V6,←Nat.pow_add];congr 1;omega
 have hv:val l≠0:=by
  have:=Rs (32*n+(Lib.bitLen (dg l n)-1));omega
 rw[bitsN,if_neg hv,bits_unique (k:=32*n+(Lib.bitLen (dg l n)-1)) Zo Zo]
 omega
theorem norm_shift{l:List Nat}{n:Nat}(hd:O3 l)(hl:l.length=n+1)(h0:dg l n≠0):
 2147483648*pw n≤val l*2 ^ (32-Lib.bitLen (dg l n))∧val l*2 ^ (32-Lib.bitLen (dg l n))<pw (n+1):=by
 have h1:=hd n
 obtain⟨h2,h3,h4⟩:=Vw 32 (dg l n) h1 Zo h0
 have hle:Lib.bitLen (dg l n)≤32:=by
  rcases Nat.lt_or_ge 32 (Lib.bitLen (dg l n))with h|h
  ·have:=Nat.pow_le_pow_right (show 2>0 by omega) (show 32≤Lib.bitLen (dg l n)-1 by omega)
   have e:(2:Nat) ^ 32=4294967296:=by decide
   omega
  ·exact h
 have h5:val l=lo l n+dg l n*pw n:=by rw[←Lc,Mm Zo]
 have h6:=Cd hd n
 have h7:2 ^ (Lib.bitLen (dg l n)-1)*pw n≤dg l n*pw n:=Nat.mul_le_mul_right _ h3
 have h8:(dg l n+1)*pw n≤2 ^ Lib.bitLen (dg l n)*pw n:=Nat.mul_le_mul_right _ h4
 rw[Nat.add_mul]at h8
 have hp:=Yc n
 have hv1:2 ^ (Lib.bitLen (dg l n)-1)*pw n≤val l:=by omega
 have hv2:val l<2 ^ Lib.bitLen (dg l n)*pw n:=by omega
 constructor
 ·have h9:2 ^ (Lib.bitLen (dg l n)-1)*pw n*2 ^ (32-Lib.bitLen (dg l n))≤val l*2 ^ (32-Lib.bitLen (dg l n)):=Nat.mul_le_mul_right _ hv1
  have e:2 ^ (Lib.bitLen (dg l n)-1)*pw n*2 ^ (32-Lib.bitLen (dg l n))=2147483648*pw n:=by
   rw[Nat.mul_right_comm,←Nat.pow_add,show Lib.bitLen (dg l n)-1+(32-Lib.bitLen (dg l n))=31 by omega]
  omega
 ·have h9:val l*2 ^ (32-Lib.bitLen (dg l n))<2 ^ Lib.bitLen (dg l n)*pw n*2 ^ (32-Lib.bitLen (dg l n)):=Nat.mul_lt_mul_of_pos_right hv2 (Rs _)
  have e:2 ^ Lib.bitLen (dg l n)*pw n*2 ^ (32-Lib.bitLen (dg l n))=pw (n+1):=by
   rw[Nat.mul_right_comm,←Nat.pow_add,show Lib.bitLen (dg l n)+(32-Lib.bitLen (dg l n))=32 by omega,Ms,Nat.mul_comm]
  omega
theorem Cj{x:Nat}(h:x<4294967296):Lib.bitLen x≤32:=Lib.bitLen_le x 32 Zo h
theorem top_digit{l:List Nat}{n:Nat}(hd:O3 l)(hl:l.length=n+1)(h:2147483648*pw n≤val l):2147483648≤dg l n:=by
 have h5:val l=lo l n+dg l n*pw n:=by rw[←Lc,Mm Zo]
 have h6:=Cd hd n
 rcases Nat.lt_or_ge (dg l n) 2147483648 with h1|h1
 ·have:(dg l n+1)*pw n≤2147483648*pw n:=Nat.mul_le_mul_right _ h1
  rw[Nat.add_mul]at this
  omega
 ·exact h1
theorem Hi{q r x top U V:Nat}(hq:1≤q)(h:q*x+r=top)(hd:U<q*V):(q-1)*x+(r+x)=top∧U<(q-1+1)*V:=by
 obtain⟨m,rfl⟩:∃m,q=m+1:=⟨q-1,by omega⟩
 rw[Nat.add_sub_cancel]
 rw[Nat.add_mul]at h
 exact⟨by omega,hd⟩
theorem guess_c{UA VA:Option Addr}{m uc vc:Nat}{u v:List Nat}(w:World)(hU:In w UA (m+3) uc u)(hV:In w VA (m+2) vc v)(hv1:2147483648≤dg v (m+1))(hUV:val u<4294967296*val v):
 Calls Tryz.prog 250 #[.slice UA (m+3) uc,.slice VA (m+2) vc] w fun e w'=>∃q:Nat,e= .returned (.int .u64 q)∧Ug (val u) (val v) q∧Qd w w':=by
 have hn:=hU.lenI
 obtain⟨ad,hA,c0⟩:=hU.at_ (k:=m+2) Zo
 obtain⟨ad1,hA1,c1⟩:=hU.at_ (k:=m+1) Zo
 obtain⟨ad2,hA2,c2⟩:=hU.at_ (k:=m) Zo
 obtain rfl:ad=ad1:=by rw[hA]at hA1;injection hA1
 obtain rfl:ad=ad2:=by rw[hA]at hA2;injection hA2
 clear hA1 hA2
 obtain⟨bd,hB,d1⟩:=hV.at_ (k:=m+1) Zo
 obtain⟨bd1,hB1,d2⟩:=hV.at_ (k:=m) Zo
 obtain rfl:bd=bd1:=by rw[hB]at hB1;injection hB1
 clear hB1
 have x0:=hU.dig (m+2)
 have x1:=hU.dig (m+1)
 have x2:=hU.dig m
 have y1:=hV.dig (m+1)
 have y2:=hV.dig m
 have eU:val u=((dg u (m+2)*4294967296+dg u (m+1))*4294967296+dg u m)*pw m+pl u 0 m:=by
  have:=three_lists (l:=u) (k:=0) (n:=m)
  rw[Nat.zero_add,Nat.zero_add,Nat.zero_add]at this
  rw[←this,pl,List.drop_zero,Mm (by rw[hU.len];exact Nat.le_refl _)]
 have eV:val v=(dg v (m+1)*4294967296+dg v m)*pw m+lo v m:=by
  rw[←two_lists,Mm (by rw[hV.len];exact Nat.le_refl _)]
 have hru:=Gy hU.dig 0 m
 have hrv:=Cd hV.dig m
 obtain⟨top,htop⟩:∃top,top=dg u (m+2)*4294967296+dg u (m+1):=⟨_,rfl⟩
 have hor:bits .or .u64 ((dg u (m+2):Int)*4294967296) (dg u (m+1):Int)=(top:Int):=by rw[htop];exact D9 x0 x1
 rw[←htop]at eU
 obtain⟨g1,g2,g3,g4⟩:=guess_init eU eV hru hrv x2 y2 hv1 hUV
 have ht64:(top:Int)≤18446744073709551615:=by omega
 have F:=Le (And.intro eU (And.intro eV (And.intro hru (And.intro hrv (And.intro hUV (And.intro g1 (And.intro g2 (And.intro g3 (And.intro g4 htop)))))))))
 clear eU eV hru hrv hUV g1 g2 g3 g4 htop
 subst hA
 subst hB
 obtain⟨n,hn2⟩:∃n,n=m+2:=⟨_,rfl⟩
 obtain⟨k,hk⟩:∃k,k=m+1:=⟨_,rfl⟩
 rw[show m+3=n+1 by omega,←hn2]
 rw[←hn2]at c0 hor
 rw[←hk]at c1 d1 y1 hor hv1
 have b1:(m:Int)<n:=by omega
 have b2:(k:Int)<n:=by omega
 have b3:(n:Int)<9223372036854775807:=by omega
 have b4:(n:Int)<(n:Int)+1:=by omega
 have b5:(m:Int)<(n:Int)+1:=by omega
 have b6:(k:Int)<(n:Int)+1:=by omega
 have e1:IntKind.i64.wrap ((n:Int)-1)=k:=by rw[IntWalk.i64_in _ Zo];omega
 have e2:IntKind.i64.wrap ((n:Int)-2)=m:=by rw[IntWalk.i64_in _ Zo];omega
 obtain⟨q0,hq0⟩:∃q,q=top/dg v k:=⟨_,rfl⟩
 obtain⟨r0,hr0⟩:∃r,r=top%dg v k:=⟨_,rfl⟩
 have hr0b:r0<dg v k:=by rw[hr0];exact Nat.mod_lt _ Zo
 have hq0b:q0≤4294967297:=by rw[hq0,hk];exact(K5 F).2.2.2.2.2.2.2.2.1
 have f1:IntKind.u64.wrap (dg u n:Int)=(dg u n:Int):=by rw[Lm,hn2];omega
 have f2:IntKind.u64.wrap ((dg u n:Int)*4294967296)=(dg u n:Int)*4294967296:=by rw[Lm,hn2];omega
 have f3:IntKind.u64.wrap (dg u k:Int)=(dg u k:Int):=by rw[Lm,hk];omega
 have f4:(top:Int).tdiv (dg v k:Int)=(q0:Int):=by rw[Int.tdiv_eq_ediv_of_nonneg Zo,hq0,Int.natCast_ediv]
 have f5:IntKind.u64.wrap (q0:Int)=(q0:Int):=by rw[Lm];omega
 have f6:(top:Int).tmod (dg v k:Int)=(r0:Int):=by rw[Int.tmod_eq_emod_of_nonneg Zo,hr0,Int.natCast_emod]
 have f7:IntKind.u64.wrap (dg v k:Int)=(dg v k:Int):=by rw[Lm];omega
 have F2:=Le (And.intro hn2 (And.intro hk (And.intro hq0 hr0)))
 clear hn2 hk hq0 hr0
 clear hU hV hn
 go_enter Tryz.func250,Tryz.ntmps250
 go_wp2_with fail
 go_quiet (fail)
 go_wp2_with fail
 go_quiet (fail)
 go_wp2_with fail
 clear f1 f2 f3 f4 f5 f6 hor
 have hdec:Hid (∀q r:Nat,q*dg v k+r=top→(4294967296≤q∨r*4294967296+dg u m<q*dg v m)→val u<q*val v):=by
  intro q r h1 h2
  obtain⟨_,hk,_,_⟩:=K5 F2
  obtain⟨eU,eV,hru,hrv,hUV,g1,g2,g3,g4,htop⟩:=K5 F
  rw[hk]at h1
  exact guess_dec eU eV hru hUV h1 h2
 have hend:Hid (∀q r:Nat,q*dg v k+r=top→val u<(q+1)*val v→q<4294967296→q*dg v m≤r*4294967296+dg u m→Ug (val u) (val v) q):=by
  intro q r h1 h2 h3 h4
  obtain⟨_,hk,_,_⟩:=K5 F2
  obtain⟨eU,eV,hru,hrv,hUV,g1,g2,g3,g4,htop⟩:=K5 F
  rw[hk]at h1 hv1
  exact⟨h3,h2,guess_end eU eV hrv Zo h1 h3 h4⟩
 have hbrk:Hid (∀q r:Nat,q*dg v k+r=top→val u<(q+1)*val v→4294967296≤r→Ug (val u) (val v) q):=by
  intro q r h1 h2 h3
  have h4:q<4294967296:=by
   obtain⟨_,hk,_,_⟩:=K5 F2
   obtain⟨eU,eV,hru,hrv,hUV,g1,g2,g3,g4,htop⟩:=K5 F
   rw[hk]at h1
   rcases Nat.lt_or_ge q 4294967296 with h|h
   ·exact h
   ·have:4294967296*dg v (m+1)≤q*dg v (m+1):=Nat.mul_le_mul_right _ h
    omega
  refine(K5 hend) q r h1 h2 h4 ?_
  have:=Zr h4 y2
  omega
 go_loopw [7,8] (fun sq sr wr=>∃q r:Nat,sq= .int .u64 q∧sr= .int .u64 r∧q≤4294967297∧r<4294967296∧Hid (q*dg v k+r=top∧val u<(q+1)*val v)∧Qd w wr) (fun sq _ _=>(intOf sq).toNat)
 case atStart=>
  obtain⟨_,hk,hq0,hr0⟩:=K5 F2
  obtain⟨eU,eV,hru,hrv,hUV,g1,g2,g3,g4,htop⟩:=K5 F
  exact⟨q0,r0,rfl,rfl,hq0b,by omega,(by rw[hq0,hr0,hk];exact⟨g2,g1⟩),(Qd.of _ _).drewN _⟩
 case round=>
  obtain⟨q,r,rfl,rfl,hq,hr,hI,⟨z,rfl⟩⟩:=hrel
  by_cases hbig:4294967296≤q
  ·have hdown:=(K5 hdec) q r (K5 hI).1 (Or.inl hbig)
   have hq1:1≤q:=by omega
   have hnew:Hid ((q-1)*dg v k+(r+dg v k)=top∧val u<(q-1+1)*val v):=Hi hq1 (K5 hI).1 hdown
   have Hdown:=Le hdown
   clear hdown
   have g0:((q:Int)/4294967296 !=0)=true:=by rw[bne_iff_ne];omega
   by_cases hbr:r+dg v k<4294967296
   ·have g1:(((r:Int)+(dg v k:Int))/4294967296 !=0)=false:=by simp;omega
    go_wp2_with fail
    go_quiet (fail)
    go_wp2_with fail
    go_roundw
    case rel=>exact⟨q-1,r+dg v k,congrArg (Value.int .u64) Zo,congrArg (Value.int .u64) Zo,by omega,hbr,hnew,Qd.of _ _⟩
    case measure=>simp[intOf];omega
   ·have g1:(((r:Int)+(dg v k:Int))/4294967296 !=0)=true:=by rw[bne_iff_ne];omega
    go_wp2_with fail
    go_quiet (fail)
    go_wp2_with fail
    go_ret
    exact⟨q-1,congrArg (fun x=>Ending.returned (Value.int .u64 x)) Zo,(K5 hbrk) _ _ (K5 hnew).1 (K5 hnew).2 Zo,Qd.of _ _⟩
  ·have g0:((q:Int)/4294967296 !=0)=false:=by simp;omega
   obtain⟨X,hX⟩:∃X,X=q*dg v m:=⟨_,rfl⟩
   obtain⟨Y,hY⟩:∃Y,Y=r*4294967296+dg u m:=⟨_,rfl⟩
   have hXb:=Zr (show q<4294967296 by omega) y2
   have h1:IntKind.u64.wrap ((q:Int)*(dg v m:Int))=(X:Int):=by
    rw[hX,Int.natCast_mul,Lm,←Int.natCast_mul];omega
   have h2:IntKind.u64.wrap ((r:Int)*4294967296)=(r:Int)*4294967296:=by rw[Lm];omega
   have h3:bits .or .u64 ((r:Int)*4294967296) (dg u m:Int)=(Y:Int):=by rw[hY];exact D9 hr x2
   have h4:IntKind.u64.wrap (dg v m:Int)=(dg v m:Int):=by rw[Lm];omega
   have h5:IntKind.u64.wrap (dg u m:Int)=(dg u m:Int):=by rw[Lm];omega
   have HX:=Le (And.intro hX hY)
   by_cases hcmp:Y<X
   ·have hdown:=(K5 hdec) q r (K5 hI).1 (Or.inr (by rw[←hX,←hY];exact hcmp))
    have hq1:1≤q:=by
     rcases Nat.eq_zero_or_pos q with e|e
     ·subst e;omega
     ·exact e
    clear hX hY hXb
    have hnew:Hid ((q-1)*dg v k+(r+dg v k)=top∧val u<(q-1+1)*val v):=Hi hq1 (K5 hI).1 hdown
    have Hdown:=Le hdown
    clear hdown
    by_cases hbr:r+dg v k<4294967296
    ·have g1:(((r:Int)+(dg v k:Int))/4294967296 !=0)=false:=by simp;omega
     go_wp2_with fail
     go_quiet (fail)
     go_wp2_with fail
     go_roundw
     case rel=>exact⟨q-1,r+dg v k,congrArg (Value.int .u64) Zo,congrArg (Value.int .u64) Zo,by omega,hbr,hnew,Qd.of _ _⟩
     case measure=>simp[intOf];omega
    ·have g1:(((r:Int)+(dg v k:Int))/4294967296 !=0)=true:=by rw[bne_iff_ne];omega
     go_wp2_with fail
     go_quiet (fail)
     go_wp2_with fail
     go_ret
     exact⟨q-1,congrArg (fun x=>Ending.returned (Value.int .u64 x)) Zo,(K5 hbrk) _ _ (K5 hnew).1 (K5 hnew).2 Zo,Qd.of _ _⟩
   ·have hfin:Hid (Ug (val u) (val v) q):=(K5 hend) q r (K5 hI).1 (K5 hI).2 Zo (by rw[←hX,←hY];omega)
    clear hX hY hXb
    go_wp2_with fail
    go_quiet (fail)
    go_wp2_with fail
    go_ret
    exact⟨q,rfl,K5 hfin,(Qd.of _ _).drewN _⟩
end Go.Proofs.YtpgkbllcnphmbaaGreatDoor
