/-
 Functions of the package natural.
-/
import Derived.Test.YtoeiphicmcndlaaGreatDoorAWb
namespace Go.Proofs.YtoeiphicmcndlaaGreatDoor
set_option maxRecDepth 100000
set_option maxHeartbeats 8000000
set_option linter.unusedVariables false
set_option linter.unusedSimpArgs false
open Go.RowKit
theorem In.qd{w w':World}{A:Option Addr}{n c:Nat}{l:List Nat}(h:In w A n c l)(hq:Qd w w'):In w' A n c l:=by
 obtain⟨q,rfl⟩:=hq;exact h.drewN q
theorem Qd.below{w w':World}(h:Qd w w')(B:Nat):Below B w w':=by
 obtain⟨q,rfl⟩:=h;exact Mh (Below.refl _ _) q
theorem L6(x:Int):IntKind.u64.wrap x=x%18446744073709551616:=IntKind.wrap_u64 x
theorem sub_c{A B:Option Addr}{n c m d:Nat}{a b:List Nat}(w:World)(ha:In w A n c a)(hb:In w B m d b)(hn:n≤1099511627776):
 Calls Tryz.prog 263 #[.slice A n c,.slice B m d] w fun e w'=>∃A' n' c' l,e= .returned (.tuple #[.slice A' n' c',.bool (decide (val b≤val a))])∧Mx l∧val l=val a-val b∧Py w' w.heap.size A' n' c' l∧Below w.heap.size w w':=by
 have Ha:=Km ha
 have Hb:=Km hb
 have ht:=Nw a n
 by_cases hcmp:val a<val b
 ·have K:Hid (U4 (val a) (val b)= -1):=D9 hcmp
  have Hc:=Km hcmp
  clear hcmp
  go_enter Tryz.func263,Tryz.ntmps263
  go_wp2_with fail
  refine(cmp_c w ha hb).mono ?_
  rintro e w' ⟨rfl,⟨q,rfl⟩⟩
  rw[K3 K]
  go_wp2_with fail
  go_ret2
  have:=K3 Hc
  exact⟨none,0,0,[],by rw[decide_eq_false Zo];rfl,Mx.nil,by rw[Ts];omega,Py.nil_,Mh (Below.refl _ _) _⟩
 ·obtain⟨z,hz0,K⟩:∃z,(0:Int)≤z∧Hid (U4 (val a) (val b)=z):=by
   refine⟨_,?_,rfl⟩
   unfold U4
   rw[if_neg hcmp];split<;>omega
  have Hc:=Km hcmp
  clear hcmp ha hb
  have hmk:=fun W=>Nk W (tlen a n) (tlen a n) rfl Zo
  go_enter Tryz.func263,Tryz.ntmps263
  go_wp2_with fail
  refine(cmp_c w (K3 Ha) (K3 Hb)).mono ?_
  rintro e w' ⟨rfl,⟨q,rfl⟩⟩
  rw[K3 K]
  go_wp2_with fail
  refine(Lu _ ((K3 Ha).drewN q)).mono ?_
  rintro e w' ⟨rfl,rfl⟩
  go_wp2_with fail
  have hM:=(Mk.zero w (tlen a n))
  go_loopw [7,20] (fun cy i wr=>∃(k y:Nat) (o:List Nat),k≤tlen a n∧i=Zi k∧cy= .int .u64 y∧o.length=tlen a n∧N8 o∧y≤1∧lo o k+lo b k=lo a k+y*pw k∧Mk wr w.heap.size 175 o∧Below w.heap.size w wr) (fun _ i _=>tlen a n- (intOf i).toNat)
  case atStart=>exact⟨0,0,_,Nat.zero_le _,rfl,rfl,by simp,N8.replicate _,by omega,by simp[N4],hM,Mh ((Below.refl _ _).alloc (Nat.le_refl _) _) _⟩
  case round=>
   obtain⟨k,y,o,hk,rfl,rfl,hol,hod,hy,hsum,hmk,hbw⟩:=hrel
   clear hM
   have Hol:=Km hol
   have Hsum:=Km hsum
   clear hol hsum
   by_cases hlt:k<tlen a n
   ·have hda:=(K3 Ha).dig k
    have hdb:=(K3 Hb).dig k
    have hcell:=hmk.cell (i:=k) (by rw[K3 Hol];exact hlt)
    have hfz:=hmk.frozen k
    go_wp2_with fail
    refine(D6 _ _ ((K3 Ha).below hbw) Zo).mono ?_
    rintro e w' ⟨rfl,rfl⟩
    go_wp2_with fail
    refine(D6 _ _ ((K3 Hb).below hbw) Zo).mono ?_
    rintro e w' ⟨rfl,rfl⟩
    by_cases hge:dg b k+y≤dg a k
    ·go_wp2
     have hst:=hmk.set_ k (dg a k-dg b k-y)
     rw[show((dg a k-dg b k-y:Nat):Int)=(dg a k:Int)-dg b k-y by omega]at hst
     go_roundw
     case rel=>exact⟨k+1,0,_,by omega,by go_num,congrArg (Value.int .u64) Zo,by rw[List.length_set];exact K3 Hol,hod.set _ Zo,by omega,Wc (by rw[K3 Hol];exact hlt) (K3 Hsum) Zo,hst,hbw.setCell (Nat.le_refl _) _⟩
     case measure=>simp[intOf];omega
    ·have hst:=hmk.set_ k (dg a k+4294967296-dg b k-y)
     by_cases hg2:dg b k≤dg a k
     ·go_wp2
      rw[show((dg a k+4294967296-dg b k-y:Nat):Int)=IntKind.u64.wrap ((dg a k:Int)-dg b k-y)%4294967296 by rw[L6];omega]at hst
      go_roundw
      case rel=>exact⟨k+1,1,_,by omega,by go_num,congrArg (Value.int .u64) (by rw[L6];omega),by rw[List.length_set];exact K3 Hol,hod.set _ Zo,by omega,Wc (by rw[K3 Hol];exact hlt) (K3 Hsum) Zo,hst,hbw.setCell (Nat.le_refl _) _⟩
      case measure=>simp[intOf];omega
     ·go_wp2
      rw[show((dg a k+4294967296-dg b k-y:Nat):Int)=IntKind.u64.wrap (IntKind.u64.wrap ((dg a k:Int)-dg b k)-y)%4294967296 by rw[L6,L6];omega]at hst
      go_roundw
      case rel=>exact⟨k+1,1,_,by omega,by go_num,congrArg (Value.int .u64) (by rw[L6,L6];omega),by rw[List.length_set];exact K3 Hol,hod.set _ Zo,by omega,Wc (by rw[K3 Hol];exact hlt) (K3 Hsum) Zo,hst,hbw.setCell (Nat.le_refl _) _⟩
      case measure=>simp[intOf];omega
   ·have hk':k=tlen a n:=by omega
    subst hk'
    have ho:=hmk.own hod (Nat.le_refl _) (by rw[K3 Hol];unfold maxLen;omega)
    rw[K3 Hol]at ho
    go_wp2_with fail
    refine(Lu _ ho.toIn).mono ?_
    rintro e w' ⟨rfl,rfl⟩
    go_wp2_with fail
    go_ret2
    have ha:=K3 Ha
    have hb:=K3 Hb
    have hc:=K3 Hc
    have hl:=ha.trim.len
    have hd:decide (val b≤val a)=true:=decide_eq_true Zo
    rw[hd]
    refine⟨_,_,_,trim o,rfl,Kw hod,?_,ho.trim,hbw⟩
    rw[Kh]
    exact sub_end (by rw[hl];exact K3 Hol) hod ha.dig Zo (by rw[hl];exact K3 Hsum)
theorem mul_c{A B:Option Addr}{n c m d:Nat}{a b:List Nat}(w:World)(ha:In w A n c a)(hb:In w B m d b)(hn:n≤1099511627776)(hm:m≤1099511627776):
 Calls Tryz.prog 253 #[.slice A n c,.slice B m d] w (Tq w (val a*val b)):=by
 have hta:=Nw a n
 have htb:=Nw b m
 have Ta:=ha.trim
 have Tb:=hb.trim
 have Va:Hid (val (trim a)=val a):=Kh a
 have Vb:Hid (val (trim b)=val b):=Kh b
 have Ha:=Km ha
 have Hb:=Km hb
 clear ha hb
 obtain⟨p,hp⟩:∃p,p=tlen a n:=⟨_,rfl⟩
 obtain⟨q,hq⟩:∃q,q=tlen b m:=⟨_,rfl⟩
 rw[←hp]at Ta hta
 rw[←hq]at Tb htb
 have HP:=Km hp
 have HQ:=Km hq
 clear hp hq
 have hmk:=fun W=>Nk W ((p:Int)+q) (p+q) Zo Zo
 go_enter Tryz.func253,Tryz.ntmps253
 go_wp2_with fail
 go_step3
 go_wp2_with fail
 refine(Lu w (K3 Ha)).mono ?_
 rintro e w' ⟨rfl,rfl⟩
 rw[←K3 HP]
 go_wp2_with fail
 refine(Lu w (K3 Hb)).mono ?_
 rintro e w' ⟨rfl,rfl⟩
 rw[←K3 HQ]
 go_wp2_with fail
 go_step3
 go_wp2_with fail
 go_loopw [23] (fun i wr=>∃(k:Nat) (o:List Nat),k≤p∧i=Zi k∧o.length=p+q∧N8 o∧Hid (val o=lo (trim a) k*val (trim b)∧∀j,k+q≤j→dg o j=0)∧Mk wr w.heap.size 175 o∧Below w.heap.size w wr) (fun i _=>p- (intOf i).toNat)
 case atStart=>exact⟨0,_,Nat.zero_le _,rfl,by simp,N8.replicate _,⟨by rw[Xp,N4];omega,fun j _=>Sv⟩,Mk.zero w (p+q),(Below.refl _ _).alloc (Nat.le_refl _) _⟩
 case round=>
  obtain⟨k,o,hk,rfl,hol,hod,hI,hmo,hbw⟩:=hrel
  have Hol:=Km hol
  clear hol
  by_cases hlt:k<p
  ·obtain⟨ad,hA,hca⟩:=(Ta.below hbw).at_ (k:=k) Zo
   subst hA
   have hx:=Ta.dig k
   by_cases h0:dg (trim a) k=0
   ·have hz:(((dg (trim a) k:Nat):Int)==0)=true:=by simp[h0]
    have H0:=Km h0
    clear h0
    go_wp2
    go_roundw
    case rel=>exact⟨k+1,o,by omega,by go_num,K3 Hol,hod,⟨by rw[La,K3 H0,Nat.zero_mul,Nat.add_zero];exact(K3 hI).1,fun j hj=>(K3 hI).2 j Zo⟩,hmo,hbw⟩
    case measure=>simp[intOf];omega
   ·have hz:(((dg (trim a) k:Nat):Int)==0)=false:=by simpa using h0
    clear h0
    go_wp2
    obtain⟨wo,rfl⟩:∃wo:World,wo=wr:=⟨_,rfl⟩
    go_loopw [8,32] (fun cy i wr=>∃(j y:Nat) (r:List Nat),j≤q∧i=Zi j∧cy= .int .u64 y∧y<4294967296∧r.length=p+q∧N8 r∧Hid (lo r (k+j)+y*pw (k+j)=lo o (k+j)+dg (trim a) k*lo (trim b) j*pw k∧∀t,k+j≤t→dg r t=dg o t)∧Mk wr w.heap.size 175 r∧Below w.heap.size w wr) (fun _ i _=>q- (intOf i).toNat)
    case atStart=>exact⟨0,0,o,Nat.zero_le _,rfl,rfl,by omega,K3 Hol,hod,⟨by rw[N4];omega,fun _ _=>rfl⟩,hmo,hbw⟩
    case round=>
     obtain⟨j,y,r,hj,rfl,rfl,hy,hrl,hrd,hJ,hmr,hbr⟩:=hrel
     have Hrl:=Km hrl
     clear hrl
     by_cases hlt2:j<q
     ·obtain⟨bd,hB,hcb⟩:=(Tb.below hbr).at_ (k:=j) Zo
      subst hB
      have hy2:=Tb.dig j
      have hr2:=hrd (k+j)
      have hxy:=Gy hx hy2
      have hcell:=hmr.cell (i:=k+j) (by rw[K3 Hrl];omega)
      have hfz:=hmr.frozen (k+j)
      go_wp2
      obtain⟨s,hs⟩:∃s,s=y+(dg (trim a) k*dg (trim b) j+dg r (k+j)):=⟨_,rfl⟩
      have hsi:(s:Int)=(y:Int)+((dg (trim a) k:Int)*(dg (trim b) j:Int)+(dg r (k+j):Int)):=by
       rw[hs,Int.natCast_add,Int.natCast_add,Int.natCast_mul]
      rw[←hsi]
      have hst:=hmr.set_ (k+j) (s%4294967296)
      rw[show((s%4294967296:Nat):Int)=(s:Int)%4294967296 by omega]at hst
      go_roundw
      case rel=>
       refine⟨j+1,s/4294967296,_,by omega,by go_num,congrArg (Value.int .u64) Zo,by omega,by rw[List.length_set];exact K3 Hrl,hrd.set _ Zo,⟨?_,fun t ht=> ?_⟩,hst,hbr.setCell (Nat.le_refl _) _⟩
       ·exact mul_step (by rw[K3 Hrl];omega) ((K3 hJ).2 _ (Nat.le_refl _)) (K3 hJ).1 hs
       ·rw[Q8,if_neg Zo];exact(K3 hJ).2 t Zo
      case measure=>simp[intOf];omega
     ·have hj':j=q:=by omega
      subst hj'
      have hcell:=hmr.cell (i:=k+j) (by rw[K3 Hrl];omega)
      have hfz:=hmr.frozen (k+j)
      go_wp2
      have hst:=hmr.set_ (k+j) y
      go_roundw
      case rel=>
       have hrow:=mul_row (a:=trim a) (b:=trim b) (by rw[K3 Hrl];omega) rfl (by rw[M6 (by rw[Tb.len];exact Nat.le_refl _)]) (K3 hI).1 (K3 hI).2 (K3 hJ).2 (K3 hJ).1
       exact⟨k+1,_,by omega,by go_num,by rw[List.length_set];exact K3 Hrl,hrd.set _ hy,hrow,hst,hbr.setCell (Nat.le_refl _) _⟩
      case measure=>simp[intOf];omega
  ·have hk':k=p:=by omega
   subst hk'
   have ho:=hmo.own hod (Nat.le_refl _) (by rw[K3 Hol];unfold maxLen;omega)
   rw[K3 Hol]at ho
   go_wp2_with fail
   refine(Lu _ ho.toIn).mono ?_
   rintro e w' ⟨rfl,rfl⟩
   go_wp2_with fail
   try rw[Exit.noGoto_ret]
   go_ret
   refine⟨_,_,_,trim o,rfl,Kw hod,?_,ho.trim,hbw⟩
   rw[Kh,(K3 hI).1,K3 Vb,M6 (by rw[Ta.len];exact Nat.le_refl _),K3 Va]
theorem Ji{x y:Nat}(hx:x<4294967296)(hy:y<4294967296):bits .or .u64 ((x:Int)*4294967296) (y:Int)=((x*4294967296+y:Nat):Int):=by
 rw[show(x:Int)*4294967296=((x*4294967296:Nat):Int) by omega,u64_or_nat _ _ Zo Zo,nat_join 32 _ _ Zo Zo]
theorem one_c{A:Option Addr}{n c:Nat}{a:List Nat}(d:Nat)(w:World)(ha:In w A n c a)(hn:n≤1099511627776)(h0:0<d)(h1:d<4294967296):
 Calls Tryz.prog 110 #[.slice A n c,.int .u32 d] w fun e w'=>∃A' n' c' l,e= .returned (.tuple #[.slice A' n' c',.int .u32 ((val a%d:Nat):Int)])∧Mx l∧val l=val a/d∧Py w' w.heap.size A' n' c' l∧Below w.heap.size w w':=by
 have hmk:=fun W=>Nk W (n:Int) n rfl Zo
 have Hl:=Km ha.len
 go_enter Tryz.func110,Tryz.ntmps110
 go_wp2_with fail
 go_loopw [7,8] (fun re i wr=>∃(k r:Nat) (z:Int) (o:List Nat),k≤n∧z+1=k∧i=Zi z∧re= .int .u64 r∧r<d∧o.length=n∧N8 o∧Hid (val (o.drop k)*d+r=val (a.drop k))∧Mk wr w.heap.size 175 o∧Below w.heap.size w wr) (fun _ i _=>(intOf i+1).toNat)
 case atStart=>exact⟨n,0,(n:Int)-1,_,Nat.le_refl _,by omega,rfl,rfl,h0,by simp,N8.replicate _,(show val ((List.replicate n 0).drop n)*d+0=val (a.drop n) by rw[Sa (l:=a) (by rw[K3 Hl];exact Nat.le_refl _),Sa Zs];omega),Mk.zero w n,(Below.refl _ _).alloc (Nat.le_refl _) _⟩
 case round=>
  obtain⟨k,r,z,o,hk,hz,rfl,rfl,hr,hol,hod,hI,hmo,hbw⟩:=hrel
  have Hol:=Km hol
  clear hol
  by_cases hk0:k=0
  ·subst hk0
   obtain rfl:z= -1:=by omega
   clear hz
   have ho:=hmo.own hod (Nat.le_refl _) (by rw[K3 Hol];unfold maxLen;omega)
   rw[K3 Hol]at ho
   go_wp2_with fail
   refine(Lu _ ho.toIn).mono ?_
   rintro e w' ⟨rfl,rfl⟩
   go_wp2_with fail
   go_ret2
   obtain⟨e1,e2⟩:=Ef (K3 hI) hr
   simp only[List.drop_zero]at e1 e2
   subst e2
   exact⟨_,_,_,trim o,rfl,Kw hod,by rw[Kh];exact e1,ho.trim,hbw⟩
  ·obtain⟨j,rfl⟩:∃j,k=j+1:=⟨k-1,by omega⟩
   obtain rfl:z=(j:Int):=by omega
   clear hz hk0
   obtain⟨ad,hA,hca⟩:=(ha.below hbw).at_ (k:=j) Zo
   have hx:=ha.dig j
   have hcell:=hmo.cell (i:=j) (by rw[K3 Hol];omega)
   have hfz:=hmo.frozen j
   have hor:=Ji (x:=r) (y:=dg a j) Zo hx
   subst hA
   have hdiv:=div_digit hr hx
   have hmod:=Nat.mod_lt (r*4294967296+dg a j) h0
   go_wp2
   have hst:=hmo.set_ j ((r*4294967296+dg a j)/d)
   have e1:(((r*4294967296+dg a j)/d:Nat):Int)=((r:Int)*4294967296+dg a j)/d%4294967296:=by
    have e:(((r*4294967296+dg a j)/d:Nat):Int)=((r:Int)*4294967296+dg a j)/d:=by rw[Int.natCast_ediv];rfl
    rw[←e];exact(Int.emod_eq_of_lt (Int.natCast_nonneg _) (Int.ofNat_lt.2 hdiv)).symm
   have e2:(((r*4294967296+dg a j)%d:Nat):Int)=((r:Int)*4294967296+dg a j)%d:=by rw[Int.natCast_emod];rfl
   rw[e1]at hst
   go_roundw
   case rel=>exact⟨j,(r*4294967296+dg a j)%d,(j:Int)-1,_,by omega,by omega,rfl,by rw[e2],hmod,by rw[List.length_set];exact K3 Hol,hod.set _ hdiv,div_step (by rw[K3 Hl];omega) (by rw[K3 Hol];omega) (K3 hI) rfl rfl,hst,hbw.setCell (Nat.le_refl _) _⟩
   case measure=>simp[intOf]
def RetX(w:World)(k:Nat)(e:Ending)(w':World):Prop:=
 ∃A n l,e= .returned (.slice A n n)∧Mx l∧val l=k∧Py w' w.heap.size A n n l∧Below w.heap.size w w'
end Go.Proofs.YtoeiphicmcndlaaGreatDoor
