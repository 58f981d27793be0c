/-
 The reference's functions of numbers.
-/
import Derived.Test.YtoeiphicmcndlaaGreatDoorARa
import Derived.Test.YtoeiphicmcndlaaGreatDoorAWe
namespace Go.Proofs.YtoeiphicmcndlaaGreatDoor
set_option maxRecDepth 100000
set_option maxHeartbeats 8000000
set_option linter.unusedVariables false
set_option linter.unusedSimpArgs false
open Go.RowKit
theorem refup_step{o a:List Nat}{k h y x z c:Nat}(hk:o.length=h+k)(hI:val o+y*pw (h+k)=lo a k*c*pw h)(e:x+z*4294967296=dg a k*c+y):
 val (o++ [x])+z*pw (h+(k+1))=lo a (k+1)*c*pw h:=by
 rw[Tx hk,←Nat.add_assoc,M3,La]
 have h2:(x+z*4294967296)*pw (h+k)=(dg a k*c+y)*pw (h+k):=by rw[e]
 have h3:=pw_add h k
 rw[h3]at h2 hI ⊢
 generalize pw h=P at*
 generalize pw k=R at*
 grind
theorem refUp_c{A:Option Addr}{n c:Nat}{a:List Nat}(t:Nat)(w:World)(ha:In w A n c a)(hn:n≤274877906944)(ht:t≤65536):
 Calls Tryz.prog 294 #[.slice A n c,Zi t] w (Tq w (val a*2 ^ t)):=by
 have Ha:=Km ha
 have HL:=Km ha.len
 clear ha
 obtain⟨h,hh⟩:∃h,h=t/32:=⟨_,rfl⟩
 obtain⟨s,hs⟩:∃s,s=t%32:=⟨_,rfl⟩
 have hs32:s<32:=by omega
 have hh2:h≤2048:=by omega
 have e1:(t:Int)/32=(h:Int):=by omega
 have e2:(t:Int)%32=(s:Int):=by omega
 have hmk:=fun W=>Nk W (h:Int) h rfl Zo
 obtain⟨C,hC⟩:∃C,C=2 ^ s:=⟨_,rfl⟩
 have hC31:C≤2147483648:=by rw[hC];exact Ex hs32
 have HT:=Km (And.intro hh (And.intro hs hC))
 clear hh hs
 obtain⟨i0,hi0,hz0,hz1,hz2⟩:=info_parts Tryz.info_u32
 go_enter Tryz.func294,Tryz.ntmps294
 go_wp2_with fail
 go_loopw [5,6,7] (fun so sy si wx=>∃(k y:Nat) (o:List Nat),k≤n∧si=Zi k∧sy= .int .u64 y∧y<4294967296∧Hid (o.length=h+k∧N8 o∧val o+y*pw (h+k)=lo a k*C*pw h)∧wx.ownsRow w.heap.size 175 1 so (h+k) (Of o)∧Below w.heap.size w wx) (fun _ _ si _=>n- (intOf si).toNat)
 case atStart=>exact⟨0,0,List.replicate h 0,Nat.zero_le _,rfl,rfl,by omega,⟨by simp,N8.replicate _,by rw[Xp,N4];omega⟩,World.ownsRow_lit _ (zs h) h (Nat.le_refl _) (by unfold maxLen;omega) (by simp[zs,Of]),S8 _ _⟩
 case round=>
  obtain⟨k,y,o,hk,rfl,rfl,hy,hI,hownr,hbx⟩:=hrel
  have hsz:=hbx.size
  have hda:=(K3 Ha).dig k
  by_cases hlt:k<n
  ·have t0:(k:Int)<(n:Int):=by omega
   obtain⟨ad,rfl,hcell⟩:=((K3 Ha).below hbx).at_ (k:=k) hlt
   obtain⟨X,hX⟩:∃X,X=dg a k*C:=⟨_,rfl⟩
   have hXb:X≤9223372036854775808:=by
    have:dg a k*C≤4294967295*2147483648:=Nat.mul_le_mul Zo hC31
    omega
   have fw:IntKind.u64.wrap ((dg a k:Int)*2 ^ s)=(X:Int):=by rw[up_wide hda hs32,hX,hC]
   have HX:=Km hX
   clear hX
   go_wp2_with (first
    |(at_builtin;refine wpList_append_own_at _ rfl (.tmp 29) (.tmp 32) 36 rfl w.heap.size 175 i0 (.int .u32 0) 1 4 Tryz.underlying36 hi0 hz0 hz1 hz2 rfl Zd _ _ _ (by rfl) (hownr.alloc _) ⟨wr.heap.size,0,none⟩ 1 1 [.int .u32 _] rfl rfl (cell_one_new _ _ _) (by intro u hu;simp at hu;subst hu;rfl) (by simp only[maxLen];omega) Zo Zp ?_;intro v' w2 hown2 hg2 _ hat2))
   have hown3:=R0 (x:=(X+y)%4294967296) hown2 Zo
   have hb2:=Oy hbx hownr hg2
   clear hown2 hg2 hat2 hownr
   go_wp2_with fail
   go_roundw
   case rel=>
    obtain⟨h3,h4,h5⟩:=K3 hI
    exact⟨k+1,(X+y)/4294967296,_,by omega,by go_num,congrArg (Value.int .u64) Zo,by omega,⟨by rw[List.length_append,h3];rfl,h4.append (N8.one Zo),refup_step h3 h5 (by rw[←K3 HX];omega)⟩,hown3,hb2⟩
   case measure=>simp[intOf];omega
  ·obtain rfl:k=n:=by omega
   go_wp2_with (first
    |(at_builtin;refine wpList_append_own_at _ rfl (.tmp 36) (.tmp 39) 36 rfl w.heap.size 175 i0 (.int .u32 0) 1 4 Tryz.underlying36 hi0 hz0 hz1 hz2 rfl Zd _ _ _ (by rfl) (hownr.alloc _) ⟨wr.heap.size,0,none⟩ 1 1 [.int .u32 _] rfl rfl (cell_one_new _ _ _) (by intro u hu;simp at hu;subst hu;rfl) (by simp only[maxLen];omega) Zo Zp ?_;intro v' w2 hown2 hg2 _ hat2))
   have hown3:=R0 (x:=y) hown2 Zo
   have hb2:=Oy hbx hownr hg2
   clear hown2 hg2 hat2 hownr
   obtain⟨h3,h4,h5⟩:=K3 hI
   obtain⟨A1,c1,rfl,ho⟩:=Py.of_row hown3 (h4.append (N8.one Zo)) (by rw[List.length_append,h3];rfl)
   have hv:val (o++ [y])=val a*2 ^ t:=by
    obtain⟨g1,g2,g3⟩:=K3 HT
    rw[Tx h3,h5,M6 (by rw[K3 HL];omega),g3,g1,g2,←I6]
   have HV:=Km hv
   clear hv h3 h4 h5 hI
   go_wp2_with fail
   refine(Ls _ ho.toIn Zo).mono ?_
   rintro e w' ⟨A2,n2,c2,rfl,ho2,hw⟩
   go_wp2_with fail
   go_ret
   exact⟨A2,n2,c2,_,rfl,Kw ho.dig,by rw[Kh];exact K3 HV,ho2.base (by have:=hb2.size;omega),hb2.trans (hw.mono hb2.size)⟩
theorem refdown_step{b o:List Nat}{k c e d:Nat}(hc:c*e=4294967296)(hb:N8 b)(hk:o.length=k)
 (hI:val o+pw k*(dg b k/c)=lo b (k+1)/c) (hd:d=(dg b (k+1)*4294967296+dg b k)/c%4294967296):
 val (o++ [d])+pw (k+1)*(dg b (k+1)/c)=lo b (k+1+1)/c:=by
 have h1:=down_step (o:=o++ [0]) (k:=k) (d:=d) hc hb (by rw[List.length_append,hk];simp) (by rw[←hI];congr 1;rw[←hk,lo,List.take_left]) (by rw[hd,Nat.add_comm])
 rw[Pm (by rw[List.length_append,hk];simp),lo,←hk,List.take_left]at h1
 rw[Tx rfl,hk]at*
 exact h1
theorem refShiftUp{A:Option Addr}{n c:Nat}{a:List Nat}(s:Nat)(w:World)(ha:In w A n c a)(hn:n≤274877906944)(hs:s≤9223372036854775807):
 Calls Tryz.prog 289 #[.slice A n c,Zi s] w (Tq w (val a*2 ^ (min s 4096))):=by
 obtain⟨t,ht,hts,hts2⟩:∃t:Nat,t≤4096∧min (s:Int) 4096=(t:Int)∧min s 4096=t:=⟨min s 4096,by omega,by omega,rfl⟩
 rw[hts2]
 clear hts2
 go_enter Tryz.func289,Tryz.ntmps289
 go_wp2_with fail
 refine(refUp_c t w ha hn Zo).mono ?_
 rintro e w' ⟨A2,n2,c2,l2,rfl,h1,h2,h3,h4⟩
 go_wp2_with fail
 go_ret
 exact⟨A2,n2,c2,l2,rfl,h1,h2,h3,h4⟩
theorem refShiftDown{A:Option Addr}{n c:Nat}{a:List Nat}(s:Nat)(z:Int)(w:World)(ha:In w A n c a)(hn:n≤274877906944)(hs:(s:Int)≤9223372036854775808)(h0:0<s)(hz:z= -(s:Int)):
 Calls Tryz.prog 289 #[.slice A n c,Zi z] w (Tq w (val a/2 ^ s)):=by
 have Ha:=Km ha
 have zn1:z<0:=by omega
 by_cases hle:32*n<s
 ·have zn2:z< -32*(n:Int):=by omega
  have hv:Hid (val a/2 ^ s=0):=by
   have h1:=Mi ha.dig (by rw[ha.len];exact Nat.le_refl n)
   rw[Sj]at h1
   have h2:2 ^ (32*n)≤2 ^ s:=Nat.pow_le_pow_right Zo Zo
   exact Nat.div_eq_of_lt Zo
  clear hz hle
  go_enter Tryz.func289,Tryz.ntmps289
  go_wp2_with fail
  go_ret
  obtain⟨A1,c1,h1,ho⟩:=Py.of_row (X7 w) N8.nil rfl
  injection h1 with h1 h2 h3
  subst h3
  subst h1
  exact⟨_,_,_,[],rfl,Mx.nil,by rw[K3 hv];rfl,ho,S8 _ _⟩
 ·obtain⟨h,hh⟩:∃h,h=s/32:=⟨_,rfl⟩
  obtain⟨t,ht⟩:∃t,t=s%32:=⟨_,rfl⟩
  have zn2:¬z< -32*(n:Int):=by omega
  have e1:wrap64 (-(z.tdiv 32))=(h:Int):=by
   rw[hz,Int.neg_tdiv,Int.neg_neg,Int.tdiv_eq_ediv_of_nonneg Zo,IntWalk.wrap64_in _ ⟨by omega,by omega⟩];omega
  have e2: -(z.tmod 32)=(t:Int):=by
   rw[hz,Int.neg_tmod,Int.neg_neg,Int.tmod_eq_emod_of_nonneg Zo];omega
  have htb:t<32:=by omega
  have hhn:h≤n:=by omega
  have hsb:s≤8796093022208:=by omega
  have Hz:=Km hz
  have Hh:=Km hh
  have Ht:=Km ht
  obtain⟨b,hb⟩:∃b,b=a.drop h:=⟨_,rfl⟩
  have hbd:∀i,dg b i=dg a (h+i):=fun i=>by rw[hb,Qq]
  have hbl:b.length=n-h:=by rw[hb,List.length_drop,ha.len]
  have hbD:N8 b:=by rw[hb];exact ha.dig.drop h
  have hbv:val b=val a/pw h:=by rw[hb,Eu _ _ ha.dig]
  have HB:=Km (And.intro hbd (And.intro hbl hbv))
  clear hbd hbl hbv hb hz hh ht hle ha
  obtain⟨i0,hi0,hz0,hz1,hz2⟩:=info_parts Tryz.info_u32
  go_enter Tryz.func289,Tryz.ntmps289
  go_wp2_with fail
  go_loopw [5,6] (fun so si wx=>∃(k i:Nat) (o:List Nat),i≤n∧k≤i∧si=Zi i∧Hid (i=h+k)∧Hid (o.length=k∧N8 o∧val o+pw k*(dg b k/2 ^ t)=lo b (k+1)/2 ^ t)∧wx.ownsRow w.heap.size 175 1 so k (Of o)∧Below w.heap.size w wx) (fun _ si _=>n- (intOf si).toNat)
  case atStart=>exact⟨0,h,[],hhn,Nat.zero_le _,rfl,rfl,⟨rfl,N8.nil,by rw[La,N4,Fd];simp[val]⟩,X7 _,S8 _ _⟩
  case round=>
   obtain⟨k,i,o,hin,hki,rfl,hik,hI,hownr,hbx⟩:=hrel
   have hsz:=hbx.size
   by_cases hlt:i<n
   ·have t0:(i:Int)<(n:Int):=by omega
    have hx:=(K3 Ha).dig i
    have hy:=(K3 Ha).dig (i+1)
    go_wp2_with fail
    refine(Oh _ _ ((K3 Ha).below hbx) Zo).mono ?_
    rintro e w' ⟨rfl,rfl⟩
    rw[show((i:Int)+1).toNat=i+1 by omega]
    go_wp2_with fail
    refine(Oh _ _ ((K3 Ha).below hbx) Zo).mono ?_
    rintro e w' ⟨rfl,rfl⟩
    rw[Int.toNat_natCast]
    go_wp2_with (first
     |(at_builtin;refine wpList_append_own_at _ rfl (.tmp 39) (.tmp 47) 36 rfl w.heap.size 175 i0 (.int .u32 0) 1 4 Tryz.underlying36 hi0 hz0 hz1 hz2 rfl Zd _ _ _ (by rfl) (hownr.alloc _) ⟨wr.heap.size,0,none⟩ 1 1 [.int .u32 _] rfl rfl (cell_one_new _ _ _) (by intro u hu;simp at hu;subst hu;rfl) (by simp only[maxLen];omega) Zo Zp ?_;intro v' w2 hown2 hg2 _ hat2))
    have hown3:=R0 (x:=(dg a (i+1)*4294967296+dg a i)/2 ^ t%4294967296) hown2 (by rw[Int.natCast_emod,Int.natCast_ediv,Int.natCast_pow];rfl)
    have hb2:=Oy hbx hownr hg2
    clear hown2 hg2 hat2 hownr
    go_wp2_with fail
    go_roundw
    case rel=>
     obtain⟨h3,h4,h5⟩:=K3 hI
     have hB:=K3 HB
     have q1:dg a i=dg b k:=by rw[hB.1,←K3 hik]
     have q2:dg a (i+1)=dg b (k+1):=by rw[hB.1,K3 hik];rfl
     refine⟨k+1,i+1,_,by omega,by omega,by go_num,by have:=K3 hik;show _=_;omega,⟨by rw[List.length_append,h3];rfl,h4.append (N8.one (Nat.mod_lt _ Zo)),refdown_step (Y7 Zo) hbD h3 h5 (by rw[q1,q2])⟩,hown3,hb2⟩
    case measure=>simp[intOf];omega
   ·obtain rfl:i=n:=by omega
    obtain⟨h3,h4,h5⟩:=K3 hI
    obtain⟨A1,c1,rfl,ho⟩:=Py.of_row hownr h4 h3
    have hv:val o=val a/2 ^ s:=by
     have hB:=K3 HB
     have hkl:k=b.length:=by have:=K3 hik;rw[hB.2.1];omega
     rw[down_end (b:=b) (h3.trans hkl) (by rw[←hkl,←h5,lo,List.take_of_length_le Zo]),hB.2.2,K3 Hh,K3 Ht,←shift_div]
    have HV:=Km hv
    clear hv h3 h4 h5 hI
    go_wp2_with fail
    refine(Ls _ ho.toIn Zo).mono ?_
    rintro e w' ⟨A2,n2,c2,rfl,ho2,hw⟩
    go_wp2_with fail
    go_ret
    exact⟨A2,n2,c2,_,rfl,Kw ho.dig,by rw[Kh];exact K3 HV,ho2.base hbx.size,hbx.trans (hw.mono hbx.size)⟩
theorem E4{A:Option Addr}{n c:Nat}{a:List Nat}(z:Int)(w:World)(ha:In w A n c a)(hn:n≤274877906944)(h1: -9223372036854775808≤z)(h2:z≤9223372036854775807):
 Calls Tryz.prog 289 #[.slice A n c,Zi z] w (Tq w (B5 (val a) z)):=by
 unfold B5
 by_cases h:0≤z
 ·obtain⟨s,rfl⟩:=Int.eq_ofNat_of_zero_le h
  rw[if_pos h,Int.toNat_natCast]
  exact refShiftUp s w ha hn Zo
 ·rw[if_neg h]
  exact refShiftDown (-z).toNat z w ha hn Zo Zo Zo
end Go.Proofs.YtoeiphicmcndlaaGreatDoor
