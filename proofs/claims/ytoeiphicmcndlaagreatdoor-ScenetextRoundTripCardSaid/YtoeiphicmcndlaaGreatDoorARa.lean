/-
 The reference's functions of numbers.
-/
import Derived.Test.YtoeiphicmcndlaaGreatDoorAWk
namespace Go.Proofs.YtoeiphicmcndlaaGreatDoor
set_option maxRecDepth 100000
set_option maxHeartbeats 8000000
set_option linter.unusedVariables false
set_option linter.unusedSimpArgs false
open Go.RowKit
theorem X7(w:World):(w.alloc (.cells #[] 175)).ownsRow w.heap.size 175 1 (.slice (some ⟨w.heap.size,0,none⟩) 0 0) 0 (Of []):=World.ownsRow_lit _ _ _ (Nat.le_refl _) (by unfold maxLen;omega) rfl
theorem S8(w:World)(o:Obj):Below w.heap.size w (w.alloc o):=(Below.refl _ _).alloc (Nat.le_refl _) _
theorem R0{w:World}{B k x:Nat}{v:Value}{l:List Nat}{X:Int}(h:w.ownsRow B 175 1 v (k+1) (Of l++ [.int .u32 X]))(hX:X=(x:Int)):w.ownsRow B 175 1 v (k+1) (Of (l++ [x])):=by
 rw[I1,show Of [x]=[.int .u32 (x:Int)]from rfl,←hX];exact h
theorem Tx{l:List Nat}{k x:Nat}(hk:l.length=k):val (l++ [x])=val l+x*pw k:=by
 rw[Du,val_one,hk,Nat.mul_comm]
theorem Oy{w wr w2:World}{v:Value}{n e s:Nat}{xs:List Value}{o:Obj}(hb:Below w.heap.size w wr)(hown:wr.ownsRow w.heap.size e s v n xs)(hg:(wr.alloc o).grownBy w2 v.ownBlock):Below w.heap.size w w2:=
 (hb.alloc hb.size _).grown hg (by have:=hb.size;simp;omega) (fun k hk=>(hown.lt k hk).1)
theorem Oh{A:Option Addr}{n c:Nat}{l:List Nat}(i:Int)(w:World)(h:In w A n c l)(h0:0≤i):
 Calls Tryz.prog 292 #[.slice A n c,Zi i] w fun e w'=>e= .returned (.int .u64 (dg l i.toNat:Nat))∧w=w':=by
 obtain⟨k,rfl⟩:=Int.eq_ofNat_of_zero_le h0
 have hn:=h.lenI
 have hd:=h.dig k
 by_cases hk:k<n
 ·obtain⟨ad,rfl,hc⟩:=h.at_ hk
  have hl:=Km h.len
  have t1:¬(k:Int)<0:=by omega
  have t2:¬(n:Int)≤(k:Int):=by omega
  clear h h0
  go_enter Tryz.func292,Tryz.ntmps292
  go_wp2_with fail
  go_ret
  exact⟨rfl,rfl⟩
 ·have hl:=Km h.len
  have e:Hid (dg l k=0):=Ub (by rw[h.len];omega)
  have t1:¬(k:Int)<0:=by omega
  have t2:(n:Int)≤(k:Int):=by omega
  clear h h0
  go_enter Tryz.func292,Tryz.ntmps292
  go_wp2_with fail
  go_ret
  refine⟨?_,rfl⟩
  rw[K3 e];rfl
theorem Ls{A:Option Addr}{n c:Nat}{l:List Nat}(w:World)(h:In w A n c l)(hb:n≤1099511627776):
 Calls Tryz.prog 266 #[.slice A n c] w (RetL w (trim l)):=by
 have hn:=h.lenI
 have ht:=Nw l n
 have hle:=h.len
 have htr:Hid (l.take (tlen l n)=trim l):=by show _=_;rw[trim,hle]
 have HL:=Km hle
 clear hle
 obtain⟨p,hp⟩:∃p,p=tlen l n:=⟨_,rfl⟩
 rw[←hp]at ht htr
 have HP:=Km hp
 clear hp
 have H:=Km h
 clear h
 obtain⟨i0,hi0,hz0,hz1,hz2⟩:=info_parts Tryz.info_u32
 go_enter Tryz.func266,Tryz.ntmps266
 go_wp2_with fail
 go_loop [3] (fun i=>∃k:Nat,k≤n∧i=Zi k∧Hid (tlen l k=p)) (fun i=>(intOf i).toNat)
 case atStart=>exact⟨n,Nat.le_refl _,rfl,(K3 HP).symm⟩
 case round=>
  obtain⟨k,hk,rfl,ht⟩:=hrel
  by_cases hk0:k=0
  ·have hkp:k=p:=by rw[←K3 ht,hk0];rfl
   have t0:¬(0:Int)<(k:Int):=by omega
   clear hk0
   go_wp2_with fail
   go_loopw [4,5] (fun so si wx=>∃i:Nat,i≤k∧si=Zi i∧wx.ownsRow w.heap.size 175 1 so i (Of (l.take i))∧Below w.heap.size w wx) (fun _ si _=>k- (intOf si).toNat)
   case atStart=>exact⟨0,Nat.zero_le _,rfl,X7 _,S8 _ _⟩
   case round=>
    obtain⟨i,hi,rfl,hownr,hbx⟩:=hrel
    by_cases hlt:i<k
    ·exact absurd hlt Zo
    ·obtain rfl:i=k:=by omega
     go_wp2_with fail
     go_ret
     subst hkp
     rw[K3 htr]at hownr
     obtain⟨A1,c1,rfl,ho⟩:=Py.of_row hownr (by rw[←K3 htr];exact(K3 H).dig.take _) (by rw[←K3 htr,List.length_take,K3 HL];omega)
     exact⟨A1,_,c1,rfl,ho,hbx⟩
  ·obtain⟨j,hj⟩:∃j,k=j+1:=⟨k-1,by omega⟩
   obtain⟨ad,rfl,hcell⟩:=(K3 H).at_ (k:=j) Zo
   have t0:(0:Int)<(k:Int):=by omega
   have t1:(k:Int)-1=(j:Int):=by omega
   have t2:(j:Int)<(n:Int):=by omega
   by_cases hd:dg l j=0
   ·have t3:((dg l j:Int)==0)=true:=by simp[hd]
    have HD:=Km hd
    clear hd
    go_wp2_with fail
    go_round
    case rel=>exact⟨j,by omega,rfl,by show _=_;rw[←K3 ht,hj,tlen_step (K3 HD)]⟩
    case measure=>simp[intOf];omega
   ·have t3:((dg l j:Int)==0)=false:=by simpa using hd
    have hkp:k=p:=by rw[←K3 ht,hj,tlen_stop hd]
    clear hd
    go_wp2_with fail
    go_loopw [4,5] (fun so si wx=>∃i:Nat,i≤k∧si=Zi i∧wx.ownsRow w.heap.size 175 1 so i (Of (l.take i))∧Below w.heap.size w wx) (fun _ si _=>k- (intOf si).toNat)
    case atStart=>exact⟨0,Nat.zero_le _,rfl,X7 _,S8 _ _⟩
    case round=>
     obtain⟨i,hi,rfl,hownr,hbx⟩:=hrel
     by_cases hlt:i<k
     ·obtain⟨ad2,hA2,hcell2⟩:=((K3 H).below hbx).at_ (k:=i) Zo
      obtain rfl:ad=ad2:=by injection hA2
      have hsz:=hbx.size
      have hik:(i:Int)<(n:Int)∧(i:Int)<(k:Int):=by omega
      go_wp2_with (first
       |(at_builtin;refine wpList_append_own_at _ rfl (.tmp 26) (.tmp 31) 36 rfl w.heap.size 175 i0 (.int .u32 0) 1 4 Tryz.underlying36 hi0 hz0 hz1 hz2 rfl Zd _ _ _ (by rfl) (hownr.alloc _) ⟨wr.heap.size,0,none⟩ 1 1 [.int .u32 ((dg l i:Int))] rfl rfl (cell_one_new _ _ _) (by intro u hu;simp at hu;subst hu;rfl) (by simp only[maxLen];omega) Zo Zp ?_;intro v' w2 hown2 hg2 _ hat2))
      have hown3:=R0 hown2 rfl
      have hb2:=Oy hbx hownr hg2
      clear hown2 hg2 hat2 hownr
      go_wp2_with fail
      go_roundw
      case rel=>
       refine⟨i+1,by omega,by go_num,?_,hb2⟩
       rw[List.take_succ_eq_append_getElem (by rw[K3 HL];omega),←dg_in]
       exact hown3
      case measure=>simp[intOf];omega
     ·obtain rfl:i=k:=by omega
      go_wp2_with fail
      go_ret
      subst hkp
      rw[K3 htr]at hownr
      obtain⟨A1,c1,rfl,ho⟩:=Py.of_row hownr (by rw[←K3 htr];exact(K3 H).dig.take _) (by rw[←K3 htr,List.length_take,K3 HL];omega)
      exact⟨A1,_,c1,rfl,ho,hbx⟩
theorem Wt{A B:Option Addr}{n c m d:Nat}{a b:List Nat}(w:World)(ha:In w A n c a)(hb:In w B m d b):
 Calls Tryz.prog 293 #[.slice A n c,.slice B m d] w (RetQ w (Zi (U4 (val a) (val b)))):=by
 have hn:=ha.lenI
 have hm:=hb.lenI
 have Ha:=Km ha
 have Hb:=Km hb
 obtain⟨N,h1,h2,hN,h3⟩:∃N,n≤N∧m≤N∧N≤9223372036854775807∧((n<m→N=m)∧(¬n<m→N=n)):=⟨max n m,by omega,by omega,by omega,by omega,by omega⟩
 have H3:=Km h3
 have HL:=Km (And.intro ha.len hb.len)
 clear h3 ha hb
 go_enter Tryz.func293,Tryz.ntmps293
 go_wp2_with fail
 go_loopw [5] (fun si wx=>∃(k:Nat) (z:Int),k≤N∧z+1=k∧si=Zi z∧Hid (∀j,k≤j→dg a j=dg b j)∧Qd w wx) (fun si _=>(intOf si+1).toNat)
 case atStart=>
  refine⟨N,(N:Int)-1,Nat.le_refl _,by omega,congrArg (Value.int .i64) (by have:=K3 H3;omega),fun j hj=> ?_,Qd.refl _⟩
  rw[Ub (by rw[(K3 HL).1];omega),Ub (by rw[(K3 HL).2];omega)]
 case round=>
  obtain⟨k,z,hk,hz,rfl,hag,⟨q,rfl⟩⟩:=hrel
  by_cases h0:k=0
  ·subst h0
   obtain rfl:z= -1:=by omega
   clear hz
   go_wp2_with fail
   go_ret
   refine⟨?_,Qd.of _ _⟩
   rw[cmpN_eq]
   ·rfl
   ·exact Et fun j=>K3 hag j (Nat.zero_le _)
  ·obtain⟨j,rfl⟩:∃j,k=j+1:=⟨k-1,by omega⟩
   obtain rfl:z=(j:Int):=by omega
   clear hz h0
   go_wp2_with fail
   refine(Oh _ _ ((K3 Ha).drewN q) Zo).mono ?_
   rintro e w' ⟨rfl,rfl⟩
   go_wp2_with fail
   refine(Oh _ _ ((K3 Hb).drewN q) Zo).mono ?_
   rintro e w' ⟨rfl,rfl⟩
   rw[Int.toNat_natCast]
   by_cases hlt:dg a j<dg b j
   ·have t1:(dg a j:Int)<(dg b j:Int):=by omega
    have K:Hid (U4 (val a) (val b)= -1):=D9 (C9 (K3 Ha).dig (fun i hi=>K3 hag i Zo) hlt)
    clear hlt
    go_wp2_with fail
    go_ret
    rw[K3 K]
    exact⟨rfl,Qd.of _ _⟩
   ·have t1:¬(dg a j:Int)<(dg b j:Int):=by omega
    go_wp2_with fail
    refine(Oh _ _ ((K3 Ha).drewN q) Zo).mono ?_
    rintro e w' ⟨rfl,rfl⟩
    go_wp2_with fail
    refine(Oh _ _ ((K3 Hb).drewN q) Zo).mono ?_
    rintro e w' ⟨rfl,rfl⟩
    rw[Int.toNat_natCast]
    by_cases hgt:dg b j<dg a j
    ·have t2:(dg b j:Int)<(dg a j:Int):=by omega
     have K:Hid (U4 (val a) (val b)=1):=Jq (C9 (K3 Hb).dig (fun i hi=>(K3 hag i Zo).symm) hgt)
     clear hgt hlt
     go_wp2_with fail
     go_ret
     rw[K3 K]
     exact⟨rfl,Qd.of _ _⟩
    ·have t2:¬(dg b j:Int)<(dg a j:Int):=by omega
     have HE:Hid (dg a j=dg b j):=by show _=_;omega
     clear hgt hlt
     go_wp2_with fail
     go_roundw
     case rel=>
      refine⟨j,(j:Int)-1,by omega,by omega,rfl,fun i hi=> ?_,Qd.of _ _⟩
      by_cases e:i=j
      ·subst e;exact K3 HE
      ·exact K3 hag i Zo
     case measure=>simp[intOf]
theorem refadd_step{o a b:List Nat}{k y x z:Nat}(hk:o.length=k)(h:val o+y*pw k=lo a k+lo b k)(e:x+z*4294967296=dg a k+dg b k+y):
 val (o++ [x])+z*pw (k+1)=lo a (k+1)+lo b (k+1):=by
 rw[Tx hk,M3,La,La]
 have h2:(x+z*4294967296)*pw k=(dg a k+dg b k+y)*pw k:=by rw[e]
 grind
theorem refadd_end{o a b:List Nat}{N y:Nat}(ho:o.length=N)(ha:a.length≤N)(hb:b.length≤N)(h:val o+y*pw N=lo a N+lo b N):val (o++ [y])=val a+val b:=by
 rw[Tx ho,h,M6 ha,M6 hb]
theorem refsub_step{o a b:List Nat}{k y x z:Nat}(hk:o.length=k)(h:val o+lo b k=lo a k+y*pw k)(e:x+dg b k+y=dg a k+z*4294967296):
 val (o++ [x])+lo b (k+1)=lo a (k+1)+z*pw (k+1):=by
 rw[Tx hk,M3,La,La]
 have h2:(x+dg b k+y)*pw k=(dg a k+z*4294967296)*pw k:=by rw[e]
 grind
theorem refsub_end{o a b:List Nat}{n y:Nat}(ho:o.length=n)(hod:N8 o)(ha:a.length=n)(had:N8 a)(hle:val b≤val a)(h:val o+lo b n=lo a n+y*pw n):val o=val a-val b:=by
 rw[M6 (Nat.le_of_eq ha)]at h
 have h1:val a<pw n:=Mi had (Nat.le_of_eq ha)
 have h2:val o<pw n:=Mi hod (Nat.le_of_eq ho)
 have h3:=Fk b n
 have h4:val (b.drop n)=0:=by
  rcases Nat.eq_zero_or_pos (val (b.drop n))with e|e
  ·exact e
  ·have:pw n*1≤pw n*val (b.drop n):=Nat.mul_le_mul_left _ e
   omega
 rw[h4,Nat.mul_zero,Nat.add_zero]at h3
 rcases Nat.eq_zero_or_pos y with e|e
 ·rw[e,Nat.zero_mul]at h;omega
 ·have:1*pw n≤y*pw n:=Nat.mul_le_mul_right _ e
  omega
theorem reftimes_step{o a:List Nat}{k y x z d:Nat}(hk:o.length=k)(h:val o+y*pw k=lo a k*d)(e:x+z*4294967296=dg a k*d+y):
 val (o++ [x])+z*pw (k+1)=lo a (k+1)*d:=by
 rw[Tx hk,M3,La]
 have h2:(x+z*4294967296)*pw k=(dg a k*d+y)*pw k:=by rw[e]
 grind
theorem refAdd_c{A B:Option Addr}{n c m d:Nat}{a b:List Nat}(w:World)(ha:In w A n c a)(hb:In w B m d b)(hn:n≤549755813888)(hm:m≤549755813888):
 Calls Tryz.prog 282 #[.slice A n c,.slice B m d] w (Tq w (val a+val b)):=by
 have Ha:=Km ha
 have Hb:=Km hb
 obtain⟨N,h1,h2,hN,hmax⟩:∃N:Nat,n≤N∧m≤N∧N≤549755813888∧max (n:Int) (m:Int)=(N:Int):=⟨max n m,by omega,by omega,by omega,by omega⟩
 have HL:=Km (And.intro (Nat.le_trans (Nat.le_of_eq ha.len) h1) (Nat.le_trans (Nat.le_of_eq hb.len) h2))
 clear ha hb
 obtain⟨i0,hi0,hz0,hz1,hz2⟩:=info_parts Tryz.info_u32
 go_enter Tryz.func282,Tryz.ntmps282
 go_wp2_with fail
 go_loopw [5,6,7] (fun so sy si wx=>∃(k y:Nat) (o:List Nat),k≤N∧si=Zi k∧sy= .int .u64 y∧y≤1∧Hid (o.length=k∧N8 o∧val o+y*pw k=lo a k+lo b k)∧wx.ownsRow w.heap.size 175 1 so k (Of o)∧Below w.heap.size w wx) (fun _ _ si _=>N- (intOf si).toNat)
 case atStart=>exact⟨0,0,[],Nat.zero_le _,rfl,rfl,Nat.zero_le _,⟨rfl,N8.nil,by simp[N4,val]⟩,X7 _,S8 _ _⟩
 case round=>
  obtain⟨k,y,o,hk,rfl,rfl,hy,hI,hownr,hbx⟩:=hrel
  have hsz:=hbx.size
  have hda:=(K3 Ha).dig k
  have hdb:=(K3 Hb).dig k
  by_cases hlt:k<N
  ·have t0:(k:Int)<(N:Int):=by omega
   have t0':(k:Int)<max (n:Int) (m:Int):=by omega
   go_wp2_with fail
   refine(Oh _ _ ((K3 Ha).below hbx) Zo).mono ?_
   rintro e w' ⟨rfl,rfl⟩
   go_wp2_with fail
   refine(Oh _ _ ((K3 Hb).below hbx) Zo).mono ?_
   rintro e w' ⟨rfl,rfl⟩
   rw[Int.toNat_natCast]
   go_wp2_with (first
    |(at_builtin;refine wpList_append_own_at _ rfl (.tmp 28) (.tmp 31) 36 rfl w.heap.size 175 i0 (.int .u32 0) 1 4 Tryz.underlying36 hi0 hz0 hz1 hz2 rfl Zd _ _ _ (by rfl) (hownr.alloc _) ⟨wr.heap.size,0,none⟩ 1 1 [.int .u32 _] rfl rfl (cell_one_new _ _ _) (by intro u hu;simp at hu;subst hu;rfl) (by simp only[maxLen];omega) Zo Zp ?_;intro v' w2 hown2 hg2 _ hat2))
   have hown3:=R0 (x:=(dg a k+dg b k+y)%4294967296) hown2 Zo
   have hb2:=Oy hbx hownr hg2
   clear hown2 hg2 hat2 hownr
   go_wp2_with fail
   go_roundw
   case rel=>
    obtain⟨h3,h4,h5⟩:=K3 hI
    exact⟨k+1,(dg a k+dg b k+y)/4294967296,_,by omega,by go_num,by go_num,by omega,⟨by rw[List.length_append,h3];rfl,h4.append (N8.one Zo),refadd_step h3 h5 Zo⟩,hown3,hb2⟩
   case measure=>simp[intOf];omega
  ·have hkN:k=N:=by omega
   have t0:¬(k:Int)<(N:Int):=by omega
   have t0':¬(k:Int)<max (n:Int) (m:Int):=by omega
   go_wp2_with (first
    |(at_builtin;refine wpList_append_own_at _ rfl (.tmp 35) (.tmp 38) 36 rfl w.heap.size 175 i0 (.int .u32 0) 1 4 Tryz.underlying36 hi0 hz0 hz1 hz2 rfl Zd _ _ _ (by rfl) (hownr.alloc _) ⟨wr.heap.size,0,none⟩ 1 1 [.int .u32 _] rfl rfl (cell_one_new _ _ _) (by intro u hu;simp at hu;subst hu;rfl) (by simp only[maxLen];omega) Zo Zp ?_;intro v' w2 hown2 hg2 _ hat2))
   have hown3:=R0 (x:=y) hown2 Zo
   have hb2:=Oy hbx hownr hg2
   clear hown2 hg2 hat2 hownr
   obtain⟨h3,h4,h5⟩:=K3 hI
   obtain⟨A1,c1,rfl,ho⟩:=Py.of_row hown3 (h4.append (N8.one Zo)) (by rw[List.length_append,h3];rfl)
   have hv:val (o++ [y])=val a+val b:=refadd_end (h3.trans hkN) (K3 HL).1 (K3 HL).2 (by rw[←hkN];exact h5)
   have HV:=Km hv
   clear hv h3 h4 h5 hI
   go_wp2_with fail
   refine(Ls _ ho.toIn Zo).mono ?_
   rintro e w' ⟨A2,n2,c2,rfl,ho2,hw⟩
   go_wp2_with fail
   go_ret
   exact⟨A2,n2,c2,_,rfl,Kw ho.dig,by rw[Kh];exact K3 HV,ho2.base (by have:=hb2.size;omega),hb2.trans (hw.mono hb2.size)⟩
theorem Ws{A B:Option Addr}{n c m d:Nat}{a b:List Nat}(w:World)(ha:In w A n c a)(hb:In w B m d b)(hn:n≤549755813888):
 Calls Tryz.prog 283 #[.slice A n c,.slice B m d] w fun e w'=>∃A' n' c' l,e= .returned (.tuple #[.slice A' n' c',.bool (decide (val b≤val a))])∧Mx l∧val l=val a-val b∧Py w' w.heap.size A' n' c' l∧Below w.heap.size w w':=by
 have Ha:=Km ha
 have Hb:=Km hb
 by_cases hcmp:val a<val b
 ·have K:Hid (U4 (val a) (val b)= -1):=D9 hcmp
  have Hc:=Km hcmp
  clear hcmp
  go_enter Tryz.func283,Tryz.ntmps283
  go_wp2_with fail
  refine(Wt w ha hb).mono ?_
  rintro e w' ⟨rfl,⟨q,rfl⟩⟩
  rw[K3 K]
  go_wp2_with fail
  go_ret2
  have:=K3 Hc
  exact⟨none,0,0,[],by rw[decide_eq_false Zo];rfl,Mx.nil,by rw[Ts];omega,Py.nil_,Mh (Below.refl _ _) _⟩
 ·obtain⟨z,hz0,K⟩:∃z,(0:Int)≤z∧Hid (U4 (val a) (val b)=z):=by
   refine⟨_,?_,rfl⟩
   unfold U4
   rw[if_neg hcmp];split<;>omega
  have hdec:Hid (decide (val b≤val a)=true):=decide_eq_true Zo
  have Hc:=Km hcmp
  have HL:=Km ha.len
  clear hcmp ha hb
  obtain⟨i0,hi0,hz0',hz1,hz2⟩:=info_parts Tryz.info_u32
  have hz0:=hz0'
  go_enter Tryz.func283,Tryz.ntmps283
  go_wp2_with fail
  refine(Wt w (K3 Ha) (K3 Hb)).mono ?_
  rintro e w' ⟨rfl,⟨q,rfl⟩⟩
  rw[K3 K]
  go_wp2_with fail
  go_loopw [6,7,8] (fun so sy si wx=>∃(k y:Nat) (o:List Nat),k≤n∧si=Zi k∧sy= .int .u64 y∧y≤1∧Hid (o.length=k∧N8 o∧val o+lo b k=lo a k+y*pw k)∧wx.ownsRow w.heap.size 175 1 so k (Of o)∧Below w.heap.size w wx) (fun _ _ si _=>n- (intOf si).toNat)
  case atStart=>exact⟨0,0,[],Nat.zero_le _,rfl,rfl,Nat.zero_le _,⟨rfl,N8.nil,by simp[N4,val]⟩,X7 _,(Mh (Below.refl _ _) q).alloc (Nat.le_refl _) _⟩
  case round=>
   obtain⟨k,y,o,hk,rfl,rfl,hy,hI,hownr,hbx⟩:=hrel
   have hsz:=hbx.size
   have hda:=(K3 Ha).dig k
   have hdb:=(K3 Hb).dig k
   by_cases hlt:k<n
   ·have t0:(k:Int)<(n:Int):=by omega
    go_wp2_with fail
    refine(Oh _ _ ((K3 Ha).below hbx) Zo).mono ?_
    rintro e w' ⟨rfl,rfl⟩
    go_wp2_with fail
    refine(Oh _ _ ((K3 Hb).below hbx) Zo).mono ?_
    rintro e w' ⟨rfl,rfl⟩
    rw[Int.toNat_natCast]
    go_wp2_with (first
     |(at_builtin;refine wpList_append_own_at _ rfl (.tmp 31) (.tmp 34) 36 rfl w.heap.size 175 i0 (.int .u32 0) 1 4 Tryz.underlying36 hi0 hz0 hz1 hz2 rfl Zd _ _ _ (by rfl) (hownr.alloc _) ⟨wr.heap.size,0,none⟩ 1 1 [.int .u32 _] rfl rfl (cell_one_new _ _ _) (by intro u hu;simp at hu;subst hu;rfl) (by simp only[maxLen];omega) Zo Zp ?_;intro v' w2 hown2 hg2 _ hat2))
    have hown3:=R0 (x:=(4294967296+dg a k-dg b k-y)%4294967296) hown2 Zo
    have hb2:=Oy hbx hownr hg2
    clear hown2 hg2 hat2 hownr
    go_wp2_with fail
    go_roundw
    case rel=>
     obtain⟨h3,h4,h5⟩:=K3 hI
     exact⟨k+1,1- (4294967296+dg a k-dg b k-y)/4294967296,_,by omega,by go_num,congrArg (Value.int .u64) Zo,by omega,⟨by rw[List.length_append,h3];rfl,h4.append (N8.one Zo),refsub_step h3 h5 Zo⟩,hown3,hb2⟩
    case measure=>simp[intOf];omega
   ·obtain rfl:k=n:=by omega
    obtain⟨h3,h4,h5⟩:=K3 hI
    obtain⟨A1,c1,rfl,ho⟩:=Py.of_row hownr h4 h3
    have hv:val o=val a-val b:=refsub_end h3 h4 (K3 HL) (K3 Ha).dig (by have:=K3 Hc;omega) h5
    have HV:=Km hv
    clear hv h3 h4 h5 hI
    go_wp2_with fail
    refine(Ls _ ho.toIn Zo).mono ?_
    rintro e w' ⟨A2,n2,c2,rfl,ho2,hw⟩
    go_wp2_with fail
    go_ret2
    rw[K3 hdec]
    exact⟨A2,n2,c2,_,rfl,Kw ho.dig,by rw[Kh];exact K3 HV,ho2.base (by have:=hbx.size;omega),hbx.trans (hw.mono hbx.size)⟩
theorem refTimes_c{A:Option Addr}{n c:Nat}{a:List Nat}(d:Nat)(w:World)(ha:In w A n c a)(hn:n≤549755813888)(hd:d<4294967296):
 Calls Tryz.prog 295 #[.slice A n c,.int .u64 d] w (Tq w (val a*d)):=by
 have Ha:=Km ha
 have HL:=Km ha.len
 clear ha
 obtain⟨i0,hi0,hz0,hz1,hz2⟩:=info_parts Tryz.info_u32
 go_enter Tryz.func295,Tryz.ntmps295
 go_wp2_with fail
 go_loopw [5,6,7] (fun so sy si wx=>∃(k y:Nat) (o:List Nat),k≤n∧si=Zi k∧sy= .int .u64 y∧y<4294967296∧Hid (o.length=k∧N8 o∧val o+y*pw k=lo a k*d)∧wx.ownsRow w.heap.size 175 1 so k (Of o)∧Below w.heap.size w wx) (fun _ _ si _=>n- (intOf si).toNat)
 case atStart=>exact⟨0,0,[],Nat.zero_le _,rfl,rfl,by omega,⟨rfl,N8.nil,by simp[N4,val]⟩,X7 _,S8 _ _⟩
 case round=>
  obtain⟨k,y,o,hk,rfl,rfl,hy,hI,hownr,hbx⟩:=hrel
  have hsz:=hbx.size
  have hda:=(K3 Ha).dig k
  by_cases hlt:k<n
  ·have t0:(k:Int)<(n:Int):=by omega
   obtain⟨ad,rfl,hcell⟩:=((K3 Ha).below hbx).at_ (k:=k) hlt
   have hml:=Yk hda hd
   obtain⟨s,hs⟩:∃s,s=dg a k*d+y:=⟨_,rfl⟩
   have hsi:(dg a k:Int)*(d:Int)+(y:Int)=(s:Int):=by rw[hs];simp
   have hmi:(dg a k:Int)*(d:Int)≤18446744065119617025∧0≤(dg a k:Int)*(d:Int):=Gy hda hd
   have hsb:(s:Int)≤18446744069414584320:=by omega
   have HS:=Km hs
   clear hs hml
   go_wp2_with (first
    |(at_builtin;refine wpList_append_own_at _ rfl (.tmp 25) (.tmp 28) 36 rfl w.heap.size 175 i0 (.int .u32 0) 1 4 Tryz.underlying36 hi0 hz0 hz1 hz2 rfl Zd _ _ _ (by rfl) (hownr.alloc _) ⟨wr.heap.size,0,none⟩ 1 1 [.int .u32 _] rfl rfl (cell_one_new _ _ _) (by intro u hu;simp at hu;subst hu;rfl) (by simp only[maxLen];omega) Zo Zp ?_;intro v' w2 hown2 hg2 _ hat2))
   have hown3:=R0 (x:=s%4294967296) hown2 Zo
   have hb2:=Oy hbx hownr hg2
   clear hown2 hg2 hat2 hownr
   go_wp2_with fail
   go_roundw
   case rel=>
    obtain⟨h3,h4,h5⟩:=K3 hI
    exact⟨k+1,s/4294967296,_,by omega,by go_num,congrArg (Value.int .u64) Zo,by omega,⟨by rw[List.length_append,h3];rfl,h4.append (N8.one Zo),reftimes_step h3 h5 (by rw[←K3 HS];omega)⟩,hown3,hb2⟩
   case measure=>simp[intOf];omega
  ·obtain rfl:k=n:=by omega
   go_wp2_with (first
    |(at_builtin;refine wpList_append_own_at _ rfl (.tmp 32) (.tmp 35) 36 rfl w.heap.size 175 i0 (.int .u32 0) 1 4 Tryz.underlying36 hi0 hz0 hz1 hz2 rfl Zd _ _ _ (by rfl) (hownr.alloc _) ⟨wr.heap.size,0,none⟩ 1 1 [.int .u32 _] rfl rfl (cell_one_new _ _ _) (by intro u hu;simp at hu;subst hu;rfl) (by simp only[maxLen];omega) Zo Zp ?_;intro v' w2 hown2 hg2 _ hat2))
   have hown3:=R0 (x:=y) hown2 Zo
   have hb2:=Oy hbx hownr hg2
   clear hown2 hg2 hat2 hownr
   obtain⟨h3,h4,h5⟩:=K3 hI
   obtain⟨A1,c1,rfl,ho⟩:=Py.of_row hown3 (h4.append (N8.one Zo)) (by rw[List.length_append,h3];rfl)
   have hv:val (o++ [y])=val a*d:=by rw[Tx h3,h5,M6 (by rw[K3 HL];omega)]
   have HV:=Km hv
   clear hv h3 h4 h5 hI
   go_wp2_with fail
   refine(Ls _ ho.toIn Zo).mono ?_
   rintro e w' ⟨A2,n2,c2,rfl,ho2,hw⟩
   go_wp2_with fail
   go_ret
   exact⟨A2,n2,c2,_,rfl,Kw ho.dig,by rw[Kh];exact K3 HV,ho2.base (by have:=hb2.size;omega),hb2.trans (hw.mono hb2.size)⟩
theorem I9{A:Option Addr}{n c:Nat}{a:List Nat}(w:World)(ha:In w A n c a)(hn:n≤274877906944):
 Calls Tryz.prog 264 #[.slice A n c] w fun e w'=>e= .returned (Zi (bitsN (val a):Nat))∧Below w.heap.size w w':=by
 go_enter Tryz.func264,Tryz.ntmps264
 go_wp2_with fail
 refine(Ls w ha Zo).mono ?_
 rintro e w1 ⟨At,nt,ct,rfl,ot,hw⟩
 have Nt:=Kw ha.dig
 have vt:=Kh a
 have hl:=ot.toIn.len
 have ht:(trim a).length≤n:=by have:=Og a;have:=ha.len;omega
 obtain⟨l,hlt⟩:∃l,l=trim a:=⟨_,rfl⟩
 rw[←hlt]at ot Nt vt hl ht
 have hnt:nt≤n:=by omega
 have it:=ot.toIn
 have VT:=Km vt
 clear hlt ht vt ha
 by_cases h0:nt=0
 ·subst h0
  have hv:Hid (bitsN (val a)=0):=by
   show _=_
   rw[←K3 VT,List.length_eq_zero_iff.1 hl];rfl
  clear hl
  go_wp2_with fail
  go_ret
  rw[K3 hv]
  exact⟨rfl,hw⟩
 ·obtain⟨p,rfl⟩:∃p,nt=p+1:=⟨nt-1,by omega⟩
  have hd0:dg l p≠0:=by
   rcases Nt.2 with e|e
   ·rw[e]at hl;simp at hl
   ·rw[hl]at e;exact e
  have hb:=W7 Nt.dig hl hd0
  have hT:=Nt.dig p
  obtain⟨T,hTe⟩:∃T,T=dg l p:=⟨_,rfl⟩
  obtain⟨ad,rfl,hcell⟩:=it.at_ (k:=p) Zo
  have t0:((p:Int)+1==0)=false:=by simp;omega
  rw[←hTe]at hcell hb hT
  have HB:=Km hb
  have h32:=Xi hT
  clear hl hd0 hb hTe h0
  go_wp2_with fail
  go_loop [4,5] (fun sn st=>∃(t z:Nat),sn=Zi ((32*p+z:Nat):Int)∧st= .int .u32 t∧t<4294967296∧z≤32∧Hid (z+Lib.bitLen t=Lib.bitLen T)) (fun _ st=>(intOf st).toNat)
  case atStart=>exact⟨T,0,congrArg (Value.int .i64) Zo,rfl,hT,by omega,Nat.zero_add _⟩
  case round=>
   obtain⟨t,z,rfl,rfl,ht,hz,hI⟩:=hrel
   by_cases ht0:t=0
   ·subst ht0
    have hz':Hid (bitsN (val a)=32*p+z):=by
     show _=_
     rw[←K3 VT,K3 HB,←K3 hI,Ir,Nat.add_zero]
    go_wp2_with fail
    go_ret
    rw[K3 hz']
    exact⟨rfl,hw⟩
   ·have t1:(0:Int)<(t:Int):=by omega
    have hI2:Hid (z+1+Lib.bitLen (t/2)=Lib.bitLen T):=by
     show _=_
     rw[←K3 hI,Lib.bitLen_half t ht0 Zo];omega
    have hz2:z+1≤32:=by have:=K3 hI2;omega
    clear ht0
    go_wp2_with fail
    go_round
    case rel=>exact⟨t/2,z+1,congrArg (Value.int .i64) Zo,congrArg (Value.int .u32) Zo,by omega,by omega,hI2⟩
    case measure=>simp[intOf];omega
theorem refMul_c{A B:Option Addr}{n c m d:Nat}{a b:List Nat}(w:World)(ha:In w A n c a)(hb:In w B m d b)(hn:n≤274877906944)(hm:m≤274877906944):
 Calls Tryz.prog 228 #[.slice A n c,.slice B m d] w (Tq w (val a*val b)):=by
 have Ha:=Km ha
 have Hb:=Km hb
 have HL:=Km (And.intro ha.len hb.len)
 clear ha hb
 obtain⟨N,hN⟩:∃N,N=n+m+1:=⟨_,rfl⟩
 have hmk:=fun W=>Nk W ((n:Int)+m+1) N Zo Zo
 have hNb:N≤549755813889:=by omega
 have HN:=Km hN
 clear hN
 go_enter Tryz.func228,Tryz.ntmps228
 go_wp2_with fail
 go_loopw [6] (fun i wr=>∃(k:Nat) (o:List Nat),k≤n∧i=Zi k∧o.length=N∧N8 o∧Hid (val o=lo a k*val b∧∀j,k+m≤j→dg o j=0)∧Mk wr w.heap.size 175 o∧Below w.heap.size w wr) (fun i _=>n- (intOf i).toNat)
 case atStart=>exact⟨0,_,Nat.zero_le _,rfl,by simp,N8.replicate _,⟨by rw[Xp,N4];omega,fun j _=>Sv⟩,Mk.zero w N,(Below.refl _ _).alloc (Nat.le_refl _) _⟩
 case round=>
  obtain⟨k,o,hk,rfl,hol,hod,hI,hmo,hbw⟩:=hrel
  have Hol:=Km hol
  clear hol
  by_cases hlt:k<n
  ·have t0:(k:Int)<(n:Int):=by omega
   have hx:=(K3 Ha).dig k
   go_wp2_with fail
   obtain⟨wo,rfl⟩:∃wo:World,wo=wr:=⟨_,rfl⟩
   go_loopw [7,8] (fun cy i wr=>∃(j y:Nat) (r:List Nat),j≤m∧i=Zi j∧cy= .int .u64 y∧y<4294967296∧r.length=N∧N8 r∧Hid (lo r (k+j)+y*pw (k+j)=lo o (k+j)+dg a k*lo b j*pw k∧∀t,k+j≤t→dg r t=dg o t)∧Mk wr w.heap.size 175 r∧Below w.heap.size w wr) (fun _ i _=>m- (intOf i).toNat)
   case atStart=>exact⟨0,0,o,Nat.zero_le _,rfl,rfl,by omega,K3 Hol,hod,⟨by rw[N4];omega,fun _ _=>rfl⟩,hmo,hbw⟩
   case round=>
    obtain⟨j,y,r,hj,rfl,rfl,hy,hrl,hrd,hJ,hmr,hbr⟩:=hrel
    have Hrl:=Km hrl
    clear hrl
    obtain⟨t,ht⟩:∃t,t=k+j:=⟨_,rfl⟩
    have htN:(t:Int)<(N:Int):=by have:=K3 HN;omega
    have tI:(k:Int)+(j:Int)=(t:Int):=by omega
    have tW:IntKind.i64.wrap ((k:Int)+(j:Int))=(t:Int):=by rw[IntWalk.i64_in _ Zo];omega
    have hcell:=hmr.cell (i:=t) (by rw[K3 Hrl];omega)
    have hfz:=hmr.frozen t
    have hr2:=hrd t
    have Ht:=Km ht
    clear ht
    by_cases hlt2:j<m
    ·have t1:(j:Int)<(m:Int):=by omega
     obtain⟨ad,hA,hca⟩:=((K3 Ha).below hbr).at_ (k:=k) Zo
     obtain⟨bd,hB,hcb⟩:=((K3 Hb).below hbr).at_ (k:=j) Zo
     subst hA
     subst hB
     have hy2:=(K3 Hb).dig j
     have hxy:=Yk hx hy2
     obtain⟨X,hX⟩:∃X,X=dg a k*dg b j:=⟨_,rfl⟩
     rw[←hX]at hxy
     have f1:IntKind.u64.wrap (dg a k:Int)=(dg a k:Int):=by rw[L6];omega
     have f2:IntKind.u64.wrap (dg b j:Int)=(dg b j:Int):=by rw[L6];omega
     have f0:(dg a k:Int)*(dg b j:Int)=(X:Int):=by rw[hX];simp
     have f3:IntKind.u64.wrap ((dg a k:Int)*(dg b j:Int))=(X:Int):=by rw[f0,L6];omega
     have f4:IntKind.u64.wrap (dg r t:Int)=(dg r t:Int):=by rw[L6];omega
     have f5:IntKind.u64.wrap ((X:Int)+(dg r t:Int))=(X:Int)+(dg r t:Int):=by rw[L6];omega
     have f6:IntKind.u64.wrap ((X:Int)+(dg r t:Int)+(y:Int))=(X:Int)+(dg r t:Int)+(y:Int):=by rw[L6];omega
     have HX:=Km hX
     clear hX
     go_wp2_with fail
     go_quiet (fail)
     go_wp2_with fail
     obtain⟨s,hs⟩:∃s,s=X+dg r t+y:=⟨_,rfl⟩
     have hsI:(X:Int)+(dg r t:Int)+(y:Int)=(s:Int):=by rw[hs];simp
     rw[hsI]
     have hst:=(hmr.drewN nq).set_ t (s%4294967296)
     rw[show((s%4294967296:Nat):Int)=(s:Int)%4294967296 by omega]at hst
     go_roundw
     case rel=>
      obtain⟨h1,h2⟩:=K3 hJ
      have ht:=K3 Ht
      refine⟨j+1,s/4294967296,_,by omega,by go_num,congrArg (Value.int .u64) Zo,by omega,by rw[List.length_set];exact K3 Hrl,hrd.set _ Zo,⟨?_,fun q hq=> ?_⟩,hst,(Mh hbr nq).setCell (Nat.le_refl _) _⟩
      ·rw[ht]
       refine mul_step (by rw[K3 Hrl,←ht];omega) (h2 _ (Nat.le_refl _)) h1 ?_
       rw[hs,K3 HX,ht];omega
      ·rw[Q8,if_neg Zo];exact h2 q Zo
     case measure=>simp[intOf];omega
    ·obtain rfl:j=m:=by omega
     go_wp2_with fail
     have hst:=hmr.set_ t y
     go_roundw
     case rel=>
      have ht:=K3 Ht
      have hL:=K3 HL
      have hrow:=mul_row (a:=a) (b:=b) (by rw[K3 Hrl,←ht];omega) rfl (by rw[M6 (Nat.le_of_eq hL.2)]) (K3 hI).1 (K3 hI).2 (K3 hJ).2 (K3 hJ).1
      rw[←ht]at hrow
      exact⟨k+1,_,by omega,by go_num,by rw[List.length_set];exact K3 Hrl,hrd.set _ hy,hrow,hst,hbr.setCell (Nat.le_refl _) _⟩
     case measure=>simp[intOf];omega
  ·obtain rfl:k=n:=by omega
   have ho:=hmo.own hod (Nat.le_refl _) (by rw[K3 Hol];unfold maxLen;omega)
   rw[K3 Hol]at ho
   go_wp2_with fail
   refine(Ls _ ho.toIn Zo).mono ?_
   rintro e w' ⟨A2,n2,c2,rfl,ho2,hw⟩
   go_wp2_with fail
   go_ret
   refine⟨A2,n2,c2,_,rfl,Kw hod,?_,ho2.base hbw.size,hbw.trans (hw.mono hbw.size)⟩
   rw[Kh,(K3 hI).1,M6 (by rw[(K3 HL).1];exact Nat.le_refl _)]
end Go.Proofs.YtoeiphicmcndlaaGreatDoor
