/-
 Functions of the package natural.
-/
import Derived.Test.YtoeiphicmcndlaaGreatDoorAWh
namespace Go.Proofs.YtoeiphicmcndlaaGreatDoor
set_option maxRecDepth 100000
set_option maxHeartbeats 8000000
set_option linter.unusedVariables false
set_option linter.unusedSimpArgs false
open Go.RowKit
theorem len_ge{l:List Nat}{k:Nat}(hd:N8 l)(h:pw k≤val l):k+1≤l.length:=by
 rcases Nat.lt_or_ge k l.length with h1|h1
 ·exact h1
 ·have:=Mi hd h1;omega
theorem round_end{U U' Q:List Nat}{k L q V A:Nat}(hkQ:k<Q.length)(hz:∀j,k+(L+1)≤j→dg U j=0)(hz':∀j,k+(L+1)≤j→dg U' j=0)(hlow:∀j,j<k→dg U' j=dg U j)
 (hP:pl U' k (L+1)+q*V=pl U k (L+1)) (hI:val (Q.drop (k+1))*pw (k+1)*V+val U=A) (hlt:pl U' k (L+1)<V):
 val ((Q.set k q).drop k)*pw k*V+val U'=A∧val (U'.drop k)<V:=
 ⟨div_round hkQ hz hz' hlow hP hI,by rw[pl_val hz'];exact hlt⟩
theorem Wj(v t:Nat):B5 v (-(t:Int))=v/2 ^ t:=by
 unfold B5
 by_cases h:t=0
 ·subst h;simp
 ·rw[if_neg Zo]
  congr 2
  omega
theorem dm_long{A B:Option Addr}{n c m d:Nat}{a b:List Nat}(L T:Nat)(w:World)(ha:In w A n c a)(hb:In w B m d b)(hn:n≤274877906944)(hm:m≤274877906944)(h0:tlen b m=L)(hLT:L=T+1)(hT1:1≤T)(hge:val b≤val a):
 Calls Tryz.prog 256 #[.slice A n c,.slice B m d] w (Dd w (val a) (val b)):=by
 obtain⟨z,hz0,K⟩:∃z,(0:Int)≤z∧Hid (U4 (val (trim a)) (val (trim b))=z):=by
  refine⟨_,?_,rfl⟩
  rw[Kh,Kh]
  unfold U4
  rw[if_neg Zo];split<;>omega
 have hta:=Nw a n
 have htb:=Nw b m
 have Ta:=ha.trim
 have Tb:=hb.trim
 have na:=Kw ha.dig
 have nb:=Kw hb.dig
 have va:Hid (val (trim a)=val a):=Kh a
 have vb:Hid (val (trim b)=val b):=Kh b
 obtain⟨p,hp⟩:∃p,p=tlen a n:=⟨_,rfl⟩
 rw[←hp]at Ta hta
 rw[h0]at Tb htb
 obtain⟨x,hx⟩:∃x,x=dg (trim b) T:=⟨_,rfl⟩
 have hxb:=Tb.dig T
 rw[←hx]at hxb
 have hx0:x≠0:=by
  rcases nb.2 with h|h
  ·have:=Tb.len;rw[h]at this;simp only[List.length_nil]at this;omega
  ·rw[Tb.len,hLT]at h;rw[hx];exact h
 obtain⟨t,ht⟩:∃t,t=32-Lib.bitLen x:=⟨_,rfl⟩
 have ht32:t≤32:=by omega
 have hshift:=norm_shift (n:=T) Tb.dig (by rw[Tb.len];exact hLT) (by rw[←hx];exact hx0)
 rw[←hx,←ht,K3 vb]at hshift
 have Hsh:=Km hshift
 clear hshift
 have Ha:=Km ha
 have Hb:=Km hb
 have HP:=Km hp
 have H0:=Km h0
 have HX:=Km hx
 have HT:=Km ht
 have HG:=Km hge
 have l0:((L:Int)==0)=false:=by simp;omega
 have l1:((L:Int)==1)=false:=by simp;omega
 have l2:(L:Int)-1=(T:Int):=by omega
 have l3:T<L:=by omega
 have HLT:=Km hLT
 clear hLT
 clear ha hb hp h0 hx ht hx0 hge
 go_enter Tryz.func256,Tryz.ntmps256
 go_wp2_with fail
 refine(Lu w (K3 Ha)).mono ?_
 rintro e w' ⟨rfl,rfl⟩
 rw[←K3 HP]
 go_wp2_with fail
 refine(Lu w (K3 Hb)).mono ?_
 rintro e w' ⟨rfl,rfl⟩
 rw[K3 H0]
 go_wp2_with fail
 refine(cmp_c w Ta Tb).mono ?_
 rintro e wc ⟨rfl,hqd⟩
 rw[K3 K]
 have Tac:=Ta.qd hqd
 have Tbc:=Tb.qd hqd
 have hbc:=hqd.below w.heap.size
 clear Ta Tb hqd Ha Hb
 obtain⟨bd,hB,hcb⟩:=Tbc.at_ (k:=T) Zo
 rw[←K3 HX]at hcb
 subst hB
 go_wp2_with fail
 refine(lz_c x hxb wc).mono ?_
 rintro e w' ⟨rfl,rfl⟩
 rw[←K3 HT]
 go_wp2_with fail
 refine(Wi t wc Tbc Zo Zo).mono ?_
 rintro e w1 ⟨VA,vn,v,rfl,hvN,hvv,hvo,hw1⟩
 rw[Nat.min_eq_left Zo,K3 vb]at hvv
 have hvn:L=vn:=by
  have h1:=(K3 Hsh).1
  have h2:=(K3 Hsh).2
  rw[←hvv]at h1 h2
  rw[←K3 HLT]at h2
  have h3:=hvN.length_le h2
  have h4:=len_ge hvN.1 (show pw T≤val v by omega)
  have:=hvo.len
  have:=K3 HLT
  omega
 subst hvn
 go_wp2_with fail
 refine(Wi t w1 (Tac.below hw1) Zo Zo).mono ?_
 rintro e w2 ⟨UA,un,u,rfl,huN,huv,huo,hw2⟩
 rw[Nat.min_eq_left Zo,K3 va]at huv
 have hun1:L≤un:=by
  have h1:=(K3 Hsh).1
  have h2:val b*2 ^ t≤val a*2 ^ t:=Nat.mul_le_mul_right _ (K3 HG)
  have h4:=len_ge huN.1 (show pw T≤val u by omega)
  have:=huo.len
  have:=K3 HLT
  omega
 have hun2:p≤un:=by
  have h3:=huo.len
  rcases Nat.eq_zero_or_pos p with e|e
  ·omega
  ·have hne:trim a≠[]:=by intro h;have:=Tac.len;rw[h]at this;simp at this;omega
   have h1:=na.pos hne
   rw[Tac.len,K3 va]at h1
   have h2:val a*1≤val a*2 ^ t:=Nat.mul_le_mul_left _ (Rc t)
   have h4:=len_ge huN.1 (show pw (p-1)≤val u by omega)
   omega
 have hun3:un≤p+2:=by
  have h3:=huo.len
  have h1:=Mi Tac.dig (Nat.le_of_eq Tac.len)
  rw[K3 va]at h1
  have h2:val a*2 ^ t<pw p*4294967296:=by
   have h5:2 ^ t≤2 ^ 32:=Nat.pow_le_pow_right Zo ht32
   exact Nat.lt_of_lt_of_le (Nat.mul_lt_mul_of_pos_right h1 (Rc t)) (Nat.mul_le_mul_left _ h5)
  rw[←M3,←huv]at h2
  have:=huN.length_le h2
  omega
 obtain⟨i0,hi0,hz0',hz1,hz2⟩:=info_parts Tryz.info_u32
 have k1:Hid (UA=none→un=0∧un=0):=by
  intro h
  obtain⟨ad,hA,_⟩:=huo.toIn.at_ (k:=0) Zo
  rw[h]at hA;cases hA
 have k3:Hid (∀b,UA=some b→∀j y,(Of u)[j]? =some y→(w2.alloc (.cells #[.int .u32 0] 175)).cell? (b.add j)=some y):=by
  intro b hb j y hy
  obtain⟨ad,hA,_,hcell⟩:=(huo.toIn.rd.alloc (Nat.le_refl _) (.cells #[.int .u32 0] 175)).2 Zo
  rw[hb]at hA
  injection hA with hA
  subst hA
  exact hcell j y hy
 have k2:Hid ((Of u).length=un*1):=by
  show _=_
  rw[Pj,Nat.mul_one];exact huo.len
 have k4:Hid (∀j y,(Of [0])[j]? =some y→(w2.alloc (.cells #[.int .u32 0] 175)).cell? ((⟨w2.heap.size,0,none⟩:Addr).add j)=some y):=cell_one_new _ _ _
 go_wp2_with (first
  |(at_builtin;refine wpList_append_grows _ rfl (.tmp 62) (.tmp 63) 36 rfl 175 i0 _ 1 4 Tryz.underlying36 hi0 hz0' hz1 hz2 rfl Zo UA un un (Of u) rfl (K3 k1) (K3 k2) (K3 k3) ⟨w2.heap.size,0,none⟩ 1 1 (Of [0]) rfl rfl (K3 k4) u32s_one Zo (by simp only[maxLen];omega) Zo ?_;intro v' w4 hown4 hg4))
 rw[←I1]at hown4
 obtain⟨g,gc,rfl,hgB,hgn,hgm,hU⟩:=Gb.of_row hown4 (by rw[List.length_append,huo.len];rfl) Zo
 have h24:Below w2.heap.size w2 w4:=((Below.refl _ _).alloc (Nat.le_refl _) _).grown hg4 Zs (fun k hk=>by cases hk)
 have hbase:Below w.heap.size w w4:=((hbc.trans (hw1.mono hbc.size)).trans (hw2.mono (Nat.le_trans hbc.size hw1.size))).trans (h24.mono (Nat.le_trans hbc.size (Nat.le_trans hw1.size hw2.size)))
 have hg2:w2.heap.size≤g:=by simp at hgB;omega
 have hv4:InB w4 g VA L L v:=(((hvo.toIn.toB).below hw2).below (h24.mono hw2.size)).more (Nat.le_trans hw2.size hg2)
 have hvtop:2147483648≤dg v T:=top_digit hvN.1 (by rw[hvo.len];exact K3 HLT) (by rw[hvv];exact(K3 Hsh).1)
 have hVlo:pw T≤val v:=by have:=(K3 Hsh).1;omega
 have hVhi:val v<pw L:=by rw[K3 HLT,hvv];exact(K3 Hsh).2
 have hwg:w.heap.size≤g:=by have:=hbc.size;have:=hw1.size;have:=hw2.size;omega
 have hUd:N8 (u++ [0]):=huN.1.append (N8.one Zo)
 have hUv:val (u++ [0])=val u:=by rw[Du,val_one];omega
 have hUl:(u++ [0]).length=un+1:=by rw[List.length_append,huo.len];rfl
 have hUt:dg (u++ [0]) un=0:=by rw[Ac (by rw[huo.len];exact Nat.le_refl _),huo.len,Nat.sub_self];rfl
 obtain⟨N,hN⟩:∃N,N=un+1-L:=⟨_,rfl⟩
 have l4:((un:Int)+1)- (L:Int)=(N:Int):=by omega
 have l5:N+T=un:=by have:=K3 HLT;omega
 have l6:1≤N:=by omega
 have HUs:=Km (And.intro hUv hUt)
 have HL5:=Km l5
 have HN:=Km hN
 have Hpw:=Km (And.intro hVlo hVhi)
 clear hUv hUt l5 hN hVlo hVhi
 clear hown4 hg4 k1 k2 k3 k4 hi0 hz0' hz1 hz2 hgB h24 hw2 huo hw1 hvo hbc Tbc Tac hcb
 have hmk:=fun W=>Nk W (N:Int) N rfl Zo
 go_loopw [11] (fun s wr=>s= .slice (some ⟨g,0,none⟩) (un+1) gc∧wr=w4) (fun _ _=>0)
 case atStart=>exact⟨rfl,rfl⟩
 case round=>
  obtain⟨rfl,rfl⟩:=hrel
  have l7:¬(un:Int)+1≤p:=by omega
  go_wp2_with fail
  obtain⟨w4,hw4⟩:∃w4:World,w4=wr:=⟨_,rfl⟩
  have hgw:=hU.lt
  clear l7 hgw
  have hM0:Mk (wr.alloc (.cells (zs N) 175)) wr.heap.size 175 (List.replicate N 0):=Mk.zero wr N
  have hU0:=hU.alloc (.cells (zs N) 175)
  have hv5:InB (wr.alloc (.cells (zs N) 175)) g VA L L v:=hv4.below ((Below.refl _ _).alloc (Nat.le_of_lt hU.lt) _)
  have hb5:Below w.heap.size w (wr.alloc (.cells (zs N) 175)):=hbase.alloc hbase.size _
  have hgq:g<wr.heap.size:=hU.lt
  have hs5:wr.heap.size+1=(wr.alloc (.cells (zs N) 175)).heap.size:=by simp
  obtain⟨gq,hgqe⟩:∃gq,gq=wr.heap.size:=⟨_,rfl⟩
  obtain⟨w5,hw5⟩:∃w5,w5=wr.alloc (.cells (zs N) 175):=⟨_,rfl⟩
  rw[←hw5]at hU0 hv5 hb5
  rw[←hw5,←hgqe]at hM0 hs5
  rw[←hgqe]at hgq
  rw[←hw5,←hgqe]
  have Hw5:=Km hw5
  have Hgq:=Km hgqe
  clear hw5 hgqe hw4 hU hv4 hbase hmk
  go_loopw [13] (fun sk wx=>∃(k:Nat) (y:Int) (U Q:List Nat),k≤N∧y+1=k∧sk=Zi y∧U.length=un+1∧N8 U∧Q.length=N∧N8 Q∧
   Hid (val (Q.drop k)*pw k*val v+val U=val u∧val (U.drop k)<val v)∧Gb wx g 175 gc U∧Mk wx gq 175 Q∧Below g w5 wx) (fun sk _=>(intOf sk+1).toNat)
  case atStart=>
   refine⟨N,(N:Int)-1,u++ [0],List.replicate N 0,Nat.le_refl _,by omega,rfl,hUl,hUd,by simp,N8.replicate _,⟨?_,?_⟩,hU0,hM0,Below.refl _ _⟩
   ·rw[Sa Zs,(K3 HUs).1];omega
   ·have h1:=K3 HL5
    rw[pl_val (i:=T) (fun j hj=> ?_)]
    ·exact Nat.lt_of_lt_of_le (pl_lt hUd _ _) (K3 Hpw).1
    ·rcases Nat.lt_or_ge un j with h|h
     ·exact Ub (by rw[hUl];omega)
     ·obtain rfl:j=un:=by omega
      exact(K3 HUs).2
  case round=>
   obtain⟨k,y,U,Q,hk,hy,rfl,hUl',hUd',hQl,hQd,hI,hUm,hQm,hbx⟩:=hrel
   have HUl:=Km hUl'
   have HQl:=Km hQl
   clear hUl' hQl
   by_cases hk0:k=0
   ·subst hk0
    obtain rfl:y= -1:=by omega
    clear hy
    have hqo:=hQm.own (B:=w.heap.size) hQd Zo (by rw[K3 HQl];unfold maxLen;omega)
    rw[K3 HQl]at hqo
    have hbw:Below w.heap.size w wr:=hb5.trans (hbx.mono hwg)
    have hui:In wr (some ⟨g,0,none⟩) (un+1) gc ((U.drop 0).take (un+1)):=hUm.part hUd' (by rw[K3 HUl];omega) hgn hgm
    rw[List.drop_zero,List.take_of_length_le (by rw[K3 HUl];exact Nat.le_refl _)]at hui
    go_wp2_with fail
    refine(Lu _ hqo.toIn).mono ?_
    rintro e w' ⟨rfl,rfl⟩
    go_wp2_with fail
    refine(shift_c (-(t:Int)) _ hui Zo Zo Zo).mono ?_
    rintro e w6 ⟨A2,n2,l2',rfl,hn2,hv2,ho2,hw6⟩
    go_wp2_with fail
    go_ret3
    obtain⟨hI1,hI2⟩:=K3 hI
    rw[Fd,Nat.mul_one,List.drop_zero,huv,hvv]at hI1
    rw[List.drop_zero,hvv]at hI2
    obtain⟨q1,q2⟩:=Ef hI1 hI2
    have hb0:val b≠0:=by
     intro h;rw[h]at hI2;omega
    refine⟨_,_,_,trim Q,A2,n2,n2,l2',?_,Kw hQd,?_,hn2,?_,hqo.trim.below hw6,ho2.base hbw.size,hbw.trans (hw6.mono hbw.size)⟩
    ·rw[Bz hb0];rfl
    ·rw[Kh,q1,Nat.mul_div_mul_right _ _ (Rc t)]
    ·rw[hv2,Vf hb0,Wj,q2,Nat.mul_mod_mul_right,Nat.mul_div_cancel _ (Rc t)]
   ·obtain⟨j,rfl⟩:∃j,k=j+1:=⟨k-1,by omega⟩
    obtain rfl:y=(j:Int):=by omega
    clear hy hk0
    have h1:=K3 HL5
    have h2:=K3 HLT
    have s1:(0:Int)≤j∧(j:Int)≤(j:Int)+L+1∧(j:Int)+L+1≤(gc:Int):=by omega
    have s2:¬gc=j:=by omega
    have s3:j+(L+1)≤un+1:=by omega
    clear h1 h2
    obtain⟨hI1,hI2⟩:=K3 hI
    have hz:∀i,j+(L+1)≤i→dg U i=0:=by
     intro i hi
     have h3:=dg_zero_of_lt (l:=U.drop (j+1)) (Nat.lt_trans hI2 (K3 Hpw).2) (i- (j+1)) Zo
     rw[Qq,show j+1+(i- (j+1))=i by omega]at h3
     exact h3
    have hPv:pl U j (L+1)=val (U.drop j):=(pl_val hz).symm
    have hPs:val (U.drop j)=dg U j+4294967296*val (U.drop (j+1)):=Tt (by rw[K3 HUl];omega)
    have hPin:In wr (some ⟨g,j,none⟩) (L+1) (gc-j) ((U.drop j).take (L+1)):=hUm.part hUd' (by rw[K3 HUl];omega) Zo Zo
    have hPlt:val ((U.drop j).take (L+1))<4294967296*val v:=by
     show pl U j (L+1)<_
     have:=hUd' j
     have:=(K3 Hpw).1
     have:=Xu T
     omega
    have HZ:=Km (And.intro hz (And.intro hI1 hI2))
    clear hz hI1 hI2 hPv hPs
    have hgs:=Nat.le_of_lt hUm.lt
    go_wp2_with fail
    rw[show j+L+1-j=L+1 by omega]
    refine(guess_L wr (K3 HLT) hT1 hPin ((hv5.below hbx).toIn hgs) hvtop hPlt).mono ?_
    rintro e wg ⟨q,rfl,hgok,⟨nq,rfl⟩⟩
    have hq32:=hgok.1
    have HG2:=Km hgok
    clear hgok
    go_wp2_with fail
    refine(take_c (wr.drewN nq) g j gc (gc-j) q U ((hv5.below hbx).below (Mh (Below.refl _ _) nq)) (hUm.drewN nq) hUd' (by rw[K3 HUl];omega) hq32 Zo Zo).mono ?_
    rintro e wt ⟨U',b',rfl,hUm',hUl2,hUd2,hbt,hag,hres⟩
    rw[K3 HUl]at hUl2
    have hQt:Mk wt gq 175 Q:=(hQm.drewN nq).grown hbt (fun e=>by injection e with e;omega)
    have hbt2:Below g w5 wt:=(Mh hbx nq).trans (E9 hbt hgs)
    have hQc:=hQt.cell (i:=j) (by rw[K3 HQl];omega)
    have hQf:=hQt.frozen j
    have Hag:=Km hag
    have HUl2:=Km hUl2
    clear hag hUl2 hbt hUm hQm hPin
    rcases hres with ⟨rfl,hres⟩|⟨rfl,hres⟩
    ·have HR:=Km hres
     clear hres
     go_wp2_with fail
     go_roundw
     case rel=>
      have hfin:=round_end (by rw[K3 HQl];omega) (K3 HZ).1 (fun i hi=>by rw[K3 Hag i (Or.inr Zo),(K3 HZ).1 i hi]) (fun i hi=>K3 Hag i (Or.inl hi)) (K3 HR) (K3 HZ).2.1 (div_exact (K3 HG2) (K3 HR))
      exact⟨j,(j:Int)-1,U',Q.set j q,by omega,by omega,rfl,K3 HUl2,hUd2,by rw[List.length_set];exact K3 HQl,hQd.set _ hq32,hfin,hUm'.far Zp _,hQt.set_ j q,hbt2.setCell Zp _⟩
     case measure=>simp[intOf]
    ·have hq1:1≤q:=by
      rcases Nat.eq_zero_or_pos q with e|e
      ·subst e
       have:=pl_lt hUd2 j (L+1)
       omega
      ·exact e
     have HR:=Km hres
     clear hres
     go_wp2_with fail
     obtain⟨wo,hwo⟩:∃wo:World,wo=wt:=⟨_,rfl⟩
     have hgt:=Nat.le_of_lt hUm'.lt
     go_loopw [16,105] (fun sc si wx=>∃(i c:Nat) (R:List Nat),i≤L∧si=Zi i∧sc= .int .u64 c∧c≤1∧R.length=un+1∧N8 R∧Hid (∀s,(s<j∨j+i≤s)→dg R s=dg U' s)∧Hid (pl R j i+c*pw i=pl U' j i+lo v i)∧Gb wx g 175 gc R∧wt.grownBy wx (some g)) (fun _ si _=>L- (intOf si).toNat)
     case atStart=>exact⟨0,0,U',Nat.zero_le _,rfl,rfl,by omega,K3 HUl2,hUd2,fun _ _=>rfl,(show _=_ by rw[pl_zero,N4];omega),hUm',World.grownBy.refl _ _⟩
     case round=>
      obtain⟨i,c',R,hi,rfl,rfl,hc,hRl,hRd,hRag,hRI,hRm,hbR⟩:=hrel
      have HRl:=Km hRl
      clear hRl
      have hbR2:=E9 hbR hgt
      by_cases hlt:i<L
      ·obtain⟨vd,hV,hcv⟩:=((hv5.below hbt2).below hbR2).at_ (k:=i) hlt
       have hx1:=hvN.1 i
       have hx2:=hRd (j+i)
       have hcell:=hRm.cell (i:=j+i) (by rw[K3 HRl];omega)
       have hfz:=hRm.frozen (j+i)
       subst hV
       go_wp2_with fail
       have hst:=hRm.set_ (i:=j+i) (by rw[K3 HRl];omega) ((c'+(dg R (j+i)+dg v i))%4294967296)
       rw[show(((c'+(dg R (j+i)+dg v i))%4294967296:Nat):Int)=((c':Int)+((dg R (j+i):Int)+dg v i))%4294967296 by omega]at hst
       go_roundw
       case rel=>
        refine⟨i+1,(c'+(dg R (j+i)+dg v i))/4294967296,_,by omega,by go_num,by go_num,by omega,by rw[List.length_set];exact K3 HRl,hRd.set _ Zo,fun s hs=> ?_,?_,hst,Sk hbR (Or.inl rfl) _⟩
        ·rw[Q8,if_neg Zo]
         exact K3 hRag s Zo
        ·exact back_step (by rw[K3 HRl];omega) (K3 hRag (j+i) Zo) (K3 hRI)
       case measure=>simp[intOf];omega
      ·obtain rfl:L=i:=by omega
       have hx2:=hRd (j+L)
       have hcell:=hRm.cell (i:=j+L) (by rw[K3 HRl];omega)
       have hfz:=hRm.frozen (j+L)
       have hQt2:=hQt.grown hbR (fun e=>by injection e with e;omega)
       have hQc2:=hQt2.cell (i:=j) (by rw[K3 HQl];omega)
       have hQf2:=hQt2.frozen j
       go_wp2_with fail
       have hst:=hRm.set_ (i:=j+L) (by rw[K3 HRl];omega) ((dg R (j+L)+c')%4294967296)
       rw[show(((dg R (j+L)+c')%4294967296:Nat):Int)=((dg R (j+L):Int)+(c':Int))%4294967296 by omega]at hst
       have hQ3:=(hQt2.far (p:=⟨g,j+L,none⟩) Zp (.int .u32 (((dg R (j+L):Int)+(c':Int))%4294967296))).set_ j (q-1)
       rw[show((q-1:Nat):Int)=(q:Int)-1 by omega]at hQ3
       have hV:lo v L=val v:=M6 (Nat.le_of_eq hv5.len)
       have hRI2:=K3 hRI
       have hbe:=back_end (P:=U') (by rw[K3 HRl];omega) (K3 hRag (j+L) Zo) hRI2
       rw[hV]at hbe
       obtain⟨z2,hz2⟩:=hbe
       have hd2:N8 (R.set (j+L) ((dg R (j+L)+c')%4294967296)):=hRd.set _ (Nat.mod_lt _ Zo)
       obtain⟨_,hb1,hb2⟩:=div_back (K3 HG2) (pl_lt hUd2 j (L+1)) (pl_lt hUd' j (L+1)) (pl_lt hd2 j (L+1)) (K3 HR) hz2
       go_roundw
       case rel=>
        have hfin:=round_end (by rw[K3 HQl];omega) (K3 HZ).1 (fun i hi=>by rw[Q8,if_neg Zo,K3 hRag i (Or.inr Zo),K3 Hag i (Or.inr Zo),(K3 HZ).1 i hi]) (fun i hi=>by rw[Q8,if_neg Zo,K3 hRag i (Or.inl hi),K3 Hag i (Or.inl hi)]) hb2 (K3 HZ).2.1 hb1
        exact⟨j,(j:Int)-1,_,Q.set j (q-1),by omega,by omega,rfl,by rw[List.length_set];exact K3 HRl,hd2,by rw[List.length_set];exact K3 HQl,hQd.set _ Zo,hfin,hst.far Zp _,hQ3,((hbt2.trans hbR2).setCell (Nat.le_refl _) _).setCell Zp _⟩
       case measure=>simp[intOf]
theorem divmod_c{A B:Option Addr}{n c m d:Nat}{a b:List Nat}(w:World)(ha:In w A n c a)(hb:In w B m d b)(hn:n≤274877906944)(hm:m≤274877906944):
 Calls Tryz.prog 256 #[.slice A n c,.slice B m d] w (Dd w (val a) (val b)):=by
 by_cases h0:tlen b m=0
 ·exact dm_zero w ha hb h0
 by_cases hlt:val a<val b
 ·exact dm_less w ha hb Zo h0 hlt
 by_cases h1:tlen b m=1
 ·exact dm_one w ha hb Zo h1 Zo
 exact dm_long (tlen b m) (tlen b m-1) w ha hb hn hm rfl Zo Zo Zo
end Go.Proofs.YtoeiphicmcndlaaGreatDoor
