/-
 Functions of the package natural.
-/
import Derived.Test.YtoeiphicmcndlaaGreatDoorAWi
import Derived.Test.YtoeiphicmcndlaaGreatDoorANumC
import Derived.Deep.LoopGhost
namespace Go.Proofs.YtoeiphicmcndlaaGreatDoor
set_option maxRecDepth 100000
set_option maxHeartbeats 8000000
set_option linter.unusedVariables false
set_option linter.unusedSimpArgs false
open Go.RowKit
theorem len32_c(x:Nat)(h:x<4294967296)(w:World):
 Calls Tryz.prog 172 #[.int .u32 x] w fun e w'=>e= .returned (Zi ((Lib.bitLen x:Nat):Int))∧w=w':=
 (Tryz.bits_Len32 x w Zo Zo).mono fun _ _ ⟨h1,h2⟩=>by
  rw[Int.toNat_natCast]at h1
  exact⟨h1,h2.symm⟩
theorem bitLen_c{A:Option Addr}{n c:Nat}{a:List Nat}(w:World)(ha:In w A n c a)(hn:n≤274877906944):
 Calls Tryz.prog 108 #[.slice A n c] w fun e w'=>e= .returned (Zi (bitsN (val a):Nat))∧w=w':=by
 have hta:=Nw a n
 have Ta:=ha.trim
 have na:=Kw ha.dig
 have va:Hid (val (trim a)=val a):=Kh a
 obtain⟨p,hp⟩:∃p,p=tlen a n:=⟨_,rfl⟩
 rw[←hp]at Ta hta
 have HP:=Km hp
 clear hp
 have Ha:=Km ha
 clear ha
 by_cases h0:p=0
 ·subst h0
  go_enter Tryz.func108,Tryz.ntmps108
  go_wp2_with fail
  refine(Lu w (K3 Ha)).mono ?_
  rintro e w' ⟨rfl,rfl⟩
  rw[←K3 HP]
  go_wp2_with fail
  go_ret
  refine⟨?_,rfl⟩
  have:val a=0:=by rw[←K3 va,List.length_eq_zero_iff.1 Ta.len];rfl
  rw[this];rfl
 ·obtain⟨t,ht⟩:∃t,p=t+1:=⟨p-1,by omega⟩
  have hx:=Ta.dig t
  obtain⟨ad,hA,hc⟩:=Ta.at_ (k:=t) Zo
  have hnz:dg (trim a) t≠0:=by
   rcases na.2 with h|h
   ·have:=Ta.len;rw[h]at this;simp only[List.length_nil]at this;omega
   ·rw[Ta.len,ht]at h;exact h
  have htb:=W7 Ta.dig (by rw[Ta.len];exact ht) hnz
  rw[K3 va]at htb
  have hbl:=Xi hx
  have l0:((p:Int)==0)=false:=by simp;omega
  have l1:(p:Int)-1=(t:Int):=by omega
  have l2:t<p:=by omega
  have HTB:=Km htb
  clear htb ht hnz h0
  subst hA
  go_enter Tryz.func108,Tryz.ntmps108
  go_wp2_with fail
  refine(Lu w (K3 Ha)).mono ?_
  rintro e w' ⟨rfl,rfl⟩
  rw[←K3 HP]
  go_wp2_with fail
  refine(len32_c _ hx w).mono ?_
  rintro e w' ⟨rfl,rfl⟩
  go_wp2_with fail
  go_ret
  refine⟨?_,rfl⟩
  rw[K3 HTB]
  exact congrArg (fun x=>Ending.returned (Value.int .i64 x)) Zo
theorem gcd_c{A B:Option Addr}{n c m d:Nat}{a b:List Nat}(w:World)(ha:In w A n c a)(hb:In w B m d b)(hn:n≤274877906944)(hm:m≤274877906944):
 Calls Tryz.prog 254 #[.slice A n c,.slice B m d] w (Tq w (Nat.gcd (val a) (val b))):=by
 have hla:=Og a
 have hlb:=Og b
 rw[ha.len]at hla
 rw[hb.len]at hlb
 have na:=Kw ha.dig
 have nb:=Kw hb.dig
 have va:Hid (val (trim a)=val a):=Kh a
 have vb:Hid (val (trim b)=val b):=Kh b
 go_enter Tryz.func254,Tryz.ntmps254
 go_wp2_with fail
 refine(X8 w ha Zo).mono ?_
 rintro e w1 ⟨A1,n1,c1,rfl,ho1,hw1⟩
 go_wp2_with fail
 refine(X8 w1 (hb.below hw1) Zo).mono ?_
 rintro e w2 ⟨A2,n2,c2,rfl,ho2,hw2⟩
 go_wp2_with fail
 have hn1:=ho1.len
 have hn2:=ho2.len
 go_loopg [0,1] (val b) (fun gk sa sb wx=>∃(X Y:Option Addr) (p r q s:Nat) (x y:List Nat),sa= .slice X p r∧sb= .slice Y q s∧Hid (val y=gk)∧Py wx w.heap.size X p r x∧Py wx w.heap.size Y q s y∧Mx x∧Mx y∧p≤274877906944∧q≤274877906944∧
  Hid (Nat.gcd (val x) (val y)=Nat.gcd (val a) (val b))∧Below w.heap.size w wx)
 case atStart=>
  exact⟨A1,A2,n1,c1,n2,c2,trim a,trim b,rfl,rfl,Kh b,ho1.below hw2,ho2.base hw1.size,na,nb,by omega,by omega,(by show _=_;rw[Kh,Kh]),hw1.trans (hw2.mono hw1.size)⟩
 case round=>
  obtain⟨X,Y,p,r,q,s,x,y,rfl,rfl,hk,hox,hoy,nx,ny,hp,hq,hg,hbx⟩:=hrel
  have hqi:=hoy.toIn.lenI
  by_cases h0:q=0
  ·have hy0:y=[]:=List.length_eq_zero_iff.1 (by rw[hoy.len];exact h0)
   have hg':Hid (val x=Nat.gcd (val a) (val b)):=by
    have:=K3 hg
    rw[hy0,Ts,Nat.gcd_zero_right]at this
    exact this
   subst h0
   clear hy0
   go_wp2_with fail
   go_ret
   exact⟨X,p,r,x,rfl,nx,K3 hg',hox,hbx⟩
  ·have hy0:val y≠0:=by
    intro h
    have h1:=ny.zero h
    have h2:=hoy.len
    rw[h1]at h2
    simp only[List.length_nil]at h2
    omega
   have hqp:0<q:=by omega
   clear h0
   go_wp2_with fail
   refine(divmod_c wr hox.toIn hoy.toIn hp hq).mono ?_
   rintro e w3 ⟨A3,n3,c3,l3,A4,n4,c4,l4,rfl,hN3,hv3,hN4,hv4,ho3,ho4,hw3⟩
   rw[Vf hy0]at hv4
   have hlt4:val l4<val y:=by rw[hv4];exact Nat.mod_lt _ Zo
   have hn4:n4≤274877906944:=by
    have h1:=hN4.length_le (Nat.lt_trans hlt4 (Gd hoy.dig))
    have:=ho4.len;have:=hoy.len
    omega
   have F:=Km (And.intro hv3 (And.intro hv4 (And.intro hlt4 hy0)))
   clear hv3 hv4 hlt4 hy0
   go_wp2_with fail
   go_roundg (val l4)
   case measure=>have:=K3 hk;have:=(K3 F).2.2.1;omega
   case rel=>
    refine⟨Y,A4,q,s,n4,c4,y,l4,rfl,rfl,rfl,hoy.below hw3,ho4.base hbx.size,ny,hN4,hq,hn4,?_,hbx.trans (hw3.mono hbx.size)⟩
    show _=_
    rw[(K3 F).2.1,←K3 hg,Nat.gcd_comm (val x),Nat.gcd_rec (val y) (val x),Nat.gcd_comm]
theorem Mx.len_lt{l:List Nat}(h:Mx l){k:Nat}(hv:val l<2 ^ (32*k)):l.length≤k:=h.length_le (by rw[Sj];exact hv)
end Go.Proofs.YtoeiphicmcndlaaGreatDoor
