/-
 Functions of the package natural.
-/
import Derived.Test.YtoeiphicmcndlaaGreatDoorAWf
import Derived.Test.YtoeiphicmcndlaaGreatDoorASh
namespace Go.Proofs.YtoeiphicmcndlaaGreatDoor
set_option maxRecDepth 100000
set_option maxHeartbeats 8000000
set_option linter.unusedVariables false
set_option linter.unusedSimpArgs false
open Go.RowKit
theorem guess_L{UA VA:Option Addr}{L T uc vc:Nat}{u v:List Nat}(w:World)(hLT:L=T+1)(hT:1≤T)(hU:In w UA (L+1) uc u)(hV:In w VA L vc v)(hv1:2147483648≤dg v T)(hUV:val u<4294967296*val v):
 Calls Tryz.prog 278 #[.slice UA (L+1) uc,.slice VA L vc] w fun e w'=>∃q:Nat,e= .returned (.int .u64 q)∧Zy (val u) (val v) q∧Qd w w':=by
 obtain⟨m,rfl⟩:∃m,T=m+1:=⟨T-1,by omega⟩
 subst hLT
 exact guess_c w hU hV hv1 hUV
theorem dg_zero_of_lt{l:List Nat}{k:Nat}(h:val l<pw k):∀i,k≤i→dg l i=0:=by
 intro i hi
 rcases Nat.eq_zero_or_pos (dg l i)with e|e
 ·exact e
 ·have h1:=lo_le l (i+1)
  rw[La]at h1
  have h2:1*pw i≤dg l i*pw i:=Nat.mul_le_mul_right _ e
  have h3:=Aa hi
  omega
def divE(b:Nat):Int:=if b=0 then 9 else 0
def modN(a b:Nat):Nat:=if b=0 then 0 else a%b
theorem Bz{b:Nat}(h:b≠0):divE b=0:=if_neg h
theorem Vf{a b:Nat}(h:b≠0):modN a b=a%b:=if_neg h
def Dd(w:World)(a b:Nat)(e:Ending)(w':World):Prop:=
 ∃A1 n1 c1 l1 A2 n2 c2 l2,e= .returned (.tuple #[.slice A1 n1 c1,.slice A2 n2 c2,Zi (divE b)])∧Mx l1∧val l1=a/b∧Mx l2∧val l2=modN a b∧
  Py w' w.heap.size A1 n1 c1 l1∧Py w' w.heap.size A2 n2 c2 l2∧Below w.heap.size w w'
theorem lz_c(x:Nat)(h:x<4294967296)(w:World):
 Calls Tryz.prog 276 #[.int .u32 x] w fun e w'=>e= .returned (Zi ((32-Lib.bitLen x:Nat):Int))∧w=w':=
 (Tryz.bits_LeadingZeros32 x w Zo Zo).mono fun _ _ ⟨h1,h2⟩=>by
  have hb:=Xi h
  rw[Int.toNat_natCast,show(32:Int)- (Lib.bitLen x:Int)=((32-Lib.bitLen x:Nat):Int) by omega]at h1
  exact⟨h1,h2.symm⟩
theorem dm_zero{A B:Option Addr}{n c m d:Nat}{a b:List Nat}(w:World)(ha:In w A n c a)(hb:In w B m d b)(h0:tlen b m=0):
 Calls Tryz.prog 256 #[.slice A n c,.slice B m d] w (Dd w (val a) (val b)):=by
 have hv:val b=0:=by
  rw[←Kh,show trim b=[]from List.length_eq_zero_iff.1 (by rw[hb.trim.len];exact h0)];rfl
 rw[hv]
 clear hv
 have H0:=Km h0
 clear h0
 go_enter Tryz.func256,Tryz.ntmps256
 go_wp2_with fail
 refine(Lu w ha).mono ?_
 rintro e w' ⟨rfl,rfl⟩
 go_wp2_with fail
 refine(Lu w hb).mono ?_
 rintro e w' ⟨rfl,rfl⟩
 rw[K3 H0]
 go_wp2_with fail
 go_ret3
 exact⟨none,0,0,[],none,0,0,[],rfl,Mx.nil,by rw[Nat.div_zero];rfl,Mx.nil,rfl,Py.nil_,Py.nil_,Below.refl _ _⟩
theorem dm_less{A B:Option Addr}{n c m d:Nat}{a b:List Nat}(w:World)(ha:In w A n c a)(hb:In w B m d b)(hn:n≤1099511627776)(h0:tlen b m≠0)(hlt:val a<val b):
 Calls Tryz.prog 256 #[.slice A n c,.slice B m d] w (Dd w (val a) (val b)):=by
 have hz:((tlen b m:Int)==0)=false:=by simpa using h0
 have K:Hid (U4 (val (trim a)) (val (trim b))= -1):=by rw[Kh,Kh];exact D9 hlt
 have Hlt:=Km hlt
 have hta:=Nw a n
 clear h0 hlt
 go_enter Tryz.func256,Tryz.ntmps256
 go_wp2_with fail
 refine(Lu w ha).mono ?_
 rintro e w' ⟨rfl,rfl⟩
 go_wp2_with fail
 refine(Lu w hb).mono ?_
 rintro e w' ⟨rfl,rfl⟩
 go_wp2_with fail
 refine(cmp_c w ha.trim hb.trim).mono ?_
 rintro e w' ⟨rfl,⟨q,rfl⟩⟩
 rw[K3 K]
 go_wp2_with fail
 refine(clone_c _ (ha.trim.drewN q) Zo).mono ?_
 rintro e w' ⟨A1,n1,c1,rfl,ho,hw⟩
 go_wp2_with fail
 go_ret3
 have h1:=K3 Hlt
 refine⟨none,0,0,[],A1,n1,c1,trim a,?_,Mx.nil,?_,Kw ha.dig,?_,Py.nil_,ho,?_⟩
 ·rw[Bz Zo];rfl
 ·rw[Nat.div_eq_of_lt h1];rfl
 ·rw[Kh,Vf Zo,Nat.mod_eq_of_lt h1]
 ·exact(Mh (Below.refl _ _) q).trans hw
theorem dm_one{A B:Option Addr}{n c m d:Nat}{a b:List Nat}(w:World)(ha:In w A n c a)(hb:In w B m d b)(hn:n≤1099511627776)(h0:tlen b m=1)(hge:val b≤val a):
 Calls Tryz.prog 256 #[.slice A n c,.slice B m d] w (Dd w (val a) (val b)):=by
 obtain⟨z,hz0,K⟩:∃z,(0:Int)≤z∧Hid (U4 (val (trim a)) (val (trim b))=z):=by
  refine⟨_,?_,rfl⟩
  rw[Kh,Kh]
  unfold U4
  rw[if_neg Zo];split<;>omega
 have hta:=Nw a n
 have Tb:=hb.trim
 rw[h0]at Tb
 have hd:=Tb.dig 0
 obtain⟨x,hx⟩:∃x,x=dg (trim b) 0:=⟨_,rfl⟩
 have hv:val b=x:=by
  rw[←Kh,←M6 (Nat.le_of_eq Tb.len),La,N4,Fd,hx];omega
 have hx0:x≠0:=by
  have hnz:=(Kw hb.dig).2
  rcases hnz with h|h
  ·have:=Tb.len;rw[h]at this;simp at this
  ·rw[Tb.len]at h;rw[hx];exact h
 obtain⟨bd,hB,hcb⟩:=Tb.at_ (k:=0) Zo
 rw[←hx]at hcb hd
 rw[show bd.add 0=bd from if_pos rfl]at hcb
 have hxp:0<x:=by omega
 have hmx:=Nat.mod_lt (val (trim a)) hxp
 have Hv:=Km (And.intro hv (And.intro hx h0))
 clear hv hx h0 hx0
 subst hB
 go_enter Tryz.func256,Tryz.ntmps256
 go_wp2_with fail
 refine(Lu w ha).mono ?_
 rintro e w' ⟨rfl,rfl⟩
 go_wp2_with fail
 refine(Lu w hb).mono ?_
 rintro e w' ⟨rfl,rfl⟩
 rw[(K3 Hv).2.2]
 go_wp2_with fail
 refine(cmp_c w ha.trim Tb).mono ?_
 rintro e w' ⟨rfl,⟨q,rfl⟩⟩
 rw[K3 K]
 go_wp2_with fail
 refine(one_c x _ (ha.trim.drewN q) Zo hxp hd).mono ?_
 rintro e w1 ⟨A1,n1,c1,l1,rfl,hn1,hv1,ho1,hw1⟩
 go_wp2_with fail
 refine(Up (val (trim a)%x) Zo _).mono ?_
 rintro e w2 ⟨A2,n2,c2,l2,rfl,hn2,hv2,ho2,hw2⟩
 go_wp2_with fail
 go_ret3
 obtain⟨h1,_,_⟩:=K3 Hv
 rw[Kh]at hv1 hv2
 refine⟨A1,n1,c1,l1,A2,n2,c2,l2,?_,hn1,?_,hn2,?_,ho1.below hw2,ho2.base hw1.size,?_⟩
 ·rw[Bz Zo];rfl
 ·rw[hv1,h1]
 ·rw[hv2,Vf Zo,h1]
 ·exact((Mh (Below.refl _ _) q).trans hw1).trans (hw2.mono hw1.size)
end Go.Proofs.YtoeiphicmcndlaaGreatDoor
