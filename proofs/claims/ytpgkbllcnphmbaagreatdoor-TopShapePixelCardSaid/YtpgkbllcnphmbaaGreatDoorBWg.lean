/-
 A part of the proof.
-/
import Derived.Test.YtpgkbllcnphmbaaGreatDoorBWc
import Derived.Test.YtpgkbllcnphmbaaGreatDoorASh
import Derived.Deep.LoopGhost
namespace Go.Proofs.YtpgkbllcnphmbaaGreatDoor
set_option maxRecDepth 100000
set_option maxHeartbeats 8000000
set_option linter.unusedVariables false
set_option linter.unusedSimpArgs false
open Go.RowKit
def As(w:World)(g t cap:Nat)(l:List Nat):Prop:=
 ∃cur,w.heap[g]? =some (.cells cur t (0,0))∧cur.size=cap∧l.length≤cap∧cur.toList.take l.length=Py l
section
variable{w w':World}{g t cap:Nat}{l:List Nat}
theorem As.cell(h:As w g t cap l){i:Nat}(hi:i<l.length):w.cell? ⟨g,i,none⟩=some (.int .u32 (dg l i:Int)):=by
 obtain⟨cur,hg,hs,hl,ht⟩:=h
 rw[cell_of_row w g i cur t (0,0) hg,←T8 hi,←ht,List.getElem?_take,if_pos hi]
 simp
theorem As.frozen(h:As w g t cap l)(i:Nat):w.frozen? ⟨g,i,none⟩=false:=by
 obtain⟨cur,hg,_⟩:=h
 simp[World.frozen?,hg]
theorem As.set_(h:As w g t cap l){i:Nat}(hi:i<l.length)(d:Nat):As (w.setCell ⟨g,i,none⟩ (.int .u32 (d:Int))) g t cap (l.set i d):=by
 obtain⟨cur,hg,hs,hl,ht⟩:=h
 refine⟨cur.setIfInBounds i (.int .u32 (d:Int)),by simp[World.setCell,Array.getElem?_modify,hg],by simpa using hs,by simpa using hl,?_⟩
 rw[List.length_set,←u32s_set,←ht,Array.toList_setIfInBounds,List.take_set]
theorem As.lt(h:As w g t cap l):g<w.heap.size:=by
 obtain⟨cur,hg,_⟩:=h
 exact(Array.getElem?_eq_some_iff.1 hg).1
theorem As.drewN(h:As w g t cap l)(q:Nat):As (w.drewN q) g t cap l:=h
theorem As.far(h:As w g t cap l){p:Addr}(hp:g≠p.block)(u:Value):As (w.setCell p u) g t cap l:=by
 obtain⟨cur,hh,r⟩:=h
 exact⟨cur,(Below.heap_setCell w p u g hp).trans hh,r⟩
theorem As.alloc(h:As w g t cap l)(o:Obj):As (w.alloc o) g t cap l:=by
 obtain⟨cur,hh,r⟩:=h
 exact⟨cur,(Below.heap_alloc w o g (Array.getElem?_eq_some_iff.1 hh).1).trans hh,r⟩
theorem As.of_row{B n:Nat}{v:Value}(h:w.ownsRow B t 1 v n (Py l))(hl:l.length=n)(h0:0<n):∃g c,v= .slice (some ⟨g,0,none⟩) n c∧B≤g∧n≤c∧c≤maxLen∧As w g t c l:=by
 rcases h.2 with ⟨_,h1⟩|⟨g,c,cur,hv,hg,hh,hn,hc,hs,ht⟩
 ·omega
 ·exact⟨g,c,hv,hg,hn,hc,cur,hh,by omega,by omega,by rw[hl,←ht,Nat.mul_one]⟩
theorem add_off(g k j:Nat):(⟨g,k,none⟩:Addr).add j=⟨g,k+j,none⟩:=by
 unfold Addr.add;split<;>simp_all
theorem As.part(h:As w g t cap l)(hd:O3 l){k n c:Nat}(hk:k+n≤l.length)(hc:n≤c)(hm:c≤maxLen):In w (some ⟨g,k,none⟩) n c ((l.drop k).take n):=by
 refine⟨(hd.drop k).take n,by rw[List.length_take,List.length_drop];omega,hc,hm,⟨by rw[O4,List.length_take,List.length_drop];omega,fun _=>⟨_,rfl,h.lt,fun j u hu=> ?_⟩⟩⟩
 have hj:j<n:=by
  have:=(List.getElem?_eq_some_iff.1 hu).1
  rw[O4,List.length_take,List.length_drop]at this;omega
 rw[T8 (by rw[List.length_take,List.length_drop];omega)]at hu
 rw[add_off,h.cell Zo,←hu,Jq hj,Pr]
end
structure InB(w:World)(B:Nat)(A:Option Addr)(n c:Nat)(l:List Nat):Prop where
 dig:O3 l
 len:l.length=n
 le:n≤c
 cap:c≤maxLen
 rd:Mu w B 1 A n (Py l)
theorem In.toB{w:World}{A:Option Addr}{n c:Nat}{l:List Nat}(h:In w A n c l):InB w w.heap.size A n c l:=⟨h.dig,h.len,h.le,h.cap,h.rd⟩
theorem InB.toIn{w:World}{B:Nat}{A:Option Addr}{n c:Nat}{l:List Nat}(h:InB w B A n c l)(hB:B≤w.heap.size):In w A n c l:=⟨h.dig,h.len,h.le,h.cap,h.rd.more hB⟩
theorem InB.below{w w':World}{B:Nat}{A:Option Addr}{n c:Nat}{l:List Nat}(h:InB w B A n c l)(hb:Below B w w'):InB w' B A n c l:=⟨h.dig,h.len,h.le,h.cap,h.rd.below hb⟩
theorem InB.more{w:World}{B B':Nat}{A:Option Addr}{n c:Nat}{l:List Nat}(h:InB w B A n c l)(hB:B≤B'):InB w B' A n c l:=⟨h.dig,h.len,h.le,h.cap,h.rd.more hB⟩
theorem InB.at_{w:World}{B:Nat}{A:Option Addr}{n c:Nat}{l:List Nat}(h:InB w B A n c l){k:Nat}(hk:k<n):∃ad,A=some ad∧w.cell? (ad.add k)=some (.int .u32 (dg l k:Int)):=by
 obtain⟨ad,u,hA,_,hu,hc⟩:=h.rd.at_ hk
 rw[T8 (by rw[h.len];exact hk)]at hu
 injection hu with hu
 subst hu
 exact⟨ad,hA,hc⟩
theorem U3{a w:World}{g:Nat}(h:a.grownBy w (some g)){p:Addr}(hp:p.block=g∨a.heap.size≤p.block)(u:Value):a.grownBy (w.setCell p u) (some g):=
 ⟨h.os,h.tape,h.output,by simpa[World.setCell]using h.size,fun i hi hne=>(Below.heap_setCell w p u i (by
  rintro rfl
  rcases hp with hp|hp
  ·exact hne (by rw[hp])
  ·omega)).trans (h.block i hi hne)⟩
theorem Ye{a w:World}{g:Nat}(h:a.grownBy w (some g))(hg:g≤a.heap.size):Below g a w:=
 ⟨h.os,h.tape,h.output,h.size,fun k hk=>h.block k Zo (fun e=>by injection e with e;omega)⟩
theorem Mk.grown{w w':World}{g t:Nat}{l:List Nat}{row:Option Nat}(h:Mk w g t l)(hg:w.grownBy w' row)(hne:some g≠row):Mk w' g t l:=Yv.grown h hg hne
theorem Mk.drewN{w:World}{g t:Nat}{l:List Nat}(h:Mk w g t l)(q:Nat):Mk (w.drewN q) g t l:=h
def TakePost(w:World)(g k n cap q V:Nat)(U:List Nat)(e:Ending)(w':World):Prop:=
 ∃(U':List Nat) (b:Bool),e= .returned (.bool b)∧As w' g 144 cap U'∧U'.length=U.length∧O3 U'∧w.grownBy w' (some g)∧(∀j,(j<k∨k+n<j)→dg U' j=dg U j)∧
  ((b=false∧pl U' k (n+1)+q*V=pl U k (n+1))∨(b=true∧pl U' k (n+1)+q*V=pl U k (n+1)+pw (n+1)))
theorem sub_wrap{x m y:Nat}(hx:x<4294967296)(hm:m<4294967296)(hy:y≤1):
 ∃d y':Nat,d<4294967296∧y'≤1∧d+m+y=x+y'*4294967296∧IntKind.u64.wrap (IntKind.u64.wrap ((x:Int)- (m:Int))- (y:Int))%4294967296=(d:Int)∧
  IntKind.u64.wrap (IntKind.u64.wrap ((x:Int)- (m:Int))- (y:Int))/9223372036854775808=(y':Int):=by
 rw[Lm,Lm]
 by_cases h:m+y≤x
 ·exact⟨x-m-y,0,by omega,by omega,by omega,by omega,by omega⟩
 ·exact⟨x+4294967296-m-y,1,by omega,by omega,by omega,by omega,by omega⟩
theorem and_low{s:Nat}(h:s≤18446744069414584320):bits .and .u64 (s:Int) 4294967295=((s%4294967296:Nat):Int):=by
 rw[show(4294967295:Int)=((4294967295:Nat):Int) by rfl,u64_and_nat _ _ Zo Zo,show 4294967295=2 ^ 32-1 by decide,Nat.and_two_pow_sub_one_eq_mod]
theorem take_c{VA:Option Addr}{n vc:Nat}{v:List Nat}(w:World)(g k cap pc q:Nat)(U:List Nat)(hv:InB w g VA n vc v)
 (hM:As w g 144 cap U) (hUd:O3 U) (hk:k+n+1≤U.length) (hq:q<4294967296) (hn:n≤1099511627776) (hk2:k≤1099511627776):
 Calls Tryz.prog 251 #[.slice (some ⟨g,k,none⟩) (n+1) pc,.slice VA n vc,.int .u64 q] w (TakePost w g k n cap q (val v) U):=by
 have hgs:=Nat.le_of_lt hM.lt
 have Hv:=Le hv
 have Hl:=Le hv.len
 clear hv
 go_enter Tryz.func251,Tryz.ntmps251
 go_wp2_with fail
 go_loopw [7,8,15] (fun sc sy si wr=>∃(i c y:Nat) (P:List Nat),i≤n∧si= .int .i64 i∧sc= .int .u64 c∧sy= .int .u64 y∧c<4294967296∧y≤1∧P.length=U.length∧O3 P∧Hid (∀j,(j<k∨k+i≤j)→dg P j=dg U j)∧Hid (pl P k i+q*lo v i=pl U k i+(y+c)*pw i)∧As wr g 144 cap P∧w.grownBy wr (some g)) (fun _ _ si _=>n- (intOf si).toNat)
 case atStart=>exact⟨0,0,0,U,Nat.zero_le _,rfl,rfl,rfl,by omega,by omega,rfl,hUd,fun _ _=>rfl,(show _=_ by rw[pl_zero,O0];simp),hM,World.grownBy.refl _ _⟩
 case round=>
  obtain⟨i,c,y,P,hi,rfl,rfl,rfl,hc,hy,hPl,hPd,hag,hI,hMr,hbr⟩:=hrel
  have HPl:=Le hPl
  clear hPl
  clear hM
  by_cases hlt:i<n
  ·obtain⟨ad,hA,hca⟩:=((K5 Hv).below (Ye hbr hgs)).at_ (k:=i) hlt
   have hx:=(K5 Hv).dig i
   have hP:=hPd (k+i)
   have hcell:=hMr.cell (i:=k+i) (by rw[K5 HPl];omega)
   have hfz:=hMr.frozen (k+i)
   obtain⟨s,hs⟩:∃s,s=c+q*dg v i:=⟨_,rfl⟩
   have hsb:s≤18446744069414584320:=by have:=Zr hq hx;omega
   have hxy:=H5 hq hx
   have hsi:(c:Int)+(q:Int)*(dg v i:Int)=(s:Int):=by rw[hs,Int.natCast_add,Int.natCast_mul]
   have hand:bits .and .u64 (s:Int) 4294967295=((s%4294967296:Nat):Int):=and_low hsb
   have HS:=Le hs
   clear hs
   subst hA
   go_wp2
   obtain⟨d,y',hd1,hd2,hd3,hd4,hd5⟩:=sub_wrap hP (Nat.mod_lt s (show 0<4294967296 by omega)) hy
   rw[show((s%4294967296:Nat):Int)=(s:Int)%4294967296 by omega]at hd4 hd5
   rw[hd4,hd5]
   have hst:=hMr.set_ (i:=k+i) (by rw[K5 HPl];omega) d
   go_roundw
   case rel=>
    refine⟨i+1,s/4294967296,y',_,by omega,by go_num,congrArg (Value.int .u64) Zo,rfl,by omega,hd2,by rw[List.length_set];exact K5 HPl,hPd.set _ hd1,fun j hj=> ?_,?_,hst,U3 hbr (Or.inl rfl) _⟩
    ·rw[P4,if_neg Zo]
     exact K5 hag j Zo
    ·show _=_
     have:=take_step (by rw[K5 HPl];omega) (K5 hag (k+i) Zo) (K5 hI) (by rw[←K5 HS];exact hd3)
     rw[←K5 HS]at this
     exact this
   case measure=>simp[intOf];omega
  ·have hi':i=n:=by omega
   subst hi'
   have hP:=hPd (k+i)
   have hcell:=hMr.cell (i:=k+i) (by rw[K5 HPl];omega)
   have hfz:=hMr.frozen (k+i)
   go_wp2_with fail
   obtain⟨d,y',hd1,hd2,hd3,hd4,hd5⟩:=sub_wrap hP hc hy
   rw[hd4,hd5]
   have hst:=hMr.set_ (i:=k+i) (by rw[K5 HPl];omega) d
   go_ret
   have hv:lo v i=val v:=Mm (by rw[K5 Hl];exact Nat.le_refl _)
   have hend:=take_end (by rw[K5 HPl];omega) (K5 hag (k+i) Zo) (K5 hI) hd3
   rw[hv]at hend
   refine⟨_,decide (y'=1),?_,hst,by rw[List.length_set];exact K5 HPl,hPd.set _ hd1,U3 hbr (Or.inl rfl) _,fun j hj=> ?_,?_⟩
   ·rcases(show y'=0∨y'=1 by omega)with rfl|rfl<;>rfl
   ·rw[P4,if_neg Zo]
    exact K5 hag j Zo
   ·rcases(show y'=0∨y'=1 by omega)with rfl|rfl
    ·left;exact⟨rfl,by omega⟩
    ·right;exact⟨rfl,by omega⟩
theorem guess_L{UA VA:Option Addr}{L T uc vc:Nat}{u v:List Nat}(w:World)(hLT:L=T+1)(hT:1≤T)(hU:In w UA (L+1) uc u)(hV:In w VA L vc v)(hv1:2147483648≤dg v T)(hUV:val u<4294967296*val v):
 Calls Tryz.prog 250 #[.slice UA (L+1) uc,.slice VA L vc] w fun e w'=>∃q:Nat,e= .returned (.int .u64 q)∧Ug (val u) (val v) q∧Qd w w':=by
 obtain⟨m,rfl⟩:∃m,T=m+1:=⟨T-1,by omega⟩
 subst hLT
 exact guess_c w hU hV hv1 hUV
theorem G7{l:List Nat}{k:Nat}(h:val l<pw k):∀i,k≤i→dg l i=0:=by
 intro i hi
 rcases Nat.eq_zero_or_pos (dg l i)with e|e
 ·exact e
 ·have h1:=lo_le l (i+1)
  rw[Lc]at h1
  have h2:1*pw i≤dg l i*pw i:=Nat.mul_le_mul_right _ e
  have h3:=Zn hi
  omega
def divE(b:Nat):Int:=if b=0 then 9 else 0
def modN(a b:Nat):Nat:=if b=0 then 0 else a%b
theorem A5{b:Nat}(h:b≠0):divE b=0:=if_neg h
theorem Vd{a b:Nat}(h:b≠0):modN a b=a%b:=if_neg h
def Ap(w:World)(a b:Nat)(e:Ending)(w':World):Prop:=
 ∃A1 n1 c1 l1 A2 n2 c2 l2,e= .returned (.tuple #[.slice A1 n1 c1,.slice A2 n2 c2,.int .i64 (divE b)])∧Pp l1∧val l1=a/b∧Pp l2∧val l2=modN a b∧
  Sr w' w.heap.size A1 n1 c1 l1∧Sr w' w.heap.size A2 n2 c2 l2∧Below w.heap.size w w'
theorem lz_c(x:Nat)(h:x<4294967296)(w:World):
 Calls Tryz.prog 248 #[.int .u32 x] w fun e w'=>e= .returned (.int .i64 ((32-Lib.bitLen x:Nat):Int))∧w=w':=
 (Tryz.bits_LeadingZeros32 x w Zo Zo).mono fun _ _ ⟨h1,h2⟩=>by
  have hb:=Cj h
  rw[Int.toNat_natCast,show(32:Int)- (Lib.bitLen x:Int)=((32-Lib.bitLen x:Nat):Int) by omega]at h1
  exact⟨h1,h2.symm⟩
theorem dm_zero{A B:Option Addr}{n c m d:Nat}{a b:List Nat}(w:World)(ha:In w A n c a)(hb:In w B m d b)(h0:tlen b m=0):
 Calls Tryz.prog 172 #[.slice A n c,.slice B m d] w (Ap w (val a) (val b)):=by
 have hv:val b=0:=by
  rw[←Kr,show trim b=[]from List.length_eq_zero_iff.1 (by rw[hb.trim.len];exact h0)];rfl
 rw[hv]
 clear hv
 have H0:=Le h0
 clear h0
 go_enter Tryz.func172,Tryz.ntmps172
 go_wp2_with fail
 refine(Li w ha).mono ?_
 rintro e w' ⟨rfl,rfl⟩
 go_wp2_with fail
 refine(Li w hb).mono ?_
 rintro e w' ⟨rfl,rfl⟩
 rw[K5 H0]
 go_wp2_with fail
 go_ret3
 exact⟨none,0,0,[],none,0,0,[],rfl,Pp.nil,by rw[Nat.div_zero];rfl,Pp.nil,rfl,Sr.nil_,Sr.nil_,Below.refl _ _⟩
theorem dm_less{A B:Option Addr}{n c m d:Nat}{a b:List Nat}(w:World)(ha:In w A n c a)(hb:In w B m d b)(hn:n≤1099511627776)(h0:tlen b m≠0)(hlt:val a<val b):
 Calls Tryz.prog 172 #[.slice A n c,.slice B m d] w (Ap w (val a) (val b)):=by
 have hz:((tlen b m:Int)==0)=false:=by simpa using h0
 have K:Hid (Vs (val (trim a)) (val (trim b))= -1):=by rw[Kr,Kr];exact Dh hlt
 have Hlt:=Le hlt
 have hta:=Mz a n
 clear h0 hlt
 go_enter Tryz.func172,Tryz.ntmps172
 go_wp2_with fail
 refine(Li w ha).mono ?_
 rintro e w' ⟨rfl,rfl⟩
 go_wp2_with fail
 refine(Li w hb).mono ?_
 rintro e w' ⟨rfl,rfl⟩
 go_wp2_with fail
 refine(cmp_c w ha.trim hb.trim).mono ?_
 rintro e w' ⟨rfl,⟨q,rfl⟩⟩
 rw[K5 K]
 go_wp2_with fail
 refine(clone_c _ (ha.trim.drewN q) Zo).mono ?_
 rintro e w' ⟨A1,n1,c1,rfl,ho,hw⟩
 go_wp2_with fail
 go_ret3
 have h1:=K5 Hlt
 refine⟨none,0,0,[],A1,n1,c1,trim a,?_,Pp.nil,?_,Lz ha.dig,?_,Sr.nil_,ho,?_⟩
 ·rw[A5 Zo];rfl
 ·rw[Nat.div_eq_of_lt h1];rfl
 ·rw[Kr,Vd Zo,Nat.mod_eq_of_lt h1]
 ·exact(P5 (Below.refl _ _) q).trans hw
theorem dm_one{A B:Option Addr}{n c m d:Nat}{a b:List Nat}(w:World)(ha:In w A n c a)(hb:In w B m d b)(hn:n≤1099511627776)(h0:tlen b m=1)(hge:val b≤val a):
 Calls Tryz.prog 172 #[.slice A n c,.slice B m d] w (Ap w (val a) (val b)):=by
 obtain⟨z,hz0,K⟩:∃z,(0:Int)≤z∧Hid (Vs (val (trim a)) (val (trim b))=z):=by
  refine⟨_,?_,rfl⟩
  rw[Kr,Kr]
  unfold Vs
  rw[if_neg Zo];split<;>omega
 have hta:=Mz a n
 have Tb:=hb.trim
 rw[h0]at Tb
 have hd:=Tb.dig 0
 obtain⟨x,hx⟩:∃x,x=dg (trim b) 0:=⟨_,rfl⟩
 have hv:val b=x:=by
  rw[←Kr,←Mm (Nat.le_of_eq Tb.len),Lc,O0,D7,hx];omega
 have hx0:x≠0:=by
  have hnz:=(Lz hb.dig).2
  rcases hnz with h|h
  ·have:=Tb.len;rw[h]at this;simp at this
  ·rw[Tb.len]at h;rw[hx];exact h
 obtain⟨bd,hB,hcb⟩:=Tb.at_ (k:=0) Zo
 rw[←hx]at hcb hd
 rw[show bd.add 0=bd from if_pos rfl]at hcb
 have hxp:0<x:=by omega
 have hmx:=Nat.mod_lt (val (trim a)) hxp
 have Hv:=Le (And.intro hv (And.intro hx h0))
 clear hv hx h0 hx0
 subst hB
 go_enter Tryz.func172,Tryz.ntmps172
 go_wp2_with fail
 refine(Li w ha).mono ?_
 rintro e w' ⟨rfl,rfl⟩
 go_wp2_with fail
 refine(Li w hb).mono ?_
 rintro e w' ⟨rfl,rfl⟩
 rw[(K5 Hv).2.2]
 go_wp2_with fail
 refine(cmp_c w ha.trim Tb).mono ?_
 rintro e w' ⟨rfl,⟨q,rfl⟩⟩
 rw[K5 K]
 go_wp2_with fail
 refine(one_c x _ (ha.trim.drewN q) Zo hxp hd).mono ?_
 rintro e w1 ⟨A1,n1,c1,l1,rfl,hn1,hv1,ho1,hw1⟩
 go_wp2_with fail
 refine(Zv (val (trim a)%x) Zo _).mono ?_
 rintro e w2 ⟨A2,n2,c2,l2,rfl,hn2,hv2,ho2,hw2⟩
 go_wp2_with fail
 go_ret3
 obtain⟨h1,_,_⟩:=K5 Hv
 rw[Kr]at hv1 hv2
 refine⟨A1,n1,c1,l1,A2,n2,c2,l2,?_,hn1,?_,hn2,?_,ho1.below hw2,ho2.base hw1.size,?_⟩
 ·rw[A5 Zo];rfl
 ·rw[hv1,h1]
 ·rw[hv2,Vd Zo,h1]
 ·exact((P5 (Below.refl _ _) q).trans hw1).trans (hw2.mono hw1.size)
theorem len_ge{l:List Nat}{k:Nat}(hd:O3 l)(h:pw k≤val l):k+1≤l.length:=by
 rcases Nat.lt_or_ge k l.length with h1|h1
 ·exact h1
 ·have:=Q2 hd h1;omega
theorem Gs{U U' Q:List Nat}{k L q V A:Nat}(hkQ:k<Q.length)(hz:∀j,k+(L+1)≤j→dg U j=0)(hz':∀j,k+(L+1)≤j→dg U' j=0)(hlow:∀j,j<k→dg U' j=dg U j)
 (hP:pl U' k (L+1)+q*V=pl U k (L+1)) (hI:val (Q.drop (k+1))*pw (k+1)*V+val U=A) (hlt:pl U' k (L+1)<V):
 val ((Q.set k q).drop k)*pw k*V+val U'=A∧val (U'.drop k)<V:=
 ⟨div_round hkQ hz hz' hlow hP hI,by rw[Ef hz'];exact hlt⟩
theorem shiftN_neg(v t:Nat):Ir v (-(t:Int))=v/2 ^ t:=by
 unfold Ir
 by_cases h:t=0
 ·subst h;simp
 ·rw[if_neg Zo]
  congr 2
  omega
theorem dm_long{A B:Option Addr}{n c m d:Nat}{a b:List Nat}(L T:Nat)(w:World)(ha:In w A n c a)(hb:In w B m d b)(hn:n≤274877906944)(hm:m≤274877906944)(h0:tlen b m=L)(hLT:L=T+1)(hT1:1≤T)(hge:val b≤val a):
 Calls Tryz.prog 172 #[.slice A n c,.slice B m d] w (Ap w (val a) (val b)):=by
 obtain⟨z,hz0,K⟩:∃z,(0:Int)≤z∧Hid (Vs (val (trim a)) (val (trim b))=z):=by
  refine⟨_,?_,rfl⟩
  rw[Kr,Kr]
  unfold Vs
  rw[if_neg Zo];split<;>omega
 have hta:=Mz a n
 have htb:=Mz b m
 have Ta:=ha.trim
 have Tb:=hb.trim
 have na:=Lz ha.dig
 have nb:=Lz hb.dig
 have va:Hid (val (trim a)=val a):=Kr a
 have vb:Hid (val (trim b)=val b):=Kr b
 obtain⟨p,hp⟩:∃p,p=tlen a n:=⟨_,rfl⟩
 rw[←hp]at Ta hta
 rw[h0]at Tb htb
 obtain⟨x,hx⟩:∃x,x=dg (trim b) T:=⟨_,rfl⟩
 have hxb:=Tb.dig T
 rw[←hx]at hxb
 have hx0:x≠0:=by
  rcases nb.2 with h|h
  ·have:=Tb.len;rw[h]at this;simp only[List.length_nil]at this;omega
  ·rw[Tb.len,hLT]at h;rw[hx];exact h
 obtain⟨t,ht⟩:∃t,t=32-Lib.bitLen x:=⟨_,rfl⟩
 have ht32:t≤32:=by omega
 have hshift:=norm_shift (n:=T) Tb.dig (by rw[Tb.len];exact hLT) (by rw[←hx];exact hx0)
 rw[←hx,←ht,K5 vb]at hshift
 have Hsh:=Le hshift
 clear hshift
 have Ha:=Le ha
 have Hb:=Le hb
 have HP:=Le hp
 have H0:=Le h0
 have HX:=Le hx
 have HT:=Le ht
 have HG:=Le hge
 have l0:((L:Int)==0)=false:=by simp;omega
 have l1:((L:Int)==1)=false:=by simp;omega
 have l2:(L:Int)-1=(T:Int):=by omega
 have l3:T<L:=by omega
 have HLT:=Le hLT
 clear hLT
 clear ha hb hp h0 hx ht hx0 hge
 go_enter Tryz.func172,Tryz.ntmps172
 go_wp2_with fail
 refine(Li w (K5 Ha)).mono ?_
 rintro e w' ⟨rfl,rfl⟩
 rw[←K5 HP]
 go_wp2_with fail
 refine(Li w (K5 Hb)).mono ?_
 rintro e w' ⟨rfl,rfl⟩
 rw[K5 H0]
 go_wp2_with fail
 refine(cmp_c w Ta Tb).mono ?_
 rintro e wc ⟨rfl,hqd⟩
 rw[K5 K]
 have Tac:=Ta.qd hqd
 have Tbc:=Tb.qd hqd
 have hbc:=hqd.below w.heap.size
 clear Ta Tb hqd Ha Hb
 obtain⟨bd,hB,hcb⟩:=Tbc.at_ (k:=T) Zo
 rw[←K5 HX]at hcb
 subst hB
 go_wp2_with fail
 refine(lz_c x hxb wc).mono ?_
 rintro e w' ⟨rfl,rfl⟩
 rw[←K5 HT]
 go_wp2_with fail
 refine(E1 t wc Tbc Zo Zo).mono ?_
 rintro e w1 ⟨VA,vn,v,rfl,hvN,hvv,hvo,hw1⟩
 rw[Nat.min_eq_left Zo,K5 vb]at hvv
 have hvn:L=vn:=by
  have h1:=(K5 Hsh).1
  have h2:=(K5 Hsh).2
  rw[←hvv]at h1 h2
  rw[←K5 HLT]at h2
  have h3:=hvN.length_le h2
  have h4:=len_ge hvN.1 (show pw T≤val v by omega)
  have:=hvo.len
  have:=K5 HLT
  omega
 subst hvn
 go_wp2_with fail
 refine(E1 t w1 (Tac.below hw1) Zo Zo).mono ?_
 rintro e w2 ⟨UA,un,u,rfl,huN,huv,huo,hw2⟩
 rw[Nat.min_eq_left Zo,K5 va]at huv
 have hun1:L≤un:=by
  have h1:=(K5 Hsh).1
  have h2:val b*2 ^ t≤val a*2 ^ t:=Nat.mul_le_mul_right _ (K5 HG)
  have h4:=len_ge huN.1 (show pw T≤val u by omega)
  have:=huo.len
  have:=K5 HLT
  omega
 have hun2:p≤un:=by
  have h3:=huo.len
  rcases Nat.eq_zero_or_pos p with e|e
  ·omega
  ·have hne:trim a≠[]:=by intro h;have:=Tac.len;rw[h]at this;simp at this;omega
   have h1:=na.pos hne
   rw[Tac.len,K5 va]at h1
   have h2:val a*1≤val a*2 ^ t:=Nat.mul_le_mul_left _ (Rs t)
   have h4:=len_ge huN.1 (show pw (p-1)≤val u by omega)
   omega
 have hun3:un≤p+2:=by
  have h3:=huo.len
  have h1:=Q2 Tac.dig (Nat.le_of_eq Tac.len)
  rw[K5 va]at h1
  have h2:val a*2 ^ t<pw p*4294967296:=by
   have h5:2 ^ t≤2 ^ 32:=Nat.pow_le_pow_right Zo ht32
   exact Nat.lt_of_lt_of_le (Nat.mul_lt_mul_of_pos_right h1 (Rs t)) (Nat.mul_le_mul_left _ h5)
  rw[←Ms,←huv]at h2
  have:=huN.length_le h2
  omega
 obtain⟨i0,hi0,hz0',hz1,hz2⟩:=info_parts Tryz.info_u32
 have k1:Hid (UA=none→un=0∧un=0):=by
  intro h
  obtain⟨ad,hA,_⟩:=huo.toIn.at_ (k:=0) Zo
  rw[h]at hA;cases hA
 have k3:Hid (∀b,UA=some b→∀j y,(Py u)[j]? =some y→(w2.alloc (.cells #[.int .u32 0] 144)).cell? (b.add j)=some y):=by
  intro b hb j y hy
  obtain⟨ad,hA,_,hcell⟩:=(huo.toIn.rd.alloc (Nat.le_refl _) (.cells #[.int .u32 0] 144)).2 Zo
  rw[hb]at hA
  injection hA with hA
  subst hA
  exact hcell j y hy
 have k2:Hid ((Py u).length=un*1):=by
  show _=_
  rw[O4,Nat.mul_one];exact huo.len
 have k4:Hid (∀j y,(Py [0])[j]? =some y→(w2.alloc (.cells #[.int .u32 0] 144)).cell? ((⟨w2.heap.size,0,none⟩:Addr).add j)=some y):=cell_one_new _ _ _
 go_wp2_with (first
  |(at_builtin;refine wpList_append_grows _ rfl (.tmp 62) (.tmp 63) 22 rfl 144 i0 _ 1 4 Tryz.underlying22 hi0 hz0' hz1 hz2 rfl Zo UA un un (Py u) rfl (K5 k1) (K5 k2) (K5 k3) ⟨w2.heap.size,0,none⟩ 1 1 (Py [0]) rfl rfl (K5 k4) u32s_one Zo (by simp only[maxLen];omega) Zo ?_;intro v' w4 hown4 hg4))
 rw[←u32s_append]at hown4
 obtain⟨g,gc,rfl,hgB,hgn,hgm,hU⟩:=As.of_row hown4 (by rw[List.length_append,huo.len];rfl) Zo
 have h24:Below w2.heap.size w2 w4:=((Below.refl _ _).alloc (Nat.le_refl _) _).grown hg4 Zs (fun k hk=>by cases hk)
 have hbase:Below w.heap.size w w4:=((hbc.trans (hw1.mono hbc.size)).trans (hw2.mono (Nat.le_trans hbc.size hw1.size))).trans (h24.mono (Nat.le_trans hbc.size (Nat.le_trans hw1.size hw2.size)))
 have hg2:w2.heap.size≤g:=by simp at hgB;omega
 have hv4:InB w4 g VA L L v:=(((hvo.toIn.toB).below hw2).below (h24.mono hw2.size)).more (Nat.le_trans hw2.size hg2)
 have hvtop:2147483648≤dg v T:=top_digit hvN.1 (by rw[hvo.len];exact K5 HLT) (by rw[hvv];exact(K5 Hsh).1)
 have hVlo:pw T≤val v:=by have:=(K5 Hsh).1;omega
 have hVhi:val v<pw L:=by rw[K5 HLT,hvv];exact(K5 Hsh).2
 have hwg:w.heap.size≤g:=by have:=hbc.size;have:=hw1.size;have:=hw2.size;omega
 have hUd:O3 (u++ [0]):=huN.1.append (O3.one Zo)
 have hUv:val (u++ [0])=val u:=by rw[Dq,val_one];omega
 have hUl:(u++ [0]).length=un+1:=by rw[List.length_append,huo.len];rfl
 have hUt:dg (u++ [0]) un=0:=by rw[Uj (by rw[huo.len];exact Nat.le_refl _),huo.len,Nat.sub_self];rfl
 obtain⟨N,hN⟩:∃N,N=un+1-L:=⟨_,rfl⟩
 have l4:((un:Int)+1)- (L:Int)=(N:Int):=by omega
 have l5:N+T=un:=by have:=K5 HLT;omega
 have l6:1≤N:=by omega
 have HUs:=Le (And.intro hUv hUt)
 have HL5:=Le l5
 have HN:=Le hN
 have Hpw:=Le (And.intro hVlo hVhi)
 clear hUv hUt l5 hN hVlo hVhi
 clear hown4 hg4 k1 k2 k3 k4 hi0 hz0' hz1 hz2 hgB h24 hw2 huo hw1 hvo hbc Tbc Tac hcb
 have hmk:=fun W=>Oa W (N:Int) N rfl Zo
 go_loopw [11] (fun s wr=>s= .slice (some ⟨g,0,none⟩) (un+1) gc∧wr=w4) (fun _ _=>0)
 case atStart=>exact⟨rfl,rfl⟩
 case round=>
  obtain⟨rfl,rfl⟩:=hrel
  have l7:¬(un:Int)+1≤p:=by omega
  go_wp2_with fail
  obtain⟨w4,hw4⟩:∃w4:World,w4=wr:=⟨_,rfl⟩
  have hgw:=hU.lt
  clear l7 hgw
  have hM0:Mk (wr.alloc (.cells (zs N) 144)) wr.heap.size 144 (List.replicate N 0):=Mk.zero wr N
  have hU0:=hU.alloc (.cells (zs N) 144)
  have hv5:InB (wr.alloc (.cells (zs N) 144)) g VA L L v:=hv4.below ((Below.refl _ _).alloc (Nat.le_of_lt hU.lt) _)
  have hb5:Below w.heap.size w (wr.alloc (.cells (zs N) 144)):=hbase.alloc hbase.size _
  have hgq:g<wr.heap.size:=hU.lt
  have hs5:wr.heap.size+1=(wr.alloc (.cells (zs N) 144)).heap.size:=by simp
  obtain⟨gq,hgqe⟩:∃gq,gq=wr.heap.size:=⟨_,rfl⟩
  obtain⟨w5,hw5⟩:∃w5,w5=wr.alloc (.cells (zs N) 144):=⟨_,rfl⟩
  rw[←hw5]at hU0 hv5 hb5
  rw[←hw5,←hgqe]at hM0 hs5
  rw[←hgqe]at hgq
  rw[←hw5,←hgqe]
  have Hw5:=Le hw5
  have Hgq:=Le hgqe
  clear hw5 hgqe hw4 hU hv4 hbase hmk
  go_loopw [13] (fun sk wx=>∃(k:Nat) (y:Int) (U Q:List Nat),k≤N∧y+1=k∧sk= .int .i64 y∧U.length=un+1∧O3 U∧Q.length=N∧O3 Q∧
   Hid (val (Q.drop k)*pw k*val v+val U=val u∧val (U.drop k)<val v)∧As wx g 144 gc U∧Mk wx gq 144 Q∧Below g w5 wx) (fun sk _=>(intOf sk+1).toNat)
  case atStart=>
   refine⟨N,(N:Int)-1,u++ [0],List.replicate N 0,Nat.le_refl _,by omega,rfl,hUl,hUd,by simp,O3.replicate _,⟨?_,?_⟩,hU0,hM0,Below.refl _ _⟩
   ·rw[Tw Zs,(K5 HUs).1];omega
   ·have h1:=K5 HL5
    rw[Ef (i:=T) (fun j hj=> ?_)]
    ·exact Nat.lt_of_lt_of_le (Gy hUd _ _) (K5 Hpw).1
    ·rcases Nat.lt_or_ge un j with h|h
     ·exact Ua (by rw[hUl];omega)
     ·obtain rfl:j=un:=by omega
      exact(K5 HUs).2
  case round=>
   obtain⟨k,y,U,Q,hk,hy,rfl,hUl',hUd',hQl,hQd,hI,hUm,hQm,hbx⟩:=hrel
   have HUl:=Le hUl'
   have HQl:=Le hQl
   clear hUl' hQl
   by_cases hk0:k=0
   ·subst hk0
    obtain rfl:y= -1:=by omega
    clear hy
    have hqo:=hQm.own (B:=w.heap.size) hQd Zo (by rw[K5 HQl];unfold maxLen;omega)
    rw[K5 HQl]at hqo
    have hbw:Below w.heap.size w wr:=hb5.trans (hbx.mono hwg)
    have hui:In wr (some ⟨g,0,none⟩) (un+1) gc ((U.drop 0).take (un+1)):=hUm.part hUd' (by rw[K5 HUl];omega) hgn hgm
    rw[List.drop_zero,List.take_of_length_le (by rw[K5 HUl];exact Nat.le_refl _)]at hui
    go_wp2_with fail
    refine(Li _ hqo.toIn).mono ?_
    rintro e w' ⟨rfl,rfl⟩
    go_wp2_with fail
    refine(shift_c (-(t:Int)) _ hui Zo Zo Zo).mono ?_
    rintro e w6 ⟨A2,n2,l2',rfl,hn2,hv2,ho2,hw6⟩
    go_wp2_with fail
    go_ret3
    obtain⟨hI1,hI2⟩:=K5 hI
    rw[D7,Nat.mul_one,List.drop_zero,huv,hvv]at hI1
    rw[List.drop_zero,hvv]at hI2
    obtain⟨q1,q2⟩:=F5 hI1 hI2
    have hb0:val b≠0:=by
     intro h;rw[h]at hI2;omega
    refine⟨_,_,_,trim Q,A2,n2,n2,l2',?_,Lz hQd,?_,hn2,?_,hqo.trim.below hw6,ho2.base hbw.size,hbw.trans (hw6.mono hbw.size)⟩
    ·rw[A5 hb0];rfl
    ·rw[Kr,q1,Nat.mul_div_mul_right _ _ (Rs t)]
    ·rw[hv2,Vd hb0,shiftN_neg,q2,Nat.mul_mod_mul_right,Nat.mul_div_cancel _ (Rs t)]
   ·obtain⟨j,rfl⟩:∃j,k=j+1:=⟨k-1,by omega⟩
    obtain rfl:y=(j:Int):=by omega
    clear hy hk0
    have h1:=K5 HL5
    have h2:=K5 HLT
    have s1:(0:Int)≤j∧(j:Int)≤(j:Int)+L+1∧(j:Int)+L+1≤(gc:Int):=by omega
    have s2:¬gc=j:=by omega
    have s3:j+(L+1)≤un+1:=by omega
    clear h1 h2
    obtain⟨hI1,hI2⟩:=K5 hI
    have hz:∀i,j+(L+1)≤i→dg U i=0:=by
     intro i hi
     have h3:=G7 (l:=U.drop (j+1)) (Nat.lt_trans hI2 (K5 Hpw).2) (i- (j+1)) Zo
     rw[Pr,show j+1+(i- (j+1))=i by omega]at h3
     exact h3
    have hPv:pl U j (L+1)=val (U.drop j):=(Ef hz).symm
    have hPs:val (U.drop j)=dg U j+4294967296*val (U.drop (j+1)):=Qz (by rw[K5 HUl];omega)
    have hPin:In wr (some ⟨g,j,none⟩) (L+1) (gc-j) ((U.drop j).take (L+1)):=hUm.part hUd' (by rw[K5 HUl];omega) Zo Zo
    have hPlt:val ((U.drop j).take (L+1))<4294967296*val v:=by
     show pl U j (L+1)<_
     have:=hUd' j
     have:=(K5 Hpw).1
     have:=Yc T
     omega
    have HZ:=Le (And.intro hz (And.intro hI1 hI2))
    clear hz hI1 hI2 hPv hPs
    have hgs:=Nat.le_of_lt hUm.lt
    go_wp2_with fail
    rw[show j+L+1-j=L+1 by omega]
    refine(guess_L wr (K5 HLT) hT1 hPin ((hv5.below hbx).toIn hgs) hvtop hPlt).mono ?_
    rintro e wg ⟨q,rfl,hgok,⟨nq,rfl⟩⟩
    have hq32:=hgok.1
    have HG2:=Le hgok
    clear hgok
    go_wp2_with fail
    refine(take_c (wr.drewN nq) g j gc (gc-j) q U ((hv5.below hbx).below (P5 (Below.refl _ _) nq)) (hUm.drewN nq) hUd' (by rw[K5 HUl];omega) hq32 Zo Zo).mono ?_
    rintro e wt ⟨U',b',rfl,hUm',hUl2,hUd2,hbt,hag,hres⟩
    rw[K5 HUl]at hUl2
    have hQt:Mk wt gq 144 Q:=(hQm.drewN nq).grown hbt (fun e=>by injection e with e;omega)
    have hbt2:Below g w5 wt:=(P5 hbx nq).trans (Ye hbt hgs)
    have hQc:=hQt.cell (i:=j) (by rw[K5 HQl];omega)
    have hQf:=hQt.frozen j
    have Hag:=Le hag
    have HUl2:=Le hUl2
    clear hag hUl2 hbt hUm hQm hPin
    rcases hres with ⟨rfl,hres⟩|⟨rfl,hres⟩
    ·have HR:=Le hres
     clear hres
     go_wp2_with fail
     go_roundw
     case rel=>
      have hfin:=Gs (by rw[K5 HQl];omega) (K5 HZ).1 (fun i hi=>by rw[K5 Hag i (Or.inr Zo),(K5 HZ).1 i hi]) (fun i hi=>K5 Hag i (Or.inl hi)) (K5 HR) (K5 HZ).2.1 (div_exact (K5 HG2) (K5 HR))
      exact⟨j,(j:Int)-1,U',Q.set j q,by omega,by omega,rfl,K5 HUl2,hUd2,by rw[List.length_set];exact K5 HQl,hQd.set _ hq32,hfin,hUm'.far Zp _,hQt.set_ j q,hbt2.setCell Zp _⟩
     case measure=>simp[intOf]
    ·have hq1:1≤q:=by
      rcases Nat.eq_zero_or_pos q with e|e
      ·subst e
       have:=Gy hUd2 j (L+1)
       omega
      ·exact e
     have HR:=Le hres
     clear hres
     go_wp2_with fail
     obtain⟨wo,hwo⟩:∃wo:World,wo=wt:=⟨_,rfl⟩
     have hgt:=Nat.le_of_lt hUm'.lt
     go_loopw [16,105] (fun sc si wx=>∃(i c:Nat) (R:List Nat),i≤L∧si= .int .i64 i∧sc= .int .u64 c∧c≤1∧R.length=un+1∧O3 R∧Hid (∀s,(s<j∨j+i≤s)→dg R s=dg U' s)∧Hid (pl R j i+c*pw i=pl U' j i+lo v i)∧As wx g 144 gc R∧wt.grownBy wx (some g)) (fun _ si _=>L- (intOf si).toNat)
     case atStart=>exact⟨0,0,U',Nat.zero_le _,rfl,rfl,by omega,K5 HUl2,hUd2,fun _ _=>rfl,(show _=_ by rw[pl_zero,O0];omega),hUm',World.grownBy.refl _ _⟩
     case round=>
      obtain⟨i,c',R,hi,rfl,rfl,hc,hRl,hRd,hRag,hRI,hRm,hbR⟩:=hrel
      have HRl:=Le hRl
      clear hRl
      have hbR2:=Ye hbR hgt
      by_cases hlt:i<L
      ·obtain⟨vd,hV,hcv⟩:=((hv5.below hbt2).below hbR2).at_ (k:=i) hlt
       have hx1:=hvN.1 i
       have hx2:=hRd (j+i)
       have hcell:=hRm.cell (i:=j+i) (by rw[K5 HRl];omega)
       have hfz:=hRm.frozen (j+i)
       subst hV
       go_wp2_with fail
       have hst:=hRm.set_ (i:=j+i) (by rw[K5 HRl];omega) ((c'+(dg R (j+i)+dg v i))%4294967296)
       rw[show(((c'+(dg R (j+i)+dg v i))%4294967296:Nat):Int)=((c':Int)+((dg R (j+i):Int)+dg v i))%4294967296 by omega]at hst
       go_roundw
       case rel=>
        refine⟨i+1,(c'+(dg R (j+i)+dg v i))/4294967296,_,by omega,by go_num,by go_num,by omega,by rw[List.length_set];exact K5 HRl,hRd.set _ Zo,fun s hs=> ?_,?_,hst,U3 hbR (Or.inl rfl) _⟩
        ·rw[P4,if_neg Zo]
         exact K5 hRag s Zo
        ·exact back_step (by rw[K5 HRl];omega) (K5 hRag (j+i) Zo) (K5 hRI)
       case measure=>simp[intOf];omega
      ·obtain rfl:L=i:=by omega
       have hx2:=hRd (j+L)
       have hcell:=hRm.cell (i:=j+L) (by rw[K5 HRl];omega)
       have hfz:=hRm.frozen (j+L)
       have hQt2:=hQt.grown hbR (fun e=>by injection e with e;omega)
       have hQc2:=hQt2.cell (i:=j) (by rw[K5 HQl];omega)
       have hQf2:=hQt2.frozen j
       go_wp2_with fail
       have hst:=hRm.set_ (i:=j+L) (by rw[K5 HRl];omega) ((dg R (j+L)+c')%4294967296)
       rw[show(((dg R (j+L)+c')%4294967296:Nat):Int)=((dg R (j+L):Int)+(c':Int))%4294967296 by omega]at hst
       have hQ3:=(hQt2.far (p:=⟨g,j+L,none⟩) Zp (.int .u32 (((dg R (j+L):Int)+(c':Int))%4294967296))).set_ j (q-1)
       rw[show((q-1:Nat):Int)=(q:Int)-1 by omega]at hQ3
       have hV:lo v L=val v:=Mm (Nat.le_of_eq hv5.len)
       have hRI2:=K5 hRI
       have hbe:=back_end (P:=U') (by rw[K5 HRl];omega) (K5 hRag (j+L) Zo) hRI2
       rw[hV]at hbe
       obtain⟨z2,hz2⟩:=hbe
       have hd2:O3 (R.set (j+L) ((dg R (j+L)+c')%4294967296)):=hRd.set _ (Nat.mod_lt _ Zo)
       obtain⟨_,hb1,hb2⟩:=div_back (K5 HG2) (Gy hUd2 j (L+1)) (Gy hUd' j (L+1)) (Gy hd2 j (L+1)) (K5 HR) hz2
       go_roundw
       case rel=>
        have hfin:=Gs (by rw[K5 HQl];omega) (K5 HZ).1 (fun i hi=>by rw[P4,if_neg Zo,K5 hRag i (Or.inr Zo),K5 Hag i (Or.inr Zo),(K5 HZ).1 i hi]) (fun i hi=>by rw[P4,if_neg Zo,K5 hRag i (Or.inl hi),K5 Hag i (Or.inl hi)]) hb2 (K5 HZ).2.1 hb1
        exact⟨j,(j:Int)-1,_,Q.set j (q-1),by omega,by omega,rfl,by rw[List.length_set];exact K5 HRl,hd2,by rw[List.length_set];exact K5 HQl,hQd.set _ Zo,hfin,hst.far Zp _,hQ3,((hbt2.trans hbR2).setCell (Nat.le_refl _) _).setCell Zp _⟩
       case measure=>simp[intOf]
theorem F4{A B:Option Addr}{n c m d:Nat}{a b:List Nat}(w:World)(ha:In w A n c a)(hb:In w B m d b)(hn:n≤274877906944)(hm:m≤274877906944):
 Calls Tryz.prog 172 #[.slice A n c,.slice B m d] w (Ap w (val a) (val b)):=by
 by_cases h0:tlen b m=0
 ·exact dm_zero w ha hb h0
 by_cases hlt:val a<val b
 ·exact dm_less w ha hb Zo h0 hlt
 by_cases h1:tlen b m=1
 ·exact dm_one w ha hb Zo h1 Zo
 exact dm_long (tlen b m) (tlen b m-1) w ha hb hn hm rfl Zo Zo Zo
theorem bitsN_zero{v:Nat}:bitsN v=0↔v=0:=by
 unfold bitsN;split<;>omega
theorem len32_c(x:Nat)(h:x<4294967296)(w:World):
 Calls Tryz.prog 299 #[.int .u32 x] w fun e w'=>e= .returned (.int .i64 ((Lib.bitLen x:Nat):Int))∧w=w':=
 (Tryz.bits_Len32 x w Zo Zo).mono fun _ _ ⟨h1,h2⟩=>by
  rw[Int.toNat_natCast]at h1
  exact⟨h1,h2.symm⟩
theorem bitLen_c{A:Option Addr}{n c:Nat}{a:List Nat}(w:World)(ha:In w A n c a)(hn:n≤274877906944):
 Calls Tryz.prog 245 #[.slice A n c] w fun e w'=>e= .returned (.int .i64 (bitsN (val a):Nat))∧w=w':=by
 have hta:=Mz a n
 have Ta:=ha.trim
 have na:=Lz ha.dig
 have va:Hid (val (trim a)=val a):=Kr a
 obtain⟨p,hp⟩:∃p,p=tlen a n:=⟨_,rfl⟩
 rw[←hp]at Ta hta
 have HP:=Le hp
 clear hp
 have Ha:=Le ha
 clear ha
 by_cases h0:p=0
 ·subst h0
  go_enter Tryz.func245,Tryz.ntmps245
  go_wp2_with fail
  refine(Li w (K5 Ha)).mono ?_
  rintro e w' ⟨rfl,rfl⟩
  rw[←K5 HP]
  go_wp2_with fail
  go_ret
  refine⟨?_,rfl⟩
  have:val a=0:=by rw[←K5 va,List.length_eq_zero_iff.1 Ta.len];rfl
  rw[this];rfl
 ·obtain⟨t,ht⟩:∃t,p=t+1:=⟨p-1,by omega⟩
  have hx:=Ta.dig t
  obtain⟨ad,hA,hc⟩:=Ta.at_ (k:=t) Zo
  have hnz:dg (trim a) t≠0:=by
   rcases na.2 with h|h
   ·have:=Ta.len;rw[h]at this;simp only[List.length_nil]at this;omega
   ·rw[Ta.len,ht]at h;exact h
  have htb:=top_bits Ta.dig (by rw[Ta.len];exact ht) hnz
  rw[K5 va]at htb
  have hbl:=Cj hx
  have l0:((p:Int)==0)=false:=by simp;omega
  have l1:(p:Int)-1=(t:Int):=by omega
  have l2:t<p:=by omega
  have HTB:=Le htb
  clear htb ht hnz h0
  subst hA
  go_enter Tryz.func245,Tryz.ntmps245
  go_wp2_with fail
  refine(Li w (K5 Ha)).mono ?_
  rintro e w' ⟨rfl,rfl⟩
  rw[←K5 HP]
  go_wp2_with fail
  refine(len32_c _ hx w).mono ?_
  rintro e w' ⟨rfl,rfl⟩
  go_wp2_with fail
  go_ret
  refine⟨?_,rfl⟩
  rw[K5 HTB]
  exact congrArg (fun x=>Ending.returned (Value.int .i64 x)) Zo
theorem gcd_c{A B:Option Addr}{n c m d:Nat}{a b:List Nat}(w:World)(ha:In w A n c a)(hb:In w B m d b)(hn:n≤274877906944)(hm:m≤274877906944):
 Calls Tryz.prog 175 #[.slice A n c,.slice B m d] w (Cx w (Nat.gcd (val a) (val b))):=by
 have hla:=Uz a
 have hlb:=Uz b
 rw[ha.len]at hla
 rw[hb.len]at hlb
 have na:=Lz ha.dig
 have nb:=Lz hb.dig
 have va:Hid (val (trim a)=val a):=Kr a
 have vb:Hid (val (trim b)=val b):=Kr b
 go_enter Tryz.func175,Tryz.ntmps175
 go_wp2_with fail
 refine(Sk w ha Zo).mono ?_
 rintro e w1 ⟨A1,n1,c1,rfl,ho1,hw1⟩
 go_wp2_with fail
 refine(Sk w1 (hb.below hw1) Zo).mono ?_
 rintro e w2 ⟨A2,n2,c2,rfl,ho2,hw2⟩
 go_wp2_with fail
 have hn1:=ho1.len
 have hn2:=ho2.len
 go_loopg [0,1] (val b) (fun gk sa sb wx=>∃(X Y:Option Addr) (p r q s:Nat) (x y:List Nat),sa= .slice X p r∧sb= .slice Y q s∧Hid (val y=gk)∧Sr wx w.heap.size X p r x∧Sr wx w.heap.size Y q s y∧Pp x∧Pp y∧p≤274877906944∧q≤274877906944∧
  Hid (Nat.gcd (val x) (val y)=Nat.gcd (val a) (val b))∧Below w.heap.size w wx)
 case atStart=>
  exact⟨A1,A2,n1,c1,n2,c2,trim a,trim b,rfl,rfl,Kr b,ho1.below hw2,ho2.base hw1.size,na,nb,by omega,by omega,(by show _=_;rw[Kr,Kr]),hw1.trans (hw2.mono hw1.size)⟩
 case round=>
  obtain⟨X,Y,p,r,q,s,x,y,rfl,rfl,hk,hox,hoy,nx,ny,hp,hq,hg,hbx⟩:=hrel
  have hqi:=hoy.toIn.lenI
  by_cases h0:q=0
  ·have hy0:y=[]:=List.length_eq_zero_iff.1 (by rw[hoy.len];exact h0)
   have hg':Hid (val x=Nat.gcd (val a) (val b)):=by
    have:=K5 hg
    rw[hy0,I6,Nat.gcd_zero_right]at this
    exact this
   subst h0
   clear hy0
   go_wp2_with fail
   go_ret
   exact⟨X,p,r,x,rfl,nx,K5 hg',hox,hbx⟩
  ·have hy0:val y≠0:=by
    intro h
    have h1:=ny.zero h
    have h2:=hoy.len
    rw[h1]at h2
    simp only[List.length_nil]at h2
    omega
   have hqp:0<q:=by omega
   clear h0
   go_wp2_with fail
   refine(F4 wr hox.toIn hoy.toIn hp hq).mono ?_
   rintro e w3 ⟨A3,n3,c3,l3,A4,n4,c4,l4,rfl,hN3,hv3,hN4,hv4,ho3,ho4,hw3⟩
   rw[Vd hy0]at hv4
   have hlt4:val l4<val y:=by rw[hv4];exact Nat.mod_lt _ Zo
   have hn4:n4≤274877906944:=by
    have h1:=hN4.length_le (Nat.lt_trans hlt4 (I7 hoy.dig))
    have:=ho4.len;have:=hoy.len
    omega
   have F:=Le (And.intro hv3 (And.intro hv4 (And.intro hlt4 hy0)))
   clear hv3 hv4 hlt4 hy0
   go_wp2_with fail
   go_roundg (val l4)
   case measure=>have:=K5 hk;have:=(K5 F).2.2.1;omega
   case rel=>
    refine⟨Y,A4,q,s,n4,c4,y,l4,rfl,rfl,rfl,hoy.below hw3,ho4.base hbx.size,ny,hN4,hq,hn4,?_,hbx.trans (hw3.mono hbx.size)⟩
    show _=_
    rw[(K5 F).2.1,←K5 hg,Nat.gcd_comm (val x),Nat.gcd_rec (val y) (val x),Nat.gcd_comm]
end Go.Proofs.YtpgkbllcnphmbaaGreatDoor
