/-
 Functions of the package natural.
-/
import Derived.Test.YtoeiphicmcndlaaGreatDoorAWe
import Derived.Test.YtoeiphicmcndlaaGreatDoorANumC
namespace Go.Proofs.YtoeiphicmcndlaaGreatDoor
set_option maxRecDepth 100000
set_option maxHeartbeats 8000000
set_option linter.unusedVariables false
set_option linter.unusedSimpArgs false
open Go.RowKit
theorem guess_new{q r x top U V:Nat}(hq:1≤q)(h:q*x+r=top)(hd:U<q*V):(q-1)*x+(r+x)=top∧U<(q-1+1)*V:=by
 obtain⟨m,rfl⟩:∃m,q=m+1:=⟨q-1,by omega⟩
 rw[Nat.add_sub_cancel]
 rw[Nat.add_mul]at h
 exact⟨by omega,hd⟩
theorem guess_c{UA VA:Option Addr}{m uc vc:Nat}{u v:List Nat}(w:World)(hU:In w UA (m+3) uc u)(hV:In w VA (m+2) vc v)(hv1:2147483648≤dg v (m+1))(hUV:val u<4294967296*val v):
 Calls Tryz.prog 278 #[.slice UA (m+3) uc,.slice VA (m+2) vc] w fun e w'=>∃q:Nat,e= .returned (.int .u64 q)∧Zy (val u) (val v) q∧Qd w w':=by
 have hn:=hU.lenI
 obtain⟨ad,hA,c0⟩:=hU.at_ (k:=m+2) Zo
 obtain⟨ad1,hA1,c1⟩:=hU.at_ (k:=m+1) Zo
 obtain⟨ad2,hA2,c2⟩:=hU.at_ (k:=m) Zo
 obtain rfl:ad=ad1:=by rw[hA]at hA1;injection hA1
 obtain rfl:ad=ad2:=by rw[hA]at hA2;injection hA2
 clear hA1 hA2
 obtain⟨bd,hB,d1⟩:=hV.at_ (k:=m+1) Zo
 obtain⟨bd1,hB1,d2⟩:=hV.at_ (k:=m) Zo
 obtain rfl:bd=bd1:=by rw[hB]at hB1;injection hB1
 clear hB1
 have x0:=hU.dig (m+2)
 have x1:=hU.dig (m+1)
 have x2:=hU.dig m
 have y1:=hV.dig (m+1)
 have y2:=hV.dig m
 have eU:val u=((dg u (m+2)*4294967296+dg u (m+1))*4294967296+dg u m)*pw m+pl u 0 m:=by
  have:=three_lists (l:=u) (k:=0) (n:=m)
  rw[Nat.zero_add,Nat.zero_add,Nat.zero_add]at this
  rw[←this,pl,List.drop_zero,M6 (by rw[hU.len];exact Nat.le_refl _)]
 have eV:val v=(dg v (m+1)*4294967296+dg v m)*pw m+lo v m:=by
  rw[←two_lists,M6 (by rw[hV.len];exact Nat.le_refl _)]
 have hru:=pl_lt hU.dig 0 m
 have hrv:=Fj hV.dig m
 obtain⟨top,htop⟩:∃top,top=dg u (m+2)*4294967296+dg u (m+1):=⟨_,rfl⟩
 have hor:bits .or .u64 ((dg u (m+2):Int)*4294967296) (dg u (m+1):Int)=(top:Int):=by rw[htop];exact Ji x0 x1
 rw[←htop]at eU
 obtain⟨g1,g2,g3,g4⟩:=guess_init eU eV hru hrv x2 y2 hv1 hUV
 have ht64:(top:Int)≤18446744073709551615:=by omega
 have F:=Km (And.intro eU (And.intro eV (And.intro hru (And.intro hrv (And.intro hUV (And.intro g1 (And.intro g2 (And.intro g3 (And.intro g4 htop)))))))))
 clear eU eV hru hrv hUV g1 g2 g3 g4 htop
 subst hA
 subst hB
 obtain⟨n,hn2⟩:∃n,n=m+2:=⟨_,rfl⟩
 obtain⟨k,hk⟩:∃k,k=m+1:=⟨_,rfl⟩
 rw[show m+3=n+1 by omega,←hn2]
 rw[←hn2]at c0 hor
 rw[←hk]at c1 d1 y1 hor hv1
 have b1:(m:Int)<n:=by omega
 have b2:(k:Int)<n:=by omega
 have b3:(n:Int)<9223372036854775807:=by omega
 have b4:(n:Int)<(n:Int)+1:=by omega
 have b5:(m:Int)<(n:Int)+1:=by omega
 have b6:(k:Int)<(n:Int)+1:=by omega
 have e1:IntKind.i64.wrap ((n:Int)-1)=k:=by rw[IntWalk.i64_in _ Zo];omega
 have e2:IntKind.i64.wrap ((n:Int)-2)=m:=by rw[IntWalk.i64_in _ Zo];omega
 obtain⟨q0,hq0⟩:∃q,q=top/dg v k:=⟨_,rfl⟩
 obtain⟨r0,hr0⟩:∃r,r=top%dg v k:=⟨_,rfl⟩
 have hr0b:r0<dg v k:=by rw[hr0];exact Nat.mod_lt _ Zo
 have hq0b:q0≤4294967297:=by rw[hq0,hk];exact(K3 F).2.2.2.2.2.2.2.2.1
 have f1:IntKind.u64.wrap (dg u n:Int)=(dg u n:Int):=by rw[L6,hn2];omega
 have f2:IntKind.u64.wrap ((dg u n:Int)*4294967296)=(dg u n:Int)*4294967296:=by rw[L6,hn2];omega
 have f3:IntKind.u64.wrap (dg u k:Int)=(dg u k:Int):=by rw[L6,hk];omega
 have f4:(top:Int).tdiv (dg v k:Int)=(q0:Int):=by rw[Int.tdiv_eq_ediv_of_nonneg Zo,hq0,Int.natCast_ediv]
 have f5:IntKind.u64.wrap (q0:Int)=(q0:Int):=by rw[L6];omega
 have f6:(top:Int).tmod (dg v k:Int)=(r0:Int):=by rw[Int.tmod_eq_emod_of_nonneg Zo,hr0,Int.natCast_emod]
 have f7:IntKind.u64.wrap (dg v k:Int)=(dg v k:Int):=by rw[L6];omega
 have F2:=Km (And.intro hn2 (And.intro hk (And.intro hq0 hr0)))
 clear hn2 hk hq0 hr0
 clear hU hV hn
 go_enter Tryz.func278,Tryz.ntmps278
 go_wp2_with fail
 go_quiet (fail)
 go_wp2_with fail
 go_quiet (fail)
 go_wp2_with fail
 clear f1 f2 f3 f4 f5 f6 hor
 have hdec:Hid (∀q r:Nat,q*dg v k+r=top→(4294967296≤q∨r*4294967296+dg u m<q*dg v m)→val u<q*val v):=by
  intro q r h1 h2
  obtain⟨_,hk,_,_⟩:=K3 F2
  obtain⟨eU,eV,hru,hrv,hUV,g1,g2,g3,g4,htop⟩:=K3 F
  rw[hk]at h1
  exact guess_dec eU eV hru hUV h1 h2
 have hend:Hid (∀q r:Nat,q*dg v k+r=top→val u<(q+1)*val v→q<4294967296→q*dg v m≤r*4294967296+dg u m→Zy (val u) (val v) q):=by
  intro q r h1 h2 h3 h4
  obtain⟨_,hk,_,_⟩:=K3 F2
  obtain⟨eU,eV,hru,hrv,hUV,g1,g2,g3,g4,htop⟩:=K3 F
  rw[hk]at h1 hv1
  exact⟨h3,h2,guess_end eU eV hrv Zo h1 h3 h4⟩
 have hbrk:Hid (∀q r:Nat,q*dg v k+r=top→val u<(q+1)*val v→4294967296≤r→Zy (val u) (val v) q):=by
  intro q r h1 h2 h3
  have h4:q<4294967296:=by
   obtain⟨_,hk,_,_⟩:=K3 F2
   obtain⟨eU,eV,hru,hrv,hUV,g1,g2,g3,g4,htop⟩:=K3 F
   rw[hk]at h1
   rcases Nat.lt_or_ge q 4294967296 with h|h
   ·exact h
   ·have:4294967296*dg v (m+1)≤q*dg v (m+1):=Nat.mul_le_mul_right _ h
    omega
  refine(K3 hend) q r h1 h2 h4 ?_
  have:=Yk h4 y2
  omega
 go_loopw [7,8] (fun sq sr wr=>∃q r:Nat,sq= .int .u64 q∧sr= .int .u64 r∧q≤4294967297∧r<4294967296∧Hid (q*dg v k+r=top∧val u<(q+1)*val v)∧Qd w wr) (fun sq _ _=>(intOf sq).toNat)
 case atStart=>
  obtain⟨_,hk,hq0,hr0⟩:=K3 F2
  obtain⟨eU,eV,hru,hrv,hUV,g1,g2,g3,g4,htop⟩:=K3 F
  exact⟨q0,r0,rfl,rfl,hq0b,by omega,(by rw[hq0,hr0,hk];exact⟨g2,g1⟩),(Qd.of _ _).drewN _⟩
 case round=>
  obtain⟨q,r,rfl,rfl,hq,hr,hI,⟨z,rfl⟩⟩:=hrel
  by_cases hbig:4294967296≤q
  ·have hdown:=(K3 hdec) q r (K3 hI).1 (Or.inl hbig)
   have hq1:1≤q:=by omega
   have hnew:Hid ((q-1)*dg v k+(r+dg v k)=top∧val u<(q-1+1)*val v):=guess_new hq1 (K3 hI).1 hdown
   have Hdown:=Km hdown
   clear hdown
   have g0:((q:Int)/4294967296 !=0)=true:=by rw[bne_iff_ne];omega
   by_cases hbr:r+dg v k<4294967296
   ·have g1:(((r:Int)+(dg v k:Int))/4294967296 !=0)=false:=by simp;omega
    go_wp2_with fail
    go_quiet (fail)
    go_wp2_with fail
    go_roundw
    case rel=>exact⟨q-1,r+dg v k,congrArg (Value.int .u64) Zo,congrArg (Value.int .u64) Zo,by omega,hbr,hnew,Qd.of _ _⟩
    case measure=>simp[intOf];omega
   ·have g1:(((r:Int)+(dg v k:Int))/4294967296 !=0)=true:=by rw[bne_iff_ne];omega
    go_wp2_with fail
    go_quiet (fail)
    go_wp2_with fail
    go_ret
    exact⟨q-1,congrArg (fun x=>Ending.returned (Value.int .u64 x)) Zo,(K3 hbrk) _ _ (K3 hnew).1 (K3 hnew).2 Zo,Qd.of _ _⟩
  ·have g0:((q:Int)/4294967296 !=0)=false:=by simp;omega
   obtain⟨X,hX⟩:∃X,X=q*dg v m:=⟨_,rfl⟩
   obtain⟨Y,hY⟩:∃Y,Y=r*4294967296+dg u m:=⟨_,rfl⟩
   have hXb:=Yk (show q<4294967296 by omega) y2
   have h1:IntKind.u64.wrap ((q:Int)*(dg v m:Int))=(X:Int):=by
    rw[hX,Int.natCast_mul,L6,←Int.natCast_mul];omega
   have h2:IntKind.u64.wrap ((r:Int)*4294967296)=(r:Int)*4294967296:=by rw[L6];omega
   have h3:bits .or .u64 ((r:Int)*4294967296) (dg u m:Int)=(Y:Int):=by rw[hY];exact Ji hr x2
   have h4:IntKind.u64.wrap (dg v m:Int)=(dg v m:Int):=by rw[L6];omega
   have h5:IntKind.u64.wrap (dg u m:Int)=(dg u m:Int):=by rw[L6];omega
   have HX:=Km (And.intro hX hY)
   by_cases hcmp:Y<X
   ·have hdown:=(K3 hdec) q r (K3 hI).1 (Or.inr (by rw[←hX,←hY];exact hcmp))
    have hq1:1≤q:=by
     rcases Nat.eq_zero_or_pos q with e|e
     ·subst e;omega
     ·exact e
    clear hX hY hXb
    have hnew:Hid ((q-1)*dg v k+(r+dg v k)=top∧val u<(q-1+1)*val v):=guess_new hq1 (K3 hI).1 hdown
    have Hdown:=Km hdown
    clear hdown
    by_cases hbr:r+dg v k<4294967296
    ·have g1:(((r:Int)+(dg v k:Int))/4294967296 !=0)=false:=by simp;omega
     go_wp2_with fail
     go_quiet (fail)
     go_wp2_with fail
     go_roundw
     case rel=>exact⟨q-1,r+dg v k,congrArg (Value.int .u64) Zo,congrArg (Value.int .u64) Zo,by omega,hbr,hnew,Qd.of _ _⟩
     case measure=>simp[intOf];omega
    ·have g1:(((r:Int)+(dg v k:Int))/4294967296 !=0)=true:=by rw[bne_iff_ne];omega
     go_wp2_with fail
     go_quiet (fail)
     go_wp2_with fail
     go_ret
     exact⟨q-1,congrArg (fun x=>Ending.returned (Value.int .u64 x)) Zo,(K3 hbrk) _ _ (K3 hnew).1 (K3 hnew).2 Zo,Qd.of _ _⟩
   ·have hfin:Hid (Zy (val u) (val v) q):=(K3 hend) q r (K3 hI).1 (K3 hI).2 Zo (by rw[←hX,←hY];omega)
    clear hX hY hXb
    go_wp2_with fail
    go_quiet (fail)
    go_wp2_with fail
    go_ret
    exact⟨q,rfl,K3 hfin,(Qd.of _ _).drewN _⟩
def Gb(w:World)(g t cap:Nat)(l:List Nat):Prop:=
 ∃cur,w.heap[g]? =some (.cells cur t (0,0))∧cur.size=cap∧l.length≤cap∧cur.toList.take l.length=Of l
section
variable{w w':World}{g t cap:Nat}{l:List Nat}
theorem Gb.cell(h:Gb w g t cap l){i:Nat}(hi:i<l.length):w.cell? ⟨g,i,none⟩=some (.int .u32 (dg l i:Int)):=by
 obtain⟨cur,hg,hs,hl,ht⟩:=h
 rw[cell_of_row w g i cur t (0,0) hg,←Y5 hi,←ht,List.getElem?_take,if_pos hi]
 simp
theorem Gb.frozen(h:Gb w g t cap l)(i:Nat):w.frozen? ⟨g,i,none⟩=false:=by
 obtain⟨cur,hg,_⟩:=h
 simp[World.frozen?,hg]
theorem Gb.set_(h:Gb w g t cap l){i:Nat}(hi:i<l.length)(d:Nat):Gb (w.setCell ⟨g,i,none⟩ (.int .u32 (d:Int))) g t cap (l.set i d):=by
 obtain⟨cur,hg,hs,hl,ht⟩:=h
 refine⟨cur.setIfInBounds i (.int .u32 (d:Int)),by simp[World.setCell,Array.getElem?_modify,hg],by simpa using hs,by simpa using hl,?_⟩
 rw[List.length_set,←u32s_set,←ht,Array.toList_setIfInBounds,List.take_set]
theorem Gb.lt(h:Gb w g t cap l):g<w.heap.size:=by
 obtain⟨cur,hg,_⟩:=h
 exact(Array.getElem?_eq_some_iff.1 hg).1
theorem Gb.drewN(h:Gb w g t cap l)(q:Nat):Gb (w.drewN q) g t cap l:=h
theorem Gb.far(h:Gb w g t cap l){p:Addr}(hp:g≠p.block)(u:Value):Gb (w.setCell p u) g t cap l:=by
 obtain⟨cur,hh,r⟩:=h
 exact⟨cur,(Below.heap_setCell w p u g hp).trans hh,r⟩
theorem Gb.alloc(h:Gb w g t cap l)(o:Obj):Gb (w.alloc o) g t cap l:=by
 obtain⟨cur,hh,r⟩:=h
 exact⟨cur,(Below.heap_alloc w o g (Array.getElem?_eq_some_iff.1 hh).1).trans hh,r⟩
theorem Gb.of_row{B n:Nat}{v:Value}(h:w.ownsRow B t 1 v n (Of l))(hl:l.length=n)(h0:0<n):∃g c,v= .slice (some ⟨g,0,none⟩) n c∧B≤g∧n≤c∧c≤maxLen∧Gb w g t c l:=by
 rcases h.2 with ⟨_,h1⟩|⟨g,c,cur,hv,hg,hh,hn,hc,hs,ht⟩
 ·omega
 ·exact⟨g,c,hv,hg,hn,hc,cur,hh,by omega,by omega,by rw[hl,←ht,Nat.mul_one]⟩
theorem add_off(g k j:Nat):(⟨g,k,none⟩:Addr).add j=⟨g,k+j,none⟩:=by
 unfold Addr.add;split<;>simp_all
theorem Gb.part(h:Gb w g t cap l)(hd:N8 l){k n c:Nat}(hk:k+n≤l.length)(hc:n≤c)(hm:c≤maxLen):In w (some ⟨g,k,none⟩) n c ((l.drop k).take n):=by
 refine⟨(hd.drop k).take n,by rw[List.length_take,List.length_drop];omega,hc,hm,⟨by rw[Pj,List.length_take,List.length_drop];omega,fun _=>⟨_,rfl,h.lt,fun j u hu=> ?_⟩⟩⟩
 have hj:j<n:=by
  have:=(List.getElem?_eq_some_iff.1 hu).1
  rw[Pj,List.length_take,List.length_drop]at this;omega
 rw[Y5 (by rw[List.length_take,List.length_drop];omega)]at hu
 rw[add_off,h.cell Zo,←hu,dg_take hj,Qq]
end
structure InB(w:World)(B:Nat)(A:Option Addr)(n c:Nat)(l:List Nat):Prop where
 dig:N8 l
 len:l.length=n
 le:n≤c
 cap:c≤maxLen
 rd:Oj w B 1 A n (Of l)
theorem In.toB{w:World}{A:Option Addr}{n c:Nat}{l:List Nat}(h:In w A n c l):InB w w.heap.size A n c l:=⟨h.dig,h.len,h.le,h.cap,h.rd⟩
theorem InB.toIn{w:World}{B:Nat}{A:Option Addr}{n c:Nat}{l:List Nat}(h:InB w B A n c l)(hB:B≤w.heap.size):In w A n c l:=⟨h.dig,h.len,h.le,h.cap,h.rd.more hB⟩
theorem InB.below{w w':World}{B:Nat}{A:Option Addr}{n c:Nat}{l:List Nat}(h:InB w B A n c l)(hb:Below B w w'):InB w' B A n c l:=⟨h.dig,h.len,h.le,h.cap,h.rd.below hb⟩
theorem InB.more{w:World}{B B':Nat}{A:Option Addr}{n c:Nat}{l:List Nat}(h:InB w B A n c l)(hB:B≤B'):InB w B' A n c l:=⟨h.dig,h.len,h.le,h.cap,h.rd.more hB⟩
theorem InB.at_{w:World}{B:Nat}{A:Option Addr}{n c:Nat}{l:List Nat}(h:InB w B A n c l){k:Nat}(hk:k<n):∃ad,A=some ad∧w.cell? (ad.add k)=some (.int .u32 (dg l k:Int)):=by
 obtain⟨ad,u,hA,_,hu,hc⟩:=h.rd.at_ hk
 rw[Y5 (by rw[h.len];exact hk)]at hu
 injection hu with hu
 subst hu
 exact⟨ad,hA,hc⟩
theorem only_drewN{a w:World}{row:Option Nat}(h:a.grownBy w row)(n:Nat):a.grownBy (w.drewN n) row:=⟨h.os,h.tape,h.output,h.size,h.block⟩
theorem Sk{a w:World}{g:Nat}(h:a.grownBy w (some g)){p:Addr}(hp:p.block=g∨a.heap.size≤p.block)(u:Value):a.grownBy (w.setCell p u) (some g):=
 ⟨h.os,h.tape,h.output,by simpa[World.setCell]using h.size,fun i hi hne=>(Below.heap_setCell w p u i (by
  rintro rfl
  rcases hp with hp|hp
  ·exact hne (by rw[hp])
  ·omega)).trans (h.block i hi hne)⟩
theorem E9{a w:World}{g:Nat}(h:a.grownBy w (some g))(hg:g≤a.heap.size):Below g a w:=
 ⟨h.os,h.tape,h.output,h.size,fun k hk=>h.block k Zo (fun e=>by injection e with e;omega)⟩
theorem Mk.grown{w w':World}{g t:Nat}{l:List Nat}{row:Option Nat}(h:Mk w g t l)(hg:w.grownBy w' row)(hne:some g≠row):Mk w' g t l:=Ah.grown h hg hne
theorem Mk.drewN{w:World}{g t:Nat}{l:List Nat}(h:Mk w g t l)(q:Nat):Mk (w.drewN q) g t l:=h
def TakePost(w:World)(g k n cap q V:Nat)(U:List Nat)(e:Ending)(w':World):Prop:=
 ∃(U':List Nat) (b:Bool),e= .returned (.bool b)∧Gb w' g 175 cap U'∧U'.length=U.length∧N8 U'∧w.grownBy w' (some g)∧(∀j,(j<k∨k+n<j)→dg U' j=dg U j)∧
  ((b=false∧pl U' k (n+1)+q*V=pl U k (n+1))∨(b=true∧pl U' k (n+1)+q*V=pl U k (n+1)+pw (n+1)))
theorem sub_wrap{x m y:Nat}(hx:x<4294967296)(hm:m<4294967296)(hy:y≤1):
 ∃d y':Nat,d<4294967296∧y'≤1∧d+m+y=x+y'*4294967296∧IntKind.u64.wrap (IntKind.u64.wrap ((x:Int)- (m:Int))- (y:Int))%4294967296=(d:Int)∧
  IntKind.u64.wrap (IntKind.u64.wrap ((x:Int)- (m:Int))- (y:Int))/9223372036854775808=(y':Int):=by
 rw[L6,L6]
 by_cases h:m+y≤x
 ·exact⟨x-m-y,0,by omega,by omega,by omega,by omega,by omega⟩
 ·exact⟨x+4294967296-m-y,1,by omega,by omega,by omega,by omega,by omega⟩
theorem and_low{s:Nat}(h:s≤18446744069414584320):bits .and .u64 (s:Int) 4294967295=((s%4294967296:Nat):Int):=by
 rw[show(4294967295:Int)=((4294967295:Nat):Int) by rfl,u64_and_nat _ _ Zo Zo,show 4294967295=2 ^ 32-1 by decide,Nat.and_two_pow_sub_one_eq_mod]
theorem take_c{VA:Option Addr}{n vc:Nat}{v:List Nat}(w:World)(g k cap pc q:Nat)(U:List Nat)(hv:InB w g VA n vc v)
 (hM:Gb w g 175 cap U) (hUd:N8 U) (hk:k+n+1≤U.length) (hq:q<4294967296) (hn:n≤1099511627776) (hk2:k≤1099511627776):
 Calls Tryz.prog 279 #[.slice (some ⟨g,k,none⟩) (n+1) pc,.slice VA n vc,.int .u64 q] w (TakePost w g k n cap q (val v) U):=by
 have hgs:=Nat.le_of_lt hM.lt
 have Hv:=Km hv
 have Hl:=Km hv.len
 clear hv
 go_enter Tryz.func279,Tryz.ntmps279
 go_wp2_with fail
 go_loopw [7,8,15] (fun sc sy si wr=>∃(i c y:Nat) (P:List Nat),i≤n∧si=Zi i∧sc= .int .u64 c∧sy= .int .u64 y∧c<4294967296∧y≤1∧P.length=U.length∧N8 P∧Hid (∀j,(j<k∨k+i≤j)→dg P j=dg U j)∧Hid (pl P k i+q*lo v i=pl U k i+(y+c)*pw i)∧Gb wr g 175 cap P∧w.grownBy wr (some g)) (fun _ _ si _=>n- (intOf si).toNat)
 case atStart=>exact⟨0,0,0,U,Nat.zero_le _,rfl,rfl,rfl,by omega,by omega,rfl,hUd,fun _ _=>rfl,(show _=_ by rw[pl_zero,N4];simp),hM,World.grownBy.refl _ _⟩
 case round=>
  obtain⟨i,c,y,P,hi,rfl,rfl,rfl,hc,hy,hPl,hPd,hag,hI,hMr,hbr⟩:=hrel
  have HPl:=Km hPl
  clear hPl
  clear hM
  by_cases hlt:i<n
  ·obtain⟨ad,hA,hca⟩:=((K3 Hv).below (E9 hbr hgs)).at_ (k:=i) hlt
   have hx:=(K3 Hv).dig i
   have hP:=hPd (k+i)
   have hcell:=hMr.cell (i:=k+i) (by rw[K3 HPl];omega)
   have hfz:=hMr.frozen (k+i)
   obtain⟨s,hs⟩:∃s,s=c+q*dg v i:=⟨_,rfl⟩
   have hsb:s≤18446744069414584320:=by have:=Yk hq hx;omega
   have hxy:=Gy hq hx
   have hsi:(c:Int)+(q:Int)*(dg v i:Int)=(s:Int):=by rw[hs,Int.natCast_add,Int.natCast_mul]
   have hand:bits .and .u64 (s:Int) 4294967295=((s%4294967296:Nat):Int):=and_low hsb
   have HS:=Km hs
   clear hs
   subst hA
   go_wp2
   obtain⟨d,y',hd1,hd2,hd3,hd4,hd5⟩:=sub_wrap hP (Nat.mod_lt s (show 0<4294967296 by omega)) hy
   rw[show((s%4294967296:Nat):Int)=(s:Int)%4294967296 by omega]at hd4 hd5
   rw[hd4,hd5]
   have hst:=hMr.set_ (i:=k+i) (by rw[K3 HPl];omega) d
   go_roundw
   case rel=>
    refine⟨i+1,s/4294967296,y',_,by omega,by go_num,congrArg (Value.int .u64) Zo,rfl,by omega,hd2,by rw[List.length_set];exact K3 HPl,hPd.set _ hd1,fun j hj=> ?_,?_,hst,Sk hbr (Or.inl rfl) _⟩
    ·rw[Q8,if_neg Zo]
     exact K3 hag j Zo
    ·show _=_
     have:=take_step (by rw[K3 HPl];omega) (K3 hag (k+i) Zo) (K3 hI) (by rw[←K3 HS];exact hd3)
     rw[←K3 HS]at this
     exact this
   case measure=>simp[intOf];omega
  ·have hi':i=n:=by omega
   subst hi'
   have hP:=hPd (k+i)
   have hcell:=hMr.cell (i:=k+i) (by rw[K3 HPl];omega)
   have hfz:=hMr.frozen (k+i)
   go_wp2_with fail
   obtain⟨d,y',hd1,hd2,hd3,hd4,hd5⟩:=sub_wrap hP hc hy
   rw[hd4,hd5]
   have hst:=hMr.set_ (i:=k+i) (by rw[K3 HPl];omega) d
   go_ret
   have hv:lo v i=val v:=M6 (by rw[K3 Hl];exact Nat.le_refl _)
   have hend:=take_end (by rw[K3 HPl];omega) (K3 hag (k+i) Zo) (K3 hI) hd3
   rw[hv]at hend
   refine⟨_,decide (y'=1),?_,hst,by rw[List.length_set];exact K3 HPl,hPd.set _ hd1,Sk hbr (Or.inl rfl) _,fun j hj=> ?_,?_⟩
   ·rcases(show y'=0∨y'=1 by omega)with rfl|rfl<;>rfl
   ·rw[Q8,if_neg Zo]
    exact K3 hag j Zo
   ·rcases(show y'=0∨y'=1 by omega)with rfl|rfl
    ·left;exact⟨rfl,by omega⟩
    ·right;exact⟨rfl,by omega⟩
end Go.Proofs.YtoeiphicmcndlaaGreatDoor
