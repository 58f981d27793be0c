/-
 Quotients and common divisors.
-/
import Derived.Test.YtoeiphicmcndlaaGreatDoorARe
import Derived.Test.YtoeiphicmcndlaaGreatDoorANum
import Derived.BigQuiet
namespace Go.Proofs.YtoeiphicmcndlaaGreatDoor
set_option maxRecDepth 100000
set_option maxHeartbeats 8000000
set_option linter.unusedVariables false
set_option linter.unusedSimpArgs false
open Go.RowKit
theorem refOften_c{A B:Option Addr}{n c m d:Nat}{r b:List Nat}(w:World)(hr:In w A n c r)(hb:In w B (m+1) d b)(hn:n≤m+2)(hm:m≤137438953472)(h0:0<dg b m)(hUV:val r<4294967296*val b):
 Calls Tryz.prog 290 #[.slice A n c,.slice B (m+1) d] w fun e w'=>∃A' n' c' l,e= .returned (.tuple #[.int .u64 ((val r/val b:Nat):Int),.slice A' n' c'])∧Mx l∧val l=val r%val b∧Py w' w.heap.size A' n' c' l∧Below w.heap.size w w':=by
 have Hr:=Km hr
 have Hb:=Km hb
 have x0:=hr.dig (m+1)
 have x1:=hr.dig m
 obtain⟨bd,hB,hcb⟩:=hb.at_ (k:=m) Zo
 have hv:=hb.dig m
 obtain⟨top,htop⟩:∃top,top=dg r (m+1)*4294967296+dg r m:=⟨_,rfl⟩
 have ht64:(top:Int)≤18446744073709551615:=by omega
 have eU:val r=top*pw m+lo r m:=by
  rw[←M6 (l:=r) (k:=m+2) (by rw[hr.len];exact hn),La,La,htop,M3];grind
 have eV:val b=dg b m*pw m+lo b m:=by
  rw[←M6 (l:=b) (k:=m+1) (by rw[hb.len];exact Nat.le_refl _),La];omega
 have hinit:=often_min (often_init eU eV (Fj hr.dig m) h0) hUV
 subst hB
 clear hr hb eU eV
 have F:=Km (And.intro hinit htop)
 clear hinit
 have e1:(dg r (m+1):Int)*4294967296+(dg r m:Int)=(top:Int):=by omega
 clear htop
 go_enter Tryz.func290,Tryz.ntmps290
 go_wp2_with fail
 have f1:IntKind.i64.wrap ((m:Int)+1-1)=(m:Int):=by rw[IntWalk.i64_in _ Zo];omega
 have f2:IntKind.u64.wrap ((dg r (m+1):Int)*4294967296)=(dg r (m+1):Int)*4294967296:=by rw[L6];omega
 have f3:IntKind.u64.wrap (top:Int)=(top:Int):=by rw[L6];omega
 have f4:IntKind.u64.wrap (dg b m:Int)=(dg b m:Int):=by rw[L6];omega
 have f5:((m:Int)+1).toNat=m+1:=by omega
 obtain⟨q0,hq0⟩:∃q0,q0=top/dg b m:=⟨_,rfl⟩
 have f6:IntKind.u64.wrap ((top:Int)/(dg b m:Int))=(q0:Int):=by
  rw[←Int.natCast_ediv,←hq0,L6]
  have:=Nat.div_le_self top (dg b m);omega
 obtain⟨d0,hd0⟩:∃d0,d0=min q0 4294967295:=⟨_,rfl⟩
 have f7:min (q0:Int) 4294967295=(d0:Int):=by omega
 have hd32:d0<4294967296:=by omega
 have G:Hid (val r<(d0+1)*val b):=by show _<_;rw[hd0,hq0];exact(K3 F).1
 clear hd0 hq0
 go_quiet ((go_at_call 292;exact Calls.quiet_of_same ((Oh _ _ ((K3 Hr).drewN _) Zo).mono fun _ _ h=>⟨h.1,h.2.symm⟩)))
 go_wp2_with fail
 refine(refTimes_c d0 _ ((K3 Hb).drewN _) Zo hd32).mono ?_
 rintro e w1 ⟨Ap,np,cp,lp,rfl,Np,vp,op,hw⟩
 have hbp:0<val b:=by
  rcases Nat.eq_zero_or_pos (val b)with e|e
  ·rw[e]at hUV;omega
  ·exact e
 have HP:=Km (And.intro hbp hUV)
 have hw0:Below w.heap.size w w1:=(Mh (Below.refl _ _) _).trans (hw.mono (Nat.le_refl _))
 have op0:Py w1 w.heap.size Ap np cp lp:=op
 have hvb:val b<pw (m+1):=Mi (K3 Hb).dig (Nat.le_of_eq (K3 Hb).len)
 have hnp:np≤m+2:=by
  have h1:=Np.length_le (k:=m+2) (by
   rw[vp,M3 (m+1)]
   exact Nat.mul_lt_mul_of_lt_of_le hvb Zo Zo)
  have:=op.len;omega
 have VP:Hid (val lp=d0*val b∧val r<(d0+1)*val b):=⟨by rw[vp,Nat.mul_comm],K3 G⟩
 clear hbp hUV hw op hvb vp
 go_wp2_with fail
 go_loopw [8,9] (fun sd sp wx=>∃(k p q:Nat) (X:Option Addr) (x:List Nat),sd= .int .u64 k∧sp= .slice X p q∧k<4294967296∧p≤m+2∧Hid (val x=k*val b∧val r<(k+1)*val b)∧Mx x∧Py wx w.heap.size X p q x∧Below w.heap.size w wx) (fun sd _ _=>(intOf sd).toNat)
 case atStart=>exact⟨d0,np,cp,Ap,lp,rfl,rfl,hd32,hnp,VP,Np,op0,hw0⟩
 case round=>
  obtain⟨k,p,q,X,x,rfl,rfl,hk,hp,hI,Nx,ox,hbx⟩:=hrel
  go_wp2_with fail
  refine(Wt _ ox.toIn ((K3 Hr).below hbx)).mono ?_
  rintro e w2 ⟨rfl,hq⟩
  have ox2:Py w2 w.heap.size X p q x:=by
   obtain⟨q',rfl⟩:=hq
   exact ox.drewN q'
  have hb2:Below w.heap.size w w2:=hbx.trans (hq.below _)
  clear ox hbx hq
  by_cases hgt:val r<val x
  ·rw[Jq hgt]
   have hk1:(1:Int)≤(k:Int):=by
    rcases Nat.eq_zero_or_pos k with e|e
    ·have h1:=(K3 hI).1
     rw[e,Nat.zero_mul]at h1
     omega
    ·omega
   have HG:=Km hgt
   clear hgt
   go_wp2_with fail
   refine(Ws _ ox2.toIn ((K3 Hb).below hb2) Zo).mono ?_
   rintro e w3 ⟨A3,n3,c3,l3,rfl,N3,v3,o3,hw3⟩
   have hn3:n3≤m+2:=by
    have h1:=N3.length_le (k:=m+2) (by
     rw[v3]
     exact Nat.lt_of_le_of_lt (Nat.sub_le _ _) (Mi ox2.dig (Nat.le_trans (Nat.le_of_eq ox2.len) hp)))
    have:=o3.len;omega
   have V3:Hid (val l3=(k-1)*val b∧val r<(k-1+1)*val b):=by
    obtain⟨h1,h2⟩:=K3 hI
    have h3:=K3 HG
    have h4:k-1+1=k:=by omega
    refine⟨?_,?_⟩
    ·rw[v3,h1,Nat.sub_mul,Nat.one_mul]
    ·rw[h4,←h1];exact h3
   clear v3
   go_wp2_with fail
   go_roundw
   case rel=>exact⟨k-1,n3,c3,A3,l3,congrArg (Value.int .u64) Zo,rfl,by omega,hn3,V3,N3,o3.base hb2.size,hb2.trans (hw3.mono hb2.size)⟩
   case measure=>simp[intOf];omega
  ·have K:¬(0<U4 (val x) (val r)):=by
    unfold U4
    split
    ·omega
    ·split<;>omega
   obtain⟨z,hz⟩:∃z,z=U4 (val x) (val r):=⟨_,rfl⟩
   rw[←hz]at K
   rw[←hz]
   have HG:=Km hgt
   clear hgt hz
   go_wp2_with fail
   refine(Ws _ ((K3 Hr).below hb2) ox2.toIn Zo).mono ?_
   rintro e w3 ⟨A3,n3,c3,l3,rfl,N3,v3,o3,hw3⟩
   have hE:=often_end (U:=val r) (V:=val b) (d:=k) (by rw[←(K3 hI).1];have:=K3 HG;omega) (K3 hI).2
   have V3:Hid (val l3=val r%val b):=by
    show _=_
    rw[v3,(K3 hI).1];exact hE.2
   have VK:Hid (k=val r/val b):=hE.1
   clear v3 hE
   go_wp2_with fail
   go_ret2
   exact⟨A3,n3,c3,l3,by rw[←K3 VK];rfl,N3,K3 V3,o3.base hb2.size,hb2.trans (hw3.mono hb2.size)⟩
end Go.Proofs.YtoeiphicmcndlaaGreatDoor
