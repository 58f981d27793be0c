/-
 Functions of the package natural.
-/
import Derived.Test.YtoeiphicmcndlaaGreatDoorAWk
import Derived.Deep.RegionWith
namespace Go.Proofs.YtoeiphicmcndlaaGreatDoor
set_option maxRecDepth 100000
set_option maxHeartbeats 8000000
set_option linter.unusedVariables false
set_option linter.unusedSimpArgs false
open Go.RowKit
def Qv(w:World)(l:List UInt8)(e:Ending)(w':World):Prop:=
 ∃A n c d,e= .returned (.tuple #[.slice A n c,Zi (Lp l)])∧Mx d∧val d=O6 l∧Py w' w.heap.size A n c d∧Below w.heap.size w w'
theorem Qv.bad{w:World}{l:List UInt8}{v:Int}(h:Lp l=v)(hv:v≠0){e:Ending}(he:e= .returned (.tuple #[.slice none 0 0,Zi v])):Qv w l e w:=
 ⟨none,0,0,[],by rw[he,h],Mx.nil,by unfold O6;rw[if_neg Zo];rfl,Py.nil_,Below.refl _ _⟩
theorem byte_at(s:ByteArray){k:Nat}(h:k<s.size):s.data.toList[k]? =some s[k]:=by
 rw[List.getElem?_eq_getElem (by simpa using h)];rfl
theorem isDB_bad{l:List UInt8}{k:Nat}{b:UInt8}(h:l[k]? =some b)(hb:¬(48≤b.toNat∧b.toNat<58)):isDB l=false:=by
 rcases hx:isDB l with _|_
 ·rfl
 ·exact absurd ((Bq l).1 hx b (List.mem_of_getElem? h)) hb
theorem isDB_good{l:List UInt8}(h:∀(k:Nat) (b:UInt8),l[k]? =some b→48≤b.toNat∧b.toNat<58):isDB l=true:=by
 rw[Bq]
 intro b hb
 obtain⟨k,hk⟩:=List.getElem?_of_mem hb
 exact h k b hk
theorem parse_c(s:ByteArray)(hs:s.size≤9223372036854775807)(w:World):
 Calls Tryz.prog 248 #[.string s] w (Qv w s.data.toList):=by
 have hsl:s.data.toList.length=s.size:=by simp
 obtain⟨l,hl⟩:∃l,l=s.data.toList:=⟨_,rfl⟩
 rw[←hl]at hsl ⊢
 have HL:=Km (And.intro hl hsl)
 have hat:Hid (∀k (h:k<s.size),l[k]? =some s[k]):=fun k h=>by rw[hl];exact byte_at s h
 clear hl hsl
 go_enter Tryz.func248,Tryz.ntmps248
 go_wp2_with fail
 go_loop [10] (fun si=>∃k:Nat,k≤s.size∧si=Zi k∧Hid (∀(j:Nat) (b:UInt8),j<k→l[j]? =some b→48≤b.toNat∧b.toNat<58)) (fun si=>s.size- (intOf si).toNat)
 case atStart=>exact⟨0,Nat.zero_le _,rfl,fun j b hj=>absurd hj Zo⟩
 case round=>
  obtain⟨k,hk,rfl,hI⟩:=hrel
  by_cases hlt:k<s.size
  ·by_cases hd:48≤s[k].toNat∧s[k].toNat<58
   ·obtain⟨d1,d2⟩:=hd
    have t1:¬((s[k].toNat:Int)<48):=by omega
    have t2:¬((57:Int)<(s[k].toNat:Int)):=by omega
    go_wp2_with fail
    go_round
    case rel=>
     refine⟨k+1,by omega,by go_num,fun j b hj hb=> ?_⟩
     by_cases e:j=k
     ·subst e
      rw[K3 hat j hlt]at hb
      injection hb with hb
      subst hb
      exact⟨d1,d2⟩
     ·exact K3 hI j b Zo hb
    case measure=>simp[intOf];omega
   ·have hbad:Hid (Lp l=3):=by
     show _=_
     rw[Lp,if_pos (isDB_bad (K3 hat k hlt) hd)]
    by_cases h1:s[k].toNat<48
    ·have t1:((s[k].toNat:Int)<48):=by omega
     go_wp2_with fail
     go_ret2
     exact Qv.bad (K3 hbad) Zd rfl
    ·have t1:¬((s[k].toNat:Int)<48):=by omega
     have t2:((57:Int)<(s[k].toNat:Int)):=by omega
     go_wp2_with fail
     go_ret2
     exact Qv.bad (K3 hbad) Zd rfl
  ·obtain rfl:k=s.size:=by omega
   have hdb:Hid (isDB l=true):=isDB_good fun j b hb=>K3 hI j b (by
    have:=(List.getElem?_eq_some_iff.1 hb).1
    have:=(K3 HL).2;omega) hb
   clear hI hlt
   by_cases hem:s.size=0
   ·have hln:l=[]:=List.length_eq_zero_iff.1 (by rw[(K3 HL).2];exact hem)
    have t1:s.toList=[]:=by rw[ByteArray.toList_eq,←(K3 HL).1,hln]
    have t2:(!s.toList.isEmpty)=false:=by rw[t1];rfl
    have t3:s.toList.isEmpty=true:=by rw[t1];rfl
    have hbad:Hid (Lp l=3):=by
     show _=_
     rw[Lp,if_neg (by rw[K3 hdb];decide),if_pos (Or.inl hln)]
    have Hm:=Km (And.intro hem hln)
    clear hem hln
    go_wp2_with fail
    go_ret2
    exact Qv.bad (K3 hbad) Zd rfl
   ·have hpos:0<s.size:=by omega
    have hln:l≠[]:=by
     intro e
     have:=(K3 HL).2
     rw[e]at this
     simp only[List.length_nil]at this
     omega
    have hhd:Hid (l.head? =some s[0]):=by
     show _=_
     rw[←K3 hat 0 hpos,List.head?_eq_getElem?]
    have t0:s.toList≠[]:=by rw[ByteArray.toList_eq,←(K3 HL).1];exact hln
    have t3:s.toList.isEmpty=false:=by
     rcases hx:s.toList.isEmpty with _|_
     ·rfl
     ·exact absurd (List.isEmpty_iff.1 hx) t0
    have Hn:=Km hln
    clear hem hln t0
    by_cases hz:s[0]=48∧1<s.size
    ·have t4:((s[0].toNat:Int)==48)=true:=by rw[hz.1];rfl
     have t5:(1:Int)<(s.size:Int):=by omega
     have hbad:Hid (Lp l=3):=by
      show _=_
      rw[Lp,if_neg (by rw[K3 hdb];decide),if_pos (Or.inr ⟨by rw[K3 hhd,hz.1],by rw[(K3 HL).2];exact hz.2⟩)]
     clear hz
     go_wp2_with fail
     go_ret2
     exact Qv.bad (K3 hbad) Zd rfl
    ·have hok2:Hid (¬(l=[]∨(l.head? =some 48∧1<l.length))):=by
      rintro(h|⟨h1,h2⟩)
      ·exact K3 Hn h
      ·rw[K3 hhd]at h1
       injection h1 with h1
       exact hz ⟨h1,by rw[←(K3 HL).2];exact h2⟩
     have hcase:(((s[0].toNat:Int)==48)=false)∨(((s[0].toNat:Int)==48)=true∧¬(1:Int)<(s.size:Int)):=by
      by_cases h:s[0]=48
      ·right;refine⟨by rw[h];rfl,fun x=>hz ⟨h,by omega⟩⟩
      ·left
       simp
       intro e
       exact h (UInt8.toNat_inj.1 (by simpa using(by omega:s[0].toNat=48)))
     clear hz
     have hpe:Hid (1000<s.size→Lp l=5):=by
      intro h
      rw[Lp,if_neg (by rw[K3 hdb];decide),if_neg (K3 hok2),if_pos (by rw[(K3 HL).2];exact h)]
     have hpz:Hid (¬1000<s.size→Lp l=0):=by
      intro h
      rw[Lp,if_neg (by rw[K3 hdb];decide),if_neg (K3 hok2),if_neg (by rw[(K3 HL).2];exact h)]
     by_cases hbig:1000<s.size
     ·have t6:(1000:Int)<(s.size:Int):=by omega
      have hbad:Hid (Lp l=5):=K3 hpe hbig
      rcases hcase with t4|⟨t4,t5⟩
      ·go_wp2_with fail
       go_ret2
       exact Qv.bad (K3 hbad) Zd rfl
      ·omega
     ·have t6:¬(1000:Int)<(s.size:Int):=by omega
      have hgood:Hid (Lp l=0):=K3 hpz hbig
      clear hpe hpz hok2 hhd
      rcases hcase with t4|⟨t4,t5⟩
      all_goals
       go_wp2_with fail
       refine(Up 10 Zo w).mono ?_
       rintro e w1 ⟨A1,n1,c1,d1,rfl,hN1,hv1,ho1,hw1⟩
       have hn1:n1≤1:=by
        have:=hN1.len_lt (k:=1) (by rw[hv1];decide)
        have:=ho1.len;omega
       go_wp2_with fail
       go_loopw [5,44] (fun sa si wx=>∃(k:Nat) (X:Option Addr) (p r:Nat) (x:List Nat),k≤s.size∧si=Zi k∧sa= .slice X p r∧Py wx w.heap.size X p r x∧Mx x∧p≤k∧Hid (val x=rdv (l.take k))∧Below w1.heap.size w1 wx) (fun _ si _=>s.size- (intOf si).toNat)
       case atStart=>exact⟨0,none,0,0,[],Nat.zero_le _,rfl,rfl,Py.nil_,Mx.nil,Nat.le_refl _,rfl,Below.refl _ _⟩
       case round=>
        obtain⟨k,X,p,r,x,hk,rfl,rfl,hox,nx,hp,hv,hbx⟩:=hrel
        by_cases hlt:k<s.size
        ·have hdig:48≤s[k].toNat∧s[k].toNat<58:=(Bq l).1 (K3 hdb) _ (List.mem_of_getElem? (K3 hat k hlt))
         obtain⟨g1,g2⟩:=hdig
         have g3:(48:Int)≤(s[k].toNat:Int)∧(s[k].toNat:Int)<58:=by omega
         have hkl:(k:Int)<(s.size:Int):=by omega
         have e1:IntKind.u8.wrap ((s[k].toNat:Int)-48)=((s[k].toNat-48:Nat):Int):=by rw[IntKind.wrap_u8'];omega
         have e2:IntKind.u64.wrap ((s[k].toNat-48:Nat):Int)=((s[k].toNat-48:Nat):Int):=by rw[L6];omega
         have hk1000:k≤1000:=by omega
         have hsm1:Hid (∀(n2:Nat) (l2:List Nat),Mx l2→l2.length=n2→val l2=val x*val d1→n2≤1001):=by
          intro n2 l2 h1 h2 h3
          have h4:=Mi hox.dig (Nat.le_trans (Nat.le_of_eq hox.len) hp)
          have h5:=h1.length_le (k:=k+1) (by rw[h3,hv1,M3];omega)
          omega
         have hsm2:Hid (∀(n3:Nat) (l3:List Nat),Mx l3→l3.length=n3→val l3=s[k].toNat-48→n3≤1):=by
          intro n3 l3 h1 h2 h3
          have h5:=h1.len_lt (k:=1) (by rw[h3];omega)
          omega
         go_wp2_with fail
         go_region_with (first
          |(go_at_call 253;refine(mul_c _ hox.drew.toIn (ho1.toIn.below hbx).drew Zo Zo).mono ?_;rintro e w2 ⟨A2,n2,c2,l2,rfl,hN2,hv2,ho2,hw2⟩)
          |(go_at_call 63;refine(Up (s[k].toNat-48) Zo _).mono ?_;rintro e w3 ⟨A3,n3,c3,l3,rfl,hN3,hv3,ho3,hw3⟩)
          |(go_at_call 262;refine(add_c _ (ho2.below hw3).toIn ho3.toIn ?_ ?_).mono ?_;(exact Nat.le_trans (K3 hsm1 n2 l2 hN2 ho2.len hv2) Zo);(exact Nat.le_trans (K3 hsm2 n3 l3 hN3 ho3.len hv3) Zo);rintro e w4 ⟨A4,n4,c4,l4,rfl,hN4,hv4,ho4,hw4⟩))
         all_goals
          go_wp2_with fail
          go_roundw
          case rel=>
           have hb2:Below w1.heap.size w1 w2:=(Mh hbx 1).trans (hw2.mono hbx.size)
           have hb3:=hb2.trans (hw3.mono hb2.size)
           have hb4:=hb3.trans (hw4.mono hb3.size)
           have hval:Hid (val l4=rdv (l.take (k+1))):=by
            show _=_
            rw[hv4,hv2,hv3,hv1,K3 hv,List.take_add_one,K3 hat k hlt]
            simp only[Option.toList]
            rw[rdv_snoc,Nat.mul_comm]
           have hn4:n4≤k+1:=by
            have h4:=Mi hox.dig (Nat.le_trans (Nat.le_of_eq hox.len) hp)
            have h5:=hN4.length_le (k:=k+1) (by rw[hv4,hv2,hv3,hv1,M3];omega)
            have:=ho4.len;omega
           exact⟨k+1,A4,n4,c4,l4,by omega,by go_num,rfl,ho4.base (Nat.le_trans hw1.size hb3.size),hN4,hn4,hval,hb4⟩
          case measure=>simp[intOf];omega
        ·obtain rfl:k=s.size:=by omega
         go_wp2_with fail
         go_ret2
         refine⟨X,p,r,x,by rw[K3 hgood];rfl,nx,?_,hox,hw1.trans (hbx.mono hw1.size)⟩
         rw[K3 hv,O6,if_pos (K3 hgood),List.take_of_length_le (Nat.le_of_eq (K3 HL).2)]
end Go.Proofs.YtoeiphicmcndlaaGreatDoor
