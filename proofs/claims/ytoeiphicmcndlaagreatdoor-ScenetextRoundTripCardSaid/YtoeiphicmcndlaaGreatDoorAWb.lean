/-
 Functions of the package natural.
-/
import Derived.Test.YtoeiphicmcndlaaGreatDoorAWa
import Derived.Deep.QuietTactic
import Derived.BigQuiet
namespace Go.Proofs.YtoeiphicmcndlaaGreatDoor
set_option maxRecDepth 100000
set_option maxHeartbeats 8000000
set_option linter.unusedVariables false
set_option linter.unusedSimpArgs false
open Go.RowKit
theorem In.drewN{w:World}{A:Option Addr}{n c:Nat}{l:List Nat}(h:In w A n c l)(q:Nat):In (w.drewN q) A n c l:=⟨h.dig,h.len,h.le,h.cap,h.rd⟩
theorem In.drew{w:World}{A:Option Addr}{n c:Nat}{l:List Nat}(h:In w A n c l):In w.drew A n c l:=⟨h.dig,h.len,h.le,h.cap,h.rd⟩
theorem Py.drewN{w:World}{B:Nat}{A:Option Addr}{n c:Nat}{l:List Nat}(h:Py w B A n c l)(q:Nat):Py (w.drewN q) B A n c l:=⟨h.toIn.drewN q,h.own⟩
theorem Py.drew{w:World}{B:Nat}{A:Option Addr}{n c:Nat}{l:List Nat}(h:Py w B A n c l):Py w.drew B A n c l:=⟨h.toIn.drew,h.own⟩
theorem Mh{B:Nat}{a w:World}(h:Below B a w)(n:Nat):Below B a (w.drewN n):=⟨h.os,h.tape,h.output,h.size,h.block⟩
def Qd(w w':World):Prop:=∃q,w'=w.drewN q
theorem Qd.refl(w:World):Qd w w:=⟨0,rfl⟩
theorem Qd.drewN{w w':World}(h:Qd w w')(n:Nat):Qd w (w'.drewN n):=by
 obtain⟨q,rfl⟩:=h
 exact⟨q+n,World.drewN_drewN ..⟩
theorem Qd.of(w:World)(n:Nat):Qd w (w.drewN n):=⟨n,rfl⟩
def RetQ(w:World)(v:Value)(e:Ending)(w':World):Prop:=e= .returned v∧Qd w w'
theorem cmp_c{A B:Option Addr}{n c m d:Nat}{a b:List Nat}(w:World)(ha:In w A n c a)(hb:In w B m d b):
 Calls Tryz.prog 275 #[.slice A n c,.slice B m d] w (RetQ w (Zi (U4 (val a) (val b)))):=by
 have Ta:=ha.trim
 have Tb:=hb.trim
 have va:=Kh a
 have vb:=Kh b
 have na:=Kw ha.dig
 have nb:=Kw hb.dig
 have Va:=Km va
 have Vb:=Km vb
 clear va vb
 have hp:=Ta.lenI
 have hq:=Tb.lenI
 rcases Nat.lt_trichotomy (tlen a n) (tlen b m)with h|h|h
 ·have K:Hid (U4 (val a) (val b)= -1):=D9 (by rw[←K3 Va,←K3 Vb];exact na.length_lt nb (by rw[Ta.len,Tb.len];exact h))
  go_enter Tryz.func275,Tryz.ntmps275
  go_wp2_with fail
  refine(Lu w ha).mono ?_
  rintro e w' ⟨rfl,rfl⟩
  go_wp2_with fail
  refine(Lu w hb).mono ?_
  rintro e w' ⟨rfl,rfl⟩
  go_wp2_with fail
  go_ret
  rw[K3 K]
  exact⟨rfl,Qd.refl _⟩
 ·have H:=Km h
  clear h
  have Hb:In w B (tlen a n) (tlen a n) (trim b):=by rw[K3 H];exact Tb
  go_enter Tryz.func275,Tryz.ntmps275
  go_wp2_with fail
  refine(Lu w ha).mono ?_
  rintro e w' ⟨rfl,rfl⟩
  go_wp2_with fail
  refine(Lu w hb).mono ?_
  rintro e w' ⟨rfl,rfl⟩
  rw[←K3 H]
  go_wp2_with fail
  go_loopw [5] (fun i wr=>∃(k:Nat) (z:Int),k≤tlen a n∧z+1=k∧i=Zi z∧Hid (∀j,k≤j→dg (trim a) j=dg (trim b) j)∧Qd w wr) (fun i _=>(intOf i+1).toNat)
  case atStart=>
   refine⟨tlen a n,(tlen a n:Int)-1,Nat.le_refl _,by omega,rfl,fun j hj=> ?_,Qd.refl _⟩
   rw[Ub (by rw[Ta.len];exact hj),Ub (by rw[Hb.len];exact hj)]
  case round=>
   obtain⟨k,z,hk,hz,rfl,hag,⟨q,rfl⟩⟩:=hrel
   by_cases h0:k=0
   ·subst h0
    obtain rfl:z= -1:=by omega
    clear hz
    go_wp2
    go_ret
    refine⟨?_,Qd.of _ _⟩
    rw[cmpN_eq]
    ·rfl
    ·rw[←K3 Va,←K3 Vb]
     exact Et fun j=>K3 hag j (Nat.zero_le _)
   ·obtain⟨j,rfl⟩:∃j,k=j+1:=⟨k-1,by omega⟩
    obtain rfl:z=(j:Int):=by omega
    clear hz h0
    obtain⟨ad,hA,hca⟩:=Ta.at_ (k:=j) Zo
    obtain⟨bd,hB,hcb⟩:=Hb.at_ (k:=j) Zo
    subst hA
    subst hB
    have hj:(j:Int)<(tlen a n:Int):=by omega
    go_wp2
    go_quiet (fail)
    go_wp2
    ·have hlt:dg (trim a) j<dg (trim b) j:=by assumption
     go_ret
     refine⟨?_,(Qd.of _ _).drewN _⟩
     rw[D9 (by rw[←K3 Va,←K3 Vb];exact C9 na.1 (fun i hi=>K3 hag i Zo) hlt)]
     rfl
    ·go_quiet (fail)
     go_wp2
     ·have hlt:dg (trim b) j<dg (trim a) j:=by assumption
      go_ret
      refine⟨?_,((Qd.of _ _).drewN _).drewN _⟩
      rw[Jq (by rw[←K3 Va,←K3 Vb];exact C9 nb.1 (fun i hi=>(K3 hag i Zo).symm) hlt)]
      rfl
     ·have h1:¬dg (trim a) j<dg (trim b) j:=by assumption
      have h2:¬dg (trim b) j<dg (trim a) j:=by assumption
      go_roundw
      case rel=>
       refine⟨j,(j:Int)-1,by omega,by omega,rfl,fun i hi=> ?_,Qd.of _ _⟩
       by_cases e:i=j
       ·subst e;omega
       ·exact K3 hag i Zo
      case measure=>simp[intOf]
 ·have K:Hid (U4 (val a) (val b)=1):=Jq (by rw[←K3 Va,←K3 Vb];exact nb.length_lt na (by rw[Ta.len,Tb.len];exact h))
  go_enter Tryz.func275,Tryz.ntmps275
  go_wp2_with fail
  refine(Lu w ha).mono ?_
  rintro e w' ⟨rfl,rfl⟩
  go_wp2_with fail
  refine(Lu w hb).mono ?_
  rintro e w' ⟨rfl,rfl⟩
  go_wp2_with fail
  go_ret
  rw[K3 K]
  exact⟨rfl,Qd.refl _⟩
end Go.Proofs.YtoeiphicmcndlaaGreatDoor
