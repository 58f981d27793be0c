/-
 A part of the proof.
-/
import Derived.Test.YtpgkbllcnphmbaaGreatDoorBOe
namespace Go.Proofs.YtpgkbllcnphmbaaGreatDoor
set_option linter.unusedVariables false
set_option linter.unusedSimpArgs false
open Go.RowKit
theorem Eu:∀{l:List Int},Ut l=0→∀e∈l,e=0
 | [],_,e,h=>by cases h
 | x::l,h0,e,h=>by
  unfold Ut at h0
  split at h0
  ·rename_i hx
   rcases List.mem_cons.1 h with rfl|h2
   ·exact hx
   ·exact Eu h0 e h2
  ·rename_i hx;exact absurd h0 hx
theorem at_valid{T:Mi}{X Y:Int}(h:Fy T X Y=0):Lt (atX T X Y) (atY T X Y)=true:=by
 unfold Fy at h
 split at h
 ·cases h
 ·split at h
  ·cases h
  ·split at h
   ·cases h
   ·rename_i h3
    have h4:Jy T X Y=true:=by simpa using h3
    unfold Jy at h4
    simp only[Bool.and_eq_true]at h4
    rw[Z1 h4.1,Z1 h4.2.1]at h4
    exact h4.2.2
theorem Ib(T:Mi)(s:Sg):(Pd T s).v=s.v:=by
 unfold Pd
 rcases(Fv s).map (trP T)with _|⟨a,_|⟨b,_|⟨c,t⟩⟩⟩<;>rfl
theorem valid0:Lt 0 0=true:=by decide
theorem fits_withS{v:Int}{l:List Pt}{m:Nat}(hm:Me v=(m:Int))(h3:m≤3)(hl:l.length=m)(hv:∀p∈l,Lt p.1 p.2=true):Ti (P9 v l)=true:=by
 have hz:=valid0
 rcases l with _|⟨a,_|⟨b,_|⟨c,_|⟨d,t⟩⟩⟩⟩
 ·obtain rfl:m=0:=hl.symm
  simp[P9,Ti,okP,hz]
 ·obtain rfl:m=1:=hl.symm
  have h1:=hv a Zs
  simp[P9,Ti,okP,hz,hm,h1]
 ·obtain rfl:m=2:=hl.symm
  have h1:=hv a Zs
  have h2:=hv b Zs
  simp[P9,Ti,okP,hz,hm,h1,h2]
 ·obtain rfl:m=3:=hl.symm
  have h1:=hv a Zs
  have h2:=hv b Zs
  have h4:=hv c Zs
  simp[P9,Ti,okP,hm,h1,h2,h4]
 ·simp at hl;omega
theorem chkS_tr{T:Mi}{s:Sg}{last:Int}(h:T3 last s=0)(he:G4 T (Fv s)=0):T3 last (Pd T s)=0:=by
 obtain⟨m,hm,h3⟩:∃m:Nat,Me s.v=(m:Int)∧m≤3:=by
  have h0:(Xt last 0 [s]).1=0:=by rw[Ab h];rfl
  exact Jt h0 s (List.mem_singleton.2 rfl)
 have hf:Ti (Pd T s)=true:=by
  refine fits_withS hm h3 (by unfold Fv sgP;rw[List.length_map,List.length_take,hm];show min m 3=m;omega) fun p hp=> ?_
  obtain⟨q,hq,rfl⟩:=List.mem_map.1 hp
  exact at_valid (Eu he _ (List.mem_map.2 ⟨q,hq,rfl⟩))
 refine chkS_ok (m:=(m:Int)) (by rw[Ib];exact hm) Zo ?_ hf
 rw[Ib]
 unfold T3 at h
 split at h
 ·cases h
 ·split at h
  ·cases h
  ·rename_i h5;simpa using h5
theorem chkL_tr{T:Mi}:∀{ls:List Sg} {last:Int} {k:Nat},(Xt last k ls).1=0→Mx T ls=0→(Xt last k (ls.map (Pd T))).1=0
 | [],_,_,_,_=>rfl
 | s::l,last,k,h,he=>by
  have hp:=Eu he _ (List.mem_map.2 ⟨s,List.mem_cons_self ..,rfl⟩)
  have hl:Mx T l=0:=by
   unfold Mx at he ⊢
   rw[List.map_cons,Ut,if_pos hp]at he;exact he
  by_cases h1:T3 last s=0
  ·rw[Ab h1]at h
   rw[List.map_cons,Ab (chkS_tr h1 hp),Ib]
   exact chkL_tr h hl
  ·rw[Tp h1]at h;exact absurd h h1
theorem chk_tr{T:Mi}{ls:List Sg}(h:(Ff ls).1=0)(he:Mx T ls=0):(Ff (ls.map (Pd T))).1=0:=by
 have h2:=Xp h
 unfold Ff at h ⊢
 rw[if_neg Zo]at h
 rw[if_neg (by rw[List.length_map];omega)]
 exact chkL_tr h he
def Kz(T:Mi)(ls:List Sg):List (List Pt)×Int:=
 if Mx T ls=0 then(if (Pi (ls.map (Pd T))).2=0 then(P0 ((Pi (ls.map (Pd T))).1.map (·.1)),0)else([],(Pi (ls.map (Pd T))).2))else([],Mx T ls)
end Go.Proofs.YtpgkbllcnphmbaaGreatDoor
