/-
 Numbers as literals.
-/
import Derived.Test.YtoeiphicmcndlaaGreatDoorAWl
namespace Go.Proofs.YtoeiphicmcndlaaGreatDoor
set_option linter.unusedVariables false
set_option linter.unusedSimpArgs false
open Go.RowKit
theorem Gq{a b i j k:Nat}(ha:a<pw i)(hb:b<pw j)(hi:i+1≤k)(hj:j+1≤k):a+b<pw k:=by
 obtain⟨m,rfl⟩:∃m,k=m+1:=⟨k-1,by omega⟩
 have h1:=Aa (show i≤m by omega)
 have h2:=Aa (show j≤m by omega)
 rw[M3];omega
theorem pw_mul_lt{a b i j k:Nat}(ha:a<pw i)(hb:b<pw j)(hk:i+j≤k):a*b<pw k:=by
 have h1:a*b<pw i*pw j:=Nat.mul_lt_mul'' ha hb
 rw[←pw_add]at h1
 exact Nat.lt_of_lt_of_le h1 (Aa hk)
theorem pw_le_ten(k:Nat):pw k≤10 ^ (10*k):=by
 rw[Sj,Nat.pow_mul,Nat.pow_mul]
 exact Nat.pow_le_pow_left Zo k
theorem ten_le_pw(k:Nat):10 ^ (8*k)≤pw k:=by
 rw[Sj,Nat.pow_mul,Nat.pow_mul]
 exact Nat.pow_le_pow_left Zo k
theorem decS_length_le{n k:Nat}(hk:1≤k)(h:n<10 ^ k):(Pw n).length≤k:=by
 unfold Pw
 split
 ·exact hk
 ·rw[List.length_reverse];exact decR_length h
theorem dval_lt{l:List UInt8}(h:Dc l):R9 l<10 ^ l.length:=by
 induction l with
 |nil=>exact Nat.one_pos
 |cons b t ih=>
  have h1:=ih (fun x hx=>h x (List.mem_cons_of_mem _ hx))
  have h2:=h b (List.mem_cons_self ..)
  rw[show R9 (b::t)=(b.toNat-48)+10*R9 t from rfl,List.length_cons,Nat.pow_succ]
  omega
theorem decS_len{n k:Nat}(hk:1≤k)(h:n<pw k):(Pw n).length≤10*k:=
 decS_length_le Zo (Nat.lt_of_lt_of_le h (pw_le_ten k))
theorem rdv_lt{l:List UInt8}{K:Nat}(h:Dc l)(hl:l.length≤K):rdv l<10 ^ K:=by
 have h1:R9 l.reverse<10 ^ l.reverse.length:=dval_lt (fun b hb=>h b (List.mem_reverse.1 hb))
 rw[List.length_reverse]at h1
 exact Nat.lt_of_lt_of_le h1 (Nat.pow_le_pow_right Zo hl)
theorem rdv_pw{l:List UInt8}{k:Nat}(h:Dc l)(hl:l.length≤8*k):rdv l<pw k:=Nat.lt_of_lt_of_le (rdv_lt h hl) (ten_le_pw k)
end Go.Proofs.YtoeiphicmcndlaaGreatDoor
