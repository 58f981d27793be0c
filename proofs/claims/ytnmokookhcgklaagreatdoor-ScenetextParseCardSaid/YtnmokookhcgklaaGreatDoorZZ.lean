/-
  Short names for short proofs.
-/
import Derived.KernelRfl
import Derived.WalkKit
namespace Go.Proofs.YtnmokookhcgklaaGreatDoor
theorem O{p:Prop}(h:p:=by kernel_rfl):p:=h
theorem J{p:Prop}(h:p:=by omega):p:=h
theorem Zd{p:Prop}(h:p:=by decide):p:=h
theorem Zs{p:Prop}(h:p:=by simp):p:=h
theorem Zp{p:Prop}(h:p:=by(simp;omega)):p:=h
abbrev I(x:Int):Value:= .int .i64 x
abbrev Zq(g k:Nat):Value:= .pointer (some ⟨g,k,none⟩)
abbrev Zf:Value:= .bool false
abbrev Zt:Value:= .bool true
theorem YV{p:Prop}[Decidable p](h:¬p):decide p=false:=decide_eq_false h
theorem YU{p:Prop}[Decidable p](h:p):decide p=true:=decide_eq_true h
theorem V{c:Prop}{i:Decidable c}(h:¬c){α:Sort _}{t e:α}:ite c t e=e:=if_neg h
theorem YS{c:Prop}{i:Decidable c}(h:c){α:Sort _}{t e:α}:ite c t e=t:=if_pos h
theorem YR{α:Type _}[BEq α][LawfulBEq α]{a b:α}:(a==b)=false↔a≠b:=beq_eq_false_iff_ne
theorem YQ{α:Type _}[BEq α][LawfulBEq α]{a b:α}:a==b↔a=b:=beq_iff_eq
theorem YP{p:Prop}[Decidable p](h:decide p=true):p:=of_decide_eq_true h
theorem YO{p:Prop}[Decidable p](h:decide p=false):¬p:=of_decide_eq_false h
abbrev YY:=Option Addr
abbrev YZ:=Option Addr×Nat
abbrev R:=List UInt8
abbrev YW:=World→Prop
end Go.Proofs.YtnmokookhcgklaaGreatDoor
