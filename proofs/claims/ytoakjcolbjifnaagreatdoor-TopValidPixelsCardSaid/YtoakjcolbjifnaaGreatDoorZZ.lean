/-
  Short names for short proofs.
-/
import Derived.KernelRfl
import Derived.WalkKit
namespace Go.Proofs.YtoakjcolbjifnaaGreatDoor
theorem O{p:Prop}(h:p:=by kernel_rfl):p:=h
theorem I{p:Prop}(h:p:=by omega):p:=h
theorem Zd{p:Prop}(h:p:=by decide):p:=h
theorem Zs{p:Prop}(h:p:=by simp):p:=h
theorem Zp{p:Prop}(h:p:=by(simp;omega)):p:=h
theorem Zn{p:Prop}(h:p:=by first|omega|(dsimp only;omega)):p:=h
theorem Zf{p:Prop}(h:p:=by intro _;kernel_rfl):p:=h
theorem Zt{p q r:Prop}(h:p/\q/\r:=by refine⟨by kernel_rfl,by kernel_rfl,by kernel_rfl⟩):p/\q/\r:=h
theorem Za{α:Type}{p:α->Prop}{g:α}(h:p g):∀b∈[g],p b:=fun _ hb=>List.mem_singleton.1 hb▸h
theorem Zv{p:Prop}(h:p:=by intros;exact trivial):p:=h
theorem Yg{α:Type}(l:List α)(a:Nat)(h:a<l.length:=by omega):∃x,l[a]? =some x:=⟨_,List.getElem?_eq_getElem h⟩
theorem YV{p:Prop}[Decidable p](h:¬p):decide p=false:=decide_eq_false h
theorem YU{p:Prop}[Decidable p](h:p):decide p=true:=decide_eq_true h
theorem YT{c:Prop}{i:Decidable c}(h:¬c){α:Sort _}{t e:α}:ite c t e=e:=if_neg h
theorem YS{c:Prop}{i:Decidable c}(h:c){α:Sort _}{t e:α}:ite c t e=t:=if_pos h
theorem YR{α:Type _}[BEq α][LawfulBEq α]{a b:α}:(a==b)=false↔a≠b:=beq_eq_false_iff_ne
theorem YQ{α:Type _}[BEq α][LawfulBEq α]{a b:α}:a==b↔a=b:=beq_iff_eq
theorem YP{p:Prop}[Decidable p](h:decide p=true):p:=of_decide_eq_true h
theorem YO{p:Prop}[Decidable p](h:decide p=false):¬p:=of_decide_eq_false h
abbrev YY:=Option Addr
abbrev YZ:=Option Addr×Nat
abbrev YX:=List UInt8
abbrev YW:=World→Prop
end Go.Proofs.YtoakjcolbjifnaaGreatDoor
