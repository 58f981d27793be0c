/-
  Short names for short proofs.
-/
import Derived.KernelRfl
import Derived.WalkKit
namespace Go.Proofs.YtoeiphicmcndlaaGreatDoor
theorem Zk{p:Prop}(h:p:=by kernel_rfl):p:=h
theorem Zo{p:Prop}(h:p:=by omega):p:=h
theorem Zd{p:Prop}(h:p:=by decide):p:=h
theorem Zs{p:Prop}(h:p:=by simp):p:=h
theorem Zp{p:Prop}(h:p:=by(simp;omega)):p:=h
abbrev Zi(x:Int):Value:= .int .i64 x
abbrev Zq(g k:Nat):Value:= .pointer (some ⟨g,k,none⟩)
abbrev Zf:Value:= .bool false
abbrev Zt:Value:= .bool true
end Go.Proofs.YtoeiphicmcndlaaGreatDoor
