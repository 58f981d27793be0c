/-
  Short names for short proofs.
-/
import Derived.KernelRfl
import Derived.WalkKit
namespace Go.Proofs.YtpgkbllcnphmbaaGreatDoor
theorem Zk{p:Prop}(h:p:=by kernel_rfl):p:=h
theorem Zo{p:Prop}(h:p:=by omega):p:=h
theorem Zd{p:Prop}(h:p:=by decide):p:=h
theorem Zs{p:Prop}(h:p:=by simp):p:=h
theorem Zp{p:Prop}(h:p:=by(simp;omega)):p:=h
end Go.Proofs.YtpgkbllcnphmbaaGreatDoor
