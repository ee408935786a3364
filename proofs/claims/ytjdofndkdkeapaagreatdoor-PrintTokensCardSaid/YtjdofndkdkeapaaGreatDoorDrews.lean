/- A world that has drawn. Any program. -/
import Derived.Test.YtjdofndkdkeapaaGreatDoorNode
import Derived.Test.YtjdofndkdkeapaaGreatDoorProg
import Derived.Deep.RegionHeld3
import Derived.Deep.QuietTactic
import Derived.BigQuiet
namespace Go.Proofs.YtjdofndkdkeapaaGreatDoor
open Go.RowKit
theorem below_drews {B : Nat} {a w : World} (h : Below B a w) (q : Nat) : Below B a (w.drewN q) := ⟨h.os, h.tape, h.output, h.size, h.block⟩
theorem run_makeFunc (fn : Fn) (first cap : Array Value) (w : World) : (Instr.makeFunc fn first cap).run Tryz.prog w = .ok (.func fn first cap) w := rfl
end Go.Proofs.YtjdofndkdkeapaaGreatDoor
