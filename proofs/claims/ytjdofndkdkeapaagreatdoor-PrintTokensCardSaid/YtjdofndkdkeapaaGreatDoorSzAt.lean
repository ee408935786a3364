/- A kid is no greater than the row it stands in. -/
import Derived.Test.YtjdofndkdkeapaaGreatDoorTree
namespace Go.Proofs.YtjdofndkdkeapaaGreatDoor
theorem sz_at {ks : List Tree} {i : Nat} {t : Tree} (h : ks[i]? = some t) : t.sz ≤ szL ks := by
  induction ks generalizing i with
  | nil => simp at h
  | cons u us ih =>
    cases i with
    | zero => simp at h; subst h; simp [szL]
    | succ i => have := ih (i := i) (by simpa using h); simp [szL]; omega
end Go.Proofs.YtjdofndkdkeapaaGreatDoor
