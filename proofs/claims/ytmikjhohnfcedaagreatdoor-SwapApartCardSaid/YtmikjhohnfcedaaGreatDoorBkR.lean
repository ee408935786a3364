/- Region 7 of the law's awake: insert and Commute, and two boxes, in whatever order.
   The walk over the law's awake.
   The walk over the law SwapBack.
   From the card's reading of an argument to trees in memory. -/
import Derived.Test.YtmikjhohnfcedaaGreatDoorBkQ
import Derived.Deep.RegionHeld3
import Derived.Test.YtmikjhohnfcedaaGreatDoorBkE
import Derived.SizedLaws
import Derived.DataShut
import Derived.Lib.SmallJoins
namespace Go.Proofs.YtmikjhohnfcedaaGreatDoor
set_option linter.unusedSimpArgs false
set_option linter.unusedVariables false
open Go.RowKit
set_option linter.unusedSimpArgs false

theorem fits_small {n : Int} (h : 0 ≤ n) (h' : n ≤ 1000) : fitsI n := ⟨by omega, by omega⟩
/-- The box of the first Rename. -/
def OneB (B bp : Nat) (w : World) : Prop := w.heap[B]? = some (.cells #[.int .u8 1, .slice (some ⟨bp, 0, none⟩) 3 3, .int .i64 0, .int .i64 0, .string ⟨#[97]⟩, .string ⟨#[98]⟩, .slice none 0 0, .slice none 0 0] 26 (0, 0))
theorem OneB.next {B bp : Nat} {w w' : World} (h : OneB B bp w) (hb : Below w.heap.size w w') : OneB B bp w' := (hb.block _ (Array.getElem?_eq_some_iff.1 h).1).trans h
theorem OneB.alloc {B bp : Nat} {w : World} {o : Obj} (h : OneB B bp w) : OneB B bp (w.alloc o) := h.next (bel_alloc (Below.refl _ _) o)
theorem OneB.drewN {B bp n : Nat} {w : World} (h : OneB B bp w) : OneB B bp (w.drewN n) := h.next (bel_drew (Below.refl _ _) n)
theorem OneB.drew {B bp : Nat} {w : World} (h : OneB B bp w) : OneB B bp w.drew := h.next (bel_drew1 (Below.refl _ _))
theorem OneB.set {B bp : Nat} {w : World} {p : Addr} {u : Value} (h : OneB B bp w) (hp : B < p.block) : OneB B bp (w.setCell p u) := by
  unfold OneB
  rw [Below.heap_setCell _ _ _ _ (by omega)]
  exact h
theorem one_S {B bp : Nat} {w : World} (h : OneB B bp w) : w.cell? ⟨B, 0, none⟩ = some (.int .u8 1) ∧ w.cell? ⟨B, 1, none⟩ = some (.slice (some ⟨bp, 0, none⟩) 3 3) ∧ w.cell? ⟨B, 2, none⟩ = some (.int .i64 0) ∧ w.cell? ⟨B, 3, none⟩ = some (.int .i64 0) ∧ w.cell? ⟨B, 4, none⟩ = some (.string ⟨#[97]⟩) ∧ w.cell? ⟨B, 5, none⟩ = some (.string ⟨#[98]⟩) ∧ w.cell? ⟨B, 6, none⟩ = some (.slice none 0 0) ∧ w.cell? ⟨B, 7, none⟩ = some (.slice none 0 0) := (boxF8 h).cs
/-- Behind the region: the answers in their boxes. -/
structure Two (w2 : World) (a b : Edt) (g g' : Nat) (w : World) : Prop where
  on : Below w2.heap.size w2 w
  a : EdBox w a g
  b : EdBox w b g'
theorem two_f1 {w2 w4 : World} {a b : Edt} {ka : Nat} {pAa : Option Addr} {pna pca : Nat} {ia ja : Int} {fa ta : ByteArray} {oAa : Option Addr} {ona oca : Nat} {nAa : Option Addr} {nna nca : Nat} {kb : Nat} {pAb : Option Addr} {pnb pcb : Nat} {ib jb : Int} {fb tb : ByteArray} {oAb : Option Addr} {onb ocb : Nat} {nAb : Option Addr} {nnb ncb : Nat} (h24 : Below w2.heap.size w2 w4) (ha : EditT w4 a ka pAa pna pca ia ja fa ta oAa ona oca nAa nna nca) (hb : EditT w4 b kb pAb pnb pcb ib jb fb tb oAb onb ocb nAb nnb ncb) : Two w2 a b w4.heap.size (w4.heap.size + 1) ((w4.alloc (.cells #[.int .u8 ka, .slice pAa pna pca, .int .i64 ia, .int .i64 ja, .string fa, .string ta, .slice oAa ona oca, .slice nAa nna nca] 26)).alloc (.cells #[.int .u8 kb, .slice pAb pnb pcb, .int .i64 ib, .int .i64 jb, .string fb, .string tb, .slice oAb onb ocb, .slice nAb nnb ncb] 26)) := by
  have h : Below w4.heap.size w4 ((w4.alloc (.cells #[.int .u8 ka, .slice pAa pna pca, .int .i64 ia, .int .i64 ja, .string fa, .string ta, .slice oAa ona oca, .slice nAa nna nca] 26)).alloc (.cells #[.int .u8 kb, .slice pAb pnb pcb, .int .i64 ib, .int .i64 jb, .string fb, .string tb, .slice oAb onb ocb, .slice nAb nnb ncb] 26)) := bel_alloc (bel_alloc (Below.refl _ _) _) _
  exact ⟨bthen h24 h, ⟨_, _, _, _, _, _, _, _, _, _, _, _, _, _, (heap_alloc_old _ _ (by simp)).trans (heap_alloc_new _ _), ha.below h⟩, ⟨_, _, _, _, _, _, _, _, _, _, _, _, _, _, heap_alloc_at (by simp), hb.below h⟩⟩
theorem two_f2 {w2 w4 : World} {a b : Edt} {ka : Nat} {pAa : Option Addr} {pna pca : Nat} {ia ja : Int} {fa ta : ByteArray} {oAa : Option Addr} {ona oca : Nat} {nAa : Option Addr} {nna nca : Nat} {kb : Nat} {pAb : Option Addr} {pnb pcb : Nat} {ib jb : Int} {fb tb : ByteArray} {oAb : Option Addr} {onb ocb : Nat} {nAb : Option Addr} {nnb ncb : Nat} (h24 : Below w2.heap.size w2 w4) (ha : EditT w4 a ka pAa pna pca ia ja fa ta oAa ona oca nAa nna nca) (hb : EditT w4 b kb pAb pnb pcb ib jb fb tb oAb onb ocb nAb nnb ncb) : Two w2 a b (w4.heap.size + 1) w4.heap.size ((w4.alloc (.cells #[.int .u8 kb, .slice pAb pnb pcb, .int .i64 ib, .int .i64 jb, .string fb, .string tb, .slice oAb onb ocb, .slice nAb nnb ncb] 26)).alloc (.cells #[.int .u8 ka, .slice pAa pna pca, .int .i64 ia, .int .i64 ja, .string fa, .string ta, .slice oAa ona oca, .slice nAa nna nca] 26)) := by
  have h : Below w4.heap.size w4 ((w4.alloc (.cells #[.int .u8 kb, .slice pAb pnb pcb, .int .i64 ib, .int .i64 jb, .string fb, .string tb, .slice oAb onb ocb, .slice nAb nnb ncb] 26)).alloc (.cells #[.int .u8 ka, .slice pAa pna pca, .int .i64 ia, .int .i64 ja, .string fa, .string ta, .slice oAa ona oca, .slice nAa nna nca] 26)) := bel_alloc (bel_alloc (Below.refl _ _) _) _
  exact ⟨bthen h24 h, ⟨_, _, _, _, _, _, _, _, _, _, _, _, _, _, heap_alloc_at (by simp), ha.below h⟩, ⟨_, _, _, _, _, _, _, _, _, _, _, _, _, _, (heap_alloc_old _ _ (by simp)).trans (heap_alloc_new _ _), hb.below h⟩⟩
theorem two_f3 {z : Nat} {w2 w4 : World} {a b : Edt} {ka : Nat} {pAa : Option Addr} {pna pca : Nat} {ia ja : Int} {fa ta : ByteArray} {oAa : Option Addr} {ona oca : Nat} {nAa : Option Addr} {nna nca : Nat} {kb : Nat} {pAb : Option Addr} {pnb pcb : Nat} {ib jb : Int} {fb tb : ByteArray} {oAb : Option Addr} {onb ocb : Nat} {nAb : Option Addr} {nnb ncb : Nat} (h24 : Below w2.heap.size w2 w4) (ha : EditT w4 a ka pAa pna pca ia ja fa ta oAa ona oca nAa nna nca) (hb : EditT w4 b kb pAb pnb pcb ib jb fb tb oAb onb ocb nAb nnb ncb) (hz : ZB8 w4 z) (hlo : w2.heap.size ≤ z) : Two w2 a b z w4.heap.size ((put8 w4 z (.int .u8 ka) (.slice pAa pna pca) (.int .i64 ia) (.int .i64 ja) (.string fa) (.string ta) (.slice oAa ona oca) (.slice nAa nna nca)).alloc (.cells #[.int .u8 kb, .slice pAb pnb pcb, .int .i64 ib, .int .i64 jb, .string fb, .string tb, .slice oAb onb ocb, .slice nAb nnb ncb] 26)) := by
  have hl := hz.lt
  have hbt : But (notB z) w4 (put8 w4 z (.int .u8 ka) (.slice pAa pna pca) (.int .i64 ia) (.int .i64 ja) (.string fa) (.string ta) (.slice oAa ona oca) (.slice nAa nna nca)) := put8_butz
  have h : Below (put8 w4 z (.int .u8 ka) (.slice pAa pna pca) (.int .i64 ia) (.int .i64 ja) (.string fa) (.string ta) (.slice oAa ona oca) (.slice nAa nna nca)).heap.size (put8 w4 z (.int .u8 ka) (.slice pAa pna pca) (.int .i64 ia) (.int .i64 ja) (.string fa) (.string ta) (.slice oAa ona oca) (.slice nAa nna nca)) ((put8 w4 z (.int .u8 ka) (.slice pAa pna pca) (.int .i64 ia) (.int .i64 ja) (.string fa) (.string ta) (.slice oAa ona oca) (.slice nAa nna nca)).alloc (.cells #[.int .u8 kb, .slice pAb pnb pcb, .int .i64 ib, .int .i64 jb, .string fb, .string tb, .slice oAb onb ocb, .slice nAb nnb ncb] 26)) := bel_alloc (Below.refl _ _) _
  exact ⟨bthen (put8_below h24 hlo) h, ⟨_, _, _, _, _, _, _, _, _, _, _, _, _, _, (heap_alloc_old _ _ (by rw [put8_size]; exact hl)).trans (put8_heap hz), (ha.but hz.isBox hbt).below h⟩, ⟨_, _, _, _, _, _, _, _, _, _, _, _, _, _, heap_alloc_at put8_size, (hb.but hz.isBox hbt).below h⟩⟩
theorem two_f4 {z : Nat} {w2 w4 : World} {a b : Edt} {ka : Nat} {pAa : Option Addr} {pna pca : Nat} {ia ja : Int} {fa ta : ByteArray} {oAa : Option Addr} {ona oca : Nat} {nAa : Option Addr} {nna nca : Nat} {kb : Nat} {pAb : Option Addr} {pnb pcb : Nat} {ib jb : Int} {fb tb : ByteArray} {oAb : Option Addr} {onb ocb : Nat} {nAb : Option Addr} {nnb ncb : Nat} (h24 : Below w2.heap.size w2 w4) (ha : EditT w4 a ka pAa pna pca ia ja fa ta oAa ona oca nAa nna nca) (hb : EditT w4 b kb pAb pnb pcb ib jb fb tb oAb onb ocb nAb nnb ncb) (hz : ZB8 w4 z) (hlo : w2.heap.size ≤ z) : Two w2 a b w4.heap.size z ((put8 w4 z (.int .u8 kb) (.slice pAb pnb pcb) (.int .i64 ib) (.int .i64 jb) (.string fb) (.string tb) (.slice oAb onb ocb) (.slice nAb nnb ncb)).alloc (.cells #[.int .u8 ka, .slice pAa pna pca, .int .i64 ia, .int .i64 ja, .string fa, .string ta, .slice oAa ona oca, .slice nAa nna nca] 26)) := by
  have hl := hz.lt
  have hbt : But (notB z) w4 (put8 w4 z (.int .u8 kb) (.slice pAb pnb pcb) (.int .i64 ib) (.int .i64 jb) (.string fb) (.string tb) (.slice oAb onb ocb) (.slice nAb nnb ncb)) := put8_butz
  have h : Below (put8 w4 z (.int .u8 kb) (.slice pAb pnb pcb) (.int .i64 ib) (.int .i64 jb) (.string fb) (.string tb) (.slice oAb onb ocb) (.slice nAb nnb ncb)).heap.size (put8 w4 z (.int .u8 kb) (.slice pAb pnb pcb) (.int .i64 ib) (.int .i64 jb) (.string fb) (.string tb) (.slice oAb onb ocb) (.slice nAb nnb ncb)) ((put8 w4 z (.int .u8 kb) (.slice pAb pnb pcb) (.int .i64 ib) (.int .i64 jb) (.string fb) (.string tb) (.slice oAb onb ocb) (.slice nAb nnb ncb)).alloc (.cells #[.int .u8 ka, .slice pAa pna pca, .int .i64 ia, .int .i64 ja, .string fa, .string ta, .slice oAa ona oca, .slice nAa nna nca] 26)) := bel_alloc (Below.refl _ _) _
  exact ⟨bthen (put8_below h24 hlo) h, ⟨_, _, _, _, _, _, _, _, _, _, _, _, _, _, heap_alloc_at put8_size, (ha.but hz.isBox hbt).below h⟩, ⟨_, _, _, _, _, _, _, _, _, _, _, _, _, _, (heap_alloc_old _ _ (by rw [put8_size]; exact hl)).trans (put8_heap hz), (hb.but hz.isBox hbt).below h⟩⟩
theorem two_f5 {z z' : Nat} {w2 w4 : World} {a b : Edt} {ka : Nat} {pAa : Option Addr} {pna pca : Nat} {ia ja : Int} {fa ta : ByteArray} {oAa : Option Addr} {ona oca : Nat} {nAa : Option Addr} {nna nca : Nat} {kb : Nat} {pAb : Option Addr} {pnb pcb : Nat} {ib jb : Int} {fb tb : ByteArray} {oAb : Option Addr} {onb ocb : Nat} {nAb : Option Addr} {nnb ncb : Nat} (h24 : Below w2.heap.size w2 w4) (ha : EditT w4 a ka pAa pna pca ia ja fa ta oAa ona oca nAa nna nca) (hb : EditT w4 b kb pAb pnb pcb ib jb fb tb oAb onb ocb nAb nnb ncb) (hz : ZB8 w4 z) (hlo : w2.heap.size ≤ z) (hz' : ZB8 w4 z') (hlo' : w2.heap.size ≤ z') (hne : z ≠ z') : Two w2 a b z z' (put8 (put8 w4 z (.int .u8 ka) (.slice pAa pna pca) (.int .i64 ia) (.int .i64 ja) (.string fa) (.string ta) (.slice oAa ona oca) (.slice nAa nna nca)) z' (.int .u8 kb) (.slice pAb pnb pcb) (.int .i64 ib) (.int .i64 jb) (.string fb) (.string tb) (.slice oAb onb ocb) (.slice nAb nnb ncb)) := by
  have hbt : But (notB z) w4 (put8 w4 z (.int .u8 ka) (.slice pAa pna pca) (.int .i64 ia) (.int .i64 ja) (.string fa) (.string ta) (.slice oAa ona oca) (.slice nAa nna nca)) := put8_butz
  have hz2 : ZB8 (put8 w4 z (.int .u8 ka) (.slice pAa pna pca) (.int .i64 ia) (.int .i64 ja) (.string fa) (.string ta) (.slice oAa ona oca) (.slice nAa nna nca)) z' := (put8_other (Ne.symm hne)).trans hz'
  have hbt2 : But (notB z') (put8 w4 z (.int .u8 ka) (.slice pAa pna pca) (.int .i64 ia) (.int .i64 ja) (.string fa) (.string ta) (.slice oAa ona oca) (.slice nAa nna nca)) (put8 (put8 w4 z (.int .u8 ka) (.slice pAa pna pca) (.int .i64 ia) (.int .i64 ja) (.string fa) (.string ta) (.slice oAa ona oca) (.slice nAa nna nca)) z' (.int .u8 kb) (.slice pAb pnb pcb) (.int .i64 ib) (.int .i64 jb) (.string fb) (.string tb) (.slice oAb onb ocb) (.slice nAb nnb ncb)) := put8_butz
  exact ⟨put8_below (put8_below h24 hlo) hlo', ⟨_, _, _, _, _, _, _, _, _, _, _, _, _, _, (put8_other hne).trans (put8_heap hz), (ha.but hz.isBox hbt).but hz2.isBox hbt2⟩, ⟨_, _, _, _, _, _, _, _, _, _, _, _, _, _, put8_heap hz2, (hb.but hz.isBox hbt).but hz2.isBox hbt2⟩⟩
set_option maxRecDepth 20000 in
set_option maxHeartbeats 8000000 in
theorem aw_r7 (B bp bl : Nat) (w2 : World) (hO' : OneB B bp w2) (h1 : EditIs w2 awOne 1 (some ⟨bp, 0, none⟩) 3 3 0 0 ⟨#[97]⟩ ⟨#[98]⟩ none 0 0 none 0 0) (hL : IntsAt w2 awL (some ⟨bl, 0, none⟩) 2 2) (hE : EnvS w2)
    (z0 z2 z3 z4 z5 z6 z7 z9 z10 z11 z12 z13 z14 z15 z16 z17 z18 z19 z20 z21 z22 z23 z24 z25 z26 z27 z28 z29 z30 z31 z32 z33 z34 z35 z36 z37 z38 z39 z40 z41 z42 z43 z44 z45 z46 z47 z48 z49 z50 z51 z52 z53 z54 z55 z56 z57 z58 z59 z60 z61 z62 z63 z64 z65 z66 z67 z68 z69 z70 z71 z72 z73 z74 z75 z76 z77 z78 z79 z80 z81 z82 z83 z84 z85 z86 z87 z88 : Value) (Q : Exit → Act → World → Prop) (hQ : ∀ g g' v46 v49 v50 v51 v52 wx, Two w2 (awI 0 2) ⟨1, [0, 1, 4], 0, 0, [97], [98], [], []⟩ g g' wx → Q .normal ⟨#[z0, .slice (some ⟨bl, 0, none⟩) 2 2, z2, z3, z4, z5, z6, z7, .pointer (some ⟨B, 0, none⟩), z9, z10, z11, z12, .pointer (some ⟨g, 0, none⟩), .pointer (some ⟨g', 0, none⟩), .int .i64 0, z16, z17, z18, z19, z20, z21, z22, z23, z24, z25, z26, z27, z28, z29, z30, z31, z32, z33, z34, z35, z36, z37, z38, z39, z40, z41, z42, z43, z44, z45, v46, .agg #[.int .u8 1, .slice (some ⟨bp, 0, none⟩) 3 3, .int .i64 0, .int .i64 0, .string ⟨#[97]⟩, .string ⟨#[98]⟩, .slice none 0 0, .slice none 0 0], .slice (some ⟨bl, 0, none⟩) 2 2, v49, v50, v51, v52, .int .i64 0, z54, z55, z56, z57, z58, z59, z60, z61, z62, z63, z64, z65, z66, z67, z68, z69, z70, z71, z72, z73, z74, z75, z76, z77, z78, z79, z80, z81, z82, z83, z84, z85, z86, z87, z88], []⟩ wx) :
    ((regOf 7 (Tryz.f5.body.getD .skip)).getD .skip).wp Tryz.prog Q ⟨#[z0, .slice (some ⟨bl, 0, none⟩) 2 2, z2, z3, z4, z5, z6, z7, .pointer (some ⟨B, 0, none⟩), z9, z10, z11, z12, z13, z14, z15, z16, z17, z18, z19, z20, z21, z22, z23, z24, z25, z26, z27, z28, z29, z30, z31, z32, z33, z34, z35, z36, z37, z38, z39, z40, z41, z42, z43, z44, z45, z46, z47, z48, z49, z50, z51, z52, z53, z54, z55, z56, z57, z58, z59, z60, z61, z62, z63, z64, z65, z66, z67, z68, z69, z70, z71, z72, z73, z74, z75, z76, z77, z78, z79, z80, z81, z82, z83, z84, z85, z86, z87, z88], []⟩ w2 := by
  have HO := Lib.hid hO'
  have H1 := Lib.hid h1
  have HL := Lib.hid hL
  have HE := Lib.hid hE
  have HQ := Lib.hid hQ
  obtain ⟨o0, o1, o2, o3, o4, o5, o6, o7⟩ := one_S hO'
  have hs2 : B < w2.heap.size := (Array.getElem?_eq_some_iff.1 hO').1
  clear hO' h1 hL hE hQ
  conv in Option.getD (regOf _ _) _ => whnf
  go_region_held3 (fun w' => w'.cell? ⟨B, 0, none⟩ = some (.int .u8 1) ∧ w'.cell? ⟨B, 1, none⟩ = some (.slice (some ⟨bp, 0, none⟩) 3 3) ∧ w'.cell? ⟨B, 2, none⟩ = some (.int .i64 0) ∧ w'.cell? ⟨B, 3, none⟩ = some (.int .i64 0) ∧ w'.cell? ⟨B, 4, none⟩ = some (.string ⟨#[97]⟩) ∧ w'.cell? ⟨B, 5, none⟩ = some (.string ⟨#[98]⟩) ∧ w'.cell? ⟨B, 6, none⟩ = some (.slice none 0 0) ∧ w'.cell? ⟨B, 7, none⟩ = some (.slice none 0 0)) ((refine one_S ?_; repeat (first | with_reducible exact HO4.out | with_reducible exact HO3.out | with_reducible exact HO.out | with_reducible apply OneB.alloc | with_reducible apply OneB.drewN | with_reducible apply OneB.drew | with_reducible refine OneB.set ?_ (by dsimp only; omega))))
    (first
      | (go_at_call 7; refine (p_commute awOne (awI 0 2) _ _ _ _ _ _ _ _ _ _ _ _ _ _ _ _ _ _ _ _ _ _ _ _ _ _ _ _ _ (H1.out.below (bthen HB3.out (by (repeat (first | with_reducible exact Below.refl _ _ | with_reducible apply bel_alloc | with_reducible apply bel_drew | with_reducible apply bel_drew1))))) (HR1.out.below (by (repeat (first | with_reducible exact Below.refl _ _ | with_reducible apply bel_alloc | with_reducible apply bel_drew | with_reducible apply bel_drew1)))) (HE.out.below (bthen HB3.out (by (repeat (first | with_reducible exact Below.refl _ _ | with_reducible apply bel_alloc | with_reducible apply bel_drew | with_reducible apply bel_drew1)))) (Nat.le_refl _)) aw_tiny.2.2.2.1 aw_tiny.2.1).mono ?_; intro en w4 hc; rw [aw_4] at hc; obtain ⟨hb4, av, bv, rfl, ha, hd⟩ := hc; obtain ⟨ka, pAa, pna, pca, ia, ja, fa, ta, oAa, ona, oca, nAa, nna, nca, rfl, heda⟩ := ha; obtain ⟨kb, pAb, pnb, pcb, ib, jb, fb, tb, oAb, onb, ocb, nAb, nnb, ncb, rfl, hedb⟩ := hd; have hbb4 : Below w3.heap.size w3 w4 := bthen (by (repeat (first | with_reducible exact Below.refl _ _ | with_reducible apply bel_alloc | with_reducible apply bel_drew | with_reducible apply bel_drew1))) hb4; have HB4 := Lib.hid (bthen HB3.out hbb4); have HO4 := Lib.hid (OneB.next HO3.out hbb4); have hs4 := hbb4.size; (first | ((with_reducible have zc : ZB8 w4 w3.heap.size := ZB8.next ZB8.made hb4); have hlzc := ZB8.lt zc; obtain ⟨⟨zcc0, zcc1, zcc2, zcc3, zcc4, zcc5, zcc6, zcc7⟩, ⟨zcf0, zcf1, zcf2, zcf3, zcf4, zcf5, zcf6, zcf7⟩⟩ := ed8 zc) | ((with_reducible have zc : ZB8 w4 w3.heap.size := ZB8.next ZB8.made.alloc hb4); have hlzc := ZB8.lt zc; obtain ⟨⟨zcc0, zcc1, zcc2, zcc3, zcc4, zcc5, zcc6, zcc7⟩, ⟨zcf0, zcf1, zcf2, zcf3, zcf4, zcf5, zcf6, zcf7⟩⟩ := ed8 zc) | skip); (first | ((with_reducible have zd : ZB8 w4 (w3.heap.size + 1) := ZB8.next ZB8.made2 hb4); have hlzd := ZB8.lt zd; obtain ⟨⟨zdc0, zdc1, zdc2, zdc3, zdc4, zdc5, zdc6, zdc7⟩, ⟨zdf0, zdf1, zdf2, zdf3, zdf4, zdf5, zdf6, zdf7⟩⟩ := ed8 zd) | skip); (try (have hne1 : ¬ w2.heap.size = w3.heap.size := Nat.ne_of_lt (ZB8.lt za); have hne2 : ¬ w3.heap.size = w2.heap.size := fun e => hne1 e.symm)); (try (replace za := ZB8.next za hbb4; have hlza := ZB8.lt za; obtain ⟨⟨zac0, zac1, zac2, zac3, zac4, zac5, zac6, zac7⟩, ⟨zaf0, zaf1, zaf2, zaf3, zaf4, zaf5, zaf6, zaf7⟩⟩ := ed8 za)); (try (replace zb := ZB8.next zb hbb4; have hlzb := ZB8.lt zb; obtain ⟨⟨zbc0, zbc1, zbc2, zbc3, zbc4, zbc5, zbc6, zbc7⟩, ⟨zbf0, zbf1, zbf2, zbf3, zbf4, zbf5, zbf6, zbf7⟩⟩ := ed8 zb)); have HDA := Lib.hid heda; have HDB := Lib.hid hedb; clear heda hedb hb4 hbb4)
      | (go_at_call 12; refine (p_insert awL _ _ _ _ _ _ (HL.out.below (by (repeat (first | with_reducible exact Below.refl _ _ | with_reducible apply bel_alloc | with_reducible apply bel_drew | with_reducible apply bel_drew1)))) (fits_small (by decide) (by decide))).mono ?_; rintro en w3 ⟨kr, pAr, pnr, pcr, ir, jr, fr, tr, oAr, onr, ocr, nAr, nnr, ncr, rfl, hr1, hb3⟩; have hbb3 : Below w2.heap.size w2 w3 := bthen (by (repeat (first | with_reducible exact Below.refl _ _ | with_reducible apply bel_alloc | with_reducible apply bel_drew | with_reducible apply bel_drew1))) hb3; have HB3 := Lib.hid hbb3; have HO3 := Lib.hid (OneB.next HO.out hbb3); have hs3 := hbb3.size; (first | ((with_reducible have za : ZB8 w3 w2.heap.size := ZB8.next ZB8.made.drew hb3)) | ((with_reducible have za : ZB8 w3 w2.heap.size := ZB8.next ZB8.made.alloc.drew hb3)) | skip); (first | ((with_reducible have zb : ZB8 w3 (w2.heap.size + 1) := ZB8.next ZB8.made2.drew hb3)) | skip); have HR1 := Lib.hid hr1; clear hr1 hb3 hbb3))
  · exact HQ.out _ _ _ _ _ _ _ _ (two_f1 HB4.out HDA.out HDB.out)
  · exact HQ.out _ _ _ _ _ _ _ _ (two_f2 HB4.out HDA.out HDB.out)
  · exact HQ.out _ _ _ _ _ _ _ _ (two_f3 HB4.out HDA.out HDB.out zc (by omega))
  · exact HQ.out _ _ _ _ _ _ _ _ (two_f5 HB4.out HDA.out HDB.out zc (by omega) zd (by omega) (by omega))
  · exact HQ.out _ _ _ _ _ _ _ _ (two_f4 HB4.out HDA.out HDB.out zc (by omega))
  · exact HQ.out _ _ _ _ _ _ _ _ (two_f5 HB4.out HDA.out HDB.out zd (by omega) zc (by omega) (by omega))
  · exact HQ.out _ _ _ _ _ _ _ _ (two_f3 HB4.out HDA.out HDB.out za (by omega))
  · exact HQ.out _ _ _ _ _ _ _ _ (two_f5 HB4.out HDA.out HDB.out za (by omega) zc (by omega) hne1)
  · exact HQ.out _ _ _ _ _ _ _ _ (two_f5 HB4.out HDA.out HDB.out za (by omega) zb (by omega) (by omega))
  · exact HQ.out _ _ _ _ _ _ _ _ (two_f4 HB4.out HDA.out HDB.out za (by omega))
  · exact HQ.out _ _ _ _ _ _ _ _ (two_f5 HB4.out HDA.out HDB.out zc (by omega) za (by omega) hne2)
  · exact HQ.out _ _ _ _ _ _ _ _ (two_f5 HB4.out HDA.out HDB.out zb (by omega) za (by omega) (by omega))
end Go.Proofs.YtmikjhohnfcedaaGreatDoor

namespace Go.Proofs.YtmikjhohnfcedaaGreatDoor
set_option linter.unusedSimpArgs false
set_option linter.unusedVariables false
open Go.RowKit
set_option linter.unusedSimpArgs false

theorem ints_new {w : World} {g : Nat} {zs : List Int} {T : TypeId} (h : w.heap[g]? = some (.cells (zs.map (Value.int .i64)).toArray T (0, 0))) (hm : zs.length ≤ maxLen) : IntsAt w zs (some ⟨g, 0, none⟩) zs.length zs.length :=
  ⟨rfl, Nat.le_refl _, hm, .inr ⟨g, 0, rfl, fun j z hz => by
    rw [Nat.zero_add, cell_of_row w g j _ T (0, 0) h]
    simp [hz]⟩⟩
def awW (w : World) : World := (((((w.alloc (.cells Z8 26)).alloc (.cells Z8 26)).alloc (.cells #[.int .i64 0, .int .i64 1, .int .i64 3] 3)).alloc (.cells #[.int .u8 1, .slice (some ⟨w.heap.size + 1 + 1, 0, none⟩) 3 3, .int .i64 0, .int .i64 0, .string ⟨#[97]⟩, .string ⟨#[98]⟩, .slice none 0 0, .slice none 0 0] 26)).alloc (.cells #[.int .i64 0, .int .i64 1, .int .i64 1] 3)).alloc (.cells #[.int .u8 1, .slice (some ⟨w.heap.size + 1 + 1 + 1 + 1, 0, none⟩) 3 3, .int .i64 0, .int .i64 0, .string ⟨#[98]⟩, .string ⟨#[99]⟩, .slice none 0 0, .slice none 0 0] 26)
theorem awW_facts (w : World) : Below w.heap.size w (awW w) ∧ (awW w).heap[w.heap.size + 1 + 1 + 1]? = some (.cells #[.int .u8 1, .slice (some ⟨w.heap.size + 1 + 1, 0, none⟩) 3 3, .int .i64 0, .int .i64 0, .string ⟨#[97]⟩, .string ⟨#[98]⟩, .slice none 0 0, .slice none 0 0] 26 (0, 0)) ∧ EditIs (awW w) awOne 1 (some ⟨w.heap.size + 1 + 1, 0, none⟩) 3 3 0 0 ⟨#[97]⟩ ⟨#[98]⟩ none 0 0 none 0 0 ∧ EditIs (awW w) awTwo 1 (some ⟨w.heap.size + 1 + 1 + 1 + 1, 0, none⟩) 3 3 0 0 ⟨#[98]⟩ ⟨#[99]⟩ none 0 0 none 0 0 := by
  unfold awW
  refine ⟨bel_alloc (bel_alloc (bel_alloc (bel_alloc (bel_alloc (bel_alloc (Below.refl _ _) _) _) _) _) _) _, ?_, ⟨[0, 1, 3], [], [], rfl, ?_, KidsAt.nil _ _ (Nat.zero_le _), KidsAt.nil _ _ (Nat.zero_le _)⟩, ⟨[0, 1, 1], [], [], rfl, ?_, KidsAt.nil _ _ (Nat.zero_le _), KidsAt.nil _ _ (Nat.zero_le _)⟩⟩
  · exact (heap_alloc_old _ _ (by simp <;> omega)).trans ((heap_alloc_old _ _ (by simp <;> omega)).trans (heap_alloc_at (by simp)))
  · exact ints_new (zs := [0, 1, 3]) ((heap_alloc_old _ _ (by simp <;> omega)).trans ((heap_alloc_old _ _ (by simp <;> omega)).trans ((heap_alloc_old _ _ (by simp <;> omega)).trans (heap_alloc_at (by simp))))) (by unfold maxLen; decide)
  · exact ints_new (zs := [0, 1, 1]) ((heap_alloc_old _ _ (by simp <;> omega)).trans (heap_alloc_at (by simp))) (by unfold maxLen; decide)
set_option maxRecDepth 20000 in
set_option maxHeartbeats 4000000 in
theorem p_awake (w : World) (hE : EnvS w) : Calls Tryz.prog 5 #[] w (NamePost true w) := by
  have HE := Lib.hid hE
  have hb0 : Below w.heap.size w (w.alloc (.cells #[.int .i64 0, .int .i64 1] 3)) := (Below.refl _ _).alloc (Nat.le_refl _) _
  have HB0 := Lib.hid hb0
  have HL0 : Hid (IntsAt (w.alloc (.cells #[.int .i64 0, .int .i64 1] 3)) awL (some ⟨w.heap.size, 0, none⟩) 2 2) := ints_new (zs := awL) (heap_alloc_new _ _) (by unfold maxLen; decide)
  clear hE hb0
  go_enter Tryz.func5, Tryz.ntmps5
  go_wp2_with fail
  refine (p_insert awL _ _ _ _ _ _ HL0.out (fits_small (by decide) (by decide))).mono ?_
  rintro en w1 ⟨ka, pAa, pna, pca, ia, ja, fa, ta, oAa, ona, oca, nAa, nna, nca, rfl, heda, hba⟩
  have HB1 := Lib.hid (bthen HB0.out hba)
  have HL1 := Lib.hid (HL0.out.below hba)
  have HDa := Lib.hid heda
  clear hba heda
  go_wp2_with fail
  refine (p_insert awL _ _ _ _ _ _ HL1.out (fits_small (by decide) (by decide))).mono ?_
  rintro en w2 ⟨kb, pAb, pnb, pcb, ib, jb, fb, tb, oAb, onb, ocb, nAb, nnb, ncb, rfl, hedb, hbb⟩
  have HB2 := Lib.hid (bthen HB1.out hbb)
  have HL2 := Lib.hid (HL1.out.below hbb)
  have HDb := Lib.hid hedb
  have HBAB := Lib.hid hbb
  clear hbb hedb
  go_wp2_with fail
  refine (p_commute (awI 2 1) (awI 0 2) _ _ _ _ _ _ _ _ _ _ _ _ _ _ _ _ _ _ _ _ _ _ _ _ _ _ _ _ w2 (HDa.out.below HBAB.out) HDb.out (HE.out.below HB2.out (Nat.le_refl _)) aw_tiny.1 aw_tiny.2.1).mono ?_
  intro en w3 hc
  rw [aw_1] at hc
  obtain ⟨hb3, av, bv, rfl, ha, hd⟩ := hc
  obtain ⟨kc, pAc, pnc, pcc, ic, jc, fc, tc, oAc, onc, occ, nAc, nnc, ncc, rfl, hedc⟩ := ha
  obtain ⟨kd, pAd, pnd, pcd, id, jd, fd, td, oAd, ond, ocd, nAd, nnd, ncd, rfl, hedd⟩ := hd
  have HB3 := Lib.hid (bthen HB2.out hb3)
  have HL3 := Lib.hid (HL2.out.below hb3)
  have kc := hedc.1.kind.2.1
  have kd := hedd.1.kind.2.1
  simp only at kc kd
  subst kc kd
  clear hb3 hedc hedd
  go_wp2_with fail
  have hbA : Below w3.heap.size w3 ((w3.alloc (.cells #[.int .u8 kc, .slice pAc pnc pcc, .int .i64 0, .int .i64 jc, .string fc, .string tc, .slice oAc onc occ, .slice nAc nnc ncc] 26)).alloc (.cells #[.int .u8 kd, .slice pAd pnd pcd, .int .i64 3, .int .i64 jd, .string fd, .string td, .slice oAd ond ocd, .slice nAd nnd ncd] 26)) := bel_alloc (bel_alloc (Below.refl _ _) _) _
  have HX : Hid (((w3.alloc (.cells #[.int .u8 kc, .slice pAc pnc pcc, .int .i64 0, .int .i64 jc, .string fc, .string tc, .slice oAc onc occ, .slice nAc nnc ncc] 26)).alloc (.cells #[.int .u8 kd, .slice pAd pnd pcd, .int .i64 3, .int .i64 jd, .string fd, .string td, .slice oAd ond ocd, .slice nAd nnd ncd] 26)).heap[w3.heap.size]? = some (.cells #[.int .u8 kc, .slice pAc pnc pcc, .int .i64 0, .int .i64 jc, .string fc, .string tc, .slice oAc onc occ, .slice nAc nnc ncc] 26 (0, 0))) := (heap_alloc_old _ _ (by simp)).trans (heap_alloc_new _ _)
  have HY : Hid (((w3.alloc (.cells #[.int .u8 kc, .slice pAc pnc pcc, .int .i64 0, .int .i64 jc, .string fc, .string tc, .slice oAc onc occ, .slice nAc nnc ncc] 26)).alloc (.cells #[.int .u8 kd, .slice pAd pnd pcd, .int .i64 3, .int .i64 jd, .string fd, .string td, .slice oAd ond ocd, .slice nAd nnd ncd] 26)).heap[w3.heap.size + 1]? = some (.cells #[.int .u8 kd, .slice pAd pnd pcd, .int .i64 3, .int .i64 jd, .string fd, .string td, .slice oAd ond ocd, .slice nAd nnd ncd] 26 (0, 0))) := heap_alloc_at (by simp)
  have HBA := Lib.hid (bthen HB3.out hbA)
  have HLA := Lib.hid (HL3.out.below hbA)
  clear hbA
  refine (p_insert awL _ _ _ _ _ _ HLA.out (fits_small (by decide) (by decide))).mono ?_
  rintro en w4 ⟨ke, pAe, pne, pce, ie, je, fe, te, oAe, one, oce, nAe, nne, nce, rfl, hed, hb⟩
  have HB4 := Lib.hid (bthen HBA.out hb)
  have HL4 := Lib.hid (HLA.out.below hb)
  have HD4 := Lib.hid hed
  have HX4 := Lib.hid ((hb.block _ (Array.getElem?_eq_some_iff.1 HX.out).1).trans HX.out)
  have HY4 := Lib.hid ((hb.block _ (Array.getElem?_eq_some_iff.1 HY.out).1).trans HY.out)
  clear hb hed
  go_wp2_with fail
  refine (p_remove awL _ _ _ _ _ _ HL4.out (fits_small (by decide) (by decide))).mono ?_
  rintro en w5 ⟨kr, pAr, pnr, pcr, ir, jr, fr, tr, oAr, onr, ocr, nAr, nnr, ncr, rfl, hed, hb⟩
  have HB5 := Lib.hid (bthen HB4.out hb)
  have HL5 := Lib.hid (HL4.out.below hb)
  have HD4' := Lib.hid (HD4.out.below hb)
  have HD5 := Lib.hid hed
  have HX5 := Lib.hid ((hb.block _ (Array.getElem?_eq_some_iff.1 HX4.out).1).trans HX4.out)
  have HY5 := Lib.hid ((hb.block _ (Array.getElem?_eq_some_iff.1 HY4.out).1).trans HY4.out)
  clear hb hed
  go_wp2_with fail
  refine (p_commute (awI 2 1) (awR 3 5) _ _ _ _ _ _ _ _ _ _ _ _ _ _ _ _ _ _ _ _ _ _ _ _ _ _ _ _ w5 HD4'.out HD5.out (HE.out.below HB5.out (Nat.le_refl _)) aw_tiny.1 aw_tiny.2.2.1).mono ?_
  intro en w6 hc
  rw [aw_2] at hc
  obtain ⟨hb, rfl⟩ := hc
  have HB6 := Lib.hid (bthen HB5.out hb)
  have HL6 := Lib.hid (HL5.out.below hb)
  have HX6 := Lib.hid ((hb.block _ (Array.getElem?_eq_some_iff.1 HX5.out).1).trans HX5.out)
  have HY6 := Lib.hid ((hb.block _ (Array.getElem?_eq_some_iff.1 HY5.out).1).trans HY5.out)
  clear hb
  go_wp2_with fail
  have HW := Lib.hid (awW_facts w6)
  refine (p_commute awOne awTwo _ _ _ _ _ _ _ _ _ _ _ _ _ _ _ _ _ _ _ _ _ _ _ _ _ _ _ _ (awW w6) HW.out.2.2.1 HW.out.2.2.2 (HE.out.below (bthen HB6.out HW.out.1) (Nat.le_refl _)) aw_tiny.2.2.2.1 aw_tiny.2.2.2.2).mono ?_
  intro en w7 hc
  rw [aw_3] at hc
  obtain ⟨hb, rfl⟩ := hc
  have hb67 := bthen HW.out.1 hb
  have HB7 := Lib.hid (bthen HB6.out hb67)
  have HL7 := Lib.hid (HL6.out.below hb67)
  have HX7 := Lib.hid ((hb67.block _ (Array.getElem?_eq_some_iff.1 HX6.out).1).trans HX6.out)
  have HY7 := Lib.hid ((hb67.block _ (Array.getElem?_eq_some_iff.1 HY6.out).1).trans HY6.out)
  have HO7 := Lib.hid ((hb.block _ (Array.getElem?_eq_some_iff.1 HW.out.2.1).1).trans HW.out.2.1)
  have HE7 := Lib.hid (HW.out.2.2.1.below hb)
  clear hb hb67 HW
  obtain ⟨⟨o0, o1, o2, o3, o4, o5, o6, o7⟩, _⟩ := boxF8 HO7.out
  have hol := (Array.getElem?_eq_some_iff.1 HO7.out).1
  go_upto_region 7 with fail
  have hbB : Below w7.heap.size w7 ((w7.alloc (.cells Z8 26)).alloc (.cells Z8 26)) := bel_alloc (bel_alloc (Below.refl _ _) _) _
  refine aw_r7 (w6.heap.size + 1 + 1 + 1) (w6.heap.size + 1 + 1) w.heap.size ((w7.alloc (.cells Z8 26)).alloc (.cells Z8 26)) (OneB.next HO7.out hbB) (HE7.out.below hbB) (HL7.out.below hbB) (HE.out.below (bthen HB7.out hbB) (Nat.le_refl _)) _ _ _ _ _ _ _ _ _ _ _ _ _ _ _ _ _ _ _ _ _ _ _ _ _ _ _ _ _ _ _ _ _ _ _ _ _ _ _ _ _ _ _ _ _ _ _ _ _ _ _ _ _ _ _ _ _ _ _ _ _ _ _ _ _ _ _ _ _ _ _ _ _ _ _ _ _ _ _ _ _ _ _ _ _ _ _ _ ?_
  intro g g' v46 v49 v50 v51 v52 w8 h2
  have hb := bthen hbB h2.on
  have HB8 := Lib.hid (bthen HB7.out hb)
  have hx8 := (hb.block _ (Array.getElem?_eq_some_iff.1 HX7.out).1).trans HX7.out
  have hy8 := (hb.block _ (Array.getElem?_eq_some_iff.1 HY7.out).1).trans HY7.out
  obtain ⟨kg, pAg, png, pcg, ig, jg, fg, tg, oAg, ong, ocg, nAg, nng, ncg, hga, hta⟩ := h2.a
  obtain ⟨kh, pAh, pnh, pch, ih, jh, fh, th, oAh, onh, och, nAh, nnh, nch, hgb, htb⟩ := h2.b
  have kg := hta.1.kind.1
  have kh := htb.1.kind.2.2.2.1
  simp only at kg kh
  subst kg
  have HI := Lib.hid kh
  obtain ⟨x0, x1, x2, x3, x4, x5, x6, x7⟩ := (boxF8 hx8).cs
  obtain ⟨y0, y1, y2, y3, y4, y5, y6, y7⟩ := (boxF8 hy8).cs
  obtain ⟨p0, p1, p2, p3, p4, p5, p6, p7⟩ := (boxF8 hga).cs
  obtain ⟨q0, q1, q2, q3, q4, q5, q6, q7⟩ := (boxF8 hgb).cs
  have hl8 := (Array.getElem?_eq_some_iff.1 hgb).1
  clear hbB hb hx8 hy8 hga hgb hta htb kh h2 o0 o1 o2 o3 o4 o5 o6 o7
  go_wp2_with fail
  have hbC : Below w8.heap.size w8 (w8.alloc (.cells #[.int .i64 0, .int .i64 1, .int .i64 4] 3)) := bel_alloc (Below.refl _ _) _
  refine (k_same_ints [0, 1, 4] [0, 1, 4] _ _ _ _ _ _ _ (HI.out.below hbC) (ints_new (zs := [0, 1, 4]) (heap_alloc_new _ _) (by unfold maxLen; decide))).mono ?_
  rintro en w9 ⟨rfl, qd, hw9⟩
  have HB9 : Hid (Below w.heap.size w w9) := by rw [hw9]; exact below_drews (bthen HB8.out hbC) _
  clear hbC hw9
  have eb : (([0, 1, 4] : List Int) == [0, 1, 4]) = true := by decide
  rw [eb]
  go_wp2_with fail
  go_ret
  exact NamePost.intro rfl HB9.out
end Go.Proofs.YtmikjhohnfcedaaGreatDoor

namespace Go.Proofs.YtmikjhohnfcedaaGreatDoor
set_option linter.unusedSimpArgs false
set_option linter.unusedVariables false
open Go.RowKit
set_option linter.unusedSimpArgs false

theorem commute_err {p q : Edt} {n : Nat} (h : commuteE p q = .error n) : n = 4 ∨ n = 130 := by
  unfold commuteE at h
  split at h
  · injection h with h; exact .inl h.symm
  split at h
  · injection h with h; exact .inr h.symm
  split at h
  · injection h with h; exact .inr h.symm
  · split at h
    · cases h
    · injection h with h; exact .inr h.symm
theorem zero_is (w : World) : EditIs w Edt.zero 0 none 0 0 0 0 ⟨#[]⟩ ⟨#[]⟩ none 0 0 none 0 0 := ⟨[], [], [], rfl, ⟨rfl, Nat.le_refl _, Nat.zero_le _, .inl rfl⟩, KidsAt.nil _ _ (Nat.zero_le _), KidsAt.nil _ _ (Nat.zero_le _)⟩
theorem two_edts {w : World} {g : Nat} {p q : Edt} {k : Nat} {pA : Option Addr} {pn pc : Nat} {i j : Int} {f t : ByteArray} {oA : Option Addr} {on oc : Nat} {nA : Option Addr} {nn nc : Nat} {k' : Nat} {pA' : Option Addr} {pn' pc' : Nat} {i' j' : Int} {f' t' : ByteArray} {oA' : Option Addr} {on' oc' : Nat} {nA' : Option Addr} {nn' nc' : Nat} {T : TypeId} (hg : w.heap[g]? = some (.cells #[.int .u8 k, .slice pA pn pc, .int .i64 i, .int .i64 j, .string f, .string t, .slice oA on oc, .slice nA nn nc, .int .u8 k', .slice pA' pn' pc', .int .i64 i', .int .i64 j', .string f', .string t', .slice oA' on' oc', .slice nA' nn' nc'] T (0, 0))) (h : EditIs w p k pA pn pc i j f t oA on oc nA nn nc) (h' : EditIs w q k' pA' pn' pc' i' j' f' t' oA' on' oc' nA' nn' nc') : EdtsAt w [p, q] g := by
  have hc := fun j => cell_of_row w g j _ T (0, 0) hg
  intro m e he
  match m, he with
  | 0, he =>
    simp at he; subst he
    exact ⟨k, pA, pn, pc, i, j, f, t, oA, on, oc, nA, nn, nc, hc 0, hc 1, hc 2, hc 3, hc 4, hc 5, hc 6, hc 7, h⟩
  | 1, he =>
    simp at he; subst he
    exact ⟨k', pA', pn', pc', i', j', f', t', oA', on', oc', nA', nn', nc', hc 8, hc 9, hc 10, hc 11, hc 12, hc 13, hc 14, hc 15, h'⟩
  | m + 2, he => simp at he
theorem size_of {w : World} {e : Edt} {k : Nat} {pA : Option Addr} {pn pc : Nat} {i j : Int} {f t : ByteArray} {oA : Option Addr} {on oc : Nat} {nA : Option Addr} {nn nc : Nat} (h : EditIs w e k pA pn pc i j f t oA on oc nA nn nc) (ht : e.tiny) : f.size + t.size ≤ 9223372036854775806 := by
  have h1 := h.kind
  have h2 := ht.texts
  rw [h1.2.2.2.2.1, h1.2.2.2.2.2, bl_len, bl_len] at h2
  omega
set_option maxRecDepth 20000 in
set_option maxHeartbeats 8000000 in
theorem l_back (p q : Edt) (k : Nat) (pA : Option Addr) (pn pc : Nat) (i j : Int) (f t : ByteArray) (oA : Option Addr) (on oc : Nat) (nA : Option Addr) (nn nc : Nat) (k' : Nat) (pA' : Option Addr) (pn' pc' : Nat) (i' j' : Int) (f' t' : ByteArray) (oA' : Option Addr) (on' oc' : Nat) (nA' : Option Addr) (nn' nc' : Nat) (w : World) (h : EditIs w p k pA pn pc i j f t oA on oc nA nn nc) (h' : EditIs w q k' pA' pn' pc' i' j' f' t' oA' on' oc' nA' nn' nc') (hE : EnvS w) (hf : p.fine) (hf' : q.fine) :
    Calls Tryz.prog 3 #[.agg #[.int .u8 k, .slice pA pn pc, .int .i64 i, .int .i64 j, .string f, .string t, .slice oA on oc, .slice nA nn nc], .agg #[.int .u8 k', .slice pA' pn' pc', .int .i64 i', .int .i64 j', .string f', .string t', .slice oA' on' oc', .slice nA' nn' nc']] w (NamePost true w) := by
  have H := Lib.hid h
  have H' := Lib.hid h'
  have HE := Lib.hid hE
  have HF : Hid (∀ e ∈ [p, q], e.fine) := by intro e he; simp at he; rcases he with rfl | rfl <;> assumption
  have hb0 : Below w.heap.size w ((w.alloc (.cells #[.int .u8 k, .slice pA pn pc, .int .i64 i, .int .i64 j, .string f, .string t, .slice oA on oc, .slice nA nn nc] 26)).alloc (.cells #[.int .u8 k', .slice pA' pn' pc', .int .i64 i', .int .i64 j', .string f', .string t', .slice oA' on' oc', .slice nA' nn' nc'] 26)) := bel_alloc (bel_alloc (Below.refl _ _) _) _
  have HB0 := Lib.hid hb0
  have HP0 : Hid (((w.alloc (.cells #[.int .u8 k, .slice pA pn pc, .int .i64 i, .int .i64 j, .string f, .string t, .slice oA on oc, .slice nA nn nc] 26)).alloc (.cells #[.int .u8 k', .slice pA' pn' pc', .int .i64 i', .int .i64 j', .string f', .string t', .slice oA' on' oc', .slice nA' nn' nc'] 26)).heap[w.heap.size]? = some (.cells #[.int .u8 k, .slice pA pn pc, .int .i64 i, .int .i64 j, .string f, .string t, .slice oA on oc, .slice nA nn nc] 26 (0, 0))) := (heap_alloc_old _ _ (by simp)).trans (heap_alloc_new _ _)
  have HQ0 : Hid (((w.alloc (.cells #[.int .u8 k, .slice pA pn pc, .int .i64 i, .int .i64 j, .string f, .string t, .slice oA on oc, .slice nA nn nc] 26)).alloc (.cells #[.int .u8 k', .slice pA' pn' pc', .int .i64 i', .int .i64 j', .string f', .string t', .slice oA' on' oc', .slice nA' nn' nc'] 26)).heap[w.heap.size + 1]? = some (.cells #[.int .u8 k', .slice pA' pn' pc', .int .i64 i', .int .i64 j', .string f', .string t', .slice oA' on' oc', .slice nA' nn' nc'] 26 (0, 0))) := heap_alloc_at (by simp)
  clear h h' hE hf hf' hb0
  go_enter Tryz.func3, Tryz.ntmps3
  go_wp2_with fail
  refine (p_awake _ (HE.out.below HB0.out (Nat.le_refl _))).mono ?_
  rintro en w1 ⟨rfl, hb⟩
  have HB1 := Lib.hid (bthen HB0.out hb)
  have HP1 := Lib.hid ((hb.block _ (Array.getElem?_eq_some_iff.1 HP0.out).1).trans HP0.out)
  have HQ1 := Lib.hid ((hb.block _ (Array.getElem?_eq_some_iff.1 HQ0.out).1).trans HQ0.out)
  clear hb
  obtain ⟨p0, p1, p2, p3, p4, p5, p6, p7⟩ := (boxF8 HP1.out).cs
  obtain ⟨q0, q1, q2, q3, q4, q5, q6, q7⟩ := (boxF8 HQ1.out).cs
  go_wp2_with fail
  have hbs : Below w1.heap.size w1 (w1.alloc (.cells #[.int .u8 k, .slice pA pn pc, .int .i64 i, .int .i64 j, .string f, .string t, .slice oA on oc, .slice nA nn nc, .int .u8 k', .slice pA' pn' pc', .int .i64 i', .int .i64 j', .string f', .string t', .slice oA' on' oc', .slice nA' nn' nc'] 26)) := bel_alloc (Below.refl _ _) _
  refine (l_small [p, q] w1.heap.size 2 2 _ rfl (by omega) (Nat.le_refl _) (two_edts (heap_alloc_new _ _) (H.out.below (bthen HB1.out hbs)) (H'.out.below (bthen HB1.out hbs))) HF.out).mono ?_
  rintro en w2 ⟨rfl, hb⟩
  have hb2 := bthen hbs hb
  have HB2 := Lib.hid (bthen HB1.out hb2)
  have HP2 := Lib.hid ((hb2.block _ (Array.getElem?_eq_some_iff.1 HP1.out).1).trans HP1.out)
  have HQ2 := Lib.hid ((hb2.block _ (Array.getElem?_eq_some_iff.1 HQ1.out).1).trans HQ1.out)
  clear hb hbs hb2
  clear p0 p1 p2 p3 p4 p5 p6 p7 q0 q1 q2 q3 q4 q5 q6 q7
  cases hs : smallB [p, q] with
  | false =>
    clear hs
    go_wp2_with fail
    go_ret
    exact NamePost.intro rfl HB2.out
  | true =>
    obtain ⟨ht, ht'⟩ := small_two hs
    have HT := Lib.hid ht
    have HT' := Lib.hid ht'
    clear hs ht ht'
    obtain ⟨p0, p1, p2, p3, p4, p5, p6, p7⟩ := (boxF8 HP2.out).cs
    obtain ⟨q0, q1, q2, q3, q4, q5, q6, q7⟩ := (boxF8 HQ2.out).cs
    go_wp2_with fail
    refine (p_commute p q _ _ _ _ _ _ _ _ _ _ _ _ _ _ _ _ _ _ _ _ _ _ _ _ _ _ _ _ w2 (H.out.below HB2.out) (H'.out.below HB2.out) (HE.out.below HB2.out (Nat.le_refl _)) HT.out HT'.out).mono ?_
    intro en w3 hc
    have HB3 := Lib.hid (bthen HB2.out hc.1)
    have hb := hc.1
    have HP3 := Lib.hid ((hb.block _ (Array.getElem?_eq_some_iff.1 HP2.out).1).trans HP2.out)
    have HQ3 := Lib.hid ((hb.block _ (Array.getElem?_eq_some_iff.1 HQ2.out).1).trans HQ2.out)
    clear hb
    clear p0 p1 p2 p3 p4 p5 p6 p7 q0 q1 q2 q3 q4 q5 q6 q7
    cases hcm : commuteE p q with
    | error n =>
      rw [hcm] at hc
      obtain ⟨_, rfl⟩ := hc
      have hn := commute_err hcm
      clear hcm
      rcases hn with rfl | rfl
      all_goals
        go_wp2_with fail
        have hbz : Below w3.heap.size w3 ((w3.alloc (.cells Z8 26)).alloc (.cells Z8 26)) := bel_alloc (bel_alloc (Below.refl _ _) _) _
        refine (k_same_edit Edt.zero Edt.zero _ _ _ _ _ _ _ _ _ _ _ _ _ _ _ _ _ _ _ _ _ _ _ _ _ _ _ _ _ (zero_is _) (zero_is _)).mono ?_
        rintro en w4 ⟨rfl, hb⟩
        have ez : Edt.zero.same Edt.zero = true := (Edt.same_iff _ _).2 rfl
        rw [ez]
        have HB4 := Lib.hid (bthen HB3.out (bthen hbz hb))
        have hz : ZB8 w4 (w3.heap.size + 1) := ZB8.next (ZB8.made2 (w := w3)) hb
        obtain ⟨⟨x0, x1, x2, x3, x4, x5, x6, x7⟩, _⟩ := ed8 hz
        clear hbz hb hz
        go_wp2_with fail
        refine (k_same_edit Edt.zero Edt.zero _ _ _ _ _ _ _ _ _ _ _ _ _ _ _ _ _ _ _ _ _ _ _ _ _ _ _ _ _ (zero_is _) (zero_is _)).mono ?_
        rintro en w5 ⟨rfl, hb⟩
        rw [ez]
        have HB5 := Lib.hid (bthen HB4.out hb)
        clear hb
        go_wp2_with fail
        go_ret
        exact NamePost.intro rfl HB5.out
    | ok r =>
      obtain ⟨a, b⟩ := r
      rw [hcm] at hc
      obtain ⟨_, av, bv, rfl, ha, hd⟩ := hc
      obtain ⟨ka, pAa, pna, pca, ia, ja, fa, ta, oAa, ona, oca, nAa, nna, nca, rfl, hea⟩ := ha
      obtain ⟨kb, pAb, pnb, pcb, ib, jb, fb, tb, oAb, onb, ocb, nAb, nnb, ncb, rfl, heb⟩ := hd
      obtain ⟨hta, htb⟩ := tiny_commute HT.out HT'.out hcm
      obtain ⟨hback, hra, hrb⟩ := commute_back hcm
      have HA3 := Lib.hid hea.1
      have HD3 := Lib.hid heb.1
      have HTA := Lib.hid hta
      have HTB := Lib.hid htb
      have HBK := Lib.hid hback
      have HRA := Lib.hid hra
      have HRB := Lib.hid hrb
      clear hcm hea heb hta htb hback hra hrb
      go_wp2_with fail
      have hbz : Below w3.heap.size w3 ((w3.alloc (.cells #[.int .u8 ka, .slice pAa pna pca, .int .i64 ia, .int .i64 ja, .string fa, .string ta, .slice oAa ona oca, .slice nAa nna nca] 26)).alloc (.cells #[.int .u8 kb, .slice pAb pnb pcb, .int .i64 ib, .int .i64 jb, .string fb, .string tb, .slice oAb onb ocb, .slice nAb nnb ncb] 26)) := bel_alloc (bel_alloc (Below.refl _ _) _) _
      refine (p_commute a b _ _ _ _ _ _ _ _ _ _ _ _ _ _ _ _ _ _ _ _ _ _ _ _ _ _ _ _ _ (HA3.out.below hbz) (HD3.out.below hbz) (HE.out.below (bthen HB3.out hbz) (Nat.le_refl _)) HTA.out HTB.out).mono ?_
      intro en w4 hc
      rw [HBK.out] at hc
      obtain ⟨hb, xv, yv, rfl, hx, hy⟩ := hc
      obtain ⟨kx, pAx, pnx, pcx, ix, jx, fx, tx, oAx, onx, ocx, nAx, nnx, ncx, rfl, hex⟩ := hx
      obtain ⟨ky, pAy, pny, pcy, iy, jy, fy, ty, oAy, ony, ocy, nAy, nny, ncy, rfl, hey⟩ := hy
      have hb4 := bthen hbz hb
      have HB4 := Lib.hid (bthen HB3.out hb4)
      have HA4 := Lib.hid (HA3.out.below hb4)
      have HD4 := Lib.hid (HD3.out.below hb4)
      have HX4 := Lib.hid hex.1
      have HY4 := Lib.hid hey.1
      have HG4 : Hid (w4.heap[w3.heap.size]? = some (.cells #[.int .u8 ka, .slice pAa pna pca, .int .i64 ia, .int .i64 ja, .string fa, .string ta, .slice oAa ona oca, .slice nAa nna nca] 26 (0, 0))) := (hb.block _ (by simp; omega)).trans ((heap_alloc_old _ _ (by simp)).trans (heap_alloc_new _ _))
      have HK4 : Hid (w4.heap[w3.heap.size + 1]? = some (.cells #[.int .u8 kb, .slice pAb pnb pcb, .int .i64 ib, .int .i64 jb, .string fb, .string tb, .slice oAb onb ocb, .slice nAb nnb ncb] 26 (0, 0))) := (hb.block _ (by simp)).trans (heap_alloc_at (by simp))
      have HP4 := Lib.hid ((hb4.block _ (Array.getElem?_eq_some_iff.1 HP3.out).1).trans HP3.out)
      have HQ4 := Lib.hid ((hb4.block _ (Array.getElem?_eq_some_iff.1 HQ3.out).1).trans HQ3.out)
      clear hb hb4 hbz hex hey
      obtain ⟨g0, g1, g2, g3, g4, g5, g6, g7⟩ := (boxF8 HG4.out).cs
      have hlg := (Array.getElem?_eq_some_iff.1 HG4.out).1
      go_wp2_with fail
      have hby : Below w4.heap.size w4 ((w4.alloc (.cells #[.int .u8 kx, .slice pAx pnx pcx, .int .i64 ix, .int .i64 jx, .string fx, .string tx, .slice oAx onx ocx, .slice nAx nnx ncx] 26)).alloc (.cells #[.int .u8 ky, .slice pAy pny pcy, .int .i64 iy, .int .i64 jy, .string fy, .string ty, .slice oAy ony ocy, .slice nAy nny ncy] 26)) := bel_alloc (bel_alloc (Below.refl _ _) _) _
      refine (p_eright a _ _ _ _ _ _ _ _ _ _ _ _ _ _ _ (HA4.out.below hby) (HE.out.below (bthen HB4.out hby) (Nat.le_refl _)) (size_of HA4.out HTA.out) (tiny_sho HTA.out (by omega)) (tiny_shn HTA.out (by omega))).mono ?_
      rintro en w5 ⟨rfl, hb⟩
      rw [HRA.out]
      have hb5 := bthen hby hb
      have HB5 := Lib.hid (bthen HB4.out hb5)
      have HL5 : Hid (w5.heap[w4.heap.size]? = some (.cells #[.int .u8 kx, .slice pAx pnx pcx, .int .i64 ix, .int .i64 jx, .string fx, .string tx, .slice oAx onx ocx, .slice nAx nnx ncx] 26 (0, 0))) := (hb.block _ (by simp; omega)).trans ((heap_alloc_old _ _ (by simp)).trans (heap_alloc_new _ _))
      have HM5 : Hid (w5.heap[w4.heap.size + 1]? = some (.cells #[.int .u8 ky, .slice pAy pny pcy, .int .i64 iy, .int .i64 jy, .string fy, .string ty, .slice oAy ony ocy, .slice nAy nny ncy] 26 (0, 0))) := (hb.block _ (by simp)).trans (heap_alloc_at (by simp))
      have HX5 := Lib.hid (HX4.out.below hb5)
      have HY5 := Lib.hid (HY4.out.below hb5)
      have HD5 := Lib.hid (HD4.out.below hb5)
      have HP5 := Lib.hid ((hb5.block _ (Array.getElem?_eq_some_iff.1 HP4.out).1).trans HP4.out)
      have HQ5 := Lib.hid ((hb5.block _ (Array.getElem?_eq_some_iff.1 HQ4.out).1).trans HQ4.out)
      have HK5 := Lib.hid ((hb5.block _ (Array.getElem?_eq_some_iff.1 HK4.out).1).trans HK4.out)
      clear hb hb5 hby g0 g1 g2 g3 g4 g5 g6 g7
      obtain ⟨r0, r1, r2, r3, r4, r5, r6, r7⟩ := (boxF8 HK5.out).cs
      go_wp2_with fail
      refine (p_eright b _ _ _ _ _ _ _ _ _ _ _ _ _ _ _ HD5.out (HE.out.below HB5.out (Nat.le_refl _)) (size_of HD5.out HTB.out) (tiny_sho HTB.out (by omega)) (tiny_shn HTB.out (by omega))).mono ?_
      rintro en w6 ⟨rfl, hb⟩
      rw [HRB.out]
      have HB6 := Lib.hid (bthen HB5.out hb)
      have HX6 := Lib.hid (HX5.out.below hb)
      have HY6 := Lib.hid (HY5.out.below hb)
      have HP6 := Lib.hid ((hb.block _ (Array.getElem?_eq_some_iff.1 HP5.out).1).trans HP5.out)
      have HQ6 := Lib.hid ((hb.block _ (Array.getElem?_eq_some_iff.1 HQ5.out).1).trans HQ5.out)
      have HL6 := Lib.hid ((hb.block _ (Array.getElem?_eq_some_iff.1 HL5.out).1).trans HL5.out)
      have HM6 := Lib.hid ((hb.block _ (Array.getElem?_eq_some_iff.1 HM5.out).1).trans HM5.out)
      clear hb r0 r1 r2 r3 r4 r5 r6 r7
      obtain ⟨p0, p1, p2, p3, p4, p5, p6, p7⟩ := (boxF8 HP6.out).cs
      obtain ⟨l0, l1, l2, l3, l4, l5, l6, l7⟩ := (boxF8 HL6.out).cs
      go_wp2_with fail
      refine (k_same_edit p p _ _ _ _ _ _ _ _ _ _ _ _ _ _ _ _ _ _ _ _ _ _ _ _ _ _ _ _ w6 HX6.out (H.out.below HB6.out)).mono ?_
      rintro en w7 ⟨rfl, hb⟩
      have ep : p.same p = true := (Edt.same_iff _ _).2 rfl
      rw [ep]
      have HB7 := Lib.hid (bthen HB6.out hb)
      have HY7 := Lib.hid (HY6.out.below hb)
      have HQ7 := Lib.hid ((hb.block _ (Array.getElem?_eq_some_iff.1 HQ6.out).1).trans HQ6.out)
      have HM7 := Lib.hid ((hb.block _ (Array.getElem?_eq_some_iff.1 HM6.out).1).trans HM6.out)
      clear hb p0 p1 p2 p3 p4 p5 p6 p7 l0 l1 l2 l3 l4 l5 l6 l7
      obtain ⟨q0, q1, q2, q3, q4, q5, q6, q7⟩ := (boxF8 HQ7.out).cs
      obtain ⟨m0, m1, m2, m3, m4, m5, m6, m7⟩ := (boxF8 HM7.out).cs
      go_wp2_with fail
      refine (k_same_edit q q _ _ _ _ _ _ _ _ _ _ _ _ _ _ _ _ _ _ _ _ _ _ _ _ _ _ _ _ w7 HY7.out (H'.out.below HB7.out)).mono ?_
      rintro en w8 ⟨rfl, hb⟩
      have eq : q.same q = true := (Edt.same_iff _ _).2 rfl
      rw [eq]
      have HB8 := Lib.hid (bthen HB7.out hb)
      clear hb
      go_wp2_with fail
      go_ret
      exact NamePost.intro rfl HB8.out
end Go.Proofs.YtmikjhohnfcedaaGreatDoor

namespace Go.Proofs.YtmikjhohnfcedaaGreatDoor
set_option linter.unusedSimpArgs false
set_option linter.unusedVariables false
open Go.RowKit Go.Deep
set_option linter.unusedSimpArgs false

theorem choose_list {α : Type} [Inhabited α] {n : Nat} {p : Nat → α → Prop} (h : ∀ i, i < n → ∃ v, p i v) : ∃ l : List α, l.length = n ∧ ∀ i v, l[i]? = some v → p i v := by
  induction n with
  | zero => exact ⟨[], rfl, fun i v hv => by simp at hv⟩
  | succ n ih =>
    obtain ⟨l, h1, h2⟩ := ih (fun i hi => h i (by omega))
    obtain ⟨v, hv⟩ := h n (by omega)
    refine ⟨l ++ [v], by simp [h1], fun i u hu => ?_⟩
    by_cases hi : i < l.length
    · rw [List.getElem?_append_left hi] at hu
      exact h2 i u hu
    · rw [List.getElem?_append_right (by omega)] at hu
      have : i = n := by
        have := (List.getElem?_eq_some_iff.1 hu).1
        simp at this; omega
      subst this
      simp [h1] at hu
      subst hu
      exact hv
theorem list4 {α : Type} {cs : List α} (h : cs.length = 4) : ∃ a b c d, cs = [a, b, c, d] := by
  match cs, h with
  | [a, b, c, d], _ => exact ⟨a, b, c, d, rfl⟩
variable {H : Type} {enc : TypeId × Value → H} {W : World} {spare : Nat → Bool} {held : Bool}
/-- Four cells that read as a node. -/
def ReadsT (W : World) (cs : List Value) (t : Tree) : Prop := ∃ A c, cs = [.int .u8 t.kind, .string (sb t.text), .int .i64 t.num, .slice A t.kids.length c] ∧ KidsAt W t.kids A t.kids.length c ∧ t.kind ≤ 255 ∧ t.text.length ≤ maxLen ∧ fitsI t.num
theorem cells_tree {a : Addr} {cs : List Value} {t : Tree} (hc : W.cells? 0 a 4 = some cs) (h : ReadsT W cs t) : ∃ b o, a = ⟨b, o, none⟩ ∧ TreeAt W t b o := by
  obtain ⟨_, hl, hcell⟩ := World.cells?_some hc
  obtain ⟨A, c, rfl, hk, b1, b2, b3⟩ := h
  have h0 := hcell 0 (by omega)
  obtain ⟨b, o, sp⟩ := a
  cases sp with
  | some s => exfalso; simp [World.cell?, Addr.add] at h0; split at h0 <;> simp at h0
  | none =>
    refine ⟨b, o, rfl, TreeAt.of ?_ ?_ ?_ ?_ hk b1 b2 b3⟩
    · have := hcell 0 (by omega); rw [add_mid] at this; simpa using this
    · have := hcell 1 (by omega); rw [add_mid] at this; simpa using this
    · have := hcell 2 (by omega); rw [add_mid] at this; simpa using this
    · have := hcell 3 (by omega); rw [add_mid] at this; simpa using this
theorem shortL_of {L : Nat} : ∀ {ts : List Tree}, (∀ (i : Nat) (t : Tree), ts[i]? = some t → t.short L) → shortL L ts
  | [], _ => by simp [shortL]
  | t :: ts, h => by
    simp only [shortL]
    exact ⟨h 0 t rfl, shortL_of fun i u hu => h (i + 1) u (by simpa using hu)⟩
theorem weights_all {P : Program} {e : TypeId} {z : Nat} : ∀ {l : List (DataW H)} {i : Nat} {d : DataW H}, l[i]? = some d → z ∈ d.weights P e → z ∈ DataW.weightsAll P e l
  | d0 :: l, 0, d, hd, hz => by
    simp only [List.getElem?_cons_zero, Option.some.injEq] at hd
    subst hd
    simp only [DataW.weightsAll, List.mem_append]
    exact .inl hz
  | d0 :: l, i + 1, d, hd, hz => by
    simp only [List.getElem?_cons_succ] at hd
    simp only [DataW.weightsAll, List.mem_append]
    exact .inr (weights_all hd hz)
  | [], _, _, hd, _ => by simp at hd
/-- What a node's reading says at a fuel. -/
def NodeOpens (enc : TypeId × Value → H) (W : World) (spare : Nat → Bool) (held : Bool) (n : Nat) : Prop := ∀ (cs : List Value) (x : DataW H × List MemPlace), DataW.trod enc Tryz.prog W 0 spare held n 40 cs = some x → ∃ t, ReadsT W cs t ∧ ((∀ z ∈ x.1.weights Tryz.prog 40, z ≤ reachBytes) → t.short LL)
theorem open_nodes_of {n : Nat} (ih : ∀ q, q < n → NodeOpens enc W spare held q) {cs : List Value} {x : DataW H × List MemPlace} (h : DataW.trod enc Tryz.prog W 0 spare held n 24 cs = some x) :
    ∃ A ts c, cs = [.slice A ts.length c] ∧ KidsAt W ts A ts.length c ∧ ((∀ z ∈ x.1.weights Tryz.prog 24, z ≤ reachBytes) → shortL LL ts) := by
  have k4 : Tryz.prog.cellsOf 40 = 4 := by kernel_rfl
  rcases DataW.trod_slice Tryz.underlying24 h with ⟨g3, _⟩ | ⟨a, len, cap, elems, rest, q, rfl, g3, hx0, _, hle, hcm, hel, hx, _⟩
  · subst g3
    exact ⟨none, [], 0, rfl, KidsAt.nil _ _ (Nat.zero_le _), fun _ => by simp [shortL]⟩
  · subst g3
    obtain ⟨ts, h1, h2⟩ := choose_list (α := Tree) (n := len) (p := fun i t => (∃ b o, a.add (i * 4) = ⟨b, o, none⟩ ∧ TreeAt W t b o) ∧ ((∀ z ∈ x.1.weights Tryz.prog 24, z ≤ reachBytes) → t.short LL)) (fun i hi => by
      have h3 := hx i hi
      rw [List.getElem?_eq_getElem (by omega), k4] at h3
      obtain ⟨cs', h4, h5⟩ := Option.bind_eq_some_iff.1 h3
      obtain ⟨t, ht, hsh⟩ := ih q (by omega) cs' _ h5
      obtain ⟨b, o, h6, h7⟩ := cells_tree h4 ht
      refine ⟨t, ⟨b, o, h6, h7⟩, fun hz => hsh fun z hm => hz z ?_⟩
      rw [hx0]
      simp only [DataW.weights, Tryz.underlying24, List.mem_cons, List.mem_append]
      exact .inr (.inl (weights_all (i := i) (by rw [List.getElem?_map, List.getElem?_eq_getElem (by omega)]; rfl) hm)))
    refine ⟨some a, ts, cap, by rw [h1], ⟨rfl, by rw [h1]; exact hle, hcm, ?_⟩, fun hz => shortL_of fun i t ht => (h2 i t ht).2 hz⟩
    by_cases h0 : ts = []
    · exact .inl h0
    · right
      obtain ⟨t0, ht0⟩ : ∃ t, ts[0]? = some t := ⟨ts[0]'(List.length_pos_iff.2 h0), List.getElem?_eq_getElem _⟩
      obtain ⟨⟨b, o, h3, _⟩, _⟩ := h2 0 t0 ht0
      have ha : a = ⟨b, o, none⟩ := by simpa [Addr.add] using h3
      refine ⟨b, o, by rw [ha], RowAt.mk fun i t ht => ?_⟩
      obtain ⟨⟨b', o', h4, h5⟩, _⟩ := h2 i t ht
      rw [ha, add_mid] at h4
      injection h4 with h6 h7
      subst h6 h7
      exact h5
theorem weights_field {P : Program} {t : TypeId} {fs : Array Field} (hu : P.underlying t = some (.struct fs)) {ds : List (DataW H)} {i : Nat} {f : Field} {d : DataW H} (hf : fs[i]? = some f) (hd : ds[i]? = some d) {z : Nat} (hz : z ∈ d.weights P f.type) : z ∈ (DataW.agg ds : DataW H).weights P t := by
  simp only [DataW.weights, hu]
  exact DataW.weights_mem_each (j := i) (t := f.type) (by simp [hf]) hd z hz
theorem open_node : ∀ (n : Nat), NodeOpens enc W spare held n := by
  intro n
  induction n using Nat.strongRecOn with
  | _ n ih =>
    intro cs x h
    obtain ⟨xs, m, rfl, rfl, hl, hlen, hf⟩ := DataW.trod_struct Tryz.underlying40 h
    obtain ⟨c0, c1, c2, c3, rfl⟩ := list4 (hl.trans (by kernel_rfl))
    obtain ⟨y0, y1, y2, y3, rfl⟩ := list4 (hlen.trans rfl)
    have e0 := hf 0 _ rfl
    have e1 := hf 1 _ rfl
    have e2 := hf 2 _ rfl
    have e3 := hf 3 _ rfl
    have k0 : Tryz.prog.cellsOf 38 = 1 := by kernel_rfl
    have k1 : Tryz.prog.cellsOf 9 = 1 := by kernel_rfl
    have k2 : Tryz.prog.cellsOf 2 = 1 := by kernel_rfl
    have k3 : Tryz.prog.cellsOf 24 = 1 := by kernel_rfl
    simp [k0] at e0
    simp [k1] at e1
    simp [k2] at e2
    simp [k3] at e3
    obtain ⟨a0, g0, -, w0⟩ := DataW.trod_int Tryz.underlying38 e0
    obtain ⟨a1, g1, hy1, w1⟩ := DataW.trod_string Tryz.underlying9 e1
    obtain ⟨a2, g2, -, w2⟩ := DataW.trod_int Tryz.underlying2 e2
    obtain ⟨A, ts, c, g3, hk, hsh⟩ := open_nodes_of (fun q hq => ih q (Nat.lt_succ_of_lt hq)) e3
    injection g0 with g0
    injection g1 with g1
    injection g2 with g2
    injection g3 with g3
    subst g0 g1 g2 g3
    have b0 : ∃ k : Nat, a0 = k ∧ k ≤ 255 := by
      have h8 := (Go.Lit.wf_int_iff _ _).1 w0
      rw [show IntKind.min .u8 = 0 by decide, show IntKind.max .u8 = 255 by decide] at h8
      exact ⟨a0.toNat, by omega, by omega⟩
    have b2 : fitsI a2 := by
      have h8 := (Go.Lit.wf_int_iff _ _).1 w2
      rw [show IntKind.min .i64 = -9223372036854775808 by decide, show IntKind.max .i64 = 9223372036854775807 by decide] at h8
      exact h8
    obtain ⟨k, rfl, hk0⟩ := b0
    refine ⟨.node k (bl a1) a2 ts, ⟨A, c, rfl, hk, hk0, w1, b2⟩, fun hz => ?_⟩
    simp only [Tree.short]
    refine ⟨?_, hsh fun z hm => hz z (weights_field (i := 3) Tryz.underlying40 rfl rfl hm)⟩
    have := hz a1.data.toList.length (weights_field (i := 1) Tryz.underlying40 rfl rfl (by simp [hy1, DataW.weights]))
    unfold reachBytes at this
    exact Nat.le_trans this (by decide)
theorem open_nodes {n : Nat} {cs : List Value} {x : DataW H × List MemPlace} (h : DataW.trod enc Tryz.prog W 0 spare held n 24 cs = some x) :
    ∃ A ts c, cs = [.slice A ts.length c] ∧ KidsAt W ts A ts.length c ∧ ((∀ z ∈ x.1.weights Tryz.prog 24, z ≤ reachBytes) → shortL LL ts) := open_nodes_of (fun q _ => open_node q) h
theorem open_ints {n : Nat} {cs : List Value} {x : DataW H × List MemPlace} (h : DataW.trod enc Tryz.prog W 0 spare held n 23 cs = some x) :
    ∃ A ps c, cs = [.slice A ps.length c] ∧ IntsAt W ps A ps.length c ∧ ((∀ z ∈ x.1.weights Tryz.prog 23, z ≤ reachBytes) → ps.length ≤ 17592186044416) := by
  have k8 : Tryz.prog.bytesOf 3 = 8 := by kernel_rfl
  rcases open_slice1 Tryz.underlying23 (by kernel_rfl) h with ⟨rfl, _⟩ | ⟨a, len, cap, m, q, V, D, Pl, rfl, _, hle, hcm, hm, rfl, hx⟩
  · exact ⟨none, [], 0, rfl, ⟨rfl, Nat.le_refl _, Nat.zero_le _, .inl rfl⟩, fun _ => by simp⟩
  · have hlm : len ≤ m := by rw [hm]; split <;> omega
    obtain ⟨ps, h1, h2⟩ := choose_list (α := Int) (n := len) (p := fun i z => W.cell? (a.add i) = some (.int .i64 z)) (fun i hi => by
      obtain ⟨h3, h4⟩ := hx i (by omega)
      obtain ⟨z, h5, _⟩ := DataW.trod_int Tryz.underlying3 h4
      injection h5 with h5
      exact ⟨z, by rw [h3, h5]⟩)
    refine ⟨some a, ps, cap, by rw [h1], ⟨rfl, by rw [h1]; exact hle, hcm, ?_⟩, fun hz => ?_⟩
    · by_cases h0 : ps = []
      · exact .inl h0
      · right
        obtain ⟨t0, ht0⟩ : ∃ t, ps[0]? = some t := ⟨ps[0]'(List.length_pos_iff.2 h0), List.getElem?_eq_getElem _⟩
        have h3 := h2 0 t0 ht0
        obtain ⟨b, o, sp⟩ := a
        cases sp with
        | some s => exfalso; simp [World.cell?, Addr.add] at h3; split at h3 <;> simp at h3
        | none => exact ⟨b, o, rfl, fun i z hi => by have := h2 i z hi; rw [add_mid] at this; exact this⟩
    · have := hz (len * 8 + (m - len) * 8) (by simp [DataW.weights, Tryz.underlying23, k8, Nat.add_mul])
      unfold reachBytes at this
      omega
theorem list8 {α : Type} {cs : List α} (h : cs.length = 8) : ∃ a b c d e f g i, cs = [a, b, c, d, e, f, g, i] := by
  match cs, h with
  | [a, b, c, d, e, f, g, i], _ => exact ⟨a, b, c, d, e, f, g, i, rfl⟩
/-- An argument of the type Edit, opened. -/
theorem open_edit {n : Nat} {cs : List Value} {x : DataW H × List MemPlace} (h : DataW.trod enc Tryz.prog W 0 spare held n 26 cs = some x) :
    ∃ (e : Edt) (k : Nat) (pA : Option Addr) (pn pc : Nat) (i j : Int) (f t : ByteArray) (oA : Option Addr) (on oc : Nat) (nA : Option Addr) (nn nc : Nat), cs = [.int .u8 k, .slice pA pn pc, .int .i64 i, .int .i64 j, .string f, .string t, .slice oA on oc, .slice nA nn nc] ∧
      EditIs W e k pA pn pc i j f t oA on oc nA nn nc ∧ ((∀ z ∈ x.1.weights Tryz.prog 26, z ≤ reachBytes) → e.fine) ∧ k ≤ 255 ∧ fitsI i ∧ fitsI j := by
  obtain ⟨xs, m, rfl, rfl, hl, hlen, hf⟩ := DataW.trod_struct Tryz.underlying26 h
  obtain ⟨c0, c1, c2, c3, c4, c5, c6, c7, rfl⟩ := list8 (hl.trans (by kernel_rfl))
  obtain ⟨y0, y1, y2, y3, y4, y5, y6, y7, rfl⟩ := list8 (hlen.trans rfl)
  have e0 := hf 0 _ rfl
  have e1 := hf 1 _ rfl
  have e2 := hf 2 _ rfl
  have e3 := hf 3 _ rfl
  have e4 := hf 4 _ rfl
  have e5 := hf 5 _ rfl
  have e6 := hf 6 _ rfl
  have e7 := hf 7 _ rfl
  have k0 : Tryz.prog.cellsOf 22 = 1 := by kernel_rfl
  have k1 : Tryz.prog.cellsOf 23 = 1 := by kernel_rfl
  have k2 : Tryz.prog.cellsOf 3 = 1 := by kernel_rfl
  have k4 : Tryz.prog.cellsOf 9 = 1 := by kernel_rfl
  have k6 : Tryz.prog.cellsOf 24 = 1 := by kernel_rfl
  simp [k0] at e0
  simp [k1] at e1
  simp [k2] at e2
  simp [k2] at e3
  simp [k4] at e4
  simp [k4] at e5
  simp [k6] at e6
  simp [k6] at e7
  obtain ⟨a0, g0, -, w0⟩ := DataW.trod_int Tryz.underlying22 e0
  obtain ⟨pA, ps, pc, g1, hp, hpz⟩ := open_ints e1
  obtain ⟨a2, g2, -, w2⟩ := DataW.trod_int Tryz.underlying3 e2
  obtain ⟨a3, g3, -, w3⟩ := DataW.trod_int Tryz.underlying3 e3
  obtain ⟨a4, g4, hy4, w4⟩ := DataW.trod_string Tryz.underlying9 e4
  obtain ⟨a5, g5, hy5, w5⟩ := DataW.trod_string Tryz.underlying9 e5
  obtain ⟨oA, os, oc, g6, ho, hoz⟩ := open_nodes e6
  obtain ⟨nA, ns, nc, g7, hn, hnz⟩ := open_nodes e7
  injection g0 with g0
  injection g1 with g1
  injection g2 with g2
  injection g3 with g3
  injection g4 with g4
  injection g5 with g5
  injection g6 with g6
  injection g7 with g7
  subst g0 g1 g2 g3 g4 g5 g6 g7
  have b0 : ∃ k : Nat, a0 = k ∧ k ≤ 255 := by
    have h8 := (Go.Lit.wf_int_iff _ _).1 w0
    rw [show IntKind.min .u8 = 0 by decide, show IntKind.max .u8 = 255 by decide] at h8
    exact ⟨a0.toNat, by omega, by omega⟩
  have fits : ∀ z, (Lit.int .i64 z).wf = true → fitsI z := fun z hz => by
    have h8 := (Go.Lit.wf_int_iff _ _).1 hz
    rw [show IntKind.min .i64 = -9223372036854775808 by decide, show IntKind.max .i64 = 9223372036854775807 by decide] at h8
    exact h8
  obtain ⟨k, rfl, hk0⟩ := b0
  refine ⟨⟨k, ps, a2, a3, bl a4, bl a5, os, ns⟩, k, pA, ps.length, pc, a2, a3, a4, a5, oA, os.length, oc, nA, ns.length, nc, rfl, ⟨ps, os, ns, rfl, hp, ho, hn⟩, fun hz => ?_, hk0, fits _ w2, fits _ w3⟩
  have z4 := hz a4.data.toList.length (weights_field (i := 4) Tryz.underlying26 rfl rfl (by simp [hy4, DataW.weights]))
  have z5 := hz a5.data.toList.length (weights_field (i := 5) Tryz.underlying26 rfl rfl (by simp [hy5, DataW.weights]))
  have q4 : (bl a4).length = a4.data.toList.length := rfl
  have q5 : (bl a5).length = a5.data.toList.length := rfl
  unfold reachBytes at z4 z5
  refine ⟨hpz fun z hm => hz z (weights_field (i := 1) Tryz.underlying26 rfl rfl hm), ?_, ?_, hoz fun z hm => hz z (weights_field (i := 6) Tryz.underlying26 rfl rfl hm), hnz fun z hm => hz z (weights_field (i := 7) Tryz.underlying26 rfl rfl hm)⟩
  · show (bl a4).length ≤ _; omega
  · show (bl a5).length ≤ _; omega
end Go.Proofs.YtmikjhohnfcedaaGreatDoor
