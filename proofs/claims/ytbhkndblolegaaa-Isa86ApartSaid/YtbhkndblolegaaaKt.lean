/- Small words for the walks: a world that is as it was below a block, carried over new blocks, stores and calls. -/
import Derived.Test.YtbhkndblolegaaaRows
import Derived.Test.YtbhkndblolegaaaSp
import Derived.WalkKit
import Derived.WalkSpells
import Derived.WalkLawsBesides
import Derived.OpenShut
import Derived.Lib.Hide
import Derived.Deep.LoopGhost
import Derived.Deep.QuietTactic
import Derived.BigQuiet
namespace Go.Proofs.Ytbhkndblolegaaa
open Go.RowKit

theorem bcell {W w1 : World} (hb : Below W.heap.size W w1) : (∀ b o, b < W.heap.size → w1.cell? ⟨b, o, none⟩ = W.cell? ⟨b, o, none⟩) ∧ (∀ b o, b < W.heap.size → w1.frozen? ⟨b, o, none⟩ = W.frozen? ⟨b, o, none⟩) :=
  ⟨fun b o h => hb.cell (p := ⟨b, o, none⟩) h, fun b o h => hb.frozen (p := ⟨b, o, none⟩) h⟩
theorem balloc {w W : World} (h : Below w.heap.size w W) (o : Obj) : Below w.heap.size w (W.alloc o) := h.alloc h.size o
theorem bset {w W : World} {p : Addr} {u : Value} (hp : w.heap.size ≤ p.block) (h : Below w.heap.size w W) : Below w.heap.size w (W.setCell p u) := h.setCell hp u
theorem bdrew {w W : World} (h : Below w.heap.size w W) : Below w.heap.size w W.drew := h.drew
theorem bdrewN {w W : World} (h : Below w.heap.size w W) (n : Nat) : Below w.heap.size w (W.drewN n) := ⟨h.os, h.tape, h.output, h.size, h.block⟩
theorem bthen {w W w1 : World} (k : Below W.heap.size W w1) (h : Below w.heap.size w W) : Below w.heap.size w w1 := h.trans (k.mono h.size)
theorem bsize {w W : World} (h : Below w.heap.size w W) : w.heap.size ≤ W.heap.size := h.size

theorem setCell_self {w : World} {a : Addr} {v : Value} (h : w.cell? a = some v) : w.setCell a v = w := by
  have e : w.heap.modify a.block (fun | .cells c elem frozen => .cells (if a.spot.isSome then c else c.setIfInBounds a.off v) elem frozen | o => o) = w.heap := by
    apply Array.ext
    · simp
    · intro i h1 h2
      rw [Array.getElem_modify]
      split
      · rename_i hb
        subst hb
        unfold World.cell? at h
        rw [Array.getElem?_eq_getElem h2] at h
        split at h
        · rename_i c t f heq
          have heq' := Option.some.inj heq
          rw [heq']
          split at h
          · cases h
          · rename_i hs
            simp only [hs]
            congr 1
            have hs2 : (if false = true then c else c.setIfInBounds a.off v) = c := by
              simp only [Bool.false_eq_true, if_false]
              apply Array.ext
              · simp
              · intro j g1 g2
                rw [Array.getElem_setIfInBounds]
                split
                · rename_i e1; subst e1; rw [Array.getElem?_eq_getElem g2] at h; exact (Option.some.inj h).symm
                · rfl
            simpa using hs2
        · cases h
      · rfl
  exact congrArg (fun h => ({ w with heap := h } : World)) e

/-- A block that is known whole, none of it frozen. -/
def Own (w : World) (g : Nat) (cs : Array Value) (t : TypeId) : Prop := w.heap[g]? = some (.cells cs t (0, 0))
theorem Own.lt {w : World} {g : Nat} {cs : Array Value} {t : TypeId} (h : Own w g cs t) : g < w.heap.size := (Array.getElem?_eq_some_iff.1 h).1
theorem own_new (w : World) (cs : Array Value) (t : TypeId) : Own (w.alloc (.cells cs t)) w.heap.size cs t := by
  show (w.heap.push _)[w.heap.size]? = _
  simp
theorem Own.alloc {w : World} {g : Nat} {cs : Array Value} {t : TypeId} (h : Own w g cs t) (o : Obj) : Own (w.alloc o) g cs t := (Below.heap_alloc w o g h.lt).trans h
theorem Own.drew {w : World} {g : Nat} {cs : Array Value} {t : TypeId} (h : Own w g cs t) : Own w.drew g cs t := h
theorem Own.drewN {w : World} {g : Nat} {cs : Array Value} {t : TypeId} (h : Own w g cs t) (n : Nat) : Own (w.drewN n) g cs t := h
theorem Own.below {w w1 : World} {g : Nat} {cs : Array Value} {t : TypeId} (h : Own w g cs t) (k : Below w.heap.size w w1) : Own w1 g cs t := (k.block g h.lt).trans h
theorem Own.setOther {w : World} {g : Nat} {cs : Array Value} {t : TypeId} (h : Own w g cs t) {a : Addr} (v : Value) (hne : g ≠ a.block) : Own (w.setCell a v) g cs t := (Below.heap_setCell w a v g hne).trans h
theorem Own.cell {w : World} {g : Nat} {cs : Array Value} {t : TypeId} (h : Own w g cs t) (i : Nat) : w.cell? ⟨g, i, none⟩ = cs[i]? := by
  have h' : w.heap[g]? = some (.cells cs t (0, 0)) := h
  simp [World.cell?, h']
theorem Own.frozen {w : World} {g : Nat} {cs : Array Value} {t : TypeId} (h : Own w g cs t) (i : Nat) : w.frozen? ⟨g, i, none⟩ = false := by
  have h' : w.heap[g]? = some (.cells cs t (0, 0)) := h
  simp [World.frozen?, h']
theorem Own.set {w : World} {g : Nat} {cs : Array Value} {t : TypeId} (h : Own w g cs t) (i : Nat) (v : Value) : Own (w.setCell ⟨g, i, none⟩ v) g (cs.setIfInBounds i v) t := by
  have h' : w.heap[g]? = some (.cells cs t (0, 0)) := h
  show (w.setCell ⟨g, i, none⟩ v).heap[g]? = _
  simp only [World.setCell, Array.getElem?_modify, if_true, h']
  rfl
theorem Own.five {w : World} {g : Nat} {a b c d e : Value} {t : TypeId} (h : Own w g #[a, b, c, d, e] t) :
    w.cell? ⟨g, 0, none⟩ = some a ∧ w.cell? ⟨g, 1, none⟩ = some b ∧ w.cell? ⟨g, 2, none⟩ = some c ∧ w.cell? ⟨g, 3, none⟩ = some d ∧ w.cell? ⟨g, 4, none⟩ = some e :=
  ⟨h.cell 0, h.cell 1, h.cell 2, h.cell 3, h.cell 4⟩
theorem cell_below {w w1 : World} {p : Addr} {v : Value} (hc : w.cell? p = some v) (h : Below w.heap.size w w1) : w1.cell? p = some v := (h.cell (World.block_lt_of_cell? w p hc)).trans hc
theorem frozen_below {w w1 : World} {p : Addr} {v : Value} (hc : w.cell? p = some v) (hf : w.frozen? p = false) (h : Below w.heap.size w w1) : w1.frozen? p = false := (h.frozen (World.block_lt_of_cell? w p hc)).trans hf

end Go.Proofs.Ytbhkndblolegaaa
