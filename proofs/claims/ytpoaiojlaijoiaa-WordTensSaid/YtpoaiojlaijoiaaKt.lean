/- Small words for the walks: a world that is as it was below a block, carried over new blocks, stores and calls. -/
import Derived.Test.YtpoaiojlaijoiaaRows
import Derived.Test.YtpoaiojlaijoiaaSp
import Derived.WalkKit
import Derived.WalkSpells
import Derived.WalkLawsBesides
import Derived.OpenShut
import Derived.Lib.Hide
import Derived.Deep.LoopGhost
import Derived.Deep.QuietTactic
import Derived.BigQuiet
namespace Go.Proofs.Ytpoaiojlaijoiaa
open Go.RowKit

theorem bcell {W w1 : World} (hb : Below W.heap.size W w1) : (∀ b o, b < W.heap.size → w1.cell? ⟨b, o, none⟩ = W.cell? ⟨b, o, none⟩) ∧ (∀ b o, b < W.heap.size → w1.frozen? ⟨b, o, none⟩ = W.frozen? ⟨b, o, none⟩) :=
  ⟨fun b o h => hb.cell (p := ⟨b, o, none⟩) h, fun b o h => hb.frozen (p := ⟨b, o, none⟩) h⟩
theorem balloc {w W : World} (h : Below w.heap.size w W) (o : Obj) : Below w.heap.size w (W.alloc o) := h.alloc h.size o
theorem bset {w W : World} {p : Addr} {u : Value} (hp : w.heap.size ≤ p.block) (h : Below w.heap.size w W) : Below w.heap.size w (W.setCell p u) := h.setCell hp u
theorem bdrew {w W : World} (h : Below w.heap.size w W) : Below w.heap.size w W.drew := h.drew
theorem bdrewN {w W : World} (h : Below w.heap.size w W) (n : Nat) : Below w.heap.size w (W.drewN n) := ⟨h.os, h.tape, h.output, h.size, h.block⟩
theorem bthen {w W w1 : World} (k : Below W.heap.size W w1) (h : Below w.heap.size w W) : Below w.heap.size w w1 := h.trans (k.mono h.size)
theorem bsize {w W : World} (h : Below w.heap.size w W) : w.heap.size ≤ W.heap.size := h.size

theorem setCell_self {w : World} {a : Addr} {v : Value} (h : w.cell? a = some v) : w.setCell a v = w := by
  have e : w.heap.modify a.block (fun | .cells c elem frozen => .cells (if a.spot.isSome then c else c.setIfInBounds a.off v) elem frozen | o => o) = w.heap := by
    apply Array.ext
    · simp
    · intro i h1 h2
      rw [Array.getElem_modify]
      split
      · rename_i hb
        subst hb
        unfold World.cell? at h
        rw [Array.getElem?_eq_getElem h2] at h
        split at h
        · rename_i c t f heq
          have heq' := Option.some.inj heq
          rw [heq']
          split at h
          · cases h
          · rename_i hs
            simp only [hs]
            congr 1
            have hs2 : (if false = true then c else c.setIfInBounds a.off v) = c := by
              simp only [Bool.false_eq_true, if_false]
              apply Array.ext
              · simp
              · intro j g1 g2
                rw [Array.getElem_setIfInBounds]
                split
                · rename_i e1; subst e1; rw [Array.getElem?_eq_getElem g2] at h; exact (Option.some.inj h).symm
                · rfl
            simpa using hs2
        · cases h
      · rfl
  exact congrArg (fun h => ({ w with heap := h } : World)) e

end Go.Proofs.Ytpoaiojlaijoiaa
