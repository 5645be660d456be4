/- Small words for the walks: a world that is as it was below a block, carried over new blocks, stores and calls. Small words for the machine's walks: a world in which only some blocks have turned. -/
import Derived.Test.YtbhkndblolegaaaRows
import Derived.Test.YtbhkndblolegaaaPa
import Derived.WalkKit
import Derived.WalkSpells
import Derived.WalkLawsBesides
import Derived.OpenShut
import Derived.Lib.Hide
import Derived.Deep.LoopGhost
import Derived.Deep.QuietTactic
import Derived.BigQuiet
namespace Go.Proofs.Ytbhkndblolegaaa
open Go.RowKit

theorem bcell {W w1 : World} (hb : Below W.heap.size W w1) : (∀ b o, b < W.heap.size → w1.cell? ⟨b, o, none⟩ = W.cell? ⟨b, o, none⟩) ∧ (∀ b o, b < W.heap.size → w1.frozen? ⟨b, o, none⟩ = W.frozen? ⟨b, o, none⟩) :=
  ⟨fun b o h => hb.cell (p := ⟨b, o, none⟩) h, fun b o h => hb.frozen (p := ⟨b, o, none⟩) h⟩
theorem balloc {w W : World} (h : Below w.heap.size w W) (o : Obj) : Below w.heap.size w (W.alloc o) := h.alloc h.size o
theorem bset {w W : World} {p : Addr} {u : Value} (hp : w.heap.size ≤ p.block) (h : Below w.heap.size w W) : Below w.heap.size w (W.setCell p u) := h.setCell hp u
theorem bdrew {w W : World} (h : Below w.heap.size w W) : Below w.heap.size w W.drew := h.drew
theorem bdrewN {w W : World} (h : Below w.heap.size w W) (n : Nat) : Below w.heap.size w (W.drewN n) := ⟨h.os, h.tape, h.output, h.size, h.block⟩
theorem bthen {w W w1 : World} (k : Below W.heap.size W w1) (h : Below w.heap.size w W) : Below w.heap.size w w1 := h.trans (k.mono h.size)
theorem bsize {w W : World} (h : Below w.heap.size w W) : w.heap.size ≤ W.heap.size := h.size

theorem setCell_self {w : World} {a : Addr} {v : Value} (h : w.cell? a = some v) : w.setCell a v = w := by
  have e : w.heap.modify a.block (fun | .cells c elem frozen => .cells (if a.spot.isSome then c else c.setIfInBounds a.off v) elem frozen | o => o) = w.heap := by
    apply Array.ext
    · simp
    · intro i h1 h2
      rw [Array.getElem_modify]
      split
      · rename_i hb
        subst hb
        unfold World.cell? at h
        rw [Array.getElem?_eq_getElem h2] at h
        split at h
        · rename_i c t f heq
          have heq' := Option.some.inj heq
          rw [heq']
          split at h
          · cases h
          · rename_i hs
            simp only [hs]
            congr 1
            have hs2 : (if false = true then c else c.setIfInBounds a.off v) = c := by
              simp only [Bool.false_eq_true, if_false]
              apply Array.ext
              · simp
              · intro j g1 g2
                rw [Array.getElem_setIfInBounds]
                split
                · rename_i e1; subst e1; rw [Array.getElem?_eq_getElem g2] at h; exact (Option.some.inj h).symm
                · rfl
            simpa using hs2
        · cases h
      · rfl
  exact congrArg (fun h => ({ w with heap := h } : World)) e

/-- A block that is known whole, none of it frozen. -/
def Own (w : World) (g : Nat) (cs : Array Value) (t : TypeId) : Prop := w.heap[g]? = some (.cells cs t (0, 0))
theorem Own.lt {w : World} {g : Nat} {cs : Array Value} {t : TypeId} (h : Own w g cs t) : g < w.heap.size := (Array.getElem?_eq_some_iff.1 h).1
theorem own_new (w : World) (cs : Array Value) (t : TypeId) : Own (w.alloc (.cells cs t)) w.heap.size cs t := by
  show (w.heap.push _)[w.heap.size]? = _
  simp
theorem Own.alloc {w : World} {g : Nat} {cs : Array Value} {t : TypeId} (h : Own w g cs t) (o : Obj) : Own (w.alloc o) g cs t := (Below.heap_alloc w o g h.lt).trans h
theorem Own.drew {w : World} {g : Nat} {cs : Array Value} {t : TypeId} (h : Own w g cs t) : Own w.drew g cs t := h
theorem Own.drewN {w : World} {g : Nat} {cs : Array Value} {t : TypeId} (h : Own w g cs t) (n : Nat) : Own (w.drewN n) g cs t := h
theorem Own.below {w w1 : World} {g : Nat} {cs : Array Value} {t : TypeId} (h : Own w g cs t) (k : Below w.heap.size w w1) : Own w1 g cs t := (k.block g h.lt).trans h
theorem Own.setOther {w : World} {g : Nat} {cs : Array Value} {t : TypeId} (h : Own w g cs t) {a : Addr} (v : Value) (hne : g ≠ a.block) : Own (w.setCell a v) g cs t := (Below.heap_setCell w a v g hne).trans h
theorem Own.cell {w : World} {g : Nat} {cs : Array Value} {t : TypeId} (h : Own w g cs t) (i : Nat) : w.cell? ⟨g, i, none⟩ = cs[i]? := by
  have h' : w.heap[g]? = some (.cells cs t (0, 0)) := h
  simp [World.cell?, h']
theorem Own.frozen {w : World} {g : Nat} {cs : Array Value} {t : TypeId} (h : Own w g cs t) (i : Nat) : w.frozen? ⟨g, i, none⟩ = false := by
  have h' : w.heap[g]? = some (.cells cs t (0, 0)) := h
  simp [World.frozen?, h']
theorem Own.set {w : World} {g : Nat} {cs : Array Value} {t : TypeId} (h : Own w g cs t) (i : Nat) (v : Value) : Own (w.setCell ⟨g, i, none⟩ v) g (cs.setIfInBounds i v) t := by
  have h' : w.heap[g]? = some (.cells cs t (0, 0)) := h
  show (w.setCell ⟨g, i, none⟩ v).heap[g]? = _
  simp only [World.setCell, Array.getElem?_modify, if_true, h']
  rfl
theorem Own.five {w : World} {g : Nat} {a b c d e : Value} {t : TypeId} (h : Own w g #[a, b, c, d, e] t) :
    w.cell? ⟨g, 0, none⟩ = some a ∧ w.cell? ⟨g, 1, none⟩ = some b ∧ w.cell? ⟨g, 2, none⟩ = some c ∧ w.cell? ⟨g, 3, none⟩ = some d ∧ w.cell? ⟨g, 4, none⟩ = some e :=
  ⟨h.cell 0, h.cell 1, h.cell 2, h.cell 3, h.cell 4⟩
theorem cell_below {w w1 : World} {p : Addr} {v : Value} (hc : w.cell? p = some v) (h : Below w.heap.size w w1) : w1.cell? p = some v := (h.cell (World.block_lt_of_cell? w p hc)).trans hc
theorem frozen_below {w w1 : World} {p : Addr} {v : Value} (hc : w.cell? p = some v) (hf : w.frozen? p = false) (h : Below w.heap.size w w1) : w1.frozen? p = false := (h.frozen (World.block_lt_of_cell? w p hc)).trans hf

end Go.Proofs.Ytbhkndblolegaaa

namespace Go.Proofs.Ytbhkndblolegaaa
open Go.RowKit
set_option linter.unusedVariables false
set_option linter.unusedSimpArgs false

/-- What was there is as it was, but for the blocks of S. -/
structure Turn (S : Nat → Prop) (w w' : World) : Prop where
  os : w'.os = w.os
  tape : w'.tape = w.tape
  output : w'.output = w.output
  size : w.heap.size ≤ w'.heap.size
  block : ∀ k, k < w.heap.size → ¬ S k → w'.heap[k]? = w.heap[k]?
theorem Turn.refl (S : Nat → Prop) (w : World) : Turn S w w := ⟨rfl, rfl, rfl, Nat.le_refl _, fun _ _ _ => rfl⟩
theorem Turn.trans {S : Nat → Prop} {a b c : World} (h : Turn S a b) (k : Turn S b c) : Turn S a c :=
  ⟨k.os.trans h.os, k.tape.trans h.tape, k.output.trans h.output, Nat.le_trans h.size k.size, fun i hi hs => (k.block i (Nat.lt_of_lt_of_le hi h.size) hs).trans (h.block i hi hs)⟩
theorem Turn.mono {S T : Nat → Prop} {a b : World} (h : Turn S a b) (k : ∀ i, S i → T i) : Turn T a b :=
  ⟨h.os, h.tape, h.output, h.size, fun i hi hs => h.block i hi (fun q => hs (k i q))⟩
theorem Turn.of {S : Nat → Prop} {a b : World} (h : Below a.heap.size a b) : Turn S a b := ⟨h.os, h.tape, h.output, h.size, fun i hi _ => h.block i hi⟩
theorem Turn.alloc {S : Nat → Prop} {a b : World} (h : Turn S a b) (o : Obj) : Turn S a (b.alloc o) := h.trans (.of (balloc (Below.refl _ _) o))
theorem Turn.drew {S : Nat → Prop} {a b : World} (h : Turn S a b) : Turn S a b.drew := ⟨h.os, h.tape, h.output, h.size, h.block⟩
theorem Turn.drewN {S : Nat → Prop} {a b : World} (h : Turn S a b) (n : Nat) : Turn S a (b.drewN n) := ⟨h.os, h.tape, h.output, h.size, h.block⟩
theorem Turn.setCell {S : Nat → Prop} {a b : World} {p : Addr} {v : Value} (hp : S p.block ∨ a.heap.size ≤ p.block) (h : Turn S a b) : Turn S a (b.setCell p v) := by
  have hz : (b.setCell p v).heap.size = b.heap.size := by simp [World.setCell]
  refine ⟨h.os, h.tape, h.output, by rw [hz]; exact h.size, fun i hi hs => ?_⟩
  have hne : i ≠ p.block := by
    rintro rfl
    rcases hp with q | q
    · exact hs q
    · omega
  exact (Below.heap_setCell b p v i hne).trans (h.block i hi hs)
theorem Turn.below {S : Nat → Prop} {B : Nat} {w a b : World} (h : Turn S a b) (k : Below B w a) (hB : B ≤ a.heap.size) (hS : ∀ i, S i → B ≤ i) : Below B w b :=
  ⟨h.os.trans k.os, h.tape.trans k.tape, h.output.trans k.output, Nat.le_trans k.size h.size, fun i hi => (h.block i (Nat.lt_of_lt_of_le hi hB) (fun q => absurd (hS i q) (by omega))).trans (k.block i hi)⟩
theorem Own.turn {S : Nat → Prop} {w w1 : World} {g : Nat} {cs : Array Value} {t : TypeId} (h : Own w g cs t) (k : Turn S w w1) (hS : ¬ S g) : Own w1 g cs t := (k.block g h.lt hS).trans h
theorem cell_turn {S : Nat → Prop} {w w1 : World} {p : Addr} {v : Value} (hc : w.cell? p = some v) (h : Turn S w w1) (hS : ¬ S p.block) : w1.cell? p = some v := by
  have e := h.block p.block (World.block_lt_of_cell? w p hc) hS
  unfold World.cell? at hc ⊢
  rw [e]; exact hc
theorem frozen_turn {S : Nat → Prop} {w w1 : World} {p : Addr} {v : Value} (hc : w.cell? p = some v) (hf : w.frozen? p = false) (h : Turn S w w1) (hS : ¬ S p.block) : w1.frozen? p = false := by
  have e := h.block p.block (World.block_lt_of_cell? w p hc) hS
  unfold World.frozen? at hf ⊢
  rw [e]; exact hf
theorem own_eq {w : World} {g : Nat} {cs cs' : Array Value} {t : TypeId} (h : Own w g cs t) (e : cs = cs') : Own w g cs' t := e ▸ h
abbrev at0 (g : Nat) : Value := .pointer (some ⟨g, 0, none⟩)

/-- A machine's own block. -/
abbrev Mach (w : World) (g : Nat) (r : Rg) (vi vo vc vd : Value) : Prop := Own w g (cellsC r vi vo vc vd) 49
structure Mach.Cells (w : World) (g : Nat) (r : Rg) (vi vo vc vd : Value) : Prop where
  r0 : w.cell? ⟨g, 0, none⟩ = some (.int .u16 (r.R 0))
  r1 : w.cell? ⟨g, 1, none⟩ = some (.int .u16 (r.R 1))
  r2 : w.cell? ⟨g, 2, none⟩ = some (.int .u16 (r.R 2))
  r3 : w.cell? ⟨g, 3, none⟩ = some (.int .u16 (r.R 3))
  r4 : w.cell? ⟨g, 4, none⟩ = some (.int .u16 (r.R 4))
  r5 : w.cell? ⟨g, 5, none⟩ = some (.int .u16 (r.R 5))
  r6 : w.cell? ⟨g, 6, none⟩ = some (.int .u16 (r.R 6))
  r7 : w.cell? ⟨g, 7, none⟩ = some (.int .u16 (r.R 7))
  fs : w.cell? ⟨g, 8, none⟩ = some (.bool r.F.s)
  fz : w.cell? ⟨g, 9, none⟩ = some (.bool r.F.z)
  fa : w.cell? ⟨g, 10, none⟩ = some (.bool r.F.a)
  fp : w.cell? ⟨g, 11, none⟩ = some (.bool r.F.p)
  fc : w.cell? ⟨g, 12, none⟩ = some (.bool r.F.c)
  ip : w.cell? ⟨g, 13, none⟩ = some (.int .u16 r.ip)
  ie : w.cell? ⟨g, 14, none⟩ = some (.bool r.ie)
  halt : w.cell? ⟨g, 15, none⟩ = some (.bool r.halt)
  vi : w.cell? ⟨g, 16, none⟩ = some vi
  vo : w.cell? ⟨g, 17, none⟩ = some vo
  vc : w.cell? ⟨g, 18, none⟩ = some vc
  vd : w.cell? ⟨g, 19, none⟩ = some vd
theorem mach_cells {w : World} {g : Nat} {r : Rg} {vi vo vc vd : Value} (h : Mach w g r vi vo vc vd) : Mach.Cells w g r vi vo vc vd :=
  ⟨h.cell 0, h.cell 1, h.cell 2, h.cell 3, h.cell 4, h.cell 5, h.cell 6, h.cell 7, h.cell 8, h.cell 9, h.cell 10, h.cell 11, h.cell 12, h.cell 13, h.cell 14, h.cell 15, h.cell 16, h.cell 17, h.cell 18, h.cell 19⟩

end Go.Proofs.Ytbhkndblolegaaa
