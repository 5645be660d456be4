/- cpu86's does, whole, but DAA, IN, OUT, CALL. -/
import Derived.Test.YtbhkndblolegaaaCq
import Derived.Test.YtbhkndblolegaaaCm
import Derived.Test.YtbhkndblolegaaaIl
namespace Go.Proofs.Ytbhkndblolegaaa
open Go.RowKit
set_option linter.unusedVariables false
set_option linter.unusedSimpArgs false

/-- Which operands an operation may have. -/
def okArgs (op d s : Int) : Bool :=
  if op ≤ 9 then decide (1 ≤ d) && decide (d ≤ 19) && decide (1 ≤ s) && decide (s ≤ 20)
  else if op ≤ 11 then decide (1 ≤ d) && decide (d ≤ 17)
  else if op ≤ 15 then decide (1 ≤ d) && decide (d ≤ 16)
  else if op = 16 then decide (1 ≤ d) && decide (d ≤ 8)
  else if op = 17 then decide (1 ≤ d) && decide (d ≤ 16) && decide (1 ≤ s) && decide (s ≤ 16)
  else if op ≤ 19 then decide (9 ≤ d) && decide (d ≤ 16)
  else if op ≤ 35 then true
  else decide (op = 42) || decide (op = 43) || decide (op = 44) || decide (op = 45) || decide (op = 48) || decide (op = 49) || decide (op = 50) || decide (op = 51)
set_option maxRecDepth 100000 in
theorem args_ok : ((List.range 52).all fun op => (List.range 21).all fun d => (List.range 21).all fun s => (headsL (op : Int) (d : Int) (s : Int)).1.isEmpty || okArgs (op : Int) (d : Int) (s : Int)) = true := by decide +kernel
theorem arg_ok (op d s : Int) (h : (headsL op d s).1 ≠ []) : okArgs op d s = true := by
  obtain ⟨a0, a1, b0, b1, c0, c1⟩ := heads_in op d s h
  have k := args_ok
  rw [List.all_eq_true] at k
  have k1 := k op.toNat (by simp; omega)
  rw [List.all_eq_true] at k1
  have k2 := k1 d.toNat (by simp; omega)
  rw [List.all_eq_true] at k2
  have k3 := k2 s.toNat (by simp; omega)
  have e1 : ((op.toNat : Nat) : Int) = op := by omega
  have e2 : ((d.toNat : Nat) : Int) = d := by omega
  have e3 : ((s.toNat : Nat) : Int) = s := by omega
  rw [e1, e2, e3] at k3
  simpa [h] using k3

/-- What an instruction does. -/
def doesL (st : St) (op d s n : Int) : St :=
  let m := ofL d s
  let N := sumN (op - 2) (getL st d n m) (getL st s n m) st.r.F.c
  let k := if op = 10 then 0 else 5
  let I := sumN k (getL st d n m) 1 st.r.F.c
  if op = 1 then setL st d n (getL st s n m) m
  else if op ≤ 8 then sumS st (op - 2) d s n m
  else if op = 9 then { st with r := setF st.r (flagsF m (sumN 7 (getL st d n m) (getL st s n m) st.r.F.c) (sumA 7 (getL st d n m) (getL st s n m) st.r.F.c)) }
  else if op ≤ 11 then setL { st with r := setF st.r { flagsF m I (sumA k (getL st d n m) 1 st.r.F.c) with c := st.r.F.c } } d n (flagsV m I) m
  else if op ≤ 15 then setL { st with r := setC st.r (turnO (op - 12) (getL st d n m) m) } d n (turnV (op - 12) (getL st d n m) st.r.F.c m) m
  else if op = 16 then setL st d n (65535 - getL st d n m) m
  else if op = 17 then setL (setL st d n (getL st s n m) m) s n (getL st d n m) m
  else if op = 18 then pushL st (getL st d n m)
  else if op = 19 then setL (popL st) d n (wordL st.D (st.r.R 4).toNat) m
  else if op = 20 then { st with r := setLow st.r 4 (pswL st.r.F) }
  else if op = 21 then { st with r := setF st.r (ofF (lowL st.r 4)) }
  else if op = 23 then { st with r := setC st.r (!st.r.F.c) }
  else if op = 24 then { st with r := setC st.r true }
  else if op = 25 then { st with r := setC st.r false }
  else if op = 26 then { st with r := setIe st.r true }
  else if op = 27 then { st with r := setIe st.r false }
  else if op = 28 then { st with r := setHalt st.r }
  else if op = 32 ∨ op = 33 then { st with r := setIp st.r ((st.r.ip + n) % 65536) }
  else if op = 35 then { popL st with r := setIp (popL st).r (wordL st.D (st.r.R 4).toNat) }
  else if 42 ≤ op ∧ holdsL st.r.F op = true then { st with r := setIp st.r ((st.r.ip + n) % 65536) }
  else st

theorem does_all (g db cap : Nat) (vi vo vc : Value) (st : St) (op d s n : Int) (hh : (headsL op d s).1 ≠ []) (n0 : 0 ≤ n) (n1 : n ≤ 65535) (h22 : ¬ op = 22) (h30 : ¬ op = 30) (h31 : ¬ op = 31) (h34 : ¬ op = 34) (w : World) (h : Sits w g db cap vi vo vc st) :
    Calls Try.prog 40 #[at0 g, .agg #[.int .i64 op, .int .i64 d, .int .i64 s, .int .u16 n]] w (Goes g db cap vi vo vc w (.tuple #[]) (doesL st op d s n)) := by
  have hof := fun w => of86_any op d s n w
  have hm := ofL_or d s
  have ha := arg_ok op d s hh
  obtain ⟨a0, a1, _⟩ := heads_in op d s hh
  unfold okArgs at ha
  unfold doesL
  simp only
  by_cases p1 : op = 1
  · subst p1
    simp at ha
    simpa using does_1 g db cap vi vo vc st d s n _ hm (by omega) (by omega) (by omega) (by omega) n0 n1 w h hof
  rw [if_neg p1]
  by_cases p8 : op ≤ 8
  · rw [if_pos p8]
    rw [if_pos (by omega)] at ha
    simp at ha
    exact does_2 g db cap vi vo vc st op d s n _ (by omega) p8 hm (by omega) (by omega) (by omega) (by omega) n0 n1 w h hof
  rw [if_neg p8]
  by_cases p9 : op = 9
  · subst p9
    simp at ha
    simpa using does_9 g db cap vi vo vc st d s n _ hm (by omega) (by omega) (by omega) (by omega) n0 n1 w h hof
  rw [if_neg p9]
  by_cases p11 : op ≤ 11
  · rw [if_pos p11]
    rw [if_neg (by omega), if_pos p11] at ha
    simp at ha
    by_cases p10 : op = 10
    · subst p10
      simpa using does_10 g db cap vi vo vc st d s n _ hm (by omega) (by omega) n0 n1 w h hof
    · obtain rfl : op = 11 := by omega
      simpa using does_11 g db cap vi vo vc st d s n _ hm (by omega) (by omega) n0 n1 w h hof
  rw [if_neg p11]
  rw [if_neg (by omega), if_neg p11] at ha
  by_cases p15 : op ≤ 15
  · rw [if_pos p15]
    rw [if_pos p15] at ha
    simp at ha
    have v := getL_lo h.ok d n (ofL d s) n0 n1
    have hv : getL st d n (ofL d s) ≤ (if ofL d s = 8 then 255 else 65535) := by
      split
      · rename_i e
        have : d ≤ 8 := by unfold ofL at e; split at e <;> omega
        unfold getL
        rw [if_pos this]
        exact lowL_hi h.ok.r _
      · exact v.2
    exact does_12 g db cap vi vo vc st op d s n _ (by omega) p15 hm (by omega) (by omega) hv n0 n1 w h hof
  rw [if_neg p15]
  rw [if_neg p15] at ha
  by_cases p16 : op = 16
  · subst p16
    simp at ha
    simpa using does_16 g db cap vi vo vc st d s n _ hm (by omega) (by omega) n0 n1 w h hof
  rw [if_neg p16]
  rw [if_neg p16] at ha
  by_cases p17 : op = 17
  · subst p17
    simp at ha
    simpa using does_17 g db cap vi vo vc st d s n _ hm (by omega) (by omega) (by omega) (by omega) n0 n1 w h hof
  rw [if_neg p17]
  rw [if_neg p17] at ha
  by_cases p18 : op = 18
  · subst p18
    simp at ha
    simpa using does_18 g db cap vi vo vc st d s n _ hm (by omega) (by omega) n0 n1 w h hof
  rw [if_neg p18]
  by_cases p19 : op = 19
  · subst p19
    simp at ha
    simpa using does_19 g db cap vi vo vc st d s n _ hm (by omega) (by omega) n0 n1 w h hof
  rw [if_neg p19]
  rw [if_neg (by omega)] at ha
  by_cases p35 : op ≤ 35
  · have hc : op = 20 ∨ op = 21 ∨ op = 23 ∨ op = 24 ∨ op = 25 ∨ op = 26 ∨ op = 27 ∨ op = 28 ∨ op = 29 ∨ op = 32 ∨ op = 33 ∨ op = 35 := by omega
    rcases hc with rfl | rfl | rfl | rfl | rfl | rfl | rfl | rfl | rfl | rfl | rfl | rfl
    · simpa using does_alone g db cap vi vo vc st 20 d s n _ _ (by omega) (fun W hW => alone_20 g db cap vi vo vc st W hW) hm n0 n1 w h hof
    · simpa using does_alone g db cap vi vo vc st 21 d s n _ _ (by omega) (fun W hW => alone_21 g db cap vi vo vc st W hW) hm n0 n1 w h hof
    · simpa using does_alone g db cap vi vo vc st 23 d s n _ _ (by omega) (fun W hW => alone_23 g db cap vi vo vc st W hW) hm n0 n1 w h hof
    · simpa using does_alone g db cap vi vo vc st 24 d s n _ _ (by omega) (fun W hW => alone_24 g db cap vi vo vc st W hW) hm n0 n1 w h hof
    · simpa using does_alone g db cap vi vo vc st 25 d s n _ _ (by omega) (fun W hW => alone_25 g db cap vi vo vc st W hW) hm n0 n1 w h hof
    · simpa using does_alone g db cap vi vo vc st 26 d s n _ _ (by omega) (fun W hW => alone_26 g db cap vi vo vc st W hW) hm n0 n1 w h hof
    · simpa using does_alone g db cap vi vo vc st 27 d s n _ _ (by omega) (fun W hW => alone_27 g db cap vi vo vc st W hW) hm n0 n1 w h hof
    · simpa using does_alone g db cap vi vo vc st 28 d s n _ _ (by omega) (fun W hW => alone_28 g db cap vi vo vc st W hW) hm n0 n1 w h hof
    · simpa using does_alone g db cap vi vo vc st 29 d s n _ _ (by omega) (fun W hW => alone_29 g db cap vi vo vc st W hW) hm n0 n1 w h hof
    · simpa using does_flow g db cap vi vo vc st 32 d s n _ _ (by omega) (fun W hW => flow_32 g db cap vi vo vc st d s n n0 n1 W hW) hm n0 n1 w h hof
    · simpa using does_flow g db cap vi vo vc st 33 d s n _ _ (by omega) (fun W hW => flow_33 g db cap vi vo vc st d s n n0 n1 W hW) hm n0 n1 w h hof
    · simpa using does_alone g db cap vi vo vc st 35 d s n _ _ (by omega) (fun W hW => alone_35 g db cap vi vo vc st W hW) hm n0 n1 w h hof
  · rw [if_neg p35] at ha
    have hc : condP op := by
      unfold condP
      simp only [Bool.or_eq_true, decide_eq_true_eq] at ha
      omega
    have hge : 42 ≤ op := by unfold condP at hc; omega
    iterate 8 rw [if_neg (by omega)]
    rw [if_neg (by omega), if_neg (by omega)]
    by_cases hl : holdsL st.r.F op = true
    · rw [if_pos ⟨hge, hl⟩]
      exact does_flow g db cap vi vo vc st op d s n _ _ (.inr (.inr (.inr hc))) (fun W hW => flow_yes g db cap vi vo vc st op d s n hc n0 n1 hl W hW) hm n0 n1 w h hof
    · rw [if_neg (fun q => hl q.2)]
      exact does_flow g db cap vi vo vc st op d s n _ _ (.inr (.inr (.inr hc))) (fun W hW => flow_no g db cap vi vo vc st op d s n hc n0 n1 (by simpa using hl) W hW) hm n0 n1 w h hof

end Go.Proofs.Ytbhkndblolegaaa
