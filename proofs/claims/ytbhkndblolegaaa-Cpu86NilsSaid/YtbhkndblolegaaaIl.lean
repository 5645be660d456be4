/- Plain law of layer 8: what is read of any bytes; no program in sight. -/
import Derived.Test.YtbhkndblolegaaaPa
import Derived.Test.YtbhkndblolegaaaIy
namespace Go.Proofs.Ytbhkndblolegaaa
set_option linter.unusedVariables false
set_option linter.unusedSimpArgs false

def sizeL (h : List Int × Int) : Nat := h.1.length + (tailN h.2).toNat
def nOf (t : Int) (b : List Int) (k : Nat) : Int := if t = 1 then b.getD k 0 else if t = 3 then nearN (b.getD k 0) else if t = 2 then b.getD k 0 + b.getD (k + 1) 0 * 256 else 0
/-- An instruction, how many bytes it takes, and what kind. -/
abbrev Told := Int × Int × Int × Int × Int × Int
/-- What one guess of the second byte comes to; none: it does not fit. -/
def tryL (b : List Int) (m : Int) : Option Told :=
  let p := guessL (b.getD 0 0) m
  let h := headsL p.1 p.2.1 p.2.2
  if h.1 = [] ∨ ¬ h.1.take (min h.1.length b.length) = b.take (min h.1.length b.length) ∨ (h.1.length = 2 ∧ ¬ h.1.getD 1 0 = m) then none
  else if b.length < sizeL h then some (0, 0, 0, 0, 0, 2)
  else some (p.1, p.2.1, p.2.2, nOf h.2 b h.1.length, sizeL h, 0)
def noneT : Told := (0, 0, 0, 0, 0, 12)
def shortT : Told := (0, 0, 0, 0, 0, 2)
def firstL (b0 : Int) : Option Told := (List.range 256).findSome? fun m : Nat => tryL [b0] (m : Int)
def readL : List Int → Told
  | [] => shortT
  | [b0] => (firstL b0).getD noneT
  | b0 :: b1 :: r => (tryL (b0 :: b1 :: r) b1).getD noneT
def toldV (r : Told) : Value := .tuple #[.agg #[.int .i64 r.1, .int .i64 r.2.1, .int .i64 r.2.2.1, .int .u16 r.2.2.2.1], .int .i64 r.2.2.2.2.1, .int .i64 r.2.2.2.2.2]

/-- Of each form its bytes lead back to it. -/
def okForm (op d s : Int) : Bool :=
  match (headsL op d s).1 with
  | [] => true
  | [a] => decide (0 ≤ a) && decide (a ≤ 255) && (List.range 256).all fun m => guessL a (m : Int) == (op, d, s)
  | [a, m] => decide (0 ≤ a) && decide (a ≤ 255) && decide (0 ≤ m) && decide (m ≤ 255) && guessL a m == (op, d, s)
  | _ => false

set_option maxRecDepth 100000 in
theorem forms_ok : ((List.range 52).all fun op => (List.range 21).all fun d => (List.range 21).all fun s => okForm (op : Int) (d : Int) (s : Int)) = true := by decide +kernel

theorem places_in (d s : Int) (h : (placesL d s).1 ≠ []) : 0 ≤ d ∧ d ≤ 20 ∧ 0 ≤ s ∧ s ≤ 20 := by
  unfold placesL at h
  have hd := wide_cases d
  have hs := wide_cases s
  repeat' split at h
  all_goals first
    | exact absurd rfl h
    | (simp_all; done)
    | (simp_all; omega)
theorem same_in (d s : Int) (h : sameL d s = true) : 1 ≤ d ∧ d ≤ 16 ∧ 1 ≤ s ∧ s ≤ 16 := by
  unfold sameL at h
  simp only [Bool.and_eq_true, Bool.not_eq_true', beq_eq_false_iff_ne, ne_eq, beq_iff_eq] at h
  have hd := wide_cases d
  have hs := wide_cases s
  omega
theorem two_in (op d s : Int) (h : (twoL op d s).1 ≠ []) : 0 ≤ d ∧ d ≤ 20 ∧ 0 ≤ s ∧ s ≤ 20 ∧ 1 ≤ op ∧ op ≤ 31 := by
  unfold twoL at h
  have hd := wide_cases d
  have hs := wide_cases s
  repeat' split at h
  all_goals first
    | exact absurd rfl h
    | (have := places_in d s h; simp_all; done)
    | (have := places_in d s h; simp_all; omega)
    | (have q := same_in d s; simp_all; done)
    | (have q := same_in d s; simp_all; omega)
theorem one_in (op d : Int) (h0 : 10 ≤ op) (h1 : op ≤ 19) (h : (oneL op d).1 ≠ []) : 0 ≤ d ∧ d ≤ 20 := by
  unfold oneL at h
  have hd := wide_cases d
  repeat' split at h
  all_goals first
    | exact absurd rfl h
    | (simp_all; done)
    | (simp_all; omega)
theorem heads_in (op d s : Int) (h : (headsL op d s).1 ≠ []) : 1 ≤ op ∧ op ≤ 51 ∧ 0 ≤ d ∧ d ≤ 20 ∧ 0 ≤ s ∧ s ≤ 20 := by
  unfold headsL at h
  repeat' split at h
  all_goals first
    | exact absurd rfl h
    | (have := two_in op d s h; omega)
    | (have := one_in op d (by simp_all) (by simp_all) h; simp_all; omega)
    | (simp_all; done)
    | (simp_all; omega)

theorem form_ok (op d s : Int) (h : (headsL op d s).1 ≠ []) : okForm op d s = true := by
  obtain ⟨a0, a1, b0, b1, c0, c1⟩ := heads_in op d s h
  have k := forms_ok
  rw [List.all_eq_true] at k
  have k1 := k op.toNat (by simp; omega)
  rw [List.all_eq_true] at k1
  have k2 := k1 d.toNat (by simp; omega)
  rw [List.all_eq_true] at k2
  have k3 := k2 s.toNat (by simp; omega)
  have e1 : ((op.toNat : Nat) : Int) = op := by omega
  have e2 : ((d.toNat : Nat) : Int) = d := by omega
  have e3 : ((s.toNat : Nat) : Int) = s := by omega
  rwa [e1, e2, e3] at k3

/-- A head is one byte that any second one leads back from, or two. -/
theorem form_cases (op d s : Int) (h : (headsL op d s).1 ≠ []) :
    (∃ a t, headsL op d s = ([a], t) ∧ 0 ≤ a ∧ a ≤ 255 ∧ ∀ m, 0 ≤ m → m ≤ 255 → guessL a m = (op, d, s)) ∨
    (∃ a m t, headsL op d s = ([a, m], t) ∧ 0 ≤ a ∧ a ≤ 255 ∧ 0 ≤ m ∧ m ≤ 255 ∧ guessL a m = (op, d, s)) := by
  have k := form_ok op d s h
  unfold okForm at k
  generalize headsL op d s = H at *
  obtain ⟨bs, t⟩ := H
  match bs, h with
  | [a], _ =>
    left
    simp only [Bool.and_eq_true, decide_eq_true_eq, List.all_eq_true] at k
    refine ⟨a, t, rfl, k.1.1, k.1.2, fun m m0 m1 => ?_⟩
    have := k.2 m.toNat (by simp; omega)
    have e : ((m.toNat : Nat) : Int) = m := by omega
    rw [e] at this
    exact LawfulBEq.eq_of_beq this
  | [a, m], _ =>
    right
    simp only [Bool.and_eq_true, decide_eq_true_eq] at k
    exact ⟨a, m, t, rfl, k.1.1.1.1, k.1.1.1.2, k.1.1.2, k.1.2, LawfulBEq.eq_of_beq k.2⟩
  | _ :: _ :: _ :: _, _ => simp at k

def Byt (b : List Int) : Prop := ∀ x ∈ b, 0 ≤ x ∧ x ≤ 255
theorem byt_getD {b : List Int} (h : Byt b) (k : Nat) : 0 ≤ b.getD k 0 ∧ b.getD k 0 ≤ 255 := by
  by_cases hk : k < b.length
  · have := h b[k] (List.getElem_mem hk)
    simpa [List.getD, hk] using this
  · simp [List.getD, hk]
theorem size_tail (hb : List Int) (t n : Int) (ht : t = 0 ∨ t = 1 ∨ t = 2 ∨ t = 3) : sizeL (hb, t) = (hb ++ tailB t n).length := by
  rcases ht with rfl | rfl | rfl | rfl <;> simp [sizeL, tailB, tailN]
theorem nof_back (hb rest : List Int) (t n : Int) (ht : t = 0 ∨ t = 1 ∨ t = 2 ∨ t = 3) (hne : hb ≠ []) (n0 : 0 ≤ n) (n1 : n ≤ 65535) (hr : rightL (hb, t) n = 0) :
    nOf t (hb ++ tailB t n ++ rest) hb.length = n := by
  unfold rightL at hr
  rw [if_neg hne] at hr
  rcases ht with rfl | rfl | rfl | rfl
  · simp at hr; simp [nOf, hr]
  · simp at hr; simp [nOf, tailB, List.getD]; omega
  · simp [nOf, tailB, List.getD, List.getElem?_append]; omega
  · simp at hr
    simp [nOf, tailB, List.getD, List.getElem?_append]
    unfold nearN at hr ⊢
    omega
theorem try_told (b : List Int) (m op d s t : Int) (hb : List Int) (hg : guessL (b.getD 0 0) m = (op, d, s)) (hh : headsL op d s = (hb, t)) (hne : hb ≠ [])
    (hp : hb.take (min hb.length b.length) = b.take (min hb.length b.length)) (hm : hb.length = 2 → hb.getD 1 0 = m) (hl : sizeL (hb, t) ≤ b.length) :
    tryL b m = some (op, d, s, nOf t b hb.length, ((sizeL (hb, t) : Nat) : Int), 0) := by
  unfold tryL
  simp only [hg, hh]
  rw [if_neg (by rintro (h | h | ⟨h, h'⟩); exact hne h; exact h hp; exact h' (hm h)), if_neg (by omega)]
theorem try_short (b : List Int) (m op d s t : Int) (hb : List Int) (hg : guessL (b.getD 0 0) m = (op, d, s)) (hh : headsL op d s = (hb, t)) (hne : hb ≠ [])
    (hp : hb.take (min hb.length b.length) = b.take (min hb.length b.length)) (hm : hb.length = 2 → hb.getD 1 0 = m) (hl : b.length < sizeL (hb, t)) :
    tryL b m = some shortT := by
  unfold tryL
  simp only [hg, hh]
  rw [if_neg (by rintro (h | h | ⟨h, h'⟩); exact hne h; exact h hp; exact h' (hm h)), if_pos hl]
  rfl
theorem range256 : List.range 256 = 0 :: (List.range 255).map (· + 1) := by rw [List.range_succ_eq_map]
theorem first_hit (b0 : Int) (r : Told) (h : tryL [b0] 0 = some r) : firstL b0 = some r := by
  unfold firstL
  rw [range256, List.findSome?_cons]
  simp [h]

theorem read_one {a : Int} {r : List Int} {o : Told} (hr : Byt r) (h : ∀ m, 0 ≤ m → m ≤ 255 → tryL (a :: r) m = some o) : readL (a :: r) = o := by
  match r, hr with
  | [], _ => simp [readL, first_hit a o (by simpa using h 0 (by omega) (by omega))]
  | m :: r, hr => simp [readL, h m (hr m (by simp)).1 (hr m (by simp)).2]

theorem read_back (op d s n : Int) (n0 : 0 ≤ n) (n1 : n ≤ 65535) (hr : rightL (headsL op d s) n = 0) (rest : List Int) (hrest : Byt rest) :
    readL (bytesL op d s n ++ rest) = (op, d, s, n, ((bytesL op d s n).length : Int), 0) ∧ 1 ≤ (bytesL op d s n).length ∧ (bytesL op d s n).length ≤ 4 := by
  have hne : (headsL op d s).1 ≠ [] := by intro h; simp [rightL, h] at hr
  have ht := (heads_tail op d s).1
  have e : bytesL op d s n = (headsL op d s).1 ++ tailB (headsL op d s).2 n := by unfold bytesL; rw [if_pos hr]
  rw [e]
  have t2 : (tailB (headsL op d s).2 n).length ≤ 2 := by
    unfold tailB; repeat' split
    all_goals simp
  have hby : Byt (tailB (headsL op d s).2 n) := by
    unfold tailB Byt; repeat' split
    all_goals (simp; try omega)
  rcases form_cases op d s hne with ⟨a, t, hh, a0, a1, hg⟩ | ⟨a, m, t, hh, a0, a1, m0, m1, hg⟩
  · rw [hh] at hr ht t2 hby ⊢
    simp only at ht t2 hby ⊢
    refine ⟨?_, by simp, by simp; omega⟩
    have hs := size_tail [a] t n ht
    have hn := nof_back [a] rest t n ht (by simp) n0 n1 hr
    refine read_one (r := tailB t n ++ rest) (fun x hx => ?_) (fun m m0 m1 => ?_)
    · rcases List.mem_append.1 hx with h | h
      · exact hby x h
      · exact hrest x h
    · have := try_told ([a] ++ tailB t n ++ rest) m op d s t [a] (by simpa using hg m m0 m1) hh (by simp) (by simp) (by simp) (by rw [hs]; simp)
      rw [hn, hs] at this
      simpa using this
  · rw [hh] at hr ht t2 hby ⊢
    simp only at ht t2 hby ⊢
    refine ⟨?_, by simp, by simp; omega⟩
    have hs := size_tail [a, m] t n ht
    have hn := nof_back [a, m] rest t n ht (by simp) n0 n1 hr
    have := try_told ([a, m] ++ tailB t n ++ rest) m op d s t [a, m] (by simpa using hg) hh (by simp) (by simp) (by simp) (by rw [hs]; simp)
    rw [hn, hs] at this
    simp only [List.cons_append, List.nil_append] at this ⊢
    simp [readL, this]

theorem try_whole (b : List Int) (m op d s n k : Int) (hl : 1 ≤ b.length) (h : tryL b m = some (op, d, s, n, k, 0)) :
    guessL (b.getD 0 0) m = (op, d, s) ∧ ∃ hb t, headsL op d s = (hb, t) ∧ hb ≠ [] ∧ hb = b.take hb.length ∧ (hb.length = 2 → hb.getD 1 0 = m) ∧ k = sizeL (hb, t) ∧ sizeL (hb, t) ≤ b.length ∧ n = nOf t b hb.length := by
  obtain ⟨p, hp⟩ : ∃ p, p = guessL (b.getD 0 0) m := ⟨_, rfl⟩
  obtain ⟨H, hH⟩ : ∃ H, H = headsL p.1 p.2.1 p.2.2 := ⟨_, rfl⟩
  unfold tryL at h
  simp only [← hp, ← hH] at h
  split at h
  · cases h
  · rename_i hc
    split at h
    · cases h
    · rename_i hs
      simp only [Option.some.injEq, Prod.mk.injEq] at h
      obtain ⟨rfl, rfl, rfl, rfl, rfl, _⟩ := h
      simp only [not_or, not_and, Classical.not_not] at hc
      obtain ⟨h1, h2, h3⟩ := hc
      refine ⟨hp.symm, H.1, H.2, hH.symm, h1, ?_, h3, rfl, Nat.le_of_not_lt hs, rfl⟩
      have : H.1.length ≤ b.length := by unfold sizeL at hs; omega
      rw [Nat.min_eq_left this, List.take_length] at h2
      exact h2

theorem bytes_whole (b : List Int) (hb : Byt b) (op d s t : Int) (h : List Int) (hh : headsL op d s = (h, t)) (hne : h ≠ []) (hp : h = b.take h.length) (hs : sizeL (h, t) ≤ b.length) :
    rightL (headsL op d s) (nOf t b h.length) = 0 ∧ bytesL op d s (nOf t b h.length) = b.take (sizeL (h, t)) ∧ 0 ≤ nOf t b h.length ∧ nOf t b h.length ≤ 65535 := by
  have ht := (heads_tail op d s).1
  have b1 := byt_getD hb h.length
  have b2 := byt_getD hb (h.length + 1)
  have hr : rightL (headsL op d s) (nOf t b h.length) = 0 := by
    rw [hh] at ht ⊢
    simp only at ht
    unfold rightL
    rw [if_neg hne]
    rcases ht with rfl | rfl | rfl | rfl
    · simp [nOf]
    · simp [nOf]; exact b1.2
    · simp [nOf]
    · have e : nearN (nearN (b.getD h.length 0)) = nearN (b.getD h.length 0) := by unfold nearN; omega
      simp only [nOf]
      simpa using e
  refine ⟨hr, ?_, ?_⟩
  · unfold bytesL
    rw [if_pos hr, hh]
    rw [hh] at ht
    simp only at ht ⊢
    rcases ht with rfl | rfl | rfl | rfl
    · simp [sizeL, tailB, tailN] at hs ⊢
      exact hp
    · simp only [sizeL, tailB, tailN, nOf] at hs ⊢
      simp at hs ⊢
      rw [List.take_add_one, ← hp]
      have : h.length < b.length := by omega
      simp only [List.getD_eq_getElem?_getD, List.getElem?_eq_getElem this] at b1 ⊢
      simp at b1 ⊢
      omega
    · simp only [sizeL, tailB, tailN, nOf] at hs ⊢
      simp at hs ⊢
      rw [List.take_add_one, List.take_add_one, ← hp]
      have h1 : h.length < b.length := by omega
      have h2 : h.length + 1 < b.length := by omega
      simp only [List.getD_eq_getElem?_getD, List.getElem?_eq_getElem h1, List.getElem?_eq_getElem h2] at b1 b2 ⊢
      simp at b1 b2 ⊢
      omega
    · simp only [sizeL, tailB, tailN, nOf] at hs ⊢
      simp at hs ⊢
      rw [List.take_add_one, ← hp]
      have : h.length < b.length := by omega
      simp only [List.getD_eq_getElem?_getD, List.getElem?_eq_getElem this] at b1 ⊢
      simp at b1 ⊢
      unfold nearN
      omega
  · unfold nOf nearN
    repeat' split
    all_goals omega

theorem try_kind (b : List Int) (m : Int) (r : Told) (h : tryL b m = some r) : r.2.2.2.2.2 = 2 ∨ r.2.2.2.2.2 = 0 := by
  unfold tryL at h
  simp only at h
  split at h
  · cases h
  · split at h
    · cases h; exact .inl rfl
    · cases h; exact .inr rfl
theorem cut_one (b0 m : Int) (h0 : 0 ≤ b0) (h1 : b0 ≤ 255) (m0 : 0 ≤ m) (m1 : m ≤ 255) (op d s t : Int) (hb : List Int) (hg : guessL b0 m = (op, d, s)) (hh : headsL op d s = (hb, t))
    (hne : hb ≠ []) (hp : hb.take 1 = [b0]) (hm : hb.length = 2 → hb.getD 1 0 = m) (hs : 2 ≤ sizeL (hb, t)) : (readL [b0]).2.2.2.2.2 = 2 := by
  have hl : 1 ≤ hb.length := by cases hb with | nil => exact absurd rfl hne | cons _ _ => simp
  have e : tryL [b0] m = some shortT := try_short [b0] m op d s t hb (by simpa using hg) hh hne (by
    have : min hb.length [b0].length = 1 := by simp; omega
    rw [this, hp]; simp) hm (by simp; omega)
  have hmem : m.toNat ∈ List.range 256 := by simp; omega
  have em : ((m.toNat : Nat) : Int) = m := by omega
  have hsome : (firstL b0).isSome := by
    unfold firstL
    rw [List.findSome?_isSome_iff]
    exact ⟨m.toNat, hmem, by rw [em, e]; rfl⟩
  obtain ⟨r, hr⟩ := Option.isSome_iff_exists.1 hsome
  simp only [readL, hr, Option.getD_some]
  unfold firstL at hr
  obtain ⟨m', _, hr'⟩ := List.exists_of_findSome?_eq_some hr
  rcases try_kind _ _ _ hr' with k | k
  · exact k
  · exfalso
    obtain ⟨o1, o2, o3, o4, o5, o6⟩ := r
    simp only at k
    subst k
    obtain ⟨hg', hb', t', hh', hne', hp', _, _, hs', _⟩ := try_whole [b0] m' o1 o2 o3 o4 o5 (by simp) hr'
    have hl' : hb'.length = 1 := by
      have h3 : hb'.length ≤ 1 := by unfold sizeL at hs'; simp only [List.length_singleton] at hs'; omega
      cases hb' with
      | nil => exact absurd rfl hne'
      | cons _ _ => simp at h3 ⊢; exact h3
    rw [hl'] at hp'
    simp at hp'
    subst hp'
    rcases form_cases o1 o2 o3 (by rw [hh']; simp) with ⟨a, t2, hh2, a0, a1, hg2⟩ | ⟨a, x, t2, hh2, _⟩
    · rw [hh'] at hh2
      simp at hh2
      obtain ⟨rfl, rfl⟩ := hh2
      have := hg2 m m0 m1
      rw [hg] at this
      simp only [Prod.mk.injEq] at this
      obtain ⟨rfl, rfl, rfl⟩ := this
      rw [hh] at hh'
      obtain ⟨rfl, rfl⟩ := Prod.mk.inj hh'
      simp only [List.length_singleton] at hs'
      omega
    · rw [hh'] at hh2
      simp at hh2

theorem read_whole (b : List Int) (hb : Byt b) (op d s n k : Int) (h : readL b = (op, d, s, n, k, 0)) :
    ∃ kk : Nat, k = kk ∧ 1 ≤ kk ∧ kk ≤ 4 ∧ kk ≤ b.length ∧ 0 ≤ n ∧ n ≤ 65535 ∧ rightL (headsL op d s) n = 0 ∧ bytesL op d s n = b.take kk ∧ ∀ cut, cut < kk → (readL (b.take cut)).2.2.2.2.2 = 2 := by
  obtain ⟨m, m0, m1, h1, hm, ht⟩ : ∃ m, 0 ≤ m ∧ m ≤ 255 ∧ 1 ≤ b.length ∧ (2 ≤ b.length → m = b.getD 1 0) ∧ tryL b m = some (op, d, s, n, k, 0) := by
    match b, hb, h with
    | [], _, h => simp [readL, shortT] at h
    | [b0], _, h =>
      simp only [readL] at h
      cases hf : firstL b0 with
      | none => rw [hf] at h; simp [noneT] at h
      | some r =>
        rw [hf] at h
        simp only [Option.getD_some] at h
        subst h
        obtain ⟨m, hm, hr⟩ := List.exists_of_findSome?_eq_some hf
        have : m < 256 := by simpa using hm
        exact ⟨m, by omega, by omega, by simp, by simp, hr⟩
    | b0 :: b1 :: r, hb, h =>
      simp only [readL] at h
      have := hb b1 (by simp)
      refine ⟨b1, this.1, this.2, by simp, by simp, ?_⟩
      cases hf : tryL (b0 :: b1 :: r) b1 with
      | none => rw [hf] at h; simp [noneT] at h
      | some r => rw [hf] at h; simpa using h
  obtain ⟨hg, hd, t, hh, hne, hp, hm2, rfl, hs, rfl⟩ := try_whole b m op d s n k h1 ht
  obtain ⟨hr, hbs, n0, n1⟩ := bytes_whole b hb op d s t hd hh hne hp hs
  have hbk := read_back op d s _ n0 n1 hr [] (by intro x hx; cases hx)
  have hlen : (bytesL op d s (nOf t b hd.length)).length = sizeL (hd, t) := by rw [hbs]; simp; omega
  rw [hlen] at hbk
  refine ⟨sizeL (hd, t), rfl, hbk.2.1, hbk.2.2, hs, n0, n1, hr, hbs, fun cut hcut => ?_⟩
  match b, hb, hm, hg, hp, hs with
  | [], _, _, _, _, hs => simp at h1
  | b0 :: r, hb, hm, hg, hp, hs =>
    match cut, hcut with
    | 0, _ => simp [readL, shortT]
    | 1, hcut =>
      have hc := hb b0 (by simp)
      have : List.take 1 (b0 :: r) = [b0] := by simp
      rw [this]
      refine cut_one b0 m hc.1 hc.2 m0 m1 op d s t hd (by simpa using hg) hh hne ?_ hm2 (by omega)
      cases hd with
      | nil => exact absurd rfl hne
      | cons x xs => simp at hp ⊢; exact hp.1
    | cut + 2, hcut =>
      match r, hb, hm, hp, hs with
      | [], _, _, _, hs => simp at hs; omega
      | b1 :: r, hb, hm, hp, hs =>
        have hm' : m = b1 := by simpa using hm (by simp)
        subst hm'
        have : List.take (cut + 2) (b0 :: m :: r) = b0 :: m :: List.take cut r := by simp
        rw [this]
        simp only [readL]
        have hlc : (b0 :: m :: List.take cut r).length = cut + 2 := by
          simp at hs ⊢; omega
        rw [try_short _ m op d s t hd (by simpa using hg) hh hne ?_ hm2 (by rw [hlc]; exact hcut)]
        · rfl
        · have hl2 := (heads_tail op d s).2
          rw [hh] at hl2
          simp only at hl2
          rw [Nat.min_eq_left (by rw [hlc]; omega), List.take_length]
          conv => lhs; rw [hp]
          rw [← this, List.take_take, Nat.min_eq_left (by omega)]

theorem read_not (b : List Int) (h : (readL b).2.2.2.2.2 ≠ 0) : ∃ k, readL b = (0, 0, 0, 0, 0, k) := by
  have key : ∀ b m r, tryL b m = some r → r.2.2.2.2.2 ≠ 0 → ∃ k, r = (0, 0, 0, 0, 0, k) := by
    intro b m r hr hk
    unfold tryL at hr
    simp only at hr
    split at hr
    · cases hr
    · split at hr
      · cases hr; exact ⟨_, rfl⟩
      · cases hr; exact absurd rfl hk
  match b, h with
  | [], _ => exact ⟨_, rfl⟩
  | [b0], h =>
    simp only [readL] at h ⊢
    cases hf : firstL b0 with
    | none => exact ⟨_, rfl⟩
    | some r =>
      rw [hf] at h
      obtain ⟨m, _, hr⟩ := List.exists_of_findSome?_eq_some hf
      exact key _ _ r hr h
  | b0 :: b1 :: r, h =>
    simp only [readL] at h ⊢
    cases hf : tryL (b0 :: b1 :: r) b1 with
    | none => exact ⟨_, rfl⟩
    | some r => rw [hf] at h; exact key _ _ r hf h

/-- No instruction's bytes begin another's. -/
theorem apart_law (op d s n op2 d2 s2 n2 : Int) (n0 : 0 ≤ n) (n1 : n ≤ 65535) (m0 : 0 ≤ n2) (m1 : n2 ≤ 65535) (hr : rightL (headsL op d s) n = 0) (hr2 : rightL (headsL op2 d2 s2) n2 = 0)
    (hp : bytesL op d s n = (bytesL op2 d2 s2 n2).take (bytesL op d s n).length) : op = op2 ∧ d = d2 ∧ s = s2 ∧ n = n2 := by
  have hb : Byt (bytesL op2 d2 s2 n2) := by
    have hne : (headsL op2 d2 s2).1 ≠ [] := by intro h; simp [rightL, h] at hr2
    have e : bytesL op2 d2 s2 n2 = (headsL op2 d2 s2).1 ++ tailB (headsL op2 d2 s2).2 n2 := by unfold bytesL; rw [if_pos hr2]
    have hby : Byt (tailB (headsL op2 d2 s2).2 n2) := by
      unfold tailB Byt; repeat' split
      all_goals (simp; try omega)
    rw [e]
    intro x hx
    rcases List.mem_append.1 hx with h | h
    · rcases form_cases op2 d2 s2 hne with ⟨a, t, hh, a0, a1, _⟩ | ⟨a, m, t, hh, a0, a1, m0, m1, _⟩
      · rw [hh] at h; simp at h; subst h; exact ⟨a0, a1⟩
      · rw [hh] at h; simp at h; rcases h with rfl | rfl
        · exact ⟨a0, a1⟩
        · exact ⟨m0, m1⟩
    · exact hby x h
  have h1 := read_back op d s n n0 n1 hr ((bytesL op2 d2 s2 n2).drop (bytesL op d s n).length) (fun x hx => hb x (List.mem_of_mem_drop hx))
  have h2 := read_back op2 d2 s2 n2 m0 m1 hr2 [] (by intro x hx; cases hx)
  have e : bytesL op d s n ++ (bytesL op2 d2 s2 n2).drop (bytesL op d s n).length = bytesL op2 d2 s2 n2 ++ [] := by
    rw [List.append_nil]
    conv => lhs; lhs; rw [hp]
    exact List.take_append_drop _ _
  have := h1.1
  rw [e, h2.1] at this
  simp only [Prod.mk.injEq] at this
  obtain ⟨rfl, rfl, rfl, rfl, _⟩ := this
  exact ⟨rfl, rfl, rfl, rfl⟩

end Go.Proofs.Ytbhkndblolegaaa
