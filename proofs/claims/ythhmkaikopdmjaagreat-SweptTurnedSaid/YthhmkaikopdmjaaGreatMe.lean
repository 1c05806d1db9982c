/- rational: digits, machine, text; rational: ratio; rational: Of, New, Ratio, Check, Neg; rational: Neg, both, Add, Mul, Sub, Compare; rational: Add, Mul, Sub; rational: Add, Mul, Sub, Compare, Quo, Sign, Floor, Ceil; rational: Sign, Floor, Ceil, simplest, Simplest; rational: simplest, Simplest; rational: Simplest; rotation: sum, minus, over; rotation: minus, over, back, then; vector: Add, Sub, Scale, Cross, Compare, At; predicate.Orient; rotation: half, compare, Check, wrong; rotation: Check, wrong; rotation: wrong, Then, Compare, Between; rotation: Then, Compare, Between, Of, Tangent, Middle; rotation: image, Apply, Back, Corner; rotation: Tangent, Middle; slices: compare, Equal, Clone, Check, check; slices: Clone, Check, check; slices: check, BinarySearchFunc, Find; slices: Find, List; slices: List; slices: neighbours; slices: sorting by insertion; slices: SortFunc for short rows; slices: Refine; slices: turn, awake; slices: Contains, ContainsFunc, SlicesQuarters; slices: IndexFunc, ContainsFunc; SlicesQuarters; vector.Check; bounds of points; rows of points: equality, Equal, Clone, append, IndexFunc, ContainsFunc (written by tools/retype.py); bounds of points and rotations; convex.edges: neighbours of a row, for a loop that may be left; convex.Check; swept: turn, check; rows of points that have been cut; iterators over points; Collect; hull.backwards; swept.points; Collect; swept.points; Collect; Collect of swept.points; sorting: any order; by insertion; sorting: reversing, the choice of the pivot. Conditions: none. -/
import Derived.Test.YthhmkaikopdmjaaGreatMd
set_option linter.unusedSimpArgs false
set_option linter.unusedVariables false
set_option maxRecDepth 8000
namespace Go.Proofs.YthhmkaikopdmjaaGreat
open Go Go.Fw
theorem pow256_le {i : Nat} (hi : i ≤ 7) : 256 ^ i ≤ 72057594037927936 := by
  have : 256 ^ i ≤ 256 ^ 7 := Nat.pow_le_pow_right (by decide) hi
  exact this
theorem digits_sim (H : Heap) {m : List UInt8} (hm : m.length ≤ 7) : Sim Tryz.prog 248 #[.string (bs m)] H (.int .i64 (valB m : Nat)) H := by
  refine flat_ex rfl ?_
  refine sxA tok mixed Tryz.func248 ?_
  simp -implicitDefEqProofs only [go_sem, Nat.reduceAdd, Nat.reduceSub, Nat.reduceMul, Nat.reduceLT, Nat.reduceLeDiff, Nat.reduceEqDiff, Nat.reduceBEq, Nat.reduceGT, Nat.reduceMod, Nat.reduceDiv, ↓reduceIte, reduceCtorEq, Int.reduceLE, Int.reduceLT, Int.reduceToNat, Int.reduceEq, Int.reduceNeg, Int.reduceAdd, Int.reduceSub, Int.reduceMul, aLen]
  refine ax_loopx (fun (i : Nat) s T => s 0 = .string (bs m) ∧ s 3 = .int .i64 (valB (m.take i) : Nat) ∧ s 6 = .int .i64 (m.length : Nat) ∧ s 7 = .int .i64 (i : Nat) ∧ i ≤ m.length ∧ T = H) (fun i => m.length - i) 0 ?_ ?_
  · simp -implicitDefEqProofs only [go_sem, Nat.reduceAdd, Nat.reduceSub, Nat.reduceMul, Nat.reduceLT, Nat.reduceLeDiff, Nat.reduceEqDiff, Nat.reduceBEq, Nat.reduceGT, Nat.reduceMod, Nat.reduceDiv, ↓reduceIte, reduceCtorEq, Int.reduceLE, Int.reduceLT, Int.reduceToNat, Int.reduceEq, Int.reduceNeg, Int.reduceAdd, Int.reduceSub, Int.reduceMul]
    trivial
  rintro i s T ⟨h0, h3, h6, h7, hi, hT⟩
  subst T
  simp -implicitDefEqProofs only [go_sem, Nat.reduceAdd, Nat.reduceSub, Nat.reduceMul, Nat.reduceLT, Nat.reduceLeDiff, Nat.reduceEqDiff, Nat.reduceBEq, Nat.reduceGT, Nat.reduceMod, Nat.reduceDiv, ↓reduceIte, reduceCtorEq, Int.reduceLE, Int.reduceLT, Int.reduceToNat, Int.reduceEq, Int.reduceNeg, Int.reduceAdd, Int.reduceSub, Int.reduceMul, h6, h7]
  refine ax_cond2 ?_
  simp only [ev_tmp, ev_const, ev_func, upd_at, put_some, put_none, bndB_bool, Nat.reduceEqDiff, if_true, if_false, ↓reduceIte, reduceCtorEq]
  refine ⟨fun hc0 => have hlt := of_decide_eq_true hc0; ?_, fun hc0 => have hlt := of_decide_eq_false hc0; ?_⟩
  · have hil : i < m.length := by omega
    have hg : m[i]? = some m[i] := List.getElem?_eq_getElem hil
    have hts := valB_take_succ hil
    have hvl := valB_take_lt m i
    have hvl2 := valB_take_lt m (i + 1)
    have hm1 := pow256_le (i := i) (by omega)
    have hm2 := pow256_le (i := i + 1) (by omega)
    have hb : m[i].toNat < 256 := UInt8.toNat_lt _
    generalize m[i] = x at *
    generalize valB (m.take i) = n at *
    have a1 : IntKind.i64.wrap ((n : Int) * 2 ^ 8) = ((n * 2 ^ 8 : Nat) : Int) := by
      rw [show ((n : Int) * 2 ^ 8) = ((n * 2 ^ 8 : Nat) : Int) by simp, w64n (by omega)]
    have a2 := w64n (n := x.toNat) (by omega)
    have a3 := or_i64 (a := n * 2 ^ 8) (b := x.toNat) (by omega) (by omega)
    have a4 : n * 2 ^ 8 ||| x.toNat = valB (m.take (i + 1)) := by rw [Nat.or_comm, or_add (by omega), hts]; omega
    rw [a4] at a3
    have a5 : IntKind.i64.wrap ((i : Int) + 1) = ((i + 1 : Nat) : Int) := by rw [w64 (by omega) (by omega)]; rfl
    have h8 : ¬ ((8 : Int) < 0) := by omega
    have hnn : (0 : Int) ≤ (i : Int) := by omega
    simp -implicitDefEqProofs only [go_sem, Nat.reduceAdd, Nat.reduceSub, Nat.reduceMul, Nat.reduceLT, Nat.reduceLeDiff, Nat.reduceEqDiff, Nat.reduceBEq, Nat.reduceGT, Nat.reduceMod, Nat.reduceDiv, ↓reduceIte, reduceCtorEq, Int.reduceLE, Int.reduceLT, Int.reduceToNat, Int.reduceEq, Int.reduceNeg, Int.reduceAdd, Int.reduceSub, Int.reduceMul, h0, h3, h6, h7, hg, aConv, a1, a2, a3, a5, h8, hnn, show min 8 64 = 8 from rfl]
    exact ⟨i + 1, ⟨rfl, rfl, by omega⟩, by omega⟩
  · have hil : i = m.length := by omega
    subst hil
    rw [List.take_length] at h3
    simp -implicitDefEqProofs only [go_sem, Nat.reduceAdd, Nat.reduceSub, Nat.reduceMul, Nat.reduceLT, Nat.reduceLeDiff, Nat.reduceEqDiff, Nat.reduceBEq, Nat.reduceGT, Nat.reduceMod, Nat.reduceDiv, ↓reduceIte, reduceCtorEq, Int.reduceLE, Int.reduceLT, Int.reduceToNat, Int.reduceEq, Int.reduceNeg, Int.reduceAdd, Int.reduceSub, Int.reduceMul, h3, res248]
    first | exact .refl _ | exact ⟨.refl _, rfl⟩
theorem machine_big (H : Heap) {g : Bool} {n d : List UInt8} (h : 3 < n.length ∨ 3 < d.length) : Sim Tryz.prog 194 #[qV g n d] H (.tuple #[.int .i64 0, .int .i64 0, .bool false]) H := by
  refine flat_ex rfl ?_
  unfold qV
  refine sxA tok mixed Tryz.func194 ?_
  by_cases h1 : 3 < n.length
  · have h2 : (3 : Int) < (n.length : Int) := by omega
    simp -implicitDefEqProofs only [go_sem, Nat.reduceAdd, Nat.reduceSub, Nat.reduceMul, Nat.reduceLT, Nat.reduceLeDiff, Nat.reduceEqDiff, Nat.reduceBEq, Nat.reduceGT, Nat.reduceMod, Nat.reduceDiv, ↓reduceIte, reduceCtorEq, Int.reduceLE, Int.reduceLT, Int.reduceToNat, Int.reduceEq, Int.reduceNeg, Int.reduceAdd, Int.reduceSub, Int.reduceMul, wa_cond, axC_t, axC_f, aLen, h2, res194]
    first | exact .app _ _ | exact ⟨.app _ _, rfl⟩
  · have h2 : ¬ (3 : Int) < (n.length : Int) := by omega
    have h3 : (3 : Int) < (d.length : Int) := by omega
    simp -implicitDefEqProofs only [go_sem, Nat.reduceAdd, Nat.reduceSub, Nat.reduceMul, Nat.reduceLT, Nat.reduceLeDiff, Nat.reduceEqDiff, Nat.reduceBEq, Nat.reduceGT, Nat.reduceMod, Nat.reduceDiv, ↓reduceIte, reduceCtorEq, Int.reduceLE, Int.reduceLT, Int.reduceToNat, Int.reduceEq, Int.reduceNeg, Int.reduceAdd, Int.reduceSub, Int.reduceMul, wa_cond, axC_t, axC_f, aLen, h2, h3, res194]
    first | exact .app _ _ | exact ⟨.app _ _, rfl⟩
theorem machine_small (H : Heap) {g : Bool} {n d : List UInt8} (hn : n.length ≤ 3) (hd : d.length ≤ 3) : Sim Tryz.prog 194 #[qV g n d] H (.tuple #[.int .i64 (ival g n), .int .i64 (dval d : Nat), .bool true]) H := by
  refine flat_ex rfl ?_
  have h2 : ¬ (3 : Int) < (n.length : Int) := by omega
  have h3 : ¬ (3 : Int) < (d.length : Int) := by omega
  have hv := valB_lt n
  have hp := pow256_le (i := n.length) (by omega)
  have a1 : IntKind.i64.wrap (0 - (valB n : Int)) = -(valB n : Int) := by rw [w64 (by omega) (by omega)]; omega
  have hmx : ∀ H, aBuiltin tt H .max [3, 3] [.int .i64 (valB d : Nat), .int .i64 1] = some (.int .i64 (dval d : Nat), H) := by
    intro H
    unfold dval aBuiltin
    by_cases h0 : valB d = 0
    · simp [maxInts, h0]
    · have : ¬ (1 : Int) > (valB d : Int) := by omega
      simp [maxInts, h0, this]
  unfold qV ival
  refine sxA tok mixed Tryz.func194 ?_
  simp -implicitDefEqProofs only [go_sem, Nat.reduceAdd, Nat.reduceSub, Nat.reduceMul, Nat.reduceLT, Nat.reduceLeDiff, Nat.reduceEqDiff, Nat.reduceBEq, Nat.reduceGT, Nat.reduceMod, Nat.reduceDiv, ↓reduceIte, reduceCtorEq, Int.reduceLE, Int.reduceLT, Int.reduceToNat, Int.reduceEq, Int.reduceNeg, Int.reduceAdd, Int.reduceSub, Int.reduceMul, wa_cond, axC_t, axC_f, aLen, h2, h3]
  refine ax_quiet (by kernel_rfl) ?_
  simp -implicitDefEqProofs only [go_sem, Nat.reduceAdd, Nat.reduceSub, Nat.reduceMul, Nat.reduceLT, Nat.reduceLeDiff, Nat.reduceEqDiff, Nat.reduceBEq, Nat.reduceGT, Nat.reduceMod, Nat.reduceDiv, ↓reduceIte, reduceCtorEq, Int.reduceLE, Int.reduceLT, Int.reduceToNat, Int.reduceEq, Int.reduceNeg, Int.reduceAdd, Int.reduceSub, Int.reduceMul]
  refine wl_callV #[.string (bs n)] (by simp -implicitDefEqProofs only [go_sem, Nat.reduceAdd, Nat.reduceSub, Nat.reduceMul, Nat.reduceLT, Nat.reduceLeDiff, Nat.reduceEqDiff, Nat.reduceBEq, Nat.reduceGT, Nat.reduceMod, Nat.reduceDiv, ↓reduceIte, reduceCtorEq, Int.reduceLE, Int.reduceLT, Int.reduceToNat, Int.reduceEq, Int.reduceNeg, Int.reduceAdd, Int.reduceSub, Int.reduceMul]) (digits_sim _ (by omega)) ?_
  simp -implicitDefEqProofs only [go_sem, Nat.reduceAdd, Nat.reduceSub, Nat.reduceMul, Nat.reduceLT, Nat.reduceLeDiff, Nat.reduceEqDiff, Nat.reduceBEq, Nat.reduceGT, Nat.reduceMod, Nat.reduceDiv, ↓reduceIte, reduceCtorEq, Int.reduceLE, Int.reduceLT, Int.reduceToNat, Int.reduceEq, Int.reduceNeg, Int.reduceAdd, Int.reduceSub, Int.reduceMul]
  refine wl_callV #[.string (bs d)] (by simp -implicitDefEqProofs only [go_sem, Nat.reduceAdd, Nat.reduceSub, Nat.reduceMul, Nat.reduceLT, Nat.reduceLeDiff, Nat.reduceEqDiff, Nat.reduceBEq, Nat.reduceGT, Nat.reduceMod, Nat.reduceDiv, ↓reduceIte, reduceCtorEq, Int.reduceLE, Int.reduceLT, Int.reduceToNat, Int.reduceEq, Int.reduceNeg, Int.reduceAdd, Int.reduceSub, Int.reduceMul]) (digits_sim _ (by omega)) ?_
  cases g
  · simp -implicitDefEqProofs only [go_sem, Nat.reduceAdd, Nat.reduceSub, Nat.reduceMul, Nat.reduceLT, Nat.reduceLeDiff, Nat.reduceEqDiff, Nat.reduceBEq, Nat.reduceGT, Nat.reduceMod, Nat.reduceDiv, ↓reduceIte, reduceCtorEq, Int.reduceLE, Int.reduceLT, Int.reduceToNat, Int.reduceEq, Int.reduceNeg, Int.reduceAdd, Int.reduceSub, Int.reduceMul, wa_cond, axC_t, axC_f, hmx, res194]
    first | exact .app _ _ | exact ⟨.app _ _, rfl⟩
  · simp -implicitDefEqProofs only [go_sem, Nat.reduceAdd, Nat.reduceSub, Nat.reduceMul, Nat.reduceLT, Nat.reduceLeDiff, Nat.reduceEqDiff, Nat.reduceBEq, Nat.reduceGT, Nat.reduceMod, Nat.reduceDiv, ↓reduceIte, reduceCtorEq, Int.reduceLE, Int.reduceLT, Int.reduceToNat, Int.reduceEq, Int.reduceNeg, Int.reduceAdd, Int.reduceSub, Int.reduceMul, wa_cond, axC_t, axC_f, hmx, a1, res194]
    first | exact .app _ _ | exact ⟨.app _ _, rfl⟩
theorem text_sim (H : Heap) {n : Nat} (h0 : 0 < n) (hn : n < 9223372036854775808) : Sim Tryz.prog 195 #[.int .i64 (n : Nat)] H (.string (bs (digB n))) H := by
  refine flat_ex rfl ?_
  refine sxA tok mixed Tryz.func195 ?_
  simp -implicitDefEqProofs only [go_sem, Nat.reduceAdd, Nat.reduceSub, Nat.reduceMul, Nat.reduceLT, Nat.reduceLeDiff, Nat.reduceEqDiff, Nat.reduceBEq, Nat.reduceGT, Nat.reduceMod, Nat.reduceDiv, ↓reduceIte, reduceCtorEq, Int.reduceLE, Int.reduceLT, Int.reduceToNat, Int.reduceEq, Int.reduceNeg, Int.reduceAdd, Int.reduceSub, Int.reduceMul]
  refine ax_loopx (fun (r : Nat) s T => ∃ (i : Nat) (o : List UInt8), s 0 = .int .i64 (r : Nat) ∧ s 3 = .pointer (some ⟨H.length, 0, none⟩) ∧ s 4 = .int .i64 (i : Nat) ∧ i ≤ 8 ∧ o.length = 8 ∧ r < 256 ^ i ∧ r < 9223372036854775808 ∧ digB n = digB r ++ o.drop i ∧ (r = 0 → i < 8) ∧
    T = H ++ [⟨u8s o, 1, true⟩]) id n ?_ ?_
  · refine ⟨8, List.replicate 8 0, ?_⟩
    simp -implicitDefEqProofs only [go_sem, Nat.reduceAdd, Nat.reduceSub, Nat.reduceMul, Nat.reduceLT, Nat.reduceLeDiff, Nat.reduceEqDiff, Nat.reduceBEq, Nat.reduceGT, Nat.reduceMod, Nat.reduceDiv, ↓reduceIte, reduceCtorEq, Int.reduceLE, Int.reduceLT, Int.reduceToNat, Int.reduceEq, Int.reduceNeg, Int.reduceAdd, Int.reduceSub, Int.reduceMul]
    exact ⟨rfl, by simp, by rw [show 256 ^ 8 = 18446744073709551616 from rfl]; omega, hn, by simp, by omega, rfl⟩
  rintro r s T ⟨i, o, s0, s3, s4, hi, ho, hr, hr2, hd, h8, hT⟩
  subst T
  simp -implicitDefEqProofs only [go_sem, Nat.reduceAdd, Nat.reduceSub, Nat.reduceMul, Nat.reduceLT, Nat.reduceLeDiff, Nat.reduceEqDiff, Nat.reduceBEq, Nat.reduceGT, Nat.reduceMod, Nat.reduceDiv, ↓reduceIte, reduceCtorEq, Int.reduceLE, Int.reduceLT, Int.reduceToNat, Int.reduceEq, Int.reduceNeg, Int.reduceAdd, Int.reduceSub, Int.reduceMul, s0]
  refine ax_cond2 ?_
  simp only [ev_tmp, ev_const, ev_func, upd_at, put_some, put_none, bndB_bool, Nat.reduceEqDiff, if_true, if_false, ↓reduceIte, reduceCtorEq]
  refine ⟨fun hc0 => have hc := of_decide_eq_true hc0; ?_, fun hc0 => have hc := of_decide_eq_false hc0; ?_⟩
  · have hr0 : r ≠ 0 := by omega
    obtain ⟨i, rfl⟩ : ∃ i', i = i' + 1 := ⟨i - 1, by
      cases i with
      | zero => simp at hr; omega
      | succ i => omega⟩
    have a1 : IntKind.i64.wrap (((i + 1 : Nat) : Int) - 1) = (i : Int) := by rw [castS]; exact w64 (by omega) (by omega)
    have a2 := low_u8 r
    have a3 := fdiv_pow r 8
    have hi2 : (0 : Int) ≤ (i : Int) ∧ (i : Int) < ((8 : Nat) : Int) := by omega
    have hw := u8_wr (L := []) (l := o) (k := i) (b := UInt8.ofNat r) (by omega)
    have hd8 : ¬ ((8 : Int) < 0) := by omega
    simp -implicitDefEqProofs only [go_sem, Nat.reduceAdd, Nat.reduceSub, Nat.reduceMul, Nat.reduceLT, Nat.reduceLeDiff, Nat.reduceEqDiff, Nat.reduceBEq, Nat.reduceGT, Nat.reduceMod, Nat.reduceDiv, ↓reduceIte, reduceCtorEq, Int.reduceLE, Int.reduceLT, Int.reduceToNat, Int.reduceEq, Int.reduceNeg, Int.reduceAdd, Int.reduceSub, Int.reduceMul, s0, s3, s4, a1, aConv, a2, aIndexAddr, hi2, Nat.mul_one, hw, a3, hd8, show min 8 64 = 8 from rfl]
    refine ⟨r / 2 ^ 8, ⟨i, o.set i (UInt8.ofNat r), ?_⟩, Nat.div_lt_self (by omega) (by decide)⟩
    refine ⟨rfl, rfl, by omega, by simpa using ho, ?_, by omega, ?_, by omega, rfl⟩
    · rw [Nat.div_lt_iff_lt_mul (by decide)]
      rw [Nat.pow_succ] at hr
      exact hr
    · rw [hd, digB_step hr0, List.append_assoc]
      congr 1
      rw [List.drop_eq_getElem_cons (l := o.set i (UInt8.ofNat r)) (i := i) (by simp; omega), List.getElem_set_self, List.drop_set_of_lt (by omega)]
      rfl
  · have hr0 : r = 0 := by omega
    subst hr0
    have hi8 := h8 rfl
    rw [digB_zero, List.nil_append] at hd
    have hs : aSlice tt (H ++ [⟨u8s o, 1, true⟩]) 204 (.pointer (some ⟨H.length, 0, none⟩)) (some (.int .i64 (i : Nat))) none none = some (.slice (some ⟨H.length, i, none⟩) (8 - i) (8 - i)) := by
      simp only [aSlice, tt204, sizeT, tt5, bnd, Option.map_some, Int.toNat_natCast]
      simp [show i ≤ 8 by omega, hi8]
    have hrd := u8_rd (L := []) (l := o) (k := i) (n := 8 - i) (by omega)
    simp -implicitDefEqProofs only [go_sem, Nat.reduceAdd, Nat.reduceSub, Nat.reduceMul, Nat.reduceLT, Nat.reduceLeDiff, Nat.reduceEqDiff, Nat.reduceBEq, Nat.reduceGT, Nat.reduceMod, Nat.reduceDiv, ↓reduceIte, reduceCtorEq, Int.reduceLE, Int.reduceLT, Int.reduceToNat, Int.reduceEq, Int.reduceNeg, Int.reduceAdd, Int.reduceSub, Int.reduceMul, s3, s4, hs, aConv, hrd, bytesOf_u8s, res195]
    rw [hd]
    first | exact .app _ _ | exact ⟨.app _ _, rfl⟩
end Go.Proofs.YthhmkaikopdmjaaGreat
namespace Go.Proofs.YthhmkaikopdmjaaGreat
open Go Go.Fw
theorem max_abs (H : Heap) (a : Int) (ha : a.natAbs < 4611686018427387904) : aBuiltin tt H .max [3, 3] [.int .i64 a, .int .i64 (IntKind.i64.wrap (0 - a))] = some (.int .i64 (a.natAbs : Nat), H) := by
  rw [w64 (by omega) (by omega)]
  unfold aBuiltin
  simp only [maxInts, Option.map_some]
  congr 3
  split <;> omega
theorem ratio_sim (H : Heap) {n : Int} {d : Nat} (hn : n.natAbs < 4611686018427387904) (hd : d < 4611686018427387904) (h0 : 0 < d) : Sim Tryz.prog 129 #[.int .i64 n, .int .i64 (d : Nat)] H (mkQ (mkRat n d)) H := by
  refine flat_ex rfl ?_
  have hgp : 0 < Nat.gcd n.natAbs d := Nat.gcd_pos_of_pos_right _ h0
  have hgd : Nat.gcd n.natAbs d ≤ d := Nat.gcd_le_right _ h0
  have hd1 : Nat.gcd n.natAbs d ∣ d := Nat.gcd_dvd_right _ _
  have hd2 : Nat.gcd n.natAbs d ∣ n.natAbs := Nat.gcd_dvd_left _ _
  have hG0 : n = 0 → Nat.gcd n.natAbs d = d := by rintro rfl; simp
  refine sxA tok mixed Tryz.func129 ?_
  simp -implicitDefEqProofs only [go_sem, simprocAttr]
  refine ax_loopx (fun (k : Nat) s T => ∃ (a b : Int), s 0 = .int .i64 n ∧ s 1 = .int .i64 (d : Nat) ∧ s 4 = .pointer (some ⟨H.length, 0, none⟩) ∧ s 5 = .int .i64 a ∧ s 6 = .int .i64 b ∧ b.natAbs = k ∧ a.natAbs < 4611686018427387904 ∧ k < 4611686018427387904 ∧
    Nat.gcd a.natAbs k = Nat.gcd n.natAbs d ∧ T = H ++ [⟨[.bool false, .string (bs []), .string (bs [])], 1, true⟩]) id d ?_ ?_
  · refine ⟨n, (d : Nat), ?_⟩
    simp -implicitDefEqProofs only [go_sem, simprocAttr]
    exact ⟨by simp, hn, hd⟩
  rintro k s T ⟨a, b, s0, s1, s4, s5, s6, hb, ha, hk, hg, hT⟩
  subst T
  simp -implicitDefEqProofs only [go_sem, simprocAttr, s6]
  refine ax_cond2 ?_
  simp only [ev_tmp, ev_const, ev_func, upd_at, put_some, put_none, bndB_bool, Nat.reduceEqDiff, if_true, if_false, ↓reduceIte, reduceCtorEq]
  refine ⟨fun hc0 => have hc := of_decide_eq_true hc0; ?_, fun hc0 => have hc := of_decide_eq_false hc0; ?_⟩
  · have hkp : 0 < k := by omega
    simp -implicitDefEqProofs only [go_sem, simprocAttr]
    refine ax_quiet (by kernel_rfl) ?_
    simp -implicitDefEqProofs only [go_sem, simprocAttr, s0, s1, s4, s5, s6, hc]
    have hm : (a.tmod b).natAbs = a.natAbs % k := by rw [Int.natAbs_tmod, hb]
    have hml := Nat.mod_lt a.natAbs hkp
    refine ⟨a.natAbs % k, ⟨b, a.tmod b, ?_⟩, hml⟩
    refine ⟨rfl, rfl, hm, by omega, by omega, ?_⟩
    rw [hb, ← hg, Nat.gcd_comm a.natAbs k, Nat.gcd_comm k, ← Nat.gcd_rec]
  · have hk0 : k = 0 := by omega
    subst hk0
    rw [Nat.gcd_zero_right] at hg
    have hma := max_abs (H ++ [⟨[.bool false, .string (bs []), .string (bs [])], 1, true⟩]) a ha
    have hmn := max_abs (H ++ [⟨[.bool false, .string (bs []), .string (bs [])], 1, true⟩]) n hn
    rw [hg] at hma
    rw [mkQ_pos h0]
    generalize Nat.gcd n.natAbs d = G at *
    simp -implicitDefEqProofs only [go_sem, simprocAttr, s0, s1, s4, s5, hma]
    by_cases hn0 : n = 0
    · subst hn0
      have e0 : (digB (0 / (G : Int)).natAbs) = [] := by simp [digB_zero]
      have e1 : denB (d / G) = [] := by rw [hG0 rfl, Nat.div_self h0]; rfl
      rw [e0, e1]
      simp -implicitDefEqProofs only [go_sem, simprocAttr, wa_cond, axC_t, axC_f, s0, s1, s4, res129]
      first | exact .app _ _ | exact ⟨.app _ _, rfl⟩
    have hz : ¬ (G : Int) = 0 := by omega
    have t1 := tdiv_nat n.natAbs G
    have t2 := tdiv_nat d G
    have hq1 : n.natAbs / G < 9223372036854775808 := by have := Nat.div_le_self n.natAbs G; omega
    have hq2 : d / G < 9223372036854775808 := by have := Nat.div_le_self d G; omega
    have q1 : 0 < n.natAbs / G := Nat.div_pos (Nat.le_of_dvd (by omega) hd2) hgp
    have q2 : 0 < d / G := Nat.div_pos hgd hgp
    have wq1 := w64n hq1
    have wq2 := w64n hq2
    have e0 : (n / (G : Int)).natAbs = n.natAbs / G := by
      rw [Int.natAbs_ediv_of_dvd (Int.ofNat_dvd_left.2 hd2)]; rfl
    rw [e0]
    have hdG : d / G = 1 ↔ d = G := by
      constructor
      · intro h
        have := Nat.div_mul_cancel hd1
        rw [h] at this; omega
      · rintro rfl; exact Nat.div_self h0
    simp -implicitDefEqProofs only [go_sem, simprocAttr, wa_cond, axC_t, axC_f, hn0, s0, s1, s4, hmn, hz, t1, wq1]
    refine wl_callV #[.int .i64 (n.natAbs / G : Nat)] (by simp -implicitDefEqProofs only [go_sem, simprocAttr]) (text_sim _ q1 hq1) ?_
    simp -implicitDefEqProofs only [go_sem, simprocAttr, s0, s1, s4]
    by_cases hdg : d = G
    · have hdg2 : (d : Int) = (G : Int) := by omega
      have e1 : denB (d / G) = [] := by unfold denB; rw [if_pos (hdG.2 hdg)]
      rw [e1]
      simp -implicitDefEqProofs only [go_sem, simprocAttr, wa_cond, axC_t, axC_f, hdg2, s4, res129]
      first | exact .app _ _ | exact ⟨.app _ _, rfl⟩
    · have hdg2 : ¬ (d : Int) = (G : Int) := by omega
      have e1 : denB (d / G) = digB (d / G) := by unfold denB; rw [if_neg (fun h => hdg (hdG.1 h))]
      rw [e1]
      simp -implicitDefEqProofs only [go_sem, simprocAttr, wa_cond, axC_t, axC_f, hdg2, s1, hz, t2, wq2]
      refine wl_callV #[.int .i64 (d / G : Nat)] (by simp -implicitDefEqProofs only [go_sem, simprocAttr]) (text_sim _ q2 hq2) ?_
      simp -implicitDefEqProofs only [go_sem, simprocAttr, wa_cond, axC_t, axC_f, s4, res129]
      first | exact .app _ _ | exact ⟨.app _ _, rfl⟩
end Go.Proofs.YthhmkaikopdmjaaGreat
namespace Go.Proofs.YthhmkaikopdmjaaGreat
open Go Go.Fw
theorem number_mk (H : Heap) {x : Int} {d k : Nat} (hx : x.natAbs < 2 ^ k) (hd : d < 2 ^ k) (hk : k ≤ 2900000) (h0 : 0 < d) :
    Sim Tryz.prog 97 #[fV (decide (x < 0)) (digB x.natAbs) (decide ((d : Int) < 0)) (digB (d : Int).natAbs)] H (mkQ (mkRat x d)) H :=
  number_sim H (FV.mk (y := (d : Nat)) hx (by rw [Int.natAbs_natCast]; exact hd)) (by omega) h0
theorem ofN_sim (H : Heap) {n : Int} (h1 : -9223372036854775808 ≤ n) (h2 : n < 9223372036854775808) : Sim Tryz.prog 76 #[.int .i64 n] H (mkQ (n : Rat)) H := by
  refine flat_ex rfl ?_
  have o1 := fun H => of_sim H h1 h2
  have o2 := fun H => of_sim H (z := 1) (by decide) (by decide)
  have o3 := fun H => number_mk H (x := n) (d := 1) (k := 64) (by omega) (by decide) (by decide) (by decide)
  rw [mkRat_one, show ((1 : Nat) : Int) = 1 from rfl] at o3
  refine sxA tok mixed Tryz.func76 ?_
  simp -implicitDefEqProofs only [go_sem, simprocAttr, UU]
  refine kw (o1 _) ?_
  refine kw (o2 _) ?_
  refine kw (o3 _) ?_
  simp -implicitDefEqProofs only [go_sem, simprocAttr, UU, res76]
  first | exact .app _ _ | exact ⟨.app _ _, rfl⟩ | exact .refl _ | exact ⟨.refl _, rfl⟩
theorem divInt_pos {n d : Int} (h : 0 < d) : Rat.divInt n d = mkRat n d.natAbs := by
  obtain ⟨m, rfl⟩ : ∃ m : Nat, d = m := ⟨d.natAbs, by omega⟩
  rw [Rat.divInt_ofNat]; rfl
theorem divInt_neg2 {n d : Int} (h : d < 0) : Rat.divInt n d = mkRat (-n) d.natAbs := by
  obtain ⟨m, rfl⟩ : ∃ m : Nat, d = -(m : Int) := ⟨d.natAbs, by omega⟩
  rw [Rat.divInt_neg', Rat.divInt_ofNat]; simp
theorem sgn_cases (z : Int) : (sgn z = 0 ∧ z = 0) ∨ (sgn z = -1 ∧ z < 0) ∨ (sgn z = 1 ∧ 0 < z) := by
  unfold sgn
  by_cases h : z < 0
  · rw [if_pos h]; omega
  · rw [if_neg h]
    by_cases h2 : 0 < z
    · rw [if_pos h2]; omega
    · rw [if_neg h2]; omega
theorem new_sim (H : Heap) {v w : Value} {n d : Int} {k : Nat} (hv : IA v n k) (hw : IA w d k) (hk : k ≤ 2800000) :
    Sim Tryz.prog 98 #[v, w] H (if d = 0 then .tuple #[mkQ 0, .int .i64 10] else .tuple #[mkQ (Rat.divInt n d), .int .i64 0]) H := by
  refine flat_ex (by split <;> rfl) ?_
  have hd := hw.sz
  have hn := hv.sz
  have c0 := fun H => cmpI H hw (IA.raw false [] (k := 8) (by decide)) (by omega) (by omega)
  have e0 : ival false [] = 0 := rfl
  rw [e0, Int.sub_zero] at c0
  have n1 := fun H => negI H hv (by omega)
  have n2 := fun H => negI H hw (by omega)
  have m1 := fun (h : d < 0) H => number_sim H (v := fV (decide (-n < 0)) (digB (-n).natAbs) (decide (-d < 0)) (digB (-d).natAbs)) (n := -n) (d := d.natAbs) (k := k + 7)
    ⟨_, _, _, _, rfl, ival_mk (-n), (ival_mk (-d)).trans (by omega), digB_len2 (by omega), digB_len2 (by omega)⟩ (by omega) (by omega)
  obtain ⟨g, m, rfl, h1, h2⟩ := hv
  obtain ⟨g', m', rfl, h3, h4⟩ := hw
  have m0 := fun (h : 0 < d) H => number_sim H (v := fV g m g' m') (n := n) (d := d.natAbs) (k := k) ⟨_, _, _, _, rfl, h1, h3.trans (by omega), h2, h4⟩ (by omega) (by omega)
  have sc := sgn_cases d
  generalize sgn d = sd at *
  unfold iV at c0 n1 n2 ⊢
  rw [mkQ_zero]
  refine sxA tok mixed Tryz.func98 ?_
  simp -implicitDefEqProofs only [go_sem, simprocAttr, UU]
  refine kw (c0 _) ?_
  rcases sc with ⟨s1, s2⟩ | ⟨s1, s2⟩ | ⟨s1, s2⟩
  · simp only [s1, s2, if_true]
    simp -implicitDefEqProofs only [go_sem, simprocAttr, UU, wa_cond, axC_t, axC_f]
    simp -implicitDefEqProofs only [go_sem, simprocAttr, UU, res98]
    first | exact .app _ _ | exact ⟨.app _ _, rfl⟩ | exact .refl _ | exact ⟨.refl _, rfl⟩
  · have hd0 : ¬ d = 0 := by omega
    simp only [s1, hd0, if_false]
    rw [divInt_neg2 s2]
    have m1 := m1 s2
    simp -implicitDefEqProofs only [go_sem, simprocAttr, UU, wa_cond, axC_t, axC_f]
    refine ax_quiet (by kernel_rfl) ?_
    simp -implicitDefEqProofs only [go_sem, simprocAttr, UU]
    refine kw (n1 _) ?_
    refine kw (n2 _) ?_
    refine kw (m1 _) ?_
    simp -implicitDefEqProofs only [go_sem, simprocAttr, UU, res98]
    first | exact .app _ _ | exact ⟨.app _ _, rfl⟩ | exact .refl _ | exact ⟨.refl _, rfl⟩
  · have hd0 : ¬ d = 0 := by omega
    simp only [s1, hd0, if_false]
    rw [divInt_pos s2]
    have m0 := m0 s2
    simp -implicitDefEqProofs only [go_sem, simprocAttr, UU, wa_cond, axC_t, axC_f]
    refine kw (m0 _) ?_
    simp -implicitDefEqProofs only [go_sem, simprocAttr, UU, res98]
    first | exact .app _ _ | exact ⟨.app _ _, rfl⟩ | exact .refl _ | exact ⟨.refl _, rfl⟩
theorem ratioI_sim (H : Heap) {n d : Int} (h1 : -9223372036854775808 ≤ n) (h2 : n < 9223372036854775808) (h3 : -9223372036854775808 ≤ d) (h4 : d < 9223372036854775808) :
    Sim Tryz.prog 45 #[.int .i64 n, .int .i64 d] H (if d = 0 then .tuple #[mkQ 0, .int .i64 10] else .tuple #[mkQ (Rat.divInt n d), .int .i64 0]) H := by
  refine flat_ex (by split <;> rfl) ?_
  have o1 := fun H => of_sim H h1 h2
  have o2 := fun H => of_sim H h3 h4
  have o3 := fun H => new_sim H (IA.mk (z := n) (k := 64) (by omega)) (IA.mk (z := d) (k := 64) (by omega)) (by decide)
  by_cases h0 : d = 0
  · simp only [h0, if_true] at o3 o2 ⊢
    rw [mkQ_zero] at o3 ⊢
    refine sxA tok mixed Tryz.func45 ?_
    simp -implicitDefEqProofs only [go_sem, simprocAttr, UU]
    refine kw (o1 _) ?_
    refine kw (o2 _) ?_
    refine kw (o3 _) ?_
    simp -implicitDefEqProofs only [go_sem, simprocAttr, UU, res45]
    first | exact .app _ _ | exact ⟨.app _ _, rfl⟩ | exact .refl _ | exact ⟨.refl _, rfl⟩
  · simp only [h0, if_false] at o3 ⊢
    refine sxA tok mixed Tryz.func45 ?_
    simp -implicitDefEqProofs only [go_sem, simprocAttr, UU]
    refine kw (o1 _) ?_
    refine kw (o2 _) ?_
    refine kw (o3 _) ?_
    simp -implicitDefEqProofs only [go_sem, simprocAttr, UU, res45]
    first | exact .app _ _ | exact ⟨.app _ _, rfl⟩ | exact .refl _ | exact ⟨.refl _, rfl⟩
theorem neq24 (g g' : Bool) (n d n' d' : List UInt8) : aBin tt .neq 24 (.agg #[.bool g, .string (bs n), .string (bs d)]) (.agg #[.bool g', .string (bs n'), .string (bs d')]) = some (.bool (decide (¬ (g = g' ∧ n = n' ∧ d = d')))) := by
  have e : aBin tt .neq 24 (.agg #[.bool g, .string (bs n), .string (bs d)]) (.agg #[.bool g', .string (bs n'), .string (bs d')]) = some (.bool (!((g == g') && ((bs n == bs n') && ((bs d == bs d') && true))))) := rfl
  rw [e]
  congr 2
  by_cases h1 : g = g' <;> by_cases h2 : n = n' <;> by_cases h3 : d = d' <;> simp [h1, h2, h3, bs_beq]
theorem rcheck_sim (H : Heap) {g : Bool} {n d : List UInt8} (hn : n.length ≤ 300000) (hd : d.length ≤ 300000) : Sim Tryz.prog 73 #[qV g n d] H (.int .i64 (if isCan g n d = true then 0 else 1)) H := by
  refine flat_ex rfl ?_
  have o1 := fun H => of_rat H (g := g) (n := n) (d := d) (by omega)
  have o2 := fun H => number_sim H (ofV_FV g n d (k := 2400000) (by omega) (by omega) (by decide)) (by decide) (dval_pos d)
  have e : mkRat (ival g n) (dval d) = qval g n d := rfl
  rw [e] at o2
  have hq := neq24 g (decide ((qval g n d).num < 0)) n d (digB (qval g n d).num.natAbs) (denB (qval g n d).den)
  have e2 : decide (¬ (g = decide ((qval g n d).num < 0) ∧ n = digB (qval g n d).num.natAbs ∧ d = denB (qval g n d).den)) = !(isCan g n d) := by
    unfold isCan; simp only [decide_not]
  rw [e2] at hq
  unfold qV
  cases h0 : isCan g n d
  · rw [h0] at hq
    generalize qval g n d = q at *
    unfold qV at o1
    refine sxA tok mixed Tryz.func73 ?_
    simp -implicitDefEqProofs only [go_sem, simprocAttr, UU]
    refine ax_quiet (by kernel_rfl) ?_
    simp -implicitDefEqProofs only [go_sem, simprocAttr, UU]
    refine kw (o1 _) ?_
    refine kv (o2 _) ?_
    simp -implicitDefEqProofs only [go_sem, simprocAttr, UU, hq]
    simp -implicitDefEqProofs only [go_sem, simprocAttr, UU, wa_cond, axC_t, axC_f]
    simp -implicitDefEqProofs only [go_sem, simprocAttr, UU, res73]
    first | exact .app _ _ | exact ⟨.app _ _, rfl⟩ | exact .refl _ | exact ⟨.refl _, rfl⟩
  · rw [h0] at hq
    generalize qval g n d = q at *
    unfold qV at o1
    refine sxA tok mixed Tryz.func73 ?_
    simp -implicitDefEqProofs only [go_sem, simprocAttr, UU]
    refine ax_quiet (by kernel_rfl) ?_
    simp -implicitDefEqProofs only [go_sem, simprocAttr, UU]
    refine kw (o1 _) ?_
    refine kv (o2 _) ?_
    simp -implicitDefEqProofs only [go_sem, simprocAttr, UU, hq]
    simp -implicitDefEqProofs only [go_sem, simprocAttr, UU, wa_cond, axC_t, axC_f]
    simp -implicitDefEqProofs only [go_sem, simprocAttr, UU, res73]
    first | exact .app _ _ | exact ⟨.app _ _, rfl⟩ | exact .refl _ | exact ⟨.refl _, rfl⟩
end Go.Proofs.YthhmkaikopdmjaaGreat
namespace Go.Proofs.YthhmkaikopdmjaaGreat
open Go Go.Fw
theorem qval_not (g : Bool) (n d : List UInt8) : qval (!g) n d = -qval g n d := by
  unfold qval; rw [ival_not, Rat.neg_mkRat]
theorem normal_sim (H : Heap) {g : Bool} {n d : List UInt8} (hn : n.length ≤ 300000) (hd : d.length ≤ 300000) : Sim Tryz.prog 97 #[ofV g n d] H (mkQ (qval g n d)) H :=
  number_sim H (ofV_FV g n d (k := 2400000) (by omega) (by omega) (by decide)) (by decide) (dval_pos d)
theorem negQ (H : Heap) {v : Value} {q : Rat} {k : Nat} (hv : QV v q k) (hk : k ≤ 2400000) : Sim Tryz.prog 44 #[v] H (mkQ (-q)) H := by
  refine flat_ex rfl ?_
  obtain ⟨g, n, d, rfl, rfl, h1, h2⟩ := hv
  have o1 := fun H => of_rat H (g := !g) (n := n) (d := d) (by omega)
  have o2 := fun H => normal_sim H (g := !g) (n := n) (d := d) (by omega) (by omega)
  rw [qval_not] at o2
  unfold qV at o1 ⊢
  refine sxA tok mixed Tryz.func44 ?_
  simp -implicitDefEqProofs only [go_sem, simprocAttr, UU]
  refine kw (o1 _) ?_
  refine kw (o2 _) ?_
  simp -implicitDefEqProofs only [go_sem, simprocAttr, UU, res44]
  first | exact .app _ _ | exact ⟨.app _ _, rfl⟩ | exact .refl _ | exact ⟨.refl _, rfl⟩
theorem bothQ (H : Heap) {fs fa : FuncId} {g g' : Bool} {n d n' d' : List UInt8} {q : Rat}
    (hs : n.length ≤ 3 → d.length ≤ 3 → n'.length ≤ 3 → d'.length ≤ 3 → ∀ H, Sim Tryz.prog fs #[.int .i64 (ival g n), .int .i64 (dval d : Nat), .int .i64 (ival g' n'), .int .i64 (dval d' : Nat)] H (mkQ q) H)
    (ha : ∀ H, Sim Tryz.prog fa #[ofV g n d, ofV g' n' d'] H (mkQ q) H) (h1 : d.length ≤ 450000) (h2 : d'.length ≤ 450000) :
    Sim Tryz.prog 127 #[qV g n d, qV g' n' d', .func (.func fs) #[] #[], .func (.func fa) #[] #[]] H (mkQ q) H := by
  refine flat_ex rfl ?_
  have b1 := fun h H => machine_big H (g := g) (n := n) (d := d) h
  have b2 := fun h h' H => machine_small H (g := g) (n := n) (d := d) h h'
  have b1' := fun h H => machine_big H (g := g') (n := n') (d := d') h
  have b2' := fun h h' H => machine_small H (g := g') (n := n') (d := d') h h'
  have o1 := fun H => of_rat H (g := g) (n := n) (d := d) h1
  have o2 := fun H => of_rat H (g := g') (n := n') (d := d') h2
  unfold qV at b1 b2 b1' b2' o1 o2 ⊢
  by_cases s1 : n.length ≤ 3 ∧ d.length ≤ 3
  · have b2 := b2 s1.1 s1.2
    by_cases s2 : n'.length ≤ 3 ∧ d'.length ≤ 3
    · have b2' := b2' s2.1 s2.2
      have hs := hs s1.1 s1.2 s2.1 s2.2
      refine sxA tok mixed Tryz.func127 ?_
      simp -implicitDefEqProofs only [go_sem, simprocAttr, UU]
      refine kw (b2 _) ?_
      refine kw (b2' _) ?_
      simp -implicitDefEqProofs only [go_sem, simprocAttr, UU, wa_cond, axC_t, axC_f]
      refine wl_callO _ (by simp -implicitDefEqProofs only [go_sem, simprocAttr, UU]) _ (by simp -implicitDefEqProofs only [go_sem, simprocAttr, UU]) (hs _) ?_
      simp -implicitDefEqProofs only [go_sem, simprocAttr, UU]
      simp -implicitDefEqProofs only [go_sem, simprocAttr, UU, res127]
      first | exact .app _ _ | exact ⟨.app _ _, rfl⟩ | exact .refl _ | exact ⟨.refl _, rfl⟩
    · have b1' := b1' (by omega)
      refine sxA tok mixed Tryz.func127 ?_
      simp -implicitDefEqProofs only [go_sem, simprocAttr, UU]
      refine kw (b2 _) ?_
      refine kw (b1' _) ?_
      simp -implicitDefEqProofs only [go_sem, simprocAttr, UU, wa_cond, axC_t, axC_f]
      refine ax_quiet (by kernel_rfl) ?_
      simp -implicitDefEqProofs only [go_sem, simprocAttr, UU]
      refine kw (o1 _) ?_
      refine kw (o2 _) ?_
      refine wl_callO _ (by simp -implicitDefEqProofs only [go_sem, simprocAttr, UU]) _ (by simp -implicitDefEqProofs only [go_sem, simprocAttr, UU]) (ha _) ?_
      simp -implicitDefEqProofs only [go_sem, simprocAttr, UU]
      simp -implicitDefEqProofs only [go_sem, simprocAttr, UU, res127]
      first | exact .app _ _ | exact ⟨.app _ _, rfl⟩ | exact .refl _ | exact ⟨.refl _, rfl⟩
  · have b1 := b1 (by omega)
    obtain ⟨x, y, b, hb⟩ : ∃ (x y : Int) (b : Bool), ∀ H, Sim Tryz.prog 194 #[.agg #[.bool g', .string (bs n'), .string (bs d')]] H (.tuple #[.int .i64 x, .int .i64 y, .bool b]) H := by
      by_cases s2 : n'.length ≤ 3 ∧ d'.length ≤ 3
      · exact ⟨_, _, _, b2' s2.1 s2.2⟩
      · exact ⟨_, _, _, b1' (by omega)⟩
    refine sxA tok mixed Tryz.func127 ?_
    simp -implicitDefEqProofs only [go_sem, simprocAttr, UU]
    refine kw (b1 _) ?_
    refine kw (hb _) ?_
    simp -implicitDefEqProofs only [go_sem, simprocAttr, UU, wa_cond, axC_t, axC_f]
    refine ax_quiet (by kernel_rfl) ?_
    simp -implicitDefEqProofs only [go_sem, simprocAttr, UU]
    refine kw (o1 _) ?_
    refine kw (o2 _) ?_
    refine wl_callO _ (by simp -implicitDefEqProofs only [go_sem, simprocAttr, UU]) _ (by simp -implicitDefEqProofs only [go_sem, simprocAttr, UU]) (ha _) ?_
    simp -implicitDefEqProofs only [go_sem, simprocAttr, UU]
    simp -implicitDefEqProofs only [go_sem, simprocAttr, UU, res127]
    first | exact .app _ _ | exact ⟨.app _ _, rfl⟩ | exact .refl _ | exact ⟨.refl _, rfl⟩
end Go.Proofs.YthhmkaikopdmjaaGreat
namespace Go.Proofs.YthhmkaikopdmjaaGreat
open Go Go.Fw
theorem ival3 (g : Bool) {n : List UInt8} (h : n.length ≤ 3) : (ival g n).natAbs ≤ 16777216 := by
  rw [ival_abs]
  have := valB_lt2 n (k := 24) (by omega)
  omega
theorem dval3 {n : List UInt8} (h : n.length ≤ 3) : dval n ≤ 16777216 := by
  have := valB_lt2 n (k := 24) (by omega)
  unfold dval
  split <;> omega
theorem prod3 {x y : Int} (hx : x.natAbs ≤ 16777216) (hy : y.natAbs ≤ 16777216) : (x * y).natAbs ≤ 281474976710656 := by
  rw [Int.natAbs_mul]
  exact Nat.mul_le_mul hx hy
theorem mkRat_add' (n m : Int) {d e : Nat} (hd : 0 < d) (he : 0 < e) : mkRat n d + mkRat m e = mkRat (n * (e : Int) + m * (d : Int)) (d * e) := Rat.mkRat_add_mkRat _ _ (by omega) (by omega)
theorem add1 (H : Heap) {n m : Int} {d e : Nat} (hn : n.natAbs ≤ 16777216) (hm : m.natAbs ≤ 16777216) (hd : d ≤ 16777216) (he : e ≤ 16777216) (d0 : 0 < d) (e0 : 0 < e) :
    Sim Tryz.prog 191 #[.int .i64 n, .int .i64 (d : Nat), .int .i64 m, .int .i64 (e : Nat)] H (mkQ (mkRat n d + mkRat m e)) H := by
  refine flat_ex rfl ?_
  rw [mkRat_add' n m d0 e0]
  have p1 := prod3 (x := n) (y := (e : Int)) hn (by omega)
  have p2 := prod3 (x := m) (y := (d : Int)) hm (by omega)
  have p3 : d * e ≤ 16777216 * 16777216 := Nat.mul_le_mul hd he
  have w1 : IntKind.i64.wrap (n * (e : Int)) = n * (e : Int) := w64 (by omega) (by omega)
  have w2 : IntKind.i64.wrap (m * (d : Int)) = m * (d : Int) := w64 (by omega) (by omega)
  have w3 : IntKind.i64.wrap (n * (e : Int) + m * (d : Int)) = n * (e : Int) + m * (d : Int) := w64 (by omega) (by omega)
  have w4 : IntKind.i64.wrap ((d : Int) * (e : Int)) = ((d * e : Nat) : Int) := by rw [mulc, w64n (by omega)]
  have o1 := fun H => ratio_sim H (n := n * (e : Int) + m * (d : Int)) (d := d * e) (by omega) (by omega) (Nat.mul_pos d0 e0)
  refine sxA tok mixed Tryz.func191 ?_
  simp -implicitDefEqProofs only [go_sem, simprocAttr, UU, w1, w2, w3, w4]
  refine kw (o1 _) ?_
  simp -implicitDefEqProofs only [go_sem, simprocAttr, UU, res191]
  first | exact .app _ _ | exact ⟨.app _ _, rfl⟩ | exact .refl _ | exact ⟨.refl _, rfl⟩
theorem mul1 (H : Heap) {n m : Int} {d e : Nat} (hn : n.natAbs ≤ 16777216) (hm : m.natAbs ≤ 16777216) (hd : d ≤ 16777216) (he : e ≤ 16777216) (d0 : 0 < d) (e0 : 0 < e) :
    Sim Tryz.prog 128 #[.int .i64 n, .int .i64 (d : Nat), .int .i64 m, .int .i64 (e : Nat)] H (mkQ (mkRat n d * mkRat m e)) H := by
  refine flat_ex rfl ?_
  rw [Rat.mkRat_mul_mkRat]
  have p1 := prod3 (x := n) (y := m) hn hm
  have p3 : d * e ≤ 16777216 * 16777216 := Nat.mul_le_mul hd he
  have w1 : IntKind.i64.wrap (n * m) = n * m := w64 (by omega) (by omega)
  have w4 : IntKind.i64.wrap ((d : Int) * (e : Int)) = ((d * e : Nat) : Int) := by rw [mulc, w64n (by omega)]
  have o1 := fun H => ratio_sim H (n := n * m) (d := d * e) (by omega) (by omega) (Nat.mul_pos d0 e0)
  refine sxA tok mixed Tryz.func128 ?_
  simp -implicitDefEqProofs only [go_sem, simprocAttr, UU, w1, w4]
  refine kw (o1 _) ?_
  simp -implicitDefEqProofs only [go_sem, simprocAttr, UU, res128]
  first | exact .app _ _ | exact ⟨.app _ _, rfl⟩ | exact .refl _ | exact ⟨.refl _, rfl⟩
theorem cmpQ_eq {n m : Int} {d e : Nat} (hd : 0 < d) (he : 0 < e) : cmpQ (mkRat n d) (mkRat m e) = sgn (n * (e : Int) - m * (d : Int)) := mkRat_cmp hd he
theorem cmp1 (H : Heap) {n m : Int} {d e : Nat} (hn : n.natAbs ≤ 16777216) (hm : m.natAbs ≤ 16777216) (hd : d ≤ 16777216) (he : e ≤ 16777216) (d0 : 0 < d) (e0 : 0 < e) :
    Sim Tryz.prog 233 #[.int .i64 n, .int .i64 (d : Nat), .int .i64 m, .int .i64 (e : Nat)] H (.int .i64 (cmpQ (mkRat n d) (mkRat m e))) H := by
  refine flat_ex rfl ?_
  rw [cmpQ_eq d0 e0]
  have p1 := prod3 (x := n) (y := (e : Int)) hn (by omega)
  have p2 := prod3 (x := m) (y := (d : Int)) hm (by omega)
  obtain ⟨x, hx⟩ : ∃ x : Int, n * (e : Int) = x := ⟨_, rfl⟩
  obtain ⟨y, hy⟩ : ∃ x : Int, m * (d : Int) = x := ⟨_, rfl⟩
  have w1 : IntKind.i64.wrap (n * (e : Int)) = x := by rw [hx] at p1 ⊢; exact w64 (by omega) (by omega)
  have w2 : IntKind.i64.wrap (m * (d : Int)) = y := by rw [hy] at p2 ⊢; exact w64 (by omega) (by omega)
  rw [hx, hy]
  by_cases h1 : x < y
  · have e1 : sgn (x - y) = -1 := sgn_neg (by omega)
    rw [e1]
    refine sxA tok mixed Tryz.func233 ?_
    simp -implicitDefEqProofs only [go_sem, simprocAttr, UU, w1, w2, h1, wa_cond, axC_t, axC_f]
    simp -implicitDefEqProofs only [go_sem, simprocAttr, UU, res233]
    first | exact .app _ _ | exact ⟨.app _ _, rfl⟩ | exact .refl _ | exact ⟨.refl _, rfl⟩
  · by_cases h2 : y < x
    · have e1 : sgn (x - y) = 1 := sgn_pos (by omega)
      rw [e1]
      refine sxA tok mixed Tryz.func233 ?_
      simp -implicitDefEqProofs only [go_sem, simprocAttr, UU, w1, w2, h1, h2, wa_cond, axC_t, axC_f]
      simp -implicitDefEqProofs only [go_sem, simprocAttr, UU, res233]
      first | exact .app _ _ | exact ⟨.app _ _, rfl⟩ | exact .refl _ | exact ⟨.refl _, rfl⟩
    · have e1 : sgn (x - y) = 0 := sgn_zero.2 (by omega)
      rw [e1]
      refine sxA tok mixed Tryz.func233 ?_
      simp -implicitDefEqProofs only [go_sem, simprocAttr, UU, w1, w2, h1, h2, wa_cond, axC_t, axC_f]
      simp -implicitDefEqProofs only [go_sem, simprocAttr, UU, res233]
      first | exact .app _ _ | exact ⟨.app _ _, rfl⟩ | exact .refl _ | exact ⟨.refl _, rfl⟩
theorem ofV_parts (g : Bool) (n d : List UInt8) {k : Nat} (h : 8 * n.length ≤ k) (h' : 8 * d.length ≤ k) (hk : 8 ≤ k) : ∃ dd, ofV g n d = .agg #[.bool g, .string (bs n), .bool false, .string (bs dd)] ∧ IA (.agg #[.bool g, .string (bs n)]) (ival g n) k ∧ IA (.agg #[.bool false, .string (bs dd)]) (dval d : Nat) k := by
  obtain ⟨x1, x2, x3, x4, e1, e2, e3, e4, e5⟩ := ofV_FV g n d h h' hk
  refine ⟨if valB d = 0 then digB 1 else d, rfl, ⟨_, _, rfl, rfl, h⟩, false, _, rfl, ?_, ?_⟩
  · unfold ival dval
    by_cases h0 : valB d = 0
    · simp only [h0, if_true]; rw [valB_dig]; rfl
    · simp only [h0, if_false]; rfl
  · by_cases h0 : valB d = 0
    · simp only [h0, if_true]
      have := digB_len2 (n := 1) (k := 1) (by decide)
      omega
    · simp only [h0, if_false]; exact h'
theorem absmul {x y : Int} {j k : Nat} (hx : x.natAbs < 2 ^ j) (hy : y.natAbs < 2 ^ k) : (x * y).natAbs < 2 ^ (j + k) := by
  rw [Int.natAbs_mul]; exact lt_mul_pow hx hy
theorem lt_pow_to {n k j : Nat} (h : n < 2 ^ k) (hk : k ≤ j) : n < 2 ^ j := Nat.lt_of_lt_of_le h (Nat.pow_le_pow_right (by decide) hk)
theorem absadd {x y : Int} {k : Nat} (hx : x.natAbs < 2 ^ k) (hy : y.natAbs < 2 ^ k) : (x + y).natAbs < 2 ^ (k + 1) := by
  rw [Nat.pow_succ]; omega
theorem add2 (H : Heap) {g g' : Bool} {n d n' d' : List UInt8} (h1 : 8 * n.length ≤ 1100000) (h2 : 8 * d.length ≤ 1100000) (h3 : 8 * n'.length ≤ 1100000) (h4 : 8 * d'.length ≤ 1100000) :
    Sim Tryz.prog 192 #[ofV g n d, ofV g' n' d'] H (mkQ (qval g n d + qval g' n' d')) H := by
  refine flat_ex rfl ?_
  obtain ⟨dd, e1, a1, a2⟩ := ofV_parts g n d h1 h2 (by decide)
  obtain ⟨dd', e2, a3, a4⟩ := ofV_parts g' n' d' h3 h4 (by decide)
  have d0 := dval_pos d
  have d0' := dval_pos d'
  have o1 := fun H => mulI H a1 a4 (by decide) (by decide)
  have o2 := fun H => mulI H a3 a2 (by decide) (by decide)
  have o3 := fun H => mulI H a2 a4 (by decide) (by decide)
  have z1 := absmul a1.sz a4.sz
  have z2 := absmul a3.sz a2.sz
  have z3 := absmul a2.sz a4.sz
  have o4 := fun H => addI H (IA.mk z1) (IA.mk z2) (by decide) (by decide)
  have z4 := absadd z1 z2
  have hmul : ((dval d : Nat) : Int) * ((dval d' : Nat) : Int) = ((dval d * dval d' : Nat) : Int) := by simp
  have z5 := z3
  rw [hmul, Int.natAbs_natCast] at z5
  have z5 := lt_pow_to (j := 1100000 + 1100000 + 1) z5 (by decide)
  have o5 := fun H => number_mk H z4 z5 (by decide) (Nat.mul_pos d0 d0')
  have q1 : qval g n d + qval g' n' d' = mkRat (ival g n * (dval d' : Nat) + ival g' n' * (dval d : Nat)) (dval d * dval d') := mkRat_add' _ _ d0 d0'
  rw [hmul] at o3
  rw [e1, e2, q1]
  clear z1 z2 z3 z4 z5 q1 e1 e2
  generalize ival g n * (dval d' : Nat) = x at *
  generalize ival g' n' * (dval d : Nat) = y at *
  generalize dval d * dval d' = w at *
  refine sxA tok mixed Tryz.func192 ?_
  simp -implicitDefEqProofs only [go_sem, simprocAttr, UU]
  refine ax_quiet (by kernel_rfl) ?_
  simp -implicitDefEqProofs only [go_sem, simprocAttr, UU]
  refine kw (o1 _) ?_
  refine kw (o2 _) ?_
  refine kw (o4 _) ?_
  refine kw (o3 _) ?_
  refine kw (o5 _) ?_
  simp -implicitDefEqProofs only [go_sem, simprocAttr, UU, res192]
  first | exact .app _ _ | exact ⟨.app _ _, rfl⟩ | exact .refl _ | exact ⟨.refl _, rfl⟩
end Go.Proofs.YthhmkaikopdmjaaGreat
namespace Go.Proofs.YthhmkaikopdmjaaGreat
open Go Go.Fw
theorem mul2 (H : Heap) {g g' : Bool} {n d n' d' : List UInt8} (h1 : 8 * n.length ≤ 1100000) (h2 : 8 * d.length ≤ 1100000) (h3 : 8 * n'.length ≤ 1100000) (h4 : 8 * d'.length ≤ 1100000) :
    Sim Tryz.prog 130 #[ofV g n d, ofV g' n' d'] H (mkQ (qval g n d * qval g' n' d')) H := by
  refine flat_ex rfl ?_
  obtain ⟨dd, e1, a1, a2⟩ := ofV_parts g n d h1 h2 (by decide)
  obtain ⟨dd', e2, a3, a4⟩ := ofV_parts g' n' d' h3 h4 (by decide)
  have d0 := dval_pos d
  have d0' := dval_pos d'
  have o1 := fun H => mulI H a1 a3 (by decide) (by decide)
  have o3 := fun H => mulI H a2 a4 (by decide) (by decide)
  have z1 := absmul a1.sz a3.sz
  have z3 := absmul a2.sz a4.sz
  have hmul : ((dval d : Nat) : Int) * ((dval d' : Nat) : Int) = ((dval d * dval d' : Nat) : Int) := by simp
  rw [hmul, Int.natAbs_natCast] at z3
  have o5 := fun H => number_mk H z1 z3 (by decide) (Nat.mul_pos d0 d0')
  have q1 : qval g n d * qval g' n' d' = mkRat (ival g n * ival g' n') (dval d * dval d') := Rat.mkRat_mul_mkRat _ _ _ _
  rw [hmul] at o3
  rw [e1, e2, q1]
  clear z1 z3 q1 e1 e2
  generalize ival g n * ival g' n' = x at *
  generalize dval d * dval d' = w at *
  refine sxA tok mixed Tryz.func130 ?_
  simp -implicitDefEqProofs only [go_sem, simprocAttr, UU]
  refine ax_quiet (by kernel_rfl) ?_
  simp -implicitDefEqProofs only [go_sem, simprocAttr, UU]
  refine kw (o1 _) ?_
  refine kw (o3 _) ?_
  refine kw (o5 _) ?_
  simp -implicitDefEqProofs only [go_sem, simprocAttr, UU, res130]
  first | exact .app _ _ | exact ⟨.app _ _, rfl⟩ | exact .refl _ | exact ⟨.refl _, rfl⟩
theorem cmp2 (H : Heap) {g g' : Bool} {n d n' d' : List UInt8} (h1 : 8 * n.length ≤ 1100000) (h2 : 8 * d.length ≤ 1100000) (h3 : 8 * n'.length ≤ 1100000) (h4 : 8 * d'.length ≤ 1100000) :
    Sim Tryz.prog 234 #[ofV g n d, ofV g' n' d'] H (.int .i64 (cmpQ (qval g n d) (qval g' n' d'))) H := by
  refine flat_ex rfl ?_
  obtain ⟨dd, e1, a1, a2⟩ := ofV_parts g n d h1 h2 (by decide)
  obtain ⟨dd', e2, a3, a4⟩ := ofV_parts g' n' d' h3 h4 (by decide)
  have d0 := dval_pos d
  have d0' := dval_pos d'
  have o1 := fun H => mulI H a1 a4 (by decide) (by decide)
  have o2 := fun H => mulI H a3 a2 (by decide) (by decide)
  have z1 := absmul a1.sz a4.sz
  have z2 := absmul a3.sz a2.sz
  have o4 := fun H => cmpI H (IA.mk z1) (IA.mk z2) (by decide) (by decide)
  have q1 : cmpQ (qval g n d) (qval g' n' d') = sgn (ival g n * (dval d' : Nat) - ival g' n' * (dval d : Nat)) := cmpQ_eq d0 d0'
  rw [e1, e2, q1]
  clear z1 z2 q1 e1 e2
  generalize sgn (ival g n * (dval d' : Nat) - ival g' n' * (dval d : Nat)) = c at *
  generalize ival g n * (dval d' : Nat) = x at *
  generalize ival g' n' * (dval d : Nat) = y at *
  refine sxA tok mixed Tryz.func234 ?_
  simp -implicitDefEqProofs only [go_sem, simprocAttr, UU]
  refine ax_quiet (by kernel_rfl) ?_
  simp -implicitDefEqProofs only [go_sem, simprocAttr, UU]
  refine kw (o1 _) ?_
  refine kw (o2 _) ?_
  refine kw (o4 _) ?_
  simp -implicitDefEqProofs only [go_sem, simprocAttr, UU, res234]
  first | exact .app _ _ | exact ⟨.app _ _, rfl⟩ | exact .refl _ | exact ⟨.refl _, rfl⟩
theorem bothC (H : Heap) {fs fa : FuncId} {g g' : Bool} {n d n' d' : List UInt8} {q : Int}
    (hs : n.length ≤ 3 → d.length ≤ 3 → n'.length ≤ 3 → d'.length ≤ 3 → ∀ H, Sim Tryz.prog fs #[.int .i64 (ival g n), .int .i64 (dval d : Nat), .int .i64 (ival g' n'), .int .i64 (dval d' : Nat)] H (.int .i64 q) H)
    (ha : ∀ H, Sim Tryz.prog fa #[ofV g n d, ofV g' n' d'] H (.int .i64 q) H) (h1 : d.length ≤ 450000) (h2 : d'.length ≤ 450000) :
    Sim Tryz.prog 232 #[qV g n d, qV g' n' d', .func (.func fs) #[] #[], .func (.func fa) #[] #[]] H (.int .i64 q) H := by
  refine flat_ex rfl ?_
  have b1 := fun h H => machine_big H (g := g) (n := n) (d := d) h
  have b2 := fun h h' H => machine_small H (g := g) (n := n) (d := d) h h'
  have b1' := fun h H => machine_big H (g := g') (n := n') (d := d') h
  have b2' := fun h h' H => machine_small H (g := g') (n := n') (d := d') h h'
  have o1 := fun H => of_rat H (g := g) (n := n) (d := d) h1
  have o2 := fun H => of_rat H (g := g') (n := n') (d := d') h2
  unfold qV at b1 b2 b1' b2' o1 o2 ⊢
  by_cases s1 : n.length ≤ 3 ∧ d.length ≤ 3
  · have b2 := b2 s1.1 s1.2
    by_cases s2 : n'.length ≤ 3 ∧ d'.length ≤ 3
    · have b2' := b2' s2.1 s2.2
      have hs := hs s1.1 s1.2 s2.1 s2.2
      refine sxA tok mixed Tryz.func232 ?_
      simp -implicitDefEqProofs only [go_sem, simprocAttr, UU]
      refine kw (b2 _) ?_
      refine kw (b2' _) ?_
      simp -implicitDefEqProofs only [go_sem, simprocAttr, UU, wa_cond, axC_t, axC_f]
      refine wl_callO _ (by simp -implicitDefEqProofs only [go_sem, simprocAttr, UU]) _ (by simp -implicitDefEqProofs only [go_sem, simprocAttr, UU]) (hs _) ?_
      simp -implicitDefEqProofs only [go_sem, simprocAttr, UU]
      simp -implicitDefEqProofs only [go_sem, simprocAttr, UU, res232]
      first | exact .app _ _ | exact ⟨.app _ _, rfl⟩ | exact .refl _ | exact ⟨.refl _, rfl⟩
    · have b1' := b1' (by omega)
      refine sxA tok mixed Tryz.func232 ?_
      simp -implicitDefEqProofs only [go_sem, simprocAttr, UU]
      refine kw (b2 _) ?_
      refine kw (b1' _) ?_
      simp -implicitDefEqProofs only [go_sem, simprocAttr, UU, wa_cond, axC_t, axC_f]
      refine ax_quiet (by kernel_rfl) ?_
      simp -implicitDefEqProofs only [go_sem, simprocAttr, UU]
      refine kw (o1 _) ?_
      refine kw (o2 _) ?_
      refine wl_callO _ (by simp -implicitDefEqProofs only [go_sem, simprocAttr, UU]) _ (by simp -implicitDefEqProofs only [go_sem, simprocAttr, UU]) (ha _) ?_
      simp -implicitDefEqProofs only [go_sem, simprocAttr, UU]
      simp -implicitDefEqProofs only [go_sem, simprocAttr, UU, res232]
      first | exact .app _ _ | exact ⟨.app _ _, rfl⟩ | exact .refl _ | exact ⟨.refl _, rfl⟩
  · have b1 := b1 (by omega)
    obtain ⟨x, y, b, hb⟩ : ∃ (x y : Int) (b : Bool), ∀ H, Sim Tryz.prog 194 #[.agg #[.bool g', .string (bs n'), .string (bs d')]] H (.tuple #[.int .i64 x, .int .i64 y, .bool b]) H := by
      by_cases s2 : n'.length ≤ 3 ∧ d'.length ≤ 3
      · exact ⟨_, _, _, b2' s2.1 s2.2⟩
      · exact ⟨_, _, _, b1' (by omega)⟩
    refine sxA tok mixed Tryz.func232 ?_
    simp -implicitDefEqProofs only [go_sem, simprocAttr, UU]
    refine kw (b1 _) ?_
    refine kw (hb _) ?_
    simp -implicitDefEqProofs only [go_sem, simprocAttr, UU, wa_cond, axC_t, axC_f]
    refine ax_quiet (by kernel_rfl) ?_
    simp -implicitDefEqProofs only [go_sem, simprocAttr, UU]
    refine kw (o1 _) ?_
    refine kw (o2 _) ?_
    refine wl_callO _ (by simp -implicitDefEqProofs only [go_sem, simprocAttr, UU]) _ (by simp -implicitDefEqProofs only [go_sem, simprocAttr, UU]) (ha _) ?_
    simp -implicitDefEqProofs only [go_sem, simprocAttr, UU]
    simp -implicitDefEqProofs only [go_sem, simprocAttr, UU, res232]
    first | exact .app _ _ | exact ⟨.app _ _, rfl⟩ | exact .refl _ | exact ⟨.refl _, rfl⟩
theorem addQ (H : Heap) {v w : Value} {a b : Rat} {k k' : Nat} (hv : QV v a k) (hw : QV w b k') (hk : k ≤ 1100000) (hk' : k' ≤ 1100000) : Sim Tryz.prog 126 #[v, w] H (mkQ (a + b)) H := by
  refine flat_ex rfl ?_
  obtain ⟨g, n, d, rfl, rfl, h1, h2⟩ := hv
  obtain ⟨g', n', d', rfl, rfl, h3, h4⟩ := hw
  have o1 := fun H => bothQ H (g := g) (g' := g') (n := n) (d := d) (n' := n') (d' := d') (q := qval g n d + qval g' n' d') (fs := 191) (fa := 192)
    (fun x1 x2 x3 x4 H => add1 H (ival3 g x1) (ival3 g' x3) (dval3 x2) (dval3 x4) (dval_pos d) (dval_pos d')) (fun H => add2 H (by omega) (by omega) (by omega) (by omega)) (by omega) (by omega)
  generalize qval g n d + qval g' n' d' = q at *
  unfold qV at o1 ⊢
  refine sxA tok mixed Tryz.func126 ?_
  simp -implicitDefEqProofs only [go_sem, simprocAttr, UU]
  refine kw (o1 _) ?_
  simp -implicitDefEqProofs only [go_sem, simprocAttr, UU, res126]
  first | exact .app _ _ | exact ⟨.app _ _, rfl⟩ | exact .refl _ | exact ⟨.refl _, rfl⟩
theorem mulQ (H : Heap) {v w : Value} {a b : Rat} {k k' : Nat} (hv : QV v a k) (hw : QV w b k') (hk : k ≤ 1100000) (hk' : k' ≤ 1100000) : Sim Tryz.prog 75 #[v, w] H (mkQ (a * b)) H := by
  refine flat_ex rfl ?_
  obtain ⟨g, n, d, rfl, rfl, h1, h2⟩ := hv
  obtain ⟨g', n', d', rfl, rfl, h3, h4⟩ := hw
  have o1 := fun H => bothQ H (g := g) (g' := g') (n := n) (d := d) (n' := n') (d' := d') (q := qval g n d * qval g' n' d') (fs := 128) (fa := 130)
    (fun x1 x2 x3 x4 H => mul1 H (ival3 g x1) (ival3 g' x3) (dval3 x2) (dval3 x4) (dval_pos d) (dval_pos d')) (fun H => mul2 H (by omega) (by omega) (by omega) (by omega)) (by omega) (by omega)
  generalize qval g n d * qval g' n' d' = q at *
  unfold qV at o1 ⊢
  refine sxA tok mixed Tryz.func75 ?_
  simp -implicitDefEqProofs only [go_sem, simprocAttr, UU]
  refine kw (o1 _) ?_
  simp -implicitDefEqProofs only [go_sem, simprocAttr, UU, res75]
  first | exact .app _ _ | exact ⟨.app _ _, rfl⟩ | exact .refl _ | exact ⟨.refl _, rfl⟩
theorem cmpR (H : Heap) {v w : Value} {a b : Rat} {k k' : Nat} (hv : QV v a k) (hw : QV w b k') (hk : k ≤ 1100000) (hk' : k' ≤ 1100000) : Sim Tryz.prog 175 #[v, w] H (.int .i64 (cmpQ a b)) H := by
  refine flat_ex rfl ?_
  obtain ⟨g, n, d, rfl, rfl, h1, h2⟩ := hv
  obtain ⟨g', n', d', rfl, rfl, h3, h4⟩ := hw
  have o1 := fun H => bothC H (g := g) (g' := g') (n := n) (d := d) (n' := n') (d' := d') (q := cmpQ (qval g n d) (qval g' n' d')) (fs := 233) (fa := 234)
    (fun x1 x2 x3 x4 H => cmp1 H (ival3 g x1) (ival3 g' x3) (dval3 x2) (dval3 x4) (dval_pos d) (dval_pos d')) (fun H => cmp2 H (by omega) (by omega) (by omega) (by omega)) (by omega) (by omega)
  generalize cmpQ (qval g n d) (qval g' n' d') = q at *
  unfold qV at o1 ⊢
  refine sxA tok mixed Tryz.func175 ?_
  simp -implicitDefEqProofs only [go_sem, simprocAttr, UU]
  refine kw (o1 _) ?_
  simp -implicitDefEqProofs only [go_sem, simprocAttr, UU, res175]
  first | exact .app _ _ | exact ⟨.app _ _, rfl⟩ | exact .refl _ | exact ⟨.refl _, rfl⟩
theorem subQ (H : Heap) {v w : Value} {a b : Rat} {k k' : Nat} (hv : QV v a k) (hw : QV w b k') (hk : k ≤ 1100000) (hk' : k' ≤ 1100000) : Sim Tryz.prog 95 #[v, w] H (mkQ (a - b)) H := by
  refine flat_ex rfl ?_
  obtain ⟨g', n', d', rfl, rfl, h3, h4⟩ := hw
  have o1 := fun H => addQ H hv (QV.raw (!g') n' d' h3 h4) hk hk'
  rw [qval_not, ← Rat.sub_eq_add_neg] at o1
  obtain ⟨g, n, d, rfl, rfl, h1, h2⟩ := hv
  generalize qval g n d - qval g' n' d' = q at *
  unfold qV at o1 ⊢
  refine sxA tok mixed Tryz.func95 ?_
  simp -implicitDefEqProofs only [go_sem, simprocAttr, UU]
  refine kw (o1 _) ?_
  simp -implicitDefEqProofs only [go_sem, simprocAttr, UU, res95]
  first | exact .app _ _ | exact ⟨.app _ _, rfl⟩ | exact .refl _ | exact ⟨.refl _, rfl⟩
theorem quo_law (n m : Int) {d e : Nat} (hd : 0 < d) (he : 0 < e) (hm : m ≠ 0) : mkRat n d / mkRat m e = Rat.divInt (n * (e : Int)) ((d : Int) * m) := by
  have hd' : (0 : Int) < d := by omega
  rcases Int.lt_or_gt_of_ne hm with h | h
  · rw [quo_neg hd he h, divInt_neg2 (Int.mul_neg_of_pos_of_neg hd' h), Int.natAbs_mul, Int.natAbs_natCast]
  · rw [quo_pos hd he h, divInt_pos (Int.mul_pos hd' h), Int.natAbs_mul, Int.natAbs_natCast]
theorem quoQ (H : Heap) {v w : Value} {a b : Rat} {k k' : Nat} (hv : QV v a k) (hw : QV w b k') (hk : k ≤ 1100000) (hk' : k' ≤ 1100000) :
    Sim Tryz.prog 151 #[v, w] H (if b = 0 then .tuple #[mkQ 0, .int .i64 10] else .tuple #[mkQ (a / b), .int .i64 0]) H := by
  refine flat_ex (by split <;> rfl) ?_
  obtain ⟨g, n, d, rfl, rfl, h1, h2⟩ := hv
  obtain ⟨g', n', d', rfl, rfl, h3, h4⟩ := hw
  have p1 := fun H => of_rat H (g := g) (n := n) (d := d) (by omega)
  have p2 := fun H => of_rat H (g := g') (n := n') (d := d') (by omega)
  obtain ⟨dd, e1, a1, a2⟩ := ofV_parts g n d (k := 1100000) (by omega) (by omega) (by decide)
  obtain ⟨dd', e2, a3, a4⟩ := ofV_parts g' n' d' (k := 1100000) (by omega) (by omega) (by decide)
  have d0 := dval_pos d
  have d0' := dval_pos d'
  have o1 := fun H => mulI H a1 a4 (by decide) (by decide)
  have o2 := fun H => mulI H a2 a3 (by decide) (by decide)
  have z1 := absmul a1.sz a4.sz
  have z2 := absmul a2.sz a3.sz
  have o4 := fun H => new_sim H (IA.mk z1) (IA.mk z2) (by decide)
  rw [e1] at p1
  rw [e2] at p2
  clear z1 z2 e1 e2
  have hb : qval g' n' d' = 0 ↔ ival g' n' = 0 := mkRat_ne d0'
  by_cases hz : ival g' n' = 0
  · have hb2 := hb.2 hz
    simp only [hz, Int.mul_zero, if_true] at o4 o2
    simp only [hb2, if_true]
    rw [mkQ_zero] at o4 ⊢
    generalize ival g n * (dval d' : Nat) = x at *
    unfold qV at p1 p2 ⊢
    refine sxA tok mixed Tryz.func151 ?_
    simp -implicitDefEqProofs only [go_sem, simprocAttr, UU]
    refine ax_quiet (by kernel_rfl) ?_
    simp -implicitDefEqProofs only [go_sem, simprocAttr, UU]
    refine kw (p1 _) ?_
    refine kw (p2 _) ?_
    refine ax_quiet (by kernel_rfl) ?_
    simp -implicitDefEqProofs only [go_sem, simprocAttr, UU]
    refine kw (o1 _) ?_
    refine kw (o2 _) ?_
    refine kw (o4 _) ?_
    simp -implicitDefEqProofs only [go_sem, simprocAttr, UU, res151]
    first | exact .app _ _ | exact ⟨.app _ _, rfl⟩ | exact .refl _ | exact ⟨.refl _, rfl⟩
  · have hb2 : ¬ qval g' n' d' = 0 := fun h => hz (hb.1 h)
    have hne : ¬ (dval d : Int) * ival g' n' = 0 := Int.mul_ne_zero (by omega) hz
    have ql : qval g n d / qval g' n' d' = Rat.divInt (ival g n * (dval d' : Nat)) ((dval d : Nat) * ival g' n') := quo_law _ _ d0 d0' hz
    simp only [hne, if_false] at o4
    simp only [hb2, if_false]
    rw [ql]
    generalize Rat.divInt (ival g n * (dval d' : Nat)) ((dval d : Nat) * ival g' n') = q at *
    generalize ival g n * (dval d' : Nat) = x at *
    generalize (dval d : Int) * ival g' n' = y at *
    unfold qV at p1 p2 ⊢
    refine sxA tok mixed Tryz.func151 ?_
    simp -implicitDefEqProofs only [go_sem, simprocAttr, UU]
    refine ax_quiet (by kernel_rfl) ?_
    simp -implicitDefEqProofs only [go_sem, simprocAttr, UU]
    refine kw (p1 _) ?_
    refine kw (p2 _) ?_
    refine ax_quiet (by kernel_rfl) ?_
    simp -implicitDefEqProofs only [go_sem, simprocAttr, UU]
    refine kw (o1 _) ?_
    refine kw (o2 _) ?_
    refine kw (o4 _) ?_
    simp -implicitDefEqProofs only [go_sem, simprocAttr, UU, res151]
    first | exact .app _ _ | exact ⟨.app _ _, rfl⟩ | exact .refl _ | exact ⟨.refl _, rfl⟩
end Go.Proofs.YthhmkaikopdmjaaGreat
namespace Go.Proofs.YthhmkaikopdmjaaGreat
open Go Go.Fw
theorem cmpQ_num (n : Int) {d : Nat} (hd : 0 < d) : cmpQ (mkRat n d) 0 = sgn n := by
  have := @cmpQ_eq n 0 d 1 hd (by decide)
  rw [mkRat_one] at this
  simpa using this
theorem signQ (H : Heap) {v : Value} {q : Rat} {k : Nat} (hv : QV v q k) (hk : k ≤ 1100000) : Sim Tryz.prog 88 #[v] H (.int .i64 (cmpQ q 0)) H := by
  refine flat_ex rfl ?_
  obtain ⟨g, n, d, rfl, rfl, h1, h2⟩ := hv
  have p1 := fun H => of_rat H (g := g) (n := n) (d := d) (by omega)
  obtain ⟨dd, e1, a1, a2⟩ := ofV_parts g n d (k := 1100000) (by omega) (by omega) (by decide)
  have o1 := fun H => cmpI H a1 (IA.raw false [] (k := 8) (by decide)) (by decide) (by decide)
  have e0 : ival false [] = 0 := rfl
  have e2 : cmpQ (qval g n d) 0 = sgn (ival g n) := cmpQ_num _ (dval_pos d)
  rw [e0, Int.sub_zero] at o1
  rw [e1] at p1
  rw [e2]
  generalize sgn (ival g n) = c at *
  unfold qV at p1 ⊢
  unfold iV at o1
  refine sxA tok mixed Tryz.func88 ?_
  simp -implicitDefEqProofs only [go_sem, simprocAttr, UU]
  refine kv (p1 _) ?_
  simp -implicitDefEqProofs only [go_sem, simprocAttr, UU, aField, partL]
  refine kw (o1 _) ?_
  simp -implicitDefEqProofs only [go_sem, simprocAttr, UU, res88]
  first | exact .app _ _ | exact ⟨.app _ _, rfl⟩ | exact .refl _ | exact ⟨.refl _, rfl⟩
end Go.Proofs.YthhmkaikopdmjaaGreat
namespace Go.Proofs.YthhmkaikopdmjaaGreat
open Go Go.Fw
end Go.Proofs.YthhmkaikopdmjaaGreat
namespace Go.Proofs.YthhmkaikopdmjaaGreat
open Go Go.Fw
end Go.Proofs.YthhmkaikopdmjaaGreat
namespace Go.Proofs.YthhmkaikopdmjaaGreat
open Go Go.Fw
theorem sum2 {H : Heap} {b c : Nat} {g g' : Bool} {n d n' d' : List UInt8} {x y : Rat} {k : Nat}
    (r0 : rd H b 0 3 = some [.bool g, .string (bs n), .string (bs d)]) (r1 : rd H b 3 3 = some [.bool g', .string (bs n'), .string (bs d')])
    (hx : QV (qV g n d) x k) (hy : QV (qV g' n' d') y k) (hk : k ≤ 60000) :
    Sim Tryz.prog 74 #[.slice (some ⟨b, 0, none⟩) 2 c] H (mkQ (x + y)) H := by
  refine flat_ex rfl ?_
  have z0 : QV (mkQ 0) 0 15 := by rw [mkQ_zero]; exact ⟨_, _, _, rfl, rfl, by decide, by decide⟩
  have o1 := fun H => addQ H z0 hx (by decide) (by omega)
  rw [Rat.zero_add] at o1
  have o2 := fun H => addQ H hx.sz.qv hy (by omega) (by omega)
  rw [mkQ_zero] at o1
  generalize x + y = z at *
  refine sxA tok mixed Tryz.func74 ?_
  simp -implicitDefEqProofs only [go_sem, Nat.reduceAdd, Nat.reduceSub, Nat.reduceMul, Nat.reduceLT, Nat.reduceLeDiff, Nat.reduceEqDiff, Nat.reduceBEq, Nat.reduceGT, Nat.reduceMod, Nat.reduceDiv, ↓reduceIte, reduceCtorEq, Int.reduceLE, Int.reduceLT, Int.reduceToNat, Int.reduceEq, Int.reduceNeg, Int.reduceAdd, Int.reduceSub, Int.reduceMul, aLen]
  refine ax_loopx (fun (i : Nat) s T => ∃ (gg : Bool) (nn dd : List UInt8) (G : Heap), s 2 = .pointer (some ⟨H.length, 0, none⟩) ∧ s 3 = .pointer (some ⟨H.length + 1, 0, none⟩) ∧ s 7 = .slice (some ⟨b, 0, none⟩) 2 c ∧ s 8 = .int .i64 2 ∧ s 9 = .int .i64 (i : Nat) ∧
    T = H ++ ⟨[.bool false, .string (bs []), .string (bs [])], 1, true⟩ :: ⟨[.bool gg, .string (bs nn), .string (bs dd)], 1, true⟩ :: G ∧ ((i = 0 ∧ qV gg nn dd = qV false [] []) ∨ (i = 1 ∧ qV gg nn dd = mkQ x) ∨ (i = 2 ∧ qV gg nn dd = mkQ z))) (fun i => 2 - i) 0 ?_ ?_
  · refine ⟨false, [], [], [], ?_⟩
    simp -implicitDefEqProofs only [go_sem, Nat.reduceAdd, Nat.reduceSub, Nat.reduceMul, Nat.reduceLT, Nat.reduceLeDiff, Nat.reduceEqDiff, Nat.reduceBEq, Nat.reduceGT, Nat.reduceMod, Nat.reduceDiv, ↓reduceIte, reduceCtorEq, Int.reduceLE, Int.reduceLT, Int.reduceToNat, Int.reduceEq, Int.reduceNeg, Int.reduceAdd, Int.reduceSub, Int.reduceMul]
    exact ⟨rfl, .inl trivial⟩
  rintro i s T ⟨gg, nn, dd, G, s2, s3, s7, s8, s9, hT, hi⟩
  subst T
  have l0 : (0 : Int) < ((2 : Nat) : Int) := by decide
  have l1 : (1 : Int) < ((2 : Nat) : Int) := by decide
  have w0 : IntKind.i64.wrap 1 = ((1 : Nat) : Int) := rfl
  have w1 : IntKind.i64.wrap 2 = ((2 : Nat) : Int) := rfl
  rcases hi with ⟨rfl, hi⟩ | ⟨rfl, hi⟩ | ⟨rfl, hi⟩
  · rw [← hi] at o1
    have r := fun G => rd_more r0 G
    unfold qV at o1
    simp -implicitDefEqProofs only [go_sem, Nat.reduceAdd, Nat.reduceSub, Nat.reduceMul, Nat.reduceLT, Nat.reduceLeDiff, Nat.reduceEqDiff, Nat.reduceBEq, Nat.reduceGT, Nat.reduceMod, Nat.reduceDiv, ↓reduceIte, reduceCtorEq, Int.reduceLE, Int.reduceLT, Int.reduceToNat, Int.reduceEq, Int.reduceNeg, Int.reduceAdd, Int.reduceSub, Int.reduceMul, wa_cond, axC_t, axC_f, s7, s8, s9, aIndexAddr, r, l0, Nat.zero_mul, s3]
    obtain ⟨g1, n1, d1, h1⟩ : ∃ g1 n1 d1, mkQ x = qV g1 n1 d1 := ⟨_, _, _, rfl⟩
    rw [h1] at o1
    unfold qV at o1
    refine kv (o1 _) ?_
    simp -implicitDefEqProofs only [go_sem, Nat.reduceAdd, Nat.reduceSub, Nat.reduceMul, Nat.reduceLT, Nat.reduceLeDiff, Nat.reduceEqDiff, Nat.reduceBEq, Nat.reduceGT, Nat.reduceMod, Nat.reduceDiv, ↓reduceIte, reduceCtorEq, Int.reduceLE, Int.reduceLT, Int.reduceToNat, Int.reduceEq, Int.reduceNeg, Int.reduceAdd, Int.reduceSub, Int.reduceMul, s2, s3, s7, s8, s9, Int.zero_add]
    exact ⟨1, ⟨g1, n1, d1, _, rfl, rfl, .inr (.inl ⟨rfl, h1.symm⟩)⟩, by decide⟩
  · rw [← hi] at o2
    have r := fun G => rd_more r1 G
    unfold qV at o2
    simp -implicitDefEqProofs only [go_sem, Nat.reduceAdd, Nat.reduceSub, Nat.reduceMul, Nat.reduceLT, Nat.reduceLeDiff, Nat.reduceEqDiff, Nat.reduceBEq, Nat.reduceGT, Nat.reduceMod, Nat.reduceDiv, ↓reduceIte, reduceCtorEq, Int.reduceLE, Int.reduceLT, Int.reduceToNat, Int.reduceEq, Int.reduceNeg, Int.reduceAdd, Int.reduceSub, Int.reduceMul, wa_cond, axC_t, axC_f, s7, s8, s9, aIndexAddr, r, l1, Nat.one_mul, s3, show (0 : Int) ≤ 1 by decide, show Int.toNat 1 = 1 from rfl]
    obtain ⟨g1, n1, d1, h1⟩ : ∃ g1 n1 d1, mkQ z = qV g1 n1 d1 := ⟨_, _, _, rfl⟩
    rw [h1] at o2
    unfold qV at o2
    refine kv (o2 _) ?_
    simp -implicitDefEqProofs only [go_sem, Nat.reduceAdd, Nat.reduceSub, Nat.reduceMul, Nat.reduceLT, Nat.reduceLeDiff, Nat.reduceEqDiff, Nat.reduceBEq, Nat.reduceGT, Nat.reduceMod, Nat.reduceDiv, ↓reduceIte, reduceCtorEq, Int.reduceLE, Int.reduceLT, Int.reduceToNat, Int.reduceEq, Int.reduceNeg, Int.reduceAdd, Int.reduceSub, Int.reduceMul, s2, s3, s7, s8, s9]
    exact ⟨2, ⟨g1, n1, d1, _, rfl, rfl, .inr (.inr ⟨rfl, h1.symm⟩)⟩, by decide⟩
  · have l2 : ¬ ((2 : Nat) : Int) < 2 := by decide
    rw [← hi]
    unfold qV
    simp -implicitDefEqProofs only [go_sem, Nat.reduceAdd, Nat.reduceSub, Nat.reduceMul, Nat.reduceLT, Nat.reduceLeDiff, Nat.reduceEqDiff, Nat.reduceBEq, Nat.reduceGT, Nat.reduceMod, Nat.reduceDiv, ↓reduceIte, reduceCtorEq, Int.reduceLE, Int.reduceLT, Int.reduceToNat, Int.reduceEq, Int.reduceNeg, Int.reduceAdd, Int.reduceSub, Int.reduceMul, wa_cond, axC_t, axC_f, s2, s3, s7, s8, s9, l2, res74]
    first | exact .app _ _ | exact ⟨.app _ _, rfl⟩
end Go.Proofs.YthhmkaikopdmjaaGreat
namespace Go.Proofs.YthhmkaikopdmjaaGreat
open Go Go.Fw
theorem build125 (H : Heap) (a b c d e f : Value) : aBuildSlice tt H 125 2 [(0, .agg #[a, b, c]), (1, .agg #[d, e, f])] = some (.slice (some ⟨H.length, 0, none⟩) 2 2, H ++ [⟨[a, b, c, d, e, f], 3, true⟩]) := rfl
theorem minusQ (H : Heap) {v w : Value} {a b : Rat} {k k' : Nat} (hv : QV v a k) (hw : QV w b k') (hk : k ≤ 100000) (hk' : k' ≤ 100000) : Sim Tryz.prog 113 #[v, w] H (mkQ (-(a * b))) H := by
  refine flat_ex rfl ?_
  have o1 := fun H => mulQ H hv hw (by omega) (by omega)
  have o2 := fun H => negQ H (hv.sz.mul hw.sz).qv (by omega)
  generalize -(a * b) = z at *
  generalize a * b = y at *
  obtain ⟨g, n, d, rfl, rfl, h1, h2⟩ := hv
  obtain ⟨g', n', d', rfl, rfl, h3, h4⟩ := hw
  unfold qV at o1 ⊢
  refine sxA tok mixed Tryz.func113 ?_
  simp -implicitDefEqProofs only [go_sem, simprocAttr, UU]
  refine kw (o1 _) ?_
  refine kw (o2 _) ?_
  simp -implicitDefEqProofs only [go_sem, simprocAttr, UU, res113]
  first | exact .app _ _ | exact ⟨.app _ _, rfl⟩ | exact .refl _ | exact ⟨.refl _, rfl⟩
theorem overQ (H : Heap) {v w : Value} {a b : Rat} {k k' : Nat} (hv : QV v a k) (hw : QV w b k') (hk : k ≤ 1100000) (hk' : k' ≤ 1100000) : Sim Tryz.prog 100 #[v, w] H (mkQ (a / b)) H := by
  refine flat_ex rfl ?_
  obtain ⟨e, o1⟩ : ∃ e : Int, ∀ H, Sim Tryz.prog 151 #[v, w] H (.tuple #[mkQ (a / b), .int .i64 e]) H := by
    by_cases h0 : b = 0
    · refine ⟨10, fun H => ?_⟩
      have := quoQ H hv hw hk hk'
      rw [if_pos h0] at this
      rw [h0, Rat.div_def, Rat.inv_zero, Rat.mul_zero]
      exact this
    · refine ⟨0, fun H => ?_⟩
      have := quoQ H hv hw hk hk'
      rw [if_neg h0] at this
      exact this
  generalize a / b = z at *
  obtain ⟨g, n, d, rfl, rfl, h1, h2⟩ := hv
  obtain ⟨g', n', d', rfl, rfl, h3, h4⟩ := hw
  unfold qV at o1 ⊢
  refine sxA tok mixed Tryz.func100 ?_
  simp -implicitDefEqProofs only [go_sem, simprocAttr, UU]
  refine kw (o1 _) ?_
  simp -implicitDefEqProofs only [go_sem, simprocAttr, UU, res100]
  first | exact .app _ _ | exact ⟨.app _ _, rfl⟩ | exact .refl _ | exact ⟨.refl _, rfl⟩
theorem backR (H : Heap) {r : RR} {k : Nat} (hr : r.le k) (hk : k ≤ 100000) : Sim Tryz.prog 64 #[r.val] H (.agg #[.bool r.g, .string (bs r.n), .string (bs r.d), .bool (decide ((-r.rot.s).num < 0)), .string (bs (digB (-r.rot.s).num.natAbs)), .string (bs (denB (-r.rot.s).den))]) H := by
  refine flat_ex rfl ?_
  have o1 := fun H => negQ H hr.s (by omega)
  generalize -r.rot.s = z at *
  unfold qV at o1
  unfold RR.val rV
  refine sxA tok mixed Tryz.func64 ?_
  simp -implicitDefEqProofs only [go_sem, simprocAttr, UU]
  refine ax_quiet (by kernel_rfl) ?_
  simp -implicitDefEqProofs only [go_sem, simprocAttr, UU]
  refine kw (o1 _) ?_
  simp -implicitDefEqProofs only [go_sem, simprocAttr, UU, res64]
  first | exact .app _ _ | exact ⟨.app _ _, rfl⟩ | exact .refl _ | exact ⟨.refl _, rfl⟩
theorem thenR (H : Heap) {a b : RR} {k : Nat} (ha : a.le k) (hb : b.le k) (hk : k ≤ 20000) : Sim Tryz.prog 59 #[a.val, b.val] H (RR.of (a.rot.thn b.rot)).val H := by
  refine flat_ex rfl ?_
  have o1 := fun H => mulQ H ha.c hb.c (by omega) (by omega)
  have o2 := fun H => minusQ H ha.s hb.s (by omega) (by omega)
  have o3 := fun H => mulQ H ha.s hb.c (by omega) (by omega)
  have o4 := fun H => mulQ H ha.c hb.s (by omega) (by omega)
  have q1 := (ha.c.sz.mul hb.c.sz).qv
  have q2 := (ha.s.sz.mul hb.s.sz).neg.qv
  have q3 := (ha.s.sz.mul hb.c.sz).qv
  have q4 := (ha.c.sz.mul hb.s.sz).qv
  have s1 := fun {T : Heap} {b : Nat} r0 r1 => sum2 (H := T) (b := b) (c := 2) r0 r1 q1 q2 (by omega)
  have s2 := fun {T : Heap} {b : Nat} r0 r1 => sum2 (H := T) (b := b) (c := 2) r0 r1 q3 q4 (by omega)
  have e1 : a.rot.c * b.rot.c + -(a.rot.s * b.rot.s) = (a.rot.thn b.rot).c := by unfold Rot.thn; rw [← Rat.sub_eq_add_neg]
  have e2 : a.rot.s * b.rot.c + a.rot.c * b.rot.s = (a.rot.thn b.rot).s := rfl
  rw [e1] at s1
  rw [e2] at s2
  rw [RR.of_val]
  generalize (a.rot.thn b.rot).c = x at *
  generalize (a.rot.thn b.rot).s = y at *
  clear q1 q2 q3 q4 e1 e2
  generalize a.rot.c * b.rot.c = p1 at *
  generalize -(a.rot.s * b.rot.s) = p2 at *
  generalize a.rot.s * b.rot.c = p3 at *
  generalize a.rot.c * b.rot.s = p4 at *
  unfold qV at o1 o2 o3 o4
  unfold RR.val rV
  refine sxA tok mixed Tryz.func59 ?_
  simp -implicitDefEqProofs only [go_sem, simprocAttr, UU]
  refine ax_quiet (by kernel_rfl) ?_
  simp -implicitDefEqProofs only [go_sem, simprocAttr, UU]
  refine kw (o1 _) ?_
  refine kv (o2 _) ?_
  simp -implicitDefEqProofs only [go_sem, simprocAttr, UU, build125]
  refine wl_callV #[.slice (some ⟨H.length + 3, 0, none⟩) 2 2] (by simp -implicitDefEqProofs only [go_sem, simprocAttr, UU]) (s1 (b := H.length + 3) (by simp -implicitDefEqProofs only [go_sem, simprocAttr, UU]) (by simp -implicitDefEqProofs only [go_sem, simprocAttr, UU])) ?_
  simp -implicitDefEqProofs only [go_sem, simprocAttr, UU]
  refine kw (o3 _) ?_
  refine kv (o4 _) ?_
  simp -implicitDefEqProofs only [go_sem, simprocAttr, UU, build125]
  refine wl_callV #[.slice (some ⟨H.length + 4, 0, none⟩) 2 2] (by simp -implicitDefEqProofs only [go_sem, simprocAttr, UU]) (s2 (b := H.length + 4) (by simp -implicitDefEqProofs only [go_sem, simprocAttr, UU]) (by simp -implicitDefEqProofs only [go_sem, simprocAttr, UU])) ?_
  simp -implicitDefEqProofs only [go_sem, simprocAttr, UU]
  simp -implicitDefEqProofs only [go_sem, simprocAttr, UU, res59]
  first | exact .app _ _ | exact ⟨.app _ _, rfl⟩ | exact .refl _ | exact ⟨.refl _, rfl⟩
end Go.Proofs.YthhmkaikopdmjaaGreat
namespace Go.Proofs.YthhmkaikopdmjaaGreat
open Go Go.Fw
theorem eachR (H : Heap) {p q : RR} {f : FuncId} {x y : Rat} (h1 : ∀ H, Sim Tryz.prog f #[qV p.g p.n p.d, qV q.g q.n q.d] H (mkQ x) H) (h2 : ∀ H, Sim Tryz.prog f #[qV p.g' p.n' p.d', qV q.g' q.n' q.d'] H (mkQ y) H) :
    Sim Tryz.prog 205 #[p.val, q.val, .func (.func f) #[] #[]] H (RR.of ⟨x, y⟩).val H := by
  refine flat_ex rfl ?_
  rw [RR.of_val]
  unfold qV at h1 h2
  unfold RR.val rV
  refine sxA tok mixed Tryz.func205 ?_
  simp -implicitDefEqProofs only [go_sem, simprocAttr, UU]
  refine ax_quiet (by kernel_rfl) ?_
  simp -implicitDefEqProofs only [go_sem, simprocAttr, UU]
  refine wl_callO _ (by simp -implicitDefEqProofs only [go_sem, simprocAttr, UU]) _ (by simp -implicitDefEqProofs only [go_sem, simprocAttr, UU]) (h1 _) ?_
  simp -implicitDefEqProofs only [go_sem, simprocAttr, UU]
  refine wl_callO _ (by simp -implicitDefEqProofs only [go_sem, simprocAttr, UU]) _ (by simp -implicitDefEqProofs only [go_sem, simprocAttr, UU]) (h2 _) ?_
  simp -implicitDefEqProofs only [go_sem, simprocAttr, UU]
  simp -implicitDefEqProofs only [go_sem, simprocAttr, UU, res205]
  first | exact .app _ _ | exact ⟨.app _ _, rfl⟩ | exact .refl _ | exact ⟨.refl _, rfl⟩
theorem subP (H : Heap) {a b : RR} {k : Nat} (ha : a.le k) (hb : b.le k) (hk : k ≤ 1100000) : Sim Tryz.prog 146 #[a.val, b.val] H (RR.of (a.rot.sub b.rot)).val H := by
  refine flat_ex rfl ?_
  have o1 := fun H => eachR H (fun H => subQ H ha.c hb.c hk hk) (fun H => subQ H ha.s hb.s hk hk)
  have e : (⟨a.rot.c - b.rot.c, a.rot.s - b.rot.s⟩ : Rot) = a.rot.sub b.rot := rfl
  rw [e] at o1
  generalize a.rot.sub b.rot = z at *
  rw [RR.of_val] at o1 ⊢
  unfold RR.val rV at o1 ⊢
  refine sxA tok mixed Tryz.func146 ?_
  simp -implicitDefEqProofs only [go_sem, simprocAttr, UU]
  refine kw (o1 _) ?_
  simp -implicitDefEqProofs only [go_sem, simprocAttr, UU, res146]
  first | exact .app _ _ | exact ⟨.app _ _, rfl⟩ | exact .refl _ | exact ⟨.refl _, rfl⟩
theorem crossP (H : Heap) {a b : RR} {k : Nat} (ha : a.le k) (hb : b.le k) (hk : k ≤ 500000) : Sim Tryz.prog 145 #[a.val, b.val] H (mkQ (a.rot.cross b.rot)) H := by
  refine flat_ex rfl ?_
  have o1 := fun H => eachR H (q := ⟨b.g', b.n', b.d', b.g, b.n, b.d⟩) (fun H => mulQ H ha.c hb.s (by omega) (by omega)) (fun H => mulQ H ha.s hb.c (by omega) (by omega))
  have o2 := fun H => subQ H (ha.c.sz.mul hb.s.sz).qv (ha.s.sz.mul hb.c.sz).qv (by omega) (by omega)
  have e : a.rot.c * b.rot.s - a.rot.s * b.rot.c = a.rot.cross b.rot := rfl
  rw [e] at o2
  generalize a.rot.cross b.rot = z at *
  generalize a.rot.c * b.rot.s = x at *
  generalize a.rot.s * b.rot.c = y at *
  rw [RR.of_val] at o1
  unfold RR.val rV at o1 ⊢
  refine sxA tok mixed Tryz.func145 ?_
  simp -implicitDefEqProofs only [go_sem, simprocAttr, UU]
  refine kw (o1 _) ?_
  refine kw (o2 _) ?_
  simp -implicitDefEqProofs only [go_sem, simprocAttr, UU, res145]
  first | exact .app _ _ | exact ⟨.app _ _, rfl⟩ | exact .refl _ | exact ⟨.refl _, rfl⟩
theorem orientP (H : Heap) {a b c : RR} {k : Nat} (ha : a.le k) (hb : b.le k) (hc : c.le k) (hk : k ≤ 130000) : Sim Tryz.prog 86 #[a.val, b.val, c.val] H (.int .i64 (cmpQ (ori a.rot b.rot c.rot) 0)) H := by
  refine flat_ex rfl ?_
  have o1 := fun H => subP H hb ha (by omega)
  have o2 := fun H => subP H hc ha (by omega)
  have s1 : (RR.of (b.rot.sub a.rot)).le (2 * k + 10) := (hb.sz.sub ha.sz).le.mono (by omega)
  have s2 : (RR.of (c.rot.sub a.rot)).le (2 * k + 10) := (hc.sz.sub ha.sz).le.mono (by omega)
  have o3 := fun H => crossP H s1 s2 (by omega)
  have z := ((s1.c.sz.mul s2.s.sz).sub (s1.s.sz.mul s2.c.sz)).qv
  rw [RR.of_rot, RR.of_rot] at o3 z
  have o4 := fun H => signQ H z (by omega)
  have e : (b.rot.sub a.rot).c * (c.rot.sub a.rot).s - (b.rot.sub a.rot).s * (c.rot.sub a.rot).c = (b.rot.sub a.rot).cross (c.rot.sub a.rot) := rfl
  rw [e] at o4
  unfold ori
  generalize (b.rot.sub a.rot).cross (c.rot.sub a.rot) = w at *
  clear z s1 s2
  generalize b.rot.sub a.rot = u at *
  generalize c.rot.sub a.rot = v at *
  rw [RR.of_val] at o1 o2
  rw [RR.of_val, RR.of_val] at o3
  unfold RR.val rV at o1 o2 ⊢
  refine sxA tok mixed Tryz.func86 ?_
  simp -implicitDefEqProofs only [go_sem, simprocAttr, UU]
  refine ax_quiet (by kernel_rfl) ?_
  simp -implicitDefEqProofs only [go_sem, simprocAttr, UU]
  refine kw (o1 _) ?_
  refine kw (o2 _) ?_
  refine kw (o3 _) ?_
  refine kw (o4 _) ?_
  simp -implicitDefEqProofs only [go_sem, simprocAttr, UU, res86]
  first | exact .app _ _ | exact ⟨.app _ _, rfl⟩ | exact .refl _ | exact ⟨.refl _, rfl⟩
theorem compareP (H : Heap) {a b : RR} {k : Nat} (ha : a.le k) (hb : b.le k) (hk : k ≤ 1100000) : Sim Tryz.prog 136 #[a.val, b.val] H (.int .i64 (pcmp a.rot b.rot)) H := by
  refine flat_ex rfl ?_
  have o1 := fun H => cmpR H ha.c hb.c hk hk
  have o2 := fun H => cmpR H ha.s hb.s hk hk
  unfold pcmp
  generalize cmpQ a.rot.c b.rot.c = x at *
  generalize cmpQ a.rot.s b.rot.s = y at *
  unfold qV at o1 o2
  unfold RR.val rV
  by_cases h : x = 0
  · rw [if_neg (by simpa using h)]
    refine sxA tok mixed Tryz.func136 ?_
    simp -implicitDefEqProofs only [go_sem, simprocAttr, UU]
    refine kv (o1 _) ?_
    simp -implicitDefEqProofs only [go_sem, simprocAttr, UU, h, wa_cond, axC_t, axC_f]
    refine kw (o2 _) ?_
    simp -implicitDefEqProofs only [go_sem, simprocAttr, UU, res136]
    first | exact .app _ _ | exact ⟨.app _ _, rfl⟩ | exact .refl _ | exact ⟨.refl _, rfl⟩
  · rw [if_pos h]
    refine sxA tok mixed Tryz.func136 ?_
    simp -implicitDefEqProofs only [go_sem, simprocAttr, UU]
    refine kv (o1 _) ?_
    simp -implicitDefEqProofs only [go_sem, simprocAttr, UU, h, wa_cond, axC_t, axC_f]
    simp -implicitDefEqProofs only [go_sem, simprocAttr, UU, res136]
    first | exact .app _ _ | exact ⟨.app _ _, rfl⟩ | exact .refl _ | exact ⟨.refl _, rfl⟩
end Go.Proofs.YthhmkaikopdmjaaGreat
namespace Go.Proofs.YthhmkaikopdmjaaGreat
open Go Go.Fw
theorem halfR (H : Heap) {r : RR} {k : Nat} (hr : r.le k) (hk : k ≤ 150000) : Sim Tryz.prog 114 #[r.val] H (.int .i64 r.rot.half) H := by
  refine flat_ex rfl ?_
  have o1 := fun H => signQ H hr.c (by omega)
  have o2 := fun H => signQ H hr.s (by omega)
  unfold qV at o1 o2
  unfold RR.val rV Rot.half
  have hc := cmpQ_cases r.rot.c 0
  have hs := cmpQ_cases r.rot.s 0
  generalize cmpQ r.rot.c 0 = x at *
  generalize cmpQ r.rot.s 0 = y at *
  have k2 : IntKind.i64.wrap 2 = 2 := rfl
  have k1 : IntKind.i64.wrap 1 = 1 := rfl
  have k0 : IntKind.i64.wrap 0 = 0 := rfl
  have t2 : (2 : Int).tdiv 2 = 1 := rfl
  have t1 : (1 : Int).tdiv 2 = 0 := rfl
  have t0 : (0 : Int).tdiv 2 = 0 := rfl
  have i0 : (0 : Int) < ((3 : Nat) : Int) := by decide
  have i1 : (1 : Int) < ((3 : Nat) : Int) := by decide
  have i2 : (2 : Int) < ((3 : Nat) : Int) := by decide
  rcases hs with ⟨rfl, hs⟩ | ⟨rfl, hs⟩ | ⟨rfl, hs⟩
  · rw [if_neg (by grind), if_pos hs]
    rcases hc with ⟨rfl, hc⟩ | ⟨rfl, hc⟩ | ⟨rfl, hc⟩
    · skip
      refine sxA tok mixed Tryz.func114 ?_
      simp -implicitDefEqProofs only [go_sem, simprocAttr, UU]
      refine ax_quiet (by kernel_rfl) ?_
      simp -implicitDefEqProofs only [go_sem, simprocAttr, UU]
      refine kv (o1 _) ?_
      simp -implicitDefEqProofs only [go_sem, simprocAttr, UU, k0, k1, k2, t0, t1, t2]
      refine kv (o2 _) ?_
      simp -implicitDefEqProofs only [go_sem, simprocAttr, UU, k0, k1, k2, i0, i1, i2, partL, show Int.toNat 1 = 1 from rfl, show Int.toNat 2 = 2 from rfl, show Int.toNat 0 = 0 from rfl]
      simp -implicitDefEqProofs only [go_sem, simprocAttr, UU, res114]
      first | exact .app _ _ | exact ⟨.app _ _, rfl⟩ | exact .refl _ | exact ⟨.refl _, rfl⟩
    · skip
      refine sxA tok mixed Tryz.func114 ?_
      simp -implicitDefEqProofs only [go_sem, simprocAttr, UU]
      refine ax_quiet (by kernel_rfl) ?_
      simp -implicitDefEqProofs only [go_sem, simprocAttr, UU]
      refine kv (o1 _) ?_
      simp -implicitDefEqProofs only [go_sem, simprocAttr, UU, k0, k1, k2, t0, t1, t2]
      refine kv (o2 _) ?_
      simp -implicitDefEqProofs only [go_sem, simprocAttr, UU, k0, k1, k2, i0, i1, i2, partL, show Int.toNat 1 = 1 from rfl, show Int.toNat 2 = 2 from rfl, show Int.toNat 0 = 0 from rfl]
      simp -implicitDefEqProofs only [go_sem, simprocAttr, UU, res114]
      first | exact .app _ _ | exact ⟨.app _ _, rfl⟩ | exact .refl _ | exact ⟨.refl _, rfl⟩
    · skip
      refine sxA tok mixed Tryz.func114 ?_
      simp -implicitDefEqProofs only [go_sem, simprocAttr, UU]
      refine ax_quiet (by kernel_rfl) ?_
      simp -implicitDefEqProofs only [go_sem, simprocAttr, UU]
      refine kv (o1 _) ?_
      simp -implicitDefEqProofs only [go_sem, simprocAttr, UU, k0, k1, k2, t0, t1, t2]
      refine kv (o2 _) ?_
      simp -implicitDefEqProofs only [go_sem, simprocAttr, UU, k0, k1, k2, i0, i1, i2, partL, show Int.toNat 1 = 1 from rfl, show Int.toNat 2 = 2 from rfl, show Int.toNat 0 = 0 from rfl]
      simp -implicitDefEqProofs only [go_sem, simprocAttr, UU, res114]
      first | exact .app _ _ | exact ⟨.app _ _, rfl⟩ | exact .refl _ | exact ⟨.refl _, rfl⟩
  · rw [if_neg (by grind), if_neg (by grind)]
    rcases hc with ⟨rfl, hc⟩ | ⟨rfl, hc⟩ | ⟨rfl, hc⟩
    · rw [if_pos hc]
      refine sxA tok mixed Tryz.func114 ?_
      simp -implicitDefEqProofs only [go_sem, simprocAttr, UU]
      refine ax_quiet (by kernel_rfl) ?_
      simp -implicitDefEqProofs only [go_sem, simprocAttr, UU]
      refine kv (o1 _) ?_
      simp -implicitDefEqProofs only [go_sem, simprocAttr, UU, k0, k1, k2, t0, t1, t2]
      refine kv (o2 _) ?_
      simp -implicitDefEqProofs only [go_sem, simprocAttr, UU, k0, k1, k2, i0, i1, i2, partL, show Int.toNat 1 = 1 from rfl, show Int.toNat 2 = 2 from rfl, show Int.toNat 0 = 0 from rfl]
      simp -implicitDefEqProofs only [go_sem, simprocAttr, UU, res114]
      first | exact .app _ _ | exact ⟨.app _ _, rfl⟩ | exact .refl _ | exact ⟨.refl _, rfl⟩
    · rw [if_neg (by grind)]
      refine sxA tok mixed Tryz.func114 ?_
      simp -implicitDefEqProofs only [go_sem, simprocAttr, UU]
      refine ax_quiet (by kernel_rfl) ?_
      simp -implicitDefEqProofs only [go_sem, simprocAttr, UU]
      refine kv (o1 _) ?_
      simp -implicitDefEqProofs only [go_sem, simprocAttr, UU, k0, k1, k2, t0, t1, t2]
      refine kv (o2 _) ?_
      simp -implicitDefEqProofs only [go_sem, simprocAttr, UU, k0, k1, k2, i0, i1, i2, partL, show Int.toNat 1 = 1 from rfl, show Int.toNat 2 = 2 from rfl, show Int.toNat 0 = 0 from rfl]
      simp -implicitDefEqProofs only [go_sem, simprocAttr, UU, res114]
      first | exact .app _ _ | exact ⟨.app _ _, rfl⟩ | exact .refl _ | exact ⟨.refl _, rfl⟩
    · rw [if_neg (by grind)]
      refine sxA tok mixed Tryz.func114 ?_
      simp -implicitDefEqProofs only [go_sem, simprocAttr, UU]
      refine ax_quiet (by kernel_rfl) ?_
      simp -implicitDefEqProofs only [go_sem, simprocAttr, UU]
      refine kv (o1 _) ?_
      simp -implicitDefEqProofs only [go_sem, simprocAttr, UU, k0, k1, k2, t0, t1, t2]
      refine kv (o2 _) ?_
      simp -implicitDefEqProofs only [go_sem, simprocAttr, UU, k0, k1, k2, i0, i1, i2, partL, show Int.toNat 1 = 1 from rfl, show Int.toNat 2 = 2 from rfl, show Int.toNat 0 = 0 from rfl]
      simp -implicitDefEqProofs only [go_sem, simprocAttr, UU, res114]
      first | exact .app _ _ | exact ⟨.app _ _, rfl⟩ | exact .refl _ | exact ⟨.refl _, rfl⟩
  · rw [if_pos hs]
    rcases hc with ⟨rfl, hc⟩ | ⟨rfl, hc⟩ | ⟨rfl, hc⟩
    · skip
      refine sxA tok mixed Tryz.func114 ?_
      simp -implicitDefEqProofs only [go_sem, simprocAttr, UU]
      refine ax_quiet (by kernel_rfl) ?_
      simp -implicitDefEqProofs only [go_sem, simprocAttr, UU]
      refine kv (o1 _) ?_
      simp -implicitDefEqProofs only [go_sem, simprocAttr, UU, k0, k1, k2, t0, t1, t2]
      refine kv (o2 _) ?_
      simp -implicitDefEqProofs only [go_sem, simprocAttr, UU, k0, k1, k2, i0, i1, i2, partL, show Int.toNat 1 = 1 from rfl, show Int.toNat 2 = 2 from rfl, show Int.toNat 0 = 0 from rfl]
      simp -implicitDefEqProofs only [go_sem, simprocAttr, UU, res114]
      first | exact .app _ _ | exact ⟨.app _ _, rfl⟩ | exact .refl _ | exact ⟨.refl _, rfl⟩
    · skip
      refine sxA tok mixed Tryz.func114 ?_
      simp -implicitDefEqProofs only [go_sem, simprocAttr, UU]
      refine ax_quiet (by kernel_rfl) ?_
      simp -implicitDefEqProofs only [go_sem, simprocAttr, UU]
      refine kv (o1 _) ?_
      simp -implicitDefEqProofs only [go_sem, simprocAttr, UU, k0, k1, k2, t0, t1, t2]
      refine kv (o2 _) ?_
      simp -implicitDefEqProofs only [go_sem, simprocAttr, UU, k0, k1, k2, i0, i1, i2, partL, show Int.toNat 1 = 1 from rfl, show Int.toNat 2 = 2 from rfl, show Int.toNat 0 = 0 from rfl]
      simp -implicitDefEqProofs only [go_sem, simprocAttr, UU, res114]
      first | exact .app _ _ | exact ⟨.app _ _, rfl⟩ | exact .refl _ | exact ⟨.refl _, rfl⟩
    · skip
      refine sxA tok mixed Tryz.func114 ?_
      simp -implicitDefEqProofs only [go_sem, simprocAttr, UU]
      refine ax_quiet (by kernel_rfl) ?_
      simp -implicitDefEqProofs only [go_sem, simprocAttr, UU]
      refine kv (o1 _) ?_
      simp -implicitDefEqProofs only [go_sem, simprocAttr, UU, k0, k1, k2, t0, t1, t2]
      refine kv (o2 _) ?_
      simp -implicitDefEqProofs only [go_sem, simprocAttr, UU, k0, k1, k2, i0, i1, i2, partL, show Int.toNat 1 = 1 from rfl, show Int.toNat 2 = 2 from rfl, show Int.toNat 0 = 0 from rfl]
      simp -implicitDefEqProofs only [go_sem, simprocAttr, UU, res114]
      first | exact .app _ _ | exact ⟨.app _ _, rfl⟩ | exact .refl _ | exact ⟨.refl _, rfl⟩
end Go.Proofs.YthhmkaikopdmjaaGreat
namespace Go.Proofs.YthhmkaikopdmjaaGreat
open Go Go.Fw
theorem neqmk (x y : Rat) : aBin tt .neq 24 (mkQ x) (mkQ y) = some (.bool (decide (x ≠ y))) := by
  have := neq24 (decide (x.num < 0)) (decide (y.num < 0)) (digB x.num.natAbs) (denB x.den) (digB y.num.natAbs) (denB y.den)
  refine Eq.trans this ?_
  congr 2
  have e : (decide (x.num < 0) = decide (y.num < 0) ∧ digB x.num.natAbs = digB y.num.natAbs ∧ denB x.den = denB y.den) ↔ x = y := by
    rw [← mkQ_inj]; unfold mkQ; rw [qV_inj]
  by_cases h : x = y
  · simp [h]
  · have h2 : ¬ (decide (x.num < 0) = decide (y.num < 0) ∧ digB x.num.natAbs = digB y.num.natAbs ∧ denB x.den = denB y.den) := fun z => h (e.1 z)
    rw [decide_eq_true h2, decide_eq_true h]
theorem rcheckQ (H : Heap) {r : RR} {k : Nat} (hr : r.le k) (hk : k ≤ 100000) : (Sim Tryz.prog 73 #[.agg #[.bool r.g, .string (bs r.n), .string (bs r.d)]] H (.int .i64 (if isCan r.g r.n r.d = true then 0 else 1)) H) ∧
    Sim Tryz.prog 73 #[.agg #[.bool r.g', .string (bs r.n'), .string (bs r.d')]] H (.int .i64 (if isCan r.g' r.n' r.d' = true then 0 else 1)) H := by
  have h1 := hr.n
  have h2 := hr.d
  have h3 := hr.n'
  have h4 := hr.d'
  exact ⟨rcheck_sim H (by omega) (by omega), rcheck_sim H (by omega) (by omega)⟩
theorem checkR (H : Heap) {r : RR} {k : Nat} (hr : r.le k) (hk : k ≤ 20000) : Sim Tryz.prog 34 #[r.val] H (.int .i64 r.err) H := by
  refine flat_ex rfl ?_
  have c1 := fun H => (rcheckQ H hr (by omega)).1
  have c2 := fun H => (rcheckQ H hr (by omega)).2
  unfold RR.err
  unfold RR.val rV
  cases i1 : isCan r.g r.n r.d
  · simp only [i1, Bool.false_and, Bool.false_eq_true, if_false] at c1 ⊢
    refine sxA tok mixed Tryz.func34 ?_
    simp -implicitDefEqProofs only [go_sem, simprocAttr, UU]
    refine kv (c1 _) ?_
    simp -implicitDefEqProofs only [go_sem, simprocAttr, UU, wa_cond, axC_t, axC_f]
    simp -implicitDefEqProofs only [go_sem, simprocAttr, UU, res34]
    first | exact .app _ _ | exact ⟨.app _ _, rfl⟩ | exact .refl _ | exact ⟨.refl _, rfl⟩
  cases i2 : isCan r.g' r.n' r.d'
  · simp only [i1, i2, Bool.and_false, Bool.false_eq_true, if_false, if_true] at c1 c2 ⊢
    refine sxA tok mixed Tryz.func34 ?_
    simp -implicitDefEqProofs only [go_sem, simprocAttr, UU]
    refine kv (c1 _) ?_
    simp -implicitDefEqProofs only [go_sem, simprocAttr, UU, wa_cond, axC_t, axC_f]
    refine kv (c2 _) ?_
    simp -implicitDefEqProofs only [go_sem, simprocAttr, UU, wa_cond, axC_t, axC_f]
    simp -implicitDefEqProofs only [go_sem, simprocAttr, UU, res34]
    first | exact .app _ _ | exact ⟨.app _ _, rfl⟩ | exact .refl _ | exact ⟨.refl _, rfl⟩
  simp only [i1, i2, Bool.and_true, if_true] at c1 c2 ⊢
  have o1 := fun H => mulQ H hr.c hr.c (by omega) (by omega)
  have o2 := fun H => mulQ H hr.s hr.s (by omega) (by omega)
  have q1 := (hr.c.sz.mul hr.c.sz).qv
  have q2 := (hr.s.sz.mul hr.s.sz).qv
  have s1 := fun {T : Heap} {b : Nat} r0 r1 => sum2 (H := T) (b := b) (c := 2) r0 r1 q1 q2 (by omega)
  have o3 := fun H => ofN_sim H (n := 1) (by decide) (by decide)
  rw [show ((1 : Int) : Rat) = 1 from rfl] at o3
  have hq := neqmk (r.rot.c * r.rot.c + r.rot.s * r.rot.s) 1
  have hok : r.rot.ok ↔ r.rot.c * r.rot.c + r.rot.s * r.rot.s = 1 := Iff.rfl
  clear q1 q2
  generalize r.rot.c * r.rot.c + r.rot.s * r.rot.s = z at *
  generalize r.rot.c * r.rot.c = p1 at *
  generalize r.rot.s * r.rot.s = p2 at *
  unfold qV at o1 o2
  unfold mkQ qV at hq
  by_cases h0 : r.rot.ok
  · have hz := hok.1 h0
    simp only [h0, if_true]
    subst hz
    simp only [ne_eq, not_true_eq_false, decide_false] at hq
    refine sxA tok mixed Tryz.func34 ?_
    simp -implicitDefEqProofs only [go_sem, simprocAttr, UU]
    refine kv (c1 _) ?_
    simp -implicitDefEqProofs only [go_sem, simprocAttr, UU, wa_cond, axC_t, axC_f]
    refine kv (c2 _) ?_
    simp -implicitDefEqProofs only [go_sem, simprocAttr, UU, wa_cond, axC_t, axC_f]
    refine ax_quiet (by kernel_rfl) ?_
    simp -implicitDefEqProofs only [go_sem, simprocAttr, UU]
    refine kw (o1 _) ?_
    refine kv (o2 _) ?_
    simp -implicitDefEqProofs only [go_sem, simprocAttr, UU, build125]
    refine wl_callV #[.slice (some ⟨H.length + 1, 0, none⟩) 2 2] (by simp -implicitDefEqProofs only [go_sem, simprocAttr, UU]) (s1 (b := H.length + 1) (by simp -implicitDefEqProofs only [go_sem, simprocAttr, UU]) (by simp -implicitDefEqProofs only [go_sem, simprocAttr, UU])) ?_
    simp -implicitDefEqProofs only [go_sem, simprocAttr, UU]
    refine kv (o3 _) ?_
    simp -implicitDefEqProofs only [go_sem, simprocAttr, UU, hq, wa_cond, axC_t, axC_f]
    simp -implicitDefEqProofs only [go_sem, simprocAttr, UU, res34]
    first | exact .app _ _ | exact ⟨.app _ _, rfl⟩ | exact .refl _ | exact ⟨.refl _, rfl⟩
  · have hz : ¬ z = 1 := fun h => h0 (hok.2 h)
    simp only [h0, if_false]
    simp only [ne_eq, hz, not_false_eq_true, decide_true] at hq
    refine sxA tok mixed Tryz.func34 ?_
    simp -implicitDefEqProofs only [go_sem, simprocAttr, UU]
    refine kv (c1 _) ?_
    simp -implicitDefEqProofs only [go_sem, simprocAttr, UU, wa_cond, axC_t, axC_f]
    refine kv (c2 _) ?_
    simp -implicitDefEqProofs only [go_sem, simprocAttr, UU, wa_cond, axC_t, axC_f]
    refine ax_quiet (by kernel_rfl) ?_
    simp -implicitDefEqProofs only [go_sem, simprocAttr, UU]
    refine kw (o1 _) ?_
    refine kv (o2 _) ?_
    simp -implicitDefEqProofs only [go_sem, simprocAttr, UU, build125]
    refine wl_callV #[.slice (some ⟨H.length + 1, 0, none⟩) 2 2] (by simp -implicitDefEqProofs only [go_sem, simprocAttr, UU]) (s1 (b := H.length + 1) (by simp -implicitDefEqProofs only [go_sem, simprocAttr, UU]) (by simp -implicitDefEqProofs only [go_sem, simprocAttr, UU])) ?_
    simp -implicitDefEqProofs only [go_sem, simprocAttr, UU]
    refine kv (o3 _) ?_
    simp -implicitDefEqProofs only [go_sem, simprocAttr, UU, hq, wa_cond, axC_t, axC_f]
    simp -implicitDefEqProofs only [go_sem, simprocAttr, UU, res34]
    first | exact .app _ _ | exact ⟨.app _ _, rfl⟩ | exact .refl _ | exact ⟨.refl _, rfl⟩
end Go.Proofs.YthhmkaikopdmjaaGreat
namespace Go.Proofs.YthhmkaikopdmjaaGreat
open Go Go.Fw
def badR (l : List RR) : Bool := l.any fun r => decide (r.err ≠ 0)
theorem badR_take {l : List RR} {i : Nat} (h : i < l.length) (h0 : badR (l.take i) = false) (h1 : l[i].err = 0) : badR (l.take (i + 1)) = false := by
  unfold badR at *
  rw [List.take_add_one, List.getElem?_eq_getElem h, Option.toList_some, List.any_append, h0]
  simp [h1]
theorem badR_at {l : List RR} {i : Nat} (h : i < l.length) (h1 : ¬ l[i].err = 0) : badR l = true := by
  unfold badR
  rw [List.any_eq_true]
  exact ⟨_, List.getElem_mem h, by simpa using h1⟩
theorem wrongR {H : Heap} {b i0 c k : Nat} {l : List RR} (hrd : ∀ i (h : i < l.length), rd H b (i0 + i * 6) 6 = some l[i].cells) (hle : ∀ r ∈ l, r.le k) (hk : k ≤ 20000) (hl : l.length ≤ 100000) :
    Sim Tryz.prog 58 #[.slice (some ⟨b, i0, none⟩) l.length c] H (.bool (badR l)) H := by
  refine flat_ex rfl ?_
  refine sxA tok mixed Tryz.func58 ?_
  simp -implicitDefEqProofs only [go_sem, simprocAttr, aLen]
  refine ax_loopx (fun (i : Nat) s T => ∃ (G : Heap), s 5 = .slice (some ⟨b, i0, none⟩) l.length c ∧ s 6 = .int .i64 (l.length : Nat) ∧ s 7 = .int .i64 (i : Nat) ∧ i ≤ l.length ∧ badR (l.take i) = false ∧ T = H ++ G) (fun i => l.length - i) 0 ?_ ?_
  · refine ⟨[], ?_⟩
    simp -implicitDefEqProofs only [go_sem, simprocAttr]
    rfl
  rintro i s T ⟨G, s5, s6, s7, hi, hb, hT⟩
  subst T
  simp -implicitDefEqProofs only [go_sem, simprocAttr, s6, s7]
  refine ax_cond2 ?_
  simp only [ev_tmp, ev_const, ev_func, upd_at, put_some, put_none, bndB_bool, Nat.reduceEqDiff, if_true, if_false, ↓reduceIte, reduceCtorEq]
  refine ⟨fun hc0 => have hlt := of_decide_eq_true hc0; ?_, fun hc0 => have hlt := of_decide_eq_false hc0; ?_⟩
  · have hil : i < l.length := by omega
    have hr := fun G => rd_more (hrd i hil) G
    have hc := fun H => checkR H (hle _ (List.getElem_mem hil)) hk
    unfold RR.cells at hr
    unfold RR.val rV at hc
    have hnn : (0 : Int) ≤ (i : Int) := by omega
    have hbt := fun h1 => badR_take hil hb h1
    have hba := fun h1 => badR_at hil h1
    generalize l[i] = r at *
    have w1 : IntKind.i64.wrap ((i : Int) + 1) = ((i + 1 : Nat) : Int) := by rw [w64 (by omega) (by omega)]; rfl
    simp -implicitDefEqProofs only [go_sem, simprocAttr, s5, s7, aIndexAddr, hlt, hnn, hr]
    refine kv (hc _) ?_
    by_cases h0 : r.err = 0
    · simp -implicitDefEqProofs only [go_sem, simprocAttr, wa_cond, axC_t, axC_f, h0, s5, s6, s7, w1]
      exact ⟨i + 1, ⟨_, rfl, by omega, hbt h0, rfl⟩, by omega⟩
    · simp -implicitDefEqProofs only [go_sem, simprocAttr, wa_cond, axC_t, axC_f, h0, res58]
      rw [hba h0]
      first | exact .app _ _ | exact ⟨.app _ _, rfl⟩
  · have hil : i = l.length := by omega
    subst hil
    rw [List.take_length] at hb
    rw [hb]
    simp -implicitDefEqProofs only [go_sem, simprocAttr, res58]
    first | exact .app _ _ | exact ⟨.app _ _, rfl⟩
theorem wrong1 {a : RR} {k : Nat} (ha : a.le k) (hk : k ≤ 20000) {T : Heap} {b : Nat} (r0 : rd T b 0 6 = some a.cells) : Sim Tryz.prog 58 #[.slice (some ⟨b, 0, none⟩) 1 1] T (.bool (decide (a.err ≠ 0))) T := by
  have := wrongR (H := T) (b := b) (i0 := 0) (c := 1) (l := [a]) (k := k) (fun i h => by
    have : i = 0 := by simp at h; omega
    subst this; exact r0) (fun r hr => by simp at hr; subst hr; exact ha) hk (by simp)
  simpa [badR] using this
theorem wrong2 {a b : RR} {k : Nat} (ha : a.le k) (hb : b.le k) (hk : k ≤ 20000) {T : Heap} {bb : Nat} (r0 : rd T bb 0 6 = some a.cells) (r1 : rd T bb 6 6 = some b.cells) : Sim Tryz.prog 58 #[.slice (some ⟨bb, 0, none⟩) 2 2] T (.bool (decide (a.err ≠ 0 ∨ b.err ≠ 0))) T := by
  have := wrongR (H := T) (b := bb) (i0 := 0) (c := 2) (l := [a, b]) (k := k) (fun i h => by
    have : i = 0 ∨ i = 1 := by simp at h; omega
    rcases this with rfl | rfl
    · exact r0
    · exact r1) (fun r hr => by simp at hr; rcases hr with rfl | rfl <;> assumption) hk (by simp)
  simpa [badR, Bool.decide_or] using this
end Go.Proofs.YthhmkaikopdmjaaGreat
namespace Go.Proofs.YthhmkaikopdmjaaGreat
open Go Go.Fw
theorem build22_1 (H : Heap) (a b c d e f : Value) : aBuildSlice tt H 22 1 [(0, .agg #[a, b, c, d, e, f])] = some (.slice (some ⟨H.length, 0, none⟩) 1 1, H ++ [⟨[a, b, c, d, e, f], 6, true⟩]) := rfl
theorem build22_2 (H : Heap) (a b c d e f a' b' c' d' e' f' : Value) : aBuildSlice tt H 22 2 [(0, .agg #[a, b, c, d, e, f]), (1, .agg #[a', b', c', d', e', f'])] = some (.slice (some ⟨H.length, 0, none⟩) 2 2, H ++ [⟨[a, b, c, d, e, f, a', b', c', d', e', f'], 6, true⟩]) := rfl
theorem build22_3 (H : Heap) (a b c d e f a' b' c' d' e' f' x1 x2 x3 x4 x5 x6 : Value) : aBuildSlice tt H 22 3 [(0, .agg #[a, b, c, d, e, f]), (1, .agg #[a', b', c', d', e', f']), (2, .agg #[x1, x2, x3, x4, x5, x6])] =
  some (.slice (some ⟨H.length, 0, none⟩) 3 3, H ++ [⟨[a, b, c, d, e, f, a', b', c', d', e', f', x1, x2, x3, x4, x5, x6], 6, true⟩]) := rfl
def zeroR : Value := rV false [] [] false [] []
theorem ThenR (H : Heap) {a b : RR} {k : Nat} (ha : a.le k) (hb : b.le k) (hk : k ≤ 20000) :
    Sim Tryz.prog 19 #[a.val, b.val] H (if a.err ≠ 0 ∨ b.err ≠ 0 then .tuple #[zeroR, .int .i64 1] else .tuple #[(RR.of (a.rot.thn b.rot)).val, .int .i64 0]) H := by
  refine flat_ex (by split <;> rfl) ?_
  have w := fun {T : Heap} {b1 : Nat} r0 r1 => wrong2 ha hb hk (T := T) (bb := b1) r0 r1
  have w := fun {T : Heap} {b : Nat} r0 r1 => @w T b r0 r1
  have o1 := fun H => thenR H ha hb hk
  rw [RR.of_val] at o1 ⊢
  unfold zeroR
  unfold RR.cells at w
  unfold RR.val rV at o1 ⊢
  by_cases h : a.err ≠ 0 ∨ b.err ≠ 0
  · rw [if_pos h]
    rw [decide_eq_true h] at w
    refine sxA tok mixed Tryz.func19 ?_
    simp -implicitDefEqProofs only [go_sem, simprocAttr, UU, build22_2]
    refine wl_callV #[.slice (some ⟨H.length + 3, 0, none⟩) 2 2] (by simp -implicitDefEqProofs only [go_sem, simprocAttr, UU, wa_cond, axC_t, axC_f]) (w (b := H.length + 3) (by simp -implicitDefEqProofs only [go_sem, simprocAttr, UU, wa_cond, axC_t, axC_f]) (by simp -implicitDefEqProofs only [go_sem, simprocAttr, UU, wa_cond, axC_t, axC_f])) ?_
    simp -implicitDefEqProofs only [go_sem, simprocAttr, UU, wa_cond, axC_t, axC_f]
    simp -implicitDefEqProofs only [go_sem, simprocAttr, UU, res19]
    first | exact .app _ _ | exact ⟨.app _ _, rfl⟩ | exact .refl _ | exact ⟨.refl _, rfl⟩
  · rw [if_neg h]
    rw [decide_eq_false h] at w
    refine sxA tok mixed Tryz.func19 ?_
    simp -implicitDefEqProofs only [go_sem, simprocAttr, UU, build22_2]
    refine wl_callV #[.slice (some ⟨H.length + 3, 0, none⟩) 2 2] (by simp -implicitDefEqProofs only [go_sem, simprocAttr, UU, wa_cond, axC_t, axC_f]) (w (b := H.length + 3) (by simp -implicitDefEqProofs only [go_sem, simprocAttr, UU, wa_cond, axC_t, axC_f]) (by simp -implicitDefEqProofs only [go_sem, simprocAttr, UU, wa_cond, axC_t, axC_f])) ?_
    simp -implicitDefEqProofs only [go_sem, simprocAttr, UU, wa_cond, axC_t, axC_f]
    refine kw (o1 _) ?_
    simp -implicitDefEqProofs only [go_sem, simprocAttr, UU, res19]
    first | exact .app _ _ | exact ⟨.app _ _, rfl⟩ | exact .refl _ | exact ⟨.refl _, rfl⟩
end Go.Proofs.YthhmkaikopdmjaaGreat
namespace Go.Proofs.YthhmkaikopdmjaaGreat
open Go Go.Fw
theorem imageR (H : Heap) {a b : RR} {k : Nat} (ha : a.le k) (hb : b.le k) (hk : k ≤ 20000) : Sim Tryz.prog 153 #[a.val, b.val] H (RR.of (a.rot.thn b.rot)).val H := by
  refine flat_ex rfl ?_
  have o1 := fun H => mulQ H ha.c hb.c (by omega) (by omega)
  have o2 := fun H => minusQ H ha.s hb.s (by omega) (by omega)
  have o3 := fun H => mulQ H ha.s hb.c (by omega) (by omega)
  have o4 := fun H => mulQ H ha.c hb.s (by omega) (by omega)
  have q1 := (ha.c.sz.mul hb.c.sz).qv
  have q2 := (ha.s.sz.mul hb.s.sz).neg.qv
  have q3 := (ha.s.sz.mul hb.c.sz).qv
  have q4 := (ha.c.sz.mul hb.s.sz).qv
  have s1 := fun {T : Heap} {b : Nat} r0 r1 => sum2 (H := T) (b := b) (c := 2) r0 r1 q1 q2 (by omega)
  have s2 := fun {T : Heap} {b : Nat} r0 r1 => sum2 (H := T) (b := b) (c := 2) r0 r1 q3 q4 (by omega)
  have e1 : a.rot.c * b.rot.c + -(a.rot.s * b.rot.s) = (a.rot.thn b.rot).c := by unfold Rot.thn; rw [← Rat.sub_eq_add_neg]
  have e2 : a.rot.s * b.rot.c + a.rot.c * b.rot.s = (a.rot.thn b.rot).s := rfl
  rw [e1] at s1
  rw [e2] at s2
  rw [RR.of_val]
  generalize (a.rot.thn b.rot).c = x at *
  generalize (a.rot.thn b.rot).s = y at *
  clear q1 q2 q3 q4 e1 e2
  generalize a.rot.c * b.rot.c = p1 at *
  generalize -(a.rot.s * b.rot.s) = p2 at *
  generalize a.rot.s * b.rot.c = p3 at *
  generalize a.rot.c * b.rot.s = p4 at *
  unfold qV at o1 o2 o3 o4
  unfold RR.val rV
  refine sxA tok mixed Tryz.func153 ?_
  simp -implicitDefEqProofs only [go_sem, simprocAttr, UU]
  refine ax_quiet (by kernel_rfl) ?_
  simp -implicitDefEqProofs only [go_sem, simprocAttr, UU]
  refine kw (o1 _) ?_
  refine kv (o2 _) ?_
  simp -implicitDefEqProofs only [go_sem, simprocAttr, UU, build125]
  refine wl_callV #[.slice (some ⟨H.length + 3, 0, none⟩) 2 2] (by simp -implicitDefEqProofs only [go_sem, simprocAttr, UU]) (s1 (b := H.length + 3) (by simp -implicitDefEqProofs only [go_sem, simprocAttr, UU]) (by simp -implicitDefEqProofs only [go_sem, simprocAttr, UU])) ?_
  simp -implicitDefEqProofs only [go_sem, simprocAttr, UU]
  refine kw (o3 _) ?_
  refine kv (o4 _) ?_
  simp -implicitDefEqProofs only [go_sem, simprocAttr, UU, build125]
  refine wl_callV #[.slice (some ⟨H.length + 4, 0, none⟩) 2 2] (by simp -implicitDefEqProofs only [go_sem, simprocAttr, UU]) (s2 (b := H.length + 4) (by simp -implicitDefEqProofs only [go_sem, simprocAttr, UU]) (by simp -implicitDefEqProofs only [go_sem, simprocAttr, UU])) ?_
  simp -implicitDefEqProofs only [go_sem, simprocAttr, UU]
  simp -implicitDefEqProofs only [go_sem, simprocAttr, UU, res153]
  first | exact .app _ _ | exact ⟨.app _ _, rfl⟩ | exact .refl _ | exact ⟨.refl _, rfl⟩
theorem RR.of_err {r : RR} (h : r.err = 0) : RR.of r.rot = r := (RR.err_zero.1 h).1.symm
theorem ApplyR (H : Heap) {a b : RR} {k : Nat} (ha : a.le k) (hb : b.le k) (hk : k ≤ 20000) (he : a.err = 0) : Sim Tryz.prog 93 #[a.val, b.val] H (.tuple #[(RR.of (a.rot.thn b.rot)).val, .int .i64 0]) H := by
  refine flat_ex rfl ?_
  have o2 := fun H => imageR H ha hb hk
  generalize a.rot.thn b.rot = z at *
  have w := fun {T : Heap} {b : Nat} r0 => wrong1 ha hk (T := T) (b := b) r0
  rw [he] at w
  simp only [ne_eq, not_true_eq_false, decide_false] at w
  rw [RR.of_val] at o2 ⊢
  unfold RR.val rV at o2 ⊢
  unfold RR.cells at w
  refine sxA tok mixed Tryz.func93 ?_
  simp -implicitDefEqProofs only [go_sem, simprocAttr, UU, build22_1]
  refine wl_callV #[.slice (some ⟨H.length + 3, 0, none⟩) 1 1] (by simp -implicitDefEqProofs only [go_sem, simprocAttr, UU, wa_cond, axC_t, axC_f]) (w (b := H.length + 3) (by simp -implicitDefEqProofs only [go_sem, simprocAttr, UU, wa_cond, axC_t, axC_f])) ?_
  simp -implicitDefEqProofs only [go_sem, simprocAttr, UU, wa_cond, axC_t, axC_f]
  refine kw (o2 _) ?_
  simp -implicitDefEqProofs only [go_sem, simprocAttr, UU, res93]
  first | exact .app _ _ | exact ⟨.app _ _, rfl⟩ | exact .refl _ | exact ⟨.refl _, rfl⟩
theorem BackR (H : Heap) {a : RR} {k : Nat} (ha : a.le k) (hk : k ≤ 20000) (he : a.err = 0) : Sim Tryz.prog 198 #[a.val] H (.tuple #[(RR.of a.rot.back).val, .int .i64 0]) H := by
  refine flat_ex rfl ?_
  have o2 := fun H => backR H ha (by omega)
  have e : (.agg #[.bool a.g, .string (bs a.n), .string (bs a.d), .bool (decide ((-a.rot.s).num < 0)), .string (bs (digB (-a.rot.s).num.natAbs)), .string (bs (denB (-a.rot.s).den))] : Value) = (RR.of a.rot.back).val := by
    have h := RR.of_err he
    have h1 := congrArg RR.g h
    have h2 := congrArg RR.n h
    have h3 := congrArg RR.d h
    rw [← h1, ← h2, ← h3]
    rfl
  rw [e] at o2
  generalize a.rot.back = z at *
  have w := fun {T : Heap} {b : Nat} r0 => wrong1 ha hk (T := T) (b := b) r0
  rw [he] at w
  simp only [ne_eq, not_true_eq_false, decide_false] at w
  rw [RR.of_val] at o2 ⊢
  unfold RR.val rV at o2 ⊢
  unfold RR.cells at w
  refine sxA tok mixed Tryz.func198 ?_
  simp -implicitDefEqProofs only [go_sem, simprocAttr, UU, build22_1]
  refine wl_callV #[.slice (some ⟨H.length + 2, 0, none⟩) 1 1] (by simp -implicitDefEqProofs only [go_sem, simprocAttr, UU, wa_cond, axC_t, axC_f]) (w (b := H.length + 2) (by simp -implicitDefEqProofs only [go_sem, simprocAttr, UU, wa_cond, axC_t, axC_f])) ?_
  simp -implicitDefEqProofs only [go_sem, simprocAttr, UU, wa_cond, axC_t, axC_f]
  refine kw (o2 _) ?_
  simp -implicitDefEqProofs only [go_sem, simprocAttr, UU, res198]
  first | exact .app _ _ | exact ⟨.app _ _, rfl⟩ | exact .refl _ | exact ⟨.refl _, rfl⟩
def corn (a b p : Rot) : Rot := ⟨((a.thn p).c + (b.thn p).c) / (1 + (a.back.thn b).c), ((a.thn p).s + (b.thn p).s) / (1 + (a.back.thn b).c)⟩
theorem CornerR (H : Heap) {a b p : RR} {k : Nat} (ha : a.le k) (hb : b.le k) (hp : p.le k) (hk : k ≤ 2000) (ea : a.err = 0) (eb : b.err = 0) (hh : (a.rot.back.thn b.rot).half ≠ 1) :
    Sim Tryz.prog 204 #[a.val, b.val, p.val] H (.tuple #[(RR.of (corn a.rot b.rot p.rot)).val, .int .i64 0]) H := by
  refine flat_ex rfl ?_
  have o1 := fun H => backR H ha (by omega)
  have e : (.agg #[.bool a.g, .string (bs a.n), .string (bs a.d), .bool (decide ((-a.rot.s).num < 0)), .string (bs (digB (-a.rot.s).num.natAbs)), .string (bs (denB (-a.rot.s).den))] : Value) = (RR.of a.rot.back).val := by
    have h := RR.of_err ea
    have h1 := congrArg RR.g h
    have h2 := congrArg RR.n h
    have h3 := congrArg RR.d h
    rw [← h1, ← h2, ← h3]
    rfl
  rw [e] at o1
  have lb : (RR.of a.rot.back).le (k + 8) := ha.sz.back.le
  have o2 := fun H => thenR H lb (hb.mono (show k ≤ k + 8 by omega)) (by omega)
  rw [RR.of_rot] at o2
  have zd : (a.rot.back.thn b.rot).Sz (4 * k + 5) := (ha.sz.back.thn hb.sz).mono (by omega)
  have o3 := fun H => halfR H zd.le (by omega)
  rw [RR.of_rot] at o3
  have o4 := fun H => imageR H ha hp (by omega)
  have o5 := fun H => imageR H hb hp (by omega)
  have z4 : (a.rot.thn p.rot).Sz (4 * k + 5) := (ha.sz.thn hp.sz).mono (by omega)
  have z5 : (b.rot.thn p.rot).Sz (4 * k + 5) := (hb.sz.thn hp.sz).mono (by omega)
  have one : Fw.Sz (1 : Rat) 2 := sz_one (by decide)
  have o6 := fun H => ofN_sim H (n := 1) (by decide) (by decide)
  rw [show ((1 : Int) : Rat) = 1 from rfl] at o6
  have s1 := fun {T : Heap} {b : Nat} r0 r1 => sum2 (H := T) (b := b) (c := 2) (k := 4 * k + 12) r0 r1 (one.qv.mono (by omega)) (zd.c.qv.mono (by omega)) (by omega)
  have s2 := fun {T : Heap} {b : Nat} r0 r1 => sum2 (H := T) (b := b) (c := 2) (k := 4 * k + 12) r0 r1 (z4.c.qv.mono (by omega)) (z5.c.qv.mono (by omega)) (by omega)
  have s3 := fun {T : Heap} {b : Nat} r0 r1 => sum2 (H := T) (b := b) (c := 2) (k := 4 * k + 12) r0 r1 (z4.s.qv.mono (by omega)) (z5.s.qv.mono (by omega)) (by omega)
  have za := (one.mono (show 2 ≤ 4 * k + 5 by omega)).add zd.c
  have o7 := fun H => overQ H (z4.c.add z5.c).qv za.qv (by omega) (by omega)
  have o8 := fun H => overQ H (z4.s.add z5.s).qv za.qv (by omega) (by omega)
  have w := fun {T : Heap} {b : Nat} r0 r1 => wrong2 ha hb (by omega) (T := T) (bb := b) r0 r1
  rw [ea, eb] at w
  simp only [ne_eq, not_true_eq_false, or_self, decide_false] at w
  have h1 : ¬ (a.rot.back.thn b.rot).half = 1 := hh
  clear one lb zd z4 z5 za
  unfold corn
  simp only [RR.of_val] at o1 o2 o3 o4 o5 ⊢
  generalize a.rot.back = ab at *
  generalize ab.thn b.rot = d at *
  generalize a.rot.thn p.rot = x at *
  generalize b.rot.thn p.rot = y at *
  generalize d.half = hd at *
  generalize 1 + d.c = all at *
  generalize (x.c + y.c) / all = rx at *
  generalize (x.s + y.s) / all = ry at *
  generalize x.c + y.c = sx at *
  generalize x.s + y.s = sy at *
  unfold RR.val rV at o1 o2 o4 o5 ⊢
  unfold RR.cells at w
  refine sxA tok mixed Tryz.func204 ?_
  simp -implicitDefEqProofs only [go_sem, simprocAttr, UU, build22_2]
  refine wl_callV #[.slice (some ⟨H.length + 4, 0, none⟩) 2 2] (by simp -implicitDefEqProofs only [go_sem, simprocAttr, UU, wa_cond, axC_t, axC_f]) (w (b := H.length + 4) (by simp -implicitDefEqProofs only [go_sem, simprocAttr, UU, wa_cond, axC_t, axC_f]) (by simp -implicitDefEqProofs only [go_sem, simprocAttr, UU, wa_cond, axC_t, axC_f])) ?_
  simp -implicitDefEqProofs only [go_sem, simprocAttr, UU, wa_cond, axC_t, axC_f]
  refine ax_quiet (by kernel_rfl) ?_
  simp -implicitDefEqProofs only [go_sem, simprocAttr, UU]
  refine kw (o1 _) ?_
  refine kw (o2 _) ?_
  refine kv (o3 _) ?_
  simp -implicitDefEqProofs only [go_sem, simprocAttr, UU, h1, wa_cond, axC_t, axC_f]
  refine ax_quiet (by kernel_rfl) ?_
  simp -implicitDefEqProofs only [go_sem, simprocAttr, UU]
  refine kw (o4 _) ?_
  refine kw (o5 _) ?_
  refine kv (o6 _) ?_
  simp -implicitDefEqProofs only [go_sem, simprocAttr, UU, build125]
  refine wl_callV #[.slice (some ⟨H.length + 6, 0, none⟩) 2 2] (by simp -implicitDefEqProofs only [go_sem, simprocAttr, UU]) (s1 (b := H.length + 6) (by simp -implicitDefEqProofs only [go_sem, simprocAttr, UU]) (by simp -implicitDefEqProofs only [go_sem, simprocAttr, UU])) ?_
  simp -implicitDefEqProofs only [go_sem, simprocAttr, UU]
  refine ax_quiet (by kernel_rfl) ?_
  simp -implicitDefEqProofs only [go_sem, simprocAttr, UU, build125]
  refine wl_callV #[.slice (some ⟨H.length + 10, 0, none⟩) 2 2] (by simp -implicitDefEqProofs only [go_sem, simprocAttr, UU]) (s2 (b := H.length + 10) (by simp -implicitDefEqProofs only [go_sem, simprocAttr, UU]) (by simp -implicitDefEqProofs only [go_sem, simprocAttr, UU])) ?_
  simp -implicitDefEqProofs only [go_sem, simprocAttr, UU]
  refine kv (o7 _) ?_
  simp -implicitDefEqProofs only [go_sem, simprocAttr, UU, build125]
  refine wl_callV #[.slice (some ⟨H.length + 11, 0, none⟩) 2 2] (by simp -implicitDefEqProofs only [go_sem, simprocAttr, UU]) (s3 (b := H.length + 11) (by simp -implicitDefEqProofs only [go_sem, simprocAttr, UU]) (by simp -implicitDefEqProofs only [go_sem, simprocAttr, UU])) ?_
  simp -implicitDefEqProofs only [go_sem, simprocAttr, UU]
  refine kw (o8 _) ?_
  simp -implicitDefEqProofs only [go_sem, simprocAttr, UU, res204]
  first | exact .app _ _ | exact ⟨.app _ _, rfl⟩ | exact .refl _ | exact ⟨.refl _, rfl⟩
end Go.Proofs.YthhmkaikopdmjaaGreat
namespace Go.Proofs.YthhmkaikopdmjaaGreat
open Go Go.Fw
end Go.Proofs.YthhmkaikopdmjaaGreat
namespace Go.Proofs.YthhmkaikopdmjaaGreat
open Go Go.Fw
end Go.Proofs.YthhmkaikopdmjaaGreat
namespace Go.Proofs.YthhmkaikopdmjaaGreat
open Go Go.Fw
theorem own_nil (T : Heap) : Own 6 (T ++ [⟨[], 6, true⟩]) T.length [] := ⟨by decide, (fun x h => by cases h), by simp, rfl⟩
end Go.Proofs.YthhmkaikopdmjaaGreat
namespace Go.Proofs.YthhmkaikopdmjaaGreat
open Go Go.Fw
end Go.Proofs.YthhmkaikopdmjaaGreat
namespace Go.Proofs.YthhmkaikopdmjaaGreat
open Go Go.Fw
def Rot.qt (r : Rot) : Rot := ⟨-r.s, r.c⟩
end Go.Proofs.YthhmkaikopdmjaaGreat
namespace Go.Proofs.YthhmkaikopdmjaaGreat
open Go Go.Fw
def qn : Nat → List Rot → List Rot | 0, l => l | j + 1, l => (qn j l).map Rot.qt
theorem row1_at (T : Heap) (r : RR) : ElAt 6 (T ++ [⟨r.cells, 6, true⟩]) T.length 0 1 [r.cells] :=
  ⟨.inr (by simp), by decide, fun x hx => by simp at hx; subst hx; rfl, ⟨_, by simp; rfl, rfl, by simp [RR.cells], by simp [RR.cells]⟩, rfl⟩
end Go.Proofs.YthhmkaikopdmjaaGreat
namespace Go.Proofs.YthhmkaikopdmjaaGreat
open Go Go.Fw
def nextR (l : List RR) (i : Nat) : Nat := (i + 1) % l.length
theorem nextR_lt {l : List RR} (h : l ≠ []) (i : Nat) : nextR l i < l.length := Nat.mod_lt _ (List.length_pos_iff.2 h)
end Go.Proofs.YthhmkaikopdmjaaGreat
namespace Go.Proofs.YthhmkaikopdmjaaGreat
open Go Go.Fw
end Go.Proofs.YthhmkaikopdmjaaGreat
namespace Go.Proofs.YthhmkaikopdmjaaGreat
open Go Go.Fw
theorem len64_sim (H : Heap) {x : Nat} (hx : x < 256) : Sim Tryz.prog 186 #[.int .u64 (x : Nat)] H (.int .i64 (bitLen x : Nat)) H := by
  have hbl : bitLen x ≤ 8 := by
    by_cases h : x = 0
    · subst h; decide
    · exact bitLen_le (by omega) hx
  have c3 : (0 : Int) ≤ (x : Int) := by omega
  have c4 : IntKind.u8.wrap (x : Int) = (x : Int) := wu8 (by omega) (by omega)
  have c6 : IntKind.i64.wrap (((UInt8.ofNat (bitLen x)).toNat : Nat) : Int) = (bitLen x : Int) := by
    have : (UInt8.ofNat (bitLen x)).toNat = bitLen x := by simp; omega
    rw [this, w64n (by omega)]
  have c7 : IntKind.i64.wrap (0 + (bitLen x : Int)) = (bitLen x : Int) := by rw [Int.zero_add, w64n (by omega)]
  have key : ∀ (B : ByteArray), (∀ z : Fin 256, B[z.1]? = some (UInt8.ofNat (bitLen z.1))) → B[x]? = some (UInt8.ofNat (bitLen x)) := fun B h => h ⟨x, hx⟩
  have d1 : ¬ ((4294967296 : Int) ≤ (x : Int)) := by omega
  have d2 : ¬ ((65536 : Int) ≤ (x : Int)) := by omega
  have d3 : ¬ ((256 : Int) ≤ (x : Int)) := by omega
  refine soA tok mixed Tryz.func186 ?_
  generalize hB : (⟨(List.toArray _)⟩ : ByteArray) = B
  have hg := key B (by rw [← hB]; decide +kernel)
  clear hB key
  simp -implicitDefEqProofs only [go_sem, simprocAttr, wa_cond, axC_t, axC_f, d1, d2, d3, aConv, c3, c4, hg, c6, c7, res186]
theorem len_sim (H : Heap) {x : Nat} (hx : x < 256) : Sim Tryz.prog 119 #[.int .u64 (x : Nat)] H (.int .i64 (bitLen x : Nat)) H := by
  have o1 := fun H => len64_sim H hx
  refine soA tok mixed Tryz.func119 ?_
  simp -implicitDefEqProofs only [go_sem, simprocAttr, wa_cond, axC_t, axC_f]
  refine kv (o1 _) ?_
  simp -implicitDefEqProofs only [go_sem, simprocAttr, res119]
end Go.Proofs.YthhmkaikopdmjaaGreat
namespace Go.Proofs.YthhmkaikopdmjaaGreat
open Go Go.Fw
def rr0 : RR := ⟨false, [], [], false, [], []⟩
theorem getD_eq {l : List RR} {i : Nat} (h : i < l.length) : l.getD i rr0 = l[i] := by simp [List.getD, List.getElem?_eq_getElem h]
theorem wr_cell {T : Heap} {p : Nat} {w v : Value} (h : T[p]? = some ⟨[w], 1, true⟩) (hv : isCell v = true) : wr T p 0 [v] = some (T.set p ⟨[v], 1, true⟩) := by
  rw [wr_eq, h]
  simp [splice, hv, allC_cons, allC_nil]
theorem rd_cell {T : Heap} {p : Nat} {w : Value} (h : T[p]? = some ⟨[w], 1, true⟩) : rd T p 0 1 = some [w] := by
  unfold rd
  rw [h]; rfl
end Go.Proofs.YthhmkaikopdmjaaGreat
namespace Go.Proofs.YthhmkaikopdmjaaGreat
open Go Go.Fw
deriving instance DecidableEq for Rot
end Go.Proofs.YthhmkaikopdmjaaGreat
namespace Go.Proofs.YthhmkaikopdmjaaGreat
open Go Go.Fw
def idxZ (p : RR → Bool) (l : List RR) : Int := if l.findIdx p < l.length then (l.findIdx p : Nat) else -1
theorem idxZ_geq (p : RR → Bool) (l : List RR) : decide ((0 : Int) ≤ idxZ p l) = l.any p := by
  unfold idxZ
  by_cases h : l.findIdx p < l.length
  · rw [if_pos h]
    have := List.findIdx_getElem (xs := l) (p := p) (w := h)
    rw [List.any_eq_true.2 ⟨_, List.getElem_mem h, this⟩]
    exact decide_eq_true (by omega)
  · rw [if_neg h]
    have : l.any p = false := by
      rw [← Bool.not_eq_true, List.any_eq_true]
      rintro ⟨x, hx, hp⟩
      exact h (List.findIdx_lt_length_of_exists ⟨x, hx, hp⟩)
    rw [this]; rfl
end Go.Proofs.YthhmkaikopdmjaaGreat
namespace Go.Proofs.YthhmkaikopdmjaaGreat
open Go Go.Fw
theorem indexFuncR (H : Heap) {v : Value} {l : List RR} {g : FuncId} {cap : Array Value} {p : RR → Bool} (hv : RL H v l) (hl : l.length ≤ 1000000) (hf : ∀ x ∈ l, Sim Tryz.prog g (#[x.val] ++ cap) H (.bool (p x)) H) :
    Sim Tryz.prog 60 #[v, .func (.func g) #[] cap] H (.int .i64 (idxZ p l)) H := by
  have e1 := hv.len (tt := tt) tt22
  refine soA tok mixed Tryz.func60 ?_
  simp -implicitDefEqProofs only [go_sem, simprocAttr, e1]
  refine ax_loopx (fun (i : Nat) s T => s 0 = v ∧ s 1 = .func (.func g) #[] cap ∧ s 7 = .int .i64 (l.length : Nat) ∧ s 8 = .int .i64 (i : Nat) ∧ i ≤ l.length ∧ i ≤ l.findIdx p ∧ T = H) (fun i => l.length - i) 0 ?_ ?_
  · simp -implicitDefEqProofs only [go_sem, simprocAttr]
  rintro i s T ⟨s0, s1, s7, s8, hi, hfi, rfl⟩
  simp -implicitDefEqProofs only [go_sem, simprocAttr, s7, s8]
  refine ax_cond2 ?_
  simp only [ev_tmp, ev_const, ev_func, upd_at, put_some, put_none, bndB_bool, Nat.reduceEqDiff, if_true, if_false, ↓reduceIte, reduceCtorEq]
  refine ⟨fun hc0 => have hlt := of_decide_eq_true hc0; ?_, fun hc0 => have hlt := of_decide_eq_false hc0; ?_⟩
  · have hil : i < l.length := by omega
    obtain ⟨b, i0, c, rfl, hA⟩ := hv.at (fun h => by rw [h] at hil; simp at hil)
    have r1 := hA.rdR hil
    have hnn : (0 : Int) ≤ (i : Int) := by omega
    have hlt2 : (i : Int) < (l.length : Int) := by omega
    have m1 : IntKind.i64.wrap ((i : Int) + 1) = ((i + 1 : Nat) : Int) := by rw [w64 (by omega) (by omega)]; rfl
    have o1 := hf _ (List.getElem_mem hil)
    have hF1 : p l[i] = true → l.findIdx p = i := by
      intro h
      refine Nat.le_antisymm ?_ hfi
      refine Classical.byContradiction fun hn => ?_
      have := List.not_of_lt_findIdx (p := p) (xs := l) (i := i) (by omega)
      rw [h] at this; cases this
    have hF2 : p l[i] = false → i + 1 ≤ l.findIdx p := by
      intro h
      refine Nat.lt_of_le_of_ne hfi fun he => ?_
      have := List.findIdx_getElem (p := p) (xs := l) (w := by omega)
      simp only [← he] at this
      rw [h] at this; cases this
    unfold idxZ
    generalize l.findIdx p = F at *
    generalize l[i] = x at *
    unfold RR.val rV at o1
    unfold RR.cells at r1
    simp -implicitDefEqProofs only [go_sem, simprocAttr, s0, s1, s7, s8, aIndexAddr, hnn, hlt2, r1]
    refine wl_callC g cap (by simp -implicitDefEqProofs only [go_sem, simprocAttr, s1]) _ (by simp -implicitDefEqProofs only [go_sem, simprocAttr]) o1 ?_
    cases hp : p x with
    | true =>
      have := hF1 hp
      subst this
      simp -implicitDefEqProofs only [go_sem, simprocAttr, wa_cond, axC_t, axC_f, res60]
      rw [if_pos hil]
    | false =>
      simp -implicitDefEqProofs only [go_sem, simprocAttr, wa_cond, axC_t, axC_f, s0, s1, s7, s8, m1]
      exact ⟨i + 1, ⟨rfl, by omega, hF2 hp⟩, by omega⟩
  · have : i = l.length := by omega
    subst this
    unfold idxZ
    rw [if_neg (by omega)]
    simp -implicitDefEqProofs only [go_sem, simprocAttr, res60]
theorem containsFuncR (H : Heap) {v : Value} {l : List RR} {g : FuncId} {cap : Array Value} {p : RR → Bool} (hv : RL H v l) (hl : l.length ≤ 1000000) (hf : ∀ x ∈ l, Sim Tryz.prog g (#[x.val] ++ cap) H (.bool (p x)) H) :
    Sim Tryz.prog 21 #[v, .func (.func g) #[] cap] H (.bool (l.any p)) H := by
  have o1 := indexFuncR H hv hl hf
  have h := idxZ_geq p l
  generalize idxZ p l = z at *
  rw [← h]
  refine soA tok mixed Tryz.func21 ?_
  simp -implicitDefEqProofs only [go_sem, simprocAttr]
  refine kv o1 ?_
  simp -implicitDefEqProofs only [go_sem, simprocAttr, res21]
end Go.Proofs.YthhmkaikopdmjaaGreat
namespace Go.Proofs.YthhmkaikopdmjaaGreat
open Go Go.Fw
def _root_.Go.Fw.RR.can (r : RR) : Bool := isCan r.g r.n r.d && isCan r.g' r.n' r.d'
theorem can_iff {r : RR} : r.can = true ↔ r = RR.of r.rot := by
  unfold RR.can
  constructor
  · intro hc
    rw [Bool.and_eq_true] at hc
    obtain ⟨x1, x2, x3⟩ := qV_inj.1 ((isCan_iff _ _ _).1 hc.1)
    obtain ⟨y1, y2, y3⟩ := qV_inj.1 ((isCan_iff _ _ _).1 hc.2)
    unfold RR.of RR.rot
    cases r
    simp only [RR.mk.injEq] at *
    exact ⟨x1, x2, x3, y1, y2, y3⟩
  · intro h
    rw [h]
    unfold RR.of
    simp only [isCan_mk, Bool.and_self]
theorem rd_ext {H T : Heap} {b i n : Nat} {x : List Value} (h : rd H b i n = some x) (e : Ext H T) : rd T b i n = some x := by
  obtain ⟨G, rfl⟩ := e
  exact rd_more h G
theorem vcheckP (H : Heap) {p : RR} {k : Nat} (hp : p.le k) (hk : k ≤ 100000) : Sim Tryz.prog 142 #[p.val] H (.int .i64 (if p.can = true then 0 else 1)) H := by
  refine flat_ex rfl ?_
  have o1 := fun H => (rcheckQ H hp hk).1
  have o2 := fun H => (rcheckQ H hp hk).2
  unfold RR.can
  generalize isCan p.g p.n p.d = c1 at *
  generalize isCan p.g' p.n' p.d' = c2 at *
  obtain ⟨H1, hH1⟩ : ∃ H1, H1 = H ++ [(⟨p.cells, 1, true⟩ : Blk), ⟨p.cells, 3, true⟩] := ⟨_, rfl⟩
  have hE1 : Ext H H1 := by rw [hH1]; exact .app _ _
  have r0 : rd H1 (H.length + 1) 0 3 = some [.bool p.g, .string (bs p.n), .string (bs p.d)] := by
    rw [hH1]; unfold rd; simp [RR.cells]
  have r1 : rd H1 (H.length + 1) 3 3 = some [.bool p.g', .string (bs p.n'), .string (bs p.d')] := by
    rw [hH1]; unfold rd; simp [RR.cells]
  unfold RR.val rV
  unfold RR.cells at hH1
  refine sxA tok mixed Tryz.func142 ?_
  simp -implicitDefEqProofs only [go_sem, simprocAttr, build125, aLen]
  rw [← hH1]
  refine ax_loopx (fun (i : Nat) s T => s 9 = .slice (some ⟨H.length + 1, 0, none⟩) 2 2 ∧ s 10 = .int .i64 2 ∧ s 11 = .int .i64 (i : Nat) ∧ Ext H1 T ∧ i ≤ 2 ∧ (1 ≤ i → c1 = true) ∧ (2 ≤ i → c2 = true)) (fun i => 2 - i) 0 ?_ ?_
  · simp -implicitDefEqProofs only [go_sem, simprocAttr]
    exact ⟨.refl _, False.elim, False.elim⟩
  rintro i s T ⟨s9, s10, s11, hE, hi, h1, h2⟩
  have q0 := rd_ext r0 hE
  have q1 := rd_ext r1 hE
  have l0 : (0 : Int) < ((2 : Nat) : Int) := by decide
  have l1 : (1 : Int) < ((2 : Nat) : Int) := by decide
  have w0 : IntKind.i64.wrap 1 = ((1 : Nat) : Int) := rfl
  have w1 : IntKind.i64.wrap 2 = ((2 : Nat) : Int) := rfl
  have hi3 : i = 0 ∨ i = 1 ∨ i = 2 := by omega
  rcases hi3 with rfl | rfl | rfl
  · simp -implicitDefEqProofs only [go_sem, simprocAttr, wa_cond, axC_t, axC_f, s9, s10, s11, aIndexAddr, q0, l0, Nat.zero_mul, Int.zero_add]
    refine kv (o1 _) ?_
    cases c1 with
    | true =>
      simp -implicitDefEqProofs only [go_sem, simprocAttr, wa_cond, axC_t, axC_f, s9, s10, s11, Int.zero_add, w0]
      exact ⟨1, ⟨rfl, hE.trans (.app _ _), by omega, fun _ => trivial, by omega⟩, by omega⟩
    | false =>
      simp -implicitDefEqProofs only [go_sem, simprocAttr, wa_cond, axC_t, axC_f, Bool.false_and, res142]
      exact hE1.trans (hE.trans (.app _ _))
  · have hc1 := h1 (by omega)
    subst hc1
    simp -implicitDefEqProofs only [go_sem, simprocAttr, wa_cond, axC_t, axC_f, s9, s10, s11, aIndexAddr, q1, l1, Nat.one_mul, show (0 : Int) ≤ 1 by decide, show Int.toNat 1 = 1 from rfl]
    refine kv (o2 _) ?_
    cases c2 with
    | true =>
      simp -implicitDefEqProofs only [go_sem, simprocAttr, wa_cond, axC_t, axC_f, s9, s10, s11, w1]
      exact ⟨2, ⟨rfl, hE.trans (.app _ _), by omega, fun _ => trivial, fun _ => trivial⟩, by omega⟩
    | false =>
      simp -implicitDefEqProofs only [go_sem, simprocAttr, wa_cond, axC_t, axC_f, Bool.and_false, res142]
      exact hE1.trans (hE.trans (.app _ _))
  · have hc1 := h1 (by omega)
    have hc2 := h2 (by omega)
    subst hc1 hc2
    have l2 : ¬ ((2 : Nat) : Int) < 2 := by decide
    simp -implicitDefEqProofs only [go_sem, simprocAttr, wa_cond, axC_t, axC_f, s10, s11, l2, Bool.and_self, res142]
    exact hE1.trans hE
end Go.Proofs.YthhmkaikopdmjaaGreat
namespace Go.Proofs.YthhmkaikopdmjaaGreat
open Go Go.Fw
theorem eq90 (a b : RR) : aBin tt .eql 90 (.agg #[.bool a.g, .string (bs a.n), .string (bs a.d), .bool a.g', .string (bs a.n'), .string (bs a.d')]) (.agg #[.bool b.g, .string (bs b.n), .string (bs b.d), .bool b.g', .string (bs b.n'), .string (bs b.d')]) = some (.bool (decide (a = b))) := by
  have e : aBin tt .eql 90 (.agg #[.bool a.g, .string (bs a.n), .string (bs a.d), .bool a.g', .string (bs a.n'), .string (bs a.d')]) (.agg #[.bool b.g, .string (bs b.n), .string (bs b.d), .bool b.g', .string (bs b.n'), .string (bs b.d')]) =
    some (.bool ((a.g == b.g) && ((bs a.n == bs b.n) && ((bs a.d == bs b.d) && ((a.g' == b.g') && ((bs a.n' == bs b.n') && ((bs a.d' == bs b.d') && true))))))) := rfl
  rw [e]
  congr 2
  obtain ⟨g, n, d, g', n', d'⟩ := a
  obtain ⟨h, m, c, h', m', c'⟩ := b
  simp only [bs_beq, RR.mk.injEq]
  by_cases h1 : g = h <;> by_cases h2 : n = m <;> by_cases h3 : d = c <;> by_cases h4 : g' = h' <;> by_cases h5 : n' = m' <;> by_cases h6 : d' = c' <;> simp [h1, h2, h3, h4, h5, h6]
theorem neq90 (a b : RR) : aBin tt .neq 90 (.agg #[.bool a.g, .string (bs a.n), .string (bs a.d), .bool a.g', .string (bs a.n'), .string (bs a.d')]) (.agg #[.bool b.g, .string (bs b.n), .string (bs b.d), .bool b.g', .string (bs b.n'), .string (bs b.d')]) = some (.bool (decide (¬ a = b))) := by
  have h := eq90 a b
  have e : ∀ x y c, aBin tt .eql 90 (.agg x) (.agg y) = some (.bool c) → aBin tt .neq 90 (.agg x) (.agg y) = some (.bool !c) := by
    intro x y c h
    unfold aBin at h ⊢
    simp only [Option.map_eq_some_iff] at h ⊢
    obtain ⟨w, h1, h2⟩ := h
    injection h2 with h2
    exact ⟨w, h1, by rw [h2]⟩
  rw [e _ _ _ h]
  simp [decide_not]
theorem equalP (H : Heap) {v w : Value} {l m : List RR} (hv : RL H v l) (hw : RL H w m) (hl : l.length ≤ 1000000) : Sim Tryz.prog 79 #[v, w] H (.bool (decide (l = m))) H := by
  refine flat_ex rfl ?_
  have e1 := hv.len (tt := tt) tt52
  have e2 := hw.len (tt := tt) tt52
  refine sxA tok mixed Tryz.func79 ?_
  by_cases hlm : l.length = m.length
  case neg =>
    have h1 : ¬ (l.length : Int) = (m.length : Int) := by omega
    have h2 : ¬ l = m := fun h => hlm (by rw [h])
    rw [decide_eq_false h2]
    simp -implicitDefEqProofs only [go_sem, simprocAttr, wa_cond, axC_t, axC_f, e1, e2, h1, res79]
    exact .refl _
  have h1 : (l.length : Int) = (m.length : Int) := by omega
  simp -implicitDefEqProofs only [go_sem, simprocAttr, wa_cond, axC_t, axC_f, e1, e2, h1]
  refine ax_loopx (fun (i : Nat) s T => s 0 = v ∧ s 1 = w ∧ s 12 = .int .i64 (m.length : Nat) ∧ s 13 = .int .i64 (i : Nat) ∧ i ≤ m.length ∧ l.take i = m.take i ∧ T = H) (fun i => m.length - i) 0 ?_ ?_
  · simp -implicitDefEqProofs only [go_sem, simprocAttr]
  rintro i s T ⟨s0, s1, s12, s13, hi, ht, hT⟩
  subst T
  simp -implicitDefEqProofs only [go_sem, simprocAttr, s12, s13]
  refine ax_cond2 ?_
  simp only [ev_tmp, ev_const, ev_func, upd_at, put_some, put_none, bndB_bool, Nat.reduceEqDiff, if_true, if_false, ↓reduceIte, reduceCtorEq]
  refine ⟨fun hc0 => have hlt := of_decide_eq_true hc0; ?_, fun hc0 => have hlt := of_decide_eq_false hc0; ?_⟩
  · have hil : i < m.length := by omega
    obtain ⟨b, i0, c, rfl, hA⟩ := hv.at (by rintro rfl; simp at hlm; omega)
    obtain ⟨b', i0', c', rfl, hB⟩ := hw.at (by rintro rfl; simp at hil)
    have r1 := hA.rdR (j := i) (by omega)
    have r2 := hB.rdR (j := i) hil
    have g1 := List.take_append_getElem (l := l) (i := i) (by omega)
    have g2 := List.take_append_getElem (l := m) (i := i) hil
    have hne : ¬ l[i]'(by omega) = m[i] → ¬ l = m := fun h e => h (by subst e; rfl)
    generalize l[i]'(by omega) = x at *
    generalize m[i] = y at *
    unfold RR.cells at r1 r2
    have hq := neq90 x y
    have hnn : (0 : Int) ≤ (i : Int) := by omega
    have hlt1 : (i : Int) < (l.length : Int) := by omega
    have w1 : IntKind.i64.wrap ((i : Int) + 1) = ((i + 1 : Nat) : Int) := by rw [w64 (by omega) (by omega)]; rfl
    simp -implicitDefEqProofs only [go_sem, simprocAttr, s0, s1, s13]
    refine ax_quiet (by kernel_rfl) ?_
    by_cases hxy : x = y
    · rw [decide_eq_false (fun h => h hxy)] at hq
      simp -implicitDefEqProofs only [go_sem, simprocAttr, wa_cond, axC_t, axC_f, s0, s1, s12, s13, aIndexAddr, hlt, hlt1, hnn, r1, r2, hq, w1]
      refine ⟨i + 1, ⟨rfl, by omega, ?_⟩, by omega⟩
      rw [← g1, ← g2, ht, hxy]
    · rw [decide_eq_true hxy] at hq
      rw [decide_eq_false (hne hxy)]
      simp -implicitDefEqProofs only [go_sem, simprocAttr, wa_cond, axC_t, axC_f, s0, s1, s12, s13, aIndexAddr, hlt, hlt1, hnn, r1, r2, hq, res79]
      exact .refl _
  · have hil : i = m.length := by omega
    subst hil
    rw [List.take_length, ← hlm, List.take_length] at ht
    rw [decide_eq_true ht]
    simp -implicitDefEqProofs only [go_sem, simprocAttr, res79]
    exact .refl _
theorem build52_0 (H : Heap) : aBuildSlice tt H 52 0 [] = some (.slice (some ⟨H.length, 0, none⟩) 0 0, H ++ [⟨[], 6, true⟩]) := rfl
theorem eql52_some (a : Addr) (n c : Nat) : aBin tt .eql 52 (.slice (some a) n c) (.slice none 0 0) = some (.bool false) := rfl
theorem cloneP (H : Heap) {b i c : Nat} {l : List RR} (hv : ElAt 6 H b i c (l.map RR.cells)) (h0 : l ≠ []) (hl : l.length ≤ 1000000) :
    ∃ w H', Sim Tryz.prog 143 #[.slice (some ⟨b, i, none⟩) l.length c] H w H' ∧ Ext H H' ∧ ∃ b', H.length ≤ b' ∧ w = .slice (some ⟨b', 0, none⟩) l.length 0 ∧ OwnR H' b' l := by
  have happ := append_own (T := H ++ [⟨[], 6, true⟩]) (l := []) tt52 tt90 rfl (by decide) (by decide) (own_nil H) (hv.app [⟨[], 6, true⟩]) (by simpa using h0) (by simp; omega)
  simp only [List.length_nil, List.length_map, Nat.zero_add, List.nil_append, List.length_append, List.length_cons] at happ
  refine sxA tok mixed Tryz.func143 ?_
  simp -implicitDefEqProofs only [go_sem, simprocAttr, wa_cond, axC_t, axC_f, eql52_some, build52_0, happ, res143]
  refine ⟨?_, H.length + 1, by omega, rfl, ?_⟩
  · exact ((Ext.app H [(⟨[], 6, true⟩ : Blk)]).set (Nat.le_refl _) _).trans (.app _ _)
  · have := OwnR.new ((H ++ [(⟨[], 6, true⟩ : Blk)]).set H.length deadBlk) l
    simpa using this
theorem append_P0 {T : Heap} (r : RR) :
    ∃ T', aAppend tt (T ++ [⟨r.cells, 6, true⟩]) [52, 52] (.slice none 0 0) (.slice (some ⟨T.length, 0, none⟩) 1 1) = some (.slice (some ⟨T.length + 1, 0, none⟩) 1 0, T') ∧ OwnR T' (T.length + 1) [r] ∧ Ext T T' := by
  have := append_none (T := T ++ [⟨r.cells, 6, true⟩]) tt52 tt90 rfl (by decide) (by decide) (row1_at T r) (by simp) (by simp)
  simp only [List.length_cons, List.length_nil, List.length_append, Nat.zero_add] at this
  refine ⟨_, this, ?_, ?_⟩
  · have h2 := OwnR.new (T ++ [(⟨r.cells, 6, true⟩ : Blk)]) [r]
    simp only [List.length_append, List.length_cons, List.length_nil, Nat.zero_add, List.map_cons, List.map_nil] at h2
    exact h2
  · exact (Ext.app _ _).trans (.app _ _)
theorem indexFuncP (H : Heap) {v : Value} {l : List RR} {g : FuncId} {cap : Array Value} {p : RR → Bool} (hv : RL H v l) (hl : l.length ≤ 1000000) (hf : ∀ x ∈ l, Sim Tryz.prog g (#[x.val] ++ cap) H (.bool (p x)) H) :
    Sim Tryz.prog 200 #[v, .func (.func g) #[] cap] H (.int .i64 (idxZ p l)) H := by
  have e1 := hv.len (tt := tt) tt52
  refine soA tok mixed Tryz.func200 ?_
  simp -implicitDefEqProofs only [go_sem, simprocAttr, e1]
  refine ax_loopx (fun (i : Nat) s T => s 0 = v ∧ s 1 = .func (.func g) #[] cap ∧ s 7 = .int .i64 (l.length : Nat) ∧ s 8 = .int .i64 (i : Nat) ∧ i ≤ l.length ∧ i ≤ l.findIdx p ∧ T = H) (fun i => l.length - i) 0 ?_ ?_
  · simp -implicitDefEqProofs only [go_sem, simprocAttr]
  rintro i s T ⟨s0, s1, s7, s8, hi, hfi, rfl⟩
  simp -implicitDefEqProofs only [go_sem, simprocAttr, s7, s8]
  refine ax_cond2 ?_
  simp only [ev_tmp, ev_const, ev_func, upd_at, put_some, put_none, bndB_bool, Nat.reduceEqDiff, if_true, if_false, ↓reduceIte, reduceCtorEq]
  refine ⟨fun hc0 => have hlt := of_decide_eq_true hc0; ?_, fun hc0 => have hlt := of_decide_eq_false hc0; ?_⟩
  · have hil : i < l.length := by omega
    obtain ⟨b, i0, c, rfl, hA⟩ := hv.at (fun h => by rw [h] at hil; simp at hil)
    have r1 := hA.rdR hil
    have hnn : (0 : Int) ≤ (i : Int) := by omega
    have hlt2 : (i : Int) < (l.length : Int) := by omega
    have m1 : IntKind.i64.wrap ((i : Int) + 1) = ((i + 1 : Nat) : Int) := by rw [w64 (by omega) (by omega)]; rfl
    have o1 := hf _ (List.getElem_mem hil)
    have hF1 : p l[i] = true → l.findIdx p = i := by
      intro h
      refine Nat.le_antisymm ?_ hfi
      refine Classical.byContradiction fun hn => ?_
      have := List.not_of_lt_findIdx (p := p) (xs := l) (i := i) (by omega)
      rw [h] at this; cases this
    have hF2 : p l[i] = false → i + 1 ≤ l.findIdx p := by
      intro h
      refine Nat.lt_of_le_of_ne hfi fun he => ?_
      have := List.findIdx_getElem (p := p) (xs := l) (w := by omega)
      simp only [← he] at this
      rw [h] at this; cases this
    unfold idxZ
    generalize l.findIdx p = F at *
    generalize l[i] = x at *
    unfold RR.val rV at o1
    unfold RR.cells at r1
    simp -implicitDefEqProofs only [go_sem, simprocAttr, s0, s1, s7, s8, aIndexAddr, hnn, hlt2, r1]
    refine wl_callC g cap (by simp -implicitDefEqProofs only [go_sem, simprocAttr, s1]) _ (by simp -implicitDefEqProofs only [go_sem, simprocAttr]) o1 ?_
    cases hp : p x with
    | true =>
      have := hF1 hp
      subst this
      simp -implicitDefEqProofs only [go_sem, simprocAttr, wa_cond, axC_t, axC_f, res200]
      rw [if_pos hil]
    | false =>
      simp -implicitDefEqProofs only [go_sem, simprocAttr, wa_cond, axC_t, axC_f, s0, s1, s7, s8, m1]
      exact ⟨i + 1, ⟨rfl, by omega, hF2 hp⟩, by omega⟩
  · have : i = l.length := by omega
    subst this
    unfold idxZ
    rw [if_neg (by omega)]
    simp -implicitDefEqProofs only [go_sem, simprocAttr, res200]
theorem containsFuncP (H : Heap) {v : Value} {l : List RR} {g : FuncId} {cap : Array Value} {p : RR → Bool} (hv : RL H v l) (hl : l.length ≤ 1000000) (hf : ∀ x ∈ l, Sim Tryz.prog g (#[x.val] ++ cap) H (.bool (p x)) H) :
    Sim Tryz.prog 134 #[v, .func (.func g) #[] cap] H (.bool (l.any p)) H := by
  have o1 := indexFuncP H hv hl hf
  have h := idxZ_geq p l
  generalize idxZ p l = z at *
  rw [← h]
  refine soA tok mixed Tryz.func134 ?_
  simp -implicitDefEqProofs only [go_sem, simprocAttr]
  refine kv o1 ?_
  simp -implicitDefEqProofs only [go_sem, simprocAttr, res134]
end Go.Proofs.YthhmkaikopdmjaaGreat
namespace Go.Proofs.YthhmkaikopdmjaaGreat
open Go Go.Fw
def _root_.Go.Fw.RR.over (r : RR) (m : Nat) : Bool := decide (m < r.n.length) || decide (m < r.d.length) || decide (m < r.n'.length) || decide (m < r.d'.length)
theorem _root_.Go.Fw.RR.over_le {r : RR} {m : Nat} (h : r.over m = false) : r.le (8 * m) := by
  unfold RR.over at h
  simp only [Bool.or_eq_false_iff, decide_eq_false_iff_not] at h
  exact ⟨by omega, by omega, by omega, by omega⟩
theorem greatPoint (H : Heap) (r : RR) : Sim Tryz.prog 125 #[r.val] H (.bool (r.over 12)) H := by
  refine flat_ex rfl ?_
  have c : ∀ n : Nat, ((12 : Int) < (n : Int)) ↔ 12 < n := fun n => by omega
  unfold RR.over RR.val rV
  by_cases h1 : 12 < r.n.length
  · rw [decide_eq_true h1]
    refine sxA tok mixed Tryz.func125 ?_
    simp -implicitDefEqProofs only [go_sem, simprocAttr, UU, aLen, c, h1, Bool.true_or]
    simp -implicitDefEqProofs only [go_sem, simprocAttr, UU, res125]
    first | exact .app _ _ | exact ⟨.app _ _, rfl⟩ | exact .refl _ | exact ⟨.refl _, rfl⟩
  rw [decide_eq_false h1]
  by_cases h2 : 12 < r.d.length
  · rw [decide_eq_true h2]
    refine sxA tok mixed Tryz.func125 ?_
    simp -implicitDefEqProofs only [go_sem, simprocAttr, UU, aLen, c, h1, h2, Bool.true_or, Bool.false_or]
    simp -implicitDefEqProofs only [go_sem, simprocAttr, UU, res125]
    first | exact .app _ _ | exact ⟨.app _ _, rfl⟩ | exact .refl _ | exact ⟨.refl _, rfl⟩
  rw [decide_eq_false h2]
  by_cases h3 : 12 < r.n'.length
  · rw [decide_eq_true h3]
    refine sxA tok mixed Tryz.func125 ?_
    simp -implicitDefEqProofs only [go_sem, simprocAttr, UU, aLen, c, h1, h2, h3, Bool.true_or, Bool.false_or]
    simp -implicitDefEqProofs only [go_sem, simprocAttr, UU, res125]
    first | exact .app _ _ | exact ⟨.app _ _, rfl⟩ | exact .refl _ | exact ⟨.refl _, rfl⟩
  rw [decide_eq_false h3]
  by_cases h4 : 12 < r.d'.length
  · rw [decide_eq_true h4]
    refine sxA tok mixed Tryz.func125 ?_
    simp -implicitDefEqProofs only [go_sem, simprocAttr, UU, aLen, c, h1, h2, h3, h4, Bool.true_or, Bool.false_or]
    simp -implicitDefEqProofs only [go_sem, simprocAttr, UU, res125]
    first | exact .app _ _ | exact ⟨.app _ _, rfl⟩ | exact .refl _ | exact ⟨.refl _, rfl⟩
  rw [decide_eq_false h4]
  refine sxA tok mixed Tryz.func125 ?_
  simp -implicitDefEqProofs only [go_sem, simprocAttr, UU, aLen, c, h1, h2, h3, h4, Bool.or_false]
  simp -implicitDefEqProofs only [go_sem, simprocAttr, UU, res125]
  first | exact .app _ _ | exact ⟨.app _ _, rfl⟩ | exact .refl _ | exact ⟨.refl _, rfl⟩
theorem large1 (H : Heap) (r : RR) : Sim Tryz.prog 72 #[r.val] H (.bool (r.over 6)) H := by
  refine flat_ex rfl ?_
  have c : ∀ n : Nat, ((6 : Int) < (n : Int)) ↔ 6 < n := fun n => by omega
  unfold RR.over RR.val rV
  by_cases h1 : 6 < r.n.length
  · rw [decide_eq_true h1]
    refine sxA tok mixed Tryz.func72 ?_
    simp -implicitDefEqProofs only [go_sem, simprocAttr, UU, aLen, c, h1, Bool.true_or]
    simp -implicitDefEqProofs only [go_sem, simprocAttr, UU, res72]
    first | exact .app _ _ | exact ⟨.app _ _, rfl⟩ | exact .refl _ | exact ⟨.refl _, rfl⟩
  rw [decide_eq_false h1]
  by_cases h2 : 6 < r.d.length
  · rw [decide_eq_true h2]
    refine sxA tok mixed Tryz.func72 ?_
    simp -implicitDefEqProofs only [go_sem, simprocAttr, UU, aLen, c, h1, h2, Bool.true_or, Bool.false_or]
    simp -implicitDefEqProofs only [go_sem, simprocAttr, UU, res72]
    first | exact .app _ _ | exact ⟨.app _ _, rfl⟩ | exact .refl _ | exact ⟨.refl _, rfl⟩
  rw [decide_eq_false h2]
  by_cases h3 : 6 < r.n'.length
  · rw [decide_eq_true h3]
    refine sxA tok mixed Tryz.func72 ?_
    simp -implicitDefEqProofs only [go_sem, simprocAttr, UU, aLen, c, h1, h2, h3, Bool.true_or, Bool.false_or]
    simp -implicitDefEqProofs only [go_sem, simprocAttr, UU, res72]
    first | exact .app _ _ | exact ⟨.app _ _, rfl⟩ | exact .refl _ | exact ⟨.refl _, rfl⟩
  rw [decide_eq_false h3]
  by_cases h4 : 6 < r.d'.length
  · rw [decide_eq_true h4]
    refine sxA tok mixed Tryz.func72 ?_
    simp -implicitDefEqProofs only [go_sem, simprocAttr, UU, aLen, c, h1, h2, h3, h4, Bool.true_or, Bool.false_or]
    simp -implicitDefEqProofs only [go_sem, simprocAttr, UU, res72]
    first | exact .app _ _ | exact ⟨.app _ _, rfl⟩ | exact .refl _ | exact ⟨.refl _, rfl⟩
  rw [decide_eq_false h4]
  refine sxA tok mixed Tryz.func72 ?_
  simp -implicitDefEqProofs only [go_sem, simprocAttr, UU, aLen, c, h1, h2, h3, h4, Bool.or_false]
  simp -implicitDefEqProofs only [go_sem, simprocAttr, UU, res72]
  first | exact .app _ _ | exact ⟨.app _ _, rfl⟩ | exact .refl _ | exact ⟨.refl _, rfl⟩
def lenBad13 (n : Nat) : Bool := decide (10 < n ∧ n < 63 ∨ 66 < n)
def greatP (l : List RR) : Bool := lenBad13 l.length || l.any (fun r => r.over 12)
theorem Great13 (H : Heap) {v : Value} {l : List RR} (hv : RL H v l) : Sim Tryz.prog 71 #[v] H (.bool (greatP l)) H := by
  refine flat_ex rfl ?_
  have e1 := hv.len (tt := tt) tt52
  have c3 : ((10 : Int) < (l.length : Int)) ↔ 10 < l.length := by omega
  have c4 : ((l.length : Int) < 63) ↔ l.length < 63 := by omega
  have c5 : ((66 : Int) < (l.length : Int)) ↔ 66 < l.length := by omega
  unfold greatP lenBad13
  refine sxA tok mixed Tryz.func71 ?_
  by_cases h2 : 10 < l.length ∧ l.length < 63
  · rw [decide_eq_true (.inl h2)]
    simp -implicitDefEqProofs only [go_sem, simprocAttr, wa_cond, axC_t, axC_f, e1, c3, c4, h2.1, h2.2, Bool.true_or, res71]
    exact .refl _
  by_cases h3 : 66 < l.length
  · rw [decide_eq_true (.inr h3)]
    have d3 : 10 < l.length := by omega
    have d4 : ¬ l.length < 63 := by omega
    simp -implicitDefEqProofs only [go_sem, simprocAttr, wa_cond, axC_t, axC_f, e1, c3, c4, c5, d3, d4, h3, Bool.true_or, res71]
    exact .refl _
  rw [decide_eq_false (by omega), Bool.false_or]
  have hcase : (¬ 10 < l.length ∧ ¬ 66 < l.length) ∨ (10 < l.length ∧ ¬ l.length < 63 ∧ ¬ 66 < l.length) := by omega
  apply shareK (M := fun s T => s 0 = v ∧ T = H)
  · intro hrest
    rcases hcase with ⟨d1, d2⟩ | ⟨d1, d2, d3⟩
    · simp -implicitDefEqProofs only [go_sem, simprocAttr, e1, c3, c4, c5, d1, d2]
      refine ax_mid _ ?_ hrest
      simp -implicitDefEqProofs only [go_sem, simprocAttr, wa_cond, axC_t, axC_f]
    · simp -implicitDefEqProofs only [go_sem, simprocAttr, e1, c3, c4, c5, d1, d2, d3]
      refine ax_mid _ ?_ hrest
      simp -implicitDefEqProofs only [go_sem, simprocAttr, wa_cond, axC_t, axC_f]
  rintro s T ⟨s0, rfl⟩
  simp -implicitDefEqProofs only [go_sem, simprocAttr, s0]
  refine ax_loopx (fun (i : Nat) s T1 => s 0 = v ∧ s 3 = .int .i64 (i : Nat) ∧ i ≤ l.length ∧ l.any (fun r => r.over 12) = (l.drop i).any (fun r => r.over 12) ∧ T1 = T) (fun i => l.length - i) 0 ?_ ?_
  · simp -implicitDefEqProofs only [go_sem, simprocAttr, s0]
  clear s0
  rintro i s T1 ⟨s0, s3, hi, ha, rfl⟩
  simp -implicitDefEqProofs only [go_sem, simprocAttr, s0, s3, e1]
  refine ax_cond2 ?_
  simp only [ev_tmp, ev_const, ev_func, upd_at, put_some, put_none, bndB_bool, Nat.reduceEqDiff, if_true, if_false, ↓reduceIte, reduceCtorEq]
  refine ⟨fun hc0 => have hlt := of_decide_eq_true hc0; ?_, fun hc0 => have hlt := of_decide_eq_false hc0; ?_⟩
  · have hil : i < l.length := by omega
    obtain ⟨b, i0, c, rfl, hA⟩ := hv.at (fun h => by rw [h] at hil; simp at hil)
    have r1 := hA.rdR hil
    have o1 := fun H => greatPoint H l[i]
    have hnn : (0 : Int) ≤ (i : Int) := by omega
    have hlt2 : (i : Int) < (l.length : Int) := by omega
    have w1 : IntKind.i64.wrap ((i : Int) + 1) = ((i + 1 : Nat) : Int) := by rw [w64 (by omega) (by omega)]; rfl
    rw [List.drop_eq_getElem_cons hil, List.any_cons] at ha
    generalize l[i] = x at *
    unfold RR.cells at r1
    unfold RR.val rV at o1
    simp -implicitDefEqProofs only [go_sem, simprocAttr, s0, s3, aIndexAddr, hnn, hlt2, r1]
    refine kv (o1 _) ?_
    cases hx : x.over 12
    · rw [hx, Bool.false_or] at ha
      simp -implicitDefEqProofs only [go_sem, simprocAttr, wa_cond, axC_t, axC_f, s0, s3, w1]
      refine ⟨i + 1, ?_, by omega⟩
      ((repeat' apply And.intro) <;> first | rfl | assumption | omega)
    · rw [hx, Bool.true_or] at ha
      rw [ha]
      simp -implicitDefEqProofs only [go_sem, simprocAttr, wa_cond, axC_t, axC_f, res71]
      exact .refl _
  · have : i = l.length := by omega
    subst this
    rw [List.drop_length] at ha
    rw [ha]
    simp -implicitDefEqProofs only [go_sem, simprocAttr, res71, List.any_nil]
    exact .refl _
def great46B (l : List RR) : Bool := decide (6 < l.length ∧ l.length < 60) || greatP l
theorem great46 (H : Heap) {v : Value} {l : List RR} (hv : RL H v l) : Sim Tryz.prog 32 #[v] H (.bool (great46B l)) H := by
  have e1 := hv.len (tt := tt) tt52
  have c3 : ((6 : Int) < (l.length : Int)) ↔ 6 < l.length := by omega
  have c4 : ((l.length : Int) < 60) ↔ l.length < 60 := by omega
  have o1 := Great13 H hv
  unfold great46B
  generalize greatP l = g at *
  refine soA tok mixed Tryz.func32 ?_
  by_cases h1 : 6 < l.length
  · by_cases h2 : l.length < 60
    · rw [decide_eq_true ⟨h1, h2⟩]
      simp -implicitDefEqProofs only [go_sem, simprocAttr, wa_cond, axC_t, axC_f, e1, c3, c4, h1, h2, Bool.true_or, res32]
    · rw [decide_eq_false (fun h => h2 h.2)]
      simp -implicitDefEqProofs only [go_sem, simprocAttr, wa_cond, axC_t, axC_f, e1, c3, c4, h1, h2, Bool.false_or]
      refine kv o1 ?_
      simp -implicitDefEqProofs only [go_sem, simprocAttr, res32]
  · rw [decide_eq_false (fun h => h1 h.1)]
    simp -implicitDefEqProofs only [go_sem, simprocAttr, wa_cond, axC_t, axC_f, e1, c3, c4, h1, Bool.false_or]
    refine kv o1 ?_
    simp -implicitDefEqProofs only [go_sem, simprocAttr, res32]
theorem large46 (H : Heap) {v : Value} {l : List RR} (hv : RL H v l) (hl : l.length ≤ 1000000) : Sim Tryz.prog 33 #[v] H (.bool (l.any fun r => r.over 6)) H := by
  have o1 := containsFuncR H (g := 72) (cap := #[]) (p := fun r => r.over 6) hv hl (fun x _ => large1 _ x)
  generalize (l.any fun r => r.over 6) = g at *
  refine soA tok mixed Tryz.func33 ?_
  simp -implicitDefEqProofs only [go_sem, simprocAttr]
  refine kv o1 ?_
  simp -implicitDefEqProofs only [go_sem, simprocAttr, res33]
theorem canonical1 (H : Heap) {r : RR} {k : Nat} (hr : r.le k) (hk : k ≤ 100000) : Sim Tryz.prog 199 #[r.val] H (.bool (!r.can)) H := by
  refine flat_ex rfl ?_
  have o1 := fun H => vcheckP H hr hk
  generalize r.can = z at *
  unfold RR.val rV at *
  cases z
  all_goals
    refine sxA tok mixed Tryz.func199 ?_
    simp -implicitDefEqProofs only [go_sem, simprocAttr, UU]
    refine kv (o1 _) ?_
    simp -implicitDefEqProofs only [go_sem, simprocAttr, UU, Bool.not_true, Bool.not_false]
    simp -implicitDefEqProofs only [go_sem, simprocAttr, UU, res199]
    first | exact .app _ _ | exact ⟨.app _ _, rfl⟩ | exact .refl _ | exact ⟨.refl _, rfl⟩
theorem canonicalP (H : Heap) {v : Value} {l : List RR} {k : Nat} (hv : RL H v l) (hle : ∀ r ∈ l, r.le k) (hk : k ≤ 100000) (hl : l.length ≤ 1000000) : Sim Tryz.prog 133 #[v] H (.bool (l.all RR.can)) H := by
  have o1 := containsFuncP H (g := 199) (cap := #[]) (p := fun r => !r.can) hv hl (fun x hx => canonical1 _ (hle x hx) hk)
  have e : (l.all RR.can) = !(l.any fun r => !r.can) := by simp [List.not_any_eq_all_not]
  rw [e]
  generalize (l.any fun r => !r.can) = g at *
  refine soA tok mixed Tryz.func133 ?_
  simp -implicitDefEqProofs only [go_sem, simprocAttr]
  refine kv o1 ?_
  simp -implicitDefEqProofs only [go_sem, simprocAttr, res133]
end Go.Proofs.YthhmkaikopdmjaaGreat
namespace Go.Proofs.YthhmkaikopdmjaaGreat
open Go Go.Fw
theorem edgesS (H : Heap) (x : Option Addr) (n c : Nat) : Sim Tryz.prog 137 #[.slice x n c] H (.func (.func 201) #[] #[.pointer (some ⟨H.length, 0, none⟩)]) (H ++ [⟨[.slice x n c], 1, true⟩]) := by
  refine soA tok mixed Tryz.func137 ?_
  simp -implicitDefEqProofs only [go_sem, simprocAttr, res137]
theorem edgesY {Y Z : Array Value → Heap → Heap → Prop} {l : List RR} {v : Value} {b0 : Nat} {H : Heap} {R : Heap → Prop} (j : Nat) (hj : j ≤ l.length) (Inv : Nat → Heap → Prop) (h1 : l ≠ []) (hl : l.length ≤ 100000) (h0 : Inv 0 H)
    (hbox : ∀ i T, Inv i T → T[b0]? = some ⟨[v], 1, true⟩ ∧ RL T v l) (happ : ∀ i T B, Inv i T → Inv i (T ++ [B]))
    (hY : ∀ i T, ∀ hi : i < l.length, i < j → Inv i T → ∃ T', Y #[l[i].val, (l[nextR l i]'(nextR_lt h1 i)).val] T T' ∧ Inv (i + 1) T')
    (hZ : ∀ T, ∀ hi : j < l.length, Inv j T → ∃ T', Z #[l[j].val, (l[nextR l j]'(nextR_lt h1 j)).val] T T' ∧ T.length < T'.length ∧ R T')
    (hR : ∀ T, j = l.length → Inv j T → R T) {bb : Bool} (hbb : bb = decide (j = l.length)) :
    ∃ H1, SimR Tryz.prog 201 Y Z #[.pointer (some ⟨b0, 0, none⟩)] H bb H1 ∧ R H1 := by
  subst hbb
  obtain ⟨G, g0, g1, g2⟩ := chain_ex (Inv := Inv) (n := j) (H := H) (Y := fun i T T' => ∀ hi : i < l.length, Y #[l[i].val, (l[nextR l i]'(nextR_lt h1 i)).val] T T') (fun i => ⟨(l.getD i ⟨false, [], [], false, [], []⟩).cells, 1, true⟩) h0 happ
    (fun i T hi h => by obtain ⟨T', a, b⟩ := hY i T (by omega) hi h; exact ⟨T', fun _ => a, b⟩)
  obtain ⟨H1, hH1, hRH⟩ : ∃ H1, (if hi : j < l.length then Z #[l[j].val, (l[nextR l j]'(nextR_lt h1 j)).val] (G j ++ [(⟨l[j].cells, 1, true⟩ : Blk)]) H1 ∧ (G j ++ [(⟨l[j].cells, 1, true⟩ : Blk)]).length < H1.length else H1 = G j) ∧ R H1 := by
    by_cases hi : j < l.length
    · obtain ⟨T', a, b, c⟩ := hZ _ hi (happ j _ (⟨l[j].cells, 1, true⟩ : Blk) (g1 j (Nat.le_refl _)))
      exact ⟨T', by rw [dif_pos hi]; exact ⟨a, b⟩, c⟩
    · exact ⟨G j, by rw [dif_neg hi], hR _ (by omega) (g1 j (Nat.le_refl _))⟩
  refine ⟨H1, ?_, hRH⟩
  refine simR_of_ax tok mixed Tryz.func201 ?_
  intro y
  have hb := hbox 0 H h0
  obtain ⟨b, i0, c, rfl, hA0⟩ := hb.2.at h1
  have box : ∀ i, i ≤ j → ∀ B, rd (G i ++ B) b0 0 1 = some [.slice (some ⟨b, i0, none⟩) l.length c] := by
    intro i hi B
    refine rd_more ?_ B
    have := (hbox i _ (g1 i hi)).1
    unfold rd
    rw [this]; rfl
  have box0 := fun i hi => by simpa using box i hi []
  have hrow : ∀ i, i ≤ j → ElAt 6 (G i) b i0 c (l.map RR.cells) := by
    intro i hi
    obtain ⟨b', i', c', e, h⟩ := ((hbox i _ (g1 i hi)).2).at h1
    injection e with e1 e2 e3
    injection e1 with e1
    injection e1 with e4 e5
    subst e4 e5 e3
    exact h
  have e1 : aLen tt [52] (.slice (some ⟨b, i0, none⟩) l.length c) = some (.int .i64 (l.length : Nat)) := rfl
  rw [← g0]
  have bx0 := box0 0 (by omega)
  have eini : (#[Value.func (Fn.yield y) #[] #[]] ++ #[Value.pointer (some ⟨b0, 0, none⟩)] : Array Value) = #[.func (.yield y) #[] #[], .pointer (some ⟨b0, 0, none⟩)] := rfl
  rw [eini]
  simp -implicitDefEqProofs only [wy_seq, wy_block, wy_skip, wy_exit, wy_ret, wy_cond, axCY_t, axCY_f, ythn_t, ythn_f, ythn_ret, ythn_exit, yblk]
  refine wy_open ?_
  simp -implicitDefEqProofs only [go_sem, simprocAttr, wy_seq, wy_block, wy_skip, wy_exit, wy_ret, wy_cond, axCY_t, axCY_f, ythn_t, ythn_f, ythn_ret, ythn_exit, yblk, bx0, e1]
  refine axY_loopx (fun (i : Nat) s T => s 0 = .func (.yield y) #[] #[] ∧ s 1 = .pointer (some ⟨b0, 0, none⟩) ∧ s 5 = .slice (some ⟨b, i0, none⟩) l.length c ∧ s 6 = .int .i64 (l.length : Nat) ∧ s 7 = .int .i64 (i : Nat) ∧ i ≤ j ∧ T = G i) (fun i => l.length - i) 0 ?_ ?_
  · simp -implicitDefEqProofs only [go_sem, simprocAttr]
  rintro i s T ⟨s0, s1, s5, s6, s7, hi, rfl⟩
  by_cases hil : i < l.length
  case neg =>
    have : i = l.length := by omega
    subst this
    have : j = l.length := by omega
    subst this
    rw [dif_neg (by omega)] at hH1
    subst hH1
    have hlt : ¬ ((l.length : Nat) : Int) < (l.length : Nat) := by omega
    refine axY_of_ax _ ?_
    simp -implicitDefEqProofs only [go_sem, simprocAttr, wa_cond, axC_t, axC_f, s6, s7, hlt, yblk, ythn_exit, retY_normal]
    exact ⟨[], rfl⟩
  have hr := (hrow i hi).rdR hil
  have hjn := nextR_lt h1 i
  have hr2 := fun B => rd_more ((hrow i hi).rdR hjn) B
  have hgd : l.getD i ⟨false, [], [], false, [], []⟩ = l[i] := by simp [List.getD, List.getElem?_eq_getElem hil]
  have bxi := box0 i hi
  have bxi2 := box i hi
  have m1 : IntKind.i64.wrap ((i : Int) + 1) = ((i + 1 : Nat) : Int) := by rw [w64 (by omega) (by omega)]; rfl
  have m2 : Int.tmod ((i + 1 : Nat) : Int) (l.length : Int) = ((nextR l i : Nat) : Int) := by rw [tmod_nat]; rfl
  have m3 : ¬ (l.length : Int) = 0 := by omega
  have hnn : (0 : Int) ≤ (i : Int) := by omega
  have hlt2 : (i : Int) < (l.length : Int) := by omega
  have hnn2 : (0 : Int) ≤ (nextR l i : Int) := by omega
  have hlt3 : (nextR l i : Int) < (l.length : Int) := by omega
  by_cases hij : i < j
  · have hy := g2 i hij hil
    rw [hgd] at hy
    clear hH1
    generalize l[nextR l i] = z at hr2 hy
    generalize l[i] = x at hr hy
    generalize nextR l i = j' at m2 hnn2 hlt3 hr2
    unfold RR.cells at hr hr2 hy
    refine axY_of_ax _ ?_
    simp -implicitDefEqProofs only [go_sem, simprocAttr, wa_cond, axC_t, axC_f, s0, s1, s5, s6, s7, hlt2, aIndexAddr, hnn, hr]
    refine ax_loud (by kernel_rfl) ?_
    simp -implicitDefEqProofs only [go_sem, simprocAttr, s0, s1, s5, s7, aIndexAddr, hnn, hlt2, hnn2, hlt3, hr2, bxi, bxi2, e1, m1, m2, m3]
    unfold RR.val rV at hy
    refine wl_yield y _ (by simp -implicitDefEqProofs only [go_sem, simprocAttr, s0]) (by simp -implicitDefEqProofs only [go_sem, simprocAttr]) ⟨rfl, rfl, hy⟩ ?_
    simp -implicitDefEqProofs only [go_sem, simprocAttr, wa_cond, axC_t, axC_f, s0, s1, s5, s6, s7, m1, ythn_t]
    exact ⟨i + 1, ⟨rfl, by omega, rfl⟩, by omega⟩
  · have : i = j := by omega
    subst this
    rw [dif_pos hil] at hH1
    obtain ⟨hz, hlen⟩ := hH1
    rw [decide_eq_false (by omega)]
    generalize l[nextR l i] = z at hr2 hz
    generalize l[i] = x at hr hz hlen
    generalize nextR l i = j' at m2 hnn2 hlt3 hr2
    have hlen' : (G i).length + 1 < H1.length := by simpa using hlen
    unfold RR.cells at hr hr2 hz hlen
    simp -implicitDefEqProofs only [wy_seq, wy_block, wy_skip, wy_exit, wy_ret, wy_cond, axCY_t, axCY_f, ythn_t, ythn_f, ythn_ret, ythn_exit, yblk]
    refine wy_open ?_
    simp -implicitDefEqProofs only [go_sem, simprocAttr, wy_seq, wy_block, wy_skip, wy_exit, wy_ret, wy_cond, axCY_t, axCY_f, ythn_t, ythn_f, ythn_ret, ythn_exit, yblk, s6, s7, hlt2]
    refine wy_open ?_
    simp -implicitDefEqProofs only [go_sem, simprocAttr, wy_seq, wy_block, wy_skip, wy_exit, wy_ret, wy_cond, axCY_t, axCY_f, ythn_t, ythn_f, ythn_ret, ythn_exit, yblk, s0, s1, s5, s6, s7, aIndexAddr, hnn, hlt2, hr]
    refine wy_shut (by kernel_rfl) (ax_loud (by kernel_rfl) ?_)
    simp -implicitDefEqProofs only [go_sem, simprocAttr, s0, s1, s5, s7, aIndexAddr, hnn, hlt2, hnn2, hlt3, hr2, bxi, bxi2, e1, m1, m2, m3]
    unfold RR.val rV at hz
    refine wl_yield y _ (by simp -implicitDefEqProofs only [go_sem, simprocAttr, s0]) (by simp -implicitDefEqProofs only [go_sem, simprocAttr]) ⟨rfl, by simp, .inr ⟨rfl, hz, hlen'⟩⟩ ?_
    simp -implicitDefEqProofs only [go_sem, simprocAttr, wa_cond, axC_t, axC_f, wy_seq, wy_block, wy_skip, wy_exit, wy_ret, wy_cond, axCY_t, axCY_f, ythn_t, ythn_f, ythn_ret, ythn_exit, yblk, retY_ret]
    exact ⟨hlen', [], rfl⟩
end Go.Proofs.YthhmkaikopdmjaaGreat
namespace Go.Proofs.YthhmkaikopdmjaaGreat
open Go Go.Fw
theorem check1P (H : Heap) {b : Nat} {v : Value} {l : List RR} {x : RR} {k : Nat} (hr : H[b]? = some ⟨[v], 1, true⟩) (hv : RL H v l) (h0 : l ≠ []) (hl : l.length ≤ 100000) (hx : x.le k) (hle : ∀ r ∈ l, r.le k) (hk : k ≤ 100000) :
    Sim Tryz.prog 135 #[x.val, .pointer (some ⟨b, 0, none⟩)] H (.bool (decide (pcmp x.rot (l[0]'(List.length_pos_iff.2 h0)).rot ≤ 0))) H := by
  refine flat_ex rfl ?_
  have h00 := List.length_pos_iff.2 h0
  obtain ⟨b', i0, c, rfl, hA⟩ := hv.at h0
  have r1 := fun G => rd_more (rd_cell hr) G
  have r2 := fun G => rd_more (hA.rdR h00) G
  have o1 := fun H => compareP H hx (hle _ (List.getElem_mem h00)) (by omega)
  have c1 : (0 : Int) < (l.length : Int) := by omega
  have c2 : (0 : Int) ≤ 0 := by omega
  generalize l[0] = y at *
  generalize pcmp x.rot y.rot = z at *
  unfold RR.cells at r2
  unfold RR.val rV at *
  simp only [Nat.zero_mul, Nat.add_zero] at r2
  refine sxA tok mixed Tryz.func135 ?_
  simp -implicitDefEqProofs only [go_sem, simprocAttr, UU]
  refine ax_quiet (by kernel_rfl) ?_
  simp -implicitDefEqProofs only [go_sem, simprocAttr, r1, r2, aIndexAddr, c1, c2, Nat.zero_mul]
  refine kw (o1 _) ?_
  simp -implicitDefEqProofs only [go_sem, simprocAttr, UU, res135]
  first | exact .app _ _ | exact ⟨.app _ _, rfl⟩ | exact .refl _ | exact ⟨.refl _, rfl⟩
def offE (a b p : RR) : Bool := decide (p ≠ a) && (decide (p ≠ b) && decide (cmpQ (ori a.rot b.rot p.rot) 0 ≤ 0))
theorem check2P (H : Heap) {ba bb : Nat} {a b p : RR} {k : Nat} (ha : H[ba]? = some ⟨a.cells, 1, true⟩) (hb : H[bb]? = some ⟨b.cells, 1, true⟩) (la : a.le k) (lb : b.le k) (lp : p.le k) (hk : k ≤ 100000) :
    Sim Tryz.prog 138 #[p.val, .pointer (some ⟨ba, 0, none⟩), .pointer (some ⟨bb, 0, none⟩)] H (.bool (offE a b p)) H := by
  refine flat_ex rfl ?_
  have r1 : ∀ G, rd (H ++ G) ba 0 6 = some [.bool a.g, .string (bs a.n), .string (bs a.d), .bool a.g', .string (bs a.n'), .string (bs a.d')] := fun G => rd_more (by unfold rd; rw [ha]; rfl) G
  have r2 : ∀ G, rd (H ++ G) bb 0 6 = some [.bool b.g, .string (bs b.n), .string (bs b.d), .bool b.g', .string (bs b.n'), .string (bs b.d')] := fun G => rd_more (by unfold rd; rw [hb]; rfl) G
  have o1 := fun H => orientP H la lb lp (by omega)
  have q1 := neq90 p a
  have q2 := neq90 p b
  unfold offE
  generalize cmpQ (ori a.rot b.rot p.rot) 0 = z at *
  unfold RR.val rV at *
  by_cases h1 : p = a
  · rw [decide_eq_false (by simpa using h1)] at q1 ⊢
    refine sxA tok mixed Tryz.func138 ?_
    simp -implicitDefEqProofs only [go_sem, simprocAttr, UU, r1, r2, q1, Bool.false_and]
    simp -implicitDefEqProofs only [go_sem, simprocAttr, UU, res138]
    first | exact .app _ _ | exact ⟨.app _ _, rfl⟩ | exact .refl _ | exact ⟨.refl _, rfl⟩
  rw [decide_eq_true h1] at q1
  rw [decide_eq_true (show p ≠ a from h1)]
  by_cases h2 : p = b
  · rw [decide_eq_false (by simpa using h2)] at q2 ⊢
    refine sxA tok mixed Tryz.func138 ?_
    simp -implicitDefEqProofs only [go_sem, simprocAttr, UU, r1, r2, q1, q2, Bool.false_and, Bool.and_false]
    simp -implicitDefEqProofs only [go_sem, simprocAttr, UU, res138]
    first | exact .app _ _ | exact ⟨.app _ _, rfl⟩ | exact .refl _ | exact ⟨.refl _, rfl⟩
  rw [decide_eq_true h2] at q2
  rw [decide_eq_true (show p ≠ b from h2)]
  refine sxA tok mixed Tryz.func138 ?_
  simp -implicitDefEqProofs only [go_sem, simprocAttr, UU, r1, r2, q1, q2]
  refine kw (o1 _) ?_
  simp -implicitDefEqProofs only [go_sem, simprocAttr, UU, res138]
  first | exact .app _ _ | exact ⟨.app _ _, rfl⟩ | exact .refl _ | exact ⟨.refl _, rfl⟩
def offI (l : List RR) (i : Nat) : Bool := l.any (offE (l.getD i rr0) (l.getD (nextR l i) rr0))
def offA (l : List RR) : Bool := (List.range l.length).any (offI l)
def lowB (l : List RR) : Bool := (l.drop 1).any fun p => decide (pcmp p.rot (l.getD 0 rr0).rot ≤ 0)
def chkC (l : List RR) : Int := if l.length < 3 ∨ 64 < l.length then 4 else if l.all RR.can = false then 1 else if lowB l = true then 8 else if offA l = true then 15 else 0
theorem first_off (l : List RR) : ∃ j, j ≤ l.length ∧ (∀ i, i < j → offI l i = false) ∧ (j < l.length → offI l j = true) ∧ (offA l = true ↔ j < l.length) := by
  refine ⟨(List.range l.length).findIdx (offI l), ?_, ?_, ?_, ?_⟩
  · have := List.findIdx_le_length (xs := List.range l.length) (p := offI l)
    simpa using this
  · intro i hi
    have h := List.not_of_lt_findIdx hi
    simpa using h
  · intro h
    have := List.findIdx_getElem (xs := List.range l.length) (p := offI l) (w := by simpa using h)
    simpa using this
  · unfold offA
    rw [List.any_eq_true]
    constructor
    · rintro ⟨x, hx, hp⟩
      have := List.findIdx_lt_length_of_exists ⟨x, hx, hp⟩
      simpa using this
    · intro h
      have := List.findIdx_getElem (xs := List.range l.length) (p := offI l) (w := by simpa using h)
      exact ⟨_, List.getElem_mem _, this⟩
theorem RL.slice {H : Heap} {v : Value} {l : List RR} (hv : RL H v l) : ∃ x c, v = .slice x l.length c := by
  unfold RL El at hv
  rcases hv with ⟨h | ⟨b, i, c, h⟩, h0⟩ | ⟨b, i, c, h, _⟩
  · have : l = [] := by simpa using h0
    subst this
    exact ⟨none, 0, h⟩
  · have : l = [] := by simpa using h0
    subst this
    exact ⟨_, c, h⟩
  · rw [List.length_map] at h
    exact ⟨_, c, h⟩
theorem CheckP (H : Heap) {v : Value} {l : List RR} {k : Nat} (hv : RL H v l) (hle : ∀ r ∈ l, r.le k) (hk : k ≤ 100000) (hl : l.length ≤ 100000) : Sim Tryz.prog 81 #[v] H (.int .i64 (chkC l)) H := by
  refine flat_ex rfl ?_
  have e1 := hv.len (tt := tt) tt52
  obtain ⟨x0, cp, rfl⟩ := RL.slice hv
  have c3 : ((l.length : Int) < 3) ↔ l.length < 3 := by omega
  have c4 : ((64 : Int) < (l.length : Int)) ↔ 64 < l.length := by omega
  unfold chkC
  by_cases h3 : l.length < 3 ∨ 64 < l.length
  · rw [if_pos h3]
    refine sim_exR tok mixed Tryz.func81 ?_
    simp -implicitDefEqProofs only [go_sem, simprocAttr, wr_seq, wr_block, wr_region, wr_scope, wr_label, wr_skip, wr_exit, wr_ret, wr_cond, axCR_t, axCR_f, e1, c3, c4]
    by_cases h1 : l.length < 3
    · simp -implicitDefEqProofs only [go_sem, simprocAttr, wr_seq, wr_block, wr_region, wr_scope, wr_label, wr_skip, wr_exit, wr_ret, wr_cond, axCR_t, axCR_f, e1, c3, c4, h1, res81]
      exact .app _ _
    · have h2 : 64 < l.length := by omega
      simp -implicitDefEqProofs only [go_sem, simprocAttr, wr_seq, wr_block, wr_region, wr_scope, wr_label, wr_skip, wr_exit, wr_ret, wr_cond, axCR_t, axCR_f, e1, c3, c4, h1, h2, res81]
      exact .app _ _
  rw [if_neg h3]
  have h1 : ¬ l.length < 3 := by omega
  have h2 : ¬ 64 < l.length := by omega
  have o1 := fun G => canonicalP (H ++ G) (El.app hv G) hle hk (by omega)
  by_cases hc : l.all RR.can = false
  · rw [if_pos hc]
    rw [hc] at o1
    refine sim_exR tok mixed Tryz.func81 ?_
    simp -implicitDefEqProofs only [go_sem, simprocAttr, wr_seq, wr_block, wr_region, wr_scope, wr_label, wr_skip, wr_exit, wr_ret, wr_cond, axCR_t, axCR_f, e1, c3, c4, h1, h2]
    refine kv (o1 _) ?_
    simp -implicitDefEqProofs only [go_sem, simprocAttr, wr_seq, wr_block, wr_region, wr_scope, wr_label, wr_skip, wr_exit, wr_ret, wr_cond, axCR_t, axCR_f, res81]
    exact .app _ _
  rw [if_neg hc]
  rw [Bool.not_eq_false] at hc
  rw [hc] at o1
  have h0 : l ≠ [] := by rintro rfl; simp at h1
  obtain ⟨b, i0, c, hx0, hA⟩ := hv.at h0
  injection hx0 with hx0 _ hcc
  subst hx0 hcc
  have sl1 : ∀ G, aSlice tt (H ++ G) 52 (.slice (some ⟨b, i0, none⟩) l.length cp) (some (.int .i64 1)) none none = some (.slice (some ⟨b, i0 + 1 * 6, none⟩) (l.drop 1).length (cp - 1)) := by
    intro G
    have hG := hA.app G
    have hc := hG.cap
    rw [List.length_map] at hc
    obtain ⟨B, hB1, hB2, _⟩ := hG.blk
    have := aSlice_at (tt := tt) (H := H ++ G) (t := 52) (s := 6) (b := b) (i := i0) (n := l.length) (c := cp) (l := 1) (h := l.length) (lo := some (.int .i64 1)) (hi := none) tt52 rfl ⟨B, hB1, hB2⟩ (by decide) hc rfl rfl (by omega) (Nat.le_refl _)
    rw [List.length_drop]
    exact this
  have hD : ∀ G, RL (H ++ G) (.slice (some ⟨b, i0 + 1 * 6, none⟩) (l.drop 1).length (cp - 1)) (l.drop 1) := by
    intro G
    have := (hA.app G).dropR 1 (by omega)
    exact .inr ⟨_, _, _, by rw [List.length_map], this⟩
  have hl0 : l.getD 0 rr0 = l[0]'(List.length_pos_iff.2 h0) := getD_eq _
  have o2 := fun (G : Heap) (hG : (H ++ G)[H.length]? = some ⟨[.slice (some ⟨b, i0, none⟩) l.length cp], 1, true⟩) => containsFuncP (H ++ G) (g := 135) (cap := #[.pointer (some ⟨H.length, 0, none⟩)]) (p := fun p => decide (pcmp p.rot (l.getD 0 rr0).rot ≤ 0)) (hD G) (by rw [List.length_drop]; omega) (fun x hx => by
    have := check1P (H ++ G) (x := x) hG (El.app hv G) h0 hl (hle x (List.mem_of_mem_drop hx)) hle hk
    rw [hl0]
    exact this)
  have hlow : ((l.drop 1).any fun p => decide (pcmp p.rot (l.getD 0 rr0).rot ≤ 0)) = lowB l := rfl
  simp only [hlow] at o2
  have o2' := o2 [⟨[.slice (some ⟨b, i0, none⟩) l.length cp], 1, true⟩, ⟨[.int .i64 0], 1, true⟩] (by simp)
  clear o2
  have sl1' := sl1
  cases hlb : lowB l
  case true =>
    rw [hlb] at o2'
    rw [if_pos rfl]
    refine sim_exR tok mixed Tryz.func81 ?_
    simp -implicitDefEqProofs only [go_sem, simprocAttr, wr_seq, wr_block, wr_region, wr_scope, wr_label, wr_skip, wr_exit, wr_ret, wr_cond, axCR_t, axCR_f, e1, c3, c4, h1, h2]
    refine kv (o1 _) ?_
    simp -implicitDefEqProofs only [go_sem, simprocAttr, wr_seq, wr_block, wr_region, wr_scope, wr_label, wr_skip, wr_exit, wr_ret, wr_cond, axCR_t, axCR_f, sl1]
    refine kv o2' ?_
    simp -implicitDefEqProofs only [go_sem, simprocAttr, wr_seq, wr_block, wr_region, wr_scope, wr_label, wr_skip, wr_exit, wr_ret, wr_cond, axCR_t, axCR_f, res81]
    exact .app _ _
  rw [hlb] at o2'
  rw [if_neg (by decide)]
  obtain ⟨T0, hT0⟩ : ∃ T0, T0 = H ++ [(⟨[.slice (some ⟨b, i0, none⟩) l.length cp], 1, true⟩ : Blk), ⟨[.int .i64 0], 1, true⟩] := ⟨_, rfl⟩
  have hT0l : T0.length = H.length + 2 := by rw [hT0]; simp
  have oe := edgesS T0 (some ⟨b, i0, none⟩) l.length cp
  obtain ⟨j, j1, j2, j3, j4⟩ := first_off l
  let Inv : Nat → Heap → Prop := fun _ T => ∃ G, T = H ++ ([(⟨[.slice (some ⟨b, i0, none⟩) l.length cp], 1, true⟩ : Blk), ⟨[.int .i64 0], 1, true⟩, ⟨[.slice (some ⟨b, i0, none⟩) l.length cp], 1, true⟩] ++ G)
  have hbox : ∀ i T, Inv i T → T[H.length + 2]? = some ⟨[.slice (some ⟨b, i0, none⟩) l.length cp], 1, true⟩ ∧ RL T (.slice (some ⟨b, i0, none⟩) l.length cp) l := by
    rintro i T ⟨G, rfl⟩
    exact ⟨by simp, El.app hv _⟩
  have happ : ∀ i T B, Inv i T → Inv i (T ++ [B]) := by
    rintro i T B ⟨G, rfl⟩
    exact ⟨G ++ [B], by simp⟩
  have o4 := fun (T : Heap) (i : Nat) (hi : i < l.length) (hT : Inv 0 T) => containsFuncP (T ++ [⟨l[i].cells, 1, true⟩, ⟨(l[nextR l i]'(nextR_lt h0 i)).cells, 1, true⟩]) (g := 138) (cap := #[.pointer (some ⟨T.length, 0, none⟩), .pointer (some ⟨T.length + 1, 0, none⟩)]) (p := offE l[i] (l[nextR l i]'(nextR_lt h0 i))) (v := .slice (some ⟨b, i0, none⟩) l.length cp) (El.app (hbox 0 T hT).2 _) (by omega) (fun x hx => by
    exact check2P _ (by simp) (by simp) (hle _ (List.getElem_mem _)) (hle _ (List.getElem_mem _)) (hle x hx) hk)
  have e4 : ∀ i (hi : i < l.length), (l.any (offE l[i] (l[nextR l i]'(nextR_lt h0 i)))) = offI l i := by
    intro i hi
    unfold offI
    rw [getD_eq hi, getD_eq (nextR_lt h0 i)]
  simp only [e4] at o4
  have hap2 : ∀ T (A B : Blk), Inv 0 T → Inv 0 (T ++ [A, B]) := by
    rintro T A B ⟨G, rfl⟩
    exact ⟨G ++ [A, B], by simp⟩
  have rb : ∀ T, Inv 0 T → ∀ B, rd (T ++ B) H.length 0 1 = some [.slice (some ⟨b, i0, none⟩) l.length cp] := by
    rintro T ⟨G, rfl⟩ B
    refine rd_more ?_ B
    unfold rd
    simp
  clear sl1 hD hl0 hlow hlb
  refine sim_exR tok mixed Tryz.func81 ?_
  simp -implicitDefEqProofs only [go_sem, simprocAttr, wr_seq, wr_block, wr_region, wr_scope, wr_label, wr_skip, wr_exit, wr_ret, wr_cond, axCR_t, axCR_f, e1, c3, c4, h1, h2]
  refine kv (o1 _) ?_
  simp -implicitDefEqProofs only [go_sem, simprocAttr, wr_seq, wr_block, wr_region, wr_scope, wr_label, wr_skip, wr_exit, wr_ret, wr_cond, axCR_t, axCR_f, sl1']
  refine kv o2' ?_
  simp -implicitDefEqProofs only [go_sem, simprocAttr, wr_seq, wr_block, wr_region, wr_scope, wr_label, wr_skip, wr_exit, wr_ret, wr_cond, axCR_t, axCR_f]
  subst hT0
  simp only [List.length_append, List.length_cons, List.length_nil, Nat.reduceAdd, Nat.zero_add, List.append_assoc, List.cons_append, List.nil_append] at oe
  refine kl oe ?_
  simp -implicitDefEqProofs only [go_sem, simprocAttr, wr_seq, wr_block, wr_region, wr_scope, wr_label, wr_skip, wr_exit, wr_ret, wr_cond, axCR_t, axCR_f]
  have hI0 : Inv 0 (H ++ [(⟨[.slice (some ⟨b, i0, none⟩) l.length cp], 1, true⟩ : Blk), ⟨[.int .i64 0], 1, true⟩, ⟨[.slice (some ⟨b, i0, none⟩) l.length cp], 1, true⟩]) := ⟨[], rfl⟩
  cases hoff : offA l
  case false =>
    have hjl : j = l.length := by
      refine Classical.byContradiction fun hn => ?_
      have := j4.2 (by omega)
      rw [hoff] at this; cases this
    refine axR_range (Inv 0) (by simp -implicitDefEqProofs only [go_sem, simprocAttr]; rfl) ?_ ?_
    · refine edgesY j j1 Inv h0 hl hI0 hbox happ ?_ (fun T hi => absurd hi (by omega)) (fun T _ h => h) (by rw [decide_eq_true hjl])
      intro i T hi hij hT
      refine yr_ex rfl ?_
      have o5 := o4 T i hi hT
      rw [j2 i hij] at o5
      have rb5 := rb T hT
      generalize l[nextR l i]'(nextR_lt h0 i) = z at o5 ⊢
      generalize l[i] = x at o5 ⊢
      unfold RR.cells at o5
      unfold RR.val rV
      simp -implicitDefEqProofs only [go_sem, simprocAttr, putPs_two, rb5]
      refine kv o5 ?_
      simp -implicitDefEqProofs only [go_sem, simprocAttr, wa_cond, axC_t, axC_f]
      exact hap2 _ _ _ hT
    · rintro T ⟨G, rfl⟩
      simp -implicitDefEqProofs only [go_sem, simprocAttr, wr_seq, wr_block, wr_region, wr_scope, wr_label, wr_skip, wr_exit, wr_ret, wr_cond, axCR_t, axCR_f, res81]
      exact .app _ _
  case true =>
    have hjl := j4.1 hoff
    refine axR_left .ret (fun T => ∃ G, T = H ++ ([(⟨[.slice (some ⟨b, i0, none⟩) l.length cp], 1, true⟩ : Blk), ⟨[.int .i64 15], 1, true⟩, ⟨[.slice (some ⟨b, i0, none⟩) l.length cp], 1, true⟩] ++ G)) (by simp -implicitDefEqProofs only [go_sem, simprocAttr]; rfl) (by decide) ?_ ?_
    · refine edgesY j j1 Inv h0 hl hI0 hbox happ ?_ ?_ (fun T h => absurd h (by omega)) (by rw [decide_eq_false (by omega)])
      · intro i T hi hij hT
        refine yr_ex rfl ?_
        have o5 := o4 T i hi hT
        rw [j2 i hij] at o5
        have rb5 := rb T hT
        generalize l[nextR l i]'(nextR_lt h0 i) = z at o5 ⊢
        generalize l[i] = x at o5 ⊢
        unfold RR.cells at o5
        unfold RR.val rV
        simp -implicitDefEqProofs only [go_sem, simprocAttr, putPs_two, rb5]
        refine kv o5 ?_
        simp -implicitDefEqProofs only [go_sem, simprocAttr, wa_cond, axC_t, axC_f]
        exact hap2 _ _ _ hT
      · intro T hi hT
        have o5 := o4 T j hi hT
        rw [j3 hi] at o5
        have rb5 := rb T hT
        generalize l[nextR l j]'(nextR_lt h0 j) = z at o5 ⊢
        generalize l[j] = x at o5 ⊢
        have hw : wr (T ++ [(⟨x.cells, 1, true⟩ : Blk), ⟨z.cells, 1, true⟩]) (H.length + 1) 0 [.int .i64 15] = some ((T ++ [(⟨x.cells, 1, true⟩ : Blk), ⟨z.cells, 1, true⟩]).set (H.length + 1) ⟨[.int .i64 15], 1, true⟩) := by
          refine wr_cell (w := .int .i64 0) ?_ rfl
          obtain ⟨G, rfl⟩ := hT
          simp
        refine zr_ex .ret (by intro h; cases h) rfl ?_
        unfold RR.cells at o5 hw
        unfold RR.val rV
        simp -implicitDefEqProofs only [go_sem, simprocAttr, putPs_two, rb5]
        refine kv o5 ?_
        simp -implicitDefEqProofs only [go_sem, simprocAttr, wa_cond, axC_t, axC_f, hw]
        obtain ⟨G, rfl⟩ := hT
        exact ⟨by simp, G ++ [(⟨[.bool x.g, .string (bs x.n), .string (bs x.d), .bool x.g', .string (bs x.n'), .string (bs x.d')], 1, true⟩ : Blk), ⟨[.bool z.g, .string (bs z.n), .string (bs z.d), .bool z.g', .string (bs z.n'), .string (bs z.d')], 1, true⟩], by simp⟩
    · rintro T ⟨G, rfl⟩
      simp -implicitDefEqProofs only [go_sem, simprocAttr, wr_seq, wr_block, wr_region, wr_scope, wr_label, wr_skip, wr_exit, wr_ret, wr_cond, axCR_t, axCR_f, res81]
      exact .app _ _
end Go.Proofs.YthhmkaikopdmjaaGreat
namespace Go.Proofs.YthhmkaikopdmjaaGreat
open Go Go.Fw
def turnB (a b : Rot) : Bool := decide (0 < cmpQ (a.back.thn b).c 0) && decide (0 ≤ cmpQ (a.back.thn b).s 0)
theorem turnP (H : Heap) {a b : RR} {k : Nat} (ha : a.le k) (hb : b.le k) (hk : k ≤ 10000) (ea : a.err = 0) (eb : b.err = 0) : Sim Tryz.prog 132 #[a.val, b.val] H (.bool (turnB a.rot b.rot)) H := by
  refine flat_ex rfl ?_
  have o1 := fun H => BackR H ha (by omega) ea
  have lb : (RR.of a.rot.back).le (k + 8) := ha.sz.back.le
  have eb' : (RR.of a.rot.back).err = 0 := by rw [RR.err_of, if_pos (Rot.back_ok (RR.err_zero.1 ea).2)]
  have o2 := fun H => ThenR H lb (hb.mono (show k ≤ k + 8 by omega)) (by omega)
  simp only [eb', eb, ne_eq, not_true_eq_false, or_self, if_false] at o2
  rw [RR.of_rot] at o2
  have zd : (a.rot.back.thn b.rot).Sz (4 * k + 5) := (ha.sz.back.thn hb.sz).mono (by omega)
  have o3 := fun H => signQ H zd.c.qv (by omega)
  have o4 := fun H => signQ H zd.s.qv (by omega)
  unfold turnB
  clear zd lb eb'
  generalize a.rot.back = ab at *
  generalize ab.thn b.rot = d at *
  simp only [RR.of_val] at o1 o2
  generalize d.c = x at *
  generalize d.s = y at *
  unfold mkR rV at o1 o2
  unfold mkQ qV at o3 o4
  generalize cmpQ x 0 = z1 at *
  generalize cmpQ y 0 = z2 at *
  unfold RR.val rV at o1 o2 ⊢
  by_cases h : 0 < z1
  · rw [decide_eq_true h]
    refine sxA tok mixed Tryz.func132 ?_
    simp -implicitDefEqProofs only [go_sem, simprocAttr, UU]
    refine kw (o1 _) ?_
    refine kw (o2 _) ?_
    refine kv (o3 _) ?_
    simp -implicitDefEqProofs only [go_sem, simprocAttr, UU, h]
    refine kv (o4 _) ?_
    simp -implicitDefEqProofs only [go_sem, simprocAttr, UU, Bool.true_and]
    simp -implicitDefEqProofs only [go_sem, simprocAttr, UU, res132]
    first | exact .app _ _ | exact ⟨.app _ _, rfl⟩ | exact .refl _ | exact ⟨.refl _, rfl⟩
  · rw [decide_eq_false h]
    refine sxA tok mixed Tryz.func132 ?_
    simp -implicitDefEqProofs only [go_sem, simprocAttr, UU]
    refine kw (o1 _) ?_
    refine kw (o2 _) ?_
    refine kv (o3 _) ?_
    simp -implicitDefEqProofs only [go_sem, simprocAttr, UU, h]
    simp -implicitDefEqProofs only [go_sem, simprocAttr, UU, res132, Bool.false_and]
    first | exact .app _ _ | exact ⟨.app _ _, rfl⟩ | exact .refl _ | exact ⟨.refl _, rfl⟩
def chkT (s : Bool) (a b : RR) : Int := if s = false ∨ a.err ≠ 0 ∨ b.err ≠ 0 then 1 else if turnB a.rot b.rot = true then 0 else 2
theorem sweptCheck (H : Heap) {s : Bool} {a b : RR} {k : Nat} (ha : a.le k) (hb : b.le k) (hk : k ≤ 10000) : Sim Tryz.prog 80 #[.bool s, a.val, b.val] H (.int .i64 (chkT s a b)) H := by
  refine flat_ex rfl ?_
  have o1 := fun H => checkR H ha (by omega)
  have o2 := fun H => checkR H hb (by omega)
  unfold chkT
  cases s
  · rw [if_pos (.inl rfl)]
    unfold RR.val rV at *
    refine sxA tok mixed Tryz.func80 ?_
    simp -implicitDefEqProofs only [go_sem, simprocAttr, UU, wa_cond, axC_t, axC_f]
    simp -implicitDefEqProofs only [go_sem, simprocAttr, UU, res80]
    first | exact .app _ _ | exact ⟨.app _ _, rfl⟩ | exact .refl _ | exact ⟨.refl _, rfl⟩
  by_cases e1 : a.err = 0
  case neg =>
    rw [if_pos (.inr (.inl e1))]
    generalize a.err = z at *
    unfold RR.val rV at *
    refine sxA tok mixed Tryz.func80 ?_
    simp -implicitDefEqProofs only [go_sem, simprocAttr, UU, wa_cond, axC_t, axC_f]
    refine kv (o1 _) ?_
    simp -implicitDefEqProofs only [go_sem, simprocAttr, UU, e1, wa_cond, axC_t, axC_f]
    simp -implicitDefEqProofs only [go_sem, simprocAttr, UU, res80]
    first | exact .app _ _ | exact ⟨.app _ _, rfl⟩ | exact .refl _ | exact ⟨.refl _, rfl⟩
  by_cases e2 : b.err = 0
  case neg =>
    rw [if_pos (.inr (.inr e2))]
    rw [e1] at o1
    generalize b.err = z at *
    unfold RR.val rV at *
    refine sxA tok mixed Tryz.func80 ?_
    simp -implicitDefEqProofs only [go_sem, simprocAttr, UU, wa_cond, axC_t, axC_f]
    refine kv (o1 _) ?_
    simp -implicitDefEqProofs only [go_sem, simprocAttr, UU, wa_cond, axC_t, axC_f]
    refine kv (o2 _) ?_
    simp -implicitDefEqProofs only [go_sem, simprocAttr, UU, e2, wa_cond, axC_t, axC_f]
    simp -implicitDefEqProofs only [go_sem, simprocAttr, UU, res80]
    first | exact .app _ _ | exact ⟨.app _ _, rfl⟩ | exact .refl _ | exact ⟨.refl _, rfl⟩
  rw [if_neg (by simp [e1, e2])]
  have o3 := fun H => turnP H ha hb hk e1 e2
  rw [e1] at o1
  rw [e2] at o2
  generalize turnB a.rot b.rot = z at *
  unfold RR.val rV at *
  cases z
  · refine sxA tok mixed Tryz.func80 ?_
    simp -implicitDefEqProofs only [go_sem, simprocAttr, UU, wa_cond, axC_t, axC_f]
    refine kv (o1 _) ?_
    simp -implicitDefEqProofs only [go_sem, simprocAttr, UU, wa_cond, axC_t, axC_f]
    refine kv (o2 _) ?_
    simp -implicitDefEqProofs only [go_sem, simprocAttr, UU, wa_cond, axC_t, axC_f]
    refine kv (o3 _) ?_
    simp -implicitDefEqProofs only [go_sem, simprocAttr, UU, wa_cond, axC_t, axC_f]
    simp -implicitDefEqProofs only [go_sem, simprocAttr, UU, res80]
    first | exact .app _ _ | exact ⟨.app _ _, rfl⟩ | exact .refl _ | exact ⟨.refl _, rfl⟩
  · refine sxA tok mixed Tryz.func80 ?_
    simp -implicitDefEqProofs only [go_sem, simprocAttr, UU, wa_cond, axC_t, axC_f]
    refine kv (o1 _) ?_
    simp -implicitDefEqProofs only [go_sem, simprocAttr, UU, wa_cond, axC_t, axC_f]
    refine kv (o2 _) ?_
    simp -implicitDefEqProofs only [go_sem, simprocAttr, UU, wa_cond, axC_t, axC_f]
    refine kv (o3 _) ?_
    simp -implicitDefEqProofs only [go_sem, simprocAttr, UU, wa_cond, axC_t, axC_f]
    simp -implicitDefEqProofs only [go_sem, simprocAttr, UU, res80]
    first | exact .app _ _ | exact ⟨.app _ _, rfl⟩ | exact .refl _ | exact ⟨.refl _, rfl⟩
end Go.Proofs.YthhmkaikopdmjaaGreat
namespace Go.Proofs.YthhmkaikopdmjaaGreat
open Go Go.Fw
def Top (T : Heap) (b : Nat) (C : List RR) : Prop := ∃ M, OwnR T b (C ++ M)
theorem OwnR.top {T : Heap} {b : Nat} {C : List RR} (h : OwnR T b C) : Top T b C := ⟨[], by rw [List.append_nil]; exact h⟩
theorem Top.cut {T : Heap} {b : Nat} {C M : List RR} (h : Top T b (C ++ M)) : Top T b C := by
  obtain ⟨M', h⟩ := h
  exact ⟨M ++ M', by rw [← List.append_assoc]; exact h⟩
theorem Top.app {T : Heap} {b : Nat} {C : List RR} (h : Top T b C) (G : Heap) : Top (T ++ G) b C := by
  obtain ⟨M, h⟩ := h
  exact ⟨M, Own.app h G⟩
theorem Top.lt {T : Heap} {b : Nat} {C : List RR} (h : Top T b C) : b < T.length := by obtain ⟨M, h⟩ := h; exact Own.lt h
theorem Top.other {T : Heap} {b b' : Nat} {C : List RR} (h : Top T b C) (hb : b' ≠ b) (B : Blk) : Top (T.set b' B) b C := by
  obtain ⟨M, h⟩ := h
  exact ⟨M, Own.other h hb B⟩
theorem Top.at {T : Heap} {b : Nat} {C : List RR} (h : Top T b C) : ElAt 6 T b 0 0 (C.map RR.cells) := by
  obtain ⟨M, h⟩ := h
  refine ⟨.inl rfl, by decide, RR.cells_all C, ⟨_, h.blk, rfl, ?_, ?_⟩, RR.cells_ok C⟩
  · have := rowF_len (C ++ M)
    unfold rowF at this
    rw [this]; simp; omega
  · have := rowF_take (C ++ M) C.length (by simp)
    unfold rowF at this
    rw [List.take_left] at this
    rw [← this, List.length_map, List.drop_zero, Nat.mul_comm]
theorem Top.rl {T : Heap} {b : Nat} {C : List RR} (h : Top T b C) : RL T (.slice (some ⟨b, 0, none⟩) C.length 0) C := .inr ⟨_, _, _, by rw [List.length_map], h.at⟩
theorem append_T {T : Heap} {b : Nat} {l m : List RR} {bx ix cx : Nat} (h : Top T b l) (hx : ElAt 6 T bx ix cx (m.map RR.cells)) (h0 : m ≠ []) (hl : l.length + m.length ≤ 100000) :
    aAppend tt T [52, 52] (.slice (some ⟨b, 0, none⟩) l.length 0) (.slice (some ⟨bx, ix, none⟩) m.length cx) = some (.slice (some ⟨T.length, 0, none⟩) (l.length + m.length) 0, T.set b deadBlk ++ [⟨((l ++ m).map RR.cells).flatten, 6, true⟩]) := by
  have hold := h.at.rdAll
  have hnew := hx.rdAll
  have hm : 0 < m.length := List.length_pos_iff.2 h0
  have hlen := flatten_len hx.all
  obtain ⟨M, hM⟩ := h
  have hd : (((l ++ M).map RR.cells).flatten.drop (0 + l.length * 6)).all plain = true := by
    have e : ((l ++ M).map RR.cells).flatten = rowF (l ++ M) := rfl
    rw [e, Nat.zero_add, rowF_drop _ _ (by simp), List.drop_left]
    unfold rowF
    rw [List.all_eq_true]
    intro x hx
    obtain ⟨y, hy, hxy⟩ := List.mem_flatten.1 hx
    obtain ⟨r, _, rfl⟩ := List.mem_map.1 hy
    unfold RR.cells at hxy
    simp only [List.mem_cons, List.not_mem_nil, or_false] at hxy
    rcases hxy with rfl | rfl | rfl | rfl | rfl | rfl <;> rfl
  simp only [List.length_map] at hold hnew hlen
  unfold aAppend
  simp only [tt52, tt90, srcLen, srcKind, srcCells, hnew, hold, hM.blk]
  rw [if_pos ⟨by decide, trivial, by decide, by decide, fun _ => rfl⟩, if_pos ⟨by rw [hlen, Nat.mul_comm], hx.cell⟩, if_neg (by omega), if_pos (by omega), if_neg (by simp), hd]
  simp
theorem append_TP {T : Heap} {b : Nat} {l : List RR} (r : RR) (h : Top T b l) (hl : l.length ≤ 10000) :
    ∃ T', aAppend tt (T ++ [⟨r.cells, 6, true⟩]) [52, 52] (.slice (some ⟨b, 0, none⟩) l.length 0) (.slice (some ⟨T.length, 0, none⟩) 1 1) = some (.slice (some ⟨T.length + 1, 0, none⟩) (l.length + 1) 0, T') ∧ OwnR T' (T.length + 1) (l ++ [r]) ∧ T' = (T ++ [(⟨r.cells, 6, true⟩ : Blk)]).set b deadBlk ++ [⟨((l ++ [r]).map RR.cells).flatten, 6, true⟩] := by
  have := append_T (m := [r]) (h.app [⟨r.cells, 6, true⟩]) (row1_at T r) (by simp) (by simp; omega)
  simp only [List.length_cons, List.length_nil, List.length_append, Nat.zero_add] at this
  refine ⟨_, this, ?_, rfl⟩
  have h2 := OwnR.new ((T ++ [(⟨r.cells, 6, true⟩ : Blk)]).set b deadBlk) (l ++ [r])
  simp only [List.length_set, List.length_append, List.length_cons, List.length_nil, Nat.zero_add] at h2
  exact h2
def Itr (g : FuncId) (cap : Array Value) (ps : List RR) (Keep : Heap → Prop) : Prop :=
  ∀ (Y : Array Value → Heap → Heap → Prop) (Inv : Nat → Heap → Prop) (H : Heap), Inv 0 H → (∀ i T, Inv i T → Keep T) → (∀ i T G, Inv i T → Inv i (T ++ G)) → (∀ i T (hi : i < ps.length), Inv i T → ∃ T', Y #[ps[i].val] T T' ∧ Inv (i + 1) T') →
    ∃ H1, SimY Tryz.prog g Y cap H H1 ∧ Inv ps.length H1
def KeepL (b0 : Nat) (v : Value) (l : List RR) (T : Heap) : Prop := T[b0]? = some ⟨[v], 1, true⟩ ∧ RL T v l
theorem valuesS (H : Heap) (x : Option Addr) (n c : Nat) : Sim Tryz.prog 260 #[.slice x n c] H (.func (.func 274) #[] #[.pointer (some ⟨H.length, 0, none⟩)]) (H ++ [⟨[.slice x n c], 1, true⟩]) := by
  refine soA tok mixed Tryz.func260 ?_
  simp -implicitDefEqProofs only [go_sem, simprocAttr, res260]
theorem forwardsS (H : Heap) (x : Option Addr) (n c : Nat) : Sim Tryz.prog 214 #[.slice x n c] H (.func (.func 274) #[] #[.pointer (some ⟨H.length, 0, none⟩)]) (H ++ [⟨[.slice x n c], 1, true⟩]) := by
  have o1 := valuesS H x n c
  refine soA tok mixed Tryz.func214 ?_
  simp -implicitDefEqProofs only [go_sem, simprocAttr]
  refine kl o1 ?_
  simp -implicitDefEqProofs only [go_sem, simprocAttr, res214]
theorem backwardsS (H : Heap) (x : Option Addr) (n c : Nat) : Sim Tryz.prog 215 #[.slice x n c] H (.func (.func 261) #[] #[.pointer (some ⟨H.length, 0, none⟩)]) (H ++ [⟨[.slice x n c], 1, true⟩]) := by
  refine soA tok mixed Tryz.func215 ?_
  simp -implicitDefEqProofs only [go_sem, simprocAttr, res215]
theorem chain_ex2 {Inv : Nat → Heap → Prop} {Y : Nat → Heap → Heap → Prop} {n : Nat} {H : Heap} (add : Nat → Heap) (h0 : Inv 0 H) (happ : ∀ i T B, Inv i T → Inv i (T ++ B)) (hY : ∀ i T, i < n → Inv i T → ∃ T', Y i T T' ∧ Inv (i + 1) T') :
    ∃ G : Nat → Heap, G 0 = H ∧ (∀ i, i ≤ n → Inv i (G i)) ∧ ∀ i, i < n → Y i (G i ++ add i) (G (i + 1)) := by
  obtain ⟨nxt, hn⟩ : ∃ nxt : Nat → Heap → Heap, ∀ i T, i < n → Inv i T → Y i T (nxt i T) ∧ Inv (i + 1) (nxt i T) := by
    refine ⟨fun i T => Classical.epsilon fun T' => Y i T T' ∧ Inv (i + 1) T', fun i T hi h => ?_⟩
    exact Classical.epsilon_spec (p := fun T' => Y i T T' ∧ Inv (i + 1) T') (hY i T hi h)
  let G : Nat → Heap := fun i => Nat.rec H (fun i T => nxt i (T ++ add i)) i
  have hinv : ∀ i, i ≤ n → Inv i (G i) := by
    intro i
    induction i with
    | zero => intro _; exact h0
    | succ i ih => intro hi; exact (hn i _ (by omega) (happ i _ _ (ih (by omega)))).2
  exact ⟨G, rfl, hinv, fun i hi => (hn i _ hi (happ i _ _ (hinv i (by omega)))).1⟩
theorem KeepL.box {b0 : Nat} {b i0 n c : Nat} {l : List RR} {T : Heap} (h : KeepL b0 (.slice (some ⟨b, i0, none⟩) n c) l T) (B : Heap) : rd (T ++ B) b0 0 1 = some [.slice (some ⟨b, i0, none⟩) n c] := rd_more (rd_cell h.1) B
theorem KeepL.row {b0 : Nat} {b i0 c : Nat} {l : List RR} {T : Heap} (h1 : l ≠ []) (h : KeepL b0 (.slice (some ⟨b, i0, none⟩) l.length c) l T) : ElAt 6 T b i0 c (l.map RR.cells) := by
  obtain ⟨b', i', c', e, h⟩ := h.2.at h1
  injection e with e1 e2 e3
  injection e1 with e1
  injection e1 with e4 e5
  subst e4 e5 e3
  exact h
theorem valuesI {b0 : Nat} {v : Value} {l : List RR} (h1 : l ≠ []) (hl : l.length ≤ 100000) : Itr 274 #[.pointer (some ⟨b0, 0, none⟩)] l (KeepL b0 v l) := by
  intro Y Inv H h0 hkeep happ hY
  obtain ⟨G, g0, g1, g2⟩ := chain_ex2 (Inv := Inv) (n := l.length) (H := H) (Y := fun i T T' => ∀ hi : i < l.length, Y #[l[i].val] T T') (fun i => [⟨(l.getD i rr0).cells, 1, true⟩]) h0 happ
    (fun i T hi h => by obtain ⟨T', a, b⟩ := hY i T hi h; exact ⟨T', fun _ => a, b⟩)
  refine ⟨G l.length, ?_, g1 _ (Nat.le_refl _)⟩
  refine simY_of_ax tok mixed Tryz.func274 rfl (by kernel_rfl) (by kernel_rfl) (by simp only [Tryz.ntmps274, List.size_toArray, List.length_cons, List.length_nil]; omega) ?_
  intro y
  obtain ⟨b, i0, c, rfl, hA0⟩ := (hkeep 0 H h0).2.at h1
  have box0 := fun i hi => by simpa using (hkeep i (G i) (g1 i hi)).box []
  have e1 : aLen tt [52] (.slice (some ⟨b, i0, none⟩) l.length c) = some (.int .i64 (l.length : Nat)) := rfl
  rw [← g0]
  have bx0 := box0 0 (by omega)
  have eini : (#[Value.func (Fn.yield y) #[] #[]] ++ #[Value.pointer (some ⟨b0, 0, none⟩)] : Array Value) = #[.func (.yield y) #[] #[], .pointer (some ⟨b0, 0, none⟩)] := rfl
  rw [eini]
  simp -implicitDefEqProofs only [go_sem, simprocAttr, bx0, e1]
  refine ax_loopx (fun (i : Nat) s T => s 0 = .func (.yield y) #[] #[] ∧ s 1 = .pointer (some ⟨b0, 0, none⟩) ∧ s 5 = .slice (some ⟨b, i0, none⟩) l.length c ∧ s 6 = .int .i64 (l.length : Nat) ∧ s 7 = .int .i64 (i : Nat) ∧ i ≤ l.length ∧ T = G i) (fun i => l.length - i) 0 ?_ ?_
  · simp -implicitDefEqProofs only [go_sem, simprocAttr]
  rintro i s T ⟨s0, s1, s5, s6, s7, hi, rfl⟩
  simp -implicitDefEqProofs only [go_sem, simprocAttr, s6, s7]
  refine ax_cond2 ?_
  simp only [ev_tmp, ev_const, ev_func, upd_at, put_some, put_none, bndB_bool, Nat.reduceEqDiff, if_true, if_false, ↓reduceIte, reduceCtorEq]
  refine ⟨fun hc0 => have hlt := of_decide_eq_true hc0; ?_, fun hc0 => have hlt := of_decide_eq_false hc0; ?_⟩
  · have hil : i < l.length := by omega
    have hr := ((hkeep i (G i) (g1 i hi)).row h1).rdR hil
    have hy := g2 i hil hil
    have hgd : l.getD i rr0 = l[i] := getD_eq hil
    rw [hgd] at hy
    have m1 : IntKind.i64.wrap ((i : Int) + 1) = ((i + 1 : Nat) : Int) := by rw [w64 (by omega) (by omega)]; rfl
    have hnn : (0 : Int) ≤ (i : Int) := by omega
    have hlt2 : (i : Int) < (l.length : Int) := by omega
    generalize l[i] = x at hr hy
    unfold RR.cells at hr hy
    unfold RR.val rV at hy
    simp -implicitDefEqProofs only [go_sem, simprocAttr, s0, s1, s5, s7, aIndexAddr, hnn, hlt2, hr]
    refine wl_yield y _ (by simp -implicitDefEqProofs only [go_sem, simprocAttr, s0]) (by simp -implicitDefEqProofs only [go_sem, simprocAttr]) ⟨rfl, rfl, hy⟩ ?_
    simp -implicitDefEqProofs only [go_sem, simprocAttr, wa_cond, axC_t, axC_f, s0, s1, s5, s6, s7, m1]
    exact ⟨i + 1, ⟨rfl, by omega, rfl⟩, by omega⟩
  · have : i = l.length := by omega
    subst this
    simp -implicitDefEqProofs only [go_sem, simprocAttr]
    exact ⟨[], rfl, rfl⟩
end Go.Proofs.YthhmkaikopdmjaaGreat
namespace Go.Proofs.YthhmkaikopdmjaaGreat
open Go Go.Fw
theorem backwardsI {b0 : Nat} {v : Value} {l : List RR} (h1 : l ≠ []) (hl : l.length ≤ 100000) : Itr 261 #[.pointer (some ⟨b0, 0, none⟩)] l.reverse (KeepL b0 v l) := by
  intro Y Inv H h0 hkeep happ hY
  rw [List.length_reverse]
  obtain ⟨G, g0, g1, g2⟩ := chain_ex2 (Inv := Inv) (n := l.length) (H := H) (Y := fun i T T' => ∀ hi : i < l.length, Y #[(l[l.length - 1 - i]'(by omega)).val] T T') (fun i => []) h0 happ
    (fun i T hi h => by
      obtain ⟨T', a, b⟩ := hY i T (by rw [List.length_reverse]; exact hi) h
      refine ⟨T', fun _ => ?_, b⟩
      rw [List.getElem_reverse] at a
      exact a)
  refine ⟨G l.length, ?_, g1 _ (Nat.le_refl _)⟩
  refine simY_of_ax tok mixed Tryz.func261 rfl (by kernel_rfl) (by kernel_rfl) (by simp only [Tryz.ntmps261, List.size_toArray, List.length_cons, List.length_nil]; omega) ?_
  intro y
  obtain ⟨b, i0, c, rfl, hA0⟩ := (hkeep 0 H h0).2.at h1
  have box0 := fun i hi => by simpa using (hkeep i (G i) (g1 i hi)).box []
  have e1 : aLen tt [52] (.slice (some ⟨b, i0, none⟩) l.length c) = some (.int .i64 (l.length : Nat)) := rfl
  rw [← g0]
  have bx0 := box0 0 (by omega)
  have eini : (#[Value.func (Fn.yield y) #[] #[]] ++ #[Value.pointer (some ⟨b0, 0, none⟩)] : Array Value) = #[.func (.yield y) #[] #[], .pointer (some ⟨b0, 0, none⟩)] := rfl
  rw [eini]
  have m0 : IntKind.i64.wrap ((l.length : Int) - 1) = (l.length : Int) - 1 := w64 (by omega) (by omega)
  simp -implicitDefEqProofs only [go_sem, simprocAttr, bx0, e1, m0]
  refine ax_loopx (fun (i : Nat) s T => s 0 = .func (.yield y) #[] #[] ∧ s 1 = .pointer (some ⟨b0, 0, none⟩) ∧ s 3 = .int .i64 ((l.length : Int) - 1 - i) ∧ i ≤ l.length ∧ T = G i) (fun i => l.length - i) 0 ?_ ?_
  · simp -implicitDefEqProofs only [go_sem, simprocAttr]
    simp
  rintro i s T ⟨s0, s1, s3, hi, rfl⟩
  simp -implicitDefEqProofs only [go_sem, simprocAttr, s3]
  refine ax_cond2 ?_
  simp only [ev_tmp, ev_const, ev_func, upd_at, put_some, put_none, bndB_bool, Nat.reduceEqDiff, if_true, if_false, ↓reduceIte, reduceCtorEq]
  refine ⟨fun hc0 => have hlt := of_decide_eq_true hc0; ?_, fun hc0 => have hlt := of_decide_eq_false hc0; ?_⟩
  · have hil : i < l.length := by omega
    have hr := ((hkeep i (G i) (g1 i hi)).row h1).rdR (j := l.length - 1 - i) (by omega)
    have hy := g2 i hil hil
    rw [List.append_nil] at hy
    have bxi := box0 i hi
    have m1 : IntKind.i64.wrap ((l.length : Int) - 1 - i - 1) = (l.length : Int) - 1 - ((i + 1 : Nat) : Int) := by rw [w64 (by omega) (by omega)]; omega
    have e2 : ((l.length : Int) - 1 - i) = ((l.length - 1 - i : Nat) : Int) := by omega
    have hnn : (0 : Int) ≤ ((l.length - 1 - i : Nat) : Int) := by omega
    have hlt2 : ((l.length - 1 - i : Nat) : Int) < (l.length : Int) := by omega
    rw [e2] at s3 m1
    generalize l[l.length - 1 - i]'(by omega) = x at hr hy
    generalize l.length - 1 - i = j at *
    unfold RR.cells at hr
    unfold RR.val rV at hy
    simp -implicitDefEqProofs only [go_sem, simprocAttr, s0, s1, s3, bxi, aIndexAddr, hnn, hlt2, hr]
    refine wl_yield y _ (by simp -implicitDefEqProofs only [go_sem, simprocAttr, s0]) (by simp -implicitDefEqProofs only [go_sem, simprocAttr]) ⟨rfl, rfl, hy⟩ ?_
    simp -implicitDefEqProofs only [go_sem, simprocAttr, wa_cond, axC_t, axC_f, s0, s1, s3, m1]
    exact ⟨i + 1, ⟨rfl, by omega, rfl⟩, by omega⟩
  · have : i = l.length := by omega
    subst this
    simp -implicitDefEqProofs only [go_sem, simprocAttr]
    exact ⟨[], rfl, rfl⟩
def sweptL (a b : Rot) (l : List RR) : List RR := l.flatMap fun p => [RR.of (a.thn p.rot), RR.of (b.thn p.rot), RR.of (corn a b p.rot)]
theorem sweptL_len (a b : Rot) (l : List RR) : (sweptL a b l).length = 3 * l.length := by
  induction l with
  | nil => rfl
  | cons p l ih => unfold sweptL at ih ⊢; simp only [List.flatMap_cons, List.length_append, ih, List.length_cons, List.length_nil]; omega
theorem sweptL_at (a b : Rot) : ∀ (l : List RR) (i : Nat) (hi : i < l.length), (sweptL a b l)[3 * i]'(by rw [sweptL_len]; omega) = RR.of (a.thn l[i].rot) ∧ (sweptL a b l)[3 * i + 1]'(by rw [sweptL_len]; omega) = RR.of (b.thn l[i].rot) ∧ (sweptL a b l)[3 * i + 2]'(by rw [sweptL_len]; omega) = RR.of (corn a b l[i].rot) := by
  intro l
  induction l with
  | nil => intro i hi; simp at hi
  | cons p l ih =>
    intro i hi
    cases i with
    | zero => exact ⟨rfl, rfl, rfl⟩
    | succ i =>
      have := ih i (by simpa using hi)
      unfold sweptL at this ⊢
      simp only [List.flatMap_cons, List.getElem_cons_succ]
      refine ⟨?_, ?_, ?_⟩
      · rw [List.getElem_append_right (by simp; omega)]; simp only [List.length_cons, List.length_nil]; exact this.1
      · rw [List.getElem_append_right (by simp; omega)]; simp only [List.length_cons, List.length_nil]; exact this.2.1
      · rw [List.getElem_append_right (by simp; omega)]; simp only [List.length_cons, List.length_nil]; exact this.2.2
end Go.Proofs.YthhmkaikopdmjaaGreat
namespace Go.Proofs.YthhmkaikopdmjaaGreat
open Go Go.Fw
theorem chain_ex3 {Inv : Nat → Heap → Prop} {YY : Nat → Heap → Heap → Prop} {n : Nat} {H : Heap} (h0 : Inv 0 H) (hY : ∀ i T, i < n → Inv i T → ∃ T', YY i T T' ∧ Inv (i + 1) T') :
    ∃ G : Nat → Heap, G 0 = H ∧ (∀ i, i ≤ n → Inv i (G i)) ∧ ∀ i, i < n → YY i (G i) (G (i + 1)) := by
  obtain ⟨nxt, hn⟩ : ∃ nxt : Nat → Heap → Heap, ∀ i T, i < n → Inv i T → YY i T (nxt i T) ∧ Inv (i + 1) (nxt i T) := by
    refine ⟨fun i T => Classical.epsilon fun T' => YY i T T' ∧ Inv (i + 1) T', fun i T hi h => ?_⟩
    exact Classical.epsilon_spec (p := fun T' => YY i T T' ∧ Inv (i + 1) T') (hY i T hi h)
  let G : Nat → Heap := fun i => Nat.rec H (fun i T => nxt i T) i
  have hinv : ∀ i, i ≤ n → Inv i (G i) := by
    intro i
    induction i with
    | zero => intro _; exact h0
    | succ i ih => intro hi; exact (hn i _ (by omega) (ih (by omega))).2
  exact ⟨G, rfl, hinv, fun i hi => (hn i _ hi (hinv i (by omega))).1⟩
theorem pointsS (H : Heap) {v : Value} {a b : RR} (hv : ∃ x n c, v = .slice x n c) : Sim Tryz.prog 140 #[v, a.val, b.val] H (.func (.func 203) #[] #[.pointer (some ⟨H.length, 0, none⟩), .pointer (some ⟨H.length + 1, 0, none⟩), .pointer (some ⟨H.length + 2, 0, none⟩)]) (H ++ [⟨[v], 1, true⟩, ⟨a.cells, 1, true⟩, ⟨b.cells, 1, true⟩]) := by
  obtain ⟨x, n, c, rfl⟩ := hv
  unfold RR.cells
  unfold RR.val rV
  refine soA tok mixed Tryz.func140 ?_
  simp -implicitDefEqProofs only [go_sem, simprocAttr, res140]
def add4 (a b p : RR) : Heap := [⟨p.cells, 1, true⟩, ⟨(RR.of (a.rot.thn p.rot)).cells, 1, true⟩, ⟨(RR.of (b.rot.thn p.rot)).cells, 1, true⟩, ⟨(RR.of (corn a.rot b.rot p.rot)).cells, 1, true⟩]
theorem pointsY {Y : Array Value → Heap → Heap → Prop} {l : List RR} {v : Value} {a b : RR} {k b0 b1 b2 : Nat} {H : Heap} (Inv : Nat → Heap → Prop) (Safe : Heap → Nat → Prop) (h1 : l ≠ []) (hl : l.length ≤ 100000) (h0 : Inv 0 H)
    (la : a.le k) (lb : b.le k) (lp : ∀ p ∈ l, p.le k) (hk : k ≤ 2000) (ea : a.err = 0) (eb : b.err = 0) (hh : (a.rot.back.thn b.rot).half ≠ 1)
    (hbox : ∀ i T, Inv i T → KeepL b0 v l T ∧ T[b1]? = some ⟨a.cells, 1, true⟩ ∧ T[b2]? = some ⟨b.cells, 1, true⟩) (happ : ∀ i T G, Inv i T → Inv i (T ++ G))
    (hs : ∀ i T G j, Inv i T → j < G.length → Safe (T ++ G) (T.length + j))
    (hY : ∀ i T (hi : i < (sweptL a.rot b.rot l).length), Inv i T → ∃ T', Y #[(sweptL a.rot b.rot l)[i].val] T T' ∧ Inv (i + 1) T' ∧ ∀ j, Safe T j → Safe T' j ∧ T'[j]? = T[j]?) :
    ∃ H1, SimY Tryz.prog 203 Y #[.pointer (some ⟨b0, 0, none⟩), .pointer (some ⟨b1, 0, none⟩), .pointer (some ⟨b2, 0, none⟩)] H H1 ∧ Inv (3 * l.length) H1 := by
  have hsl := sweptL_len a.rot b.rot l
  obtain ⟨G, g0, g1, g2⟩ := chain_ex3 (Inv := fun i => Inv (3 * i)) (n := l.length) (H := H)
    (YY := fun i T T' => ∀ hi : i < l.length, ∃ Ta Tb, Y #[(RR.of (a.rot.thn l[i].rot)).val] (T ++ add4 a b l[i]) Ta ∧ Y #[(RR.of (b.rot.thn l[i].rot)).val] Ta Tb ∧ Y #[(RR.of (corn a.rot b.rot l[i].rot)).val] Tb T' ∧
      rd Ta (T.length + 2) 0 6 = some (RR.of (b.rot.thn l[i].rot)).cells ∧ rd Tb (T.length + 3) 0 6 = some (RR.of (corn a.rot b.rot l[i].rot)).cells) h0 (by
    intro i T hi hT
    obtain ⟨p1, p2, p3⟩ := sweptL_at a.rot b.rot l i hi
    obtain ⟨Ta, a1, a2, a3⟩ := hY (3 * i) (T ++ add4 a b l[i]) (by omega) (happ _ _ _ hT)
    obtain ⟨Tb, b1, b2, b3⟩ := hY (3 * i + 1) Ta (by omega) a2
    obtain ⟨Tc, c1, c2, c3⟩ := hY (3 * i + 2) Tb (by omega) b2
    rw [p1] at a1
    rw [p2] at b1
    rw [p3] at c1
    have s2 := hs (3 * i) T (add4 a b l[i]) 2 hT (by simp [add4])
    have s3 := hs (3 * i) T (add4 a b l[i]) 3 hT (by simp [add4])
    have q2 := (a3 _ s2).2
    have q3 := (b3 _ (a3 _ s3).1).2.trans (a3 _ s3).2
    refine ⟨Tc, fun _ => ⟨Ta, Tb, a1, b1, c1, ?_, ?_⟩, c2⟩
    · unfold rd
      rw [q2, List.getElem?_append_right (by omega)]
      simp [add4, RR.cells]
    · unfold rd
      rw [q3, List.getElem?_append_right (by omega)]
      simp [add4, RR.cells])
  refine ⟨G l.length, ?_, g1 _ (Nat.le_refl _)⟩
  refine simY_of_ax tok mixed Tryz.func203 rfl (by kernel_rfl) (by kernel_rfl) (by simp only [Tryz.ntmps203, List.size_toArray, List.length_cons, List.length_nil]; omega) ?_
  intro y
  obtain ⟨b', i0, c, rfl, hA0⟩ := (hbox 0 H h0).1.2.at h1
  have e1 : aLen tt [52] (.slice (some ⟨b', i0, none⟩) l.length c) = some (.int .i64 (l.length : Nat)) := rfl
  rw [← g0]
  have bx0 := (hbox _ (G 0) (g1 0 (by omega))).1.box []
  rw [List.append_nil] at bx0
  have eini : (#[Value.func (Fn.yield y) #[] #[]] ++ #[Value.pointer (some ⟨b0, 0, none⟩), .pointer (some ⟨b1, 0, none⟩), .pointer (some ⟨b2, 0, none⟩)] : Array Value) = #[.func (.yield y) #[] #[], .pointer (some ⟨b0, 0, none⟩), .pointer (some ⟨b1, 0, none⟩), .pointer (some ⟨b2, 0, none⟩)] := rfl
  rw [eini]
  simp -implicitDefEqProofs only [go_sem, simprocAttr, bx0, e1]
  refine ax_loopx (fun (i : Nat) s T => s 0 = .func (.yield y) #[] #[] ∧ s 1 = .pointer (some ⟨b0, 0, none⟩) ∧ s 2 = .pointer (some ⟨b1, 0, none⟩) ∧ s 3 = .pointer (some ⟨b2, 0, none⟩) ∧ s 13 = .slice (some ⟨b', i0, none⟩) l.length c ∧ s 14 = .int .i64 (l.length : Nat) ∧ s 15 = .int .i64 (i : Nat) ∧ i ≤ l.length ∧ T = G i) (fun i => l.length - i) 0 ?_ ?_
  · simp -implicitDefEqProofs only [go_sem, simprocAttr]
  rintro i s T ⟨s0, s1, s2, s3, s13, s14, s15, hi, rfl⟩
  simp -implicitDefEqProofs only [go_sem, simprocAttr, s14, s15]
  refine ax_cond2 ?_
  simp only [ev_tmp, ev_const, ev_func, upd_at, put_some, put_none, bndB_bool, Nat.reduceEqDiff, if_true, if_false, ↓reduceIte, reduceCtorEq]
  refine ⟨fun hc0 => have hlt := of_decide_eq_true hc0; ?_, fun hc0 => have hlt := of_decide_eq_false hc0; ?_⟩
  · have hil : i < l.length := by omega
    obtain ⟨hK, hb1, hb2⟩ := hbox _ (G i) (g1 i hi)
    have hr := (hK.row h1).rdR hil
    obtain ⟨Ta, Tb, y1, y2, y3, y4, y5⟩ := g2 i hil hil
    have hp := lp _ (List.getElem_mem hil)
    have ra : ∀ B, rd (G i ++ B) b1 0 6 = some [.bool a.g, .string (bs a.n), .string (bs a.d), .bool a.g', .string (bs a.n'), .string (bs a.d')] := fun B => rd_more (by unfold rd; rw [hb1]; rfl) B
    have rb : ∀ B, rd (G i ++ B) b2 0 6 = some [.bool b.g, .string (bs b.n), .string (bs b.d), .bool b.g', .string (bs b.n'), .string (bs b.d')] := fun B => rd_more (by unfold rd; rw [hb2]; rfl) B
    have o1 := fun H => ApplyR H la hp (by omega) ea
    have o2 := fun H => ApplyR H lb hp (by omega) eb
    have o3 := fun H => CornerR H la lb hp hk ea eb hh
    unfold add4 at y1
    generalize a.rot.thn l[i].rot = x1 at *
    generalize b.rot.thn l[i].rot = x2 at *
    generalize corn a.rot b.rot l[i].rot = x3 at *
    generalize l[i] = p at *
    have m1 : IntKind.i64.wrap ((i : Int) + 1) = ((i + 1 : Nat) : Int) := by rw [w64 (by omega) (by omega)]; rfl
    have hnn : (0 : Int) ≤ (i : Int) := by omega
    have hlt2 : (i : Int) < (l.length : Int) := by omega
    unfold RR.cells at hr y1 y4 y5
    unfold RR.val rV at *
    simp -implicitDefEqProofs only [go_sem, simprocAttr, s0, s1, s2, s3, s13, s15, aIndexAddr, hnn, hlt2, hr, ra]
    refine kv (o1 _) ?_
    simp -implicitDefEqProofs only [go_sem, simprocAttr, s0, s1, s2, s3, ra, rb]
    refine kv (o2 _) ?_
    simp -implicitDefEqProofs only [go_sem, simprocAttr, s0, s1, s2, s3, ra, rb]
    refine kv (o3 _) ?_
    simp -implicitDefEqProofs only [go_sem, simprocAttr, s0, s1, s2, s3, ra, rb]
    refine wl_yield y _ (by simp -implicitDefEqProofs only [go_sem, simprocAttr, s0]) (by simp -implicitDefEqProofs only [go_sem, simprocAttr]) ⟨rfl, rfl, y1⟩ ?_
    simp -implicitDefEqProofs only [go_sem, simprocAttr, s0, y4]
    refine wl_yield y _ (by simp -implicitDefEqProofs only [go_sem, simprocAttr, s0]) (by simp -implicitDefEqProofs only [go_sem, simprocAttr]) ⟨rfl, rfl, y2⟩ ?_
    simp -implicitDefEqProofs only [go_sem, simprocAttr, s0, y5]
    refine wl_yield y _ (by simp -implicitDefEqProofs only [go_sem, simprocAttr, s0]) (by simp -implicitDefEqProofs only [go_sem, simprocAttr]) ⟨rfl, rfl, y3⟩ ?_
    simp -implicitDefEqProofs only [go_sem, simprocAttr, wa_cond, axC_t, axC_f, s0, s1, s2, s3, s13, s14, s15, m1]
    exact ⟨i + 1, ⟨rfl, by omega, rfl⟩, by omega⟩
  · have : i = l.length := by omega
    subst this
    simp -implicitDefEqProofs only [go_sem, simprocAttr]
    exact ⟨[], rfl, rfl⟩
def Stk (T : Heap) (L0 : Nat) (x : Value) (C : List RR) : Prop := (x = .slice none 0 0 ∧ C = []) ∨ ∃ b', L0 ≤ b' ∧ x = .slice (some ⟨b', 0, none⟩) C.length 0 ∧ Top T b' C
theorem Stk.app {T : Heap} {L0 : Nat} {x : Value} {C : List RR} (h : Stk T L0 x C) (G : Heap) : Stk (T ++ G) L0 x C := by
  rcases h with h | ⟨b', h1, h2, h3⟩
  · exact .inl h
  · exact .inr ⟨b', h1, h2, h3.app G⟩
theorem Stk.mono {T : Heap} {L0 L1 : Nat} {x : Value} {C : List RR} (h : Stk T L1 x C) (hl : L0 ≤ L1) : Stk T L0 x C := by
  rcases h with h | ⟨b', h1, h2, h3⟩
  · exact .inl h
  · exact .inr ⟨b', by omega, h2, h3⟩
theorem Stk.rl {T : Heap} {L0 : Nat} {x : Value} {C : List RR} (h : Stk T L0 x C) : RL T x C := by
  rcases h with ⟨rfl, rfl⟩ | ⟨b', h1, rfl, h3⟩
  · exact .inl ⟨.inl rfl, rfl⟩
  · exact h3.rl
theorem Stk.cell {T : Heap} {L0 : Nat} {x : Value} {C : List RR} (h : Stk T L0 x C) : isCell x = true := by
  rcases h with ⟨rfl, rfl⟩ | ⟨b', h1, rfl, h3⟩ <;> rfl
theorem Stk.push {T : Heap} {L0 : Nat} {x : Value} {C : List RR} (r : RR) (h : Stk T L0 x C) (hC : C.length ≤ 10000) :
    ∃ T', aAppend tt (T ++ [⟨r.cells, 6, true⟩]) [52, 52] x (.slice (some ⟨T.length, 0, none⟩) 1 1) = some (.slice (some ⟨T.length + 1, 0, none⟩) (C.length + 1) 0, T') ∧ OwnR T' (T.length + 1) (C ++ [r]) ∧ T'.length = T.length + 2 ∧
      (∀ j, j < T.length → (∀ n c, x ≠ .slice (some ⟨j, 0, none⟩) n c) → T'[j]? = T[j]?) ∧ (∀ H, H.length ≤ L0 → Ext H T → Ext H T') := by
  rcases h with ⟨rfl, rfl⟩ | ⟨b', h1, rfl, h3⟩
  · obtain ⟨T', a1, a2, a3⟩ := append_P0 (T := T) r
    have hx := append_none (T := T ++ [⟨r.cells, 6, true⟩]) tt52 tt90 rfl (by decide) (by decide) (row1_at T r) (by simp) (by simp)
    simp only [List.length_cons, List.length_nil, List.length_append, Nat.zero_add] at hx
    rw [hx] at a1
    injection a1 with a1
    injection a1 with _ a1
    subst a1
    refine ⟨_, hx, a2, by simp, fun j hj _ => ?_, fun H _ hE => hE.trans a3⟩
    rw [List.append_assoc, List.getElem?_append_left hj]
  · obtain ⟨T', a1, a2, rfl⟩ := append_TP r h3 hC
    have hb := h3.lt
    refine ⟨_, a1, a2, by simp, fun j hj hx => ?_, fun H hH hE => ?_⟩
    · have hne : b' ≠ j := fun e => hx C.length 0 (by rw [e])
      rw [List.getElem?_append_left (by simp; omega), List.getElem?_set_ne hne, List.getElem?_append_left hj]
    · exact ((hE.trans (.app _ _)).set (by omega) _).trans (.app _ _)
def CollInv (H : Heap) (ps : List RR) (i : Nat) (T : Heap) : Prop := ∃ x, T[H.length]? = some ⟨[x], 1, true⟩ ∧ Stk T (H.length + 1) x (ps.take i) ∧ Ext H T
def CollSafe (H : Heap) (T : Heap) (j : Nat) : Prop := H.length < j ∧ j < T.length ∧ ∀ n c, T[H.length]? ≠ some ⟨[.slice (some ⟨j, 0, none⟩) n c], 1, true⟩
theorem CollInv.app {H T : Heap} {ps : List RR} {i : Nat} (h : CollInv H ps i T) (G : Heap) : CollInv H ps i (T ++ G) := by
  obtain ⟨x, h1, h2, h3⟩ := h
  have := (List.getElem?_eq_some_iff.1 h1).1
  exact ⟨x, by rw [List.getElem?_append_left this]; exact h1, h2.app G, h3.trans (.app _ _)⟩
theorem CollSafe.new {H T : Heap} {ps : List RR} {i j : Nat} {G : Heap} (h : CollInv H ps i T) (hj : j < G.length) : CollSafe H (T ++ G) (T.length + j) := by
  obtain ⟨x, h1, h2, h3⟩ := h
  have hl := (List.getElem?_eq_some_iff.1 h1).1
  refine ⟨by omega, by simp; omega, fun n c => ?_⟩
  rw [List.getElem?_append_left hl, h1]
  rcases h2 with ⟨rfl, _⟩ | ⟨b', _, rfl, h4⟩
  · simp
  · have := h4.lt
    simp only [ne_eq, Option.some.injEq, Blk.mk.injEq, List.cons.injEq, Value.slice.injEq, Addr.mk.injEq, and_true, not_and]
    intro e _
    omega
end Go.Proofs.YthhmkaikopdmjaaGreat
namespace Go.Proofs.YthhmkaikopdmjaaGreat
open Go Go.Fw
theorem row1P' (T : Heap) (r : RR) : aBuildSlice tt T 52 1 [(0, .agg #[.bool r.g, .string (bs r.n), .string (bs r.d), .bool r.g', .string (bs r.n'), .string (bs r.d')])] = some (.slice (some ⟨T.length, 0, none⟩) 1 1, T ++ [⟨r.cells, 6, true⟩]) := rfl
theorem appendSeqP (H : Heap) {v : Value} {l : List RR} {a b : RR} {k b0 b1 b2 : Nat} (h1 : l ≠ []) (hl : l.length ≤ 1000)
    (la : a.le k) (lb : b.le k) (lp : ∀ p ∈ l, p.le k) (hk : k ≤ 2000) (ea : a.err = 0) (eb : b.err = 0) (hh : (a.rot.back.thn b.rot).half ≠ 1)
    (hK : KeepL b0 v l H) (hb1 : H[b1]? = some ⟨a.cells, 1, true⟩) (hb2 : H[b2]? = some ⟨b.cells, 1, true⟩) :
    ∃ w H', Sim Tryz.prog 202 #[.slice none 0 0, .func (.func 203) #[] #[.pointer (some ⟨b0, 0, none⟩), .pointer (some ⟨b1, 0, none⟩), .pointer (some ⟨b2, 0, none⟩)]] H w H' ∧ Ext H H' ∧
      ∃ b', H.length ≤ b' ∧ w = .slice (some ⟨b', 0, none⟩) (3 * l.length) 0 ∧ Top H' b' (sweptL a.rot b.rot l) := by
  have hsl := sweptL_len a.rot b.rot l
  refine sim_exR tok mixed Tryz.func202 ?_
  simp -implicitDefEqProofs only [go_sem, simprocAttr, wr_seq, wr_block, wr_region, wr_scope, wr_label, wr_skip, wr_exit, wr_ret, wr_cond, axCR_t, axCR_f]
  refine axR_range (CollInv H (sweptL a.rot b.rot l) (3 * l.length)) (by simp -implicitDefEqProofs only [go_sem, simprocAttr]; rfl) ?_ ?_
  · have hp := fun (Y : Array Value → Heap → Heap → Prop) => pointsY (Y := Y) (H := H ++ [⟨[.slice none 0 0], 1, true⟩]) (v := v) (b0 := b0) (b1 := b1) (b2 := b2) (CollInv H (sweptL a.rot b.rot l)) (CollSafe H) h1 (by omega)
      ⟨.slice none 0 0, by simp, .inl ⟨rfl, by simp⟩, .app _ _⟩ la lb lp hk ea eb hh (by
        rintro i T ⟨x, g1, g2, g3⟩
        exact ⟨⟨g3.get hK.1, hK.2.ext g3⟩, g3.get hb1, g3.get hb2⟩) (fun i T G h => h.app G) (fun i T G j h hj => CollSafe.new h hj)
    suffices hx : ∃ H', SimY Tryz.prog 203 (YR tt Tryz.prog _ _ _ _) #[.pointer (some ⟨b0, 0, none⟩), .pointer (some ⟨b1, 0, none⟩), .pointer (some ⟨b2, 0, none⟩)] (H ++ [⟨[.slice none 0 0], 1, true⟩]) H' ∧ CollInv H (sweptL a.rot b.rot l) (3 * l.length) H' by
      obtain ⟨H', x1, x2⟩ := hx
      exact ⟨H', SimR.of_simY x1, x2⟩
    refine hp _ ?_
    rintro i T hi ⟨x, g1, g2, g3⟩
    generalize hps : sweptL a.rot b.rot l = ps at *
    have htk := List.take_append_getElem (l := ps) (i := i) (by omega)
    generalize ps[i] = r at htk ⊢
    have hCl : (ps.take i).length = i := by rw [List.length_take]; omega
    obtain ⟨T', p1, p2, p3, p4, p5⟩ := (g2.app [⟨r.cells, 1, true⟩]).push r (by rw [hCl]; omega)
    rw [hCl] at p1
    have hpl := (List.getElem?_eq_some_iff.1 g1).1
    have g1' : (T ++ [(⟨r.cells, 1, true⟩ : Blk)])[H.length]? = some ⟨[x], 1, true⟩ := by rw [List.getElem?_append_left hpl]; exact g1
    have hxne : ∀ n c, x ≠ .slice (some ⟨H.length, 0, none⟩) n c := by
      rintro n c rfl
      rcases g2 with ⟨h, _⟩ | ⟨b', h, e, _⟩
      · cases h
      · injection e with e _ _
        injection e with e
        injection e with e
        omega
    have q1 : T'[H.length]? = some ⟨[x], 1, true⟩ := by
      rw [p4 _ (by simp; omega) hxne]; exact g1'
    have hw := wr_cell q1 (v := .slice (some ⟨(T ++ [(⟨r.cells, 1, true⟩ : Blk)]).length + 1, 0, none⟩) (i + 1) 0) rfl
    have rx := fun B => rd_more (rd_cell g1) B
    have row := row1P' (T ++ [(⟨r.cells, 1, true⟩ : Blk)]) r
    have hT1 : T.length + 1 = (T ++ [(⟨r.cells, 1, true⟩ : Blk)]).length := by simp
    have hsafe : ∀ j, CollSafe H T j → T'[j]? = T[j]? := by
      rintro j ⟨s1, s2, s3⟩
      rw [p4 j (by simp; omega) (fun n c e => s3 n c (by rw [g1, e])), List.getElem?_append_left s2]
    have hfin : ∃ T4, wr T' H.length 0 [.slice (some ⟨(T ++ [(⟨r.cells, 1, true⟩ : Blk)]).length + 1, 0, none⟩) (i + 1) 0] = some T4 ∧ CollInv H ps (i + 1) T4 ∧ ∀ j, CollSafe H T j → CollSafe H T4 j ∧ T4[j]? = T[j]? := by
      refine ⟨_, hw, ⟨_, List.getElem?_set_self (List.getElem?_eq_some_iff.1 q1).1, ?_, (p5 H (by omega) (g3.trans (.app _ _))).set (Nat.le_refl _) _⟩, ?_⟩
      · refine .inr ⟨(T ++ [(⟨r.cells, 1, true⟩ : Blk)]).length + 1, ?_, ?_, ?_⟩
        · have := g3.len
          simp; omega
        · have hL : (ps.take i ++ [r]).length = i + 1 := by rw [List.length_append, hCl]; rfl
          rw [← htk, hL]
        · rw [← htk]
          have hne : H.length ≠ (T ++ [(⟨r.cells, 1, true⟩ : Blk)]).length + 1 := by simp; omega
          exact OwnR.top (Own.other p2 hne _)
      · rintro j hj
        obtain ⟨s1, s2, s3⟩ := hj
        have e4 : ((T'.set H.length ⟨[.slice (some ⟨(T ++ [(⟨r.cells, 1, true⟩ : Blk)]).length + 1, 0, none⟩) (i + 1) 0], 1, true⟩))[j]? = T[j]? := by
          rw [List.getElem?_set_ne (by omega)]; exact hsafe j ⟨s1, s2, s3⟩
        refine ⟨⟨s1, by rw [List.length_set, p3]; simp; omega, fun n c => ?_⟩, e4⟩
        rw [List.getElem?_set_self (List.getElem?_eq_some_iff.1 q1).1]
        simp only [ne_eq, Option.some.injEq, Blk.mk.injEq, List.cons.injEq, Value.slice.injEq, Addr.mk.injEq, and_true, not_and]
        intro e _
        omega
    obtain ⟨T4, w1, w2, w3⟩ := hfin
    refine yr_ex rfl ?_
    clear hw q1 p2 p4 p5 hsafe hp g1'
    obtain ⟨T1, hT1e⟩ : ∃ T1, T1 = T ++ [(⟨r.cells, 1, true⟩ : Blk)] := ⟨_, rfl⟩
    rw [← hT1e] at p1 w1 row hT1
    obtain ⟨T2, hT2e⟩ : ∃ T2, T2 = T1 ++ [(⟨r.cells, 6, true⟩ : Blk)] := ⟨_, rfl⟩
    rw [← hT2e] at p1 row
    unfold RR.cells at hT1e
    unfold RR.val rV
    simp -implicitDefEqProofs only [go_sem, simprocAttr, putPs_one]
    rw [← hT1e]
    have rx' : rd T1 H.length 0 1 = some [x] := by rw [hT1e]; exact rx _
    have rr' : rd T1 T.length 0 6 = some [.bool r.g, .string (bs r.n), .string (bs r.d), .bool r.g', .string (bs r.n'), .string (bs r.d')] := by
      rw [hT1e]; unfold rd; simp
    simp -implicitDefEqProofs only [go_sem, simprocAttr, rx', rr', row, p1, w1]
    exact ⟨w2, w3⟩
  · rintro T ⟨x, g1, g2, g3⟩
    have hf : (sweptL a.rot b.rot l).take (3 * l.length) = sweptL a.rot b.rot l := List.take_of_length_le (by omega)
    rw [hf] at g2
    have rx := rd_cell g1
    simp -implicitDefEqProofs only [go_sem, simprocAttr, wr_seq, wr_block, wr_region, wr_scope, wr_label, wr_skip, wr_exit, wr_ret, wr_cond, axCR_t, axCR_f, rx, res202]
    refine ⟨g3, ?_⟩
    rcases g2 with ⟨_, hn⟩ | ⟨b', q1, q2, q3⟩
    · have := List.length_pos_iff.2 h1
      rw [hn] at hsl
      simp at hsl; omega
    · exact ⟨b', by omega, by rw [q2, hsl], q3⟩
end Go.Proofs.YthhmkaikopdmjaaGreat
namespace Go.Proofs.YthhmkaikopdmjaaGreat
open Go Go.Fw
structure Cmp (g : FuncId) (z : RR → RR → Int) (ok : RR → Prop) : Prop where
  call : ∀ a b, ok a → ok b → ∀ H, Sim Tryz.prog g #[a.val, b.val] H (.int .i64 (z a b)) H
  tr : ∀ a b c, ok a → ok b → ok c → ¬ z b a < 0 → ¬ z c b < 0 → ¬ z c a < 0
  asy : ∀ a b, ok a → ok b → z a b < 0 → ¬ z b a < 0
def Lq (z : RR → RR → Int) (a b : RR) : Prop := ¬ z b a < 0
theorem insertionG {g : FuncId} {z : RR → RR → Int} {ok : RR → Prop} (hg : Cmp g z ok) (T0 : Heap) {b : Nat} {L0 : List RR} {c lo hi : Nat} (hown : OwnR T0 b L0) (hok : ∀ r ∈ L0, ok r) (hlo : lo ≤ hi) (hhi : hi ≤ L0.length) (hlen : L0.length ≤ 1000000) :
    ∃ L, Sim Tryz.prog 277 #[.slice (some ⟨b, 0, none⟩) L0.length c, .int .i64 (lo : Nat), .int .i64 (hi : Nat), .func (.func g) #[] #[]] T0 (.tuple #[]) (putR T0 b L) ∧ Within L0 L lo hi ∧ SrtTo (Lq z) L lo hi := by
  suffices hx : ∃ w H', Sim Tryz.prog 277 #[.slice (some ⟨b, 0, none⟩) L0.length c, .int .i64 (lo : Nat), .int .i64 (hi : Nat), .func (.func g) #[] #[]] T0 w H' ∧ w = .tuple #[] ∧ ∃ L, H' = putR T0 b L ∧ Within L0 L lo hi ∧ SrtTo (Lq z) L lo hi by
    obtain ⟨w, H', h1, rfl, L, rfl, h2⟩ := hx
    exact ⟨L, h1, h2⟩
  have hb := hown.lt
  have a1 : IntKind.i64.wrap ((lo : Int) + 1) = ((lo + 1 : Nat) : Int) := by rw [w64 (by omega) (by omega)]; rfl
  have hself := putR_self hown
  refine sxA tok mixed Tryz.func277 ?_
  simp -implicitDefEqProofs only [go_sem, simprocAttr, a1]
  refine ax_loopx (fun (i : Nat) s T => s 0 = .slice (some ⟨b, 0, none⟩) L0.length c ∧ s 1 = .int .i64 (lo : Nat) ∧ s 2 = .int .i64 (hi : Nat) ∧ s 3 = .func (.func g) #[] #[] ∧ s 8 = .int .i64 (i : Nat) ∧ lo + 1 ≤ i ∧ i ≤ hi + 1 ∧
    ∃ L, T = putR T0 b L ∧ Within L0 L lo hi ∧ SrtTo (Lq z) L lo i) (fun i => hi + 1 - i) (lo + 1) ?_ ?_
  · simp -implicitDefEqProofs only [go_sem, simprocAttr]
    exact ⟨by omega, L0, hself.symm, .refl _ _ _, .one _ (by omega)⟩
  rintro i s T ⟨s0, s1, s2, s3, s8, hi1, hi2, L, rfl, hw, hs⟩
  simp -implicitDefEqProofs only [go_sem, simprocAttr, s2, s8]
  refine ax_cond2 ?_
  simp only [ev_tmp, ev_const, ev_func, upd_at, put_some, put_none, bndB_bool, Nat.reduceEqDiff, if_true, if_false, ↓reduceIte, reduceCtorEq]
  refine ⟨fun hc0 => have hlt := of_decide_eq_true hc0; ?_, fun hc0 => have hlt := of_decide_eq_false hc0; ?_⟩
  · have hih : i < hi := by omega
    simp -implicitDefEqProofs only [go_sem, simprocAttr, s8]
    refine ax_midl2 (fun s T => s 0 = .slice (some ⟨b, 0, none⟩) L0.length c ∧ s 1 = .int .i64 (lo : Nat) ∧ s 2 = .int .i64 (hi : Nat) ∧ s 3 = .func (.func g) #[] #[] ∧ s 8 = .int .i64 (i : Nat) ∧
      ∃ L, T = putR T0 b L ∧ Within L0 L lo hi ∧ SrtTo (Lq z) L lo (i + 1)) ?_ ?_
    · refine ax_loopx (fun (j : Nat) s T => s 0 = .slice (some ⟨b, 0, none⟩) L0.length c ∧ s 1 = .int .i64 (lo : Nat) ∧ s 2 = .int .i64 (hi : Nat) ∧ s 3 = .func (.func g) #[] #[] ∧ s 8 = .int .i64 (i : Nat) ∧ s 9 = .int .i64 (j : Nat) ∧ lo ≤ j ∧ j ≤ i ∧
        ∃ L, T = putR T0 b L ∧ Within L0 L lo hi ∧ InsI (Lq z) L lo i j) (fun j => j) i ?_ ?_
      · simp -implicitDefEqProofs only [go_sem, simprocAttr, s0, s1, s2, s3, s8]
        exact ⟨by omega, L, rfl, hw, hs.ins⟩
      clear s0 s1 s2 s3 s8 hw hs hself a1
      clear L
      rintro j s T ⟨s0, s1, s2, s3, s8, s9, hj1, hj2, L, rfl, hw, hs⟩
      have hLl := hw.len
      have hoL := hw.oks hok
      have ho := putR_own T0 L hb
      simp -implicitDefEqProofs only [go_sem, simprocAttr]
      refine ax_quiet (by kernel_rfl) ?_
      by_cases hjl : lo < j
      · obtain ⟨j, rfl⟩ : ∃ j', j = j' + 1 := ⟨j - 1, by omega⟩
        have hjn : j + 1 < L.length := by omega
        have r1 := (ho.at (c := 0) (.inl rfl)).rdR (j := j + 1) hjn
        have r2 := (ho.at (c := 0) (.inl rfl)).rdR (j := j) (by omega)
        have hcm := fun H => hg.call _ _ (hoL _ (List.getElem_mem hjn)) (hoL _ (List.getElem_mem (show j < L.length by omega))) H
        have g1 : (lo : Int) < ((j + 1 : Nat) : Int) := by omega
        have g2 : (0 : Int) ≤ ((j + 1 : Nat) : Int) := by omega
        have g3 : ((j + 1 : Nat) : Int) < (L0.length : Int) := by omega
        have g4 : (0 : Int) ≤ (j : Int) := by omega
        have g5 : (j : Int) < (L0.length : Int) := by omega
        have m1 : IntKind.i64.wrap (((j + 1 : Nat) : Int) - 1) = (j : Int) := by rw [w64 (by omega) (by omega)]; omega
        have hstep := fun hlt => hs.step (by omega) hjn hj2 hlt
        have hstop := fun hle => InsI.stop2 hg.tr hoL hs hjl hj2 hjn hle
        have htot := hg.asy _ _ (hoL _ (List.getElem_mem hjn)) (hoL _ (List.getElem_mem (show j < L.length by omega)))
        have hww := hw.trans (.swp L j hjn (by omega) (by omega))
        have w1 := ho.wr (j := j + 1) hjn L[j]
        have w2 := (putR_own T0 (L.set (j + 1) L[j]) hb).wr (j := j) (by simp; omega) L[j + 1]
        rw [putR_put] at w1 w2
        have hsw : (L.set (j + 1) L[j]).set j L[j + 1] = swp L j hjn := rfl
        rw [hsw] at w2
        generalize swp L j hjn = L2 at *
        generalize L.set (j + 1) L[j] = L1 at *
        simp only [Nat.add_sub_cancel] at hstop
        generalize L[j] = y at *
        generalize L[j + 1] = x at *
        unfold RR.cells at r1 r2 w1 w2
        unfold RR.val rV at hcm
        simp only [Nat.zero_add] at r1 r2
        simp -implicitDefEqProofs only [go_sem, simprocAttr, s0, s1, s2, s3, s9, aIndexAddr, g1, g2, g3, g4, g5, m1, r1, r2]
        refine wl_callO _ (by simp -implicitDefEqProofs only [go_sem, simprocAttr, s3]) _ (by simp -implicitDefEqProofs only [go_sem, simprocAttr]) (hcm _) ?_
        by_cases hc : z x y < 0
        · simp -implicitDefEqProofs only [go_sem, simprocAttr, wa_cond, axC_t, axC_f, hc]
          refine ax_loud (by kernel_rfl) ?_
          simp -implicitDefEqProofs only [go_sem, simprocAttr, s0, s1, s2, s3, s8, s9, aIndexAddr, g1, g2, g3, g4, g5, m1, r1, r2, w1, w2]
          refine ⟨j, ⟨rfl, by omega, by omega, L2, rfl, hww, hstep (htot hc)⟩, by omega⟩
        · simp -implicitDefEqProofs only [go_sem, simprocAttr, wa_cond, axC_t, axC_f, hc, s0, s1, s2, s3, s8]
          exact ⟨L, rfl, hw, hstop hc⟩
      · have : j = lo := by omega
        subst this
        have g1 : ¬ (j : Int) < (j : Int) := by omega
        simp -implicitDefEqProofs only [go_sem, simprocAttr, wa_cond, axC_t, axC_f, s0, s1, s2, s3, s8, s9, g1]
        exact ⟨L, rfl, hw, hs.zero⟩
    clear s0 s1 s2 s3 s8 hw hs hself a1
    clear L
    rintro s T ⟨s0, s1, s2, s3, s8, L, rfl, hw, hs⟩
    have m1 : IntKind.i64.wrap ((i : Int) + 1) = ((i + 1 : Nat) : Int) := by rw [w64 (by omega) (by omega)]; rfl
    simp -implicitDefEqProofs only [go_sem, simprocAttr, s0, s1, s2, s3, s8, m1]
    exact ⟨i + 1, ⟨rfl, by omega, by omega, L, rfl, hw, hs⟩, by omega⟩
  · have hih : hi ≤ i := by omega
    simp -implicitDefEqProofs only [go_sem, simprocAttr]
    refine ⟨[], rfl, rfl, L, rfl, hw, ?_⟩
    exact fun p q h0 h1 h2 hp hq => hs p q h0 h1 (by omega) hp hq
end Go.Proofs.YthhmkaikopdmjaaGreat
namespace Go.Proofs.YthhmkaikopdmjaaGreat
open Go Go.Fw
theorem reverseG (T0 : Heap) {f : Value} {b : Nat} {L0 : List RR} {c lo hi : Nat} (hown : OwnR T0 b L0) (hlo : lo < hi) (hhi : hi ≤ L0.length) (hlen : L0.length ≤ 1000000) :
    ∃ L, Sim Tryz.prog 281 #[.slice (some ⟨b, 0, none⟩) L0.length c, .int .i64 (lo : Nat), .int .i64 (hi : Nat), f] T0 (.tuple #[]) (putR T0 b L) ∧ Within L0 L lo hi := by
  suffices hx : ∃ w H', Sim Tryz.prog 281 #[.slice (some ⟨b, 0, none⟩) L0.length c, .int .i64 (lo : Nat), .int .i64 (hi : Nat), f] T0 w H' ∧ w = .tuple #[] ∧ ∃ L, H' = putR T0 b L ∧ Within L0 L lo hi by
    obtain ⟨w, H', h1, rfl, L, rfl, h2⟩ := hx
    exact ⟨L, h1, h2⟩
  have hb := hown.lt
  have a1 : IntKind.i64.wrap ((hi : Int) - 1) = ((hi - 1 : Nat) : Int) := by rw [w64 (by omega) (by omega)]; omega
  have hself := putR_self hown
  refine sxA tok mixed Tryz.func281 ?_
  simp -implicitDefEqProofs only [go_sem, simprocAttr, a1]
  refine ax_loopx (fun (x : Nat × Nat) s T => s 0 = .slice (some ⟨b, 0, none⟩) L0.length c ∧ s 8 = .int .i64 (x.1 : Nat) ∧ s 9 = .int .i64 (x.2 : Nat) ∧ lo ≤ x.1 ∧ x.2 < hi ∧ ∃ L, T = putR T0 b L ∧ Within L0 L lo hi) (fun x => x.2 + 1 - x.1) (lo, hi - 1) ?_ ?_
  · simp -implicitDefEqProofs only [go_sem, simprocAttr]
    exact ⟨by omega, L0, hself.symm, .refl _ _ _⟩
  rintro ⟨i, j⟩ s T ⟨s0, s8, s9, hi1, hj1, L, rfl, hw⟩
  simp only at s8 s9 hi1 hj1
  simp -implicitDefEqProofs only [go_sem, simprocAttr, s8, s9]
  refine ax_cond2 ?_
  simp only [ev_tmp, ev_const, ev_func, upd_at, put_some, put_none, bndB_bool, Nat.reduceEqDiff, if_true, if_false, ↓reduceIte, reduceCtorEq]
  refine ⟨fun hc0 => have hlt := of_decide_eq_true hc0; ?_, fun hc0 => have hlt := of_decide_eq_false hc0; ?_⟩
  · have hij : i < j := by omega
    have hLl := hw.len
    have hI : i < L.length := by omega
    have hJ : j < L.length := by omega
    have ho := putR_own T0 L hb
    have r1 := (ho.at (c := 0) (.inl rfl)).rdR (j := i) hI
    have r2 := (ho.at (c := 0) (.inl rfl)).rdR (j := j) hJ
    have g2 : (0 : Int) ≤ (i : Int) := by omega
    have g3 : (i : Int) < (L0.length : Int) := by omega
    have g4 : (0 : Int) ≤ (j : Int) := by omega
    have g5 : (j : Int) < (L0.length : Int) := by omega
    have m1 : IntKind.i64.wrap ((i : Int) + 1) = ((i + 1 : Nat) : Int) := by rw [w64 (by omega) (by omega)]; rfl
    have m2 : IntKind.i64.wrap ((j : Int) - 1) = ((j - 1 : Nat) : Int) := by rw [w64 (by omega) (by omega)]; omega
    have hww := hw.trans (.sw L i j hI hJ (by omega) (by omega))
    have w1 := ho.wr (j := i) hI L[j]
    have w2 := (putR_own T0 (L.set i L[j]) hb).wr (j := j) (by simp; omega) L[i]
    rw [putR_put] at w1 w2
    have hsw : (L.set i L[j]).set j L[i] = sw L i j hI hJ := rfl
    rw [hsw] at w2
    generalize sw L i j hI hJ = L2 at *
    generalize L.set i L[j] = L1 at *
    generalize L[j] = y at *
    generalize L[i] = x at *
    unfold RR.cells at r1 r2 w1 w2
    simp only [Nat.zero_add] at r1 r2
    simp -implicitDefEqProofs only [go_sem, simprocAttr]
    refine ax_loud (by kernel_rfl) ?_
    simp -implicitDefEqProofs only [go_sem, simprocAttr, s0, s8, s9, aIndexAddr, g2, g3, g4, g5, r1, r2, w1, w2, m1, m2]
    exact ⟨(i + 1, j - 1), ⟨rfl, rfl, by simp only; omega, by simp only; omega, L2, rfl, hww⟩, by simp only; omega⟩
  · simp -implicitDefEqProofs only [go_sem, simprocAttr]
    refine ⟨[], rfl, rfl, L, rfl, hw⟩
def cnt (T : Heap) (p : Nat) (n : Int) : Heap := T.set p ⟨[.int .i64 n], 1, true⟩
theorem cnt_cnt (T : Heap) (p : Nat) (n m : Int) : (cnt T p n).set p ⟨[.int .i64 m], 1, true⟩ = cnt T p m := by simp [cnt]
theorem cnt_at {T : Heap} {p : Nat} (h : p < T.length) (n : Int) : (cnt T p n)[p]? = some ⟨[.int .i64 n], 1, true⟩ := by unfold cnt; rw [List.getElem?_set_self h]
theorem order2G {g : FuncId} {z : RR → RR → Int} {ok : RR → Prop} (hg : Cmp g z ok) (T : Heap) {p b : Nat} {L : List RR} {c x y : Nat} {n : Int} (hp : p < T.length) (hpb : p ≠ b) (hown : OwnR T b L) (hok : ∀ r ∈ L, ok r) (hx : x < L.length) (hy : y < L.length) (hlen : L.length ≤ 1000000) :
    ∃ (x' y' : Nat) (n' : Int), Sim Tryz.prog 288 #[.slice (some ⟨b, 0, none⟩) L.length c, .int .i64 (x : Nat), .int .i64 (y : Nat), .pointer (some ⟨p, 0, none⟩), .func (.func g) #[] #[]] (cnt T p n) (.tuple #[.int .i64 (x' : Nat), .int .i64 (y' : Nat)]) (cnt T p n') ∧ ((x' = x ∧ y' = y) ∨ (x' = y ∧ y' = x)) := by
  have ho : OwnR (cnt T p n) b L := Own.other hown hpb _
  have r1 := (ho.at (c := 0) (.inl rfl)).rdR (j := x) hx
  have r2 := (ho.at (c := 0) (.inl rfl)).rdR (j := y) hy
  have hcm := fun H => hg.call _ _ (hok _ (List.getElem_mem hy)) (hok _ (List.getElem_mem hx)) H
  have g2 : (0 : Int) ≤ (x : Int) := by omega
  have g3 : (x : Int) < (L.length : Int) := by omega
  have g4 : (0 : Int) ≤ (y : Int) := by omega
  have g5 : (y : Int) < (L.length : Int) := by omega
  have rc := rd_cell (cnt_at hp n)
  have wc := wr_cell (v := .int .i64 (IntKind.i64.wrap (n + 1))) (cnt_at hp n) rfl
  rw [cnt_cnt] at wc
  generalize L[x] = u at *
  generalize L[y] = v at *
  unfold RR.cells at r1 r2
  unfold RR.val rV at hcm
  simp only [Nat.zero_add] at r1 r2
  by_cases hc : z v u < 0
  · refine ⟨y, x, IntKind.i64.wrap (n + 1), ?_, .inr ⟨rfl, rfl⟩⟩
    refine soA tok mixed Tryz.func288 ?_
    simp -implicitDefEqProofs only [go_sem, simprocAttr]
    refine ax_quiet (by kernel_rfl) ?_
    simp -implicitDefEqProofs only [go_sem, simprocAttr, aIndexAddr, g2, g3, g4, g5, r1, r2]
    refine wl_callO _ (by simp -implicitDefEqProofs only [go_sem, simprocAttr]) _ (by simp -implicitDefEqProofs only [go_sem, simprocAttr]) (hcm _) ?_
    simp -implicitDefEqProofs only [go_sem, simprocAttr, wa_cond, axC_t, axC_f, hc, rc, wc, res288]
  · refine ⟨x, y, n, ?_, .inl ⟨rfl, rfl⟩⟩
    refine soA tok mixed Tryz.func288 ?_
    simp -implicitDefEqProofs only [go_sem, simprocAttr]
    refine ax_quiet (by kernel_rfl) ?_
    simp -implicitDefEqProofs only [go_sem, simprocAttr, aIndexAddr, g2, g3, g4, g5, r1, r2]
    refine wl_callO _ (by simp -implicitDefEqProofs only [go_sem, simprocAttr]) _ (by simp -implicitDefEqProofs only [go_sem, simprocAttr]) (hcm _) ?_
    simp -implicitDefEqProofs only [go_sem, simprocAttr, wa_cond, axC_t, axC_f, hc, res288]
theorem medianG {g : FuncId} {z : RR → RR → Int} {ok : RR → Prop} (hg : Cmp g z ok) (T : Heap) {p b : Nat} {L : List RR} {c x y w : Nat} {n : Int} (hp : p < T.length) (hpb : p ≠ b) (hown : OwnR T b L) (hok : ∀ r ∈ L, ok r) (hx : x < L.length) (hy : y < L.length) (hw : w < L.length) (hlen : L.length ≤ 1000000) :
    ∃ (m : Nat) (n' : Int), Sim Tryz.prog 287 #[.slice (some ⟨b, 0, none⟩) L.length c, .int .i64 (x : Nat), .int .i64 (y : Nat), .int .i64 (w : Nat), .pointer (some ⟨p, 0, none⟩), .func (.func g) #[] #[]] (cnt T p n) (.int .i64 (m : Nat)) (cnt T p n') ∧ (m = x ∨ m = y ∨ m = w) := by
  obtain ⟨x1, y1, n1, o1, h1⟩ := order2G hg T (c := c) (n := n) hp hpb hown hok hx hy hlen
  obtain ⟨y2, w2, n2, o2, h2⟩ := order2G hg T (c := c) (n := n1) (x := y1) (y := w) hp hpb hown hok (by omega) hw hlen
  obtain ⟨x3, y3, n3, o3, h3⟩ := order2G hg T (c := c) (n := n2) (x := x1) (y := y2) hp hpb hown hok (by omega) (by omega) hlen
  refine ⟨y3, n3, ?_, by omega⟩
  refine soA tok mixed Tryz.func287 ?_
  simp -implicitDefEqProofs only [go_sem, simprocAttr]
  refine kl o1 ?_
  simp -implicitDefEqProofs only [go_sem, simprocAttr]
  refine kl o2 ?_
  simp -implicitDefEqProofs only [go_sem, simprocAttr]
  refine kl o3 ?_
  simp -implicitDefEqProofs only [go_sem, simprocAttr, res287]
theorem medianAdjG {g : FuncId} {z : RR → RR → Int} {ok : RR → Prop} (hg : Cmp g z ok) (T : Heap) {p b : Nat} {L : List RR} {c x : Nat} {n : Int} (hp : p < T.length) (hpb : p ≠ b) (hown : OwnR T b L) (hok : ∀ r ∈ L, ok r) (h0 : 0 < x) (hx : x + 1 < L.length) (hlen : L.length ≤ 1000000) :
    ∃ (m : Nat) (n' : Int), Sim Tryz.prog 286 #[.slice (some ⟨b, 0, none⟩) L.length c, .int .i64 (x : Nat), .pointer (some ⟨p, 0, none⟩), .func (.func g) #[] #[]] (cnt T p n) (.int .i64 (m : Nat)) (cnt T p n') ∧ x - 1 ≤ m ∧ m ≤ x + 1 := by
  obtain ⟨m, n', o1, h1⟩ := medianG hg T (c := c) (n := n) (x := x - 1) (y := x) (w := x + 1) hp hpb hown hok (by omega) (by omega) (by omega) hlen
  have a1 : IntKind.i64.wrap ((x : Int) - 1) = ((x - 1 : Nat) : Int) := by rw [w64 (by omega) (by omega)]; omega
  have a2 : IntKind.i64.wrap ((x : Int) + 1) = ((x + 1 : Nat) : Int) := by rw [w64 (by omega) (by omega)]; rfl
  refine ⟨m, n', ?_, by omega, by omega⟩
  refine soA tok mixed Tryz.func286 ?_
  simp -implicitDefEqProofs only [go_sem, simprocAttr, a1, a2]
  refine kl o1 ?_
  simp -implicitDefEqProofs only [go_sem, simprocAttr, res286]
theorem pivotG {g : FuncId} {z : RR → RR → Int} {ok : RR → Prop} (hg : Cmp g z ok) (T : Heap) {b : Nat} {L : List RR} {c lo hi : Nat} (hown : OwnR T b L) (hok : ∀ r ∈ L, ok r) (hlo : lo + 12 < hi) (hhi : hi ≤ L.length) (hlen : L.length ≤ 1000000) :
    ∃ (p : Nat) (h : Int), Sim Tryz.prog 280 #[.slice (some ⟨b, 0, none⟩) L.length c, .int .i64 (lo : Nat), .int .i64 (hi : Nat), .func (.func g) #[] #[]] T (.tuple #[.int .i64 (p : Nat), .int .i64 h]) T ∧ lo ≤ p ∧ p < hi := by
  suffices hx : ∃ w H', Sim Tryz.prog 280 #[.slice (some ⟨b, 0, none⟩) L.length c, .int .i64 (lo : Nat), .int .i64 (hi : Nat), .func (.func g) #[] #[]] T w H' ∧ Ext T H' ∧ ∃ (p : Nat) (h : Int), w = .tuple #[.int .i64 (p : Nat), .int .i64 h] ∧ lo ≤ p ∧ p < hi by
    obtain ⟨w, H', h1, ⟨G, rfl⟩, p, h, rfl, h2⟩ := hx
    exact ⟨p, h, Sim.flat h1 (Calm.refl T) rfl, h2⟩
  obtain ⟨l, hl⟩ : ∃ l, l = hi - lo := ⟨_, rfl⟩
  have a0 : IntKind.i64.wrap ((hi : Int) - (lo : Int)) = (l : Int) := by rw [w64 (by omega) (by omega)]; omega
  have a1 : IntKind.i64.wrap ((l : Int).tdiv 4) = ((l / 4 : Nat) : Int) := by rw [show (4 : Int) = ((4 : Nat) : Int) from rfl, tdiv_nat, w64n (by omega)]
  have a2 : IntKind.i64.wrap (((l / 4 : Nat) : Int) * 1) = ((l / 4 : Nat) : Int) := by rw [w64 (by omega) (by omega)]; omega
  have a3 : IntKind.i64.wrap (((l / 4 : Nat) : Int) * 2) = ((l / 4 * 2 : Nat) : Int) := by rw [w64 (by omega) (by omega)]; omega
  have a4 : IntKind.i64.wrap (((l / 4 : Nat) : Int) * 3) = ((l / 4 * 3 : Nat) : Int) := by rw [w64 (by omega) (by omega)]; omega
  have a5 : IntKind.i64.wrap ((lo : Int) + ((l / 4 : Nat) : Int)) = ((lo + l / 4 : Nat) : Int) := by rw [w64 (by omega) (by omega)]; omega
  have a6 : IntKind.i64.wrap ((lo : Int) + ((l / 4 * 2 : Nat) : Int)) = ((lo + l / 4 * 2 : Nat) : Int) := by rw [w64 (by omega) (by omega)]; omega
  have a7 : IntKind.i64.wrap ((lo : Int) + ((l / 4 * 3 : Nat) : Int)) = ((lo + l / 4 * 3 : Nat) : Int) := by rw [w64 (by omega) (by omega)]; omega
  have c8 : (8 : Int) ≤ (l : Int) := by omega
  have hb := hown.lt
  have hpT : T.length < (T ++ [(⟨[.int .i64 0], 1, true⟩ : Blk)]).length := by simp
  have hpb : T.length ≠ b := by omega
  have hownT : OwnR (T ++ [(⟨[.int .i64 0], 1, true⟩ : Blk)]) b L := Own.app hown _
  have hT0 : T ++ [(⟨[.int .i64 0], 1, true⟩ : Blk)] = cnt (T ++ [(⟨[.int .i64 0], 1, true⟩ : Blk)]) T.length 0 := by simp [cnt]
  have hext : ∀ n, Ext T (cnt (T ++ [(⟨[.int .i64 0], 1, true⟩ : Blk)]) T.length n) := fun n => (Ext.app _ _).set (Nat.le_refl _) _
  have med := fun {x y w : Nat} {n : Int} hx hy hw => medianG hg (T ++ [(⟨[.int .i64 0], 1, true⟩ : Blk)]) (p := T.length) (c := c) (x := x) (y := y) (w := w) (n := n) hpT hpb hownT hok hx hy hw hlen
  have adj := fun {x : Nat} {n : Int} h0 hx => medianAdjG hg (T ++ [(⟨[.int .i64 0], 1, true⟩ : Blk)]) (p := T.length) (c := c) (x := x) (n := n) hpT hpb hownT hok h0 hx hlen
  have rdc := fun n => rd_cell (cnt_at hpT n)
  have key : ∀ (i j k : Nat) (n : Int), lo ≤ i → i < hi → lo ≤ j → j < hi → lo ≤ k → k < hi → ∃ (m : Nat) (n' : Int), (Sim Tryz.prog 287 #[.slice (some ⟨b, 0, none⟩) L.length c, .int .i64 (i : Nat), .int .i64 (j : Nat), .int .i64 (k : Nat), .pointer (some ⟨T.length, 0, none⟩), .func (.func g) #[] #[]] (cnt (T ++ [(⟨[.int .i64 0], 1, true⟩ : Blk)]) T.length n) (.int .i64 (m : Nat)) (cnt (T ++ [(⟨[.int .i64 0], 1, true⟩ : Blk)]) T.length n')) ∧ lo ≤ m ∧ m < hi := fun i j k n h1 h2 h3 h4 h5 h6 => by
    obtain ⟨m, n', o, h⟩ := med (x := i) (y := j) (w := k) (n := n) (by omega) (by omega) (by omega)
    exact ⟨m, n', o, by omega, by omega⟩
  refine sxA tok mixed Tryz.func280 ?_
  simp -implicitDefEqProofs only [go_sem, simprocAttr, a0, a1, a2, a3, a4, a5, a6, a7]
  rw [hT0]
  generalize T ++ [(⟨[.int .i64 0], 1, true⟩ : Blk)] = T1 at *
  simp -implicitDefEqProofs only [go_sem, simprocAttr, c8]
  refine ax_cond2 ?_
  simp only [ev_tmp, ev_const, ev_func, upd_at, put_some, put_none, bndB_bool, Nat.reduceEqDiff, if_true, if_false, ↓reduceIte, reduceCtorEq]
  refine ⟨fun _ => ?_, fun hc => hc.elim⟩
  apply shareK (M := fun s T' => ∃ (i j k : Nat) (n : Int), s 0 = .slice (some ⟨b, 0, none⟩) L.length c ∧ s 3 = .func (.func g) #[] #[] ∧ s 11 = .pointer (some ⟨T.length, 0, none⟩) ∧ s 12 = .int .i64 (i : Nat) ∧ s 13 = .int .i64 (j : Nat) ∧ s 14 = .int .i64 (k : Nat) ∧ lo ≤ i ∧ i < hi ∧ lo ≤ j ∧ j < hi ∧ lo ≤ k ∧ k < hi ∧ T' = cnt T1 T.length n)
  · intro hrest
    by_cases c50 : 50 ≤ l
    · have d1 : (50 : Int) ≤ (l : Int) := by omega
      obtain ⟨m1, n1, q1, h1⟩ := adj (x := lo + l / 4) (n := 0) (by omega) (by omega)
      obtain ⟨m2, n2, q2, h2⟩ := adj (x := lo + l / 4 * 2) (n := n1) (by omega) (by omega)
      obtain ⟨m3, n3, q3, h3⟩ := adj (x := lo + l / 4 * 3) (n := n2) (by omega) (by omega)
      simp -implicitDefEqProofs only [go_sem, simprocAttr, d1]
      refine ax_mid _ ?_ hrest
      simp -implicitDefEqProofs only [go_sem, simprocAttr, wa_cond, axC_t, axC_f]
      refine kl q1 ?_
      simp -implicitDefEqProofs only [go_sem, simprocAttr]
      refine kl q2 ?_
      simp -implicitDefEqProofs only [go_sem, simprocAttr]
      refine kl q3 ?_
      simp -implicitDefEqProofs only [go_sem, simprocAttr]
      refine ⟨m1, m2, m3, n3, ?_⟩
      ((repeat' apply And.intro) <;> first | rfl | assumption | omega)
    · have d1 : ¬ (50 : Int) ≤ (l : Int) := by omega
      simp -implicitDefEqProofs only [go_sem, simprocAttr, d1]
      refine ax_mid _ ?_ hrest
      simp -implicitDefEqProofs only [go_sem, simprocAttr, wa_cond, axC_t, axC_f]
      refine ⟨lo + l / 4, lo + l / 4 * 2, lo + l / 4 * 3, 0, ?_⟩
      ((repeat' apply And.intro) <;> first | rfl | assumption | omega)
  rintro s T' ⟨i, j, k, n, s0, s3, s11, s12, s13, s14, h1, h2, h3, h4, h5, h6, rfl⟩
  obtain ⟨m, n', o, hm1, hm2⟩ := key i j k n h1 h2 h3 h4 h5 h6
  have rc := rdc n'
  have hE := hext n'
  simp -implicitDefEqProofs only [go_sem, simprocAttr, s0, s3, s11, s12, s13, s14]
  refine wl_callF _ (by simp -implicitDefEqProofs only [go_sem, simprocAttr, s11]) o (fun h => by cases h) ?_
  by_cases z0 : n' = 0
  · subst z0
    simp -implicitDefEqProofs only [go_sem, simprocAttr, wa_cond, axC_t, axC_f, s11, rc, res280]
    exact ⟨hE, m, 1, rfl, hm1, hm2⟩
  · by_cases z12 : n' = 12
    · subst z12
      simp -implicitDefEqProofs only [go_sem, simprocAttr, wa_cond, axC_t, axC_f, s11, rc, res280]
      exact ⟨hE, m, 2, rfl, hm1, hm2⟩
    · simp -implicitDefEqProofs only [go_sem, simprocAttr, wa_cond, axC_t, axC_f, s11, rc, z0, z12, res280]
      exact ⟨hE, m, 0, rfl, hm1, hm2⟩
end Go.Proofs.YthhmkaikopdmjaaGreat
