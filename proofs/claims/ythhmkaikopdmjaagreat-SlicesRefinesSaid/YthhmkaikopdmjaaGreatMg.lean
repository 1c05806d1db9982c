/- the reference of bigint: mag, Of, Neg; the reference of bigint: addMag, subMag; the reference of bigint: subMag; the reference of bigint: Add, Sub, Compare; the reference of bigint: Sub, Compare; the reference of bigint: mulMag; the reference of bigint: mulMag; the reference of bigint: Mul; the reference of bigint: divMag; the reference of bigint: Gcd; the reference of bigint: Div; the reference of rational: number, digits, small; the reference of rational: pack, parts; the reference of rational: reduce, New, Ratio, Of, integer; the reference of rational: Normal, Check, Neg, Add, Mul, Sub, Compare; the reference of rational: Sign, Sub, Quo, Floor, Ceil, simplest, Simplest; the reference of rational: simplest, Simplest; the reference of rotation: over, back, then, upper, compare, Check; the reference of rotation: None, Then, Compare, Of, Middle. Conditions: none. -/
import Derived.Test.YthhmkaikopdmjaaGreatMf
set_option linter.unusedSimpArgs false
set_option linter.unusedVariables false
set_option maxRecDepth 8000
namespace Go.Proofs.YthhmkaikopdmjaaGreat
open Go Go.Fw
theorem byte1 (H : Heap) (x : Int) : aBuildSlice tt H 203 1 [(0, .int .u8 x)] = some (.slice (some ⟨H.length, 0, none⟩) 1 1, H ++ [⟨[.int .u8 x], 1, true⟩]) := rfl
theorem digB_one {n : Nat} (h0 : n ≠ 0) (h : n < 256) : digB n = [UInt8.ofNat n] := by
  rw [digB_step h0]
  have : n / 2 ^ 8 = 0 := by omega
  rw [this, digB_zero, List.nil_append]
theorem magR (H : Heap) {n : Nat} (hn : n < 9223372036854775808) : Sim Tryz.prog 166 #[.int .i64 (n : Nat)] H (.string (bs (digB n))) H := by
  refine flat_ex rfl ?_
  refine sim_ex tok mixed Tryz.func166 rfl (by kernel_rfl) (by kernel_rfl) (by simp only [Tryz.ntmps166, List.size_toArray, List.length_cons, List.length_nil]; omega) ?_
  simp -implicitDefEqProofs only [go_sem, Nat.reduceAdd, Nat.reduceSub, Nat.reduceMul, Nat.reduceLT, Nat.reduceLeDiff, Nat.reduceEqDiff, Nat.reduceBEq, Nat.reduceGT, Nat.reduceMod, Nat.reduceDiv, ↓reduceIte, reduceCtorEq, Int.reduceLE, Int.reduceLT, Int.reduceToNat, Int.reduceEq, Int.reduceNeg, Int.reduceAdd, Int.reduceSub, Int.reduceMul]
  by_cases h256 : n < 256
  · have e : (n : Int) < 256 := by omega
    by_cases h0 : n = 0
    · subst h0
      rw [digB_zero]
      simp -implicitDefEqProofs only [go_sem, Nat.reduceAdd, Nat.reduceSub, Nat.reduceMul, Nat.reduceLT, Nat.reduceLeDiff, Nat.reduceEqDiff, Nat.reduceBEq, Nat.reduceGT, Nat.reduceMod, Nat.reduceDiv, ↓reduceIte, reduceCtorEq, Int.reduceLE, Int.reduceLT, Int.reduceToNat, Int.reduceEq, Int.reduceNeg, Int.reduceAdd, Int.reduceSub, Int.reduceMul, wa_cond, axC_t, axC_f, res166]
      first | exact .refl _ | exact ⟨.refl _, rfl⟩
    · have e2 : ¬ (n : Int) = 0 := by omega
      have a2 := low_u8 n
      have hrd : rd (H ++ [⟨u8s [UInt8.ofNat n], 1, true⟩]) H.length 0 1 = some (u8s [UInt8.ofNat n]) := by simp [rd, u8s]
      have hb := bytesOf_u8s [UInt8.ofNat n]
      unfold u8s at hrd hb
      simp only [List.map_cons, List.map_nil] at hrd hb
      simp -implicitDefEqProofs only [go_sem, Nat.reduceAdd, Nat.reduceSub, Nat.reduceMul, Nat.reduceLT, Nat.reduceLeDiff, Nat.reduceEqDiff, Nat.reduceBEq, Nat.reduceGT, Nat.reduceMod, Nat.reduceDiv, ↓reduceIte, reduceCtorEq, Int.reduceLE, Int.reduceLT, Int.reduceToNat, Int.reduceEq, Int.reduceNeg, Int.reduceAdd, Int.reduceSub, Int.reduceMul, wa_cond, axC_t, axC_f, e, e2, aConv, a2, byte1, hrd, hb, res166]
      rw [digB_one h0 h256]
      first | exact .app _ _ | exact ⟨.app _ _, rfl⟩
  have e : ¬ (n : Int) < 256 := by omega
  have h0 : 0 < n := by omega
  simp -implicitDefEqProofs only [go_sem, Nat.reduceAdd, Nat.reduceSub, Nat.reduceMul, Nat.reduceLT, Nat.reduceLeDiff, Nat.reduceEqDiff, Nat.reduceBEq, Nat.reduceGT, Nat.reduceMod, Nat.reduceDiv, ↓reduceIte, reduceCtorEq, Int.reduceLE, Int.reduceLT, Int.reduceToNat, Int.reduceEq, Int.reduceNeg, Int.reduceAdd, Int.reduceSub, Int.reduceMul, wa_cond, axC_t, axC_f, e]
  refine ax_loopx (fun (r : Nat) s T => ∃ (i : Nat) (o : List UInt8), s 0 = .int .i64 (r : Nat) ∧ s 3 = .pointer (some ⟨H.length, 0, none⟩) ∧ s 4 = .int .i64 (i : Nat) ∧ i ≤ 8 ∧ o.length = 8 ∧ r < 256 ^ i ∧ r < 9223372036854775808 ∧ digB n = digB r ++ o.drop i ∧ (r = 0 → i < 8) ∧
    T = H ++ [⟨u8s o, 1, true⟩]) id n ?_ ?_
  · refine ⟨8, List.replicate 8 0, ?_⟩
    simp -implicitDefEqProofs only [go_sem, Nat.reduceAdd, Nat.reduceSub, Nat.reduceMul, Nat.reduceLT, Nat.reduceLeDiff, Nat.reduceEqDiff, Nat.reduceBEq, Nat.reduceGT, Nat.reduceMod, Nat.reduceDiv, ↓reduceIte, reduceCtorEq, Int.reduceLE, Int.reduceLT, Int.reduceToNat, Int.reduceEq, Int.reduceNeg, Int.reduceAdd, Int.reduceSub, Int.reduceMul]
    exact ⟨rfl, by simp, by rw [show 256 ^ 8 = 18446744073709551616 from rfl]; omega, hn, by simp, by omega, rfl⟩
  rintro r s T ⟨i, o, s0, s3, s4, hi, ho, hr, hr2, hd, h8, hT⟩
  subst T
  simp -implicitDefEqProofs only [go_sem, Nat.reduceAdd, Nat.reduceSub, Nat.reduceMul, Nat.reduceLT, Nat.reduceLeDiff, Nat.reduceEqDiff, Nat.reduceBEq, Nat.reduceGT, Nat.reduceMod, Nat.reduceDiv, ↓reduceIte, reduceCtorEq, Int.reduceLE, Int.reduceLT, Int.reduceToNat, Int.reduceEq, Int.reduceNeg, Int.reduceAdd, Int.reduceSub, Int.reduceMul, s0]
  refine ax_cond2 ?_
  simp only [ev_tmp, ev_const, ev_func, upd_at, put_some, put_none, bndB_bool, Nat.reduceEqDiff, if_true, if_false, ↓reduceIte, reduceCtorEq]
  refine ⟨fun hc0 => have hc := of_decide_eq_true hc0; ?_, fun hc0 => have hc := of_decide_eq_false hc0; ?_⟩
  · have hr0 : r ≠ 0 := by omega
    obtain ⟨i, rfl⟩ : ∃ i', i = i' + 1 := ⟨i - 1, by
      cases i with
      | zero => simp at hr; omega
      | succ i => omega⟩
    have a1 : IntKind.i64.wrap (((i + 1 : Nat) : Int) - 1) = (i : Int) := by rw [castS]; exact w64 (by omega) (by omega)
    have a2 := low_u8 r
    have a3 := fdiv_pow r 8
    have hi2 : (0 : Int) ≤ (i : Int) ∧ (i : Int) < ((8 : Nat) : Int) := by omega
    have hw := u8_wr (L := []) (l := o) (k := i) (b := UInt8.ofNat r) (by omega)
    have hd8 : ¬ ((8 : Int) < 0) := by omega
    simp -implicitDefEqProofs only [go_sem, Nat.reduceAdd, Nat.reduceSub, Nat.reduceMul, Nat.reduceLT, Nat.reduceLeDiff, Nat.reduceEqDiff, Nat.reduceBEq, Nat.reduceGT, Nat.reduceMod, Nat.reduceDiv, ↓reduceIte, reduceCtorEq, Int.reduceLE, Int.reduceLT, Int.reduceToNat, Int.reduceEq, Int.reduceNeg, Int.reduceAdd, Int.reduceSub, Int.reduceMul, s0, s3, s4, a1, aConv, a2, aIndexAddr, hi2, Nat.mul_one, hw, a3, hd8, show min 8 64 = 8 from rfl]
    refine ⟨r / 2 ^ 8, ⟨i, o.set i (UInt8.ofNat r), ?_⟩, Nat.div_lt_self (by omega) (by decide)⟩
    refine ⟨rfl, rfl, by omega, by simpa using ho, ?_, by omega, ?_, by omega, rfl⟩
    · rw [Nat.div_lt_iff_lt_mul (by decide)]
      rw [Nat.pow_succ] at hr
      exact hr
    · rw [hd, digB_step hr0, List.append_assoc]
      congr 1
      rw [List.drop_eq_getElem_cons (l := o.set i (UInt8.ofNat r)) (i := i) (by simp; omega), List.getElem_set_self, List.drop_set_of_lt (by omega)]
      rfl
  · have hr0 : r = 0 := by omega
    subst hr0
    have hi8 := h8 rfl
    rw [digB_zero, List.nil_append] at hd
    have hs : aSlice tt (H ++ [⟨u8s o, 1, true⟩]) 204 (.pointer (some ⟨H.length, 0, none⟩)) (some (.int .i64 (i : Nat))) none none = some (.slice (some ⟨H.length, i, none⟩) (8 - i) (8 - i)) := by
      simp only [aSlice, tt204, sizeT, tt5, bnd, Option.map_some, Int.toNat_natCast]
      simp [show i ≤ 8 by omega, hi8]
    have hrd := u8_rd (L := []) (l := o) (k := i) (n := 8 - i) (by omega)
    simp -implicitDefEqProofs only [go_sem, Nat.reduceAdd, Nat.reduceSub, Nat.reduceMul, Nat.reduceLT, Nat.reduceLeDiff, Nat.reduceEqDiff, Nat.reduceBEq, Nat.reduceGT, Nat.reduceMod, Nat.reduceDiv, ↓reduceIte, reduceCtorEq, Int.reduceLE, Int.reduceLT, Int.reduceToNat, Int.reduceEq, Int.reduceNeg, Int.reduceAdd, Int.reduceSub, Int.reduceMul, s3, s4, hs, aConv, hrd, bytesOf_u8s, res166]
    rw [hd]
    first | exact .app _ _ | exact ⟨.app _ _, rfl⟩
theorem ofR (H : Heap) {z : Int} (h1 : -9223372036854775808 ≤ z) (h2 : z < 9223372036854775808) : Sim Tryz.prog 102 #[.int .i64 z] H (mkI z) H := by
  refine flat_ex (flat_mkI z) ?_
  have b106 : ∀ s : ByteArray, aBuild tt 106 [(1, .string s)] = some (.agg #[.bool false, .string s]) := fun _ => rfl
  by_cases hz : 0 ≤ z
  · have o1 := fun H => magR H (n := z.natAbs) (by omega)
    rw [show ((z.natAbs : Nat) : Int) = z by omega] at o1
    have e : ¬ z < 0 := by omega
    unfold mkI iV
    refine sim_ex tok mixed Tryz.func102 rfl (by kernel_rfl) (by kernel_rfl) (by simp only [Tryz.ntmps102, List.size_toArray, List.length_cons, List.length_nil]; omega) ?_
    simp -implicitDefEqProofs only [go_sem, Nat.reduceAdd, Nat.reduceSub, Nat.reduceMul, Nat.reduceLT, Nat.reduceLeDiff, Nat.reduceEqDiff, Nat.reduceBEq, Nat.reduceGT, Nat.reduceMod, Nat.reduceDiv, ↓reduceIte, reduceCtorEq, Int.reduceLE, Int.reduceLT, Int.reduceToNat, Int.reduceEq, Int.reduceNeg, Int.reduceAdd, Int.reduceSub, Int.reduceMul, wa_cond, axC_t, axC_f, hz]
    refine wl_callV _ (by simp -implicitDefEqProofs only [go_sem, Nat.reduceAdd, Nat.reduceSub, Nat.reduceMul, Nat.reduceLT, Nat.reduceLeDiff, Nat.reduceEqDiff, Nat.reduceBEq, Nat.reduceGT, Nat.reduceMod, Nat.reduceDiv, ↓reduceIte, reduceCtorEq, Int.reduceLE, Int.reduceLT, Int.reduceToNat, Int.reduceEq, Int.reduceNeg, Int.reduceAdd, Int.reduceSub, Int.reduceMul]) (o1 _) ?_
    simp -implicitDefEqProofs only [go_sem, Nat.reduceAdd, Nat.reduceSub, Nat.reduceMul, Nat.reduceLT, Nat.reduceLeDiff, Nat.reduceEqDiff, Nat.reduceBEq, Nat.reduceGT, Nat.reduceMod, Nat.reduceDiv, ↓reduceIte, reduceCtorEq, Int.reduceLE, Int.reduceLT, Int.reduceToNat, Int.reduceEq, Int.reduceNeg, Int.reduceAdd, Int.reduceSub, Int.reduceMul, b106, e, res102]
    first | exact .app _ _ | exact ⟨.app _ _, rfl⟩
  · have e : z < 0 := by omega
    by_cases hm : z = -9223372036854775808
    · subst hm
      have a1 : IntKind.i64.wrap 9223372036854775808 = -9223372036854775808 := by decide
      have hd : digB (Int.natAbs (-9223372036854775808)) = [128, 0, 0, 0, 0, 0, 0, 0] := by decide +kernel
      unfold mkI iV
      rw [hd]
      refine sim_ex tok mixed Tryz.func102 rfl (by kernel_rfl) (by kernel_rfl) (by simp only [Tryz.ntmps102, List.size_toArray, List.length_cons, List.length_nil]; omega) ?_
      simp -implicitDefEqProofs only [go_sem, Nat.reduceAdd, Nat.reduceSub, Nat.reduceMul, Nat.reduceLT, Nat.reduceLeDiff, Nat.reduceEqDiff, Nat.reduceBEq, Nat.reduceGT, Nat.reduceMod, Nat.reduceDiv, ↓reduceIte, reduceCtorEq, Int.reduceLE, Int.reduceLT, Int.reduceToNat, Int.reduceEq, Int.reduceNeg, Int.reduceAdd, Int.reduceSub, Int.reduceMul, wa_cond, axC_t, axC_f, a1, res102]
      first | exact .app _ _ | exact ⟨.app _ _, rfl⟩
    · have a1 : IntKind.i64.wrap (0 - z) = -z := by rw [w64 (by omega) (by omega)]; omega
      have e2 : ¬ z = -z := by omega
      have o1 := fun H => magR H (n := z.natAbs) (by omega)
      rw [show ((z.natAbs : Nat) : Int) = -z by omega] at o1
      unfold mkI iV
      refine sim_ex tok mixed Tryz.func102 rfl (by kernel_rfl) (by kernel_rfl) (by simp only [Tryz.ntmps102, List.size_toArray, List.length_cons, List.length_nil]; omega) ?_
      simp -implicitDefEqProofs only [go_sem, Nat.reduceAdd, Nat.reduceSub, Nat.reduceMul, Nat.reduceLT, Nat.reduceLeDiff, Nat.reduceEqDiff, Nat.reduceBEq, Nat.reduceGT, Nat.reduceMod, Nat.reduceDiv, ↓reduceIte, reduceCtorEq, Int.reduceLE, Int.reduceLT, Int.reduceToNat, Int.reduceEq, Int.reduceNeg, Int.reduceAdd, Int.reduceSub, Int.reduceMul, wa_cond, axC_t, axC_f, hz, a1, e2]
      refine wl_callV _ (by simp -implicitDefEqProofs only [go_sem, Nat.reduceAdd, Nat.reduceSub, Nat.reduceMul, Nat.reduceLT, Nat.reduceLeDiff, Nat.reduceEqDiff, Nat.reduceBEq, Nat.reduceGT, Nat.reduceMod, Nat.reduceDiv, ↓reduceIte, reduceCtorEq, Int.reduceLE, Int.reduceLT, Int.reduceToNat, Int.reduceEq, Int.reduceNeg, Int.reduceAdd, Int.reduceSub, Int.reduceMul]) (o1 _) ?_
      simp -implicitDefEqProofs only [go_sem, Nat.reduceAdd, Nat.reduceSub, Nat.reduceMul, Nat.reduceLT, Nat.reduceLeDiff, Nat.reduceEqDiff, Nat.reduceBEq, Nat.reduceGT, Nat.reduceMod, Nat.reduceDiv, ↓reduceIte, reduceCtorEq, Int.reduceLE, Int.reduceLT, Int.reduceToNat, Int.reduceEq, Int.reduceNeg, Int.reduceAdd, Int.reduceSub, Int.reduceMul, e, res102]
      first | exact .app _ _ | exact ⟨.app _ _, rfl⟩
theorem negR (H : Heap) (g : Bool) (m : List UInt8) : Sim Tryz.prog 163 #[iV g m] H (mkI (-(ival g m))) H := by
  refine flat_ex (flat_mkI _) ?_
  have o1 := fun H => canonR H g m
  generalize ival g m = z at *
  have hne : bs (digB z.natAbs) = bs [] ↔ z = 0 := by rw [bs_inj, digB_nil_iff]; omega
  have hn : mkI (-z) = .agg #[.bool (!decide (z < 0) && decide (z ≠ 0)), .string (bs (digB z.natAbs))] := by
    unfold mkI iV
    rw [Int.natAbs_neg]
    congr 3
    by_cases h1 : z < 0
    · have : ¬ -z < 0 := by omega
      simp [h1, this]; omega
    · by_cases h2 : z = 0
      · subst h2; rfl
      · have : -z < 0 := by omega
        simp [h1, h2, this]; omega
  rw [hn]
  unfold mkI iV at *
  refine sim_ex tok mixed Tryz.func163 rfl (by kernel_rfl) (by kernel_rfl) (by simp only [Tryz.ntmps163, List.size_toArray, List.length_cons, List.length_nil]; omega) ?_
  simp -implicitDefEqProofs only [go_sem, Nat.reduceAdd, Nat.reduceSub, Nat.reduceMul, Nat.reduceLT, Nat.reduceLeDiff, Nat.reduceEqDiff, Nat.reduceBEq, Nat.reduceGT, Nat.reduceMod, Nat.reduceDiv, ↓reduceIte, reduceCtorEq, Int.reduceLE, Int.reduceLT, Int.reduceToNat, Int.reduceEq, Int.reduceNeg, Int.reduceAdd, Int.reduceSub, Int.reduceMul]
  refine wl_callV _ (by simp -implicitDefEqProofs only [go_sem, Nat.reduceAdd, Nat.reduceSub, Nat.reduceMul, Nat.reduceLT, Nat.reduceLeDiff, Nat.reduceEqDiff, Nat.reduceBEq, Nat.reduceGT, Nat.reduceMod, Nat.reduceDiv, ↓reduceIte, reduceCtorEq, Int.reduceLE, Int.reduceLT, Int.reduceToNat, Int.reduceEq, Int.reduceNeg, Int.reduceAdd, Int.reduceSub, Int.reduceMul]) (o1 _) ?_
  by_cases h1 : z < 0
  · simp -implicitDefEqProofs only [go_sem, Nat.reduceAdd, Nat.reduceSub, Nat.reduceMul, Nat.reduceLT, Nat.reduceLeDiff, Nat.reduceEqDiff, Nat.reduceBEq, Nat.reduceGT, Nat.reduceMod, Nat.reduceDiv, ↓reduceIte, reduceCtorEq, Int.reduceLE, Int.reduceLT, Int.reduceToNat, Int.reduceEq, Int.reduceNeg, Int.reduceAdd, Int.reduceSub, Int.reduceMul, h1, Bool.false_and, res163]
    first | exact .app _ _ | exact ⟨.app _ _, rfl⟩
  · simp -implicitDefEqProofs only [go_sem, Nat.reduceAdd, Nat.reduceSub, Nat.reduceMul, Nat.reduceLT, Nat.reduceLeDiff, Nat.reduceEqDiff, Nat.reduceBEq, Nat.reduceGT, Nat.reduceMod, Nat.reduceDiv, ↓reduceIte, reduceCtorEq, Int.reduceLE, Int.reduceLT, Int.reduceToNat, Int.reduceEq, Int.reduceNeg, Int.reduceAdd, Int.reduceSub, Int.reduceMul, h1, hne, Bool.true_and, res163]
    first | exact .app _ _ | exact ⟨.app _ _, rfl⟩
end Go.Proofs.YthhmkaikopdmjaaGreat
namespace Go.Proofs.YthhmkaikopdmjaaGreat
open Go Go.Fw
def dgt (l : List UInt8) (k : Nat) : Nat := if h : k < l.length then (l[l.length - 1 - k]'(by omega)).toNat else 0
def lowB (l : List UInt8) (k : Nat) : Nat := valB (l.drop (l.length - k))
theorem dgt_lt (l : List UInt8) (k : Nat) : dgt l k < 256 := by unfold dgt; split; exact UInt8.toNat_lt _; omega
theorem lowB_zero (l : List UInt8) : lowB l 0 = 0 := by simp [lowB, valB]
theorem lowB_all {l : List UInt8} {k : Nat} (h : l.length ≤ k) : lowB l k = valB l := by unfold lowB; rw [show l.length - k = 0 by omega, List.drop_zero]
theorem lowB_succ (l : List UInt8) (k : Nat) : lowB l (k + 1) = lowB l k + 256 ^ k * dgt l k := by
  unfold dgt
  by_cases h : k < l.length
  · rw [dif_pos h]
    unfold lowB
    rw [List.drop_eq_getElem_cons (show l.length - (k + 1) < l.length by omega), valB_cons]
    have e : l.length - (k + 1) + 1 = l.length - k := by omega
    have e2 : (l.drop (l.length - k)).length = k := by simp; omega
    rw [e, e2, Nat.mul_comm, Nat.add_comm]
    congr 3
    congr 1
    omega
  · rw [dif_neg h, lowB_all (by omega), lowB_all (by omega), Nat.mul_zero, Nat.add_zero]
theorem dgt_at {l : List UInt8} {k : Nat} (h : k < l.length) : ∃ b : UInt8, l[l.length - 1 - k]? = some b ∧ b.toNat = dgt l k := by
  refine ⟨l[l.length - 1 - k]'(by omega), List.getElem?_eq_getElem (by omega), ?_⟩
  unfold dgt
  rw [dif_pos h]
theorem dgt_zero {l : List UInt8} {k : Nat} (h : ¬ k < l.length) : dgt l k = 0 := by unfold dgt; rw [dif_neg h]
theorem lowB_set {o : List UInt8} {k : Nat} (h : k < o.length) (b : UInt8) : lowB (o.set (o.length - 1 - k) b) (k + 1) = lowB o k + 256 ^ k * b.toNat := by
  rw [lowB_succ]
  congr 1
  · unfold lowB
    rw [List.length_set, List.drop_set_of_lt (by omega)]
  · unfold dgt
    rw [dif_pos (by simpa using h)]
    simp
theorem sum_step8 {A B C p c x y : Nat} (h : A + p * c = B + C) : A + p * ((c + x + y) % 256) + p * 256 * ((c + x + y) / 256) = (B + p * x) + (C + p * y) := by
  have e := Nat.mod_add_div (c + x + y) 256
  have e2 : p * ((c + x + y) % 256) + p * 256 * ((c + x + y) / 256) = p * (c + x + y) := by
    rw [Nat.mul_assoc, ← Nat.mul_add, e]
  rw [Nat.add_assoc, e2, Nat.mul_add, Nat.mul_add]
  omega
theorem make_u8 (H : Heap) (n : Nat) (h : n ≤ 10000000) : aMakeSlice tt H 203 (.int .i64 (n : Nat)) (.int .i64 (n : Nat)) = some (.slice (some ⟨H.length, 0, none⟩) n n, H ++ [⟨u8s (List.replicate n 0), 1, true⟩]) := by
  unfold aMakeSlice
  simp only [tt203, tt5]
  rw [if_pos (by omega)]
  by_cases h0 : n = 0
  · subst h0
    simp [zerosL, u8s]
  · simp only [Int.toNat_natCast, Nat.mul_one, if_neg h0, cells_int]
    rw [zerosL_one]
    simp [u8s]
theorem addMagR (H : Heap) {l m : List UInt8} (hl : l.length ≤ 1000000) (hm : m.length ≤ 1000000) :
    Sim Tryz.prog 222 #[.string (bs l), .string (bs m)] H (.string (bs (digB (valB l + valB m)))) H := by
  refine flat_ex rfl ?_
  obtain ⟨n, hn⟩ : ∃ n, n = max l.length m.length + 1 := ⟨_, rfl⟩
  have hmx : ∀ H, aBuiltin tt H .max [3, 3] [.int .i64 (l.length : Nat), .int .i64 (m.length : Nat)] = some (.int .i64 ((n - 1 : Nat) : Int), H) := by
    intro H
    unfold aBuiltin
    by_cases h : m.length > l.length
    · have e : ((n - 1 : Nat) : Int) = (m.length : Int) := by omega
      have h2 : (m.length : Int) > (l.length : Int) := by omega
      simp [maxInts, h2, e]
    · have e : ((n - 1 : Nat) : Int) = (l.length : Int) := by omega
      have h2 : ¬ (m.length : Int) > (l.length : Int) := by omega
      simp [maxInts, h2, e]
  have a1 : IntKind.i64.wrap (((n - 1 : Nat) : Int) + 1) = (n : Int) := by rw [w64 (by omega) (by omega)]; omega
  refine sim_ex tok mixed Tryz.func222 rfl (by kernel_rfl) (by kernel_rfl) (by simp only [Tryz.ntmps222, List.size_toArray, List.length_cons, List.length_nil]; omega) ?_
  simp -implicitDefEqProofs only [go_sem, simprocAttr, -Int.reducePow, -Nat.reducePow, aLen, hmx, a1, make_u8 H n (by omega)]
  refine ax_loopx (fun (i : Nat) s T => ∃ (o : List UInt8) (c : Nat), s 0 = .string (bs l) ∧ s 1 = .string (bs m) ∧ s 5 = .int .i64 (n : Nat) ∧ s 6 = .slice (some ⟨H.length, 0, none⟩) n n ∧ s 7 = .int .i64 (c : Nat) ∧ s 8 = .int .i64 ((i + 1 : Nat) : Int) ∧
    i ≤ n ∧ c ≤ 1 ∧ o.length = n ∧ lowB o i + 256 ^ i * c = lowB l i + lowB m i ∧ T = H ++ [⟨u8s o, 1, true⟩]) (fun i => n - i) 0 ?_ ?_
  · refine ⟨List.replicate n 0, 0, ?_⟩
    simp -implicitDefEqProofs only [go_sem, simprocAttr, -Int.reducePow, -Nat.reducePow]
    exact ⟨by simp, by simp [lowB_zero]⟩
  rintro i s T ⟨o, c, s0, s1, s5, s6, s7, s8, hi, hc, ho, hinv, rfl⟩
  simp -implicitDefEqProofs only [go_sem, simprocAttr, -Int.reducePow, -Nat.reducePow, s5, s8]
  refine ax_cond2 ?_
  simp only [ev_tmp, ev_const, ev_func, upd_at, put_some, put_none, bndB_bool, Nat.reduceEqDiff, if_true, if_false, ↓reduceIte, reduceCtorEq]
  refine ⟨fun hc0 => have hlt := of_decide_eq_true hc0; ?_, fun hc0 => have hlt := of_decide_eq_false hc0; ?_⟩
  · have hin : i < n := by omega
    have hst := sum_step8 (x := dgt l i) (y := dgt m i) hinv
    rw [← lowB_succ, ← lowB_succ] at hst
    have hx := dgt_lt l i
    have hy := dgt_lt m i
    have hlc : ((i + 1 : Nat) : Int) ≤ (l.length : Int) ↔ i < l.length := by omega
    have hmc : ((i + 1 : Nat) : Int) ≤ (m.length : Int) ↔ i < m.length := by omega
    simp -implicitDefEqProofs only [go_sem, simprocAttr, -Int.reducePow, -Nat.reducePow, s0, s8, aLen]
    refine ax_mid (fun s T => s 0 = .string (bs l) ∧ s 1 = .string (bs m) ∧ s 5 = .int .i64 (n : Nat) ∧ s 6 = .slice (some ⟨H.length, 0, none⟩) n n ∧ s 7 = .int .i64 ((c + dgt l i : Nat) : Int) ∧ s 8 = .int .i64 ((i + 1 : Nat) : Int) ∧ T = H ++ [⟨u8s o, 1, true⟩]) ?_ ?_
    · by_cases h : i < l.length
      · obtain ⟨b, hb1, hb2⟩ := dgt_at h
        have a2 : IntKind.i64.wrap ((l.length : Int) - ((i + 1 : Nat) : Int)) = ((l.length - 1 - i : Nat) : Int) := by rw [w64 (by omega) (by omega)]; omega
        have a3 : IntKind.i64.wrap ((b.toNat : Nat) : Int) = ((b.toNat : Nat) : Int) := w64n (by omega)
        have a4 : IntKind.i64.wrap ((c : Int) + (b.toNat : Int)) = ((c + dgt l i : Nat) : Int) := by rw [w64 (by omega) (by omega)]; omega
        have hnn : (0 : Int) ≤ ((l.length - 1 - i : Nat) : Int) := by omega
        have h1 := hlc.2 h
        simp -implicitDefEqProofs only [go_sem, simprocAttr, -Int.reducePow, -Nat.reducePow, wa_cond, axC_t, axC_f, h1, s0, s1, s5, s6, s7, s8, aLen, a2, hnn, hb1, aConv, a3, a4]
      · have h1 : ¬ ((i + 1 : Nat) : Int) ≤ (l.length : Int) := fun hh => h (hlc.1 hh)
        rw [dgt_zero h]
        simp -implicitDefEqProofs only [go_sem, simprocAttr, -Int.reducePow, -Nat.reducePow, wa_cond, axC_t, axC_f, h1, s0, s1, s5, s6, s7, s8]
    clear s0 s1 s5 s6 s7 s8
    rintro s T ⟨s0, s1, s5, s6, s7, s8, rfl⟩
    simp -implicitDefEqProofs only [go_sem, simprocAttr, -Int.reducePow, -Nat.reducePow, s1, s8, aLen]
    refine ax_mid (fun s T => s 0 = .string (bs l) ∧ s 1 = .string (bs m) ∧ s 5 = .int .i64 (n : Nat) ∧ s 6 = .slice (some ⟨H.length, 0, none⟩) n n ∧ s 7 = .int .i64 ((c + dgt l i + dgt m i : Nat) : Int) ∧ s 8 = .int .i64 ((i + 1 : Nat) : Int) ∧ T = H ++ [⟨u8s o, 1, true⟩]) ?_ ?_
    · by_cases h : i < m.length
      · obtain ⟨b, hb1, hb2⟩ := dgt_at h
        have a2 : IntKind.i64.wrap ((m.length : Int) - ((i + 1 : Nat) : Int)) = ((m.length - 1 - i : Nat) : Int) := by rw [w64 (by omega) (by omega)]; omega
        have a3 : IntKind.i64.wrap ((b.toNat : Nat) : Int) = ((b.toNat : Nat) : Int) := w64n (by omega)
        have a4 : IntKind.i64.wrap (((c + dgt l i : Nat) : Int) + (b.toNat : Int)) = ((c + dgt l i + dgt m i : Nat) : Int) := by rw [w64 (by omega) (by omega)]; omega
        have hnn : (0 : Int) ≤ ((m.length - 1 - i : Nat) : Int) := by omega
        have h1 := hmc.2 h
        simp -implicitDefEqProofs only [go_sem, simprocAttr, -Int.reducePow, -Nat.reducePow, wa_cond, axC_t, axC_f, h1, s0, s1, s5, s6, s7, s8, aLen, a2, hnn, hb1, aConv, a3, a4]
      · have h1 : ¬ ((i + 1 : Nat) : Int) ≤ (m.length : Int) := fun hh => h (hmc.1 hh)
        rw [dgt_zero h]
        simp -implicitDefEqProofs only [go_sem, simprocAttr, -Int.reducePow, -Nat.reducePow, wa_cond, axC_t, axC_f, h1, s0, s1, s5, s6, s7, s8, Nat.add_zero]
    clear s0 s1 s5 s6 s7 s8
    rintro s T ⟨s0, s1, s5, s6, s7, s8, rfl⟩
    have a5 : IntKind.i64.wrap ((n : Int) - ((i + 1 : Nat) : Int)) = ((o.length - 1 - i : Nat) : Int) := by rw [w64 (by omega) (by omega)]; omega
    have a6 := low_u8 (c + dgt l i + dgt m i)
    have a7 := fdiv_pow (c + dgt l i + dgt m i) 8
    have hd8 : ¬ ((8 : Int) < 0) := by omega
    have a8 : IntKind.i64.wrap (((i + 1 : Nat) : Int) + 1) = ((i + 1 + 1 : Nat) : Int) := by rw [w64 (by omega) (by omega)]; rfl
    have hi2 : (0 : Int) ≤ ((o.length - 1 - i : Nat) : Int) ∧ ((o.length - 1 - i : Nat) : Int) < (n : Int) := by omega
    have hw := u8_wr (L := []) (l := o) (k := o.length - 1 - i) (b := UInt8.ofNat (c + dgt l i + dgt m i)) (by omega)
    have hset := lowB_set (o := o) (k := i) (by omega) (UInt8.ofNat (c + dgt l i + dgt m i))
    have hby : (UInt8.ofNat (c + dgt l i + dgt m i)).toNat = (c + dgt l i + dgt m i) % 256 := by simp
    rw [hby] at hset
    simp -implicitDefEqProofs only [go_sem, simprocAttr, -Int.reducePow, -Nat.reducePow, s0, s1, s5, s6, s7, s8, a5, aConv, a6, aIndexAddr, hi2, Nat.mul_one, hw, a7, hd8, show min 8 64 = 8 from rfl, a8]
    refine ⟨i + 1, ⟨o.set (o.length - 1 - i) (UInt8.ofNat (c + dgt l i + dgt m i)), (c + dgt l i + dgt m i) / 2 ^ 8, rfl, rfl, by omega, by omega, by simpa using ho, ?_, rfl⟩, by omega⟩
    rw [hset, Nat.pow_succ]
    exact hst
  · have hin : i = n := by omega
    subst hin
    have hvo := valB_lt o
    have hvl := valB_lt l
    have hvm := valB_lt m
    rw [lowB_all (by omega), lowB_all (by omega), lowB_all (by omega)] at hinv
    have p1 : 256 ^ l.length ≤ 256 ^ (i - 1) := Nat.pow_le_pow_right (by decide) (by omega)
    have p2 : 256 ^ m.length ≤ 256 ^ (i - 1) := Nat.pow_le_pow_right (by decide) (by omega)
    have p3 : 256 ^ i = 256 * 256 ^ (i - 1) := by rw [Nat.mul_comm, ← Nat.pow_succ]; congr 1; omega
    have hc0 : c = 0 := by
      rcases Nat.eq_zero_or_pos c with h | h
      · exact h
      · have : c = 1 := by omega
        subst this
        rw [p3] at hinv
        omega
    subst hc0
    rw [Nat.mul_zero, Nat.add_zero] at hinv
    have hrd := u8_rd (L := []) (l := o) (k := 0) (n := i) (by omega)
    rw [List.drop_zero] at hrd
    have o1 := fun H => trimR H o
    rw [digB_strip, hinv] at o1
    unfold bs at o1
    simp -implicitDefEqProofs only [go_sem, simprocAttr, -Int.reducePow, -Nat.reducePow, s6, aConv, hrd, bytesOf_u8s]
    refine wl_callV _ (by simp -implicitDefEqProofs only [go_sem, simprocAttr, -Int.reducePow, -Nat.reducePow]) (o1 _) ?_
    simp -implicitDefEqProofs only [go_sem, simprocAttr, -Int.reducePow, -Nat.reducePow, res222]
    first | exact .app _ _ | exact ⟨.app _ _, rfl⟩
end Go.Proofs.YthhmkaikopdmjaaGreat
namespace Go.Proofs.YthhmkaikopdmjaaGreat
open Go Go.Fw
theorem sub_step8 {Lo Lm Ll p c x y b c' : Nat} (h : Lo + Lm = Ll + p * c) (hb : b + y + c = x + 256 * c') : (Lo + p * b) + (Lm + p * y) = (Ll + p * x) + p * 256 * c' := by
  have := congrArg (p * ·) hb
  simp only [Nat.mul_add] at this
  rw [Nat.mul_assoc]
  omega
theorem subMagR (H : Heap) {l m : List UInt8} (hl : l.length ≤ 1000000) (hm : m.length ≤ l.length) (hle : valB m ≤ valB l) :
    Sim Tryz.prog 224 #[.string (bs l), .string (bs m)] H (.string (bs (digB (valB l - valB m)))) H := by
  refine flat_ex rfl ?_
  refine sim_ex tok mixed Tryz.func224 rfl (by kernel_rfl) (by kernel_rfl) (by simp only [Tryz.ntmps224, List.size_toArray, List.length_cons, List.length_nil]; omega) ?_
  simp -implicitDefEqProofs only [go_sem, simprocAttr, aLen, make_u8 H l.length (by omega)]
  refine ax_loopx (fun (i : Nat) s T => ∃ (o : List UInt8) (c : Nat), s 0 = .string (bs l) ∧ s 1 = .string (bs m) ∧ s 5 = .slice (some ⟨H.length, 0, none⟩) l.length l.length ∧ s 6 = .int .i64 (c : Nat) ∧ s 7 = .int .i64 ((i + 1 : Nat) : Int) ∧
    i ≤ l.length ∧ c ≤ 1 ∧ o.length = l.length ∧ lowB o i + lowB m i = lowB l i + 256 ^ i * c ∧ T = H ++ [⟨u8s o, 1, true⟩]) (fun i => l.length - i) 0 ?_ ?_
  · refine ⟨List.replicate l.length 0, 0, ?_⟩
    simp -implicitDefEqProofs only [go_sem, simprocAttr]
    exact ⟨by simp, by simp [lowB_zero]⟩
  rintro i s T ⟨o, c, s0, s1, s5, s6, s7, hi, hc, ho, hinv, rfl⟩
  simp -implicitDefEqProofs only [go_sem, simprocAttr, s0, s7, aLen]
  refine ax_cond2 ?_
  simp only [ev_tmp, ev_const, ev_func, upd_at, put_some, put_none, bndB_bool, Nat.reduceEqDiff, if_true, if_false, ↓reduceIte, reduceCtorEq]
  refine ⟨fun hc0 => have hlt := of_decide_eq_true hc0; ?_, fun hc0 => have hlt := of_decide_eq_false hc0; ?_⟩
  · have hin : i < l.length := by omega
    have hx := dgt_lt l i
    have hy := dgt_lt m i
    obtain ⟨b, hb1, hb2⟩ := dgt_at hin
    have hmc : ((i + 1 : Nat) : Int) ≤ (m.length : Int) ↔ i < m.length := by omega
    have a2 : IntKind.i64.wrap ((l.length : Int) - ((i + 1 : Nat) : Int)) = ((l.length - 1 - i : Nat) : Int) := by rw [w64 (by omega) (by omega)]; omega
    have a3 : IntKind.i64.wrap ((b.toNat : Nat) : Int) = ((b.toNat : Nat) : Int) := w64n (by omega)
    have a4 : IntKind.i64.wrap ((b.toNat : Int) - (c : Int)) = ((dgt l i : Nat) : Int) - (c : Int) := by rw [w64 (by omega) (by omega)]; omega
    have hnn : (0 : Int) ≤ ((l.length - 1 - i : Nat) : Int) := by omega
    simp -implicitDefEqProofs only [go_sem, simprocAttr, s0, s1, s5, s6, s7, aLen, a2, hnn, hb1, aConv, a3, a4]
    refine ax_mid (fun s T => s 0 = .string (bs l) ∧ s 1 = .string (bs m) ∧ s 5 = .slice (some ⟨H.length, 0, none⟩) l.length l.length ∧ s 7 = .int .i64 ((i + 1 : Nat) : Int) ∧ s 8 = .int .i64 (((dgt l i : Nat) : Int) - (c : Int) - ((dgt m i : Nat) : Int)) ∧ T = H ++ [⟨u8s o, 1, true⟩]) ?_ ?_
    · by_cases h : i < m.length
      · obtain ⟨b', hb1', hb2'⟩ := dgt_at h
        have a2' : IntKind.i64.wrap ((m.length : Int) - ((i + 1 : Nat) : Int)) = ((m.length - 1 - i : Nat) : Int) := by rw [w64 (by omega) (by omega)]; omega
        have a3' : IntKind.i64.wrap ((b'.toNat : Nat) : Int) = ((b'.toNat : Nat) : Int) := w64n (by omega)
        have a4' : IntKind.i64.wrap (((dgt l i : Nat) : Int) - (c : Int) - (b'.toNat : Int)) = ((dgt l i : Nat) : Int) - (c : Int) - ((dgt m i : Nat) : Int) := by rw [w64 (by omega) (by omega)]; omega
        have hnn' : (0 : Int) ≤ ((m.length - 1 - i : Nat) : Int) := by omega
        have h1 := hmc.2 h
        simp -implicitDefEqProofs only [go_sem, simprocAttr, wa_cond, axC_t, axC_f, h1, s0, s1, s5, s6, s7, aLen, a2', hnn', hb1', aConv, a3', a4']
      · have h1 : ¬ ((i + 1 : Nat) : Int) ≤ (m.length : Int) := fun hh => h (hmc.1 hh)
        rw [dgt_zero h]
        simp -implicitDefEqProofs only [go_sem, simprocAttr, wa_cond, axC_t, axC_f, h1, s0, s1, s5, s6, s7, Int.sub_zero]
    clear s0 s1 s5 s6 s7
    rintro s T ⟨s0, s1, s5, s7, s8, rfl⟩
    have a5 : IntKind.i64.wrap ((l.length : Int) - ((i + 1 : Nat) : Int)) = ((o.length - 1 - i : Nat) : Int) := by rw [w64 (by omega) (by omega)]; omega
    have a8 : IntKind.i64.wrap (((i + 1 : Nat) : Int) + 1) = ((i + 1 + 1 : Nat) : Int) := by rw [w64 (by omega) (by omega)]; rfl
    have hi2 : (0 : Int) ≤ ((o.length - 1 - i : Nat) : Int) ∧ ((o.length - 1 - i : Nat) : Int) < (l.length : Int) := by omega
    obtain ⟨d, c', hd, hc', hdc, hcase⟩ : ∃ d c' : Nat, d < 256 ∧ c' ≤ 1 ∧ d + dgt m i + c = dgt l i + 256 * c' ∧ ((((dgt l i : Nat) : Int) - (c : Int) - ((dgt m i : Nat) : Int) < 0 ∧ c' = 1 ∧ ((dgt l i : Nat) : Int) - (c : Int) - ((dgt m i : Nat) : Int) + 256 = (d : Int)) ∨ (¬ ((dgt l i : Nat) : Int) - (c : Int) - ((dgt m i : Nat) : Int) < 0 ∧ c' = 0 ∧ ((dgt l i : Nat) : Int) - (c : Int) - ((dgt m i : Nat) : Int) = (d : Int))) := by
      by_cases h : ((dgt l i : Nat) : Int) - (c : Int) - ((dgt m i : Nat) : Int) < 0
      · exact ⟨dgt l i + 256 - c - dgt m i, 1, by omega, by omega, by omega, .inl ⟨h, rfl, by omega⟩⟩
      · exact ⟨dgt l i - c - dgt m i, 0, by omega, by omega, by omega, .inr ⟨h, rfl, by omega⟩⟩
    have hst := sub_step8 hinv hdc
    rw [← lowB_succ, ← lowB_succ] at hst
    have a6 := low_u8 d
    have hw := u8_wr (L := []) (l := o) (k := o.length - 1 - i) (b := UInt8.ofNat d) (by omega)
    have hset := lowB_set (o := o) (k := i) (by omega) (UInt8.ofNat d)
    have hby : (UInt8.ofNat d).toNat = d := by simp; omega
    rw [hby] at hset
    have fin : lowB (o.set (o.length - 1 - i) (UInt8.ofNat d)) (i + 1) + lowB m (i + 1) = lowB l (i + 1) + 256 ^ (i + 1) * c' := by rw [hset, Nat.pow_succ]; exact hst
    generalize ((dgt l i : Nat) : Int) - (c : Int) - ((dgt m i : Nat) : Int) = z at *
    rcases hcase with ⟨h1, rfl, h2⟩ | ⟨h1, rfl, h2⟩
    · have a9 : IntKind.i64.wrap (z + 256) = (d : Int) := by rw [w64 (by omega) (by omega)]; omega
      simp -implicitDefEqProofs only [go_sem, simprocAttr, wa_cond, axC_t, axC_f, s0, s1, s5, s7, s8, h1, a9, a5, aLen, aConv, a6, aIndexAddr, hi2, Nat.mul_one, hw, a8]
      exact ⟨i + 1, ⟨o.set (o.length - 1 - i) (UInt8.ofNat d), 1, rfl, rfl, by omega, by omega, by simpa using ho, fin, rfl⟩, by omega⟩
    · subst h2
      simp -implicitDefEqProofs only [go_sem, simprocAttr, wa_cond, axC_t, axC_f, s0, s1, s5, s7, s8, h1, a5, aLen, aConv, a6, aIndexAddr, hi2, Nat.mul_one, hw, a8]
      exact ⟨i + 1, ⟨o.set (o.length - 1 - i) (UInt8.ofNat d), 0, rfl, rfl, by omega, by omega, by simpa using ho, fin, rfl⟩, by omega⟩
  · have hin : i = l.length := by omega
    subst hin
    have hvo := valB_lt o
    rw [lowB_all (by omega), lowB_all (by omega), lowB_all (by omega)] at hinv
    rw [ho] at hvo
    have hc0 : c = 0 := by
      rcases Nat.eq_zero_or_pos c with h | h
      · exact h
      · have : c = 1 := by omega
        subst this
        omega
    subst hc0
    have hinv : valB o = valB l - valB m := by omega
    have hrd := u8_rd (L := []) (l := o) (k := 0) (n := l.length) (by omega)
    rw [List.drop_zero] at hrd
    have o1 := fun H => trimR H o
    rw [digB_strip, hinv] at o1
    unfold bs at o1
    simp -implicitDefEqProofs only [go_sem, simprocAttr, s5, aConv, hrd, bytesOf_u8s]
    refine wl_callV _ (by simp -implicitDefEqProofs only [go_sem, simprocAttr]) (o1 _) ?_
    simp -implicitDefEqProofs only [go_sem, simprocAttr, res224]
    first | exact .app _ _ | exact ⟨.app _ _, rfl⟩
end Go.Proofs.YthhmkaikopdmjaaGreat
namespace Go.Proofs.YthhmkaikopdmjaaGreat
open Go Go.Fw
theorem ltlen {n k : Nat} (h : (digB k).length ≤ (digB n).length ∨ k ≤ n) : (digB k).length ≤ (digB n).length := by
  rcases h with h | h
  · exact h
  · refine Classical.byContradiction fun hc => ?_
    have := digB_len_lt (n := n) (k := k) (by omega)
    omega
theorem bool_eqt {t : TypeId} (p q : Bool) (ht : t = 4) : aBin tt .eql t (.bool p) (.bool q) = some (.bool (p == q)) := by subst ht; rfl
theorem build106 : aBuild tt 106 [] = some (.agg #[.bool false, .string (bs [])]) := rfl
theorem addRI (H : Heap) {g g' : Bool} {m m' : List UInt8} (hm : m.length ≤ 1000000) (hm' : m'.length ≤ 1000000) :
    Sim Tryz.prog 162 #[iV g m, iV g' m'] H (mkI (ival g m + ival g' m')) H := by
  refine flat_ex (flat_mkI _) ?_
  have o1 := fun H => canonR H g m
  have o2 := fun H => canonR H g' m'
  have l1 : (digB (ival g m).natAbs).length ≤ 1000000 := by rw [ival_abs, ← digB_strip]; exact Nat.le_trans (dropZ_len m) hm
  have l2 : (digB (ival g' m').natAbs).length ≤ 1000000 := by rw [ival_abs, ← digB_strip]; exact Nat.le_trans (dropZ_len m') hm'
  generalize ival g m = x at *
  generalize ival g' m' = y at *
  have v1 := valB_dig x.natAbs
  have v2 := valB_dig y.natAbs
  unfold mkI iV at o1 o2
  unfold iV
  refine sim_ex tok mixed Tryz.func162 rfl (by kernel_rfl) (by kernel_rfl) (by simp only [Tryz.ntmps162, List.size_toArray, List.length_cons, List.length_nil]; omega) ?_
  simp -implicitDefEqProofs only [go_sem, simprocAttr]
  refine ax_quiet (by kernel_rfl) ?_
  simp -implicitDefEqProofs only [go_sem, simprocAttr]
  refine wl_callV _ (by simp -implicitDefEqProofs only [go_sem, simprocAttr]) (o1 _) ?_
  simp -implicitDefEqProofs only [go_sem, simprocAttr]
  refine wl_callV _ (by simp -implicitDefEqProofs only [go_sem, simprocAttr]) (o2 _) ?_
  simp -implicitDefEqProofs only [go_sem, simprocAttr]
  by_cases hs : (digB x.natAbs).length < 8 ∧ (digB y.natAbs).length < 8
  · obtain ⟨h1, h2⟩ := hs
    have p1 := valB_lt (digB x.natAbs)
    have p2 := valB_lt (digB y.natAbs)
    have q1 := pow256_le (i := (digB x.natAbs).length) (by omega)
    have q2 := pow256_le (i := (digB y.natAbs).length) (by omega)
    have o3 := fun H => valueR H (decide (x < 0)) (m := digB x.natAbs) (by omega)
    have o4 := fun H => valueR H (decide (y < 0)) (m := digB y.natAbs) (by omega)
    rw [ival_mk] at o3 o4
    have o5 := fun H => ofR H (z := x + y) (by omega) (by omega)
    have e1 : ((digB x.natAbs).length : Int) < 8 := by omega
    have e2 : ((digB y.natAbs).length : Int) < 8 := by omega
    have a1 : IntKind.i64.wrap (x + y) = x + y := by rw [w64 (by omega) (by omega)]
    generalize digB x.natAbs = l at *
    generalize digB y.natAbs = l' at *
    unfold iV at o3 o4
    unfold mkI iV at o5 ⊢
    simp -implicitDefEqProofs only [go_sem, simprocAttr, wa_cond, axC_t, axC_f, aLen, e1, e2]
    refine ax_quiet (by kernel_rfl) ?_
    simp -implicitDefEqProofs only [go_sem, simprocAttr]
    refine wl_callV _ (by simp -implicitDefEqProofs only [go_sem, simprocAttr]) (o3 _) ?_
    simp -implicitDefEqProofs only [go_sem, simprocAttr]
    refine wl_callV _ (by simp -implicitDefEqProofs only [go_sem, simprocAttr]) (o4 _) ?_
    simp -implicitDefEqProofs only [go_sem, simprocAttr, a1]
    refine wl_callV _ (by simp -implicitDefEqProofs only [go_sem, simprocAttr]) (o5 _) ?_
    simp -implicitDefEqProofs only [go_sem, simprocAttr, res162]
    first | exact .app _ _ | exact ⟨.app _ _, rfl⟩
  have hdig : ∀ z : Int, z.natAbs = x.natAbs + y.natAbs → mkI z = .agg #[.bool (decide (z < 0)), .string (bs (digB (x.natAbs + y.natAbs)))] := fun z h => by unfold mkI iV; rw [h]
  have o6 := fun H => addMagR H (l := digB x.natAbs) (m := digB y.natAbs) l1 l2
  have o7 := fun H => compareMagR H x.natAbs y.natAbs
  rw [v1, v2] at o6
  have o8 : ∀ _ : y.natAbs ≤ x.natAbs, ∀ H, Sim Tryz.prog 224 #[.string (bs (digB x.natAbs)), .string (bs (digB y.natAbs))] H (.string (bs (digB (x.natAbs - y.natAbs)))) H := fun h H => by
    have := subMagR H (l := digB x.natAbs) (m := digB y.natAbs) l1 (ltlen (.inr h)) (by rw [v1, v2]; exact h)
    rwa [v1, v2] at this
  have o9 : ∀ _ : x.natAbs ≤ y.natAbs, ∀ H, Sim Tryz.prog 224 #[.string (bs (digB y.natAbs)), .string (bs (digB x.natAbs))] H (.string (bs (digB (y.natAbs - x.natAbs)))) H := fun h H => by
    have := subMagR H (l := digB y.natAbs) (m := digB x.natAbs) l2 (ltlen (.inr h)) (by rw [v1, v2]; exact h)
    rwa [v1, v2] at this
  have hbig : (¬ ((digB x.natAbs).length : Int) < 8 ∧ ¬ ((digB x.natAbs).length : Int) < 8) ∨ (((digB x.natAbs).length : Int) < 8 ∧ ¬ ((digB y.natAbs).length : Int) < 8) := by omega
  have hmain : ∀ z : Int, mkI z = .agg #[.bool (decide (z < 0)), .string (bs (digB z.natAbs))] := fun z => rfl
  rw [hmain (x + y)]
  clear hs v1 v2 l1 l2 o1 o2
  by_cases hsg : decide (x < 0) = decide (y < 0)
  · have e3 : (x + y).natAbs = x.natAbs + y.natAbs := by
      by_cases h : x < 0
      · have : y < 0 := by simpa [h] using hsg.symm
        omega
      · have : ¬ y < 0 := by simpa [h] using hsg.symm
        omega
    have e4 : decide (x + y < 0) = decide (x < 0) := by
      by_cases h : x < 0
      · have h2 : y < 0 := by simpa [h] using hsg.symm
        simp [h]; omega
      · have h2 : ¬ y < 0 := by simpa [h] using hsg.symm
        simp [h]; omega
    have e5 : (decide (x < 0) == decide (y < 0)) = true := by rw [hsg]; simp
    rw [e3, e4]
    generalize decide (x < 0) = sx at *
    generalize decide (y < 0) = sy at *
    generalize digB x.natAbs = l at *
    generalize digB y.natAbs = l' at *
    rcases hbig with ⟨h1, h2⟩ | ⟨h1, h2⟩
    all_goals
      simp -implicitDefEqProofs only [go_sem, simprocAttr, wa_cond, axC_t, axC_f, aLen, h1, h2, bool_eqt, e5]
      refine ax_quiet (by kernel_rfl) ?_
      simp -implicitDefEqProofs only [go_sem, simprocAttr]
      refine wl_callV _ (by simp -implicitDefEqProofs only [go_sem, simprocAttr]) (o6 _) ?_
      simp -implicitDefEqProofs only [go_sem, simprocAttr, res162]
      first | exact .app _ _ | exact ⟨.app _ _, rfl⟩
  have e5 : (decide (x < 0) == decide (y < 0)) = false := by
    cases h : decide (x < 0) <;> cases h' : decide (y < 0) <;> simp_all
  rcases Nat.lt_trichotomy x.natAbs y.natAbs with hc | hc | hc
  · have o8 := o9 (by omega)
    have e3 : (x + y).natAbs = y.natAbs - x.natAbs := by
      by_cases h : x < 0
      · have : ¬ y < 0 := by simpa [h] using hsg
        omega
      · have : y < 0 := by simpa [h] using hsg
        omega
    have e4 : decide (x + y < 0) = decide (y < 0) := by
      by_cases h : x < 0
      · have h2 : ¬ y < 0 := by simpa [h] using hsg
        simp [h2]; omega
      · have h2 : y < 0 := by simpa [h] using hsg
        simp [h2]; omega
    have e6 : sgn ((x.natAbs : Int) - (y.natAbs : Int)) = -1 := by unfold sgn; rw [if_pos (by omega)]
    rw [e3, e4]
    rw [e6] at o7
    generalize decide (x < 0) = sx at *
    generalize decide (y < 0) = sy at *
    generalize digB x.natAbs = l at *
    generalize digB y.natAbs = l' at *
    rcases hbig with ⟨h1, h2⟩ | ⟨h1, h2⟩
    all_goals
      simp -implicitDefEqProofs only [go_sem, simprocAttr, wa_cond, axC_t, axC_f, aLen, h1, h2, bool_eqt, e5]
      refine wl_callV _ (by simp -implicitDefEqProofs only [go_sem, simprocAttr]) (o7 _) ?_
      simp -implicitDefEqProofs only [go_sem, simprocAttr, wa_cond, axC_t, axC_f]
      refine ax_quiet (by kernel_rfl) ?_
      simp -implicitDefEqProofs only [go_sem, simprocAttr]
      refine wl_callV _ (by simp -implicitDefEqProofs only [go_sem, simprocAttr]) (o8 _) ?_
      simp -implicitDefEqProofs only [go_sem, simprocAttr, res162]
      first | exact .app _ _ | exact ⟨.app _ _, rfl⟩
  · have e3 : x + y = 0 := by
      by_cases h : x < 0
      · have : ¬ y < 0 := by simpa [h] using hsg
        omega
      · have : y < 0 := by simpa [h] using hsg
        omega
    have e6 : sgn ((x.natAbs : Int) - (y.natAbs : Int)) = 0 := by unfold sgn; rw [if_neg (by omega), if_neg (by omega)]
    rw [e3, show Int.natAbs 0 = 0 from rfl, digB_zero]
    rw [e6] at o7
    generalize decide (x < 0) = sx at *
    generalize decide (y < 0) = sy at *
    generalize digB x.natAbs = l at *
    generalize digB y.natAbs = l' at *
    rcases hbig with ⟨h1, h2⟩ | ⟨h1, h2⟩
    all_goals
      simp -implicitDefEqProofs only [go_sem, simprocAttr, wa_cond, axC_t, axC_f, aLen, h1, h2, bool_eqt, e5]
      refine wl_callV _ (by simp -implicitDefEqProofs only [go_sem, simprocAttr]) (o7 _) ?_
      simp -implicitDefEqProofs only [go_sem, simprocAttr, wa_cond, axC_t, axC_f, build106, res162]
      first | exact .app _ _ | exact ⟨.app _ _, rfl⟩
  · have o8 := o8 (by omega)
    have e3 : (x + y).natAbs = x.natAbs - y.natAbs := by
      by_cases h : x < 0
      · have : ¬ y < 0 := by simpa [h] using hsg
        omega
      · have : y < 0 := by simpa [h] using hsg
        omega
    have e4 : decide (x + y < 0) = decide (x < 0) := by
      by_cases h : x < 0
      · have h2 : ¬ y < 0 := by simpa [h] using hsg
        simp [h]; omega
      · have h2 : y < 0 := by simpa [h] using hsg
        simp [h]; omega
    have e6 : sgn ((x.natAbs : Int) - (y.natAbs : Int)) = 1 := by unfold sgn; rw [if_neg (by omega), if_pos (by omega)]
    rw [e3, e4]
    rw [e6] at o7
    generalize decide (x < 0) = sx at *
    generalize decide (y < 0) = sy at *
    generalize digB x.natAbs = l at *
    generalize digB y.natAbs = l' at *
    rcases hbig with ⟨h1, h2⟩ | ⟨h1, h2⟩
    all_goals
      simp -implicitDefEqProofs only [go_sem, simprocAttr, wa_cond, axC_t, axC_f, aLen, h1, h2, bool_eqt, e5]
      refine wl_callV _ (by simp -implicitDefEqProofs only [go_sem, simprocAttr]) (o7 _) ?_
      simp -implicitDefEqProofs only [go_sem, simprocAttr, wa_cond, axC_t, axC_f]
      refine ax_quiet (by kernel_rfl) ?_
      simp -implicitDefEqProofs only [go_sem, simprocAttr]
      refine wl_callV _ (by simp -implicitDefEqProofs only [go_sem, simprocAttr]) (o8 _) ?_
      simp -implicitDefEqProofs only [go_sem, simprocAttr, res162]
      first | exact .app _ _ | exact ⟨.app _ _, rfl⟩
end Go.Proofs.YthhmkaikopdmjaaGreat
namespace Go.Proofs.YthhmkaikopdmjaaGreat
open Go Go.Fw
theorem canon_len {g : Bool} {m : List UInt8} {k : Nat} (h : m.length ≤ k) : (digB (ival g m).natAbs).length ≤ k := by rw [ival_abs, ← digB_strip]; exact Nat.le_trans (dropZ_len m) h
theorem subRI (H : Heap) {g g' : Bool} {m m' : List UInt8} (hm : m.length ≤ 1000000) (hm' : m'.length ≤ 1000000) :
    Sim Tryz.prog 228 #[iV g m, iV g' m'] H (mkI (ival g m - ival g' m')) H := by
  refine flat_ex (flat_mkI _) ?_
  have o1 := fun H => negR H g' m'
  have l1 : (digB (-(ival g' m')).natAbs).length ≤ 1000000 := by rw [Int.natAbs_neg]; exact canon_len hm'
  have o2 := fun H => addRI H (g := g) (g' := decide (-(ival g' m') < 0)) (m := m) (m' := digB (-(ival g' m')).natAbs) hm l1
  rw [ival_mk, ← Int.sub_eq_add_neg] at o2
  generalize hz : ival g m - ival g' m' = z at *
  unfold mkI iV at *
  refine sim_ex tok mixed Tryz.func228 rfl (by kernel_rfl) (by kernel_rfl) (by simp only [Tryz.ntmps228, List.size_toArray, List.length_cons, List.length_nil]; omega) ?_
  simp -implicitDefEqProofs only [go_sem, simprocAttr]
  refine ax_quiet (by kernel_rfl) ?_
  simp -implicitDefEqProofs only [go_sem, simprocAttr]
  refine wl_callV _ (by simp -implicitDefEqProofs only [go_sem, simprocAttr]) (o1 _) ?_
  simp -implicitDefEqProofs only [go_sem, simprocAttr]
  refine wl_callV _ (by simp -implicitDefEqProofs only [go_sem, simprocAttr]) (o2 _) ?_
  simp -implicitDefEqProofs only [go_sem, simprocAttr, res228]
  first | exact .app _ _ | exact ⟨.app _ _, rfl⟩
theorem bool_neq {t : TypeId} (p q : Bool) (ht : t = 4) : aBin tt .neq t (.bool p) (.bool q) = some (.bool !(p == q)) := by subst ht; rfl
theorem compareRI (H : Heap) (g g' : Bool) (m m' : List UInt8) :
    Sim Tryz.prog 167 #[iV g m, iV g' m'] H (.int .i64 (sgn (ival g m - ival g' m'))) H := by
  refine flat_ex rfl ?_
  have o1 := fun H => canonR H g m
  have o2 := fun H => canonR H g' m'
  generalize ival g m = x at *
  generalize ival g' m' = y at *
  have o3 := fun H => compareMagR H x.natAbs y.natAbs
  have o4 := fun H => compareMagR H y.natAbs x.natAbs
  unfold mkI iV at o1 o2
  unfold iV
  refine sim_ex tok mixed Tryz.func167 rfl (by kernel_rfl) (by kernel_rfl) (by simp only [Tryz.ntmps167, List.size_toArray, List.length_cons, List.length_nil]; omega) ?_
  simp -implicitDefEqProofs only [go_sem, simprocAttr]
  refine ax_quiet (by kernel_rfl) ?_
  simp -implicitDefEqProofs only [go_sem, simprocAttr]
  refine wl_callV _ (by simp -implicitDefEqProofs only [go_sem, simprocAttr]) (o1 _) ?_
  simp -implicitDefEqProofs only [go_sem, simprocAttr]
  refine wl_callV _ (by simp -implicitDefEqProofs only [go_sem, simprocAttr]) (o2 _) ?_
  by_cases hx : x < 0
  · by_cases hy : y < 0
    · have e : sgn ((y.natAbs : Int) - (x.natAbs : Int)) = sgn (x - y) := by congr 1; omega
      rw [e] at o4
      simp -implicitDefEqProofs only [go_sem, simprocAttr, wa_cond, axC_t, axC_f, hx, hy, bool_neq, show (true == true) = true from rfl]
      refine wl_callV _ (by simp -implicitDefEqProofs only [go_sem, simprocAttr]) (o4 _) ?_
      simp -implicitDefEqProofs only [go_sem, simprocAttr, res167]
      first | exact .app _ _ | exact ⟨.app _ _, rfl⟩
    · have e : sgn (x - y) = -1 := by unfold sgn; rw [if_pos (by omega)]
      rw [e]
      simp -implicitDefEqProofs only [go_sem, simprocAttr, wa_cond, axC_t, axC_f, hx, hy, bool_neq, res167, show (true == false) = false from rfl]
      first | exact .app _ _ | exact ⟨.app _ _, rfl⟩
  · by_cases hy : y < 0
    · have e : sgn (x - y) = 1 := by unfold sgn; rw [if_neg (by omega), if_pos (by omega)]
      rw [e]
      simp -implicitDefEqProofs only [go_sem, simprocAttr, wa_cond, axC_t, axC_f, hx, hy, bool_neq, res167, show (false == true) = false from rfl]
      first | exact .app _ _ | exact ⟨.app _ _, rfl⟩
    · have e : sgn ((x.natAbs : Int) - (y.natAbs : Int)) = sgn (x - y) := by congr 1; omega
      rw [e] at o3
      simp -implicitDefEqProofs only [go_sem, simprocAttr, wa_cond, axC_t, axC_f, hx, hy, bool_neq, show (false == false) = true from rfl]
      refine wl_callV _ (by simp -implicitDefEqProofs only [go_sem, simprocAttr]) (o3 _) ?_
      simp -implicitDefEqProofs only [go_sem, simprocAttr, res167]
      first | exact .app _ _ | exact ⟨.app _ _, rfl⟩
end Go.Proofs.YthhmkaikopdmjaaGreat
namespace Go.Proofs.YthhmkaikopdmjaaGreat
open Go Go.Fw
def i8s (l : List UInt8) : List Value := l.map fun b => Value.int .i64 (b.toNat : Nat)
theorem i8s_length (l : List UInt8) : (i8s l).length = l.length := by simp [i8s]
theorem i8s_set (l : List UInt8) (k : Nat) (b : UInt8) : (i8s l).set k (.int .i64 (b.toNat : Nat)) = i8s (l.set k b) := by simp [i8s, List.map_set]
theorem i8_wr {l : List UInt8} {L : Heap} {k : Nat} {b : UInt8} (h : k < l.length) : wr (⟨i8s l, 1, true⟩ :: L) 0 k [.int .i64 (b.toNat : Nat)] = some (⟨i8s (l.set k b), 1, true⟩ :: L) := by
  rw [wr_eq]
  simp only [List.getElem?_cons_zero, List.set_cons_zero]
  rw [if_pos (by simp [i8s_length, allC, isCell]; omega), splice_one _ _ _ (by rw [i8s_length]; exact h), i8s_set]
theorem i8_rd1 {l : List UInt8} {L : Heap} {k : Nat} (h : k < l.length) : rd (⟨i8s l, 1, true⟩ :: L) 0 k 1 = some [.int .i64 (l[k].toNat : Nat)] := by
  unfold rd
  simp only [List.getElem?_cons_zero]
  rw [if_pos (by simp [i8s_length]; omega)]
  congr 1
  apply List.ext_getElem?
  intro j
  simp only [List.getElem?_take, List.getElem?_drop, i8s, List.getElem?_map]
  cases j with
  | zero => simp [List.getElem?_eq_getElem h]
  | succ j => simp
theorem make_i64 (H : Heap) (n : Nat) (h : n ≤ 2000000) : aMakeSlice tt H 229 (.int .i64 (n : Nat)) (.int .i64 (n : Nat)) = some (.slice (some ⟨H.length, 0, none⟩) n n, H ++ [⟨i8s (List.replicate n 0), 1, true⟩]) := by
  unfold aMakeSlice
  simp only [tt229, tt3]
  rw [if_pos (by omega)]
  by_cases h0 : n = 0
  · subst h0
    simp [zerosL, i8s]
  · simp only [Int.toNat_natCast, Nat.mul_one, if_neg h0, cells_int]
    rw [zerosL_one]
    simp [i8s]
theorem valB_set : ∀ (l : List UInt8) (j : Nat) (b : UInt8) (h : j < l.length), valB (l.set j b) + 256 ^ (l.length - 1 - j) * l[j].toNat = valB l + 256 ^ (l.length - 1 - j) * b.toNat := by
  intro l
  induction l with
  | nil => intro j b h; simp at h
  | cons x l ih =>
    intro j b h
    cases j with
    | zero =>
      simp only [List.set_cons_zero, List.getElem_cons_zero, List.length_cons, Nat.add_sub_cancel, Nat.sub_zero]
      rw [valB_cons, valB_cons, Nat.mul_comm (256 ^ l.length), Nat.mul_comm (256 ^ l.length)]
      omega
    | succ j =>
      have hj : j < l.length := by simpa using h
      have := ih j b hj
      simp only [List.set_cons_succ, List.getElem_cons_succ, List.length_cons]
      rw [valB_cons, valB_cons, List.length_set]
      have e : l.length + 1 - 1 - (j + 1) = l.length - 1 - j := by omega
      rw [e]
      omega
theorem valB_setw {o : List UInt8} {w : Nat} (h : w < o.length) (b : UInt8) : valB (o.set (o.length - 1 - w) b) + 256 ^ w * dgt o w = valB o + 256 ^ w * b.toNat := by
  have := valB_set o (o.length - 1 - w) b (by omega)
  have e : o.length - 1 - (o.length - 1 - w) = w := by omega
  rw [e] at this
  unfold dgt
  rw [dif_pos h]
  exact this
theorem dgt_setw {o : List UInt8} {w w' : Nat} (h : w < o.length) (hne : w ≠ w') (b : UInt8) : dgt (o.set (o.length - 1 - w) b) w' = dgt o w' := by
  unfold dgt
  by_cases h' : w' < o.length
  · simp [h', List.getElem_set, show ¬ (o.length - 1 - w = o.length - 1 - w') by omega]
  · simp [h']
theorem dgt_top {o : List UInt8} {w : Nat} (h : valB o < 256 ^ w) : dgt o w = 0 := by
  have h1 : lowB o (w + 1) ≤ valB o := by
    unfold lowB
    have := valB_from (o.take (o.length - (w + 1))) 0
    have e : valB o = valB (o.take (o.length - (w + 1))) * 256 ^ (o.drop (o.length - (w + 1))).length + valB (o.drop (o.length - (w + 1))) := by
      conv => lhs; rw [← List.take_append_drop (o.length - (w + 1)) o]
      unfold valB
      rw [List.foldl_append]
      exact valB_from _ _
    omega
  rw [lowB_succ] at h1
  rcases Nat.eq_zero_or_pos (dgt o w) with hz | hz
  · exact hz
  · have : 256 ^ w * 1 ≤ 256 ^ w * dgt o w := Nat.mul_le_mul_left _ hz
    omega
theorem mul_in {V V' P c d x y lw vb pw : Nat} (hP : P = pw) (h : V + P * c = vb + lw) (hs : V' + P * d = V + P * ((c + (d + x * y)) % 256)) : V' + P * 256 * ((c + (d + x * y)) / 256) = vb + (lw + P * (x * y)) := by
  have e := Nat.mod_add_div (c + (d + x * y)) 256
  have e2 : P * ((c + (d + x * y)) % 256) + P * 256 * ((c + (d + x * y)) / 256) = P * (c + (d + x * y)) := by
    rw [Nat.mul_assoc, ← Nat.mul_add, e]
  rw [Nat.mul_add, Nat.mul_add] at e2
  omega
end Go.Proofs.YthhmkaikopdmjaaGreat
namespace Go.Proofs.YthhmkaikopdmjaaGreat
open Go Go.Fw
theorem and_255 {a : Nat} (ha : a < 1000000) : andI .i64 (a : Int) 255 = ((a % 256 : Nat) : Int) := by
  have h255 : (255 : Int) = ((255 : Nat) : Int) := rfl
  unfold andI
  rw [h255, show IntKind.i64.bits = 64 from rfl, and_nat (by omega) (by omega), show (255 : Nat) = 2 ^ 8 - 1 from rfl, Nat.and_two_pow_sub_one_eq_mod]
  exact w64 (by omega) (by omega)
theorem valB_rep (n : Nat) : valB (List.replicate n 0) = 0 := by
  induction n with
  | zero => rfl
  | succ n ih => rw [List.replicate_succ, valB_cons, ih]; simp
theorem mulMagR (H : Heap) {l m : List UInt8} (hl : l.length ≤ 1000000) (hm : m.length ≤ 1000000) :
    Sim Tryz.prog 231 #[.string (bs l), .string (bs m)] H (.string (bs (digB (valB l * valB m)))) H := by
  refine flat_ex rfl ?_
  have a0 : IntKind.i64.wrap ((l.length : Int) + (m.length : Int)) = ((l.length + m.length : Nat) : Int) := by rw [addc, w64n (by omega)]
  have a1 : IntKind.i64.wrap ((l.length : Int) - 1) = (l.length : Int) - 1 - ((0 : Nat) : Int) := by rw [w64 (by omega) (by omega)]; omega
  have aL : aLen tt [229] (.slice (some ⟨H.length, 0, none⟩) (l.length + m.length) (l.length + m.length)) = some (.int .i64 ((l.length + m.length : Nat) : Int)) := rfl
  refine sim_ex tok mixed Tryz.func231 rfl (by kernel_rfl) (by kernel_rfl) (by simp only [Tryz.ntmps231, List.size_toArray, List.length_cons, List.length_nil]; omega) ?_
  simp -implicitDefEqProofs only [go_sem, simprocAttr, -Int.reducePow, -Nat.reducePow, aLen, a0, a1, make_i64 H (l.length + m.length) (by omega)]
  refine ax_midl (fun s T => ∃ o : List UInt8, s 5 = .slice (some ⟨H.length, 0, none⟩) (l.length + m.length) (l.length + m.length) ∧ o.length = l.length + m.length ∧ valB o = valB l * valB m ∧ T = H ++ [⟨i8s o, 1, true⟩]) ?_ ?_
  · refine ax_loopx (fun (p : Nat) s T => ∃ o : List UInt8, s 0 = .string (bs l) ∧ s 1 = .string (bs m) ∧ s 5 = .slice (some ⟨H.length, 0, none⟩) (l.length + m.length) (l.length + m.length) ∧ s 6 = .int .i64 ((l.length : Int) - 1 - (p : Nat)) ∧ p ≤ l.length ∧
      o.length = l.length + m.length ∧ valB o = lowB l p * valB m ∧ T = H ++ [⟨i8s o, 1, true⟩]) (fun p => l.length - p) 0 ?_ ?_
    · refine ⟨List.replicate (l.length + m.length) 0, ?_⟩
      simp -implicitDefEqProofs only [go_sem, simprocAttr, -Int.reducePow, -Nat.reducePow]
      exact ⟨by simp, by rw [valB_rep, lowB_zero, Nat.zero_mul]⟩
    rintro p s T ⟨o, s0, s1, s5, s6, hp, ho, hv, rfl⟩
    simp -implicitDefEqProofs only [go_sem, simprocAttr, -Int.reducePow, -Nat.reducePow, s6]
    refine ax_cond2 ?_
    simp only [ev_tmp, ev_const, ev_func, upd_at, put_some, put_none, bndB_bool, Nat.reduceEqDiff, if_true, if_false, ↓reduceIte, reduceCtorEq]
    refine ⟨fun hc0 => have hlt := of_decide_eq_true hc0; ?_, fun hc0 => have hlt := of_decide_eq_false hc0; ?_⟩
    · have hpl : p < l.length := by omega
      obtain ⟨b, hb1, hb2⟩ := dgt_at hpl
      have hx := dgt_lt l p
      have hlow : lowB l p < 256 ^ p := by
        unfold lowB
        have := valB_lt (l.drop (l.length - p))
        have e : (l.drop (l.length - p)).length = p := by simp; omega
        rwa [e] at this
      have hvm := valB_lt m
      have htop : dgt o (p + m.length) = 0 := by
        refine dgt_top ?_
        rw [hv, Nat.pow_add]
        exact Nat.mul_lt_mul'' hlow hvm
      have a2 : IntKind.i64.wrap ((m.length : Int) - 1) = (m.length : Int) - 1 - ((0 : Nat) : Int) := by rw [w64 (by omega) (by omega)]; omega
      simp -implicitDefEqProofs only [go_sem, simprocAttr, -Int.reducePow, -Nat.reducePow, s1, aLen, a2]
      refine ax_midl (fun s T => ∃ (o : List UInt8) (c : Nat), s 0 = .string (bs l) ∧ s 1 = .string (bs m) ∧ s 5 = .slice (some ⟨H.length, 0, none⟩) (l.length + m.length) (l.length + m.length) ∧ s 6 = .int .i64 ((l.length : Int) - 1 - (p : Nat)) ∧ s 7 = .int .i64 (c : Nat) ∧
        o.length = l.length + m.length ∧ c ≤ 255 ∧ dgt o (p + m.length) = 0 ∧ valB o + 256 ^ (p + m.length) * c = lowB l p * valB m + 256 ^ p * dgt l p * valB m ∧ T = H ++ [⟨i8s o, 1, true⟩]) ?_ ?_
      · refine ax_loopx (fun (q : Nat) s T => ∃ (o : List UInt8) (c : Nat), s 0 = .string (bs l) ∧ s 1 = .string (bs m) ∧ s 5 = .slice (some ⟨H.length, 0, none⟩) (l.length + m.length) (l.length + m.length) ∧ s 6 = .int .i64 ((l.length : Int) - 1 - (p : Nat)) ∧ s 7 = .int .i64 (c : Nat) ∧
          s 8 = .int .i64 ((m.length : Int) - 1 - (q : Nat)) ∧ q ≤ m.length ∧ o.length = l.length + m.length ∧ c ≤ 255 ∧ dgt o (p + m.length) = 0 ∧ valB o + 256 ^ (p + q) * c = lowB l p * valB m + 256 ^ p * dgt l p * lowB m q ∧ T = H ++ [⟨i8s o, 1, true⟩]) (fun q => m.length - q) 0 ?_ ?_
        · refine ⟨o, 0, ?_⟩
          simp -implicitDefEqProofs only [go_sem, simprocAttr, -Int.reducePow, -Nat.reducePow, s0, s1, s5, s6]
          exact ⟨ho, htop, by rw [lowB_zero, Nat.mul_zero, hv]; rfl⟩
        clear s0 s1 s5 s6 ho hv htop
        clear o
        rintro q s T ⟨o, c, s0, s1, s5, s6, s7, s8, hq, ho, hc, htop, hv, rfl⟩
        simp -implicitDefEqProofs only [go_sem, simprocAttr, -Int.reducePow, -Nat.reducePow, s8]
        refine ax_cond2 ?_
        simp only [ev_tmp, ev_const, ev_func, upd_at, put_some, put_none, bndB_bool, Nat.reduceEqDiff, if_true, if_false, ↓reduceIte, reduceCtorEq]
        refine ⟨fun hc0 => have hlq := of_decide_eq_true hc0; ?_, fun hc0 => have hlq := of_decide_eq_false hc0; ?_⟩
        · have hql : q < m.length := by omega
          obtain ⟨b', hb1', hb2'⟩ := dgt_at hql
          have hy := dgt_lt m q
          have hd := dgt_lt o (p + q)
          have ei : (l.length : Int) - 1 - (p : Nat) = ((l.length - 1 - p : Nat) : Int) := by omega
          have ek : (m.length : Int) - 1 - (q : Nat) = ((m.length - 1 - q : Nat) : Int) := by omega
          have a3 : IntKind.i64.wrap (((l.length - 1 - p : Nat) : Int) + ((m.length - 1 - q : Nat) : Int)) = ((l.length - 1 - p + (m.length - 1 - q) : Nat) : Int) := by rw [addc, w64n (by omega)]
          have a4 : IntKind.i64.wrap (((l.length - 1 - p + (m.length - 1 - q) : Nat) : Int) + 1) = ((o.length - 1 - (p + q) : Nat) : Int) := by rw [w64 (by omega) (by omega)]; omega
          have a5 : IntKind.i64.wrap ((b.toNat : Nat) : Int) = ((dgt l p : Nat) : Int) := by rw [hb2]; exact w64n (by omega)
          have a6 : IntKind.i64.wrap ((b'.toNat : Nat) : Int) = ((dgt m q : Nat) : Int) := by rw [hb2']; exact w64n (by omega)
          have hxy : dgt l p * dgt m q ≤ 255 * 255 := Nat.mul_le_mul (by omega) (by omega)
          have a7 : IntKind.i64.wrap (((dgt l p : Nat) : Int) * ((dgt m q : Nat) : Int)) = ((dgt l p * dgt m q : Nat) : Int) := by
            rw [show ((dgt l p : Nat) : Int) * ((dgt m q : Nat) : Int) = ((dgt l p * dgt m q : Nat) : Int) by simp, w64n (by omega)]
          have a8 : IntKind.i64.wrap (((dgt o (p + q) : Nat) : Int) + ((dgt l p * dgt m q : Nat) : Int)) = ((dgt o (p + q) + dgt l p * dgt m q : Nat) : Int) := by rw [addc, w64n (by omega)]
          have a9 : IntKind.i64.wrap ((c : Int) + ((dgt o (p + q) + dgt l p * dgt m q : Nat) : Int)) = ((c + (dgt o (p + q) + dgt l p * dgt m q) : Nat) : Int) := by rw [addc, w64n (by omega)]
          have a10 := and_255 (a := c + (dgt o (p + q) + dgt l p * dgt m q)) (by omega)
          have a11 := fdiv_pow (c + (dgt o (p + q) + dgt l p * dgt m q)) 8
          have a12 : IntKind.i64.wrap (((m.length - 1 - q : Nat) : Int) - 1) = (m.length : Int) - 1 - ((q + 1 : Nat) : Int) := by rw [w64 (by omega) (by omega)]; omega
          have hd8 : ¬ ((8 : Int) < 0) := by omega
          have hw1 : p + q < o.length := by omega
          have hrd := i8_rd1 (l := o) (L := []) (k := o.length - 1 - (p + q)) (by omega)
          have hdd : ((o[o.length - 1 - (p + q)]'(by omega)).toNat) = dgt o (p + q) := by unfold dgt; rw [dif_pos hw1]
          rw [hdd] at hrd
          have hset := valB_setw hw1 (UInt8.ofNat ((c + (dgt o (p + q) + dgt l p * dgt m q)) % 256))
          have hby : (UInt8.ofNat ((c + (dgt o (p + q) + dgt l p * dgt m q)) % 256)).toNat = (c + (dgt o (p + q) + dgt l p * dgt m q)) % 256 := by simp
          have hwr := i8_wr (l := o) (L := []) (k := o.length - 1 - (p + q)) (b := UInt8.ofNat ((c + (dgt o (p + q) + dgt l p * dgt m q)) % 256)) (by omega)
          rw [hby] at hset hwr
          have hst := mul_in rfl hv hset
          have htop2 := dgt_setw (w' := p + m.length) hw1 (by omega) (UInt8.ofNat ((c + (dgt o (p + q) + dgt l p * dgt m q)) % 256))
          rw [htop] at htop2
          have hfin : 256 ^ p * dgt l p * lowB m (q + 1) = 256 ^ p * dgt l p * lowB m q + 256 ^ (p + q) * (dgt l p * dgt m q) := by
            rw [lowB_succ, Nat.mul_add, Nat.pow_add]
            congr 1
            simp only [Nat.mul_assoc, Nat.mul_left_comm]
          have hin1 : (0 : Int) ≤ ((o.length - 1 - (p + q) : Nat) : Int) ∧ ((o.length - 1 - (p + q) : Nat) : Int) < ((l.length + m.length : Nat) : Int) := by omega
          have hnn1 : (0 : Int) ≤ ((l.length - 1 - p : Nat) : Int) := by omega
          have hnn2 : (0 : Int) ≤ ((m.length - 1 - q : Nat) : Int) := by omega
          rw [ei] at s6
          rw [ek] at s8
          simp -implicitDefEqProofs only [go_sem, simprocAttr, -Int.reducePow, -Nat.reducePow]
          refine ax_quiet (by kernel_rfl) ?_
          simp -implicitDefEqProofs only [go_sem, simprocAttr, -Int.reducePow, -Nat.reducePow, s0, s1, s5, s6, s7, s8, a3, a4, aIndexAddr, hin1, Nat.mul_one, hrd, hnn1, hnn2, hb1, hb1', aConv, a5, a6, a7, a8, a9, a10, hwr, a11, hd8, show min 8 64 = 8 from rfl, a12]
          refine ⟨q + 1, ⟨o.set (o.length - 1 - (p + q)) (UInt8.ofNat ((c + (dgt o (p + q) + dgt l p * dgt m q)) % 256)), (c + (dgt o (p + q) + dgt l p * dgt m q)) / 2 ^ 8, ?_⟩, by omega⟩
          refine ⟨by rw [ei], rfl, rfl, by omega, by simpa using ho, by omega, htop2, ?_, rfl⟩
          rw [hfin, ← hst, ← Nat.add_assoc p q 1, Nat.pow_succ]
        · have : q = m.length := by omega
          subst this
          rw [lowB_all (Nat.le_refl _)] at hv
          simp -implicitDefEqProofs only [go_sem, simprocAttr, -Int.reducePow, -Nat.reducePow, s0, s1, s5, s6, s7]
          exact ⟨o, c, rfl, ho, hc, htop, hv, rfl⟩
      clear s0 s1 s5 s6 ho hv htop
      clear o
      rintro s T ⟨o, c, s0, s1, s5, s6, s7, ho, hc, htop, hv, rfl⟩
      have ei : (l.length : Int) - 1 - (p : Nat) = ((o.length - 1 - (p + m.length) : Nat) : Int) := by omega
      have hw1 : p + m.length < o.length := by omega
      have hrd := i8_rd1 (l := o) (L := []) (k := o.length - 1 - (p + m.length)) (by omega)
      have hdd : ((o[o.length - 1 - (p + m.length)]'(by omega)).toNat) = 0 := by unfold dgt at htop; rw [dif_pos hw1] at htop; exact htop
      rw [hdd] at hrd
      have hset := valB_setw hw1 (UInt8.ofNat c)
      have hby : (UInt8.ofNat c).toNat = c := by simp; omega
      have hwr := i8_wr (l := o) (L := []) (k := o.length - 1 - (p + m.length)) (b := UInt8.ofNat c) (by omega)
      rw [hby] at hset hwr
      rw [htop, Nat.mul_zero, Nat.add_zero, hv] at hset
      have hin1 : (0 : Int) ≤ ((o.length - 1 - (p + m.length) : Nat) : Int) ∧ ((o.length - 1 - (p + m.length) : Nat) : Int) < ((l.length + m.length : Nat) : Int) := by omega
      have a3 : IntKind.i64.wrap (((0 : Nat) : Int) + (c : Int)) = (c : Int) := by rw [w64 (by omega) (by omega)]; omega
      have a4 : IntKind.i64.wrap (((o.length - 1 - (p + m.length) : Nat) : Int) - 1) = (l.length : Int) - 1 - ((p + 1 : Nat) : Int) := by rw [w64 (by omega) (by omega)]; omega
      rw [ei] at s6
      rw [cast0] at hrd a3
      simp -implicitDefEqProofs only [go_sem, simprocAttr, -Int.reducePow, -Nat.reducePow, s0, s1, s5, s6, s7, aIndexAddr, hin1, Nat.mul_one, hrd, a3, hwr, a4]
      refine ⟨p + 1, ⟨o.set (o.length - 1 - (p + m.length)) (UInt8.ofNat c), rfl, by omega, by simpa using ho, ?_, rfl⟩, by omega⟩
      rw [hset, lowB_succ, Nat.add_mul]
    · have : p = l.length := by omega
      subst this
      rw [lowB_all (Nat.le_refl _)] at hv
      simp -implicitDefEqProofs only [go_sem, simprocAttr, -Int.reducePow, -Nat.reducePow, s5]
      exact ⟨o, ho, hv, rfl⟩
  rintro s T ⟨o, s5, ho, hv, rfl⟩
  rw [← ho] at s5 aL
  have mk := fun L : Heap => make_u8 (H ++ [⟨i8s o, 1, true⟩]) o.length (by omega)
  have mk := mk []
  simp only [List.append_assoc, List.cons_append, List.nil_append, List.length_append, List.length_cons, List.length_nil, Nat.zero_add] at mk
  simp -implicitDefEqProofs only [go_sem, simprocAttr, -Int.reducePow, -Nat.reducePow, s5, aL, mk]
  refine ax_midl (fun s T => ∃ t : List UInt8, s 9 = .slice (some ⟨H.length + 1, 0, none⟩) o.length o.length ∧ t = o ∧ T = H ++ [⟨i8s o, 1, true⟩, ⟨u8s t, 1, true⟩]) ?_ ?_
  · refine ax_loopx (fun (i : Nat) s T => ∃ t : List UInt8, s 5 = .slice (some ⟨H.length, 0, none⟩) o.length o.length ∧ s 9 = .slice (some ⟨H.length + 1, 0, none⟩) o.length o.length ∧ s 10 = .int .i64 (i : Nat) ∧ i ≤ o.length ∧ t.length = o.length ∧ t.take i = o.take i ∧ T = H ++ [⟨i8s o, 1, true⟩, ⟨u8s t, 1, true⟩]) (fun i => o.length - i) 0 ?_ ?_
    · refine ⟨List.replicate o.length 0, ?_⟩
      simp -implicitDefEqProofs only [go_sem, simprocAttr, -Int.reducePow, -Nat.reducePow]
      exact ⟨s5, by simp⟩
    rintro i s T ⟨t, s5, s9, s10, hi, ht, htk, rfl⟩
    simp -implicitDefEqProofs only [go_sem, simprocAttr, -Int.reducePow, -Nat.reducePow, s5, s10, aL]
    refine ax_cond2 ?_
    simp only [ev_tmp, ev_const, ev_func, upd_at, put_some, put_none, bndB_bool, Nat.reduceEqDiff, if_true, if_false, ↓reduceIte, reduceCtorEq]
    refine ⟨fun hc0 => have hlt := of_decide_eq_true hc0; ?_, fun hc0 => have hlt := of_decide_eq_false hc0; ?_⟩
    · have hio : i < o.length := by omega
      have hrd := i8_rd1 (l := o) (L := [⟨u8s t, 1, true⟩]) (k := i) hio
      have a2 : IntKind.u8.wrap ((o[i].toNat : Nat) : Int) = ((o[i].toNat : Nat) : Int) := wu8 (by omega) (by have := UInt8.toNat_lt o[i]; omega)
      have a3 : IntKind.i64.wrap ((i : Int) + 1) = ((i + 1 : Nat) : Int) := by rw [w64 (by omega) (by omega)]; rfl
      have hi2 : (0 : Int) ≤ (i : Int) ∧ (i : Int) < (o.length : Int) := by omega
      have hwr := u8_wr (l := t) (L := []) (k := i) (b := o[i]) (by omega)
      have htake : (t.set i o[i]).take (i + 1) = o.take (i + 1) := by
        rw [List.take_add_one, List.take_add_one, List.getElem?_set_self (by omega), List.getElem?_eq_getElem hio, List.take_set_of_le (Nat.le_refl _), htk]
      have htl : (t.set i o[i]).length = o.length := by simpa using ht
      generalize t.set i o[i] = t2 at *
      generalize o[i] = x at *
      simp -implicitDefEqProofs only [go_sem, simprocAttr, -Int.reducePow, -Nat.reducePow, s5, s9, s10, aL, aIndexAddr, hi2, Nat.mul_one, hrd, aConv, a2, hwr, a3]
      exact ⟨i + 1, ⟨t2, rfl, by omega, htl, htake, rfl⟩, by omega⟩
    · have : i = o.length := by omega
      subst this
      have : t = o := by rw [List.take_of_length_le (by omega), List.take_length] at htk; exact htk
      subst this
      simp -implicitDefEqProofs only [go_sem, simprocAttr, -Int.reducePow, -Nat.reducePow, s9]
      exact ⟨t, rfl, rfl⟩
  rintro s T ⟨t, s9, rfl, rfl⟩
  have hrd := u8_rd (L := []) (l := t) (k := 0) (n := t.length) (by omega)
  rw [List.drop_zero] at hrd
  have o1 := fun H => trimR H t
  rw [digB_strip, hv] at o1
  unfold bs at o1
  simp -implicitDefEqProofs only [go_sem, simprocAttr, -Int.reducePow, -Nat.reducePow, s9, aConv, hrd, bytesOf_u8s]
  refine wl_callV _ (by simp -implicitDefEqProofs only [go_sem, simprocAttr, -Int.reducePow, -Nat.reducePow]) (o1 _) ?_
  simp -implicitDefEqProofs only [go_sem, simprocAttr, -Int.reducePow, -Nat.reducePow, res231]
  first | exact .app _ _ | exact ⟨.app _ _, rfl⟩
end Go.Proofs.YthhmkaikopdmjaaGreat
namespace Go.Proofs.YthhmkaikopdmjaaGreat
open Go Go.Fw
theorem mulRI (H : Heap) {g g' : Bool} {m m' : List UInt8} (hm : m.length ≤ 1000000) (hm' : m'.length ≤ 1000000) :
    Sim Tryz.prog 171 #[iV g m, iV g' m'] H (mkI (ival g m * ival g' m')) H := by
  refine flat_ex (flat_mkI _) ?_
  have o1 := fun H => canonR H g m
  have o2 := fun H => canonR H g' m'
  have l1 : (digB (ival g m).natAbs).length ≤ 1000000 := canon_len hm
  have l2 : (digB (ival g' m').natAbs).length ≤ 1000000 := canon_len hm'
  generalize ival g m = x at *
  generalize ival g' m' = y at *
  have v1 := valB_dig x.natAbs
  have v2 := valB_dig y.natAbs
  have n1 : bs (digB x.natAbs) = bs [] ↔ x = 0 := by rw [bs_inj, digB_nil_iff]; omega
  have n2 : bs (digB y.natAbs) = bs [] ↔ y = 0 := by rw [bs_inj, digB_nil_iff]; omega
  unfold mkI iV at o1 o2
  unfold iV
  by_cases hx : x = 0
  · subst hx
    rw [Int.zero_mul]
    unfold mkI iV
    rw [show Int.natAbs 0 = 0 from rfl, digB_zero] at *
    refine sim_ex tok mixed Tryz.func171 rfl (by kernel_rfl) (by kernel_rfl) (by simp only [Tryz.ntmps171, List.size_toArray, List.length_cons, List.length_nil]; omega) ?_
    simp -implicitDefEqProofs only [go_sem, simprocAttr]
    refine ax_quiet (by kernel_rfl) ?_
    simp -implicitDefEqProofs only [go_sem, simprocAttr]
    refine wl_callV _ (by simp -implicitDefEqProofs only [go_sem, simprocAttr]) (o1 _) ?_
    simp -implicitDefEqProofs only [go_sem, simprocAttr]
    refine wl_callV _ (by simp -implicitDefEqProofs only [go_sem, simprocAttr]) (o2 _) ?_
    simp -implicitDefEqProofs only [go_sem, simprocAttr, wa_cond, axC_t, axC_f, build106, res171]
    first | exact .app _ _ | exact ⟨.app _ _, rfl⟩
  by_cases hy : y = 0
  · subst hy
    rw [Int.mul_zero]
    have n1 : ¬ bs (digB x.natAbs) = bs [] := fun h => hx (n1.1 h)
    unfold mkI iV
    rw [show Int.natAbs 0 = 0 from rfl, digB_zero] at *
    refine sim_ex tok mixed Tryz.func171 rfl (by kernel_rfl) (by kernel_rfl) (by simp only [Tryz.ntmps171, List.size_toArray, List.length_cons, List.length_nil]; omega) ?_
    simp -implicitDefEqProofs only [go_sem, simprocAttr]
    refine ax_quiet (by kernel_rfl) ?_
    simp -implicitDefEqProofs only [go_sem, simprocAttr]
    refine wl_callV _ (by simp -implicitDefEqProofs only [go_sem, simprocAttr]) (o1 _) ?_
    simp -implicitDefEqProofs only [go_sem, simprocAttr]
    refine wl_callV _ (by simp -implicitDefEqProofs only [go_sem, simprocAttr]) (o2 _) ?_
    simp -implicitDefEqProofs only [go_sem, simprocAttr, wa_cond, axC_t, axC_f, n1, build106, res171]
    first | exact .app _ _ | exact ⟨.app _ _, rfl⟩
  have n1 : ¬ bs (digB x.natAbs) = bs [] := fun h => hx (n1.1 h)
  have n2 : ¬ bs (digB y.natAbs) = bs [] := fun h => hy (n2.1 h)
  have a0 : IntKind.i64.wrap (((digB x.natAbs).length : Int) + ((digB y.natAbs).length : Int)) = (((digB x.natAbs).length + (digB y.natAbs).length : Nat) : Int) := by rw [addc, w64n (by omega)]
  by_cases hs : (digB x.natAbs).length + (digB y.natAbs).length < 8
  · have p1 := valB_lt (digB x.natAbs)
    have p2 := valB_lt (digB y.natAbs)
    have q1 : x.natAbs * y.natAbs < 256 ^ ((digB x.natAbs).length + (digB y.natAbs).length) := by
      rw [v1] at p1
      rw [v2] at p2
      rw [Nat.pow_add]; exact Nat.mul_lt_mul'' p1 p2
    have q2 := pow256_le (i := (digB x.natAbs).length + (digB y.natAbs).length) (by omega)
    have hab : (x * y).natAbs = x.natAbs * y.natAbs := Int.natAbs_mul x y
    have o3 := fun H => valueR H (decide (x < 0)) (m := digB x.natAbs) (by omega)
    have o4 := fun H => valueR H (decide (y < 0)) (m := digB y.natAbs) (by omega)
    rw [ival_mk] at o3 o4
    have hz : (x * y).natAbs < 72057594037927936 := by omega
    have o5 := fun H => ofR H (z := x * y) (by omega) (by omega)
    have e1 : (((digB x.natAbs).length + (digB y.natAbs).length : Nat) : Int) < 8 := by omega
    have a1 : IntKind.i64.wrap (x * y) = x * y := by rw [w64 (by omega) (by omega)]
    clear hab hz q1
    generalize digB x.natAbs = l at *
    generalize digB y.natAbs = l' at *
    unfold iV at o3 o4
    unfold mkI iV at o5 ⊢
    refine sim_ex tok mixed Tryz.func171 rfl (by kernel_rfl) (by kernel_rfl) (by simp only [Tryz.ntmps171, List.size_toArray, List.length_cons, List.length_nil]; omega) ?_
    simp -implicitDefEqProofs only [go_sem, simprocAttr]
    refine ax_quiet (by kernel_rfl) ?_
    simp -implicitDefEqProofs only [go_sem, simprocAttr]
    refine wl_callV _ (by simp -implicitDefEqProofs only [go_sem, simprocAttr]) (o1 _) ?_
    simp -implicitDefEqProofs only [go_sem, simprocAttr]
    refine wl_callV _ (by simp -implicitDefEqProofs only [go_sem, simprocAttr]) (o2 _) ?_
    simp -implicitDefEqProofs only [go_sem, simprocAttr, wa_cond, axC_t, axC_f, n1, n2, aLen, a0, e1]
    refine ax_quiet (by kernel_rfl) ?_
    simp -implicitDefEqProofs only [go_sem, simprocAttr]
    refine wl_callV _ (by simp -implicitDefEqProofs only [go_sem, simprocAttr]) (o3 _) ?_
    simp -implicitDefEqProofs only [go_sem, simprocAttr]
    refine wl_callV _ (by simp -implicitDefEqProofs only [go_sem, simprocAttr]) (o4 _) ?_
    simp -implicitDefEqProofs only [go_sem, simprocAttr, a1]
    refine wl_callV _ (by simp -implicitDefEqProofs only [go_sem, simprocAttr]) (o5 _) ?_
    simp -implicitDefEqProofs only [go_sem, simprocAttr, res171]
    first | exact .app _ _ | exact ⟨.app _ _, rfl⟩
  have o6 := fun H => mulMagR H (l := digB x.natAbs) (m := digB y.natAbs) l1 l2
  rw [v1, v2] at o6
  have e1 : ¬ (((digB x.natAbs).length + (digB y.natAbs).length : Nat) : Int) < 8 := by omega
  have e4 : (!(decide (x < 0) == decide (y < 0))) = decide (x * y < 0) := by
    by_cases h : x < 0
    · by_cases h' : y < 0
      · have := Int.mul_pos_of_neg_of_neg h h'
        simp [h, h']; omega
      · have := Int.mul_neg_of_neg_of_pos h (show 0 < y by omega)
        simp [h, h', this]
    · by_cases h' : y < 0
      · have := Int.mul_neg_of_pos_of_neg (show 0 < x by omega) h'
        simp [h, h', this]
      · have := Int.mul_pos (show 0 < x by omega) (show 0 < y by omega)
        simp [h, h']; omega
  unfold mkI iV
  rw [Int.natAbs_mul, ← e4]
  generalize decide (x < 0) = sx at *
  generalize decide (y < 0) = sy at *
  generalize digB x.natAbs = l at *
  generalize digB y.natAbs = l' at *
  refine sim_ex tok mixed Tryz.func171 rfl (by kernel_rfl) (by kernel_rfl) (by simp only [Tryz.ntmps171, List.size_toArray, List.length_cons, List.length_nil]; omega) ?_
  simp -implicitDefEqProofs only [go_sem, simprocAttr]
  refine ax_quiet (by kernel_rfl) ?_
  simp -implicitDefEqProofs only [go_sem, simprocAttr]
  refine wl_callV _ (by simp -implicitDefEqProofs only [go_sem, simprocAttr]) (o1 _) ?_
  simp -implicitDefEqProofs only [go_sem, simprocAttr]
  refine wl_callV _ (by simp -implicitDefEqProofs only [go_sem, simprocAttr]) (o2 _) ?_
  simp -implicitDefEqProofs only [go_sem, simprocAttr, wa_cond, axC_t, axC_f, n1, n2, aLen, a0, e1]
  refine ax_quiet (by kernel_rfl) ?_
  simp -implicitDefEqProofs only [go_sem, simprocAttr, bool_neq]
  refine wl_callV _ (by simp -implicitDefEqProofs only [go_sem, simprocAttr]) (o6 _) ?_
  simp -implicitDefEqProofs only [go_sem, simprocAttr, res171]
  first | exact .app _ _ | exact ⟨.app _ _, rfl⟩
end Go.Proofs.YthhmkaikopdmjaaGreat
namespace Go.Proofs.YthhmkaikopdmjaaGreat
open Go Go.Fw
def strs (l : List (List UInt8)) : List Value := l.map fun s => Value.string (bs s)
theorem strs_length (l : List (List UInt8)) : (strs l).length = l.length := by simp [strs]
theorem strs_wr {l : List (List UInt8)} {L : Heap} {k : Nat} {b : List UInt8} (h : k < l.length) : wr (⟨strs l, 1, true⟩ :: L) 0 k [.string (bs b)] = some (⟨strs (l.set k b), 1, true⟩ :: L) := by
  rw [wr_eq]
  simp only [List.getElem?_cons_zero, List.set_cons_zero]
  rw [if_pos (by simp [strs_length, allC, isCell]; omega), splice_one _ _ _ (by rw [strs_length]; exact h)]
  simp [strs, List.map_set]
theorem strs_rd1 {l : List (List UInt8)} {L : Heap} {k : Nat} {x : List UInt8} (h : l[k]? = some x) : rd (⟨strs l, 1, true⟩ :: L) 0 k 1 = some [.string (bs x)] := by
  have hk := (List.getElem?_eq_some_iff.1 h).1
  unfold rd
  simp only [List.getElem?_cons_zero]
  rw [if_pos (by simp [strs_length]; omega)]
  congr 1
  apply List.ext_getElem?
  intro j
  simp only [List.getElem?_take, List.getElem?_drop, strs, List.getElem?_map]
  cases j with
  | zero => simp [h]
  | succ j => simp
theorem str_slice1 (H : Heap) {l : List UInt8} {i : Nat} (h : i < l.length) : aSlice tt H 9 (.string (bs l)) (some (.int .i64 (i : Nat))) (some (.int .i64 ((i + 1 : Nat) : Int))) none = some (.string (bs [l[i]])) := by
  have e0 : (0 : Int) ≤ (i : Int) := by omega
  have e1 : (0 : Int) ≤ ((i + 1 : Nat) : Int) := by omega
  have e2 : i ≤ i + 1 ∧ i + 1 ≤ (bs l).size := ⟨by omega, by rw [bs_size]; omega⟩
  have e3 : (l.drop i).take (i + 1 - i) = [l[i]] := by rw [List.drop_eq_getElem_cons h, show i + 1 - i = 1 by omega]; rfl
  simp only [aSlice, tt9, bnd, if_pos e0, if_pos e1, Int.toNat_natCast]
  rw [if_pos e2, bs_extract, e3]
theorem bs_add {l m : List UInt8} (h : l.length + m.length ≤ 1099511627776) (t : TypeId) : aBin tt .add t (.string (bs l)) (.string (bs m)) = some (.string (bs (l ++ m))) := by
  have e : bs l ++ bs m = bs (l ++ m) := by
    have h2 : bl (bs l ++ bs m) = l ++ m := by simp [bl, bs]
    rw [← bs_bl (bs l ++ bs m), h2]
  simp only [aBin, aStr, bs_size, if_pos h, e]
theorem divMagR (H : Heap) {l : List UInt8} {D : Nat} (hl : l.length ≤ 900000) (hD : 0 < D) (hDl : (digB D).length ≤ 900000) :
    Sim Tryz.prog 226 #[.string (bs l), .string (bs (digB D))] H (.tuple #[.string (bs (digB (valB l / D))), .string (bs (digB (valB l % D)))]) H := by
  refine flat_ex rfl ?_
  have hre : ∀ T : Heap, T ++ [(⟨[.string (bs []), .string (bs []), .string (bs []), .string (bs []), .string (bs []), .string (bs []), .string (bs []), .string (bs [])], 1, true⟩ : Blk)] = T ++ [⟨strs (List.replicate 8 []), 1, true⟩] := fun _ => rfl
  have hw0 := strs_wr (l := List.replicate 8 []) (L := []) (k := 0) (b := digB D) (by decide)
  refine sim_ex tok mixed Tryz.func226 rfl (by kernel_rfl) (by kernel_rfl) (by simp only [Tryz.ntmps226, List.size_toArray, List.length_cons, List.length_nil]; omega) ?_
  simp -implicitDefEqProofs only [go_sem, Nat.reduceAdd, Nat.reduceSub, Nat.reduceMul, Nat.reduceLT, Nat.reduceLeDiff, Nat.reduceEqDiff, Nat.reduceBEq, Nat.reduceGT, Nat.reduceMod, Nat.reduceDiv, ↓reduceIte, reduceCtorEq, Int.reduceLE, Int.reduceLT, Int.reduceToNat, Int.reduceEq, Int.reduceNeg, Int.reduceAdd, Int.reduceSub, Int.reduceMul]
  rw [hre]
  simp -implicitDefEqProofs only [go_sem, Nat.reduceAdd, Nat.reduceSub, Nat.reduceMul, Nat.reduceLT, Nat.reduceLeDiff, Nat.reduceEqDiff, Nat.reduceBEq, Nat.reduceGT, Nat.reduceMod, Nat.reduceDiv, ↓reduceIte, reduceCtorEq, Int.reduceLE, Int.reduceLT, Int.reduceToNat, Int.reduceEq, Int.reduceNeg, Int.reduceAdd, Int.reduceSub, Int.reduceMul, aIndexAddr, hw0, show (0 : Int) < ((8 : Nat) : Int) from by decide]
  refine ax_midl (fun s T => ∃ ts : List (List UInt8), s 0 = .string (bs l) ∧ s 6 = .pointer (some ⟨H.length, 0, none⟩) ∧ ts.length = 8 ∧ (∀ j, j < 8 → ts[j]? = some (digB (D * 2 ^ j))) ∧ T = H ++ [⟨strs ts, 1, true⟩]) ?_ ?_
  · refine ax_loopx (fun (i : Nat) s T => ∃ ts : List (List UInt8), s 0 = .string (bs l) ∧ s 6 = .pointer (some ⟨H.length, 0, none⟩) ∧ s 7 = .int .i64 ((i + 1 : Nat) : Int) ∧ i ≤ 7 ∧ ts.length = 8 ∧ (∀ j, j ≤ i → ts[j]? = some (digB (D * 2 ^ j))) ∧ T = H ++ [⟨strs ts, 1, true⟩]) (fun i => 7 - i) 0 ?_ ?_
    · refine ⟨(List.replicate 8 []).set 0 (digB D), ?_⟩
      simp -implicitDefEqProofs only [go_sem, Nat.reduceAdd, Nat.reduceSub, Nat.reduceMul, Nat.reduceLT, Nat.reduceLeDiff, Nat.reduceEqDiff, Nat.reduceBEq, Nat.reduceGT, Nat.reduceMod, Nat.reduceDiv, ↓reduceIte, reduceCtorEq, Int.reduceLE, Int.reduceLT, Int.reduceToNat, Int.reduceEq, Int.reduceNeg, Int.reduceAdd, Int.reduceSub, Int.reduceMul]
      refine ⟨rfl, fun j hj => ?_⟩
      have : j = 0 := by omega
      subst this
      simp
    rintro i s T ⟨ts, s0, s6, s7, hi, hts, hv, rfl⟩
    simp -implicitDefEqProofs only [go_sem, Nat.reduceAdd, Nat.reduceSub, Nat.reduceMul, Nat.reduceLT, Nat.reduceLeDiff, Nat.reduceEqDiff, Nat.reduceBEq, Nat.reduceGT, Nat.reduceMod, Nat.reduceDiv, ↓reduceIte, reduceCtorEq, Int.reduceLE, Int.reduceLT, Int.reduceToNat, Int.reduceEq, Int.reduceNeg, Int.reduceAdd, Int.reduceSub, Int.reduceMul, s7]
    refine ax_cond2 ?_
    simp only [ev_tmp, ev_const, ev_func, upd_at, put_some, put_none, bndB_bool, Nat.reduceEqDiff, if_true, if_false, ↓reduceIte, reduceCtorEq]
    refine ⟨fun hc0 => have hlt := of_decide_eq_true hc0; ?_, fun hc0 => have hlt := of_decide_eq_false hc0; ?_⟩
    · have hi7 : i < 7 := by omega
      have hti := hv i (Nat.le_refl _)
      have hsz : (digB (D * 2 ^ i)).length ≤ 1000000 := by
        refine Nat.le_trans (digB_len _ ((digB D).length + 1) ?_) (by omega)
        have h1 := valB_lt (digB D)
        rw [valB_dig] at h1
        have h2 : 2 ^ i ≤ 2 ^ 7 := Nat.pow_le_pow_right (by decide) (by omega)
        rw [Nat.pow_succ]
        have h3 : D * 2 ^ i ≤ D * 2 ^ 7 := Nat.mul_le_mul_left _ h2
        omega
      have o1 := fun H => addMagR H (l := digB (D * 2 ^ i)) (m := digB (D * 2 ^ i)) hsz hsz
      have hdbl : valB (digB (D * 2 ^ i)) + valB (digB (D * 2 ^ i)) = D * 2 ^ (i + 1) := by rw [valB_dig, Nat.pow_succ, ← Nat.mul_assoc]; omega
      rw [hdbl] at o1
      have a1 : IntKind.i64.wrap (((i + 1 : Nat) : Int) - 1) = (i : Int) := by rw [w64 (by omega) (by omega)]; omega
      have a2 : IntKind.i64.wrap (((i + 1 : Nat) : Int) + 1) = ((i + 1 + 1 : Nat) : Int) := by rw [w64 (by omega) (by omega)]; rfl
      have hi1 : (0 : Int) ≤ (i : Int) ∧ (i : Int) < ((8 : Nat) : Int) := by omega
      have hi2 : (0 : Int) ≤ ((i + 1 : Nat) : Int) ∧ ((i + 1 : Nat) : Int) < ((8 : Nat) : Int) := by omega
      have hrd := strs_rd1 (L := []) hti
      have hwr := strs_wr (l := ts) (L := []) (k := i + 1) (b := digB (D * 2 ^ (i + 1))) (by omega)
      have hts2 : (ts.set (i + 1) (digB (D * 2 ^ (i + 1)))).length = 8 := by simpa using hts
      have hv2 : ∀ j, j ≤ i + 1 → (ts.set (i + 1) (digB (D * 2 ^ (i + 1))))[j]? = some (digB (D * 2 ^ j)) := by
        intro j hj
        by_cases hje : j = i + 1
        · subst hje; rw [List.getElem?_set_self (by omega)]
        · rw [List.getElem?_set_ne (by omega)]; exact hv j (by omega)
      generalize ts.set (i + 1) (digB (D * 2 ^ (i + 1))) = ts2 at *
      simp -implicitDefEqProofs only [go_sem, Nat.reduceAdd, Nat.reduceSub, Nat.reduceMul, Nat.reduceLT, Nat.reduceLeDiff, Nat.reduceEqDiff, Nat.reduceBEq, Nat.reduceGT, Nat.reduceMod, Nat.reduceDiv, ↓reduceIte, reduceCtorEq, Int.reduceLE, Int.reduceLT, Int.reduceToNat, Int.reduceEq, Int.reduceNeg, Int.reduceAdd, Int.reduceSub, Int.reduceMul]
      refine ax_quiet (by kernel_rfl) ?_
      simp -implicitDefEqProofs only [go_sem, Nat.reduceAdd, Nat.reduceSub, Nat.reduceMul, Nat.reduceLT, Nat.reduceLeDiff, Nat.reduceEqDiff, Nat.reduceBEq, Nat.reduceGT, Nat.reduceMod, Nat.reduceDiv, ↓reduceIte, reduceCtorEq, Int.reduceLE, Int.reduceLT, Int.reduceToNat, Int.reduceEq, Int.reduceNeg, Int.reduceAdd, Int.reduceSub, Int.reduceMul, s6, s7, a1, aIndexAddr, hi1, hi2, Nat.mul_one, hrd]
      refine wl_callV _ (by simp -implicitDefEqProofs only [go_sem, Nat.reduceAdd, Nat.reduceSub, Nat.reduceMul, Nat.reduceLT, Nat.reduceLeDiff, Nat.reduceEqDiff, Nat.reduceBEq, Nat.reduceGT, Nat.reduceMod, Nat.reduceDiv, ↓reduceIte, reduceCtorEq, Int.reduceLE, Int.reduceLT, Int.reduceToNat, Int.reduceEq, Int.reduceNeg, Int.reduceAdd, Int.reduceSub, Int.reduceMul]) (o1 _) ?_
      simp -implicitDefEqProofs only [go_sem, Nat.reduceAdd, Nat.reduceSub, Nat.reduceMul, Nat.reduceLT, Nat.reduceLeDiff, Nat.reduceEqDiff, Nat.reduceBEq, Nat.reduceGT, Nat.reduceMod, Nat.reduceDiv, ↓reduceIte, reduceCtorEq, Int.reduceLE, Int.reduceLT, Int.reduceToNat, Int.reduceEq, Int.reduceNeg, Int.reduceAdd, Int.reduceSub, Int.reduceMul, s0, s6, s7, aIndexAddr, hi1, hi2, Nat.mul_one, hwr, a2]
      exact ⟨i + 1, ⟨ts2, rfl, by omega, hts2, hv2, rfl⟩, by omega⟩
    · have : i = 7 := by omega
      subst this
      simp -implicitDefEqProofs only [go_sem, Nat.reduceAdd, Nat.reduceSub, Nat.reduceMul, Nat.reduceLT, Nat.reduceLeDiff, Nat.reduceEqDiff, Nat.reduceBEq, Nat.reduceGT, Nat.reduceMod, Nat.reduceDiv, ↓reduceIte, reduceCtorEq, Int.reduceLE, Int.reduceLT, Int.reduceToNat, Int.reduceEq, Int.reduceNeg, Int.reduceAdd, Int.reduceSub, Int.reduceMul, s0, s6]
      exact ⟨ts, hts, fun j hj => hv j (by omega), rfl⟩
  rintro s T ⟨ts, s0, s6, hts, hv, rfl⟩
  have hmk := make_u8 (H ++ [⟨strs ts, 1, true⟩]) l.length (by omega)
  simp -implicitDefEqProofs only [go_sem, Nat.reduceAdd, Nat.reduceSub, Nat.reduceMul, Nat.reduceLT, Nat.reduceLeDiff, Nat.reduceEqDiff, Nat.reduceBEq, Nat.reduceGT, Nat.reduceMod, Nat.reduceDiv, ↓reduceIte, reduceCtorEq, Int.reduceLE, Int.reduceLT, Int.reduceToNat, Int.reduceEq, Int.reduceNeg, Int.reduceAdd, Int.reduceSub, Int.reduceMul] at hmk
  simp -implicitDefEqProofs only [go_sem, Nat.reduceAdd, Nat.reduceSub, Nat.reduceMul, Nat.reduceLT, Nat.reduceLeDiff, Nat.reduceEqDiff, Nat.reduceBEq, Nat.reduceGT, Nat.reduceMod, Nat.reduceDiv, ↓reduceIte, reduceCtorEq, Int.reduceLE, Int.reduceLT, Int.reduceToNat, Int.reduceEq, Int.reduceNeg, Int.reduceAdd, Int.reduceSub, Int.reduceMul, s0, aLen, hmk]
  have hD1 : ∀ x : Nat, x % D < D := fun x => Nat.mod_lt x hD
  have hDlen : ∀ x : Nat, x < D → (digB x).length ≤ 900000 := fun x hx => Nat.le_trans (ltlen (n := D) (k := x) (.inr (by omega))) hDl
  refine ax_midl (fun s T => ∃ o : List UInt8, s 8 = .slice (some ⟨H.length + 1, 0, none⟩) l.length l.length ∧ s 9 = .string (bs (digB (valB l % D))) ∧ o.length = l.length ∧ valB o = valB l / D ∧ T = H ++ [⟨strs ts, 1, true⟩, ⟨u8s o, 1, true⟩]) ?_ ?_
  · refine ax_loopx (fun (i : Nat) s T => ∃ o : List UInt8, s 0 = .string (bs l) ∧ s 6 = .pointer (some ⟨H.length, 0, none⟩) ∧ s 8 = .slice (some ⟨H.length + 1, 0, none⟩) l.length l.length ∧ s 9 = .string (bs (digB (valB (l.take i) % D))) ∧ s 10 = .int .i64 (i : Nat) ∧ i ≤ l.length ∧ o.length = l.length ∧
      valB (o.take i) = valB (l.take i) / D ∧ T = H ++ [⟨strs ts, 1, true⟩, ⟨u8s o, 1, true⟩]) (fun i => l.length - i) 0 ?_ ?_
    · refine ⟨List.replicate l.length 0, ?_⟩
      simp -implicitDefEqProofs only [go_sem, Nat.reduceAdd, Nat.reduceSub, Nat.reduceMul, Nat.reduceLT, Nat.reduceLeDiff, Nat.reduceEqDiff, Nat.reduceBEq, Nat.reduceGT, Nat.reduceMod, Nat.reduceDiv, ↓reduceIte, reduceCtorEq, Int.reduceLE, Int.reduceLT, Int.reduceToNat, Int.reduceEq, Int.reduceNeg, Int.reduceAdd, Int.reduceSub, Int.reduceMul, show valB [] = 0 from rfl, Nat.zero_mod, digB_zero, s6]
      refine ⟨s0, ?_, (Nat.zero_div D).symm⟩; simp
    clear s0 s6 hmk
    rintro i s T ⟨o, s0, s6, s8, s9, s10, hi, ho, hvo, rfl⟩
    simp -implicitDefEqProofs only [go_sem, Nat.reduceAdd, Nat.reduceSub, Nat.reduceMul, Nat.reduceLT, Nat.reduceLeDiff, Nat.reduceEqDiff, Nat.reduceBEq, Nat.reduceGT, Nat.reduceMod, Nat.reduceDiv, ↓reduceIte, reduceCtorEq, Int.reduceLE, Int.reduceLT, Int.reduceToNat, Int.reduceEq, Int.reduceNeg, Int.reduceAdd, Int.reduceSub, Int.reduceMul, s0, s10, aLen]
    refine ax_cond2 ?_
    simp only [ev_tmp, ev_const, ev_func, upd_at, put_some, put_none, bndB_bool, Nat.reduceEqDiff, if_true, if_false, ↓reduceIte, reduceCtorEq]
    refine ⟨fun hc0 => have hlt := of_decide_eq_true hc0; ?_, fun hc0 => have hlt := of_decide_eq_false hc0; ?_⟩
    · have hil : i < l.length := by omega
      have hsl := fun H => str_slice1 H hil
      have hPD := hD1 (valB (l.take i))
      have hadd := fun t => bs_add (l := digB (valB (l.take i) % D)) (m := [l[i]]) (by have := hDlen _ hPD; simp; omega) t
      have o1 := fun H => trimR H (digB (valB (l.take i) % D) ++ [l[i]])
      have hx : (l[i]).toNat < 256 := UInt8.toNat_lt _
      rw [digB_strip, valB_snoc, valB_dig] at o1
      have hts := valB_take_succ hil
      have hdiv : valB (l.take (i + 1)) / D = (valB (l.take i) / D) * 256 + (valB (l.take i) % D * 256 + (l[i]).toNat) / D := by
        have e : valB (l.take (i + 1)) = D * (valB (l.take i) / D * 256) + (valB (l.take i) % D * 256 + (l[i]).toNat) := by
          rw [hts]
          conv => lhs; rw [← Nat.div_add_mod (valB (l.take i)) D]
          rw [Nat.add_mul, Nat.mul_assoc, Nat.add_assoc]
        rw [e, Nat.mul_add_div hD]
      have hmod : valB (l.take (i + 1)) % D = (valB (l.take i) % D * 256 + (l[i]).toNat) % D := by
        have e : valB (l.take (i + 1)) = D * (valB (l.take i) / D * 256) + (valB (l.take i) % D * 256 + (l[i]).toNat) := by
          rw [hts]
          conv => lhs; rw [← Nat.div_add_mod (valB (l.take i)) D]
          rw [Nat.add_mul, Nat.mul_assoc, Nat.add_assoc]
        rw [e, Nat.mul_add_mod]
      have hR : valB (l.take i) % D * 256 + (l[i]).toNat < D * 2 ^ 8 := by omega
      have a1 : IntKind.i64.wrap ((i : Int) + 1) = ((i + 1 : Nat) : Int) := by rw [w64 (by omega) (by omega)]; rfl
      generalize hRR : valB (l.take i) % D * 256 + (l[i]).toNat = R at *
      generalize l[i] = x at *
      generalize digB (valB (l.take i) % D) = rr at *
      simp -implicitDefEqProofs only [go_sem, Nat.reduceAdd, Nat.reduceSub, Nat.reduceMul, Nat.reduceLT, Nat.reduceLeDiff, Nat.reduceEqDiff, Nat.reduceBEq, Nat.reduceGT, Nat.reduceMod, Nat.reduceDiv, ↓reduceIte, reduceCtorEq, Int.reduceLE, Int.reduceLT, Int.reduceToNat, Int.reduceEq, Int.reduceNeg, Int.reduceAdd, Int.reduceSub, Int.reduceMul, s0, s9, s10, a1, hsl, hadd]
      refine wl_callV _ (by simp -implicitDefEqProofs only [go_sem, Nat.reduceAdd, Nat.reduceSub, Nat.reduceMul, Nat.reduceLT, Nat.reduceLeDiff, Nat.reduceEqDiff, Nat.reduceBEq, Nat.reduceGT, Nat.reduceMod, Nat.reduceDiv, ↓reduceIte, reduceCtorEq, Int.reduceLE, Int.reduceLT, Int.reduceToNat, Int.reduceEq, Int.reduceNeg, Int.reduceAdd, Int.reduceSub, Int.reduceMul]) (o1 _) ?_
      simp -implicitDefEqProofs only [go_sem, Nat.reduceAdd, Nat.reduceSub, Nat.reduceMul, Nat.reduceLT, Nat.reduceLeDiff, Nat.reduceEqDiff, Nat.reduceBEq, Nat.reduceGT, Nat.reduceMod, Nat.reduceDiv, ↓reduceIte, reduceCtorEq, Int.reduceLE, Int.reduceLT, Int.reduceToNat, Int.reduceEq, Int.reduceNeg, Int.reduceAdd, Int.reduceSub, Int.reduceMul]
      refine ax_midl (fun s T => ∃ (d r : Nat), s 0 = .string (bs l) ∧ s 6 = .pointer (some ⟨H.length, 0, none⟩) ∧ s 8 = .slice (some ⟨H.length + 1, 0, none⟩) l.length l.length ∧ s 9 = .string (bs (digB r)) ∧ s 10 = .int .i64 (i : Nat) ∧ s 11 = .int .i64 (d : Nat) ∧
        d * D + r = R ∧ r < D ∧ d < 256 ∧ T = H ++ [⟨strs ts, 1, true⟩, ⟨u8s o, 1, true⟩]) ?_ ?_
      · refine ax_loopx (fun (j : Nat) s T => ∃ (d r : Nat), s 0 = .string (bs l) ∧ s 6 = .pointer (some ⟨H.length, 0, none⟩) ∧ s 8 = .slice (some ⟨H.length + 1, 0, none⟩) l.length l.length ∧ s 9 = .string (bs (digB r)) ∧ s 10 = .int .i64 (i : Nat) ∧ s 11 = .int .i64 (d : Nat) ∧ s 12 = .int .i64 ((j : Int) - 1) ∧
          j ≤ 8 ∧ d * D + r = R ∧ r < D * 2 ^ j ∧ d + 2 ^ j ≤ 256 ∧ T = H ++ [⟨strs ts, 1, true⟩, ⟨u8s o, 1, true⟩]) (fun j => j) 8 ?_ ?_
        · refine ⟨0, R, ?_⟩
          simp -implicitDefEqProofs only [go_sem, Nat.reduceAdd, Nat.reduceSub, Nat.reduceMul, Nat.reduceLT, Nat.reduceLeDiff, Nat.reduceEqDiff, Nat.reduceBEq, Nat.reduceGT, Nat.reduceMod, Nat.reduceDiv, ↓reduceIte, reduceCtorEq, Int.reduceLE, Int.reduceLT, Int.reduceToNat, Int.reduceEq, Int.reduceNeg, Int.reduceAdd, Int.reduceSub, Int.reduceMul, s0, s6, s8, s10]
          ((repeat' apply And.intro) <;> first | rfl | assumption | omega)
        clear s0 s6 s8 s9 s10
        rintro j s T ⟨d, r, s0, s6, s8, s9, s10, s11, s12, hj, hdr, hr, hdj, rfl⟩
        cases j with
        | zero =>
          have e : ¬ (0 : Int) ≤ ((0 : Nat) : Int) - 1 := by decide
          simp -implicitDefEqProofs only [go_sem, Nat.reduceAdd, Nat.reduceSub, Nat.reduceMul, Nat.reduceLT, Nat.reduceLeDiff, Nat.reduceEqDiff, Nat.reduceBEq, Nat.reduceGT, Nat.reduceMod, Nat.reduceDiv, ↓reduceIte, reduceCtorEq, Int.reduceLE, Int.reduceLT, Int.reduceToNat, Int.reduceEq, Int.reduceNeg, Int.reduceAdd, Int.reduceSub, Int.reduceMul, wa_cond, axC_t, axC_f, s0, s6, s8, s9, s10, s11, s12, e]
          rw [Nat.pow_zero, Nat.mul_one] at hr; refine ⟨d, r, ?_⟩; ((repeat' apply And.intro) <;> first | rfl | assumption | omega)
        | succ k =>
          have e1 : ((k + 1 : Nat) : Int) - 1 = (k : Int) := by omega
          rw [e1] at s12
          have e2 : (0 : Int) ≤ (k : Int) := by omega
          have e3 : (0 : Int) ≤ (k : Int) ∧ (k : Int) < ((8 : Nat) : Int) := by omega
          have hrd := strs_rd1 (L := [⟨u8s o, 1, true⟩]) (hv k (by omega))
          have o2 := fun H => compareMagR H r (D * 2 ^ k)
          have a2 : IntKind.i64.wrap ((k : Int) - 1) = (k : Int) - 1 := w64 (by omega) (by omega)
          have hp := Nat.pow_succ 2 k
          rw [hp, ← Nat.mul_assoc] at hr
          by_cases hge : D * 2 ^ k ≤ r
          · have hs : (0 : Int) ≤ sgn ((r : Int) - ((D * 2 ^ k : Nat) : Int)) := by unfold sgn; rw [if_neg (by omega)]; split <;> omega
            have hp2 : 2 ^ k ≤ 2 ^ 7 := Nat.pow_le_pow_right (by decide) (by omega)
            have hrl : (digB r).length ≤ 1000000 := by
              refine Nat.le_trans (digB_len _ ((digB D).length + 1) ?_) (by omega)
              have h1 := valB_lt (digB D)
              rw [valB_dig] at h1
              rw [Nat.pow_succ]
              have h3 : D * 2 ^ k ≤ D * 2 ^ 7 := Nat.mul_le_mul_left _ hp2
              omega
            have o3 := fun H => subMagR H (l := digB r) (m := digB (D * 2 ^ k)) hrl (ltlen (.inr hge)) (by rw [valB_dig, valB_dig]; exact hge)
            rw [valB_dig, valB_dig] at o3
            have a3 : IntKind.u64.wrap (k : Int) = (k : Int) := wu64n (by omega)
            have a4 : ¬ (k : Int) < 0 := by omega
            have a5 : IntKind.i64.wrap (1 * 2 ^ (min k 64)) = ((2 ^ k : Nat) : Int) := by
              rw [show min k 64 = k by omega, Int.one_mul, show ((2 : Int) ^ k) = ((2 ^ k : Nat) : Int) by simp]
              exact w64n (by omega)
            have a6 : IntKind.i64.wrap ((d : Int) + ((2 ^ k : Nat) : Int)) = ((d + 2 ^ k : Nat) : Int) := by rw [addc, w64n (by omega)]
            have f1 : (d + 2 ^ k) * D + (r - D * 2 ^ k) = R := by rw [Nat.add_mul, Nat.mul_comm (2 ^ k) D]; omega
            have f2 : r - D * 2 ^ k < D * 2 ^ k := by omega
            have f3 : d + 2 ^ k + 2 ^ k ≤ 256 := by omega
            generalize sgn ((r : Int) - ((D * 2 ^ k : Nat) : Int)) = sg at *
            generalize digB (D * 2 ^ k) = tk at *
            generalize hr2 : r - D * 2 ^ k = r2 at *
            simp -implicitDefEqProofs only [go_sem, Nat.reduceAdd, Nat.reduceSub, Nat.reduceMul, Nat.reduceLT, Nat.reduceLeDiff, Nat.reduceEqDiff, Nat.reduceBEq, Nat.reduceGT, Nat.reduceMod, Nat.reduceDiv, ↓reduceIte, reduceCtorEq, Int.reduceLE, Int.reduceLT, Int.reduceToNat, Int.reduceEq, Int.reduceNeg, Int.reduceAdd, Int.reduceSub, Int.reduceMul, wa_cond, axC_t, axC_f, s0, s6, s8, s9, s10, s11, s12, e2, aIndexAddr, e3, Nat.mul_one, hrd]
            refine wl_callV _ (by simp -implicitDefEqProofs only [go_sem, Nat.reduceAdd, Nat.reduceSub, Nat.reduceMul, Nat.reduceLT, Nat.reduceLeDiff, Nat.reduceEqDiff, Nat.reduceBEq, Nat.reduceGT, Nat.reduceMod, Nat.reduceDiv, ↓reduceIte, reduceCtorEq, Int.reduceLE, Int.reduceLT, Int.reduceToNat, Int.reduceEq, Int.reduceNeg, Int.reduceAdd, Int.reduceSub, Int.reduceMul]) (o2 _) ?_
            simp -implicitDefEqProofs only [go_sem, Nat.reduceAdd, Nat.reduceSub, Nat.reduceMul, Nat.reduceLT, Nat.reduceLeDiff, Nat.reduceEqDiff, Nat.reduceBEq, Nat.reduceGT, Nat.reduceMod, Nat.reduceDiv, ↓reduceIte, reduceCtorEq, Int.reduceLE, Int.reduceLT, Int.reduceToNat, Int.reduceEq, Int.reduceNeg, Int.reduceAdd, Int.reduceSub, Int.reduceMul, wa_cond, axC_t, axC_f, s0, s6, s8, s9, s10, s11, s12, hs, aIndexAddr, e3, Nat.mul_one, hrd]
            refine wl_callV _ (by simp -implicitDefEqProofs only [go_sem, Nat.reduceAdd, Nat.reduceSub, Nat.reduceMul, Nat.reduceLT, Nat.reduceLeDiff, Nat.reduceEqDiff, Nat.reduceBEq, Nat.reduceGT, Nat.reduceMod, Nat.reduceDiv, ↓reduceIte, reduceCtorEq, Int.reduceLE, Int.reduceLT, Int.reduceToNat, Int.reduceEq, Int.reduceNeg, Int.reduceAdd, Int.reduceSub, Int.reduceMul]) (o3 _) ?_
            simp -implicitDefEqProofs only [go_sem, Nat.reduceAdd, Nat.reduceSub, Nat.reduceMul, Nat.reduceLT, Nat.reduceLeDiff, Nat.reduceEqDiff, Nat.reduceBEq, Nat.reduceGT, Nat.reduceMod, Nat.reduceDiv, ↓reduceIte, reduceCtorEq, Int.reduceLE, Int.reduceLT, Int.reduceToNat, Int.reduceEq, Int.reduceNeg, Int.reduceAdd, Int.reduceSub, Int.reduceMul, s0, s6, s8, s9, s10, s11, s12, aConv, a3, a4, a5, a6, a2]
            refine ⟨k, ⟨d + 2 ^ k, r2, ?_⟩, by omega⟩; ((repeat' apply And.intro) <;> first | rfl | assumption | omega)
          · have hs : ¬ (0 : Int) ≤ sgn ((r : Int) - ((D * 2 ^ k : Nat) : Int)) := by unfold sgn; rw [if_pos (by omega)]; decide
            have f2 : r < D * 2 ^ k := by omega
            have f3 : d + 2 ^ k ≤ 256 := by omega
            generalize sgn ((r : Int) - ((D * 2 ^ k : Nat) : Int)) = sg at *
            generalize digB (D * 2 ^ k) = tk at *
            simp -implicitDefEqProofs only [go_sem, Nat.reduceAdd, Nat.reduceSub, Nat.reduceMul, Nat.reduceLT, Nat.reduceLeDiff, Nat.reduceEqDiff, Nat.reduceBEq, Nat.reduceGT, Nat.reduceMod, Nat.reduceDiv, ↓reduceIte, reduceCtorEq, Int.reduceLE, Int.reduceLT, Int.reduceToNat, Int.reduceEq, Int.reduceNeg, Int.reduceAdd, Int.reduceSub, Int.reduceMul, wa_cond, axC_t, axC_f, s0, s6, s8, s9, s10, s11, s12, e2, aIndexAddr, e3, Nat.mul_one, hrd]
            refine wl_callV _ (by simp -implicitDefEqProofs only [go_sem, Nat.reduceAdd, Nat.reduceSub, Nat.reduceMul, Nat.reduceLT, Nat.reduceLeDiff, Nat.reduceEqDiff, Nat.reduceBEq, Nat.reduceGT, Nat.reduceMod, Nat.reduceDiv, ↓reduceIte, reduceCtorEq, Int.reduceLE, Int.reduceLT, Int.reduceToNat, Int.reduceEq, Int.reduceNeg, Int.reduceAdd, Int.reduceSub, Int.reduceMul]) (o2 _) ?_
            simp -implicitDefEqProofs only [go_sem, Nat.reduceAdd, Nat.reduceSub, Nat.reduceMul, Nat.reduceLT, Nat.reduceLeDiff, Nat.reduceEqDiff, Nat.reduceBEq, Nat.reduceGT, Nat.reduceMod, Nat.reduceDiv, ↓reduceIte, reduceCtorEq, Int.reduceLE, Int.reduceLT, Int.reduceToNat, Int.reduceEq, Int.reduceNeg, Int.reduceAdd, Int.reduceSub, Int.reduceMul, wa_cond, axC_t, axC_f, s0, s6, s8, s9, s10, s11, s12, hs, a2]
            refine ⟨k, ⟨d, r, ?_⟩, by omega⟩; ((repeat' apply And.intro) <;> first | rfl | assumption | omega)
      clear s0 s6 s8 s9 s10
      rintro s T ⟨d, r, s0, s6, s8, s9, s10, s11, hdr, hr, hd, rfl⟩
      have e3 : (0 : Int) ≤ (i : Int) ∧ (i : Int) < (l.length : Int) := by omega
      have a2 := low_u8 d
      have hwr := u8_wr (L := []) (l := o) (k := i) (b := UInt8.ofNat d) (by omega)
      have hdq : R / D = d ∧ R % D = r := by
        rw [← hdr, Nat.mul_comm]
        exact ⟨by rw [Nat.mul_add_div hD, Nat.div_eq_of_lt hr, Nat.add_zero], by rw [Nat.mul_add_mod, Nat.mod_eq_of_lt hr]⟩
      have hset : valB ((o.set i (UInt8.ofNat d)).take (i + 1)) = valB (l.take (i + 1)) / D := by
        rw [List.take_succ_eq_append_getElem (by simp; omega), List.getElem_set_self, List.take_set_of_le (Nat.le_refl _), valB_snoc, hvo, hdiv, hdq.1]
        congr 1
        simp; omega
      rw [← hdq.2, ← hmod] at s9
      have hol : (o.set i (UInt8.ofNat d)).length = l.length := by simpa using ho
      generalize o.set i (UInt8.ofNat d) = o2 at *
      simp -implicitDefEqProofs only [go_sem, Nat.reduceAdd, Nat.reduceSub, Nat.reduceMul, Nat.reduceLT, Nat.reduceLeDiff, Nat.reduceEqDiff, Nat.reduceBEq, Nat.reduceGT, Nat.reduceMod, Nat.reduceDiv, ↓reduceIte, reduceCtorEq, Int.reduceLE, Int.reduceLT, Int.reduceToNat, Int.reduceEq, Int.reduceNeg, Int.reduceAdd, Int.reduceSub, Int.reduceMul, s0, s6, s8, s9, s10, s11, aConv, a2, aIndexAddr, e3, Nat.mul_one, hwr, a1]
      refine ⟨i + 1, ⟨o2, ?_⟩, by omega⟩; ((repeat' apply And.intro) <;> first | rfl | assumption | omega)
    · have : i = l.length := by omega
      subst this
      rw [List.take_length] at s9
      rw [List.take_of_length_le (by omega), List.take_length] at hvo
      simp -implicitDefEqProofs only [go_sem, Nat.reduceAdd, Nat.reduceSub, Nat.reduceMul, Nat.reduceLT, Nat.reduceLeDiff, Nat.reduceEqDiff, Nat.reduceBEq, Nat.reduceGT, Nat.reduceMod, Nat.reduceDiv, ↓reduceIte, reduceCtorEq, Int.reduceLE, Int.reduceLT, Int.reduceToNat, Int.reduceEq, Int.reduceNeg, Int.reduceAdd, Int.reduceSub, Int.reduceMul, s8, s9]
      exact ⟨o, ho, hvo, rfl⟩
  clear s0 s6 hmk
  rintro s T ⟨o, s8, s9, ho, hvo, rfl⟩
  have hrd := u8_rd (L := []) (l := o) (k := 0) (n := l.length) (by omega)
  rw [List.drop_zero] at hrd
  have o1 := fun H => trimR H o
  rw [digB_strip, hvo] at o1
  unfold bs at o1
  simp -implicitDefEqProofs only [go_sem, Nat.reduceAdd, Nat.reduceSub, Nat.reduceMul, Nat.reduceLT, Nat.reduceLeDiff, Nat.reduceEqDiff, Nat.reduceBEq, Nat.reduceGT, Nat.reduceMod, Nat.reduceDiv, ↓reduceIte, reduceCtorEq, Int.reduceLE, Int.reduceLT, Int.reduceToNat, Int.reduceEq, Int.reduceNeg, Int.reduceAdd, Int.reduceSub, Int.reduceMul, s8, aConv, hrd, bytesOf_u8s]
  refine wl_callV _ (by simp -implicitDefEqProofs only [go_sem, Nat.reduceAdd, Nat.reduceSub, Nat.reduceMul, Nat.reduceLT, Nat.reduceLeDiff, Nat.reduceEqDiff, Nat.reduceBEq, Nat.reduceGT, Nat.reduceMod, Nat.reduceDiv, ↓reduceIte, reduceCtorEq, Int.reduceLE, Int.reduceLT, Int.reduceToNat, Int.reduceEq, Int.reduceNeg, Int.reduceAdd, Int.reduceSub, Int.reduceMul]) (o1 _) ?_
  simp -implicitDefEqProofs only [go_sem, Nat.reduceAdd, Nat.reduceSub, Nat.reduceMul, Nat.reduceLT, Nat.reduceLeDiff, Nat.reduceEqDiff, Nat.reduceBEq, Nat.reduceGT, Nat.reduceMod, Nat.reduceDiv, ↓reduceIte, reduceCtorEq, Int.reduceLE, Int.reduceLT, Int.reduceToNat, Int.reduceEq, Int.reduceNeg, Int.reduceAdd, Int.reduceSub, Int.reduceMul, s9, res226]
  first | exact .app _ _ | exact ⟨.app _ _, rfl⟩
end Go.Proofs.YthhmkaikopdmjaaGreat
namespace Go.Proofs.YthhmkaikopdmjaaGreat
open Go Go.Fw
theorem gcdR (H : Heap) {g g' : Bool} {m m' : List UInt8} (hm : m.length ≤ 900000) (hm' : m'.length ≤ 900000) :
    Sim Tryz.prog 164 #[iV g m, iV g' m'] H (mkI (Nat.gcd (valB m) (valB m') : Nat)) H := by
  refine flat_ex (flat_mkI _) ?_
  have o1 := fun H => trimR H m
  have o2 := fun H => trimR H m'
  have l1 : (digB (valB m)).length ≤ 900000 := by rw [← digB_strip]; exact Nat.le_trans (dropZ_len m) hm
  have l2 : (digB (valB m')).length ≤ 900000 := by rw [← digB_strip]; exact Nat.le_trans (dropZ_len m') hm'
  rw [digB_strip] at o1 o2
  generalize valB m = a at *
  generalize valB m' = b at *
  unfold iV
  refine sim_ex tok mixed Tryz.func164 rfl (by kernel_rfl) (by kernel_rfl) (by simp only [Tryz.ntmps164, List.size_toArray, List.length_cons, List.length_nil]; omega) ?_
  simp -implicitDefEqProofs only [go_sem, simprocAttr]
  refine ax_quiet (by kernel_rfl) ?_
  simp -implicitDefEqProofs only [go_sem, simprocAttr]
  refine wl_callV _ (by simp -implicitDefEqProofs only [go_sem, simprocAttr]) (o1 _) ?_
  simp -implicitDefEqProofs only [go_sem, simprocAttr]
  refine wl_callV _ (by simp -implicitDefEqProofs only [go_sem, simprocAttr]) (o2 _) ?_
  simp -implicitDefEqProofs only [go_sem, simprocAttr]
  obtain ⟨T0, hT0⟩ : ∃ T, T = H ++ [(⟨[.bool g, .string (bs m)], 1, true⟩ : Blk), ⟨[.bool g', .string (bs m')], 1, true⟩, ⟨[.bool false, .string (bs [])], 1, true⟩] := ⟨_, rfl⟩
  rw [← hT0]
  refine ax_midl (fun s T => ∃ n k : Nat, s 4 = .pointer (some ⟨H.length + 2, 0, none⟩) ∧ s 5 = .string (bs (digB n)) ∧ s 6 = .string (bs (digB k)) ∧ Nat.gcd n k = Nat.gcd a b ∧ (k = 0 ∨ (digB n).length ≤ 7 ∧ (digB k).length ≤ 7) ∧ T = T0) ?_ ?_
  · refine ax_loopx (fun (k : Nat) s T => ∃ n : Nat, s 4 = .pointer (some ⟨H.length + 2, 0, none⟩) ∧ s 5 = .string (bs (digB n)) ∧ s 6 = .string (bs (digB k)) ∧ Nat.gcd n k = Nat.gcd a b ∧ (digB n).length ≤ 900000 ∧ (digB k).length ≤ 900000 ∧ T = T0) id b ?_ ?_
    · refine ⟨a, ?_⟩
      simp -implicitDefEqProofs only [go_sem, simprocAttr]
      ((repeat' apply And.intro) <;> first | rfl | assumption | omega)
    rintro k s T ⟨n, s4, s5, s6, hg, hn, hk, rfl⟩
    by_cases hk0 : k = 0
    · subst hk0
      rw [digB_zero] at s6
      simp -implicitDefEqProofs only [go_sem, simprocAttr, wa_cond, axC_t, axC_f, s5, s6]
      refine ⟨n, 0, ?_⟩
      rw [digB_zero]
      exact ⟨s4, rfl, rfl, hg, .inl rfl⟩
    have hne : ¬ bs (digB k) = bs [] := by rw [bs_inj, digB_nil_iff]; exact hk0
    have o3 := fun H => divMagR H (l := digB n) (D := k) hn (by omega) hk
    rw [valB_dig] at o3
    have hmk : (digB (n % k)).length ≤ 900000 := Nat.le_trans (ltlen (n := k) (.inr (Nat.le_of_lt (Nat.mod_lt _ (by omega))))) hk
    have hgk : Nat.gcd k (n % k) = Nat.gcd a b := by rw [← hg, Nat.gcd_comm n k, Nat.gcd_comm k (n % k), ← Nat.gcd_rec]
    have hml : n % k < k := Nat.mod_lt _ (by omega)
    have c1 : (7 : Int) < ((digB n).length : Int) ∨ (¬ (7 : Int) < ((digB n).length : Int) ∧ (7 : Int) < ((digB k).length : Int)) ∨ (¬ (7 : Int) < ((digB n).length : Int) ∧ ¬ (7 : Int) < ((digB k).length : Int)) := by omega
    by_cases h7 : (digB n).length ≤ 7 ∧ (digB k).length ≤ 7
    · have e1 : ¬ (7 : Int) < ((digB n).length : Int) := by omega
      have e2 : ¬ (7 : Int) < ((digB k).length : Int) := by omega
      simp -implicitDefEqProofs only [go_sem, simprocAttr, wa_cond, axC_t, axC_f, s5, s6, hne, aLen, e1, e2]
      refine ⟨n, k, s4, rfl, rfl, hg, .inr h7⟩
    rcases c1 with e1 | ⟨e1, e2⟩ | ⟨e1, e2⟩
    · simp -implicitDefEqProofs only [go_sem, simprocAttr, wa_cond, axC_t, axC_f, s5, s6, hne, aLen, e1]
      refine wl_callV _ (by simp -implicitDefEqProofs only [go_sem, simprocAttr]) (o3 _) ?_
      simp -implicitDefEqProofs only [go_sem, simprocAttr, s4, s5, s6]
      refine ⟨n % k, ⟨k, ?_⟩, hml⟩
      ((repeat' apply And.intro) <;> first | rfl | assumption | omega)
    · simp -implicitDefEqProofs only [go_sem, simprocAttr, wa_cond, axC_t, axC_f, s5, s6, hne, aLen, e1, e2]
      refine wl_callV _ (by simp -implicitDefEqProofs only [go_sem, simprocAttr]) (o3 _) ?_
      simp -implicitDefEqProofs only [go_sem, simprocAttr, s4, s5, s6]
      refine ⟨n % k, ⟨k, ?_⟩, hml⟩
      ((repeat' apply And.intro) <;> first | rfl | assumption | omega)
    · omega
  rintro s T ⟨n, k, s4, s5, s6, hg, hc, rfl⟩
  subst hT0
  by_cases hk0 : k = 0
  · subst hk0
    rw [Nat.gcd_zero_right] at hg
    rw [← hg]
    have e : mkI (n : Nat) = .agg #[.bool false, .string (bs (digB n))] := by
      unfold mkI iV
      rw [decide_eq_false (by omega)]
      rfl
    rw [e]
    rw [digB_zero] at s6
    simp -implicitDefEqProofs only [go_sem, simprocAttr, wa_cond, axC_t, axC_f, s4, s5, s6, res164]
    first | exact .app _ _ | exact ⟨.app _ _, rfl⟩
  have hne : ¬ bs (digB k) = bs [] := by rw [bs_inj, digB_nil_iff]; exact hk0
  obtain ⟨h1, h2⟩ : (digB n).length ≤ 7 ∧ (digB k).length ≤ 7 := by rcases hc with h | h; exact absurd h hk0; exact h
  have o3 := fun H => smallR H h1
  have o4 := fun H => smallR H h2
  rw [valB_dig] at o3 o4
  have b1 := valB_lt (digB n)
  have b2 := valB_lt (digB k)
  rw [valB_dig] at b1 b2
  have p1 : 256 ^ (digB n).length ≤ 256 ^ 7 := Nat.pow_le_pow_right (by decide) h1
  have p2 : 256 ^ (digB k).length ≤ 256 ^ 7 := Nat.pow_le_pow_right (by decide) h2
  rw [show (256 : Nat) ^ 7 = 72057594037927936 from rfl] at p1 p2
  simp -implicitDefEqProofs only [go_sem, simprocAttr, wa_cond, axC_t, axC_f, s4, s5, s6, hne]
  refine wl_callV _ (by simp -implicitDefEqProofs only [go_sem, simprocAttr]) (o3 _) ?_
  simp -implicitDefEqProofs only [go_sem, simprocAttr, s4, s5, s6]
  refine wl_callV _ (by simp -implicitDefEqProofs only [go_sem, simprocAttr]) (o4 _) ?_
  simp -implicitDefEqProofs only [go_sem, simprocAttr]
  obtain ⟨T0, hT0⟩ : ∃ T, T = H ++ [(⟨[.bool g, .string (bs m)], 1, true⟩ : Blk), ⟨[.bool g', .string (bs m')], 1, true⟩, ⟨[.bool false, .string (bs [])], 1, true⟩] := ⟨_, rfl⟩
  rw [← hT0]
  refine ax_midl (fun s T => s 4 = .pointer (some ⟨H.length + 2, 0, none⟩) ∧ s 9 = .int .i64 (Nat.gcd a b : Nat) ∧ T = T0) ?_ ?_
  · refine ax_loopx (fun (y : Nat) s T => ∃ x : Nat, s 4 = .pointer (some ⟨H.length + 2, 0, none⟩) ∧ s 9 = .int .i64 (x : Nat) ∧ s 10 = .int .i64 (y : Nat) ∧ Nat.gcd x y = Nat.gcd a b ∧ T = T0) id k ?_ ?_
    · refine ⟨n, ?_⟩
      simp -implicitDefEqProofs only [go_sem, simprocAttr, s4]
      ((repeat' apply And.intro) <;> first | rfl | assumption | omega)
    rintro y s T ⟨x, s4, s9, s10, hg, rfl⟩
    by_cases hy : y = 0
    · subst hy
      rw [Nat.gcd_zero_right] at hg
      have e : ¬ (0 : Int) < ((0 : Nat) : Int) := by decide
      simp -implicitDefEqProofs only [go_sem, simprocAttr, wa_cond, axC_t, axC_f, s4, s9, s10, e]
      rw [← hg]
    · have e : (0 : Int) < (y : Int) := by omega
      have e2 : ¬ (y : Int) = 0 := by omega
      have e3 := tmod_nat x y
      have hml : x % y < y := Nat.mod_lt _ (by omega)
      have hgk : Nat.gcd y (x % y) = Nat.gcd a b := by rw [← hg, Nat.gcd_comm x y, Nat.gcd_comm y (x % y), ← Nat.gcd_rec]
      simp -implicitDefEqProofs only [go_sem, simprocAttr, wa_cond, axC_t, axC_f, s10, e]
      refine ax_quiet (by kernel_rfl) ?_
      simp -implicitDefEqProofs only [go_sem, simprocAttr, s4, s9, s10, e2, e3]
      refine ⟨x % y, ⟨y, ?_⟩, hml⟩
      ((repeat' apply And.intro) <;> first | rfl | assumption | omega)
  rintro s T ⟨s4, s9, rfl⟩
  subst hT0
  have hgb : Nat.gcd a b ≤ 72057594037927936 := by
    rw [← hg]
    exact Nat.le_trans (Nat.gcd_le_right _ (by omega)) (by omega)
  have o5 := fun H => ofR H (z := (Nat.gcd a b : Nat)) (by omega) (by omega)
  unfold mkI iV at *
  simp -implicitDefEqProofs only [go_sem, simprocAttr, s4, s9]
  refine wl_callV _ (by simp -implicitDefEqProofs only [go_sem, simprocAttr]) (o5 _) ?_
  simp -implicitDefEqProofs only [go_sem, simprocAttr, s4, res164]
  first | exact .app _ _ | exact ⟨.app _ _, rfl⟩
end Go.Proofs.YthhmkaikopdmjaaGreat
namespace Go.Proofs.YthhmkaikopdmjaaGreat
open Go Go.Fw
theorem mkI_nat (n : Nat) : mkI (n : Nat) = .agg #[.bool false, .string (bs (digB n))] := by
  unfold mkI iV
  rw [decide_eq_false (by omega)]
  rfl
theorem mkI_shape (z : Int) : ∃ b s, mkI z = .agg #[.bool b, .string s] := ⟨_, _, rfl⟩
theorem sgI_of (z : Int) : sgI (decide (z < 0)) z.natAbs = z := by unfold sgI; by_cases h : z < 0 <;> simp [h] <;> omega
theorem divRI (H : Heap) {g g' : Bool} {m m' : List UInt8} (hm : m.length ≤ 900000) (hm' : m'.length ≤ 900000) (h0 : ival g' m' ≠ 0) :
    Sim Tryz.prog 165 #[iV g m, iV g' m'] H (.tuple #[mkI ((ival g m).fdiv (ival g' m')), mkI ((ival g m).fmod (ival g' m')), .int .i64 0]) H := by
  refine flat_ex rfl ?_
  have o1 := fun H => canonR H g m
  have o2 := fun H => canonR H g' m'
  have l1 : (digB (ival g m).natAbs).length ≤ 900000 := canon_len hm
  have l2 : (digB (ival g' m').natAbs).length ≤ 900000 := canon_len hm'
  generalize ival g m = x at *
  generalize ival g' m' = y at *
  have hne : ¬ bs (digB y.natAbs) = bs [] := by rw [bs_inj, digB_nil_iff]; omega
  have hn0 : 0 < y.natAbs := by omega
  have v1 := valB_dig x.natAbs
  have v2 := valB_dig y.natAbs
  obtain ⟨law1, law2⟩ := div_law (decide (x < 0)) (decide (y < 0)) x.natAbs y.natAbs hn0
  rw [sgI_of, sgI_of] at law1 law2
  have o3 := fun H => divMagR H (l := digB x.natAbs) (D := y.natAbs) l1 hn0 l2
  rw [v1] at o3
  have hsm : (digB x.natAbs).length < 8 → (digB y.natAbs).length < 8 → (∀ H, Sim Tryz.prog 227 #[.string (bs (digB x.natAbs))] H (.int .i64 (x.natAbs : Nat)) H) ∧ (∀ H, Sim Tryz.prog 227 #[.string (bs (digB y.natAbs))] H (.int .i64 (y.natAbs : Nat)) H) ∧ x.natAbs < 72057594037927936 ∧ y.natAbs < 72057594037927936 := by
    intro h1 h2
    have p1 := valB_lt (digB x.natAbs)
    have p2 := valB_lt (digB y.natAbs)
    have q1 := pow256_le (i := (digB x.natAbs).length) (by omega)
    have q2 := pow256_le (i := (digB y.natAbs).length) (by omega)
    refine ⟨fun H => ?_, fun H => ?_, by omega, by omega⟩
    · have := smallR H (m := digB x.natAbs) (by omega); rwa [v1] at this
    · have := smallR H (m := digB y.natAbs) (by omega); rwa [v2] at this
  have hQ : x.natAbs / y.natAbs ≤ x.natAbs := Nat.div_le_self _ _
  have hR : x.natAbs % y.natAbs < y.natAbs := Nat.mod_lt _ hn0
  have lQ : (digB (x.natAbs / y.natAbs)).length ≤ 900000 := Nat.le_trans (ltlen (.inr hQ)) l1
  have lR : (digB (x.natAbs % y.natAbs)).length ≤ 900000 := Nat.le_trans (ltlen (.inr (Nat.le_of_lt hR))) l2
  have oN := fun H => negR H false (digB (x.natAbs / y.natAbs))
  have iQ : ival false (digB (x.natAbs / y.natAbs)) = ((x.natAbs / y.natAbs : Nat) : Int) := by unfold ival; rw [valB_dig]; rfl
  have iR : ival false (digB (x.natAbs % y.natAbs)) = ((x.natAbs % y.natAbs : Nat) : Int) := by unfold ival; rw [valB_dig]; rfl
  have iY : ival false (digB y.natAbs) = (y.natAbs : Nat) := by unfold ival; rw [v2]; rfl
  rw [iQ] at oN
  have hnilR : bs (digB (x.natAbs % y.natAbs)) = bs [] ↔ x.natAbs % y.natAbs = 0 := by rw [bs_inj, digB_nil_iff]
  have oS1 := fun H => subRI H (g := decide (-((x.natAbs / y.natAbs : Nat) : Int) < 0)) (m := digB (-((x.natAbs / y.natAbs : Nat) : Int)).natAbs) (g' := decide ((1 : Int) < 0)) (m' := digB (1 : Int).natAbs) (by rw [Int.natAbs_neg]; simp only [Int.natAbs_natCast]; omega) (Nat.le_trans (digB_len _ 1 (by decide)) (by decide))
  rw [ival_mk, ival_mk] at oS1
  have oS2 := fun H => subRI H (g := false) (m := digB y.natAbs) (g' := false) (m' := digB (x.natAbs % y.natAbs)) (by omega) (by omega)
  rw [iY, iR] at oS2
  have oO := fun H => ofR H (z := 1) (by decide) (by decide)
  have oN2 := fun (z : Int) H => negR H (decide (z < 0)) (digB z.natAbs)
  simp only [ival_mk] at oN2
  have nQ := mkI_nat (x.natAbs / y.natAbs)
  have nR := mkI_nat (x.natAbs % y.natAbs)
  obtain ⟨qz, rz, f1, f2, f3⟩ : ∃ qz rz : Int, x.fdiv y = qz ∧ (if decide (y < 0) = true then -rz else rz) = x.fmod y ∧
      ((decide (x < 0) = decide (y < 0) ∧ qz = ((x.natAbs / y.natAbs : Nat) : Int) ∧ rz = ((x.natAbs % y.natAbs : Nat) : Int)) ∨
       (decide (x < 0) ≠ decide (y < 0) ∧ x.natAbs % y.natAbs = 0 ∧ qz = -((x.natAbs / y.natAbs : Nat) : Int) ∧ rz = ((x.natAbs % y.natAbs : Nat) : Int)) ∨
       (decide (x < 0) ≠ decide (y < 0) ∧ x.natAbs % y.natAbs ≠ 0 ∧ qz = -((x.natAbs / y.natAbs : Nat) : Int) - 1 ∧ rz = ((y.natAbs : Nat) : Int) - ((x.natAbs % y.natAbs : Nat) : Int))) := by
    clear oN oS1 oS2 oO oN2 nQ nR o1 o2 o3 hsm
    have hY : y = if decide (y < 0) = true then -((y.natAbs : Nat) : Int) else ((y.natAbs : Nat) : Int) := by by_cases h : y < 0 <;> simp [h] <;> omega
    generalize decide (x < 0) = sx at *
    generalize decide (y < 0) = sy at *
    generalize x.natAbs / y.natAbs = Q at *
    generalize x.natAbs % y.natAbs = R at *
    refine ⟨x.fdiv y, if sy = true then -(x.fmod y) else x.fmod y, rfl, by cases sy <;> simp, ?_⟩
    unfold sgI at law1 law2
    by_cases h1 : sx = sy
    · left
      obtain ⟨e1, e2⟩ := law1 (.inl h1)
      subst h1
      rw [← e1, ← e2]
      cases sx <;> simp
    · by_cases h2 : R = 0
      · right; left
        obtain ⟨e1, e2⟩ := law1 (.inr h2)
        rw [← e1, ← e2]
        subst h2
        refine ⟨h1, rfl, ?_, ?_⟩ <;> (cases sx <;> cases sy <;> first | exact absurd rfl h1 | (simp; done))
      · right; right
        obtain ⟨e1, e2⟩ := law2 (fun h => h.elim h1 h2)
        rw [← e1, ← e2]
        refine ⟨h1, h2, ?_, ?_⟩ <;> (cases sx <;> cases sy <;> first | exact absurd rfl h1 | (simp; done) | (simp only [if_true, Bool.false_eq_true, if_false] at hY ⊢; omega))
  rw [f1, ← f2]
  clear law1 law2 f1 f2 l1 l2 v1 v2 iQ iR iY lQ lR hR hQ
  unfold iV at *
  have hmk : ∀ z : Int, mkI z = .agg #[.bool (decide (z < 0)), .string (bs (digB z.natAbs))] := fun z => rfl
  rw [hmk x] at o1
  rw [hmk y] at o2
  rw [← hmk, ← hmk] at oS1
  generalize hQQ : x.natAbs / y.natAbs = Q at *
  generalize hRR : x.natAbs % y.natAbs = R at *
  generalize hsx : decide (x < 0) = sx at *
  generalize hsy : decide (y < 0) = sy at *
  generalize digB x.natAbs = lx at *
  generalize digB y.natAbs = ly at *
  generalize digB Q = lq at *
  generalize digB R = lr at *
  refine sim_ex tok mixed Tryz.func165 rfl (by kernel_rfl) (by kernel_rfl) (by simp only [Tryz.ntmps165, List.size_toArray, List.length_cons, List.length_nil]; omega) ?_
  simp -implicitDefEqProofs only [go_sem, simprocAttr]
  refine ax_quiet (by kernel_rfl) ?_
  simp -implicitDefEqProofs only [go_sem, simprocAttr]
  refine wl_callV _ (by simp -implicitDefEqProofs only [go_sem, simprocAttr]) (o1 _) ?_
  simp -implicitDefEqProofs only [go_sem, simprocAttr]
  refine wl_callV _ (by simp -implicitDefEqProofs only [go_sem, simprocAttr]) (o2 _) ?_
  simp -implicitDefEqProofs only [go_sem, simprocAttr, wa_cond, axC_t, axC_f, hne]
  apply shareK (M := fun s T => s 2 = .pointer (some ⟨H.length, 0, none⟩) ∧ s 3 = .pointer (some ⟨H.length + 1, 0, none⟩) ∧ s 4 = .pointer (some ⟨H.length + 2, 0, none⟩) ∧ s 5 = .pointer (some ⟨H.length + 3, 0, none⟩) ∧ s 7 = .pointer (some ⟨H.length + 4, 0, none⟩) ∧ s 8 = .pointer (some ⟨H.length + 5, 0, none⟩) ∧
    T = H ++ [⟨[.bool sx, .string (bs lx)], 1, true⟩, ⟨[.bool sy, .string (bs ly)], 1, true⟩, ⟨[.bool false, .string (bs [])], 1, true⟩, ⟨[.bool false, .string (bs [])], 1, true⟩, ⟨[.bool false, .string (bs lq)], 1, true⟩, ⟨[.bool false, .string (bs lr)], 1, true⟩])
  · intro hrest
    have hbig : (¬ (lx.length : Int) < 8 ∧ ¬ (lx.length : Int) < 8) ∨ ((lx.length : Int) < 8 ∧ ¬ (ly.length : Int) < 8) ∨ ((lx.length : Int) < 8 ∧ (ly.length : Int) < 8) := by omega
    rcases hbig with ⟨h1, h2⟩ | ⟨h1, h2⟩ | ⟨h1, h2⟩
    · simp -implicitDefEqProofs only [go_sem, simprocAttr, aLen, h1, h2]
      refine ax_mid _ ?_ hrest
      simp -implicitDefEqProofs only [go_sem, simprocAttr, wa_cond, axC_t, axC_f]
      refine wl_callV _ (by simp -implicitDefEqProofs only [go_sem, simprocAttr]) (o3 _) ?_
      simp -implicitDefEqProofs only [go_sem, simprocAttr]
    · simp -implicitDefEqProofs only [go_sem, simprocAttr, aLen, h1, h2]
      refine ax_mid _ ?_ hrest
      simp -implicitDefEqProofs only [go_sem, simprocAttr, wa_cond, axC_t, axC_f]
      refine wl_callV _ (by simp -implicitDefEqProofs only [go_sem, simprocAttr]) (o3 _) ?_
      simp -implicitDefEqProofs only [go_sem, simprocAttr]
    · obtain ⟨q1, q2, q3, q4⟩ := hsm (by omega) (by omega)
      have hn : ¬ ((y.natAbs : Nat) : Int) = 0 := by omega
      have d1 := tdiv_nat x.natAbs y.natAbs
      have d2 := tmod_nat x.natAbs y.natAbs
      have hq1 : x.natAbs / y.natAbs ≤ x.natAbs := Nat.div_le_self _ _
      have hq2 : x.natAbs % y.natAbs ≤ x.natAbs := Nat.mod_le _ _
      have d3 := w64n (n := x.natAbs / y.natAbs) (by omega)
      have o4 := fun H => ofR H (z := (x.natAbs / y.natAbs : Nat)) (by omega) (by omega)
      have o5 := fun H => ofR H (z := (x.natAbs % y.natAbs : Nat)) (by omega) (by omega)
      rw [hQQ] at d1 d3 o4
      rw [hRR] at d2 o5
      rw [nQ] at o4
      rw [nR] at o5
      simp -implicitDefEqProofs only [go_sem, simprocAttr, aLen, h1, h2]
      refine ax_mid _ ?_ hrest
      simp -implicitDefEqProofs only [go_sem, simprocAttr, wa_cond, axC_t, axC_f]
      refine ax_quiet (by kernel_rfl) ?_
      simp -implicitDefEqProofs only [go_sem, simprocAttr]
      refine wl_callV _ (by simp -implicitDefEqProofs only [go_sem, simprocAttr]) (q1 _) ?_
      simp -implicitDefEqProofs only [go_sem, simprocAttr]
      refine wl_callV _ (by simp -implicitDefEqProofs only [go_sem, simprocAttr]) (q2 _) ?_
      simp -implicitDefEqProofs only [go_sem, simprocAttr]
      refine ax_quiet (by kernel_rfl) ?_
      simp -implicitDefEqProofs only [go_sem, simprocAttr, hn, d1, d3]
      refine wl_callV _ (by simp -implicitDefEqProofs only [go_sem, simprocAttr]) (o4 _) ?_
      simp -implicitDefEqProofs only [go_sem, simprocAttr, hn, d2]
      refine wl_callV _ (by simp -implicitDefEqProofs only [go_sem, simprocAttr]) (o5 _) ?_
      simp -implicitDefEqProofs only [go_sem, simprocAttr]
  rintro s T ⟨s2, s3, s4, s5, s7, s8, rfl⟩
  simp -implicitDefEqProofs only [go_sem, simprocAttr, s2, s3, bool_neq]
  obtain ⟨qb, qs, hq⟩ := mkI_shape qz
  obtain ⟨rb, rs, hr⟩ := mkI_shape rz
  obtain ⟨fb, fs, hf⟩ := mkI_shape (if sy = true then -rz else rz)
  refine ax_mid (fun s T => s 3 = .pointer (some ⟨H.length + 1, 0, none⟩) ∧ s 4 = .pointer (some ⟨H.length + 2, 0, none⟩) ∧ s 5 = .pointer (some ⟨H.length + 3, 0, none⟩) ∧ s 7 = .pointer (some ⟨H.length + 4, 0, none⟩) ∧ s 8 = .pointer (some ⟨H.length + 5, 0, none⟩) ∧
    T = H ++ [⟨[.bool sx, .string (bs lx)], 1, true⟩, ⟨[.bool sy, .string (bs ly)], 1, true⟩, ⟨[.bool false, .string (bs [])], 1, true⟩, ⟨[.bool false, .string (bs [])], 1, true⟩, ⟨[.bool qb, .string qs], 1, true⟩, ⟨[.bool rb, .string rs], 1, true⟩]) ?_ ?_
  · rcases f3 with ⟨c1, c2, c3⟩ | ⟨c1, c2, c3, c4⟩ | ⟨c1, c2, c3, c4⟩
    · have e : (sx == sy) = true := by rw [c1]; simp
      rw [c2, nQ] at hq
      rw [c3, nR] at hr
      injection hq with hq
      injection hr with hr
      simp only [Array.mk.injEq, List.cons.injEq, Value.bool.injEq, Value.string.injEq, and_true] at hq hr
      obtain ⟨rfl, rfl⟩ := hq
      obtain ⟨rfl, rfl⟩ := hr
      simp -implicitDefEqProofs only [go_sem, simprocAttr, wa_cond, axC_t, axC_f, e, s2, s3, s4, s5, s7, s8]
    · have e : (sx == sy) = false := by cases sx <;> cases sy <;> first | rfl | exact absurd rfl c1
      rw [← c3, hq] at oN
      rw [c4, nR] at hr
      injection hr with hr
      simp only [Array.mk.injEq, List.cons.injEq, Value.bool.injEq, Value.string.injEq, and_true] at hr
      obtain ⟨rfl, rfl⟩ := hr
      have hz := hnilR.2 c2
      simp -implicitDefEqProofs only [go_sem, simprocAttr, wa_cond, axC_t, axC_f, e, s2, s3, s4, s5, s7, s8]
      refine wl_callV _ (by simp -implicitDefEqProofs only [go_sem, simprocAttr]) (oN _) ?_
      simp -implicitDefEqProofs only [go_sem, simprocAttr, wa_cond, axC_t, axC_f, s2, s3, s4, s5, s7, s8, hz]
    · have e : (sx == sy) = false := by cases sx <;> cases sy <;> first | rfl | exact absurd rfl c1
      have hz : ¬ bs lr = bs [] := fun h => c2 (hnilR.1 h)
      obtain ⟨nb, ns, hn⟩ := mkI_shape (-(Q : Int))
      rw [← c3, hq, hn] at oS1
      rw [hn] at oN
      rw [← c4, hr] at oS2
      simp -implicitDefEqProofs only [go_sem, simprocAttr, wa_cond, axC_t, axC_f, e, s2, s3, s4, s5, s7, s8]
      refine wl_callV _ (by simp -implicitDefEqProofs only [go_sem, simprocAttr]) (oN _) ?_
      simp -implicitDefEqProofs only [go_sem, simprocAttr, wa_cond, axC_t, axC_f, s2, s3, s4, s5, s7, s8, hz]
      refine ax_quiet (by kernel_rfl) ?_
      simp -implicitDefEqProofs only [go_sem, simprocAttr, s7]
      refine wl_callV _ (by simp -implicitDefEqProofs only [go_sem, simprocAttr]) (oO _) ?_
      simp -implicitDefEqProofs only [go_sem, simprocAttr]
      refine wl_callV _ (by simp -implicitDefEqProofs only [go_sem, simprocAttr]) (oS1 _) ?_
      simp -implicitDefEqProofs only [go_sem, simprocAttr, s2, s3, s4, s5, s7, s8]
      refine wl_callV _ (by simp -implicitDefEqProofs only [go_sem, simprocAttr]) (oS2 _) ?_
      simp -implicitDefEqProofs only [go_sem, simprocAttr, s2, s3, s4, s5, s7, s8]
  clear s2 s3 s4 s5 s7 s8
  rintro s T ⟨s3, s4, s5, s7, s8, rfl⟩
  simp -implicitDefEqProofs only [go_sem, simprocAttr, s3]
  rw [hq, hf]
  refine ax_mid (fun s T => s 4 = .pointer (some ⟨H.length + 2, 0, none⟩) ∧ s 5 = .pointer (some ⟨H.length + 3, 0, none⟩) ∧ s 7 = .pointer (some ⟨H.length + 4, 0, none⟩) ∧ s 8 = .pointer (some ⟨H.length + 5, 0, none⟩) ∧
    T = H ++ [⟨[.bool sx, .string (bs lx)], 1, true⟩, ⟨[.bool sy, .string (bs ly)], 1, true⟩, ⟨[.bool false, .string (bs [])], 1, true⟩, ⟨[.bool false, .string (bs [])], 1, true⟩, ⟨[.bool qb, .string qs], 1, true⟩, ⟨[.bool fb, .string fs], 1, true⟩]) ?_ ?_
  · cases sy with
    | true =>
      have oF := oN2 rz
      rw [← hmk, hr] at oF
      rw [if_pos rfl] at hf
      rw [hf] at oF
      simp -implicitDefEqProofs only [go_sem, simprocAttr, wa_cond, axC_t, axC_f, s4, s5, s7, s8]
      refine wl_callV _ (by simp -implicitDefEqProofs only [go_sem, simprocAttr]) (oF _) ?_
      simp -implicitDefEqProofs only [go_sem, simprocAttr, s4, s5, s7, s8]
    | false =>
      rw [if_neg (by decide), hr] at hf
      injection hf with hf
      simp only [Array.mk.injEq, List.cons.injEq, Value.bool.injEq, Value.string.injEq, and_true] at hf
      obtain ⟨rfl, rfl⟩ := hf
      simp -implicitDefEqProofs only [go_sem, simprocAttr, wa_cond, axC_t, axC_f, s4, s5, s7, s8]
  clear s3 s4 s5 s7 s8
  rintro s T ⟨s4, s5, s7, s8, rfl⟩
  simp -implicitDefEqProofs only [go_sem, simprocAttr]
  refine ax_cross5 (v0 := .agg #[.bool qb, .string qs]) (v1 := .agg #[.bool fb, .string fs]) ⟨by kernel_rfl, by kernel_rfl, by kernel_rfl, by kernel_rfl, by kernel_rfl, by kernel_rfl⟩ (by kernel_rfl) (by kernel_rfl) (by decide)
    (by simp -implicitDefEqProofs only [go_sem, simprocAttr, s7]) (by simp -implicitDefEqProofs only [go_sem, simprocAttr, s8]) (by simp -implicitDefEqProofs only [go_sem, simprocAttr, s4]; rfl) (by simp -implicitDefEqProofs only [go_sem, simprocAttr, s8]) (by simp -implicitDefEqProofs only [go_sem, simprocAttr, s5]; rfl) ?_
  simp -implicitDefEqProofs only [go_sem, simprocAttr, s4, s5, s7, s8, res165]
  first | exact .app _ _ | exact ⟨.app _ _, rfl⟩
end Go.Proofs.YthhmkaikopdmjaaGreat
namespace Go.Proofs.YthhmkaikopdmjaaGreat
open Go Go.Fw
theorem numberR (H : Heap) {m : List UInt8} (hm : m.length ≤ 7) : Sim Tryz.prog 229 #[.string (bs m)] H (.int .i64 (valB m : Nat)) H := by
  refine sim_of_ax tok mixed Tryz.func229 rfl (by kernel_rfl) (by kernel_rfl) (by simp only [Tryz.ntmps229, List.size_toArray, List.length_cons, List.length_nil]; omega) ?_
  simp -implicitDefEqProofs only [go_sem, simprocAttr, aLen]
  refine ax_loopx (fun (i : Nat) s T => s 0 = .string (bs m) ∧ s 3 = .int .i64 (valB (m.take i) : Nat) ∧ s 4 = .int .i64 (i : Nat) ∧ i ≤ m.length ∧ T = H) (fun i => m.length - i) 0 ?_ ?_
  · simp -implicitDefEqProofs only [go_sem, simprocAttr]
    trivial
  rintro i s T ⟨h0, h3, h4, hi, rfl⟩
  simp -implicitDefEqProofs only [go_sem, simprocAttr, h0, h4, aLen]
  refine ax_cond2 ?_
  simp only [ev_tmp, ev_const, ev_func, upd_at, put_some, put_none, bndB_bool, Nat.reduceEqDiff, if_true, if_false, ↓reduceIte, reduceCtorEq]
  refine ⟨fun hc0 => have hlt := of_decide_eq_true hc0; ?_, fun hc0 => have hlt := of_decide_eq_false hc0; ?_⟩
  · have hil : i < m.length := by omega
    have hg : m[i]? = some m[i] := List.getElem?_eq_getElem hil
    have hts := valB_take_succ hil
    have hvl := valB_take_lt m i
    have hvl2 := valB_take_lt m (i + 1)
    have hm1 := pow256_le (i := i) (by omega)
    have hm2 := pow256_le (i := i + 1) (by omega)
    have hb : m[i].toNat < 256 := UInt8.toNat_lt _
    generalize m[i] = x at *
    generalize valB (m.take i) = n at *
    have a1 : IntKind.i64.wrap (256 * (n : Int)) = ((256 * n : Nat) : Int) := by
      rw [show (256 * (n : Int)) = ((256 * n : Nat) : Int) by simp, w64n (by omega)]
    have a2 := w64n (n := x.toNat) (by omega)
    have a3 : IntKind.i64.wrap (((256 * n : Nat) : Int) + (x.toNat : Int)) = ((valB (m.take (i + 1)) : Nat) : Int) := by rw [addc, w64n (by omega), hts, Nat.mul_comm]
    have a5 : IntKind.i64.wrap ((i : Int) + 1) = ((i + 1 : Nat) : Int) := by rw [w64 (by omega) (by omega)]; rfl
    have hnn : (0 : Int) ≤ (i : Int) := by omega
    simp -implicitDefEqProofs only [go_sem, simprocAttr, h0, h3, h4, hg, aConv, a1, a2, a3, a5, hnn]
    refine ⟨i + 1, ?_, by omega⟩
    ((repeat' apply And.intro) <;> first | rfl | assumption | omega)
  · have hil : i = m.length := by omega
    subst hil
    rw [List.take_length] at h3
    simp -implicitDefEqProofs only [go_sem, simprocAttr, h3, res229]
theorem build_u81 (H : Heap) (x : Int) : aBuildSlice tt H 203 1 [(0, .int .u8 x)] = some (.slice (some ⟨H.length, 0, none⟩) 1 1, H ++ [⟨[.int .u8 x], 1, true⟩]) := rfl
theorem digitsR (H : Heap) {n : Nat} (hn : n < 72057594037927936) : Sim Tryz.prog 230 #[.int .i64 (n : Nat)] H (.string (bs (digB n))) H := by
  refine flat_ex rfl ?_
  refine sim_ex tok mixed Tryz.func230 rfl (by kernel_rfl) (by kernel_rfl) (by simp only [Tryz.ntmps230, List.size_toArray, List.length_cons, List.length_nil]; omega) ?_
  simp -implicitDefEqProofs only [go_sem, simprocAttr]
  refine ax_loopx (fun (j : Nat) s T => ∃ o : List UInt8, o = digB (n / 2 ^ (8 * j)) ∧ s 0 = .int .i64 (n : Nat) ∧ s 4 = .int .i64 (((8 * j : Nat) : Int) - 8) ∧ j ≤ 7 ∧ Ext H T ∧
    ((s 3 = .slice none 0 0 ∧ o = []) ∨ ∃ b, H.length ≤ b ∧ s 3 = .slice (some ⟨b, 0, none⟩) o.length 0 ∧ T[b]? = some ⟨u8s o, 1, true⟩)) (fun j => j) 7 ?_ ?_
  · refine ⟨digB (n / 2 ^ (8 * 7)), ?_⟩
    have e : n / 2 ^ (8 * 7) = 0 := Nat.div_eq_of_lt (by omega)
    rw [e, digB_zero]
    simp -implicitDefEqProofs only [go_sem, simprocAttr]
    exact ⟨.refl _, .inl trivial⟩
  rintro j s T ⟨o, ho, s0, s4, hj, hE, h3⟩
  have hol : o.length ≤ 7 := by rw [ho]; exact digB_len _ 7 (Nat.lt_of_le_of_lt (Nat.div_le_self _ _) hn)
  cases j with
  | zero =>
    have e : ¬ (0 : Int) ≤ ((8 * 0 : Nat) : Int) - 8 := by decide
    simp -implicitDefEqProofs only [Nat.mul_zero, Nat.pow_zero, Nat.div_one] at ho
    subst ho
    obtain hcv : aConv tt T 203 9 (s 3) = some (.string (bs (digB n))) := by
      rcases h3 with ⟨h3, h4⟩ | ⟨bo, hbo, h3, hrow⟩
      · rw [h3, h4]; rfl
      · rw [h3]
        have := rd_whole hrow (by simp)
        simp only [u8s_length] at this
        unfold aConv
        simp only [tt203, tt9, tt5, this, Option.bind_some, bytesOf_u8s]
        rfl
    simp -implicitDefEqProofs only [go_sem, simprocAttr, wa_cond, axC_t, axC_f, s4, e, hcv, res230]
    exact hE
  | succ j =>
    have e1 : ((8 * (j + 1) : Nat) : Int) - 8 = ((8 * j : Nat) : Int) := by omega
    rw [e1] at s4
    have e2 : (0 : Int) ≤ ((8 * j : Nat) : Int) := by omega
    have e3 : ¬ ((8 * j : Nat) : Int) < 0 := by omega
    have e4 : min (8 * j) 64 = 8 * j := by omega
    have f1 := fdiv_pow n (8 * j)
    have a4 : IntKind.i64.wrap (((8 * j : Nat) : Int) - 8) = ((8 * j : Nat) : Int) - 8 := w64 (by omega) (by omega)
    have hdd : n / 2 ^ (8 * j) / 256 = n / 2 ^ (8 * (j + 1)) := by rw [Nat.div_div_eq_div_mul, show (256 : Nat) = 2 ^ 8 from rfl, ← Nat.pow_add]; rfl
    have a1 := low_u8 (n / 2 ^ (8 * j))
    have a2 := tmod_nat (n / 2 ^ (8 * j)) 256
    generalize hx : n / 2 ^ (8 * j) = x at *
    have hc256 : ((256 : Nat) : Int) = 256 := rfl
    rw [hc256] at a2
    have hL : aLen tt [203] (s 3) = some (.int .i64 (o.length : Nat)) := by
      rcases h3 with ⟨h3, h4⟩ | ⟨bo, hbo, h3, hrow⟩
      · rw [h3, h4]; rfl
      · rw [h3]; rfl
    by_cases hx0 : x = 0
    · subst hx0
      have hdz : o = [] := by rw [ho, ← hdd, Nat.zero_div, digB_zero]
      have c1 : ¬ (0 : Int) < ((0 : Nat) : Int) := by decide
      subst hdz
      simp -implicitDefEqProofs only [go_sem, simprocAttr, wa_cond, axC_t, axC_f, s0, s4, e2, e3, e4, f1, a2, Nat.zero_mod, c1, hL, List.length_nil, a4]
      refine ⟨j, ⟨[], ?_⟩, by omega⟩
      rw [hx, digB_zero]
      ((repeat' apply And.intro) <;> first | rfl | assumption | omega)
    · have hstep := digB_step hx0
      rw [hdd, ← ho] at hstep
      have hcond : ((0 : Int) < ((x % 256 : Nat) : Int)) ∨ (¬ (0 : Int) < ((x % 256 : Nat) : Int) ∧ (0 : Int) < (o.length : Int)) := by
        by_cases h : 0 < x % 256
        · left; omega
        · right
          refine ⟨by omega, ?_⟩
          have : o ≠ [] := by rw [ho, Ne, digB_nil_iff, ← hdd]; omega
          have := List.length_pos_iff.2 this
          omega
      obtain ⟨b2, T2, happ, hE2, hb2, hrow⟩ : ∃ b2 T2, aAppend tt (T ++ [⟨[Value.int .u8 ((UInt8.ofNat x).toNat : Nat)], 1, true⟩]) [203, 203] (s 3) (.slice (some ⟨T.length, 0, none⟩) 1 1) =
          some (.slice (some ⟨b2, 0, none⟩) (o.length + 1) 0, T2) ∧ Ext H T2 ∧ H.length ≤ b2 ∧ T2[b2]? = some ⟨u8s (o ++ [UInt8.ofNat x]), 1, true⟩ := by
        have hx4 := rd_end (H := T) (cs := u8s [UInt8.ofNat x]) (o := true) (L := []) (show 0 < 1 by decide)
        rcases h3 with ⟨h3, rfl⟩ | ⟨bo, hbo, h3, hrow⟩
        · rw [h3]
          refine ⟨_, _, append_nil tt203 tt5 rfl (by decide) (by decide) hx4 rfl (by decide) rfl (by decide), (hE.trans (.app _ _)).trans (.app _ _), ?_, ?_⟩
          · have := hE.len; simp; omega
          · simp
        · rw [h3]
          have hrow' := (Ext.app T [⟨u8s [UInt8.ofNat x], 1, true⟩]).get hrow
          have ha := append_row (tt := tt) (cx := 1) (m := 1) tt203 tt5 rfl (by decide) (by decide) hrow' hx4 rfl (by decide) rfl (by rw [u8s_length]; omega)
          rw [u8s_length o] at ha
          refine ⟨_, _, ha, ((hE.trans (.app _ _)).set hbo _).trans (.app _ _), ?_, ?_⟩
          · have := hE.len; simp; omega
          · simp [u8s_app]
      rcases hcond with c1 | ⟨c1, c2⟩
      · simp -implicitDefEqProofs only [go_sem, simprocAttr, wa_cond, axC_t, axC_f, s0, s4, e2, e3, e4, f1, a2, c1, aConv, a1, build_u81, happ, a4]
        refine ⟨j, ⟨digB x, ?_⟩, by omega⟩
        rw [hx, hstep]
        ((repeat' apply And.intro) <;> first | rfl | assumption | omega | exact .inr ⟨b2, hb2, by simp, hrow⟩)
      · simp -implicitDefEqProofs only [go_sem, simprocAttr, wa_cond, axC_t, axC_f, s0, s4, e2, e3, e4, f1, a2, c1, hL, c2, aConv, a1, build_u81, happ, a4]
        refine ⟨j, ⟨digB x, ?_⟩, by omega⟩
        rw [hx, hstep]
        ((repeat' apply And.intro) <;> first | rfl | assumption | omega | exact .inr ⟨b2, hb2, by simp, hrow⟩)
theorem small_big (H : Heap) {g : Bool} {n d : List UInt8} (h : 3 < n.length ∨ 3 < d.length) : Sim Tryz.prog 168 #[qV g n d] H (.tuple #[.int .i64 0, .int .i64 0, .bool false]) H := by
  refine flat_ex rfl ?_
  unfold qV
  refine sim_ex tok mixed Tryz.func168 rfl (by kernel_rfl) (by kernel_rfl) (by simp only [Tryz.ntmps168, List.size_toArray, List.length_cons, List.length_nil]; omega) ?_
  by_cases h1 : 3 < n.length
  · have h2 : (3 : Int) < (n.length : Int) := by omega
    simp -implicitDefEqProofs only [go_sem, simprocAttr, wa_cond, axC_t, axC_f, aLen, h2, res168]
    first | exact .app _ _ | exact ⟨.app _ _, rfl⟩
  · have h2 : ¬ (3 : Int) < (n.length : Int) := by omega
    have h3 : (3 : Int) < (d.length : Int) := by omega
    simp -implicitDefEqProofs only [go_sem, simprocAttr, wa_cond, axC_t, axC_f, aLen, h2, h3, res168]
    first | exact .app _ _ | exact ⟨.app _ _, rfl⟩
theorem small_small (H : Heap) {g : Bool} {n d : List UInt8} (hn : n.length ≤ 3) (hd : d.length ≤ 3) : Sim Tryz.prog 168 #[qV g n d] H (.tuple #[.int .i64 (ival g n), .int .i64 (dval d : Nat), .bool true]) H := by
  refine flat_ex rfl ?_
  have h2 : ¬ (3 : Int) < (n.length : Int) := by omega
  have h3 : ¬ (3 : Int) < (d.length : Int) := by omega
  have hv := valB_lt n
  have hp := pow256_le (i := n.length) (by omega)
  have a1 : IntKind.i64.wrap (0 - (valB n : Int)) = -(valB n : Int) := by rw [w64 (by omega) (by omega)]; omega
  unfold qV ival
  refine sim_ex tok mixed Tryz.func168 rfl (by kernel_rfl) (by kernel_rfl) (by simp only [Tryz.ntmps168, List.size_toArray, List.length_cons, List.length_nil]; omega) ?_
  simp -implicitDefEqProofs only [go_sem, simprocAttr, wa_cond, axC_t, axC_f, aLen, h2, h3]
  refine ax_quiet (by kernel_rfl) ?_
  simp -implicitDefEqProofs only [go_sem, simprocAttr]
  refine wl_callV #[.string (bs n)] (by simp -implicitDefEqProofs only [go_sem, simprocAttr]) (numberR _ (by omega)) ?_
  simp -implicitDefEqProofs only [go_sem, simprocAttr]
  refine wl_callV #[.string (bs d)] (by simp -implicitDefEqProofs only [go_sem, simprocAttr]) (numberR _ (by omega)) ?_
  by_cases h0 : valB d = 0
  · have e : (valB d : Int) = 0 := by omega
    have e2 : dval d = 1 := by unfold dval; rw [if_pos h0]
    rw [e2]
    cases g
    · simp -implicitDefEqProofs only [go_sem, simprocAttr, wa_cond, axC_t, axC_f, e, res168]
      first | exact .app _ _ | exact ⟨.app _ _, rfl⟩
    · simp -implicitDefEqProofs only [go_sem, simprocAttr, wa_cond, axC_t, axC_f, e, a1, res168]
      first | exact .app _ _ | exact ⟨.app _ _, rfl⟩
  · have e : ¬ (valB d : Int) = 0 := by omega
    have e2 : dval d = valB d := by unfold dval; rw [if_neg h0]
    rw [e2]
    cases g
    · simp -implicitDefEqProofs only [go_sem, simprocAttr, wa_cond, axC_t, axC_f, e, res168]
      first | exact .app _ _ | exact ⟨.app _ _, rfl⟩
    · simp -implicitDefEqProofs only [go_sem, simprocAttr, wa_cond, axC_t, axC_f, e, a1, res168]
      first | exact .app _ _ | exact ⟨.app _ _, rfl⟩
end Go.Proofs.YthhmkaikopdmjaaGreat
namespace Go.Proofs.YthhmkaikopdmjaaGreat
open Go Go.Fw
theorem packR (H : Heap) {n : Int} {d : Nat} (hn : n.natAbs < 36028797018963968) (hd : d < 36028797018963968) (h0 : 0 < d) : Sim Tryz.prog 169 #[.int .i64 n, .int .i64 (d : Nat)] H (mkQ (mkRat n d)) H := by
  refine flat_ex rfl ?_
  have hgp : 0 < Nat.gcd n.natAbs d := Nat.gcd_pos_of_pos_right _ h0
  have hgd : Nat.gcd n.natAbs d ≤ d := Nat.gcd_le_right _ h0
  have hd1 : Nat.gcd n.natAbs d ∣ d := Nat.gcd_dvd_right _ _
  have hd2 : Nat.gcd n.natAbs d ∣ n.natAbs := Nat.gcd_dvd_left _ _
  have hw : n < 0 → IntKind.i64.wrap (0 - n) = ((n.natAbs : Nat) : Int) := fun h => by rw [w64 (by omega) (by omega)]; omega
  have hnn : ¬ n < 0 → n = ((n.natAbs : Nat) : Int) := fun h => by omega
  have e0 : (n / ((Nat.gcd n.natAbs d : Nat) : Int)).natAbs = n.natAbs / Nat.gcd n.natAbs d := by
    rw [Int.natAbs_ediv_of_dvd (Int.ofNat_dvd_left.2 hd2)]; rfl
  have hz : mkQ (mkRat 0 d) = qV false [] [] := by rw [Rat.zero_mkRat, mkQ_zero]
  have hz2 : n.natAbs = 0 → mkQ (mkRat n d) = qV false [] [] := fun h => by rw [← hz]; congr 1; rw [show n = 0 by omega]
  have hpos := mkQ_pos (n := n) h0
  rw [e0] at hpos
  refine sim_ex tok mixed Tryz.func169 rfl (by kernel_rfl) (by kernel_rfl) (by simp only [Tryz.ntmps169, List.size_toArray, List.length_cons, List.length_nil]; omega) ?_
  simp -implicitDefEqProofs only [go_sem, simprocAttr]
  refine ax_mid (fun s T => s 0 = .int .i64 (n.natAbs : Nat) ∧ s 1 = .int .i64 (d : Nat) ∧ s 4 = .pointer (some ⟨H.length, 0, none⟩) ∧ s 5 = .pointer (some ⟨H.length + 1, 0, none⟩) ∧ T = H ++ [⟨[.bool false, .string (bs []), .string (bs [])], 1, true⟩, ⟨[.bool (decide (n < 0)), .string (bs []), .string (bs [])], 1, true⟩]) ?_ ?_
  · by_cases h : n < 0
    · have hw := hw h
      simp -implicitDefEqProofs only [go_sem, simprocAttr, wa_cond, axC_t, axC_f, h, hw]
    · have hn2 := hnn h
      simp -implicitDefEqProofs only [go_sem, simprocAttr, wa_cond, axC_t, axC_f, h]
      rw [← hn2]
  rintro s T ⟨s0, s1, s4, s5, rfl⟩
  generalize decide (n < 0) = sg at *
  generalize mkQ (mkRat n d) = Q at *
  clear hw hnn e0 hz
  generalize n.natAbs = N at *
  by_cases hN : N = 0
  · rw [hz2 hN]
    unfold qV
    have e : ((N : Nat) : Int) = 0 := by omega
    simp -implicitDefEqProofs only [go_sem, simprocAttr, wa_cond, axC_t, axC_f, s0, s4, e, res169]
    first | exact .app _ _ | exact ⟨.app _ _, rfl⟩
  have e : ¬ ((N : Nat) : Int) = 0 := by omega
  simp -implicitDefEqProofs only [go_sem, simprocAttr, wa_cond, axC_t, axC_f, s0, s1, e]
  obtain ⟨T0, hT0⟩ : ∃ T, T = H ++ [(⟨[.bool false, .string (bs []), .string (bs [])], 1, true⟩ : Blk), ⟨[.bool sg, .string (bs []), .string (bs [])], 1, true⟩] := ⟨_, rfl⟩
  rw [← hT0]
  refine ax_midl (fun s T => s 0 = .int .i64 (N : Nat) ∧ s 1 = .int .i64 (d : Nat) ∧ s 4 = .pointer (some ⟨H.length, 0, none⟩) ∧ s 5 = .pointer (some ⟨H.length + 1, 0, none⟩) ∧ s 6 = .int .i64 (Nat.gcd N d : Nat) ∧ T = T0) ?_ ?_
  · refine ax_loopx (fun (y : Nat) s T => ∃ x : Nat, s 0 = .int .i64 (N : Nat) ∧ s 1 = .int .i64 (d : Nat) ∧ s 4 = .pointer (some ⟨H.length, 0, none⟩) ∧ s 5 = .pointer (some ⟨H.length + 1, 0, none⟩) ∧ s 6 = .int .i64 (x : Nat) ∧ s 7 = .int .i64 (y : Nat) ∧ Nat.gcd x y = Nat.gcd N d ∧ T = T0) (fun y => y) d ?_ ?_
    · refine ⟨N, ?_⟩
      simp -implicitDefEqProofs only [go_sem, simprocAttr, s0, s1, s4, s5]
    clear s0 s1 s4 s5
    rintro y s T ⟨x, s0, s1, s4, s5, s6, s7, hg, rfl⟩
    by_cases hy : y = 0
    · subst hy
      rw [Nat.gcd_zero_right] at hg
      have e : ¬ (0 : Int) < ((0 : Nat) : Int) := by decide
      simp -implicitDefEqProofs only [go_sem, simprocAttr, wa_cond, axC_t, axC_f, s0, s1, s4, s5, s6, s7, e]
      rw [← hg]
    · have e : (0 : Int) < (y : Int) := by omega
      have e2 : ¬ (y : Int) = 0 := by omega
      have e3 := tmod_nat x y
      have hml : x % y < y := Nat.mod_lt _ (by omega)
      have hgk : Nat.gcd y (x % y) = Nat.gcd N d := by rw [← hg, Nat.gcd_comm x y, Nat.gcd_comm y (x % y), ← Nat.gcd_rec]
      simp -implicitDefEqProofs only [go_sem, simprocAttr, wa_cond, axC_t, axC_f, s7, e]
      refine ax_quiet (by kernel_rfl) ?_
      simp -implicitDefEqProofs only [go_sem, simprocAttr, s0, s1, s4, s5, s6, s7, e2, e3]
      refine ⟨x % y, ⟨y, ?_⟩, hml⟩
      ((repeat' apply And.intro) <;> first | rfl | assumption | omega)
  clear s0 s1 s4 s5
  rintro s T ⟨s0, s1, s4, s5, s6, rfl⟩
  subst hT0
  rw [hpos]
  generalize Nat.gcd N d = G at *
  have c1 : ¬ (G : Int) = 0 := by omega
  have t1 := tdiv_nat N G
  have t2 := tdiv_nat d G
  have q1 := Nat.div_le_self N G
  have q2 := Nat.div_le_self d G
  have q3 : 0 < d / G := Nat.div_pos hgd hgp
  have w1 := w64n (n := N / G) (by omega)
  have w2 := w64n (n := d / G) (by omega)
  have o1 := fun H => digitsR H (n := N / G) (by omega)
  have o2 := fun H => digitsR H (n := d / G) (by omega)
  have hsn : ∀ (a b : Int) t, aBin tt .gtr t (.int .i64 a) (.int .i64 b) = some (.bool (decide (b < a))) := fun _ _ _ => rfl
  unfold qV
  simp -implicitDefEqProofs only [go_sem, simprocAttr, s0, s6, c1, t1, w1]
  refine wl_callV _ (by simp -implicitDefEqProofs only [go_sem, simprocAttr]) (o1 _) ?_
  by_cases h1 : d / G = 1
  · have e1 : denB (d / G) = [] := by unfold denB; rw [if_pos h1]
    have e2 : ¬ (1 : Int) < ((d / G : Nat) : Int) := by omega
    rw [e1]
    simp -implicitDefEqProofs only [go_sem, simprocAttr, wa_cond, axC_t, axC_f, s1, s4, s5, s6, c1, t2, w2, e2, res169]
    first | exact .app _ _ | exact ⟨.app _ _, rfl⟩
  · have e1 : denB (d / G) = digB (d / G) := by unfold denB; rw [if_neg h1]
    have e2 : (1 : Int) < ((d / G : Nat) : Int) := by omega
    rw [e1]
    simp -implicitDefEqProofs only [go_sem, simprocAttr, wa_cond, axC_t, axC_f, s1, s4, s5, s6, c1, t2, w2, e2]
    refine wl_callV _ (by simp -implicitDefEqProofs only [go_sem, simprocAttr]) (o2 _) ?_
    simp -implicitDefEqProofs only [go_sem, simprocAttr, s4, s5, res169]
    first | exact .app _ _ | exact ⟨.app _ _, rfl⟩
theorem partsR (H : Heap) {g : Bool} {n d : List UInt8} (hn : n.length ≤ 1000000) (hd : d.length ≤ 1000000) :
    Sim Tryz.prog 170 #[qV g n d] H (.tuple #[mkI (ival g n), mkI (dval d : Nat)]) H := by
  refine flat_ex rfl ?_
  have o1 := fun H => addRI H (g := g) (m := n) (g' := false) (m' := []) hn (by decide)
  have o2 := fun H => addRI H (g := false) (m := d) (g' := false) (m' := []) hd (by decide)
  have o3 := fun H => ofR H (z := 1) (by decide) (by decide)
  have e0 : ival false [] = 0 := rfl
  have e1 : ival false d = ((valB d : Nat) : Int) := rfl
  rw [e0, Int.add_zero] at o1 o2
  rw [e1, mkI_nat] at o2
  have hz : bs (digB (valB d)) = bs [] ↔ valB d = 0 := by rw [bs_inj, digB_nil_iff]
  have hD : mkI (dval d : Nat) = .agg #[.bool false, .string (bs (digB (dval d)))] := mkI_nat _
  obtain ⟨b1, s1, h1⟩ := mkI_shape (ival g n)
  rw [h1] at o1
  have h3 : mkI 1 = .agg #[.bool false, .string (bs (digB 1))] := mkI_nat 1
  rw [h3] at o3
  rw [h1, hD]
  unfold qV
  unfold iV at o1 o2
  unfold dval at *
  generalize valB d = x at *
  refine sim_ex tok mixed Tryz.func170 rfl (by kernel_rfl) (by kernel_rfl) (by simp only [Tryz.ntmps170, List.size_toArray, List.length_cons, List.length_nil]; omega) ?_
  simp -implicitDefEqProofs only [go_sem, simprocAttr, build106]
  refine wl_callV _ (by simp -implicitDefEqProofs only [go_sem, simprocAttr]) (o1 _) ?_
  simp -implicitDefEqProofs only [go_sem, simprocAttr, build106]
  refine wl_callV _ (by simp -implicitDefEqProofs only [go_sem, simprocAttr]) (o2 _) ?_
  simp -implicitDefEqProofs only [go_sem, simprocAttr]
  by_cases hx : x = 0
  · have hx2 := hz.2 hx
    rw [if_pos hx] at *
    simp -implicitDefEqProofs only [go_sem, simprocAttr, wa_cond, axC_t, axC_f, hx2]
    refine wl_callV _ (by simp -implicitDefEqProofs only [go_sem, simprocAttr]) (o3 _) ?_
    simp -implicitDefEqProofs only [go_sem, simprocAttr]
    refine ax_cross4 (v0 := .agg #[.bool b1, .string s1]) (v1 := .agg #[.bool false, .string (bs (digB 1))]) ⟨by kernel_rfl, by kernel_rfl, by kernel_rfl, by kernel_rfl, by kernel_rfl, by kernel_rfl⟩ (by kernel_rfl) (by decide)
      (by simp -implicitDefEqProofs only [go_sem, simprocAttr]) (by simp -implicitDefEqProofs only [go_sem, simprocAttr]) (by simp -implicitDefEqProofs only [go_sem, simprocAttr]; rfl) (by simp -implicitDefEqProofs only [go_sem, simprocAttr]) (by simp -implicitDefEqProofs only [go_sem, simprocAttr]; rfl) ?_
    simp -implicitDefEqProofs only [go_sem, simprocAttr, res170]
    first | exact .app _ _ | exact ⟨.app _ _, rfl⟩
  · have hx2 : ¬ bs (digB x) = bs [] := fun h => hx (hz.1 h)
    rw [if_neg hx] at *
    simp -implicitDefEqProofs only [go_sem, simprocAttr, wa_cond, axC_t, axC_f, hx2]
    refine ax_cross4 (v0 := .agg #[.bool b1, .string s1]) (v1 := .agg #[.bool false, .string (bs (digB x))]) ⟨by kernel_rfl, by kernel_rfl, by kernel_rfl, by kernel_rfl, by kernel_rfl, by kernel_rfl⟩ (by kernel_rfl) (by decide)
      (by simp -implicitDefEqProofs only [go_sem, simprocAttr]) (by simp -implicitDefEqProofs only [go_sem, simprocAttr]) (by simp -implicitDefEqProofs only [go_sem, simprocAttr]; rfl) (by simp -implicitDefEqProofs only [go_sem, simprocAttr]) (by simp -implicitDefEqProofs only [go_sem, simprocAttr]; rfl) ?_
    simp -implicitDefEqProofs only [go_sem, simprocAttr, res170]
    first | exact .app _ _ | exact ⟨.app _ _, rfl⟩
end Go.Proofs.YthhmkaikopdmjaaGreat
namespace Go.Proofs.YthhmkaikopdmjaaGreat
open Go Go.Fw
theorem rAdd (H : Heap) {v w : Value} {x y : Int} {k k' : Nat} (hv : IA v x k) (hw : IA w y k') (hk : k ≤ 7000000) (hk' : k' ≤ 7000000) : Sim Tryz.prog 162 #[v, w] H (mkI (x + y)) H := by
  obtain ⟨g, m, rfl, rfl, h⟩ := hv; obtain ⟨g', m', rfl, rfl, h'⟩ := hw; exact addRI H (by omega) (by omega)
theorem rMul (H : Heap) {v w : Value} {x y : Int} {k k' : Nat} (hv : IA v x k) (hw : IA w y k') (hk : k ≤ 7000000) (hk' : k' ≤ 7000000) : Sim Tryz.prog 171 #[v, w] H (mkI (x * y)) H := by
  obtain ⟨g, m, rfl, rfl, h⟩ := hv; obtain ⟨g', m', rfl, rfl, h'⟩ := hw; exact mulRI H (by omega) (by omega)
theorem rNeg (H : Heap) {v : Value} {x : Int} {k : Nat} (hv : IA v x k) : Sim Tryz.prog 163 #[v] H (mkI (-x)) H := by
  obtain ⟨g, m, rfl, rfl, h⟩ := hv; exact negR H g m
theorem rGcd (H : Heap) {v w : Value} {x y : Int} {k k' : Nat} (hv : IA v x k) (hw : IA w y k') (hk : k ≤ 7000000) (hk' : k' ≤ 7000000) : Sim Tryz.prog 164 #[v, w] H (mkI (Nat.gcd x.natAbs y.natAbs : Nat)) H := by
  obtain ⟨g, m, rfl, rfl, h⟩ := hv; obtain ⟨g', m', rfl, rfl, h'⟩ := hw
  rw [ival_abs, ival_abs]; exact gcdR H (by omega) (by omega)
theorem rDiv (H : Heap) {v w : Value} {x y : Int} {k k' : Nat} (hv : IA v x k) (hw : IA w y k') (hk : k ≤ 7000000) (hk' : k' ≤ 7000000) (h0 : y ≠ 0) : Sim Tryz.prog 165 #[v, w] H (.tuple #[mkI (x.fdiv y), mkI (x.fmod y), .int .i64 0]) H := by
  obtain ⟨g, m, rfl, rfl, h⟩ := hv; obtain ⟨g', m', rfl, rfl, h'⟩ := hw; exact divRI H (by omega) (by omega) h0
theorem rCmp (H : Heap) {v w : Value} {x y : Int} {k k' : Nat} (hv : IA v x k) (hw : IA w y k') : Sim Tryz.prog 167 #[v, w] H (.int .i64 (sgn (x - y))) H := by
  obtain ⟨g, m, rfl, rfl, h⟩ := hv; obtain ⟨g', m', rfl, rfl, h'⟩ := hw; exact compareRI H g g' m m'
theorem IA.zero : IA (iV false []) 0 0 := ⟨false, [], rfl, rfl, by decide⟩
theorem IA_canon {v : Value} {x : Int} {k : Nat} (h : IA v x k) : IA (mkI x) x k := by
  obtain ⟨g, m, rfl, rfl, h⟩ := h
  refine ⟨_, _, rfl, ival_mk _, ?_⟩
  rw [ival_abs, ← digB_strip]
  have := dropZ_len m
  omega
theorem reduceR (H : Heap) {v w : Value} {x y : Int} {k : Nat} (hv : IA v x k) (hw : IA w y k) (hk : k ≤ 6000000) (hy : y ≠ 0) :
    Sim Tryz.prog 101 #[v, w] H (mkQ (Rat.divInt x y)) H := by
  refine flat_ex rfl ?_
  have o1 := fun H => rAdd H hv IA.zero (by omega) (by decide)
  have o2 := fun H => rAdd H hw IA.zero (by omega) (by decide)
  rw [Int.add_zero] at o1 o2
  have n1 := fun H => rNeg H (IA_canon hv)
  have n2 := fun H => rNeg H (IA_canon hw)
  obtain ⟨N, D, hD, hND, hF⟩ : ∃ (N : Int) (D : Nat), 0 < D ∧ ((¬ y < 0 ∧ N = x ∧ (D : Int) = y) ∨ (y < 0 ∧ N = -x ∧ (D : Int) = -y)) ∧ Rat.divInt x y = mkRat N D := by
    by_cases h : y < 0
    · exact ⟨-x, y.natAbs, by omega, .inr ⟨h, rfl, by omega⟩, divInt_neg2 h⟩
    · exact ⟨x, y.natAbs, by omega, .inl ⟨h, rfl, by omega⟩, divInt_pos (by omega)⟩
  have hN : IA (mkI N) N k := by
    refine ⟨_, _, rfl, ival_mk _, ?_⟩
    rcases hND with ⟨_, h, _⟩ | ⟨_, h, _⟩
    · obtain ⟨g, m, e1, e2, e3⟩ := IA_canon hv
      rw [h, ← e2, ival_abs, ← digB_strip]; have := dropZ_len m; omega
    · obtain ⟨g, m, e1, e2, e3⟩ := IA_canon hv
      rw [h, Int.natAbs_neg, ← e2, ival_abs, ← digB_strip]; have := dropZ_len m; omega
  have hDD : IA (mkI (D : Nat)) (D : Nat) k := by
    refine ⟨_, _, rfl, ival_mk _, ?_⟩
    obtain ⟨g, m, e1, e2, e3⟩ := (IA_canon hw)
    rw [show ((D : Int)).natAbs = y.natAbs by omega, ← e2, ival_abs, ← digB_strip]; have := dropZ_len m; omega
  have hG := Nat.gcd_pos_of_pos_right N.natAbs hD
  have hGG : IA (mkI (Nat.gcd N.natAbs D : Nat)) (Nat.gcd N.natAbs D : Nat) (k + 7) := by
    refine IA.mk ?_
    rw [Int.natAbs_natCast]
    have h2 := hDD.sz
    have := Nat.gcd_le_right N.natAbs hD
    rw [Int.natAbs_natCast] at h2
    omega
  have g1 := fun H => rGcd H hN hDD (by omega) (by omega)
  rw [Int.natAbs_natCast] at g1
  have d1 := fun H => rDiv H hN hGG (by omega) (by omega) (by omega)
  have d2 := fun H => rDiv H hDD hGG (by omega) (by omega) (by omega)
  rw [gcd_fdiv _ _ hG] at d1 d2
  have hQ := mkQ_pos (n := N) hD
  have hneg : decide (N / ((Nat.gcd N.natAbs D : Nat) : Int) < 0) = decide (N < 0) := by
    have := mkRat_neg_iff N hD
    rw [mkRat_num' N hD] at this
    exact decide_eq_decide.2 this
  have hden : ((D : Int)) / ((Nat.gcd N.natAbs D : Nat) : Int) = ((D / Nat.gcd N.natAbs D : Nat) : Int) := rfl
  rw [hden] at d2
  have hx0 : bs (digB x.natAbs) = bs [] ↔ x = 0 := by rw [bs_inj, digB_nil_iff]; omega
  have hd1 : bs (digB (D / Nat.gcd N.natAbs D)) = bs [1] ↔ D / Nat.gcd N.natAbs D = 1 := by
    rw [bs_inj, show ([1] : List UInt8) = digB 1 by rw [digB_one (by decide) (by decide)]; rfl]
    refine ⟨fun h => ?_, fun h => by rw [h]⟩
    have := congrArg valB h
    rwa [valB_dig, valB_dig] at this
  obtain ⟨gx, mx, rfl, ex, _⟩ := hv
  obtain ⟨gy, my, rfl, ey, _⟩ := hw
  have shN : mkI (N / ((Nat.gcd N.natAbs D : Nat) : Int)) = .agg #[.bool (decide (N < 0)), .string (bs (digB (N / ((Nat.gcd N.natAbs D : Nat) : Int)).natAbs))] := by rw [← hneg]; rfl
  have shD := mkI_nat (D / Nat.gcd N.natAbs D)
  rw [shN] at d1
  rw [shD] at d2
  rw [hF, hQ]
  generalize Nat.gcd N.natAbs D = G at *
  by_cases hx : x = 0
  · have e : mkQ (mkRat N D) = qV false [] [] := by
      rw [← hF, hx, Rat.zero_divInt, mkQ_zero]
    rw [← hQ, e]
    have hx2 := hx0.2 hx
    unfold mkI iV at o1 o2
    unfold iV qV
    refine sim_ex tok mixed Tryz.func101 rfl (by kernel_rfl) (by kernel_rfl) (by simp only [Tryz.ntmps101, List.size_toArray, List.length_cons, List.length_nil]; omega) ?_
    simp -implicitDefEqProofs only [go_sem, simprocAttr, build106]
    refine ax_quiet (by kernel_rfl) ?_
    simp -implicitDefEqProofs only [go_sem, simprocAttr, build106]
    refine wl_callV _ (by simp -implicitDefEqProofs only [go_sem, simprocAttr]) (o1 _) ?_
    simp -implicitDefEqProofs only [go_sem, simprocAttr, build106]
    refine wl_callV _ (by simp -implicitDefEqProofs only [go_sem, simprocAttr]) (o2 _) ?_
    simp -implicitDefEqProofs only [go_sem, simprocAttr, wa_cond, axC_t, axC_f, hx2, res101]
    first | exact .app _ _ | exact ⟨.app _ _, rfl⟩
  have hx2 : ¬ bs (digB x.natAbs) = bs [] := fun h => hx (hx0.1 h)
  have hxs : mkI x = .agg #[.bool (decide (x < 0)), .string (bs (digB x.natAbs))] := rfl
  have hys : mkI y = .agg #[.bool (decide (y < 0)), .string (bs (digB y.natAbs))] := rfl
  obtain ⟨nb, ns, hNs⟩ := mkI_shape N
  obtain ⟨db, ds, hDs⟩ := mkI_shape (D : Nat)
  obtain ⟨gb, gs, hGs⟩ := mkI_shape (G : Nat)
  obtain ⟨b3, s3', h3⟩ := mkI_shape (N.fmod (G : Nat))
  obtain ⟨b4, s4', h4⟩ := mkI_shape (((D : Nat) : Int).fmod (G : Nat))
  rw [hxs] at o1 n1
  rw [hys] at o2 n2
  rw [hNs, hDs, hGs] at g1
  rw [hNs, hGs, h3] at d1
  rw [hDs, hGs, h4] at d2
  have cden : denB (D / G) = if D / G = 1 then [] else digB (D / G) := rfl
  rw [cden]
  unfold iV at o1 o2
  unfold iV qV
  generalize digB (N / (G : Int)).natAbs = qn at *
  refine sim_ex tok mixed Tryz.func101 rfl (by kernel_rfl) (by kernel_rfl) (by simp only [Tryz.ntmps101, List.size_toArray, List.length_cons, List.length_nil]; omega) ?_
  simp -implicitDefEqProofs only [go_sem, simprocAttr, build106]
  refine ax_quiet (by kernel_rfl) ?_
  simp -implicitDefEqProofs only [go_sem, simprocAttr, build106]
  refine wl_callV _ (by simp -implicitDefEqProofs only [go_sem, simprocAttr]) (o1 _) ?_
  simp -implicitDefEqProofs only [go_sem, simprocAttr, build106]
  refine wl_callV _ (by simp -implicitDefEqProofs only [go_sem, simprocAttr]) (o2 _) ?_
  simp -implicitDefEqProofs only [go_sem, simprocAttr, hx2]
  refine ax_cond2 ?_
  simp only [ev_tmp, ev_const, ev_func, upd_at, put_some, put_none, bndB_bool, Nat.reduceEqDiff, if_true, if_false, ↓reduceIte, reduceCtorEq]
  refine ⟨fun hc => hc.elim, fun _ => ?_⟩
  simp -implicitDefEqProofs only [go_sem, simprocAttr]
  refine ax_mid (fun s T => s 2 = .pointer (some ⟨H.length, 0, none⟩) ∧ s 3 = .pointer (some ⟨H.length + 1, 0, none⟩) ∧ s 4 = .pointer (some ⟨H.length + 2, 0, none⟩) ∧ T = H ++ [⟨[.bool nb, .string ns], 1, true⟩, ⟨[.bool db, .string ds], 1, true⟩, ⟨[.bool false, .string (bs []), .string (bs [])], 1, true⟩]) ?_ ?_
  · rcases hND with ⟨h, e1, e2⟩ | ⟨h, e1, e2⟩
    · rw [e1, hxs] at hNs
      rw [e2, hys] at hDs
      injection hNs with hNs
      injection hDs with hDs
      simp only [Array.mk.injEq, List.cons.injEq, Value.bool.injEq, Value.string.injEq, and_true] at hNs hDs
      obtain ⟨rfl, rfl⟩ := hNs
      obtain ⟨rfl, rfl⟩ := hDs
      simp -implicitDefEqProofs only [go_sem, simprocAttr, wa_cond, axC_t, axC_f, h]
    · rw [← e1, hNs] at n1
      rw [← e2, hDs] at n2
      rw [decide_eq_true h] at n2 ⊢
      simp -implicitDefEqProofs only [go_sem, simprocAttr, wa_cond, axC_t, axC_f]
      refine ax_quiet (by kernel_rfl) ?_
      simp -implicitDefEqProofs only [go_sem, simprocAttr]
      refine wl_callV _ (by simp -implicitDefEqProofs only [go_sem, simprocAttr]) (n1 _) ?_
      simp -implicitDefEqProofs only [go_sem, simprocAttr]
      refine wl_callV _ (by simp -implicitDefEqProofs only [go_sem, simprocAttr]) (n2 _) ?_
      simp -implicitDefEqProofs only [go_sem, simprocAttr]
  rintro s T ⟨s2, s3, s4, rfl⟩
  simp -implicitDefEqProofs only [go_sem, simprocAttr, s2, s3]
  refine wl_callV _ (by simp -implicitDefEqProofs only [go_sem, simprocAttr]) (g1 _) ?_
  simp -implicitDefEqProofs only [go_sem, simprocAttr, s2, s3]
  refine wl_callV _ (by simp -implicitDefEqProofs only [go_sem, simprocAttr]) (d1 _) ?_
  simp -implicitDefEqProofs only [go_sem, simprocAttr, s2, s3]
  refine wl_callV _ (by simp -implicitDefEqProofs only [go_sem, simprocAttr]) (d2 _) ?_
  simp -implicitDefEqProofs only [go_sem, simprocAttr, s2, s3, show (⟨#[1]⟩ : ByteArray) = bs [1] from rfl, hd1]
  by_cases h1 : D / G = 1
  · rw [if_pos h1]
    simp -implicitDefEqProofs only [go_sem, simprocAttr, wa_cond, axC_t, axC_f, s4, h1, res101]
    first | exact .app _ _ | exact ⟨.app _ _, rfl⟩
  · rw [if_neg h1]
    simp -implicitDefEqProofs only [go_sem, simprocAttr, wa_cond, axC_t, axC_f, s3, s4, h1, res101]
    first | exact .app _ _ | exact ⟨.app _ _, rfl⟩
theorem ofNR (H : Heap) {n : Int} (h1 : -9223372036854775808 ≤ n) (h2 : n < 9223372036854775808) : Sim Tryz.prog 48 #[.int .i64 n] H (mkQ (n : Rat)) H := by
  refine flat_ex rfl ?_
  have o1 := fun H => ofR H h1 h2
  have o2 := fun H => ofR H (z := 1) (by decide) (by decide)
  have o3 := fun H => reduceR H (IA.mk (z := n) (k := 64) (by omega)) (IA.mk (z := 1) (k := 64) (by decide)) (by decide) (by decide)
  rw [divInt_pos (by decide), show (1 : Int).natAbs = 1 from rfl, mkRat_one] at o3
  refine sim_ex tok mixed Tryz.func48 rfl (by kernel_rfl) (by kernel_rfl) (by simp only [Tryz.ntmps48, List.size_toArray, List.length_cons, List.length_nil]; omega) ?_
  simp -implicitDefEqProofs only [go_sem, simprocAttr, mkI, iV, mkQ, qV, fV, ofV, rV, mkR]
  refine wl_callV _ (by simp -implicitDefEqProofs only [go_sem, simprocAttr, mkI, iV, mkQ, qV, fV, ofV, rV, mkR]) (o1 _) ?_
  simp -implicitDefEqProofs only [go_sem, simprocAttr, mkI, iV, mkQ, qV, fV, ofV, rV, mkR]
  refine wl_callV _ (by simp -implicitDefEqProofs only [go_sem, simprocAttr, mkI, iV, mkQ, qV, fV, ofV, rV, mkR]) (o2 _) ?_
  simp -implicitDefEqProofs only [go_sem, simprocAttr, mkI, iV, mkQ, qV, fV, ofV, rV, mkR]
  refine wl_callV _ (by simp -implicitDefEqProofs only [go_sem, simprocAttr, mkI, iV, mkQ, qV, fV, ofV, rV, mkR]) (o3 _) ?_
  simp -implicitDefEqProofs only [go_sem, simprocAttr, mkI, iV, mkQ, qV, fV, ofV, rV, mkR]
  simp -implicitDefEqProofs only [go_sem, simprocAttr, mkI, iV, mkQ, qV, fV, ofV, rV, mkR, res48]
  first | exact .app _ _ | exact ⟨.app _ _, rfl⟩ | exact .refl _ | exact ⟨.refl _, rfl⟩
end Go.Proofs.YthhmkaikopdmjaaGreat
namespace Go.Proofs.YthhmkaikopdmjaaGreat
open Go Go.Fw
theorem small_or (g : Bool) (n d : List UInt8) : (n.length ≤ 3 ∧ d.length ≤ 3 ∧ ∀ H, Sim Tryz.prog 168 #[qV g n d] H (.tuple #[.int .i64 (ival g n), .int .i64 (dval d : Nat), .bool true]) H) ∨
    (∀ H, Sim Tryz.prog 168 #[qV g n d] H (.tuple #[.int .i64 0, .int .i64 0, .bool false]) H) := by
  by_cases h : 3 < n.length ∨ 3 < d.length
  · exact .inr fun H => small_big H h
  · exact .inl ⟨by omega, by omega, fun H => small_small H (by omega) (by omega)⟩
theorem dval_lt {d : List UInt8} {k : Nat} (h : 8 * d.length ≤ k) : ((dval d : Nat) : Int).natAbs < 2 ^ (k + 1) := by
  have := valB_lt2 d h
  have h1 := Nat.one_le_two_pow (n := k)
  rw [Nat.pow_succ, Int.natAbs_natCast]
  unfold dval
  split <;> omega
theorem ival_lt (g : Bool) {n : List UInt8} {k : Nat} (h : 8 * n.length ≤ k) : (ival g n).natAbs < 2 ^ (k + 1) := by
  rw [ival_abs, Nat.pow_succ]
  have := valB_lt2 n h
  omega
theorem normalR (H : Heap) {v : Value} {q : Rat} {k : Nat} (hv : QV v q k) (hk : k ≤ 4000000) : Sim Tryz.prog 173 #[v] H (mkQ q) H := by
  refine flat_ex rfl ?_
  obtain ⟨g, n, d, rfl, rfl, h1, h2⟩ := hv
  have d0 := dval_pos d
  have pA := fun H => partsR H (g := g) (n := n) (d := d) (by omega) (by omega)
  have r1 := fun H => reduceR H (IA.mk (ival_lt g h1)) (IA.mk (dval_lt h2)) (by omega) (by omega)
  rw [divInt_pos (by omega), Int.natAbs_natCast] at r1
  have hq : qval g n d = mkRat (ival g n) (dval d) := rfl
  rw [← hq] at r1
  rcases small_or g n d with ⟨x1, x2, oA⟩ | oA
  · have b1 := ival3 g x1
    have b2 := dval3 x2
    have oP := fun H => packR H (n := ival g n) (d := dval d) (by omega) (by omega) d0
    rw [← hq] at oP
    generalize qval g n d = Q at *
    generalize ival g n = P at *
    generalize dval d = D at *
    unfold qV at oA pA ⊢
    refine sim_ex tok mixed Tryz.func173 rfl (by kernel_rfl) (by kernel_rfl) (by simp only [Tryz.ntmps173, List.size_toArray, List.length_cons, List.length_nil]; omega) ?_
    simp -implicitDefEqProofs only [go_sem, simprocAttr, mkI, iV, mkQ, qV, fV, ofV, rV, mkR]
    refine wl_callV _ (by simp -implicitDefEqProofs only [go_sem, simprocAttr, mkI, iV, mkQ, qV, fV, ofV, rV, mkR, axC_t, axC_f, wa_cond]) (oA _) ?_
    simp -implicitDefEqProofs only [go_sem, simprocAttr, mkI, iV, mkQ, qV, fV, ofV, rV, mkR, axC_t, axC_f, wa_cond]
    refine wl_callV _ (by simp -implicitDefEqProofs only [go_sem, simprocAttr, mkI, iV, mkQ, qV, fV, ofV, rV, mkR]) (oP _) ?_
    simp -implicitDefEqProofs only [go_sem, simprocAttr, mkI, iV, mkQ, qV, fV, ofV, rV, mkR]
    simp -implicitDefEqProofs only [go_sem, simprocAttr, mkI, iV, mkQ, qV, fV, ofV, rV, mkR, res173]
    first | exact .app _ _ | exact ⟨.app _ _, rfl⟩ | exact .refl _ | exact ⟨.refl _, rfl⟩
  · generalize qval g n d = Q at *
    generalize ival g n = P at *
    generalize dval d = D at *
    unfold qV at oA pA ⊢
    refine sim_ex tok mixed Tryz.func173 rfl (by kernel_rfl) (by kernel_rfl) (by simp only [Tryz.ntmps173, List.size_toArray, List.length_cons, List.length_nil]; omega) ?_
    simp -implicitDefEqProofs only [go_sem, simprocAttr, mkI, iV, mkQ, qV, fV, ofV, rV, mkR]
    refine wl_callV _ (by simp -implicitDefEqProofs only [go_sem, simprocAttr, mkI, iV, mkQ, qV, fV, ofV, rV, mkR, axC_t, axC_f, wa_cond]) (oA _) ?_
    simp -implicitDefEqProofs only [go_sem, simprocAttr, mkI, iV, mkQ, qV, fV, ofV, rV, mkR, axC_t, axC_f, wa_cond]
    refine wl_callV _ (by simp -implicitDefEqProofs only [go_sem, simprocAttr, mkI, iV, mkQ, qV, fV, ofV, rV, mkR]) (pA _) ?_
    simp -implicitDefEqProofs only [go_sem, simprocAttr, mkI, iV, mkQ, qV, fV, ofV, rV, mkR]
    refine wl_callV _ (by simp -implicitDefEqProofs only [go_sem, simprocAttr, mkI, iV, mkQ, qV, fV, ofV, rV, mkR]) (r1 _) ?_
    simp -implicitDefEqProofs only [go_sem, simprocAttr, mkI, iV, mkQ, qV, fV, ofV, rV, mkR]
    simp -implicitDefEqProofs only [go_sem, simprocAttr, mkI, iV, mkQ, qV, fV, ofV, rV, mkR, res173]
    first | exact .app _ _ | exact ⟨.app _ _, rfl⟩ | exact .refl _ | exact ⟨.refl _, rfl⟩
theorem qcheckR (H : Heap) {g : Bool} {n d : List UInt8} (hn : n.length ≤ 400000) (hd : d.length ≤ 400000) : Sim Tryz.prog 110 #[qV g n d] H (.int .i64 (if isCan g n d = true then 0 else 1)) H := by
  refine flat_ex rfl ?_
  have o1 := fun H => normalR H (QV.raw g n d (k := 3200000) (by omega) (by omega)) (by decide)
  have hq := neq24 (decide ((qval g n d).num < 0)) g (digB (qval g n d).num.natAbs) (denB (qval g n d).den) n d
  have e2 : decide (¬ (decide ((qval g n d).num < 0) = g ∧ digB (qval g n d).num.natAbs = n ∧ denB (qval g n d).den = d)) = !(isCan g n d) := by
    unfold isCan
    rw [← decide_not]
    refine decide_eq_decide.2 (not_congr ?_)
    constructor <;> rintro ⟨a, b, c⟩ <;> exact ⟨a.symm, b.symm, c.symm⟩
  rw [e2] at hq
  cases h0 : isCan g n d
  · rw [h0] at hq
    generalize qval g n d = q at *
    unfold qV mkQ at *
    refine sim_ex tok mixed Tryz.func110 rfl (by kernel_rfl) (by kernel_rfl) (by simp only [Tryz.ntmps110, List.size_toArray, List.length_cons, List.length_nil]; omega) ?_
    simp -implicitDefEqProofs only [go_sem, simprocAttr, mkI, iV, mkQ, qV, fV, ofV, rV, mkR]
    refine ax_quiet (by kernel_rfl) ?_
    simp -implicitDefEqProofs only [go_sem, simprocAttr, mkI, iV, mkQ, qV, fV, ofV, rV, mkR]
    refine wl_callV _ (by simp -implicitDefEqProofs only [go_sem, simprocAttr, mkI, iV, mkQ, qV, fV, ofV, rV, mkR, hq]) (o1 _) ?_
    simp -implicitDefEqProofs only [go_sem, simprocAttr, mkI, iV, mkQ, qV, fV, ofV, rV, mkR, hq]
    simp -implicitDefEqProofs only [go_sem, simprocAttr, mkI, iV, mkQ, qV, fV, ofV, rV, mkR, wa_cond, axC_t, axC_f]
    simp -implicitDefEqProofs only [go_sem, simprocAttr, mkI, iV, mkQ, qV, fV, ofV, rV, mkR, res110]
    first | exact .app _ _ | exact ⟨.app _ _, rfl⟩ | exact .refl _ | exact ⟨.refl _, rfl⟩
  · rw [h0] at hq
    generalize qval g n d = q at *
    unfold qV mkQ at *
    refine sim_ex tok mixed Tryz.func110 rfl (by kernel_rfl) (by kernel_rfl) (by simp only [Tryz.ntmps110, List.size_toArray, List.length_cons, List.length_nil]; omega) ?_
    simp -implicitDefEqProofs only [go_sem, simprocAttr, mkI, iV, mkQ, qV, fV, ofV, rV, mkR]
    refine ax_quiet (by kernel_rfl) ?_
    simp -implicitDefEqProofs only [go_sem, simprocAttr, mkI, iV, mkQ, qV, fV, ofV, rV, mkR]
    refine wl_callV _ (by simp -implicitDefEqProofs only [go_sem, simprocAttr, mkI, iV, mkQ, qV, fV, ofV, rV, mkR, hq]) (o1 _) ?_
    simp -implicitDefEqProofs only [go_sem, simprocAttr, mkI, iV, mkQ, qV, fV, ofV, rV, mkR, hq]
    simp -implicitDefEqProofs only [go_sem, simprocAttr, mkI, iV, mkQ, qV, fV, ofV, rV, mkR, wa_cond, axC_t, axC_f]
    simp -implicitDefEqProofs only [go_sem, simprocAttr, mkI, iV, mkQ, qV, fV, ofV, rV, mkR, res110]
    first | exact .app _ _ | exact ⟨.app _ _, rfl⟩ | exact .refl _ | exact ⟨.refl _, rfl⟩
theorem negRQ (H : Heap) {v : Value} {q : Rat} {k : Nat} (hv : QV v q k) (hk : k ≤ 4000000) : Sim Tryz.prog 188 #[v] H (mkQ (-q)) H := by
  refine flat_ex rfl ?_
  obtain ⟨g, n, d, rfl, rfl, h1, h2⟩ := hv
  have o1 := fun H => normalR H (QV.raw (!g) n d h1 h2) hk
  rw [qval_not] at o1
  generalize -qval g n d = Q at *
  unfold qV at *
  refine sim_ex tok mixed Tryz.func188 rfl (by kernel_rfl) (by kernel_rfl) (by simp only [Tryz.ntmps188, List.size_toArray, List.length_cons, List.length_nil]; omega) ?_
  simp -implicitDefEqProofs only [go_sem, simprocAttr, mkI, iV, mkQ, qV, fV, ofV, rV, mkR]
  refine wl_callV _ (by simp -implicitDefEqProofs only [go_sem, simprocAttr, mkI, iV, mkQ, qV, fV, ofV, rV, mkR]) (o1 _) ?_
  simp -implicitDefEqProofs only [go_sem, simprocAttr, mkI, iV, mkQ, qV, fV, ofV, rV, mkR]
  simp -implicitDefEqProofs only [go_sem, simprocAttr, mkI, iV, mkQ, qV, fV, ofV, rV, mkR, res188]
  first | exact .app _ _ | exact ⟨.app _ _, rfl⟩ | exact .refl _ | exact ⟨.refl _, rfl⟩
theorem addRQ (H : Heap) {v w : Value} {a b : Rat} {k k' : Nat} (hv : QV v a k) (hw : QV w b k') (hk : k ≤ 600000) (hk' : k' ≤ 600000) : Sim Tryz.prog 106 #[v, w] H (mkQ (a + b)) H := by
  refine flat_ex rfl ?_
  obtain ⟨K, hK⟩ : ∃ K, K = 600000 := ⟨_, rfl⟩
  obtain ⟨g, n, d, rfl, rfl, h1, h2⟩ := QV.mono hv (k' := K) (by omega)
  obtain ⟨g', n', d', rfl, rfl, h3, h4⟩ := QV.mono hw (k' := K) (by omega)
  have d0 := dval_pos d
  have d0' := dval_pos d'
  have pA := fun H => partsR H (g := g) (n := n) (d := d) (by omega) (by omega)
  have pB := fun H => partsR H (g := g') (n := n') (d := d') (by omega) (by omega)
  have zP := ival_lt g h1
  have zD := dval_lt h2
  have zP' := ival_lt g' h3
  have zD' := dval_lt h4
  have law : qval g n d + qval g' n' d' = mkRat (ival g n * (dval d' : Nat) + ival g' n' * (dval d : Nat)) (dval d * dval d') := mkRat_add' _ _ d0 d0'
  rw [law]
  have sA := small_or g n d
  have sB := small_or g' n' d'
  have b1 := fun x1 => ival3 g (n := n) x1
  have b2 := fun x1 => dval3 (n := d) x1
  have b3 := fun x1 => ival3 g' (n := n') x1
  have b4 := fun x1 => dval3 (n := d') x1
  clear law
  generalize ival g n = P at *
  generalize dval d = D at *
  generalize ival g' n' = P' at *
  generalize dval d' = D' at *
  unfold qV at *
  have e1 := absmul zP zD'
  have e2 := absmul zP' zD
  have e3 := absadd e1 e2
  have e4 := absmul zD zD'
  have m1 := fun H => rMul H (IA.mk zP) (IA.mk zD') (by omega) (by omega)
  have m2 := fun H => rMul H (IA.mk zP') (IA.mk zD) (by omega) (by omega)
  have m3 := fun H => rAdd H (IA.mk e1) (IA.mk e2) (by omega) (by omega)
  have m4 := fun H => rMul H (IA.mk zD) (IA.mk zD') (by omega) (by omega)
  have h0 : (D : Int) * (D' : Int) ≠ 0 := by have := Nat.mul_pos d0 d0'; rw [mulc]; omega
  have r1 := fun H => reduceR H (IA.mk e3) ((IA.mk e4).mono (k' := K + 1 + (K + 1) + 1 + 7) (by omega)) (by omega) h0
  rw [divInt_pos (by have := Nat.mul_pos d0 d0'; rw [mulc]; omega), mulc, Int.natAbs_natCast] at r1
  rw [mulc] at m4
  clear e1 e2 e3 e4 zP zP' zD zD' 
  refine sim_ex tok mixed Tryz.func106 rfl (by kernel_rfl) (by kernel_rfl) (by simp only [Tryz.ntmps106, List.size_toArray, List.length_cons, List.length_nil]; omega) ?_
  simp -implicitDefEqProofs only [go_sem, simprocAttr, mkI, iV, mkQ, qV, fV, ofV, rV, mkR]
  apply shareK (M := fun s T => s 2 = .pointer (some ⟨H.length, 0, none⟩) ∧ s 3 = .pointer (some ⟨H.length + 1, 0, none⟩) ∧ s 4 = .pointer (some ⟨H.length + 2, 0, none⟩) ∧ T = H ++ [⟨[.bool g, .string (bs n), .string (bs d)], 1, true⟩, ⟨[.bool g', .string (bs n'), .string (bs d')], 1, true⟩, ⟨[.bool false, .string (bs []), .string (bs [])], 1, true⟩])
  · intro hrest
    rcases sA with ⟨x1, x2, oA⟩ | oA
    · rcases sB with ⟨x3, x4, oB⟩ | oB
      · have b1 := b1 x1
        have b2 := b2 x2
        have b3 := b3 x3
        have b4 := b4 x4
        have p1 := prod3 (x := P) (y := (D' : Int)) b1 (by omega)
        have p2 := prod3 (x := P') (y := (D : Int)) b3 (by omega)
        have p3 : D * D' ≤ 16777216 * 16777216 := Nat.mul_le_mul b2 b4
        have w1 : IntKind.i64.wrap (P * (D' : Int)) = P * (D' : Int) := w64 (by omega) (by omega)
        have w2 : IntKind.i64.wrap (P' * (D : Int)) = P' * (D : Int) := w64 (by omega) (by omega)
        have w3 : IntKind.i64.wrap (P * (D' : Int) + P' * (D : Int)) = P * (D' : Int) + P' * (D : Int) := w64 (by omega) (by omega)
        have w4 : IntKind.i64.wrap ((D : Int) * (D' : Int)) = ((D * D' : Nat) : Int) := by rw [mulc, w64n (by omega)]
        have oP := fun H => packR H (n := P * (D' : Int) + P' * (D : Int)) (d := D * D') (by omega) (by omega) (Nat.mul_pos d0 d0')
        refine wl_callV _ (by simp -implicitDefEqProofs only [go_sem, simprocAttr, mkI, iV, mkQ, qV, fV, ofV, rV, mkR]) (oA _) ?_
        simp -implicitDefEqProofs only [go_sem, simprocAttr, mkI, iV, mkQ, qV, fV, ofV, rV, mkR]
        refine wl_callV _ (by simp -implicitDefEqProofs only [go_sem, simprocAttr, mkI, iV, mkQ, qV, fV, ofV, rV, mkR, wa_cond, axC_t, axC_f, w1, w2, w3, w4]) (oB _) ?_
        simp -implicitDefEqProofs only [go_sem, simprocAttr, mkI, iV, mkQ, qV, fV, ofV, rV, mkR, wa_cond, axC_t, axC_f, w1, w2, w3, w4]
        refine wl_callV _ (by simp -implicitDefEqProofs only [go_sem, simprocAttr, mkI, iV, mkQ, qV, fV, ofV, rV, mkR]) (oP _) ?_
        simp -implicitDefEqProofs only [go_sem, simprocAttr, mkI, iV, mkQ, qV, fV, ofV, rV, mkR]
        simp -implicitDefEqProofs only [go_sem, simprocAttr, mkI, iV, mkQ, qV, fV, ofV, rV, mkR, res106]
        first | exact .app _ _ | exact ⟨.app _ _, rfl⟩ | exact .refl _ | exact ⟨.refl _, rfl⟩
      · refine wl_callV _ (by simp -implicitDefEqProofs only [go_sem, simprocAttr, mkI, iV, mkQ, qV, fV, ofV, rV, mkR]) (oA _) ?_
        simp -implicitDefEqProofs only [go_sem, simprocAttr, mkI, iV, mkQ, qV, fV, ofV, rV, mkR]
        refine wl_callV _ (by simp -implicitDefEqProofs only [go_sem, simprocAttr, mkI, iV, mkQ, qV, fV, ofV, rV, mkR]) (oB _) ?_
        simp -implicitDefEqProofs only [go_sem, simprocAttr, mkI, iV, mkQ, qV, fV, ofV, rV, mkR]
        refine ax_mid _ ?_ hrest
        simp -implicitDefEqProofs only [go_sem, simprocAttr, mkI, iV, mkQ, qV, fV, ofV, rV, mkR, wa_cond, axC_t, axC_f]
    · obtain ⟨y1, y2, y3, oB⟩ : ∃ y1 y2 y3, ∀ H, Sim Tryz.prog 168 #[.agg #[.bool g', .string (bs n'), .string (bs d')]] H (.tuple #[.int .i64 y1, .int .i64 y2, .bool y3]) H := by
        rcases sB with ⟨_, _, oB⟩ | oB
        · exact ⟨_, _, _, oB⟩
        · exact ⟨_, _, _, oB⟩
      refine wl_callV _ (by simp -implicitDefEqProofs only [go_sem, simprocAttr, mkI, iV, mkQ, qV, fV, ofV, rV, mkR]) (oA _) ?_
      simp -implicitDefEqProofs only [go_sem, simprocAttr, mkI, iV, mkQ, qV, fV, ofV, rV, mkR]
      refine wl_callV _ (by simp -implicitDefEqProofs only [go_sem, simprocAttr, mkI, iV, mkQ, qV, fV, ofV, rV, mkR]) (oB _) ?_
      simp -implicitDefEqProofs only [go_sem, simprocAttr, mkI, iV, mkQ, qV, fV, ofV, rV, mkR]
      refine ax_mid _ ?_ hrest
      simp -implicitDefEqProofs only [go_sem, simprocAttr, mkI, iV, mkQ, qV, fV, ofV, rV, mkR, wa_cond, axC_t, axC_f]
  rintro s T ⟨s2, s3, s4, rfl⟩
  simp -implicitDefEqProofs only [go_sem, simprocAttr, mkI, iV, mkQ, qV, fV, ofV, rV, mkR, s2, s3]
  refine wl_callV _ (by simp -implicitDefEqProofs only [go_sem, simprocAttr, mkI, iV, mkQ, qV, fV, ofV, rV, mkR, s2, s3]) (pA _) ?_
  simp -implicitDefEqProofs only [go_sem, simprocAttr, mkI, iV, mkQ, qV, fV, ofV, rV, mkR, s2, s3]
  refine wl_callV _ (by simp -implicitDefEqProofs only [go_sem, simprocAttr, mkI, iV, mkQ, qV, fV, ofV, rV, mkR, s2, s3]) (pB _) ?_
  simp -implicitDefEqProofs only [go_sem, simprocAttr, mkI, iV, mkQ, qV, fV, ofV, rV, mkR, s2, s3]
  refine ax_quiet (by kernel_rfl) ?_
  simp -implicitDefEqProofs only [go_sem, simprocAttr, mkI, iV, mkQ, qV, fV, ofV, rV, mkR]
  refine wl_callV _ (by simp -implicitDefEqProofs only [go_sem, simprocAttr, mkI, iV, mkQ, qV, fV, ofV, rV, mkR]) (m1 _) ?_
  simp -implicitDefEqProofs only [go_sem, simprocAttr, mkI, iV, mkQ, qV, fV, ofV, rV, mkR]
  refine wl_callV _ (by simp -implicitDefEqProofs only [go_sem, simprocAttr, mkI, iV, mkQ, qV, fV, ofV, rV, mkR]) (m2 _) ?_
  simp -implicitDefEqProofs only [go_sem, simprocAttr, mkI, iV, mkQ, qV, fV, ofV, rV, mkR]
  refine wl_callV _ (by simp -implicitDefEqProofs only [go_sem, simprocAttr, mkI, iV, mkQ, qV, fV, ofV, rV, mkR]) (m3 _) ?_
  simp -implicitDefEqProofs only [go_sem, simprocAttr, mkI, iV, mkQ, qV, fV, ofV, rV, mkR]
  refine wl_callV _ (by simp -implicitDefEqProofs only [go_sem, simprocAttr, mkI, iV, mkQ, qV, fV, ofV, rV, mkR]) (m4 _) ?_
  simp -implicitDefEqProofs only [go_sem, simprocAttr, mkI, iV, mkQ, qV, fV, ofV, rV, mkR]
  refine wl_callV _ (by simp -implicitDefEqProofs only [go_sem, simprocAttr, mkI, iV, mkQ, qV, fV, ofV, rV, mkR, s4]) (r1 _) ?_
  simp -implicitDefEqProofs only [go_sem, simprocAttr, mkI, iV, mkQ, qV, fV, ofV, rV, mkR, s4]
  simp -implicitDefEqProofs only [go_sem, simprocAttr, mkI, iV, mkQ, qV, fV, ofV, rV, mkR, res106, s4]
  first | exact .app _ _ | exact ⟨.app _ _, rfl⟩ | exact .refl _ | exact ⟨.refl _, rfl⟩
theorem mulRQ (H : Heap) {v w : Value} {a b : Rat} {k k' : Nat} (hv : QV v a k) (hw : QV w b k') (hk : k ≤ 600000) (hk' : k' ≤ 600000) : Sim Tryz.prog 105 #[v, w] H (mkQ (a * b)) H := by
  refine flat_ex rfl ?_
  obtain ⟨K, hK⟩ : ∃ K, K = 600000 := ⟨_, rfl⟩
  obtain ⟨g, n, d, rfl, rfl, h1, h2⟩ := QV.mono hv (k' := K) (by omega)
  obtain ⟨g', n', d', rfl, rfl, h3, h4⟩ := QV.mono hw (k' := K) (by omega)
  have d0 := dval_pos d
  have d0' := dval_pos d'
  have pA := fun H => partsR H (g := g) (n := n) (d := d) (by omega) (by omega)
  have pB := fun H => partsR H (g := g') (n := n') (d := d') (by omega) (by omega)
  have zP := ival_lt g h1
  have zD := dval_lt h2
  have zP' := ival_lt g' h3
  have zD' := dval_lt h4
  have law : qval g n d * qval g' n' d' = mkRat (ival g n * ival g' n') (dval d * dval d') := Rat.mkRat_mul_mkRat _ _ _ _
  rw [law]
  have sA := small_or g n d
  have sB := small_or g' n' d'
  have b1 := fun x1 => ival3 g (n := n) x1
  have b2 := fun x1 => dval3 (n := d) x1
  have b3 := fun x1 => ival3 g' (n := n') x1
  have b4 := fun x1 => dval3 (n := d') x1
  clear law
  generalize ival g n = P at *
  generalize dval d = D at *
  generalize ival g' n' = P' at *
  generalize dval d' = D' at *
  unfold qV at *
  have e1 := absmul zP zP'
  have e4 := absmul zD zD'
  have m1 := fun H => rMul H (IA.mk zP) (IA.mk zP') (by omega) (by omega)
  have m4 := fun H => rMul H (IA.mk zD) (IA.mk zD') (by omega) (by omega)
  have h0 : (D : Int) * (D' : Int) ≠ 0 := by have := Nat.mul_pos d0 d0'; rw [mulc]; omega
  have r1 := fun H => reduceR H (IA.mk e1) (IA.mk e4) (by omega) h0
  rw [divInt_pos (by have := Nat.mul_pos d0 d0'; rw [mulc]; omega), mulc, Int.natAbs_natCast] at r1
  rw [mulc] at m4
  clear e1 e4 zP zP' zD zD' 
  refine sim_ex tok mixed Tryz.func105 rfl (by kernel_rfl) (by kernel_rfl) (by simp only [Tryz.ntmps105, List.size_toArray, List.length_cons, List.length_nil]; omega) ?_
  simp -implicitDefEqProofs only [go_sem, simprocAttr, mkI, iV, mkQ, qV, fV, ofV, rV, mkR]
  apply shareK (M := fun s T => s 2 = .pointer (some ⟨H.length, 0, none⟩) ∧ s 3 = .pointer (some ⟨H.length + 1, 0, none⟩) ∧ s 4 = .pointer (some ⟨H.length + 2, 0, none⟩) ∧ T = H ++ [⟨[.bool g, .string (bs n), .string (bs d)], 1, true⟩, ⟨[.bool g', .string (bs n'), .string (bs d')], 1, true⟩, ⟨[.bool false, .string (bs []), .string (bs [])], 1, true⟩])
  · intro hrest
    rcases sA with ⟨x1, x2, oA⟩ | oA
    · rcases sB with ⟨x3, x4, oB⟩ | oB
      · have b1 := b1 x1
        have b2 := b2 x2
        have b3 := b3 x3
        have b4 := b4 x4
        have p1 := prod3 (x := P) (y := P') b1 b3
        have p3 : D * D' ≤ 16777216 * 16777216 := Nat.mul_le_mul b2 b4
        have w1 : IntKind.i64.wrap (P * P') = P * P' := w64 (by omega) (by omega)
        have w4 : IntKind.i64.wrap ((D : Int) * (D' : Int)) = ((D * D' : Nat) : Int) := by rw [mulc, w64n (by omega)]
        have oP := fun H => packR H (n := P * P') (d := D * D') (by omega) (by omega) (Nat.mul_pos d0 d0')
        refine wl_callV _ (by simp -implicitDefEqProofs only [go_sem, simprocAttr, mkI, iV, mkQ, qV, fV, ofV, rV, mkR]) (oA _) ?_
        simp -implicitDefEqProofs only [go_sem, simprocAttr, mkI, iV, mkQ, qV, fV, ofV, rV, mkR]
        refine wl_callV _ (by simp -implicitDefEqProofs only [go_sem, simprocAttr, mkI, iV, mkQ, qV, fV, ofV, rV, mkR, wa_cond, axC_t, axC_f, w1, w4]) (oB _) ?_
        simp -implicitDefEqProofs only [go_sem, simprocAttr, mkI, iV, mkQ, qV, fV, ofV, rV, mkR, wa_cond, axC_t, axC_f, w1, w4]
        refine wl_callV _ (by simp -implicitDefEqProofs only [go_sem, simprocAttr, mkI, iV, mkQ, qV, fV, ofV, rV, mkR]) (oP _) ?_
        simp -implicitDefEqProofs only [go_sem, simprocAttr, mkI, iV, mkQ, qV, fV, ofV, rV, mkR]
        simp -implicitDefEqProofs only [go_sem, simprocAttr, mkI, iV, mkQ, qV, fV, ofV, rV, mkR, res105]
        first | exact .app _ _ | exact ⟨.app _ _, rfl⟩ | exact .refl _ | exact ⟨.refl _, rfl⟩
      · refine wl_callV _ (by simp -implicitDefEqProofs only [go_sem, simprocAttr, mkI, iV, mkQ, qV, fV, ofV, rV, mkR]) (oA _) ?_
        simp -implicitDefEqProofs only [go_sem, simprocAttr, mkI, iV, mkQ, qV, fV, ofV, rV, mkR]
        refine wl_callV _ (by simp -implicitDefEqProofs only [go_sem, simprocAttr, mkI, iV, mkQ, qV, fV, ofV, rV, mkR]) (oB _) ?_
        simp -implicitDefEqProofs only [go_sem, simprocAttr, mkI, iV, mkQ, qV, fV, ofV, rV, mkR]
        refine ax_mid _ ?_ hrest
        simp -implicitDefEqProofs only [go_sem, simprocAttr, mkI, iV, mkQ, qV, fV, ofV, rV, mkR, wa_cond, axC_t, axC_f]
    · obtain ⟨y1, y2, y3, oB⟩ : ∃ y1 y2 y3, ∀ H, Sim Tryz.prog 168 #[.agg #[.bool g', .string (bs n'), .string (bs d')]] H (.tuple #[.int .i64 y1, .int .i64 y2, .bool y3]) H := by
        rcases sB with ⟨_, _, oB⟩ | oB
        · exact ⟨_, _, _, oB⟩
        · exact ⟨_, _, _, oB⟩
      refine wl_callV _ (by simp -implicitDefEqProofs only [go_sem, simprocAttr, mkI, iV, mkQ, qV, fV, ofV, rV, mkR]) (oA _) ?_
      simp -implicitDefEqProofs only [go_sem, simprocAttr, mkI, iV, mkQ, qV, fV, ofV, rV, mkR]
      refine wl_callV _ (by simp -implicitDefEqProofs only [go_sem, simprocAttr, mkI, iV, mkQ, qV, fV, ofV, rV, mkR]) (oB _) ?_
      simp -implicitDefEqProofs only [go_sem, simprocAttr, mkI, iV, mkQ, qV, fV, ofV, rV, mkR]
      refine ax_mid _ ?_ hrest
      simp -implicitDefEqProofs only [go_sem, simprocAttr, mkI, iV, mkQ, qV, fV, ofV, rV, mkR, wa_cond, axC_t, axC_f]
  rintro s T ⟨s2, s3, s4, rfl⟩
  simp -implicitDefEqProofs only [go_sem, simprocAttr, mkI, iV, mkQ, qV, fV, ofV, rV, mkR, s2, s3]
  refine wl_callV _ (by simp -implicitDefEqProofs only [go_sem, simprocAttr, mkI, iV, mkQ, qV, fV, ofV, rV, mkR, s2, s3]) (pA _) ?_
  simp -implicitDefEqProofs only [go_sem, simprocAttr, mkI, iV, mkQ, qV, fV, ofV, rV, mkR, s2, s3]
  refine wl_callV _ (by simp -implicitDefEqProofs only [go_sem, simprocAttr, mkI, iV, mkQ, qV, fV, ofV, rV, mkR, s2, s3]) (pB _) ?_
  simp -implicitDefEqProofs only [go_sem, simprocAttr, mkI, iV, mkQ, qV, fV, ofV, rV, mkR, s2, s3]
  refine ax_quiet (by kernel_rfl) ?_
  simp -implicitDefEqProofs only [go_sem, simprocAttr, mkI, iV, mkQ, qV, fV, ofV, rV, mkR]
  refine wl_callV _ (by simp -implicitDefEqProofs only [go_sem, simprocAttr, mkI, iV, mkQ, qV, fV, ofV, rV, mkR]) (m1 _) ?_
  simp -implicitDefEqProofs only [go_sem, simprocAttr, mkI, iV, mkQ, qV, fV, ofV, rV, mkR]
  refine wl_callV _ (by simp -implicitDefEqProofs only [go_sem, simprocAttr, mkI, iV, mkQ, qV, fV, ofV, rV, mkR]) (m4 _) ?_
  simp -implicitDefEqProofs only [go_sem, simprocAttr, mkI, iV, mkQ, qV, fV, ofV, rV, mkR]
  refine wl_callV _ (by simp -implicitDefEqProofs only [go_sem, simprocAttr, mkI, iV, mkQ, qV, fV, ofV, rV, mkR, s4]) (r1 _) ?_
  simp -implicitDefEqProofs only [go_sem, simprocAttr, mkI, iV, mkQ, qV, fV, ofV, rV, mkR, s4]
  simp -implicitDefEqProofs only [go_sem, simprocAttr, mkI, iV, mkQ, qV, fV, ofV, rV, mkR, res105, s4]
  first | exact .app _ _ | exact ⟨.app _ _, rfl⟩ | exact .refl _ | exact ⟨.refl _, rfl⟩
theorem cmpRQ (H : Heap) {v w : Value} {a b : Rat} {k k' : Nat} (hv : QV v a k) (hw : QV w b k') (hk : k ≤ 600000) (hk' : k' ≤ 600000) : Sim Tryz.prog 111 #[v, w] H (.int .i64 (cmpQ a b)) H := by
  refine flat_ex rfl ?_
  obtain ⟨K, hK⟩ : ∃ K, K = 600000 := ⟨_, rfl⟩
  obtain ⟨g, n, d, rfl, rfl, h1, h2⟩ := QV.mono hv (k' := K) (by omega)
  obtain ⟨g', n', d', rfl, rfl, h3, h4⟩ := QV.mono hw (k' := K) (by omega)
  have d0 := dval_pos d
  have d0' := dval_pos d'
  have pA := fun H => partsR H (g := g) (n := n) (d := d) (by omega) (by omega)
  have pB := fun H => partsR H (g := g') (n := n') (d := d') (by omega) (by omega)
  have zP := ival_lt g h1
  have zD := dval_lt h2
  have zP' := ival_lt g' h3
  have zD' := dval_lt h4
  have law : cmpQ (qval g n d) (qval g' n' d') = sgn (ival g n * (dval d' : Nat) - ival g' n' * (dval d : Nat)) := cmpQ_eq d0 d0'
  rw [law]
  have sA := small_or g n d
  have sB := small_or g' n' d'
  have b1 := fun x1 => ival3 g (n := n) x1
  have b2 := fun x1 => dval3 (n := d) x1
  have b3 := fun x1 => ival3 g' (n := n') x1
  have b4 := fun x1 => dval3 (n := d') x1
  clear law
  generalize ival g n = P at *
  generalize dval d = D at *
  generalize ival g' n' = P' at *
  generalize dval d' = D' at *
  unfold qV at *
  have e1 := absmul zP zD'
  have e2 := absmul zP' zD
  have m1 := fun H => rMul H (IA.mk zP) (IA.mk zD') (by omega) (by omega)
  have m2 := fun H => rMul H (IA.mk zP') (IA.mk zD) (by omega) (by omega)
  have m3 := fun H => rCmp H (IA.mk e1) (IA.mk e2)
  clear e1 e2 zP zP' zD zD' 
  refine sim_ex tok mixed Tryz.func111 rfl (by kernel_rfl) (by kernel_rfl) (by simp only [Tryz.ntmps111, List.size_toArray, List.length_cons, List.length_nil]; omega) ?_
  simp -implicitDefEqProofs only [go_sem, simprocAttr, mkI, iV, mkQ, qV, fV, ofV, rV, mkR]
  apply shareK (M := fun s T => s 2 = .pointer (some ⟨H.length, 0, none⟩) ∧ s 3 = .pointer (some ⟨H.length + 1, 0, none⟩) ∧ T = H ++ [⟨[.bool g, .string (bs n), .string (bs d)], 1, true⟩, ⟨[.bool g', .string (bs n'), .string (bs d')], 1, true⟩])
  · intro hrest
    rcases sA with ⟨x1, x2, oA⟩ | oA
    · rcases sB with ⟨x3, x4, oB⟩ | oB
      · have b1 := b1 x1
        have b2 := b2 x2
        have b3 := b3 x3
        have b4 := b4 x4
        have p1 := prod3 (x := P) (y := (D' : Int)) b1 (by omega)
        have p2 := prod3 (x := P') (y := (D : Int)) b3 (by omega)
        clear m1 m2 m3 hrest
        obtain ⟨x, hx⟩ : ∃ x : Int, P * (D' : Int) = x := ⟨_, rfl⟩
        obtain ⟨y, hy⟩ : ∃ x : Int, P' * (D : Int) = x := ⟨_, rfl⟩
        rw [hx, hy]
        have w1 : IntKind.i64.wrap (P * (D' : Int)) = x := by rw [hx] at p1 ⊢; exact w64 (by omega) (by omega)
        have w2 : IntKind.i64.wrap (P' * (D : Int)) = y := by rw [hy] at p2 ⊢; exact w64 (by omega) (by omega)
        by_cases h1 : x < y
        · rw [sgn_neg (by omega)]
          refine wl_callV _ (by simp -implicitDefEqProofs only [go_sem, simprocAttr, mkI, iV, mkQ, qV, fV, ofV, rV, mkR]) (oA _) ?_
          simp -implicitDefEqProofs only [go_sem, simprocAttr, mkI, iV, mkQ, qV, fV, ofV, rV, mkR]
          refine wl_callV _ (by simp -implicitDefEqProofs only [go_sem, simprocAttr, mkI, iV, mkQ, qV, fV, ofV, rV, mkR, wa_cond, axC_t, axC_f, w1, w2, h1]) (oB _) ?_
          simp -implicitDefEqProofs only [go_sem, simprocAttr, mkI, iV, mkQ, qV, fV, ofV, rV, mkR, wa_cond, axC_t, axC_f, w1, w2, h1]
          simp -implicitDefEqProofs only [go_sem, simprocAttr, mkI, iV, mkQ, qV, fV, ofV, rV, mkR, res111]
          first | exact .app _ _ | exact ⟨.app _ _, rfl⟩ | exact .refl _ | exact ⟨.refl _, rfl⟩
        · by_cases h2 : y < x
          · rw [sgn_pos (by omega)]
            refine wl_callV _ (by simp -implicitDefEqProofs only [go_sem, simprocAttr, mkI, iV, mkQ, qV, fV, ofV, rV, mkR]) (oA _) ?_
            simp -implicitDefEqProofs only [go_sem, simprocAttr, mkI, iV, mkQ, qV, fV, ofV, rV, mkR]
            refine wl_callV _ (by simp -implicitDefEqProofs only [go_sem, simprocAttr, mkI, iV, mkQ, qV, fV, ofV, rV, mkR, wa_cond, axC_t, axC_f, w1, w2, h1, h2]) (oB _) ?_
            simp -implicitDefEqProofs only [go_sem, simprocAttr, mkI, iV, mkQ, qV, fV, ofV, rV, mkR, wa_cond, axC_t, axC_f, w1, w2, h1, h2]
            simp -implicitDefEqProofs only [go_sem, simprocAttr, mkI, iV, mkQ, qV, fV, ofV, rV, mkR, res111]
            first | exact .app _ _ | exact ⟨.app _ _, rfl⟩ | exact .refl _ | exact ⟨.refl _, rfl⟩
          · rw [sgn_zero.2 (by omega)]
            refine wl_callV _ (by simp -implicitDefEqProofs only [go_sem, simprocAttr, mkI, iV, mkQ, qV, fV, ofV, rV, mkR]) (oA _) ?_
            simp -implicitDefEqProofs only [go_sem, simprocAttr, mkI, iV, mkQ, qV, fV, ofV, rV, mkR]
            refine wl_callV _ (by simp -implicitDefEqProofs only [go_sem, simprocAttr, mkI, iV, mkQ, qV, fV, ofV, rV, mkR, wa_cond, axC_t, axC_f, w1, w2, h1, h2]) (oB _) ?_
            simp -implicitDefEqProofs only [go_sem, simprocAttr, mkI, iV, mkQ, qV, fV, ofV, rV, mkR, wa_cond, axC_t, axC_f, w1, w2, h1, h2]
            simp -implicitDefEqProofs only [go_sem, simprocAttr, mkI, iV, mkQ, qV, fV, ofV, rV, mkR, res111]
            first | exact .app _ _ | exact ⟨.app _ _, rfl⟩ | exact .refl _ | exact ⟨.refl _, rfl⟩
      · refine wl_callV _ (by simp -implicitDefEqProofs only [go_sem, simprocAttr, mkI, iV, mkQ, qV, fV, ofV, rV, mkR]) (oA _) ?_
        simp -implicitDefEqProofs only [go_sem, simprocAttr, mkI, iV, mkQ, qV, fV, ofV, rV, mkR]
        refine wl_callV _ (by simp -implicitDefEqProofs only [go_sem, simprocAttr, mkI, iV, mkQ, qV, fV, ofV, rV, mkR]) (oB _) ?_
        simp -implicitDefEqProofs only [go_sem, simprocAttr, mkI, iV, mkQ, qV, fV, ofV, rV, mkR]
        refine ax_mid _ ?_ hrest
        simp -implicitDefEqProofs only [go_sem, simprocAttr, mkI, iV, mkQ, qV, fV, ofV, rV, mkR, wa_cond, axC_t, axC_f]
    · obtain ⟨y1, y2, y3, oB⟩ : ∃ y1 y2 y3, ∀ H, Sim Tryz.prog 168 #[.agg #[.bool g', .string (bs n'), .string (bs d')]] H (.tuple #[.int .i64 y1, .int .i64 y2, .bool y3]) H := by
        rcases sB with ⟨_, _, oB⟩ | oB
        · exact ⟨_, _, _, oB⟩
        · exact ⟨_, _, _, oB⟩
      refine wl_callV _ (by simp -implicitDefEqProofs only [go_sem, simprocAttr, mkI, iV, mkQ, qV, fV, ofV, rV, mkR]) (oA _) ?_
      simp -implicitDefEqProofs only [go_sem, simprocAttr, mkI, iV, mkQ, qV, fV, ofV, rV, mkR]
      refine wl_callV _ (by simp -implicitDefEqProofs only [go_sem, simprocAttr, mkI, iV, mkQ, qV, fV, ofV, rV, mkR]) (oB _) ?_
      simp -implicitDefEqProofs only [go_sem, simprocAttr, mkI, iV, mkQ, qV, fV, ofV, rV, mkR]
      refine ax_mid _ ?_ hrest
      simp -implicitDefEqProofs only [go_sem, simprocAttr, mkI, iV, mkQ, qV, fV, ofV, rV, mkR, wa_cond, axC_t, axC_f]
  rintro s T ⟨s2, s3, rfl⟩
  simp -implicitDefEqProofs only [go_sem, simprocAttr, mkI, iV, mkQ, qV, fV, ofV, rV, mkR, s2, s3]
  refine wl_callV _ (by simp -implicitDefEqProofs only [go_sem, simprocAttr, mkI, iV, mkQ, qV, fV, ofV, rV, mkR, s2, s3]) (pA _) ?_
  simp -implicitDefEqProofs only [go_sem, simprocAttr, mkI, iV, mkQ, qV, fV, ofV, rV, mkR, s2, s3]
  refine wl_callV _ (by simp -implicitDefEqProofs only [go_sem, simprocAttr, mkI, iV, mkQ, qV, fV, ofV, rV, mkR, s2, s3]) (pB _) ?_
  simp -implicitDefEqProofs only [go_sem, simprocAttr, mkI, iV, mkQ, qV, fV, ofV, rV, mkR, s2, s3]
  refine ax_quiet (by kernel_rfl) ?_
  simp -implicitDefEqProofs only [go_sem, simprocAttr, mkI, iV, mkQ, qV, fV, ofV, rV, mkR]
  refine wl_callV _ (by simp -implicitDefEqProofs only [go_sem, simprocAttr, mkI, iV, mkQ, qV, fV, ofV, rV, mkR]) (m1 _) ?_
  simp -implicitDefEqProofs only [go_sem, simprocAttr, mkI, iV, mkQ, qV, fV, ofV, rV, mkR]
  refine wl_callV _ (by simp -implicitDefEqProofs only [go_sem, simprocAttr, mkI, iV, mkQ, qV, fV, ofV, rV, mkR]) (m2 _) ?_
  simp -implicitDefEqProofs only [go_sem, simprocAttr, mkI, iV, mkQ, qV, fV, ofV, rV, mkR]
  refine wl_callV _ (by simp -implicitDefEqProofs only [go_sem, simprocAttr, mkI, iV, mkQ, qV, fV, ofV, rV, mkR]) (m3 _) ?_
  simp -implicitDefEqProofs only [go_sem, simprocAttr, mkI, iV, mkQ, qV, fV, ofV, rV, mkR]
  simp -implicitDefEqProofs only [go_sem, simprocAttr, mkI, iV, mkQ, qV, fV, ofV, rV, mkR, res111]
  first | exact .app _ _ | exact ⟨.app _ _, rfl⟩ | exact .refl _ | exact ⟨.refl _, rfl⟩
end Go.Proofs.YthhmkaikopdmjaaGreat
namespace Go.Proofs.YthhmkaikopdmjaaGreat
open Go Go.Fw
theorem signRQ (H : Heap) {v : Value} {q : Rat} {k : Nat} (hv : QV v q k) (hk : k ≤ 600000) : Sim Tryz.prog 189 #[v] H (.int .i64 (cmpQ q 0)) H := by
  refine flat_ex rfl ?_
  have o1 := fun H => cmpRQ H hv (QV.raw false [] [] (k := 8) (by decide) (by decide)) hk (by decide)
  have e0 : qval false [] [] = 0 := by unfold qval; rw [show ival false [] = 0 from rfl, Rat.zero_mkRat]
  rw [e0] at o1
  obtain ⟨g, n, d, rfl, rfl, h1, h2⟩ := hv
  generalize cmpQ (qval g n d) 0 = c at *
  unfold qV at *
  refine sim_ex tok mixed Tryz.func189 rfl (by kernel_rfl) (by kernel_rfl) (by simp only [Tryz.ntmps189, List.size_toArray, List.length_cons, List.length_nil]; omega) ?_
  simp -implicitDefEqProofs only [go_sem, simprocAttr, mkI, iV, mkQ, qV, fV, ofV, rV, mkR]
  refine wl_callV _ (by simp -implicitDefEqProofs only [go_sem, simprocAttr, mkI, iV, mkQ, qV, fV, ofV, rV, mkR]) (o1 _) ?_
  simp -implicitDefEqProofs only [go_sem, simprocAttr, mkI, iV, mkQ, qV, fV, ofV, rV, mkR]
  simp -implicitDefEqProofs only [go_sem, simprocAttr, mkI, iV, mkQ, qV, fV, ofV, rV, mkR, res189]
  first | exact .app _ _ | exact ⟨.app _ _, rfl⟩ | exact .refl _ | exact ⟨.refl _, rfl⟩
theorem subRQ (H : Heap) {v w : Value} {a b : Rat} {k k' : Nat} (hv : QV v a k) (hw : QV w b k') (hk : k ≤ 600000) (hk' : k' ≤ 600000) : Sim Tryz.prog 108 #[v, w] H (mkQ (a - b)) H := by
  refine flat_ex rfl ?_
  obtain ⟨g', n', d', rfl, rfl, h3, h4⟩ := hw
  have o1 := fun H => addRQ H hv (QV.raw (!g') n' d' h3 h4) hk hk'
  rw [qval_not, ← Rat.sub_eq_add_neg] at o1
  obtain ⟨g, n, d, rfl, rfl, h1, h2⟩ := hv
  generalize qval g n d - qval g' n' d' = q at *
  unfold qV at o1 ⊢
  refine sim_ex tok mixed Tryz.func108 rfl (by kernel_rfl) (by kernel_rfl) (by simp only [Tryz.ntmps108, List.size_toArray, List.length_cons, List.length_nil]; omega) ?_
  simp -implicitDefEqProofs only [go_sem, simprocAttr, mkI, iV, mkQ, qV, fV, ofV, rV, mkR]
  refine wl_callV _ (by simp -implicitDefEqProofs only [go_sem, simprocAttr, mkI, iV, mkQ, qV, fV, ofV, rV, mkR]) (o1 _) ?_
  simp -implicitDefEqProofs only [go_sem, simprocAttr, mkI, iV, mkQ, qV, fV, ofV, rV, mkR]
  simp -implicitDefEqProofs only [go_sem, simprocAttr, mkI, iV, mkQ, qV, fV, ofV, rV, mkR, res108]
  first | exact .app _ _ | exact ⟨.app _ _, rfl⟩ | exact .refl _ | exact ⟨.refl _, rfl⟩
end Go.Proofs.YthhmkaikopdmjaaGreat
namespace Go.Proofs.YthhmkaikopdmjaaGreat
open Go Go.Fw
end Go.Proofs.YthhmkaikopdmjaaGreat
namespace Go.Proofs.YthhmkaikopdmjaaGreat
open Go Go.Fw
theorem back4 (H : Heap) {r : RR} {k : Nat} (hr : r.le k) (hk : k ≤ 100000) : Sim Tryz.prog 122 #[r.val] H (.agg #[.bool r.g, .string (bs r.n), .string (bs r.d), .bool (decide ((-r.rot.s).num < 0)), .string (bs (digB (-r.rot.s).num.natAbs)), .string (bs (denB (-r.rot.s).den))]) H := by
  refine flat_ex rfl ?_
  have o1 := fun H => negRQ H hr.s (by omega)
  generalize -r.rot.s = z at *
  unfold qV at o1
  unfold RR.val rV
  refine sim_ex tok mixed Tryz.func122 rfl (by kernel_rfl) (by kernel_rfl) (by simp only [Tryz.ntmps122, List.size_toArray, List.length_cons, List.length_nil]; omega) ?_
  simp -implicitDefEqProofs only [go_sem, simprocAttr, mkI, iV, mkQ, qV, fV, ofV, rV, mkR]
  refine ax_quiet (by kernel_rfl) ?_
  simp -implicitDefEqProofs only [go_sem, simprocAttr, mkI, iV, mkQ, qV, fV, ofV, rV, mkR]
  refine wl_callV _ (by simp -implicitDefEqProofs only [go_sem, simprocAttr, mkI, iV, mkQ, qV, fV, ofV, rV, mkR]) (o1 _) ?_
  simp -implicitDefEqProofs only [go_sem, simprocAttr, mkI, iV, mkQ, qV, fV, ofV, rV, mkR]
  simp -implicitDefEqProofs only [go_sem, simprocAttr, mkI, iV, mkQ, qV, fV, ofV, rV, mkR, res122]
  first | exact .app _ _ | exact ⟨.app _ _, rfl⟩ | exact .refl _ | exact ⟨.refl _, rfl⟩
theorem then4 (H : Heap) {a b : RR} {k : Nat} (ha : a.le k) (hb : b.le k) (hk : k ≤ 20000) : Sim Tryz.prog 104 #[a.val, b.val] H (RR.of (a.rot.thn b.rot)).val H := by
  refine flat_ex rfl ?_
  have o1 := fun H => mulRQ H ha.c hb.c (by omega) (by omega)
  have o2 := fun H => mulRQ H ha.s hb.s (by omega) (by omega)
  have o3 := fun H => mulRQ H ha.s hb.c (by omega) (by omega)
  have o4 := fun H => mulRQ H ha.c hb.s (by omega) (by omega)
  have q1 := (ha.c.sz.mul hb.c.sz).qv
  have q2 := (ha.s.sz.mul hb.s.sz).qv
  have q3 := (ha.s.sz.mul hb.c.sz).qv
  have q4 := (ha.c.sz.mul hb.s.sz).qv
  have s1 := fun H => subRQ H q1 q2 (by omega) (by omega)
  have s2 := fun H => addRQ H q3 q4 (by omega) (by omega)
  have e1 : a.rot.c * b.rot.c - a.rot.s * b.rot.s = (a.rot.thn b.rot).c := rfl
  have e2 : a.rot.s * b.rot.c + a.rot.c * b.rot.s = (a.rot.thn b.rot).s := rfl
  rw [e1] at s1
  rw [e2] at s2
  rw [RR.of_val]
  generalize (a.rot.thn b.rot).c = x at *
  generalize (a.rot.thn b.rot).s = y at *
  clear q1 q2 q3 q4 e1 e2
  generalize a.rot.c * b.rot.c = p1 at *
  generalize a.rot.s * b.rot.s = p2 at *
  generalize a.rot.s * b.rot.c = p3 at *
  generalize a.rot.c * b.rot.s = p4 at *
  unfold qV at o1 o2 o3 o4
  unfold RR.val rV
  refine sim_ex tok mixed Tryz.func104 rfl (by kernel_rfl) (by kernel_rfl) (by simp only [Tryz.ntmps104, List.size_toArray, List.length_cons, List.length_nil]; omega) ?_
  simp -implicitDefEqProofs only [go_sem, simprocAttr, mkI, iV, mkQ, qV, fV, ofV, rV, mkR]
  refine ax_quiet (by kernel_rfl) ?_
  simp -implicitDefEqProofs only [go_sem, simprocAttr, mkI, iV, mkQ, qV, fV, ofV, rV, mkR]
  refine wl_callV _ (by simp -implicitDefEqProofs only [go_sem, simprocAttr, mkI, iV, mkQ, qV, fV, ofV, rV, mkR]) (o1 _) ?_
  simp -implicitDefEqProofs only [go_sem, simprocAttr, mkI, iV, mkQ, qV, fV, ofV, rV, mkR]
  refine wl_callV _ (by simp -implicitDefEqProofs only [go_sem, simprocAttr, mkI, iV, mkQ, qV, fV, ofV, rV, mkR]) (o2 _) ?_
  simp -implicitDefEqProofs only [go_sem, simprocAttr, mkI, iV, mkQ, qV, fV, ofV, rV, mkR]
  refine wl_callV _ (by simp -implicitDefEqProofs only [go_sem, simprocAttr, mkI, iV, mkQ, qV, fV, ofV, rV, mkR]) (s1 _) ?_
  simp -implicitDefEqProofs only [go_sem, simprocAttr, mkI, iV, mkQ, qV, fV, ofV, rV, mkR]
  refine wl_callV _ (by simp -implicitDefEqProofs only [go_sem, simprocAttr, mkI, iV, mkQ, qV, fV, ofV, rV, mkR]) (o3 _) ?_
  simp -implicitDefEqProofs only [go_sem, simprocAttr, mkI, iV, mkQ, qV, fV, ofV, rV, mkR]
  refine wl_callV _ (by simp -implicitDefEqProofs only [go_sem, simprocAttr, mkI, iV, mkQ, qV, fV, ofV, rV, mkR]) (o4 _) ?_
  simp -implicitDefEqProofs only [go_sem, simprocAttr, mkI, iV, mkQ, qV, fV, ofV, rV, mkR]
  refine wl_callV _ (by simp -implicitDefEqProofs only [go_sem, simprocAttr, mkI, iV, mkQ, qV, fV, ofV, rV, mkR]) (s2 _) ?_
  simp -implicitDefEqProofs only [go_sem, simprocAttr, mkI, iV, mkQ, qV, fV, ofV, rV, mkR]
  simp -implicitDefEqProofs only [go_sem, simprocAttr, mkI, iV, mkQ, qV, fV, ofV, rV, mkR, res104]
  first | exact .app _ _ | exact ⟨.app _ _, rfl⟩ | exact .refl _ | exact ⟨.refl _, rfl⟩
theorem upper4 (H : Heap) {r : RR} {k : Nat} (hr : r.le k) (hk : k ≤ 600000) (hok : r.rot.ok) : Sim Tryz.prog 123 #[r.val] H (.bool (decide (r.rot.half = 0))) H := by
  refine flat_ex rfl ?_
  have o1 := fun H => signRQ H hr.c hk
  have o2 := fun H => signRQ H hr.s hk
  unfold qV at o1 o2
  unfold RR.val rV
  have hc := cmpQ_cases r.rot.c 0
  have hs := cmpQ_cases r.rot.s 0
  have hh : (r.rot.half = 0) ↔ (0 < r.rot.s ∨ (r.rot.s = 0 ∧ 0 < r.rot.c)) := by
    unfold Rot.ok at hok
    unfold Rot.half
    by_cases h1 : 0 < r.rot.s
    · simp [h1]
    · by_cases h2 : r.rot.s < 0
      · rw [if_neg h1, if_pos h2]
        constructor
        · intro h; exact absurd h (by decide)
        · rintro (h | ⟨h, _⟩) <;> grind
      · have h3 : r.rot.s = 0 := by grind
        by_cases h4 : r.rot.c < 0
        · rw [if_neg h1, if_neg h2, if_pos h4]
          constructor
          · intro h; exact absurd h (by decide)
          · rintro (h | ⟨_, h⟩) <;> grind
        · rw [if_neg h1, if_neg h2, if_neg h4]
          simp only [true_iff]
          right
          refine ⟨h3, ?_⟩
          have : r.rot.c ≠ 0 := fun h5 => by rw [h3, h5] at hok; exact absurd hok (by decide +kernel)
          grind
  clear hok
  generalize cmpQ r.rot.c 0 = x at *
  generalize cmpQ r.rot.s 0 = y at *
  rcases hs with ⟨rfl, hs⟩ | ⟨rfl, hs⟩ | ⟨rfl, hs⟩
  · rw [decide_eq_false (fun h => by rcases hh.1 h with h | ⟨h, _⟩ <;> grind)]
    refine sim_ex tok mixed Tryz.func123 rfl (by kernel_rfl) (by kernel_rfl) (by simp only [Tryz.ntmps123, List.size_toArray, List.length_cons, List.length_nil]; omega) ?_
    simp -implicitDefEqProofs only [go_sem, simprocAttr, mkI, iV, mkQ, qV, fV, ofV, rV, mkR]
    refine wl_callV _ (by simp -implicitDefEqProofs only [go_sem, simprocAttr, mkI, iV, mkQ, qV, fV, ofV, rV, mkR]) (o2 _) ?_
    simp -implicitDefEqProofs only [go_sem, simprocAttr, mkI, iV, mkQ, qV, fV, ofV, rV, mkR]
    simp -implicitDefEqProofs only [go_sem, simprocAttr, mkI, iV, mkQ, qV, fV, ofV, rV, mkR, res123]
    first | exact .app _ _ | exact ⟨.app _ _, rfl⟩ | exact .refl _ | exact ⟨.refl _, rfl⟩
  · rcases hc with ⟨rfl, hc⟩ | ⟨rfl, hc⟩ | ⟨rfl, hc⟩
    · rw [decide_eq_false (fun h => by rcases hh.1 h with h | ⟨_, h⟩ <;> grind)]
      refine sim_ex tok mixed Tryz.func123 rfl (by kernel_rfl) (by kernel_rfl) (by simp only [Tryz.ntmps123, List.size_toArray, List.length_cons, List.length_nil]; omega) ?_
      simp -implicitDefEqProofs only [go_sem, simprocAttr, mkI, iV, mkQ, qV, fV, ofV, rV, mkR]
      refine wl_callV _ (by simp -implicitDefEqProofs only [go_sem, simprocAttr, mkI, iV, mkQ, qV, fV, ofV, rV, mkR]) (o2 _) ?_
      simp -implicitDefEqProofs only [go_sem, simprocAttr, mkI, iV, mkQ, qV, fV, ofV, rV, mkR]
      refine wl_callV _ (by simp -implicitDefEqProofs only [go_sem, simprocAttr, mkI, iV, mkQ, qV, fV, ofV, rV, mkR]) (o1 _) ?_
      simp -implicitDefEqProofs only [go_sem, simprocAttr, mkI, iV, mkQ, qV, fV, ofV, rV, mkR]
      simp -implicitDefEqProofs only [go_sem, simprocAttr, mkI, iV, mkQ, qV, fV, ofV, rV, mkR, res123]
      first | exact .app _ _ | exact ⟨.app _ _, rfl⟩ | exact .refl _ | exact ⟨.refl _, rfl⟩
    · rw [decide_eq_false (fun h => by rcases hh.1 h with h | ⟨_, h⟩ <;> grind)]
      refine sim_ex tok mixed Tryz.func123 rfl (by kernel_rfl) (by kernel_rfl) (by simp only [Tryz.ntmps123, List.size_toArray, List.length_cons, List.length_nil]; omega) ?_
      simp -implicitDefEqProofs only [go_sem, simprocAttr, mkI, iV, mkQ, qV, fV, ofV, rV, mkR]
      refine wl_callV _ (by simp -implicitDefEqProofs only [go_sem, simprocAttr, mkI, iV, mkQ, qV, fV, ofV, rV, mkR]) (o2 _) ?_
      simp -implicitDefEqProofs only [go_sem, simprocAttr, mkI, iV, mkQ, qV, fV, ofV, rV, mkR]
      refine wl_callV _ (by simp -implicitDefEqProofs only [go_sem, simprocAttr, mkI, iV, mkQ, qV, fV, ofV, rV, mkR]) (o1 _) ?_
      simp -implicitDefEqProofs only [go_sem, simprocAttr, mkI, iV, mkQ, qV, fV, ofV, rV, mkR]
      simp -implicitDefEqProofs only [go_sem, simprocAttr, mkI, iV, mkQ, qV, fV, ofV, rV, mkR, res123]
      first | exact .app _ _ | exact ⟨.app _ _, rfl⟩ | exact .refl _ | exact ⟨.refl _, rfl⟩
    · rw [decide_eq_true (hh.2 (.inr ⟨hs, hc⟩))]
      refine sim_ex tok mixed Tryz.func123 rfl (by kernel_rfl) (by kernel_rfl) (by simp only [Tryz.ntmps123, List.size_toArray, List.length_cons, List.length_nil]; omega) ?_
      simp -implicitDefEqProofs only [go_sem, simprocAttr, mkI, iV, mkQ, qV, fV, ofV, rV, mkR]
      refine wl_callV _ (by simp -implicitDefEqProofs only [go_sem, simprocAttr, mkI, iV, mkQ, qV, fV, ofV, rV, mkR]) (o2 _) ?_
      simp -implicitDefEqProofs only [go_sem, simprocAttr, mkI, iV, mkQ, qV, fV, ofV, rV, mkR]
      refine wl_callV _ (by simp -implicitDefEqProofs only [go_sem, simprocAttr, mkI, iV, mkQ, qV, fV, ofV, rV, mkR]) (o1 _) ?_
      simp -implicitDefEqProofs only [go_sem, simprocAttr, mkI, iV, mkQ, qV, fV, ofV, rV, mkR]
      simp -implicitDefEqProofs only [go_sem, simprocAttr, mkI, iV, mkQ, qV, fV, ofV, rV, mkR, res123]
      first | exact .app _ _ | exact ⟨.app _ _, rfl⟩ | exact .refl _ | exact ⟨.refl _, rfl⟩
  · rw [decide_eq_true (hh.2 (.inl hs))]
    refine sim_ex tok mixed Tryz.func123 rfl (by kernel_rfl) (by kernel_rfl) (by simp only [Tryz.ntmps123, List.size_toArray, List.length_cons, List.length_nil]; omega) ?_
    simp -implicitDefEqProofs only [go_sem, simprocAttr, mkI, iV, mkQ, qV, fV, ofV, rV, mkR]
    refine wl_callV _ (by simp -implicitDefEqProofs only [go_sem, simprocAttr, mkI, iV, mkQ, qV, fV, ofV, rV, mkR]) (o2 _) ?_
    simp -implicitDefEqProofs only [go_sem, simprocAttr, mkI, iV, mkQ, qV, fV, ofV, rV, mkR]
    simp -implicitDefEqProofs only [go_sem, simprocAttr, mkI, iV, mkQ, qV, fV, ofV, rV, mkR, res123]
    first | exact .app _ _ | exact ⟨.app _ _, rfl⟩ | exact .refl _ | exact ⟨.refl _, rfl⟩
theorem compare4 (H : Heap) {a b : RR} {k : Nat} (ha : a.le k) (hb : b.le k) (hk : k ≤ 19000) (oka : a.rot.ok) (okb : b.rot.ok) : Sim Tryz.prog 174 #[a.val, b.val] H (.int .i64 (a.rot.cmp b.rot)) H := by
  refine flat_ex rfl ?_
  have o1 := fun H => upper4 H ha (by omega) oka
  have o2 := fun H => upper4 H hb (by omega) okb
  have o3 := fun H => back4 H hb (by omega)
  have o4 := fun H => then4 H hb.bk (ha.mono (show k ≤ k + 8 by omega)) (by omega)
  have o5 := fun H => signRQ H ((hb.bk.sz.thn ha.sz).s.qv) (by omega)
  rw [RR.bk_rot] at o4 o5
  have h1 := a.rot.half_le
  have h2 := b.rot.half_le
  unfold Rot.cmp
  generalize a.rot.half = x at *
  generalize b.rot.half = y at *
  rw [RR.of_val] at o4
  by_cases h0 : x - y ≠ 0
  · rw [if_pos h0]
    clear o3 o4 o5
    unfold RR.val rV at o1 o2 ⊢
    rcases h1 with rfl | rfl
    · have hy : y = 1 := by omega
      subst hy
      simp only [decide_true, show decide ((1 : Int) = 0) = false from rfl] at o1 o2
      refine sim_ex tok mixed Tryz.func174 rfl (by kernel_rfl) (by kernel_rfl) (by simp only [Tryz.ntmps174, List.size_toArray, List.length_cons, List.length_nil]; omega) ?_
      simp -implicitDefEqProofs only [go_sem, simprocAttr, mkI, iV, mkQ, qV, fV, ofV, rV, mkR]
      refine ax_quiet (by kernel_rfl) ?_
      simp -implicitDefEqProofs only [go_sem, simprocAttr, mkI, iV, mkQ, qV, fV, ofV, rV, mkR]
      refine wl_callV _ (by simp -implicitDefEqProofs only [go_sem, simprocAttr, mkI, iV, mkQ, qV, fV, ofV, rV, mkR]) (o1 _) ?_
      simp -implicitDefEqProofs only [go_sem, simprocAttr, mkI, iV, mkQ, qV, fV, ofV, rV, mkR]
      refine wl_callV _ (by simp -implicitDefEqProofs only [go_sem, simprocAttr, mkI, iV, mkQ, qV, fV, ofV, rV, mkR, bne4, show (true == false) = false from rfl, wa_cond, axC_t, axC_f]) (o2 _) ?_
      simp -implicitDefEqProofs only [go_sem, simprocAttr, mkI, iV, mkQ, qV, fV, ofV, rV, mkR, bne4, show (true == false) = false from rfl, wa_cond, axC_t, axC_f]
      refine wl_callV _ (by simp -implicitDefEqProofs only [go_sem, simprocAttr, mkI, iV, mkQ, qV, fV, ofV, rV, mkR, wa_cond, axC_t, axC_f]) (o1 _) ?_
      simp -implicitDefEqProofs only [go_sem, simprocAttr, mkI, iV, mkQ, qV, fV, ofV, rV, mkR, wa_cond, axC_t, axC_f]
      simp -implicitDefEqProofs only [go_sem, simprocAttr, mkI, iV, mkQ, qV, fV, ofV, rV, mkR, res174]
      first | exact .app _ _ | exact ⟨.app _ _, rfl⟩ | exact .refl _ | exact ⟨.refl _, rfl⟩
    · have hy : y = 0 := by omega
      subst hy
      simp only [decide_true, show decide ((1 : Int) = 0) = false from rfl] at o1 o2
      refine sim_ex tok mixed Tryz.func174 rfl (by kernel_rfl) (by kernel_rfl) (by simp only [Tryz.ntmps174, List.size_toArray, List.length_cons, List.length_nil]; omega) ?_
      simp -implicitDefEqProofs only [go_sem, simprocAttr, mkI, iV, mkQ, qV, fV, ofV, rV, mkR]
      refine ax_quiet (by kernel_rfl) ?_
      simp -implicitDefEqProofs only [go_sem, simprocAttr, mkI, iV, mkQ, qV, fV, ofV, rV, mkR]
      refine wl_callV _ (by simp -implicitDefEqProofs only [go_sem, simprocAttr, mkI, iV, mkQ, qV, fV, ofV, rV, mkR]) (o1 _) ?_
      simp -implicitDefEqProofs only [go_sem, simprocAttr, mkI, iV, mkQ, qV, fV, ofV, rV, mkR]
      refine wl_callV _ (by simp -implicitDefEqProofs only [go_sem, simprocAttr, mkI, iV, mkQ, qV, fV, ofV, rV, mkR, bne4, show (false == true) = false from rfl, wa_cond, axC_t, axC_f]) (o2 _) ?_
      simp -implicitDefEqProofs only [go_sem, simprocAttr, mkI, iV, mkQ, qV, fV, ofV, rV, mkR, bne4, show (false == true) = false from rfl, wa_cond, axC_t, axC_f]
      refine wl_callV _ (by simp -implicitDefEqProofs only [go_sem, simprocAttr, mkI, iV, mkQ, qV, fV, ofV, rV, mkR, wa_cond, axC_t, axC_f]) (o1 _) ?_
      simp -implicitDefEqProofs only [go_sem, simprocAttr, mkI, iV, mkQ, qV, fV, ofV, rV, mkR, wa_cond, axC_t, axC_f]
      simp -implicitDefEqProofs only [go_sem, simprocAttr, mkI, iV, mkQ, qV, fV, ofV, rV, mkR, res174]
      first | exact .app _ _ | exact ⟨.app _ _, rfl⟩ | exact .refl _ | exact ⟨.refl _, rfl⟩
  · rw [if_neg h0]
    have hxy : x = y := by omega
    subst hxy
    generalize decide (x = 0) = ub at *
    generalize cmpQ (b.rot.back.thn a.rot).s 0 = z at *
    generalize (b.rot.back.thn a.rot).s = ss at *
    generalize (b.rot.back.thn a.rot).c = cc at *
    unfold RR.bk at o4
    unfold RR.val rV at o1 o2 o3 o4 ⊢
    have hu : (ub == ub) = true := by simp
    refine sim_ex tok mixed Tryz.func174 rfl (by kernel_rfl) (by kernel_rfl) (by simp only [Tryz.ntmps174, List.size_toArray, List.length_cons, List.length_nil]; omega) ?_
    simp -implicitDefEqProofs only [go_sem, simprocAttr, mkI, iV, mkQ, qV, fV, ofV, rV, mkR]
    refine ax_quiet (by kernel_rfl) ?_
    simp -implicitDefEqProofs only [go_sem, simprocAttr, mkI, iV, mkQ, qV, fV, ofV, rV, mkR]
    refine wl_callV _ (by simp -implicitDefEqProofs only [go_sem, simprocAttr, mkI, iV, mkQ, qV, fV, ofV, rV, mkR]) (o1 _) ?_
    simp -implicitDefEqProofs only [go_sem, simprocAttr, mkI, iV, mkQ, qV, fV, ofV, rV, mkR]
    refine wl_callV _ (by simp -implicitDefEqProofs only [go_sem, simprocAttr, mkI, iV, mkQ, qV, fV, ofV, rV, mkR, bne4, hu, wa_cond, axC_t, axC_f]) (o2 _) ?_
    simp -implicitDefEqProofs only [go_sem, simprocAttr, mkI, iV, mkQ, qV, fV, ofV, rV, mkR, bne4, hu, wa_cond, axC_t, axC_f]
    refine ax_quiet (by kernel_rfl) ?_
    simp -implicitDefEqProofs only [go_sem, simprocAttr, mkI, iV, mkQ, qV, fV, ofV, rV, mkR]
    refine wl_callV _ (by simp -implicitDefEqProofs only [go_sem, simprocAttr, mkI, iV, mkQ, qV, fV, ofV, rV, mkR]) (o3 _) ?_
    simp -implicitDefEqProofs only [go_sem, simprocAttr, mkI, iV, mkQ, qV, fV, ofV, rV, mkR]
    refine wl_callV _ (by simp -implicitDefEqProofs only [go_sem, simprocAttr, mkI, iV, mkQ, qV, fV, ofV, rV, mkR, aField, partL]) (o4 _) ?_
    simp -implicitDefEqProofs only [go_sem, simprocAttr, mkI, iV, mkQ, qV, fV, ofV, rV, mkR, aField, partL]
    refine wl_callV _ (by simp -implicitDefEqProofs only [go_sem, simprocAttr, mkI, iV, mkQ, qV, fV, ofV, rV, mkR]) (o5 _) ?_
    simp -implicitDefEqProofs only [go_sem, simprocAttr, mkI, iV, mkQ, qV, fV, ofV, rV, mkR]
    simp -implicitDefEqProofs only [go_sem, simprocAttr, mkI, iV, mkQ, qV, fV, ofV, rV, mkR, res174]
    first | exact .app _ _ | exact ⟨.app _ _, rfl⟩ | exact .refl _ | exact ⟨.refl _, rfl⟩
theorem qcheck2 (H : Heap) {r : RR} {k : Nat} (hr : r.le k) (hk : k ≤ 100000) : (Sim Tryz.prog 110 #[.agg #[.bool r.g, .string (bs r.n), .string (bs r.d)]] H (.int .i64 (if isCan r.g r.n r.d = true then 0 else 1)) H) ∧
    Sim Tryz.prog 110 #[.agg #[.bool r.g', .string (bs r.n'), .string (bs r.d')]] H (.int .i64 (if isCan r.g' r.n' r.d' = true then 0 else 1)) H := by
  have h1 := hr.n
  have h2 := hr.d
  have h3 := hr.n'
  have h4 := hr.d'
  exact ⟨qcheckR H (by omega) (by omega), qcheckR H (by omega) (by omega)⟩
theorem check4 (H : Heap) {r : RR} {k : Nat} (hr : r.le k) (hk : k ≤ 20000) : Sim Tryz.prog 55 #[r.val] H (.int .i64 r.err) H := by
  refine flat_ex rfl ?_
  have c1 := fun H => (qcheck2 H hr (by omega)).1
  have c2 := fun H => (qcheck2 H hr (by omega)).2
  unfold RR.err
  unfold RR.val rV
  cases i1 : isCan r.g r.n r.d
  · simp only [i1, Bool.false_and, Bool.false_eq_true, if_false] at c1 ⊢
    refine sim_ex tok mixed Tryz.func55 rfl (by kernel_rfl) (by kernel_rfl) (by simp only [Tryz.ntmps55, List.size_toArray, List.length_cons, List.length_nil]; omega) ?_
    simp -implicitDefEqProofs only [go_sem, simprocAttr, mkI, iV, mkQ, qV, fV, ofV, rV, mkR]
    refine wl_callV _ (by simp -implicitDefEqProofs only [go_sem, simprocAttr, mkI, iV, mkQ, qV, fV, ofV, rV, mkR, wa_cond, axC_t, axC_f]) (c1 _) ?_
    simp -implicitDefEqProofs only [go_sem, simprocAttr, mkI, iV, mkQ, qV, fV, ofV, rV, mkR, wa_cond, axC_t, axC_f]
    simp -implicitDefEqProofs only [go_sem, simprocAttr, mkI, iV, mkQ, qV, fV, ofV, rV, mkR, res55]
    first | exact .app _ _ | exact ⟨.app _ _, rfl⟩ | exact .refl _ | exact ⟨.refl _, rfl⟩
  cases i2 : isCan r.g' r.n' r.d'
  · simp only [i1, i2, Bool.and_false, Bool.false_eq_true, if_false, if_true] at c1 c2 ⊢
    refine sim_ex tok mixed Tryz.func55 rfl (by kernel_rfl) (by kernel_rfl) (by simp only [Tryz.ntmps55, List.size_toArray, List.length_cons, List.length_nil]; omega) ?_
    simp -implicitDefEqProofs only [go_sem, simprocAttr, mkI, iV, mkQ, qV, fV, ofV, rV, mkR]
    refine wl_callV _ (by simp -implicitDefEqProofs only [go_sem, simprocAttr, mkI, iV, mkQ, qV, fV, ofV, rV, mkR, wa_cond, axC_t, axC_f]) (c1 _) ?_
    simp -implicitDefEqProofs only [go_sem, simprocAttr, mkI, iV, mkQ, qV, fV, ofV, rV, mkR, wa_cond, axC_t, axC_f]
    refine wl_callV _ (by simp -implicitDefEqProofs only [go_sem, simprocAttr, mkI, iV, mkQ, qV, fV, ofV, rV, mkR, wa_cond, axC_t, axC_f]) (c2 _) ?_
    simp -implicitDefEqProofs only [go_sem, simprocAttr, mkI, iV, mkQ, qV, fV, ofV, rV, mkR, wa_cond, axC_t, axC_f]
    simp -implicitDefEqProofs only [go_sem, simprocAttr, mkI, iV, mkQ, qV, fV, ofV, rV, mkR, res55]
    first | exact .app _ _ | exact ⟨.app _ _, rfl⟩ | exact .refl _ | exact ⟨.refl _, rfl⟩
  simp only [i1, i2, Bool.and_true, if_true] at c1 c2 ⊢
  have o1 := fun H => mulRQ H hr.c hr.c (by omega) (by omega)
  have o2 := fun H => mulRQ H hr.s hr.s (by omega) (by omega)
  have q1 := (hr.c.sz.mul hr.c.sz)
  have q2 := (hr.s.sz.mul hr.s.sz)
  have s1 := fun H => addRQ H q1.qv q2.qv (by omega) (by omega)
  have o3 := fun H => ofNR H (n := 1) (by decide) (by decide)
  rw [show ((1 : Int) : Rat) = 1 from rfl] at o3
  have o4 := fun H => cmpRQ H (q1.add q2).qv (sz_one (k := 2) (by decide)).qv (by omega) (by decide)
  have hok : r.rot.ok ↔ r.rot.c * r.rot.c + r.rot.s * r.rot.s = 1 := Iff.rfl
  clear q1 q2
  generalize r.rot.c * r.rot.c + r.rot.s * r.rot.s = z at *
  generalize r.rot.c * r.rot.c = p1 at *
  generalize r.rot.s * r.rot.s = p2 at *
  have hz := cmpQ_cases z 1
  unfold qV at o1 o2
  by_cases h0 : r.rot.ok
  · have hc : cmpQ z 1 = 0 := by have := hok.1 h0; grind
    simp only [h0, if_true]
    rw [hc] at o4
    clear hz hc hok
    refine sim_ex tok mixed Tryz.func55 rfl (by kernel_rfl) (by kernel_rfl) (by simp only [Tryz.ntmps55, List.size_toArray, List.length_cons, List.length_nil]; omega) ?_
    simp -implicitDefEqProofs only [go_sem, simprocAttr, mkI, iV, mkQ, qV, fV, ofV, rV, mkR]
    refine wl_callV _ (by simp -implicitDefEqProofs only [go_sem, simprocAttr, mkI, iV, mkQ, qV, fV, ofV, rV, mkR, wa_cond, axC_t, axC_f]) (c1 _) ?_
    simp -implicitDefEqProofs only [go_sem, simprocAttr, mkI, iV, mkQ, qV, fV, ofV, rV, mkR, wa_cond, axC_t, axC_f]
    refine wl_callV _ (by simp -implicitDefEqProofs only [go_sem, simprocAttr, mkI, iV, mkQ, qV, fV, ofV, rV, mkR, wa_cond, axC_t, axC_f]) (c2 _) ?_
    simp -implicitDefEqProofs only [go_sem, simprocAttr, mkI, iV, mkQ, qV, fV, ofV, rV, mkR, wa_cond, axC_t, axC_f]
    refine ax_quiet (by kernel_rfl) ?_
    simp -implicitDefEqProofs only [go_sem, simprocAttr, mkI, iV, mkQ, qV, fV, ofV, rV, mkR]
    refine wl_callV _ (by simp -implicitDefEqProofs only [go_sem, simprocAttr, mkI, iV, mkQ, qV, fV, ofV, rV, mkR]) (o1 _) ?_
    simp -implicitDefEqProofs only [go_sem, simprocAttr, mkI, iV, mkQ, qV, fV, ofV, rV, mkR]
    refine wl_callV _ (by simp -implicitDefEqProofs only [go_sem, simprocAttr, mkI, iV, mkQ, qV, fV, ofV, rV, mkR]) (o2 _) ?_
    simp -implicitDefEqProofs only [go_sem, simprocAttr, mkI, iV, mkQ, qV, fV, ofV, rV, mkR]
    refine wl_callV _ (by simp -implicitDefEqProofs only [go_sem, simprocAttr, mkI, iV, mkQ, qV, fV, ofV, rV, mkR]) (s1 _) ?_
    simp -implicitDefEqProofs only [go_sem, simprocAttr, mkI, iV, mkQ, qV, fV, ofV, rV, mkR]
    refine wl_callV _ (by simp -implicitDefEqProofs only [go_sem, simprocAttr, mkI, iV, mkQ, qV, fV, ofV, rV, mkR]) (o3 _) ?_
    simp -implicitDefEqProofs only [go_sem, simprocAttr, mkI, iV, mkQ, qV, fV, ofV, rV, mkR]
    refine wl_callV _ (by simp -implicitDefEqProofs only [go_sem, simprocAttr, mkI, iV, mkQ, qV, fV, ofV, rV, mkR, wa_cond, axC_t, axC_f]) (o4 _) ?_
    simp -implicitDefEqProofs only [go_sem, simprocAttr, mkI, iV, mkQ, qV, fV, ofV, rV, mkR, wa_cond, axC_t, axC_f]
    simp -implicitDefEqProofs only [go_sem, simprocAttr, mkI, iV, mkQ, qV, fV, ofV, rV, mkR, res55]
    first | exact .app _ _ | exact ⟨.app _ _, rfl⟩ | exact .refl _ | exact ⟨.refl _, rfl⟩
  · have hc : ¬ cmpQ z 1 = 0 := by have : ¬ z = 1 := fun h => h0 (hok.2 h); grind
    simp only [h0, if_false]
    generalize cmpQ z 1 = cz at *
    clear hz hok
    refine sim_ex tok mixed Tryz.func55 rfl (by kernel_rfl) (by kernel_rfl) (by simp only [Tryz.ntmps55, List.size_toArray, List.length_cons, List.length_nil]; omega) ?_
    simp -implicitDefEqProofs only [go_sem, simprocAttr, mkI, iV, mkQ, qV, fV, ofV, rV, mkR]
    refine wl_callV _ (by simp -implicitDefEqProofs only [go_sem, simprocAttr, mkI, iV, mkQ, qV, fV, ofV, rV, mkR, wa_cond, axC_t, axC_f]) (c1 _) ?_
    simp -implicitDefEqProofs only [go_sem, simprocAttr, mkI, iV, mkQ, qV, fV, ofV, rV, mkR, wa_cond, axC_t, axC_f]
    refine wl_callV _ (by simp -implicitDefEqProofs only [go_sem, simprocAttr, mkI, iV, mkQ, qV, fV, ofV, rV, mkR, wa_cond, axC_t, axC_f]) (c2 _) ?_
    simp -implicitDefEqProofs only [go_sem, simprocAttr, mkI, iV, mkQ, qV, fV, ofV, rV, mkR, wa_cond, axC_t, axC_f]
    refine ax_quiet (by kernel_rfl) ?_
    simp -implicitDefEqProofs only [go_sem, simprocAttr, mkI, iV, mkQ, qV, fV, ofV, rV, mkR]
    refine wl_callV _ (by simp -implicitDefEqProofs only [go_sem, simprocAttr, mkI, iV, mkQ, qV, fV, ofV, rV, mkR]) (o1 _) ?_
    simp -implicitDefEqProofs only [go_sem, simprocAttr, mkI, iV, mkQ, qV, fV, ofV, rV, mkR]
    refine wl_callV _ (by simp -implicitDefEqProofs only [go_sem, simprocAttr, mkI, iV, mkQ, qV, fV, ofV, rV, mkR]) (o2 _) ?_
    simp -implicitDefEqProofs only [go_sem, simprocAttr, mkI, iV, mkQ, qV, fV, ofV, rV, mkR]
    refine wl_callV _ (by simp -implicitDefEqProofs only [go_sem, simprocAttr, mkI, iV, mkQ, qV, fV, ofV, rV, mkR]) (s1 _) ?_
    simp -implicitDefEqProofs only [go_sem, simprocAttr, mkI, iV, mkQ, qV, fV, ofV, rV, mkR]
    refine wl_callV _ (by simp -implicitDefEqProofs only [go_sem, simprocAttr, mkI, iV, mkQ, qV, fV, ofV, rV, mkR]) (o3 _) ?_
    simp -implicitDefEqProofs only [go_sem, simprocAttr, mkI, iV, mkQ, qV, fV, ofV, rV, mkR]
    refine wl_callV _ (by simp -implicitDefEqProofs only [go_sem, simprocAttr, mkI, iV, mkQ, qV, fV, ofV, rV, mkR, hc, wa_cond, axC_t, axC_f]) (o4 _) ?_
    simp -implicitDefEqProofs only [go_sem, simprocAttr, mkI, iV, mkQ, qV, fV, ofV, rV, mkR, hc, wa_cond, axC_t, axC_f]
    simp -implicitDefEqProofs only [go_sem, simprocAttr, mkI, iV, mkQ, qV, fV, ofV, rV, mkR, res55]
    first | exact .app _ _ | exact ⟨.app _ _, rfl⟩ | exact .refl _ | exact ⟨.refl _, rfl⟩
end Go.Proofs.YthhmkaikopdmjaaGreat
namespace Go.Proofs.YthhmkaikopdmjaaGreat
open Go Go.Fw
theorem Compare4 (H : Heap) {a b : RR} {k : Nat} (ha : a.le k) (hb : b.le k) (hk : k ≤ 19000) :
    Sim Tryz.prog 112 #[a.val, b.val] H (if a.err ≠ 0 ∨ b.err ≠ 0 then .tuple #[.int .i64 0, .int .i64 1] else .tuple #[.int .i64 (a.rot.cmp b.rot), .int .i64 0]) H := by
  refine flat_ex (by split <;> rfl) ?_
  have c1 := fun H => check4 H ha (by omega)
  have c2 := fun H => check4 H hb (by omega)
  by_cases h1 : a.err = 0
  · by_cases h2 : b.err = 0
    · rw [if_neg (by simp [h1, h2])]
      have o1 := fun H => compare4 H ha hb hk (RR.err_zero.1 h1).2 (RR.err_zero.1 h2).2
      generalize a.rot.cmp b.rot = z at *
      unfold RR.val rV at c1 c2 o1 ⊢
      refine sim_ex tok mixed Tryz.func112 rfl (by kernel_rfl) (by kernel_rfl) (by simp only [Tryz.ntmps112, List.size_toArray, List.length_cons, List.length_nil]; omega) ?_
      simp -implicitDefEqProofs only [go_sem, simprocAttr, mkI, iV, mkQ, qV, fV, ofV, rV, mkR]
      refine wl_callV _ (by simp -implicitDefEqProofs only [go_sem, simprocAttr, mkI, iV, mkQ, qV, fV, ofV, rV, mkR, h1, wa_cond, axC_t, axC_f]) (c1 _) ?_
      simp -implicitDefEqProofs only [go_sem, simprocAttr, mkI, iV, mkQ, qV, fV, ofV, rV, mkR, h1, wa_cond, axC_t, axC_f]
      refine wl_callV _ (by simp -implicitDefEqProofs only [go_sem, simprocAttr, mkI, iV, mkQ, qV, fV, ofV, rV, mkR, h2, wa_cond, axC_t, axC_f]) (c2 _) ?_
      simp -implicitDefEqProofs only [go_sem, simprocAttr, mkI, iV, mkQ, qV, fV, ofV, rV, mkR, h2, wa_cond, axC_t, axC_f]
      refine wl_callV _ (by simp -implicitDefEqProofs only [go_sem, simprocAttr, mkI, iV, mkQ, qV, fV, ofV, rV, mkR]) (o1 _) ?_
      simp -implicitDefEqProofs only [go_sem, simprocAttr, mkI, iV, mkQ, qV, fV, ofV, rV, mkR]
      simp -implicitDefEqProofs only [go_sem, simprocAttr, mkI, iV, mkQ, qV, fV, ofV, rV, mkR, res112]
      first | exact .app _ _ | exact ⟨.app _ _, rfl⟩ | exact .refl _ | exact ⟨.refl _, rfl⟩
    · rw [if_pos (.inr h2)]
      unfold RR.val rV at c1 c2 ⊢
      refine sim_ex tok mixed Tryz.func112 rfl (by kernel_rfl) (by kernel_rfl) (by simp only [Tryz.ntmps112, List.size_toArray, List.length_cons, List.length_nil]; omega) ?_
      simp -implicitDefEqProofs only [go_sem, simprocAttr, mkI, iV, mkQ, qV, fV, ofV, rV, mkR]
      refine wl_callV _ (by simp -implicitDefEqProofs only [go_sem, simprocAttr, mkI, iV, mkQ, qV, fV, ofV, rV, mkR, h1, wa_cond, axC_t, axC_f]) (c1 _) ?_
      simp -implicitDefEqProofs only [go_sem, simprocAttr, mkI, iV, mkQ, qV, fV, ofV, rV, mkR, h1, wa_cond, axC_t, axC_f]
      refine wl_callV _ (by simp -implicitDefEqProofs only [go_sem, simprocAttr, mkI, iV, mkQ, qV, fV, ofV, rV, mkR, h2, wa_cond, axC_t, axC_f]) (c2 _) ?_
      simp -implicitDefEqProofs only [go_sem, simprocAttr, mkI, iV, mkQ, qV, fV, ofV, rV, mkR, h2, wa_cond, axC_t, axC_f]
      simp -implicitDefEqProofs only [go_sem, simprocAttr, mkI, iV, mkQ, qV, fV, ofV, rV, mkR, res112]
      first | exact .app _ _ | exact ⟨.app _ _, rfl⟩ | exact .refl _ | exact ⟨.refl _, rfl⟩
  · rw [if_pos (.inl h1)]
    unfold RR.val rV at c1 c2 ⊢
    refine sim_ex tok mixed Tryz.func112 rfl (by kernel_rfl) (by kernel_rfl) (by simp only [Tryz.ntmps112, List.size_toArray, List.length_cons, List.length_nil]; omega) ?_
    simp -implicitDefEqProofs only [go_sem, simprocAttr, mkI, iV, mkQ, qV, fV, ofV, rV, mkR]
    refine wl_callV _ (by simp -implicitDefEqProofs only [go_sem, simprocAttr, mkI, iV, mkQ, qV, fV, ofV, rV, mkR, h1, wa_cond, axC_t, axC_f]) (c1 _) ?_
    simp -implicitDefEqProofs only [go_sem, simprocAttr, mkI, iV, mkQ, qV, fV, ofV, rV, mkR, h1, wa_cond, axC_t, axC_f]
    simp -implicitDefEqProofs only [go_sem, simprocAttr, mkI, iV, mkQ, qV, fV, ofV, rV, mkR, res112]
    first | exact .app _ _ | exact ⟨.app _ _, rfl⟩ | exact .refl _ | exact ⟨.refl _, rfl⟩
end Go.Proofs.YthhmkaikopdmjaaGreat
