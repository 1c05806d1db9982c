/- bigint: pack, Of, little; bigint: Of, little; bigint: Neg, Add, Sub, Mul. Conditions: none. -/
import Derived.Test.YthhmkaikopdmjaaGreatMd
set_option linter.unusedSimpArgs false
set_option linter.unusedVariables false
set_option maxRecDepth 8000
namespace Go.Proofs.YthhmkaikopdmjaaGreat
open Go Go.Fw

theorem pack_flag (g : Bool) (n : Nat) : (g && decide (digB n ≠ [])) = decide ((if g then -(n : Int) else n) < 0) := by
  cases g
  · simp
  · simp only [Bool.true_and, if_true, ne_eq, digB_nil_iff]
    congr 1
    apply propext
    omega
theorem pack_val (g : Bool) (n : Nat) : mkI (if g then -(n : Int) else n) = .agg #[.bool (g && decide (digB n ≠ [])), .string (bs (digB n))] := by
  rw [pack_flag]
  unfold mkI iV
  have : (if g then -(n : Int) else n).natAbs = n := by cases g <;> simp
  rw [this]
theorem pack_sim {H : Heap} {v : Value} {l : List Nat} {n : Nat} {g : Bool} (hv : Lim H v l) (hs : small l) (hn : valL l = n) (hl : l.length ≤ 1000000) :
    Sim Tryz.prog 161 #[.bool g, v] H (mkI (if g then -(n : Int) else n)) H := by
  obtain ⟨w, ht, hw⟩ := trim_sim (hv.app [⟨[.bool false, .string (bs [])], 1, true⟩])
  have hc := Canl.of_trim hs
  rw [hn] at hc
  have hst := store_sim hw hc (by have := trim_len l; omega)
  refine flat_ex (by rw [pack_val]; rfl) ?_
  rw [pack_val]
  refine sim_ex tok mixed Tryz.func161 rfl (by kernel_rfl) (by kernel_rfl) (by simp only [Tryz.ntmps161, List.size_toArray, List.length_cons, List.length_nil]; omega) ?_
  simp -implicitDefEqProofs only [go_sem, Nat.reduceAdd, Nat.reduceSub, Nat.reduceMul, Nat.reduceLT, Nat.reduceLeDiff, Nat.reduceEqDiff, Nat.reduceBEq, Nat.reduceGT, Nat.reduceMod, Nat.reduceDiv, ↓reduceIte, reduceCtorEq, Int.reduceLE, Int.reduceLT, Int.reduceToNat, Int.reduceEq, Int.reduceNeg, Int.reduceAdd, Int.reduceSub, Int.reduceMul]
  refine wl_callV #[v] (by simp -implicitDefEqProofs only [go_sem, Nat.reduceAdd, Nat.reduceSub, Nat.reduceMul, Nat.reduceLT, Nat.reduceLeDiff, Nat.reduceEqDiff, Nat.reduceBEq, Nat.reduceGT, Nat.reduceMod, Nat.reduceDiv, ↓reduceIte, reduceCtorEq, Int.reduceLE, Int.reduceLT, Int.reduceToNat, Int.reduceEq, Int.reduceNeg, Int.reduceAdd, Int.reduceSub, Int.reduceMul]) ht ?_
  simp -implicitDefEqProofs only [go_sem, Nat.reduceAdd, Nat.reduceSub, Nat.reduceMul, Nat.reduceLT, Nat.reduceLeDiff, Nat.reduceEqDiff, Nat.reduceBEq, Nat.reduceGT, Nat.reduceMod, Nat.reduceDiv, ↓reduceIte, reduceCtorEq, Int.reduceLE, Int.reduceLT, Int.reduceToNat, Int.reduceEq, Int.reduceNeg, Int.reduceAdd, Int.reduceSub, Int.reduceMul]
  refine wl_callV #[_] (by simp -implicitDefEqProofs only [go_sem, Nat.reduceAdd, Nat.reduceSub, Nat.reduceMul, Nat.reduceLT, Nat.reduceLeDiff, Nat.reduceEqDiff, Nat.reduceBEq, Nat.reduceGT, Nat.reduceMod, Nat.reduceDiv, ↓reduceIte, reduceCtorEq, Int.reduceLE, Int.reduceLT, Int.reduceToNat, Int.reduceEq, Int.reduceNeg, Int.reduceAdd, Int.reduceSub, Int.reduceMul]) hst ?_
  have hb : (digB n = []) = (bs (digB n) = bs []) := by rw [bs_inj]
  cases g
  · simp -implicitDefEqProofs only [go_sem, Nat.reduceAdd, Nat.reduceSub, Nat.reduceMul, Nat.reduceLT, Nat.reduceLeDiff, Nat.reduceEqDiff, Nat.reduceBEq, Nat.reduceGT, Nat.reduceMod, Nat.reduceDiv, ↓reduceIte, reduceCtorEq, Int.reduceLE, Int.reduceLT, Int.reduceToNat, Int.reduceEq, Int.reduceNeg, Int.reduceAdd, Int.reduceSub, Int.reduceMul, res161]
    exact ⟨.app _ _, by simp⟩
  · simp -implicitDefEqProofs only [go_sem, Nat.reduceAdd, Nat.reduceSub, Nat.reduceMul, Nat.reduceLT, Nat.reduceLeDiff, Nat.reduceEqDiff, Nat.reduceBEq, Nat.reduceGT, Nat.reduceMod, Nat.reduceDiv, ↓reduceIte, reduceCtorEq, Int.reduceLE, Int.reduceLT, Int.reduceToNat, Int.reduceEq, Int.reduceNeg, Int.reduceAdd, Int.reduceSub, Int.reduceMul, res161]
    exact ⟨.app _ _, by simp [bs_inj]⟩
end Go.Proofs.YthhmkaikopdmjaaGreat
set_option linter.unusedSimpArgs false
set_option linter.unusedVariables false
set_option maxRecDepth 8000
namespace Go.Proofs.YthhmkaikopdmjaaGreat
open Go Go.Fw

theorem two_u32 (H : Heap) (x y : Int) : aBuildSlice tt H 163 2 [(0, .int .u32 x), (1, .int .u32 y)] = some (.slice (some ⟨H.length, 0, none⟩) 2 2, H ++ [⟨[.int .u32 x, .int .u32 y], 1, true⟩]) := rfl
theorem flat_mkI (z : Int) : flat (mkI z) = true := rfl

theorem of_sim (H : Heap) {z : Int} (h1 : -9223372036854775808 ≤ z) (h2 : z < 9223372036854775808) : Sim Tryz.prog 99 #[.int .i64 z] H (mkI z) H := by
  refine flat_ex (flat_mkI z) ?_
  obtain ⟨n, hn⟩ : ∃ n : Nat, n = z.natAbs := ⟨_, rfl⟩
  have hnl : n ≤ 9223372036854775808 := by omega
  have a1 := low_u32 n
  have a2 := fdiv_pow n 32
  have a3 := wu32n (n := n / 2 ^ 32) (by omega)
  have h32 : ¬ ((32 : Int) < 0) := by omega
  have hlim : ∀ c : Blk, Lim (H ++ [c, ⟨[.int .u32 ((n % 4294967296 : Nat) : Int), .int .u32 ((n / 2 ^ 32 : Nat) : Int)], 1, true⟩]) (.slice (some ⟨H.length + 1, 0, none⟩) 2 2) [n % 4294967296, n / 2 ^ 32] :=
    fun c => app_lim (H := H) (L := [c, ⟨u32s [n % 4294967296, n / 2 ^ 32], 1, true⟩]) (l := [n % 4294967296, n / 2 ^ 32]) (j := 1) (c := 2) rfl (.inr (by simp)) (by simp)
  have hsm : small [n % 4294967296, n / 2 ^ 32] := by intro x hx; simp at hx; omega
  have hvl : valL [n % 4294967296, n / 2 ^ 32] = n := by simp [valL]; omega
  by_cases hz : z < 0
  · have b1 : IntKind.u64.wrap z = z + 18446744073709551616 := by rw [IntKind.wrap_u64]; omega
    have b2 : IntKind.u64.wrap (0 - (z + 18446744073709551616)) = (n : Int) := by rw [IntKind.wrap_u64]; omega
    refine sim_ex tok mixed Tryz.func99 rfl (by kernel_rfl) (by kernel_rfl) (by simp only [Tryz.ntmps99, List.size_toArray, List.length_cons, List.length_nil]; omega) ?_
    simp -implicitDefEqProofs only [go_sem, Nat.reduceAdd, Nat.reduceSub, Nat.reduceMul, Nat.reduceLT, Nat.reduceLeDiff, Nat.reduceEqDiff, Nat.reduceBEq, Nat.reduceGT, Nat.reduceMod, Nat.reduceDiv, ↓reduceIte, reduceCtorEq, Int.reduceLE, Int.reduceLT, Int.reduceToNat, Int.reduceEq, Int.reduceNeg, Int.reduceAdd, Int.reduceSub, Int.reduceMul, aConv, b1, hz]
    refine ax_cond2 ?_
    simp only [ev_tmp, ev_const, ev_func, upd_at, put_some, put_none, bndB_bool, Nat.reduceEqDiff, if_true, if_false, ↓reduceIte, reduceCtorEq]
    refine ⟨fun _ => ?_, fun hc => hc.elim⟩
    simp -implicitDefEqProofs only [go_sem, Nat.reduceAdd, Nat.reduceSub, Nat.reduceMul, Nat.reduceLT, Nat.reduceLeDiff, Nat.reduceEqDiff, Nat.reduceBEq, Nat.reduceGT, Nat.reduceMod, Nat.reduceDiv, ↓reduceIte, reduceCtorEq, Int.reduceLE, Int.reduceLT, Int.reduceToNat, Int.reduceEq, Int.reduceNeg, Int.reduceAdd, Int.reduceSub, Int.reduceMul, aConv, b2, hz, a1, a2, a3, h32, min_lit32, two_u32, List.length_append]
    refine wl_callV #[.bool true, _] (by simp -implicitDefEqProofs only [go_sem, Nat.reduceAdd, Nat.reduceSub, Nat.reduceMul, Nat.reduceLT, Nat.reduceLeDiff, Nat.reduceEqDiff, Nat.reduceBEq, Nat.reduceGT, Nat.reduceMod, Nat.reduceDiv, ↓reduceIte, reduceCtorEq, Int.reduceLE, Int.reduceLT, Int.reduceToNat, Int.reduceEq, Int.reduceNeg, Int.reduceAdd, Int.reduceSub, Int.reduceMul]) (pack_sim (hlim _) hsm hvl (by simp)) ?_
    have e : (if true = true then -(n : Int) else (n : Int)) = z := by simp; omega
    rw [e]
    unfold mkI iV
    simp -implicitDefEqProofs only [go_sem, Nat.reduceAdd, Nat.reduceSub, Nat.reduceMul, Nat.reduceLT, Nat.reduceLeDiff, Nat.reduceEqDiff, Nat.reduceBEq, Nat.reduceGT, Nat.reduceMod, Nat.reduceDiv, ↓reduceIte, reduceCtorEq, Int.reduceLE, Int.reduceLT, Int.reduceToNat, Int.reduceEq, Int.reduceNeg, Int.reduceAdd, Int.reduceSub, Int.reduceMul, res99]
    first | exact .app _ _ | exact ⟨.app _ _, rfl⟩
  · have b1 : IntKind.u64.wrap z = (n : Int) := by rw [IntKind.wrap_u64]; omega
    refine sim_ex tok mixed Tryz.func99 rfl (by kernel_rfl) (by kernel_rfl) (by simp only [Tryz.ntmps99, List.size_toArray, List.length_cons, List.length_nil]; omega) ?_
    simp -implicitDefEqProofs only [go_sem, Nat.reduceAdd, Nat.reduceSub, Nat.reduceMul, Nat.reduceLT, Nat.reduceLeDiff, Nat.reduceEqDiff, Nat.reduceBEq, Nat.reduceGT, Nat.reduceMod, Nat.reduceDiv, ↓reduceIte, reduceCtorEq, Int.reduceLE, Int.reduceLT, Int.reduceToNat, Int.reduceEq, Int.reduceNeg, Int.reduceAdd, Int.reduceSub, Int.reduceMul, aConv, b1, hz]
    refine ax_cond2 ?_
    simp only [ev_tmp, ev_const, ev_func, upd_at, put_some, put_none, bndB_bool, Nat.reduceEqDiff, if_true, if_false, ↓reduceIte, reduceCtorEq]
    refine ⟨fun hc => hc.elim, fun _ => ?_⟩
    simp -implicitDefEqProofs only [go_sem, Nat.reduceAdd, Nat.reduceSub, Nat.reduceMul, Nat.reduceLT, Nat.reduceLeDiff, Nat.reduceEqDiff, Nat.reduceBEq, Nat.reduceGT, Nat.reduceMod, Nat.reduceDiv, ↓reduceIte, reduceCtorEq, Int.reduceLE, Int.reduceLT, Int.reduceToNat, Int.reduceEq, Int.reduceNeg, Int.reduceAdd, Int.reduceSub, Int.reduceMul, aConv, hz, a1, a2, a3, h32, min_lit32, two_u32, List.length_append]
    refine wl_callV #[.bool false, _] (by simp -implicitDefEqProofs only [go_sem, Nat.reduceAdd, Nat.reduceSub, Nat.reduceMul, Nat.reduceLT, Nat.reduceLeDiff, Nat.reduceEqDiff, Nat.reduceBEq, Nat.reduceGT, Nat.reduceMod, Nat.reduceDiv, ↓reduceIte, reduceCtorEq, Int.reduceLE, Int.reduceLT, Int.reduceToNat, Int.reduceEq, Int.reduceNeg, Int.reduceAdd, Int.reduceSub, Int.reduceMul]) (pack_sim (hlim _) hsm hvl (by simp)) ?_
    have e : (if false = true then -(n : Int) else (n : Int)) = z := by simp; omega
    rw [e]
    unfold mkI iV
    simp -implicitDefEqProofs only [go_sem, Nat.reduceAdd, Nat.reduceSub, Nat.reduceMul, Nat.reduceLT, Nat.reduceLeDiff, Nat.reduceEqDiff, Nat.reduceBEq, Nat.reduceGT, Nat.reduceMod, Nat.reduceDiv, ↓reduceIte, reduceCtorEq, Int.reduceLE, Int.reduceLT, Int.reduceToNat, Int.reduceEq, Int.reduceNeg, Int.reduceAdd, Int.reduceSub, Int.reduceMul, res99]
    first | exact .app _ _ | exact ⟨.app _ _, rfl⟩

theorem little_big (H : Heap) {g : Bool} {m : List UInt8} (hm : 7 < m.length) : Sim Tryz.prog 245 #[iV g m] H (.tuple #[.int .i64 0, .bool false]) H := by
  refine flat_ex rfl ?_
  have h1 : (7 : Int) < (m.length : Int) := by omega
  unfold iV
  refine sim_ex tok mixed Tryz.func245 rfl (by kernel_rfl) (by kernel_rfl) (by simp only [Tryz.ntmps245, List.size_toArray, List.length_cons, List.length_nil]; omega) ?_
  simp -implicitDefEqProofs only [go_sem, Nat.reduceAdd, Nat.reduceSub, Nat.reduceMul, Nat.reduceLT, Nat.reduceLeDiff, Nat.reduceEqDiff, Nat.reduceBEq, Nat.reduceGT, Nat.reduceMod, Nat.reduceDiv, ↓reduceIte, reduceCtorEq, Int.reduceLE, Int.reduceLT, Int.reduceToNat, Int.reduceEq, Int.reduceNeg, Int.reduceAdd, Int.reduceSub, Int.reduceMul, aLen, h1]
  refine ax_cond2 ?_
  simp only [ev_tmp, ev_const, ev_func, upd_at, put_some, put_none, bndB_bool, Nat.reduceEqDiff, if_true, if_false, ↓reduceIte, reduceCtorEq]
  refine ⟨fun _ => ?_, fun hc => hc.elim⟩
  simp -implicitDefEqProofs only [go_sem, Nat.reduceAdd, Nat.reduceSub, Nat.reduceMul, Nat.reduceLT, Nat.reduceLeDiff, Nat.reduceEqDiff, Nat.reduceBEq, Nat.reduceGT, Nat.reduceMod, Nat.reduceDiv, ↓reduceIte, reduceCtorEq, Int.reduceLE, Int.reduceLT, Int.reduceToNat, Int.reduceEq, Int.reduceNeg, Int.reduceAdd, Int.reduceSub, Int.reduceMul, res245]
  first | exact .app _ _ | exact ⟨.app _ _, rfl⟩
theorem little_small (H : Heap) {g : Bool} {m : List UInt8} (hm : m.length ≤ 7) : Sim Tryz.prog 245 #[iV g m] H (.tuple #[.int .i64 (ival g m), .bool true]) H := by
  refine flat_ex rfl ?_
  have h1 : ¬ (7 : Int) < (m.length : Int) := by omega
  have hmax : ∀ i, i ≤ 7 → 256 ^ i ≤ 72057594037927936 := fun i hi => by
    have : 256 ^ i ≤ 256 ^ 7 := Nat.pow_le_pow_right (by decide) hi
    exact this
  unfold iV
  refine sim_ex tok mixed Tryz.func245 rfl (by kernel_rfl) (by kernel_rfl) (by simp only [Tryz.ntmps245, List.size_toArray, List.length_cons, List.length_nil]; omega) ?_
  simp -implicitDefEqProofs only [go_sem, Nat.reduceAdd, Nat.reduceSub, Nat.reduceMul, Nat.reduceLT, Nat.reduceLeDiff, Nat.reduceEqDiff, Nat.reduceBEq, Nat.reduceGT, Nat.reduceMod, Nat.reduceDiv, ↓reduceIte, reduceCtorEq, Int.reduceLE, Int.reduceLT, Int.reduceToNat, Int.reduceEq, Int.reduceNeg, Int.reduceAdd, Int.reduceSub, Int.reduceMul, aLen, h1]
  refine ax_cond2 ?_
  simp only [ev_tmp, ev_const, ev_func, upd_at, put_some, put_none, bndB_bool, Nat.reduceEqDiff, if_true, if_false, ↓reduceIte, reduceCtorEq]
  refine ⟨fun hc => hc.elim, fun _ => ?_⟩
  simp -implicitDefEqProofs only [go_sem, Nat.reduceAdd, Nat.reduceSub, Nat.reduceMul, Nat.reduceLT, Nat.reduceLeDiff, Nat.reduceEqDiff, Nat.reduceBEq, Nat.reduceGT, Nat.reduceMod, Nat.reduceDiv, ↓reduceIte, reduceCtorEq, Int.reduceLE, Int.reduceLT, Int.reduceToNat, Int.reduceEq, Int.reduceNeg, Int.reduceAdd, Int.reduceSub, Int.reduceMul, aLen]
  refine ax_loopx (fun (i : Nat) s T => s 1 = .pointer (some ⟨H.length, 0, none⟩) ∧ s 4 = .int .i64 (valB (m.take i) : Nat) ∧ s 12 = .int .i64 (m.length : Nat) ∧ s 13 = .int .i64 (i : Nat) ∧ i ≤ m.length ∧ T = H ++ [⟨[.bool g, .string (bs m)], 1, true⟩]) (fun i => m.length - i) 0 ?_ ?_
  · simp -implicitDefEqProofs only [go_sem, Nat.reduceAdd, Nat.reduceSub, Nat.reduceMul, Nat.reduceLT, Nat.reduceLeDiff, Nat.reduceEqDiff, Nat.reduceBEq, Nat.reduceGT, Nat.reduceMod, Nat.reduceDiv, ↓reduceIte, reduceCtorEq, Int.reduceLE, Int.reduceLT, Int.reduceToNat, Int.reduceEq, Int.reduceNeg, Int.reduceAdd, Int.reduceSub, Int.reduceMul]
    trivial
  rintro i s T ⟨h1, h4, h12, h13, hi, hT⟩
  subst T
  simp -implicitDefEqProofs only [go_sem, Nat.reduceAdd, Nat.reduceSub, Nat.reduceMul, Nat.reduceLT, Nat.reduceLeDiff, Nat.reduceEqDiff, Nat.reduceBEq, Nat.reduceGT, Nat.reduceMod, Nat.reduceDiv, ↓reduceIte, reduceCtorEq, Int.reduceLE, Int.reduceLT, Int.reduceToNat, Int.reduceEq, Int.reduceNeg, Int.reduceAdd, Int.reduceSub, Int.reduceMul, h12, h13]
  refine ax_cond2 ?_
  simp only [ev_tmp, ev_const, ev_func, upd_at, put_some, put_none, bndB_bool, Nat.reduceEqDiff, if_true, if_false, ↓reduceIte, reduceCtorEq]
  refine ⟨fun hc0 => have hlt := of_decide_eq_true hc0; ?_, fun hc0 => have hlt := of_decide_eq_false hc0; ?_⟩
  · have hil : i < m.length := by omega
    have hg : m[i]? = some m[i] := List.getElem?_eq_getElem hil
    have hts := valB_take_succ hil
    have hvl := valB_take_lt m i
    have hvl2 := valB_take_lt m (i + 1)
    have hm1 := hmax i (by omega)
    have hm2 := hmax (i + 1) (by omega)
    have hb : m[i].toNat < 256 := UInt8.toNat_lt _
    generalize m[i] = x at *
    generalize valB (m.take i) = n at *
    have a1 : IntKind.i64.wrap ((n : Int) * 2 ^ 8) = ((n * 2 ^ 8 : Nat) : Int) := by
      rw [show ((n : Int) * 2 ^ 8) = ((n * 2 ^ 8 : Nat) : Int) by simp, w64n (by omega)]
    have a2 := w64n (n := x.toNat) (by omega)
    have a3 := or_i64 (a := n * 2 ^ 8) (b := x.toNat) (by omega) (by omega)
    have a4 : n * 2 ^ 8 ||| x.toNat = valB (m.take (i + 1)) := by rw [Nat.or_comm, or_add (by omega), hts]; omega
    rw [a4] at a3
    have a5 : IntKind.i64.wrap ((i : Int) + 1) = ((i + 1 : Nat) : Int) := by rw [w64 (by omega) (by omega)]; rfl
    have h8 : ¬ ((8 : Int) < 0) := by omega
    have hnn : (0 : Int) ≤ (i : Int) := by omega
    simp -implicitDefEqProofs only [go_sem, Nat.reduceAdd, Nat.reduceSub, Nat.reduceMul, Nat.reduceLT, Nat.reduceLeDiff, Nat.reduceEqDiff, Nat.reduceBEq, Nat.reduceGT, Nat.reduceMod, Nat.reduceDiv, ↓reduceIte, reduceCtorEq, Int.reduceLE, Int.reduceLT, Int.reduceToNat, Int.reduceEq, Int.reduceNeg, Int.reduceAdd, Int.reduceSub, Int.reduceMul, h1, h4, h12, h13, hg, aConv, a1, a2, a3, a5, h8, hnn, show min 8 64 = 8 from rfl]
    exact ⟨i + 1, ⟨rfl, rfl, by omega⟩, by omega⟩
  · have hil : i = m.length := by omega
    subst hil
    rw [List.take_length] at h4
    have hvl := valB_lt m
    have hm1 := hmax m.length (by omega)
    simp -implicitDefEqProofs only [go_sem, Nat.reduceAdd, Nat.reduceSub, Nat.reduceMul, Nat.reduceLT, Nat.reduceLeDiff, Nat.reduceEqDiff, Nat.reduceBEq, Nat.reduceGT, Nat.reduceMod, Nat.reduceDiv, ↓reduceIte, reduceCtorEq, Int.reduceLE, Int.reduceLT, Int.reduceToNat, Int.reduceEq, Int.reduceNeg, Int.reduceAdd, Int.reduceSub, Int.reduceMul, h1]
    cases g
    · refine ax_cond2 ?_
      simp only [ev_tmp, ev_const, ev_func, upd_at, put_some, put_none, bndB_bool, Nat.reduceEqDiff, if_true, if_false, ↓reduceIte, reduceCtorEq]
      refine ⟨fun hc => hc.elim, fun _ => ?_⟩
      simp -implicitDefEqProofs only [go_sem, Nat.reduceAdd, Nat.reduceSub, Nat.reduceMul, Nat.reduceLT, Nat.reduceLeDiff, Nat.reduceEqDiff, Nat.reduceBEq, Nat.reduceGT, Nat.reduceMod, Nat.reduceDiv, ↓reduceIte, reduceCtorEq, Int.reduceLE, Int.reduceLT, Int.reduceToNat, Int.reduceEq, Int.reduceNeg, Int.reduceAdd, Int.reduceSub, Int.reduceMul, h4, res245]
      first | exact .app _ _ | exact ⟨.app _ _, rfl⟩
    · have a1 : IntKind.i64.wrap (0 - (valB m : Int)) = -(valB m : Int) := by rw [w64 (by omega) (by omega)]; omega
      refine ax_cond2 ?_
      simp only [ev_tmp, ev_const, ev_func, upd_at, put_some, put_none, bndB_bool, Nat.reduceEqDiff, if_true, if_false, ↓reduceIte, reduceCtorEq]
      refine ⟨fun _ => ?_, fun hc => hc.elim⟩
      simp -implicitDefEqProofs only [go_sem, Nat.reduceAdd, Nat.reduceSub, Nat.reduceMul, Nat.reduceLT, Nat.reduceLeDiff, Nat.reduceEqDiff, Nat.reduceBEq, Nat.reduceGT, Nat.reduceMod, Nat.reduceDiv, ↓reduceIte, reduceCtorEq, Int.reduceLE, Int.reduceLT, Int.reduceToNat, Int.reduceEq, Int.reduceNeg, Int.reduceAdd, Int.reduceSub, Int.reduceMul, h4, a1, res245]
      first | exact .app _ _ | exact ⟨.app _ _, rfl⟩
end Go.Proofs.YthhmkaikopdmjaaGreat
set_option linter.unusedSimpArgs false
set_option linter.unusedVariables false
set_option maxRecDepth 8000
set_option exponentiation.threshold 100
namespace Go.Proofs.YthhmkaikopdmjaaGreat
open Go Go.Fw

theorem pack_LN {H : Heap} {v : Value} {n : Nat} {g : Bool} (h : LN H v n) (hf : Fit n) : Sim Tryz.prog 161 #[.bool g, v] H (mkI (if g then -(n : Int) else n)) H := by
  obtain ⟨l, h1, h2⟩ := h
  exact pack_sim h1 h2.small h2.val (h2.short hf)
theorem fitB {m : List UInt8} (h : m.length ≤ 60000) : Fit (valB m) := valB_fit (by omega)
theorem fit_add {m m' : List UInt8} (h : m.length ≤ 60000) (h' : m'.length ≤ 60000) : Fit (valB m + valB m') := by
  have h1 := valB_lt2 m (k := 8 * m.length + 8 * m'.length) (by omega)
  have h2 := valB_lt2 m' (k := 8 * m.length + 8 * m'.length) (by omega)
  refine ⟨8 * m.length + 8 * m'.length + 1, by omega, ?_⟩
  rw [Nat.pow_succ]
  omega
theorem fit_mul {m m' : List UInt8} (h : m.length ≤ 60000) (h' : m'.length ≤ 60000) : Fit (valB m * valB m') :=
  ⟨8 * m.length + 8 * m'.length, by omega, lt_mul_pow (valB_lt2 m (Nat.le_refl _)) (valB_lt2 m' (Nat.le_refl _))⟩
theorem fit_le {n k : Nat} (h : Fit n) (hk : k ≤ n) : Fit k := by
  obtain ⟨j, h1, h2⟩ := h
  exact ⟨j, h1, by omega⟩
theorem load60 (m : List UInt8) (H : Heap) (hm : m.length ≤ 60000) : ∃ v H', Sim Tryz.prog 196 #[.string (bs m)] H v H' ∧ Ext H H' ∧ LN H' v (valB m) := load_sim m H (by omega)

theorem neg_sim (H : Heap) {g : Bool} {m : List UInt8} (hm : m.length ≤ 60000) : Sim Tryz.prog 160 #[iV g m] H (mkI (-(ival g m))) H := by
  refine flat_ex (flat_mkI _) ?_
  unfold iV
  refine sim_ex tok mixed Tryz.func160 rfl (by kernel_rfl) (by kernel_rfl) (by simp only [Tryz.ntmps160, List.size_toArray, List.length_cons, List.length_nil]; omega) ?_
  simp -implicitDefEqProofs only [go_sem, Nat.reduceAdd, Nat.reduceSub, Nat.reduceMul, Nat.reduceLT, Nat.reduceLeDiff, Nat.reduceEqDiff, Nat.reduceBEq, Nat.reduceGT, Nat.reduceMod, Nat.reduceDiv, ↓reduceIte, reduceCtorEq, Int.reduceLE, Int.reduceLT, Int.reduceToNat, Int.reduceEq, Int.reduceNeg, Int.reduceAdd, Int.reduceSub, Int.reduceMul]
  refine ax_quiet (by kernel_rfl) ?_
  simp -implicitDefEqProofs only [go_sem, Nat.reduceAdd, Nat.reduceSub, Nat.reduceMul, Nat.reduceLT, Nat.reduceLeDiff, Nat.reduceEqDiff, Nat.reduceBEq, Nat.reduceGT, Nat.reduceMod, Nat.reduceDiv, ↓reduceIte, reduceCtorEq, Int.reduceLE, Int.reduceLT, Int.reduceToNat, Int.reduceEq, Int.reduceNeg, Int.reduceAdd, Int.reduceSub, Int.reduceMul]
  refine wl_callX #[.string (bs m)] (by simp -implicitDefEqProofs only [go_sem, Nat.reduceAdd, Nat.reduceSub, Nat.reduceMul, Nat.reduceLT, Nat.reduceLeDiff, Nat.reduceEqDiff, Nat.reduceBEq, Nat.reduceGT, Nat.reduceMod, Nat.reduceDiv, ↓reduceIte, reduceCtorEq, Int.reduceLE, Int.reduceLT, Int.reduceToNat, Int.reduceEq, Int.reduceNeg, Int.reduceAdd, Int.reduceSub, Int.reduceMul]) (load60 m _ hm) ?_
  intro v G hv
  simp -implicitDefEqProofs only [go_sem, Nat.reduceAdd, Nat.reduceSub, Nat.reduceMul, Nat.reduceLT, Nat.reduceLeDiff, Nat.reduceEqDiff, Nat.reduceBEq, Nat.reduceGT, Nat.reduceMod, Nat.reduceDiv, ↓reduceIte, reduceCtorEq, Int.reduceLE, Int.reduceLT, Int.reduceToNat, Int.reduceEq, Int.reduceNeg, Int.reduceAdd, Int.reduceSub, Int.reduceMul]
  simp only [List.append_assoc, List.cons_append, List.nil_append] at hv
  refine wl_callV #[.bool (!g), v] (by simp -implicitDefEqProofs only [go_sem, Nat.reduceAdd, Nat.reduceSub, Nat.reduceMul, Nat.reduceLT, Nat.reduceLeDiff, Nat.reduceEqDiff, Nat.reduceBEq, Nat.reduceGT, Nat.reduceMod, Nat.reduceDiv, ↓reduceIte, reduceCtorEq, Int.reduceLE, Int.reduceLT, Int.reduceToNat, Int.reduceEq, Int.reduceNeg, Int.reduceAdd, Int.reduceSub, Int.reduceMul]) (pack_LN hv (fitB hm)) ?_
  have e : (if (!g) = true then -(valB m : Int) else (valB m : Int)) = -(ival g m) := by unfold ival; cases g <;> simp
  rw [e]
  unfold mkI iV
  simp -implicitDefEqProofs only [go_sem, Nat.reduceAdd, Nat.reduceSub, Nat.reduceMul, Nat.reduceLT, Nat.reduceLeDiff, Nat.reduceEqDiff, Nat.reduceBEq, Nat.reduceGT, Nat.reduceMod, Nat.reduceDiv, ↓reduceIte, reduceCtorEq, Int.reduceLE, Int.reduceLT, Int.reduceToNat, Int.reduceEq, Int.reduceNeg, Int.reduceAdd, Int.reduceSub, Int.reduceMul, res160]
  first | exact .app _ _ | exact ⟨.app _ _, rfl⟩

theorem beq4 (a b : Bool) : aBin tt .eql 4 (.bool a) (.bool b) = some (.bool (a == b)) := rfl
theorem bne4 (a b : Bool) : aBin tt .neq 4 (.bool a) (.bool b) = some (.bool (!(a == b))) := rfl

theorem times_LN {H : Heap} {v w : Value} {n k : Nat} (hv : LN H v n) (hw : LN H w k) (hn : Fit n) (hk : Fit k) : ∃ u H', Sim Tryz.prog 197 #[v, w] H u H' ∧ Ext H H' ∧ LN H' u (n * k) := by
  obtain ⟨l, h1, h2⟩ := hv
  obtain ⟨m, h3, h4⟩ := hw
  exact times_sim h1 h3 h2 h4 (by have := h2.short hn; omega) (by have := h4.short hk; omega)
theorem plus_LN {H : Heap} {v w : Value} {n k : Nat} (hv : LN H v n) (hw : LN H w k) (hn : Fit n) (hk : Fit k) : ∃ u H', Sim Tryz.prog 246 #[v, w] H u H' ∧ Ext H H' ∧ LN H' u (n + k) := by
  obtain ⟨l, h1, h2⟩ := hv
  obtain ⟨m, h3, h4⟩ := hw
  exact plus_sim h1 h3 h2 h4 (by have := h2.short hn; omega) (by have := h4.short hk; omega)
theorem minus_LN {H : Heap} {v w : Value} {n k : Nat} (hv : LN H v n) (hw : LN H w k) (hn : Fit n) (hk : k ≤ n) : ∃ u H', Sim Tryz.prog 247 #[v, w] H u H' ∧ Ext H H' ∧ LN H' u (n - k) := by
  obtain ⟨l, h1, h2⟩ := hv
  obtain ⟨m, h3, h4⟩ := hw
  exact minus_sim h1 h3 h2 h4 (by have := h2.short hn; omega) hk
theorem compare_LN {H : Heap} {v w : Value} {n k : Nat} (hv : LN H v n) (hw : LN H w k) (hn : Fit n) (hk : Fit k) : Sim Tryz.prog 208 #[v, w] H (.int .i64 (cmpN n k)) H := by
  obtain ⟨l, h1, h2⟩ := hv
  obtain ⟨m, h3, h4⟩ := hw
  exact compare_sim h1 h3 h2 h4 (h2.short hn) (h4.short hk)

theorem mul_sim (H : Heap) {g g' : Bool} {m m' : List UInt8} (hm : m.length ≤ 60000) (hm' : m'.length ≤ 60000) : Sim Tryz.prog 131 #[iV g m, iV g' m'] H (mkI (ival g m * ival g' m')) H := by
  refine flat_ex (flat_mkI _) ?_
  unfold iV
  refine sim_ex tok mixed Tryz.func131 rfl (by kernel_rfl) (by kernel_rfl) (by simp only [Tryz.ntmps131, List.size_toArray, List.length_cons, List.length_nil]; omega) ?_
  simp -implicitDefEqProofs only [go_sem, Nat.reduceAdd, Nat.reduceSub, Nat.reduceMul, Nat.reduceLT, Nat.reduceLeDiff, Nat.reduceEqDiff, Nat.reduceBEq, Nat.reduceGT, Nat.reduceMod, Nat.reduceDiv, ↓reduceIte, reduceCtorEq, Int.reduceLE, Int.reduceLT, Int.reduceToNat, Int.reduceEq, Int.reduceNeg, Int.reduceAdd, Int.reduceSub, Int.reduceMul]
  refine ax_quiet (by kernel_rfl) ?_
  simp -implicitDefEqProofs only [go_sem, Nat.reduceAdd, Nat.reduceSub, Nat.reduceMul, Nat.reduceLT, Nat.reduceLeDiff, Nat.reduceEqDiff, Nat.reduceBEq, Nat.reduceGT, Nat.reduceMod, Nat.reduceDiv, ↓reduceIte, reduceCtorEq, Int.reduceLE, Int.reduceLT, Int.reduceToNat, Int.reduceEq, Int.reduceNeg, Int.reduceAdd, Int.reduceSub, Int.reduceMul, bne4]
  refine wl_callX #[.string (bs m)] (by simp -implicitDefEqProofs only [go_sem, Nat.reduceAdd, Nat.reduceSub, Nat.reduceMul, Nat.reduceLT, Nat.reduceLeDiff, Nat.reduceEqDiff, Nat.reduceBEq, Nat.reduceGT, Nat.reduceMod, Nat.reduceDiv, ↓reduceIte, reduceCtorEq, Int.reduceLE, Int.reduceLT, Int.reduceToNat, Int.reduceEq, Int.reduceNeg, Int.reduceAdd, Int.reduceSub, Int.reduceMul]) (load60 m _ hm) ?_
  intro v G hv
  simp -implicitDefEqProofs only [go_sem, Nat.reduceAdd, Nat.reduceSub, Nat.reduceMul, Nat.reduceLT, Nat.reduceLeDiff, Nat.reduceEqDiff, Nat.reduceBEq, Nat.reduceGT, Nat.reduceMod, Nat.reduceDiv, ↓reduceIte, reduceCtorEq, Int.reduceLE, Int.reduceLT, Int.reduceToNat, Int.reduceEq, Int.reduceNeg, Int.reduceAdd, Int.reduceSub, Int.reduceMul]
  simp only [List.append_assoc, List.cons_append, List.nil_append] at hv
  refine wl_callX #[.string (bs m')] (by simp -implicitDefEqProofs only [go_sem, Nat.reduceAdd, Nat.reduceSub, Nat.reduceMul, Nat.reduceLT, Nat.reduceLeDiff, Nat.reduceEqDiff, Nat.reduceBEq, Nat.reduceGT, Nat.reduceMod, Nat.reduceDiv, ↓reduceIte, reduceCtorEq, Int.reduceLE, Int.reduceLT, Int.reduceToNat, Int.reduceEq, Int.reduceNeg, Int.reduceAdd, Int.reduceSub, Int.reduceMul]) (load60 m' _ hm') ?_
  intro w G' hw
  have hv := hv.app G'
  simp -implicitDefEqProofs only [go_sem, Nat.reduceAdd, Nat.reduceSub, Nat.reduceMul, Nat.reduceLT, Nat.reduceLeDiff, Nat.reduceEqDiff, Nat.reduceBEq, Nat.reduceGT, Nat.reduceMod, Nat.reduceDiv, ↓reduceIte, reduceCtorEq, Int.reduceLE, Int.reduceLT, Int.reduceToNat, Int.reduceEq, Int.reduceNeg, Int.reduceAdd, Int.reduceSub, Int.reduceMul]
  simp only [List.append_assoc, List.cons_append, List.nil_append] at hv hw
  refine wl_callX #[v, w] (by simp -implicitDefEqProofs only [go_sem, Nat.reduceAdd, Nat.reduceSub, Nat.reduceMul, Nat.reduceLT, Nat.reduceLeDiff, Nat.reduceEqDiff, Nat.reduceBEq, Nat.reduceGT, Nat.reduceMod, Nat.reduceDiv, ↓reduceIte, reduceCtorEq, Int.reduceLE, Int.reduceLT, Int.reduceToNat, Int.reduceEq, Int.reduceNeg, Int.reduceAdd, Int.reduceSub, Int.reduceMul]) (times_LN hv hw (fitB hm) (fitB hm')) ?_
  intro u G2 hu
  simp -implicitDefEqProofs only [go_sem, Nat.reduceAdd, Nat.reduceSub, Nat.reduceMul, Nat.reduceLT, Nat.reduceLeDiff, Nat.reduceEqDiff, Nat.reduceBEq, Nat.reduceGT, Nat.reduceMod, Nat.reduceDiv, ↓reduceIte, reduceCtorEq, Int.reduceLE, Int.reduceLT, Int.reduceToNat, Int.reduceEq, Int.reduceNeg, Int.reduceAdd, Int.reduceSub, Int.reduceMul]
  simp only [List.append_assoc, List.cons_append, List.nil_append] at hu
  refine wl_callV #[.bool (!(g == g')), u] (by simp -implicitDefEqProofs only [go_sem, Nat.reduceAdd, Nat.reduceSub, Nat.reduceMul, Nat.reduceLT, Nat.reduceLeDiff, Nat.reduceEqDiff, Nat.reduceBEq, Nat.reduceGT, Nat.reduceMod, Nat.reduceDiv, ↓reduceIte, reduceCtorEq, Int.reduceLE, Int.reduceLT, Int.reduceToNat, Int.reduceEq, Int.reduceNeg, Int.reduceAdd, Int.reduceSub, Int.reduceMul]) (pack_LN hu (fit_mul hm hm')) ?_
  have e : (if (!(g == g')) = true then -((valB m * valB m' : Nat) : Int) else ((valB m * valB m' : Nat) : Int)) = ival g m * ival g' m' := by
    unfold ival; cases g <;> cases g' <;> simp [Int.neg_mul, Int.mul_neg]
  rw [e]
  unfold mkI iV
  simp -implicitDefEqProofs only [go_sem, Nat.reduceAdd, Nat.reduceSub, Nat.reduceMul, Nat.reduceLT, Nat.reduceLeDiff, Nat.reduceEqDiff, Nat.reduceBEq, Nat.reduceGT, Nat.reduceMod, Nat.reduceDiv, ↓reduceIte, reduceCtorEq, Int.reduceLE, Int.reduceLT, Int.reduceToNat, Int.reduceEq, Int.reduceNeg, Int.reduceAdd, Int.reduceSub, Int.reduceMul, res131]
  first | exact .app _ _ | exact ⟨.app _ _, rfl⟩

theorem add_sim (H : Heap) {g g' : Bool} {m m' : List UInt8} (hm : m.length ≤ 60000) (hm' : m'.length ≤ 60000) : Sim Tryz.prog 193 #[iV g m, iV g' m'] H (mkI (ival g m + ival g' m')) H := by
  refine flat_ex (flat_mkI _) ?_
  have hil : ∀ (g : Bool) (m : List UInt8), m.length ≤ 7 → -72057594037927936 < ival g m ∧ ival g m < 72057594037927936 := by
    intro g m h
    have h1 := valB_lt m
    have h2 : 256 ^ m.length ≤ 256 ^ 7 := Nat.pow_le_pow_right (by decide) h
    have h3 : (256 : Nat) ^ 7 = 72057594037927936 := rfl
    unfold ival
    split <;> omega
  have lb := fun H => little_big H (g := g) (m := m)
  have ls := fun H => little_small H (g := g) (m := m)
  have lb' := fun H => little_big H (g := g') (m := m')
  have ls' := fun H => little_small H (g := g') (m := m')
  unfold iV at lb ls lb' ls' ⊢
  refine sim_ex tok mixed Tryz.func193 rfl (by kernel_rfl) (by kernel_rfl) (by simp only [Tryz.ntmps193, List.size_toArray, List.length_cons, List.length_nil]; omega) ?_
  simp -implicitDefEqProofs only [go_sem, Nat.reduceAdd, Nat.reduceSub, Nat.reduceMul, Nat.reduceLT, Nat.reduceLeDiff, Nat.reduceEqDiff, Nat.reduceBEq, Nat.reduceGT, Nat.reduceMod, Nat.reduceDiv, ↓reduceIte, reduceCtorEq, Int.reduceLE, Int.reduceLT, Int.reduceToNat, Int.reduceEq, Int.reduceNeg, Int.reduceAdd, Int.reduceSub, Int.reduceMul]
  have key : ∃ (x : Int) (b : Bool), (b = true → m.length ≤ 7 ∧ x = ival g m) ∧ ∀ H, Sim Tryz.prog 245 #[.agg #[.bool g, .string (bs m)]] H (.tuple #[.int .i64 x, .bool b]) H := by
    by_cases h : m.length ≤ 7
    · exact ⟨_, true, fun _ => ⟨h, rfl⟩, fun H => ls H h⟩
    · exact ⟨_, false, (fun e => by cases e), fun H => lb H (by omega)⟩
  obtain ⟨x, b, hxb, hlit⟩ := key
  refine wl_callV #[.agg #[.bool g, .string (bs m)]] (by simp -implicitDefEqProofs only [go_sem, Nat.reduceAdd, Nat.reduceSub, Nat.reduceMul, Nat.reduceLT, Nat.reduceLeDiff, Nat.reduceEqDiff, Nat.reduceBEq, Nat.reduceGT, Nat.reduceMod, Nat.reduceDiv, ↓reduceIte, reduceCtorEq, Int.reduceLE, Int.reduceLT, Int.reduceToNat, Int.reduceEq, Int.reduceNeg, Int.reduceAdd, Int.reduceSub, Int.reduceMul]) (hlit _) ?_
  simp -implicitDefEqProofs only [go_sem, Nat.reduceAdd, Nat.reduceSub, Nat.reduceMul, Nat.reduceLT, Nat.reduceLeDiff, Nat.reduceEqDiff, Nat.reduceBEq, Nat.reduceGT, Nat.reduceMod, Nat.reduceDiv, ↓reduceIte, reduceCtorEq, Int.reduceLE, Int.reduceLT, Int.reduceToNat, Int.reduceEq, Int.reduceNeg, Int.reduceAdd, Int.reduceSub, Int.reduceMul]
  refine ax_mid (fun s T => s 2 = .pointer (some ⟨H.length, 0, none⟩) ∧ s 3 = .pointer (some ⟨H.length + 1, 0, none⟩) ∧ s 4 = .pointer (some ⟨H.length + 2, 0, none⟩) ∧
    T = H ++ [⟨[.bool g, .string (bs m)], 1, true⟩, ⟨[.bool g', .string (bs m')], 1, true⟩, ⟨[.bool false, .string (bs [])], 1, true⟩]) ?_ ?_
  · cases b with
    | false =>
      refine ax_cond2 ?_
      simp only [ev_tmp, ev_const, ev_func, upd_at, put_some, put_none, bndB_bool, Nat.reduceEqDiff, if_true, if_false, ↓reduceIte, reduceCtorEq]
      refine ⟨fun hc => hc.elim, fun _ => ?_⟩
      simp -implicitDefEqProofs only [go_sem, Nat.reduceAdd, Nat.reduceSub, Nat.reduceMul, Nat.reduceLT, Nat.reduceLeDiff, Nat.reduceEqDiff, Nat.reduceBEq, Nat.reduceGT, Nat.reduceMod, Nat.reduceDiv, ↓reduceIte, reduceCtorEq, Int.reduceLE, Int.reduceLT, Int.reduceToNat, Int.reduceEq, Int.reduceNeg, Int.reduceAdd, Int.reduceSub, Int.reduceMul]
    | true =>
      refine ax_cond2 ?_
      simp only [ev_tmp, ev_const, ev_func, upd_at, put_some, put_none, bndB_bool, Nat.reduceEqDiff, if_true, if_false, ↓reduceIte, reduceCtorEq]
      refine ⟨fun _ => ?_, fun hc => hc.elim⟩
      obtain ⟨hm7, rfl⟩ := hxb rfl
      simp -implicitDefEqProofs only [go_sem, Nat.reduceAdd, Nat.reduceSub, Nat.reduceMul, Nat.reduceLT, Nat.reduceLeDiff, Nat.reduceEqDiff, Nat.reduceBEq, Nat.reduceGT, Nat.reduceMod, Nat.reduceDiv, ↓reduceIte, reduceCtorEq, Int.reduceLE, Int.reduceLT, Int.reduceToNat, Int.reduceEq, Int.reduceNeg, Int.reduceAdd, Int.reduceSub, Int.reduceMul]
      by_cases h' : m'.length ≤ 7
      · refine wl_callV #[.agg #[.bool g', .string (bs m')]] (by simp -implicitDefEqProofs only [go_sem, Nat.reduceAdd, Nat.reduceSub, Nat.reduceMul, Nat.reduceLT, Nat.reduceLeDiff, Nat.reduceEqDiff, Nat.reduceBEq, Nat.reduceGT, Nat.reduceMod, Nat.reduceDiv, ↓reduceIte, reduceCtorEq, Int.reduceLE, Int.reduceLT, Int.reduceToNat, Int.reduceEq, Int.reduceNeg, Int.reduceAdd, Int.reduceSub, Int.reduceMul]) (ls' _ h') ?_
        have i1 := hil g m hm7
        have i2 := hil g' m' h'
        have a1 : IntKind.i64.wrap (ival g m + ival g' m') = ival g m + ival g' m' := w64 (by omega) (by omega)
        simp -implicitDefEqProofs only [go_sem, Nat.reduceAdd, Nat.reduceSub, Nat.reduceMul, Nat.reduceLT, Nat.reduceLeDiff, Nat.reduceEqDiff, Nat.reduceBEq, Nat.reduceGT, Nat.reduceMod, Nat.reduceDiv, ↓reduceIte, reduceCtorEq, Int.reduceLE, Int.reduceLT, Int.reduceToNat, Int.reduceEq, Int.reduceNeg, Int.reduceAdd, Int.reduceSub, Int.reduceMul]
        refine ax_cond2 ?_
        simp only [ev_tmp, ev_const, ev_func, upd_at, put_some, put_none, bndB_bool, Nat.reduceEqDiff, if_true, if_false, ↓reduceIte, reduceCtorEq]
        refine ⟨fun _ => ?_, fun hc => hc.elim⟩
        simp -implicitDefEqProofs only [go_sem, Nat.reduceAdd, Nat.reduceSub, Nat.reduceMul, Nat.reduceLT, Nat.reduceLeDiff, Nat.reduceEqDiff, Nat.reduceBEq, Nat.reduceGT, Nat.reduceMod, Nat.reduceDiv, ↓reduceIte, reduceCtorEq, Int.reduceLE, Int.reduceLT, Int.reduceToNat, Int.reduceEq, Int.reduceNeg, Int.reduceAdd, Int.reduceSub, Int.reduceMul, a1]
        refine wl_callV #[.int .i64 (ival g m + ival g' m')] (by simp -implicitDefEqProofs only [go_sem, Nat.reduceAdd, Nat.reduceSub, Nat.reduceMul, Nat.reduceLT, Nat.reduceLeDiff, Nat.reduceEqDiff, Nat.reduceBEq, Nat.reduceGT, Nat.reduceMod, Nat.reduceDiv, ↓reduceIte, reduceCtorEq, Int.reduceLE, Int.reduceLT, Int.reduceToNat, Int.reduceEq, Int.reduceNeg, Int.reduceAdd, Int.reduceSub, Int.reduceMul]) (of_sim _ (by omega) (by omega)) ?_
        unfold mkI iV
        simp -implicitDefEqProofs only [go_sem, Nat.reduceAdd, Nat.reduceSub, Nat.reduceMul, Nat.reduceLT, Nat.reduceLeDiff, Nat.reduceEqDiff, Nat.reduceBEq, Nat.reduceGT, Nat.reduceMod, Nat.reduceDiv, ↓reduceIte, reduceCtorEq, Int.reduceLE, Int.reduceLT, Int.reduceToNat, Int.reduceEq, Int.reduceNeg, Int.reduceAdd, Int.reduceSub, Int.reduceMul, res193]
        first | exact .app _ _ | exact ⟨.app _ _, rfl⟩
      · refine wl_callV #[.agg #[.bool g', .string (bs m')]] (by simp -implicitDefEqProofs only [go_sem, Nat.reduceAdd, Nat.reduceSub, Nat.reduceMul, Nat.reduceLT, Nat.reduceLeDiff, Nat.reduceEqDiff, Nat.reduceBEq, Nat.reduceGT, Nat.reduceMod, Nat.reduceDiv, ↓reduceIte, reduceCtorEq, Int.reduceLE, Int.reduceLT, Int.reduceToNat, Int.reduceEq, Int.reduceNeg, Int.reduceAdd, Int.reduceSub, Int.reduceMul]) (lb' _ (by omega)) ?_
        simp -implicitDefEqProofs only [go_sem, Nat.reduceAdd, Nat.reduceSub, Nat.reduceMul, Nat.reduceLT, Nat.reduceLeDiff, Nat.reduceEqDiff, Nat.reduceBEq, Nat.reduceGT, Nat.reduceMod, Nat.reduceDiv, ↓reduceIte, reduceCtorEq, Int.reduceLE, Int.reduceLT, Int.reduceToNat, Int.reduceEq, Int.reduceNeg, Int.reduceAdd, Int.reduceSub, Int.reduceMul]
        refine ax_cond2 ?_
        simp only [ev_tmp, ev_const, ev_func, upd_at, put_some, put_none, bndB_bool, Nat.reduceEqDiff, if_true, if_false, ↓reduceIte, reduceCtorEq]
        refine ⟨fun hc => hc.elim, fun _ => ?_⟩
        simp -implicitDefEqProofs only [go_sem, Nat.reduceAdd, Nat.reduceSub, Nat.reduceMul, Nat.reduceLT, Nat.reduceLeDiff, Nat.reduceEqDiff, Nat.reduceBEq, Nat.reduceGT, Nat.reduceMod, Nat.reduceDiv, ↓reduceIte, reduceCtorEq, Int.reduceLE, Int.reduceLT, Int.reduceToNat, Int.reduceEq, Int.reduceNeg, Int.reduceAdd, Int.reduceSub, Int.reduceMul]
  clear hlit hxb ls lb ls' lb'
  rintro s T ⟨h2, h3, h4, hT⟩
  subst T
  simp -implicitDefEqProofs only [go_sem, Nat.reduceAdd, Nat.reduceSub, Nat.reduceMul, Nat.reduceLT, Nat.reduceLeDiff, Nat.reduceEqDiff, Nat.reduceBEq, Nat.reduceGT, Nat.reduceMod, Nat.reduceDiv, ↓reduceIte, reduceCtorEq, Int.reduceLE, Int.reduceLT, Int.reduceToNat, Int.reduceEq, Int.reduceNeg, Int.reduceAdd, Int.reduceSub, Int.reduceMul]
  refine ax_quiet (by kernel_rfl) ?_
  simp -implicitDefEqProofs only [go_sem, Nat.reduceAdd, Nat.reduceSub, Nat.reduceMul, Nat.reduceLT, Nat.reduceLeDiff, Nat.reduceEqDiff, Nat.reduceBEq, Nat.reduceGT, Nat.reduceMod, Nat.reduceDiv, ↓reduceIte, reduceCtorEq, Int.reduceLE, Int.reduceLT, Int.reduceToNat, Int.reduceEq, Int.reduceNeg, Int.reduceAdd, Int.reduceSub, Int.reduceMul, h2, h3, h4]
  refine wl_callX #[.string (bs m)] (by simp -implicitDefEqProofs only [go_sem, Nat.reduceAdd, Nat.reduceSub, Nat.reduceMul, Nat.reduceLT, Nat.reduceLeDiff, Nat.reduceEqDiff, Nat.reduceBEq, Nat.reduceGT, Nat.reduceMod, Nat.reduceDiv, ↓reduceIte, reduceCtorEq, Int.reduceLE, Int.reduceLT, Int.reduceToNat, Int.reduceEq, Int.reduceNeg, Int.reduceAdd, Int.reduceSub, Int.reduceMul]) (load60 m _ hm) ?_
  intro v G hv
  simp -implicitDefEqProofs only [go_sem, Nat.reduceAdd, Nat.reduceSub, Nat.reduceMul, Nat.reduceLT, Nat.reduceLeDiff, Nat.reduceEqDiff, Nat.reduceBEq, Nat.reduceGT, Nat.reduceMod, Nat.reduceDiv, ↓reduceIte, reduceCtorEq, Int.reduceLE, Int.reduceLT, Int.reduceToNat, Int.reduceEq, Int.reduceNeg, Int.reduceAdd, Int.reduceSub, Int.reduceMul, h2, h3, h4]
  simp only [List.append_assoc, List.cons_append, List.nil_append] at hv
  refine wl_callX #[.string (bs m')] (by simp -implicitDefEqProofs only [go_sem, Nat.reduceAdd, Nat.reduceSub, Nat.reduceMul, Nat.reduceLT, Nat.reduceLeDiff, Nat.reduceEqDiff, Nat.reduceBEq, Nat.reduceGT, Nat.reduceMod, Nat.reduceDiv, ↓reduceIte, reduceCtorEq, Int.reduceLE, Int.reduceLT, Int.reduceToNat, Int.reduceEq, Int.reduceNeg, Int.reduceAdd, Int.reduceSub, Int.reduceMul]) (load60 m' _ hm') ?_
  intro w G' hw
  have hv := hv.app G'
  simp only [List.append_assoc, List.cons_append, List.nil_append] at hv hw
  simp -implicitDefEqProofs only [go_sem, Nat.reduceAdd, Nat.reduceSub, Nat.reduceMul, Nat.reduceLT, Nat.reduceLeDiff, Nat.reduceEqDiff, Nat.reduceBEq, Nat.reduceGT, Nat.reduceMod, Nat.reduceDiv, ↓reduceIte, reduceCtorEq, Int.reduceLE, Int.reduceLT, Int.reduceToNat, Int.reduceEq, Int.reduceNeg, Int.reduceAdd, Int.reduceSub, Int.reduceMul, h2, h3, h4, beq4]
  by_cases hg : g = g'
  · subst hg
    have hbb : (g == g) = true := by cases g <;> rfl
    simp -implicitDefEqProofs only [go_sem, Nat.reduceAdd, Nat.reduceSub, Nat.reduceMul, Nat.reduceLT, Nat.reduceLeDiff, Nat.reduceEqDiff, Nat.reduceBEq, Nat.reduceGT, Nat.reduceMod, Nat.reduceDiv, ↓reduceIte, reduceCtorEq, Int.reduceLE, Int.reduceLT, Int.reduceToNat, Int.reduceEq, Int.reduceNeg, Int.reduceAdd, Int.reduceSub, Int.reduceMul, hbb]
    refine ax_cond2 ?_
    simp only [ev_tmp, ev_const, ev_func, upd_at, put_some, put_none, bndB_bool, Nat.reduceEqDiff, if_true, if_false, ↓reduceIte, reduceCtorEq]
    refine ⟨fun _ => ?_, fun hc => hc.elim⟩
    simp -implicitDefEqProofs only [go_sem, Nat.reduceAdd, Nat.reduceSub, Nat.reduceMul, Nat.reduceLT, Nat.reduceLeDiff, Nat.reduceEqDiff, Nat.reduceBEq, Nat.reduceGT, Nat.reduceMod, Nat.reduceDiv, ↓reduceIte, reduceCtorEq, Int.reduceLE, Int.reduceLT, Int.reduceToNat, Int.reduceEq, Int.reduceNeg, Int.reduceAdd, Int.reduceSub, Int.reduceMul]
    refine ax_quiet (by kernel_rfl) ?_
    simp -implicitDefEqProofs only [go_sem, Nat.reduceAdd, Nat.reduceSub, Nat.reduceMul, Nat.reduceLT, Nat.reduceLeDiff, Nat.reduceEqDiff, Nat.reduceBEq, Nat.reduceGT, Nat.reduceMod, Nat.reduceDiv, ↓reduceIte, reduceCtorEq, Int.reduceLE, Int.reduceLT, Int.reduceToNat, Int.reduceEq, Int.reduceNeg, Int.reduceAdd, Int.reduceSub, Int.reduceMul, h2, h3, h4]
    refine wl_callX #[v, w] (by simp -implicitDefEqProofs only [go_sem, Nat.reduceAdd, Nat.reduceSub, Nat.reduceMul, Nat.reduceLT, Nat.reduceLeDiff, Nat.reduceEqDiff, Nat.reduceBEq, Nat.reduceGT, Nat.reduceMod, Nat.reduceDiv, ↓reduceIte, reduceCtorEq, Int.reduceLE, Int.reduceLT, Int.reduceToNat, Int.reduceEq, Int.reduceNeg, Int.reduceAdd, Int.reduceSub, Int.reduceMul]) (plus_LN hv hw (fitB hm) (fitB hm')) ?_
    intro u G2 hu
    simp only [List.append_assoc, List.cons_append, List.nil_append] at hu
    simp -implicitDefEqProofs only [go_sem, Nat.reduceAdd, Nat.reduceSub, Nat.reduceMul, Nat.reduceLT, Nat.reduceLeDiff, Nat.reduceEqDiff, Nat.reduceBEq, Nat.reduceGT, Nat.reduceMod, Nat.reduceDiv, ↓reduceIte, reduceCtorEq, Int.reduceLE, Int.reduceLT, Int.reduceToNat, Int.reduceEq, Int.reduceNeg, Int.reduceAdd, Int.reduceSub, Int.reduceMul, h2, h3, h4]
    refine wl_callV #[.bool g, u] (by simp -implicitDefEqProofs only [go_sem, Nat.reduceAdd, Nat.reduceSub, Nat.reduceMul, Nat.reduceLT, Nat.reduceLeDiff, Nat.reduceEqDiff, Nat.reduceBEq, Nat.reduceGT, Nat.reduceMod, Nat.reduceDiv, ↓reduceIte, reduceCtorEq, Int.reduceLE, Int.reduceLT, Int.reduceToNat, Int.reduceEq, Int.reduceNeg, Int.reduceAdd, Int.reduceSub, Int.reduceMul]) (pack_LN hu (fit_add hm hm')) ?_
    have e : (if g = true then -((valB m + valB m' : Nat) : Int) else ((valB m + valB m' : Nat) : Int)) = ival g m + ival g m' := by
      unfold ival; cases g <;> simp <;> omega
    rw [e]
    unfold mkI iV
    simp -implicitDefEqProofs only [go_sem, Nat.reduceAdd, Nat.reduceSub, Nat.reduceMul, Nat.reduceLT, Nat.reduceLeDiff, Nat.reduceEqDiff, Nat.reduceBEq, Nat.reduceGT, Nat.reduceMod, Nat.reduceDiv, ↓reduceIte, reduceCtorEq, Int.reduceLE, Int.reduceLT, Int.reduceToNat, Int.reduceEq, Int.reduceNeg, Int.reduceAdd, Int.reduceSub, Int.reduceMul, h2, h3, h4, res193]
    first | exact .app _ _ | exact ⟨.app _ _, rfl⟩
  · have hbb : (g == g') = false := by cases g <;> cases g' <;> simp_all
    simp -implicitDefEqProofs only [go_sem, Nat.reduceAdd, Nat.reduceSub, Nat.reduceMul, Nat.reduceLT, Nat.reduceLeDiff, Nat.reduceEqDiff, Nat.reduceBEq, Nat.reduceGT, Nat.reduceMod, Nat.reduceDiv, ↓reduceIte, reduceCtorEq, Int.reduceLE, Int.reduceLT, Int.reduceToNat, Int.reduceEq, Int.reduceNeg, Int.reduceAdd, Int.reduceSub, Int.reduceMul, hbb]
    refine ax_cond2 ?_
    simp only [ev_tmp, ev_const, ev_func, upd_at, put_some, put_none, bndB_bool, Nat.reduceEqDiff, if_true, if_false, ↓reduceIte, reduceCtorEq]
    refine ⟨fun hc => hc.elim, fun _ => ?_⟩
    simp -implicitDefEqProofs only [go_sem, Nat.reduceAdd, Nat.reduceSub, Nat.reduceMul, Nat.reduceLT, Nat.reduceLeDiff, Nat.reduceEqDiff, Nat.reduceBEq, Nat.reduceGT, Nat.reduceMod, Nat.reduceDiv, ↓reduceIte, reduceCtorEq, Int.reduceLE, Int.reduceLT, Int.reduceToNat, Int.reduceEq, Int.reduceNeg, Int.reduceAdd, Int.reduceSub, Int.reduceMul]
    refine wl_callV #[v, w] (by simp -implicitDefEqProofs only [go_sem, Nat.reduceAdd, Nat.reduceSub, Nat.reduceMul, Nat.reduceLT, Nat.reduceLeDiff, Nat.reduceEqDiff, Nat.reduceBEq, Nat.reduceGT, Nat.reduceMod, Nat.reduceDiv, ↓reduceIte, reduceCtorEq, Int.reduceLE, Int.reduceLT, Int.reduceToNat, Int.reduceEq, Int.reduceNeg, Int.reduceAdd, Int.reduceSub, Int.reduceMul]) (compare_LN hv hw (fitB hm) (fitB hm')) ?_
    have hcmp := @cmpN_lt (valB m) (valB m')
    generalize cmpN (valB m) (valB m') = z at *
    by_cases hlt : valB m < valB m'
    · have hz := hcmp.2 hlt
      simp -implicitDefEqProofs only [go_sem, Nat.reduceAdd, Nat.reduceSub, Nat.reduceMul, Nat.reduceLT, Nat.reduceLeDiff, Nat.reduceEqDiff, Nat.reduceBEq, Nat.reduceGT, Nat.reduceMod, Nat.reduceDiv, ↓reduceIte, reduceCtorEq, Int.reduceLE, Int.reduceLT, Int.reduceToNat, Int.reduceEq, Int.reduceNeg, Int.reduceAdd, Int.reduceSub, Int.reduceMul, hz]
      refine ax_cond2 ?_
      simp only [ev_tmp, ev_const, ev_func, upd_at, put_some, put_none, bndB_bool, Nat.reduceEqDiff, if_true, if_false, ↓reduceIte, reduceCtorEq]
      refine ⟨fun _ => ?_, fun hc => hc.elim⟩
      simp -implicitDefEqProofs only [go_sem, Nat.reduceAdd, Nat.reduceSub, Nat.reduceMul, Nat.reduceLT, Nat.reduceLeDiff, Nat.reduceEqDiff, Nat.reduceBEq, Nat.reduceGT, Nat.reduceMod, Nat.reduceDiv, ↓reduceIte, reduceCtorEq, Int.reduceLE, Int.reduceLT, Int.reduceToNat, Int.reduceEq, Int.reduceNeg, Int.reduceAdd, Int.reduceSub, Int.reduceMul]
      refine ax_quiet (by kernel_rfl) ?_
      simp -implicitDefEqProofs only [go_sem, Nat.reduceAdd, Nat.reduceSub, Nat.reduceMul, Nat.reduceLT, Nat.reduceLeDiff, Nat.reduceEqDiff, Nat.reduceBEq, Nat.reduceGT, Nat.reduceMod, Nat.reduceDiv, ↓reduceIte, reduceCtorEq, Int.reduceLE, Int.reduceLT, Int.reduceToNat, Int.reduceEq, Int.reduceNeg, Int.reduceAdd, Int.reduceSub, Int.reduceMul, h2, h3, h4]
      refine wl_callX #[w, v] (by simp -implicitDefEqProofs only [go_sem, Nat.reduceAdd, Nat.reduceSub, Nat.reduceMul, Nat.reduceLT, Nat.reduceLeDiff, Nat.reduceEqDiff, Nat.reduceBEq, Nat.reduceGT, Nat.reduceMod, Nat.reduceDiv, ↓reduceIte, reduceCtorEq, Int.reduceLE, Int.reduceLT, Int.reduceToNat, Int.reduceEq, Int.reduceNeg, Int.reduceAdd, Int.reduceSub, Int.reduceMul]) (minus_LN hw hv (fitB hm') (by omega)) ?_
      intro u G2 hu
      simp only [List.append_assoc, List.cons_append, List.nil_append] at hu
      simp -implicitDefEqProofs only [go_sem, Nat.reduceAdd, Nat.reduceSub, Nat.reduceMul, Nat.reduceLT, Nat.reduceLeDiff, Nat.reduceEqDiff, Nat.reduceBEq, Nat.reduceGT, Nat.reduceMod, Nat.reduceDiv, ↓reduceIte, reduceCtorEq, Int.reduceLE, Int.reduceLT, Int.reduceToNat, Int.reduceEq, Int.reduceNeg, Int.reduceAdd, Int.reduceSub, Int.reduceMul, h2, h3, h4]
      refine wl_callV #[.bool g', u] (by simp -implicitDefEqProofs only [go_sem, Nat.reduceAdd, Nat.reduceSub, Nat.reduceMul, Nat.reduceLT, Nat.reduceLeDiff, Nat.reduceEqDiff, Nat.reduceBEq, Nat.reduceGT, Nat.reduceMod, Nat.reduceDiv, ↓reduceIte, reduceCtorEq, Int.reduceLE, Int.reduceLT, Int.reduceToNat, Int.reduceEq, Int.reduceNeg, Int.reduceAdd, Int.reduceSub, Int.reduceMul]) (pack_LN hu (fit_le (fitB hm') (by omega))) ?_
      have e : (if g' = true then -((valB m' - valB m : Nat) : Int) else ((valB m' - valB m : Nat) : Int)) = ival g m + ival g' m' := by
        unfold ival; cases g <;> cases g' <;> simp at hg ⊢ <;> omega
      rw [e]
      unfold mkI iV
      simp -implicitDefEqProofs only [go_sem, Nat.reduceAdd, Nat.reduceSub, Nat.reduceMul, Nat.reduceLT, Nat.reduceLeDiff, Nat.reduceEqDiff, Nat.reduceBEq, Nat.reduceGT, Nat.reduceMod, Nat.reduceDiv, ↓reduceIte, reduceCtorEq, Int.reduceLE, Int.reduceLT, Int.reduceToNat, Int.reduceEq, Int.reduceNeg, Int.reduceAdd, Int.reduceSub, Int.reduceMul, h2, h3, h4, res193]
      first | exact .app _ _ | exact ⟨.app _ _, rfl⟩
    · have hz : ¬ z < 0 := fun h => hlt (hcmp.1 h)
      simp -implicitDefEqProofs only [go_sem, Nat.reduceAdd, Nat.reduceSub, Nat.reduceMul, Nat.reduceLT, Nat.reduceLeDiff, Nat.reduceEqDiff, Nat.reduceBEq, Nat.reduceGT, Nat.reduceMod, Nat.reduceDiv, ↓reduceIte, reduceCtorEq, Int.reduceLE, Int.reduceLT, Int.reduceToNat, Int.reduceEq, Int.reduceNeg, Int.reduceAdd, Int.reduceSub, Int.reduceMul, hz]
      refine ax_cond2 ?_
      simp only [ev_tmp, ev_const, ev_func, upd_at, put_some, put_none, bndB_bool, Nat.reduceEqDiff, if_true, if_false, ↓reduceIte, reduceCtorEq]
      refine ⟨fun hc => hc.elim, fun _ => ?_⟩
      simp -implicitDefEqProofs only [go_sem, Nat.reduceAdd, Nat.reduceSub, Nat.reduceMul, Nat.reduceLT, Nat.reduceLeDiff, Nat.reduceEqDiff, Nat.reduceBEq, Nat.reduceGT, Nat.reduceMod, Nat.reduceDiv, ↓reduceIte, reduceCtorEq, Int.reduceLE, Int.reduceLT, Int.reduceToNat, Int.reduceEq, Int.reduceNeg, Int.reduceAdd, Int.reduceSub, Int.reduceMul]
      refine ax_quiet (by kernel_rfl) ?_
      simp -implicitDefEqProofs only [go_sem, Nat.reduceAdd, Nat.reduceSub, Nat.reduceMul, Nat.reduceLT, Nat.reduceLeDiff, Nat.reduceEqDiff, Nat.reduceBEq, Nat.reduceGT, Nat.reduceMod, Nat.reduceDiv, ↓reduceIte, reduceCtorEq, Int.reduceLE, Int.reduceLT, Int.reduceToNat, Int.reduceEq, Int.reduceNeg, Int.reduceAdd, Int.reduceSub, Int.reduceMul, h2, h3, h4]
      refine wl_callX #[v, w] (by simp -implicitDefEqProofs only [go_sem, Nat.reduceAdd, Nat.reduceSub, Nat.reduceMul, Nat.reduceLT, Nat.reduceLeDiff, Nat.reduceEqDiff, Nat.reduceBEq, Nat.reduceGT, Nat.reduceMod, Nat.reduceDiv, ↓reduceIte, reduceCtorEq, Int.reduceLE, Int.reduceLT, Int.reduceToNat, Int.reduceEq, Int.reduceNeg, Int.reduceAdd, Int.reduceSub, Int.reduceMul]) (minus_LN hv hw (fitB hm) (by omega)) ?_
      intro u G2 hu
      simp only [List.append_assoc, List.cons_append, List.nil_append] at hu
      simp -implicitDefEqProofs only [go_sem, Nat.reduceAdd, Nat.reduceSub, Nat.reduceMul, Nat.reduceLT, Nat.reduceLeDiff, Nat.reduceEqDiff, Nat.reduceBEq, Nat.reduceGT, Nat.reduceMod, Nat.reduceDiv, ↓reduceIte, reduceCtorEq, Int.reduceLE, Int.reduceLT, Int.reduceToNat, Int.reduceEq, Int.reduceNeg, Int.reduceAdd, Int.reduceSub, Int.reduceMul, h2, h3, h4]
      refine wl_callV #[.bool g, u] (by simp -implicitDefEqProofs only [go_sem, Nat.reduceAdd, Nat.reduceSub, Nat.reduceMul, Nat.reduceLT, Nat.reduceLeDiff, Nat.reduceEqDiff, Nat.reduceBEq, Nat.reduceGT, Nat.reduceMod, Nat.reduceDiv, ↓reduceIte, reduceCtorEq, Int.reduceLE, Int.reduceLT, Int.reduceToNat, Int.reduceEq, Int.reduceNeg, Int.reduceAdd, Int.reduceSub, Int.reduceMul]) (pack_LN hu (fit_le (fitB hm) (by omega))) ?_
      have e : (if g = true then -((valB m - valB m' : Nat) : Int) else ((valB m - valB m' : Nat) : Int)) = ival g m + ival g' m' := by
        unfold ival; cases g <;> cases g' <;> simp at hg ⊢ <;> omega
      rw [e]
      unfold mkI iV
      simp -implicitDefEqProofs only [go_sem, Nat.reduceAdd, Nat.reduceSub, Nat.reduceMul, Nat.reduceLT, Nat.reduceLeDiff, Nat.reduceEqDiff, Nat.reduceBEq, Nat.reduceGT, Nat.reduceMod, Nat.reduceDiv, ↓reduceIte, reduceCtorEq, Int.reduceLE, Int.reduceLT, Int.reduceToNat, Int.reduceEq, Int.reduceNeg, Int.reduceAdd, Int.reduceSub, Int.reduceMul, h2, h3, h4, res193]
      first | exact .app _ _ | exact ⟨.app _ _, rfl⟩

theorem ival_not (g : Bool) (m : List UInt8) : ival (!g) m = -(ival g m) := by unfold ival; cases g <;> simp
theorem sub_sim (H : Heap) {g g' : Bool} {m m' : List UInt8} (hm : m.length ≤ 60000) (hm' : m'.length ≤ 60000) : Sim Tryz.prog 217 #[iV g m, iV g' m'] H (mkI (ival g m - ival g' m')) H := by
  refine flat_ex (flat_mkI _) ?_
  have ha := fun H => add_sim H (g := g) (g' := !g') (m := m) (m' := m') hm hm'
  rw [ival_not, ← Int.sub_eq_add_neg] at ha
  unfold iV at ha ⊢
  refine sim_ex tok mixed Tryz.func217 rfl (by kernel_rfl) (by kernel_rfl) (by simp only [Tryz.ntmps217, List.size_toArray, List.length_cons, List.length_nil]; omega) ?_
  simp -implicitDefEqProofs only [go_sem, Nat.reduceAdd, Nat.reduceSub, Nat.reduceMul, Nat.reduceLT, Nat.reduceLeDiff, Nat.reduceEqDiff, Nat.reduceBEq, Nat.reduceGT, Nat.reduceMod, Nat.reduceDiv, ↓reduceIte, reduceCtorEq, Int.reduceLE, Int.reduceLT, Int.reduceToNat, Int.reduceEq, Int.reduceNeg, Int.reduceAdd, Int.reduceSub, Int.reduceMul]
  refine wl_callV #[_, _] (by simp -implicitDefEqProofs only [go_sem, Nat.reduceAdd, Nat.reduceSub, Nat.reduceMul, Nat.reduceLT, Nat.reduceLeDiff, Nat.reduceEqDiff, Nat.reduceBEq, Nat.reduceGT, Nat.reduceMod, Nat.reduceDiv, ↓reduceIte, reduceCtorEq, Int.reduceLE, Int.reduceLT, Int.reduceToNat, Int.reduceEq, Int.reduceNeg, Int.reduceAdd, Int.reduceSub, Int.reduceMul]) (ha _) ?_
  unfold mkI iV
  simp -implicitDefEqProofs only [go_sem, Nat.reduceAdd, Nat.reduceSub, Nat.reduceMul, Nat.reduceLT, Nat.reduceLeDiff, Nat.reduceEqDiff, Nat.reduceBEq, Nat.reduceGT, Nat.reduceMod, Nat.reduceDiv, ↓reduceIte, reduceCtorEq, Int.reduceLE, Int.reduceLT, Int.reduceToNat, Int.reduceEq, Int.reduceNeg, Int.reduceAdd, Int.reduceSub, Int.reduceMul, res217]
  first | exact .app _ _ | exact ⟨.app _ _, rfl⟩
end Go.Proofs.YthhmkaikopdmjaaGreat
