/- the reference of bigint: divMag; the reference of bigint: Gcd; the reference of bigint: Div; the reference of rational: number, digits, small; the reference of rational: pack, parts; the reference of rational: reduce, New, Ratio, Of, integer; the reference of rational: Normal, Check, Neg, Add, Mul, Sub, Compare; the reference of rational: Sign, Sub, Quo, Floor, Ceil, simplest, Simplest; the reference of rational: simplest, Simplest; the reference of rotation: over, back, then, upper, compare, Check; the reference of rotation: None, Then, Compare, Of, Middle; the reference of slices: less, Check, Long, Great, find, Find; the reference of slices: find, Find; the law SlicesFinds; a refined list: the plain law; a refined list: how many lie between; Refine of one slice; slices.Insert: no room, and room; slices.Insert: in place, and at the end; slices.Insert: whatever the capacity; narrows/slices: Insert; insertions, as lists; narrowsref45: insert, Insert; narrowsref45: Insert, Refine; narrows/slices.Refine with its errors. Conditions: none. -/
import Derived.Test.YthhmkaikopdmjaaGreatMf
set_option linter.unusedSimpArgs false
set_option linter.unusedVariables false
set_option maxRecDepth 8000
namespace Go.Proofs.YthhmkaikopdmjaaGreat
open Go Go.Fw
def strs (l : List (List UInt8)) : List Value := l.map fun s => Value.string (bs s)
theorem strs_length (l : List (List UInt8)) : (strs l).length = l.length := by simp [strs]
theorem strs_wr {l : List (List UInt8)} {L : Heap} {k : Nat} {b : List UInt8} (h : k < l.length) : wr (⟨strs l, 1, true⟩ :: L) 0 k [.string (bs b)] = some (⟨strs (l.set k b), 1, true⟩ :: L) := by
  rw [wr_eq]
  simp only [List.getElem?_cons_zero, List.set_cons_zero]
  rw [if_pos (by simp [strs_length, allC, isCell]; omega), splice_one _ _ _ (by rw [strs_length]; exact h)]
  simp [strs, List.map_set]
theorem strs_rd1 {l : List (List UInt8)} {L : Heap} {k : Nat} {x : List UInt8} (h : l[k]? = some x) : rd (⟨strs l, 1, true⟩ :: L) 0 k 1 = some [.string (bs x)] := by
  have hk := (List.getElem?_eq_some_iff.1 h).1
  unfold rd
  simp only [List.getElem?_cons_zero]
  rw [if_pos (by simp [strs_length]; omega)]
  congr 1
  apply List.ext_getElem?
  intro j
  simp only [List.getElem?_take, List.getElem?_drop, strs, List.getElem?_map]
  cases j with
  | zero => simp [h]
  | succ j => simp
theorem str_slice1 (H : Heap) {l : List UInt8} {i : Nat} (h : i < l.length) : aSlice tt H 9 (.string (bs l)) (some (.int .i64 (i : Nat))) (some (.int .i64 ((i + 1 : Nat) : Int))) none = some (.string (bs [l[i]])) := by
  have e0 : (0 : Int) ≤ (i : Int) := by omega
  have e1 : (0 : Int) ≤ ((i + 1 : Nat) : Int) := by omega
  have e2 : i ≤ i + 1 ∧ i + 1 ≤ (bs l).size := ⟨by omega, by rw [bs_size]; omega⟩
  have e3 : (l.drop i).take (i + 1 - i) = [l[i]] := by rw [List.drop_eq_getElem_cons h, show i + 1 - i = 1 by omega]; rfl
  simp only [aSlice, tt9, bnd, if_pos e0, if_pos e1, Int.toNat_natCast]
  rw [if_pos e2, bs_extract, e3]
theorem bs_add {l m : List UInt8} (h : l.length + m.length ≤ 1099511627776) (t : TypeId) : aBin tt .add t (.string (bs l)) (.string (bs m)) = some (.string (bs (l ++ m))) := by
  have e : bs l ++ bs m = bs (l ++ m) := by
    have h2 : bl (bs l ++ bs m) = l ++ m := by simp [bl, bs]
    rw [← bs_bl (bs l ++ bs m), h2]
  simp only [aBin, aStr, bs_size, if_pos h, e]
theorem divMagR (H : Heap) {l : List UInt8} {D : Nat} (hl : l.length ≤ 900000) (hD : 0 < D) (hDl : (digB D).length ≤ 900000) :
    Sim Tryz.prog 226 #[.string (bs l), .string (bs (digB D))] H (.tuple #[.string (bs (digB (valB l / D))), .string (bs (digB (valB l % D)))]) H := by
  refine flat_ex rfl ?_
  have hre : ∀ T : Heap, T ++ [(⟨[.string (bs []), .string (bs []), .string (bs []), .string (bs []), .string (bs []), .string (bs []), .string (bs []), .string (bs [])], 1, true⟩ : Blk)] = T ++ [⟨strs (List.replicate 8 []), 1, true⟩] := fun _ => rfl
  have hw0 := strs_wr (l := List.replicate 8 []) (L := []) (k := 0) (b := digB D) (by decide)
  refine sxA tok mixed Tryz.func226 ?_
  simp -implicitDefEqProofs only [go_sem, Nat.reduceAdd, Nat.reduceSub, Nat.reduceMul, Nat.reduceLT, Nat.reduceLeDiff, Nat.reduceEqDiff, Nat.reduceBEq, Nat.reduceGT, Nat.reduceMod, Nat.reduceDiv, ↓reduceIte, reduceCtorEq, Int.reduceLE, Int.reduceLT, Int.reduceToNat, Int.reduceEq, Int.reduceNeg, Int.reduceAdd, Int.reduceSub, Int.reduceMul]
  rw [hre]
  simp -implicitDefEqProofs only [go_sem, Nat.reduceAdd, Nat.reduceSub, Nat.reduceMul, Nat.reduceLT, Nat.reduceLeDiff, Nat.reduceEqDiff, Nat.reduceBEq, Nat.reduceGT, Nat.reduceMod, Nat.reduceDiv, ↓reduceIte, reduceCtorEq, Int.reduceLE, Int.reduceLT, Int.reduceToNat, Int.reduceEq, Int.reduceNeg, Int.reduceAdd, Int.reduceSub, Int.reduceMul, aIndexAddr, hw0, show (0 : Int) < ((8 : Nat) : Int) from by decide]
  refine ax_midl (fun s T => ∃ ts : List (List UInt8), s 0 = .string (bs l) ∧ s 6 = .pointer (some ⟨H.length, 0, none⟩) ∧ ts.length = 8 ∧ (∀ j, j < 8 → ts[j]? = some (digB (D * 2 ^ j))) ∧ T = H ++ [⟨strs ts, 1, true⟩]) ?_ ?_
  · refine ax_loopx (fun (i : Nat) s T => ∃ ts : List (List UInt8), s 0 = .string (bs l) ∧ s 6 = .pointer (some ⟨H.length, 0, none⟩) ∧ s 7 = .int .i64 ((i + 1 : Nat) : Int) ∧ i ≤ 7 ∧ ts.length = 8 ∧ (∀ j, j ≤ i → ts[j]? = some (digB (D * 2 ^ j))) ∧ T = H ++ [⟨strs ts, 1, true⟩]) (fun i => 7 - i) 0 ?_ ?_
    · refine ⟨(List.replicate 8 []).set 0 (digB D), ?_⟩
      simp -implicitDefEqProofs only [go_sem, Nat.reduceAdd, Nat.reduceSub, Nat.reduceMul, Nat.reduceLT, Nat.reduceLeDiff, Nat.reduceEqDiff, Nat.reduceBEq, Nat.reduceGT, Nat.reduceMod, Nat.reduceDiv, ↓reduceIte, reduceCtorEq, Int.reduceLE, Int.reduceLT, Int.reduceToNat, Int.reduceEq, Int.reduceNeg, Int.reduceAdd, Int.reduceSub, Int.reduceMul]
      refine ⟨rfl, fun j hj => ?_⟩
      have : j = 0 := by omega
      subst this
      simp
    rintro i s T ⟨ts, s0, s6, s7, hi, hts, hv, rfl⟩
    simp -implicitDefEqProofs only [go_sem, Nat.reduceAdd, Nat.reduceSub, Nat.reduceMul, Nat.reduceLT, Nat.reduceLeDiff, Nat.reduceEqDiff, Nat.reduceBEq, Nat.reduceGT, Nat.reduceMod, Nat.reduceDiv, ↓reduceIte, reduceCtorEq, Int.reduceLE, Int.reduceLT, Int.reduceToNat, Int.reduceEq, Int.reduceNeg, Int.reduceAdd, Int.reduceSub, Int.reduceMul, s7]
    refine ax_cond2 ?_
    simp only [ev_tmp, ev_const, ev_func, upd_at, put_some, put_none, bndB_bool, Nat.reduceEqDiff, if_true, if_false, ↓reduceIte, reduceCtorEq]
    refine ⟨fun hc0 => have hlt := of_decide_eq_true hc0; ?_, fun hc0 => have hlt := of_decide_eq_false hc0; ?_⟩
    · have hi7 : i < 7 := by omega
      have hti := hv i (Nat.le_refl _)
      have hsz : (digB (D * 2 ^ i)).length ≤ 1000000 := by
        refine Nat.le_trans (digB_len _ ((digB D).length + 1) ?_) (by omega)
        have h1 := valB_lt (digB D)
        rw [valB_dig] at h1
        have h2 : 2 ^ i ≤ 2 ^ 7 := Nat.pow_le_pow_right (by decide) (by omega)
        rw [Nat.pow_succ]
        have h3 : D * 2 ^ i ≤ D * 2 ^ 7 := Nat.mul_le_mul_left _ h2
        omega
      have o1 := fun H => addMagR H (l := digB (D * 2 ^ i)) (m := digB (D * 2 ^ i)) hsz hsz
      have hdbl : valB (digB (D * 2 ^ i)) + valB (digB (D * 2 ^ i)) = D * 2 ^ (i + 1) := by rw [valB_dig, Nat.pow_succ, ← Nat.mul_assoc]; omega
      rw [hdbl] at o1
      have a1 : IntKind.i64.wrap (((i + 1 : Nat) : Int) - 1) = (i : Int) := by rw [w64 (by omega) (by omega)]; omega
      have a2 : IntKind.i64.wrap (((i + 1 : Nat) : Int) + 1) = ((i + 1 + 1 : Nat) : Int) := by rw [w64 (by omega) (by omega)]; rfl
      have hi1 : (0 : Int) ≤ (i : Int) ∧ (i : Int) < ((8 : Nat) : Int) := by omega
      have hi2 : (0 : Int) ≤ ((i + 1 : Nat) : Int) ∧ ((i + 1 : Nat) : Int) < ((8 : Nat) : Int) := by omega
      have hrd := strs_rd1 (L := []) hti
      have hwr := strs_wr (l := ts) (L := []) (k := i + 1) (b := digB (D * 2 ^ (i + 1))) (by omega)
      have hts2 : (ts.set (i + 1) (digB (D * 2 ^ (i + 1)))).length = 8 := by simpa using hts
      have hv2 : ∀ j, j ≤ i + 1 → (ts.set (i + 1) (digB (D * 2 ^ (i + 1))))[j]? = some (digB (D * 2 ^ j)) := by
        intro j hj
        by_cases hje : j = i + 1
        · subst hje; rw [List.getElem?_set_self (by omega)]
        · rw [List.getElem?_set_ne (by omega)]; exact hv j (by omega)
      generalize ts.set (i + 1) (digB (D * 2 ^ (i + 1))) = ts2 at *
      simp -implicitDefEqProofs only [go_sem, Nat.reduceAdd, Nat.reduceSub, Nat.reduceMul, Nat.reduceLT, Nat.reduceLeDiff, Nat.reduceEqDiff, Nat.reduceBEq, Nat.reduceGT, Nat.reduceMod, Nat.reduceDiv, ↓reduceIte, reduceCtorEq, Int.reduceLE, Int.reduceLT, Int.reduceToNat, Int.reduceEq, Int.reduceNeg, Int.reduceAdd, Int.reduceSub, Int.reduceMul]
      refine ax_quiet (by kernel_rfl) ?_
      simp -implicitDefEqProofs only [go_sem, Nat.reduceAdd, Nat.reduceSub, Nat.reduceMul, Nat.reduceLT, Nat.reduceLeDiff, Nat.reduceEqDiff, Nat.reduceBEq, Nat.reduceGT, Nat.reduceMod, Nat.reduceDiv, ↓reduceIte, reduceCtorEq, Int.reduceLE, Int.reduceLT, Int.reduceToNat, Int.reduceEq, Int.reduceNeg, Int.reduceAdd, Int.reduceSub, Int.reduceMul, s6, s7, a1, aIndexAddr, hi1, hi2, Nat.mul_one, hrd]
      refine kv (o1 _) ?_
      simp -implicitDefEqProofs only [go_sem, Nat.reduceAdd, Nat.reduceSub, Nat.reduceMul, Nat.reduceLT, Nat.reduceLeDiff, Nat.reduceEqDiff, Nat.reduceBEq, Nat.reduceGT, Nat.reduceMod, Nat.reduceDiv, ↓reduceIte, reduceCtorEq, Int.reduceLE, Int.reduceLT, Int.reduceToNat, Int.reduceEq, Int.reduceNeg, Int.reduceAdd, Int.reduceSub, Int.reduceMul, s0, s6, s7, aIndexAddr, hi1, hi2, Nat.mul_one, hwr, a2]
      exact ⟨i + 1, ⟨ts2, rfl, by omega, hts2, hv2, rfl⟩, by omega⟩
    · have : i = 7 := by omega
      subst this
      simp -implicitDefEqProofs only [go_sem, Nat.reduceAdd, Nat.reduceSub, Nat.reduceMul, Nat.reduceLT, Nat.reduceLeDiff, Nat.reduceEqDiff, Nat.reduceBEq, Nat.reduceGT, Nat.reduceMod, Nat.reduceDiv, ↓reduceIte, reduceCtorEq, Int.reduceLE, Int.reduceLT, Int.reduceToNat, Int.reduceEq, Int.reduceNeg, Int.reduceAdd, Int.reduceSub, Int.reduceMul, s0, s6]
      exact ⟨ts, hts, fun j hj => hv j (by omega), rfl⟩
  rintro s T ⟨ts, s0, s6, hts, hv, rfl⟩
  have hmk := make_u8 (H ++ [⟨strs ts, 1, true⟩]) l.length (by omega)
  simp -implicitDefEqProofs only [go_sem, Nat.reduceAdd, Nat.reduceSub, Nat.reduceMul, Nat.reduceLT, Nat.reduceLeDiff, Nat.reduceEqDiff, Nat.reduceBEq, Nat.reduceGT, Nat.reduceMod, Nat.reduceDiv, ↓reduceIte, reduceCtorEq, Int.reduceLE, Int.reduceLT, Int.reduceToNat, Int.reduceEq, Int.reduceNeg, Int.reduceAdd, Int.reduceSub, Int.reduceMul] at hmk
  simp -implicitDefEqProofs only [go_sem, Nat.reduceAdd, Nat.reduceSub, Nat.reduceMul, Nat.reduceLT, Nat.reduceLeDiff, Nat.reduceEqDiff, Nat.reduceBEq, Nat.reduceGT, Nat.reduceMod, Nat.reduceDiv, ↓reduceIte, reduceCtorEq, Int.reduceLE, Int.reduceLT, Int.reduceToNat, Int.reduceEq, Int.reduceNeg, Int.reduceAdd, Int.reduceSub, Int.reduceMul, s0, aLen, hmk]
  have hD1 : ∀ x : Nat, x % D < D := fun x => Nat.mod_lt x hD
  have hDlen : ∀ x : Nat, x < D → (digB x).length ≤ 900000 := fun x hx => Nat.le_trans (ltlen (n := D) (k := x) (.inr (by omega))) hDl
  refine ax_midl (fun s T => ∃ o : List UInt8, s 8 = .slice (some ⟨H.length + 1, 0, none⟩) l.length l.length ∧ s 9 = .string (bs (digB (valB l % D))) ∧ o.length = l.length ∧ valB o = valB l / D ∧ T = H ++ [⟨strs ts, 1, true⟩, ⟨u8s o, 1, true⟩]) ?_ ?_
  · refine ax_loopx (fun (i : Nat) s T => ∃ o : List UInt8, s 0 = .string (bs l) ∧ s 6 = .pointer (some ⟨H.length, 0, none⟩) ∧ s 8 = .slice (some ⟨H.length + 1, 0, none⟩) l.length l.length ∧ s 9 = .string (bs (digB (valB (l.take i) % D))) ∧ s 10 = .int .i64 (i : Nat) ∧ i ≤ l.length ∧ o.length = l.length ∧
      valB (o.take i) = valB (l.take i) / D ∧ T = H ++ [⟨strs ts, 1, true⟩, ⟨u8s o, 1, true⟩]) (fun i => l.length - i) 0 ?_ ?_
    · refine ⟨List.replicate l.length 0, ?_⟩
      simp -implicitDefEqProofs only [go_sem, Nat.reduceAdd, Nat.reduceSub, Nat.reduceMul, Nat.reduceLT, Nat.reduceLeDiff, Nat.reduceEqDiff, Nat.reduceBEq, Nat.reduceGT, Nat.reduceMod, Nat.reduceDiv, ↓reduceIte, reduceCtorEq, Int.reduceLE, Int.reduceLT, Int.reduceToNat, Int.reduceEq, Int.reduceNeg, Int.reduceAdd, Int.reduceSub, Int.reduceMul, show valB [] = 0 from rfl, Nat.zero_mod, digB_zero, s6]
      refine ⟨s0, ?_, (Nat.zero_div D).symm⟩; simp
    clear s0 s6 hmk
    rintro i s T ⟨o, s0, s6, s8, s9, s10, hi, ho, hvo, rfl⟩
    simp -implicitDefEqProofs only [go_sem, Nat.reduceAdd, Nat.reduceSub, Nat.reduceMul, Nat.reduceLT, Nat.reduceLeDiff, Nat.reduceEqDiff, Nat.reduceBEq, Nat.reduceGT, Nat.reduceMod, Nat.reduceDiv, ↓reduceIte, reduceCtorEq, Int.reduceLE, Int.reduceLT, Int.reduceToNat, Int.reduceEq, Int.reduceNeg, Int.reduceAdd, Int.reduceSub, Int.reduceMul, s0, s10, aLen]
    refine ax_cond2 ?_
    simp only [ev_tmp, ev_const, ev_func, upd_at, put_some, put_none, bndB_bool, Nat.reduceEqDiff, if_true, if_false, ↓reduceIte, reduceCtorEq]
    refine ⟨fun hc0 => have hlt := of_decide_eq_true hc0; ?_, fun hc0 => have hlt := of_decide_eq_false hc0; ?_⟩
    · have hil : i < l.length := by omega
      have hsl := fun H => str_slice1 H hil
      have hPD := hD1 (valB (l.take i))
      have hadd := fun t => bs_add (l := digB (valB (l.take i) % D)) (m := [l[i]]) (by have := hDlen _ hPD; simp; omega) t
      have o1 := fun H => trimR H (digB (valB (l.take i) % D) ++ [l[i]])
      have hx : (l[i]).toNat < 256 := UInt8.toNat_lt _
      rw [digB_strip, valB_snoc, valB_dig] at o1
      have hts := valB_take_succ hil
      have hdiv : valB (l.take (i + 1)) / D = (valB (l.take i) / D) * 256 + (valB (l.take i) % D * 256 + (l[i]).toNat) / D := by
        have e : valB (l.take (i + 1)) = D * (valB (l.take i) / D * 256) + (valB (l.take i) % D * 256 + (l[i]).toNat) := by
          rw [hts]
          conv => lhs; rw [← Nat.div_add_mod (valB (l.take i)) D]
          rw [Nat.add_mul, Nat.mul_assoc, Nat.add_assoc]
        rw [e, Nat.mul_add_div hD]
      have hmod : valB (l.take (i + 1)) % D = (valB (l.take i) % D * 256 + (l[i]).toNat) % D := by
        have e : valB (l.take (i + 1)) = D * (valB (l.take i) / D * 256) + (valB (l.take i) % D * 256 + (l[i]).toNat) := by
          rw [hts]
          conv => lhs; rw [← Nat.div_add_mod (valB (l.take i)) D]
          rw [Nat.add_mul, Nat.mul_assoc, Nat.add_assoc]
        rw [e, Nat.mul_add_mod]
      have hR : valB (l.take i) % D * 256 + (l[i]).toNat < D * 2 ^ 8 := by omega
      have a1 : IntKind.i64.wrap ((i : Int) + 1) = ((i + 1 : Nat) : Int) := by rw [w64 (by omega) (by omega)]; rfl
      generalize hRR : valB (l.take i) % D * 256 + (l[i]).toNat = R at *
      generalize l[i] = x at *
      generalize digB (valB (l.take i) % D) = rr at *
      simp -implicitDefEqProofs only [go_sem, Nat.reduceAdd, Nat.reduceSub, Nat.reduceMul, Nat.reduceLT, Nat.reduceLeDiff, Nat.reduceEqDiff, Nat.reduceBEq, Nat.reduceGT, Nat.reduceMod, Nat.reduceDiv, ↓reduceIte, reduceCtorEq, Int.reduceLE, Int.reduceLT, Int.reduceToNat, Int.reduceEq, Int.reduceNeg, Int.reduceAdd, Int.reduceSub, Int.reduceMul, s0, s9, s10, a1, hsl, hadd]
      refine kv (o1 _) ?_
      simp -implicitDefEqProofs only [go_sem, Nat.reduceAdd, Nat.reduceSub, Nat.reduceMul, Nat.reduceLT, Nat.reduceLeDiff, Nat.reduceEqDiff, Nat.reduceBEq, Nat.reduceGT, Nat.reduceMod, Nat.reduceDiv, ↓reduceIte, reduceCtorEq, Int.reduceLE, Int.reduceLT, Int.reduceToNat, Int.reduceEq, Int.reduceNeg, Int.reduceAdd, Int.reduceSub, Int.reduceMul]
      refine ax_midl (fun s T => ∃ (d r : Nat), s 0 = .string (bs l) ∧ s 6 = .pointer (some ⟨H.length, 0, none⟩) ∧ s 8 = .slice (some ⟨H.length + 1, 0, none⟩) l.length l.length ∧ s 9 = .string (bs (digB r)) ∧ s 10 = .int .i64 (i : Nat) ∧ s 11 = .int .i64 (d : Nat) ∧
        d * D + r = R ∧ r < D ∧ d < 256 ∧ T = H ++ [⟨strs ts, 1, true⟩, ⟨u8s o, 1, true⟩]) ?_ ?_
      · refine ax_loopx (fun (j : Nat) s T => ∃ (d r : Nat), s 0 = .string (bs l) ∧ s 6 = .pointer (some ⟨H.length, 0, none⟩) ∧ s 8 = .slice (some ⟨H.length + 1, 0, none⟩) l.length l.length ∧ s 9 = .string (bs (digB r)) ∧ s 10 = .int .i64 (i : Nat) ∧ s 11 = .int .i64 (d : Nat) ∧ s 12 = .int .i64 ((j : Int) - 1) ∧
          j ≤ 8 ∧ d * D + r = R ∧ r < D * 2 ^ j ∧ d + 2 ^ j ≤ 256 ∧ T = H ++ [⟨strs ts, 1, true⟩, ⟨u8s o, 1, true⟩]) (fun j => j) 8 ?_ ?_
        · refine ⟨0, R, ?_⟩
          simp -implicitDefEqProofs only [go_sem, Nat.reduceAdd, Nat.reduceSub, Nat.reduceMul, Nat.reduceLT, Nat.reduceLeDiff, Nat.reduceEqDiff, Nat.reduceBEq, Nat.reduceGT, Nat.reduceMod, Nat.reduceDiv, ↓reduceIte, reduceCtorEq, Int.reduceLE, Int.reduceLT, Int.reduceToNat, Int.reduceEq, Int.reduceNeg, Int.reduceAdd, Int.reduceSub, Int.reduceMul, s0, s6, s8, s10]
          ((repeat' apply And.intro) <;> first | rfl | assumption | omega)
        clear s0 s6 s8 s9 s10
        rintro j s T ⟨d, r, s0, s6, s8, s9, s10, s11, s12, hj, hdr, hr, hdj, rfl⟩
        cases j with
        | zero =>
          have e : ¬ (0 : Int) ≤ ((0 : Nat) : Int) - 1 := by decide
          simp -implicitDefEqProofs only [go_sem, Nat.reduceAdd, Nat.reduceSub, Nat.reduceMul, Nat.reduceLT, Nat.reduceLeDiff, Nat.reduceEqDiff, Nat.reduceBEq, Nat.reduceGT, Nat.reduceMod, Nat.reduceDiv, ↓reduceIte, reduceCtorEq, Int.reduceLE, Int.reduceLT, Int.reduceToNat, Int.reduceEq, Int.reduceNeg, Int.reduceAdd, Int.reduceSub, Int.reduceMul, wa_cond, axC_t, axC_f, s0, s6, s8, s9, s10, s11, s12, e]
          rw [Nat.pow_zero, Nat.mul_one] at hr; refine ⟨d, r, ?_⟩; ((repeat' apply And.intro) <;> first | rfl | assumption | omega)
        | succ k =>
          have e1 : ((k + 1 : Nat) : Int) - 1 = (k : Int) := by omega
          rw [e1] at s12
          have e2 : (0 : Int) ≤ (k : Int) := by omega
          have e3 : (0 : Int) ≤ (k : Int) ∧ (k : Int) < ((8 : Nat) : Int) := by omega
          have hrd := strs_rd1 (L := [⟨u8s o, 1, true⟩]) (hv k (by omega))
          have o2 := fun H => compareMagR H r (D * 2 ^ k)
          have a2 : IntKind.i64.wrap ((k : Int) - 1) = (k : Int) - 1 := w64 (by omega) (by omega)
          have hp := Nat.pow_succ 2 k
          rw [hp, ← Nat.mul_assoc] at hr
          by_cases hge : D * 2 ^ k ≤ r
          · have hs : (0 : Int) ≤ sgn ((r : Int) - ((D * 2 ^ k : Nat) : Int)) := by unfold sgn; rw [if_neg (by omega)]; split <;> omega
            have hp2 : 2 ^ k ≤ 2 ^ 7 := Nat.pow_le_pow_right (by decide) (by omega)
            have hrl : (digB r).length ≤ 1000000 := by
              refine Nat.le_trans (digB_len _ ((digB D).length + 1) ?_) (by omega)
              have h1 := valB_lt (digB D)
              rw [valB_dig] at h1
              rw [Nat.pow_succ]
              have h3 : D * 2 ^ k ≤ D * 2 ^ 7 := Nat.mul_le_mul_left _ hp2
              omega
            have o3 := fun H => subMagR H (l := digB r) (m := digB (D * 2 ^ k)) hrl (ltlen (.inr hge)) (by rw [valB_dig, valB_dig]; exact hge)
            rw [valB_dig, valB_dig] at o3
            have a3 : IntKind.u64.wrap (k : Int) = (k : Int) := wu64n (by omega)
            have a4 : ¬ (k : Int) < 0 := by omega
            have a5 : IntKind.i64.wrap (1 * 2 ^ (min k 64)) = ((2 ^ k : Nat) : Int) := by
              rw [show min k 64 = k by omega, Int.one_mul, show ((2 : Int) ^ k) = ((2 ^ k : Nat) : Int) by simp]
              exact w64n (by omega)
            have a6 : IntKind.i64.wrap ((d : Int) + ((2 ^ k : Nat) : Int)) = ((d + 2 ^ k : Nat) : Int) := by rw [addc, w64n (by omega)]
            have f1 : (d + 2 ^ k) * D + (r - D * 2 ^ k) = R := by rw [Nat.add_mul, Nat.mul_comm (2 ^ k) D]; omega
            have f2 : r - D * 2 ^ k < D * 2 ^ k := by omega
            have f3 : d + 2 ^ k + 2 ^ k ≤ 256 := by omega
            generalize sgn ((r : Int) - ((D * 2 ^ k : Nat) : Int)) = sg at *
            generalize digB (D * 2 ^ k) = tk at *
            generalize hr2 : r - D * 2 ^ k = r2 at *
            simp -implicitDefEqProofs only [go_sem, Nat.reduceAdd, Nat.reduceSub, Nat.reduceMul, Nat.reduceLT, Nat.reduceLeDiff, Nat.reduceEqDiff, Nat.reduceBEq, Nat.reduceGT, Nat.reduceMod, Nat.reduceDiv, ↓reduceIte, reduceCtorEq, Int.reduceLE, Int.reduceLT, Int.reduceToNat, Int.reduceEq, Int.reduceNeg, Int.reduceAdd, Int.reduceSub, Int.reduceMul, wa_cond, axC_t, axC_f, s0, s6, s8, s9, s10, s11, s12, e2, aIndexAddr, e3, Nat.mul_one, hrd]
            refine kv (o2 _) ?_
            simp -implicitDefEqProofs only [go_sem, Nat.reduceAdd, Nat.reduceSub, Nat.reduceMul, Nat.reduceLT, Nat.reduceLeDiff, Nat.reduceEqDiff, Nat.reduceBEq, Nat.reduceGT, Nat.reduceMod, Nat.reduceDiv, ↓reduceIte, reduceCtorEq, Int.reduceLE, Int.reduceLT, Int.reduceToNat, Int.reduceEq, Int.reduceNeg, Int.reduceAdd, Int.reduceSub, Int.reduceMul, wa_cond, axC_t, axC_f, s0, s6, s8, s9, s10, s11, s12, hs, aIndexAddr, e3, Nat.mul_one, hrd]
            refine kv (o3 _) ?_
            simp -implicitDefEqProofs only [go_sem, Nat.reduceAdd, Nat.reduceSub, Nat.reduceMul, Nat.reduceLT, Nat.reduceLeDiff, Nat.reduceEqDiff, Nat.reduceBEq, Nat.reduceGT, Nat.reduceMod, Nat.reduceDiv, ↓reduceIte, reduceCtorEq, Int.reduceLE, Int.reduceLT, Int.reduceToNat, Int.reduceEq, Int.reduceNeg, Int.reduceAdd, Int.reduceSub, Int.reduceMul, s0, s6, s8, s9, s10, s11, s12, aConv, a3, a4, a5, a6, a2]
            refine ⟨k, ⟨d + 2 ^ k, r2, ?_⟩, by omega⟩; ((repeat' apply And.intro) <;> first | rfl | assumption | omega)
          · have hs : ¬ (0 : Int) ≤ sgn ((r : Int) - ((D * 2 ^ k : Nat) : Int)) := by unfold sgn; rw [if_pos (by omega)]; decide
            have f2 : r < D * 2 ^ k := by omega
            have f3 : d + 2 ^ k ≤ 256 := by omega
            generalize sgn ((r : Int) - ((D * 2 ^ k : Nat) : Int)) = sg at *
            generalize digB (D * 2 ^ k) = tk at *
            simp -implicitDefEqProofs only [go_sem, Nat.reduceAdd, Nat.reduceSub, Nat.reduceMul, Nat.reduceLT, Nat.reduceLeDiff, Nat.reduceEqDiff, Nat.reduceBEq, Nat.reduceGT, Nat.reduceMod, Nat.reduceDiv, ↓reduceIte, reduceCtorEq, Int.reduceLE, Int.reduceLT, Int.reduceToNat, Int.reduceEq, Int.reduceNeg, Int.reduceAdd, Int.reduceSub, Int.reduceMul, wa_cond, axC_t, axC_f, s0, s6, s8, s9, s10, s11, s12, e2, aIndexAddr, e3, Nat.mul_one, hrd]
            refine kv (o2 _) ?_
            simp -implicitDefEqProofs only [go_sem, Nat.reduceAdd, Nat.reduceSub, Nat.reduceMul, Nat.reduceLT, Nat.reduceLeDiff, Nat.reduceEqDiff, Nat.reduceBEq, Nat.reduceGT, Nat.reduceMod, Nat.reduceDiv, ↓reduceIte, reduceCtorEq, Int.reduceLE, Int.reduceLT, Int.reduceToNat, Int.reduceEq, Int.reduceNeg, Int.reduceAdd, Int.reduceSub, Int.reduceMul, wa_cond, axC_t, axC_f, s0, s6, s8, s9, s10, s11, s12, hs, a2]
            refine ⟨k, ⟨d, r, ?_⟩, by omega⟩; ((repeat' apply And.intro) <;> first | rfl | assumption | omega)
      clear s0 s6 s8 s9 s10
      rintro s T ⟨d, r, s0, s6, s8, s9, s10, s11, hdr, hr, hd, rfl⟩
      have e3 : (0 : Int) ≤ (i : Int) ∧ (i : Int) < (l.length : Int) := by omega
      have a2 := low_u8 d
      have hwr := u8_wr (L := []) (l := o) (k := i) (b := UInt8.ofNat d) (by omega)
      have hdq : R / D = d ∧ R % D = r := by
        rw [← hdr, Nat.mul_comm]
        exact ⟨by rw [Nat.mul_add_div hD, Nat.div_eq_of_lt hr, Nat.add_zero], by rw [Nat.mul_add_mod, Nat.mod_eq_of_lt hr]⟩
      have hset : valB ((o.set i (UInt8.ofNat d)).take (i + 1)) = valB (l.take (i + 1)) / D := by
        rw [List.take_succ_eq_append_getElem (by simp; omega), List.getElem_set_self, List.take_set_of_le (Nat.le_refl _), valB_snoc, hvo, hdiv, hdq.1]
        congr 1
        simp; omega
      rw [← hdq.2, ← hmod] at s9
      have hol : (o.set i (UInt8.ofNat d)).length = l.length := by simpa using ho
      generalize o.set i (UInt8.ofNat d) = o2 at *
      simp -implicitDefEqProofs only [go_sem, Nat.reduceAdd, Nat.reduceSub, Nat.reduceMul, Nat.reduceLT, Nat.reduceLeDiff, Nat.reduceEqDiff, Nat.reduceBEq, Nat.reduceGT, Nat.reduceMod, Nat.reduceDiv, ↓reduceIte, reduceCtorEq, Int.reduceLE, Int.reduceLT, Int.reduceToNat, Int.reduceEq, Int.reduceNeg, Int.reduceAdd, Int.reduceSub, Int.reduceMul, s0, s6, s8, s9, s10, s11, aConv, a2, aIndexAddr, e3, Nat.mul_one, hwr, a1]
      refine ⟨i + 1, ⟨o2, ?_⟩, by omega⟩; ((repeat' apply And.intro) <;> first | rfl | assumption | omega)
    · have : i = l.length := by omega
      subst this
      rw [List.take_length] at s9
      rw [List.take_of_length_le (by omega), List.take_length] at hvo
      simp -implicitDefEqProofs only [go_sem, Nat.reduceAdd, Nat.reduceSub, Nat.reduceMul, Nat.reduceLT, Nat.reduceLeDiff, Nat.reduceEqDiff, Nat.reduceBEq, Nat.reduceGT, Nat.reduceMod, Nat.reduceDiv, ↓reduceIte, reduceCtorEq, Int.reduceLE, Int.reduceLT, Int.reduceToNat, Int.reduceEq, Int.reduceNeg, Int.reduceAdd, Int.reduceSub, Int.reduceMul, s8, s9]
      exact ⟨o, ho, hvo, rfl⟩
  clear s0 s6 hmk
  rintro s T ⟨o, s8, s9, ho, hvo, rfl⟩
  have hrd := u8_rd (L := []) (l := o) (k := 0) (n := l.length) (by omega)
  rw [List.drop_zero] at hrd
  have o1 := fun H => trimR H o
  rw [digB_strip, hvo] at o1
  unfold bs at o1
  simp -implicitDefEqProofs only [go_sem, Nat.reduceAdd, Nat.reduceSub, Nat.reduceMul, Nat.reduceLT, Nat.reduceLeDiff, Nat.reduceEqDiff, Nat.reduceBEq, Nat.reduceGT, Nat.reduceMod, Nat.reduceDiv, ↓reduceIte, reduceCtorEq, Int.reduceLE, Int.reduceLT, Int.reduceToNat, Int.reduceEq, Int.reduceNeg, Int.reduceAdd, Int.reduceSub, Int.reduceMul, s8, aConv, hrd, bytesOf_u8s]
  refine kv (o1 _) ?_
  simp -implicitDefEqProofs only [go_sem, Nat.reduceAdd, Nat.reduceSub, Nat.reduceMul, Nat.reduceLT, Nat.reduceLeDiff, Nat.reduceEqDiff, Nat.reduceBEq, Nat.reduceGT, Nat.reduceMod, Nat.reduceDiv, ↓reduceIte, reduceCtorEq, Int.reduceLE, Int.reduceLT, Int.reduceToNat, Int.reduceEq, Int.reduceNeg, Int.reduceAdd, Int.reduceSub, Int.reduceMul, s9, res226]
  first | exact .app _ _ | exact ⟨.app _ _, rfl⟩
end Go.Proofs.YthhmkaikopdmjaaGreat
namespace Go.Proofs.YthhmkaikopdmjaaGreat
open Go Go.Fw
theorem gcdR (H : Heap) {g g' : Bool} {m m' : List UInt8} (hm : m.length ≤ 900000) (hm' : m'.length ≤ 900000) :
    Sim Tryz.prog 164 #[iV g m, iV g' m'] H (mkI (Nat.gcd (valB m) (valB m') : Nat)) H := by
  refine flat_ex (flat_mkI _) ?_
  have o1 := fun H => trimR H m
  have o2 := fun H => trimR H m'
  have l1 : (digB (valB m)).length ≤ 900000 := by rw [← digB_strip]; exact Nat.le_trans (dropZ_len m) hm
  have l2 : (digB (valB m')).length ≤ 900000 := by rw [← digB_strip]; exact Nat.le_trans (dropZ_len m') hm'
  rw [digB_strip] at o1 o2
  generalize valB m = a at *
  generalize valB m' = b at *
  unfold iV
  refine sxA tok mixed Tryz.func164 ?_
  simp -implicitDefEqProofs only [go_sem, simprocAttr]
  refine ax_quiet (by kernel_rfl) ?_
  simp -implicitDefEqProofs only [go_sem, simprocAttr]
  refine kv (o1 _) ?_
  simp -implicitDefEqProofs only [go_sem, simprocAttr]
  refine kv (o2 _) ?_
  simp -implicitDefEqProofs only [go_sem, simprocAttr]
  obtain ⟨T0, hT0⟩ : ∃ T, T = H ++ [(⟨[.bool g, .string (bs m)], 1, true⟩ : Blk), ⟨[.bool g', .string (bs m')], 1, true⟩, ⟨[.bool false, .string (bs [])], 1, true⟩] := ⟨_, rfl⟩
  rw [← hT0]
  refine ax_midl (fun s T => ∃ n k : Nat, s 4 = .pointer (some ⟨H.length + 2, 0, none⟩) ∧ s 5 = .string (bs (digB n)) ∧ s 6 = .string (bs (digB k)) ∧ Nat.gcd n k = Nat.gcd a b ∧ (k = 0 ∨ (digB n).length ≤ 7 ∧ (digB k).length ≤ 7) ∧ T = T0) ?_ ?_
  · refine ax_loopx (fun (k : Nat) s T => ∃ n : Nat, s 4 = .pointer (some ⟨H.length + 2, 0, none⟩) ∧ s 5 = .string (bs (digB n)) ∧ s 6 = .string (bs (digB k)) ∧ Nat.gcd n k = Nat.gcd a b ∧ (digB n).length ≤ 900000 ∧ (digB k).length ≤ 900000 ∧ T = T0) id b ?_ ?_
    · refine ⟨a, ?_⟩
      simp -implicitDefEqProofs only [go_sem, simprocAttr]
      ((repeat' apply And.intro) <;> first | rfl | assumption | omega)
    rintro k s T ⟨n, s4, s5, s6, hg, hn, hk, rfl⟩
    by_cases hk0 : k = 0
    · subst hk0
      rw [digB_zero] at s6
      simp -implicitDefEqProofs only [go_sem, simprocAttr, wa_cond, axC_t, axC_f, s5, s6]
      refine ⟨n, 0, ?_⟩
      rw [digB_zero]
      exact ⟨s4, rfl, rfl, hg, .inl rfl⟩
    have hne : ¬ bs (digB k) = bs [] := by rw [bs_inj, digB_nil_iff]; exact hk0
    have o3 := fun H => divMagR H (l := digB n) (D := k) hn (by omega) hk
    rw [valB_dig] at o3
    have hmk : (digB (n % k)).length ≤ 900000 := Nat.le_trans (ltlen (n := k) (.inr (Nat.le_of_lt (Nat.mod_lt _ (by omega))))) hk
    have hgk : Nat.gcd k (n % k) = Nat.gcd a b := by rw [← hg, Nat.gcd_comm n k, Nat.gcd_comm k (n % k), ← Nat.gcd_rec]
    have hml : n % k < k := Nat.mod_lt _ (by omega)
    have c1 : (7 : Int) < ((digB n).length : Int) ∨ (¬ (7 : Int) < ((digB n).length : Int) ∧ (7 : Int) < ((digB k).length : Int)) ∨ (¬ (7 : Int) < ((digB n).length : Int) ∧ ¬ (7 : Int) < ((digB k).length : Int)) := by omega
    by_cases h7 : (digB n).length ≤ 7 ∧ (digB k).length ≤ 7
    · have e1 : ¬ (7 : Int) < ((digB n).length : Int) := by omega
      have e2 : ¬ (7 : Int) < ((digB k).length : Int) := by omega
      simp -implicitDefEqProofs only [go_sem, simprocAttr, wa_cond, axC_t, axC_f, s5, s6, hne, aLen, e1, e2]
      refine ⟨n, k, s4, rfl, rfl, hg, .inr h7⟩
    rcases c1 with e1 | ⟨e1, e2⟩ | ⟨e1, e2⟩
    · simp -implicitDefEqProofs only [go_sem, simprocAttr, wa_cond, axC_t, axC_f, s5, s6, hne, aLen, e1]
      refine kv (o3 _) ?_
      simp -implicitDefEqProofs only [go_sem, simprocAttr, s4, s5, s6]
      refine ⟨n % k, ⟨k, ?_⟩, hml⟩
      ((repeat' apply And.intro) <;> first | rfl | assumption | omega)
    · simp -implicitDefEqProofs only [go_sem, simprocAttr, wa_cond, axC_t, axC_f, s5, s6, hne, aLen, e1, e2]
      refine kv (o3 _) ?_
      simp -implicitDefEqProofs only [go_sem, simprocAttr, s4, s5, s6]
      refine ⟨n % k, ⟨k, ?_⟩, hml⟩
      ((repeat' apply And.intro) <;> first | rfl | assumption | omega)
    · omega
  rintro s T ⟨n, k, s4, s5, s6, hg, hc, rfl⟩
  subst hT0
  by_cases hk0 : k = 0
  · subst hk0
    rw [Nat.gcd_zero_right] at hg
    rw [← hg]
    have e : mkI (n : Nat) = .agg #[.bool false, .string (bs (digB n))] := by
      unfold mkI iV
      rw [decide_eq_false (by omega)]
      rfl
    rw [e]
    rw [digB_zero] at s6
    simp -implicitDefEqProofs only [go_sem, simprocAttr, wa_cond, axC_t, axC_f, s4, s5, s6, res164]
    first | exact .app _ _ | exact ⟨.app _ _, rfl⟩
  have hne : ¬ bs (digB k) = bs [] := by rw [bs_inj, digB_nil_iff]; exact hk0
  obtain ⟨h1, h2⟩ : (digB n).length ≤ 7 ∧ (digB k).length ≤ 7 := by rcases hc with h | h; exact absurd h hk0; exact h
  have o3 := fun H => smallR H h1
  have o4 := fun H => smallR H h2
  rw [valB_dig] at o3 o4
  have b1 := valB_lt (digB n)
  have b2 := valB_lt (digB k)
  rw [valB_dig] at b1 b2
  have p1 : 256 ^ (digB n).length ≤ 256 ^ 7 := Nat.pow_le_pow_right (by decide) h1
  have p2 : 256 ^ (digB k).length ≤ 256 ^ 7 := Nat.pow_le_pow_right (by decide) h2
  rw [show (256 : Nat) ^ 7 = 72057594037927936 from rfl] at p1 p2
  simp -implicitDefEqProofs only [go_sem, simprocAttr, wa_cond, axC_t, axC_f, s4, s5, s6, hne]
  refine kv (o3 _) ?_
  simp -implicitDefEqProofs only [go_sem, simprocAttr, s4, s5, s6]
  refine kv (o4 _) ?_
  simp -implicitDefEqProofs only [go_sem, simprocAttr]
  obtain ⟨T0, hT0⟩ : ∃ T, T = H ++ [(⟨[.bool g, .string (bs m)], 1, true⟩ : Blk), ⟨[.bool g', .string (bs m')], 1, true⟩, ⟨[.bool false, .string (bs [])], 1, true⟩] := ⟨_, rfl⟩
  rw [← hT0]
  refine ax_midl (fun s T => s 4 = .pointer (some ⟨H.length + 2, 0, none⟩) ∧ s 9 = .int .i64 (Nat.gcd a b : Nat) ∧ T = T0) ?_ ?_
  · refine ax_loopx (fun (y : Nat) s T => ∃ x : Nat, s 4 = .pointer (some ⟨H.length + 2, 0, none⟩) ∧ s 9 = .int .i64 (x : Nat) ∧ s 10 = .int .i64 (y : Nat) ∧ Nat.gcd x y = Nat.gcd a b ∧ T = T0) id k ?_ ?_
    · refine ⟨n, ?_⟩
      simp -implicitDefEqProofs only [go_sem, simprocAttr, s4]
      ((repeat' apply And.intro) <;> first | rfl | assumption | omega)
    rintro y s T ⟨x, s4, s9, s10, hg, rfl⟩
    by_cases hy : y = 0
    · subst hy
      rw [Nat.gcd_zero_right] at hg
      have e : ¬ (0 : Int) < ((0 : Nat) : Int) := by decide
      simp -implicitDefEqProofs only [go_sem, simprocAttr, wa_cond, axC_t, axC_f, s4, s9, s10, e]
      rw [← hg]
    · have e : (0 : Int) < (y : Int) := by omega
      have e2 : ¬ (y : Int) = 0 := by omega
      have e3 := tmod_nat x y
      have hml : x % y < y := Nat.mod_lt _ (by omega)
      have hgk : Nat.gcd y (x % y) = Nat.gcd a b := by rw [← hg, Nat.gcd_comm x y, Nat.gcd_comm y (x % y), ← Nat.gcd_rec]
      simp -implicitDefEqProofs only [go_sem, simprocAttr, wa_cond, axC_t, axC_f, s10, e]
      refine ax_quiet (by kernel_rfl) ?_
      simp -implicitDefEqProofs only [go_sem, simprocAttr, s4, s9, s10, e2, e3]
      refine ⟨x % y, ⟨y, ?_⟩, hml⟩
      ((repeat' apply And.intro) <;> first | rfl | assumption | omega)
  rintro s T ⟨s4, s9, rfl⟩
  subst hT0
  have hgb : Nat.gcd a b ≤ 72057594037927936 := by
    rw [← hg]
    exact Nat.le_trans (Nat.gcd_le_right _ (by omega)) (by omega)
  have o5 := fun H => ofR H (z := (Nat.gcd a b : Nat)) (by omega) (by omega)
  unfold mkI iV at *
  simp -implicitDefEqProofs only [go_sem, simprocAttr, s4, s9]
  refine kv (o5 _) ?_
  simp -implicitDefEqProofs only [go_sem, simprocAttr, s4, res164]
  first | exact .app _ _ | exact ⟨.app _ _, rfl⟩
end Go.Proofs.YthhmkaikopdmjaaGreat
namespace Go.Proofs.YthhmkaikopdmjaaGreat
open Go Go.Fw
theorem mkI_nat (n : Nat) : mkI (n : Nat) = .agg #[.bool false, .string (bs (digB n))] := by
  unfold mkI iV
  rw [decide_eq_false (by omega)]
  rfl
theorem mkI_shape (z : Int) : ∃ b s, mkI z = .agg #[.bool b, .string s] := ⟨_, _, rfl⟩
theorem sgI_of (z : Int) : sgI (decide (z < 0)) z.natAbs = z := by unfold sgI; by_cases h : z < 0 <;> simp [h] <;> omega
theorem divRI (H : Heap) {g g' : Bool} {m m' : List UInt8} (hm : m.length ≤ 900000) (hm' : m'.length ≤ 900000) (h0 : ival g' m' ≠ 0) :
    Sim Tryz.prog 165 #[iV g m, iV g' m'] H (.tuple #[mkI ((ival g m).fdiv (ival g' m')), mkI ((ival g m).fmod (ival g' m')), .int .i64 0]) H := by
  refine flat_ex rfl ?_
  have o1 := fun H => canonR H g m
  have o2 := fun H => canonR H g' m'
  have l1 : (digB (ival g m).natAbs).length ≤ 900000 := canon_len hm
  have l2 : (digB (ival g' m').natAbs).length ≤ 900000 := canon_len hm'
  generalize ival g m = x at *
  generalize ival g' m' = y at *
  have hne : ¬ bs (digB y.natAbs) = bs [] := by rw [bs_inj, digB_nil_iff]; omega
  have hn0 : 0 < y.natAbs := by omega
  have v1 := valB_dig x.natAbs
  have v2 := valB_dig y.natAbs
  obtain ⟨law1, law2⟩ := div_law (decide (x < 0)) (decide (y < 0)) x.natAbs y.natAbs hn0
  rw [sgI_of, sgI_of] at law1 law2
  have o3 := fun H => divMagR H (l := digB x.natAbs) (D := y.natAbs) l1 hn0 l2
  rw [v1] at o3
  have hsm : (digB x.natAbs).length < 8 → (digB y.natAbs).length < 8 → (∀ H, Sim Tryz.prog 227 #[.string (bs (digB x.natAbs))] H (.int .i64 (x.natAbs : Nat)) H) ∧ (∀ H, Sim Tryz.prog 227 #[.string (bs (digB y.natAbs))] H (.int .i64 (y.natAbs : Nat)) H) ∧ x.natAbs < 72057594037927936 ∧ y.natAbs < 72057594037927936 := by
    intro h1 h2
    have p1 := valB_lt (digB x.natAbs)
    have p2 := valB_lt (digB y.natAbs)
    have q1 := pow256_le (i := (digB x.natAbs).length) (by omega)
    have q2 := pow256_le (i := (digB y.natAbs).length) (by omega)
    refine ⟨fun H => ?_, fun H => ?_, by omega, by omega⟩
    · have := smallR H (m := digB x.natAbs) (by omega); rwa [v1] at this
    · have := smallR H (m := digB y.natAbs) (by omega); rwa [v2] at this
  have hQ : x.natAbs / y.natAbs ≤ x.natAbs := Nat.div_le_self _ _
  have hR : x.natAbs % y.natAbs < y.natAbs := Nat.mod_lt _ hn0
  have lQ : (digB (x.natAbs / y.natAbs)).length ≤ 900000 := Nat.le_trans (ltlen (.inr hQ)) l1
  have lR : (digB (x.natAbs % y.natAbs)).length ≤ 900000 := Nat.le_trans (ltlen (.inr (Nat.le_of_lt hR))) l2
  have oN := fun H => negR H false (digB (x.natAbs / y.natAbs))
  have iQ : ival false (digB (x.natAbs / y.natAbs)) = ((x.natAbs / y.natAbs : Nat) : Int) := by unfold ival; rw [valB_dig]; rfl
  have iR : ival false (digB (x.natAbs % y.natAbs)) = ((x.natAbs % y.natAbs : Nat) : Int) := by unfold ival; rw [valB_dig]; rfl
  have iY : ival false (digB y.natAbs) = (y.natAbs : Nat) := by unfold ival; rw [v2]; rfl
  rw [iQ] at oN
  have hnilR : bs (digB (x.natAbs % y.natAbs)) = bs [] ↔ x.natAbs % y.natAbs = 0 := by rw [bs_inj, digB_nil_iff]
  have oS1 := fun H => subRI H (g := decide (-((x.natAbs / y.natAbs : Nat) : Int) < 0)) (m := digB (-((x.natAbs / y.natAbs : Nat) : Int)).natAbs) (g' := decide ((1 : Int) < 0)) (m' := digB (1 : Int).natAbs) (by rw [Int.natAbs_neg]; simp only [Int.natAbs_natCast]; omega) (Nat.le_trans (digB_len _ 1 (by decide)) (by decide))
  rw [ival_mk, ival_mk] at oS1
  have oS2 := fun H => subRI H (g := false) (m := digB y.natAbs) (g' := false) (m' := digB (x.natAbs % y.natAbs)) (by omega) (by omega)
  rw [iY, iR] at oS2
  have oO := fun H => ofR H (z := 1) (by decide) (by decide)
  have oN2 := fun (z : Int) H => negR H (decide (z < 0)) (digB z.natAbs)
  simp only [ival_mk] at oN2
  have nQ := mkI_nat (x.natAbs / y.natAbs)
  have nR := mkI_nat (x.natAbs % y.natAbs)
  obtain ⟨qz, rz, f1, f2, f3⟩ : ∃ qz rz : Int, x.fdiv y = qz ∧ (if decide (y < 0) = true then -rz else rz) = x.fmod y ∧
      ((decide (x < 0) = decide (y < 0) ∧ qz = ((x.natAbs / y.natAbs : Nat) : Int) ∧ rz = ((x.natAbs % y.natAbs : Nat) : Int)) ∨
       (decide (x < 0) ≠ decide (y < 0) ∧ x.natAbs % y.natAbs = 0 ∧ qz = -((x.natAbs / y.natAbs : Nat) : Int) ∧ rz = ((x.natAbs % y.natAbs : Nat) : Int)) ∨
       (decide (x < 0) ≠ decide (y < 0) ∧ x.natAbs % y.natAbs ≠ 0 ∧ qz = -((x.natAbs / y.natAbs : Nat) : Int) - 1 ∧ rz = ((y.natAbs : Nat) : Int) - ((x.natAbs % y.natAbs : Nat) : Int))) := by
    clear oN oS1 oS2 oO oN2 nQ nR o1 o2 o3 hsm
    have hY : y = if decide (y < 0) = true then -((y.natAbs : Nat) : Int) else ((y.natAbs : Nat) : Int) := by by_cases h : y < 0 <;> simp [h] <;> omega
    generalize decide (x < 0) = sx at *
    generalize decide (y < 0) = sy at *
    generalize x.natAbs / y.natAbs = Q at *
    generalize x.natAbs % y.natAbs = R at *
    refine ⟨x.fdiv y, if sy = true then -(x.fmod y) else x.fmod y, rfl, by cases sy <;> simp, ?_⟩
    unfold sgI at law1 law2
    by_cases h1 : sx = sy
    · left
      obtain ⟨e1, e2⟩ := law1 (.inl h1)
      subst h1
      rw [← e1, ← e2]
      cases sx <;> simp
    · by_cases h2 : R = 0
      · right; left
        obtain ⟨e1, e2⟩ := law1 (.inr h2)
        rw [← e1, ← e2]
        subst h2
        refine ⟨h1, rfl, ?_, ?_⟩ <;> (cases sx <;> cases sy <;> first | exact absurd rfl h1 | (simp; done))
      · right; right
        obtain ⟨e1, e2⟩ := law2 (fun h => h.elim h1 h2)
        rw [← e1, ← e2]
        refine ⟨h1, h2, ?_, ?_⟩ <;> (cases sx <;> cases sy <;> first | exact absurd rfl h1 | (simp; done) | (simp only [if_true, Bool.false_eq_true, if_false] at hY ⊢; omega))
  rw [f1, ← f2]
  clear law1 law2 f1 f2 l1 l2 v1 v2 iQ iR iY lQ lR hR hQ
  unfold iV at *
  have hmk : ∀ z : Int, mkI z = .agg #[.bool (decide (z < 0)), .string (bs (digB z.natAbs))] := fun z => rfl
  rw [hmk x] at o1
  rw [hmk y] at o2
  rw [← hmk, ← hmk] at oS1
  generalize hQQ : x.natAbs / y.natAbs = Q at *
  generalize hRR : x.natAbs % y.natAbs = R at *
  generalize hsx : decide (x < 0) = sx at *
  generalize hsy : decide (y < 0) = sy at *
  generalize digB x.natAbs = lx at *
  generalize digB y.natAbs = ly at *
  generalize digB Q = lq at *
  generalize digB R = lr at *
  refine sxA tok mixed Tryz.func165 ?_
  simp -implicitDefEqProofs only [go_sem, simprocAttr]
  refine ax_quiet (by kernel_rfl) ?_
  simp -implicitDefEqProofs only [go_sem, simprocAttr]
  refine kv (o1 _) ?_
  simp -implicitDefEqProofs only [go_sem, simprocAttr]
  refine kv (o2 _) ?_
  simp -implicitDefEqProofs only [go_sem, simprocAttr, wa_cond, axC_t, axC_f, hne]
  apply shareK (M := fun s T => s 2 = .pointer (some ⟨H.length, 0, none⟩) ∧ s 3 = .pointer (some ⟨H.length + 1, 0, none⟩) ∧ s 4 = .pointer (some ⟨H.length + 2, 0, none⟩) ∧ s 5 = .pointer (some ⟨H.length + 3, 0, none⟩) ∧ s 7 = .pointer (some ⟨H.length + 4, 0, none⟩) ∧ s 8 = .pointer (some ⟨H.length + 5, 0, none⟩) ∧
    T = H ++ [⟨[.bool sx, .string (bs lx)], 1, true⟩, ⟨[.bool sy, .string (bs ly)], 1, true⟩, ⟨[.bool false, .string (bs [])], 1, true⟩, ⟨[.bool false, .string (bs [])], 1, true⟩, ⟨[.bool false, .string (bs lq)], 1, true⟩, ⟨[.bool false, .string (bs lr)], 1, true⟩])
  · intro hrest
    have hbig : (¬ (lx.length : Int) < 8 ∧ ¬ (lx.length : Int) < 8) ∨ ((lx.length : Int) < 8 ∧ ¬ (ly.length : Int) < 8) ∨ ((lx.length : Int) < 8 ∧ (ly.length : Int) < 8) := by omega
    rcases hbig with ⟨h1, h2⟩ | ⟨h1, h2⟩ | ⟨h1, h2⟩
    · simp -implicitDefEqProofs only [go_sem, simprocAttr, aLen, h1, h2]
      refine ax_mid _ ?_ hrest
      simp -implicitDefEqProofs only [go_sem, simprocAttr, wa_cond, axC_t, axC_f]
      refine kv (o3 _) ?_
      simp -implicitDefEqProofs only [go_sem, simprocAttr]
    · simp -implicitDefEqProofs only [go_sem, simprocAttr, aLen, h1, h2]
      refine ax_mid _ ?_ hrest
      simp -implicitDefEqProofs only [go_sem, simprocAttr, wa_cond, axC_t, axC_f]
      refine kv (o3 _) ?_
      simp -implicitDefEqProofs only [go_sem, simprocAttr]
    · obtain ⟨q1, q2, q3, q4⟩ := hsm (by omega) (by omega)
      have hn : ¬ ((y.natAbs : Nat) : Int) = 0 := by omega
      have d1 := tdiv_nat x.natAbs y.natAbs
      have d2 := tmod_nat x.natAbs y.natAbs
      have hq1 : x.natAbs / y.natAbs ≤ x.natAbs := Nat.div_le_self _ _
      have hq2 : x.natAbs % y.natAbs ≤ x.natAbs := Nat.mod_le _ _
      have d3 := w64n (n := x.natAbs / y.natAbs) (by omega)
      have o4 := fun H => ofR H (z := (x.natAbs / y.natAbs : Nat)) (by omega) (by omega)
      have o5 := fun H => ofR H (z := (x.natAbs % y.natAbs : Nat)) (by omega) (by omega)
      rw [hQQ] at d1 d3 o4
      rw [hRR] at d2 o5
      rw [nQ] at o4
      rw [nR] at o5
      simp -implicitDefEqProofs only [go_sem, simprocAttr, aLen, h1, h2]
      refine ax_mid _ ?_ hrest
      simp -implicitDefEqProofs only [go_sem, simprocAttr, wa_cond, axC_t, axC_f]
      refine ax_quiet (by kernel_rfl) ?_
      simp -implicitDefEqProofs only [go_sem, simprocAttr]
      refine kv (q1 _) ?_
      simp -implicitDefEqProofs only [go_sem, simprocAttr]
      refine kv (q2 _) ?_
      simp -implicitDefEqProofs only [go_sem, simprocAttr]
      refine ax_quiet (by kernel_rfl) ?_
      simp -implicitDefEqProofs only [go_sem, simprocAttr, hn, d1, d3]
      refine kv (o4 _) ?_
      simp -implicitDefEqProofs only [go_sem, simprocAttr, hn, d2]
      refine kv (o5 _) ?_
      simp -implicitDefEqProofs only [go_sem, simprocAttr]
  rintro s T ⟨s2, s3, s4, s5, s7, s8, rfl⟩
  simp -implicitDefEqProofs only [go_sem, simprocAttr, s2, s3, bool_neq]
  obtain ⟨qb, qs, hq⟩ := mkI_shape qz
  obtain ⟨rb, rs, hr⟩ := mkI_shape rz
  obtain ⟨fb, fs, hf⟩ := mkI_shape (if sy = true then -rz else rz)
  refine ax_mid (fun s T => s 3 = .pointer (some ⟨H.length + 1, 0, none⟩) ∧ s 4 = .pointer (some ⟨H.length + 2, 0, none⟩) ∧ s 5 = .pointer (some ⟨H.length + 3, 0, none⟩) ∧ s 7 = .pointer (some ⟨H.length + 4, 0, none⟩) ∧ s 8 = .pointer (some ⟨H.length + 5, 0, none⟩) ∧
    T = H ++ [⟨[.bool sx, .string (bs lx)], 1, true⟩, ⟨[.bool sy, .string (bs ly)], 1, true⟩, ⟨[.bool false, .string (bs [])], 1, true⟩, ⟨[.bool false, .string (bs [])], 1, true⟩, ⟨[.bool qb, .string qs], 1, true⟩, ⟨[.bool rb, .string rs], 1, true⟩]) ?_ ?_
  · rcases f3 with ⟨c1, c2, c3⟩ | ⟨c1, c2, c3, c4⟩ | ⟨c1, c2, c3, c4⟩
    · have e : (sx == sy) = true := by rw [c1]; simp
      rw [c2, nQ] at hq
      rw [c3, nR] at hr
      injection hq with hq
      injection hr with hr
      simp only [Array.mk.injEq, List.cons.injEq, Value.bool.injEq, Value.string.injEq, and_true] at hq hr
      obtain ⟨rfl, rfl⟩ := hq
      obtain ⟨rfl, rfl⟩ := hr
      simp -implicitDefEqProofs only [go_sem, simprocAttr, wa_cond, axC_t, axC_f, e, s2, s3, s4, s5, s7, s8]
    · have e : (sx == sy) = false := by cases sx <;> cases sy <;> first | rfl | exact absurd rfl c1
      rw [← c3, hq] at oN
      rw [c4, nR] at hr
      injection hr with hr
      simp only [Array.mk.injEq, List.cons.injEq, Value.bool.injEq, Value.string.injEq, and_true] at hr
      obtain ⟨rfl, rfl⟩ := hr
      have hz := hnilR.2 c2
      simp -implicitDefEqProofs only [go_sem, simprocAttr, wa_cond, axC_t, axC_f, e, s2, s3, s4, s5, s7, s8]
      refine kv (oN _) ?_
      simp -implicitDefEqProofs only [go_sem, simprocAttr, wa_cond, axC_t, axC_f, s2, s3, s4, s5, s7, s8, hz]
    · have e : (sx == sy) = false := by cases sx <;> cases sy <;> first | rfl | exact absurd rfl c1
      have hz : ¬ bs lr = bs [] := fun h => c2 (hnilR.1 h)
      obtain ⟨nb, ns, hn⟩ := mkI_shape (-(Q : Int))
      rw [← c3, hq, hn] at oS1
      rw [hn] at oN
      rw [← c4, hr] at oS2
      simp -implicitDefEqProofs only [go_sem, simprocAttr, wa_cond, axC_t, axC_f, e, s2, s3, s4, s5, s7, s8]
      refine kv (oN _) ?_
      simp -implicitDefEqProofs only [go_sem, simprocAttr, wa_cond, axC_t, axC_f, s2, s3, s4, s5, s7, s8, hz]
      refine ax_quiet (by kernel_rfl) ?_
      simp -implicitDefEqProofs only [go_sem, simprocAttr, s7]
      refine kv (oO _) ?_
      simp -implicitDefEqProofs only [go_sem, simprocAttr]
      refine kv (oS1 _) ?_
      simp -implicitDefEqProofs only [go_sem, simprocAttr, s2, s3, s4, s5, s7, s8]
      refine kv (oS2 _) ?_
      simp -implicitDefEqProofs only [go_sem, simprocAttr, s2, s3, s4, s5, s7, s8]
  clear s2 s3 s4 s5 s7 s8
  rintro s T ⟨s3, s4, s5, s7, s8, rfl⟩
  simp -implicitDefEqProofs only [go_sem, simprocAttr, s3]
  rw [hq, hf]
  refine ax_mid (fun s T => s 4 = .pointer (some ⟨H.length + 2, 0, none⟩) ∧ s 5 = .pointer (some ⟨H.length + 3, 0, none⟩) ∧ s 7 = .pointer (some ⟨H.length + 4, 0, none⟩) ∧ s 8 = .pointer (some ⟨H.length + 5, 0, none⟩) ∧
    T = H ++ [⟨[.bool sx, .string (bs lx)], 1, true⟩, ⟨[.bool sy, .string (bs ly)], 1, true⟩, ⟨[.bool false, .string (bs [])], 1, true⟩, ⟨[.bool false, .string (bs [])], 1, true⟩, ⟨[.bool qb, .string qs], 1, true⟩, ⟨[.bool fb, .string fs], 1, true⟩]) ?_ ?_
  · cases sy with
    | true =>
      have oF := oN2 rz
      rw [← hmk, hr] at oF
      rw [if_pos rfl] at hf
      rw [hf] at oF
      simp -implicitDefEqProofs only [go_sem, simprocAttr, wa_cond, axC_t, axC_f, s4, s5, s7, s8]
      refine kv (oF _) ?_
      simp -implicitDefEqProofs only [go_sem, simprocAttr, s4, s5, s7, s8]
    | false =>
      rw [if_neg (by decide), hr] at hf
      injection hf with hf
      simp only [Array.mk.injEq, List.cons.injEq, Value.bool.injEq, Value.string.injEq, and_true] at hf
      obtain ⟨rfl, rfl⟩ := hf
      simp -implicitDefEqProofs only [go_sem, simprocAttr, wa_cond, axC_t, axC_f, s4, s5, s7, s8]
  clear s3 s4 s5 s7 s8
  rintro s T ⟨s4, s5, s7, s8, rfl⟩
  simp -implicitDefEqProofs only [go_sem, simprocAttr]
  refine ax_cross5 (v0 := .agg #[.bool qb, .string qs]) (v1 := .agg #[.bool fb, .string fs]) ⟨by kernel_rfl, by kernel_rfl, by kernel_rfl, by kernel_rfl, by kernel_rfl, by kernel_rfl⟩ (by kernel_rfl) (by kernel_rfl) (by decide)
    (by simp -implicitDefEqProofs only [go_sem, simprocAttr, s7]) (by simp -implicitDefEqProofs only [go_sem, simprocAttr, s8]) (by simp -implicitDefEqProofs only [go_sem, simprocAttr, s4]; rfl) (by simp -implicitDefEqProofs only [go_sem, simprocAttr, s8]) (by simp -implicitDefEqProofs only [go_sem, simprocAttr, s5]; rfl) ?_
  simp -implicitDefEqProofs only [go_sem, simprocAttr, s4, s5, s7, s8, res165]
  first | exact .app _ _ | exact ⟨.app _ _, rfl⟩
end Go.Proofs.YthhmkaikopdmjaaGreat
namespace Go.Proofs.YthhmkaikopdmjaaGreat
open Go Go.Fw
theorem numberR (H : Heap) {m : List UInt8} (hm : m.length ≤ 7) : Sim Tryz.prog 229 #[.string (bs m)] H (.int .i64 (valB m : Nat)) H := by
  refine soA tok mixed Tryz.func229 ?_
  simp -implicitDefEqProofs only [go_sem, simprocAttr, aLen]
  refine ax_loopx (fun (i : Nat) s T => s 0 = .string (bs m) ∧ s 3 = .int .i64 (valB (m.take i) : Nat) ∧ s 4 = .int .i64 (i : Nat) ∧ i ≤ m.length ∧ T = H) (fun i => m.length - i) 0 ?_ ?_
  · simp -implicitDefEqProofs only [go_sem, simprocAttr]
    trivial
  rintro i s T ⟨h0, h3, h4, hi, rfl⟩
  simp -implicitDefEqProofs only [go_sem, simprocAttr, h0, h4, aLen]
  refine ax_cond2 ?_
  simp only [ev_tmp, ev_const, ev_func, upd_at, put_some, put_none, bndB_bool, Nat.reduceEqDiff, if_true, if_false, ↓reduceIte, reduceCtorEq]
  refine ⟨fun hc0 => have hlt := of_decide_eq_true hc0; ?_, fun hc0 => have hlt := of_decide_eq_false hc0; ?_⟩
  · have hil : i < m.length := by omega
    have hg : m[i]? = some m[i] := List.getElem?_eq_getElem hil
    have hts := valB_take_succ hil
    have hvl := valB_take_lt m i
    have hvl2 := valB_take_lt m (i + 1)
    have hm1 := pow256_le (i := i) (by omega)
    have hm2 := pow256_le (i := i + 1) (by omega)
    have hb : m[i].toNat < 256 := UInt8.toNat_lt _
    generalize m[i] = x at *
    generalize valB (m.take i) = n at *
    have a1 : IntKind.i64.wrap (256 * (n : Int)) = ((256 * n : Nat) : Int) := by
      rw [show (256 * (n : Int)) = ((256 * n : Nat) : Int) by simp, w64n (by omega)]
    have a2 := w64n (n := x.toNat) (by omega)
    have a3 : IntKind.i64.wrap (((256 * n : Nat) : Int) + (x.toNat : Int)) = ((valB (m.take (i + 1)) : Nat) : Int) := by rw [addc, w64n (by omega), hts, Nat.mul_comm]
    have a5 : IntKind.i64.wrap ((i : Int) + 1) = ((i + 1 : Nat) : Int) := by rw [w64 (by omega) (by omega)]; rfl
    have hnn : (0 : Int) ≤ (i : Int) := by omega
    simp -implicitDefEqProofs only [go_sem, simprocAttr, h0, h3, h4, hg, aConv, a1, a2, a3, a5, hnn]
    refine ⟨i + 1, ?_, by omega⟩
    ((repeat' apply And.intro) <;> first | rfl | assumption | omega)
  · have hil : i = m.length := by omega
    subst hil
    rw [List.take_length] at h3
    simp -implicitDefEqProofs only [go_sem, simprocAttr, h3, res229]
theorem build_u81 (H : Heap) (x : Int) : aBuildSlice tt H 203 1 [(0, .int .u8 x)] = some (.slice (some ⟨H.length, 0, none⟩) 1 1, H ++ [⟨[.int .u8 x], 1, true⟩]) := rfl
theorem digitsR (H : Heap) {n : Nat} (hn : n < 72057594037927936) : Sim Tryz.prog 230 #[.int .i64 (n : Nat)] H (.string (bs (digB n))) H := by
  refine flat_ex rfl ?_
  refine sxA tok mixed Tryz.func230 ?_
  simp -implicitDefEqProofs only [go_sem, simprocAttr]
  refine ax_loopx (fun (j : Nat) s T => ∃ o : List UInt8, o = digB (n / 2 ^ (8 * j)) ∧ s 0 = .int .i64 (n : Nat) ∧ s 4 = .int .i64 (((8 * j : Nat) : Int) - 8) ∧ j ≤ 7 ∧ Ext H T ∧
    ((s 3 = .slice none 0 0 ∧ o = []) ∨ ∃ b, H.length ≤ b ∧ s 3 = .slice (some ⟨b, 0, none⟩) o.length 0 ∧ T[b]? = some ⟨u8s o, 1, true⟩)) (fun j => j) 7 ?_ ?_
  · refine ⟨digB (n / 2 ^ (8 * 7)), ?_⟩
    have e : n / 2 ^ (8 * 7) = 0 := Nat.div_eq_of_lt (by omega)
    rw [e, digB_zero]
    simp -implicitDefEqProofs only [go_sem, simprocAttr]
    exact ⟨.refl _, .inl trivial⟩
  rintro j s T ⟨o, ho, s0, s4, hj, hE, h3⟩
  have hol : o.length ≤ 7 := by rw [ho]; exact digB_len _ 7 (Nat.lt_of_le_of_lt (Nat.div_le_self _ _) hn)
  cases j with
  | zero =>
    have e : ¬ (0 : Int) ≤ ((8 * 0 : Nat) : Int) - 8 := by decide
    simp -implicitDefEqProofs only [Nat.mul_zero, Nat.pow_zero, Nat.div_one] at ho
    subst ho
    obtain hcv : aConv tt T 203 9 (s 3) = some (.string (bs (digB n))) := by
      rcases h3 with ⟨h3, h4⟩ | ⟨bo, hbo, h3, hrow⟩
      · rw [h3, h4]; rfl
      · rw [h3]
        have := rd_whole hrow (by simp)
        simp only [u8s_length] at this
        unfold aConv
        simp only [tt203, tt9, tt5, this, Option.bind_some, bytesOf_u8s]
        rfl
    simp -implicitDefEqProofs only [go_sem, simprocAttr, wa_cond, axC_t, axC_f, s4, e, hcv, res230]
    exact hE
  | succ j =>
    have e1 : ((8 * (j + 1) : Nat) : Int) - 8 = ((8 * j : Nat) : Int) := by omega
    rw [e1] at s4
    have e2 : (0 : Int) ≤ ((8 * j : Nat) : Int) := by omega
    have e3 : ¬ ((8 * j : Nat) : Int) < 0 := by omega
    have e4 : min (8 * j) 64 = 8 * j := by omega
    have f1 := fdiv_pow n (8 * j)
    have a4 : IntKind.i64.wrap (((8 * j : Nat) : Int) - 8) = ((8 * j : Nat) : Int) - 8 := w64 (by omega) (by omega)
    have hdd : n / 2 ^ (8 * j) / 256 = n / 2 ^ (8 * (j + 1)) := by rw [Nat.div_div_eq_div_mul, show (256 : Nat) = 2 ^ 8 from rfl, ← Nat.pow_add]; rfl
    have a1 := low_u8 (n / 2 ^ (8 * j))
    have a2 := tmod_nat (n / 2 ^ (8 * j)) 256
    generalize hx : n / 2 ^ (8 * j) = x at *
    have hc256 : ((256 : Nat) : Int) = 256 := rfl
    rw [hc256] at a2
    have hL : aLen tt [203] (s 3) = some (.int .i64 (o.length : Nat)) := by
      rcases h3 with ⟨h3, h4⟩ | ⟨bo, hbo, h3, hrow⟩
      · rw [h3, h4]; rfl
      · rw [h3]; rfl
    by_cases hx0 : x = 0
    · subst hx0
      have hdz : o = [] := by rw [ho, ← hdd, Nat.zero_div, digB_zero]
      have c1 : ¬ (0 : Int) < ((0 : Nat) : Int) := by decide
      subst hdz
      simp -implicitDefEqProofs only [go_sem, simprocAttr, wa_cond, axC_t, axC_f, s0, s4, e2, e3, e4, f1, a2, Nat.zero_mod, c1, hL, List.length_nil, a4]
      refine ⟨j, ⟨[], ?_⟩, by omega⟩
      rw [hx, digB_zero]
      ((repeat' apply And.intro) <;> first | rfl | assumption | omega)
    · have hstep := digB_step hx0
      rw [hdd, ← ho] at hstep
      have hcond : ((0 : Int) < ((x % 256 : Nat) : Int)) ∨ (¬ (0 : Int) < ((x % 256 : Nat) : Int) ∧ (0 : Int) < (o.length : Int)) := by
        by_cases h : 0 < x % 256
        · left; omega
        · right
          refine ⟨by omega, ?_⟩
          have : o ≠ [] := by rw [ho, Ne, digB_nil_iff, ← hdd]; omega
          have := List.length_pos_iff.2 this
          omega
      obtain ⟨b2, T2, happ, hE2, hb2, hrow⟩ : ∃ b2 T2, aAppend tt (T ++ [⟨[Value.int .u8 ((UInt8.ofNat x).toNat : Nat)], 1, true⟩]) [203, 203] (s 3) (.slice (some ⟨T.length, 0, none⟩) 1 1) =
          some (.slice (some ⟨b2, 0, none⟩) (o.length + 1) 0, T2) ∧ Ext H T2 ∧ H.length ≤ b2 ∧ T2[b2]? = some ⟨u8s (o ++ [UInt8.ofNat x]), 1, true⟩ := by
        have hx4 := rd_end (H := T) (cs := u8s [UInt8.ofNat x]) (o := true) (L := []) (show 0 < 1 by decide)
        rcases h3 with ⟨h3, rfl⟩ | ⟨bo, hbo, h3, hrow⟩
        · rw [h3]
          refine ⟨_, _, append_nil tt203 tt5 rfl (by decide) (by decide) hx4 rfl (by decide) rfl (by decide), (hE.trans (.app _ _)).trans (.app _ _), ?_, ?_⟩
          · have := hE.len; simp; omega
          · simp
        · rw [h3]
          have hrow' := (Ext.app T [⟨u8s [UInt8.ofNat x], 1, true⟩]).get hrow
          have ha := append_row (tt := tt) (cx := 1) (m := 1) tt203 tt5 rfl (by decide) (by decide) hrow' hx4 rfl (by decide) rfl (by rw [u8s_length]; omega)
          rw [u8s_length o] at ha
          refine ⟨_, _, ha, ((hE.trans (.app _ _)).set hbo _).trans (.app _ _), ?_, ?_⟩
          · have := hE.len; simp; omega
          · simp [u8s_app]
      rcases hcond with c1 | ⟨c1, c2⟩
      · simp -implicitDefEqProofs only [go_sem, simprocAttr, wa_cond, axC_t, axC_f, s0, s4, e2, e3, e4, f1, a2, c1, aConv, a1, build_u81, happ, a4]
        refine ⟨j, ⟨digB x, ?_⟩, by omega⟩
        rw [hx, hstep]
        ((repeat' apply And.intro) <;> first | rfl | assumption | omega | exact .inr ⟨b2, hb2, by simp, hrow⟩)
      · simp -implicitDefEqProofs only [go_sem, simprocAttr, wa_cond, axC_t, axC_f, s0, s4, e2, e3, e4, f1, a2, c1, hL, c2, aConv, a1, build_u81, happ, a4]
        refine ⟨j, ⟨digB x, ?_⟩, by omega⟩
        rw [hx, hstep]
        ((repeat' apply And.intro) <;> first | rfl | assumption | omega | exact .inr ⟨b2, hb2, by simp, hrow⟩)
theorem small_big (H : Heap) {g : Bool} {n d : List UInt8} (h : 3 < n.length ∨ 3 < d.length) : Sim Tryz.prog 168 #[qV g n d] H (.tuple #[.int .i64 0, .int .i64 0, .bool false]) H := by
  refine flat_ex rfl ?_
  unfold qV
  refine sxA tok mixed Tryz.func168 ?_
  by_cases h1 : 3 < n.length
  · have h2 : (3 : Int) < (n.length : Int) := by omega
    simp -implicitDefEqProofs only [go_sem, simprocAttr, wa_cond, axC_t, axC_f, aLen, h2, res168]
    first | exact .app _ _ | exact ⟨.app _ _, rfl⟩
  · have h2 : ¬ (3 : Int) < (n.length : Int) := by omega
    have h3 : (3 : Int) < (d.length : Int) := by omega
    simp -implicitDefEqProofs only [go_sem, simprocAttr, wa_cond, axC_t, axC_f, aLen, h2, h3, res168]
    first | exact .app _ _ | exact ⟨.app _ _, rfl⟩
theorem small_small (H : Heap) {g : Bool} {n d : List UInt8} (hn : n.length ≤ 3) (hd : d.length ≤ 3) : Sim Tryz.prog 168 #[qV g n d] H (.tuple #[.int .i64 (ival g n), .int .i64 (dval d : Nat), .bool true]) H := by
  refine flat_ex rfl ?_
  have h2 : ¬ (3 : Int) < (n.length : Int) := by omega
  have h3 : ¬ (3 : Int) < (d.length : Int) := by omega
  have hv := valB_lt n
  have hp := pow256_le (i := n.length) (by omega)
  have a1 : IntKind.i64.wrap (0 - (valB n : Int)) = -(valB n : Int) := by rw [w64 (by omega) (by omega)]; omega
  unfold qV ival
  refine sxA tok mixed Tryz.func168 ?_
  simp -implicitDefEqProofs only [go_sem, simprocAttr, wa_cond, axC_t, axC_f, aLen, h2, h3]
  refine ax_quiet (by kernel_rfl) ?_
  simp -implicitDefEqProofs only [go_sem, simprocAttr]
  refine wl_callV #[.string (bs n)] (by simp -implicitDefEqProofs only [go_sem, simprocAttr]) (numberR _ (by omega)) ?_
  simp -implicitDefEqProofs only [go_sem, simprocAttr]
  refine wl_callV #[.string (bs d)] (by simp -implicitDefEqProofs only [go_sem, simprocAttr]) (numberR _ (by omega)) ?_
  by_cases h0 : valB d = 0
  · have e : (valB d : Int) = 0 := by omega
    have e2 : dval d = 1 := by unfold dval; rw [if_pos h0]
    rw [e2]
    cases g
    · simp -implicitDefEqProofs only [go_sem, simprocAttr, wa_cond, axC_t, axC_f, e, res168]
      first | exact .app _ _ | exact ⟨.app _ _, rfl⟩
    · simp -implicitDefEqProofs only [go_sem, simprocAttr, wa_cond, axC_t, axC_f, e, a1, res168]
      first | exact .app _ _ | exact ⟨.app _ _, rfl⟩
  · have e : ¬ (valB d : Int) = 0 := by omega
    have e2 : dval d = valB d := by unfold dval; rw [if_neg h0]
    rw [e2]
    cases g
    · simp -implicitDefEqProofs only [go_sem, simprocAttr, wa_cond, axC_t, axC_f, e, res168]
      first | exact .app _ _ | exact ⟨.app _ _, rfl⟩
    · simp -implicitDefEqProofs only [go_sem, simprocAttr, wa_cond, axC_t, axC_f, e, a1, res168]
      first | exact .app _ _ | exact ⟨.app _ _, rfl⟩
end Go.Proofs.YthhmkaikopdmjaaGreat
namespace Go.Proofs.YthhmkaikopdmjaaGreat
open Go Go.Fw
theorem packR (H : Heap) {n : Int} {d : Nat} (hn : n.natAbs < 36028797018963968) (hd : d < 36028797018963968) (h0 : 0 < d) : Sim Tryz.prog 169 #[.int .i64 n, .int .i64 (d : Nat)] H (mkQ (mkRat n d)) H := by
  refine flat_ex rfl ?_
  have hgp : 0 < Nat.gcd n.natAbs d := Nat.gcd_pos_of_pos_right _ h0
  have hgd : Nat.gcd n.natAbs d ≤ d := Nat.gcd_le_right _ h0
  have hd1 : Nat.gcd n.natAbs d ∣ d := Nat.gcd_dvd_right _ _
  have hd2 : Nat.gcd n.natAbs d ∣ n.natAbs := Nat.gcd_dvd_left _ _
  have hw : n < 0 → IntKind.i64.wrap (0 - n) = ((n.natAbs : Nat) : Int) := fun h => by rw [w64 (by omega) (by omega)]; omega
  have hnn : ¬ n < 0 → n = ((n.natAbs : Nat) : Int) := fun h => by omega
  have e0 : (n / ((Nat.gcd n.natAbs d : Nat) : Int)).natAbs = n.natAbs / Nat.gcd n.natAbs d := by
    rw [Int.natAbs_ediv_of_dvd (Int.ofNat_dvd_left.2 hd2)]; rfl
  have hz : mkQ (mkRat 0 d) = qV false [] [] := by rw [Rat.zero_mkRat, mkQ_zero]
  have hz2 : n.natAbs = 0 → mkQ (mkRat n d) = qV false [] [] := fun h => by rw [← hz]; congr 1; rw [show n = 0 by omega]
  have hpos := mkQ_pos (n := n) h0
  rw [e0] at hpos
  refine sxA tok mixed Tryz.func169 ?_
  simp -implicitDefEqProofs only [go_sem, simprocAttr]
  refine ax_mid (fun s T => s 0 = .int .i64 (n.natAbs : Nat) ∧ s 1 = .int .i64 (d : Nat) ∧ s 4 = .pointer (some ⟨H.length, 0, none⟩) ∧ s 5 = .pointer (some ⟨H.length + 1, 0, none⟩) ∧ T = H ++ [⟨[.bool false, .string (bs []), .string (bs [])], 1, true⟩, ⟨[.bool (decide (n < 0)), .string (bs []), .string (bs [])], 1, true⟩]) ?_ ?_
  · by_cases h : n < 0
    · have hw := hw h
      simp -implicitDefEqProofs only [go_sem, simprocAttr, wa_cond, axC_t, axC_f, h, hw]
    · have hn2 := hnn h
      simp -implicitDefEqProofs only [go_sem, simprocAttr, wa_cond, axC_t, axC_f, h]
      rw [← hn2]
  rintro s T ⟨s0, s1, s4, s5, rfl⟩
  generalize decide (n < 0) = sg at *
  generalize mkQ (mkRat n d) = Q at *
  clear hw hnn e0 hz
  generalize n.natAbs = N at *
  by_cases hN : N = 0
  · rw [hz2 hN]
    unfold qV
    have e : ((N : Nat) : Int) = 0 := by omega
    simp -implicitDefEqProofs only [go_sem, simprocAttr, wa_cond, axC_t, axC_f, s0, s4, e, res169]
    first | exact .app _ _ | exact ⟨.app _ _, rfl⟩
  have e : ¬ ((N : Nat) : Int) = 0 := by omega
  simp -implicitDefEqProofs only [go_sem, simprocAttr, wa_cond, axC_t, axC_f, s0, s1, e]
  obtain ⟨T0, hT0⟩ : ∃ T, T = H ++ [(⟨[.bool false, .string (bs []), .string (bs [])], 1, true⟩ : Blk), ⟨[.bool sg, .string (bs []), .string (bs [])], 1, true⟩] := ⟨_, rfl⟩
  rw [← hT0]
  refine ax_midl (fun s T => s 0 = .int .i64 (N : Nat) ∧ s 1 = .int .i64 (d : Nat) ∧ s 4 = .pointer (some ⟨H.length, 0, none⟩) ∧ s 5 = .pointer (some ⟨H.length + 1, 0, none⟩) ∧ s 6 = .int .i64 (Nat.gcd N d : Nat) ∧ T = T0) ?_ ?_
  · refine ax_loopx (fun (y : Nat) s T => ∃ x : Nat, s 0 = .int .i64 (N : Nat) ∧ s 1 = .int .i64 (d : Nat) ∧ s 4 = .pointer (some ⟨H.length, 0, none⟩) ∧ s 5 = .pointer (some ⟨H.length + 1, 0, none⟩) ∧ s 6 = .int .i64 (x : Nat) ∧ s 7 = .int .i64 (y : Nat) ∧ Nat.gcd x y = Nat.gcd N d ∧ T = T0) (fun y => y) d ?_ ?_
    · refine ⟨N, ?_⟩
      simp -implicitDefEqProofs only [go_sem, simprocAttr, s0, s1, s4, s5]
    clear s0 s1 s4 s5
    rintro y s T ⟨x, s0, s1, s4, s5, s6, s7, hg, rfl⟩
    by_cases hy : y = 0
    · subst hy
      rw [Nat.gcd_zero_right] at hg
      have e : ¬ (0 : Int) < ((0 : Nat) : Int) := by decide
      simp -implicitDefEqProofs only [go_sem, simprocAttr, wa_cond, axC_t, axC_f, s0, s1, s4, s5, s6, s7, e]
      rw [← hg]
    · have e : (0 : Int) < (y : Int) := by omega
      have e2 : ¬ (y : Int) = 0 := by omega
      have e3 := tmod_nat x y
      have hml : x % y < y := Nat.mod_lt _ (by omega)
      have hgk : Nat.gcd y (x % y) = Nat.gcd N d := by rw [← hg, Nat.gcd_comm x y, Nat.gcd_comm y (x % y), ← Nat.gcd_rec]
      simp -implicitDefEqProofs only [go_sem, simprocAttr, wa_cond, axC_t, axC_f, s7, e]
      refine ax_quiet (by kernel_rfl) ?_
      simp -implicitDefEqProofs only [go_sem, simprocAttr, s0, s1, s4, s5, s6, s7, e2, e3]
      refine ⟨x % y, ⟨y, ?_⟩, hml⟩
      ((repeat' apply And.intro) <;> first | rfl | assumption | omega)
  clear s0 s1 s4 s5
  rintro s T ⟨s0, s1, s4, s5, s6, rfl⟩
  subst hT0
  rw [hpos]
  generalize Nat.gcd N d = G at *
  have c1 : ¬ (G : Int) = 0 := by omega
  have t1 := tdiv_nat N G
  have t2 := tdiv_nat d G
  have q1 := Nat.div_le_self N G
  have q2 := Nat.div_le_self d G
  have q3 : 0 < d / G := Nat.div_pos hgd hgp
  have w1 := w64n (n := N / G) (by omega)
  have w2 := w64n (n := d / G) (by omega)
  have o1 := fun H => digitsR H (n := N / G) (by omega)
  have o2 := fun H => digitsR H (n := d / G) (by omega)
  have hsn : ∀ (a b : Int) t, aBin tt .gtr t (.int .i64 a) (.int .i64 b) = some (.bool (decide (b < a))) := fun _ _ _ => rfl
  unfold qV
  simp -implicitDefEqProofs only [go_sem, simprocAttr, s0, s6, c1, t1, w1]
  refine kv (o1 _) ?_
  by_cases h1 : d / G = 1
  · have e1 : denB (d / G) = [] := by unfold denB; rw [if_pos h1]
    have e2 : ¬ (1 : Int) < ((d / G : Nat) : Int) := by omega
    rw [e1]
    simp -implicitDefEqProofs only [go_sem, simprocAttr, wa_cond, axC_t, axC_f, s1, s4, s5, s6, c1, t2, w2, e2, res169]
    first | exact .app _ _ | exact ⟨.app _ _, rfl⟩
  · have e1 : denB (d / G) = digB (d / G) := by unfold denB; rw [if_neg h1]
    have e2 : (1 : Int) < ((d / G : Nat) : Int) := by omega
    rw [e1]
    simp -implicitDefEqProofs only [go_sem, simprocAttr, wa_cond, axC_t, axC_f, s1, s4, s5, s6, c1, t2, w2, e2]
    refine kv (o2 _) ?_
    simp -implicitDefEqProofs only [go_sem, simprocAttr, s4, s5, res169]
    first | exact .app _ _ | exact ⟨.app _ _, rfl⟩
theorem partsR (H : Heap) {g : Bool} {n d : List UInt8} (hn : n.length ≤ 1000000) (hd : d.length ≤ 1000000) :
    Sim Tryz.prog 170 #[qV g n d] H (.tuple #[mkI (ival g n), mkI (dval d : Nat)]) H := by
  refine flat_ex rfl ?_
  have o1 := fun H => addRI H (g := g) (m := n) (g' := false) (m' := []) hn (by decide)
  have o2 := fun H => addRI H (g := false) (m := d) (g' := false) (m' := []) hd (by decide)
  have o3 := fun H => ofR H (z := 1) (by decide) (by decide)
  have e0 : ival false [] = 0 := rfl
  have e1 : ival false d = ((valB d : Nat) : Int) := rfl
  rw [e0, Int.add_zero] at o1 o2
  rw [e1, mkI_nat] at o2
  have hz : bs (digB (valB d)) = bs [] ↔ valB d = 0 := by rw [bs_inj, digB_nil_iff]
  have hD : mkI (dval d : Nat) = .agg #[.bool false, .string (bs (digB (dval d)))] := mkI_nat _
  obtain ⟨b1, s1, h1⟩ := mkI_shape (ival g n)
  rw [h1] at o1
  have h3 : mkI 1 = .agg #[.bool false, .string (bs (digB 1))] := mkI_nat 1
  rw [h3] at o3
  rw [h1, hD]
  unfold qV
  unfold iV at o1 o2
  unfold dval at *
  generalize valB d = x at *
  refine sxA tok mixed Tryz.func170 ?_
  simp -implicitDefEqProofs only [go_sem, simprocAttr, build106]
  refine kv (o1 _) ?_
  simp -implicitDefEqProofs only [go_sem, simprocAttr, build106]
  refine kv (o2 _) ?_
  simp -implicitDefEqProofs only [go_sem, simprocAttr]
  by_cases hx : x = 0
  · have hx2 := hz.2 hx
    rw [if_pos hx] at *
    simp -implicitDefEqProofs only [go_sem, simprocAttr, wa_cond, axC_t, axC_f, hx2]
    refine kv (o3 _) ?_
    simp -implicitDefEqProofs only [go_sem, simprocAttr]
    refine ax_cross4 (v0 := .agg #[.bool b1, .string s1]) (v1 := .agg #[.bool false, .string (bs (digB 1))]) ⟨by kernel_rfl, by kernel_rfl, by kernel_rfl, by kernel_rfl, by kernel_rfl, by kernel_rfl⟩ (by kernel_rfl) (by decide)
      (by simp -implicitDefEqProofs only [go_sem, simprocAttr]) (by simp -implicitDefEqProofs only [go_sem, simprocAttr]) (by simp -implicitDefEqProofs only [go_sem, simprocAttr]; rfl) (by simp -implicitDefEqProofs only [go_sem, simprocAttr]) (by simp -implicitDefEqProofs only [go_sem, simprocAttr]; rfl) ?_
    simp -implicitDefEqProofs only [go_sem, simprocAttr, res170]
    first | exact .app _ _ | exact ⟨.app _ _, rfl⟩
  · have hx2 : ¬ bs (digB x) = bs [] := fun h => hx (hz.1 h)
    rw [if_neg hx] at *
    simp -implicitDefEqProofs only [go_sem, simprocAttr, wa_cond, axC_t, axC_f, hx2]
    refine ax_cross4 (v0 := .agg #[.bool b1, .string s1]) (v1 := .agg #[.bool false, .string (bs (digB x))]) ⟨by kernel_rfl, by kernel_rfl, by kernel_rfl, by kernel_rfl, by kernel_rfl, by kernel_rfl⟩ (by kernel_rfl) (by decide)
      (by simp -implicitDefEqProofs only [go_sem, simprocAttr]) (by simp -implicitDefEqProofs only [go_sem, simprocAttr]) (by simp -implicitDefEqProofs only [go_sem, simprocAttr]; rfl) (by simp -implicitDefEqProofs only [go_sem, simprocAttr]) (by simp -implicitDefEqProofs only [go_sem, simprocAttr]; rfl) ?_
    simp -implicitDefEqProofs only [go_sem, simprocAttr, res170]
    first | exact .app _ _ | exact ⟨.app _ _, rfl⟩
end Go.Proofs.YthhmkaikopdmjaaGreat
namespace Go.Proofs.YthhmkaikopdmjaaGreat
open Go Go.Fw
theorem rAdd (H : Heap) {v w : Value} {x y : Int} {k k' : Nat} (hv : IA v x k) (hw : IA w y k') (hk : k ≤ 7000000) (hk' : k' ≤ 7000000) : Sim Tryz.prog 162 #[v, w] H (mkI (x + y)) H := by
  obtain ⟨g, m, rfl, rfl, h⟩ := hv; obtain ⟨g', m', rfl, rfl, h'⟩ := hw; exact addRI H (by omega) (by omega)
theorem rMul (H : Heap) {v w : Value} {x y : Int} {k k' : Nat} (hv : IA v x k) (hw : IA w y k') (hk : k ≤ 7000000) (hk' : k' ≤ 7000000) : Sim Tryz.prog 171 #[v, w] H (mkI (x * y)) H := by
  obtain ⟨g, m, rfl, rfl, h⟩ := hv; obtain ⟨g', m', rfl, rfl, h'⟩ := hw; exact mulRI H (by omega) (by omega)
theorem rNeg (H : Heap) {v : Value} {x : Int} {k : Nat} (hv : IA v x k) : Sim Tryz.prog 163 #[v] H (mkI (-x)) H := by
  obtain ⟨g, m, rfl, rfl, h⟩ := hv; exact negR H g m
theorem rGcd (H : Heap) {v w : Value} {x y : Int} {k k' : Nat} (hv : IA v x k) (hw : IA w y k') (hk : k ≤ 7000000) (hk' : k' ≤ 7000000) : Sim Tryz.prog 164 #[v, w] H (mkI (Nat.gcd x.natAbs y.natAbs : Nat)) H := by
  obtain ⟨g, m, rfl, rfl, h⟩ := hv; obtain ⟨g', m', rfl, rfl, h'⟩ := hw
  rw [ival_abs, ival_abs]; exact gcdR H (by omega) (by omega)
theorem rDiv (H : Heap) {v w : Value} {x y : Int} {k k' : Nat} (hv : IA v x k) (hw : IA w y k') (hk : k ≤ 7000000) (hk' : k' ≤ 7000000) (h0 : y ≠ 0) : Sim Tryz.prog 165 #[v, w] H (.tuple #[mkI (x.fdiv y), mkI (x.fmod y), .int .i64 0]) H := by
  obtain ⟨g, m, rfl, rfl, h⟩ := hv; obtain ⟨g', m', rfl, rfl, h'⟩ := hw; exact divRI H (by omega) (by omega) h0
theorem rCmp (H : Heap) {v w : Value} {x y : Int} {k k' : Nat} (hv : IA v x k) (hw : IA w y k') : Sim Tryz.prog 167 #[v, w] H (.int .i64 (sgn (x - y))) H := by
  obtain ⟨g, m, rfl, rfl, h⟩ := hv; obtain ⟨g', m', rfl, rfl, h'⟩ := hw; exact compareRI H g g' m m'
theorem IA.zero : IA (iV false []) 0 0 := ⟨false, [], rfl, rfl, by decide⟩
theorem IA_canon {v : Value} {x : Int} {k : Nat} (h : IA v x k) : IA (mkI x) x k := by
  obtain ⟨g, m, rfl, rfl, h⟩ := h
  refine ⟨_, _, rfl, ival_mk _, ?_⟩
  rw [ival_abs, ← digB_strip]
  have := dropZ_len m
  omega
theorem reduceR (H : Heap) {v w : Value} {x y : Int} {k : Nat} (hv : IA v x k) (hw : IA w y k) (hk : k ≤ 6000000) (hy : y ≠ 0) :
    Sim Tryz.prog 101 #[v, w] H (mkQ (Rat.divInt x y)) H := by
  refine flat_ex rfl ?_
  have o1 := fun H => rAdd H hv IA.zero (by omega) (by decide)
  have o2 := fun H => rAdd H hw IA.zero (by omega) (by decide)
  rw [Int.add_zero] at o1 o2
  have n1 := fun H => rNeg H (IA_canon hv)
  have n2 := fun H => rNeg H (IA_canon hw)
  obtain ⟨N, D, hD, hND, hF⟩ : ∃ (N : Int) (D : Nat), 0 < D ∧ ((¬ y < 0 ∧ N = x ∧ (D : Int) = y) ∨ (y < 0 ∧ N = -x ∧ (D : Int) = -y)) ∧ Rat.divInt x y = mkRat N D := by
    by_cases h : y < 0
    · exact ⟨-x, y.natAbs, by omega, .inr ⟨h, rfl, by omega⟩, divInt_neg2 h⟩
    · exact ⟨x, y.natAbs, by omega, .inl ⟨h, rfl, by omega⟩, divInt_pos (by omega)⟩
  have hN : IA (mkI N) N k := by
    refine ⟨_, _, rfl, ival_mk _, ?_⟩
    rcases hND with ⟨_, h, _⟩ | ⟨_, h, _⟩
    · obtain ⟨g, m, e1, e2, e3⟩ := IA_canon hv
      rw [h, ← e2, ival_abs, ← digB_strip]; have := dropZ_len m; omega
    · obtain ⟨g, m, e1, e2, e3⟩ := IA_canon hv
      rw [h, Int.natAbs_neg, ← e2, ival_abs, ← digB_strip]; have := dropZ_len m; omega
  have hDD : IA (mkI (D : Nat)) (D : Nat) k := by
    refine ⟨_, _, rfl, ival_mk _, ?_⟩
    obtain ⟨g, m, e1, e2, e3⟩ := (IA_canon hw)
    rw [show ((D : Int)).natAbs = y.natAbs by omega, ← e2, ival_abs, ← digB_strip]; have := dropZ_len m; omega
  have hG := Nat.gcd_pos_of_pos_right N.natAbs hD
  have hGG : IA (mkI (Nat.gcd N.natAbs D : Nat)) (Nat.gcd N.natAbs D : Nat) (k + 7) := by
    refine IA.mk ?_
    rw [Int.natAbs_natCast]
    have h2 := hDD.sz
    have := Nat.gcd_le_right N.natAbs hD
    rw [Int.natAbs_natCast] at h2
    omega
  have g1 := fun H => rGcd H hN hDD (by omega) (by omega)
  rw [Int.natAbs_natCast] at g1
  have d1 := fun H => rDiv H hN hGG (by omega) (by omega) (by omega)
  have d2 := fun H => rDiv H hDD hGG (by omega) (by omega) (by omega)
  rw [gcd_fdiv _ _ hG] at d1 d2
  have hQ := mkQ_pos (n := N) hD
  have hneg : decide (N / ((Nat.gcd N.natAbs D : Nat) : Int) < 0) = decide (N < 0) := by
    have := mkRat_neg_iff N hD
    rw [mkRat_num' N hD] at this
    exact decide_eq_decide.2 this
  have hden : ((D : Int)) / ((Nat.gcd N.natAbs D : Nat) : Int) = ((D / Nat.gcd N.natAbs D : Nat) : Int) := rfl
  rw [hden] at d2
  have hx0 : bs (digB x.natAbs) = bs [] ↔ x = 0 := by rw [bs_inj, digB_nil_iff]; omega
  have hd1 : bs (digB (D / Nat.gcd N.natAbs D)) = bs [1] ↔ D / Nat.gcd N.natAbs D = 1 := by
    rw [bs_inj, show ([1] : List UInt8) = digB 1 by rw [digB_one (by decide) (by decide)]; rfl]
    refine ⟨fun h => ?_, fun h => by rw [h]⟩
    have := congrArg valB h
    rwa [valB_dig, valB_dig] at this
  obtain ⟨gx, mx, rfl, ex, _⟩ := hv
  obtain ⟨gy, my, rfl, ey, _⟩ := hw
  have shN : mkI (N / ((Nat.gcd N.natAbs D : Nat) : Int)) = .agg #[.bool (decide (N < 0)), .string (bs (digB (N / ((Nat.gcd N.natAbs D : Nat) : Int)).natAbs))] := by rw [← hneg]; rfl
  have shD := mkI_nat (D / Nat.gcd N.natAbs D)
  rw [shN] at d1
  rw [shD] at d2
  rw [hF, hQ]
  generalize Nat.gcd N.natAbs D = G at *
  by_cases hx : x = 0
  · have e : mkQ (mkRat N D) = qV false [] [] := by
      rw [← hF, hx, Rat.zero_divInt, mkQ_zero]
    rw [← hQ, e]
    have hx2 := hx0.2 hx
    unfold mkI iV at o1 o2
    unfold iV qV
    refine sxA tok mixed Tryz.func101 ?_
    simp -implicitDefEqProofs only [go_sem, simprocAttr, build106]
    refine ax_quiet (by kernel_rfl) ?_
    simp -implicitDefEqProofs only [go_sem, simprocAttr, build106]
    refine kv (o1 _) ?_
    simp -implicitDefEqProofs only [go_sem, simprocAttr, build106]
    refine kv (o2 _) ?_
    simp -implicitDefEqProofs only [go_sem, simprocAttr, wa_cond, axC_t, axC_f, hx2, res101]
    first | exact .app _ _ | exact ⟨.app _ _, rfl⟩
  have hx2 : ¬ bs (digB x.natAbs) = bs [] := fun h => hx (hx0.1 h)
  have hxs : mkI x = .agg #[.bool (decide (x < 0)), .string (bs (digB x.natAbs))] := rfl
  have hys : mkI y = .agg #[.bool (decide (y < 0)), .string (bs (digB y.natAbs))] := rfl
  obtain ⟨nb, ns, hNs⟩ := mkI_shape N
  obtain ⟨db, ds, hDs⟩ := mkI_shape (D : Nat)
  obtain ⟨gb, gs, hGs⟩ := mkI_shape (G : Nat)
  obtain ⟨b3, s3', h3⟩ := mkI_shape (N.fmod (G : Nat))
  obtain ⟨b4, s4', h4⟩ := mkI_shape (((D : Nat) : Int).fmod (G : Nat))
  rw [hxs] at o1 n1
  rw [hys] at o2 n2
  rw [hNs, hDs, hGs] at g1
  rw [hNs, hGs, h3] at d1
  rw [hDs, hGs, h4] at d2
  have cden : denB (D / G) = if D / G = 1 then [] else digB (D / G) := rfl
  rw [cden]
  unfold iV at o1 o2
  unfold iV qV
  generalize digB (N / (G : Int)).natAbs = qn at *
  refine sxA tok mixed Tryz.func101 ?_
  simp -implicitDefEqProofs only [go_sem, simprocAttr, build106]
  refine ax_quiet (by kernel_rfl) ?_
  simp -implicitDefEqProofs only [go_sem, simprocAttr, build106]
  refine kv (o1 _) ?_
  simp -implicitDefEqProofs only [go_sem, simprocAttr, build106]
  refine kv (o2 _) ?_
  simp -implicitDefEqProofs only [go_sem, simprocAttr, hx2]
  refine ax_cond2 ?_
  simp only [ev_tmp, ev_const, ev_func, upd_at, put_some, put_none, bndB_bool, Nat.reduceEqDiff, if_true, if_false, ↓reduceIte, reduceCtorEq]
  refine ⟨fun hc => hc.elim, fun _ => ?_⟩
  simp -implicitDefEqProofs only [go_sem, simprocAttr]
  refine ax_mid (fun s T => s 2 = .pointer (some ⟨H.length, 0, none⟩) ∧ s 3 = .pointer (some ⟨H.length + 1, 0, none⟩) ∧ s 4 = .pointer (some ⟨H.length + 2, 0, none⟩) ∧ T = H ++ [⟨[.bool nb, .string ns], 1, true⟩, ⟨[.bool db, .string ds], 1, true⟩, ⟨[.bool false, .string (bs []), .string (bs [])], 1, true⟩]) ?_ ?_
  · rcases hND with ⟨h, e1, e2⟩ | ⟨h, e1, e2⟩
    · rw [e1, hxs] at hNs
      rw [e2, hys] at hDs
      injection hNs with hNs
      injection hDs with hDs
      simp only [Array.mk.injEq, List.cons.injEq, Value.bool.injEq, Value.string.injEq, and_true] at hNs hDs
      obtain ⟨rfl, rfl⟩ := hNs
      obtain ⟨rfl, rfl⟩ := hDs
      simp -implicitDefEqProofs only [go_sem, simprocAttr, wa_cond, axC_t, axC_f, h]
    · rw [← e1, hNs] at n1
      rw [← e2, hDs] at n2
      rw [decide_eq_true h] at n2 ⊢
      simp -implicitDefEqProofs only [go_sem, simprocAttr, wa_cond, axC_t, axC_f]
      refine ax_quiet (by kernel_rfl) ?_
      simp -implicitDefEqProofs only [go_sem, simprocAttr]
      refine kv (n1 _) ?_
      simp -implicitDefEqProofs only [go_sem, simprocAttr]
      refine kv (n2 _) ?_
      simp -implicitDefEqProofs only [go_sem, simprocAttr]
  rintro s T ⟨s2, s3, s4, rfl⟩
  simp -implicitDefEqProofs only [go_sem, simprocAttr, s2, s3]
  refine kv (g1 _) ?_
  simp -implicitDefEqProofs only [go_sem, simprocAttr, s2, s3]
  refine kv (d1 _) ?_
  simp -implicitDefEqProofs only [go_sem, simprocAttr, s2, s3]
  refine kv (d2 _) ?_
  simp -implicitDefEqProofs only [go_sem, simprocAttr, s2, s3, show (⟨#[1]⟩ : ByteArray) = bs [1] from rfl, hd1]
  by_cases h1 : D / G = 1
  · rw [if_pos h1]
    simp -implicitDefEqProofs only [go_sem, simprocAttr, wa_cond, axC_t, axC_f, s4, h1, res101]
    first | exact .app _ _ | exact ⟨.app _ _, rfl⟩
  · rw [if_neg h1]
    simp -implicitDefEqProofs only [go_sem, simprocAttr, wa_cond, axC_t, axC_f, s3, s4, h1, res101]
    first | exact .app _ _ | exact ⟨.app _ _, rfl⟩
theorem ofNR (H : Heap) {n : Int} (h1 : -9223372036854775808 ≤ n) (h2 : n < 9223372036854775808) : Sim Tryz.prog 48 #[.int .i64 n] H (mkQ (n : Rat)) H := by
  refine flat_ex rfl ?_
  have o1 := fun H => ofR H h1 h2
  have o2 := fun H => ofR H (z := 1) (by decide) (by decide)
  have o3 := fun H => reduceR H (IA.mk (z := n) (k := 64) (by omega)) (IA.mk (z := 1) (k := 64) (by decide)) (by decide) (by decide)
  rw [divInt_pos (by decide), show (1 : Int).natAbs = 1 from rfl, mkRat_one] at o3
  refine sxA tok mixed Tryz.func48 ?_
  simp -implicitDefEqProofs only [go_sem, simprocAttr, UU]
  refine kw (o1 _) ?_
  refine kw (o2 _) ?_
  refine kw (o3 _) ?_
  simp -implicitDefEqProofs only [go_sem, simprocAttr, UU, res48]
  first | exact .app _ _ | exact ⟨.app _ _, rfl⟩ | exact .refl _ | exact ⟨.refl _, rfl⟩
theorem integerR (H : Heap) {v : Value} {n : Int} {k : Nat} (hv : IA v n k) (hk : k ≤ 5000000) (h8 : 71 ≤ k) : Sim Tryz.prog 242 #[v] H (mkQ (n : Rat)) H := by
  refine flat_ex rfl ?_
  have o2 := fun H => ofR H (z := 1) (by decide) (by decide)
  have o3 := fun H => reduceR H hv ((IA.mk (z := 1) (k := 64) (by decide)).mono h8) (by omega) (by decide)
  rw [divInt_pos (by decide), show (1 : Int).natAbs = 1 from rfl, mkRat_one] at o3
  obtain ⟨g, m, rfl, _, _⟩ := hv
  unfold iV at *
  refine sxA tok mixed Tryz.func242 ?_
  simp -implicitDefEqProofs only [go_sem, simprocAttr, UU]
  refine ax_quiet (by kernel_rfl) ?_
  simp -implicitDefEqProofs only [go_sem, simprocAttr, UU]
  refine kw (o2 _) ?_
  refine kw (o3 _) ?_
  simp -implicitDefEqProofs only [go_sem, simprocAttr, UU, res242]
  first | exact .app _ _ | exact ⟨.app _ _, rfl⟩ | exact .refl _ | exact ⟨.refl _, rfl⟩
end Go.Proofs.YthhmkaikopdmjaaGreat
namespace Go.Proofs.YthhmkaikopdmjaaGreat
open Go Go.Fw
theorem small_or (g : Bool) (n d : List UInt8) : (n.length ≤ 3 ∧ d.length ≤ 3 ∧ ∀ H, Sim Tryz.prog 168 #[qV g n d] H (.tuple #[.int .i64 (ival g n), .int .i64 (dval d : Nat), .bool true]) H) ∨
    (∀ H, Sim Tryz.prog 168 #[qV g n d] H (.tuple #[.int .i64 0, .int .i64 0, .bool false]) H) := by
  by_cases h : 3 < n.length ∨ 3 < d.length
  · exact .inr fun H => small_big H h
  · exact .inl ⟨by omega, by omega, fun H => small_small H (by omega) (by omega)⟩
theorem dval_lt {d : List UInt8} {k : Nat} (h : 8 * d.length ≤ k) : ((dval d : Nat) : Int).natAbs < 2 ^ (k + 1) := by
  have := valB_lt2 d h
  have h1 := Nat.one_le_two_pow (n := k)
  rw [Nat.pow_succ, Int.natAbs_natCast]
  unfold dval
  split <;> omega
theorem ival_lt (g : Bool) {n : List UInt8} {k : Nat} (h : 8 * n.length ≤ k) : (ival g n).natAbs < 2 ^ (k + 1) := by
  rw [ival_abs, Nat.pow_succ]
  have := valB_lt2 n h
  omega
theorem normalR (H : Heap) {v : Value} {q : Rat} {k : Nat} (hv : QV v q k) (hk : k ≤ 4000000) : Sim Tryz.prog 173 #[v] H (mkQ q) H := by
  refine flat_ex rfl ?_
  obtain ⟨g, n, d, rfl, rfl, h1, h2⟩ := hv
  have d0 := dval_pos d
  have pA := fun H => partsR H (g := g) (n := n) (d := d) (by omega) (by omega)
  have r1 := fun H => reduceR H (IA.mk (ival_lt g h1)) (IA.mk (dval_lt h2)) (by omega) (by omega)
  rw [divInt_pos (by omega), Int.natAbs_natCast] at r1
  have hq : qval g n d = mkRat (ival g n) (dval d) := rfl
  rw [← hq] at r1
  rcases small_or g n d with ⟨x1, x2, oA⟩ | oA
  · have b1 := ival3 g x1
    have b2 := dval3 x2
    have oP := fun H => packR H (n := ival g n) (d := dval d) (by omega) (by omega) d0
    rw [← hq] at oP
    generalize qval g n d = Q at *
    generalize ival g n = P at *
    generalize dval d = D at *
    unfold qV at oA pA ⊢
    refine sxA tok mixed Tryz.func173 ?_
    simp -implicitDefEqProofs only [go_sem, simprocAttr, UU]
    refine kv (oA _) ?_
    simp -implicitDefEqProofs only [go_sem, simprocAttr, UU, axC_t, axC_f, wa_cond]
    refine kw (oP _) ?_
    simp -implicitDefEqProofs only [go_sem, simprocAttr, UU, res173]
    first | exact .app _ _ | exact ⟨.app _ _, rfl⟩ | exact .refl _ | exact ⟨.refl _, rfl⟩
  · generalize qval g n d = Q at *
    generalize ival g n = P at *
    generalize dval d = D at *
    unfold qV at oA pA ⊢
    refine sxA tok mixed Tryz.func173 ?_
    simp -implicitDefEqProofs only [go_sem, simprocAttr, UU]
    refine kv (oA _) ?_
    simp -implicitDefEqProofs only [go_sem, simprocAttr, UU, axC_t, axC_f, wa_cond]
    refine kw (pA _) ?_
    refine kw (r1 _) ?_
    simp -implicitDefEqProofs only [go_sem, simprocAttr, UU, res173]
    first | exact .app _ _ | exact ⟨.app _ _, rfl⟩ | exact .refl _ | exact ⟨.refl _, rfl⟩
theorem qcheckR (H : Heap) {g : Bool} {n d : List UInt8} (hn : n.length ≤ 400000) (hd : d.length ≤ 400000) : Sim Tryz.prog 110 #[qV g n d] H (.int .i64 (if isCan g n d = true then 0 else 1)) H := by
  refine flat_ex rfl ?_
  have o1 := fun H => normalR H (QV.raw g n d (k := 3200000) (by omega) (by omega)) (by decide)
  have hq := neq24 (decide ((qval g n d).num < 0)) g (digB (qval g n d).num.natAbs) (denB (qval g n d).den) n d
  have e2 : decide (¬ (decide ((qval g n d).num < 0) = g ∧ digB (qval g n d).num.natAbs = n ∧ denB (qval g n d).den = d)) = !(isCan g n d) := by
    unfold isCan
    rw [← decide_not]
    refine decide_eq_decide.2 (not_congr ?_)
    constructor <;> rintro ⟨a, b, c⟩ <;> exact ⟨a.symm, b.symm, c.symm⟩
  rw [e2] at hq
  cases h0 : isCan g n d
  · rw [h0] at hq
    generalize qval g n d = q at *
    unfold qV mkQ at *
    refine sxA tok mixed Tryz.func110 ?_
    simp -implicitDefEqProofs only [go_sem, simprocAttr, UU]
    refine ax_quiet (by kernel_rfl) ?_
    simp -implicitDefEqProofs only [go_sem, simprocAttr, UU]
    refine kv (o1 _) ?_
    simp -implicitDefEqProofs only [go_sem, simprocAttr, UU, hq]
    simp -implicitDefEqProofs only [go_sem, simprocAttr, UU, wa_cond, axC_t, axC_f]
    simp -implicitDefEqProofs only [go_sem, simprocAttr, UU, res110]
    first | exact .app _ _ | exact ⟨.app _ _, rfl⟩ | exact .refl _ | exact ⟨.refl _, rfl⟩
  · rw [h0] at hq
    generalize qval g n d = q at *
    unfold qV mkQ at *
    refine sxA tok mixed Tryz.func110 ?_
    simp -implicitDefEqProofs only [go_sem, simprocAttr, UU]
    refine ax_quiet (by kernel_rfl) ?_
    simp -implicitDefEqProofs only [go_sem, simprocAttr, UU]
    refine kv (o1 _) ?_
    simp -implicitDefEqProofs only [go_sem, simprocAttr, UU, hq]
    simp -implicitDefEqProofs only [go_sem, simprocAttr, UU, wa_cond, axC_t, axC_f]
    simp -implicitDefEqProofs only [go_sem, simprocAttr, UU, res110]
    first | exact .app _ _ | exact ⟨.app _ _, rfl⟩ | exact .refl _ | exact ⟨.refl _, rfl⟩
theorem negRQ (H : Heap) {v : Value} {q : Rat} {k : Nat} (hv : QV v q k) (hk : k ≤ 4000000) : Sim Tryz.prog 188 #[v] H (mkQ (-q)) H := by
  refine flat_ex rfl ?_
  obtain ⟨g, n, d, rfl, rfl, h1, h2⟩ := hv
  have o1 := fun H => normalR H (QV.raw (!g) n d h1 h2) hk
  rw [qval_not] at o1
  generalize -qval g n d = Q at *
  unfold qV at *
  refine sxA tok mixed Tryz.func188 ?_
  simp -implicitDefEqProofs only [go_sem, simprocAttr, UU]
  refine kw (o1 _) ?_
  simp -implicitDefEqProofs only [go_sem, simprocAttr, UU, res188]
  first | exact .app _ _ | exact ⟨.app _ _, rfl⟩ | exact .refl _ | exact ⟨.refl _, rfl⟩
theorem addRQ (H : Heap) {v w : Value} {a b : Rat} {k k' : Nat} (hv : QV v a k) (hw : QV w b k') (hk : k ≤ 600000) (hk' : k' ≤ 600000) : Sim Tryz.prog 106 #[v, w] H (mkQ (a + b)) H := by
  refine flat_ex rfl ?_
  obtain ⟨K, hK⟩ : ∃ K, K = 600000 := ⟨_, rfl⟩
  obtain ⟨g, n, d, rfl, rfl, h1, h2⟩ := QV.mono hv (k' := K) (by omega)
  obtain ⟨g', n', d', rfl, rfl, h3, h4⟩ := QV.mono hw (k' := K) (by omega)
  have d0 := dval_pos d
  have d0' := dval_pos d'
  have pA := fun H => partsR H (g := g) (n := n) (d := d) (by omega) (by omega)
  have pB := fun H => partsR H (g := g') (n := n') (d := d') (by omega) (by omega)
  have zP := ival_lt g h1
  have zD := dval_lt h2
  have zP' := ival_lt g' h3
  have zD' := dval_lt h4
  have law : qval g n d + qval g' n' d' = mkRat (ival g n * (dval d' : Nat) + ival g' n' * (dval d : Nat)) (dval d * dval d') := mkRat_add' _ _ d0 d0'
  rw [law]
  have sA := small_or g n d
  have sB := small_or g' n' d'
  have b1 := fun x1 => ival3 g (n := n) x1
  have b2 := fun x1 => dval3 (n := d) x1
  have b3 := fun x1 => ival3 g' (n := n') x1
  have b4 := fun x1 => dval3 (n := d') x1
  clear law
  generalize ival g n = P at *
  generalize dval d = D at *
  generalize ival g' n' = P' at *
  generalize dval d' = D' at *
  unfold qV at *
  have e1 := absmul zP zD'
  have e2 := absmul zP' zD
  have e3 := absadd e1 e2
  have e4 := absmul zD zD'
  have m1 := fun H => rMul H (IA.mk zP) (IA.mk zD') (by omega) (by omega)
  have m2 := fun H => rMul H (IA.mk zP') (IA.mk zD) (by omega) (by omega)
  have m3 := fun H => rAdd H (IA.mk e1) (IA.mk e2) (by omega) (by omega)
  have m4 := fun H => rMul H (IA.mk zD) (IA.mk zD') (by omega) (by omega)
  have h0 : (D : Int) * (D' : Int) ≠ 0 := by have := Nat.mul_pos d0 d0'; rw [mulc]; omega
  have r1 := fun H => reduceR H (IA.mk e3) ((IA.mk e4).mono (k' := K + 1 + (K + 1) + 1 + 7) (by omega)) (by omega) h0
  rw [divInt_pos (by have := Nat.mul_pos d0 d0'; rw [mulc]; omega), mulc, Int.natAbs_natCast] at r1
  rw [mulc] at m4
  clear e1 e2 e3 e4 zP zP' zD zD' 
  refine sxA tok mixed Tryz.func106 ?_
  simp -implicitDefEqProofs only [go_sem, simprocAttr, UU]
  apply shareK (M := fun s T => s 2 = .pointer (some ⟨H.length, 0, none⟩) ∧ s 3 = .pointer (some ⟨H.length + 1, 0, none⟩) ∧ s 4 = .pointer (some ⟨H.length + 2, 0, none⟩) ∧ T = H ++ [⟨[.bool g, .string (bs n), .string (bs d)], 1, true⟩, ⟨[.bool g', .string (bs n'), .string (bs d')], 1, true⟩, ⟨[.bool false, .string (bs []), .string (bs [])], 1, true⟩])
  · intro hrest
    rcases sA with ⟨x1, x2, oA⟩ | oA
    · rcases sB with ⟨x3, x4, oB⟩ | oB
      · have b1 := b1 x1
        have b2 := b2 x2
        have b3 := b3 x3
        have b4 := b4 x4
        have p1 := prod3 (x := P) (y := (D' : Int)) b1 (by omega)
        have p2 := prod3 (x := P') (y := (D : Int)) b3 (by omega)
        have p3 : D * D' ≤ 16777216 * 16777216 := Nat.mul_le_mul b2 b4
        have w1 : IntKind.i64.wrap (P * (D' : Int)) = P * (D' : Int) := w64 (by omega) (by omega)
        have w2 : IntKind.i64.wrap (P' * (D : Int)) = P' * (D : Int) := w64 (by omega) (by omega)
        have w3 : IntKind.i64.wrap (P * (D' : Int) + P' * (D : Int)) = P * (D' : Int) + P' * (D : Int) := w64 (by omega) (by omega)
        have w4 : IntKind.i64.wrap ((D : Int) * (D' : Int)) = ((D * D' : Nat) : Int) := by rw [mulc, w64n (by omega)]
        have oP := fun H => packR H (n := P * (D' : Int) + P' * (D : Int)) (d := D * D') (by omega) (by omega) (Nat.mul_pos d0 d0')
        refine kw (oA _) ?_
        refine kv (oB _) ?_
        simp -implicitDefEqProofs only [go_sem, simprocAttr, UU, wa_cond, axC_t, axC_f, w1, w2, w3, w4]
        refine kw (oP _) ?_
        simp -implicitDefEqProofs only [go_sem, simprocAttr, UU, res106]
        first | exact .app _ _ | exact ⟨.app _ _, rfl⟩ | exact .refl _ | exact ⟨.refl _, rfl⟩
      · refine kw (oA _) ?_
        refine kw (oB _) ?_
        refine ax_mid _ ?_ hrest
        simp -implicitDefEqProofs only [go_sem, simprocAttr, UU, wa_cond, axC_t, axC_f]
    · obtain ⟨y1, y2, y3, oB⟩ : ∃ y1 y2 y3, ∀ H, Sim Tryz.prog 168 #[.agg #[.bool g', .string (bs n'), .string (bs d')]] H (.tuple #[.int .i64 y1, .int .i64 y2, .bool y3]) H := by
        rcases sB with ⟨_, _, oB⟩ | oB
        · exact ⟨_, _, _, oB⟩
        · exact ⟨_, _, _, oB⟩
      refine kw (oA _) ?_
      refine kw (oB _) ?_
      refine ax_mid _ ?_ hrest
      simp -implicitDefEqProofs only [go_sem, simprocAttr, UU, wa_cond, axC_t, axC_f]
  rintro s T ⟨s2, s3, s4, rfl⟩
  simp -implicitDefEqProofs only [go_sem, simprocAttr, UU, s2, s3]
  refine kv (pA _) ?_
  simp -implicitDefEqProofs only [go_sem, simprocAttr, UU, s2, s3]
  refine kv (pB _) ?_
  simp -implicitDefEqProofs only [go_sem, simprocAttr, UU, s2, s3]
  refine ax_quiet (by kernel_rfl) ?_
  simp -implicitDefEqProofs only [go_sem, simprocAttr, UU]
  refine kw (m1 _) ?_
  refine kw (m2 _) ?_
  refine kw (m3 _) ?_
  refine kw (m4 _) ?_
  refine kv (r1 _) ?_
  simp -implicitDefEqProofs only [go_sem, simprocAttr, UU, s4]
  simp -implicitDefEqProofs only [go_sem, simprocAttr, UU, res106, s4]
  first | exact .app _ _ | exact ⟨.app _ _, rfl⟩ | exact .refl _ | exact ⟨.refl _, rfl⟩
theorem mulRQ (H : Heap) {v w : Value} {a b : Rat} {k k' : Nat} (hv : QV v a k) (hw : QV w b k') (hk : k ≤ 600000) (hk' : k' ≤ 600000) : Sim Tryz.prog 105 #[v, w] H (mkQ (a * b)) H := by
  refine flat_ex rfl ?_
  obtain ⟨K, hK⟩ : ∃ K, K = 600000 := ⟨_, rfl⟩
  obtain ⟨g, n, d, rfl, rfl, h1, h2⟩ := QV.mono hv (k' := K) (by omega)
  obtain ⟨g', n', d', rfl, rfl, h3, h4⟩ := QV.mono hw (k' := K) (by omega)
  have d0 := dval_pos d
  have d0' := dval_pos d'
  have pA := fun H => partsR H (g := g) (n := n) (d := d) (by omega) (by omega)
  have pB := fun H => partsR H (g := g') (n := n') (d := d') (by omega) (by omega)
  have zP := ival_lt g h1
  have zD := dval_lt h2
  have zP' := ival_lt g' h3
  have zD' := dval_lt h4
  have law : qval g n d * qval g' n' d' = mkRat (ival g n * ival g' n') (dval d * dval d') := Rat.mkRat_mul_mkRat _ _ _ _
  rw [law]
  have sA := small_or g n d
  have sB := small_or g' n' d'
  have b1 := fun x1 => ival3 g (n := n) x1
  have b2 := fun x1 => dval3 (n := d) x1
  have b3 := fun x1 => ival3 g' (n := n') x1
  have b4 := fun x1 => dval3 (n := d') x1
  clear law
  generalize ival g n = P at *
  generalize dval d = D at *
  generalize ival g' n' = P' at *
  generalize dval d' = D' at *
  unfold qV at *
  have e1 := absmul zP zP'
  have e4 := absmul zD zD'
  have m1 := fun H => rMul H (IA.mk zP) (IA.mk zP') (by omega) (by omega)
  have m4 := fun H => rMul H (IA.mk zD) (IA.mk zD') (by omega) (by omega)
  have h0 : (D : Int) * (D' : Int) ≠ 0 := by have := Nat.mul_pos d0 d0'; rw [mulc]; omega
  have r1 := fun H => reduceR H (IA.mk e1) (IA.mk e4) (by omega) h0
  rw [divInt_pos (by have := Nat.mul_pos d0 d0'; rw [mulc]; omega), mulc, Int.natAbs_natCast] at r1
  rw [mulc] at m4
  clear e1 e4 zP zP' zD zD' 
  refine sxA tok mixed Tryz.func105 ?_
  simp -implicitDefEqProofs only [go_sem, simprocAttr, UU]
  apply shareK (M := fun s T => s 2 = .pointer (some ⟨H.length, 0, none⟩) ∧ s 3 = .pointer (some ⟨H.length + 1, 0, none⟩) ∧ s 4 = .pointer (some ⟨H.length + 2, 0, none⟩) ∧ T = H ++ [⟨[.bool g, .string (bs n), .string (bs d)], 1, true⟩, ⟨[.bool g', .string (bs n'), .string (bs d')], 1, true⟩, ⟨[.bool false, .string (bs []), .string (bs [])], 1, true⟩])
  · intro hrest
    rcases sA with ⟨x1, x2, oA⟩ | oA
    · rcases sB with ⟨x3, x4, oB⟩ | oB
      · have b1 := b1 x1
        have b2 := b2 x2
        have b3 := b3 x3
        have b4 := b4 x4
        have p1 := prod3 (x := P) (y := P') b1 b3
        have p3 : D * D' ≤ 16777216 * 16777216 := Nat.mul_le_mul b2 b4
        have w1 : IntKind.i64.wrap (P * P') = P * P' := w64 (by omega) (by omega)
        have w4 : IntKind.i64.wrap ((D : Int) * (D' : Int)) = ((D * D' : Nat) : Int) := by rw [mulc, w64n (by omega)]
        have oP := fun H => packR H (n := P * P') (d := D * D') (by omega) (by omega) (Nat.mul_pos d0 d0')
        refine kw (oA _) ?_
        refine kv (oB _) ?_
        simp -implicitDefEqProofs only [go_sem, simprocAttr, UU, wa_cond, axC_t, axC_f, w1, w4]
        refine kw (oP _) ?_
        simp -implicitDefEqProofs only [go_sem, simprocAttr, UU, res105]
        first | exact .app _ _ | exact ⟨.app _ _, rfl⟩ | exact .refl _ | exact ⟨.refl _, rfl⟩
      · refine kw (oA _) ?_
        refine kw (oB _) ?_
        refine ax_mid _ ?_ hrest
        simp -implicitDefEqProofs only [go_sem, simprocAttr, UU, wa_cond, axC_t, axC_f]
    · obtain ⟨y1, y2, y3, oB⟩ : ∃ y1 y2 y3, ∀ H, Sim Tryz.prog 168 #[.agg #[.bool g', .string (bs n'), .string (bs d')]] H (.tuple #[.int .i64 y1, .int .i64 y2, .bool y3]) H := by
        rcases sB with ⟨_, _, oB⟩ | oB
        · exact ⟨_, _, _, oB⟩
        · exact ⟨_, _, _, oB⟩
      refine kw (oA _) ?_
      refine kw (oB _) ?_
      refine ax_mid _ ?_ hrest
      simp -implicitDefEqProofs only [go_sem, simprocAttr, UU, wa_cond, axC_t, axC_f]
  rintro s T ⟨s2, s3, s4, rfl⟩
  simp -implicitDefEqProofs only [go_sem, simprocAttr, UU, s2, s3]
  refine kv (pA _) ?_
  simp -implicitDefEqProofs only [go_sem, simprocAttr, UU, s2, s3]
  refine kv (pB _) ?_
  simp -implicitDefEqProofs only [go_sem, simprocAttr, UU, s2, s3]
  refine ax_quiet (by kernel_rfl) ?_
  simp -implicitDefEqProofs only [go_sem, simprocAttr, UU]
  refine kw (m1 _) ?_
  refine kw (m4 _) ?_
  refine kv (r1 _) ?_
  simp -implicitDefEqProofs only [go_sem, simprocAttr, UU, s4]
  simp -implicitDefEqProofs only [go_sem, simprocAttr, UU, res105, s4]
  first | exact .app _ _ | exact ⟨.app _ _, rfl⟩ | exact .refl _ | exact ⟨.refl _, rfl⟩
theorem cmpRQ (H : Heap) {v w : Value} {a b : Rat} {k k' : Nat} (hv : QV v a k) (hw : QV w b k') (hk : k ≤ 600000) (hk' : k' ≤ 600000) : Sim Tryz.prog 111 #[v, w] H (.int .i64 (cmpQ a b)) H := by
  refine flat_ex rfl ?_
  obtain ⟨K, hK⟩ : ∃ K, K = 600000 := ⟨_, rfl⟩
  obtain ⟨g, n, d, rfl, rfl, h1, h2⟩ := QV.mono hv (k' := K) (by omega)
  obtain ⟨g', n', d', rfl, rfl, h3, h4⟩ := QV.mono hw (k' := K) (by omega)
  have d0 := dval_pos d
  have d0' := dval_pos d'
  have pA := fun H => partsR H (g := g) (n := n) (d := d) (by omega) (by omega)
  have pB := fun H => partsR H (g := g') (n := n') (d := d') (by omega) (by omega)
  have zP := ival_lt g h1
  have zD := dval_lt h2
  have zP' := ival_lt g' h3
  have zD' := dval_lt h4
  have law : cmpQ (qval g n d) (qval g' n' d') = sgn (ival g n * (dval d' : Nat) - ival g' n' * (dval d : Nat)) := cmpQ_eq d0 d0'
  rw [law]
  have sA := small_or g n d
  have sB := small_or g' n' d'
  have b1 := fun x1 => ival3 g (n := n) x1
  have b2 := fun x1 => dval3 (n := d) x1
  have b3 := fun x1 => ival3 g' (n := n') x1
  have b4 := fun x1 => dval3 (n := d') x1
  clear law
  generalize ival g n = P at *
  generalize dval d = D at *
  generalize ival g' n' = P' at *
  generalize dval d' = D' at *
  unfold qV at *
  have e1 := absmul zP zD'
  have e2 := absmul zP' zD
  have m1 := fun H => rMul H (IA.mk zP) (IA.mk zD') (by omega) (by omega)
  have m2 := fun H => rMul H (IA.mk zP') (IA.mk zD) (by omega) (by omega)
  have m3 := fun H => rCmp H (IA.mk e1) (IA.mk e2)
  clear e1 e2 zP zP' zD zD' 
  refine sxA tok mixed Tryz.func111 ?_
  simp -implicitDefEqProofs only [go_sem, simprocAttr, UU]
  apply shareK (M := fun s T => s 2 = .pointer (some ⟨H.length, 0, none⟩) ∧ s 3 = .pointer (some ⟨H.length + 1, 0, none⟩) ∧ T = H ++ [⟨[.bool g, .string (bs n), .string (bs d)], 1, true⟩, ⟨[.bool g', .string (bs n'), .string (bs d')], 1, true⟩])
  · intro hrest
    rcases sA with ⟨x1, x2, oA⟩ | oA
    · rcases sB with ⟨x3, x4, oB⟩ | oB
      · have b1 := b1 x1
        have b2 := b2 x2
        have b3 := b3 x3
        have b4 := b4 x4
        have p1 := prod3 (x := P) (y := (D' : Int)) b1 (by omega)
        have p2 := prod3 (x := P') (y := (D : Int)) b3 (by omega)
        clear m1 m2 m3 hrest
        obtain ⟨x, hx⟩ : ∃ x : Int, P * (D' : Int) = x := ⟨_, rfl⟩
        obtain ⟨y, hy⟩ : ∃ x : Int, P' * (D : Int) = x := ⟨_, rfl⟩
        rw [hx, hy]
        have w1 : IntKind.i64.wrap (P * (D' : Int)) = x := by rw [hx] at p1 ⊢; exact w64 (by omega) (by omega)
        have w2 : IntKind.i64.wrap (P' * (D : Int)) = y := by rw [hy] at p2 ⊢; exact w64 (by omega) (by omega)
        by_cases h1 : x < y
        · rw [sgn_neg (by omega)]
          refine kw (oA _) ?_
          refine kv (oB _) ?_
          simp -implicitDefEqProofs only [go_sem, simprocAttr, UU, wa_cond, axC_t, axC_f, w1, w2, h1]
          simp -implicitDefEqProofs only [go_sem, simprocAttr, UU, res111]
          first | exact .app _ _ | exact ⟨.app _ _, rfl⟩ | exact .refl _ | exact ⟨.refl _, rfl⟩
        · by_cases h2 : y < x
          · rw [sgn_pos (by omega)]
            refine kw (oA _) ?_
            refine kv (oB _) ?_
            simp -implicitDefEqProofs only [go_sem, simprocAttr, UU, wa_cond, axC_t, axC_f, w1, w2, h1, h2]
            simp -implicitDefEqProofs only [go_sem, simprocAttr, UU, res111]
            first | exact .app _ _ | exact ⟨.app _ _, rfl⟩ | exact .refl _ | exact ⟨.refl _, rfl⟩
          · rw [sgn_zero.2 (by omega)]
            refine kw (oA _) ?_
            refine kv (oB _) ?_
            simp -implicitDefEqProofs only [go_sem, simprocAttr, UU, wa_cond, axC_t, axC_f, w1, w2, h1, h2]
            simp -implicitDefEqProofs only [go_sem, simprocAttr, UU, res111]
            first | exact .app _ _ | exact ⟨.app _ _, rfl⟩ | exact .refl _ | exact ⟨.refl _, rfl⟩
      · refine kw (oA _) ?_
        refine kw (oB _) ?_
        refine ax_mid _ ?_ hrest
        simp -implicitDefEqProofs only [go_sem, simprocAttr, UU, wa_cond, axC_t, axC_f]
    · obtain ⟨y1, y2, y3, oB⟩ : ∃ y1 y2 y3, ∀ H, Sim Tryz.prog 168 #[.agg #[.bool g', .string (bs n'), .string (bs d')]] H (.tuple #[.int .i64 y1, .int .i64 y2, .bool y3]) H := by
        rcases sB with ⟨_, _, oB⟩ | oB
        · exact ⟨_, _, _, oB⟩
        · exact ⟨_, _, _, oB⟩
      refine kw (oA _) ?_
      refine kw (oB _) ?_
      refine ax_mid _ ?_ hrest
      simp -implicitDefEqProofs only [go_sem, simprocAttr, UU, wa_cond, axC_t, axC_f]
  rintro s T ⟨s2, s3, rfl⟩
  simp -implicitDefEqProofs only [go_sem, simprocAttr, UU, s2, s3]
  refine kv (pA _) ?_
  simp -implicitDefEqProofs only [go_sem, simprocAttr, UU, s2, s3]
  refine kv (pB _) ?_
  simp -implicitDefEqProofs only [go_sem, simprocAttr, UU, s2, s3]
  refine ax_quiet (by kernel_rfl) ?_
  simp -implicitDefEqProofs only [go_sem, simprocAttr, UU]
  refine kw (m1 _) ?_
  refine kw (m2 _) ?_
  refine kw (m3 _) ?_
  simp -implicitDefEqProofs only [go_sem, simprocAttr, UU, res111]
  first | exact .app _ _ | exact ⟨.app _ _, rfl⟩ | exact .refl _ | exact ⟨.refl _, rfl⟩
end Go.Proofs.YthhmkaikopdmjaaGreat
namespace Go.Proofs.YthhmkaikopdmjaaGreat
open Go Go.Fw
theorem signRQ (H : Heap) {v : Value} {q : Rat} {k : Nat} (hv : QV v q k) (hk : k ≤ 600000) : Sim Tryz.prog 189 #[v] H (.int .i64 (cmpQ q 0)) H := by
  refine flat_ex rfl ?_
  have o1 := fun H => cmpRQ H hv (QV.raw false [] [] (k := 8) (by decide) (by decide)) hk (by decide)
  have e0 : qval false [] [] = 0 := by unfold qval; rw [show ival false [] = 0 from rfl, Rat.zero_mkRat]
  rw [e0] at o1
  obtain ⟨g, n, d, rfl, rfl, h1, h2⟩ := hv
  generalize cmpQ (qval g n d) 0 = c at *
  unfold qV at *
  refine sxA tok mixed Tryz.func189 ?_
  simp -implicitDefEqProofs only [go_sem, simprocAttr, UU]
  refine kw (o1 _) ?_
  simp -implicitDefEqProofs only [go_sem, simprocAttr, UU, res189]
  first | exact .app _ _ | exact ⟨.app _ _, rfl⟩ | exact .refl _ | exact ⟨.refl _, rfl⟩
theorem subRQ (H : Heap) {v w : Value} {a b : Rat} {k k' : Nat} (hv : QV v a k) (hw : QV w b k') (hk : k ≤ 600000) (hk' : k' ≤ 600000) : Sim Tryz.prog 108 #[v, w] H (mkQ (a - b)) H := by
  refine flat_ex rfl ?_
  obtain ⟨g', n', d', rfl, rfl, h3, h4⟩ := hw
  have o1 := fun H => addRQ H hv (QV.raw (!g') n' d' h3 h4) hk hk'
  rw [qval_not, ← Rat.sub_eq_add_neg] at o1
  obtain ⟨g, n, d, rfl, rfl, h1, h2⟩ := hv
  generalize qval g n d - qval g' n' d' = q at *
  unfold qV at o1 ⊢
  refine sxA tok mixed Tryz.func108 ?_
  simp -implicitDefEqProofs only [go_sem, simprocAttr, UU]
  refine kw (o1 _) ?_
  simp -implicitDefEqProofs only [go_sem, simprocAttr, UU, res108]
  first | exact .app _ _ | exact ⟨.app _ _, rfl⟩ | exact .refl _ | exact ⟨.refl _, rfl⟩
theorem quoRQ (H : Heap) {v w : Value} {a b : Rat} {k k' : Nat} (hv : QV v a k) (hw : QV w b k') (hk : k ≤ 500000) (hk' : k' ≤ 500000) :
    Sim Tryz.prog 172 #[v, w] H (if b = 0 then .tuple #[mkQ 0, .int .i64 10] else .tuple #[mkQ (a / b), .int .i64 0]) H := by
  refine flat_ex (by split <;> rfl) ?_
  obtain ⟨g', n', d', rfl, rfl, h3, h4⟩ := hw
  have p2 := fun H => partsR H (g := g') (n := n') (d := d') (by omega) (by omega)
  have d0 := dval_pos d'
  have zP := ival_lt g' h3
  have zD := dval_lt h4
  rw [Int.natAbs_natCast] at zD
  have hm : QV (qV (decide (ival g' n' < 0)) (digB (dval d')) (digB (ival g' n').natAbs)) (qval (decide (ival g' n' < 0)) (digB (dval d')) (digB (ival g' n').natAbs)) (k' + 8) := QV.raw _ _ _ (digB_len2 zD) (digB_len2 zP)
  have o1 := fun H => mulRQ H hv hm (by omega) (by omega)
  have hinv : ival g' n' ≠ 0 → a * qval (decide (ival g' n' < 0)) (digB (dval d')) (digB (ival g' n').natAbs) = a / qval g' n' d' := by
    intro hz
    unfold qval
    generalize ival g' n' = P at *
    generalize dval d' = D at *
    have e1 : dval (digB P.natAbs) = P.natAbs := by unfold dval; rw [valB_dig, if_neg (by omega)]
    have e2 : ival (decide (P < 0)) (digB D) = if P < 0 then -(D : Int) else (D : Int) := by unfold ival; rw [valB_dig]; simp
    rw [e1, e2]
    have e3 := quo_law 1 P (d := 1) (e := D) (by decide) d0 hz
    rw [mkRat_one] at e3
    have e4 : a / mkRat P D = a * ((1 : Int) / mkRat P D : Rat) := by rw [Rat.div_def, Rat.div_def]; congr 1; rw [show ((1 : Int) : Rat) = 1 from rfl, Rat.one_mul]
    rw [e4, e3]
    congr 1
    rw [Int.one_mul, show ((1 : Nat) : Int) = 1 from rfl, Int.one_mul]
    by_cases h : P < 0
    · rw [if_pos h, divInt_neg2 h]
    · rw [if_neg h, divInt_pos (by omega)]
  have hb : qval g' n' d' = 0 ↔ ival g' n' = 0 := mkRat_ne d0
  have hnil : bs (digB (ival g' n').natAbs) = bs [] ↔ ival g' n' = 0 := by rw [bs_inj, digB_nil_iff]; omega
  obtain ⟨g, n, d, rfl, rfl, h1, h2⟩ := hv
  by_cases hz : ival g' n' = 0
  · have hb2 := hb.2 hz
    have hn := hnil.2 hz
    simp only [hb2, if_true]
    rw [mkQ_zero]
    clear o1
    generalize ival g' n' = P at *
    generalize dval d' = D at *
    unfold qV at *
    refine sxA tok mixed Tryz.func172 ?_
    simp -implicitDefEqProofs only [go_sem, simprocAttr, UU]
    refine kv (p2 _) ?_
    simp -implicitDefEqProofs only [go_sem, simprocAttr, UU, hn, wa_cond, axC_t, axC_f]
    simp -implicitDefEqProofs only [go_sem, simprocAttr, UU, res172]
    first | exact .app _ _ | exact ⟨.app _ _, rfl⟩ | exact .refl _ | exact ⟨.refl _, rfl⟩
  · have hb2 : ¬ qval g' n' d' = 0 := fun h => hz (hb.1 h)
    have hn : ¬ bs (digB (ival g' n').natAbs) = bs [] := fun h => hz (hnil.1 h)
    simp only [hb2, if_false]
    rw [hinv hz] at o1
    clear hinv hm hb hnil hb2
    generalize qval g n d / qval g' n' d' = q at *
    generalize ival g' n' = P at *
    generalize dval d' = D at *
    unfold qV at *
    have hD : (((D : Nat) : Int)).natAbs = D := Int.natAbs_natCast D
    refine sxA tok mixed Tryz.func172 ?_
    simp -implicitDefEqProofs only [go_sem, simprocAttr, UU]
    refine kv (p2 _) ?_
    simp -implicitDefEqProofs only [go_sem, simprocAttr, UU, hn, wa_cond, axC_t, axC_f, hD]
    refine kw (o1 _) ?_
    simp -implicitDefEqProofs only [go_sem, simprocAttr, UU, res172]
    first | exact .app _ _ | exact ⟨.app _ _, rfl⟩ | exact .refl _ | exact ⟨.refl _, rfl⟩
theorem floorRQ (H : Heap) {v : Value} {q : Rat} {k : Nat} (hv : QV v q k) (hk : k ≤ 600000) : Sim Tryz.prog 244 #[v] H (mkI q.floor) H := by
  refine flat_ex rfl ?_
  obtain ⟨g, n, d, rfl, rfl, h1, h2⟩ := hv
  have d0 := dval_pos d
  have p1 := fun H => partsR H (g := g) (n := n) (d := d) (by omega) (by omega)
  have o1 := fun H => rDiv H (IA.mk (ival_lt g h1)) (IA.mk (dval_lt h2)) (by omega) (by omega) (by omega)
  have e2 : (qval g n d).floor = (ival g n).fdiv (dval d : Nat) := by
    rw [gcd_fdiv _ _ d0]; exact mkRat_floor _ d0
  rw [e2]
  generalize (ival g n).fdiv (dval d : Nat) = x at *
  generalize (ival g n).fmod (dval d : Nat) = y at *
  generalize ival g n = P at *
  generalize dval d = D at *
  unfold qV at p1 ⊢
  refine sxA tok mixed Tryz.func244 ?_
  simp -implicitDefEqProofs only [go_sem, simprocAttr, UU]
  refine kw (p1 _) ?_
  refine kw (o1 _) ?_
  simp -implicitDefEqProofs only [go_sem, simprocAttr, UU, res244]
  first | exact .app _ _ | exact ⟨.app _ _, rfl⟩ | exact .refl _ | exact ⟨.refl _, rfl⟩
theorem ceilRQ (H : Heap) {v : Value} {q : Rat} {k : Nat} (hv : QV v q k) (hk : k ≤ 500000) : Sim Tryz.prog 243 #[v] H (mkI q.ceil) H := by
  refine flat_ex rfl ?_
  have o1 := fun H => negRQ H hv (by omega)
  have o2 := fun H => floorRQ H hv.sz.neg.qv (by omega)
  have o3 := fun H => rNeg H (IA.mk (floor_le hv.sz.neg))
  rw [← Rat.ceil_eq_neg_floor_neg] at o3
  generalize q.ceil = c at *
  generalize (-q).floor = f at *
  generalize -q = r at *
  obtain ⟨g, n, d, rfl, rfl, h1, h2⟩ := hv
  unfold qV at o1 ⊢
  refine sxA tok mixed Tryz.func243 ?_
  simp -implicitDefEqProofs only [go_sem, simprocAttr, UU]
  refine kw (o1 _) ?_
  refine kw (o2 _) ?_
  refine kw (o3 _) ?_
  simp -implicitDefEqProofs only [go_sem, simprocAttr, UU, res243]
  first | exact .app _ _ | exact ⟨.app _ _, rfl⟩ | exact .refl _ | exact ⟨.refl _, rfl⟩
end Go.Proofs.YthhmkaikopdmjaaGreat
namespace Go.Proofs.YthhmkaikopdmjaaGreat
open Go Go.Fw
theorem simplestR {K : Nat} (hK : K ≤ 60000) (h3 : 10 ≤ K) : ∀ (fuel : Nat) (v w : Value) (a b : Rat), QV v a (K + 7) → QV w b (K + 7) → Sz a K → Sz b K → 0 < a → a ≤ b → a.den + b.den ≤ fuel → ∀ H, Sim Tryz.prog 190 #[v, w] H (mkQ (simpQ fuel a b)) H := by
  intro fuel
  induction fuel with
  | zero => intro v w a b _ _ _ _ _ _ h; have := a.den_pos; omega
  | succ fuel ih =>
  intro v w a b hv hw ha hb ha0 hab hf H
  refine flat_ex rfl ?_
  have c1 := ceil_le ha
  have hone : Sz (1 : Rat) K := by
    have := Sz.int (z := 1) (k := K) (by have : 2 ^ 1 ≤ 2 ^ K := Nat.pow_le_pow_right (by decide) (by omega); simp; omega) (by omega)
    simpa using this
  have o1 := fun H => ceilRQ H hv (by omega)
  have o3 := fun H => integerR H ((IA.mk c1).mono (show K + 7 ≤ K + 80 by omega)) (by omega) (by omega)
  have hv5 := Sz.int (k := K) c1 (by omega)
  have o4 := fun H => cmpRQ H hv5.qv hw (by omega) (by omega)
  have hb0 : 0 < b := by grind
  by_cases hup : (a.ceil : Rat) ≤ b
  · have h1 : cmpQ (a.ceil : Rat) b ≤ 0 := cmpQ_le.2 hup
    have e1 : simpQ (fuel + 1) a b = (a.ceil : Rat) := by unfold simpQ; rw [if_pos hup]
    rw [e1]
    clear e1
    generalize cmpQ (a.ceil : Rat) b = c at *
    clear hup hv5
    generalize (a.ceil : Rat) = u at *
    generalize a.ceil = z at *
    obtain ⟨g, n, d, rfl, -, -, -⟩ := hv
    obtain ⟨g', n', d', rfl, -, -, -⟩ := hw
    unfold qV at o1 o4 ⊢
    refine sxA tok mixed Tryz.func190 ?_
    simp -implicitDefEqProofs only [go_sem, simprocAttr, UU]
    refine kw (o1 _) ?_
    refine kw (o3 _) ?_
    refine kv (o4 _) ?_
    simp -implicitDefEqProofs only [go_sem, simprocAttr, UU, h1, wa_cond, axC_t, axC_f]
    simp -implicitDefEqProofs only [go_sem, simprocAttr, UU, res190]
    first | exact .app _ _ | exact ⟨.app _ _, rfl⟩ | exact .refl _ | exact ⟨.refl _, rfl⟩
  · have h1 : ¬ cmpQ (a.ceil : Rat) b ≤ 0 := fun h => hup (cmpQ_le.1 h)
    have hs := Simp.of ha0 hab hup
    obtain ⟨sx, sy⟩ := hs.sz ha hb
    have hl1 := (ceil_bounds a)
    have hcl : (a.ceil : Rat) - ((1 : Int) : Rat) = ((a.ceil - 1 : Int) : Rat) := by rw [Rat.intCast_sub]
    have hc0 := (ceil_num ha0).1
    have hlow : Sz (((a.ceil - 1 : Int) : Rat)) K := Sz.int (by omega) (by omega)
    have e1 : simpQ (fuel + 1) a b = ((a.ceil - 1 : Int) : Rat) + 1 / simpQ fuel (1 / (b - ((a.ceil - 1 : Int) : Rat))) (1 / (a - ((a.ceil - 1 : Int) : Rat))) := by
      conv => lhs; unfold simpQ
      rw [if_neg hup]
    have o5 := fun H => ofNR H (n := 1) (by decide) (by decide)
    have h1K : QV (mkQ ((1 : Int) : Rat)) ((1 : Int) : Rat) (K + 7) := (Sz.int (z := 1) (by have : 2 ^ 1 ≤ 2 ^ K := Nat.pow_le_pow_right (by decide) (by omega); simp; omega) (by omega)).qv
    have hfl : a.floor = a.ceil - 1 := by
      have f1 : (a.ceil - 1 : Int) ≤ a.floor := Rat.le_floor_iff.2 (by have := hl1.1; grind)
      have f2 : ¬ a.ceil ≤ a.floor := fun h => by have := Rat.le_floor_iff.1 h; grind
      omega
    have o2 := fun H => floorRQ H hv (by omega)
    rw [hfl] at o2
    have o6 := fun H => integerR H ((IA.mk (z := a.ceil - 1) (k := K) (by omega)).mono (show K + 7 ≤ K + 80 by omega)) (by omega) (by omega)
    have up : (a.ceil : Rat) = ((a.ceil - 1 : Int) : Rat) + 1 := by rw [Rat.intCast_sub]; grind
    rw [e1]
    generalize hll : a.ceil - 1 = l at *
    have pb : 0 < b - (l : Rat) := by grind
    have pa : 0 < a - (l : Rat) := by grind
    have lb : b - (l : Rat) < 1 := by grind
    have la : a - (l : Rat) < 1 := by grind
    have tb := hb.subI pb lb
    have ta := ha.subI pa la
    have o7 := fun H => subRQ H hw hlow.qv (by omega) (by omega)
    have o8 := fun H => subRQ H hv hlow.qv (by omega) (by omega)
    have o9 := fun H => quoRQ H h1K tb.qv (by omega) (by omega)
    have o10 := fun H => quoRQ H h1K ta.qv (by omega) (by omega)
    have nb : ¬ b - (l : Rat) = 0 := by grind
    have na : ¬ a - (l : Rat) = 0 := by grind
    simp only [nb, if_false] at o9
    simp only [na, if_false] at o10
    have e11 : ((1 : Int) : Rat) = 1 := rfl
    rw [e11] at o9 o10
    have o11 := ih (mkQ (1 / (b - (l : Rat)))) (mkQ (1 / (a - (l : Rat)))) _ _ sy.qv sx.qv sy sx hs.pos hs.le (by have := hs.da; have := hs.db; omega)
    have hz := simpQ_small fuel _ _ hs.pos hs.le (by have := hs.da; have := hs.db; omega)
    have sz := Sz.simp hs.pos hs.le (by have := hs.da; have := hs.db; omega) sy (n := fuel)
    generalize simpQ fuel (1 / (b - (l : Rat))) (1 / (a - (l : Rat))) = z at *
    have o12 := fun H => quoRQ H h1K sz.qv (by omega) (by omega)
    have nz : ¬ z = 0 := by grind
    simp only [nz, if_false] at o12
    rw [e11] at o12 o5
    have o13 := fun H => addRQ H hlow.qv (sz.inv1 hz.1).qv (by omega) (by omega)
    clear hz sz hs sx sy hl1 up pb pa lb la tb ta nb na nz e1 h1K hlow hv5 e11
    generalize 1 / z = z2 at *
    generalize (l : Rat) + z2 = res at *
    generalize 1 / (b - (l : Rat)) = x at *
    generalize 1 / (a - (l : Rat)) = y at *
    generalize b - (l : Rat) = bl at *
    generalize a - (l : Rat) = al at *
    generalize (l : Rat) = lq at *
    generalize cmpQ (a.ceil : Rat) b = c at *
    clear hup
    generalize (a.ceil : Rat) = u at *
    generalize a.ceil = zc at *
    obtain ⟨g, n, d, rfl, -, -, -⟩ := hv
    obtain ⟨g', n', d', rfl, -, -, -⟩ := hw
    unfold qV at o1 o4 o7 o8 ⊢
    refine sxA tok mixed Tryz.func190 ?_
    simp -implicitDefEqProofs only [go_sem, simprocAttr, UU]
    refine kw (o1 _) ?_
    refine kw (o3 _) ?_
    refine kv (o4 _) ?_
    simp -implicitDefEqProofs only [go_sem, simprocAttr, UU, h1, wa_cond, axC_t, axC_f]
    refine kw (o2 _) ?_
    refine kw (o6 _) ?_
    refine ax_quiet (by kernel_rfl) ?_
    simp -implicitDefEqProofs only [go_sem, simprocAttr, UU]
    refine kw (o5 _) ?_
    refine kw (o7 _) ?_
    refine kw (o9 _) ?_
    refine ax_quiet (by kernel_rfl) ?_
    simp -implicitDefEqProofs only [go_sem, simprocAttr, UU]
    refine kw (o5 _) ?_
    refine kw (o8 _) ?_
    refine kw (o10 _) ?_
    refine ax_quiet (by kernel_rfl) ?_
    simp -implicitDefEqProofs only [go_sem, simprocAttr, UU]
    refine kw (o5 _) ?_
    refine kw (o11 _) ?_
    refine kw (o12 _) ?_
    refine kw (o13 _) ?_
    simp -implicitDefEqProofs only [go_sem, simprocAttr, UU, res190]
    first | exact .app _ _ | exact ⟨.app _ _, rfl⟩ | exact .refl _ | exact ⟨.refl _, rfl⟩
theorem smpRQ (H : Heap) {v w : Value} {a b : Rat} {k : Nat} (hv : QV v a k) (hw : QV w b k) (hk : k ≤ 50000) :
    Sim Tryz.prog 124 #[v, w] H (if b < a then .tuple #[mkQ 0, .int .i64 8] else .tuple #[mkQ (smpQ a b), .int .i64 0]) H := by
  refine flat_ex (by split <;> rfl) ?_
  have hv' := hv.mono (show k ≤ k + 17 by omega)
  have hw' := hw.mono (show k ≤ k + 17 by omega)
  have sa := hv.sz.mono (show k + 1 ≤ k + 10 by omega)
  have sb := hw.sz.mono (show k + 1 ≤ k + 10 by omega)
  have o1 := fun H => cmpRQ H hv hw (by omega) (by omega)
  have o2 := fun H => signRQ H hv (by omega)
  have o3 := fun H => signRQ H hw (by omega)
  have n1 := fun H => negRQ H hv (by omega)
  have n2 := fun H => negRQ H hw (by omega)
  by_cases h1 : b < a
  · have c1 : 0 < cmpQ a b := cmpQ_pos.2 h1
    simp only [h1, if_true]
    rw [mkQ_zero]
    generalize cmpQ a b = c at *
    clear h1 o2 o3 n1 n2
    obtain ⟨g, n, d, rfl, -, -, -⟩ := hv
    obtain ⟨g', n', d', rfl, -, -, -⟩ := hw
    unfold qV at o1 ⊢
    refine sxA tok mixed Tryz.func124 ?_
    simp -implicitDefEqProofs only [go_sem, simprocAttr, UU]
    refine kv (o1 _) ?_
    simp -implicitDefEqProofs only [go_sem, simprocAttr, UU, c1, wa_cond, axC_t, axC_f]
    simp -implicitDefEqProofs only [go_sem, simprocAttr, UU, res124]
    first | exact .app _ _ | exact ⟨.app _ _, rfl⟩ | exact .refl _ | exact ⟨.refl _, rfl⟩
  have hab : a ≤ b := by grind
  have c1 : ¬ 0 < cmpQ a b := fun h => h1 (cmpQ_pos.1 h)
  simp only [h1, if_false]
  by_cases h2 : a ≤ 0
  · have c2 := cmpQ_le.2 h2
    by_cases h3 : 0 ≤ b
    · have c3 := cmpQ_ge.2 h3
      have e : smpQ a b = 0 := by unfold smpQ; rw [if_pos ⟨h2, h3⟩]
      rw [e, mkQ_zero]
      generalize cmpQ a b = c at *
      generalize cmpQ a 0 = c' at *
      generalize cmpQ b 0 = c'' at *
      obtain ⟨g, n, d, rfl, -, -, -⟩ := hv
      obtain ⟨g', n', d', rfl, -, -, -⟩ := hw
      unfold qV at o1 o2 o3 ⊢
      refine sxA tok mixed Tryz.func124 ?_
      simp -implicitDefEqProofs only [go_sem, simprocAttr, UU]
      refine kv (o1 _) ?_
      simp -implicitDefEqProofs only [go_sem, simprocAttr, UU, c1, wa_cond, axC_t, axC_f]
      refine kv (o2 _) ?_
      simp -implicitDefEqProofs only [go_sem, simprocAttr, UU, c2, wa_cond, axC_t, axC_f]
      refine kv (o3 _) ?_
      simp -implicitDefEqProofs only [go_sem, simprocAttr, UU, c3, wa_cond, axC_t, axC_f]
      simp -implicitDefEqProofs only [go_sem, simprocAttr, UU, res124]
      first | exact .app _ _ | exact ⟨.app _ _, rfl⟩ | exact .refl _ | exact ⟨.refl _, rfl⟩
    · have c3 : ¬ 0 ≤ cmpQ b 0 := fun h => h3 (cmpQ_ge.1 h)
      have c4 : cmpQ b 0 < 0 := by omega
      have e : smpQ a b = -(simpQ (a.den + b.den) (-b) (-a)) := by unfold smpQ; rw [if_neg (fun h => h3 h.2), if_pos (by grind)]
      have o4 := fun H => simplestR (K := k + 10) (by omega) (by omega) (a.den + b.den) (mkQ (-b)) (mkQ (-a)) (-b) (-a) sb.neg.qv sa.neg.qv sb.neg sa.neg (by grind) (by grind) (by rw [Rat.neg_den, Rat.neg_den]; omega) H
      have sz := Sz.simp (a := -b) (b := -a) (n := a.den + b.den) (by grind) (by grind) (by rw [Rat.neg_den, Rat.neg_den]; omega) sb.neg
      have o5 := fun H => negRQ H sz.qv (by omega)
      rw [e]
      clear e sz
      generalize simpQ (a.den + b.den) (-b) (-a) = z at *
      generalize -z = z2 at *
      generalize cmpQ a b = c at *
      generalize cmpQ a 0 = c' at *
      generalize cmpQ b 0 = c'' at *
      generalize -a = na at *
      generalize -b = nb at *
      obtain ⟨g, n, d, rfl, -, -, -⟩ := hv
      obtain ⟨g', n', d', rfl, -, -, -⟩ := hw
      unfold qV at o1 o2 o3 n1 n2 ⊢
      refine sxA tok mixed Tryz.func124 ?_
      simp -implicitDefEqProofs only [go_sem, simprocAttr, UU]
      refine kv (o1 _) ?_
      simp -implicitDefEqProofs only [go_sem, simprocAttr, UU, c1, wa_cond, axC_t, axC_f]
      refine kv (o2 _) ?_
      simp -implicitDefEqProofs only [go_sem, simprocAttr, UU, c2, wa_cond, axC_t, axC_f]
      refine kv (o3 _) ?_
      simp -implicitDefEqProofs only [go_sem, simprocAttr, UU, c3, wa_cond, axC_t, axC_f]
      refine kv (o3 _) ?_
      simp -implicitDefEqProofs only [go_sem, simprocAttr, UU, c4, wa_cond, axC_t, axC_f]
      refine ax_quiet (by kernel_rfl) ?_
      simp -implicitDefEqProofs only [go_sem, simprocAttr, UU]
      refine kw (n2 _) ?_
      refine kw (n1 _) ?_
      refine kw (o4 _) ?_
      refine kw (o5 _) ?_
      simp -implicitDefEqProofs only [go_sem, simprocAttr, UU, res124]
      first | exact .app _ _ | exact ⟨.app _ _, rfl⟩ | exact .refl _ | exact ⟨.refl _, rfl⟩
  · have c2 : ¬ cmpQ a 0 ≤ 0 := fun h => h2 (cmpQ_le.1 h)
    have c4 : ¬ cmpQ b 0 < 0 := fun h => by have := cmpQ_lt.1 h; grind
    have e : smpQ a b = simpQ (a.den + b.den) a b := by unfold smpQ; rw [if_neg (fun h => h2 h.1), if_neg (by grind)]
    have o4 := fun H => simplestR (K := k + 10) (by omega) (by omega) (a.den + b.den) v w a b hv' hw' sa sb (by grind) hab (Nat.le_refl _) H
    rw [e]
    clear e
    generalize simpQ (a.den + b.den) a b = z at *
    generalize cmpQ a b = c at *
    generalize cmpQ a 0 = c' at *
    generalize cmpQ b 0 = c'' at *
    obtain ⟨g, n, d, rfl, -, -, -⟩ := hv
    obtain ⟨g', n', d', rfl, -, -, -⟩ := hw
    unfold qV at o1 o2 o3 o4 ⊢
    refine sxA tok mixed Tryz.func124 ?_
    simp -implicitDefEqProofs only [go_sem, simprocAttr, UU]
    refine kv (o1 _) ?_
    simp -implicitDefEqProofs only [go_sem, simprocAttr, UU, c1, wa_cond, axC_t, axC_f]
    refine kv (o2 _) ?_
    simp -implicitDefEqProofs only [go_sem, simprocAttr, UU, c2, wa_cond, axC_t, axC_f]
    refine kv (o3 _) ?_
    simp -implicitDefEqProofs only [go_sem, simprocAttr, UU, c4, wa_cond, axC_t, axC_f]
    refine kw (o4 _) ?_
    simp -implicitDefEqProofs only [go_sem, simprocAttr, UU, res124]
    first | exact .app _ _ | exact ⟨.app _ _, rfl⟩ | exact .refl _ | exact ⟨.refl _, rfl⟩
end Go.Proofs.YthhmkaikopdmjaaGreat
namespace Go.Proofs.YthhmkaikopdmjaaGreat
open Go Go.Fw
theorem overRQ (H : Heap) {v w : Value} {a b : Rat} {k k' : Nat} (hv : QV v a k) (hw : QV w b k') (hk : k ≤ 500000) (hk' : k' ≤ 500000) : Sim Tryz.prog 107 #[v, w] H (mkQ (a / b)) H := by
  refine flat_ex rfl ?_
  obtain ⟨e, o1⟩ : ∃ e : Int, ∀ H, Sim Tryz.prog 172 #[v, w] H (.tuple #[mkQ (a / b), .int .i64 e]) H := by
    by_cases h0 : b = 0
    · refine ⟨10, fun H => ?_⟩
      have := quoRQ H hv hw hk hk'
      rw [if_pos h0] at this
      rw [h0, Rat.div_def, Rat.inv_zero, Rat.mul_zero]
      exact this
    · refine ⟨0, fun H => ?_⟩
      have := quoRQ H hv hw hk hk'
      rw [if_neg h0] at this
      exact this
  generalize a / b = z at *
  obtain ⟨g, n, d, rfl, rfl, h1, h2⟩ := hv
  obtain ⟨g', n', d', rfl, rfl, h3, h4⟩ := hw
  unfold qV at o1 ⊢
  refine sxA tok mixed Tryz.func107 ?_
  simp -implicitDefEqProofs only [go_sem, simprocAttr, UU]
  refine kw (o1 _) ?_
  simp -implicitDefEqProofs only [go_sem, simprocAttr, UU, res107]
  first | exact .app _ _ | exact ⟨.app _ _, rfl⟩ | exact .refl _ | exact ⟨.refl _, rfl⟩
theorem back4 (H : Heap) {r : RR} {k : Nat} (hr : r.le k) (hk : k ≤ 100000) : Sim Tryz.prog 122 #[r.val] H (.agg #[.bool r.g, .string (bs r.n), .string (bs r.d), .bool (decide ((-r.rot.s).num < 0)), .string (bs (digB (-r.rot.s).num.natAbs)), .string (bs (denB (-r.rot.s).den))]) H := by
  refine flat_ex rfl ?_
  have o1 := fun H => negRQ H hr.s (by omega)
  generalize -r.rot.s = z at *
  unfold qV at o1
  unfold RR.val rV
  refine sxA tok mixed Tryz.func122 ?_
  simp -implicitDefEqProofs only [go_sem, simprocAttr, UU]
  refine ax_quiet (by kernel_rfl) ?_
  simp -implicitDefEqProofs only [go_sem, simprocAttr, UU]
  refine kw (o1 _) ?_
  simp -implicitDefEqProofs only [go_sem, simprocAttr, UU, res122]
  first | exact .app _ _ | exact ⟨.app _ _, rfl⟩ | exact .refl _ | exact ⟨.refl _, rfl⟩
theorem then4 (H : Heap) {a b : RR} {k : Nat} (ha : a.le k) (hb : b.le k) (hk : k ≤ 20000) : Sim Tryz.prog 104 #[a.val, b.val] H (RR.of (a.rot.thn b.rot)).val H := by
  refine flat_ex rfl ?_
  have o1 := fun H => mulRQ H ha.c hb.c (by omega) (by omega)
  have o2 := fun H => mulRQ H ha.s hb.s (by omega) (by omega)
  have o3 := fun H => mulRQ H ha.s hb.c (by omega) (by omega)
  have o4 := fun H => mulRQ H ha.c hb.s (by omega) (by omega)
  have q1 := (ha.c.sz.mul hb.c.sz).qv
  have q2 := (ha.s.sz.mul hb.s.sz).qv
  have q3 := (ha.s.sz.mul hb.c.sz).qv
  have q4 := (ha.c.sz.mul hb.s.sz).qv
  have s1 := fun H => subRQ H q1 q2 (by omega) (by omega)
  have s2 := fun H => addRQ H q3 q4 (by omega) (by omega)
  have e1 : a.rot.c * b.rot.c - a.rot.s * b.rot.s = (a.rot.thn b.rot).c := rfl
  have e2 : a.rot.s * b.rot.c + a.rot.c * b.rot.s = (a.rot.thn b.rot).s := rfl
  rw [e1] at s1
  rw [e2] at s2
  rw [RR.of_val]
  generalize (a.rot.thn b.rot).c = x at *
  generalize (a.rot.thn b.rot).s = y at *
  clear q1 q2 q3 q4 e1 e2
  generalize a.rot.c * b.rot.c = p1 at *
  generalize a.rot.s * b.rot.s = p2 at *
  generalize a.rot.s * b.rot.c = p3 at *
  generalize a.rot.c * b.rot.s = p4 at *
  unfold qV at o1 o2 o3 o4
  unfold RR.val rV
  refine sxA tok mixed Tryz.func104 ?_
  simp -implicitDefEqProofs only [go_sem, simprocAttr, UU]
  refine ax_quiet (by kernel_rfl) ?_
  simp -implicitDefEqProofs only [go_sem, simprocAttr, UU]
  refine kw (o1 _) ?_
  refine kw (o2 _) ?_
  refine kw (s1 _) ?_
  refine kw (o3 _) ?_
  refine kw (o4 _) ?_
  refine kw (s2 _) ?_
  simp -implicitDefEqProofs only [go_sem, simprocAttr, UU, res104]
  first | exact .app _ _ | exact ⟨.app _ _, rfl⟩ | exact .refl _ | exact ⟨.refl _, rfl⟩
theorem upper4 (H : Heap) {r : RR} {k : Nat} (hr : r.le k) (hk : k ≤ 600000) (hok : r.rot.ok) : Sim Tryz.prog 123 #[r.val] H (.bool (decide (r.rot.half = 0))) H := by
  refine flat_ex rfl ?_
  have o1 := fun H => signRQ H hr.c hk
  have o2 := fun H => signRQ H hr.s hk
  unfold qV at o1 o2
  unfold RR.val rV
  have hc := cmpQ_cases r.rot.c 0
  have hs := cmpQ_cases r.rot.s 0
  have hh : (r.rot.half = 0) ↔ (0 < r.rot.s ∨ (r.rot.s = 0 ∧ 0 < r.rot.c)) := by
    unfold Rot.ok at hok
    unfold Rot.half
    by_cases h1 : 0 < r.rot.s
    · simp [h1]
    · by_cases h2 : r.rot.s < 0
      · rw [if_neg h1, if_pos h2]
        constructor
        · intro h; exact absurd h (by decide)
        · rintro (h | ⟨h, _⟩) <;> grind
      · have h3 : r.rot.s = 0 := by grind
        by_cases h4 : r.rot.c < 0
        · rw [if_neg h1, if_neg h2, if_pos h4]
          constructor
          · intro h; exact absurd h (by decide)
          · rintro (h | ⟨_, h⟩) <;> grind
        · rw [if_neg h1, if_neg h2, if_neg h4]
          simp only [true_iff]
          right
          refine ⟨h3, ?_⟩
          have : r.rot.c ≠ 0 := fun h5 => by rw [h3, h5] at hok; exact absurd hok (by decide +kernel)
          grind
  clear hok
  generalize cmpQ r.rot.c 0 = x at *
  generalize cmpQ r.rot.s 0 = y at *
  rcases hs with ⟨rfl, hs⟩ | ⟨rfl, hs⟩ | ⟨rfl, hs⟩
  · rw [decide_eq_false (fun h => by rcases hh.1 h with h | ⟨h, _⟩ <;> grind)]
    refine sxA tok mixed Tryz.func123 ?_
    simp -implicitDefEqProofs only [go_sem, simprocAttr, UU]
    refine kw (o2 _) ?_
    simp -implicitDefEqProofs only [go_sem, simprocAttr, UU, res123]
    first | exact .app _ _ | exact ⟨.app _ _, rfl⟩ | exact .refl _ | exact ⟨.refl _, rfl⟩
  · rcases hc with ⟨rfl, hc⟩ | ⟨rfl, hc⟩ | ⟨rfl, hc⟩
    · rw [decide_eq_false (fun h => by rcases hh.1 h with h | ⟨_, h⟩ <;> grind)]
      refine sxA tok mixed Tryz.func123 ?_
      simp -implicitDefEqProofs only [go_sem, simprocAttr, UU]
      refine kw (o2 _) ?_
      refine kw (o1 _) ?_
      simp -implicitDefEqProofs only [go_sem, simprocAttr, UU, res123]
      first | exact .app _ _ | exact ⟨.app _ _, rfl⟩ | exact .refl _ | exact ⟨.refl _, rfl⟩
    · rw [decide_eq_false (fun h => by rcases hh.1 h with h | ⟨_, h⟩ <;> grind)]
      refine sxA tok mixed Tryz.func123 ?_
      simp -implicitDefEqProofs only [go_sem, simprocAttr, UU]
      refine kw (o2 _) ?_
      refine kw (o1 _) ?_
      simp -implicitDefEqProofs only [go_sem, simprocAttr, UU, res123]
      first | exact .app _ _ | exact ⟨.app _ _, rfl⟩ | exact .refl _ | exact ⟨.refl _, rfl⟩
    · rw [decide_eq_true (hh.2 (.inr ⟨hs, hc⟩))]
      refine sxA tok mixed Tryz.func123 ?_
      simp -implicitDefEqProofs only [go_sem, simprocAttr, UU]
      refine kw (o2 _) ?_
      refine kw (o1 _) ?_
      simp -implicitDefEqProofs only [go_sem, simprocAttr, UU, res123]
      first | exact .app _ _ | exact ⟨.app _ _, rfl⟩ | exact .refl _ | exact ⟨.refl _, rfl⟩
  · rw [decide_eq_true (hh.2 (.inl hs))]
    refine sxA tok mixed Tryz.func123 ?_
    simp -implicitDefEqProofs only [go_sem, simprocAttr, UU]
    refine kw (o2 _) ?_
    simp -implicitDefEqProofs only [go_sem, simprocAttr, UU, res123]
    first | exact .app _ _ | exact ⟨.app _ _, rfl⟩ | exact .refl _ | exact ⟨.refl _, rfl⟩
theorem compare4 (H : Heap) {a b : RR} {k : Nat} (ha : a.le k) (hb : b.le k) (hk : k ≤ 19000) (oka : a.rot.ok) (okb : b.rot.ok) : Sim Tryz.prog 174 #[a.val, b.val] H (.int .i64 (a.rot.cmp b.rot)) H := by
  refine flat_ex rfl ?_
  have o1 := fun H => upper4 H ha (by omega) oka
  have o2 := fun H => upper4 H hb (by omega) okb
  have o3 := fun H => back4 H hb (by omega)
  have o4 := fun H => then4 H hb.bk (ha.mono (show k ≤ k + 8 by omega)) (by omega)
  have o5 := fun H => signRQ H ((hb.bk.sz.thn ha.sz).s.qv) (by omega)
  rw [RR.bk_rot] at o4 o5
  have h1 := a.rot.half_le
  have h2 := b.rot.half_le
  unfold Rot.cmp
  generalize a.rot.half = x at *
  generalize b.rot.half = y at *
  rw [RR.of_val] at o4
  by_cases h0 : x - y ≠ 0
  · rw [if_pos h0]
    clear o3 o4 o5
    unfold RR.val rV at o1 o2 ⊢
    rcases h1 with rfl | rfl
    · have hy : y = 1 := by omega
      subst hy
      simp only [decide_true, show decide ((1 : Int) = 0) = false from rfl] at o1 o2
      refine sxA tok mixed Tryz.func174 ?_
      simp -implicitDefEqProofs only [go_sem, simprocAttr, UU]
      refine ax_quiet (by kernel_rfl) ?_
      simp -implicitDefEqProofs only [go_sem, simprocAttr, UU]
      refine kw (o1 _) ?_
      refine kv (o2 _) ?_
      simp -implicitDefEqProofs only [go_sem, simprocAttr, UU, bne4, show (true == false) = false from rfl, wa_cond, axC_t, axC_f]
      refine kv (o1 _) ?_
      simp -implicitDefEqProofs only [go_sem, simprocAttr, UU, wa_cond, axC_t, axC_f]
      simp -implicitDefEqProofs only [go_sem, simprocAttr, UU, res174]
      first | exact .app _ _ | exact ⟨.app _ _, rfl⟩ | exact .refl _ | exact ⟨.refl _, rfl⟩
    · have hy : y = 0 := by omega
      subst hy
      simp only [decide_true, show decide ((1 : Int) = 0) = false from rfl] at o1 o2
      refine sxA tok mixed Tryz.func174 ?_
      simp -implicitDefEqProofs only [go_sem, simprocAttr, UU]
      refine ax_quiet (by kernel_rfl) ?_
      simp -implicitDefEqProofs only [go_sem, simprocAttr, UU]
      refine kw (o1 _) ?_
      refine kv (o2 _) ?_
      simp -implicitDefEqProofs only [go_sem, simprocAttr, UU, bne4, show (false == true) = false from rfl, wa_cond, axC_t, axC_f]
      refine kv (o1 _) ?_
      simp -implicitDefEqProofs only [go_sem, simprocAttr, UU, wa_cond, axC_t, axC_f]
      simp -implicitDefEqProofs only [go_sem, simprocAttr, UU, res174]
      first | exact .app _ _ | exact ⟨.app _ _, rfl⟩ | exact .refl _ | exact ⟨.refl _, rfl⟩
  · rw [if_neg h0]
    have hxy : x = y := by omega
    subst hxy
    generalize decide (x = 0) = ub at *
    generalize cmpQ (b.rot.back.thn a.rot).s 0 = z at *
    generalize (b.rot.back.thn a.rot).s = ss at *
    generalize (b.rot.back.thn a.rot).c = cc at *
    unfold RR.bk at o4
    unfold RR.val rV at o1 o2 o3 o4 ⊢
    have hu : (ub == ub) = true := by simp
    refine sxA tok mixed Tryz.func174 ?_
    simp -implicitDefEqProofs only [go_sem, simprocAttr, UU]
    refine ax_quiet (by kernel_rfl) ?_
    simp -implicitDefEqProofs only [go_sem, simprocAttr, UU]
    refine kw (o1 _) ?_
    refine kv (o2 _) ?_
    simp -implicitDefEqProofs only [go_sem, simprocAttr, UU, bne4, hu, wa_cond, axC_t, axC_f]
    refine ax_quiet (by kernel_rfl) ?_
    simp -implicitDefEqProofs only [go_sem, simprocAttr, UU]
    refine kw (o3 _) ?_
    refine kv (o4 _) ?_
    simp -implicitDefEqProofs only [go_sem, simprocAttr, UU, aField, partL]
    refine kw (o5 _) ?_
    simp -implicitDefEqProofs only [go_sem, simprocAttr, UU, res174]
    first | exact .app _ _ | exact ⟨.app _ _, rfl⟩ | exact .refl _ | exact ⟨.refl _, rfl⟩
theorem qcheck2 (H : Heap) {r : RR} {k : Nat} (hr : r.le k) (hk : k ≤ 100000) : (Sim Tryz.prog 110 #[.agg #[.bool r.g, .string (bs r.n), .string (bs r.d)]] H (.int .i64 (if isCan r.g r.n r.d = true then 0 else 1)) H) ∧
    Sim Tryz.prog 110 #[.agg #[.bool r.g', .string (bs r.n'), .string (bs r.d')]] H (.int .i64 (if isCan r.g' r.n' r.d' = true then 0 else 1)) H := by
  have h1 := hr.n
  have h2 := hr.d
  have h3 := hr.n'
  have h4 := hr.d'
  exact ⟨qcheckR H (by omega) (by omega), qcheckR H (by omega) (by omega)⟩
theorem check4 (H : Heap) {r : RR} {k : Nat} (hr : r.le k) (hk : k ≤ 20000) : Sim Tryz.prog 55 #[r.val] H (.int .i64 r.err) H := by
  refine flat_ex rfl ?_
  have c1 := fun H => (qcheck2 H hr (by omega)).1
  have c2 := fun H => (qcheck2 H hr (by omega)).2
  unfold RR.err
  unfold RR.val rV
  cases i1 : isCan r.g r.n r.d
  · simp only [i1, Bool.false_and, Bool.false_eq_true, if_false] at c1 ⊢
    refine sxA tok mixed Tryz.func55 ?_
    simp -implicitDefEqProofs only [go_sem, simprocAttr, UU]
    refine kv (c1 _) ?_
    simp -implicitDefEqProofs only [go_sem, simprocAttr, UU, wa_cond, axC_t, axC_f]
    simp -implicitDefEqProofs only [go_sem, simprocAttr, UU, res55]
    first | exact .app _ _ | exact ⟨.app _ _, rfl⟩ | exact .refl _ | exact ⟨.refl _, rfl⟩
  cases i2 : isCan r.g' r.n' r.d'
  · simp only [i1, i2, Bool.and_false, Bool.false_eq_true, if_false, if_true] at c1 c2 ⊢
    refine sxA tok mixed Tryz.func55 ?_
    simp -implicitDefEqProofs only [go_sem, simprocAttr, UU]
    refine kv (c1 _) ?_
    simp -implicitDefEqProofs only [go_sem, simprocAttr, UU, wa_cond, axC_t, axC_f]
    refine kv (c2 _) ?_
    simp -implicitDefEqProofs only [go_sem, simprocAttr, UU, wa_cond, axC_t, axC_f]
    simp -implicitDefEqProofs only [go_sem, simprocAttr, UU, res55]
    first | exact .app _ _ | exact ⟨.app _ _, rfl⟩ | exact .refl _ | exact ⟨.refl _, rfl⟩
  simp only [i1, i2, Bool.and_true, if_true] at c1 c2 ⊢
  have o1 := fun H => mulRQ H hr.c hr.c (by omega) (by omega)
  have o2 := fun H => mulRQ H hr.s hr.s (by omega) (by omega)
  have q1 := (hr.c.sz.mul hr.c.sz)
  have q2 := (hr.s.sz.mul hr.s.sz)
  have s1 := fun H => addRQ H q1.qv q2.qv (by omega) (by omega)
  have o3 := fun H => ofNR H (n := 1) (by decide) (by decide)
  rw [show ((1 : Int) : Rat) = 1 from rfl] at o3
  have o4 := fun H => cmpRQ H (q1.add q2).qv (sz_one (k := 2) (by decide)).qv (by omega) (by decide)
  have hok : r.rot.ok ↔ r.rot.c * r.rot.c + r.rot.s * r.rot.s = 1 := Iff.rfl
  clear q1 q2
  generalize r.rot.c * r.rot.c + r.rot.s * r.rot.s = z at *
  generalize r.rot.c * r.rot.c = p1 at *
  generalize r.rot.s * r.rot.s = p2 at *
  have hz := cmpQ_cases z 1
  unfold qV at o1 o2
  by_cases h0 : r.rot.ok
  · have hc : cmpQ z 1 = 0 := by have := hok.1 h0; grind
    simp only [h0, if_true]
    rw [hc] at o4
    clear hz hc hok
    refine sxA tok mixed Tryz.func55 ?_
    simp -implicitDefEqProofs only [go_sem, simprocAttr, UU]
    refine kv (c1 _) ?_
    simp -implicitDefEqProofs only [go_sem, simprocAttr, UU, wa_cond, axC_t, axC_f]
    refine kv (c2 _) ?_
    simp -implicitDefEqProofs only [go_sem, simprocAttr, UU, wa_cond, axC_t, axC_f]
    refine ax_quiet (by kernel_rfl) ?_
    simp -implicitDefEqProofs only [go_sem, simprocAttr, UU]
    refine kw (o1 _) ?_
    refine kw (o2 _) ?_
    refine kw (s1 _) ?_
    refine kw (o3 _) ?_
    refine kv (o4 _) ?_
    simp -implicitDefEqProofs only [go_sem, simprocAttr, UU, wa_cond, axC_t, axC_f]
    simp -implicitDefEqProofs only [go_sem, simprocAttr, UU, res55]
    first | exact .app _ _ | exact ⟨.app _ _, rfl⟩ | exact .refl _ | exact ⟨.refl _, rfl⟩
  · have hc : ¬ cmpQ z 1 = 0 := by have : ¬ z = 1 := fun h => h0 (hok.2 h); grind
    simp only [h0, if_false]
    generalize cmpQ z 1 = cz at *
    clear hz hok
    refine sxA tok mixed Tryz.func55 ?_
    simp -implicitDefEqProofs only [go_sem, simprocAttr, UU]
    refine kv (c1 _) ?_
    simp -implicitDefEqProofs only [go_sem, simprocAttr, UU, wa_cond, axC_t, axC_f]
    refine kv (c2 _) ?_
    simp -implicitDefEqProofs only [go_sem, simprocAttr, UU, wa_cond, axC_t, axC_f]
    refine ax_quiet (by kernel_rfl) ?_
    simp -implicitDefEqProofs only [go_sem, simprocAttr, UU]
    refine kw (o1 _) ?_
    refine kw (o2 _) ?_
    refine kw (s1 _) ?_
    refine kw (o3 _) ?_
    refine kv (o4 _) ?_
    simp -implicitDefEqProofs only [go_sem, simprocAttr, UU, hc, wa_cond, axC_t, axC_f]
    simp -implicitDefEqProofs only [go_sem, simprocAttr, UU, res55]
    first | exact .app _ _ | exact ⟨.app _ _, rfl⟩ | exact .refl _ | exact ⟨.refl _, rfl⟩
end Go.Proofs.YthhmkaikopdmjaaGreat
namespace Go.Proofs.YthhmkaikopdmjaaGreat
open Go Go.Fw
theorem zero_agg (c : Rat) : (RR.of ⟨c, 0⟩).val = .agg #[.bool (decide (c.num < 0)), .string (bs (digB c.num.natAbs)), .string (bs (denB c.den)), .bool false, .string (bs []), .string (bs [])] := by
  have h := mkQ_zero
  unfold mkQ at h
  obtain ⟨h1, h2, h3⟩ := qV_inj.1 h
  unfold RR.of RR.val rV
  simp only [h1, h2, h3]
theorem none4 (H : Heap) : Sim Tryz.prog 47 #[] H (RR.of ⟨1, 0⟩).val H := by
  refine flat_ex rfl ?_
  have o1 := fun H => ofNR H (n := 1) (by decide) (by decide)
  rw [show ((1 : Int) : Rat) = 1 from rfl] at o1
  rw [zero_agg]
  refine sxA tok mixed Tryz.func47 ?_
  simp -implicitDefEqProofs only [go_sem, simprocAttr, UU]
  refine kw (o1 _) ?_
  simp -implicitDefEqProofs only [go_sem, simprocAttr, UU, res47]
  first | exact .app _ _ | exact ⟨.app _ _, rfl⟩ | exact .refl _ | exact ⟨.refl _, rfl⟩
theorem Compare4 (H : Heap) {a b : RR} {k : Nat} (ha : a.le k) (hb : b.le k) (hk : k ≤ 19000) :
    Sim Tryz.prog 112 #[a.val, b.val] H (if a.err ≠ 0 ∨ b.err ≠ 0 then .tuple #[.int .i64 0, .int .i64 1] else .tuple #[.int .i64 (a.rot.cmp b.rot), .int .i64 0]) H := by
  refine flat_ex (by split <;> rfl) ?_
  have c1 := fun H => check4 H ha (by omega)
  have c2 := fun H => check4 H hb (by omega)
  by_cases h1 : a.err = 0
  · by_cases h2 : b.err = 0
    · rw [if_neg (by simp [h1, h2])]
      have o1 := fun H => compare4 H ha hb hk (RR.err_zero.1 h1).2 (RR.err_zero.1 h2).2
      generalize a.rot.cmp b.rot = z at *
      unfold RR.val rV at c1 c2 o1 ⊢
      refine sxA tok mixed Tryz.func112 ?_
      simp -implicitDefEqProofs only [go_sem, simprocAttr, UU]
      refine kv (c1 _) ?_
      simp -implicitDefEqProofs only [go_sem, simprocAttr, UU, h1, wa_cond, axC_t, axC_f]
      refine kv (c2 _) ?_
      simp -implicitDefEqProofs only [go_sem, simprocAttr, UU, h2, wa_cond, axC_t, axC_f]
      refine kw (o1 _) ?_
      simp -implicitDefEqProofs only [go_sem, simprocAttr, UU, res112]
      first | exact .app _ _ | exact ⟨.app _ _, rfl⟩ | exact .refl _ | exact ⟨.refl _, rfl⟩
    · rw [if_pos (.inr h2)]
      unfold RR.val rV at c1 c2 ⊢
      refine sxA tok mixed Tryz.func112 ?_
      simp -implicitDefEqProofs only [go_sem, simprocAttr, UU]
      refine kv (c1 _) ?_
      simp -implicitDefEqProofs only [go_sem, simprocAttr, UU, h1, wa_cond, axC_t, axC_f]
      refine kv (c2 _) ?_
      simp -implicitDefEqProofs only [go_sem, simprocAttr, UU, h2, wa_cond, axC_t, axC_f]
      simp -implicitDefEqProofs only [go_sem, simprocAttr, UU, res112]
      first | exact .app _ _ | exact ⟨.app _ _, rfl⟩ | exact .refl _ | exact ⟨.refl _, rfl⟩
  · rw [if_pos (.inl h1)]
    unfold RR.val rV at c1 c2 ⊢
    refine sxA tok mixed Tryz.func112 ?_
    simp -implicitDefEqProofs only [go_sem, simprocAttr, UU]
    refine kv (c1 _) ?_
    simp -implicitDefEqProofs only [go_sem, simprocAttr, UU, h1, wa_cond, axC_t, axC_f]
    simp -implicitDefEqProofs only [go_sem, simprocAttr, UU, res112]
    first | exact .app _ _ | exact ⟨.app _ _, rfl⟩ | exact .refl _ | exact ⟨.refl _, rfl⟩
theorem Of4 (H : Heap) {v : Value} {t : Rat} {k : Nat} (hv : QV v t k) (hk : k ≤ 20000) : Sim Tryz.prog 51 #[v] H (RR.of (Rot.ofT t)).val H := by
  refine flat_ex rfl ?_
  have o1 := fun H => ofNR H (n := 1) (by decide) (by decide)
  rw [show ((1 : Int) : Rat) = 1 from rfl] at o1
  have o2 := fun H => mulRQ H hv hv (by omega) (by omega)
  have z1 := sz_one (k := 2) (by decide)
  have z2 := hv.sz.mul hv.sz
  have s1 := fun H => addRQ H z1.qv z2.qv (by omega) (by omega)
  have o3 := fun H => subRQ H z1.qv z2.qv (by omega) (by omega)
  have z3 := (z1.add z2).qv
  have z4 := (z1.sub z2).qv
  have o4 := fun H => overRQ H z4 z3 (by omega) (by omega)
  have z5 := (hv.sz.add hv.sz).qv
  have o5 := fun H => overRQ H z5 z3 (by omega) (by omega)
  have s2 := fun H => addRQ H hv hv (by omega) (by omega)
  obtain ⟨g, n, d, rfl, ht, h1, h2⟩ := hv
  rw [RR.of_val]
  unfold Rot.ofT
  clear z1 z2 z3 z4 z5 ht
  simp only
  generalize (1 - t * t) / (1 + t * t) = x at *
  generalize (t + t) / (1 + t * t) = y at *
  generalize 1 + t * t = al at *
  generalize 1 - t * t = mi at *
  generalize t + t = tw at *
  generalize t * t = sq at *
  unfold qV at o2 s2 ⊢
  refine sxA tok mixed Tryz.func51 ?_
  simp -implicitDefEqProofs only [go_sem, simprocAttr, UU]
  refine kw (o1 _) ?_
  refine kw (o2 _) ?_
  refine kw (s1 _) ?_
  refine ax_quiet (by kernel_rfl) ?_
  simp -implicitDefEqProofs only [go_sem, simprocAttr, UU]
  refine kw (o3 _) ?_
  refine kw (o4 _) ?_
  refine kw (s2 _) ?_
  refine kw (o5 _) ?_
  simp -implicitDefEqProofs only [go_sem, simprocAttr, UU, res51]
  first | exact .app _ _ | exact ⟨.app _ _, rfl⟩ | exact .refl _ | exact ⟨.refl _, rfl⟩
theorem back_eq_one {a b : Rot} (ha : a.ok) (h : a.back.thn b = ⟨1, 0⟩) : a = b := by
  unfold Rot.ok at ha
  unfold Rot.thn Rot.back at h
  injection h with h1 h2
  obtain ⟨ac, asn⟩ := a
  obtain ⟨bc, bss⟩ := b
  simp only at ha h1 h2
  refine Rot.ext' ?_ ?_ <;> grind
theorem Middle4 (H : Heap) {a b : RR} {k : Nat} (ha : a.le k) (hb : b.le k) (hk : k ≤ 180) (ea : a.err = 0) (eb : b.err = 0) (hne : a.rot ≠ b.rot) :
    Sim Tryz.prog 70 #[a.val, b.val] H (.tuple #[(RR.of (Rot.mid a.rot b.rot)).val, .int .i64 0]) H := by
  refine flat_ex rfl ?_
  have c1 := fun H => check4 H ha (by omega)
  have c2 := fun H => check4 H hb (by omega)
  rw [ea] at c1
  rw [eb] at c2
  have o1 := fun H => back4 H ha (by omega)
  have o2 := fun H => then4 H ha.bk (hb.mono (show k ≤ k + 8 by omega)) (by omega)
  rw [RR.bk_rot] at o2
  have oka := (RR.err_zero.1 ea).2
  have okb := (RR.err_zero.1 eb).2
  have okd : (a.rot.back.thn b.rot).ok := Rot.thn_ok (Rot.back_ok oka) okb
  have zd : (a.rot.back.thn b.rot).Sz (4 * k + 21) := by
    have := ha.bk.sz.thn hb.sz
    rw [RR.bk_rot] at this
    exact this.mono (by omega)
  have o3 := fun H => upper4 H zd.le (by omega) (by rw [RR.of_rot]; exact okd)
  rw [RR.of_rot] at o3
  have hq := eq26 (RR.of (a.rot.back.thn b.rot)) (RR.of ⟨1, 0⟩)
  rw [decide_eq_false (fun h => hne (back_eq_one oka (by have := congrArg RR.rot h; rwa [RR.of_rot, RR.of_rot] at this)))] at hq
  have oN := fun H => none4 H
  unfold Rot.mid
  have hhalf := Rot.half_one okd
  have hhl := (a.rot.back.thn b.rot).half_le
  generalize hdd : a.rot.back.thn b.rot = d at *
  unfold RR.bk at o2
  have o4 := fun H => ofNR H (n := 1) (by decide) (by decide)
  rw [show ((1 : Int) : Rat) = 1 from rfl] at o4
  rw [RR.of_val] at o2 o3 oN
  by_cases hh : d.half = 1
  · rw [if_pos hh]
    have hq0 : (Rot.mk 0 1).Sz 2 := ⟨⟨by decide, by decide⟩, sz_one (by decide)⟩
    have o5 := fun H => then4 H (ha.mono (show k ≤ k + 9 by omega)) (hq0.le.mono (show 2 + 7 ≤ k + 9 by omega)) (by omega)
    rw [RR.of_rot, quarterR_val] at o5
    rw [RR.of_val] at o5 ⊢
    rw [decide_eq_false (by omega)] at o3
    unfold RR.of at hq
    simp only at hq
    generalize (a.rot.thn ⟨0, 1⟩).c = x at *
    generalize (a.rot.thn ⟨0, 1⟩).s = y at *
    generalize d.half = z at *
    generalize d.c = dc at *
    generalize d.s = ds at *
    unfold RR.val rV at c1 c2 o1 o2 o5 ⊢
    refine sxA tok mixed Tryz.func70 ?_
    simp -implicitDefEqProofs only [go_sem, simprocAttr, UU]
    refine kw (c1 _) ?_
    refine kv (c2 _) ?_
    simp -implicitDefEqProofs only [go_sem, simprocAttr, UU, wa_cond, axC_t, axC_f]
    refine ax_quiet (by kernel_rfl) ?_
    simp -implicitDefEqProofs only [go_sem, simprocAttr, UU]
    refine kw (o1 _) ?_
    refine kw (o2 _) ?_
    refine ax_quiet (by kernel_rfl) ?_
    simp -implicitDefEqProofs only [go_sem, simprocAttr, UU]
    refine kv (oN _) ?_
    simp -implicitDefEqProofs only [go_sem, simprocAttr, UU, hq, wa_cond, axC_t, axC_f]
    refine kv (o3 _) ?_
    simp -implicitDefEqProofs only [go_sem, simprocAttr, UU, wa_cond, axC_t, axC_f]
    refine ax_quiet (by kernel_rfl) ?_
    simp -implicitDefEqProofs only [go_sem, simprocAttr, UU]
    refine kw (o4 _) ?_
    refine kw (o5 _) ?_
    simp -implicitDefEqProofs only [go_sem, simprocAttr, UU, res70]
    first | exact .app _ _ | exact ⟨.app _ _, rfl⟩ | exact .refl _ | exact ⟨.refl _, rfl⟩
  · rw [if_neg hh]
    obtain ⟨hs0, hc0, hc1⟩ := hhalf hh
    rw [decide_eq_true (by omega)] at o3
    have z1 := sz_one (k := 2) (by decide)
    have o6 := fun H => addRQ H z1.qv zd.c.qv (by omega) (by omega)
    have o6b := fun H => overRQ H zd.s.qv (z1.add zd.c).qv (by omega) (by omega)
    have o7 := fun H => ofNR H (n := 3) (by decide) (by decide)
    have hpos : 0 ≤ d.s / (1 + d.c) := by
      rw [Rat.div_def]
      exact Rat.mul_nonneg hs0 (Rat.le_of_lt (Rat.inv_pos.2 hc1))
    have zt := zd.s.div ((sz_one (k := 2) (by decide)).add zd.c) (by omega)
    have z3 := Sz.int (z := 3) (k := 2) (by decide) (by decide)
    have o8 := fun H => overRQ H zt.qv z3.qv (by omega) (by decide)
    rw [show ((3 : Int) : Rat) = 3 from rfl] at o7 o8 z3
    have zth := zt.div z3 (by decide)
    generalize hth : d.s / (1 + d.c) / 3 = th at *
    have hth0 : 0 ≤ th := by
      rw [← hth, Rat.div_def]
      exact Rat.mul_nonneg hpos (Rat.le_of_lt (Rat.inv_pos.2 (by decide)))
    have s1 := fun H => addRQ H zth.qv zth.qv (by omega) (by omega)
    have o9 := fun H => smpRQ H (zth.mono (show 4 * k + 21 + (2 + (4 * k + 21) + 1) + 2 ≤ 16 * k + 100 by omega)).qv ((zth.add zth).mono (show _ ≤ 16 * k + 100 by omega)).qv (by omega)
    simp only [show ¬ th + th < th by grind, if_false] at o9
    have zs := Sz.smp (a := th) (b := th + th) (k := 16 * k + 100) (by grind) (zth.mono (by omega)) ((zth.add zth).mono (by omega)) (by omega)
    generalize smpQ th (th + th) = sm at *
    have o10 := fun H => Of4 H zs.qv (by omega)
    have zo := Rot.Sz.ofT zs
    have o11 := fun H => then4 H (ha.mono (show k ≤ 6 * (16 * k + 100) + 12 + 7 by omega)) zo.le (by omega)
    rw [RR.of_rot] at o11
    rw [RR.of_val] at o10 o11 ⊢
    rw [RR.of_val] at o11
    clear zs zo zth zt z3 hpos hth0 hs0 hc0 hc1 z1
    unfold RR.of at hq
    simp only at hq
    generalize (a.rot.thn (Rot.ofT sm)).c = x at *
    generalize (a.rot.thn (Rot.ofT sm)).s = y at *
    generalize (Rot.ofT sm).c = oc at *
    generalize (Rot.ofT sm).s = os at *
    generalize th + th = th2 at *
    generalize d.s / (1 + d.c) = t at *
    generalize d.half = z at *
    generalize 1 + d.c = al at *
    generalize d.c = dc at *
    generalize d.s = ds at *
    unfold RR.val rV at c1 c2 o1 o2 o11 ⊢
    refine sxA tok mixed Tryz.func70 ?_
    simp -implicitDefEqProofs only [go_sem, simprocAttr, UU]
    refine kw (c1 _) ?_
    refine kv (c2 _) ?_
    simp -implicitDefEqProofs only [go_sem, simprocAttr, UU, wa_cond, axC_t, axC_f]
    refine ax_quiet (by kernel_rfl) ?_
    simp -implicitDefEqProofs only [go_sem, simprocAttr, UU]
    refine kw (o1 _) ?_
    refine kw (o2 _) ?_
    refine ax_quiet (by kernel_rfl) ?_
    simp -implicitDefEqProofs only [go_sem, simprocAttr, UU]
    refine kv (oN _) ?_
    simp -implicitDefEqProofs only [go_sem, simprocAttr, UU, hq, wa_cond, axC_t, axC_f]
    refine kv (o3 _) ?_
    simp -implicitDefEqProofs only [go_sem, simprocAttr, UU, wa_cond, axC_t, axC_f]
    refine ax_quiet (by kernel_rfl) ?_
    simp -implicitDefEqProofs only [go_sem, simprocAttr, UU]
    refine kw (o4 _) ?_
    refine kw (o6 _) ?_
    refine kw (o6b _) ?_
    refine ax_quiet (by kernel_rfl) ?_
    simp -implicitDefEqProofs only [go_sem, simprocAttr, UU]
    refine kw (o7 _) ?_
    refine kw (o8 _) ?_
    refine ax_quiet (by kernel_rfl) ?_
    simp -implicitDefEqProofs only [go_sem, simprocAttr, UU]
    refine kw (s1 _) ?_
    refine kw (o9 _) ?_
    refine ax_quiet (by kernel_rfl) ?_
    simp -implicitDefEqProofs only [go_sem, simprocAttr, UU]
    refine kw (o10 _) ?_
    refine kw (o11 _) ?_
    simp -implicitDefEqProofs only [go_sem, simprocAttr, UU, res70]
    first | exact .app _ _ | exact ⟨.app _ _, rfl⟩ | exact .refl _ | exact ⟨.refl _, rfl⟩
end Go.Proofs.YthhmkaikopdmjaaGreat
namespace Go.Proofs.YthhmkaikopdmjaaGreat
open Go Go.Fw
theorem less4 (H : Heap) {a b : RR} {k : Nat} (ha : a.le k) (hb : b.le k) (hk : k ≤ 19000) : Sim Tryz.prog 57 #[a.val, b.val] H (.bool (decide (cmpS a b < 0))) H := by
  refine flat_ex rfl ?_
  obtain ⟨e, o1⟩ : ∃ e : Int, ∀ H, Sim Tryz.prog 112 #[a.val, b.val] H (.tuple #[.int .i64 (cmpS a b), .int .i64 e]) H := by
    unfold cmpS
    by_cases h : a.err ≠ 0 ∨ b.err ≠ 0
    · refine ⟨1, fun H => ?_⟩
      have := Compare4 H ha hb hk
      rw [if_pos h] at this ⊢
      exact this
    · refine ⟨0, fun H => ?_⟩
      have := Compare4 H ha hb hk
      rw [if_neg h] at this ⊢
      exact this
  generalize cmpS a b = z at *
  unfold RR.val rV at o1 ⊢
  refine sxA tok mixed Tryz.func57 ?_
  simp -implicitDefEqProofs only [go_sem, simprocAttr, UU]
  refine kw (o1 _) ?_
  simp -implicitDefEqProofs only [go_sem, simprocAttr, UU, res57]
  first | exact .app _ _ | exact ⟨.app _ _, rfl⟩ | exact .refl _ | exact ⟨.refl _, rfl⟩
theorem cmpS_swap (a b : RR) : (cmpS a b ≤ 0) ↔ ¬ cmpS b a < 0 := by
  unfold cmpS
  by_cases h : a.err ≠ 0 ∨ b.err ≠ 0
  · rw [if_pos h, if_pos h.symm]; omega
  · rw [if_neg h, if_neg (fun h2 => h h2.symm)]
    have := @Rot.cmp_pos a.rot b.rot
    constructor
    · intro h1 h2; have := this.2 h2; omega
    · intro h1; refine Classical.byContradiction fun h2 => h1 (this.1 (by omega))
theorem Check45 (H : Heap) {v : Value} {l : List RR} {k : Nat} (hv : RL H v l) (hle : ∀ r ∈ l, r.le k) (hk : k ≤ 19000) (hl : l.length ≤ 1000000) : Sim Tryz.prog 18 #[v] H (.int .i64 (chkR l)) H := by
  refine flat_ex rfl ?_
  have e1 := hv.len (tt := tt) tt22
  unfold chkR
  refine sxA tok mixed Tryz.func18 ?_
  by_cases h0 : l = []
  · rw [if_pos h0]
    have h1 : (l.length : Int) = 0 := by rw [h0]; rfl
    simp -implicitDefEqProofs only [go_sem, simprocAttr, wa_cond, axC_t, axC_f, e1, h1, res18]
    exact .refl _
  rw [if_neg h0]
  have hl0 := List.length_pos_iff.2 h0
  have h1 : ¬ (l.length : Int) = 0 := by omega
  by_cases h64 : 64 < l.length
  · rw [if_pos h64]
    have h2 : (64 : Int) < (l.length : Int) := by omega
    simp -implicitDefEqProofs only [go_sem, simprocAttr, wa_cond, axC_t, axC_f, e1, h1, h2, res18]
    exact .refl _
  rw [if_neg h64]
  have h2 : ¬ (64 : Int) < (l.length : Int) := by omega
  simp -implicitDefEqProofs only [go_sem, simprocAttr, wa_cond, axC_t, axC_f, e1, h1, h2]
  obtain ⟨b, i0, c, rfl, hA⟩ := hv.at h0
  refine ax_loopx (fun (i : Nat) s T => ∃ G : Heap, s 0 = .slice (some ⟨b, i0, none⟩) l.length c ∧ s 3 = .int .i64 (i : Nat) ∧ i ≤ l.length ∧ chkFrom none l = chkFrom (prevR l i) (l.drop i) ∧ T = H ++ G) (fun i => l.length - i) 0 ?_ ?_
  · refine ⟨[], ?_⟩
    simp -implicitDefEqProofs only [go_sem, simprocAttr]
    rfl
  rintro i s T ⟨G, s0, s3, hi, hch, rfl⟩
  simp -implicitDefEqProofs only [go_sem, simprocAttr, s0, s3, e1]
  refine ax_cond2 ?_
  simp only [ev_tmp, ev_const, ev_func, upd_at, put_some, put_none, bndB_bool, Nat.reduceEqDiff, if_true, if_false, ↓reduceIte, reduceCtorEq]
  refine ⟨fun hc0 => have hlt := of_decide_eq_true hc0; ?_, fun hc0 => have hlt := of_decide_eq_false hc0; ?_⟩
  · have hil : i < l.length := by omega
    have r1 := fun G => rd_more (hA.rdR hil) G
    have hc := fun H => check4 H (hle _ (List.getElem_mem hil)) (by omega)
    have hdrop := List.drop_eq_getElem_cons hil
    have hx := hle _ (List.getElem_mem hil)
    have hnext : prevR l (i + 1) = some l[i] := by unfold prevR; rw [if_neg (by omega), Nat.add_sub_cancel, List.getElem?_eq_getElem hil]
    rw [hdrop] at hch
    have hnn : (0 : Int) ≤ (i : Int) := by omega
    have w1 : IntKind.i64.wrap ((i : Int) + 1) = ((i + 1 : Nat) : Int) := by rw [w64 (by omega) (by omega)]; rfl
    unfold RR.cells at r1
    unfold RR.val rV at hc
    have hcmp := fun p (hp : RR.le p k) H => less4 H hp hx hk
    unfold RR.val rV at hcmp
    generalize hxx : l[i] = x at *
    simp -implicitDefEqProofs only [go_sem, simprocAttr, s0, s3, aIndexAddr, hlt, hnn, r1]
    refine kv (hc _) ?_
    by_cases he : x.err = 0
    case neg =>
      have hch2 : chkFrom none l = x.err := by rw [hch]; unfold chkFrom; rw [if_pos he]
      rw [hch2]
      simp -implicitDefEqProofs only [go_sem, simprocAttr, wa_cond, axC_t, axC_f, he, res18]
      exact .app _ _
    have hch2 : chkFrom none l = if (match prevR l i with | some p => decide (cmpS x p ≤ 0) | none => false) = true then 8 else chkFrom (some x) (l.drop (i + 1)) := by
      rw [hch]; conv => lhs; unfold chkFrom
      rw [if_neg (by simpa using he)]
      rfl
    simp -implicitDefEqProofs only [go_sem, simprocAttr, wa_cond, axC_t, axC_f, he]
    refine ax_quiet (by kernel_rfl) ?_
    by_cases hi0 : i = 0
    · subst hi0
      have hi1 : ¬ (0 : Int) < ((0 : Nat) : Int) := by decide
      have e2 : prevR l 0 = none := rfl
      rw [e2] at hch2
      simp -implicitDefEqProofs only [go_sem, simprocAttr, wa_cond, axC_t, axC_f, s0, s3, hi1, w1]
      refine ⟨1, ⟨G, ?_⟩, by omega⟩
      rw [hch2, hnext]
      ((repeat' apply And.intro) <;> first | rfl | assumption | omega)
    · obtain ⟨j, rfl⟩ : ∃ j, i = j + 1 := ⟨i - 1, by omega⟩
      have hj : j < l.length := by omega
      have hi1 : (0 : Int) < ((j + 1 : Nat) : Int) := by omega
      have wj : IntKind.i64.wrap (((j + 1 : Nat) : Int) - 1) = (j : Int) := by rw [castS]; exact w64 (by omega) (by omega)
      have r2 := fun G => rd_more (hA.rdR hj) G
      have hp := hle _ (List.getElem_mem hj)
      have e2 : prevR l (j + 1) = some l[j] := by unfold prevR; rw [if_neg (by omega), Nat.add_sub_cancel, List.getElem?_eq_getElem hj]
      rw [e2] at hch2
      simp only at hch2
      unfold RR.cells at r2
      have hcm := hcmp _ hp
      generalize l[j] = p at *
      have hsw := cmpS_swap x p
      have hjn : (0 : Int) ≤ (j : Int) := by omega
      have hjl : (j : Int) < (l.length : Int) := by omega
      by_cases hle0 : cmpS x p ≤ 0
      · rw [if_pos (by simpa using hle0)] at hch2
        rw [hch2]
        rw [decide_eq_false (hsw.1 hle0)] at hcm
        simp -implicitDefEqProofs only [go_sem, simprocAttr, s0, s3, hi1, wj, aIndexAddr, hjn, hjl, hnn, hlt, r1, r2]
        refine kv (hcm _) ?_
        simp -implicitDefEqProofs only [go_sem, simprocAttr, wa_cond, axC_t, axC_f, res18]
        exact .app _ _
      · rw [if_neg (by simpa using hle0)] at hch2
        rw [decide_eq_true (Classical.byContradiction fun h => hle0 (hsw.2 h))] at hcm
        simp -implicitDefEqProofs only [go_sem, simprocAttr, s0, s3, hi1, wj, aIndexAddr, hjn, hjl, hnn, hlt, r1, r2]
        refine kv (hcm _) ?_
        simp -implicitDefEqProofs only [go_sem, simprocAttr, wa_cond, axC_t, axC_f, s0, s3, w1]
        refine ⟨j + 1 + 1, ⟨G, ?_⟩, by omega⟩
        rw [hch2, hnext]
        ((repeat' apply And.intro) <;> first | rfl | assumption | omega)
  · have hil : i = l.length := by omega
    subst hil
    rw [List.drop_length] at hch
    have : chkFrom none l = 0 := by rw [hch]; unfold chkFrom; rfl
    rw [this]
    simp -implicitDefEqProofs only [go_sem, simprocAttr, res18]
    exact .app _ _
def RR.long (r : RR) : Bool := decide (8 < r.n.length) || decide (8 < r.d.length) || decide (8 < r.n'.length) || decide (8 < r.d'.length)
theorem RR.long_le {r : RR} (h : RR.long r = false) : r.le 64 := by
  unfold RR.long at h
  simp only [Bool.or_eq_false_iff, decide_eq_false_iff_not] at h
  exact ⟨by omega, by omega, by omega, by omega⟩
theorem Long45 (H : Heap) (r : RR) : Sim Tryz.prog 42 #[r.val] H (.bool (RR.long r)) H := by
  refine flat_ex rfl ?_
  have c : ∀ n : Nat, ((8 : Int) < (n : Int)) ↔ 8 < n := fun n => by omega
  unfold RR.long RR.val rV
  by_cases h1 : 8 < r.n.length
  · rw [decide_eq_true h1]
    refine sxA tok mixed Tryz.func42 ?_
    simp -implicitDefEqProofs only [go_sem, simprocAttr, UU, aLen, c, h1, Bool.true_or]
    simp -implicitDefEqProofs only [go_sem, simprocAttr, UU, res42]
    first | exact .app _ _ | exact ⟨.app _ _, rfl⟩ | exact .refl _ | exact ⟨.refl _, rfl⟩
  rw [decide_eq_false h1]
  by_cases h2 : 8 < r.d.length
  · rw [decide_eq_true h2]
    refine sxA tok mixed Tryz.func42 ?_
    simp -implicitDefEqProofs only [go_sem, simprocAttr, UU, aLen, c, h1, h2, Bool.true_or, Bool.false_or]
    simp -implicitDefEqProofs only [go_sem, simprocAttr, UU, res42]
    first | exact .app _ _ | exact ⟨.app _ _, rfl⟩ | exact .refl _ | exact ⟨.refl _, rfl⟩
  rw [decide_eq_false h2]
  by_cases h3 : 8 < r.n'.length
  · rw [decide_eq_true h3]
    refine sxA tok mixed Tryz.func42 ?_
    simp -implicitDefEqProofs only [go_sem, simprocAttr, UU, aLen, c, h1, h2, h3, Bool.true_or, Bool.false_or]
    simp -implicitDefEqProofs only [go_sem, simprocAttr, UU, res42]
    first | exact .app _ _ | exact ⟨.app _ _, rfl⟩ | exact .refl _ | exact ⟨.refl _, rfl⟩
  rw [decide_eq_false h3]
  by_cases h4 : 8 < r.d'.length
  · rw [decide_eq_true h4]
    refine sxA tok mixed Tryz.func42 ?_
    simp -implicitDefEqProofs only [go_sem, simprocAttr, UU, aLen, c, h1, h2, h3, h4, Bool.true_or, Bool.false_or]
    simp -implicitDefEqProofs only [go_sem, simprocAttr, UU, res42]
    first | exact .app _ _ | exact ⟨.app _ _, rfl⟩ | exact .refl _ | exact ⟨.refl _, rfl⟩
  rw [decide_eq_false h4]
  refine sxA tok mixed Tryz.func42 ?_
  simp -implicitDefEqProofs only [go_sem, simprocAttr, UU, aLen, c, h1, h2, h3, h4, Bool.or_false]
  simp -implicitDefEqProofs only [go_sem, simprocAttr, UU, res42]
  first | exact .app _ _ | exact ⟨.app _ _, rfl⟩ | exact .refl _ | exact ⟨.refl _, rfl⟩
def lenBad (n : Nat) : Bool := decide (12 < n ∧ n < 31 ∨ 34 < n ∧ n < 63 ∨ 66 < n)
def greatB (l : List RR) : Bool := lenBad l.length || l.any RR.long
theorem Great45 (H : Heap) {v : Value} {l : List RR} (hv : RL H v l) : Sim Tryz.prog 41 #[v] H (.bool (greatB l)) H := by
  refine flat_ex rfl ?_
  have e1 := hv.len (tt := tt) tt22
  have c1 : ((12 : Int) < (l.length : Int)) ↔ 12 < l.length := by omega
  have c2 : ((l.length : Int) < 31) ↔ l.length < 31 := by omega
  have c3 : ((34 : Int) < (l.length : Int)) ↔ 34 < l.length := by omega
  have c4 : ((l.length : Int) < 63) ↔ l.length < 63 := by omega
  have c5 : ((66 : Int) < (l.length : Int)) ↔ 66 < l.length := by omega
  unfold greatB lenBad
  refine sxA tok mixed Tryz.func41 ?_
  by_cases h1 : 12 < l.length ∧ l.length < 31
  · rw [decide_eq_true (.inl h1)]
    simp -implicitDefEqProofs only [go_sem, simprocAttr, wa_cond, axC_t, axC_f, e1, c1, c2, h1.1, h1.2, Bool.true_or, res41]
    exact .refl _
  by_cases h2 : 34 < l.length ∧ l.length < 63
  · rw [decide_eq_true (.inr (.inl h2))]
    have d1 : 12 < l.length := by omega
    have d2 : ¬ l.length < 31 := by omega
    simp -implicitDefEqProofs only [go_sem, simprocAttr, wa_cond, axC_t, axC_f, e1, c1, c2, c3, c4, d1, d2, h2.1, h2.2, Bool.true_or, res41]
    exact .refl _
  by_cases h3 : 66 < l.length
  · rw [decide_eq_true (.inr (.inr h3))]
    have d1 : 12 < l.length := by omega
    have d2 : ¬ l.length < 31 := by omega
    have d3 : 34 < l.length := by omega
    have d4 : ¬ l.length < 63 := by omega
    simp -implicitDefEqProofs only [go_sem, simprocAttr, wa_cond, axC_t, axC_f, e1, c1, c2, c3, c4, c5, d1, d2, d3, d4, h3, Bool.true_or, res41]
    exact .refl _
  have hmain : ∀ (s : Slots) (T : Heap), s 0 = v → s 3 = .int .i64 (l.length : Nat) → T = H → True := fun _ _ _ _ _ => trivial
  clear hmain
  rw [decide_eq_false (by omega), Bool.false_or]
  have hcase : (¬ 12 < l.length ∧ ¬ 34 < l.length ∧ ¬ 66 < l.length) ∨ (12 < l.length ∧ ¬ l.length < 31 ∧ ¬ 34 < l.length ∧ ¬ 66 < l.length) ∨ (12 < l.length ∧ ¬ l.length < 31 ∧ 34 < l.length ∧ ¬ l.length < 63 ∧ ¬ 66 < l.length) := by omega
  apply shareK (M := fun s T => s 0 = v ∧ s 3 = .int .i64 (l.length : Nat) ∧ T = H)
  · intro hrest
    rcases hcase with ⟨d1, d2, d3⟩ | ⟨d1, d2, d3, d4⟩ | ⟨d1, d2, d3, d4, d5⟩
    · simp -implicitDefEqProofs only [go_sem, simprocAttr, e1, c1, c2, c3, c4, c5, d1, d2, d3]
      refine ax_mid _ ?_ hrest
      simp -implicitDefEqProofs only [go_sem, simprocAttr, wa_cond, axC_t, axC_f]
    · simp -implicitDefEqProofs only [go_sem, simprocAttr, e1, c1, c2, c3, c4, c5, d1, d2, d3, d4]
      refine ax_mid _ ?_ hrest
      simp -implicitDefEqProofs only [go_sem, simprocAttr, wa_cond, axC_t, axC_f]
    · simp -implicitDefEqProofs only [go_sem, simprocAttr, e1, c1, c2, c3, c4, c5, d1, d2, d3, d4, d5]
      refine ax_mid _ ?_ hrest
      simp -implicitDefEqProofs only [go_sem, simprocAttr, wa_cond, axC_t, axC_f]
  rintro s T ⟨s0, s3, rfl⟩
  simp -implicitDefEqProofs only [go_sem, simprocAttr, s0, s3]
  refine ax_loopx (fun (i : Nat) s T1 => s 0 = v ∧ s 3 = .int .i64 (l.length : Nat) ∧ s 4 = .int .i64 (i : Nat) ∧ i ≤ l.length ∧ l.any RR.long = (l.drop i).any RR.long ∧ T1 = T) (fun i => l.length - i) 0 ?_ ?_
  · simp -implicitDefEqProofs only [go_sem, simprocAttr, s0, s3]
  clear s0 s3
  rintro i s T1 ⟨s0, s3, s4, hi, ha, rfl⟩
  simp -implicitDefEqProofs only [go_sem, simprocAttr, s3, s4]
  refine ax_cond2 ?_
  simp only [ev_tmp, ev_const, ev_func, upd_at, put_some, put_none, bndB_bool, Nat.reduceEqDiff, if_true, if_false, ↓reduceIte, reduceCtorEq]
  refine ⟨fun hc0 => have hlt := of_decide_eq_true hc0; ?_, fun hc0 => have hlt := of_decide_eq_false hc0; ?_⟩
  · have hil : i < l.length := by omega
    obtain ⟨b, i0, c, rfl, hA⟩ := hv.at (fun h => by rw [h] at hil; simp at hil)
    have r1 := hA.rdR hil
    have o1 := fun H => Long45 H l[i]
    have hnn : (0 : Int) ≤ (i : Int) := by omega
    have hlt2 : (i : Int) < (l.length : Int) := by omega
    have w1 : IntKind.i64.wrap ((i : Int) + 1) = ((i + 1 : Nat) : Int) := by rw [w64 (by omega) (by omega)]; rfl
    rw [List.drop_eq_getElem_cons hil, List.any_cons] at ha
    generalize l[i] = x at *
    unfold RR.cells at r1
    unfold RR.val rV at o1
    simp -implicitDefEqProofs only [go_sem, simprocAttr, s0, s4, aIndexAddr, hnn, hlt2, r1]
    refine kv (o1 _) ?_
    cases hx : RR.long x
    · rw [hx, Bool.false_or] at ha
      simp -implicitDefEqProofs only [go_sem, simprocAttr, wa_cond, axC_t, axC_f, s0, s3, s4, w1]
      refine ⟨i + 1, ?_, by omega⟩
      ((repeat' apply And.intro) <;> first | rfl | assumption | omega)
    · rw [hx, Bool.true_or] at ha
      rw [ha]
      simp -implicitDefEqProofs only [go_sem, simprocAttr, wa_cond, axC_t, axC_f, res41]
      exact .refl _
  · have : i = l.length := by omega
    subst this
    rw [List.drop_length] at ha
    rw [ha]
    simp -implicitDefEqProofs only [go_sem, simprocAttr, res41, List.any_nil]
    exact .refl _
end Go.Proofs.YthhmkaikopdmjaaGreat
namespace Go.Proofs.YthhmkaikopdmjaaGreat
open Go Go.Fw
theorem cmpS_zero {a b : RR} (ha : a.err = 0) (hb : b.err = 0) : cmpS a b = 0 ↔ a = b := by
  obtain ⟨ea, oa⟩ := RR.err_zero.1 ha
  obtain ⟨eb, ob⟩ := RR.err_zero.1 hb
  rw [cmpS_ok ha hb, Rot.cmp_zero oa ob]
  refine ⟨fun h => ?_, fun h => by rw [h]⟩
  rw [ea, eb, h]
theorem find_law {l : List RR} {r : RR} (ho : Ord l) (hr : r.err = 0) {i : Nat} (hi : i < l.length) (h : l[i] = r) : i = cntLess l r := by
  have h1 : ¬ i < cntLess l r := fun h1 => by
    have := cntLess_below l r i h1 hi
    rw [h, (cmpS_zero hr hr).2 rfl] at this; omega
  refine Nat.le_antisymm ?_ (by omega)
  refine Classical.byContradiction fun h2 => ?_
  have hq : cntLess l r < l.length := by omega
  have h3 := cntLess_above ho hr (cntLess l r) (Nat.le_refl _) hq
  have h4 := List.pairwise_iff_getElem.1 ho.ord (cntLess l r) i hq hi (by omega)
  rw [cmpS_ok (ho.ok _ (List.getElem_mem hq)) hr] at h3
  rw [h] at h4
  exact h3 h4
theorem has_law {l : List RR} {r : RR} (ho : Ord l) (hr : r.err = 0) : hasR l r = true ↔ ∃ h : cntLess l r < l.length, l[cntLess l r] = r := by
  unfold hasR
  by_cases h : cntLess l r < l.length
  · rw [List.getElem?_eq_getElem h]
    simp only [decide_eq_true_eq]
    rw [cmpS_zero (ho.ok _ (List.getElem_mem h)) hr]
    exact ⟨fun h2 => ⟨h, h2⟩, fun ⟨_, h2⟩ => h2⟩
  · rw [List.getElem?_eq_none (by omega)]
    simp [h]
def befI (n q : Nat) : Nat := if q = 0 then n - 1 else q - 1
def findI (l : List RR) (r : RR) : Nat := if hasR l r = true then cntLess l r else befI l.length (cntLess l r)
theorem find45 (H : Heap) {v : Value} {l : List RR} {r : RR} {k : Nat} (hv : RL H v l) (hle : ∀ r ∈ l, r.le k) (hr : r.le k) (hk : k ≤ 19000) (ho : Ord l) (hre : r.err = 0) :
    Sim Tryz.prog 56 #[v, r.val] H (.tuple #[.int .i64 (findI l r : Nat), .bool (hasR l r)]) H := by
  refine flat_ex rfl ?_
  have e1 := hv.len (tt := tt) tt22
  have hl0 := List.length_pos_iff.2 ho.ne
  have hl64 := ho.len
  have hql := cntLess_le l r
  obtain ⟨b, i0, c, rfl, hA⟩ := hv.at ho.ne
  have a0 : IntKind.i64.wrap ((l.length : Int) - 1) = ((befI l.length 0 : Nat) : Int) := by rw [w64 (by omega) (by omega)]; unfold befI; rw [if_pos rfl]; omega
  have hlaw := has_law ho hre
  unfold RR.val rV
  refine sxA tok mixed Tryz.func56 ?_
  simp -implicitDefEqProofs only [go_sem, simprocAttr, e1, a0]
  refine ax_loopx (fun (i : Nat) s T => s 0 = .slice (some ⟨b, i0, none⟩) l.length c ∧ s 3 = .pointer (some ⟨H.length, 0, none⟩) ∧ s 6 = .int .i64 (befI l.length (min i (cntLess l r)) : Nat) ∧ s 7 = .int .i64 (i : Nat) ∧ i ≤ l.length ∧ (∀ j, j < i → ∀ h : j < l.length, l[j] ≠ r) ∧
    T = H ++ [⟨[.bool r.g, .string (bs r.n), .string (bs r.d), .bool r.g', .string (bs r.n'), .string (bs r.d')], 1, true⟩]) (fun i => l.length - i) 0 ?_ ?_
  · simp -implicitDefEqProofs only [go_sem, simprocAttr, Nat.zero_min]
    exact fun j hj => absurd hj (by omega)
  rintro i s T ⟨s0, s3, s6, s7, hi, hno, rfl⟩
  simp -implicitDefEqProofs only [go_sem, simprocAttr, s0, s7, e1]
  refine ax_cond2 ?_
  simp only [ev_tmp, ev_const, ev_func, upd_at, put_some, put_none, bndB_bool, Nat.reduceEqDiff, if_true, if_false, ↓reduceIte, reduceCtorEq]
  refine ⟨fun hc0 => have hlt := of_decide_eq_true hc0; ?_, fun hc0 => have hlt := of_decide_eq_false hc0; ?_⟩
  · have hil : i < l.length := by omega
    have r1 := rd_more (hA.rdR hil) [⟨[.bool r.g, .string (bs r.n), .string (bs r.d), .bool r.g', .string (bs r.n'), .string (bs r.d')], 1, true⟩]
    have hnn : (0 : Int) ≤ (i : Int) := by omega
    have w1 : IntKind.i64.wrap ((i : Int) + 1) = ((i + 1 : Nat) : Int) := by rw [w64 (by omega) (by omega)]; rfl
    have hq := eq26 l[i] r
    have hls := fun H => less4 H (hle _ (List.getElem_mem hil)) hr hk
    have hfl := fun h => find_law ho hre hil h
    have hxe := ho.ok _ (List.getElem_mem hil)
    have hbel := fun h => cntLess_below l r i h hil
    have habo := fun h => cntLess_above ho hre i h hil
    have hno2 : l[i] ≠ r → ∀ j, j < i + 1 → ∀ h : j < l.length, l[j] ≠ r := by
      intro h j hj hjl
      by_cases hji : j = i
      · subst hji; exact h
      · exact hno j (by omega) hjl
    have hyes : l[i] = r → hasR l r = true := fun h => hlaw.2 (by have := hfl h; subst this; exact ⟨hil, h⟩)
    generalize l[i] = x at *
    unfold RR.cells at r1
    unfold RR.val rV at hls
    simp -implicitDefEqProofs only [go_sem, simprocAttr]
    refine ax_quiet (by kernel_rfl) ?_
    by_cases hx : x = r
    · have hii := hfl hx
      have hh := hyes hx
      rw [decide_eq_true hx] at hq
      unfold findI
      rw [hh, if_pos rfl, ← hii]
      simp -implicitDefEqProofs only [go_sem, simprocAttr, wa_cond, axC_t, axC_f, s0, s3, s7, aIndexAddr, hnn, hlt, r1, hq, res56]
      first | exact .app _ _ | exact ⟨.app _ _, rfl⟩
    · rw [decide_eq_false hx] at hq
      have hno3 := hno2 hx
      simp -implicitDefEqProofs only [go_sem, simprocAttr, wa_cond, axC_t, axC_f, s0, s3, s7, aIndexAddr, hnn, hlt, r1, hq]
      refine ax_quiet (by kernel_rfl) ?_
      simp -implicitDefEqProofs only [go_sem, simprocAttr, s0, s3, s7, aIndexAddr, hnn, hlt, r1]
      refine kv (hls _) ?_
      by_cases hiq : i < cntLess l r
      · rw [decide_eq_true (hbel hiq)]
        have e6 : (i : Int) = ((befI l.length (min (i + 1) (cntLess l r)) : Nat) : Int) := by rw [show min (i + 1) (cntLess l r) = i + 1 by omega]; unfold befI; rw [if_neg (by omega)]; omega
        simp -implicitDefEqProofs only [go_sem, simprocAttr, wa_cond, axC_t, axC_f, s0, s3, s7, w1]
        refine ⟨i + 1, ?_, by omega⟩
        rw [← e6]
        ((repeat' apply And.intro) <;> first | rfl | assumption | omega)
      · rw [decide_eq_false (habo (by omega))]
        have e6 : min (i + 1) (cntLess l r) = min i (cntLess l r) := by omega
        simp -implicitDefEqProofs only [go_sem, simprocAttr, wa_cond, axC_t, axC_f, s0, s3, s6, s7, w1]
        refine ⟨i + 1, ?_, by omega⟩
        rw [e6]
        ((repeat' apply And.intro) <;> first | rfl | assumption | omega)
  · have hil : i = l.length := by omega
    have hh : hasR l r = false := by
      rw [← Bool.not_eq_true, hlaw]
      rintro ⟨h, h2⟩
      exact hno _ (by omega) h h2
    unfold findI
    rw [hh, if_neg (by decide), show min i (cntLess l r) = cntLess l r by omega] at *
    simp -implicitDefEqProofs only [go_sem, simprocAttr, s6, res56]
    first | exact .app _ _ | exact ⟨.app _ _, rfl⟩
end Go.Proofs.YthhmkaikopdmjaaGreat
namespace Go.Proofs.YthhmkaikopdmjaaGreat
open Go Go.Fw
theorem great45 (H : Heap) {v w : Value} {l m : List RR} (hv : RL H v l) (hw : RL H w m) (hm : m.length ≤ 1000000) : Sim Tryz.prog 10 #[v, w] H (.bool (greatB l || m.any RR.long)) H := by
  have o1 := Great45 H hv
  have o2 := containsFuncR H (g := 42) (cap := #[]) (p := RR.long) hw hm (fun x _ => Long45 H x)
  generalize greatB l = g at *
  generalize m.any RR.long = g' at *
  refine soA tok mixed Tryz.func10 ?_
  simp -implicitDefEqProofs only [go_sem, simprocAttr]
  refine kv o1 ?_
  cases g
  · simp -implicitDefEqProofs only [go_sem, simprocAttr]
    refine kv o2 ?_
    simp -implicitDefEqProofs only [go_sem, simprocAttr, res10, Bool.false_or]
  · simp -implicitDefEqProofs only [go_sem, simprocAttr, res10, Bool.true_or]
theorem any_long {m : List RR} (h : m.any RR.long = false) : ∀ r ∈ m, r.le 64 := fun r hr => RR.long_le (by
  rw [← Bool.not_eq_true, List.any_eq_true] at h
  rw [← Bool.not_eq_true]
  exact fun hx => h ⟨r, hr, hx⟩)
theorem great_le {l : List RR} (h : greatB l = false) : (∀ r ∈ l, r.le 64) ∧ lenBad l.length = false := by
  unfold greatB at h
  rw [Bool.or_eq_false_iff] at h
  exact ⟨any_long h.2, h.1⟩
end Go.Proofs.YthhmkaikopdmjaaGreat
namespace Go.Proofs.YthhmkaikopdmjaaGreat
open Go Go.Fw
theorem mid_sz2 {a b : RR} (ha : a.le 64) (hb : b.le 64) (ea : a.err = 0) (eb : b.err = 0) : (Rot.mid a.rot b.rot).Sz 4400 := by
  have oka := (RR.err_zero.1 ea).2
  have okb := (RR.err_zero.1 eb).2
  have okd : (a.rot.back.thn b.rot).ok := Rot.thn_ok (Rot.back_ok oka) okb
  have zd : (a.rot.back.thn b.rot).Sz 261 := (ha.sz.back.thn hb.sz).mono (by omega)
  have hhalf := Rot.half_one okd
  unfold Rot.mid
  generalize hdd : a.rot.back.thn b.rot = d at *
  by_cases hh : d.half = 1
  · rw [if_pos hh]
    have hq0 : (Rot.mk 0 1).Sz 2 := ⟨⟨by decide, by decide⟩, sz_one (by decide)⟩
    exact (ha.sz.thn hq0).mono (by omega)
  · rw [if_neg hh]
    obtain ⟨hs0, hc0, hc1⟩ := hhalf hh
    have hpos : 0 ≤ d.s / (1 + d.c) := by
      rw [Rat.div_def]
      exact Rat.mul_nonneg hs0 (Rat.le_of_lt (Rat.inv_pos.2 hc1))
    have zt := zd.s.div ((sz_one (k := 2) (by decide)).add zd.c) (by omega)
    have z3 := Sz.int (z := 3) (k := 2) (by decide) (by decide)
    rw [show ((3 : Int) : Rat) = 3 from rfl] at z3
    have zth := zt.div z3 (by decide)
    generalize hth : d.s / (1 + d.c) / 3 = th at *
    have hth0 : 0 ≤ th := by
      rw [← hth, Rat.div_def]
      exact Rat.mul_nonneg hpos (Rat.le_of_lt (Rat.inv_pos.2 (by decide)))
    have z2 := Sz.int (z := 2) (k := 2) (by decide) (by decide)
    rw [show ((2 : Int) : Rat) = 2 from rfl] at z2
    have zth2 := z2.mul zth
    rw [show (2 : Rat) * th = th + th by grind] at zth2
    have zs := Sz.smp (a := th) (b := th + th) (k := 530) (by grind) (zth.mono (by omega)) (zth2.mono (by omega)) (by omega)
    exact (ha.sz.thn (Rot.Sz.ofT2 zs (by decide))).mono (by omega)
theorem mids_le2 {l : List RR} {i : Nat} (hle : ∀ r ∈ l, r.le 64) (hok : ∀ r ∈ l, r.err = 0) (hi : i ≤ l.length) : ∀ r ∈ midsTo l i, r.le 4407 := by
  intro r hr
  obtain ⟨j, hj, rfl⟩ := List.mem_map.1 hr
  have hj := List.mem_range.1 hj
  have hjl : j < l.length := by omega
  have hn := nextR_lt (l := l) (fun h => by rw [h] at hjl; simp at hjl) j
  rw [getD_eq hjl, getD_eq hn]
  have m1 := List.getElem_mem hjl
  have m2 := List.getElem_mem hn
  exact (mid_sz2 (hle _ m1) (hle _ m2) (hok _ m1) (hok _ m2)).le
section
variable {l : List RR} (ho : Ord l) (h2 : 2 ≤ l.length)
include ho
theorem Ord.okr {i : Nat} (hi : i < l.length) : l[i].rot.ok := (RR.err_zero.1 (ho.ok _ (List.getElem_mem hi))).2
theorem Ord.lt_of {i j : Nat} (hi : i < l.length) (hj : j < l.length) (h : i < j) : l[i].rot.lt l[j].rot := List.pairwise_iff_getElem.1 ho.ord i j hi hj h
theorem Ord.of_lt {i j : Nat} (hi : i < l.length) (hj : j < l.length) (h : l[i].rot.lt l[j].rot) : i < j := by
  refine Classical.byContradiction fun hn => ?_
  by_cases e : i = j
  · subst e; exact Rot.lt_irrefl (ho.okr hi) h
  · have := ho.lt_of hj hi (by omega)
    exact Rot.lt_irrefl (ho.okr hi) (Rot.lt_trans (ho.okr hi) (ho.okr hj) (ho.okr hi) h this)
omit ho in
omit ho in
include h2
omit h2 in
omit h2 in
omit h2 in
end
end Go.Proofs.YthhmkaikopdmjaaGreat
namespace Go.Proofs.YthhmkaikopdmjaaGreat
open Go Go.Fw
section
variable {l : List RR} (ho : Ord l) (h2 : 2 ≤ l.length)
include ho h2
omit h2 in
omit h2 in
omit h2 in
end
end Go.Proofs.YthhmkaikopdmjaaGreat
namespace Go.Proofs.YthhmkaikopdmjaaGreat
open Go Go.Fw
theorem neighY1 {Y : Array Value → Heap → Heap → Prop} {x : RR} {b0 b i0 c : Nat} {H : Heap} (hb0 : H[b0]? = some ⟨[.slice (some ⟨b, i0, none⟩) 1 c], 1, true⟩) (hA : ElAt 6 H b i0 c ([x].map RR.cells)) :
    SimY Tryz.prog 115 Y #[.pointer (some ⟨b0, 0, none⟩)] H (H ++ [⟨x.cells, 1, true⟩]) := by
  refine simY_of_ax tok mixed Tryz.func115 rfl (by kernel_rfl) (by kernel_rfl) (by simp only [Tryz.ntmps115, List.size_toArray, List.length_cons, List.length_nil]; omega) ?_
  intro y
  have bx : ∀ B, rd (H ++ B) b0 0 1 = some [.slice (some ⟨b, i0, none⟩) 1 c] := fun B => rd_more (rd_cell hb0) B
  have bx0 : rd H b0 0 1 = some [.slice (some ⟨b, i0, none⟩) 1 c] := rd_cell hb0
  have e1 : aLen tt [22] (.slice (some ⟨b, i0, none⟩) 1 c) = some (.int .i64 ((1 : Nat) : Int)) := rfl
  have hr := hA.rdR (j := 0) (by simp)
  have eini : (#[Value.func (Fn.yield y) #[] #[]] ++ #[Value.pointer (some ⟨b0, 0, none⟩)] : Array Value) = #[.func (.yield y) #[] #[], .pointer (some ⟨b0, 0, none⟩)] := rfl
  rw [eini]
  simp -implicitDefEqProofs only [go_sem, simprocAttr, bx0, e1]
  refine ax_loopx (fun (_ : Unit) s T => s 0 = .func (.yield y) #[] #[] ∧ s 1 = .pointer (some ⟨b0, 0, none⟩) ∧ s 5 = .slice (some ⟨b, i0, none⟩) 1 c ∧ s 6 = .int .i64 ((1 : Nat) : Int) ∧ s 7 = .int .i64 0 ∧ T = H) (fun _ => 0) () ?_ ?_
  · simp -implicitDefEqProofs only [go_sem, simprocAttr]
  rintro _ s T ⟨s0, s1, s5, s6, s7, rfl⟩
  have d1 : (0 : Int) < ((1 : Nat) : Int) := by decide
  have d2 : ((1 : Nat) : Int) < 2 := by decide
  simp only [List.getElem_cons_zero, Nat.zero_mul, Nat.add_zero] at hr
  unfold RR.cells at hr ⊢
  simp -implicitDefEqProofs only [go_sem, simprocAttr, wa_cond, axC_t, axC_f, s0, s1, s5, s6, s7, aIndexAddr, d1, hr]
  refine ax_loud (by kernel_rfl) ?_
  simp -implicitDefEqProofs only [go_sem, simprocAttr, wa_cond, axC_t, axC_f, s0, s1, s5, s7, bx, e1, d2, res115]
theorem Refine1 (H : Heap) {v : Value} {x : RR} {k : Nat} (hv : RL H v [x]) (hle : x.le k) (hk : k ≤ 80) (hx : x.err = 0) :
    ∃ w H', Sim Tryz.prog 26 #[v] H w H' ∧ Ext H H' ∧ ∃ b, H.length ≤ b ∧ w = .tuple #[.slice (some ⟨b, 0, none⟩) 1 0, .int .i64 0] ∧ OwnR H' b [x] := by
  have ho : Ord [x] := ⟨by simp, by simp, by simp [hx], by simp⟩
  have o1 := CheckS H hv (l := [x]) (k := k) (by simp [hle]) (by omega) (by simp)
  have hchk := ok_chk ho
  rw [hchk] at o1
  have e1 := hv.len (tt := tt) tt22
  obtain ⟨b, i0, c, rfl, hA⟩ := hv.at ho.ne
  have m2 : ¬ (1 : Int) < (([x] : List RR).length : Int) := by simp
  obtain ⟨vc, T1, ocl, hE1, b1, hb1, rfl, hown1⟩ := cloneR H hA ho.ne (by simp)
  simp only [List.length_cons, List.length_nil, Nat.zero_add] at e1 m2 ocl o1 ⊢
  have q1 : (T1 ++ [(⟨[.slice (some ⟨b1, 0, none⟩) 1 0], 1, true⟩ : Blk)])[T1.length]? = some ⟨[.slice (some ⟨b1, 0, none⟩) 1 0], 1, true⟩ := by simp
  refine stA tok mixed Tryz.func26 ?_
  simp -implicitDefEqProofs only [go_sem, simprocAttr, wt_seq, wt_block, wt_region, wt_loop, wt_skip, wt_exit, wt_ret, wt_cond, axCT_t, axCT_f]
  refine kv o1 ?_
  simp -implicitDefEqProofs only [go_sem, simprocAttr, wt_seq, wt_block, wt_region, wt_loop, wt_skip, wt_exit, wt_ret, wt_cond, axCT_t, axCT_f, e1]
  refine kl ocl ?_
  simp -implicitDefEqProofs only [go_sem, simprocAttr, wt_seq, wt_block, wt_region, wt_loop, wt_skip, wt_exit, wt_ret, wt_cond, axCT_t, axCT_f]
  have on := neighboursS (T1 ++ [⟨[.slice (some ⟨b1, 0, none⟩) 1 0], 1, true⟩]) (some ⟨b, i0, none⟩) 1 c
  refine kl on ?_
  simp -implicitDefEqProofs only [go_sem, simprocAttr, wt_seq, wt_block, wt_region, wt_loop, wt_skip, wt_exit, wt_ret, wt_cond, axCT_t, axCT_f]
  have hA1 := (hA.ext hE1).app
  refine axT_range (fun T => T = T1 ++ [⟨[.slice (some ⟨b1, 0, none⟩) 1 0], 1, true⟩, ⟨[.slice (some ⟨b, i0, none⟩) 1 c], 1, true⟩] ++ [⟨x.cells, 1, true⟩]) (by simp -implicitDefEqProofs only [go_sem, simprocAttr]; rfl) ⟨_, neighY1 (x := x) (b := b) (i0 := i0) (c := c) ?_ (hA1 _), rfl⟩ ?_
  · simp
  rintro T rfl
  obtain ⟨T2, hT2⟩ : ∃ T2, T2 = T1 ++ [⟨[.slice (some ⟨b1, 0, none⟩) 1 0], 1, true⟩, ⟨[.slice (some ⟨b, i0, none⟩) 1 c], 1, true⟩] ++ [(⟨x.cells, 1, true⟩ : Blk)] := ⟨_, rfl⟩
  have hown2 : OwnR T2 b1 [x] := by rw [hT2]; exact Own.app (Own.app hown1 _) _
  have hE2 : Ext H T2 := by rw [hT2]; exact (hE1.trans (.app _ _)).trans (.app _ _)
  have rp : rd T2 T1.length 0 1 = some [.slice (some ⟨b1, 0, none⟩) 1 0] := by
    refine rd_cell ?_
    rw [hT2]; simp
  have hb1l := hown1.lt
  obtain ⟨L, os, hperm, _⟩ := sort255 T2 (c := 0) hown2 (k := k) (by simp [hle]) (by omega) (by simp [hx]) (by simp)
  rw [List.perm_singleton.1 hperm] at os
  have hself := putR_self hown2
  rw [hself] at os
  rw [← hT2]
  simp only [List.length_cons, List.length_nil, Nat.zero_add] at os
  simp -implicitDefEqProofs only [go_sem, simprocAttr, wt_seq, wt_block, wt_region, wt_loop, wt_skip, wt_exit, wt_ret, wt_cond, axCT_t, axCT_f, rp]
  refine kl os ?_
  simp -implicitDefEqProofs only [go_sem, simprocAttr, wt_seq, wt_block, wt_region, wt_loop, wt_skip, wt_exit, wt_ret, wt_cond, axCT_t, axCT_f, rp, res26]
  exact ⟨hE2, b1, hb1, rfl, hown2⟩
end Go.Proofs.YthhmkaikopdmjaaGreat
namespace Go.Proofs.YthhmkaikopdmjaaGreat
open Go Go.Fw
def insL (L : List RR) (i : Nat) (r : RR) : List RR := L.take i ++ r :: L.drop i
theorem insGrow (H : Heap) {b q i : Nat} {L : List RR} {r : RR} (hL : OwnR H b L) (hq : OwnR H q [r]) (hi : i < L.length) (hlen : L.length ≤ 1000) :
    Sim Tryz.prog 68 #[.slice (some ⟨b, 0, none⟩) L.length L.length, .int .i64 (i : Nat), .slice (some ⟨q, 0, none⟩) 1 1] H
      (.slice (some ⟨H.length, 0, none⟩) (L.length + 1) 0) (H ++ [⟨rowF (insL L i r), 6, true⟩]) := by
  have hB := hL.blk
  have hQ := hq.blk
  have e0 : ∀ b c, aLen tt [22] (.slice (some ⟨b, 0, none⟩) L.length c) = some (.int .i64 (L.length : Nat)) := fun _ _ => rfl
  have e1 : aLen tt [22] (.slice (some ⟨q, 0, none⟩) 1 1) = some (.int .i64 1) := rfl
  have ec : aCap tt [22] (.slice (some ⟨b, 0, none⟩) L.length L.length) = some (.int .i64 (L.length : Nat)) := by
    unfold aCap; simp only [tt22]; rw [if_neg (by omega)]
  have d0 : ¬ (1 : Int) = 0 := by decide
  have d1 : ¬ (i : Int) = (L.length : Int) := by omega
  have w1 : IntKind.i64.wrap ((L.length : Int) + 1) = ((L.length + 1 : Nat) : Int) := by rw [w64 (by omega) (by omega)]; rfl
  have w2 : IntKind.i64.wrap (((L.length + 1 : Nat) : Int) - (i : Int)) = ((L.length + 1 - i : Nat) : Int) := by rw [w64 (by omega) (by omega)]; omega
  have w3 : IntKind.i64.wrap ((i : Int) + 1) = ((i + 1 : Nat) : Int) := by rw [w64 (by omega) (by omega)]; rfl
  have d2 : (L.length : Int) < ((L.length + 1 : Nat) : Int) := by omega
  have s1 : aSlice tt H 22 (.slice (some ⟨b, 0, none⟩) L.length L.length) (some (.int .i64 (i : Nat))) none none = some (.slice (some ⟨b, 0 + i * 6, none⟩) (L.length - i) (L.length - i)) :=
    aSlice_at tt22 rfl ⟨_, hB, rfl⟩ (by decide) (.inr (Nat.le_refl _)) (by simp [bnd]) (by simp [bnd]) (by omega) (Nat.le_refl _)
  have s2 : aSlice tt H 22 (.slice (some ⟨b, 0, none⟩) L.length L.length) none (some (.int .i64 (i : Nat))) none = some (.slice (some ⟨b, 0 + 0 * 6, none⟩) (i - 0) (L.length - 0)) :=
    aSlice_at tt22 rfl ⟨_, hB, rfl⟩ (by decide) (.inr (Nat.le_refl _)) (by simp [bnd]) (by simp [bnd]) (by omega) (by omega)
  simp only [Nat.zero_mul, Nat.add_zero, Nat.sub_zero, Nat.zero_add] at s1 s2
  have hA : rd H b 0 (i * 6) = some (rowF (L.take i)) := by
    rw [rd_at hB (Nat.succ_pos 5) (by simp only; rw [show ((L.map RR.cells).flatten).length = L.length * 6 from rowF_len L]; omega)]
    rw [← rowF_take L i (by omega)]; rfl
  have hD : ∀ G, rd (H ++ G) b (i * 6) ((L.length - i) * 6) = some (rowF (L.drop i)) := by
    intro G
    refine rd_more ?_ G
    rw [rd_at hB (Nat.succ_pos 5) (by simp only; rw [show ((L.map RR.cells).flatten).length = L.length * 6 from rowF_len L]; omega)]
    rw [← rowF_drop L i (by omega), List.take_of_length_le (by rw [show ((L.map RR.cells).flatten) = rowF L from rfl, List.length_drop, rowF_len]; omega)]; rfl
  have hR : ∀ G, rd (H ++ G) q 0 (1 * 6) = some r.cells := by
    intro G
    refine rd_more ?_ G
    rw [rd_at hQ (Nat.succ_pos 5) (by simp [RR.cells])]
    simp [RR.cells]
  obtain ⟨Z, hZ⟩ : ∃ Z, Z = zerosL (.agg #[(.bool false), (.string ⟨#[]⟩), (.string ⟨#[]⟩), (.bool false), (.string ⟨#[]⟩), (.string ⟨#[]⟩)] : Value).cells.toList ((L.length + 1 - i) * 6) := ⟨_, rfl⟩
  have hZl : Z.length = (L.length + 1 - i) * 6 := by rw [hZ]; simp [zerosL]
  have a1 : aAppend tt H [22, 3] (.slice (some ⟨b, 0, none⟩) i L.length) (.int .i64 ((L.length + 1 - i : Nat) : Int)) = some (.slice (some ⟨H.length, 0, none⟩) (L.length + 1) 0, H ++ [⟨rowF (L.take i) ++ Z, 6, true⟩]) := by
    have := aMake_at (T := H) (b := b) (i := 0) (n := i) (c := L.length) (k := L.length + 1 - i) tt22 tt3 rfl tt26 (by decide) ⟨by decide, by decide⟩ rfl (by omega) (by omega) (by simp only; omega) hA
    rw [this, hZ, show i + (L.length + 1 - i) = L.length + 1 by omega]
  clear hZ
  have hAl : (rowF (L.take i)).length = i * 6 := by rw [rowF_len, List.length_take]; omega
  have hDl : (rowF (L.drop i)).length = (L.length - i) * 6 := by rw [rowF_len, List.length_drop]
  have blk : ∀ X, (H ++ [(⟨X, 6, true⟩ : Blk)])[H.length]? = some ⟨X, 6, true⟩ := fun X => by simp
  have put : ∀ X Y, (H ++ [(⟨X, 6, true⟩ : Blk)]).set H.length ⟨Y, 6, true⟩ = H ++ [⟨Y, 6, true⟩] := fun X Y => by rw [List.set_append_right _ _ (Nat.le_refl _)]; simp
  have s3 : ∀ X, aSlice tt (H ++ [(⟨X, 6, true⟩ : Blk)]) 22 (.slice (some ⟨H.length, 0, none⟩) (L.length + 1) 0) (some (.int .i64 (i : Nat))) none none = some (.slice (some ⟨H.length, 0 + i * 6, none⟩) (L.length + 1 - i) (0 - i)) := fun X =>
    aSlice_at tt22 rfl ⟨_, blk X, rfl⟩ (by decide) (.inl rfl) (by simp [bnd]) (by simp [bnd]) (by omega) (Nat.le_refl _)
  have s4 : ∀ X, aSlice tt (H ++ [(⟨X, 6, true⟩ : Blk)]) 22 (.slice (some ⟨H.length, 0, none⟩) (L.length + 1) 0) (some (.int .i64 ((i + 1 : Nat) : Int))) none none = some (.slice (some ⟨H.length, 0 + (i + 1) * 6, none⟩) (L.length + 1 - (i + 1)) (0 - (i + 1))) := fun X =>
    aSlice_at tt22 rfl ⟨_, blk X, rfl⟩ (by decide) (.inl rfl) (by simp [bnd]; omega) (by simp [bnd]) (by omega) (Nat.le_refl _)
  have s5 : ∀ X, aSlice tt (H ++ [(⟨X, 6, true⟩ : Blk)]) 22 (.slice (some ⟨b, 0, none⟩) L.length L.length) (some (.int .i64 (i : Nat))) none none = some (.slice (some ⟨b, 0 + i * 6, none⟩) (L.length - i) (L.length - i)) := fun X =>
    aSlice_at tt22 rfl ⟨_, by rw [List.getElem?_append_left (Own.lt hL)]; exact hB, rfl⟩ (by decide) (.inr (Nat.le_refl _)) (by simp [bnd]) (by simp [bnd]) (by omega) (Nat.le_refl _)
  have p1 : splice (rowF (L.take i) ++ Z) (i * 6) r.cells = rowF (L.take i) ++ (r.cells ++ Z.drop 6) := by
    unfold splice
    rw [List.take_append_of_le_length (by omega), List.take_of_length_le (by omega), RR.cells_len, List.drop_append, List.drop_of_length_le (by omega), hAl, List.nil_append, show i * 6 + 6 - i * 6 = 6 by omega, List.append_assoc]
  have p2 : splice (rowF (L.take i) ++ (r.cells ++ Z.drop 6)) ((i + 1) * 6) (rowF (L.drop i)) = rowF (insL L i r) := by
    have h1 : List.take ((i + 1) * 6) (rowF (L.take i) ++ r.cells ++ Z.drop 6) = rowF (L.take i) ++ r.cells := by
      rw [List.take_append_of_le_length (by simp only [List.length_append, hAl, RR.cells_len]; omega), List.take_of_length_le (by simp only [List.length_append, hAl, RR.cells_len]; omega)]
    have h2 : List.drop ((i + 1) * 6 + (rowF (L.drop i)).length) (rowF (L.take i) ++ r.cells ++ Z.drop 6) = [] :=
      List.drop_of_length_le (by simp only [List.length_append, hAl, hDl, hZl, RR.cells_len, List.length_drop]; omega)
    unfold splice insL
    rw [rowF_app, rowF_cons, ← List.append_assoc, h1, h2, List.append_nil, List.append_assoc]
  have c1 : aCopy tt (H ++ [⟨rowF (L.take i) ++ Z, 6, true⟩]) [22, 22] (.slice (some ⟨H.length, i * 6, none⟩) (L.length + 1 - i) 0) (.slice (some ⟨q, 0, none⟩) 1 1) = some (.int .i64 1, H ++ [⟨rowF (L.take i) ++ (r.cells ++ Z.drop 6), 6, true⟩]) := by
    refine aCopy_at (k := 1) tt22 tt26 (by omega) (hR _) ?_
    rw [wr_at (blk _) rfl (by simp only [List.length_append, hAl, hZl, RR.cells_len]; omega) (RR.cells_cell r)]
    simp only [p1, put]
  have c2 : aCopy tt (H ++ [⟨rowF (L.take i) ++ (r.cells ++ Z.drop 6), 6, true⟩]) [22, 22] (.slice (some ⟨H.length, (i + 1) * 6, none⟩) (L.length - i) 0) (.slice (some ⟨b, i * 6, none⟩) (L.length - i) (L.length - i)) = some (.int .i64 ((L.length - i : Nat) : Int), H ++ [⟨rowF (insL L i r), 6, true⟩]) := by
    refine aCopy_at (k := L.length - i) tt22 tt26 (by omega) (hD _) ?_
    rw [wr_at (blk _) rfl (by simp only [List.length_append, hAl, hDl, hZl, RR.cells_len, List.length_drop]; omega) (rowF_ok _)]
    simp only [p2, put]
  simp only [Nat.zero_add, Nat.zero_sub, show L.length + 1 - (i + 1) = L.length - i by omega] at s3 s4 s5
  refine soA tok mixed Tryz.func68 ?_
  simp -implicitDefEqProofs only [go_sem, simprocAttr, wa_cond, axC_t, axC_f, wl_cap, wl_copy, s1, s2, s3, e0, e1, ec, d0, d1, d2, w1, w2, w3, a1, c1]
  refine ax_loud (by kernel_rfl) ?_
  simp -implicitDefEqProofs only [go_sem, simprocAttr, wl_copy, s4, s5, w3, c2, res68]
end Go.Proofs.YthhmkaikopdmjaaGreat
namespace Go.Proofs.YthhmkaikopdmjaaGreat
open Go Go.Fw
theorem und22 : Tryz.prog.underlying 22 = some (.slice 26) := by
  obtain ⟨d, h1, h2⟩ := (tok 22 _ tt22).und
  rw [h1]
  have := fits_slice rfl h2
  rw [this]
theorem size26 : ∀ w, (sizeOf 26).run Tryz.prog w = .ok 6 w := by
  intro w
  obtain ⟨info, h1, h2, _⟩ := (tok 26 _ tt26).info
  simp [sizeOf, typeInfo, h1, h2]
theorem overlapsX {H : Heap} {q b i j n m c d : Nat} {Q B : Blk} (hqb : q ≠ b) (hQ : H[q]? = some Q) (hQo : Q.own = true) (hQ0 : Q.cells ≠ []) (hB : H[b]? = some B) (hBo : B.own = true) (hB0 : B.cells ≠ []) (hn0 : n ≠ 0) (hm0 : m ≠ 0) :
    SimX Tryz.prog 120 #[.slice (some ⟨q, i, none⟩) n c, .slice (some ⟨b, j, none⟩) m d] H (.bool false) H :=
  overlaps_simX (tS := 22) (tR := 4) (e := 26) Tryz.func120 (by kernel_rfl) (by kernel_rfl) (by kernel_rfl) (by kernel_rfl) und22 size26 hqb hQ hQo hQ0 hB hBo hB0 hn0 hm0
theorem insEnd (H : Heap) {b q : Nat} {L : List RR} {r : RR} (hL : OwnR H b L) (hq : OwnR H q [r]) (hlen : L.length ≤ 1000) :
    Sim Tryz.prog 68 #[.slice (some ⟨b, 0, none⟩) L.length 0, .int .i64 (L.length : Nat), .slice (some ⟨q, 0, none⟩) 1 1] H
      (.slice (some ⟨H.length, 0, none⟩) (L.length + 1) 0) (H.set b deadBlk ++ [⟨rowF (L ++ [r]), 6, true⟩]) := by
  have hB := hL.blk
  have e0 : ∀ b c, aLen tt [22] (.slice (some ⟨b, 0, none⟩) L.length c) = some (.int .i64 (L.length : Nat)) := fun _ _ => rfl
  have e1 : aLen tt [22] (.slice (some ⟨q, 0, none⟩) 1 1) = some (.int .i64 1) := rfl
  have d0 : ¬ (1 : Int) = 0 := by decide
  have s1 : aSlice tt H 22 (.slice (some ⟨b, 0, none⟩) L.length 0) (some (.int .i64 (L.length : Nat))) none none = some (.slice (some ⟨b, 0 + L.length * 6, none⟩) (L.length - L.length) (0 - L.length)) :=
    aSlice_at tt22 rfl ⟨_, hB, rfl⟩ (by decide) (.inl rfl) (by simp [bnd]) (by simp [bnd]) (by omega) (Nat.le_refl _)
  have a1 := append_own (T := H) (l := L.map RR.cells) (m := [r].map RR.cells) tt22 tt26 rfl (by decide) (by decide) hL (hq.at (c := 1) (.inr (by simp))) (by simp) (by simp; omega)
  simp only [List.length_map, List.length_cons, List.length_nil, Nat.zero_add] at a1
  have e2 : (List.map RR.cells L ++ List.map RR.cells [r]).flatten = rowF (L ++ [r]) := by simp [rowF]
  rw [e2] at a1
  refine soA tok mixed Tryz.func68 ?_
  simp -implicitDefEqProofs only [go_sem, simprocAttr, wa_cond, axC_t, axC_f, s1, e0, e1, d0, a1, res68]
theorem insRoom (H : Heap) {b q i C : Nat} {L : List RR} {r : RR} {J : List Value} (hB : H[b]? = some ⟨rowF L ++ J, 6, true⟩) (hJ : J.length = 6) (hq : OwnR H q [r]) (hqb : q ≠ b) (hi : i < L.length) (hC : L.length + 1 ≤ C) (hlen : L.length ≤ 1000) :
    Sim Tryz.prog 68 #[.slice (some ⟨b, 0, none⟩) L.length C, .int .i64 (i : Nat), .slice (some ⟨q, 0, none⟩) 1 1] H
      (.slice (some ⟨b, 0, none⟩) (L.length + 1) C) (H.set b ⟨rowF (insL L i r), 6, true⟩) := by
  have hQ := hq.blk
  have hbl : b < H.length := (List.getElem?_eq_some_iff.1 hB).1
  have e0 : ∀ b c, aLen tt [22] (.slice (some ⟨b, 0, none⟩) L.length c) = some (.int .i64 (L.length : Nat)) := fun _ _ => rfl
  have e1 : aLen tt [22] (.slice (some ⟨q, 0, none⟩) 1 1) = some (.int .i64 1) := rfl
  have ec : aCap tt [22] (.slice (some ⟨b, 0, none⟩) L.length C) = some (.int .i64 (C : Nat)) := by
    unfold aCap; simp only [tt22]; rw [if_neg (by omega)]
  have d0 : ¬ (1 : Int) = 0 := by decide
  have d1 : ¬ (i : Int) = (L.length : Int) := by omega
  have w1 : IntKind.i64.wrap ((L.length : Int) + 1) = ((L.length + 1 : Nat) : Int) := by rw [w64 (by omega) (by omega)]; rfl
  have w3 : IntKind.i64.wrap ((i : Int) + 1) = ((i + 1 : Nat) : Int) := by rw [w64 (by omega) (by omega)]; rfl
  have d2 : ¬ (C : Int) < ((L.length + 1 : Nat) : Int) := by omega
  have s1 : ∀ T, aSlice tt T 22 (.slice (some ⟨b, 0, none⟩) L.length C) (some (.int .i64 (i : Nat))) none none = some (.slice (some ⟨b, 0 + i * 6, none⟩) (L.length - i) (C - i)) := fun T =>
    aSlice_cap tt22 rfl (by omega) (by simp [bnd]) (by simp [bnd]) (by omega) (by omega)
  have s2 : ∀ T, aSlice tt T 22 (.slice (some ⟨b, 0, none⟩) L.length C) none (some (.int .i64 ((L.length + 1 : Nat) : Int))) none = some (.slice (some ⟨b, 0 + 0 * 6, none⟩) (L.length + 1 - 0) (C - 0)) := fun T =>
    aSlice_cap tt22 rfl (by omega) (by simp [bnd]) (by simp [bnd]; omega) (by omega) (by omega)
  have s3 : ∀ T, aSlice tt T 22 (.slice (some ⟨b, 0, none⟩) (L.length + 1) C) (some (.int .i64 ((i + 1 : Nat) : Int))) none none = some (.slice (some ⟨b, 0 + (i + 1) * 6, none⟩) (L.length + 1 - (i + 1)) (C - (i + 1))) := fun T =>
    aSlice_cap tt22 rfl (by omega) (by simp [bnd]; omega) (by simp [bnd]) (by omega) (by omega)
  have s4 : ∀ T, aSlice tt T 22 (.slice (some ⟨b, 0, none⟩) (L.length + 1) C) (some (.int .i64 (i : Nat))) none none = some (.slice (some ⟨b, 0 + i * 6, none⟩) (L.length + 1 - i) (C - i)) := fun T =>
    aSlice_cap tt22 rfl (by omega) (by simp [bnd]) (by simp [bnd]) (by omega) (by omega)
  have o := overlapsX (i := 0) (j := (i + 1) * 6) (n := 1) (m := L.length - i) (c := 1) (d := C - (i + 1)) hqb hQ rfl (by simp [RR.cells]) hB rfl (fun h => by have := congrArg List.length h; rw [List.length_append, hJ] at this; simp at this) (by decide) (by omega)
  have hTl : (rowF (L.take (i + 1))).length = (i + 1) * 6 := by rw [rowF_len, List.length_take]; omega
  have hAl : (rowF (L.take i)).length = i * 6 := by rw [rowF_len, List.length_take]; omega
  have hDl : (rowF (L.drop i)).length = (L.length - i) * 6 := by rw [rowF_len, List.length_drop]
  have hFl : (rowF L ++ J).length = (L.length + 1) * 6 := by rw [List.length_append, rowF_len, hJ]; omega
  have hD : rd H b (i * 6) ((L.length - i) * 6) = some (rowF (L.drop i)) := by
    rw [rd_at hB (Nat.succ_pos 5) (by simp only; omega)]
    simp only
    rw [List.drop_append_of_le_length (by rw [rowF_len]; omega), rowF_drop L i (by omega), List.take_append_of_le_length (by omega), List.take_of_length_le (by omega)]
  have p1 : splice (rowF L ++ J) ((i + 1) * 6) (rowF (L.drop i)) = rowF (L.take (i + 1)) ++ rowF (L.drop i) := by
    have h1 : List.take ((i + 1) * 6) (rowF L ++ J) = rowF (L.take (i + 1)) := by
      rw [List.take_append_of_le_length (by rw [rowF_len]; omega), rowF_take L (i + 1) (by omega)]
    have h2 : List.drop ((i + 1) * 6 + (rowF (L.drop i)).length) (rowF L ++ J) = [] := List.drop_of_length_le (by rw [hDl, hFl]; omega)
    unfold splice
    rw [h1, h2, List.append_nil]
  have hx : ∃ x, L.take (i + 1) = L.take i ++ [x] := ⟨L[i], by rw [List.take_add_one, List.getElem?_eq_getElem hi]; rfl⟩
  obtain ⟨x, hx⟩ := hx
  have p2 : splice (rowF (L.take (i + 1)) ++ rowF (L.drop i)) (i * 6) r.cells = rowF (insL L i r) := by
    have h0 : rowF (L.take (i + 1)) = rowF (L.take i) ++ x.cells := by rw [hx, rowF_app, rowF_cons]; simp [rowF]
    have h1 : List.take (i * 6) (rowF (L.take i) ++ (x.cells ++ rowF (L.drop i))) = rowF (L.take i) := by
      rw [List.take_append_of_le_length (by omega), List.take_of_length_le (by omega)]
    have h2 : List.drop (i * 6 + 6) (rowF (L.take i) ++ (x.cells ++ rowF (L.drop i))) = rowF (L.drop i) := by
      rw [← List.append_assoc, List.drop_append_of_le_length (by rw [List.length_append, hAl, RR.cells_len]; omega), List.drop_of_length_le (by rw [List.length_append, hAl, RR.cells_len]; omega), List.nil_append]
    unfold splice insL
    rw [h0, List.append_assoc (rowF (L.take i)) x.cells, h1, RR.cells_len, h2, rowF_app, rowF_cons, List.append_assoc]
  have c1 : aCopy tt H [22, 22] (.slice (some ⟨b, (i + 1) * 6, none⟩) (L.length - i) (C - (i + 1))) (.slice (some ⟨b, i * 6, none⟩) (L.length + 1 - i) (C - i)) = some (.int .i64 ((L.length - i : Nat) : Int), H.set b ⟨rowF (L.take (i + 1)) ++ rowF (L.drop i), 6, true⟩) := by
    refine aCopy_at (k := L.length - i) tt22 tt26 (by omega) hD ?_
    rw [wr_at hB rfl (by simp only; omega) (rowF_ok _)]
    simp only [p1]
  have hR : rd (H.set b ⟨rowF (L.take (i + 1)) ++ rowF (L.drop i), 6, true⟩) q 0 (1 * 6) = some r.cells := by
    rw [rd_at (by rw [List.getElem?_set_ne (Ne.symm hqb)]; exact hQ) (Nat.succ_pos 5) (by simp [RR.cells])]
    simp [RR.cells]
  have c2 : aCopy tt (H.set b ⟨rowF (L.take (i + 1)) ++ rowF (L.drop i), 6, true⟩) [22, 22] (.slice (some ⟨b, i * 6, none⟩) (L.length + 1 - i) (C - i)) (.slice (some ⟨q, 0, none⟩) 1 1) = some (.int .i64 1, H.set b ⟨rowF (insL L i r), 6, true⟩) := by
    refine aCopy_at (k := 1) tt22 tt26 (by omega) hR ?_
    rw [wr_at (List.getElem?_set_self hbl) rfl (by simp only [List.length_append, hTl, hDl, RR.cells_len]; omega) (RR.cells_cell r)]
    simp only [p2, List.set_set]
  simp only [Nat.zero_add, Nat.zero_mul, Nat.sub_zero, show L.length + 1 - (i + 1) = L.length - i by omega] at s1 s2 s3 s4
  refine sim_of_axS (snd_simX _ none) tok mixed Tryz.func68 rfl (by kernel_rfl) (by kernel_rfl) (by simp only [Tryz.ntmps68, List.size_toArray, List.length_cons, List.length_nil]; omega) ?_
  simp -implicitDefEqProofs only [go_sem, simprocAttr, wa_cond, axC_t, axC_f, wl_cap, wl_copy, s1, s2, s3, e0, e1, ec, d0, d1, d2, w1, w3]
  refine kv (.inr o) ?_
  simp -implicitDefEqProofs only [go_sem, simprocAttr, wa_cond, axC_t, axC_f]
  refine ax_loud (by kernel_rfl) ?_
  simp -implicitDefEqProofs only [go_sem, simprocAttr, wl_copy, s3, s4, w3, c1, c2, res68]
end Go.Proofs.YthhmkaikopdmjaaGreat
namespace Go.Proofs.YthhmkaikopdmjaaGreat
open Go Go.Fw
theorem still_lies {ρ ρ' : Inj} {H H' : Heap} {W W' : World} (s : Step ρ H W ρ' H' W') {b : Nat} {p : Fw.Place} {B : Blk} (hp : ρ b = some (.lies p)) (hB : H'[b]? = some B) (ho : B.own = true) : ρ' b = some (.lies p) := by
  rcases s.le b _ hp with h | h
  · exact h
  · have := s.mem.gone b h
    rw [hB] at this; cases this
    cases ho
theorem insS (H : Heap) {b q i : Nat} {L : List RR} {r : RR} (hL : OwnR H b L) (hq : OwnR H q [r]) (hqb : q ≠ b) (hi : i ≤ L.length) (hlen : L.length ≤ 1000) :
    Sim Tryz.prog 68 #[.slice (some ⟨b, 0, none⟩) L.length 0, .int .i64 (i : Nat), .slice (some ⟨q, 0, none⟩) 1 1] H
      (.slice (some ⟨H.length, 0, none⟩) (L.length + 1) 0) (H.set b deadBlk ++ [⟨rowF (insL L i r), 6, true⟩]) := by
  have hend := insEnd H hL hq hlen
  by_cases hin : i = L.length
  · subst hin
    have e : insL L L.length r = L ++ [r] := by unfold insL; rw [List.take_length, List.drop_length]
    rw [e]; exact hend
  have hil : i < L.length := by omega
  have hbl := Own.lt hL
  have hB : H[b]? = some ⟨rowF L, 6, true⟩ := hL.blk
  refine ⟨hend.1, fun ρ W ARGS hM hA => ?_⟩
  have hs := hA.1
  obtain ⟨A0, A1, A2, rfl⟩ : ∃ A0 A1 A2, ARGS = #[A0, A1, A2] := by
    match ARGS, hs with
    | ⟨[x, y, z]⟩, _ => exact ⟨x, y, z, rfl⟩
  have v0 := hA.2 0 (by simp) (by simp)
  have v1 := hA.2 1 (by simp) (by simp)
  have v2 := hA.2 2 (by simp) (by simp)
  simp only [List.getElem_toArray, List.getElem_cons_zero, List.getElem_cons_succ] at v0 v1 v2
  obtain ⟨p, C, hp, rfl, hnC, _, hext, l⟩ := VR.slice_own hM v0 hB rfl (by omega)
  have hext := hext rfl
  have hesz : p.esz = 6 := l.esz
  have hnew : ∀ c, c ≠ 0 → C = c → VRs ρ #[.slice (some ⟨b, 0, none⟩) L.length c, .int .i64 (i : Nat), .slice (some ⟨q, 0, none⟩) 1 1] #[.slice (some ⟨p.blk, p.off + 0, none⟩) L.length C, A1, A2] := fun c hc hCc => by
    refine ⟨rfl, fun j h1 h2 => ?_⟩
    match j, h1, h2 with
    | 0, _, _ => exact .slice b 0 _ c p C hp hnC (.inr hCc) (fun h => absurd h hc)
    | 1, _, _ => exact v1
    | 2, _, _ => exact v2
  by_cases hC : C = L.length
  · -- no room
    have h := (insGrow H (r := r) hL hq hil hlen).2 ρ W _ hM (hnew L.length (by omega) hC)
    refine h.mono ?_
    rintro e W' ⟨V, ρ', rfl, hv, hs⟩
    have hB1 : (H ++ [(⟨rowF (insL L i r), 6, true⟩ : Blk)])[b]? = some ⟨rowF L, 6, true⟩ := by rw [List.getElem?_append_left hbl]; exact hB
    have hb' := still_lies hs hp hB1 rfl
    have s2 := hs.trans (Step.kill hs.mem hb')
    rw [List.set_append_left _ _ hbl] at s2
    exact ⟨V, _, rfl, hv.mono (Inj.le_kill ρ' b), s2⟩
  · -- in place
    have hC1 : L.length + 1 ≤ C := by omega
    have hroom : (L.length + 1) * 6 ≤ p.ext := by
      rw [hesz] at hext
      omega
    have hFl := rowF_len L
    obtain ⟨J, hJl, hJ⟩ : ∃ J : List Value, J.length = 6 ∧ ∀ k v, J[k]? = some v → W.cell? ⟨p.blk, p.off + ((rowF L).length + k), none⟩ = some v ∧ plain v = true := by
      refine ⟨(List.range 6).map fun k => (W.cell? ⟨p.blk, p.off + ((rowF L).length + k), none⟩).getD default, by simp, fun k v hv => ?_⟩
      rw [List.getElem?_map] at hv
      by_cases hk : k < 6
      · rw [List.getElem?_range hk] at hv
        obtain ⟨⟨U, hU⟩, _⟩ := l.mine rfl ((rowF L).length + k) (by omega)
        simp only [Option.map_some, hU, Option.getD_some, Option.some.injEq] at hv
        subst hv
        exact ⟨hU, l.spare rfl ((rowF L).length + k) U (by simp) (by omega) hU⟩
      · rw [List.getElem?_eq_none (by simp; omega)] at hv; cases hv
    have sw := Step.widen hM hp hB rfl hJ (by simp only; omega)
    have hB2 : (H.set b ⟨rowF L ++ J, 6, true⟩)[b]? = some ⟨rowF L ++ J, 6, true⟩ := List.getElem?_set_self hbl
    have hq2 : OwnR (H.set b ⟨rowF L ++ J, 6, true⟩) q [r] := Own.other hq (Ne.symm hqb) _
    have h := (insRoom (H.set b ⟨rowF L ++ J, 6, true⟩) (r := r) hB2 hJl hq2 hqb hil hC1 hlen).2 ρ W _ sw.mem (hnew C (by omega) rfl)
    refine h.mono ?_
    rintro e W' ⟨V, ρ', rfl, hv, hs⟩
    rw [List.set_set] at hs
    have hB3 : (H.set b ⟨rowF (insL L i r), 6, true⟩)[b]? = some ⟨rowF (insL L i r), 6, true⟩ := List.getElem?_set_self hbl
    have hb' := still_lies hs hp hB3 rfl
    have hil2 : (rowF (insL L i r)).length = (L.length + 1) * 6 := by rw [rowF_len]; unfold insL; simp; omega
    have s3 := Step.retarget hs.mem (i := 0) (m := (L.length + 1) * 6) hb' hB3 rfl (by simp only; omega) (by simp only; rw [List.drop_of_length_le (by omega)]; rfl) (fun _ _ => plain_vr)
    have s4 := (sw.trans hs).trans s3
    simp only [List.set_set, List.length_set, List.drop_zero, List.take_of_length_le (Nat.le_of_eq hil2)] at s4
    obtain ⟨p', C', hp', rfl, hn', hcC, _, _⟩ := VR.slice_own hs.mem hv hB3 rfl (by omega)
    rw [hb'] at hp'; cases hp'
    have hcC : C' = C := by omega
    subst hcC
    refine ⟨_, _, rfl, ?_, s4⟩
    exact .slice H.length 0 (L.length + 1) 0 ⟨p.blk, p.off + 0, p.ext - 0, p.esz⟩ C' (Inj.put_same _ _ _) hn' (.inl rfl) (fun _ => by simp only; omega)
end Go.Proofs.YthhmkaikopdmjaaGreat
namespace Go.Proofs.YthhmkaikopdmjaaGreat
open Go Go.Fw
def insE (l : List RR) (r : RR) : Int := if chk2 l r ≠ 0 then chk2 l r else if hasR l r = true then 5 else if l.length = 64 then 4 else 0
def insO (l : List RR) (r : RR) : List RR := if insE l r = 0 then insL l (cntLess l r) r else []
theorem RL.nil (H : Heap) : RL H (.slice none 0 0) [] := .inl ⟨.inl rfl, rfl⟩
theorem InsertS (H : Heap) {v : Value} {l : List RR} {r : RR} {k : Nat} (hv : RL H v l) (hle : ∀ r ∈ l, r.le k) (hr : r.le k) (hk : k ≤ 19000) (hl : l.length ≤ 1000) :
    ∃ w H', Sim Tryz.prog 27 #[v, r.val] H w H' ∧ Ext H H' ∧ ∃ x, w = .tuple #[x, .int .i64 (insE l r)] ∧ RL H' x (insO l r) := by
  have o1 := fun G => check2S (H ++ G) (El.app hv G) hle hr hk (by omega)
  have e1 := hv.len (tt := tt) tt22
  by_cases h : chk2 l r = 0
  case neg =>
    have hE : insE l r = chk2 l r := by unfold insE; rw [if_pos h]
    have hO : insO l r = [] := by unfold insO; rw [hE, if_neg h]
    rw [hE, hO]
    generalize chk2 l r = c at *
    unfold RR.val rV at o1 ⊢
    refine sxA tok mixed Tryz.func27 ?_
    simp -implicitDefEqProofs only [go_sem, simprocAttr, UU]
    refine kv (o1 _) ?_
    simp -implicitDefEqProofs only [go_sem, simprocAttr, UU, h, wa_cond, axC_t, axC_f]
    simp -implicitDefEqProofs only [go_sem, simprocAttr, res27]
    exact ⟨.app _ _, _, rfl, RL.nil _⟩
  have hc1 : chkR l = 0 := by
    unfold chk2 at h
    by_cases hc : chkR l = 0
    · exact hc
    · rw [if_neg hc] at h; omega
  have hc2 : r.err = 0 := by unfold chk2 at h; rw [if_pos hc1] at h; exact h
  have ho := chk_ok hc1
  have o2 : ∀ G, Sim Tryz.prog 53 #[v, r.val, .func (.func 54) #[] #[]] (H ++ G) (.tuple #[.int .i64 (cntLess l r : Nat), .bool (hasR l r)]) (H ++ G) := fun G => binR (H ++ G) (El.app hv G) hle hr hk ho hc2
  have hcl := cntLess_le l r
  rw [h] at o1
  by_cases hh : hasR l r = true
  · have hE : insE l r = 5 := by unfold insE; rw [if_neg (by simpa using h), if_pos hh]
    have hO : insO l r = [] := by unfold insO; rw [hE, if_neg (by decide)]
    rw [hE, hO]
    rw [hh] at o2
    generalize cntLess l r = q at *
    unfold RR.val rV at o1 o2 ⊢
    refine sxA tok mixed Tryz.func27 ?_
    simp -implicitDefEqProofs only [go_sem, simprocAttr, UU]
    refine kv (o1 _) ?_
    simp -implicitDefEqProofs only [go_sem, simprocAttr, UU, wa_cond, axC_t, axC_f]
    refine kv (o2 _) ?_
    simp -implicitDefEqProofs only [go_sem, simprocAttr, UU, wa_cond, axC_t, axC_f]
    simp -implicitDefEqProofs only [go_sem, simprocAttr, res27]
    exact ⟨.app _ _, _, rfl, RL.nil _⟩
  have hh0 : hasR l r = false := by simpa using hh
  by_cases h64 : l.length = 64
  · have hE : insE l r = 4 := by unfold insE; rw [if_neg (by simpa using h), if_neg hh, if_pos h64]
    have hO : insO l r = [] := by unfold insO; rw [hE, if_neg (by decide)]
    rw [hE, hO]
    rw [hh0] at o2
    have c1 : (l.length : Int) = 64 := by omega
    generalize cntLess l r = q at *
    unfold RR.val rV at o1 o2 ⊢
    refine sxA tok mixed Tryz.func27 ?_
    simp -implicitDefEqProofs only [go_sem, simprocAttr, UU]
    refine kv (o1 _) ?_
    simp -implicitDefEqProofs only [go_sem, simprocAttr, UU, wa_cond, axC_t, axC_f]
    refine kv (o2 _) ?_
    simp -implicitDefEqProofs only [go_sem, simprocAttr, UU, wa_cond, axC_t, axC_f, e1, c1]
    simp -implicitDefEqProofs only [go_sem, simprocAttr, res27]
    exact ⟨.app _ _, _, rfl, RL.nil _⟩
  have hE : insE l r = 0 := by unfold insE; rw [if_neg (by simpa using h), if_neg hh, if_neg h64]
  have hO : insO l r = insL l (cntLess l r) r := by unfold insO; rw [hE, if_pos rfl]
  rw [hE, hO]
  rw [hh0] at o2
  have c1 : ¬ (l.length : Int) = 64 := by omega
  obtain ⟨b, i0, c, rfl, hA⟩ := hv.at ho.ne
  obtain ⟨vc, T1, ocl, hE1, b1, hb1, rfl, hown1⟩ := cloneR (H ++ [⟨r.cells, 1, true⟩]) (hA.app _) ho.ne (by omega)
  have hbl := Own.lt hown1
  have hq : OwnR (T1 ++ [⟨r.cells, 6, true⟩]) T1.length [r] := by
    have := OwnR.new T1 [r]
    simpa using this
  have oi := insS (T1 ++ [⟨r.cells, 6, true⟩]) (r := r) (Own.app hown1 _) hq (by omega) hcl hl
  have hrc : rd T1 H.length 0 6 = some r.cells := by
    obtain ⟨G, rfl⟩ := hE1
    refine rd_more ?_ G
    unfold rd
    rw [List.getElem?_append_right (Nat.le_refl _)]
    simp [RR.cells]
  have hfin : ∀ X, Ext H ((T1 ++ [(⟨r.cells, 6, true⟩ : Blk)]).set b1 deadBlk ++ [⟨X, 6, true⟩]) := fun X =>
    ((((Ext.app H _).trans hE1).trans (.app _ _)).set (by simp at hb1; omega) _).trans (.app _ _)
  have hrl : RL ((T1 ++ [(⟨r.cells, 6, true⟩ : Blk)]).set b1 deadBlk ++ [⟨rowF (insL l (cntLess l r) r), 6, true⟩]) (.slice (some ⟨T1.length + 1, 0, none⟩) (l.length + 1) 0) (insL l (cntLess l r) r) := by
    have := (OwnR.new ((T1 ++ [(⟨r.cells, 6, true⟩ : Blk)]).set b1 deadBlk) (insL l (cntLess l r) r)).rl
    have e : (insL l (cntLess l r) r).length = l.length + 1 := by unfold insL; simp; omega
    rw [e] at this
    simp only [List.length_set, List.length_append, List.length_cons, List.length_nil, Nat.zero_add] at this
    exact this
  simp only [List.length_append, List.length_cons, List.length_nil, Nat.zero_add] at oi
  have row := row1 T1 r
  generalize rowF (insL l (cntLess l r) r) = X at *
  generalize cntLess l r = q at *
  unfold RR.cells at ocl hrc hfin hrl oi row
  unfold RR.val rV at o1 o2 row ⊢
  refine sxA tok mixed Tryz.func27 ?_
  simp -implicitDefEqProofs only [go_sem, simprocAttr, UU]
  refine kv (o1 _) ?_
  simp -implicitDefEqProofs only [go_sem, simprocAttr, UU, wa_cond, axC_t, axC_f]
  refine kv (o2 _) ?_
  simp -implicitDefEqProofs only [go_sem, simprocAttr, UU, wa_cond, axC_t, axC_f, e1, c1]
  refine ax_mix 32 (by kernel_rfl) ?_
  simp -implicitDefEqProofs only [go_sem, simprocAttr, UU]
  refine kf ocl (fun _ => hE1) ?_
  simp -implicitDefEqProofs only [go_sem, simprocAttr, hrc, row]
  refine kf oi (by intro h; cases h) ?_
  simp -implicitDefEqProofs only [go_sem, simprocAttr, res27]
  exact ⟨hfin X, _, rfl, hrl⟩
end Go.Proofs.YthhmkaikopdmjaaGreat
namespace Go.Proofs.YthhmkaikopdmjaaGreat
open Go Go.Fw
theorem insL_perm (l : List RR) (i : Nat) (r : RR) : (insL l i r).Perm (r :: l) := by
  unfold insL
  have := @List.perm_middle _ r (l.take i) (l.drop i)
  rw [List.take_append_drop] at this
  exact this
theorem insL_len (l : List RR) (i : Nat) (r : RR) : (insL l i r).length = l.length + 1 := (insL_perm l i r).length_eq
theorem ord_chk2 {l : List RR} {r : RR} (ho : Ord l) (hr : r.err = 0) : chk2 l r = 0 := by unfold chk2; rw [if_pos (ok_chk ho)]; exact hr
theorem insO_len (l : List RR) (r : RR) : (insO l r).length ≤ l.length + 1 := by
  unfold insO; split
  · rw [insL_len]; exact Nat.le_refl _
  · simp
end Go.Proofs.YthhmkaikopdmjaaGreat
namespace Go.Proofs.YthhmkaikopdmjaaGreat
open Go Go.Fw
theorem cntLess_stop : ∀ (l : List RR) (r : RR) (h : cntLess l r < l.length), ¬ cmpS l[cntLess l r] r < 0 := by
  intro l r
  induction l with
  | nil => intro h; simp at h
  | cons x l ih =>
    intro h
    by_cases hc : cmpS x r < 0
    · have e : cntLess (x :: l) r = cntLess l r + 1 := by rw [cntLess, if_pos hc]
      have h' : cntLess l r < l.length := by rw [e] at h; simpa using h
      simp only [e, List.getElem_cons_succ]
      exact ih h'
    · have e : cntLess (x :: l) r = 0 := by rw [cntLess, if_neg hc]
      simp only [e, List.getElem_cons_zero]
      exact hc
theorem insert45 (H : Heap) {v : Value} {l : List RR} {r : RR} {k : Nat} (hv : RL H v l) (hle : ∀ r ∈ l, r.le k) (hr : r.le k) (hk : k ≤ 19000) (h0 : l ≠ []) (hl : l.length ≤ 1000) :
    ∃ w H', Sim Tryz.prog 69 #[v, r.val] H w H' ∧ Ext H H' ∧ ∃ b, H.length ≤ b ∧ w = .slice (some ⟨b, 0, none⟩) (l.length + 1) 0 ∧ OwnR H' b (insL l (cntLess l r) r) := by
  have e1 := hv.len (tt := tt) tt22
  have hql := cntLess_le l r
  obtain ⟨b, i0, c, rfl, hA⟩ := hv.at h0
  obtain ⟨H1, hH1⟩ : ∃ H1, H1 = H ++ [(⟨r.cells, 1, true⟩ : Blk)] := ⟨_, rfl⟩
  have hE1 : Ext H H1 := by rw [hH1]; exact .app _ _
  have ra : ∀ {T}, Ext H1 T → rd T H.length 0 6 = some r.cells := fun h => rd_six' (h.get (by rw [hH1]; simp))
  have hA1 := hA.ext hE1
  have hn := own_nil H1
  have hb1 : H1.length = H.length + 1 := by rw [hH1]; simp
  rw [hb1] at hn
  have hinsl : insL l (cntLess l r) r = (l.take (cntLess l r) ++ [r]) ++ l.drop (cntLess l r) := by unfold insL; simp
  rw [hinsl]
  unfold RR.cells at hH1 ra
  refine sxA tok mixed Tryz.func69 ?_
  unfold RR.val rV
  simp -implicitDefEqProofs only [go_sem, simprocAttr, build22_0]
  have hH1' : H1 ++ [(⟨[], 6, true⟩ : Blk)] = H ++ [(⟨[.bool r.g, .string (bs r.n), .string (bs r.d), .bool r.g', .string (bs r.n'), .string (bs r.d')], 1, true⟩ : Blk), ⟨[], 6, true⟩] := by rw [hH1]; simp
  rw [← hH1']
  refine ax_midl (fun s T => ∃ b', s 0 = .slice (some ⟨b, i0, none⟩) l.length c ∧ s 3 = .pointer (some ⟨H.length, 0, none⟩) ∧ s 5 = .slice (some ⟨b', 0, none⟩) (cntLess l r) 0 ∧ s 6 = .int .i64 (cntLess l r : Nat) ∧ H.length < b' ∧ OwnR T b' (l.take (cntLess l r)) ∧ Ext H1 T) ?_ ?_
  · refine ax_loopx (fun (i : Nat) s T => ∃ b', s 0 = .slice (some ⟨b, i0, none⟩) l.length c ∧ s 3 = .pointer (some ⟨H.length, 0, none⟩) ∧ s 5 = .slice (some ⟨b', 0, none⟩) i 0 ∧ s 6 = .int .i64 (i : Nat) ∧ H.length < b' ∧ OwnR T b' (l.take i) ∧ Ext H1 T ∧ i ≤ cntLess l r) (fun i => l.length - i) 0 ?_ ?_
    · simp -implicitDefEqProofs only [go_sem, simprocAttr]
      exact ⟨H.length + 1, rfl, by omega, hn, .app _ _⟩
    rintro i s T ⟨b', s0, s3, s5, s6, hb', hown, hE, hi⟩
    have rr := ra hE
    simp -implicitDefEqProofs only [go_sem, simprocAttr]
    refine ax_quiet (by kernel_rfl) ?_
    by_cases hil : i < l.length
    · have d0 : (i : Int) < (l.length : Int) := by omega
      have hnn : (0 : Int) ≤ (i : Int) := by omega
      have r1 := (hA1.ext hE).rdR hil
      have hls := less4 T (hle _ (List.getElem_mem hil)) hr hk
      have hbel := fun h => cntLess_below l r i h hil
      have hge : cmpS l[i] r < 0 → i < cntLess l r := fun h => by
        rcases Nat.lt_or_ge i (cntLess l r) with h2 | h2
        · exact h2
        · have h3 : i = cntLess l r := by omega
          subst h3
          exact absurd h (cntLess_stop l r hil)
      have htk : l.take (i + 1) = l.take i ++ [l[i]] := by rw [List.take_add_one, List.getElem?_eq_getElem hil]; rfl
      have w1 : IntKind.i64.wrap ((i : Int) + 1) = ((i + 1 : Nat) : Int) := by rw [w64 (by omega) (by omega)]; rfl
      obtain ⟨T', happ, ho', hT'⟩ := append_R l[i] hown (by rw [List.length_take]; omega)
      rw [List.length_take, Nat.min_eq_left (by omega)] at happ
      rw [← htk] at ho'
      have hE' : Ext H1 T' := by rw [hT']; exact ((hE.trans (.app _ _)).set (by omega) _).trans (.app _ _)
      have hTl := hE.len
      clear hT' htk
      generalize l[i] = x at *
      unfold RR.val rV at hls
      unfold RR.cells at r1 happ
      simp -implicitDefEqProofs only [go_sem, simprocAttr, s0, s3, s6, e1, d0, aIndexAddr, hnn, r1, rr]
      refine kv hls ?_
      by_cases hc : cmpS x r < 0
      · rw [decide_eq_true hc]
        simp -implicitDefEqProofs only [go_sem, simprocAttr, wa_cond, axC_t, axC_f, s0, s5, s6, e1, d0, aIndexAddr, hnn, r1, build22_1, happ, w1]
        exact ⟨i + 1, ⟨_, s3, rfl, rfl, by omega, ho', hE', hge hc⟩, by omega⟩
      · rw [decide_eq_false hc]
        have hii : i = cntLess l r := by
          refine Nat.le_antisymm hi (Nat.le_of_not_lt fun h => hc (hbel h))
        subst hii
        simp -implicitDefEqProofs only [go_sem, simprocAttr, wa_cond, axC_t, axC_f, s0, s3, s5, s6]
        exact ⟨b', rfl, hb', hown, hE⟩
    · have d0 : ¬ (i : Int) < (l.length : Int) := by omega
      have hii : i = cntLess l r := by omega
      subst hii
      simp -implicitDefEqProofs only [go_sem, simprocAttr, wa_cond, axC_t, axC_f, s0, s3, s5, s6, e1, d0]
      exact ⟨b', rfl, hb', hown, hE⟩
  rintro s T ⟨b', s0, s3, s5, s6, hb', hown, hE⟩
  have rr := ra hE
  obtain ⟨T1, happ, ho1, hT1⟩ := append_R r hown (by rw [List.length_take]; omega)
  rw [List.length_take, Nat.min_eq_left hql] at happ
  have hE2 : Ext H1 T1 := by rw [hT1]; exact ((hE.trans (.app _ _)).set (by omega) _).trans (.app _ _)
  clear hT1
  have hTl := hE.len
  have hAd := (hA1.ext hE2).dropR (cntLess l r) hql
  have s1 : aSlice tt T1 22 (.slice (some ⟨b, i0, none⟩) l.length c) (some (.int .i64 (cntLess l r : Nat))) none none = some (.slice (some ⟨b, i0 + cntLess l r * 6, none⟩) (l.length - cntLess l r) (c - cntLess l r)) :=
    aSlice_at tt22 rfl (let ⟨B, h1, h2, _⟩ := (hA1.ext hE2).blk; ⟨B, h1, h2⟩) (by decide) (by have := hA.cap; simpa using this) (by simp [bnd]) (by simp [bnd]) hql (Nat.le_refl _)
  have hres : ∃ T2 b2, aAppend tt T1 [22, 22] (.slice (some ⟨T.length + 1, 0, none⟩) (cntLess l r + 1) 0) (.slice (some ⟨b, i0 + cntLess l r * 6, none⟩) (l.length - cntLess l r) (c - cntLess l r)) = some (.slice (some ⟨b2, 0, none⟩) (l.length + 1) 0, T2) ∧ H.length ≤ b2 ∧ Ext H1 T2 ∧ OwnR T2 b2 ((l.take (cntLess l r) ++ [r]) ++ l.drop (cntLess l r)) := by
    have htl : (l.take (cntLess l r) ++ [r]).length = cntLess l r + 1 := by rw [List.length_append, List.length_take, Nat.min_eq_left hql]; rfl
    by_cases hd : l.drop (cntLess l r) = []
    · have hz : l.length - cntLess l r = 0 := by have := congrArg List.length hd; simpa using this
      refine ⟨T1, T.length + 1, ?_, by omega, hE2, by rw [hd, List.append_nil]; exact ho1⟩
      obtain ⟨B, h1, h2, h3, _⟩ := (hA1.ext hE2).blk
      rw [hz, app_no2 tt22 tt26 (by decide) (by decide) (by decide) (by rw [rd_at h1 (by omega) (by simp only [List.length_map] at h3; omega)]; simp), show cntLess l r + 1 = l.length + 1 by omega]
    · obtain ⟨T2, h1, h2, h3⟩ := append_RR ho1 hAd hd (by rw [htl, List.length_drop]; omega)
      rw [htl, List.length_drop, show cntLess l r + 1 + (l.length - cntLess l r) = l.length + 1 by omega] at h1
      exact ⟨T2, T1.length, h1, by have := hE2.len; omega, by rw [h3]; exact (hE2.set (by omega) _).trans (.app _ _), h2⟩
  obtain ⟨T2, b2, happ2, hb2, hE3, ho2⟩ := hres
  unfold RR.cells at happ rr
  generalize cntLess l r = q at *
  simp -implicitDefEqProofs only [go_sem, simprocAttr, s0, s3, s5, s6, rr, build22_1, happ, s1, happ2, res69]
  exact ⟨hE1.trans hE3, b2, hb2, rfl, by simpa using ho2⟩
end Go.Proofs.YthhmkaikopdmjaaGreat
namespace Go.Proofs.YthhmkaikopdmjaaGreat
open Go Go.Fw
theorem RL.nil0 (H : Heap) (b : Nat) : RL H (.slice (some ⟨b, 0, none⟩) 0 0) [] := .inl ⟨.inr ⟨b, 0, 0, rfl⟩, rfl⟩
theorem Insert45 (H : Heap) {v : Value} {l : List RR} {r : RR} {k : Nat} (hv : RL H v l) (hle : ∀ r ∈ l, r.le k) (hr : r.le k) (hk : k ≤ 19000) (hl : l.length ≤ 1000) :
    ∃ w H', Sim Tryz.prog 28 #[v, r.val] H w H' ∧ Ext H H' ∧ ∃ x, w = .tuple #[x, .int .i64 (insE l r)] ∧ RL H' x (insO l r) := by
  have o1 := fun G => Check45 (H ++ G) (El.app hv G) hle hk (by omega)
  have o2 := fun H => check4 H hr (by omega)
  have e1 := hv.len (tt := tt) tt22
  by_cases h1 : chkR l = 0
  case neg =>
    have hE : insE l r = 1 := by unfold insE chk2; rw [if_neg h1]; rfl
    have hO : insO l r = [] := by unfold insO; rw [hE, if_neg (by decide)]
    rw [hE, hO]
    generalize chkR l = c at *
    unfold RR.val rV
    refine sxA tok mixed Tryz.func28 ?_
    simp -implicitDefEqProofs only [go_sem, simprocAttr, UU]
    refine kv (o1 _) ?_
    simp -implicitDefEqProofs only [go_sem, simprocAttr, UU, h1, wa_cond, axC_t, axC_f]
    simp -implicitDefEqProofs only [go_sem, simprocAttr, build22_0, res28]
    exact ⟨.app _ _, _, rfl, RL.nil0 _ _⟩
  rw [h1] at o1
  have ho := chk_ok h1
  by_cases h2 : r.err = 0
  case neg =>
    have hE : insE l r = r.err := by unfold insE chk2; rw [if_pos h1, if_pos h2]
    have hO : insO l r = [] := by unfold insO; rw [hE, if_neg h2]
    rw [hE, hO]
    generalize r.err = c at *
    unfold RR.val rV at o2 ⊢
    refine sxA tok mixed Tryz.func28 ?_
    simp -implicitDefEqProofs only [go_sem, simprocAttr, UU]
    refine kv (o1 _) ?_
    simp -implicitDefEqProofs only [go_sem, simprocAttr, UU, wa_cond, axC_t, axC_f]
    refine kv (o2 _) ?_
    simp -implicitDefEqProofs only [go_sem, simprocAttr, UU, h2, wa_cond, axC_t, axC_f, build22_0]
    simp -implicitDefEqProofs only [go_sem, simprocAttr, res28]
    exact ⟨.app _ _, _, rfl, RL.nil0 _ _⟩
  rw [h2] at o2
  have o3 := fun G => find45 (H ++ G) (El.app hv G) hle hr hk ho h2
  have h0 := ord_chk2 ho h2
  by_cases h3 : hasR l r = true
  · have hE : insE l r = 5 := by unfold insE; rw [h0, if_neg (by decide), if_pos h3]
    have hO : insO l r = [] := by unfold insO; rw [hE, if_neg (by decide)]
    rw [hE, hO]
    rw [h3] at o3
    generalize findI l r = c at *
    unfold RR.val rV at o2 o3 ⊢
    refine sxA tok mixed Tryz.func28 ?_
    simp -implicitDefEqProofs only [go_sem, simprocAttr, UU]
    refine kv (o1 _) ?_
    simp -implicitDefEqProofs only [go_sem, simprocAttr, UU, wa_cond, axC_t, axC_f]
    refine kv (o2 _) ?_
    simp -implicitDefEqProofs only [go_sem, simprocAttr, UU, wa_cond, axC_t, axC_f]
    refine kv (o3 _) ?_
    simp -implicitDefEqProofs only [go_sem, simprocAttr, UU, wa_cond, axC_t, axC_f, build22_0]
    simp -implicitDefEqProofs only [go_sem, simprocAttr, res28]
    exact ⟨.app _ _, _, rfl, RL.nil0 _ _⟩
  have h30 : hasR l r = false := by simpa using h3
  rw [h30] at o3
  by_cases h4 : l.length = 64
  · have hE : insE l r = 4 := by unfold insE; rw [h0, if_neg (by decide), if_neg h3, if_pos h4]
    have hO : insO l r = [] := by unfold insO; rw [hE, if_neg (by decide)]
    have d4 : (l.length : Int) = 64 := by omega
    rw [hE, hO]
    generalize findI l r = c at *
    unfold RR.val rV at o2 o3 ⊢
    refine sxA tok mixed Tryz.func28 ?_
    simp -implicitDefEqProofs only [go_sem, simprocAttr, UU]
    refine kv (o1 _) ?_
    simp -implicitDefEqProofs only [go_sem, simprocAttr, UU, wa_cond, axC_t, axC_f]
    refine kv (o2 _) ?_
    simp -implicitDefEqProofs only [go_sem, simprocAttr, UU, wa_cond, axC_t, axC_f]
    refine kv (o3 _) ?_
    simp -implicitDefEqProofs only [go_sem, simprocAttr, UU, wa_cond, axC_t, axC_f, e1, d4, build22_0]
    simp -implicitDefEqProofs only [go_sem, simprocAttr, res28]
    exact ⟨.app _ _, _, rfl, RL.nil0 _ _⟩
  have hE : insE l r = 0 := by unfold insE; rw [h0, if_neg (by decide), if_neg h3, if_neg h4]
  have hO : insO l r = insL l (cntLess l r) r := by unfold insO; rw [hE, if_pos rfl]
  have d4 : ¬ (l.length : Int) = 64 := by omega
  have hil := insL_len l (cntLess l r) r
  have o4 := fun G => insert45 (H ++ G) (El.app hv G) hle hr hk ho.ne hl
  rw [hE, hO]
  generalize findI l r = c at *
  generalize insL l (cntLess l r) r = X at *
  unfold RR.val rV at o2 o3 o4 ⊢
  refine sxA tok mixed Tryz.func28 ?_
  simp -implicitDefEqProofs only [go_sem, simprocAttr, UU]
  refine kv (o1 _) ?_
  simp -implicitDefEqProofs only [go_sem, simprocAttr, UU, wa_cond, axC_t, axC_f]
  refine kv (o2 _) ?_
  simp -implicitDefEqProofs only [go_sem, simprocAttr, UU, wa_cond, axC_t, axC_f]
  refine kv (o3 _) ?_
  simp -implicitDefEqProofs only [go_sem, simprocAttr, UU, wa_cond, axC_t, axC_f, e1, d4]
  refine kt (o4 _) ?_
  rintro _ T hE ⟨b, hb, rfl, hown⟩
  have hrl := hown.rl
  rw [hil] at hrl
  simp -implicitDefEqProofs only [go_sem, simprocAttr, res28]
  exact ⟨(Ext.app _ _).trans hE, _, rfl, hrl⟩
def refE (l : List RR) : Int := if chkR l ≠ 0 then 1 else if l.length = 1 then 0 else if 64 < 2 * l.length then 4 else 0
def refM (l : List RR) : List RR := if l.length = 1 then l else l ++ midsTo l l.length
def RefO (l L : List RR) : Prop := if refE l = 0 then L.Perm (refM l) ∧ L.Pairwise RR.leq else L = []
theorem refM_err {l : List RR} (hle : ∀ r ∈ l, r.le 64) (hok : ∀ r ∈ l, r.err = 0) : ∀ r ∈ refM l, r.err = 0 := by
  unfold refM
  split
  · exact hok
  · intro r hr
    rcases List.mem_append.1 hr with h | h
    · exact hok r h
    · exact (mids_le hle hok (by decide) (Nat.le_refl _) r h).2
theorem refO_one {l L M : List RR} (hle : ∀ r ∈ l, r.le 64) (h1 : RefO l L) (h2 : RefO l M) : L = M := by
  unfold RefO at h1 h2
  by_cases hc : refE l = 0
  · rw [if_pos hc] at h1 h2
    have ho : Ord l := chk_ok (by unfold refE at hc; by_cases h : chkR l = 0; exact h; rw [if_pos h] at hc; omega)
    have hok := refM_err hle ho.ok
    exact (h1.1.trans h2.1.symm).eq_of_pairwise (fun a b ha hb => RR.tot.anti a b (hok a (h1.1.mem_iff.1 ha)) (hok b (h2.1.mem_iff.1 hb))) h1.2 h2.2
  · rw [if_neg hc] at h1 h2
    rw [h1, h2]
theorem RefineX (H : Heap) {v : Value} {l : List RR} (hv : RL H v l) (hle : ∀ r ∈ l, r.le 64) (hl : l.length ≤ 1000) :
    ∃ w H', Sim Tryz.prog 26 #[v] H w H' ∧ Ext H H' ∧ ∃ x L, w = .tuple #[x, .int .i64 (refE l)] ∧ RL H' x L ∧ RefO l L := by
  have o1 := fun G => CheckS (H ++ G) (El.app hv G) hle (by decide) (by omega)
  have e1 := hv.len (tt := tt) tt22
  by_cases h1 : chkR l = 0
  case neg =>
    have hE : refE l = 1 := by unfold refE; rw [if_pos h1]
    have hO : RefO l [] := by unfold RefO; rw [hE]; rfl
    rw [hE]
    generalize chkR l = c at *
    have o1 := o1 []
    rw [List.append_nil] at o1
    refine stA tok mixed Tryz.func26 ?_
    simp -implicitDefEqProofs only [go_sem, simprocAttr, wt_seq, wt_block, wt_region, wt_loop, wt_skip, wt_exit, wt_ret, wt_cond, axCT_t, axCT_f]
    refine kv o1 ?_
    simp -implicitDefEqProofs only [go_sem, simprocAttr, wt_seq, wt_block, wt_region, wt_loop, wt_skip, wt_exit, wt_ret, wt_cond, axCT_t, axCT_f, h1, res26]
    exact ⟨.refl _, _, [], rfl, RL.nil _, hO⟩
  have ho := chk_ok h1
  by_cases h2 : l.length = 1
  · have hE : refE l = 0 := by unfold refE; rw [if_neg (by simpa using h1), if_pos h2]
    obtain ⟨x, rfl⟩ := List.length_eq_one_iff.1 h2
    have hO : RefO [x] [x] := by unfold RefO; rw [hE, if_pos rfl]; exact ⟨by unfold refM; rw [if_pos h2], by simp⟩
    rw [hE]
    obtain ⟨w, H', g1, g2, b, hb, rfl, hown⟩ := Refine1 H hv (hle x (by simp)) (by decide) (ho.ok x (by simp))
    exact ⟨_, _, g1, g2, _, _, rfl, hown.rl, hO⟩
  by_cases h3 : 64 < 2 * l.length
  · have hE : refE l = 4 := by unfold refE; rw [if_neg (by simpa using h1), if_neg h2, if_pos h3]
    have hO : RefO l [] := by unfold RefO; rw [hE]; rfl
    have hl0 := List.length_pos_iff.2 ho.ne
    have d1 : (1 : Int) < (l.length : Int) := by omega
    have w1 : IntKind.i64.wrap (2 * (l.length : Int)) = ((2 * l.length : Nat) : Int) := by rw [w64 (by omega) (by omega)]; omega
    have d2 : (64 : Int) < ((2 * l.length : Nat) : Int) := by omega
    rw [hE]
    rw [h1] at o1
    have o1 := o1 []
    rw [List.append_nil] at o1
    refine stA tok mixed Tryz.func26 ?_
    simp -implicitDefEqProofs only [go_sem, simprocAttr, wt_seq, wt_block, wt_region, wt_loop, wt_skip, wt_exit, wt_ret, wt_cond, axCT_t, axCT_f]
    refine kv o1 ?_
    simp -implicitDefEqProofs only [go_sem, simprocAttr, wt_seq, wt_block, wt_region, wt_loop, wt_skip, wt_exit, wt_ret, wt_cond, axCT_t, axCT_f, e1, d1, w1, d2, res26]
    exact ⟨.refl _, _, [], rfl, RL.nil _, hO⟩
  have hl0 := List.length_pos_iff.2 ho.ne
  have hE : refE l = 0 := by unfold refE; rw [if_neg (by simpa using h1), if_neg h2, if_neg h3]
  rw [hE]
  obtain ⟨w, H', g1, g2, b, L, hb, rfl, hown, hp, hs⟩ := RefineL H hv hle (by decide) ho (by omega) (by omega)
  have hL : L.length = 2 * l.length := by rw [hp.length_eq, List.length_append, midsTo_len]; omega
  have hrl := hown.rl
  rw [hL] at hrl
  exact ⟨_, _, g1, g2, _, L, rfl, hrl, by unfold RefO; rw [hE, if_pos rfl]; unfold refM; rw [if_neg h2]; exact ⟨hp, hs⟩⟩
end Go.Proofs.YthhmkaikopdmjaaGreat
