/- bigint: strip, trim; bigint: load, store; bigint: store, compare; bigint: compare; bigint: plus; bigint: minus. Conditions: none. -/
import Derived.Test.YthhmkaikopdmjaaGreatMa
import Derived.Test.YthhmkaikopdmjaaGreatFb
set_option linter.unusedSimpArgs false
set_option linter.unusedVariables false
namespace Go.Proofs.YthhmkaikopdmjaaGreat
open Go Go.Fw



theorem strip_sim (m : List UInt8) (H : Heap) : Sim Tryz.prog 249 #[.string (bs m)] H (.string (bs (dropZ m))) H := by
  refine sim_of_ax tok mixed Tryz.func249 rfl (by kernel_rfl) (by kernel_rfl) (by simp only [Tryz.ntmps249, List.size_toArray, List.length_cons, List.length_nil]; omega) ?_
  simp -implicitDefEqProofs only [go_sem, Nat.reduceAdd, Nat.reduceSub, Nat.reduceMul, Nat.reduceLT, Nat.reduceLeDiff, Nat.reduceEqDiff, Nat.reduceBEq, Nat.reduceGT, Nat.reduceMod, Nat.reduceDiv, ↓reduceIte, reduceCtorEq, Int.reduceLE, Int.reduceLT, Int.reduceToNat, Int.reduceEq, Int.reduceNeg, Int.reduceAdd, Int.reduceSub, Int.reduceMul]
  refine ax_loopx (fun (l : List UInt8) s H' => s 0 = .string (bs l) ∧ dropZ l = dropZ m ∧ H' = H) List.length m ⟨by simp -implicitDefEqProofs only [go_sem, Nat.reduceAdd, Nat.reduceSub, Nat.reduceMul, Nat.reduceLT, Nat.reduceLeDiff, Nat.reduceEqDiff, Nat.reduceBEq, Nat.reduceGT, Nat.reduceMod, Nat.reduceDiv, ↓reduceIte, reduceCtorEq, Int.reduceLE, Int.reduceLT, Int.reduceToNat, Int.reduceEq, Int.reduceNeg, Int.reduceAdd, Int.reduceSub, Int.reduceMul], rfl, rfl⟩ ?_
  rintro l s H' ⟨h0, hl, rfl⟩
  cases l with
  | nil =>
    simp -implicitDefEqProofs only [go_sem, Nat.reduceAdd, Nat.reduceSub, Nat.reduceMul, Nat.reduceLT, Nat.reduceLeDiff, Nat.reduceEqDiff, Nat.reduceBEq, Nat.reduceGT, Nat.reduceMod, Nat.reduceDiv, ↓reduceIte, reduceCtorEq, Int.reduceLE, Int.reduceLT, Int.reduceToNat, Int.reduceEq, Int.reduceNeg, Int.reduceAdd, Int.reduceSub, Int.reduceMul, h0]
    refine ax_cond2 ?_
    simp only [ev_tmp, ev_const, ev_func, upd_at, put_some, put_none, bndB_bool, Nat.reduceEqDiff, if_true, if_false, ↓reduceIte, reduceCtorEq]
    refine ⟨fun hc => ?_, fun hc => ?_⟩
    · cases hc
    simp -implicitDefEqProofs only [go_sem, Nat.reduceAdd, Nat.reduceSub, Nat.reduceMul, Nat.reduceLT, Nat.reduceLeDiff, Nat.reduceEqDiff, Nat.reduceBEq, Nat.reduceGT, Nat.reduceMod, Nat.reduceDiv, ↓reduceIte, reduceCtorEq, Int.reduceLE, Int.reduceLT, Int.reduceToNat, Int.reduceEq, Int.reduceNeg, Int.reduceAdd, Int.reduceSub, Int.reduceMul, res249, h0, ← hl]
    rfl
  | cons b l =>
    have hne : ¬ bs (b :: l) = bs [] := by rw [bs_inj]; simp
    simp -implicitDefEqProofs only [go_sem, Nat.reduceAdd, Nat.reduceSub, Nat.reduceMul, Nat.reduceLT, Nat.reduceLeDiff, Nat.reduceEqDiff, Nat.reduceBEq, Nat.reduceGT, Nat.reduceMod, Nat.reduceDiv, ↓reduceIte, reduceCtorEq, Int.reduceLE, Int.reduceLT, Int.reduceToNat, Int.reduceEq, Int.reduceNeg, Int.reduceAdd, Int.reduceSub, Int.reduceMul, h0, hne]
    refine ax_cond2 ?_
    simp only [ev_tmp, ev_const, ev_func, upd_at, put_some, put_none, bndB_bool, Nat.reduceEqDiff, if_true, if_false, ↓reduceIte, reduceCtorEq]
    refine ⟨fun hc => ?_, fun hc => ?_⟩
    · have hb : b = 0 := u8_zero.1 (by simpa using hc)
      have e : dropZ l = dropZ m := by
        rw [← hl]; simp only [dropZ, hb, if_true]
      simp -implicitDefEqProofs only [go_sem, Nat.reduceAdd, Nat.reduceSub, Nat.reduceMul, Nat.reduceLT, Nat.reduceLeDiff, Nat.reduceEqDiff, Nat.reduceBEq, Nat.reduceGT, Nat.reduceMod, Nat.reduceDiv, ↓reduceIte, reduceCtorEq, Int.reduceLE, Int.reduceLT, Int.reduceToNat, Int.reduceEq, Int.reduceNeg, Int.reduceAdd, Int.reduceSub, Int.reduceMul, h0, aSlice, bnd]
      exact ⟨l, ⟨by simp, e⟩, by simp⟩
    · have hb : ¬ b = 0 := fun h => by rw [decide_eq_false_iff_not, u8_zero] at hc; exact hc h
      simp -implicitDefEqProofs only [go_sem, Nat.reduceAdd, Nat.reduceSub, Nat.reduceMul, Nat.reduceLT, Nat.reduceLeDiff, Nat.reduceEqDiff, Nat.reduceBEq, Nat.reduceGT, Nat.reduceMod, Nat.reduceDiv, ↓reduceIte, reduceCtorEq, Int.reduceLE, Int.reduceLT, Int.reduceToNat, Int.reduceEq, Int.reduceNeg, Int.reduceAdd, Int.reduceSub, Int.reduceMul, res249, h0, ← hl]
      simp only [dropZ, hb, if_false]

theorem trim_nil (H : Heap) : Sim Tryz.prog 218 #[.slice none 0 0] H (.slice none 0 0) H := by
  refine sim_of_ax tok mixed Tryz.func218 rfl (by kernel_rfl) (by kernel_rfl) (by simp only [Tryz.ntmps218, List.size_toArray, List.length_cons, List.length_nil]; omega) ?_
  simp -implicitDefEqProofs only [go_sem, Nat.reduceAdd, Nat.reduceSub, Nat.reduceMul, Nat.reduceLT, Nat.reduceLeDiff, Nat.reduceEqDiff, Nat.reduceBEq, Nat.reduceGT, Nat.reduceMod, Nat.reduceDiv, ↓reduceIte, reduceCtorEq, Int.reduceLE, Int.reduceLT, Int.reduceToNat, Int.reduceEq, Int.reduceNeg, Int.reduceAdd, Int.reduceSub, Int.reduceMul]
  refine ax_loopx (fun (_ : Unit) s H' => s 0 = .slice none 0 0 ∧ H' = H) (fun _ => 0) () ⟨by simp -implicitDefEqProofs only [go_sem, Nat.reduceAdd, Nat.reduceSub, Nat.reduceMul, Nat.reduceLT, Nat.reduceLeDiff, Nat.reduceEqDiff, Nat.reduceBEq, Nat.reduceGT, Nat.reduceMod, Nat.reduceDiv, ↓reduceIte, reduceCtorEq, Int.reduceLE, Int.reduceLT, Int.reduceToNat, Int.reduceEq, Int.reduceNeg, Int.reduceAdd, Int.reduceSub, Int.reduceMul], rfl⟩ ?_
  rintro _ s H' ⟨h0, rfl⟩
  simp -implicitDefEqProofs only [go_sem, Nat.reduceAdd, Nat.reduceSub, Nat.reduceMul, Nat.reduceLT, Nat.reduceLeDiff, Nat.reduceEqDiff, Nat.reduceBEq, Nat.reduceGT, Nat.reduceMod, Nat.reduceDiv, ↓reduceIte, reduceCtorEq, Int.reduceLE, Int.reduceLT, Int.reduceToNat, Int.reduceEq, Int.reduceNeg, Int.reduceAdd, Int.reduceSub, Int.reduceMul, h0, aLen, Int.lt_irrefl]
  refine ax_cond2 ?_
  simp only [ev_tmp, ev_const, ev_func, upd_at, put_some, put_none, bndB_bool, Nat.reduceEqDiff, if_true, if_false, ↓reduceIte, reduceCtorEq]
  refine ⟨fun hc => ?_, fun hc => ?_⟩
  · cases hc
  · simp -implicitDefEqProofs only [go_sem, Nat.reduceAdd, Nat.reduceSub, Nat.reduceMul, Nat.reduceLT, Nat.reduceLeDiff, Nat.reduceEqDiff, Nat.reduceBEq, Nat.reduceGT, Nat.reduceMod, Nat.reduceDiv, ↓reduceIte, reduceCtorEq, Int.reduceLE, Int.reduceLT, Int.reduceToNat, Int.reduceEq, Int.reduceNeg, Int.reduceAdd, Int.reduceSub, Int.reduceMul, res218, h0]

theorem trim_at {H : Heap} {b i c : Nat} {l : List Nat} (h : LimAt H b i c l) : Sim Tryz.prog 218 #[.slice (some ⟨b, i, none⟩) l.length c] H (.slice (some ⟨b, i, none⟩) (trimZ l).length c) H := by
  refine sim_of_ax tok mixed Tryz.func218 rfl (by kernel_rfl) (by kernel_rfl) (by simp only [Tryz.ntmps218, List.size_toArray, List.length_cons, List.length_nil]; omega) ?_
  simp -implicitDefEqProofs only [go_sem, Nat.reduceAdd, Nat.reduceSub, Nat.reduceMul, Nat.reduceLT, Nat.reduceLeDiff, Nat.reduceEqDiff, Nat.reduceBEq, Nat.reduceGT, Nat.reduceMod, Nat.reduceDiv, ↓reduceIte, reduceCtorEq, Int.reduceLE, Int.reduceLT, Int.reduceToNat, Int.reduceEq, Int.reduceNeg, Int.reduceAdd, Int.reduceSub, Int.reduceMul]
  refine ax_loopx (fun (k : Nat) s H' => s 0 = .slice (some ⟨b, i, none⟩) k c ∧ k ≤ l.length ∧ trimZ (l.take k) = trimZ l ∧ H' = H) id l.length ⟨by simp -implicitDefEqProofs only [go_sem, Nat.reduceAdd, Nat.reduceSub, Nat.reduceMul, Nat.reduceLT, Nat.reduceLeDiff, Nat.reduceEqDiff, Nat.reduceBEq, Nat.reduceGT, Nat.reduceMod, Nat.reduceDiv, ↓reduceIte, reduceCtorEq, Int.reduceLE, Int.reduceLT, Int.reduceToNat, Int.reduceEq, Int.reduceNeg, Int.reduceAdd, Int.reduceSub, Int.reduceMul], by simp, by simp, rfl⟩ ?_
  rintro k s H' ⟨h0, hk, ht, rfl⟩
  have hlen := h.len
  cases k with
  | zero =>
    simp -implicitDefEqProofs only [go_sem, Nat.reduceAdd, Nat.reduceSub, Nat.reduceMul, Nat.reduceLT, Nat.reduceLeDiff, Nat.reduceEqDiff, Nat.reduceBEq, Nat.reduceGT, Nat.reduceMod, Nat.reduceDiv, ↓reduceIte, reduceCtorEq, Int.reduceLE, Int.reduceLT, Int.reduceToNat, Int.reduceEq, Int.reduceNeg, Int.reduceAdd, Int.reduceSub, Int.reduceMul, h0, aLen, Int.lt_irrefl]
    refine ax_cond2 ?_
    simp only [ev_tmp, ev_const, ev_func, upd_at, put_some, put_none, bndB_bool, Nat.reduceEqDiff, if_true, if_false, ↓reduceIte, reduceCtorEq]
    refine ⟨fun hc => ?_, fun hc => ?_⟩
    · cases hc
    · rw [← ht]
      simp -implicitDefEqProofs only [go_sem, Nat.reduceAdd, Nat.reduceSub, Nat.reduceMul, Nat.reduceLT, Nat.reduceLeDiff, Nat.reduceEqDiff, Nat.reduceBEq, Nat.reduceGT, Nat.reduceMod, Nat.reduceDiv, ↓reduceIte, reduceCtorEq, Int.reduceLE, Int.reduceLT, Int.reduceToNat, Int.reduceEq, Int.reduceNeg, Int.reduceAdd, Int.reduceSub, Int.reduceMul, res218, h0]
      rfl
  | succ k =>
    have hp : (0 : Int) < ((k + 1 : Nat) : Int) := by omega
    have hr := h.rd (k := k) (by omega)
    have hw : IntKind.i64.wrap (((k + 1 : Nat) : Int) - 1) = (k : Int) := by rw [castS]; exact w64 (by omega) (by omega)
    have hlt : (k : Int) < ((k + 1 : Nat) : Int) := by omega
    have hnn : (0 : Int) ≤ (k : Int) := by omega
    simp -implicitDefEqProofs only [go_sem, Nat.reduceAdd, Nat.reduceSub, Nat.reduceMul, Nat.reduceLT, Nat.reduceLeDiff, Nat.reduceEqDiff, Nat.reduceBEq, Nat.reduceGT, Nat.reduceMod, Nat.reduceDiv, ↓reduceIte, reduceCtorEq, Int.reduceLE, Int.reduceLT, Int.reduceToNat, Int.reduceEq, Int.reduceNeg, Int.reduceAdd, Int.reduceSub, Int.reduceMul, h0, aLen, hp, hw, hr, hlt, hnn, aIndexAddr, Nat.mul_one]
    refine ax_cond2 ?_
    simp only [ev_tmp, ev_const, ev_func, upd_at, put_some, put_none, bndB_bool, Nat.reduceEqDiff, if_true, if_false, ↓reduceIte, reduceCtorEq]
    refine ⟨fun hc => ?_, fun hc => ?_⟩
    · have hx : l[k] = 0 := by simpa using hc
      have hsl := aSlice_at (tt := tt) (H := H') (t := 163) (b := b) (i := i) (n := k + 1) (c := c) (l := 0) (h := k) (lo := none) (hi := some (.int .i64 (k : Nat))) tt163 (s := 1) rfl
        (by obtain ⟨B, h1, h2, _⟩ := h.blk; exact ⟨B, h1, h2⟩) (by omega) (by have := h.cap; omega) rfl (by simp [bnd]) (by omega) (by omega)
      simp only [Nat.zero_mul, Nat.add_zero, Nat.sub_zero] at hsl
      simp -implicitDefEqProofs only [go_sem, Nat.reduceAdd, Nat.reduceSub, Nat.reduceMul, Nat.reduceLT, Nat.reduceLeDiff, Nat.reduceEqDiff, Nat.reduceBEq, Nat.reduceGT, Nat.reduceMod, Nat.reduceDiv, ↓reduceIte, reduceCtorEq, Int.reduceLE, Int.reduceLT, Int.reduceToNat, Int.reduceEq, Int.reduceNeg, Int.reduceAdd, Int.reduceSub, Int.reduceMul, h0, aLen, hw, hsl]
      refine ⟨k, ⟨rfl, by omega, ?_⟩, Nat.lt_succ_self k⟩
      rw [← ht, List.take_add_one, List.getElem?_eq_getElem (by omega), hx]
      simp only [Option.toList_some, trimZ_snoc, if_true]
    · have hx : ¬ l[k] = 0 := by simpa using hc
      simp -implicitDefEqProofs only [go_sem, Nat.reduceAdd, Nat.reduceSub, Nat.reduceMul, Nat.reduceLT, Nat.reduceLeDiff, Nat.reduceEqDiff, Nat.reduceBEq, Nat.reduceGT, Nat.reduceMod, Nat.reduceDiv, ↓reduceIte, reduceCtorEq, Int.reduceLE, Int.reduceLT, Int.reduceToNat, Int.reduceEq, Int.reduceNeg, Int.reduceAdd, Int.reduceSub, Int.reduceMul, res218, h0]
      rw [← ht, List.take_add_one, List.getElem?_eq_getElem (by omega)]
      simp only [Option.toList_some, trimZ_snoc, hx, if_false, List.length_append, List.length_take, List.length_cons, List.length_nil, Value.slice.injEq, true_and, and_true]
      omega

theorem trim_sim {H : Heap} {v : Value} {l : List Nat} (h : Lim H v l) : ∃ w, Sim Tryz.prog 218 #[v] H w H ∧ Lim H w (trimZ l) := by
  rcases h with ⟨rfl, rfl⟩ | ⟨b, i, c, rfl, h⟩
  · exact ⟨_, trim_nil H, .inl ⟨rfl, rfl⟩⟩
  · refine ⟨_, trim_at h, ?_⟩
    obtain ⟨k, hk⟩ := trimZ_take l
    rw [hk]; exact (h.take k).lim

end Go.Proofs.YthhmkaikopdmjaaGreat
set_option linter.unusedSimpArgs false
set_option linter.unusedVariables false
namespace Go.Proofs.YthhmkaikopdmjaaGreat
open Go Go.Fw

theorem zerosL_one (v : Value) (n : Nat) : zerosL [v] n = List.replicate n v := by
  unfold zerosL
  apply List.ext_getElem
  · simp
  · intro i h1 h2
    simp [Nat.mod_one]
theorem make_u32 (H : Heap) (k k' : IntKind) (l c : Nat) (hl : l ≤ c) (hc : c ≤ 200000000) : aMakeSlice tt H 163 (.int k (l : Nat)) (.int k' (c : Nat)) = some (.slice (some ⟨H.length, 0, none⟩) l c, H ++ [⟨u32s (List.replicate c 0), 1, true⟩]) := by
  unfold aMakeSlice
  simp only [tt163, tt161]
  rw [if_pos (by omega)]
  by_cases h0 : c = 0
  · subst h0
    simp [zerosL, u32s]
  · simp only [Int.toNat_natCast, Nat.mul_one, if_neg h0, cells_int]
    rw [zerosL_one, u32s_zeros]

set_option maxRecDepth 4000
theorem load_sim (m : List UInt8) (H : Heap) (hm : m.length ≤ 1000000) : ∃ v H', Sim Tryz.prog 196 #[.string (bs m)] H v H' ∧ Ext H H' ∧ LN H' v (valB m) := by
  have hd : (dropZ m).length ≤ 1000000 := Nat.le_trans (dropZ_len m) hm
  have hdd := dropZ_idem m
  rw [← valB_drop m]
  refine sim_ex tok mixed Tryz.func196 rfl (by kernel_rfl) (by kernel_rfl) (by simp only [Tryz.ntmps196, List.size_toArray, List.length_cons, List.length_nil]; omega) ?_
  simp -implicitDefEqProofs only [go_sem, Nat.reduceAdd, Nat.reduceSub, Nat.reduceMul, Nat.reduceLT, Nat.reduceLeDiff, Nat.reduceEqDiff, Nat.reduceBEq, Nat.reduceGT, Nat.reduceMod, Nat.reduceDiv, ↓reduceIte, reduceCtorEq, Int.reduceLE, Int.reduceLT, Int.reduceToNat, Int.reduceEq, Int.reduceNeg, Int.reduceAdd, Int.reduceSub, Int.reduceMul]
  refine wl_callF #[.string (bs m)] (by simp -implicitDefEqProofs only [go_sem, Nat.reduceAdd, Nat.reduceSub, Nat.reduceMul, Nat.reduceLT, Nat.reduceLeDiff, Nat.reduceEqDiff, Nat.reduceBEq, Nat.reduceGT, Nat.reduceMod, Nat.reduceDiv, ↓reduceIte, reduceCtorEq, Int.reduceLE, Int.reduceLT, Int.reduceToNat, Int.reduceEq, Int.reduceNeg, Int.reduceAdd, Int.reduceSub, Int.reduceMul]) (strip_sim m H) (fun h => by cases h) ?_
  generalize dropZ m = d at *
  have e1 : (IntKind.i64.wrap (IntKind.i64.wrap ((d.length : Int) + 4) - 1)) = ((d.length + 3 : Nat) : Int) := by
    rw [w64 (n := (d.length : Int) + 4) (by omega) (by omega)]
    rw [w64 (by omega) (by omega)]; omega
  have e2 : IntKind.i64.wrap ((((d.length + 3 : Nat) : Int)).tdiv 4) = (((d.length + 3) / 4 : Nat) : Int) := by
    rw [Int.tdiv_eq_ediv_of_nonneg (by omega)]
    rw [w64 (by omega) (by omega)]; omega
  simp -implicitDefEqProofs only [go_sem, Nat.reduceAdd, Nat.reduceSub, Nat.reduceMul, Nat.reduceLT, Nat.reduceLeDiff, Nat.reduceEqDiff, Nat.reduceBEq, Nat.reduceGT, Nat.reduceMod, Nat.reduceDiv, ↓reduceIte, reduceCtorEq, Int.reduceLE, Int.reduceLT, Int.reduceToNat, Int.reduceEq, Int.reduceNeg, Int.reduceAdd, Int.reduceSub, Int.reduceMul, aLen, e1, e2, make_u32 H .i64 .i64 _ _ (Nat.le_refl _) (show (d.length + 3) / 4 ≤ 200000000 by omega)]
  refine ax_loopx (fun (j : Nat) s H' => ∃ l, s 0 = .string (bs d) ∧ s 3 = .slice (some ⟨H.length, 0, none⟩) ((d.length + 3) / 4) ((d.length + 3) / 4) ∧ s 15 = .int .i64 (d.length : Nat) ∧ s 16 = .int .i64 (j : Nat) ∧
    j ≤ d.length ∧ l.length = (d.length + 3) / 4 ∧ small l ∧ valL l = valB (d.drop (d.length - j)) ∧ H' = H ++ [⟨u32s l, 1, true⟩]) (fun j => d.length - j) 0 ?_ ?_
  · refine ⟨List.replicate ((d.length + 3) / 4) 0, ?_⟩
    simp -implicitDefEqProofs only [go_sem, Nat.reduceAdd, Nat.reduceSub, Nat.reduceMul, Nat.reduceLT, Nat.reduceLeDiff, Nat.reduceEqDiff, Nat.reduceBEq, Nat.reduceGT, Nat.reduceMod, Nat.reduceDiv, ↓reduceIte, reduceCtorEq, Int.reduceLE, Int.reduceLT, Int.reduceToNat, Int.reduceEq, Int.reduceNeg, Int.reduceAdd, Int.reduceSub, Int.reduceMul]
    exact ⟨by simp, small_zeros _, by rw [valL_zeros, Nat.sub_zero, List.drop_length]; rfl⟩
  rintro j s H' ⟨l, h0, h3, h15, h16, hj, hl, hs, hv, rfl⟩
  simp -implicitDefEqProofs only [go_sem, Nat.reduceAdd, Nat.reduceSub, Nat.reduceMul, Nat.reduceLT, Nat.reduceLeDiff, Nat.reduceEqDiff, Nat.reduceBEq, Nat.reduceGT, Nat.reduceMod, Nat.reduceDiv, ↓reduceIte, reduceCtorEq, Int.reduceLE, Int.reduceLT, Int.reduceToNat, Int.reduceEq, Int.reduceNeg, Int.reduceAdd, Int.reduceSub, Int.reduceMul, h0, h3, h15, h16]
  refine ax_cond2 ?_
  simp only [ev_tmp, ev_const, ev_func, upd_at, put_some, put_none, bndB_bool, Nat.reduceEqDiff, if_true, if_false, ↓reduceIte, reduceCtorEq]
  refine ⟨fun hc => ?_, fun hc => ?_⟩
  · have hj : j < d.length := by simpa using hc
    have e3 : IntKind.i64.wrap ((j : Int).tdiv 4) = ((j / 4 : Nat) : Int) := by rw [show (j : Int).tdiv 4 = ((j / 4 : Nat) : Int) from tdiv_nat j 4]; exact w64 (by omega) (by omega)
    have e4 : (j : Int).tmod 4 = ((j % 4 : Nat) : Int) := tmod_nat j 4
    have e5 : IntKind.i64.wrap (8 * ((j % 4 : Nat) : Int)) = ((8 * (j % 4) : Nat) : Int) := by rw [w64 (by omega) (by omega)]; omega
    have e6 : IntKind.i64.wrap (IntKind.i64.wrap ((d.length : Int) - 1) - (j : Int)) = ((d.length - 1 - j : Nat) : Int) := by
      rw [w64 (n := (d.length : Int) - 1) (by omega) (by omega), w64 (by omega) (by omega)]; omega
    have hq : j / 4 < l.length := by omega
    have hq' : ((j / 4 : Nat) : Int) < (((d.length + 3) / 4 : Nat) : Int) := by omega
    have hn : (0 : Int) ≤ ((j / 4 : Nat) : Int) := by omega
    have hn' : (0 : Int) ≤ ((d.length - 1 - j : Nat) : Int) := by omega
    have hb : d[d.length - 1 - j]? = some (d[d.length - 1 - j]'(by omega)) := List.getElem?_eq_getElem (by omega)
    generalize hbb : (d[d.length - 1 - j]'(by omega)) = b at hb
    have hx : l[j / 4] < 2 ^ (8 * (j % 4)) := by
      have h1 := valL_ge hq
      have h2 := valB_lt (d.drop (d.length - j))
      rw [← hv, List.length_drop, pow_d, show d.length - (d.length - j) = j by omega, pow_split] at h2
      exact Nat.lt_of_mul_lt_mul_left (Nat.lt_of_le_of_lt h1 h2)
    have hp : b.toNat * 2 ^ (8 * (j % 4)) < 4294967296 := by
      have h1 := b.toNat_lt
      have h2 : 2 ^ (8 * (j % 4)) ≤ 2 ^ 24 := Nat.pow_le_pow_right (by decide) (by omega)
      have h3 := Nat.mul_le_mul (show b.toNat ≤ 255 by omega) h2
      omega
    have hw : IntKind.u32.wrap (b.toNat : Int) = (b.toNat : Int) := wu32 (by omega) (by have := b.toNat_lt; omega)
    have hneg : ¬ (((8 * (j % 4) : Nat) : Int) < 0) := by omega
    have hmin : min (8 * (j % 4)) 32 = 8 * (j % 4) := by omega
    have hsh : IntKind.u32.wrap ((b.toNat : Int) * 2 ^ (8 * (j % 4))) = ((b.toNat * 2 ^ (8 * (j % 4)) : Nat) : Int) := by
      have e : ((b.toNat : Int) * 2 ^ (8 * (j % 4))) = ((b.toNat * 2 ^ (8 * (j % 4)) : Nat) : Int) := by rw [Int.natCast_mul, Int.natCast_pow]; rfl
      rw [e]; exact wu32 (by omega) (by omega)
    have hor : orI .u32 (l[j / 4] : Int) ((b.toNat * 2 ^ (8 * (j % 4)) : Nat) : Int) = ((l[j / 4] + b.toNat * 2 ^ (8 * (j % 4)) : Nat) : Int) := by
      rw [or_u32 (small_get hs hq) hp, or_add hx]
    simp -implicitDefEqProofs only [go_sem, Nat.reduceAdd, Nat.reduceSub, Nat.reduceMul, Nat.reduceLT, Nat.reduceLeDiff, Nat.reduceEqDiff, Nat.reduceBEq, Nat.reduceGT, Nat.reduceMod, Nat.reduceDiv, ↓reduceIte, reduceCtorEq, Int.reduceLE, Int.reduceLT, Int.reduceToNat, Int.reduceEq, Int.reduceNeg, Int.reduceAdd, Int.reduceSub, Int.reduceMul, h0, h3, h15, h16, aLen, e6]
    refine ax_loud (by kernel_rfl) ?_
    simp -implicitDefEqProofs only [go_sem, Nat.reduceAdd, Nat.reduceSub, Nat.reduceMul, Nat.reduceLT, Nat.reduceLeDiff, Nat.reduceEqDiff, Nat.reduceBEq, Nat.reduceGT, Nat.reduceMod, Nat.reduceDiv, ↓reduceIte, reduceCtorEq, Int.reduceLE, Int.reduceLT, Int.reduceToNat, Int.reduceEq, Int.reduceNeg, Int.reduceAdd, Int.reduceSub, Int.reduceMul, h0, h3, h15, h16, e3, e4, e5, aIndexAddr, hq', hn, row_rd hq, row_wr hq, hn', hb, aConv, hw, hneg, hmin, hsh, hor, Nat.mul_one]
    refine ⟨j + 1, ⟨l.set (j / 4) (l[j / 4] + b.toNat * 2 ^ (8 * (j % 4))), ?_⟩, by omega⟩
    have hst := valL_set (x := l[j / 4] + b.toNat * 2 ^ (8 * (j % 4))) hq
    have hsum : l[j / 4] + b.toNat * 2 ^ (8 * (j % 4)) < 4294967296 := by
      have := Nat.or_lt_two_pow (n := 32) (small_get hs hq) hp
      rwa [or_add hx] at this
    refine ⟨by rw [w64 (by omega) (by omega)]; rfl, by omega, by simpa using hl, small_set hs hsum, ?_, rfl⟩
    have e7 : d.drop (d.length - (j + 1)) = b :: d.drop (d.length - j) := by
      rw [← hbb, show d.length - (j + 1) = d.length - 1 - j by omega, List.drop_eq_getElem_cons (by omega), show d.length - 1 - j + 1 = d.length - j by omega]
    rw [e7]
    rw [valB_cons, ← hv, List.length_drop, show d.length - (d.length - j) = j by omega, pow_d, pow_split j]
    rw [Nat.mul_add] at hst
    have : b.toNat * (4294967296 ^ (j / 4) * 2 ^ (8 * (j % 4))) = 4294967296 ^ (j / 4) * (b.toNat * 2 ^ (8 * (j % 4))) := by rw [← Nat.mul_assoc, ← Nat.mul_assoc, Nat.mul_comm b.toNat]
    omega
  · have hj' : j = d.length := by have : ¬ j < d.length := by simpa using hc
                                  omega
    simp -implicitDefEqProofs only [go_sem, Nat.reduceAdd, Nat.reduceSub, Nat.reduceMul, Nat.reduceLT, Nat.reduceLeDiff, Nat.reduceEqDiff, Nat.reduceBEq, Nat.reduceGT, Nat.reduceMod, Nat.reduceDiv, ↓reduceIte, reduceCtorEq, Int.reduceLE, Int.reduceLT, Int.reduceToNat, Int.reduceEq, Int.reduceNeg, Int.reduceAdd, Int.reduceSub, Int.reduceMul, res196, h3]
    refine ⟨.app _ _, l, ?_, ?_⟩
    · rw [← hl]
      exact (row_lim (.inr (Nat.le_refl _)) (by omega)).lim
    · rw [hj', Nat.sub_self, List.drop_zero] at hv
      refine Canl.of_len hs hv ?_
      by_cases h0 : d = []
      · left; subst h0; exact List.length_eq_zero_iff.1 hl
      · right
        have h1 := dropZ_ge hdd h0
        rw [pow_d] at h1
        rw [pow_b]
        exact Nat.le_trans (Nat.pow_le_pow_right (by decide) (by omega)) h1
end Go.Proofs.YthhmkaikopdmjaaGreat
set_option linter.unusedSimpArgs false
set_option linter.unusedVariables false
set_option maxRecDepth 4000
namespace Go.Proofs.YthhmkaikopdmjaaGreat
open Go Go.Fw

/-- the four digits of a limb -/
def four (x : Nat) : List UInt8 := [UInt8.ofNat (x / 16777216), UInt8.ofNat (x / 65536), UInt8.ofNat (x / 256), UInt8.ofNat x]
theorem four_val {x : Nat} (h : x < 4294967296) (o : List UInt8) : valB (o ++ four x) = valB o * 4294967296 + x := by
  have e : ∀ n, (UInt8.ofNat n).toNat = n % 256 := fun n => by simp
  have : o ++ four x = (((o ++ [UInt8.ofNat (x / 16777216)]) ++ [UInt8.ofNat (x / 65536)]) ++ [UInt8.ofNat (x / 256)]) ++ [UInt8.ofNat x] := by simp [four]
  rw [this, valB_snoc, valB_snoc, valB_snoc, valB_snoc, e, e, e, e]
  omega
theorem build_u8 (H : Heap) (a b c d : Int) : aBuildSlice tt H 203 4 [(0, .int .u8 a), (1, .int .u8 b), (2, .int .u8 c), (3, .int .u8 d)] = some (.slice (some ⟨H.length, 0, none⟩) 4 4, H ++ [⟨[.int .u8 a, .int .u8 b, .int .u8 c, .int .u8 d], 1, true⟩]) := rfl
theorem store_sim {H : Heap} {v : Value} {l : List Nat} {n : Nat} (h : Lim H v l) (hcan : Canl l n) (hl : l.length ≤ 1000000) : Sim Tryz.prog 219 #[v] H (.string (bs (digB n))) H := by
  suffices hx : ∃ w H', Sim Tryz.prog 219 #[v] H w H' ∧ Ext H H' ∧ w = .string (bs (digB n)) by
    obtain ⟨w, H', h1, ⟨G, rfl⟩, rfl⟩ := hx
    exact Sim.flat h1 (Calm.refl H) rfl
  have hlen : ∀ s0 : Slots, aLen tt [163] v = some (.int .i64 (l.length : Nat)) := by
    rcases h with ⟨rfl, rfl⟩ | ⟨b, i, c, rfl, h⟩ <;> intro _ <;> rfl
  have e1 : IntKind.i64.wrap ((l.length : Int) - 1) = (l.length : Int) - 1 := w64 (by omega) (by omega)
  refine sim_ex tok mixed Tryz.func219 rfl (by kernel_rfl) (by kernel_rfl) (by simp only [Tryz.ntmps219, List.size_toArray, List.length_cons, List.length_nil]; omega) ?_
  simp -implicitDefEqProofs only [go_sem, Nat.reduceAdd, Nat.reduceSub, Nat.reduceMul, Nat.reduceLT, Nat.reduceLeDiff, Nat.reduceEqDiff, Nat.reduceBEq, Nat.reduceGT, Nat.reduceMod, Nat.reduceDiv, ↓reduceIte, reduceCtorEq, Int.reduceLE, Int.reduceLT, Int.reduceToNat, Int.reduceEq, Int.reduceNeg, Int.reduceAdd, Int.reduceSub, Int.reduceMul, hlen (ini #[v]), e1]
  refine ax_loopx (fun (k : Nat) s H' => ∃ o, s 0 = v ∧ s 4 = .int .i64 ((k : Int) - 1) ∧ k ≤ l.length ∧ Ext H H' ∧ valB o = valL (l.drop k) ∧ o.length = 4 * (l.length - k) ∧
    ((s 3 = .slice none 0 0 ∧ o = []) ∨ ∃ b, H.length ≤ b ∧ s 3 = .slice (some ⟨b, 0, none⟩) o.length 0 ∧ H'[b]? = some ⟨u8s o, 1, true⟩)) id l.length ?_ ?_
  · refine ⟨[], ?_⟩
    simp -implicitDefEqProofs only [go_sem, Nat.reduceAdd, Nat.reduceSub, Nat.reduceMul, Nat.reduceLT, Nat.reduceLeDiff, Nat.reduceEqDiff, Nat.reduceBEq, Nat.reduceGT, Nat.reduceMod, Nat.reduceDiv, ↓reduceIte, reduceCtorEq, Int.reduceLE, Int.reduceLT, Int.reduceToNat, Int.reduceEq, Int.reduceNeg, Int.reduceAdd, Int.reduceSub, Int.reduceMul]
    simp [Ext.refl, valB, valL]
  rintro k s H' ⟨o, h0, h4, hk, hE, hv, ho, h3⟩
  simp -implicitDefEqProofs only [go_sem, Nat.reduceAdd, Nat.reduceSub, Nat.reduceMul, Nat.reduceLT, Nat.reduceLeDiff, Nat.reduceEqDiff, Nat.reduceBEq, Nat.reduceGT, Nat.reduceMod, Nat.reduceDiv, ↓reduceIte, reduceCtorEq, Int.reduceLE, Int.reduceLT, Int.reduceToNat, Int.reduceEq, Int.reduceNeg, Int.reduceAdd, Int.reduceSub, Int.reduceMul, h0, h4]
  refine ax_cond2 ?_
  simp only [ev_tmp, ev_const, ev_func, upd_at, put_some, put_none, bndB_bool, Nat.reduceEqDiff, if_true, if_false, ↓reduceIte, reduceCtorEq]
  refine ⟨fun hc => ?_, fun hc => ?_⟩
  · obtain ⟨b, i, c, rfl, hL⟩ : ∃ b i c, v = .slice (some ⟨b, i, none⟩) l.length c ∧ LimAt H b i c l := by
      rcases h with ⟨rfl, rfl⟩ | h
      · simp at hc hk; omega
      · exact h
    obtain ⟨k, rfl⟩ : ∃ k', k = k' + 1 := ⟨k - 1, by simp at hc; omega⟩
    have hL' := hL.ext hE
    have hr := hL'.rd (k := k) (by omega)
    have hkk : ((k + 1 : Nat) : Int) - 1 = (k : Int) := by omega
    rw [hkk] at h4
    have hlt : (k : Int) < (l.length : Int) := by omega
    have hnn : (0 : Int) ≤ (k : Int) := by omega
    have hneg : ∀ j : Nat, ¬ ((j : Int) < 0) := fun j => by omega
    have hx := small_get hcan.small (k := k) (by omega)
    generalize hxx : l[k] = x at hr hx
    have hn8 : ¬ ((24 : Int) < 0) ∧ ¬ ((16 : Int) < 0) ∧ ¬ ((8 : Int) < 0) := by omega
    have f24 := fdiv_pow x 24
    have f16 := fdiv_pow x 16
    have f8 := fdiv_pow x 8
    obtain ⟨b2, T2, happ, hE2, hb2, hrow⟩ : ∃ b2 T2, aAppend tt (H' ++ [⟨[Value.int .u8 (UInt8.ofNat (x / 16777216)).toNat, Value.int .u8 (UInt8.ofNat (x / 65536)).toNat, Value.int .u8 (UInt8.ofNat (x / 256)).toNat, Value.int .u8 (UInt8.ofNat x).toNat], 1, true⟩]) [203, 203] (s 3) (.slice (some ⟨H'.length, 0, none⟩) 4 4) =
        some (.slice (some ⟨b2, 0, none⟩) (o.length + 4) 0, T2) ∧ Ext H T2 ∧ H.length ≤ b2 ∧ T2[b2]? = some ⟨u8s (o ++ four x), 1, true⟩ := by
      have hx4 := rd_end (H := H') (cs := u8s (four x)) (o := true) (L := []) (show 0 < 1 by decide)
      rcases h3 with ⟨h3, rfl⟩ | ⟨bo, hbo, h3, hrow⟩
      · rw [h3]
        refine ⟨_, _, append_nil tt203 tt5 rfl (by decide) (by decide) hx4 rfl (by decide) rfl (by decide), (hE.trans (.app _ _)).trans (.app _ _), ?_, ?_⟩
        · have := hE.len; simp; omega
        · simp
      · rw [h3]
        have hrow' := (Ext.app H' [⟨u8s (four x), 1, true⟩]).get hrow
        have ha := append_row (tt := tt) (cx := 4) (m := 4) tt203 tt5 rfl (by decide) (by decide) hrow' hx4 rfl (by decide) rfl (by rw [u8s_length, ho]; omega)
        rw [u8s_length o] at ha
        refine ⟨_, _, ha, ((hE.trans (.app _ _)).set hbo _).trans (.app _ _), ?_, ?_⟩
        · have := hE.len; simp; omega
        · simp [u8s_app]
    simp -implicitDefEqProofs only [go_sem, Nat.reduceAdd, Nat.reduceSub, Nat.reduceMul, Nat.reduceLT, Nat.reduceLeDiff, Nat.reduceEqDiff, Nat.reduceBEq, Nat.reduceGT, Nat.reduceMod, Nat.reduceDiv, ↓reduceIte, reduceCtorEq, Int.reduceLE, Int.reduceLT, Int.reduceToNat, Int.reduceEq, Int.reduceNeg, Int.reduceAdd, Int.reduceSub, Int.reduceMul]
    refine ax_loud (by kernel_rfl) ?_
    simp -implicitDefEqProofs only [go_sem, Nat.reduceAdd, Nat.reduceSub, Nat.reduceMul, Nat.reduceLT, Nat.reduceLeDiff, Nat.reduceEqDiff, Nat.reduceBEq, Nat.reduceGT, Nat.reduceMod, Nat.reduceDiv, ↓reduceIte, reduceCtorEq, Int.reduceLE, Int.reduceLT, Int.reduceToNat, Int.reduceEq, Int.reduceNeg, Int.reduceAdd, Int.reduceSub, Int.reduceMul, h0, h4, aIndexAddr, hr, hlt, hnn, hn8.1, hn8.2.1, hn8.2.2, Nat.mul_one, aConv, f24, f16, f8, Int.reduceToNat, min_lit24, min_lit16, min_lit8, Nat.reducePow, low_u8, build_u8, happ]
    refine ⟨k, ⟨o ++ four x, ?_⟩, Nat.lt_succ_self k⟩
    refine ⟨by rw [w64 (by omega) (by omega)], by omega, hE2, ?_, by simp [four]; omega, .inr ⟨b2, hb2, by simp [four], hrow⟩⟩
    rw [four_val hx, hv, List.drop_eq_getElem_cons (show k < l.length by omega), hxx]
    simp only [valL]
    omega
  · have hk0 : k = 0 := by simp at hc; omega
    subst hk0
    obtain hcv : aConv tt H' 203 9 (s 3) = some (.string (bs o)) := by
      rcases h3 with ⟨h3, rfl⟩ | ⟨bo, hbo, h3, hrow⟩
      · rw [h3]; rfl
      · rw [h3]
        have := rd_whole hrow (by simp)
        simp only [u8s_length] at this
        unfold aConv
        simp only [tt203, tt9, tt5, this, Option.bind_some, bytesOf_u8s]
        rfl
    simp -implicitDefEqProofs only [go_sem, Nat.reduceAdd, Nat.reduceSub, Nat.reduceMul, Nat.reduceLT, Nat.reduceLeDiff, Nat.reduceEqDiff, Nat.reduceBEq, Nat.reduceGT, Nat.reduceMod, Nat.reduceDiv, ↓reduceIte, reduceCtorEq, Int.reduceLE, Int.reduceLT, Int.reduceToNat, Int.reduceEq, Int.reduceNeg, Int.reduceAdd, Int.reduceSub, Int.reduceMul, hcv]
    refine wl_callF #[.string (bs o)] (by simp -implicitDefEqProofs only [go_sem, Nat.reduceAdd, Nat.reduceSub, Nat.reduceMul, Nat.reduceLT, Nat.reduceLeDiff, Nat.reduceEqDiff, Nat.reduceBEq, Nat.reduceGT, Nat.reduceMod, Nat.reduceDiv, ↓reduceIte, reduceCtorEq, Int.reduceLE, Int.reduceLT, Int.reduceToNat, Int.reduceEq, Int.reduceNeg, Int.reduceAdd, Int.reduceSub, Int.reduceMul]) (strip_sim o H') (fun h => by cases h) ?_
    simp -implicitDefEqProofs only [go_sem, Nat.reduceAdd, Nat.reduceSub, Nat.reduceMul, Nat.reduceLT, Nat.reduceLeDiff, Nat.reduceEqDiff, Nat.reduceBEq, Nat.reduceGT, Nat.reduceMod, Nat.reduceDiv, ↓reduceIte, reduceCtorEq, Int.reduceLE, Int.reduceLT, Int.reduceToNat, Int.reduceEq, Int.reduceNeg, Int.reduceAdd, Int.reduceSub, Int.reduceMul, res219]
    refine ⟨hE, ?_⟩
    rw [digB_strip, hv, List.drop_zero, hcan.val]
end Go.Proofs.YthhmkaikopdmjaaGreat
set_option linter.unusedSimpArgs false
set_option linter.unusedVariables false
set_option maxRecDepth 4000
namespace Go.Proofs.YthhmkaikopdmjaaGreat
open Go Go.Fw

theorem compare_sim {H : Heap} {v w : Value} {l m : List Nat} {n k : Nat} (hv : Lim H v l) (hw : Lim H w m) (hn : Canl l n) (hk : Canl m k) (hl : l.length ≤ 1000000) (hm : m.length ≤ 1000000) :
    Sim Tryz.prog 208 #[v, w] H (.int .i64 (cmpN n k)) H := by
  have e1 := hv.len (tt := tt) tt163
  have e2 := hw.len (tt := tt) tt163
  refine sim_of_ax tok mixed Tryz.func208 rfl (by kernel_rfl) (by kernel_rfl) (by simp only [Tryz.ntmps208, List.size_toArray, List.length_cons, List.length_nil]; omega) ?_
  simp -implicitDefEqProofs only [go_sem, Nat.reduceAdd, Nat.reduceSub, Nat.reduceMul, Nat.reduceLT, Nat.reduceLeDiff, Nat.reduceEqDiff, Nat.reduceBEq, Nat.reduceGT, Nat.reduceMod, Nat.reduceDiv, ↓reduceIte, reduceCtorEq, Int.reduceLE, Int.reduceLT, Int.reduceToNat, Int.reduceEq, Int.reduceNeg, Int.reduceAdd, Int.reduceSub, Int.reduceMul, e1, e2]
  refine ax_cond2 ?_
  simp only [ev_tmp, ev_const, ev_func, upd_at, put_some, put_none, bndB_bool, Nat.reduceEqDiff, if_true, if_false, ↓reduceIte, reduceCtorEq]
  refine ⟨fun hc0 => have hc := of_decide_eq_true hc0; ?_, fun hc0 => have hc := of_decide_eq_false hc0; ?_⟩
  · simp -implicitDefEqProofs only [go_sem, Nat.reduceAdd, Nat.reduceSub, Nat.reduceMul, Nat.reduceLT, Nat.reduceLeDiff, Nat.reduceEqDiff, Nat.reduceBEq, Nat.reduceGT, Nat.reduceMod, Nat.reduceDiv, ↓reduceIte, reduceCtorEq, Int.reduceLE, Int.reduceLT, Int.reduceToNat, Int.reduceEq, Int.reduceNeg, Int.reduceAdd, Int.reduceSub, Int.reduceMul, e1, e2]
    refine ax_cond2 ?_
    simp only [ev_tmp, ev_const, ev_func, upd_at, put_some, put_none, bndB_bool, Nat.reduceEqDiff, if_true, if_false, ↓reduceIte, reduceCtorEq]
    refine ⟨fun hc0 => have hd := of_decide_eq_true hc0; ?_, fun hc0 => have hd := of_decide_eq_false hc0; ?_⟩
    · have hlt : n < k := hn.len_le hk (by omega)
      simp -implicitDefEqProofs only [go_sem, Nat.reduceAdd, Nat.reduceSub, Nat.reduceMul, Nat.reduceLT, Nat.reduceLeDiff, Nat.reduceEqDiff, Nat.reduceBEq, Nat.reduceGT, Nat.reduceMod, Nat.reduceDiv, ↓reduceIte, reduceCtorEq, Int.reduceLE, Int.reduceLT, Int.reduceToNat, Int.reduceEq, Int.reduceNeg, Int.reduceAdd, Int.reduceSub, Int.reduceMul, res208]
      simp [cmpN, hlt]
    · have hlt : k < n := hk.len_le hn (by omega)
      simp -implicitDefEqProofs only [go_sem, Nat.reduceAdd, Nat.reduceSub, Nat.reduceMul, Nat.reduceLT, Nat.reduceLeDiff, Nat.reduceEqDiff, Nat.reduceBEq, Nat.reduceGT, Nat.reduceMod, Nat.reduceDiv, ↓reduceIte, reduceCtorEq, Int.reduceLE, Int.reduceLT, Int.reduceToNat, Int.reduceEq, Int.reduceNeg, Int.reduceAdd, Int.reduceSub, Int.reduceMul, res208]
      simp [cmpN, hlt, Nat.lt_asymm hlt]
  · have hlen : l.length = m.length := by omega
    have e3 : IntKind.i64.wrap ((l.length : Int) - 1) = (l.length : Int) - 1 := w64 (by omega) (by omega)
    simp -implicitDefEqProofs only [go_sem, Nat.reduceAdd, Nat.reduceSub, Nat.reduceMul, Nat.reduceLT, Nat.reduceLeDiff, Nat.reduceEqDiff, Nat.reduceBEq, Nat.reduceGT, Nat.reduceMod, Nat.reduceDiv, ↓reduceIte, reduceCtorEq, Int.reduceLE, Int.reduceLT, Int.reduceToNat, Int.reduceEq, Int.reduceNeg, Int.reduceAdd, Int.reduceSub, Int.reduceMul, e1, e2, e3]
    refine ax_loopx (fun (j : Nat) s H' => s 0 = v ∧ s 1 = w ∧ s 5 = .int .i64 ((j : Int) - 1) ∧ j ≤ l.length ∧ l.drop j = m.drop j ∧ H' = H) id l.length ?_ ?_
    · simp -implicitDefEqProofs only [go_sem, Nat.reduceAdd, Nat.reduceSub, Nat.reduceMul, Nat.reduceLT, Nat.reduceLeDiff, Nat.reduceEqDiff, Nat.reduceBEq, Nat.reduceGT, Nat.reduceMod, Nat.reduceDiv, ↓reduceIte, reduceCtorEq, Int.reduceLE, Int.reduceLT, Int.reduceToNat, Int.reduceEq, Int.reduceNeg, Int.reduceAdd, Int.reduceSub, Int.reduceMul]
      simp [hlen]
    rintro j s H' ⟨h0, h1, h5, hj, hd, rfl⟩
    simp -implicitDefEqProofs only [go_sem, Nat.reduceAdd, Nat.reduceSub, Nat.reduceMul, Nat.reduceLT, Nat.reduceLeDiff, Nat.reduceEqDiff, Nat.reduceBEq, Nat.reduceGT, Nat.reduceMod, Nat.reduceDiv, ↓reduceIte, reduceCtorEq, Int.reduceLE, Int.reduceLT, Int.reduceToNat, Int.reduceEq, Int.reduceNeg, Int.reduceAdd, Int.reduceSub, Int.reduceMul, h0, h1, h5]
    refine ax_cond2 ?_
    simp only [ev_tmp, ev_const, ev_func, upd_at, put_some, put_none, bndB_bool, Nat.reduceEqDiff, if_true, if_false, ↓reduceIte, reduceCtorEq]
    refine ⟨fun hc0 => have hx := of_decide_eq_true hc0; ?_, fun hc0 => have hx := of_decide_eq_false hc0; ?_⟩
    · obtain ⟨j, rfl⟩ : ∃ j', j = j' + 1 := ⟨j - 1, by omega⟩
      obtain ⟨b, i, c, rfl, hL⟩ := hv.at (by rintro rfl; simp at hj)
      obtain ⟨b', i', c', rfl, hM⟩ := hw.at (by rintro rfl; simp only [List.length_nil] at hlen; omega)
      have hr := hL.rd (k := j) (by omega)
      have hr' := hM.rd (k := j) (by omega)
      have hjj : ((j + 1 : Nat) : Int) - 1 = (j : Int) := by omega
      rw [hjj] at h5
      have hlt : (j : Int) < (l.length : Int) := by omega
      have hlt' : (j : Int) < (m.length : Int) := by omega
      have hnn : (0 : Int) ≤ (j : Int) := by omega
      simp -implicitDefEqProofs only [go_sem, Nat.reduceAdd, Nat.reduceSub, Nat.reduceMul, Nat.reduceLT, Nat.reduceLeDiff, Nat.reduceEqDiff, Nat.reduceBEq, Nat.reduceGT, Nat.reduceMod, Nat.reduceDiv, ↓reduceIte, reduceCtorEq, Int.reduceLE, Int.reduceLT, Int.reduceToNat, Int.reduceEq, Int.reduceNeg, Int.reduceAdd, Int.reduceSub, Int.reduceMul]
      refine ax_quiet (by kernel_rfl) ?_
      simp -implicitDefEqProofs only [go_sem, Nat.reduceAdd, Nat.reduceSub, Nat.reduceMul, Nat.reduceLT, Nat.reduceLeDiff, Nat.reduceEqDiff, Nat.reduceBEq, Nat.reduceGT, Nat.reduceMod, Nat.reduceDiv, ↓reduceIte, reduceCtorEq, Int.reduceLE, Int.reduceLT, Int.reduceToNat, Int.reduceEq, Int.reduceNeg, Int.reduceAdd, Int.reduceSub, Int.reduceMul, h0, h1, h5, aIndexAddr, hr, hr', hlt, hlt', hnn, Nat.mul_one]
      refine ax_cond2 ?_
      simp only [ev_tmp, ev_const, ev_func, upd_at, put_some, put_none, bndB_bool, Nat.reduceEqDiff, if_true, if_false, ↓reduceIte, reduceCtorEq]
      refine ⟨fun hc0 => have hy := of_decide_eq_true hc0; ?_, fun hc0 => have hy := of_decide_eq_false hc0; ?_⟩
      · have hh : n < k := by rw [← hn.val, ← hk.val]; exact valL_top hn.small (by omega) (by omega) hd (by omega)
        simp -implicitDefEqProofs only [go_sem, Nat.reduceAdd, Nat.reduceSub, Nat.reduceMul, Nat.reduceLT, Nat.reduceLeDiff, Nat.reduceEqDiff, Nat.reduceBEq, Nat.reduceGT, Nat.reduceMod, Nat.reduceDiv, ↓reduceIte, reduceCtorEq, Int.reduceLE, Int.reduceLT, Int.reduceToNat, Int.reduceEq, Int.reduceNeg, Int.reduceAdd, Int.reduceSub, Int.reduceMul, res208]
        simp [cmpN, hh]
      · simp -implicitDefEqProofs only [go_sem, Nat.reduceAdd, Nat.reduceSub, Nat.reduceMul, Nat.reduceLT, Nat.reduceLeDiff, Nat.reduceEqDiff, Nat.reduceBEq, Nat.reduceGT, Nat.reduceMod, Nat.reduceDiv, ↓reduceIte, reduceCtorEq, Int.reduceLE, Int.reduceLT, Int.reduceToNat, Int.reduceEq, Int.reduceNeg, Int.reduceAdd, Int.reduceSub, Int.reduceMul]
        refine ax_quiet (by kernel_rfl) ?_
        simp -implicitDefEqProofs only [go_sem, Nat.reduceAdd, Nat.reduceSub, Nat.reduceMul, Nat.reduceLT, Nat.reduceLeDiff, Nat.reduceEqDiff, Nat.reduceBEq, Nat.reduceGT, Nat.reduceMod, Nat.reduceDiv, ↓reduceIte, reduceCtorEq, Int.reduceLE, Int.reduceLT, Int.reduceToNat, Int.reduceEq, Int.reduceNeg, Int.reduceAdd, Int.reduceSub, Int.reduceMul, h0, h1, h5, aIndexAddr, hr, hr', hlt, hlt', hnn, Nat.mul_one]
        refine ax_cond2 ?_
        simp only [ev_tmp, ev_const, ev_func, upd_at, put_some, put_none, bndB_bool, Nat.reduceEqDiff, if_true, if_false, ↓reduceIte, reduceCtorEq]
        refine ⟨fun hc0 => have hz := of_decide_eq_true hc0; ?_, fun hc0 => have hz := of_decide_eq_false hc0; ?_⟩
        · have hh : k < n := by rw [← hn.val, ← hk.val]; exact valL_top hk.small (by omega) (by omega) hd.symm (by omega)
          simp -implicitDefEqProofs only [go_sem, Nat.reduceAdd, Nat.reduceSub, Nat.reduceMul, Nat.reduceLT, Nat.reduceLeDiff, Nat.reduceEqDiff, Nat.reduceBEq, Nat.reduceGT, Nat.reduceMod, Nat.reduceDiv, ↓reduceIte, reduceCtorEq, Int.reduceLE, Int.reduceLT, Int.reduceToNat, Int.reduceEq, Int.reduceNeg, Int.reduceAdd, Int.reduceSub, Int.reduceMul, res208]
          simp [cmpN, hh, Nat.lt_asymm hh]
        · simp -implicitDefEqProofs only [go_sem, Nat.reduceAdd, Nat.reduceSub, Nat.reduceMul, Nat.reduceLT, Nat.reduceLeDiff, Nat.reduceEqDiff, Nat.reduceBEq, Nat.reduceGT, Nat.reduceMod, Nat.reduceDiv, ↓reduceIte, reduceCtorEq, Int.reduceLE, Int.reduceLT, Int.reduceToNat, Int.reduceEq, Int.reduceNeg, Int.reduceAdd, Int.reduceSub, Int.reduceMul, h0, h1, h5]
          refine ⟨j, ⟨by rw [w64 (by omega) (by omega)], by omega, ?_⟩, Nat.lt_succ_self j⟩
          rw [List.drop_eq_getElem_cons (show j < l.length by omega), List.drop_eq_getElem_cons (show j < m.length by omega), hd]
          congr 1
          omega
    · have hj0 : j = 0 := by omega
      subst hj0
      have : n = k := by rw [← hn.val, ← hk.val]; simpa using congrArg valL hd
      simp -implicitDefEqProofs only [go_sem, Nat.reduceAdd, Nat.reduceSub, Nat.reduceMul, Nat.reduceLT, Nat.reduceLeDiff, Nat.reduceEqDiff, Nat.reduceBEq, Nat.reduceGT, Nat.reduceMod, Nat.reduceDiv, ↓reduceIte, reduceCtorEq, Int.reduceLE, Int.reduceLT, Int.reduceToNat, Int.reduceEq, Int.reduceNeg, Int.reduceAdd, Int.reduceSub, Int.reduceMul, res208]
      simp [cmpN, this]
end Go.Proofs.YthhmkaikopdmjaaGreat
set_option linter.unusedSimpArgs false
set_option linter.unusedVariables false
set_option maxRecDepth 4000
namespace Go.Proofs.YthhmkaikopdmjaaGreat
open Go Go.Fw

theorem one_u32 (H : Heap) (x : Int) : aBuildSlice tt H 163 1 [(0, .int .u32 x)] = some (.slice (some ⟨H.length, 0, none⟩) 1 1, H ++ [⟨[.int .u32 x], 1, true⟩]) := rfl
theorem make_0 (H : Heap) (c : Nat) (hc : c ≤ 200000000) : aMakeSlice tt H 163 (.int .i64 0) (.int .i64 (c : Nat)) = some (.slice (some ⟨H.length, 0, none⟩) 0 c, H ++ [⟨u32s (List.replicate c 0), 1, true⟩]) := make_u32 H .i64 .i64 0 c (Nat.zero_le _) hc

theorem plus_sim {H : Heap} {v w : Value} {l m : List Nat} {n k : Nat} (hv : Lim H v l) (hw : Lim H w m) (hn : Canl l n) (hk : Canl m k) (hl : l.length ≤ 10000000) (hm : m.length ≤ 10000000) :
    ∃ u H', Sim Tryz.prog 246 #[v, w] H u H' ∧ Ext H H' ∧ LN H' u (n + k) := by
  have e1 := hv.len (tt := tt) tt163
  have e2 := hw.len (tt := tt) tt163
  refine sim_ex tok mixed Tryz.func246 rfl (by kernel_rfl) (by kernel_rfl) (by simp only [Tryz.ntmps246, List.size_toArray, List.length_cons, List.length_nil]; omega) ?_
  simp -implicitDefEqProofs only [go_sem, Nat.reduceAdd, Nat.reduceSub, Nat.reduceMul, Nat.reduceLT, Nat.reduceLeDiff, Nat.reduceEqDiff, Nat.reduceBEq, Nat.reduceGT, Nat.reduceMod, Nat.reduceDiv, ↓reduceIte, reduceCtorEq, Int.reduceLE, Int.reduceLT, Int.reduceToNat, Int.reduceEq, Int.reduceNeg, Int.reduceAdd, Int.reduceSub, Int.reduceMul, e1, e2]
  refine ax_mid (fun s H' => H' = H ∧ ∃ v w l m n' k', s 0 = v ∧ s 1 = w ∧ Lim H v l ∧ Lim H w m ∧ Canl l n' ∧ Canl m k' ∧ l.length ≤ 10000000 ∧ m.length ≤ l.length ∧ n' + k' = n + k) ?_ ?_
  · refine ax_cond2 ?_
    simp only [ev_tmp, ev_const, ev_func, upd_at, put_some, put_none, bndB_bool, Nat.reduceEqDiff, if_true, if_false, ↓reduceIte, reduceCtorEq]
    refine ⟨fun hc0 => have hc := of_decide_eq_true hc0; ?_, fun hc0 => have hc := of_decide_eq_false hc0; ?_⟩
    · simp -implicitDefEqProofs only [go_sem, Nat.reduceAdd, Nat.reduceSub, Nat.reduceMul, Nat.reduceLT, Nat.reduceLeDiff, Nat.reduceEqDiff, Nat.reduceBEq, Nat.reduceGT, Nat.reduceMod, Nat.reduceDiv, ↓reduceIte, reduceCtorEq, Int.reduceLE, Int.reduceLT, Int.reduceToNat, Int.reduceEq, Int.reduceNeg, Int.reduceAdd, Int.reduceSub, Int.reduceMul]
      exact ⟨w, v, m, l, k, n, rfl, rfl, hw, hv, hk, hn, hm, by omega, Nat.add_comm k n⟩
    · simp -implicitDefEqProofs only [go_sem, Nat.reduceAdd, Nat.reduceSub, Nat.reduceMul, Nat.reduceLT, Nat.reduceLeDiff, Nat.reduceEqDiff, Nat.reduceBEq, Nat.reduceGT, Nat.reduceMod, Nat.reduceDiv, ↓reduceIte, reduceCtorEq, Int.reduceLE, Int.reduceLT, Int.reduceToNat, Int.reduceEq, Int.reduceNeg, Int.reduceAdd, Int.reduceSub, Int.reduceMul]
      exact ⟨v, w, l, m, n, k, rfl, rfl, hv, hw, hn, hk, hl, by omega, rfl⟩
  clear hv hw hn hk hl hm e1 e2
  rintro s H' ⟨rfl, v, w, l, m, n', k', h0, h1, hv, hw, hn, hk, hl, hm, hnk⟩
  rw [← hnk]
  have e1 := hv.len (tt := tt) tt163
  have e2 := hw.len (tt := tt) tt163
  have e3 : IntKind.i64.wrap ((l.length : Int) + 1) = ((l.length + 1 : Nat) : Int) := by rw [w64 (by omega) (by omega)]; rfl
  simp -implicitDefEqProofs only [go_sem, Nat.reduceAdd, Nat.reduceSub, Nat.reduceMul, Nat.reduceLT, Nat.reduceLeDiff, Nat.reduceEqDiff, Nat.reduceBEq, Nat.reduceGT, Nat.reduceMod, Nat.reduceDiv, ↓reduceIte, reduceCtorEq, Int.reduceLE, Int.reduceLT, Int.reduceToNat, Int.reduceEq, Int.reduceNeg, Int.reduceAdd, Int.reduceSub, Int.reduceMul, h0, h1, e1, e2, e3, make_0 H' (l.length + 1) (by omega)]
  refine ax_loopx (fun (j : Nat) s T => ∃ (o : List Nat) (c : Nat), s 1 = w ∧ s 20 = v ∧ s 21 = .int .i64 (l.length : Nat) ∧ s 22 = .int .i64 (j : Nat) ∧ s 5 = .slice (some ⟨H'.length, 0, none⟩) j (l.length + 1) ∧ s 6 = .int .u64 (c : Nat) ∧
    j ≤ l.length ∧ c ≤ 1 ∧ o.length = l.length + 1 ∧ small o ∧ valL (o.take j) + 4294967296 ^ j * c = valL (l.take j) + valL (m.take j) ∧ Row T H'.length o ∧ Ext H' T) (fun j => l.length - j) 0 ?_ ?_
  · refine ⟨List.replicate (l.length + 1) 0, 0, ?_⟩
    simp -implicitDefEqProofs only [go_sem, Nat.reduceAdd, Nat.reduceSub, Nat.reduceMul, Nat.reduceLT, Nat.reduceLeDiff, Nat.reduceEqDiff, Nat.reduceBEq, Nat.reduceGT, Nat.reduceMod, Nat.reduceDiv, ↓reduceIte, reduceCtorEq, Int.reduceLE, Int.reduceLT, Int.reduceToNat, Int.reduceEq, Int.reduceNeg, Int.reduceAdd, Int.reduceSub, Int.reduceMul, h0, h1]
    exact ⟨by simp, small_zeros _, rfl, Row.new _ _, .app _ _⟩
  rintro j s T ⟨o, c, h1, h20, h21, h22, h5, h6, hj, hc, ho, hs, hval, hrow, hE⟩
  simp -implicitDefEqProofs only [go_sem, Nat.reduceAdd, Nat.reduceSub, Nat.reduceMul, Nat.reduceLT, Nat.reduceLeDiff, Nat.reduceEqDiff, Nat.reduceBEq, Nat.reduceGT, Nat.reduceMod, Nat.reduceDiv, ↓reduceIte, reduceCtorEq, Int.reduceLE, Int.reduceLT, Int.reduceToNat, Int.reduceEq, Int.reduceNeg, Int.reduceAdd, Int.reduceSub, Int.reduceMul, h1, h20, h21, h22]
  refine ax_cond2 ?_
  simp only [ev_tmp, ev_const, ev_func, upd_at, put_some, put_none, bndB_bool, Nat.reduceEqDiff, if_true, if_false, ↓reduceIte, reduceCtorEq]
  refine ⟨fun hc0 => have hlt := of_decide_eq_true hc0; ?_, fun hc0 => have hlt := of_decide_eq_false hc0; ?_⟩
  · obtain ⟨b, i, cp, rfl, hL⟩ := hv.at (by rintro rfl; simp only [List.length_nil] at hlt; omega)
    have hr := (hL.ext hE).rd (k := j) (by omega)
    have hx := small_get hn.small (k := j) (by omega)
    generalize hxx : l[j]'(by omega) = x at hr hx
    have hnn : (0 : Int) ≤ (j : Int) := by omega
    have a1 : IntKind.u64.wrap ((x : Nat) : Int) = (x : Int) := wu64n (by omega)
    have a2 : IntKind.u64.wrap ((c : Int) + (x : Int)) = ((c + x : Nat) : Int) := by rw [addc, wu64n (by omega)]
    simp -implicitDefEqProofs only [go_sem, Nat.reduceAdd, Nat.reduceSub, Nat.reduceMul, Nat.reduceLT, Nat.reduceLeDiff, Nat.reduceEqDiff, Nat.reduceBEq, Nat.reduceGT, Nat.reduceMod, Nat.reduceDiv, ↓reduceIte, reduceCtorEq, Int.reduceLE, Int.reduceLT, Int.reduceToNat, Int.reduceEq, Int.reduceNeg, Int.reduceAdd, Int.reduceSub, Int.reduceMul, h1, h5, h6, h20, h21, h22, aIndexAddr, hr, hlt, hnn, aConv, a1, a2, Nat.mul_one, e2]
    have hy := small_getD hk.small j
    have hvy := valL_take_getD m j
    generalize hyy : m.getD j 0 = y at hy hvy
    refine ax_mid (fun s T' => T' = T ∧ s 1 = w ∧ s 20 = .slice (some ⟨b, i, none⟩) l.length cp ∧ s 21 = .int .i64 (l.length : Nat) ∧ s 22 = .int .i64 (j : Nat) ∧ s 5 = .slice (some ⟨H'.length, 0, none⟩) j (l.length + 1) ∧ s 6 = .int .u64 ((c + x + y : Nat) : Int)) ?_ ?_
    · refine ax_cond2 ?_
      simp only [ev_tmp, ev_const, ev_func, upd_at, put_some, put_none, bndB_bool, Nat.reduceEqDiff, if_true, if_false, ↓reduceIte, reduceCtorEq]
      refine ⟨fun hc0 => have hd := of_decide_eq_true hc0; ?_, fun hc0 => have hd := of_decide_eq_false hc0; ?_⟩
      · obtain ⟨b', i', cp', rfl, hM⟩ := hw.at (by rintro rfl; simp only [List.length_nil] at hd; omega)
        have hr' := (hM.ext hE).rd (k := j) (by omega)
        have hmy : m[j]'(by omega) = y := by rw [← hyy]; simp [show j < m.length by omega]
        rw [hmy] at hr'
        have a3 : IntKind.u64.wrap ((y : Nat) : Int) = (y : Int) := wu64n (by omega)
        have a4 : IntKind.u64.wrap (((c + x : Nat) : Int) + (y : Int)) = ((c + x + y : Nat) : Int) := by rw [addc, wu64n (by omega)]
        simp -implicitDefEqProofs only [go_sem, Nat.reduceAdd, Nat.reduceSub, Nat.reduceMul, Nat.reduceLT, Nat.reduceLeDiff, Nat.reduceEqDiff, Nat.reduceBEq, Nat.reduceGT, Nat.reduceMod, Nat.reduceDiv, ↓reduceIte, reduceCtorEq, Int.reduceLE, Int.reduceLT, Int.reduceToNat, Int.reduceEq, Int.reduceNeg, Int.reduceAdd, Int.reduceSub, Int.reduceMul, h1, h5, h20, h21, h22, aIndexAddr, hr', hd, hnn, aConv, a3, a4, Nat.mul_one]
      · have : y = 0 := by rw [← hyy]; simp [show m.length ≤ j by omega]
        subst this
        simp -implicitDefEqProofs only [go_sem, Nat.reduceAdd, Nat.reduceSub, Nat.reduceMul, Nat.reduceLT, Nat.reduceLeDiff, Nat.reduceEqDiff, Nat.reduceBEq, Nat.reduceGT, Nat.reduceMod, Nat.reduceDiv, ↓reduceIte, reduceCtorEq, Int.reduceLE, Int.reduceLT, Int.reduceToNat, Int.reduceEq, Int.reduceNeg, Int.reduceAdd, Int.reduceSub, Int.reduceMul, h1, h5, h20, h21, h22]
    clear h1 h20 h21 h22 h5 h6
    rintro s T' ⟨rfl, h1, h20, h21, h22, h5, h6⟩
    have happ := Row.append (tt := tt) (x := (c + x + y) % 4294967296) tt163 tt161 rfl (by decide) (by decide) hrow (n := j) (by omega) (c := l.length + 1) (by omega) (by omega)
    have a5 : IntKind.i64.wrap ((j : Int) + 1) = ((j + 1 : Nat) : Int) := by rw [w64 (by omega) (by omega)]; rfl
    have h32 : ¬ ((32 : Int) < 0) := by omega
    have f32 := fdiv_pow (c + x + y) 32
    simp -implicitDefEqProofs only [go_sem, Nat.reduceAdd, Nat.reduceSub, Nat.reduceMul, Nat.reduceLT, Nat.reduceLeDiff, Nat.reduceEqDiff, Nat.reduceBEq, Nat.reduceGT, Nat.reduceMod, Nat.reduceDiv, ↓reduceIte, reduceCtorEq, Int.reduceLE, Int.reduceLT, Int.reduceToNat, Int.reduceEq, Int.reduceNeg, Int.reduceAdd, Int.reduceSub, Int.reduceMul, h1, h5, h6, h20, h21, h22, aConv, low_u32, one_u32, happ, h32, Int.reduceToNat, min_lit32, f32, a5, Nat.reducePow]
    refine ⟨j + 1, ⟨o.set j ((c + x + y) % 4294967296), (c + x + y) / 4294967296, ?_⟩, by omega⟩
    refine ⟨rfl, rfl, rfl, by omega, by omega, by simpa using ho, small_set hs (by omega), ?_, (hrow.app _).set, (hE.trans (.app _ _)).set (Nat.le_refl _) _⟩
    rw [valL_take_set (by omega), valL_take_succ (show j < l.length by omega), hvy, hxx, Nat.pow_succ]
    exact sum_step hval
  · have hjl : j = l.length := by omega
    subst hjl
    have happ := Row.append (tt := tt) (x := c % 4294967296) tt163 tt161 rfl (by decide) (by decide) hrow (n := l.length) (by omega) (c := l.length + 1) (by omega) (by omega)
    simp -implicitDefEqProofs only [go_sem, Nat.reduceAdd, Nat.reduceSub, Nat.reduceMul, Nat.reduceLT, Nat.reduceLeDiff, Nat.reduceEqDiff, Nat.reduceBEq, Nat.reduceGT, Nat.reduceMod, Nat.reduceDiv, ↓reduceIte, reduceCtorEq, Int.reduceLE, Int.reduceLT, Int.reduceToNat, Int.reduceEq, Int.reduceNeg, Int.reduceAdd, Int.reduceSub, Int.reduceMul, h5, h6, aConv, low_u32, one_u32, happ]
    have hrow2 := (hrow.app [⟨[Value.int .u32 ((c % 4294967296 : Nat) : Int)], 1, true⟩]).set (o' := o.set l.length (c % 4294967296))
    have hlim := (hrow2.at (c := l.length + 1) (l.length + 1) (.inr (Nat.le_refl _)) (by simp; omega) (by simp; omega)).lim
    rw [List.length_take, List.length_set, ho, Nat.min_self] at hlim
    obtain ⟨u, htr, hlu⟩ := trim_sim hlim
    refine wl_callF #[_] (by simp -implicitDefEqProofs only [go_sem, Nat.reduceAdd, Nat.reduceSub, Nat.reduceMul, Nat.reduceLT, Nat.reduceLeDiff, Nat.reduceEqDiff, Nat.reduceBEq, Nat.reduceGT, Nat.reduceMod, Nat.reduceDiv, ↓reduceIte, reduceCtorEq, Int.reduceLE, Int.reduceLT, Int.reduceToNat, Int.reduceEq, Int.reduceNeg, Int.reduceAdd, Int.reduceSub, Int.reduceMul]) htr (fun h => by cases h) ?_
    simp -implicitDefEqProofs only [go_sem, Nat.reduceAdd, Nat.reduceSub, Nat.reduceMul, Nat.reduceLT, Nat.reduceLeDiff, Nat.reduceEqDiff, Nat.reduceBEq, Nat.reduceGT, Nat.reduceMod, Nat.reduceDiv, ↓reduceIte, reduceCtorEq, Int.reduceLE, Int.reduceLT, Int.reduceToNat, Int.reduceEq, Int.reduceNeg, Int.reduceAdd, Int.reduceSub, Int.reduceMul, res246]
    refine ⟨(hE.trans (.app _ _)).set (Nat.le_refl _) _, _, hlu, ?_⟩
    have hfin := valL_take_set (x := c % 4294967296) (show l.length < o.length by omega)
    have hcn := Canl.of_trim (l := (o.set l.length (c % 4294967296)).take (l.length + 1)) (small_take (small_set hs (by omega)) _)
    rw [List.take_length] at hval
    have hmm : m.take l.length = m := List.take_of_length_le hm
    rw [hmm, hn.val, hk.val] at hval
    rw [hfin, Nat.mod_eq_of_lt (by omega), hval] at hcn
    rw [Nat.mod_eq_of_lt (show c < 4294967296 by omega)]
    exact hcn
end Go.Proofs.YthhmkaikopdmjaaGreat
set_option linter.unusedSimpArgs false
set_option linter.unusedVariables false
set_option maxRecDepth 4000
namespace Go.Proofs.YthhmkaikopdmjaaGreat
open Go Go.Fw

def subD (x y b : Nat) : Nat := (x + 4294967296 - y + 4294967296 - b) % 4294967296
def subB (x y b : Nat) : Nat := if x < y + b then 1 else 0
theorem sub_eq {x y b : Nat} (hx : x < 4294967296) (hy : y < 4294967296) (hb : b ≤ 1) : subD x y b + y + b = x + 4294967296 * subB x y b := by
  unfold subD subB
  split <;> omega
theorem subD_lt (x y b : Nat) : subD x y b < 4294967296 := Nat.mod_lt _ (by decide)
theorem subB_le (x y b : Nat) : subB x y b ≤ 1 := by unfold subB; split <;> omega
theorem min_lit31 : min 31 32 = 31 := rfl

theorem sub32_sim {H : Heap} {x y b : Nat} (hx : x < 4294967296) (hy : y < 4294967296) (hb : b ≤ 1) :
    Sim Tryz.prog 269 #[.int .u32 (x : Nat), .int .u32 (y : Nat), .int .u32 (b : Nat)] H (.tuple #[.int .u32 (subD x y b : Nat), .int .u32 (subB x y b : Nat)]) H := by
  obtain ⟨d0, hd0⟩ : ∃ d0 : Nat, d0 = (x + 4294967296 - y) % 4294967296 := ⟨_, rfl⟩
  have e0 : IntKind.u32.wrap ((x : Int) - (y : Int)) = (d0 : Int) := by rw [IntKind.wrap_u32]; omega
  have e1 : IntKind.u32.wrap ((d0 : Int) - (b : Int)) = ((subD x y b : Nat) : Int) := by
    rw [IntKind.wrap_u32]; unfold subD; omega
  clear hd0
  have hd := subD_lt x y b
  have h31 : ¬ ((31 : Int) < 0) := by omega
  have a1 := xor_u32 (a := 4294967295) (b := x) (by decide) hx
  have l1 := Nat.xor_lt_two_pow (n := 32) (x := 4294967295) (y := x) (by decide) hx
  have a2 := and_u32 (b := y) l1 hy
  have a3 := xor_u32 hx hy
  have l3 := Nat.xor_lt_two_pow (n := 32) hx hy
  have a4 := xor_u32 (a := 4294967295) (by decide) l3
  have l4 := Nat.xor_lt_two_pow (n := 32) (x := 4294967295) (by decide) l3
  have a5 := and_u32 l4 hd
  have a6 := or_u32 (Nat.and_lt_two_pow (4294967295 ^^^ x) hy) (Nat.and_lt_two_pow (4294967295 ^^^ (x ^^^ y)) hd)
  have a7 := fdiv_pow ((4294967295 ^^^ x) &&& y ||| (4294967295 ^^^ (x ^^^ y)) &&& subD x y b) 31
  have a8 := borrow_bit hx hy hb (d := subD x y b) rfl
  rw [a8] at a7
  clear l1 l3 l4 a8
  generalize (4294967295 ^^^ x) &&& y ||| (4294967295 ^^^ (x ^^^ y)) &&& subD x y b = r at a6 a7
  generalize (4294967295 ^^^ (x ^^^ y)) &&& subD x y b = p5 at a5 a6
  generalize 4294967295 ^^^ (x ^^^ y) = p4 at a4 a5
  generalize x ^^^ y = p3 at a3 a4
  generalize (4294967295 ^^^ x) &&& y = p2 at a2 a6
  generalize 4294967295 ^^^ x = p1 at a1 a2
  generalize hdd : subD x y b = dd at *
  generalize hbb : subB x y b = bb
  unfold subB at hbb
  rw [hbb] at a7
  refine sim_of_ax tok mixed Tryz.func269 rfl (by kernel_rfl) (by kernel_rfl) (by simp only [Tryz.ntmps269, List.size_toArray, List.length_cons, List.length_nil]; omega) ?_
  simp -implicitDefEqProofs only [go_sem, Nat.reduceAdd, Nat.reduceSub, Nat.reduceMul, Nat.reduceLT, Nat.reduceLeDiff, Nat.reduceEqDiff, Nat.reduceBEq, Nat.reduceGT, Nat.reduceMod, Nat.reduceDiv, ↓reduceIte, reduceCtorEq, Int.reduceLE, Int.reduceLT, Int.reduceToNat, Int.reduceEq, Int.reduceNeg, Int.reduceAdd, Int.reduceSub, Int.reduceMul, e0, h31, Int.reduceToNat, min_lit31, res269]
  simp only [e1, a1, a2, a3, a4, a5, a6, a7]

theorem minus_sim {H : Heap} {v w : Value} {l m : List Nat} {n k : Nat} (hv : Lim H v l) (hw : Lim H w m) (hn : Canl l n) (hk : Canl m k) (hl : l.length ≤ 10000000) (hnk : k ≤ n) :
    ∃ u H', Sim Tryz.prog 247 #[v, w] H u H' ∧ Ext H H' ∧ LN H' u (n - k) := by
  have e1 := hv.len (tt := tt) tt163
  have e2 := hw.len (tt := tt) tt163
  have hml : m.length ≤ l.length := Classical.byContradiction fun h => by have := hn.len_le hk (by omega); omega
  refine sim_ex tok mixed Tryz.func247 rfl (by kernel_rfl) (by kernel_rfl) (by simp only [Tryz.ntmps247, List.size_toArray, List.length_cons, List.length_nil]; omega) ?_
  simp -implicitDefEqProofs only [go_sem, Nat.reduceAdd, Nat.reduceSub, Nat.reduceMul, Nat.reduceLT, Nat.reduceLeDiff, Nat.reduceEqDiff, Nat.reduceBEq, Nat.reduceGT, Nat.reduceMod, Nat.reduceDiv, ↓reduceIte, reduceCtorEq, Int.reduceLE, Int.reduceLT, Int.reduceToNat, Int.reduceEq, Int.reduceNeg, Int.reduceAdd, Int.reduceSub, Int.reduceMul, e1, e2, make_u32 H .i64 .i64 _ _ (Nat.le_refl _) (show l.length ≤ 200000000 by omega)]
  refine ax_loopx (fun (j : Nat) s T => ∃ (o : List Nat) (c : Nat), s 1 = w ∧ s 13 = v ∧ s 14 = .int .i64 (l.length : Nat) ∧ s 15 = .int .i64 (j : Nat) ∧ s 5 = .slice (some ⟨H.length, 0, none⟩) l.length l.length ∧ s 6 = .int .u32 (c : Nat) ∧
    j ≤ l.length ∧ c ≤ 1 ∧ o.length = l.length ∧ small o ∧ valL (o.take j) + valL (m.take j) = valL (l.take j) + 4294967296 ^ j * c ∧ Row T H.length o ∧ Ext H T) (fun j => l.length - j) 0 ?_ ?_
  · refine ⟨List.replicate l.length 0, 0, ?_⟩
    simp -implicitDefEqProofs only [go_sem, Nat.reduceAdd, Nat.reduceSub, Nat.reduceMul, Nat.reduceLT, Nat.reduceLeDiff, Nat.reduceEqDiff, Nat.reduceBEq, Nat.reduceGT, Nat.reduceMod, Nat.reduceDiv, ↓reduceIte, reduceCtorEq, Int.reduceLE, Int.reduceLT, Int.reduceToNat, Int.reduceEq, Int.reduceNeg, Int.reduceAdd, Int.reduceSub, Int.reduceMul]
    exact ⟨by simp, small_zeros _, rfl, Row.new _ _, .app _ _⟩
  rintro j s T ⟨o, c, h1, h13, h14, h15, h5, h6, hj, hc, ho, hs, hval, hrow, hE⟩
  simp -implicitDefEqProofs only [go_sem, Nat.reduceAdd, Nat.reduceSub, Nat.reduceMul, Nat.reduceLT, Nat.reduceLeDiff, Nat.reduceEqDiff, Nat.reduceBEq, Nat.reduceGT, Nat.reduceMod, Nat.reduceDiv, ↓reduceIte, reduceCtorEq, Int.reduceLE, Int.reduceLT, Int.reduceToNat, Int.reduceEq, Int.reduceNeg, Int.reduceAdd, Int.reduceSub, Int.reduceMul, h1, h13, h14, h15]
  refine ax_cond2 ?_
  simp only [ev_tmp, ev_const, ev_func, upd_at, put_some, put_none, bndB_bool, Nat.reduceEqDiff, if_true, if_false, ↓reduceIte, reduceCtorEq]
  refine ⟨fun hc0 => have hlt := of_decide_eq_true hc0; ?_, fun hc0 => have hlt := of_decide_eq_false hc0; ?_⟩
  · obtain ⟨b, i, cp, rfl, hL⟩ := hv.at (by rintro rfl; simp only [List.length_nil] at hlt; omega)
    have hr := (hL.ext hE).rd (k := j) (by omega)
    have hx := small_get hn.small (k := j) (by omega)
    generalize hxx : l[j]'(by omega) = x at hr hx
    have hnn : (0 : Int) ≤ (j : Int) := by omega
    have hy := small_getD hk.small j
    have hvy := valL_take_getD m j
    generalize hyy : m.getD j 0 = y at hy hvy
    simp -implicitDefEqProofs only [go_sem, Nat.reduceAdd, Nat.reduceSub, Nat.reduceMul, Nat.reduceLT, Nat.reduceLeDiff, Nat.reduceEqDiff, Nat.reduceBEq, Nat.reduceGT, Nat.reduceMod, Nat.reduceDiv, ↓reduceIte, reduceCtorEq, Int.reduceLE, Int.reduceLT, Int.reduceToNat, Int.reduceEq, Int.reduceNeg, Int.reduceAdd, Int.reduceSub, Int.reduceMul, h1, h5, h6, h13, h14, h15, aIndexAddr, hr, hlt, hnn, Nat.mul_one, e2]
    refine ax_mid (fun s T' => T' = T ∧ s 1 = w ∧ s 13 = .slice (some ⟨b, i, none⟩) l.length cp ∧ s 14 = .int .i64 (l.length : Nat) ∧ s 15 = .int .i64 (j : Nat) ∧ s 5 = .slice (some ⟨H.length, 0, none⟩) l.length l.length ∧ s 6 = .int .u32 (c : Nat) ∧
      s 7 = .int .i64 (j : Nat) ∧ s 8 = .int .u32 (x : Nat) ∧ s 9 = .int .u32 (y : Nat)) ?_ ?_
    · refine ax_cond2 ?_
      simp only [ev_tmp, ev_const, ev_func, upd_at, put_some, put_none, bndB_bool, Nat.reduceEqDiff, if_true, if_false, ↓reduceIte, reduceCtorEq]
      refine ⟨fun hc0 => have hd := of_decide_eq_true hc0; ?_, fun hc0 => have hd := of_decide_eq_false hc0; ?_⟩
      · obtain ⟨b', i', cp', rfl, hM⟩ := hw.at (by rintro rfl; simp only [List.length_nil] at hd; omega)
        have hr' := (hM.ext hE).rd (k := j) (by omega)
        have hmy : m[j]'(by omega) = y := by rw [← hyy]; simp [show j < m.length by omega]
        rw [hmy] at hr'
        simp -implicitDefEqProofs only [go_sem, Nat.reduceAdd, Nat.reduceSub, Nat.reduceMul, Nat.reduceLT, Nat.reduceLeDiff, Nat.reduceEqDiff, Nat.reduceBEq, Nat.reduceGT, Nat.reduceMod, Nat.reduceDiv, ↓reduceIte, reduceCtorEq, Int.reduceLE, Int.reduceLT, Int.reduceToNat, Int.reduceEq, Int.reduceNeg, Int.reduceAdd, Int.reduceSub, Int.reduceMul, h1, h5, h6, h13, h14, h15, aIndexAddr, hr', hd, hnn, Nat.mul_one]
      · have : y = 0 := by rw [← hyy]; simp [show m.length ≤ j by omega]
        subst this
        simp -implicitDefEqProofs only [go_sem, Nat.reduceAdd, Nat.reduceSub, Nat.reduceMul, Nat.reduceLT, Nat.reduceLeDiff, Nat.reduceEqDiff, Nat.reduceBEq, Nat.reduceGT, Nat.reduceMod, Nat.reduceDiv, ↓reduceIte, reduceCtorEq, Int.reduceLE, Int.reduceLT, Int.reduceToNat, Int.reduceEq, Int.reduceNeg, Int.reduceAdd, Int.reduceSub, Int.reduceMul, h1, h5, h6, h13, h14, h15]
    clear h1 h13 h14 h15 h5 h6
    rintro s T' ⟨rfl, h1, h13, h14, h15, h5, h6, h7, h8, h9⟩
    simp -implicitDefEqProofs only [go_sem, Nat.reduceAdd, Nat.reduceSub, Nat.reduceMul, Nat.reduceLT, Nat.reduceLeDiff, Nat.reduceEqDiff, Nat.reduceBEq, Nat.reduceGT, Nat.reduceMod, Nat.reduceDiv, ↓reduceIte, reduceCtorEq, Int.reduceLE, Int.reduceLT, Int.reduceToNat, Int.reduceEq, Int.reduceNeg, Int.reduceAdd, Int.reduceSub, Int.reduceMul, h5, h6, h7, h8, h9]
    refine wl_callF #[.int .u32 (x : Nat), .int .u32 (y : Nat), .int .u32 (c : Nat)] (by simp -implicitDefEqProofs only [go_sem, Nat.reduceAdd, Nat.reduceSub, Nat.reduceMul, Nat.reduceLT, Nat.reduceLeDiff, Nat.reduceEqDiff, Nat.reduceBEq, Nat.reduceGT, Nat.reduceMod, Nat.reduceDiv, ↓reduceIte, reduceCtorEq, Int.reduceLE, Int.reduceLT, Int.reduceToNat, Int.reduceEq, Int.reduceNeg, Int.reduceAdd, Int.reduceSub, Int.reduceMul]) (sub32_sim hx hy hc) (fun h => by cases h) ?_
    have hlt2 : (j : Int) < (l.length : Int) := by omega
    have hsub := sub_eq hx hy hc
    have hdl := subD_lt x y c
    have hbl := subB_le x y c
    generalize subD x y c = d at hsub hdl ⊢
    generalize subB x y c = c' at hsub hbl ⊢
    have hw2 := hrow.wr (j := j) (x := d) (by omega)
    have a5 : IntKind.i64.wrap ((j : Int) + 1) = ((j + 1 : Nat) : Int) := by rw [w64 (by omega) (by omega)]; rfl
    simp -implicitDefEqProofs only [go_sem, Nat.reduceAdd, Nat.reduceSub, Nat.reduceMul, Nat.reduceLT, Nat.reduceLeDiff, Nat.reduceEqDiff, Nat.reduceBEq, Nat.reduceGT, Nat.reduceMod, Nat.reduceDiv, ↓reduceIte, reduceCtorEq, Int.reduceLE, Int.reduceLT, Int.reduceToNat, Int.reduceEq, Int.reduceNeg, Int.reduceAdd, Int.reduceSub, Int.reduceMul, h1, h13, h14, h15, h5, aIndexAddr, hlt2, hnn, Nat.mul_one, hw2]
    simp only [a5]
    refine ⟨j + 1, ⟨o.set j d, c', ?_⟩, by omega⟩
    refine ⟨rfl, rfl, by omega, hbl, by simpa using ho, small_set hs hdl, ?_, hrow.set, hE.set (Nat.le_refl _) _⟩
    rw [valL_take_set (by omega), valL_take_succ (show j < l.length by omega), hvy, hxx, Nat.pow_succ]
    have := congrArg (4294967296 ^ j * ·) hsub
    simp only [Nat.mul_add] at this
    rw [Nat.mul_assoc]
    omega
  · have hjl : j = l.length := by omega
    subst hjl
    rw [List.take_length, List.take_of_length_le hml, hn.val, hk.val, ← ho, List.take_length] at hval
    have hlt3 := valL_lt hs
    have hc0 : c = 0 := by
      rcases Nat.eq_zero_or_pos c with h | h
      · exact h
      · have : c = 1 := by omega
        subst this
        omega
    subst hc0
    have hlim := (hrow.at (c := l.length) l.length (.inr (Nat.le_refl _)) (by omega) (by omega)).lim
    rw [← ho, List.take_length] at hlim
    obtain ⟨u, htr, hlu⟩ := trim_sim hlim
    simp -implicitDefEqProofs only [go_sem, Nat.reduceAdd, Nat.reduceSub, Nat.reduceMul, Nat.reduceLT, Nat.reduceLeDiff, Nat.reduceEqDiff, Nat.reduceBEq, Nat.reduceGT, Nat.reduceMod, Nat.reduceDiv, ↓reduceIte, reduceCtorEq, Int.reduceLE, Int.reduceLT, Int.reduceToNat, Int.reduceEq, Int.reduceNeg, Int.reduceAdd, Int.reduceSub, Int.reduceMul, h5]
    rw [ho] at htr
    refine wl_callF #[_] (by simp -implicitDefEqProofs only [go_sem, Nat.reduceAdd, Nat.reduceSub, Nat.reduceMul, Nat.reduceLT, Nat.reduceLeDiff, Nat.reduceEqDiff, Nat.reduceBEq, Nat.reduceGT, Nat.reduceMod, Nat.reduceDiv, ↓reduceIte, reduceCtorEq, Int.reduceLE, Int.reduceLT, Int.reduceToNat, Int.reduceEq, Int.reduceNeg, Int.reduceAdd, Int.reduceSub, Int.reduceMul]) htr (fun h => by cases h) ?_
    simp -implicitDefEqProofs only [go_sem, Nat.reduceAdd, Nat.reduceSub, Nat.reduceMul, Nat.reduceLT, Nat.reduceLeDiff, Nat.reduceEqDiff, Nat.reduceBEq, Nat.reduceGT, Nat.reduceMod, Nat.reduceDiv, ↓reduceIte, reduceCtorEq, Int.reduceLE, Int.reduceLT, Int.reduceToNat, Int.reduceEq, Int.reduceNeg, Int.reduceAdd, Int.reduceSub, Int.reduceMul, res247]
    refine ⟨hE, _, hlu, ?_⟩
    have hcn := Canl.of_trim hs
    rw [show valL o = n - k by omega] at hcn
    exact hcn
end Go.Proofs.YthhmkaikopdmjaaGreat
