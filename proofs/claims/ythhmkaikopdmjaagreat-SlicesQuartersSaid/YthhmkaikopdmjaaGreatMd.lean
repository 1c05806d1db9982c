/- bigint: digit; bigint: divide. Conditions: none. -/
import Derived.Test.YthhmkaikopdmjaaGreatMc
set_option linter.unusedSimpArgs false
set_option linter.unusedVariables false
set_option maxRecDepth 8000
namespace Go.Proofs.YthhmkaikopdmjaaGreat
open Go Go.Fw

theorem digit_sim {T : Heap} {b bv iv cu cv : Nat} {u m : List Nat} {X V i : Nat} (hrow : Row T b u) (hM : LimAt T bv iv cv m) (hb : bv ≠ b) (hu : small u) (hm : small m) (hX : valL u = X) (hV : valL m = V) (hk : 2 ≤ m.length) (hi : i + m.length < u.length) (htop : 2147483648 ≤ m.getD (m.length - 1) 0)
    (hlt : X < V * 4294967296 ^ (i + 1)) (hul : u.length ≤ 10000001) :
    ∃ H', Sim Tryz.prog 265 #[.slice (some ⟨b, 0, none⟩) u.length cu, .slice (some ⟨bv, iv, none⟩) m.length cv, .int .i64 (i : Nat)] T (.int .u32 (X / (V * 4294967296 ^ i) : Nat)) H' ∧
      ∃ u', H' = T.set b ⟨u32s u', 1, true⟩ ∧ u'.length = u.length ∧ small u' ∧ valL u' = X % (V * 4294967296 ^ i) := by
  suffices hx : ∃ w H', Sim Tryz.prog 265 #[.slice (some ⟨b, 0, none⟩) u.length cu, .slice (some ⟨bv, iv, none⟩) m.length cv, .int .i64 (i : Nat)] T w H' ∧ w = .int .u32 (X / (V * 4294967296 ^ i) : Nat) ∧
      ∃ u', H' = T.set b ⟨u32s u', 1, true⟩ ∧ u'.length = u.length ∧ small u' ∧ valL u' = X % (V * 4294967296 ^ i) by
    obtain ⟨w, H', h1, rfl, h2⟩ := hx
    exact ⟨H', h1, h2⟩
  have kn := KN.of hu hm hX hV hk hi htop hlt
  have hql := kn.qlt
  obtain ⟨q, hq⟩ : ∃ q, q = X / (V * 4294967296 ^ i) := ⟨_, rfl⟩
  rw [← hq] at hql ⊢
  have hVp := kn.vpos
  have hXl : X < 4294967296 ^ (i + m.length + 1) := by
    refine Nat.lt_of_lt_of_le hlt ?_
    rw [show i + m.length + 1 = m.length + (i + 1) by omega, Nat.pow_add 4294967296 m.length (i + 1)]
    exact Nat.mul_le_mul_right _ (by rw [← hV]; exact Nat.le_of_lt (valL_lt hm))
  have hhigh : u.drop (i + m.length + 1) = List.replicate (u.length - (i + m.length + 1)) 0 := valL_high hu (by rw [hX]; exact hXl)
  -- what is read
  have rv : ∀ B : Blk, ∀ j, (hj : j < m.length) → rd (T.set b B) bv (iv + j) 1 = some [.int .u32 (m[j] : Nat)] := fun B j hj => (hM.set hb B).rd hj
  have ru1 := hrow.rd (j := i + m.length) hi
  have ru2 := hrow.rd (j := i + m.length - 1) (by omega)
  have ru3 := hrow.rd (j := i + m.length - 2) (by omega)
  have rv1 := hM.rd (k := m.length - 1) (by omega)
  have rv2 := hM.rd (k := m.length - 2) (by omega)
  have g1 : u.getD (i + m.length) 0 = u[i + m.length]'hi := by simp [hi]
  have g2 : u.getD (i + m.length - 1) 0 = u[i + m.length - 1]'(by omega) := by simp [show i + m.length - 1 < u.length by omega]
  have g3 : u.getD (i + m.length - 2) 0 = u[i + m.length - 2]'(by omega) := by simp [show i + m.length - 2 < u.length by omega]
  have g4 : m.getD (m.length - 1) 0 = m[m.length - 1]'(by omega) := by simp [show m.length - 1 < m.length by omega]
  have g5 : m.getD (m.length - 2) 0 = m[m.length - 2]'(by omega) := by simp [show m.length - 2 < m.length by omega]
  rw [g1, g2, g3, g4, g5] at kn
  generalize u[i + m.length]'hi = uh at *
  generalize u[i + m.length - 1]'(by omega) = ul at *
  generalize u[i + m.length - 2]'(by omega) = u0 at *
  generalize m[m.length - 1]'(by omega) = v1 at *
  generalize m[m.length - 2]'(by omega) = v2 at *
  clear g1 g2 g3 g4 g5
  obtain ⟨hv1h, hv1l, hv2l, huhl, hull, hu0l, hk2, -, -, -, -, -⟩ := id kn
  have hfirst := kn.first
  rw [← hq] at hfirst
  have kund : ∀ {g r : Nat}, g * v1 + r = uh * 4294967296 + ul → g < 4294967296 → (4294967296 ≤ r ∨ g * v2 ≤ r * 4294967296 + u0) → (g - 1) * (V * 4294967296 ^ i) ≤ X := fun a b c => kn.under a b c
  have kover : ∀ {g r : Nat}, g * v1 + r = uh * 4294967296 + ul → r * 4294967296 + u0 < g * v2 → q < g := fun a b => by rw [hq]; exact kn.over a b
  clear kn
  have w1 : IntKind.i64.wrap ((i : Int) + (m.length : Int)) = ((i + m.length : Nat) : Int) := by rw [addc, w64n (by omega)]
  have w2 : IntKind.i64.wrap (((i + m.length : Nat) : Int) - 1) = ((i + m.length - 1 : Nat) : Int) := by rw [w64 (by omega) (by omega)]; omega
  have w3 : IntKind.i64.wrap (((i + m.length : Nat) : Int) - 2) = ((i + m.length - 2 : Nat) : Int) := by rw [w64 (by omega) (by omega)]; omega
  have w4 : IntKind.i64.wrap ((m.length : Int) - 1) = ((m.length - 1 : Nat) : Int) := by rw [w64 (by omega) (by omega)]; omega
  have w5 : IntKind.i64.wrap ((m.length : Int) - 2) = ((m.length - 2 : Nat) : Int) := by rw [w64 (by omega) (by omega)]; omega
  have i1 : (0 : Int) ≤ ((i + m.length : Nat) : Int) ∧ ((i + m.length : Nat) : Int) < (u.length : Int) := by omega
  have i2 : (0 : Int) ≤ ((i + m.length - 1 : Nat) : Int) ∧ ((i + m.length - 1 : Nat) : Int) < (u.length : Int) := by omega
  have i3 : (0 : Int) ≤ ((i + m.length - 2 : Nat) : Int) ∧ ((i + m.length - 2 : Nat) : Int) < (u.length : Int) := by omega
  have i4 : (0 : Int) ≤ ((m.length - 1 : Nat) : Int) ∧ ((m.length - 1 : Nat) : Int) < (m.length : Int) := by omega
  have i5 : (0 : Int) ≤ ((m.length - 2 : Nat) : Int) ∧ ((m.length - 2 : Nat) : Int) < (m.length : Int) := by omega
  have h32 : ¬ ((32 : Int) < 0) := by omega
  have c1 := wu64n (n := uh) (by omega)
  have c2 := wu64n (n := ul) (by omega)
  have c3 := wu64n (n := u0) (by omega)
  have c4 := wu64n (n := v1) (by omega)
  have c5 := wu64n (n := v2) (by omega)
  have s1 : IntKind.u64.wrap ((uh : Int) * 2 ^ 32) = ((uh * 2 ^ 32 : Nat) : Int) := by
    rw [show ((uh : Int) * 2 ^ 32) = ((uh * 2 ^ 32 : Nat) : Int) by simp, wu64n (by omega)]
  have s2 := or_u64 (a := uh * 2 ^ 32) (b := ul) (by omega) (by omega)
  have s3 : uh * 2 ^ 32 ||| ul = uh * 4294967296 + ul := by rw [Nat.or_comm, or_add (by omega)]; omega
  rw [s3] at s2
  have htl : uh * 4294967296 + ul < 18446744073709551616 := by omega
  have tdm := Nat.div_add_mod (uh * 4294967296 + ul) v1
  have tml := Nat.mod_lt (uh * 4294967296 + ul) (show 0 < v1 by omega)
  have td := tdiv_nat (uh * 4294967296 + ul) v1
  have tm := tmod_nat (uh * 4294967296 + ul) v1
  have tdl := Nat.div_le_self (uh * 4294967296 + ul) v1
  have v1n : ¬ ((v1 : Int) = 0) := by omega
  have e1 : aLen tt [163] (.slice (some ⟨bv, iv, none⟩) m.length cv) = some (.int .i64 (m.length : Nat)) := rfl
  refine sim_ex tok mixed Tryz.func265 rfl (by kernel_rfl) (by kernel_rfl) (by simp only [Tryz.ntmps265, List.size_toArray, List.length_cons, List.length_nil]; omega) ?_
  simp -implicitDefEqProofs only [go_sem, Nat.reduceAdd, Nat.reduceSub, Nat.reduceMul, Nat.reduceLT, Nat.reduceLeDiff, Nat.reduceEqDiff, Nat.reduceBEq, Nat.reduceGT, Nat.reduceMod, Nat.reduceDiv, ↓reduceIte, reduceCtorEq, Int.reduceLE, Int.reduceLT, Int.reduceToNat, Int.reduceEq, Int.reduceNeg, Int.reduceAdd, Int.reduceSub, Int.reduceMul, e1]
  refine ax_quiet (by kernel_rfl) ?_
  simp -implicitDefEqProofs only [go_sem, Nat.reduceAdd, Nat.reduceSub, Nat.reduceMul, Nat.reduceLT, Nat.reduceLeDiff, Nat.reduceEqDiff, Nat.reduceBEq, Nat.reduceGT, Nat.reduceMod, Nat.reduceDiv, ↓reduceIte, reduceCtorEq, Int.reduceLE, Int.reduceLT, Int.reduceToNat, Int.reduceEq, Int.reduceNeg, Int.reduceAdd, Int.reduceSub, Int.reduceMul, aIndexAddr, w1, w2, i1, i2, Nat.mul_one, ru1, ru2, aConv, c1, c2, s1, s2, h32, min_lit32]
  generalize uh * 4294967296 + ul = top at *
  generalize top / v1 = g0 at *
  generalize top % v1 = r0 at *
  have c6 := wu64n (n := g0) (by omega)
  have c7 := wu64n (n := r0) (by omega)
  refine ax_quiet (by kernel_rfl) ?_
  simp -implicitDefEqProofs only [go_sem, Nat.reduceAdd, Nat.reduceSub, Nat.reduceMul, Nat.reduceLT, Nat.reduceLeDiff, Nat.reduceEqDiff, Nat.reduceBEq, Nat.reduceGT, Nat.reduceMod, Nat.reduceDiv, ↓reduceIte, reduceCtorEq, Int.reduceLE, Int.reduceLT, Int.reduceToNat, Int.reduceEq, Int.reduceNeg, Int.reduceAdd, Int.reduceSub, Int.reduceMul, aIndexAddr, w4, i4, Nat.mul_one, rv1, aConv, c4, c6, c7, v1n, td, tm]
  have hT := hrow.self
  -- the guess
  refine ax_midl (fun s T' => ∃ g : Nat, T' = T ∧ s 0 = .slice (some ⟨b, 0, none⟩) u.length cu ∧ s 1 = .slice (some ⟨bv, iv, none⟩) m.length cv ∧ s 2 = .int .i64 (i : Nat) ∧ s 7 = .int .i64 (m.length : Nat) ∧ s 9 = .int .u64 (g : Nat) ∧
      g < 4294967296 ∧ q ≤ g ∧ (g - 1) * (V * 4294967296 ^ i) ≤ X) ?_ ?_
  · refine ax_loopx (fun (g : Nat) s T' => ∃ r : Nat, T' = T ∧ s 0 = .slice (some ⟨b, 0, none⟩) u.length cu ∧ s 1 = .slice (some ⟨bv, iv, none⟩) m.length cv ∧ s 2 = .int .i64 (i : Nat) ∧ s 7 = .int .i64 (m.length : Nat) ∧ s 9 = .int .u64 (g : Nat) ∧ s 10 = .int .u64 (r : Nat) ∧
        g * v1 + r = top ∧ q ≤ g ∧ g < 18446744073709551616) (fun g => g) g0 ?_ ?_
    · refine ⟨r0, ?_⟩
      simp -implicitDefEqProofs only [go_sem, Nat.reduceAdd, Nat.reduceSub, Nat.reduceMul, Nat.reduceLT, Nat.reduceLeDiff, Nat.reduceEqDiff, Nat.reduceBEq, Nat.reduceGT, Nat.reduceMod, Nat.reduceDiv, ↓reduceIte, reduceCtorEq, Int.reduceLE, Int.reduceLT, Int.reduceToNat, Int.reduceEq, Int.reduceNeg, Int.reduceAdd, Int.reduceSub, Int.reduceMul]
      exact ⟨by rw [Nat.mul_comm]; exact tdm, hfirst, by omega⟩
    rintro g s T' ⟨r, rfl, h0, h1, h2, h7, h9, h10, hgr, hqg, hgl⟩
    have f1 := fdiv_pow g 32
    have f2 := fdiv_pow r 32
    have hrt : r ≤ top := by rw [← hgr]; omega
    -- one more round
    have next : q < g → ∃ g' r' : Nat, g = g' + 1 ∧ IntKind.u64.wrap ((g : Int) - 1) = (g' : Int) ∧ IntKind.u64.wrap ((r : Int) + (v1 : Int)) = (r' : Int) ∧ g' * v1 + r' = top ∧ q ≤ g' ∧ (r' = r + v1) ∧ r' ≤ top := by
      intro h
      obtain ⟨g', rfl⟩ : ∃ g', g = g' + 1 := ⟨g - 1, by omega⟩
      rw [Nat.add_mul, Nat.one_mul] at hgr
      have : r + v1 ≤ top := by rw [← hgr]; omega
      have hg1 : ((g' + 1 : Nat) : Int) - 1 = (g' : Int) := by omega
      refine ⟨g', r + v1, rfl, by rw [hg1, wu64n (by omega)], by rw [addc, wu64n (by omega)], by omega, by omega, rfl, this⟩
    simp -implicitDefEqProofs only [wa_seq]
    refine ax_quiet (by kernel_rfl) ?_
    by_cases hA : 4294967296 ≤ g
    · have d1 : (0 : Int) < ((g / 2 ^ 32 : Nat) : Int) := by omega
      simp -implicitDefEqProofs only [go_sem, Nat.reduceAdd, Nat.reduceSub, Nat.reduceMul, Nat.reduceLT, Nat.reduceLeDiff, Nat.reduceEqDiff, Nat.reduceBEq, Nat.reduceGT, Nat.reduceMod, Nat.reduceDiv, ↓reduceIte, reduceCtorEq, Int.reduceLE, Int.reduceLT, Int.reduceToNat, Int.reduceEq, Int.reduceNeg, Int.reduceAdd, Int.reduceSub, Int.reduceMul, h0, h1, h2, h7, h9, h10, f1, h32, min_lit32, d1]
      refine ax_cond2 ?_
      simp only [ev_tmp, ev_const, ev_func, upd_at, put_some, put_none, bndB_bool, Nat.reduceEqDiff, if_true, if_false, ↓reduceIte, reduceCtorEq]
      refine ⟨fun _ => ?_, fun hc => hc.elim⟩
      obtain ⟨g', r', rfl, n1, n2, n3, n4, n5, n6⟩ := next (by omega)
      have f3 := fdiv_pow r' 32
      have f4 := fdiv_pow g' 32
      simp -implicitDefEqProofs only [go_sem, Nat.reduceAdd, Nat.reduceSub, Nat.reduceMul, Nat.reduceLT, Nat.reduceLeDiff, Nat.reduceEqDiff, Nat.reduceBEq, Nat.reduceGT, Nat.reduceMod, Nat.reduceDiv, ↓reduceIte, reduceCtorEq, Int.reduceLE, Int.reduceLT, Int.reduceToNat, Int.reduceEq, Int.reduceNeg, Int.reduceAdd, Int.reduceSub, Int.reduceMul, h0, h1, h2, h7, h9, h10, n1, aIndexAddr, w4, i4, Nat.mul_one, rv1, aConv, c4, n2, f3, h32, min_lit32]
      by_cases hB : 4294967296 ≤ r'
      · have d2 : (0 : Int) < ((r' / 2 ^ 32 : Nat) : Int) := by omega
        by_cases hC : 4294967296 ≤ g'
        · have d3 : ¬ ((g' / 2 ^ 32 : Nat) : Int) = 0 := by omega
          simp -implicitDefEqProofs only [go_sem, Nat.reduceAdd, Nat.reduceSub, Nat.reduceMul, Nat.reduceLT, Nat.reduceLeDiff, Nat.reduceEqDiff, Nat.reduceBEq, Nat.reduceGT, Nat.reduceMod, Nat.reduceDiv, ↓reduceIte, reduceCtorEq, Int.reduceLE, Int.reduceLT, Int.reduceToNat, Int.reduceEq, Int.reduceNeg, Int.reduceAdd, Int.reduceSub, Int.reduceMul, d2, f4, h32, min_lit32, d3]
          refine ax_cond2 ?_
          simp only [ev_tmp, ev_const, ev_func, upd_at, put_some, put_none, bndB_bool, Nat.reduceEqDiff, if_true, if_false, ↓reduceIte, reduceCtorEq]
          refine ⟨fun hc => hc.elim, fun _ => ?_⟩
          simp -implicitDefEqProofs only [go_sem, Nat.reduceAdd, Nat.reduceSub, Nat.reduceMul, Nat.reduceLT, Nat.reduceLeDiff, Nat.reduceEqDiff, Nat.reduceBEq, Nat.reduceGT, Nat.reduceMod, Nat.reduceDiv, ↓reduceIte, reduceCtorEq, Int.reduceLE, Int.reduceLT, Int.reduceToNat, Int.reduceEq, Int.reduceNeg, Int.reduceAdd, Int.reduceSub, Int.reduceMul, h0, h1, h2, h7]
          exact ⟨g', ⟨r', rfl, rfl, n3, n4, by omega⟩, by omega⟩
        · have d3 : ((g' / 2 ^ 32 : Nat) : Int) = 0 := by omega
          simp -implicitDefEqProofs only [go_sem, Nat.reduceAdd, Nat.reduceSub, Nat.reduceMul, Nat.reduceLT, Nat.reduceLeDiff, Nat.reduceEqDiff, Nat.reduceBEq, Nat.reduceGT, Nat.reduceMod, Nat.reduceDiv, ↓reduceIte, reduceCtorEq, Int.reduceLE, Int.reduceLT, Int.reduceToNat, Int.reduceEq, Int.reduceNeg, Int.reduceAdd, Int.reduceSub, Int.reduceMul, d2, f4, h32, min_lit32, d3]
          refine ax_cond2 ?_
          simp only [ev_tmp, ev_const, ev_func, upd_at, put_some, put_none, bndB_bool, Nat.reduceEqDiff, if_true, if_false, ↓reduceIte, reduceCtorEq]
          refine ⟨fun _ => ?_, fun hc => hc.elim⟩
          simp -implicitDefEqProofs only [go_sem, Nat.reduceAdd, Nat.reduceSub, Nat.reduceMul, Nat.reduceLT, Nat.reduceLeDiff, Nat.reduceEqDiff, Nat.reduceBEq, Nat.reduceGT, Nat.reduceMod, Nat.reduceDiv, ↓reduceIte, reduceCtorEq, Int.reduceLE, Int.reduceLT, Int.reduceToNat, Int.reduceEq, Int.reduceNeg, Int.reduceAdd, Int.reduceSub, Int.reduceMul, h0, h1, h2, h7]
          exact ⟨g', rfl, by omega, n4, kund n3 (by omega) (.inl hB)⟩
      · have d2 : ¬ (0 : Int) < ((r' / 2 ^ 32 : Nat) : Int) := by omega
        simp -implicitDefEqProofs only [go_sem, Nat.reduceAdd, Nat.reduceSub, Nat.reduceMul, Nat.reduceLT, Nat.reduceLeDiff, Nat.reduceEqDiff, Nat.reduceBEq, Nat.reduceGT, Nat.reduceMod, Nat.reduceDiv, ↓reduceIte, reduceCtorEq, Int.reduceLE, Int.reduceLT, Int.reduceToNat, Int.reduceEq, Int.reduceNeg, Int.reduceAdd, Int.reduceSub, Int.reduceMul, d2]
        refine ax_cond2 ?_
        simp only [ev_tmp, ev_const, ev_func, upd_at, put_some, put_none, bndB_bool, Nat.reduceEqDiff, if_true, if_false, ↓reduceIte, reduceCtorEq]
        refine ⟨fun hc => hc.elim, fun _ => ?_⟩
        simp -implicitDefEqProofs only [go_sem, Nat.reduceAdd, Nat.reduceSub, Nat.reduceMul, Nat.reduceLT, Nat.reduceLeDiff, Nat.reduceEqDiff, Nat.reduceBEq, Nat.reduceGT, Nat.reduceMod, Nat.reduceDiv, ↓reduceIte, reduceCtorEq, Int.reduceLE, Int.reduceLT, Int.reduceToNat, Int.reduceEq, Int.reduceNeg, Int.reduceAdd, Int.reduceSub, Int.reduceMul, h0, h1, h2, h7]
        exact ⟨g', ⟨r', rfl, rfl, n3, n4, by omega⟩, by omega⟩
    · have d1 : ¬ (0 : Int) < ((g / 2 ^ 32 : Nat) : Int) := by omega
      by_cases hB : 4294967296 ≤ r
      · have d2 : ¬ ((r / 2 ^ 32 : Nat) : Int) = 0 := by omega
        simp -implicitDefEqProofs only [go_sem, Nat.reduceAdd, Nat.reduceSub, Nat.reduceMul, Nat.reduceLT, Nat.reduceLeDiff, Nat.reduceEqDiff, Nat.reduceBEq, Nat.reduceGT, Nat.reduceMod, Nat.reduceDiv, ↓reduceIte, reduceCtorEq, Int.reduceLE, Int.reduceLT, Int.reduceToNat, Int.reduceEq, Int.reduceNeg, Int.reduceAdd, Int.reduceSub, Int.reduceMul, h0, h1, h2, h7, h9, h10, f1, f2, h32, min_lit32, d1, d2]
        refine ax_cond2 ?_
        simp only [ev_tmp, ev_const, ev_func, upd_at, put_some, put_none, bndB_bool, Nat.reduceEqDiff, if_true, if_false, ↓reduceIte, reduceCtorEq]
        refine ⟨fun hc => hc.elim, fun _ => ?_⟩
        simp -implicitDefEqProofs only [go_sem, Nat.reduceAdd, Nat.reduceSub, Nat.reduceMul, Nat.reduceLT, Nat.reduceLeDiff, Nat.reduceEqDiff, Nat.reduceBEq, Nat.reduceGT, Nat.reduceMod, Nat.reduceDiv, ↓reduceIte, reduceCtorEq, Int.reduceLE, Int.reduceLT, Int.reduceToNat, Int.reduceEq, Int.reduceNeg, Int.reduceAdd, Int.reduceSub, Int.reduceMul, h0, h1, h2, h7, h9]
        exact ⟨g, rfl, by omega, hqg, kund hgr (by omega) (.inl hB)⟩
      · have d2 : ((r / 2 ^ 32 : Nat) : Int) = 0 := by omega
        have hgv : g * v2 ≤ 4294967295 * 4294967295 := Nat.mul_le_mul (by omega) (by omega)
        have m1 : IntKind.u64.wrap ((g : Int) * (v2 : Int)) = ((g * v2 : Nat) : Int) := by rw [mulc, wu64n (by omega)]
        have m2 : IntKind.u64.wrap ((r : Int) * 2 ^ 32) = ((r * 2 ^ 32 : Nat) : Int) := by
          rw [show ((r : Int) * 2 ^ 32) = ((r * 2 ^ 32 : Nat) : Int) by simp, wu64n (by omega)]
        have m3 := or_u64 (a := r * 2 ^ 32) (b := u0) (by omega) (by omega)
        have m4 : r * 2 ^ 32 ||| u0 = r * 4294967296 + u0 := by rw [Nat.or_comm, or_add (by omega)]; omega
        rw [m4] at m3
        by_cases hC : r * 4294967296 + u0 < g * v2
        · have d3 : ((r * 4294967296 + u0 : Nat) : Int) < ((g * v2 : Nat) : Int) := by omega
          simp -implicitDefEqProofs only [go_sem, Nat.reduceAdd, Nat.reduceSub, Nat.reduceMul, Nat.reduceLT, Nat.reduceLeDiff, Nat.reduceEqDiff, Nat.reduceBEq, Nat.reduceGT, Nat.reduceMod, Nat.reduceDiv, ↓reduceIte, reduceCtorEq, Int.reduceLE, Int.reduceLT, Int.reduceToNat, Int.reduceEq, Int.reduceNeg, Int.reduceAdd, Int.reduceSub, Int.reduceMul, h0, h1, h2, h7, h9, h10, f1, f2, h32, min_lit32, d1, d2, aIndexAddr, w1, w3, w5, i3, i5, Nat.mul_one, rv2, ru3, aConv, c3, c5, m1, m2, m3, d3]
          refine ax_cond2 ?_
          simp only [ev_tmp, ev_const, ev_func, upd_at, put_some, put_none, bndB_bool, Nat.reduceEqDiff, if_true, if_false, ↓reduceIte, reduceCtorEq]
          refine ⟨fun _ => ?_, fun hc => hc.elim⟩
          have hov := kover hgr hC
          obtain ⟨g', r', rfl, n1, n2, n3, n4, n5, n6⟩ := next hov
          have f3 := fdiv_pow r' 32
          have f4 := fdiv_pow g' 32
          have d5 : ((g' / 2 ^ 32 : Nat) : Int) = 0 := by omega
          simp -implicitDefEqProofs only [go_sem, Nat.reduceAdd, Nat.reduceSub, Nat.reduceMul, Nat.reduceLT, Nat.reduceLeDiff, Nat.reduceEqDiff, Nat.reduceBEq, Nat.reduceGT, Nat.reduceMod, Nat.reduceDiv, ↓reduceIte, reduceCtorEq, Int.reduceLE, Int.reduceLT, Int.reduceToNat, Int.reduceEq, Int.reduceNeg, Int.reduceAdd, Int.reduceSub, Int.reduceMul, h0, h1, h2, h7, h9, h10, n1, aIndexAddr, w4, i4, Nat.mul_one, rv1, aConv, c4, n2, f3, h32, min_lit32]
          by_cases hD : 4294967296 ≤ r'
          · have d4 : (0 : Int) < ((r' / 2 ^ 32 : Nat) : Int) := by omega
            simp -implicitDefEqProofs only [go_sem, Nat.reduceAdd, Nat.reduceSub, Nat.reduceMul, Nat.reduceLT, Nat.reduceLeDiff, Nat.reduceEqDiff, Nat.reduceBEq, Nat.reduceGT, Nat.reduceMod, Nat.reduceDiv, ↓reduceIte, reduceCtorEq, Int.reduceLE, Int.reduceLT, Int.reduceToNat, Int.reduceEq, Int.reduceNeg, Int.reduceAdd, Int.reduceSub, Int.reduceMul, d4, f4, h32, min_lit32, d5]
            refine ax_cond2 ?_
            simp only [ev_tmp, ev_const, ev_func, upd_at, put_some, put_none, bndB_bool, Nat.reduceEqDiff, if_true, if_false, ↓reduceIte, reduceCtorEq]
            refine ⟨fun _ => ?_, fun hc => hc.elim⟩
            simp -implicitDefEqProofs only [go_sem, Nat.reduceAdd, Nat.reduceSub, Nat.reduceMul, Nat.reduceLT, Nat.reduceLeDiff, Nat.reduceEqDiff, Nat.reduceBEq, Nat.reduceGT, Nat.reduceMod, Nat.reduceDiv, ↓reduceIte, reduceCtorEq, Int.reduceLE, Int.reduceLT, Int.reduceToNat, Int.reduceEq, Int.reduceNeg, Int.reduceAdd, Int.reduceSub, Int.reduceMul, h0, h1, h2, h7]
            exact ⟨g', rfl, by omega, n4, kund n3 (by omega) (.inl hD)⟩
          · have d4 : ¬ (0 : Int) < ((r' / 2 ^ 32 : Nat) : Int) := by omega
            simp -implicitDefEqProofs only [go_sem, Nat.reduceAdd, Nat.reduceSub, Nat.reduceMul, Nat.reduceLT, Nat.reduceLeDiff, Nat.reduceEqDiff, Nat.reduceBEq, Nat.reduceGT, Nat.reduceMod, Nat.reduceDiv, ↓reduceIte, reduceCtorEq, Int.reduceLE, Int.reduceLT, Int.reduceToNat, Int.reduceEq, Int.reduceNeg, Int.reduceAdd, Int.reduceSub, Int.reduceMul, d4]
            refine ax_cond2 ?_
            simp only [ev_tmp, ev_const, ev_func, upd_at, put_some, put_none, bndB_bool, Nat.reduceEqDiff, if_true, if_false, ↓reduceIte, reduceCtorEq]
            refine ⟨fun hc => hc.elim, fun _ => ?_⟩
            simp -implicitDefEqProofs only [go_sem, Nat.reduceAdd, Nat.reduceSub, Nat.reduceMul, Nat.reduceLT, Nat.reduceLeDiff, Nat.reduceEqDiff, Nat.reduceBEq, Nat.reduceGT, Nat.reduceMod, Nat.reduceDiv, ↓reduceIte, reduceCtorEq, Int.reduceLE, Int.reduceLT, Int.reduceToNat, Int.reduceEq, Int.reduceNeg, Int.reduceAdd, Int.reduceSub, Int.reduceMul, h0, h1, h2, h7]
            exact ⟨g', ⟨r', rfl, rfl, n3, n4, by omega⟩, by omega⟩
        · have d3 : ¬ ((r * 4294967296 + u0 : Nat) : Int) < ((g * v2 : Nat) : Int) := by omega
          simp -implicitDefEqProofs only [go_sem, Nat.reduceAdd, Nat.reduceSub, Nat.reduceMul, Nat.reduceLT, Nat.reduceLeDiff, Nat.reduceEqDiff, Nat.reduceBEq, Nat.reduceGT, Nat.reduceMod, Nat.reduceDiv, ↓reduceIte, reduceCtorEq, Int.reduceLE, Int.reduceLT, Int.reduceToNat, Int.reduceEq, Int.reduceNeg, Int.reduceAdd, Int.reduceSub, Int.reduceMul, h0, h1, h2, h7, h9, h10, f1, f2, h32, min_lit32, d1, d2, aIndexAddr, w1, w3, w5, i3, i5, Nat.mul_one, rv2, ru3, aConv, c3, c5, m1, m2, m3, d3]
          refine ax_cond2 ?_
          simp only [ev_tmp, ev_const, ev_func, upd_at, put_some, put_none, bndB_bool, Nat.reduceEqDiff, if_true, if_false, ↓reduceIte, reduceCtorEq]
          refine ⟨fun hc => hc.elim, fun _ => ?_⟩
          simp -implicitDefEqProofs only [go_sem, Nat.reduceAdd, Nat.reduceSub, Nat.reduceMul, Nat.reduceLT, Nat.reduceLeDiff, Nat.reduceEqDiff, Nat.reduceBEq, Nat.reduceGT, Nat.reduceMod, Nat.reduceDiv, ↓reduceIte, reduceCtorEq, Int.reduceLE, Int.reduceLT, Int.reduceToNat, Int.reduceEq, Int.reduceNeg, Int.reduceAdd, Int.reduceSub, Int.reduceMul, h0, h1, h2, h7, h9]
          exact ⟨g, rfl, by omega, hqg, kund hgr (by omega) (.inr (by omega))⟩
  rintro s T' ⟨g, hTT, h0, h1, h2, h7, h9, hgl, hqg, hund⟩
  subst T'
  clear kund kover hfirst tdm tml td tm tdl v1n s1 s2 c1 c2 c3 c4 c5 c6 c7 w2 w3 w4 w5 i2 i3 i4 i5 ru1 ru2 ru3 rv1 rv2
  simp -implicitDefEqProofs only [go_sem, Nat.reduceAdd, Nat.reduceSub, Nat.reduceMul, Nat.reduceLT, Nat.reduceLeDiff, Nat.reduceEqDiff, Nat.reduceBEq, Nat.reduceGT, Nat.reduceMod, Nat.reduceDiv, ↓reduceIte, reduceCtorEq, Int.reduceLE, Int.reduceLT, Int.reduceToNat, Int.reduceEq, Int.reduceNeg, Int.reduceAdd, Int.reduceSub, Int.reduceMul, h1, e1]
  refine ax_loopx (fun (j : Nat) s T' => ∃ (o : List Nat) (c bw : Nat), s 0 = .slice (some ⟨b, 0, none⟩) u.length cu ∧ s 1 = .slice (some ⟨bv, iv, none⟩) m.length cv ∧ s 2 = .int .i64 (i : Nat) ∧ s 7 = .int .i64 (m.length : Nat) ∧ s 9 = .int .u64 (g : Nat) ∧
      s 11 = .int .u64 (c : Nat) ∧ s 12 = .int .u32 (bw : Nat) ∧ s 101 = .slice (some ⟨bv, iv, none⟩) m.length cv ∧ s 102 = .int .i64 (m.length : Nat) ∧ s 103 = .int .i64 (j : Nat) ∧ j ≤ m.length ∧ c < 4294967296 ∧ bw ≤ 1 ∧ o.length = u.length ∧ small o ∧
      o.drop (i + m.length + 1) = List.replicate (u.length - (i + m.length + 1)) 0 ∧ valL o + 4294967296 ^ i * (g * valL (m.take j)) = X + 4294967296 ^ (i + j) * (c + bw) ∧ T' = T.set b ⟨u32s o, 1, true⟩) (fun j => m.length - j) 0 ?_ ?_
  · refine ⟨u, 0, 0, ?_⟩
    simp -implicitDefEqProofs only [go_sem, Nat.reduceAdd, Nat.reduceSub, Nat.reduceMul, Nat.reduceLT, Nat.reduceLeDiff, Nat.reduceEqDiff, Nat.reduceBEq, Nat.reduceGT, Nat.reduceMod, Nat.reduceDiv, ↓reduceIte, reduceCtorEq, Int.reduceLE, Int.reduceLT, Int.reduceToNat, Int.reduceEq, Int.reduceNeg, Int.reduceAdd, Int.reduceSub, Int.reduceMul, h0, h1, h2, h7, h9, hT]
    exact ⟨hu, hhigh, by simp [valL, hX]⟩
  clear h0 h1 h2 h7 h9
  rintro j s T' ⟨o, c, bw, h0, h1, h2, h7, h9, h11, h12, h101, h102, h103, hj, hc, hbw, ho, hs, hz, hval, hTT⟩
  subst T'
  simp -implicitDefEqProofs only [go_sem, Nat.reduceAdd, Nat.reduceSub, Nat.reduceMul, Nat.reduceLT, Nat.reduceLeDiff, Nat.reduceEqDiff, Nat.reduceBEq, Nat.reduceGT, Nat.reduceMod, Nat.reduceDiv, ↓reduceIte, reduceCtorEq, Int.reduceLE, Int.reduceLT, Int.reduceToNat, Int.reduceEq, Int.reduceNeg, Int.reduceAdd, Int.reduceSub, Int.reduceMul, h101, h102, h103]
  refine ax_cond2 ?_
  simp only [ev_tmp, ev_const, ev_func, upd_at, put_some, put_none, bndB_bool, Nat.reduceEqDiff, if_true, if_false, ↓reduceIte, reduceCtorEq]
  refine ⟨fun hc0 => have hjm := of_decide_eq_true hc0; ?_, fun hc0 => have hjm := of_decide_eq_false hc0; ?_⟩
  · have hr := rv ⟨u32s o, 1, true⟩ j (by omega)
    have hx := small_get hm (k := j) (by omega)
    have hts := valL_take_succ (l := m) (k := j) (by omega)
    generalize hxx : m[j]'(by omega) = x at hr hx hts
    have hnn : (0 : Int) ≤ (j : Int) := by omega
    have hro := hrow.rdS (o := o) (j := i + j) (by omega)
    have hd := small_get hs (k := i + j) (by omega)
    have hset := fun z => valL_set (l := o) (k := i + j) (x := z) (by omega)
    generalize hdd : o[i + j]'(by omega) = d at hro hd hset
    have hgx : g * x ≤ 4294967295 * 4294967295 := Nat.mul_le_mul (by omega) (by omega)
    have a1 := wu64n (n := x) (by omega)
    have a2 : IntKind.u64.wrap ((g : Int) * (x : Int)) = ((g * x : Nat) : Int) := by rw [mulc, wu64n (by omega)]
    have a3 : IntKind.u64.wrap ((c : Int) + ((g * x : Nat) : Int)) = ((c + g * x : Nat) : Int) := by rw [addc, wu64n (by omega)]
    have a4 := low_u32 (c + g * x)
    have a5 := fdiv_pow (c + g * x) 32
    have a6 : IntKind.i64.wrap ((i : Int) + (j : Int)) = ((i + j : Nat) : Int) := by rw [addc, w64n (by omega)]
    have a7 : IntKind.i64.wrap ((j : Int) + 1) = ((j + 1 : Nat) : Int) := by rw [w64 (by omega) (by omega)]; rfl
    have hlt2 : ((i + j : Nat) : Int) < (u.length : Int) := by omega
    have hnn2 : (0 : Int) ≤ ((i + j : Nat) : Int) := by omega
    have hlo : (c + g * x) % 4294967296 < 4294967296 := Nat.mod_lt _ (by decide)
    have hsub := sub_eq hd hlo hbw
    have hdl := subD_lt d ((c + g * x) % 4294967296) bw
    have hbl := subB_le d ((c + g * x) % 4294967296) bw
    simp -implicitDefEqProofs only [go_sem, Nat.reduceAdd, Nat.reduceSub, Nat.reduceMul, Nat.reduceLT, Nat.reduceLeDiff, Nat.reduceEqDiff, Nat.reduceBEq, Nat.reduceGT, Nat.reduceMod, Nat.reduceDiv, ↓reduceIte, reduceCtorEq, Int.reduceLE, Int.reduceLT, Int.reduceToNat, Int.reduceEq, Int.reduceNeg, Int.reduceAdd, Int.reduceSub, Int.reduceMul, h0, h2, h9, h11, h12, h101, h103, aIndexAddr, hr, hjm, hnn, Nat.mul_one, aConv, a1, a2, a3, a4, a6, hro, hlt2, hnn2]
    refine wl_callF #[.int .u32 (d : Nat), .int .u32 ((c + g * x) % 4294967296 : Nat), .int .u32 (bw : Nat)] (by simp -implicitDefEqProofs only [go_sem, Nat.reduceAdd, Nat.reduceSub, Nat.reduceMul, Nat.reduceLT, Nat.reduceLeDiff, Nat.reduceEqDiff, Nat.reduceBEq, Nat.reduceGT, Nat.reduceMod, Nat.reduceDiv, ↓reduceIte, reduceCtorEq, Int.reduceLE, Int.reduceLT, Int.reduceToNat, Int.reduceEq, Int.reduceNeg, Int.reduceAdd, Int.reduceSub, Int.reduceMul]) (sub32_sim hd hlo hbw) (fun h => by cases h) ?_
    have hstep := fun A' h => sub_step (A := valL o) (A' := A') (X := X) (P := 4294967296 ^ (i + j)) (c := c) (b := bw) (g := g) (x := x) (d := d) (d' := subD d ((c + g * x) % 4294967296) bw) (b' := subB d ((c + g * x) % 4294967296) bw) hval hsub h
    have hcx : c + g * x < 18446744073709551616 := by omega
    generalize subD d ((c + g * x) % 4294967296) bw = d' at hdl hstep ⊢
    generalize subB d ((c + g * x) % 4294967296) bw = b' at hbl hstep ⊢
    have hw := hrow.wrS (o := o) (j := i + j) (x := d') (by omega)
    simp -implicitDefEqProofs only [go_sem, Nat.reduceAdd, Nat.reduceSub, Nat.reduceMul, Nat.reduceLT, Nat.reduceLeDiff, Nat.reduceEqDiff, Nat.reduceBEq, Nat.reduceGT, Nat.reduceMod, Nat.reduceDiv, ↓reduceIte, reduceCtorEq, Int.reduceLE, Int.reduceLT, Int.reduceToNat, Int.reduceEq, Int.reduceNeg, Int.reduceAdd, Int.reduceSub, Int.reduceMul, h0, h1, h2, h7, h9, h11, h12, h101, h102, h103, aIndexAddr, Nat.mul_one, hlt2, hnn2, hw, h32, min_lit32, a3, a5, a7]
    refine ⟨j + 1, ⟨o.set (i + j) d', (c + g * x) / 2 ^ 32, b', ?_⟩, by omega⟩
    refine ⟨rfl, rfl, rfl, by omega, Nat.div_lt_of_lt_mul hcx, hbl, by simpa using ho, small_set hs hdl, ?_, ?_⟩
    · rw [List.drop_set_of_lt (by omega)]; exact hz
    · have := hstep _ (hset d')
      rw [hts, show i + (j + 1) = (i + j) + 1 by omega, Nat.pow_succ, ← this]
      rw [Nat.mul_add g, Nat.mul_add (4294967296 ^ i), Nat.pow_add]
      have : 4294967296 ^ i * (g * (4294967296 ^ j * x)) = 4294967296 ^ i * 4294967296 ^ j * (g * x) := by
        rw [Nat.mul_left_comm g, Nat.mul_assoc]
      rw [this]
      exact ⟨rfl, rfl⟩
  have hjk : j = m.length := by omega
  subst hjk
  rw [List.take_length, hV] at hval
  have hro := hrow.rdS (o := o) (j := i + m.length) (by omega)
  have hd := small_get hs (k := i + m.length) (by omega)
  have hset := fun z => valL_set (l := o) (k := i + m.length) (x := z) (by omega)
  generalize hdd : o[i + m.length]'(by omega) = d at hro hd hset
  have c32 := wu32n hc
  simp -implicitDefEqProofs only [go_sem, Nat.reduceAdd, Nat.reduceSub, Nat.reduceMul, Nat.reduceLT, Nat.reduceLeDiff, Nat.reduceEqDiff, Nat.reduceBEq, Nat.reduceGT, Nat.reduceMod, Nat.reduceDiv, ↓reduceIte, reduceCtorEq, Int.reduceLE, Int.reduceLT, Int.reduceToNat, Int.reduceEq, Int.reduceNeg, Int.reduceAdd, Int.reduceSub, Int.reduceMul, h0, h1, h2, h7, h9, h11, h12, aIndexAddr, Nat.mul_one, aConv, w1, i1, hro, c32]
  refine wl_callF #[.int .u32 (d : Nat), .int .u32 (c : Nat), .int .u32 (bw : Nat)] (by simp -implicitDefEqProofs only [go_sem, Nat.reduceAdd, Nat.reduceSub, Nat.reduceMul, Nat.reduceLT, Nat.reduceLeDiff, Nat.reduceEqDiff, Nat.reduceBEq, Nat.reduceGT, Nat.reduceMod, Nat.reduceDiv, ↓reduceIte, reduceCtorEq, Int.reduceLE, Int.reduceLT, Int.reduceToNat, Int.reduceEq, Int.reduceNeg, Int.reduceAdd, Int.reduceSub, Int.reduceMul]) (sub32_sim hd hc hbw) (fun h => by cases h) ?_
  have hsub := sub_eq hd hc hbw
  have hdl := subD_lt d c bw
  have hbl := subB_le d c bw
  generalize subD d c bw = d' at hdl hsub ⊢
  generalize subB d c bw = b' at hbl hsub ⊢
  have hw := hrow.wrS (o := o) (j := i + m.length) (x := d') (by omega)
  have hset' := hset d'
  -- the value after subtracting
  have hval2 : valL (o.set (i + m.length) d') + V * 4294967296 ^ i * g = X + 4294967296 ^ (i + m.length) * 4294967296 * b' := by
    have e := congrArg (4294967296 ^ (i + m.length) * ·) hsub
    simp only [Nat.mul_add] at e hval
    have e2 : V * 4294967296 ^ i * g = 4294967296 ^ i * (g * V) := by grind
    have e3 : 4294967296 ^ (i + m.length) * 4294967296 * b' = 4294967296 ^ (i + m.length) * (4294967296 * b') := by rw [Nat.mul_assoc]
    omega
  have hs2 : small (o.set (i + m.length) d') := small_set hs hdl
  have hz2 : (o.set (i + m.length) d').drop (i + m.length + 1) = List.replicate (u.length - (i + m.length + 1)) 0 := by
    rw [List.drop_set_of_lt (by omega)]; exact hz
  have ho2 : (o.set (i + m.length) d').length = u.length := by simpa using ho
  generalize o.set (i + m.length) d' = o2 at *
  clear hro hset hset' hval hz hs hdd ho
  simp -implicitDefEqProofs only [go_sem, Nat.reduceAdd, Nat.reduceSub, Nat.reduceMul, Nat.reduceLT, Nat.reduceLeDiff, Nat.reduceEqDiff, Nat.reduceBEq, Nat.reduceGT, Nat.reduceMod, Nat.reduceDiv, ↓reduceIte, reduceCtorEq, Int.reduceLE, Int.reduceLT, Int.reduceToNat, Int.reduceEq, Int.reduceNeg, Int.reduceAdd, Int.reduceSub, Int.reduceMul, h0, h1, h2, h7, h9, aIndexAddr, Nat.mul_one, i1, hw]
  refine ax_cond2 ?_
  simp only [ev_tmp, ev_const, ev_func, upd_at, put_some, put_none, bndB_bool, Nat.reduceEqDiff, if_true, if_false, ↓reduceIte, reduceCtorEq]
  refine ⟨fun hc0 => have hb0 := of_decide_eq_true hc0; ?_, fun hc0 => have hb0 := of_decide_eq_false hc0; ?_⟩
  · have hb0' : b' = 0 := by omega
    subst hb0'
    rw [Nat.mul_zero, Nat.add_zero] at hval2
    obtain ⟨e1, e2⟩ := quot_of hVp hval2 (by omega)
    have g32 := wu32n hgl
    simp -implicitDefEqProofs only [go_sem, Nat.reduceAdd, Nat.reduceSub, Nat.reduceMul, Nat.reduceLT, Nat.reduceLeDiff, Nat.reduceEqDiff, Nat.reduceBEq, Nat.reduceGT, Nat.reduceMod, Nat.reduceDiv, ↓reduceIte, reduceCtorEq, Int.reduceLE, Int.reduceLT, Int.reduceToNat, Int.reduceEq, Int.reduceNeg, Int.reduceAdd, Int.reduceSub, Int.reduceMul, h9, aConv, g32, res265]
    exact ⟨by rw [hq, e1], o2, rfl, ho2, hs2, e2⟩
  have hb1 : b' = 1 := by omega
  subst hb1
  rw [Nat.mul_one] at hval2
  have hlow2 := valL_low hs2 (by rw [hz2, ho2])
  have hxg : X < g * (V * 4294967296 ^ i) := by
    rw [Nat.pow_succ] at hlow2
    rw [Nat.mul_comm g]; omega
  have hqg2 : q < g := by rw [hq]; exact guess_lt hxg
  simp -implicitDefEqProofs only [go_sem, Nat.reduceAdd, Nat.reduceSub, Nat.reduceMul, Nat.reduceLT, Nat.reduceLeDiff, Nat.reduceEqDiff, Nat.reduceBEq, Nat.reduceGT, Nat.reduceMod, Nat.reduceDiv, ↓reduceIte, reduceCtorEq, Int.reduceLE, Int.reduceLT, Int.reduceToNat, Int.reduceEq, Int.reduceNeg, Int.reduceAdd, Int.reduceSub, Int.reduceMul, h0, h1, h2, h7, h9, e1]
  refine ax_loopx (fun (j : Nat) s T' => ∃ (o : List Nat) (c : Nat), s 0 = .slice (some ⟨b, 0, none⟩) u.length cu ∧ s 2 = .int .i64 (i : Nat) ∧ s 7 = .int .i64 (m.length : Nat) ∧ s 9 = .int .u64 (g : Nat) ∧
      s 15 = .int .u32 (c : Nat) ∧ s 157 = .slice (some ⟨bv, iv, none⟩) m.length cv ∧ s 158 = .int .i64 (m.length : Nat) ∧ s 159 = .int .i64 (j : Nat) ∧ j ≤ m.length ∧ c ≤ 1 ∧ o.length = u.length ∧ small o ∧
      o.drop (i + m.length + 1) = List.replicate (u.length - (i + m.length + 1)) 0 ∧ valL o + 4294967296 ^ (i + j) * c = valL o2 + 4294967296 ^ i * valL (m.take j) ∧ T' = T.set b ⟨u32s o, 1, true⟩) (fun j => m.length - j) 0 ?_ ?_
  · refine ⟨o2, 0, ?_⟩
    simp -implicitDefEqProofs only [go_sem, Nat.reduceAdd, Nat.reduceSub, Nat.reduceMul, Nat.reduceLT, Nat.reduceLeDiff, Nat.reduceEqDiff, Nat.reduceBEq, Nat.reduceGT, Nat.reduceMod, Nat.reduceDiv, ↓reduceIte, reduceCtorEq, Int.reduceLE, Int.reduceLT, Int.reduceToNat, Int.reduceEq, Int.reduceNeg, Int.reduceAdd, Int.reduceSub, Int.reduceMul, h0, h1, h2, h7, h9]
    exact ⟨ho2, hs2, hz2, by simp [valL]⟩
  clear h0 h1 h2 h7 h9 h11 h12 h101 h102 h103
  rintro j s T' ⟨o, c, h0, h2, h7, h9, h15, h157, h158, h159, hj, hc, ho, hs, hz, hval, hTT⟩
  subst T'
  simp -implicitDefEqProofs only [go_sem, Nat.reduceAdd, Nat.reduceSub, Nat.reduceMul, Nat.reduceLT, Nat.reduceLeDiff, Nat.reduceEqDiff, Nat.reduceBEq, Nat.reduceGT, Nat.reduceMod, Nat.reduceDiv, ↓reduceIte, reduceCtorEq, Int.reduceLE, Int.reduceLT, Int.reduceToNat, Int.reduceEq, Int.reduceNeg, Int.reduceAdd, Int.reduceSub, Int.reduceMul, h157, h158, h159]
  refine ax_cond2 ?_
  simp only [ev_tmp, ev_const, ev_func, upd_at, put_some, put_none, bndB_bool, Nat.reduceEqDiff, if_true, if_false, ↓reduceIte, reduceCtorEq]
  refine ⟨fun hc0 => have hjm := of_decide_eq_true hc0; ?_, fun hc0 => have hjm := of_decide_eq_false hc0; ?_⟩
  · have hr := rv ⟨u32s o, 1, true⟩ j (by omega)
    have hx := small_get hm (k := j) (by omega)
    have hts := valL_take_succ (l := m) (k := j) (by omega)
    generalize hxx : m[j]'(by omega) = x at hr hx hts
    have hnn : (0 : Int) ≤ (j : Int) := by omega
    have hro := hrow.rdS (o := o) (j := i + j) (by omega)
    have hd := small_get hs (k := i + j) (by omega)
    have hset := fun z => valL_set (l := o) (k := i + j) (x := z) (by omega)
    generalize hdd : o[i + j]'(by omega) = d at hro hd hset
    have a6 : IntKind.i64.wrap ((i : Int) + (j : Int)) = ((i + j : Nat) : Int) := by rw [addc, w64n (by omega)]
    have a7 : IntKind.i64.wrap ((j : Int) + 1) = ((j + 1 : Nat) : Int) := by rw [w64 (by omega) (by omega)]; rfl
    have hlt2 : ((i + j : Nat) : Int) < (u.length : Int) := by omega
    have hnn2 : (0 : Int) ≤ ((i + j : Nat) : Int) := by omega
    simp -implicitDefEqProofs only [go_sem, Nat.reduceAdd, Nat.reduceSub, Nat.reduceMul, Nat.reduceLT, Nat.reduceLeDiff, Nat.reduceEqDiff, Nat.reduceBEq, Nat.reduceGT, Nat.reduceMod, Nat.reduceDiv, ↓reduceIte, reduceCtorEq, Int.reduceLE, Int.reduceLT, Int.reduceToNat, Int.reduceEq, Int.reduceNeg, Int.reduceAdd, Int.reduceSub, Int.reduceMul, h0, h2, h15, h157, h159, aIndexAddr, hr, hjm, hnn, Nat.mul_one, a6, hro, hlt2, hnn2]
    refine wl_callF #[.int .u32 (d : Nat), .int .u32 (x : Nat), .int .u32 (c : Nat)] (by simp -implicitDefEqProofs only [go_sem, Nat.reduceAdd, Nat.reduceSub, Nat.reduceMul, Nat.reduceLT, Nat.reduceLeDiff, Nat.reduceEqDiff, Nat.reduceBEq, Nat.reduceGT, Nat.reduceMod, Nat.reduceDiv, ↓reduceIte, reduceCtorEq, Int.reduceLE, Int.reduceLT, Int.reduceToNat, Int.reduceEq, Int.reduceNeg, Int.reduceAdd, Int.reduceSub, Int.reduceMul]) (add32_sim hd hx hc) (fun h => by cases h) ?_
    have hstep := fun A' h => add_step (A := valL o) (A' := A') (X := valL o2) (P := 4294967296 ^ (i + j)) (s := c) (x := x) (d := d) hval h
    have hq2 : (d + x + c) / 4294967296 ≤ 1 := by omega
    have hm2 : (d + x + c) % 4294967296 < 4294967296 := Nat.mod_lt _ (by decide)
    generalize (d + x + c) / 4294967296 = c' at hq2 hstep ⊢
    generalize (d + x + c) % 4294967296 = d' at hm2 hstep ⊢
    have hw := hrow.wrS (o := o) (j := i + j) (x := d') (by omega)
    simp -implicitDefEqProofs only [go_sem, Nat.reduceAdd, Nat.reduceSub, Nat.reduceMul, Nat.reduceLT, Nat.reduceLeDiff, Nat.reduceEqDiff, Nat.reduceBEq, Nat.reduceGT, Nat.reduceMod, Nat.reduceDiv, ↓reduceIte, reduceCtorEq, Int.reduceLE, Int.reduceLT, Int.reduceToNat, Int.reduceEq, Int.reduceNeg, Int.reduceAdd, Int.reduceSub, Int.reduceMul, h0, h2, h7, h9, h15, h157, h158, h159, aIndexAddr, Nat.mul_one, hlt2, hnn2, hw, a7]
    refine ⟨j + 1, ⟨o.set (i + j) d', c', ?_⟩, by omega⟩
    refine ⟨rfl, rfl, by omega, hq2, by simpa using ho, small_set hs hm2, ?_, ?_, rfl⟩
    · rw [List.drop_set_of_lt (by omega)]; exact hz
    · rw [hts, show i + (j + 1) = (i + j) + 1 by omega, Nat.pow_succ, hstep _ (hset d'), Nat.mul_add, Nat.pow_add, Nat.mul_assoc (4294967296 ^ i)]
  have hjk : j = m.length := by omega
  subst hjk
  rw [List.take_length, hV] at hval
  have hro := hrow.rdS (o := o) (j := i + m.length) (by omega)
  have hd := small_get hs (k := i + m.length) (by omega)
  have hset := fun z => valL_set (l := o) (k := i + m.length) (x := z) (by omega)
  generalize hdd : o[i + m.length]'(by omega) = d at hro hd hset
  have a1 : IntKind.u32.wrap ((d : Int) + (c : Int)) = (((d + c) % 4294967296 : Nat) : Int) := by rw [addc, low_u32]
  have hm2 : (d + c) % 4294967296 < 4294967296 := Nat.mod_lt _ (by decide)
  have hw := hrow.wrS (o := o) (j := i + m.length) (x := (d + c) % 4294967296) (by omega)
  have g1 : IntKind.u64.wrap ((g : Int) - 1) = ((g - 1 : Nat) : Int) := by rw [wu64 (by omega) (by omega)]; omega
  have g2 := wu32n (n := g - 1) (by omega)
  simp -implicitDefEqProofs only [go_sem, Nat.reduceAdd, Nat.reduceSub, Nat.reduceMul, Nat.reduceLT, Nat.reduceLeDiff, Nat.reduceEqDiff, Nat.reduceBEq, Nat.reduceGT, Nat.reduceMod, Nat.reduceDiv, ↓reduceIte, reduceCtorEq, Int.reduceLE, Int.reduceLT, Int.reduceToNat, Int.reduceEq, Int.reduceNeg, Int.reduceAdd, Int.reduceSub, Int.reduceMul, h0, h2, h7, h9, h15, aIndexAddr, Nat.mul_one, aConv, w1, i1, hro, a1, hw, g1, g2, res265]
  have hs3 := small_set hs (k := i + m.length) hm2
  have hlow3 : valL (o.set (i + m.length) ((d + c) % 4294967296)) < 4294967296 ^ (i + m.length + 1) := valL_low hs3 (by rw [List.drop_set_of_lt (by omega), hz]; simp [ho])
  have hfin := back_step (A := valL o) (X := X) (P := 4294967296 ^ (i + m.length)) (s := c) (d := d) (V := V * 4294967296 ^ i) (g := g) (N := 4294967296 ^ (i + m.length + 1)) (by rw [Nat.pow_succ]) (by
    rw [hval, Nat.pow_succ]
    have : 4294967296 ^ i * V = V * 4294967296 ^ i := Nat.mul_comm _ _
    omega) (hset _) hlow3 hund (by omega) (by omega)
  obtain ⟨e2, e3⟩ := quot_of hVp hfin (by omega)
  exact ⟨by rw [hq, e2], _, rfl, by simpa using ho, hs3, e3⟩
end Go.Proofs.YthhmkaikopdmjaaGreat
set_option linter.unusedSimpArgs false
set_option linter.unusedVariables false
set_option maxRecDepth 8000
namespace Go.Proofs.YthhmkaikopdmjaaGreat
open Go Go.Fw

theorem shift_div (n d k : Nat) : (n * 2 ^ k) / (d * 2 ^ k) = n / d ∧ (n * 2 ^ k) % (d * 2 ^ k) = n % d * 2 ^ k := by
  have h : 0 < 2 ^ k := Nat.pow_pos (by decide)
  exact ⟨Nat.mul_div_mul_right _ _ h, Nat.mul_mod_mul_right _ _ _⟩
theorem limb_one {m : List Nat} {d : Nat} (h : Canl m d) (hl : m.length = 1) : ∃ x, m = [x] ∧ x = d ∧ x < 4294967296 ∧ 0 < x := by
  match m, hl with
  | [x], _ =>
    have := h.val
    simp [valL] at this
    have hs := h.small x (by simp)
    refine ⟨x, rfl, this, hs, ?_⟩
    refine Nat.pos_of_ne_zero fun h0 => ?_
    have := h.trim
    rw [h0] at this
    exact absurd this (by decide)

theorem short_sim' {H : Heap} {v : Value} {l : List Nat} {n d : Nat} (hv : Lim H v l) (hn : Canl l n) (hl : l.length ≤ 10000000) (hd : d < 4294967296) (h0 : 0 < d) :
    ∃ u H', Sim Tryz.prog 262 #[v, .int .u32 (d : Nat)] H u H' ∧ Ext H H' ∧ ∃ a, u = .tuple #[a, .int .u32 (n % d : Nat)] ∧ LN H' a (n / d) := by
  obtain ⟨u, H', h1, h2, h3⟩ := short_sim hv hn hl hd h0
  exact ⟨_, H', h1, h2, u, rfl, h3⟩
theorem shift_sim' {H : Heap} {v : Value} {l : List Nat} {n k : Nat} (hv : Lim H v l) (hn : small l) (hval : valL l = n) (hl : l.length ≤ 10000000) (hk : k ≤ 31) :
    ∃ u H', Sim Tryz.prog 264 #[v, .int .i64 (k : Nat)] H u H' ∧ Ext H H' ∧ u = .slice (some ⟨H.length, 0, none⟩) (l.length + 1) (l.length + 1) ∧ ∃ o, Row H' H.length o ∧ o.length = l.length + 1 ∧ small o ∧ valL o = n * 2 ^ k := by
  obtain ⟨H', o, h1, h2, h3⟩ := shift_sim hv hn hval hl hk
  exact ⟨_, H', h1, h2, rfl, o, h3⟩
theorem cmpN_lt {n d : Nat} : cmpN n d < 0 ↔ n < d := by
  unfold cmpN
  by_cases h : n < d
  · simp [h]
  · rw [if_neg h]; by_cases h2 : d < n <;> simp [h, h2]

theorem divide_sim {H : Heap} {v w : Value} {l m : List Nat} {n d : Nat} (hv : Lim H v l) (hw : Lim H w m) (hn : Canl l n) (hd : Canl m d) (hl : l.length ≤ 1000000) (hm : m.length ≤ 1000000) (h0 : 0 < d) :
    ∃ u H', Sim Tryz.prog 216 #[v, w] H u H' ∧ Ext H H' ∧ ∃ a b, u = .tuple #[a, b] ∧ LN H' a (n / d) ∧ LN H' b (n % d) := by
  have e1 := hv.len (tt := tt) tt163
  have e2 := hw.len (tt := tt) tt163
  refine sim_ex tok mixed Tryz.func216 rfl (by kernel_rfl) (by kernel_rfl) (by simp only [Tryz.ntmps216, List.size_toArray, List.length_cons, List.length_nil]; omega) ?_
  simp -implicitDefEqProofs only [go_sem, Nat.reduceAdd, Nat.reduceSub, Nat.reduceMul, Nat.reduceLT, Nat.reduceLeDiff, Nat.reduceEqDiff, Nat.reduceBEq, Nat.reduceGT, Nat.reduceMod, Nat.reduceDiv, ↓reduceIte, reduceCtorEq, Int.reduceLE, Int.reduceLT, Int.reduceToNat, Int.reduceEq, Int.reduceNeg, Int.reduceAdd, Int.reduceSub, Int.reduceMul]
  refine wl_callV #[v, w] (by simp -implicitDefEqProofs only [go_sem, Nat.reduceAdd, Nat.reduceSub, Nat.reduceMul, Nat.reduceLT, Nat.reduceLeDiff, Nat.reduceEqDiff, Nat.reduceBEq, Nat.reduceGT, Nat.reduceMod, Nat.reduceDiv, ↓reduceIte, reduceCtorEq, Int.reduceLE, Int.reduceLT, Int.reduceToNat, Int.reduceEq, Int.reduceNeg, Int.reduceAdd, Int.reduceSub, Int.reduceMul]) (compare_sim hv hw hn hd hl hm) ?_
  have hcmp := @cmpN_lt n d
  by_cases hlt : n < d
  · have hlt' := hcmp.2 hlt
    generalize cmpN n d = z at *
    simp -implicitDefEqProofs only [go_sem, Nat.reduceAdd, Nat.reduceSub, Nat.reduceMul, Nat.reduceLT, Nat.reduceLeDiff, Nat.reduceEqDiff, Nat.reduceBEq, Nat.reduceGT, Nat.reduceMod, Nat.reduceDiv, ↓reduceIte, reduceCtorEq, Int.reduceLE, Int.reduceLT, Int.reduceToNat, Int.reduceEq, Int.reduceNeg, Int.reduceAdd, Int.reduceSub, Int.reduceMul, hlt']
    refine ax_cond2 ?_
    simp only [ev_tmp, ev_const, ev_func, upd_at, put_some, put_none, bndB_bool, Nat.reduceEqDiff, if_true, if_false, ↓reduceIte, reduceCtorEq]
    refine ⟨fun _ => ?_, fun hc => hc.elim⟩
    simp -implicitDefEqProofs only [go_sem, Nat.reduceAdd, Nat.reduceSub, Nat.reduceMul, Nat.reduceLT, Nat.reduceLeDiff, Nat.reduceEqDiff, Nat.reduceBEq, Nat.reduceGT, Nat.reduceMod, Nat.reduceDiv, ↓reduceIte, reduceCtorEq, Int.reduceLE, Int.reduceLT, Int.reduceToNat, Int.reduceEq, Int.reduceNeg, Int.reduceAdd, Int.reduceSub, Int.reduceMul, res216]
    refine ⟨Ext.refl _, _, _, rfl, ?_, ?_⟩
    · rw [Nat.div_eq_of_lt hlt]; exact LN.nil H
    · rw [Nat.mod_eq_of_lt hlt]; exact ⟨l, hv, hn⟩
  have hlt' : ¬ cmpN n d < 0 := fun h => hlt (hcmp.1 h)
  generalize cmpN n d = z at *
  simp -implicitDefEqProofs only [go_sem, Nat.reduceAdd, Nat.reduceSub, Nat.reduceMul, Nat.reduceLT, Nat.reduceLeDiff, Nat.reduceEqDiff, Nat.reduceBEq, Nat.reduceGT, Nat.reduceMod, Nat.reduceDiv, ↓reduceIte, reduceCtorEq, Int.reduceLE, Int.reduceLT, Int.reduceToNat, Int.reduceEq, Int.reduceNeg, Int.reduceAdd, Int.reduceSub, Int.reduceMul, hlt']
  refine ax_cond2 ?_
  simp only [ev_tmp, ev_const, ev_func, upd_at, put_some, put_none, bndB_bool, Nat.reduceEqDiff, if_true, if_false, ↓reduceIte, reduceCtorEq]
  refine ⟨fun hc => hc.elim, fun _ => ?_⟩
  simp -implicitDefEqProofs only [go_sem, Nat.reduceAdd, Nat.reduceSub, Nat.reduceMul, Nat.reduceLT, Nat.reduceLeDiff, Nat.reduceEqDiff, Nat.reduceBEq, Nat.reduceGT, Nat.reduceMod, Nat.reduceDiv, ↓reduceIte, reduceCtorEq, Int.reduceLE, Int.reduceLT, Int.reduceToNat, Int.reduceEq, Int.reduceNeg, Int.reduceAdd, Int.reduceSub, Int.reduceMul, e2]
  obtain ⟨bw, iw, cw, rfl, hM⟩ := hw.at (by rintro rfl; have := hd.val; simp [valL] at this; omega)
  have hm0 : 0 < m.length := by
    refine Nat.pos_of_ne_zero fun h => ?_
    have := hd.val
    rw [List.length_eq_zero_iff.1 h] at this
    simp [valL] at this; omega
  refine ax_cond2 ?_
  simp only [ev_tmp, ev_const, ev_func, upd_at, put_some, put_none, bndB_bool, Nat.reduceEqDiff, if_true, if_false, ↓reduceIte, reduceCtorEq]
  refine ⟨fun hc0 => have h1 := of_decide_eq_true hc0; ?_, fun hc0 => have h1 := of_decide_eq_false hc0; ?_⟩
  · have h1' : m.length = 1 := by omega
    obtain ⟨x, rfl, rfl, hx, hx0⟩ := limb_one hd h1'
    have hr := hM.rd (k := 0) (by simp)
    simp only [List.getElem_cons_zero, Nat.add_zero] at hr
    simp -implicitDefEqProofs only [go_sem, Nat.reduceAdd, Nat.reduceSub, Nat.reduceMul, Nat.reduceLT, Nat.reduceLeDiff, Nat.reduceEqDiff, Nat.reduceBEq, Nat.reduceGT, Nat.reduceMod, Nat.reduceDiv, ↓reduceIte, reduceCtorEq, Int.reduceLE, Int.reduceLT, Int.reduceToNat, Int.reduceEq, Int.reduceNeg, Int.reduceAdd, Int.reduceSub, Int.reduceMul, aIndexAddr, hr, Nat.zero_mul, show (0 : Int) < ((1 : Nat) : Int) by decide]
    refine wl_callT #[v, .int .u32 (x : Nat)] (by simp -implicitDefEqProofs only [go_sem, Nat.reduceAdd, Nat.reduceSub, Nat.reduceMul, Nat.reduceLT, Nat.reduceLeDiff, Nat.reduceEqDiff, Nat.reduceBEq, Nat.reduceGT, Nat.reduceMod, Nat.reduceDiv, ↓reduceIte, reduceCtorEq, Int.reduceLE, Int.reduceLT, Int.reduceToNat, Int.reduceEq, Int.reduceNeg, Int.reduceAdd, Int.reduceSub, Int.reduceMul]) (short_sim' hv hn (by omega) hx hx0) ?_
    rintro _ T hE ⟨a, rfl, hLN⟩
    have hT : Lim (T ++ [⟨[.int .u32 ((n % x : Nat) : Int)], 1, true⟩]) (.slice (some ⟨T.length, 0, none⟩) 1 1) [n % x] := (row_lim (H := T) (l := [n % x]) (L := []) (c := 1) (.inr (by simp)) (by simp)).lim
    obtain ⟨b, htr, hlb⟩ := trim_sim hT
    have hcb : Canl (trimZ [n % x]) (n % x) := by
      have := Canl.of_trim (l := [n % x]) (by intro y hy; simp at hy; subst hy; exact Nat.lt_trans (Nat.mod_lt _ hx0) hx)
      simpa [valL] using this
    simp -implicitDefEqProofs only [go_sem, Nat.reduceAdd, Nat.reduceSub, Nat.reduceMul, Nat.reduceLT, Nat.reduceLeDiff, Nat.reduceEqDiff, Nat.reduceBEq, Nat.reduceGT, Nat.reduceMod, Nat.reduceDiv, ↓reduceIte, reduceCtorEq, Int.reduceLE, Int.reduceLT, Int.reduceToNat, Int.reduceEq, Int.reduceNeg, Int.reduceAdd, Int.reduceSub, Int.reduceMul, one_u32]
    refine wl_callV #[_] (by simp -implicitDefEqProofs only [go_sem, Nat.reduceAdd, Nat.reduceSub, Nat.reduceMul, Nat.reduceLT, Nat.reduceLeDiff, Nat.reduceEqDiff, Nat.reduceBEq, Nat.reduceGT, Nat.reduceMod, Nat.reduceDiv, ↓reduceIte, reduceCtorEq, Int.reduceLE, Int.reduceLT, Int.reduceToNat, Int.reduceEq, Int.reduceNeg, Int.reduceAdd, Int.reduceSub, Int.reduceMul]) htr ?_
    simp -implicitDefEqProofs only [go_sem, Nat.reduceAdd, Nat.reduceSub, Nat.reduceMul, Nat.reduceLT, Nat.reduceLeDiff, Nat.reduceEqDiff, Nat.reduceBEq, Nat.reduceGT, Nat.reduceMod, Nat.reduceDiv, ↓reduceIte, reduceCtorEq, Int.reduceLE, Int.reduceLT, Int.reduceToNat, Int.reduceEq, Int.reduceNeg, Int.reduceAdd, Int.reduceSub, Int.reduceMul, res216]
    exact ⟨hE.trans (.app _ _), a, b, rfl, hLN.app _, _, hlb, hcb⟩
  have hm2 : 2 ≤ m.length := by omega
  -- the highest limb
  have hr := hM.rd (k := m.length - 1) (by omega)
  have htl := valL_digit m hd.small (m.length - 1)
  have htg : m.getD (m.length - 1) 0 = m[m.length - 1]'(by omega) := by simp [show m.length - 1 < m.length by omega]
  rw [htg, hd.val] at htl
  have hx := small_get hd.small (k := m.length - 1) (by omega)
  have hge := hd.ge (by rintro rfl; simp at hm0)
  have hltB := hd.lt
  generalize m[m.length - 1]'(by omega) = x at hr htl hx
  have hB : 4294967296 ^ m.length = 4294967296 ^ (m.length - 1) * 4294967296 := by rw [← Nat.pow_succ]; congr 1; omega
  have hBp : 0 < 4294967296 ^ (m.length - 1) := Nat.pow_pos (by decide)
  have hxd : x = d / 4294967296 ^ (m.length - 1) := by
    rw [htl, Nat.mod_eq_of_lt]
    rw [Nat.div_lt_iff_lt_mul hBp, Nat.mul_comm, ← hB]; exact hltB
  have hx0 : 0 < x := by rw [hxd]; exact Nat.div_pos hge hBp
  obtain ⟨hxl, hxu⟩ := div_bounds d (4294967296 ^ (m.length - 1)) hBp
  rw [← hxd] at hxl hxu
  have w1 : IntKind.i64.wrap ((m.length : Int) - 1) = ((m.length - 1 : Nat) : Int) := by rw [w64 (by omega) (by omega)]; omega
  have i1 : (0 : Int) ≤ ((m.length - 1 : Nat) : Int) ∧ ((m.length - 1 : Nat) : Int) < (m.length : Int) := by omega
  simp -implicitDefEqProofs only [go_sem, Nat.reduceAdd, Nat.reduceSub, Nat.reduceMul, Nat.reduceLT, Nat.reduceLeDiff, Nat.reduceEqDiff, Nat.reduceBEq, Nat.reduceGT, Nat.reduceMod, Nat.reduceDiv, ↓reduceIte, reduceCtorEq, Int.reduceLE, Int.reduceLT, Int.reduceToNat, Int.reduceEq, Int.reduceNeg, Int.reduceAdd, Int.reduceSub, Int.reduceMul, e2, w1, aIndexAddr, i1, hr, Nat.mul_one]
  obtain ⟨k, hk, hk1, hk2, hlead⟩ := lead_sim (H := H) hx hx0
  refine wl_callV #[_] (by simp -implicitDefEqProofs only [go_sem, Nat.reduceAdd, Nat.reduceSub, Nat.reduceMul, Nat.reduceLT, Nat.reduceLeDiff, Nat.reduceEqDiff, Nat.reduceBEq, Nat.reduceGT, Nat.reduceMod, Nat.reduceDiv, ↓reduceIte, reduceCtorEq, Int.reduceLE, Int.reduceLT, Int.reduceToNat, Int.reduceEq, Int.reduceNeg, Int.reduceAdd, Int.reduceSub, Int.reduceMul]) hlead ?_
  simp -implicitDefEqProofs only [go_sem, Nat.reduceAdd, Nat.reduceSub, Nat.reduceMul, Nat.reduceLT, Nat.reduceLeDiff, Nat.reduceEqDiff, Nat.reduceBEq, Nat.reduceGT, Nat.reduceMod, Nat.reduceDiv, ↓reduceIte, reduceCtorEq, Int.reduceLE, Int.reduceLT, Int.reduceToNat, Int.reduceEq, Int.reduceNeg, Int.reduceAdd, Int.reduceSub, Int.reduceMul]
  refine wl_callT #[v, .int .i64 (k : Nat)] (by simp -implicitDefEqProofs only [go_sem, Nat.reduceAdd, Nat.reduceSub, Nat.reduceMul, Nat.reduceLT, Nat.reduceLeDiff, Nat.reduceEqDiff, Nat.reduceBEq, Nat.reduceGT, Nat.reduceMod, Nat.reduceDiv, ↓reduceIte, reduceCtorEq, Int.reduceLE, Int.reduceLT, Int.reduceToNat, Int.reduceEq, Int.reduceNeg, Int.reduceAdd, Int.reduceSub, Int.reduceMul]) (shift_sim' hv hn.small hn.val (by omega) hk) ?_
  rintro _ T1 hE1 ⟨rfl, oU, hU, hUl, hUs, hUv⟩
  simp -implicitDefEqProofs only [go_sem, Nat.reduceAdd, Nat.reduceSub, Nat.reduceMul, Nat.reduceLT, Nat.reduceLeDiff, Nat.reduceEqDiff, Nat.reduceBEq, Nat.reduceGT, Nat.reduceMod, Nat.reduceDiv, ↓reduceIte, reduceCtorEq, Int.reduceLE, Int.reduceLT, Int.reduceToNat, Int.reduceEq, Int.reduceNeg, Int.reduceAdd, Int.reduceSub, Int.reduceMul]
  refine wl_callT #[_, .int .i64 (k : Nat)] (by simp -implicitDefEqProofs only [go_sem, Nat.reduceAdd, Nat.reduceSub, Nat.reduceMul, Nat.reduceLT, Nat.reduceLeDiff, Nat.reduceEqDiff, Nat.reduceBEq, Nat.reduceGT, Nat.reduceMod, Nat.reduceDiv, ↓reduceIte, reduceCtorEq, Int.reduceLE, Int.reduceLT, Int.reduceToNat, Int.reduceEq, Int.reduceNeg, Int.reduceAdd, Int.reduceSub, Int.reduceMul]) (shift_sim' (hw.ext hE1) hd.small hd.val (by omega) hk) ?_
  rintro _ T2 hE2 ⟨rfl, oV, hV, hVl, hVs, hVv⟩
  simp -implicitDefEqProofs only [go_sem, Nat.reduceAdd, Nat.reduceSub, Nat.reduceMul, Nat.reduceLT, Nat.reduceLeDiff, Nat.reduceEqDiff, Nat.reduceBEq, Nat.reduceGT, Nat.reduceMod, Nat.reduceDiv, ↓reduceIte, reduceCtorEq, Int.reduceLE, Int.reduceLT, Int.reduceToNat, Int.reduceEq, Int.reduceNeg, Int.reduceAdd, Int.reduceSub, Int.reduceMul]
  -- the divisor, shifted
  have hcV := Canl.of_trim hVs
  rw [hVv] at hcV
  have hVlo : 2147483648 * 4294967296 ^ (m.length - 1) ≤ d * 2 ^ k := by
    have := Nat.mul_le_mul_right (2 ^ k) hxl
    have e : x * 4294967296 ^ (m.length - 1) * 2 ^ k = x * 2 ^ k * 4294967296 ^ (m.length - 1) := by grind
    rw [e] at this
    exact Nat.le_trans (Nat.mul_le_mul_right _ hk1) this
  have hVhi : d * 2 ^ k < 4294967296 ^ m.length := by
    have h3 : d * 2 ^ k < (x + 1) * 4294967296 ^ (m.length - 1) * 2 ^ k := Nat.mul_lt_mul_of_pos_right hxu (Nat.pow_pos (by decide))
    have e : (x + 1) * 4294967296 ^ (m.length - 1) * 2 ^ k = (x * 2 ^ k + 2 ^ k) * 4294967296 ^ (m.length - 1) := by grind
    rw [e] at h3
    refine Nat.lt_of_lt_of_le h3 ?_
    rw [hB, Nat.mul_comm _ 4294967296]
    refine Nat.mul_le_mul_right _ ?_
    obtain ⟨j, hj⟩ : ∃ j, k + j = 32 := ⟨32 - k, by omega⟩
    have hp : 4294967296 = 2 ^ j * 2 ^ k := by rw [← Nat.pow_add, Nat.add_comm j, hj]
    have : x + 1 ≤ 2 ^ j := by
      rw [hp] at hk2
      exact Nat.lt_of_mul_lt_mul_right hk2
    calc x * 2 ^ k + 2 ^ k = (x + 1) * 2 ^ k := by rw [Nat.add_mul, Nat.one_mul]
      _ ≤ 2 ^ j * 2 ^ k := Nat.mul_le_mul_right _ this
      _ = 4294967296 := hp.symm
  have hlen : (trimZ oV).length = m.length := by
    rcases Nat.lt_trichotomy (trimZ oV).length m.length with h | h | h
    · exfalso
      have h3 := hcV.lt
      have h4 : 4294967296 ^ (trimZ oV).length ≤ 4294967296 ^ (m.length - 1) := Nat.pow_le_pow_right (by decide) (by omega)
      omega
    · exact h
    · exfalso
      have h3 := hcV.ge (by intro e; rw [e] at h; simp at h)
      have h4 : 4294967296 ^ m.length ≤ 4294967296 ^ ((trimZ oV).length - 1) := Nat.pow_le_pow_right (by decide) (by omega)
      omega
  have htopV : 2147483648 ≤ (trimZ oV).getD ((trimZ oV).length - 1) 0 := by
    rw [valL_digit _ hcV.small, hcV.val, hlen, Nat.mod_eq_of_lt]
    · rw [Nat.le_div_iff_mul_le hBp]; exact hVlo
    · rw [Nat.div_lt_iff_lt_mul hBp, Nat.mul_comm 4294967296, ← hB]; exact hVhi
  have hVat0 : LimAt T2 T1.length 0 (m.length + 1) oV := by
    have := hV.at (c := m.length + 1) oV.length (.inr (by omega)) (by omega) (Nat.le_refl _)
    rwa [List.take_length] at this
  have htr := trim_at hVat0
  rw [hVl] at htr
  refine wl_callV #[_] (by simp -implicitDefEqProofs only [go_sem, Nat.reduceAdd, Nat.reduceSub, Nat.reduceMul, Nat.reduceLT, Nat.reduceLeDiff, Nat.reduceEqDiff, Nat.reduceBEq, Nat.reduceGT, Nat.reduceMod, Nat.reduceDiv, ↓reduceIte, reduceCtorEq, Int.reduceLE, Int.reduceLT, Int.reduceToNat, Int.reduceEq, Int.reduceNeg, Int.reduceAdd, Int.reduceSub, Int.reduceMul]) htr ?_
  have hVat : LimAt T2 T1.length 0 (m.length + 1) (trimZ oV) := by
    obtain ⟨j, hj⟩ := trimZ_take oV
    rw [hj]; exact hVat0.take j
  have hml : m.length ≤ l.length := Classical.byContradiction fun h => by
    have := hn.len_le hd (by omega)
    omega
  have w2 : IntKind.i64.wrap (((l.length + 1 : Nat) : Int) - (m.length : Int)) = ((l.length + 1 - m.length : Nat) : Int) := by rw [w64 (by omega) (by omega)]; omega
  have w3 : IntKind.i64.wrap (((l.length + 1 - m.length : Nat) : Int) - 1) = ((l.length + 1 - m.length : Nat) : Int) - 1 := by rw [w64 (by omega) (by omega)]
  rw [hlen]
  have a1 : aLen tt [163] (.slice (some ⟨H.length, 0, none⟩) (l.length + 1) (l.length + 1)) = some (.int .i64 ((l.length + 1 : Nat) : Int)) := rfl
  have a2 : aLen tt [163] (.slice (some ⟨T1.length, 0, none⟩) m.length (m.length + 1)) = some (.int .i64 ((m.length : Nat) : Int)) := rfl
  have a3 : ∀ c, aLen tt [163] (.slice (some ⟨T2.length, 0, none⟩) (l.length + 1 - m.length) c) = some (.int .i64 ((l.length + 1 - m.length : Nat) : Int)) := fun _ => rfl
  simp -implicitDefEqProofs only [go_sem, Nat.reduceAdd, Nat.reduceSub, Nat.reduceMul, Nat.reduceLT, Nat.reduceLeDiff, Nat.reduceEqDiff, Nat.reduceBEq, Nat.reduceGT, Nat.reduceMod, Nat.reduceDiv, ↓reduceIte, reduceCtorEq, Int.reduceLE, Int.reduceLT, Int.reduceToNat, Int.reduceEq, Int.reduceNeg, Int.reduceAdd, Int.reduceSub, Int.reduceMul, a1, a2, a3, w2, w3, make_u32 T2 .i64 .i64 (l.length + 1 - m.length) (l.length + 1 - m.length) (Nat.le_refl _) (by omega)]
  have hUlt := hU.lt
  have hVlt := hV.lt
  have hE12 := hE2.len
  have hE01 := hE1.len
  have hVp : 0 < d * 2 ^ k := by
    have : 0 < 2 ^ k := Nat.pow_pos (by decide)
    exact Nat.mul_pos h0 this
  have hcVs := hcV.small
  have hcVv := hcV.val
  generalize trimZ oV = tv at *
  refine ax_loopx (fun (j : Nat) s T => ∃ (o qs : List Nat), s 8 = .int .i64 (k : Nat) ∧ s 9 = .slice (some ⟨H.length, 0, none⟩) (l.length + 1) (l.length + 1) ∧ s 10 = .slice (some ⟨T1.length, 0, none⟩) m.length (m.length + 1) ∧
      s 11 = .slice (some ⟨T2.length, 0, none⟩) (l.length + 1 - m.length) (l.length + 1 - m.length) ∧ s 12 = .int .i64 ((j : Int) - 1) ∧ j ≤ l.length + 1 - m.length ∧ o.length = l.length + 1 ∧ qs.length = l.length + 1 - m.length ∧ small o ∧ small qs ∧
      qs.take j = List.replicate j 0 ∧ valL o < d * 2 ^ k * 4294967296 ^ j ∧ n * 2 ^ k = d * 2 ^ k * valL qs + valL o ∧ Row T H.length o ∧ Row T T2.length qs ∧ LimAt T T1.length 0 (m.length + 1) tv ∧ Ext H T) id (l.length + 1 - m.length) ?_ ?_
  · refine ⟨oU, List.replicate (l.length + 1 - m.length) 0, ?_⟩
    simp -implicitDefEqProofs only [go_sem, Nat.reduceAdd, Nat.reduceSub, Nat.reduceMul, Nat.reduceLT, Nat.reduceLeDiff, Nat.reduceEqDiff, Nat.reduceBEq, Nat.reduceGT, Nat.reduceMod, Nat.reduceDiv, ↓reduceIte, reduceCtorEq, Int.reduceLE, Int.reduceLT, Int.reduceToNat, Int.reduceEq, Int.reduceNeg, Int.reduceAdd, Int.reduceSub, Int.reduceMul]
    refine ⟨hUl, by simp, hUs, small_zeros _, by simp, ?_, by rw [valL_zeros, hUv]; simp, ?_, Row.new _ _, hVat.app _, (hE1.trans hE2).trans (.app _ _)⟩
    · rw [hUv]
      have h3 : n * 2 ^ k < 4294967296 ^ l.length * 2147483648 := by
        have : 2 ^ k ≤ 2 ^ 31 := Nat.pow_le_pow_right (by decide) hk
        refine Nat.lt_of_le_of_lt (Nat.mul_le_mul_left n this) ?_
        exact Nat.mul_lt_mul_of_pos_right hn.lt (by decide)
      have h4 := Nat.mul_le_mul_right (4294967296 ^ (l.length + 1 - m.length)) hVlo
      have h5 : 2147483648 * 4294967296 ^ (m.length - 1) * 4294967296 ^ (l.length + 1 - m.length) = 4294967296 ^ l.length * 2147483648 := by
        rw [Nat.mul_assoc, ← Nat.pow_add, Nat.mul_comm]; congr 2; omega
      omega
    · have := hE2.get hU
      exact Row.app this _
  rintro j s T ⟨o, qs, h8, h9, h10, h11, h12, hj, ho, hq, hos, hqs, hqz, hlt2, hval, hrU, hrQ, hrV, hE⟩
  simp -implicitDefEqProofs only [go_sem, Nat.reduceAdd, Nat.reduceSub, Nat.reduceMul, Nat.reduceLT, Nat.reduceLeDiff, Nat.reduceEqDiff, Nat.reduceBEq, Nat.reduceGT, Nat.reduceMod, Nat.reduceDiv, ↓reduceIte, reduceCtorEq, Int.reduceLE, Int.reduceLT, Int.reduceToNat, Int.reduceEq, Int.reduceNeg, Int.reduceAdd, Int.reduceSub, Int.reduceMul, h12]
  refine ax_cond2 ?_
  simp only [ev_tmp, ev_const, ev_func, upd_at, put_some, put_none, bndB_bool, Nat.reduceEqDiff, if_true, if_false, ↓reduceIte, reduceCtorEq]
  refine ⟨fun hc0 => have hc := of_decide_eq_true hc0; ?_, fun hc0 => have hc := of_decide_eq_false hc0; ?_⟩
  · obtain ⟨j, rfl⟩ : ∃ j', j = j' + 1 := ⟨j - 1, by omega⟩
    have hjj : ((j + 1 : Nat) : Int) - 1 = (j : Int) := by omega
    rw [hjj] at h12
    have i2 : (0 : Int) ≤ (j : Int) ∧ (j : Int) < ((l.length + 1 - m.length : Nat) : Int) := by omega
    have a5 : IntKind.i64.wrap ((j : Int) - 1) = (j : Int) - 1 := w64 (by omega) (by omega)
    simp -implicitDefEqProofs only [go_sem, Nat.reduceAdd, Nat.reduceSub, Nat.reduceMul, Nat.reduceLT, Nat.reduceLeDiff, Nat.reduceEqDiff, Nat.reduceBEq, Nat.reduceGT, Nat.reduceMod, Nat.reduceDiv, ↓reduceIte, reduceCtorEq, Int.reduceLE, Int.reduceLT, Int.reduceToNat, Int.reduceEq, Int.reduceNeg, Int.reduceAdd, Int.reduceSub, Int.reduceMul, h8, h9, h10, h11, h12]
    have hdig := digit_sim (cu := l.length + 1) hrU hrV (by omega) hos hcVs rfl hcVv (by omega) (i := j) (by omega) htopV hlt2 (by omega)
    rw [hlen, ho] at hdig
    obtain ⟨_, hdig, o', rfl, ho', hos', hval'⟩ := hdig
    refine wl_callF #[_, _, _] (by simp -implicitDefEqProofs only [go_sem, Nat.reduceAdd, Nat.reduceSub, Nat.reduceMul, Nat.reduceLT, Nat.reduceLeDiff, Nat.reduceEqDiff, Nat.reduceBEq, Nat.reduceGT, Nat.reduceMod, Nat.reduceDiv, ↓reduceIte, reduceCtorEq, Int.reduceLE, Int.reduceLT, Int.reduceToNat, Int.reduceEq, Int.reduceNeg, Int.reduceAdd, Int.reduceSub, Int.reduceMul]) hdig (fun h => by cases h) ?_
    have hqj : qs[j]'(by omega) = 0 := by
      have := congrArg (fun z => z[j]?) hqz
      simp only [List.getElem?_take, List.getElem?_replicate] at this
      rw [if_pos (by omega), if_pos (by omega), List.getElem?_eq_getElem (by omega)] at this
      simpa using this
    have hset := valL_set (l := qs) (k := j) (x := valL o / (d * 2 ^ k * 4294967296 ^ j)) (by omega)
    rw [hqj, Nat.mul_zero, Nat.add_zero] at hset
    have hVB : 0 < d * 2 ^ k * 4294967296 ^ j := Nat.mul_pos hVp (Nat.pow_pos (by decide))
    have hdm := Nat.div_add_mod (valL o) (d * 2 ^ k * 4294967296 ^ j)
    have hmod := Nat.mod_lt (valL o) hVB
    have hql : valL o / (d * 2 ^ k * 4294967296 ^ j) < 4294967296 := by
      rw [Nat.div_lt_iff_lt_mul hVB, Nat.mul_comm, Nat.mul_assoc, ← Nat.pow_succ]; exact hlt2
    have hrQ' := hrQ.other (b' := H.length) (by omega) ⟨u32s o', 1, true⟩
    have hrV' := hrV.set (b' := H.length) (by omega) ⟨u32s o', 1, true⟩
    have hrU' := hrU.set (o' := o')
    rw [← hval'] at hmod hdm
    generalize valL o / (d * 2 ^ k * 4294967296 ^ j) = q at *
    have hE' := hE.set (Nat.le_refl H.length) ⟨u32s o', 1, true⟩
    generalize List.set T H.length ⟨u32s o', 1, true⟩ = T' at *
    have hw2 := hrQ'.wr (j := j) (x := q) (by omega)
    simp -implicitDefEqProofs only [go_sem, Nat.reduceAdd, Nat.reduceSub, Nat.reduceMul, Nat.reduceLT, Nat.reduceLeDiff, Nat.reduceEqDiff, Nat.reduceBEq, Nat.reduceGT, Nat.reduceMod, Nat.reduceDiv, ↓reduceIte, reduceCtorEq, Int.reduceLE, Int.reduceLT, Int.reduceToNat, Int.reduceEq, Int.reduceNeg, Int.reduceAdd, Int.reduceSub, Int.reduceMul, h8, h9, h10, h11, h12, aIndexAddr, i2, Nat.mul_one, hw2, a5]
    refine ⟨j, ⟨o', qs.set j q, ?_⟩, Nat.lt_succ_self j⟩
    refine ⟨rfl, by omega, by omega, by simpa using hq, hos', small_set hqs hql, ?_, hmod, ?_, hrU'.other (by omega) _, hrQ'.set, hrV'.set (by omega) _, hE'.set (by omega) _⟩
    · rw [List.take_set_of_le (Nat.le_refl _)]
      have := congrArg (List.take j) hqz
      rw [List.take_take, Nat.min_eq_left (by omega)] at this
      rw [this]; simp
    · rw [hset, hval, ← hdm, Nat.mul_add, Nat.mul_assoc (d * 2 ^ k)]; omega
  · have hj0 : j = 0 := by omega
    subst hj0
    rw [Nat.pow_zero, Nat.mul_one] at hlt2
    have hlimQ := (hrQ.at (c := l.length + 1 - m.length) (l.length + 1 - m.length) (.inr (Nat.le_refl _)) (by omega) (by omega)).lim
    rw [← hq, List.take_length] at hlimQ
    obtain ⟨uq, htq, hlq⟩ := trim_sim hlimQ
    rw [hq] at htq
    have hlimU := (hrU.at (c := l.length + 1) (l.length + 1) (.inr (Nat.le_refl _)) (by omega) (by omega)).lim
    rw [← ho, List.take_length] at hlimU
    obtain ⟨uu, htu, hlu⟩ := trim_sim hlimU
    rw [ho] at htu
    have hcq := Canl.of_trim hqs
    have hcu := Canl.of_trim hos
    have ⟨sd1, sd2⟩ := shift_div n d k
    have x1 : n / d = valL qs := by
      rw [← sd1, hval, Nat.mul_add_div hVp, Nat.div_eq_of_lt hlt2, Nat.add_zero]
    have x2 : valL (trimZ o) / 2 ^ k = n % d := by
      rw [valL_trim, ← Nat.mod_eq_of_lt hlt2, ← Nat.mul_add_mod (d * 2 ^ k) (valL qs), ← hval, sd2, Nat.mul_div_cancel _ (Nat.pow_pos (by decide))]
    simp -implicitDefEqProofs only [go_sem, Nat.reduceAdd, Nat.reduceSub, Nat.reduceMul, Nat.reduceLT, Nat.reduceLeDiff, Nat.reduceEqDiff, Nat.reduceBEq, Nat.reduceGT, Nat.reduceMod, Nat.reduceDiv, ↓reduceIte, reduceCtorEq, Int.reduceLE, Int.reduceLT, Int.reduceToNat, Int.reduceEq, Int.reduceNeg, Int.reduceAdd, Int.reduceSub, Int.reduceMul, h8, h9, h10, h11, h12]
    refine wl_callV #[_] (by simp -implicitDefEqProofs only [go_sem, Nat.reduceAdd, Nat.reduceSub, Nat.reduceMul, Nat.reduceLT, Nat.reduceLeDiff, Nat.reduceEqDiff, Nat.reduceBEq, Nat.reduceGT, Nat.reduceMod, Nat.reduceDiv, ↓reduceIte, reduceCtorEq, Int.reduceLE, Int.reduceLT, Int.reduceToNat, Int.reduceEq, Int.reduceNeg, Int.reduceAdd, Int.reduceSub, Int.reduceMul]) htq ?_
    simp -implicitDefEqProofs only [go_sem, Nat.reduceAdd, Nat.reduceSub, Nat.reduceMul, Nat.reduceLT, Nat.reduceLeDiff, Nat.reduceEqDiff, Nat.reduceBEq, Nat.reduceGT, Nat.reduceMod, Nat.reduceDiv, ↓reduceIte, reduceCtorEq, Int.reduceLE, Int.reduceLT, Int.reduceToNat, Int.reduceEq, Int.reduceNeg, Int.reduceAdd, Int.reduceSub, Int.reduceMul, h9]
    refine wl_callV #[_] (by simp -implicitDefEqProofs only [go_sem, Nat.reduceAdd, Nat.reduceSub, Nat.reduceMul, Nat.reduceLT, Nat.reduceLeDiff, Nat.reduceEqDiff, Nat.reduceBEq, Nat.reduceGT, Nat.reduceMod, Nat.reduceDiv, ↓reduceIte, reduceCtorEq, Int.reduceLE, Int.reduceLT, Int.reduceToNat, Int.reduceEq, Int.reduceNeg, Int.reduceAdd, Int.reduceSub, Int.reduceMul]) htu ?_
    simp -implicitDefEqProofs only [go_sem, Nat.reduceAdd, Nat.reduceSub, Nat.reduceMul, Nat.reduceLT, Nat.reduceLeDiff, Nat.reduceEqDiff, Nat.reduceBEq, Nat.reduceGT, Nat.reduceMod, Nat.reduceDiv, ↓reduceIte, reduceCtorEq, Int.reduceLE, Int.reduceLT, Int.reduceToNat, Int.reduceEq, Int.reduceNeg, Int.reduceAdd, Int.reduceSub, Int.reduceMul, h8]
    refine wl_callT #[_, .int .i64 (k : Nat)] (by simp -implicitDefEqProofs only [go_sem, Nat.reduceAdd, Nat.reduceSub, Nat.reduceMul, Nat.reduceLT, Nat.reduceLeDiff, Nat.reduceEqDiff, Nat.reduceBEq, Nat.reduceGT, Nat.reduceMod, Nat.reduceDiv, ↓reduceIte, reduceCtorEq, Int.reduceLE, Int.reduceLT, Int.reduceToNat, Int.reduceEq, Int.reduceNeg, Int.reduceAdd, Int.reduceSub, Int.reduceMul]) (unshift_sim hlu hcu.small (by have := trim_len o; omega) hk) ?_
    intro b T' hE' hLb
    simp -implicitDefEqProofs only [go_sem, Nat.reduceAdd, Nat.reduceSub, Nat.reduceMul, Nat.reduceLT, Nat.reduceLeDiff, Nat.reduceEqDiff, Nat.reduceBEq, Nat.reduceGT, Nat.reduceMod, Nat.reduceDiv, ↓reduceIte, reduceCtorEq, Int.reduceLE, Int.reduceLT, Int.reduceToNat, Int.reduceEq, Int.reduceNeg, Int.reduceAdd, Int.reduceSub, Int.reduceMul, res216]
    rw [x2] at hLb
    rw [← x1] at hcq
    exact ⟨hE.trans hE', uq, b, rfl, ⟨_, hlq.ext hE', hcq⟩, hLb⟩
end Go.Proofs.YthhmkaikopdmjaaGreat
