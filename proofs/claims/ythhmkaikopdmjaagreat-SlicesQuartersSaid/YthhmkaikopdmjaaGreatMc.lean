/- bigint: times; bigint: Div32, Add32, LeadingZeros32, short, shift, unshift; bigint: LeadingZeros32, shift, unshift; bigint: unshift. Conditions: none. -/
import Derived.Test.YthhmkaikopdmjaaGreatMb
import Derived.Test.YthhmkaikopdmjaaGreatFc
set_option linter.unusedSimpArgs false
set_option linter.unusedVariables false
set_option maxRecDepth 4000
namespace Go.Proofs.YthhmkaikopdmjaaGreat
open Go Go.Fw

theorem times_sim {H : Heap} {v w : Value} {l m : List Nat} {n k : Nat} (hv : Lim H v l) (hw : Lim H w m) (hn : Canl l n) (hk : Canl m k) (hl : l.length ≤ 10000000) (hm : m.length ≤ 10000000) :
    ∃ u H', Sim Tryz.prog 197 #[v, w] H u H' ∧ Ext H H' ∧ LN H' u (n * k) := by
  have e1 := hv.len (tt := tt) tt163
  have e2 := hw.len (tt := tt) tt163
  have e3 : IntKind.i64.wrap ((l.length : Int) + (m.length : Int)) = ((l.length + m.length : Nat) : Int) := by rw [addc, w64n (by omega)]
  refine sim_ex tok mixed Tryz.func197 rfl (by kernel_rfl) (by kernel_rfl) (by simp only [Tryz.ntmps197, List.size_toArray, List.length_cons, List.length_nil]; omega) ?_
  simp -implicitDefEqProofs only [go_sem, Nat.reduceAdd, Nat.reduceSub, Nat.reduceMul, Nat.reduceLT, Nat.reduceLeDiff, Nat.reduceEqDiff, Nat.reduceBEq, Nat.reduceGT, Nat.reduceMod, Nat.reduceDiv, ↓reduceIte, reduceCtorEq, Int.reduceLE, Int.reduceLT, Int.reduceToNat, Int.reduceEq, Int.reduceNeg, Int.reduceAdd, Int.reduceSub, Int.reduceMul, e1, e2, e3, make_u32 H .i64 .i64 _ _ (Nat.le_refl _) (show l.length + m.length ≤ 200000000 by omega)]
  refine ax_loopx (fun (i : Nat) s T => ∃ (o : List Nat), s 1 = w ∧ s 17 = v ∧ s 18 = .int .i64 (l.length : Nat) ∧ s 19 = .int .i64 (i : Nat) ∧ s 5 = .slice (some ⟨H.length, 0, none⟩) (l.length + m.length) (l.length + m.length) ∧
    i ≤ l.length ∧ o.length = l.length + m.length ∧ small o ∧ valL o = valL (l.take i) * k ∧ Row T H.length o ∧ Ext H T) (fun i => l.length - i) 0 ?_ ?_
  · refine ⟨List.replicate (l.length + m.length) 0, ?_⟩
    simp -implicitDefEqProofs only [go_sem, Nat.reduceAdd, Nat.reduceSub, Nat.reduceMul, Nat.reduceLT, Nat.reduceLeDiff, Nat.reduceEqDiff, Nat.reduceBEq, Nat.reduceGT, Nat.reduceMod, Nat.reduceDiv, ↓reduceIte, reduceCtorEq, Int.reduceLE, Int.reduceLT, Int.reduceToNat, Int.reduceEq, Int.reduceNeg, Int.reduceAdd, Int.reduceSub, Int.reduceMul]
    refine ⟨by simp, small_zeros _, by rw [valL_zeros]; simp [valL], Row.new _ _, .app _ _⟩
  rintro i s T ⟨o, h1, h17, h18, h19, h5, hi, ho, hs, hval, hrow, hE⟩
  simp -implicitDefEqProofs only [go_sem, Nat.reduceAdd, Nat.reduceSub, Nat.reduceMul, Nat.reduceLT, Nat.reduceLeDiff, Nat.reduceEqDiff, Nat.reduceBEq, Nat.reduceGT, Nat.reduceMod, Nat.reduceDiv, ↓reduceIte, reduceCtorEq, Int.reduceLE, Int.reduceLT, Int.reduceToNat, Int.reduceEq, Int.reduceNeg, Int.reduceAdd, Int.reduceSub, Int.reduceMul, h17, h18, h19]
  refine ax_cond2 ?_
  simp only [ev_tmp, ev_const, ev_func, upd_at, put_some, put_none, bndB_bool, Nat.reduceEqDiff, if_true, if_false, ↓reduceIte, reduceCtorEq]
  refine ⟨fun hc0 => have hlt := of_decide_eq_true hc0; ?_, fun hc0 => have hlt := of_decide_eq_false hc0; ?_⟩
  · obtain ⟨b, i0, cp, rfl, hL⟩ := hv.at (by rintro rfl; simp only [List.length_nil] at hlt; omega)
    have hr := (hL.ext hE).rd (k := i) (by omega)
    have hx := small_get hn.small (k := i) (by omega)
    generalize hxx : l[i]'(by omega) = x at hr hx
    have hnn : (0 : Int) ≤ (i : Int) := by omega
    simp -implicitDefEqProofs only [go_sem, Nat.reduceAdd, Nat.reduceSub, Nat.reduceMul, Nat.reduceLT, Nat.reduceLeDiff, Nat.reduceEqDiff, Nat.reduceBEq, Nat.reduceGT, Nat.reduceMod, Nat.reduceDiv, ↓reduceIte, reduceCtorEq, Int.reduceLE, Int.reduceLT, Int.reduceToNat, Int.reduceEq, Int.reduceNeg, Int.reduceAdd, Int.reduceSub, Int.reduceMul, h1, h5, h17, h18, h19, aIndexAddr, hr, hlt, hnn, Nat.mul_one, e2]
    have hbase : valL o < 4294967296 ^ (i + m.length) := by
      rw [hval, Nat.pow_add]
      have h1 := valL_lt (small_take hn.small i)
      rw [List.length_take, Nat.min_eq_left hi] at h1
      have h2 := hk.lt
      exact Nat.mul_lt_mul'' h1 h2
    have htop := top_zero hbase
    refine ax_loopx (fun (j : Nat) s T' => ∃ (o' : List Nat) (c : Nat), s 1 = w ∧ s 17 = .slice (some ⟨b, i0, none⟩) l.length cp ∧ s 18 = .int .i64 (l.length : Nat) ∧ s 19 = .int .i64 (i : Nat) ∧ s 5 = .slice (some ⟨H.length, 0, none⟩) (l.length + m.length) (l.length + m.length) ∧
      s 6 = .int .i64 (i : Nat) ∧ s 7 = .int .u32 (x : Nat) ∧ s 8 = .int .u64 (c : Nat) ∧ s 24 = w ∧ s 25 = .int .i64 (m.length : Nat) ∧ s 26 = .int .i64 (j : Nat) ∧ j ≤ m.length ∧ c < 4294967296 ∧ o'.length = l.length + m.length ∧ small o' ∧ o'.getD (i + m.length) 0 = 0 ∧
      valL o' + 4294967296 ^ (i + j) * c = valL o + 4294967296 ^ i * (x * valL (m.take j)) ∧ Row T' H.length o' ∧ Ext H T') (fun j => m.length - j) 0 ?_ ?_
    · refine ⟨o, 0, ?_⟩
      simp -implicitDefEqProofs only [go_sem, Nat.reduceAdd, Nat.reduceSub, Nat.reduceMul, Nat.reduceLT, Nat.reduceLeDiff, Nat.reduceEqDiff, Nat.reduceBEq, Nat.reduceGT, Nat.reduceMod, Nat.reduceDiv, ↓reduceIte, reduceCtorEq, Int.reduceLE, Int.reduceLT, Int.reduceToNat, Int.reduceEq, Int.reduceNeg, Int.reduceAdd, Int.reduceSub, Int.reduceMul, h1, h5, h17, h18, h19]
      refine ⟨ho, hs, htop, by simp [valL], hrow, hE⟩
    clear h1 h17 h18 h19 h5
    rintro j s T' ⟨o', c, h1, h17, h18, h19, h5, h6, h7, h8, h24, h25, h26, hj, hc, ho', hs', htop', hval', hrow', hE'⟩
    simp -implicitDefEqProofs only [go_sem, Nat.reduceAdd, Nat.reduceSub, Nat.reduceMul, Nat.reduceLT, Nat.reduceLeDiff, Nat.reduceEqDiff, Nat.reduceBEq, Nat.reduceGT, Nat.reduceMod, Nat.reduceDiv, ↓reduceIte, reduceCtorEq, Int.reduceLE, Int.reduceLT, Int.reduceToNat, Int.reduceEq, Int.reduceNeg, Int.reduceAdd, Int.reduceSub, Int.reduceMul, h1, h17, h18, h19, h5, h6, h7, h8, h24, h25, h26]
    refine ax_cond2 ?_
    simp only [ev_tmp, ev_const, ev_func, upd_at, put_some, put_none, bndB_bool, Nat.reduceEqDiff, if_true, if_false, ↓reduceIte, reduceCtorEq]
    refine ⟨fun hc0 => have hjm := of_decide_eq_true hc0; ?_, fun hc0 => have hjm := of_decide_eq_false hc0; ?_⟩
    · obtain ⟨b', i', cp', rfl, hM⟩ := hw.at (by rintro rfl; simp only [List.length_nil] at hjm; omega)
      have hr2 := (hM.ext hE').rd (k := j) (by omega)
      have hy := small_get hk.small (k := j) (by omega)
      have hvy := valL_take_succ (l := m) (k := j) (by omega)
      generalize hyy : m[j]'(by omega) = y at hr2 hy hvy
      have hro := hrow'.rd (j := i + j) (by omega)
      have hd := small_get hs' (k := i + j) (by omega)
      have hset := fun z => valL_set (l := o') (k := i + j) (x := z) (by omega)
      generalize hdd : o'[i + j]'(by omega) = d at hro hd hset
      have c1 := mul_carry hc hx hy hd
      have xy : x * y ≤ 4294967295 * 4294967295 := Nat.mul_le_mul (by omega) (by omega)
      have a1 : IntKind.u64.wrap ((x : Int) * (y : Int)) = ((x * y : Nat) : Int) := by rw [mulc, wu64n (by omega)]
      have a2 : IntKind.u64.wrap (((x * y : Nat) : Int) + (d : Int)) = ((x * y + d : Nat) : Int) := by rw [addc, wu64n (by omega)]
      have a3 : IntKind.u64.wrap ((c : Int) + ((x * y + d : Nat) : Int)) = ((c + (x * y + d) : Nat) : Int) := by rw [addc, wu64n (by omega)]
      have a4 := wu64n (n := x) (by omega)
      have a5 := wu64n (n := y) (by omega)
      have a6 := wu64n (n := d) (by omega)
      have a7 : IntKind.i64.wrap ((i : Int) + (j : Int)) = ((i + j : Nat) : Int) := by rw [addc, w64n (by omega)]
      have a8 : IntKind.i64.wrap ((j : Int) + 1) = ((j + 1 : Nat) : Int) := by rw [w64 (by omega) (by omega)]; rfl
      have hlt2 : ((i + j : Nat) : Int) < ((l.length + m.length : Nat) : Int) := by omega
      have hnn2 : (0 : Int) ≤ ((i + j : Nat) : Int) := by omega
      have hnn3 : (0 : Int) ≤ (j : Int) := by omega
      have hjm2 : (j : Int) < (m.length : Int) := by omega
      have ms := mul_step (A := valL o') (p := 4294967296 ^ (i + j)) (c := c) (x := x) (y := y) (d := d) hval' (A' := valL (o'.set (i + j) ((c + (x * y + d)) % 4294967296))) (hset _)
      generalize hww : c + (x * y + d) = ww at a3 c1 ms
      have a9 := low_u32 ww
      have a10 := fdiv_pow ww 32
      have hw2 := hrow'.wr (j := i + j) (x := ww % 4294967296) (by omega)
      have h32 : ¬ ((32 : Int) < 0) := by omega
      simp -implicitDefEqProofs only [go_sem, Nat.reduceAdd, Nat.reduceSub, Nat.reduceMul, Nat.reduceLT, Nat.reduceLeDiff, Nat.reduceEqDiff, Nat.reduceBEq, Nat.reduceGT, Nat.reduceMod, Nat.reduceDiv, ↓reduceIte, reduceCtorEq, Int.reduceLE, Int.reduceLT, Int.reduceToNat, Int.reduceEq, Int.reduceNeg, Int.reduceAdd, Int.reduceSub, Int.reduceMul, h1, h17, h18, h19, h5, h6, h7, h8, h24, h25, h26, aIndexAddr, hr2, hjm2, hnn3, Nat.mul_one, aConv, a1, a2, a3, a4, a5, a6, a7, a8, a9, a10, hro, hlt2, hnn2, hw2, h32, Int.reduceToNat, min_lit32]
      refine ⟨j + 1, ⟨o'.set (i + j) (ww % 4294967296), ww / 2 ^ 32, ?_⟩, by omega⟩
      refine ⟨rfl, rfl, by omega, ?_, by simpa using ho', small_set hs' (Nat.mod_lt _ (by decide)), ?_, ?_, hrow'.set, hE'.set (Nat.le_refl _) _⟩
      · exact Nat.div_lt_of_lt_mul c1
      · rw [List.getD_eq_getElem?_getD, List.getElem?_set_ne (by omega), ← List.getD_eq_getElem?_getD]; exact htop'
      · rw [hvy]
        rw [show i + (j + 1) = (i + j) + 1 by omega, Nat.pow_succ]
        refine ms.trans ?_
        rw [Nat.mul_add, Nat.mul_add, Nat.pow_add, Nat.mul_left_comm x, Nat.mul_assoc (4294967296 ^ i)]
        omega
    · have hjm3 : j = m.length := by omega
      subst hjm3
      rw [List.take_length, hk.val] at hval'
      have a3 : IntKind.i64.wrap ((i : Int) + (m.length : Int)) = ((i + m.length : Nat) : Int) := by rw [addc, w64n (by omega)]
      have a5 : IntKind.i64.wrap ((i : Int) + 1) = ((i + 1 : Nat) : Int) := by rw [w64 (by omega) (by omega)]; rfl
      have hlt2 : ((i + m.length : Nat) : Int) < ((l.length + m.length : Nat) : Int) := by omega
      have hnn2 : (0 : Int) ≤ ((i + m.length : Nat) : Int) := by omega
      have hw2 := hrow'.wr (j := i + m.length) (x := c) (by omega)
      have a6 : IntKind.u32.wrap (c : Int) = (c : Int) := wu32n hc
      simp -implicitDefEqProofs only [go_sem, Nat.reduceAdd, Nat.reduceSub, Nat.reduceMul, Nat.reduceLT, Nat.reduceLeDiff, Nat.reduceEqDiff, Nat.reduceBEq, Nat.reduceGT, Nat.reduceMod, Nat.reduceDiv, ↓reduceIte, reduceCtorEq, Int.reduceLE, Int.reduceLT, Int.reduceToNat, Int.reduceEq, Int.reduceNeg, Int.reduceAdd, Int.reduceSub, Int.reduceMul, h1, h17, h18, h19, h5, h6, h8, h24, h25, h26, e2, aConv, a3, a5, a6, aIndexAddr, hlt2, hnn2, Nat.mul_one, hw2]
      refine ⟨i + 1, ⟨o'.set (i + m.length) c, ?_⟩, by omega⟩
      refine ⟨rfl, by omega, by simpa using ho', small_set hs' hc, ?_, hrow'.set, hE'.set (Nat.le_refl _) _⟩
      have h9 := valL_set' (x := c) (show i + m.length < o'.length by omega)
      rw [htop', Nat.mul_zero, Nat.add_zero, hval', hval] at h9
      rw [h9, valL_take_succ (show i < l.length by omega), hxx, Nat.add_mul, Nat.mul_assoc]
  · have hil : i = l.length := by omega
    subst hil
    rw [List.take_length, hn.val] at hval
    have hlim := (hrow.at (c := l.length + m.length) (l.length + m.length) (.inr (Nat.le_refl _)) (by omega) (by omega)).lim
    rw [← ho, List.take_length] at hlim
    obtain ⟨u, htr, hlu⟩ := trim_sim hlim
    simp -implicitDefEqProofs only [go_sem, Nat.reduceAdd, Nat.reduceSub, Nat.reduceMul, Nat.reduceLT, Nat.reduceLeDiff, Nat.reduceEqDiff, Nat.reduceBEq, Nat.reduceGT, Nat.reduceMod, Nat.reduceDiv, ↓reduceIte, reduceCtorEq, Int.reduceLE, Int.reduceLT, Int.reduceToNat, Int.reduceEq, Int.reduceNeg, Int.reduceAdd, Int.reduceSub, Int.reduceMul, h5]
    rw [ho] at htr
    refine wl_callF #[_] (by simp only [go_sem, Nat.reduceAdd, Nat.reduceSub, Nat.reduceMul, Nat.reduceLT, Nat.reduceLeDiff, Nat.reduceEqDiff, Nat.reduceBEq, Nat.reduceGT, Nat.reduceMod, Nat.reduceDiv, ↓reduceIte, reduceCtorEq, Int.reduceLE, Int.reduceLT, Int.reduceToNat, Int.reduceEq, Int.reduceNeg, Int.reduceAdd, Int.reduceSub, Int.reduceMul]) htr (fun h => by cases h) ?_
    simp -implicitDefEqProofs only [go_sem, Nat.reduceAdd, Nat.reduceSub, Nat.reduceMul, Nat.reduceLT, Nat.reduceLeDiff, Nat.reduceEqDiff, Nat.reduceBEq, Nat.reduceGT, Nat.reduceMod, Nat.reduceDiv, ↓reduceIte, reduceCtorEq, Int.reduceLE, Int.reduceLT, Int.reduceToNat, Int.reduceEq, Int.reduceNeg, Int.reduceAdd, Int.reduceSub, Int.reduceMul, res197]
    refine ⟨hE, _, hlu, ?_⟩
    have hcn := Canl.of_trim hs
    rw [hval] at hcn
    exact hcn
end Go.Proofs.YthhmkaikopdmjaaGreat
set_option linter.unusedSimpArgs false
set_option linter.unusedVariables false
set_option maxRecDepth 8000
namespace Go.Proofs.YthhmkaikopdmjaaGreat
open Go Go.Fw

theorem div32_sim {H : Heap} {hi lo y : Nat} (hh : hi < y) (hy : y < 4294967296) (hl : lo < 4294967296) :
    Sim Tryz.prog 275 #[.int .u32 (hi : Nat), .int .u32 (lo : Nat), .int .u32 (y : Nat)] H (.tuple #[.int .u32 ((hi * 4294967296 + lo) / y : Nat), .int .u32 ((hi * 4294967296 + lo) % y : Nat)]) H := by
  have y0 : ¬ ((y : Int) = 0) := by omega
  have y1 : ¬ ((y : Int) ≤ (hi : Int)) := by omega
  have c1 := wu64n (n := hi) (by omega)
  have c2 := wu64n (n := lo) (by omega)
  have c3 := wu64n (n := y) (by omega)
  have h32 : ¬ ((32 : Int) < 0) := by omega
  have a1 : IntKind.u64.wrap ((hi : Int) * 2 ^ 32) = ((hi * 2 ^ 32 : Nat) : Int) := by
    rw [show ((hi : Int) * 2 ^ 32) = ((hi * 2 ^ 32 : Nat) : Int) by simp, wu64n (by omega)]
  have a2 := or_u64 (a := hi * 2 ^ 32) (b := lo) (by omega) (by omega)
  have a3 : hi * 2 ^ 32 ||| lo = hi * 4294967296 + lo := by rw [Nat.or_comm, or_add (by omega)]; omega
  rw [a3] at a2
  have hq : (hi * 4294967296 + lo) / y < 4294967296 := by
    rw [Nat.div_lt_iff_lt_mul (by omega)]
    have : (hi + 1) * 4294967296 ≤ y * 4294967296 := Nat.mul_le_mul_right _ hh
    omega
  have hm : (hi * 4294967296 + lo) % y < y := Nat.mod_lt _ (by omega)
  have hz : hi * 4294967296 + lo < 18446744073709551616 := by omega
  generalize hi * 4294967296 + lo = z at *
  have t1 := tdiv_nat z y
  have t2 := tmod_nat z y
  generalize z / y = q at *
  generalize z % y = r at *
  have c4 := wu64n (n := q) (by omega)
  have c5 := wu32n (n := q) (by omega)
  have c6 := wu32n (n := r) (by omega)
  refine sim_of_ax tok mixed Tryz.func275 rfl (by kernel_rfl) (by kernel_rfl) (by simp only [Tryz.ntmps275, List.size_toArray, List.length_cons, List.length_nil]; omega) ?_
  simp -implicitDefEqProofs only [go_sem, Nat.reduceAdd, Nat.reduceSub, Nat.reduceMul, Nat.reduceLT, Nat.reduceLeDiff, Nat.reduceEqDiff, Nat.reduceBEq, Nat.reduceGT, Nat.reduceMod, Nat.reduceDiv, ↓reduceIte, reduceCtorEq, Int.reduceLE, Int.reduceLT, Int.reduceToNat, Int.reduceEq, Int.reduceNeg, Int.reduceAdd, Int.reduceSub, Int.reduceMul, y0, y1]
  refine ax_cond2 ?_
  simp only [ev_tmp, ev_const, ev_func, upd_at, put_some, put_none, bndB_bool, Nat.reduceEqDiff, if_true, if_false, ↓reduceIte, reduceCtorEq]
  refine ⟨fun hc => hc.elim, fun _ => ?_⟩
  simp -implicitDefEqProofs only [go_sem, Nat.reduceAdd, Nat.reduceSub, Nat.reduceMul, Nat.reduceLT, Nat.reduceLeDiff, Nat.reduceEqDiff, Nat.reduceBEq, Nat.reduceGT, Nat.reduceMod, Nat.reduceDiv, ↓reduceIte, reduceCtorEq, Int.reduceLE, Int.reduceLT, Int.reduceToNat, Int.reduceEq, Int.reduceNeg, Int.reduceAdd, Int.reduceSub, Int.reduceMul, aConv, c1, c2, a1, a2, h32, min_lit32]
  refine ax_quiet (by kernel_rfl) ?_
  simp -implicitDefEqProofs only [go_sem, Nat.reduceAdd, Nat.reduceSub, Nat.reduceMul, Nat.reduceLT, Nat.reduceLeDiff, Nat.reduceEqDiff, Nat.reduceBEq, Nat.reduceGT, Nat.reduceMod, Nat.reduceDiv, ↓reduceIte, reduceCtorEq, Int.reduceLE, Int.reduceLT, Int.reduceToNat, Int.reduceEq, Int.reduceNeg, Int.reduceAdd, Int.reduceSub, Int.reduceMul, aConv, c3, c4, c5, c6, t1, t2, y0, res275]

theorem add32_sim {H : Heap} {x y c : Nat} (hx : x < 4294967296) (hy : y < 4294967296) (hc : c ≤ 1) :
    Sim Tryz.prog 276 #[.int .u32 (x : Nat), .int .u32 (y : Nat), .int .u32 (c : Nat)] H (.tuple #[.int .u32 ((x + y + c) % 4294967296 : Nat), .int .u32 ((x + y + c) / 4294967296 : Nat)]) H := by
  have c1 := wu64n (n := x) (by omega)
  have c2 := wu64n (n := y) (by omega)
  have c3 := wu64n (n := c) (by omega)
  have a1 : IntKind.u64.wrap ((x : Int) + (y : Int)) = ((x + y : Nat) : Int) := by rw [addc, wu64n (by omega)]
  have a2 : IntKind.u64.wrap (((x + y : Nat) : Int) + (c : Int)) = ((x + y + c : Nat) : Int) := by rw [addc, wu64n (by omega)]
  have hz : x + y + c < 8589934592 := by omega
  generalize x + y + c = z at *
  have a3 := low_u32 z
  have a4 := fdiv_pow z 32
  have h32 : ¬ ((32 : Int) < 0) := by omega
  have a5 : IntKind.u32.wrap ((z / 2 ^ 32 : Nat) : Int) = ((z / 4294967296 : Nat) : Int) := wu32n (by omega)
  refine sim_of_ax tok mixed Tryz.func276 rfl (by kernel_rfl) (by kernel_rfl) (by simp only [Tryz.ntmps276, List.size_toArray, List.length_cons, List.length_nil]; omega) ?_
  simp -implicitDefEqProofs only [go_sem, Nat.reduceAdd, Nat.reduceSub, Nat.reduceMul, Nat.reduceLT, Nat.reduceLeDiff, Nat.reduceEqDiff, Nat.reduceBEq, Nat.reduceGT, Nat.reduceMod, Nat.reduceDiv, ↓reduceIte, reduceCtorEq, Int.reduceLE, Int.reduceLT, Int.reduceToNat, Int.reduceEq, Int.reduceNeg, Int.reduceAdd, Int.reduceSub, Int.reduceMul, aConv, c1, c2, c3, a1, a2, a3, a4, a5, h32, min_lit32, Int.reduceToNat, res276]

theorem short_sim {H : Heap} {v : Value} {l : List Nat} {n d : Nat} (hv : Lim H v l) (hn : Canl l n) (hl : l.length ≤ 10000000) (hd : d < 4294967296) (h0 : 0 < d) :
    ∃ u H', Sim Tryz.prog 262 #[v, .int .u32 (d : Nat)] H (.tuple #[u, .int .u32 (n % d : Nat)]) H' ∧ Ext H H' ∧ LN H' u (n / d) := by
  suffices hx : ∃ w H', Sim Tryz.prog 262 #[v, .int .u32 (d : Nat)] H w H' ∧ ∃ u, w = .tuple #[u, .int .u32 (n % d : Nat)] ∧ Ext H H' ∧ LN H' u (n / d) by
    obtain ⟨w, H', h1, u, rfl, h2⟩ := hx
    exact ⟨u, H', h1, h2⟩
  have e1 := hv.len (tt := tt) tt163
  have e2 : IntKind.i64.wrap ((l.length : Int) - 1) = (l.length : Int) - 1 := w64 (by omega) (by omega)
  refine sim_ex tok mixed Tryz.func262 rfl (by kernel_rfl) (by kernel_rfl) (by simp only [Tryz.ntmps262, List.size_toArray, List.length_cons, List.length_nil]; omega) ?_
  simp -implicitDefEqProofs only [go_sem, Nat.reduceAdd, Nat.reduceSub, Nat.reduceMul, Nat.reduceLT, Nat.reduceLeDiff, Nat.reduceEqDiff, Nat.reduceBEq, Nat.reduceGT, Nat.reduceMod, Nat.reduceDiv, ↓reduceIte, reduceCtorEq, Int.reduceLE, Int.reduceLT, Int.reduceToNat, Int.reduceEq, Int.reduceNeg, Int.reduceAdd, Int.reduceSub, Int.reduceMul, e1, e2, make_u32 H .i64 .i64 _ _ (Nat.le_refl _) (show l.length ≤ 200000000 by omega)]
  refine ax_loopx (fun (k : Nat) s T => ∃ (o : List Nat) (r : Nat), s 0 = v ∧ s 1 = .int .u32 (d : Nat) ∧ s 6 = .slice (some ⟨H.length, 0, none⟩) l.length l.length ∧ s 7 = .int .u32 (r : Nat) ∧ s 8 = .int .i64 ((k : Int) - 1) ∧
    k ≤ l.length ∧ r < d ∧ o.length = l.length ∧ small o ∧ valL (l.drop k) = valL (o.drop k) * d + r ∧ o.take k = List.replicate k 0 ∧ Row T H.length o ∧ Ext H T) id l.length ?_ ?_
  · refine ⟨List.replicate l.length 0, 0, ?_⟩
    simp -implicitDefEqProofs only [go_sem, Nat.reduceAdd, Nat.reduceSub, Nat.reduceMul, Nat.reduceLT, Nat.reduceLeDiff, Nat.reduceEqDiff, Nat.reduceBEq, Nat.reduceGT, Nat.reduceMod, Nat.reduceDiv, ↓reduceIte, reduceCtorEq, Int.reduceLE, Int.reduceLT, Int.reduceToNat, Int.reduceEq, Int.reduceNeg, Int.reduceAdd, Int.reduceSub, Int.reduceMul]
    exact ⟨h0, by simp, small_zeros _, by simp [valL], by simp, Row.new _ _, .app _ _⟩
  rintro k s T ⟨o, r, s0, s1, s6, s7, s8, hk, hr, ho, hs, hval, hz, hrow, hE⟩
  simp -implicitDefEqProofs only [go_sem, Nat.reduceAdd, Nat.reduceSub, Nat.reduceMul, Nat.reduceLT, Nat.reduceLeDiff, Nat.reduceEqDiff, Nat.reduceBEq, Nat.reduceGT, Nat.reduceMod, Nat.reduceDiv, ↓reduceIte, reduceCtorEq, Int.reduceLE, Int.reduceLT, Int.reduceToNat, Int.reduceEq, Int.reduceNeg, Int.reduceAdd, Int.reduceSub, Int.reduceMul, s8]
  refine ax_cond2 ?_
  simp only [ev_tmp, ev_const, ev_func, upd_at, put_some, put_none, bndB_bool, Nat.reduceEqDiff, if_true, if_false, ↓reduceIte, reduceCtorEq]
  refine ⟨fun hc0 => have hc := of_decide_eq_true hc0; ?_, fun hc0 => have hc := of_decide_eq_false hc0; ?_⟩
  · obtain ⟨k, rfl⟩ : ∃ k', k = k' + 1 := ⟨k - 1, by omega⟩
    obtain ⟨b, i, cp, rfl, hL⟩ := hv.at (by rintro rfl; simp at hk)
    have hrd := (hL.ext hE).rd (k := k) (by omega)
    have hx := small_get hn.small (k := k) (by omega)
    have hld := List.drop_eq_getElem_cons (l := l) (i := k) (by omega)
    generalize hxx : l[k]'(by omega) = x at hrd hx hld
    have hkk : ((k + 1 : Nat) : Int) - 1 = (k : Int) := by omega
    rw [hkk] at s8
    have hlt : (k : Int) < (l.length : Int) := by omega
    have hnn : (0 : Int) ≤ (k : Int) := by omega
    have a5 : IntKind.i64.wrap ((k : Int) - 1) = (k : Int) - 1 := w64 (by omega) (by omega)
    simp -implicitDefEqProofs only [go_sem, Nat.reduceAdd, Nat.reduceSub, Nat.reduceMul, Nat.reduceLT, Nat.reduceLeDiff, Nat.reduceEqDiff, Nat.reduceBEq, Nat.reduceGT, Nat.reduceMod, Nat.reduceDiv, ↓reduceIte, reduceCtorEq, Int.reduceLE, Int.reduceLT, Int.reduceToNat, Int.reduceEq, Int.reduceNeg, Int.reduceAdd, Int.reduceSub, Int.reduceMul, s0, s1, s6, s7, s8, aIndexAddr, hrd, hlt, hnn, Nat.mul_one]
    refine wl_callF #[.int .u32 (r : Nat), .int .u32 (x : Nat), .int .u32 (d : Nat)] (by simp -implicitDefEqProofs only [go_sem, Nat.reduceAdd, Nat.reduceSub, Nat.reduceMul, Nat.reduceLT, Nat.reduceLeDiff, Nat.reduceEqDiff, Nat.reduceBEq, Nat.reduceGT, Nat.reduceMod, Nat.reduceDiv, ↓reduceIte, reduceCtorEq, Int.reduceLE, Int.reduceLT, Int.reduceToNat, Int.reduceEq, Int.reduceNeg, Int.reduceAdd, Int.reduceSub, Int.reduceMul]) (div32_sim hr hd hx) (fun h => by cases h) ?_
    have hq : (r * 4294967296 + x) / d < 4294967296 := by
      rw [Nat.div_lt_iff_lt_mul h0]
      have : (r + 1) * 4294967296 ≤ d * 4294967296 := Nat.mul_le_mul_right _ hr
      omega
    have hm : (r * 4294967296 + x) % d < d := Nat.mod_lt _ h0
    have hdm := Nat.div_add_mod (r * 4294967296 + x) d
    generalize (r * 4294967296 + x) / d = q at hq hdm ⊢
    generalize (r * 4294967296 + x) % d = r' at hm hdm ⊢
    have hw := hrow.wr (j := k) (x := q) (by omega)
    simp -implicitDefEqProofs only [go_sem, Nat.reduceAdd, Nat.reduceSub, Nat.reduceMul, Nat.reduceLT, Nat.reduceLeDiff, Nat.reduceEqDiff, Nat.reduceBEq, Nat.reduceGT, Nat.reduceMod, Nat.reduceDiv, ↓reduceIte, reduceCtorEq, Int.reduceLE, Int.reduceLT, Int.reduceToNat, Int.reduceEq, Int.reduceNeg, Int.reduceAdd, Int.reduceSub, Int.reduceMul, s0, s1, s6, s8, aIndexAddr, hlt, hnn, Nat.mul_one, hw]
    simp only [a5]
    refine ⟨k, ⟨o.set k q, r', ?_⟩, Nat.lt_succ_self k⟩
    refine ⟨rfl, rfl, by omega, hm, by simpa using ho, small_set hs hq, ?_, ?_, hrow.set, hE.set (Nat.le_refl _) _⟩
    · have hod := List.drop_eq_getElem_cons (l := o.set k q) (i := k) (by simp; omega)
      rw [hld, hod, List.drop_set_of_lt (by omega)]
      simp only [valL, List.getElem_set_self]
      rw [hval, Nat.add_mul, Nat.mul_add, Nat.mul_assoc, Nat.mul_comm q d]
      omega
    · rw [List.take_set_of_le (Nat.le_refl _)]
      have := congrArg (List.take k) hz
      rw [List.take_take, Nat.min_eq_left (by omega)] at this
      rw [this]; simp
  · have hk0 : k = 0 := by omega
    subst hk0
    rw [List.drop_zero, List.drop_zero, hn.val] at hval
    have hlim := (hrow.at (c := l.length) l.length (.inr (Nat.le_refl _)) (by omega) (by omega)).lim
    rw [← ho, List.take_length] at hlim
    obtain ⟨u, htr, hlu⟩ := trim_sim hlim
    simp -implicitDefEqProofs only [go_sem, Nat.reduceAdd, Nat.reduceSub, Nat.reduceMul, Nat.reduceLT, Nat.reduceLeDiff, Nat.reduceEqDiff, Nat.reduceBEq, Nat.reduceGT, Nat.reduceMod, Nat.reduceDiv, ↓reduceIte, reduceCtorEq, Int.reduceLE, Int.reduceLT, Int.reduceToNat, Int.reduceEq, Int.reduceNeg, Int.reduceAdd, Int.reduceSub, Int.reduceMul, s6]
    rw [ho] at htr
    refine wl_callF #[_] (by simp -implicitDefEqProofs only [go_sem, Nat.reduceAdd, Nat.reduceSub, Nat.reduceMul, Nat.reduceLT, Nat.reduceLeDiff, Nat.reduceEqDiff, Nat.reduceBEq, Nat.reduceGT, Nat.reduceMod, Nat.reduceDiv, ↓reduceIte, reduceCtorEq, Int.reduceLE, Int.reduceLT, Int.reduceToNat, Int.reduceEq, Int.reduceNeg, Int.reduceAdd, Int.reduceSub, Int.reduceMul]) htr (fun h => by cases h) ?_
    simp -implicitDefEqProofs only [go_sem, Nat.reduceAdd, Nat.reduceSub, Nat.reduceMul, Nat.reduceLT, Nat.reduceLeDiff, Nat.reduceEqDiff, Nat.reduceBEq, Nat.reduceGT, Nat.reduceMod, Nat.reduceDiv, ↓reduceIte, reduceCtorEq, Int.reduceLE, Int.reduceLT, Int.reduceToNat, Int.reduceEq, Int.reduceNeg, Int.reduceAdd, Int.reduceSub, Int.reduceMul, s7, res262]
    have hcn := Canl.of_trim hs
    have e3 : n / d = valL o := by
      rw [hval, Nat.mul_comm, Nat.mul_add_div h0, Nat.div_eq_of_lt hr, Nat.add_zero]
    have e4 : n % d = r := by
      rw [hval, Nat.mul_comm, Nat.mul_add_mod, Nat.mod_eq_of_lt hr]
    rw [e3, e4]
    exact ⟨u, rfl, hE, _, hlu, hcn⟩
end Go.Proofs.YthhmkaikopdmjaaGreat
set_option linter.unusedSimpArgs false
set_option linter.unusedVariables false
set_option maxRecDepth 8000
namespace Go.Proofs.YthhmkaikopdmjaaGreat
open Go Go.Fw

def bitLen (n : Nat) : Nat := if n = 0 then 0 else n.log2 + 1
theorem bitLen_bounds {y : Nat} (h : 0 < y) : 2 ^ (bitLen y - 1) ≤ y ∧ y < 2 ^ bitLen y ∧ 1 ≤ bitLen y := by
  unfold bitLen
  rw [if_neg (by omega)]
  exact ⟨Nat.log2_self_le (by omega), Nat.lt_log2_self, by omega⟩
theorem bitLen_le {y k : Nat} (h : 0 < y) (hy : y < 2 ^ k) : bitLen y ≤ k := by
  refine Classical.byContradiction fun hc => ?_
  have h1 := (bitLen_bounds h).1
  have h2 : 2 ^ k ≤ 2 ^ (bitLen y - 1) := Nat.pow_le_pow_right (by decide) (by omega)
  omega

theorem len32_sim {H : Heap} {x : Nat} (hx : x < 4294967296) (h0 : 0 < x) : ∃ L : Nat, 1 ≤ L ∧ L ≤ 32 ∧ 2 ^ (L - 1) ≤ x ∧ x < 2 ^ L ∧
    Sim Tryz.prog 185 #[.int .u32 (x : Nat)] H (.int .i64 (L : Nat)) H := by
  obtain ⟨a, y, ha, hy, hy0, hxy1, hxy2, hcase⟩ : ∃ a y : Nat, (a = 0 ∨ a = 8 ∨ a = 16 ∨ a = 24) ∧ y < 256 ∧ 0 < y ∧ 2 ^ a * y ≤ x ∧ x < 2 ^ a * (y + 1) ∧
      ((x < 256 ∧ a = 0 ∧ y = x) ∨ (256 ≤ x ∧ x < 65536 ∧ a = 8 ∧ y = x / 256) ∨ (65536 ≤ x ∧ x / 65536 < 256 ∧ a = 16 ∧ y = x / 65536) ∨ (65536 ≤ x ∧ 256 ≤ x / 65536 ∧ a = 24 ∧ y = x / 65536 / 256)) := by
    by_cases h1 : x < 65536
    · by_cases h2 : x < 256
      · exact ⟨0, x, by omega, by omega, by omega, by omega, by omega, by omega⟩
      · exact ⟨8, x / 256, by omega, by omega, by omega, by omega, by omega, by omega⟩
    · by_cases h2 : x / 65536 < 256
      · exact ⟨16, x / 65536, by omega, by omega, by omega, by omega, by omega, by omega⟩
      · exact ⟨24, x / 65536 / 256, by omega, by omega, by omega, by omega, by omega, by omega⟩
  have hb := bitLen_bounds hy0
  have hbl := bitLen_le hy0 (k := 8) hy
  refine ⟨a + bitLen y, by omega, by omega, ?_, ?_, ?_⟩
  · rw [show a + bitLen y - 1 = a + (bitLen y - 1) by omega, Nat.pow_add]
    exact Nat.le_trans (Nat.mul_le_mul_left _ hb.1) hxy1
  · rw [Nat.pow_add]
    exact Nat.lt_of_lt_of_le hxy2 (Nat.mul_le_mul_left _ hb.2.1)
  have h16 : ¬ ((16 : Int) < 0) := by omega
  have h8 : ¬ ((8 : Int) < 0) := by omega
  have f16 := fdiv_pow x 16
  have c3 : (0 : Int) ≤ (y : Int) := by omega
  have c4 : IntKind.u8.wrap (y : Int) = (y : Int) := wu8 (by omega) (by omega)
  have c5 : IntKind.i64.wrap ((a : Int) + (bitLen y : Int)) = ((a + bitLen y : Nat) : Int) := by rw [addc, w64n (by omega)]
  have c6 : IntKind.i64.wrap (((UInt8.ofNat (bitLen y)).toNat : Nat) : Int) = (bitLen y : Int) := by
    have : (UInt8.ofNat (bitLen y)).toNat = bitLen y := by simp; omega
    rw [this, w64n (by omega)]
  have b16 : (16 : Int) = ((16 : Nat) : Int) := rfl
  have key : ∀ (B : ByteArray), (∀ z : Fin 256, B[z.1]? = some (UInt8.ofNat (bitLen z.1))) → B[y]? = some (UInt8.ofNat (bitLen y)) := fun B h => h ⟨y, hy⟩
  refine sim_of_ax tok mixed Tryz.func185 rfl (by kernel_rfl) (by kernel_rfl) (by simp only [Tryz.ntmps185, List.size_toArray, List.length_cons, List.length_nil]; omega) ?_
  generalize hB : (⟨(List.toArray _)⟩ : ByteArray) = B
  have hg := key B (by rw [← hB]; decide +kernel)
  clear hB key
  rcases hcase with ⟨k1, rfl, rfl⟩ | ⟨k1, k2, rfl, k3⟩ | ⟨k1, k2, rfl, k3⟩ | ⟨k1, k2, rfl, k3⟩
  · have d1 : ¬ ((65536 : Int) ≤ (y : Int)) := by omega
    have d2 : ¬ ((256 : Int) ≤ (y : Int)) := by omega
    simp -implicitDefEqProofs only [go_sem, Nat.reduceAdd, Nat.reduceSub, Nat.reduceMul, Nat.reduceLT, Nat.reduceLeDiff, Nat.reduceEqDiff, Nat.reduceBEq, Nat.reduceGT, Nat.reduceMod, Nat.reduceDiv, ↓reduceIte, reduceCtorEq, Int.reduceLE, Int.reduceLT, Int.reduceToNat, Int.reduceEq, Int.reduceNeg, Int.reduceAdd, Int.reduceSub, Int.reduceMul, d1]
    refine ax_cond2 ?_
    simp only [ev_tmp, ev_const, ev_func, upd_at, put_some, put_none, bndB_bool, Nat.reduceEqDiff, if_true, if_false, ↓reduceIte, reduceCtorEq]
    refine ⟨fun hc => hc.elim, fun _ => ?_⟩
    simp -implicitDefEqProofs only [go_sem, Nat.reduceAdd, Nat.reduceSub, Nat.reduceMul, Nat.reduceLT, Nat.reduceLeDiff, Nat.reduceEqDiff, Nat.reduceBEq, Nat.reduceGT, Nat.reduceMod, Nat.reduceDiv, ↓reduceIte, reduceCtorEq, Int.reduceLE, Int.reduceLT, Int.reduceToNat, Int.reduceEq, Int.reduceNeg, Int.reduceAdd, Int.reduceSub, Int.reduceMul, d2]
    refine ax_cond2 ?_
    simp only [ev_tmp, ev_const, ev_func, upd_at, put_some, put_none, bndB_bool, Nat.reduceEqDiff, if_true, if_false, ↓reduceIte, reduceCtorEq]
    refine ⟨fun hc => hc.elim, fun _ => ?_⟩
    rw [cast0, Int.zero_add] at c5
    simp -implicitDefEqProofs only [go_sem, Nat.reduceAdd, Nat.reduceSub, Nat.reduceMul, Nat.reduceLT, Nat.reduceLeDiff, Nat.reduceEqDiff, Nat.reduceBEq, Nat.reduceGT, Nat.reduceMod, Nat.reduceDiv, ↓reduceIte, reduceCtorEq, Int.reduceLE, Int.reduceLT, Int.reduceToNat, Int.reduceEq, Int.reduceNeg, Int.reduceAdd, Int.reduceSub, Int.reduceMul, aConv, c3, c4, hg, c6, Int.zero_add, Nat.zero_add, res185]
    simp only [c5, Nat.zero_add]
  · have d1 : ¬ ((65536 : Int) ≤ (x : Int)) := by omega
    have d2 : (256 : Int) ≤ (x : Int) := by omega
    have f8 := fdiv_pow x 8
    have f8' : x / 2 ^ 8 = y := by omega
    rw [f8'] at f8
    simp -implicitDefEqProofs only [go_sem, Nat.reduceAdd, Nat.reduceSub, Nat.reduceMul, Nat.reduceLT, Nat.reduceLeDiff, Nat.reduceEqDiff, Nat.reduceBEq, Nat.reduceGT, Nat.reduceMod, Nat.reduceDiv, ↓reduceIte, reduceCtorEq, Int.reduceLE, Int.reduceLT, Int.reduceToNat, Int.reduceEq, Int.reduceNeg, Int.reduceAdd, Int.reduceSub, Int.reduceMul, d1]
    refine ax_cond2 ?_
    simp only [ev_tmp, ev_const, ev_func, upd_at, put_some, put_none, bndB_bool, Nat.reduceEqDiff, if_true, if_false, ↓reduceIte, reduceCtorEq]
    refine ⟨fun hc => hc.elim, fun _ => ?_⟩
    simp -implicitDefEqProofs only [go_sem, Nat.reduceAdd, Nat.reduceSub, Nat.reduceMul, Nat.reduceLT, Nat.reduceLeDiff, Nat.reduceEqDiff, Nat.reduceBEq, Nat.reduceGT, Nat.reduceMod, Nat.reduceDiv, ↓reduceIte, reduceCtorEq, Int.reduceLE, Int.reduceLT, Int.reduceToNat, Int.reduceEq, Int.reduceNeg, Int.reduceAdd, Int.reduceSub, Int.reduceMul, d2]
    refine ax_cond2 ?_
    simp only [ev_tmp, ev_const, ev_func, upd_at, put_some, put_none, bndB_bool, Nat.reduceEqDiff, if_true, if_false, ↓reduceIte, reduceCtorEq]
    refine ⟨fun _ => ?_, fun hc => hc.elim⟩
    simp -implicitDefEqProofs only [go_sem, Nat.reduceAdd, Nat.reduceSub, Nat.reduceMul, Nat.reduceLT, Nat.reduceLeDiff, Nat.reduceEqDiff, Nat.reduceBEq, Nat.reduceGT, Nat.reduceMod, Nat.reduceDiv, ↓reduceIte, reduceCtorEq, Int.reduceLE, Int.reduceLT, Int.reduceToNat, Int.reduceEq, Int.reduceNeg, Int.reduceAdd, Int.reduceSub, Int.reduceMul, aConv, c3, c4, hg, c6, h8, f8, min_lit8, Int.zero_add, show IntKind.i64.wrap 8 = ((8 : Nat) : Int) from rfl, c5, res185]
  · have d1 : ((65536 : Int) ≤ (x : Int)) := by omega
    have d2 : ¬ (256 : Int) ≤ (y : Int) := by omega
    have f8' : x / 2 ^ 16 = y := by omega
    rw [f8'] at f16
    simp -implicitDefEqProofs only [go_sem, Nat.reduceAdd, Nat.reduceSub, Nat.reduceMul, Nat.reduceLT, Nat.reduceLeDiff, Nat.reduceEqDiff, Nat.reduceBEq, Nat.reduceGT, Nat.reduceMod, Nat.reduceDiv, ↓reduceIte, reduceCtorEq, Int.reduceLE, Int.reduceLT, Int.reduceToNat, Int.reduceEq, Int.reduceNeg, Int.reduceAdd, Int.reduceSub, Int.reduceMul, d1]
    refine ax_cond2 ?_
    simp only [ev_tmp, ev_const, ev_func, upd_at, put_some, put_none, bndB_bool, Nat.reduceEqDiff, if_true, if_false, ↓reduceIte, reduceCtorEq]
    refine ⟨fun _ => ?_, fun hc => hc.elim⟩
    simp -implicitDefEqProofs only [go_sem, Nat.reduceAdd, Nat.reduceSub, Nat.reduceMul, Nat.reduceLT, Nat.reduceLeDiff, Nat.reduceEqDiff, Nat.reduceBEq, Nat.reduceGT, Nat.reduceMod, Nat.reduceDiv, ↓reduceIte, reduceCtorEq, Int.reduceLE, Int.reduceLT, Int.reduceToNat, Int.reduceEq, Int.reduceNeg, Int.reduceAdd, Int.reduceSub, Int.reduceMul, h16, f16, min_lit16, d2]
    refine ax_cond2 ?_
    simp only [ev_tmp, ev_const, ev_func, upd_at, put_some, put_none, bndB_bool, Nat.reduceEqDiff, if_true, if_false, ↓reduceIte, reduceCtorEq]
    refine ⟨fun hc => hc.elim, fun _ => ?_⟩
    rw [← b16] at c5
    simp -implicitDefEqProofs only [go_sem, Nat.reduceAdd, Nat.reduceSub, Nat.reduceMul, Nat.reduceLT, Nat.reduceLeDiff, Nat.reduceEqDiff, Nat.reduceBEq, Nat.reduceGT, Nat.reduceMod, Nat.reduceDiv, ↓reduceIte, reduceCtorEq, Int.reduceLE, Int.reduceLT, Int.reduceToNat, Int.reduceEq, Int.reduceNeg, Int.reduceAdd, Int.reduceSub, Int.reduceMul, aConv, c3, c4, hg, c6, c5, res185]
  · have d1 : ((65536 : Int) ≤ (x : Int)) := by omega
    have d2 : (256 : Int) ≤ ((x / 2 ^ 16 : Nat) : Int) := by omega
    have f8 := fdiv_pow (x / 2 ^ 16) 8
    have f8' : x / 2 ^ 16 / 2 ^ 8 = y := by omega
    rw [f8'] at f8
    simp -implicitDefEqProofs only [go_sem, Nat.reduceAdd, Nat.reduceSub, Nat.reduceMul, Nat.reduceLT, Nat.reduceLeDiff, Nat.reduceEqDiff, Nat.reduceBEq, Nat.reduceGT, Nat.reduceMod, Nat.reduceDiv, ↓reduceIte, reduceCtorEq, Int.reduceLE, Int.reduceLT, Int.reduceToNat, Int.reduceEq, Int.reduceNeg, Int.reduceAdd, Int.reduceSub, Int.reduceMul, d1]
    refine ax_cond2 ?_
    simp only [ev_tmp, ev_const, ev_func, upd_at, put_some, put_none, bndB_bool, Nat.reduceEqDiff, if_true, if_false, ↓reduceIte, reduceCtorEq]
    refine ⟨fun _ => ?_, fun hc => hc.elim⟩
    simp -implicitDefEqProofs only [go_sem, Nat.reduceAdd, Nat.reduceSub, Nat.reduceMul, Nat.reduceLT, Nat.reduceLeDiff, Nat.reduceEqDiff, Nat.reduceBEq, Nat.reduceGT, Nat.reduceMod, Nat.reduceDiv, ↓reduceIte, reduceCtorEq, Int.reduceLE, Int.reduceLT, Int.reduceToNat, Int.reduceEq, Int.reduceNeg, Int.reduceAdd, Int.reduceSub, Int.reduceMul, h16, f16, min_lit16, d2]
    refine ax_cond2 ?_
    simp only [ev_tmp, ev_const, ev_func, upd_at, put_some, put_none, bndB_bool, Nat.reduceEqDiff, if_true, if_false, ↓reduceIte, reduceCtorEq]
    refine ⟨fun _ => ?_, fun hc => hc.elim⟩
    simp -implicitDefEqProofs only [go_sem, Nat.reduceAdd, Nat.reduceSub, Nat.reduceMul, Nat.reduceLT, Nat.reduceLeDiff, Nat.reduceEqDiff, Nat.reduceBEq, Nat.reduceGT, Nat.reduceMod, Nat.reduceDiv, ↓reduceIte, reduceCtorEq, Int.reduceLE, Int.reduceLT, Int.reduceToNat, Int.reduceEq, Int.reduceNeg, Int.reduceAdd, Int.reduceSub, Int.reduceMul, aConv, c3, c4, hg, c6, h8, f8, min_lit8, show IntKind.i64.wrap 24 = ((24 : Nat) : Int) from rfl, c5, res185]

theorem lead_sim {H : Heap} {x : Nat} (hx : x < 4294967296) (h0 : 0 < x) : ∃ k : Nat, k ≤ 31 ∧ 2147483648 ≤ x * 2 ^ k ∧ x * 2 ^ k < 4294967296 ∧
    Sim Tryz.prog 263 #[.int .u32 (x : Nat)] H (.int .i64 (k : Nat)) H := by
  obtain ⟨L, h1, h2, h3, h4, hsim⟩ := len32_sim (H := H) hx h0
  have e : IntKind.i64.wrap (32 - (L : Int)) = ((32 - L : Nat) : Int) := by rw [w64 (by omega) (by omega)]; omega
  refine ⟨32 - L, by omega, ?_, ?_, ?_⟩
  · have : 2 ^ (L - 1) * 2 ^ (32 - L) ≤ x * 2 ^ (32 - L) := Nat.mul_le_mul_right _ h3
    rw [← Nat.pow_add, show L - 1 + (32 - L) = 31 by omega] at this
    exact this
  · have : x * 2 ^ (32 - L) < 2 ^ L * 2 ^ (32 - L) := Nat.mul_lt_mul_of_pos_right h4 (Nat.pow_pos (by decide))
    rw [← Nat.pow_add, show L + (32 - L) = 32 by omega] at this
    exact this
  refine sim_of_ax tok mixed Tryz.func263 rfl (by kernel_rfl) (by kernel_rfl) (by simp only [Tryz.ntmps263, List.size_toArray, List.length_cons, List.length_nil]; omega) ?_
  simp -implicitDefEqProofs only [go_sem, Nat.reduceAdd, Nat.reduceSub, Nat.reduceMul, Nat.reduceLT, Nat.reduceLeDiff, Nat.reduceEqDiff, Nat.reduceBEq, Nat.reduceGT, Nat.reduceMod, Nat.reduceDiv, ↓reduceIte, reduceCtorEq, Int.reduceLE, Int.reduceLT, Int.reduceToNat, Int.reduceEq, Int.reduceNeg, Int.reduceAdd, Int.reduceSub, Int.reduceMul]
  refine wl_callF #[.int .u32 (x : Nat)] (by simp -implicitDefEqProofs only [go_sem, Nat.reduceAdd, Nat.reduceSub, Nat.reduceMul, Nat.reduceLT, Nat.reduceLeDiff, Nat.reduceEqDiff, Nat.reduceBEq, Nat.reduceGT, Nat.reduceMod, Nat.reduceDiv, ↓reduceIte, reduceCtorEq, Int.reduceLE, Int.reduceLT, Int.reduceToNat, Int.reduceEq, Int.reduceNeg, Int.reduceAdd, Int.reduceSub, Int.reduceMul]) hsim (fun h => by cases h) ?_
  simp -implicitDefEqProofs only [go_sem, Nat.reduceAdd, Nat.reduceSub, Nat.reduceMul, Nat.reduceLT, Nat.reduceLeDiff, Nat.reduceEqDiff, Nat.reduceBEq, Nat.reduceGT, Nat.reduceMod, Nat.reduceDiv, ↓reduceIte, reduceCtorEq, Int.reduceLE, Int.reduceLT, Int.reduceToNat, Int.reduceEq, Int.reduceNeg, Int.reduceAdd, Int.reduceSub, Int.reduceMul, e, res263]

theorem shl_low (x k : Nat) (hk : k ≤ 32) : (x * 2 ^ k) % 4294967296 = (x % 2 ^ (32 - k)) * 2 ^ k := by
  rw [show (4294967296 : Nat) = 2 ^ (32 - k) * 2 ^ k by rw [← Nat.pow_add, show 32 - k + k = 32 by omega], Nat.mul_mod_mul_right]

theorem shift_sim {H : Heap} {v : Value} {l : List Nat} {n k : Nat} (hv : Lim H v l) (hn : small l) (hval : valL l = n) (hl : l.length ≤ 10000000) (hk : k ≤ 31) :
    ∃ H' o, Sim Tryz.prog 264 #[v, .int .i64 (k : Nat)] H (.slice (some ⟨H.length, 0, none⟩) (l.length + 1) (l.length + 1)) H' ∧ Ext H H' ∧ Row H' H.length o ∧ o.length = l.length + 1 ∧ small o ∧ valL o = n * 2 ^ k := by
  suffices hx : ∃ w H', Sim Tryz.prog 264 #[v, .int .i64 (k : Nat)] H w H' ∧ w = .slice (some ⟨H.length, 0, none⟩) (l.length + 1) (l.length + 1) ∧ Ext H H' ∧ ∃ o, Row H' H.length o ∧ o.length = l.length + 1 ∧ small o ∧ valL o = n * 2 ^ k by
    obtain ⟨w, H', h1, rfl, h2, o, h3⟩ := hx
    exact ⟨H', o, h1, h2, h3⟩
  have e1 := hv.len (tt := tt) tt163
  have e2 : IntKind.i64.wrap ((l.length : Int) + 1) = ((l.length + 1 : Nat) : Int) := by rw [w64 (by omega) (by omega)]; rfl
  refine sim_ex tok mixed Tryz.func264 rfl (by kernel_rfl) (by kernel_rfl) (by simp only [Tryz.ntmps264, List.size_toArray, List.length_cons, List.length_nil]; omega) ?_
  simp -implicitDefEqProofs only [go_sem, Nat.reduceAdd, Nat.reduceSub, Nat.reduceMul, Nat.reduceLT, Nat.reduceLeDiff, Nat.reduceEqDiff, Nat.reduceBEq, Nat.reduceGT, Nat.reduceMod, Nat.reduceDiv, ↓reduceIte, reduceCtorEq, Int.reduceLE, Int.reduceLT, Int.reduceToNat, Int.reduceEq, Int.reduceNeg, Int.reduceAdd, Int.reduceSub, Int.reduceMul, e1, e2, make_u32 H .i64 .i64 _ _ (Nat.le_refl _) (show l.length + 1 ≤ 200000000 by omega)]
  refine ax_loopx (fun (i : Nat) s T => ∃ (o : List Nat) (c : Nat), s 1 = .int .i64 (k : Nat) ∧ s 5 = .slice (some ⟨H.length, 0, none⟩) (l.length + 1) (l.length + 1) ∧ s 13 = v ∧ s 14 = .int .i64 (l.length : Nat) ∧ s 15 = .int .i64 (i : Nat) ∧
    i ≤ l.length ∧ o.length = l.length + 1 ∧ small o ∧ c < 2 ^ k ∧ o.drop i = c :: List.replicate (l.length - i) 0 ∧ valL (o.take i) + 4294967296 ^ i * c = valL (l.take i) * 2 ^ k ∧ Row T H.length o ∧ Ext H T) (fun i => l.length - i) 0 ?_ ?_
  · refine ⟨List.replicate (l.length + 1) 0, 0, ?_⟩
    simp -implicitDefEqProofs only [go_sem, Nat.reduceAdd, Nat.reduceSub, Nat.reduceMul, Nat.reduceLT, Nat.reduceLeDiff, Nat.reduceEqDiff, Nat.reduceBEq, Nat.reduceGT, Nat.reduceMod, Nat.reduceDiv, ↓reduceIte, reduceCtorEq, Int.reduceLE, Int.reduceLT, Int.reduceToNat, Int.reduceEq, Int.reduceNeg, Int.reduceAdd, Int.reduceSub, Int.reduceMul]
    exact ⟨by simp, small_zeros _, Nat.pow_pos (by decide), by simp [List.replicate_succ], by simp [valL], Row.new _ _, .app _ _⟩
  rintro i s T ⟨o, c, h1, h5, h13, h14, h15, hi, ho, hs, hc, hd, hvl, hrow, hE⟩
  simp -implicitDefEqProofs only [go_sem, Nat.reduceAdd, Nat.reduceSub, Nat.reduceMul, Nat.reduceLT, Nat.reduceLeDiff, Nat.reduceEqDiff, Nat.reduceBEq, Nat.reduceGT, Nat.reduceMod, Nat.reduceDiv, ↓reduceIte, reduceCtorEq, Int.reduceLE, Int.reduceLT, Int.reduceToNat, Int.reduceEq, Int.reduceNeg, Int.reduceAdd, Int.reduceSub, Int.reduceMul, h13, h14, h15]
  refine ax_cond2 ?_
  simp only [ev_tmp, ev_const, ev_func, upd_at, put_some, put_none, bndB_bool, Nat.reduceEqDiff, if_true, if_false, ↓reduceIte, reduceCtorEq]
  refine ⟨fun hc0 => have hlt := of_decide_eq_true hc0; ?_, fun hc0 => have hlt := of_decide_eq_false hc0; ?_⟩
  · obtain ⟨b, i0, cp, rfl, hL⟩ := hv.at (by rintro rfl; simp only [List.length_nil] at hlt; omega)
    have hr := (hL.ext hE).rd (k := i) (by omega)
    have hx := small_get hn (k := i) (by omega)
    have hts := valL_take_succ (l := l) (k := i) (by omega)
    generalize hxx : l[i]'(by omega) = x at hr hx hts
    have hnn : (0 : Int) ≤ (i : Int) := by omega
    have hlt2 : (i : Int) < ((l.length + 1 : Nat) : Int) := by omega
    have hlt3 : ((i + 1 : Nat) : Int) < ((l.length + 1 : Nat) : Int) := by omega
    have hnn3 : (0 : Int) ≤ ((i + 1 : Nat) : Int) := by omega
    have hk0 : ¬ ((k : Int) < 0) := by omega
    have h32 : ¬ ((32 : Int) < 0) := by omega
    have hp : 2 ^ k ≤ 2 ^ 31 := Nat.pow_le_pow_right (by decide) hk
    have hxk : x * 2 ^ k ≤ 4294967295 * 2 ^ 31 := Nat.mul_le_mul (by omega) hp
    have hmin : min k 64 = k := by omega
    have a1 : IntKind.u64.wrap ((x : Int) * 2 ^ k) = ((x * 2 ^ k : Nat) : Int) := by
      rw [show ((x : Int) * 2 ^ k) = ((x * 2 ^ k : Nat) : Int) by simp, wu64n (by omega)]
    have a0 := wu64n (n := x) (by omega)
    have hoc : o[i]'(by omega) = c := by
      have := List.drop_eq_getElem_cons (l := o) (i := i) (by omega)
      rw [hd] at this
      exact (List.cons.inj this).1.symm
    have hoz : o.drop (i + 1) = List.replicate (l.length - i) 0 := by
      have := List.drop_eq_getElem_cons (l := o) (i := i) (by omega)
      rw [hd] at this
      exact (List.cons.inj this).2.symm
    have hro := hrow.rd (j := i) (by omega)
    rw [hoc] at hro
    have a2 := low_u32 (x * 2 ^ k)
    have a3 := fdiv_pow (x * 2 ^ k) 32
    have hsl := shl_low x k (by omega)
    have hc32 : c < 2 ^ 32 := by omega
    have a4 : orI .u32 (c : Int) ((x * 2 ^ k % 4294967296 : Nat) : Int) = ((c + x * 2 ^ k % 4294967296 : Nat) : Int) := by
      rw [or_u32 hc32 (by omega), hsl, or_add hc]
    have hsum : c + x * 2 ^ k % 4294967296 < 4294967296 := by
      have : c + x * 2 ^ k % 4294967296 = c ||| (x * 2 ^ k % 4294967296) := by rw [hsl, or_add hc]
      rw [this]
      exact Nat.or_lt_two_pow (n := 32) hc32 (by omega)
    have hhi : x * 2 ^ k / 4294967296 < 2 ^ k := by
      rw [Nat.div_lt_iff_lt_mul (by decide), Nat.mul_comm]
      exact Nat.mul_lt_mul_of_pos_left hx (Nat.pow_pos (by decide))
    have hdm := Nat.div_add_mod (x * 2 ^ k) 4294967296
    have hdiv : x * 2 ^ k / 2 ^ 32 = x * 2 ^ k / 4294967296 := rfl
    rw [hdiv] at a3
    rw [show c + x * 2 ^ k % 4294967296 = c + x * 2 ^ k % 4294967296 from rfl] at a4
    have hmul : 4294967296 ^ i * (x * 2 ^ k) = 4294967296 ^ i * x * 2 ^ k := by rw [Nat.mul_assoc]
    generalize x * 2 ^ k % 4294967296 = lo at *
    generalize x * 2 ^ k / 4294967296 = hi2 at *
    have a6 := wu32n (n := hi2) (by omega)
    have hw1 := hrow.wr (j := i) (x := c + lo) (by omega)
    have hrow2 : Row _ H.length _ := hrow.set (o' := o.set i (c + lo))
    have hE2 := hE.set (Nat.le_refl H.length) (B := ⟨u32s (o.set i (c + lo)), 1, true⟩)
    have hw2 := hrow2.wr (j := i + 1) (x := hi2) (by simp; omega)
    have a7 : IntKind.i64.wrap ((i : Int) + 1) = ((i + 1 : Nat) : Int) := by rw [w64 (by omega) (by omega)]; rfl
    simp -implicitDefEqProofs only [go_sem, Nat.reduceAdd, Nat.reduceSub, Nat.reduceMul, Nat.reduceLT, Nat.reduceLeDiff, Nat.reduceEqDiff, Nat.reduceBEq, Nat.reduceGT, Nat.reduceMod, Nat.reduceDiv, ↓reduceIte, reduceCtorEq, Int.reduceLE, Int.reduceLT, Int.reduceToNat, Int.reduceEq, Int.reduceNeg, Int.reduceAdd, Int.reduceSub, Int.reduceMul, h1, h5, h13, h14, h15, aIndexAddr, hr, hlt, hlt2, hlt3, hnn, hnn3, Nat.mul_one, aConv, a0, a1, hk0, h32, hmin, hro, a2, a4, hw1, a7, min_lit32, a3, a6, hw2]
    refine ⟨i + 1, ⟨(o.set i (c + lo)).set (i + 1) hi2, hi2, ?_⟩, by omega⟩
    refine ⟨rfl, by omega, by simpa using ho, small_set (small_set hs hsum) (by omega), hhi, ?_, ?_, hrow2.set, hE2.set (Nat.le_refl _) _⟩
    · rw [List.drop_eq_getElem_cons (by simp; omega)]
      simp only [List.getElem_set_self, List.cons.injEq, true_and]
      rw [List.drop_set_of_lt (by omega), List.drop_set_of_lt (by omega)]
      have := congrArg (List.drop 1) hoz
      rw [List.drop_drop, List.drop_replicate] at this
      rw [this]; congr 1
    · rw [List.take_set_of_le (by omega), valL_take_set (by omega), hts, Nat.add_mul, ← hvl, ← hmul, ← hdm, Nat.pow_succ]
      rw [Nat.mul_add, Nat.mul_add, Nat.mul_assoc]
      omega
  · have hil : i = l.length := by omega
    subst hil
    simp -implicitDefEqProofs only [go_sem, Nat.reduceAdd, Nat.reduceSub, Nat.reduceMul, Nat.reduceLT, Nat.reduceLeDiff, Nat.reduceEqDiff, Nat.reduceBEq, Nat.reduceGT, Nat.reduceMod, Nat.reduceDiv, ↓reduceIte, reduceCtorEq, Int.reduceLE, Int.reduceLT, Int.reduceToNat, Int.reduceEq, Int.reduceNeg, Int.reduceAdd, Int.reduceSub, Int.reduceMul, h5, res264]
    refine ⟨hE, o, hrow, ho, hs, ?_⟩
    rw [List.take_length, hval] at hvl
    rw [← hvl, ← List.take_append_drop l.length o, valL_app, hd]
    simp [valL, ho]
end Go.Proofs.YthhmkaikopdmjaaGreat
set_option linter.unusedSimpArgs false
set_option linter.unusedVariables false
set_option maxRecDepth 8000
namespace Go.Proofs.YthhmkaikopdmjaaGreat
open Go Go.Fw

theorem unshift_sim {H : Heap} {v : Value} {l : List Nat} {k : Nat} (hv : Lim H v l) (hn : small l) (hl : l.length ≤ 10000001) (hk : k ≤ 31) :
    ∃ u H', Sim Tryz.prog 266 #[v, .int .i64 (k : Nat)] H u H' ∧ Ext H H' ∧ LN H' u (valL l / 2 ^ k) := by
  have e1 := hv.len (tt := tt) tt163
  refine sim_ex tok mixed Tryz.func266 rfl (by kernel_rfl) (by kernel_rfl) (by simp only [Tryz.ntmps266, List.size_toArray, List.length_cons, List.length_nil]; omega) ?_
  simp -implicitDefEqProofs only [go_sem, Nat.reduceAdd, Nat.reduceSub, Nat.reduceMul, Nat.reduceLT, Nat.reduceLeDiff, Nat.reduceEqDiff, Nat.reduceBEq, Nat.reduceGT, Nat.reduceMod, Nat.reduceDiv, ↓reduceIte, reduceCtorEq, Int.reduceLE, Int.reduceLT, Int.reduceToNat, Int.reduceEq, Int.reduceNeg, Int.reduceAdd, Int.reduceSub, Int.reduceMul, e1, make_u32 H .i64 .i64 _ _ (Nat.le_refl _) (show l.length ≤ 200000000 by omega)]
  refine ax_loopx (fun (i : Nat) s T => ∃ (o : List Nat), s 0 = v ∧ s 1 = .int .i64 (k : Nat) ∧ s 5 = .slice (some ⟨H.length, 0, none⟩) l.length l.length ∧ s 12 = .int .i64 (l.length : Nat) ∧ s 13 = .int .i64 (i : Nat) ∧
    i ≤ l.length ∧ o.length = l.length ∧ small o ∧ valL (o.take i) = valL l / 2 ^ k % 4294967296 ^ i ∧ Row T H.length o ∧ Ext H T) (fun i => l.length - i) 0 ?_ ?_
  · refine ⟨List.replicate l.length 0, ?_⟩
    simp -implicitDefEqProofs only [go_sem, Nat.reduceAdd, Nat.reduceSub, Nat.reduceMul, Nat.reduceLT, Nat.reduceLeDiff, Nat.reduceEqDiff, Nat.reduceBEq, Nat.reduceGT, Nat.reduceMod, Nat.reduceDiv, ↓reduceIte, reduceCtorEq, Int.reduceLE, Int.reduceLT, Int.reduceToNat, Int.reduceEq, Int.reduceNeg, Int.reduceAdd, Int.reduceSub, Int.reduceMul]
    exact ⟨by simp, small_zeros _, by simp [valL, Nat.mod_one], Row.new _ _, .app _ _⟩
  rintro i s T ⟨o, h0, h1, h5, h12, h13, hi, ho, hs, hval, hrow, hE⟩
  simp -implicitDefEqProofs only [go_sem, Nat.reduceAdd, Nat.reduceSub, Nat.reduceMul, Nat.reduceLT, Nat.reduceLeDiff, Nat.reduceEqDiff, Nat.reduceBEq, Nat.reduceGT, Nat.reduceMod, Nat.reduceDiv, ↓reduceIte, reduceCtorEq, Int.reduceLE, Int.reduceLT, Int.reduceToNat, Int.reduceEq, Int.reduceNeg, Int.reduceAdd, Int.reduceSub, Int.reduceMul, h12, h13]
  refine ax_cond2 ?_
  simp only [ev_tmp, ev_const, ev_func, upd_at, put_some, put_none, bndB_bool, Nat.reduceEqDiff, if_true, if_false, ↓reduceIte, reduceCtorEq]
  refine ⟨fun hc0 => have hlt := of_decide_eq_true hc0; ?_, fun hc0 => have hlt := of_decide_eq_false hc0; ?_⟩
  · obtain ⟨b, i0, cp, rfl, hL⟩ := hv.at (by rintro rfl; simp only [List.length_nil] at hlt; omega)
    have hr := (hL.ext hE).rd (k := i) (by omega)
    have hx := small_get hn (k := i) (by omega)
    have hdx := valL_digit l hn i
    have hdy := valL_digit l hn (i + 1)
    have hy := small_getD hn (i + 1)
    have hus := unshift_digit (valL l) i k (by omega)
    have hmn := mod_next (valL l / 2 ^ k) i
    have hxg : l.getD i 0 = l[i]'(by omega) := by simp [show i < l.length by omega]
    rw [hxg] at hdx
    generalize hxx : l[i]'(by omega) = x at hr hx hdx
    have hnn : (0 : Int) ≤ (i : Int) := by omega
    have a0 := wu64n (n := x) (by omega)
    have a7 : IntKind.i64.wrap ((i : Int) + 1) = ((i + 1 : Nat) : Int) := by rw [w64 (by omega) (by omega)]; rfl
    simp -implicitDefEqProofs only [go_sem, Nat.reduceAdd, Nat.reduceSub, Nat.reduceMul, Nat.reduceLT, Nat.reduceLeDiff, Nat.reduceEqDiff, Nat.reduceBEq, Nat.reduceGT, Nat.reduceMod, Nat.reduceDiv, ↓reduceIte, reduceCtorEq, Int.reduceLE, Int.reduceLT, Int.reduceToNat, Int.reduceEq, Int.reduceNeg, Int.reduceAdd, Int.reduceSub, Int.reduceMul, h0, h12, h13, aIndexAddr, hr, hlt, hnn, Nat.mul_one, aConv, a0, e1, a7]
    have hz : valL l / 4294967296 ^ i % (4294967296 * 4294967296) = x + l.getD (i + 1) 0 * 4294967296 := by
      rw [Nat.mod_mul, ← hdx, Nat.div_div_eq_div_mul, ← Nat.pow_succ, ← hdy, Nat.mul_comm 4294967296]
    rw [hz] at hus
    generalize l.getD (i + 1) 0 = y at *
    generalize hyz : x + y * 4294967296 = z at hus
    refine ax_mid (fun s T' => T' = T ∧ s 0 = .slice (some ⟨b, i0, none⟩) l.length cp ∧ s 1 = .int .i64 (k : Nat) ∧ s 5 = .slice (some ⟨H.length, 0, none⟩) l.length l.length ∧ s 12 = .int .i64 (l.length : Nat) ∧ s 13 = .int .i64 (i : Nat) ∧ s 6 = .int .i64 (i : Nat) ∧
      s 7 = .int .u64 (z : Nat)) ?_ ?_
    · refine ax_cond2 ?_
      simp only [ev_tmp, ev_const, ev_func, upd_at, put_some, put_none, bndB_bool, Nat.reduceEqDiff, if_true, if_false, ↓reduceIte, reduceCtorEq]
      refine ⟨fun hc0 => have hi1 := of_decide_eq_true hc0; ?_, fun hc0 => have hi1 := of_decide_eq_false hc0; ?_⟩
      · have hr2 := (hL.ext hE).rd (k := i + 1) (by omega)
        have hyg : l.getD (i + 1) 0 = l[i + 1]'(by omega) := by simp [show i + 1 < l.length by omega]
        have hyy : l[i + 1]'(by omega) = y := by rw [← hyg, valL_digit l hn]; exact hdy.symm
        rw [hyy] at hr2
        have a2 := wu64n (n := y) (by omega)
        have a3 : IntKind.u64.wrap ((y : Int) * 2 ^ 32) = ((y * 2 ^ 32 : Nat) : Int) := by
          rw [show ((y : Int) * 2 ^ 32) = ((y * 2 ^ 32 : Nat) : Int) by simp, wu64n (by omega)]
        have a4 := or_u64 (a := x) (b := y * 2 ^ 32) (by omega) (by omega)
        have a5 : x ||| y * 2 ^ 32 = z := by rw [or_add (by omega), ← hyz]
        rw [a5] at a4
        have hnn2 : (0 : Int) ≤ ((i + 1 : Nat) : Int) := by omega
        have h32 : ¬ ((32 : Int) < 0) := by omega
        simp -implicitDefEqProofs only [go_sem, Nat.reduceAdd, Nat.reduceSub, Nat.reduceMul, Nat.reduceLT, Nat.reduceLeDiff, Nat.reduceEqDiff, Nat.reduceBEq, Nat.reduceGT, Nat.reduceMod, Nat.reduceDiv, ↓reduceIte, reduceCtorEq, Int.reduceLE, Int.reduceLT, Int.reduceToNat, Int.reduceEq, Int.reduceNeg, Int.reduceAdd, Int.reduceSub, Int.reduceMul, h0, h1, h5, h12, h13, aIndexAddr, hr2, hi1, hnn2, Nat.mul_one, aConv, a7, a2, a3, a4, h32, min_lit32]
      · have : y = 0 := by
          rw [hdy, ← valL_digit l hn]; simp [show l.length ≤ i + 1 by omega]
        have hzx : z = x := by omega
        subst hzx
        simp -implicitDefEqProofs only [go_sem, Nat.reduceAdd, Nat.reduceSub, Nat.reduceMul, Nat.reduceLT, Nat.reduceLeDiff, Nat.reduceEqDiff, Nat.reduceBEq, Nat.reduceGT, Nat.reduceMod, Nat.reduceDiv, ↓reduceIte, reduceCtorEq, Int.reduceLE, Int.reduceLT, Int.reduceToNat, Int.reduceEq, Int.reduceNeg, Int.reduceAdd, Int.reduceSub, Int.reduceMul, h0, h1, h5, h12, h13]
    clear h0 h1 h5 h12 h13
    rintro s T' ⟨rfl, h0, h1, h5, h12, h13, h6, h7⟩
    have hzl : z < 18446744073709551616 := by omega
    have hk0 : ¬ ((k : Int) < 0) := by omega
    have hmin : min k 64 = k := by omega
    have b1 := fdiv_pow z k
    have b2 := low_u32 (z / 2 ^ k)
    have hq : z / 2 ^ k % 4294967296 < 4294967296 := Nat.mod_lt _ (by decide)
    rw [hus] at b2 hq
    rw [← hus] at hmn
    rw [hus] at hmn
    generalize valL l / 2 ^ k / 4294967296 ^ i % 4294967296 = d at *
    have hw := hrow.wr (j := i) (x := d) (by omega)
    simp -implicitDefEqProofs only [go_sem, Nat.reduceAdd, Nat.reduceSub, Nat.reduceMul, Nat.reduceLT, Nat.reduceLeDiff, Nat.reduceEqDiff, Nat.reduceBEq, Nat.reduceGT, Nat.reduceMod, Nat.reduceDiv, ↓reduceIte, reduceCtorEq, Int.reduceLE, Int.reduceLT, Int.reduceToNat, Int.reduceEq, Int.reduceNeg, Int.reduceAdd, Int.reduceSub, Int.reduceMul, h0, h1, h5, h6, h7, h12, h13, aIndexAddr, hlt, hnn, Nat.mul_one, aConv, hk0, hmin, b1, b2, hw, a7]
    refine ⟨i + 1, ⟨o.set i d, ?_⟩, by omega⟩
    refine ⟨rfl, by omega, by simpa using ho, small_set hs hq, ?_, hrow.set, hE.set (Nat.le_refl _) _⟩
    rw [valL_take_set (by omega), hval, hmn]
  · have hil : i = l.length := by omega
    subst hil
    have hlim := (hrow.at (c := l.length) l.length (.inr (Nat.le_refl _)) (by omega) (by omega)).lim
    rw [← ho, List.take_length] at hlim
    obtain ⟨u, htr, hlu⟩ := trim_sim hlim
    simp -implicitDefEqProofs only [go_sem, Nat.reduceAdd, Nat.reduceSub, Nat.reduceMul, Nat.reduceLT, Nat.reduceLeDiff, Nat.reduceEqDiff, Nat.reduceBEq, Nat.reduceGT, Nat.reduceMod, Nat.reduceDiv, ↓reduceIte, reduceCtorEq, Int.reduceLE, Int.reduceLT, Int.reduceToNat, Int.reduceEq, Int.reduceNeg, Int.reduceAdd, Int.reduceSub, Int.reduceMul, h5]
    rw [ho] at htr
    refine wl_callF #[_] (by simp -implicitDefEqProofs only [go_sem, Nat.reduceAdd, Nat.reduceSub, Nat.reduceMul, Nat.reduceLT, Nat.reduceLeDiff, Nat.reduceEqDiff, Nat.reduceBEq, Nat.reduceGT, Nat.reduceMod, Nat.reduceDiv, ↓reduceIte, reduceCtorEq, Int.reduceLE, Int.reduceLT, Int.reduceToNat, Int.reduceEq, Int.reduceNeg, Int.reduceAdd, Int.reduceSub, Int.reduceMul]) htr (fun h => by cases h) ?_
    simp -implicitDefEqProofs only [go_sem, Nat.reduceAdd, Nat.reduceSub, Nat.reduceMul, Nat.reduceLT, Nat.reduceLeDiff, Nat.reduceEqDiff, Nat.reduceBEq, Nat.reduceGT, Nat.reduceMod, Nat.reduceDiv, ↓reduceIte, reduceCtorEq, Int.reduceLE, Int.reduceLT, Int.reduceToNat, Int.reduceEq, Int.reduceNeg, Int.reduceAdd, Int.reduceSub, Int.reduceMul, res266]
    rw [← ho, List.take_length, ho] at hval
    have hcn := Canl.of_trim hs
    have hlt2 : valL l / 2 ^ k < 4294967296 ^ l.length := Nat.lt_of_le_of_lt (Nat.div_le_self _ _) (valL_lt hn)
    rw [hval, Nat.mod_eq_of_lt hlt2] at hcn
    exact ⟨hE, _, hlu, hcn⟩
end Go.Proofs.YthhmkaikopdmjaaGreat
